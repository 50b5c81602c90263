/- Texts of this claim put together: GBase, GChartSide, GChartFmay, HSum, HTidyPure, HJSum, GCmpFisNaNFuint64, GCmpCompareFuint64, GJournalForder, GJournalFof, GJournalFmay, GChartStandard, GSlicesReverseFbyteFbyte, GTallyNum, GTallyInt, GEq113, GQuittanceref20SameLines, HTidyLaw, GQuittanceref19Side. -/
import Derived.Test.YtaoejonkiikhmaaProg
import Derived.Below
import Derived.Deep.Draws
import Derived.Deep.AppendLies
import Derived.Maps.AppendAt
import Derived.OwnWalk
import Derived.Laws.BytesArg
import Derived.Laws.MakeOwn
import Derived.Laws.OwnMore
import Derived.Deep.OwnRows
import Derived.Tactics
import Derived.Lib.ConvBytes
import Derived.Laws.Slices
import Derived.WalkKit
import Derived.KernelRfl
import Derived.RowKit3
import Derived.Deep.LoopGhost
import Derived.Deep.QuietTactic
import Derived.BigQuiet
import Derived.WideLaws
import Derived.Deep.DeepCutAuto
import Derived.Deep.CutBlock
import Derived.Deep.RegionHeld3
import Derived.Laws.Rows
import Derived.Lib.AppendStr
import Derived.ArgAppend
import Derived.Laws.IdiomCopy
import Derived.OrdersHeld
import Derived.Laws.BitsLemmas
import Derived.RowKit
import Derived.Test.YtaoejonkiikhmaaWWords
import Derived.Test.YtaoejonkiikhmaaWLast
import Derived.Test.YtaoejonkiikhmaaWTab
import Derived.Test.YtaoejonkiikhmaaWQPut
import Derived.Test.YtaoejonkiikhmaaWApart
import Derived.Test.YtaoejonkiikhmaaWArr
import Derived.Test.YtaoejonkiikhmaaWZeros
import Derived.Test.YtaoejonkiikhmaaWFoot
import Derived.Test.YtaoejonkiikhmaaWKept
import Derived.Test.YtaoejonkiikhmaaWShare
import Derived.Test.YtaoejonkiikhmaaWN
import Derived.Test.YtaoejonkiikhmaaWEqStruct
import Derived.Test.YtaoejonkiikhmaaWRepsOne
import Derived.Test.YtaoejonkiikhmaaWInv
import Derived.Test.YtaoejonkiikhmaaWGuard
import Derived.Test.YtaoejonkiikhmaaWNEv
import Derived.Test.YtaoejonkiikhmaaWMore
import Derived.Laws.Externs

-- Text by a program of this session (gprint.py), over the kit's print.
namespace Go.Proofs.Ytaoejonkiikhmaa.G
open Go.RowKit Go.Proofs.YtaoejonkiikhmaaW.PrintWords Go.Proofs.YtaoejonkiikhmaaW.PrintLast Go.Proofs.YtaoejonkiikhmaaW.PrintMore
attribute [local go_sem] max2_int min2_int max_two min_two max_three min_three max_four min_four   -- for this text's walks alone
set_option linter.unusedVariables false
set_option linter.unusedSimpArgs false

def errW : Option Int → Value
  | none => .nilIface
  | some c => .iface 0 (.int .i64 c)
theorem errW_none : errW none = .nilIface := rfl
theorem errW_some (c : Int) : errW (some c) = .iface 0 (.int .i64 c) := rfl

theorem info2 : (Try.prog.info? 2).map (fun i => (i.zero, i.size, i.bytes)) = some (some (.int .i64 0), 1, 8) := by kernel_rfl
theorem info3 : (Try.prog.info? 3).map (fun i => (i.zero, i.size, i.bytes)) = some (some (.int .i64 0), 1, 8) := by kernel_rfl
theorem info5 : (Try.prog.info? 5).map (fun i => (i.zero, i.size, i.bytes)) = some (some (.int .u8 0), 1, 1) := by kernel_rfl
theorem info113 : (Try.prog.info? 113).map (fun i => (i.zero, i.size, i.bytes)) = some (some (.agg #[(.int .i64 0), (.int .u64 0), (.int .u64 0), (.int .i64 0)]), 4, 32) := by kernel_rfl
/-! #### struct type 113 -/
structure S113 where
  f0 : Int
  f1 : Int
  f2 : Int
  f3 : Int
def z113 : S113 := ⟨(0 : Int), (0 : Int), (0 : Int), (0 : Int)⟩
def k113 : Kd S113 := Kd.iso (Kd.pair (Kd.int .i64) (Kd.pair (Kd.int .u64) (Kd.pair (Kd.int .u64) (Kd.int .i64)))) (fun x : S113 => (x.f0, x.f1, x.f2, x.f3))
theorem k113_open {w : World} {x : S113} {cs : List Value} (h : k113.K w x cs) : cs = [.int .i64 x.f0, .int .u64 x.f1, .int .u64 x.f2, .int .i64 x.f3] := by
  obtain ⟨_, _, rfl, rfl, ⟨_, _, rfl, rfl, ⟨_, _, rfl, rfl, rfl⟩⟩⟩ := h
  exact rfl
theorem k113_openM {w : World} {base : Nat} {ok : Nat → Prop} {x : S113} {cs : List Value} (h : k113.M w base ok x cs) : cs = [.int .i64 x.f0, .int .u64 x.f1, .int .u64 x.f2, .int .i64 x.f3] := by
  obtain ⟨_, _, rfl, rfl, ⟨_, _, rfl, rfl, ⟨_, _, rfl, rfl, rfl⟩⟩⟩ := h
  exact rfl
theorem k113_mk (w : World) (x : S113)  : k113.K w x [.int .i64 x.f0, .int .u64 x.f1, .int .u64 x.f2, .int .i64 x.f3] := ⟨[.int .i64 x.f0], [.int .u64 x.f1, .int .u64 x.f2, .int .i64 x.f3], rfl, rfl, ⟨[.int .u64 x.f1], [.int .u64 x.f2, .int .i64 x.f3], rfl, rfl, ⟨[.int .u64 x.f2], [.int .i64 x.f3], rfl, rfl, rfl⟩⟩⟩
theorem k113_mkM (w : World) (base : Nat) (ok : Nat → Prop) (x : S113)  : k113.M w base ok x [.int .i64 x.f0, .int .u64 x.f1, .int .u64 x.f2, .int .i64 x.f3] := ⟨[.int .i64 x.f0], [.int .u64 x.f1, .int .u64 x.f2, .int .i64 x.f3], rfl, rfl, ⟨[.int .u64 x.f1], [.int .u64 x.f2, .int .i64 x.f3], rfl, rfl, ⟨[.int .u64 x.f2], [.int .i64 x.f3], rfl, rfl, rfl⟩⟩⟩
def rd_T113 (xs : List S113) (i : Int) : S113 := xs.getD i.toNat z113
theorem at_T113 {w : World} {A : Option Addr} {n : Nat} {xs : List S113} (h : Kd.C k113 w A n xs) (i : Int) (h0 : 0 ≤ i) (h1 : i < n) : ∃ ad , A = some ad ∧ w.cell? (ad.add (i.toNat * 4)) = some (.int .i64 (rd_T113 xs i).f0) ∧ w.cell? ⟨(ad.add (i.toNat * 4)).block, (ad.add (i.toNat * 4)).off + 1, none⟩ = some (.int .u64 (rd_T113 xs i).f1) ∧ w.cell? ⟨(ad.add (i.toNat * 4)).block, (ad.add (i.toNat * 4)).off + 2, none⟩ = some (.int .u64 (rd_T113 xs i).f2) ∧ w.cell? ⟨(ad.add (i.toNat * 4)).block, (ad.add (i.toNat * 4)).off + 3, none⟩ = some (.int .i64 (rd_T113 xs i).f3) := by
  obtain ⟨ad, c, e, _, hK, hc0⟩ := Kd.C_get h z113 i h0 h1
  have hc : ∀ j u, c[j]? = some u → w.cell? (ad.add (i.toNat * 4 + j)) = some u := hc0
  obtain rfl := k113_open hK
  exact ⟨ad, e, hc 0 _ rfl, by rw [← add_field _ _ 1 (by omega)]; exact hc 1 _ rfl, by rw [← add_field _ _ 2 (by omega)]; exact hc 2 _ rfl, by rw [← add_field _ _ 3 (by omega)]; exact hc 3 _ rfl⟩

/-! #### struct type 32 -/
structure S32 where
  f0 : Int
  f1 : Int
  f2 : Int
  f3 : (List S113)
def z32 : S32 := ⟨(0 : Int), (0 : Int), (0 : Int), ([] : List S113)⟩
def k32 : Kd S32 := Kd.iso (Kd.pair (Kd.int .i64) (Kd.pair (Kd.int .u8) (Kd.pair (Kd.int .u64) (Kd.slice 113 k113)))) (fun x : S32 => (x.f0, x.f1, x.f2, x.f3))
theorem k32_open {w : World} {x : S32} {cs : List Value} (h : k32.K w x cs) : ∃ A3 c3, cs = [.int .i64 x.f0, .int .u8 x.f1, .int .u64 x.f2, .slice A3 x.f3.length c3] ∧ x.f3.length ≤ c3 ∧ k113.C w A3 x.f3.length x.f3 := by
  obtain ⟨_, _, rfl, rfl, ⟨_, _, rfl, rfl, ⟨_, _, rfl, rfl, ⟨A3, c3, rfl, l3, g3⟩⟩⟩⟩ := h
  exact ⟨A3, c3, rfl, l3, g3⟩
/-! #### struct type 277 -/
/-! #### struct type 154 -/
/-! #### struct type 367 -/
/-! #### struct type 354 -/
/-! #### struct type 356 -/
/-! #### struct type 358 -/
/-! #### struct type 360 -/
/-! #### struct type 362 -/
/-! #### struct type 26 -/
structure S26 where
  f0 : Int
  f1 : Int
  f2 : Int
  f3 : Int
  f4 : Int
  f5 : Int
  f6 : Int
  f7 : Int
  f8 : Int
  f9 : Int
  f10 : Int
def z26 : S26 := ⟨(0 : Int), (0 : Int), (0 : Int), (0 : Int), (0 : Int), (0 : Int), (0 : Int), (0 : Int), (0 : Int), (0 : Int), (0 : Int)⟩
/-! #### struct type 24 -/
structure S24 where
  f0 : Int
  f1 : Int
  f2 : Int
  f3 : Int
  f4 : ByteArray
def z24 : S24 := ⟨(0 : Int), (0 : Int), (0 : Int), (0 : Int), (⟨#[]⟩ : ByteArray)⟩
/-! #### struct type 64 -/
structure S64 where
  f0 : Int
  f1 : Int
  f2 : Int
  f3 : Int
  f4 : Int
  f5 : Int
def z64 : S64 := ⟨(0 : Int), (0 : Int), (0 : Int), (0 : Int), (0 : Int), (0 : Int)⟩
/-! #### struct type 76 -/
structure S76 where
  f0 : Int
  f1 : Int
  f2 : Int
def z76 : S76 := ⟨(0 : Int), (0 : Int), (0 : Int)⟩
/-! #### struct type 364 -/
/-! #### struct type 156 -/
/-! #### struct type 102 -/
/-! #### struct type 121 -/
structure S121 where
  f0 : Int
  f1 : Int
  f2 : Int
  f3 : ByteArray
  f4 : Bool
def z121 : S121 := ⟨(0 : Int), (0 : Int), (0 : Int), (⟨#[]⟩ : ByteArray), false⟩
def k121 : Kd S121 := Kd.iso (Kd.pair (Kd.int .i64) (Kd.pair (Kd.int .i64) (Kd.pair (Kd.int .u8) (Kd.pair Kd.string Kd.bool)))) (fun x : S121 => (x.f0, x.f1, x.f2, x.f3, x.f4))
theorem k121_open {w : World} {x : S121} {cs : List Value} (h : k121.K w x cs) : cs = [.int .i64 x.f0, .int .i64 x.f1, .int .u8 x.f2, .string x.f3, .bool x.f4] := by
  obtain ⟨_, _, rfl, rfl, ⟨_, _, rfl, rfl, ⟨_, _, rfl, rfl, ⟨_, _, rfl, rfl, rfl⟩⟩⟩⟩ := h
  exact rfl
theorem k121_mk (w : World) (x : S121)  : k121.K w x [.int .i64 x.f0, .int .i64 x.f1, .int .u8 x.f2, .string x.f3, .bool x.f4] := ⟨[.int .i64 x.f0], [.int .i64 x.f1, .int .u8 x.f2, .string x.f3, .bool x.f4], rfl, rfl, ⟨[.int .i64 x.f1], [.int .u8 x.f2, .string x.f3, .bool x.f4], rfl, rfl, ⟨[.int .u8 x.f2], [.string x.f3, .bool x.f4], rfl, rfl, ⟨[.string x.f3], [.bool x.f4], rfl, rfl, rfl⟩⟩⟩⟩
theorem k121_mkM (w : World) (base : Nat) (ok : Nat → Prop) (x : S121)  : k121.M w base ok x [.int .i64 x.f0, .int .i64 x.f1, .int .u8 x.f2, .string x.f3, .bool x.f4] := ⟨[.int .i64 x.f0], [.int .i64 x.f1, .int .u8 x.f2, .string x.f3, .bool x.f4], rfl, rfl, ⟨[.int .i64 x.f1], [.int .u8 x.f2, .string x.f3, .bool x.f4], rfl, rfl, ⟨[.int .u8 x.f2], [.string x.f3, .bool x.f4], rfl, rfl, ⟨[.string x.f3], [.bool x.f4], rfl, rfl, rfl⟩⟩⟩⟩
def rd_T121 (xs : List S121) (i : Int) : S121 := xs.getD i.toNat z121
theorem at_T121 {w : World} {A : Option Addr} {n : Nat} {xs : List S121} (h : Kd.C k121 w A n xs) (i : Int) (h0 : 0 ≤ i) (h1 : i < n) : ∃ ad , A = some ad ∧ w.cell? (ad.add (i.toNat * 5)) = some (.int .i64 (rd_T121 xs i).f0) ∧ w.cell? ⟨(ad.add (i.toNat * 5)).block, (ad.add (i.toNat * 5)).off + 1, none⟩ = some (.int .i64 (rd_T121 xs i).f1) ∧ w.cell? ⟨(ad.add (i.toNat * 5)).block, (ad.add (i.toNat * 5)).off + 2, none⟩ = some (.int .u8 (rd_T121 xs i).f2) ∧ w.cell? ⟨(ad.add (i.toNat * 5)).block, (ad.add (i.toNat * 5)).off + 3, none⟩ = some (.string (rd_T121 xs i).f3) ∧ w.cell? ⟨(ad.add (i.toNat * 5)).block, (ad.add (i.toNat * 5)).off + 4, none⟩ = some (.bool (rd_T121 xs i).f4) := by
  obtain ⟨ad, c, e, _, hK, hc0⟩ := Kd.C_get h z121 i h0 h1
  have hc : ∀ j u, c[j]? = some u → w.cell? (ad.add (i.toNat * 5 + j)) = some u := hc0
  obtain rfl := k121_open hK
  exact ⟨ad, e, hc 0 _ rfl, by rw [← add_field _ _ 1 (by omega)]; exact hc 1 _ rfl, by rw [← add_field _ _ 2 (by omega)]; exact hc 2 _ rfl, by rw [← add_field _ _ 3 (by omega)]; exact hc 3 _ rfl, by rw [← add_field _ _ 4 (by omega)]; exact hc 4 _ rfl⟩

end Go.Proofs.Ytaoejonkiikhmaa.G

-- Text by a program of this session (gprint.py), over the kit's print.
namespace Go.Proofs.Ytaoejonkiikhmaa.G
open Go.RowKit Go.Proofs.YtaoejonkiikhmaaW.PrintWords Go.Proofs.YtaoejonkiikhmaaW.PrintLast Go.Proofs.YtaoejonkiikhmaaW.PrintMore
attribute [local go_sem] max2_int min2_int max_two min_two max_three min_three max_four min_four   -- for this text's walks alone
set_option linter.unusedVariables false
set_option linter.unusedSimpArgs false

/-! ### chart_Side: function 201 -/
mutual
def chart_Side.j0 : Nat → Int → Bool → Option (Int)
  | 0, _, _ => none
  | k + 1, x3, x4 => if x4 = true then (some 1) else (if x3 = 2 then (chart_Side.j1 k (x3 == 2)) else (if x3 = 3 then (chart_Side.j1 k (x3 == 3)) else (chart_Side.j1 k (x3 == 5))))
def chart_Side.j1 : Nat → Bool → Option (Int)
  | 0, _ => none
  | k + 1, x7 => if x7 = true then (some (-1)) else (some 0)
end
def chart_Side.f (k : Nat) (a0 : Int) : Option (Int) := if a0 = 1 then (chart_Side.j0 k a0 (a0 == 1)) else (chart_Side.j0 k a0 (a0 == 4))
set_option maxHeartbeats 8000000 in
set_option maxRecDepth 100000 in
theorem chart_Side.calls (k : Nat) (a0 : Int) (r : Int) (w : World) (h : chart_Side.f k a0 = some r) :
    Calls Try.prog 201 #[.int .u8 a0] w fun e w' => e = .returned (.int .i64 r) ∧ Drawn0 w w' := by
  have H : (if a0 = 1 then (chart_Side.j0 k a0 (a0 == 1)) else (chart_Side.j0 k a0 (a0 == 4))) = some r := h
  clear h
  have HC2 := Aside0.mk H
  clear H
  go_enter Try.func201, Try.ntmps201
  go_upto_if 4 with (fail)
  go_cut [4] (fun v4 wc => ∃ (kq : Nat) (x4_1 : Bool), v4 = .bool x4_1 ∧ Aside0 (chart_Side.j0 kq a0 x4_1 = some r) ∧ Aside0 (kq ≤ k) ∧ Drawn0 w wc)
  case first =>
    have H := HC2.out
    clear HC2
    by_cases c3 : a0 = 1
    · rw [if_pos c3] at H
      have c3b0 : (a0 == 1) = true := beq_iff_eq.mpr c3
      have c3b1 : (a0 != 1) = false := bne_eq_false_iff_eq.mpr c3
      clear c3
      (first | rw [c3b0] | (simp only [i64_w, i32_w]; rw [c3b0]) | skip)
      have H' := Aside0.mk H
      clear H
      go_wp2
      go_meet
      case rel => exact ⟨_, ((a0 == 1)), (by first | rfl | (simp; done) | (simp [*]; done)), H', ⟨by first | omega | exact Nat.le_refl _⟩, by repeat (first | exact Drawn0.refl _ | apply Drawn0.step)⟩
    · rw [if_neg c3] at H
      have c3b0 : (a0 == 1) = false := beq_eq_false_iff_ne.mpr c3
      have c3b1 : (a0 != 1) = true := bne_iff_ne.mpr c3
      (first | rw [c3b0] | (simp only [i64_w, i32_w]; rw [c3b0]) | skip)
      have H' := Aside0.mk H
      clear H
      go_wp2
      go_meet
      case rel => exact ⟨_, ((a0 == 4)), (by first | rfl | (simp; done) | (simp [*]; done)), H', ⟨by first | omega | exact Nat.le_refl _⟩, by repeat (first | exact Drawn0.refl _ | apply Drawn0.step)⟩
  case rest =>
    clear HC2
    try clear c2
    try clear p2
    try clear c3
    try clear c3b0
    try clear c3b1
    obtain ⟨kq, x4_1, rfl, HA, HJ1, ⟨mc1, rfl⟩⟩ := hcut
    cases kq with
    | zero => exact absurd HA.out (by simp [chart_Side.j0])
    | succ kj1 =>
      have H := HA.out
      clear HA
      simp only [chart_Side.j0] at H
      by_cases c4 : x4_1 = true
      · subst c4
        have H1 : (some 1) = some r := by rw [if_pos rfl] at H; exact H
        clear H
        have H := H1
        clear H1
        obtain rfl := Option.some.inj H
        go_wp2
        go_ret
        exact ⟨by first | rfl | (simp; done) | (simp [*]; done), by repeat (first | exact Drawn0.refl _ | apply Drawn0.step)⟩
      · replace c4 := Bool.eq_false_iff.mpr c4
        subst c4
        have H1 : (if a0 = 2 then (chart_Side.j1 kj1 (a0 == 2)) else (if a0 = 3 then (chart_Side.j1 kj1 (a0 == 3)) else (chart_Side.j1 kj1 (a0 == 5)))) = some r := by rw [if_neg (show ¬ (false = true) by decide)] at H; exact H
        clear H
        have H := H1
        clear H1
        have HC5 := Aside0.mk H
        clear H
        go_upto_if 7 with (fail)
        go_cut [7] (fun v7 wc => ∃ (kq : Nat) (x7_4 : Bool), v7 = .bool x7_4 ∧ Aside0 (chart_Side.j1 kq x7_4 = some r) ∧ Aside0 (kq ≤ kj1) ∧ Drawn0 w wc)
        case first =>
          have H := HC5.out
          clear HC5
          by_cases c6 : a0 = 2
          · rw [if_pos c6] at H
            have c6b0 : (a0 == 2) = true := beq_iff_eq.mpr c6
            have c6b1 : (a0 != 2) = false := bne_eq_false_iff_eq.mpr c6
            clear c6
            (first | rw [c6b0] | (simp only [i64_w, i32_w]; rw [c6b0]) | skip)
            have H' := Aside0.mk H
            clear H
            go_wp2
            go_meet
            case rel => exact ⟨_, ((a0 == 2)), (by first | rfl | (simp; done) | (simp [*]; done)), H', ⟨by have := HJ1.out; first | omega | exact Nat.le_refl _⟩, by repeat (first | exact Drawn0.refl _ | apply Drawn0.step)⟩
          · rw [if_neg c6] at H
            have c6b0 : (a0 == 2) = false := beq_eq_false_iff_ne.mpr c6
            have c6b1 : (a0 != 2) = true := bne_iff_ne.mpr c6
            (first | rw [c6b0] | (simp only [i64_w, i32_w]; rw [c6b0]) | skip)
            by_cases c7 : a0 = 3
            · rw [if_pos c7] at H
              have c7b0 : (a0 == 3) = true := beq_iff_eq.mpr c7
              have c7b1 : (a0 != 3) = false := bne_eq_false_iff_eq.mpr c7
              clear c7
              have H' := Aside0.mk H
              clear H
              go_wp2
              go_meet
              case rel => exact ⟨_, ((a0 == 3)), (by first | rfl | (simp; done) | (simp [*]; done)), H', ⟨by have := HJ1.out; first | omega | exact Nat.le_refl _⟩, by repeat (first | exact Drawn0.refl _ | apply Drawn0.step)⟩
            · rw [if_neg c7] at H
              have c7b0 : (a0 == 3) = false := beq_eq_false_iff_ne.mpr c7
              have c7b1 : (a0 != 3) = true := bne_iff_ne.mpr c7
              have H' := Aside0.mk H
              clear H
              go_wp2
              go_meet
              case rel => exact ⟨_, ((a0 == 5)), (by first | rfl | (simp; done) | (simp [*]; done)), H', ⟨by have := HJ1.out; first | omega | exact Nat.le_refl _⟩, by repeat (first | exact Drawn0.refl _ | apply Drawn0.step)⟩
        case rest =>
          clear HC5
          try clear c1
          try clear c2
          try clear p2
          try clear c3
          try clear c3b0
          try clear c3b1
          try clear c4
          try clear c6
          try clear c6b0
          try clear c6b1
          try clear c7
          try clear c7b0
          try clear c7b1
          try clear p2
          obtain ⟨kq, x7_4, rfl, HA, HJ4, ⟨mc4, rfl⟩⟩ := hcut
          cases kq with
          | zero => exact absurd HA.out (by simp [chart_Side.j1])
          | succ kj4 =>
            have H := HA.out
            clear HA
            simp only [chart_Side.j1] at H
            by_cases c8 : x7_4 = true
            · subst c8
              have H1 : (some (-1)) = some r := by rw [if_pos rfl] at H; exact H
              clear H
              have H := H1
              clear H1
              obtain rfl := Option.some.inj H
              go_wp2
              go_ret
              exact ⟨by first | rfl | (simp; done) | (simp [*]; done), by repeat (first | exact Drawn0.refl _ | apply Drawn0.step)⟩
            · replace c8 := Bool.eq_false_iff.mpr c8
              subst c8
              have H1 : (some 0) = some r := by rw [if_neg (show ¬ (false = true) by decide)] at H; exact H
              clear H
              have H := H1
              clear H1
              obtain rfl := Option.some.inj H
              go_wp2
              go_ret
              exact ⟨by first | rfl | (simp; done) | (simp [*]; done), by repeat (first | exact Drawn0.refl _ | apply Drawn0.step)⟩

end Go.Proofs.Ytaoejonkiikhmaa.G

-- Text by a program of this session (gprint.py), over the kit's print.
namespace Go.Proofs.Ytaoejonkiikhmaa.G
open Go.RowKit Go.Proofs.YtaoejonkiikhmaaW.PrintWords Go.Proofs.YtaoejonkiikhmaaW.PrintLast Go.Proofs.YtaoejonkiikhmaaW.PrintMore
attribute [local go_sem] max2_int min2_int max_two min_two max_three min_three max_four min_four   -- for this text's walks alone
set_option linter.unusedVariables false
set_option linter.unusedSimpArgs false

/-! ### chart_may: function 166 -/
def chart_may.f (k : Nat) (a0_0 : Int) (a0_1 : Int) (a0_2 : Int) (a0_3 : ByteArray) (a0_4 : Bool) : Option (Bool) := if a0_0 ≥ 1 then (if a0_0 ≤ 9999 then ((chart_Side.f k a0_2).bind fun t1065 => (if t1065 = 0 then (some false) else (if (a0_3.size : Int) ≥ 1 then (if (a0_3.size : Int) ≤ 60 then (some (!a0_4)) else (some false)) else (some false)))) else (some false)) else (some false)
set_option maxHeartbeats 8000000 in
set_option maxRecDepth 100000 in
theorem chart_may.calls (k : Nat) (a0_0 : Int) (a0_1 : Int) (a0_2 : Int) (a0_3 : ByteArray) (a0_4 : Bool) (r : Bool) (w : World) (h : chart_may.f k a0_0 a0_1 a0_2 a0_3 a0_4 = some r) :
    Calls Try.prog 166 #[.agg #[.int .i64 a0_0, .int .i64 a0_1, .int .u8 a0_2, .string a0_3, .bool a0_4]] w fun e w' => e = .returned (.bool r) ∧ Below w.heap.size w w' := by
  have hu121 := Try.underlying121
  have HB := Aside0.mk (Below.refl w.heap.size w)
  have H : (if a0_0 ≥ 1 then (if a0_0 ≤ 9999 then ((chart_Side.f k a0_2).bind fun t1065 => (if t1065 = 0 then (some false) else (if (a0_3.size : Int) ≥ 1 then (if (a0_3.size : Int) ≤ 60 then (some (!a0_4)) else (some false)) else (some false)))) else (some false)) else (some false)) = some r := h
  clear h
  by_cases c2 : a0_0 ≥ 1
  · rw [if_pos c2] at H
    have c2b0 : decide (1 ≤ a0_0) = true := decide_eq_true c2
    clear c2
    by_cases c3 : a0_0 ≤ 9999
    · rw [if_pos c3] at H
      have c3b0 : decide (a0_0 ≤ 9999) = true := decide_eq_true c3
      clear c3
      replace H := Option.bind_eq_some_iff.mp H
      obtain ⟨t1065, A40, H⟩ := H
      replace H : (if t1065 = 0 then (some false) else (if (a0_3.size : Int) ≥ 1 then (if (a0_3.size : Int) ≤ 60 then (some (!a0_4)) else (some false)) else (some false))) = some r := H
      have A4 := Aside0.mk A40
      clear A40
      by_cases c5 : t1065 = 0
      · rw [if_pos c5] at H
        have c5b0 : (t1065 == 0) = true := beq_iff_eq.mpr c5
        have c5b1 : (t1065 != 0) = false := bne_eq_false_iff_eq.mpr c5
        clear c5
        obtain rfl := Option.some.inj H
        go_enter Try.func166, Try.ntmps166
        go_wp2_with (first | ((with_reducible refine gate_dst (N := 1) rfl ?_); (try (refine gate_guard (by rfl) ?_; dsimp only)); refine box_event ?hg (N := 1) ?hd (cs := #[.int .i64 a0_0, .int .i64 a0_1, .int .u8 a0_2, .string a0_3, .bool a0_4]) (t := 121) ?hr ?_; (case hd => rfl); (case hg => rfl); (case hr => first | (go_simp; done) | (go_simp; rfl)); intro gb1064 hg w6 hbox hb; have n0_ := Aside0.mk (below_step (by repeat (first | (with_reducible first | exact HB.out | apply below_alloc | apply pw_below_drewN | apply below_drew1) | exact HB.out)) hb); have n1_ := Aside0.mk (hbox); have n2_ := Aside0.mk ((by rw [hg]; exact (below_size (by repeat (first | (with_reducible first | exact HB.out | apply below_alloc | apply pw_below_drewN | apply below_drew1) | exact HB.out))) : w.heap.size ≤ gb1064)); have n3_ := Aside0.mk ((by rw [hg]; exact (below_size (by repeat (first | (with_reducible first | exact HB.out | apply below_alloc | apply pw_below_drewN | apply below_drew1) | exact HB.out))) : w.heap.size ≤ gb1064)); clear HB; have HB := n0_; have BK1064 := n1_; have GW1064 := n2_; have GE1064 := n3_; clear n0_ n1_ n2_ n3_; clear hb hbox hg; have hcz7_0 : w6.cell? ⟨gb1064, 0, none⟩ = some (.int .i64 a0_0) := (blk_cell BK1064.out 0).trans rfl; have hcz7_1 : w6.cell? ⟨gb1064, 1, none⟩ = some (.int .i64 a0_1) := (blk_cell BK1064.out 1).trans rfl; have hcz7_2 : w6.cell? ⟨gb1064, 2, none⟩ = some (.int .u8 a0_2) := (blk_cell BK1064.out 2).trans rfl; have hcz7_3 : w6.cell? ⟨gb1064, 3, none⟩ = some (.string a0_3) := (blk_cell BK1064.out 3).trans rfl; have hcz7_4 : w6.cell? ⟨gb1064, 4, none⟩ = some (.bool a0_4) := (blk_cell BK1064.out 4).trans rfl; have hfz7_0 := blk_frozen BK1064.out 0; have hfz7_1 := blk_frozen BK1064.out 1; have hfz7_2 := blk_frozen BK1064.out 2; have hfz7_3 := blk_frozen BK1064.out 3; have hfz7_4 := blk_frozen BK1064.out 4) | (go_at_call 201; (with_reducible refine (chart_Side.calls k a0_2 t1065 _ A4.out).mono ?_); rintro e w' ⟨rfl, ⟨nd, rfl⟩⟩))
        go_ret
        exact ⟨by first | rfl | (simp [errW_none, errW_some] <;> rfl) | (simp [*, errW_none, errW_some] <;> rfl), by repeat (first | (with_reducible first | exact HB.out | apply below_alloc | apply pw_below_drewN | apply below_drew1 | refine below_set ?_ GE1064.out) | exact HB.out)⟩
      · rw [if_neg c5] at H
        have c5b0 : (t1065 == 0) = false := beq_eq_false_iff_ne.mpr c5
        have c5b1 : (t1065 != 0) = true := bne_iff_ne.mpr c5
        by_cases c8 : (a0_3.size : Int) ≥ 1
        · rw [if_pos c8] at H
          have c8b0 : decide (1 ≤ (a0_3.size : Int)) = true := decide_eq_true c8
          have c8b1 : decide (1 ≤ a0_3.size) = true := decide_eq_true (by omega)
          clear c8
          by_cases c9 : (a0_3.size : Int) ≤ 60
          · rw [if_pos c9] at H
            have c9b0 : decide ((a0_3.size : Int) ≤ 60) = true := decide_eq_true c9
            have c9b1 : decide (a0_3.size ≤ 60) = true := decide_eq_true (by omega)
            clear c9
            obtain rfl := Option.some.inj H
            go_enter Try.func166, Try.ntmps166
            go_wp2_with (first | ((with_reducible refine gate_dst (N := 1) rfl ?_); (try (refine gate_guard (by rfl) ?_; dsimp only)); refine box_event ?hg (N := 1) ?hd (cs := #[.int .i64 a0_0, .int .i64 a0_1, .int .u8 a0_2, .string a0_3, .bool a0_4]) (t := 121) ?hr ?_; (case hd => rfl); (case hg => rfl); (case hr => first | (go_simp; done) | (go_simp; rfl)); intro gb1064 hg w10 hbox hb; have n0_ := Aside0.mk (below_step (by repeat (first | (with_reducible first | exact HB.out | apply below_alloc | apply pw_below_drewN | apply below_drew1) | exact HB.out)) hb); have n1_ := Aside0.mk (hbox); have n2_ := Aside0.mk ((by rw [hg]; exact (below_size (by repeat (first | (with_reducible first | exact HB.out | apply below_alloc | apply pw_below_drewN | apply below_drew1) | exact HB.out))) : w.heap.size ≤ gb1064)); have n3_ := Aside0.mk ((by rw [hg]; exact (below_size (by repeat (first | (with_reducible first | exact HB.out | apply below_alloc | apply pw_below_drewN | apply below_drew1) | exact HB.out))) : w.heap.size ≤ gb1064)); clear HB; have HB := n0_; have BK1064 := n1_; have GW1064 := n2_; have GE1064 := n3_; clear n0_ n1_ n2_ n3_; clear hb hbox hg; have hcz11_0 : w10.cell? ⟨gb1064, 0, none⟩ = some (.int .i64 a0_0) := (blk_cell BK1064.out 0).trans rfl; have hcz11_1 : w10.cell? ⟨gb1064, 1, none⟩ = some (.int .i64 a0_1) := (blk_cell BK1064.out 1).trans rfl; have hcz11_2 : w10.cell? ⟨gb1064, 2, none⟩ = some (.int .u8 a0_2) := (blk_cell BK1064.out 2).trans rfl; have hcz11_3 : w10.cell? ⟨gb1064, 3, none⟩ = some (.string a0_3) := (blk_cell BK1064.out 3).trans rfl; have hcz11_4 : w10.cell? ⟨gb1064, 4, none⟩ = some (.bool a0_4) := (blk_cell BK1064.out 4).trans rfl; have hfz11_0 := blk_frozen BK1064.out 0; have hfz11_1 := blk_frozen BK1064.out 1; have hfz11_2 := blk_frozen BK1064.out 2; have hfz11_3 := blk_frozen BK1064.out 3; have hfz11_4 := blk_frozen BK1064.out 4) | (go_at_call 201; (with_reducible refine (chart_Side.calls k a0_2 t1065 _ A4.out).mono ?_); rintro e w' ⟨rfl, ⟨nd, rfl⟩⟩))
            go_ret
            exact ⟨by first | rfl | (simp [errW_none, errW_some] <;> rfl) | (simp [*, errW_none, errW_some] <;> rfl), by repeat (first | (with_reducible first | exact HB.out | apply below_alloc | apply pw_below_drewN | apply below_drew1 | refine below_set ?_ GE1064.out) | exact HB.out)⟩
          · rw [if_neg c9] at H
            have c9b0 : decide ((a0_3.size : Int) ≤ 60) = false := decide_eq_false c9
            have c9b1 : decide (a0_3.size ≤ 60) = false := decide_eq_false (by omega)
            clear c9
            obtain rfl := Option.some.inj H
            go_enter Try.func166, Try.ntmps166
            go_wp2_with (first | ((with_reducible refine gate_dst (N := 1) rfl ?_); (try (refine gate_guard (by rfl) ?_; dsimp only)); refine box_event ?hg (N := 1) ?hd (cs := #[.int .i64 a0_0, .int .i64 a0_1, .int .u8 a0_2, .string a0_3, .bool a0_4]) (t := 121) ?hr ?_; (case hd => rfl); (case hg => rfl); (case hr => first | (go_simp; done) | (go_simp; rfl)); intro gb1064 hg w12 hbox hb; have n0_ := Aside0.mk (below_step (by repeat (first | (with_reducible first | exact HB.out | apply below_alloc | apply pw_below_drewN | apply below_drew1) | exact HB.out)) hb); have n1_ := Aside0.mk (hbox); have n2_ := Aside0.mk ((by rw [hg]; exact (below_size (by repeat (first | (with_reducible first | exact HB.out | apply below_alloc | apply pw_below_drewN | apply below_drew1) | exact HB.out))) : w.heap.size ≤ gb1064)); have n3_ := Aside0.mk ((by rw [hg]; exact (below_size (by repeat (first | (with_reducible first | exact HB.out | apply below_alloc | apply pw_below_drewN | apply below_drew1) | exact HB.out))) : w.heap.size ≤ gb1064)); clear HB; have HB := n0_; have BK1064 := n1_; have GW1064 := n2_; have GE1064 := n3_; clear n0_ n1_ n2_ n3_; clear hb hbox hg; have hcz13_0 : w12.cell? ⟨gb1064, 0, none⟩ = some (.int .i64 a0_0) := (blk_cell BK1064.out 0).trans rfl; have hcz13_1 : w12.cell? ⟨gb1064, 1, none⟩ = some (.int .i64 a0_1) := (blk_cell BK1064.out 1).trans rfl; have hcz13_2 : w12.cell? ⟨gb1064, 2, none⟩ = some (.int .u8 a0_2) := (blk_cell BK1064.out 2).trans rfl; have hcz13_3 : w12.cell? ⟨gb1064, 3, none⟩ = some (.string a0_3) := (blk_cell BK1064.out 3).trans rfl; have hcz13_4 : w12.cell? ⟨gb1064, 4, none⟩ = some (.bool a0_4) := (blk_cell BK1064.out 4).trans rfl; have hfz13_0 := blk_frozen BK1064.out 0; have hfz13_1 := blk_frozen BK1064.out 1; have hfz13_2 := blk_frozen BK1064.out 2; have hfz13_3 := blk_frozen BK1064.out 3; have hfz13_4 := blk_frozen BK1064.out 4) | (go_at_call 201; (with_reducible refine (chart_Side.calls k a0_2 t1065 _ A4.out).mono ?_); rintro e w' ⟨rfl, ⟨nd, rfl⟩⟩))
            go_ret
            exact ⟨by first | rfl | (simp [errW_none, errW_some] <;> rfl) | (simp [*, errW_none, errW_some] <;> rfl), by repeat (first | (with_reducible first | exact HB.out | apply below_alloc | apply pw_below_drewN | apply below_drew1 | refine below_set ?_ GE1064.out) | exact HB.out)⟩
        · rw [if_neg c8] at H
          have c8b0 : decide (1 ≤ (a0_3.size : Int)) = false := decide_eq_false c8
          have c8b1 : decide (1 ≤ a0_3.size) = false := decide_eq_false (by omega)
          clear c8
          obtain rfl := Option.some.inj H
          go_enter Try.func166, Try.ntmps166
          go_wp2_with (first | ((with_reducible refine gate_dst (N := 1) rfl ?_); (try (refine gate_guard (by rfl) ?_; dsimp only)); refine box_event ?hg (N := 1) ?hd (cs := #[.int .i64 a0_0, .int .i64 a0_1, .int .u8 a0_2, .string a0_3, .bool a0_4]) (t := 121) ?hr ?_; (case hd => rfl); (case hg => rfl); (case hr => first | (go_simp; done) | (go_simp; rfl)); intro gb1064 hg w14 hbox hb; have n0_ := Aside0.mk (below_step (by repeat (first | (with_reducible first | exact HB.out | apply below_alloc | apply pw_below_drewN | apply below_drew1) | exact HB.out)) hb); have n1_ := Aside0.mk (hbox); have n2_ := Aside0.mk ((by rw [hg]; exact (below_size (by repeat (first | (with_reducible first | exact HB.out | apply below_alloc | apply pw_below_drewN | apply below_drew1) | exact HB.out))) : w.heap.size ≤ gb1064)); have n3_ := Aside0.mk ((by rw [hg]; exact (below_size (by repeat (first | (with_reducible first | exact HB.out | apply below_alloc | apply pw_below_drewN | apply below_drew1) | exact HB.out))) : w.heap.size ≤ gb1064)); clear HB; have HB := n0_; have BK1064 := n1_; have GW1064 := n2_; have GE1064 := n3_; clear n0_ n1_ n2_ n3_; clear hb hbox hg; have hcz15_0 : w14.cell? ⟨gb1064, 0, none⟩ = some (.int .i64 a0_0) := (blk_cell BK1064.out 0).trans rfl; have hcz15_1 : w14.cell? ⟨gb1064, 1, none⟩ = some (.int .i64 a0_1) := (blk_cell BK1064.out 1).trans rfl; have hcz15_2 : w14.cell? ⟨gb1064, 2, none⟩ = some (.int .u8 a0_2) := (blk_cell BK1064.out 2).trans rfl; have hcz15_3 : w14.cell? ⟨gb1064, 3, none⟩ = some (.string a0_3) := (blk_cell BK1064.out 3).trans rfl; have hcz15_4 : w14.cell? ⟨gb1064, 4, none⟩ = some (.bool a0_4) := (blk_cell BK1064.out 4).trans rfl; have hfz15_0 := blk_frozen BK1064.out 0; have hfz15_1 := blk_frozen BK1064.out 1; have hfz15_2 := blk_frozen BK1064.out 2; have hfz15_3 := blk_frozen BK1064.out 3; have hfz15_4 := blk_frozen BK1064.out 4) | (go_at_call 201; (with_reducible refine (chart_Side.calls k a0_2 t1065 _ A4.out).mono ?_); rintro e w' ⟨rfl, ⟨nd, rfl⟩⟩))
          go_ret
          exact ⟨by first | rfl | (simp [errW_none, errW_some] <;> rfl) | (simp [*, errW_none, errW_some] <;> rfl), by repeat (first | (with_reducible first | exact HB.out | apply below_alloc | apply pw_below_drewN | apply below_drew1 | refine below_set ?_ GE1064.out) | exact HB.out)⟩
    · rw [if_neg c3] at H
      have c3b0 : decide (a0_0 ≤ 9999) = false := decide_eq_false c3
      clear c3
      obtain rfl := Option.some.inj H
      go_enter Try.func166, Try.ntmps166
      go_wp2_with (first | ((with_reducible refine gate_dst (N := 1) rfl ?_); (try (refine gate_guard (by rfl) ?_; dsimp only)); refine box_event ?hg (N := 1) ?hd (cs := #[.int .i64 a0_0, .int .i64 a0_1, .int .u8 a0_2, .string a0_3, .bool a0_4]) (t := 121) ?hr ?_; (case hd => rfl); (case hg => rfl); (case hr => first | (go_simp; done) | (go_simp; rfl)); intro gb1064 hg w16 hbox hb; have n0_ := Aside0.mk (below_step (by repeat (first | (with_reducible first | exact HB.out | apply below_alloc | apply pw_below_drewN | apply below_drew1) | exact HB.out)) hb); have n1_ := Aside0.mk (hbox); have n2_ := Aside0.mk ((by rw [hg]; exact (below_size (by repeat (first | (with_reducible first | exact HB.out | apply below_alloc | apply pw_below_drewN | apply below_drew1) | exact HB.out))) : w.heap.size ≤ gb1064)); have n3_ := Aside0.mk ((by rw [hg]; exact (below_size (by repeat (first | (with_reducible first | exact HB.out | apply below_alloc | apply pw_below_drewN | apply below_drew1) | exact HB.out))) : w.heap.size ≤ gb1064)); clear HB; have HB := n0_; have BK1064 := n1_; have GW1064 := n2_; have GE1064 := n3_; clear n0_ n1_ n2_ n3_; clear hb hbox hg; have hcz17_0 : w16.cell? ⟨gb1064, 0, none⟩ = some (.int .i64 a0_0) := (blk_cell BK1064.out 0).trans rfl; have hcz17_1 : w16.cell? ⟨gb1064, 1, none⟩ = some (.int .i64 a0_1) := (blk_cell BK1064.out 1).trans rfl; have hcz17_2 : w16.cell? ⟨gb1064, 2, none⟩ = some (.int .u8 a0_2) := (blk_cell BK1064.out 2).trans rfl; have hcz17_3 : w16.cell? ⟨gb1064, 3, none⟩ = some (.string a0_3) := (blk_cell BK1064.out 3).trans rfl; have hcz17_4 : w16.cell? ⟨gb1064, 4, none⟩ = some (.bool a0_4) := (blk_cell BK1064.out 4).trans rfl; have hfz17_0 := blk_frozen BK1064.out 0; have hfz17_1 := blk_frozen BK1064.out 1; have hfz17_2 := blk_frozen BK1064.out 2; have hfz17_3 := blk_frozen BK1064.out 3; have hfz17_4 := blk_frozen BK1064.out 4))
      go_ret
      exact ⟨by first | rfl | (simp [errW_none, errW_some] <;> rfl) | (simp [*, errW_none, errW_some] <;> rfl), by repeat (first | (with_reducible first | exact HB.out | apply below_alloc | apply pw_below_drewN | apply below_drew1 | refine below_set ?_ GE1064.out) | exact HB.out)⟩
  · rw [if_neg c2] at H
    have c2b0 : decide (1 ≤ a0_0) = false := decide_eq_false c2
    clear c2
    obtain rfl := Option.some.inj H
    go_enter Try.func166, Try.ntmps166
    go_wp2_with (first | ((with_reducible refine gate_dst (N := 1) rfl ?_); (try (refine gate_guard (by rfl) ?_; dsimp only)); refine box_event ?hg (N := 1) ?hd (cs := #[.int .i64 a0_0, .int .i64 a0_1, .int .u8 a0_2, .string a0_3, .bool a0_4]) (t := 121) ?hr ?_; (case hd => rfl); (case hg => rfl); (case hr => first | (go_simp; done) | (go_simp; rfl)); intro gb1064 hg w18 hbox hb; have n0_ := Aside0.mk (below_step (by repeat (first | (with_reducible first | exact HB.out | apply below_alloc | apply pw_below_drewN | apply below_drew1) | exact HB.out)) hb); have n1_ := Aside0.mk (hbox); have n2_ := Aside0.mk ((by rw [hg]; exact (below_size (by repeat (first | (with_reducible first | exact HB.out | apply below_alloc | apply pw_below_drewN | apply below_drew1) | exact HB.out))) : w.heap.size ≤ gb1064)); have n3_ := Aside0.mk ((by rw [hg]; exact (below_size (by repeat (first | (with_reducible first | exact HB.out | apply below_alloc | apply pw_below_drewN | apply below_drew1) | exact HB.out))) : w.heap.size ≤ gb1064)); clear HB; have HB := n0_; have BK1064 := n1_; have GW1064 := n2_; have GE1064 := n3_; clear n0_ n1_ n2_ n3_; clear hb hbox hg; have hcz19_0 : w18.cell? ⟨gb1064, 0, none⟩ = some (.int .i64 a0_0) := (blk_cell BK1064.out 0).trans rfl; have hcz19_1 : w18.cell? ⟨gb1064, 1, none⟩ = some (.int .i64 a0_1) := (blk_cell BK1064.out 1).trans rfl; have hcz19_2 : w18.cell? ⟨gb1064, 2, none⟩ = some (.int .u8 a0_2) := (blk_cell BK1064.out 2).trans rfl; have hcz19_3 : w18.cell? ⟨gb1064, 3, none⟩ = some (.string a0_3) := (blk_cell BK1064.out 3).trans rfl; have hcz19_4 : w18.cell? ⟨gb1064, 4, none⟩ = some (.bool a0_4) := (blk_cell BK1064.out 4).trans rfl; have hfz19_0 := blk_frozen BK1064.out 0; have hfz19_1 := blk_frozen BK1064.out 1; have hfz19_2 := blk_frozen BK1064.out 2; have hfz19_3 := blk_frozen BK1064.out 3; have hfz19_4 := blk_frozen BK1064.out 4))
    go_ret
    exact ⟨by first | rfl | (simp [errW_none, errW_some] <;> rfl) | (simp [*, errW_none, errW_some] <;> rfl), by repeat (first | (with_reducible first | exact HB.out | apply below_alloc | apply pw_below_drewN | apply below_drew1 | refine below_set ?_ GE1064.out) | exact HB.out)⟩

end Go.Proofs.Ytaoejonkiikhmaa.G

/- arith.Sum: the exact sum of some integers, told by its contract: (sum, true) where it fits, else (0, false); under: each integer is one of 64 bits. -/
namespace Go.Proofs.Ytaoejonkiikhmaa.G
open Go.RowKit Go.Proofs.YtaoejonkiikhmaaW.PrintWords Go.Proofs.YtaoejonkiikhmaaW.PrintLast Go.Proofs.YtaoejonkiikhmaaW.PrintMore
set_option linter.unusedVariables false
set_option linter.unusedSimpArgs false

def i64ok (x : Int) : Bool := decide (-9223372036854775808 ≤ x ∧ x ≤ 9223372036854775807)
theorem i64ok_iff (x : Int) : i64ok x = true ↔ -9223372036854775808 ≤ x ∧ x ≤ 9223372036854775807 := by simp [i64ok]
def sumR (s : Int) : Int × Bool := if i64ok s = true then (s, true) else (0, false)
def arith_Sum.f (l0 : List Int) : Option (Int × Bool) := if l0.all i64ok = true then some (sumR l0.sum) else none

/-- The two halves of a sum of k integers. -/
def lo (s : Int) : Int := s % 18446744073709551616
def hi (s : Int) : Int := (s / 18446744073709551616) % 18446744073709551616
theorem sum_bound : ∀ (l : List Int), l.all i64ok = true → -(9223372036854775808 * (l.length : Int)) ≤ l.sum ∧ l.sum ≤ 9223372036854775808 * (l.length : Int)
  | [], _ => by simp
  | x :: r, h => by
    simp only [List.all_cons, Bool.and_eq_true] at h
    have h1 := (i64ok_iff x).1 h.1
    have h2 := sum_bound r h.2
    simp only [List.sum_cons, List.length_cons]
    constructor <;> push_cast <;> omega
theorem sum_take_succ (l : List Int) (k : Nat) (h : k < l.length) : (l.take (k + 1)).sum = (l.take k).sum + rd l k := by
  rw [List.take_succ_eq_append_getElem h, List.sum_append]
  simp [rd, List.getElem?_eq_getElem h]
theorem all_rd {l : List Int} (h : l.all i64ok = true) (k : Nat) (hk : k < l.length) : -9223372036854775808 ≤ rd l k ∧ rd l k ≤ 9223372036854775807 := by
  have := List.all_eq_true.1 h (rd l k) (by simp [rd, List.getD_eq_getElem?_getD, List.getElem?_eq_getElem hk])
  exact (i64ok_iff _).1 this

theorem lo_range (s : Int) : 0 ≤ lo s ∧ lo s < 18446744073709551616 := by unfold lo; omega
theorem hi_range (s : Int) : 0 ≤ hi s ∧ hi s < 18446744073709551616 := by unfold hi; omega
theorem lo_step (s x : Int) : (lo s + IntKind.u64.wrap x) % 18446744073709551616 = lo (s + x) := by rw [IntKind.wrap_u64]; unfold lo; omega
theorem hi_step (s x : Int) (h : -9223372036854775808 ≤ x ∧ x ≤ 9223372036854775807) :
    IntKind.u64.wrap (IntKind.u64.wrap (hi s + IntKind.u64.wrap (x / 9223372036854775808)) + (lo s + IntKind.u64.wrap x) / 18446744073709551616) = hi (s + x) := by
  simp only [IntKind.wrap_u64]
  unfold hi lo
  have h1 : (s + x) / 18446744073709551616 = s / 18446744073709551616 + x / 9223372036854775808 + (s % 18446744073709551616 + x % 18446744073709551616) / 18446744073709551616 := by omega
  rw [h1]
  generalize (s % 18446744073709551616 + x % 18446744073709551616) / 18446744073709551616 = c
  generalize s / 18446744073709551616 = q
  generalize x / 9223372036854775808 = y
  omega

/-- The end: the halves tell whether the sum fits. -/
theorem sum_end (s : Int) (h1 : -85070591730234615865843651857942052864 ≤ s) (h2 : s ≤ 85070591730234615865843651857942052864) (n : Int) (hn : n = wrap64 (lo s)) :
    ((IntKind.u64.wrap (n / 9223372036854775808) == hi s) = true ↔ i64ok s = true) ∧ (i64ok s = true → n = s) := by
  rw [i64ok_iff, IntKind.wrap_u64]
  have hq := Int.emod_add_mul_ediv s 18446744073709551616
  unfold lo wrap64 at hn
  unfold hi
  simp only [beq_iff_eq]
  generalize s / 18446744073709551616 = q at *
  have hr1 : 0 ≤ s % 18446744073709551616 := Int.emod_nonneg _ (by omega)
  have hr2 : s % 18446744073709551616 < 18446744073709551616 := Int.emod_lt_of_pos _ (by omega)
  generalize s % 18446744073709551616 = r at *
  by_cases hc : r < 9223372036854775808
  · have hn' : n = r := by omega
    have hd : n / 9223372036854775808 = 0 := by omega
    rw [hd]
    constructor
    · constructor <;> intro h <;> omega
    · omega
  · have hn' : n = r - 18446744073709551616 := by omega
    have hd : n / 9223372036854775808 = -1 := by omega
    rw [hd]
    constructor
    · constructor <;> intro h <;> omega
    · omega

theorem sum_add64 (x y : Int) (hx : 0 ≤ x) (hy : 0 ≤ y) (w : World) : (callFunc 161 #[.int .u64 x, .int .u64 y, .int .u64 0]).run Try.prog w =
    .ok (.value (.tuple #[.int .u64 ((x + y + 0) % 18446744073709551616), .int .u64 ((x + y + 0) / 18446744073709551616)])) w := by
  rw [run_callFunc_extern (fn := Try.f161) (e := add64Entry) (by kernel_rfl) (by kernel_rfl) (by kernel_rfl) (by kernel_rfl) (by kernel_rfl), run_add64 x y 0 hx hy (by omega) (by omega)]
  rfl

set_option maxHeartbeats 1000000 in
set_option maxRecDepth 100000 in
theorem arith_Sum.calls (A0 : Option Addr) (c0 : Nat) (l0 : List Int) (r1 : Int) (r2 : Bool) (w : World) (hr0 : Kd.C (Kd.int .i64) w A0 l0.length l0) (hc0 : l0.length ≤ c0) (h : arith_Sum.f l0 = some (r1, r2)) :
    Calls Try.prog 106 #[.slice A0 l0.length c0] w fun e w' => e = .returned (.tuple #[.int .i64 r1, .bool r2]) ∧ Below w.heap.size w w' := by
  have hall : l0.all i64ok = true := by
    unfold arith_Sum.f at h
    split at h
    · assumption
    · cases h
  have hres : sumR l0.sum = (r1, r2) := by
    unfold arith_Sum.f at h
    rw [if_pos hall] at h
    exact Option.some.inj h
  have hm : l0.length ≤ 9223372036854775807 := Kd.C_max hr0
  have HR := Aside0.mk hr0
  have HALL := Aside0.mk hall
  have HRES := Aside0.mk hres
  have hu252 := Try.underlying252
  clear hr0 h hall hres
  go_enter Try.func106, Try.ntmps106
  go_wp2
  go_loopw [13] (fun i wr => ∃ k : Nat, k ≤ l0.length ∧ i = .int .i64 k ∧ wr.cell? ⟨w.heap.size, 0, none⟩ = some (.int .u64 (hi (l0.take k).sum)) ∧ wr.cell? ⟨w.heap.size, 1, none⟩ = some (.int .u64 (lo (l0.take k).sum)) ∧ wr.frozen? ⟨w.heap.size, 0, none⟩ = false ∧ wr.frozen? ⟨w.heap.size, 1, none⟩ = false ∧ Below w.heap.size w wr)
    (fun i _ => l0.length - (intOf i).toNat)
  case atStart => exact ⟨0, Nat.zero_le _, rfl, by simp [hi], by simp [lo], by simp, by simp, (Below.refl _ _).alloc (Nat.le_refl _) _⟩
  case round =>
    obtain ⟨k, hk, rfl, hch, hcl, hfh, hfl, hb⟩ := hrel
    by_cases hlt : k < l0.length
    · obtain ⟨ad, rfl, hcell⟩ := Kd.at_int (Kd.C_below HR.out hb) k (by omega) (by omega)
      have hx := all_rd HALL.out k hlt
      have hl := lo_range (l0.take k).sum
      have hh := hi_range (l0.take k).sum
      rw [Int.toNat_natCast] at hcell
      have hadd := sum_add64 (lo (l0.take k).sum) (IntKind.u64.wrap (rd l0 k)) hl.1 (by rw [IntKind.wrap_u64]; exact Int.emod_nonneg _ (by omega))
      go_wp2
      have e3 := sum_take_succ l0 k hlt
      have e1 := hi_step (l0.take k).sum (rd l0 k) hx
      have e2 := lo_step (l0.take k).sum (rd l0 k)
      rw [← e3] at e1 e2
      rw [e1, e2]
      go_roundw
      case rel => exact ⟨k + 1, by omega, by go_num, (World.cell?_setCell_other _ _ _ _ (by simp)).trans (World.cell?_setCell_same _ _ _ hch), World.cell?_setCell_same _ _ _ ((World.cell?_setCell_other _ _ _ _ (by simp)).trans hcl), by simp [hfh], by simp [hfl], (hb.setCell (Nat.le_refl _) _).setCell (Nat.le_refl _) _⟩
      case measure => simp [intOf]; omega
    · obtain rfl : k = l0.length := by omega
      rw [List.take_length] at hch hcl
      have hs := sum_bound l0 HALL.out
      have hend := sum_end l0.sum (by omega) (by omega) _ rfl
      have HE := Aside0.mk hend
      clear hend hs
      by_cases hc : (IntKind.u64.wrap (wrap64 (lo l0.sum) / 9223372036854775808) == hi l0.sum) = true
      · go_wp2
        go_ret2
        have h1 := HE.out.1.1 hc
        have h2 := HRES.out
        unfold sumR at h2
        rw [if_pos h1] at h2
        cases h2
        rw [HE.out.2 h1]
        exact ⟨rfl, hb⟩
      · have hc' : (IntKind.u64.wrap (wrap64 (lo l0.sum) / 9223372036854775808) == hi l0.sum) = false := by simpa using hc
        go_wp2
        go_ret2
        have h1 : ¬ i64ok l0.sum = true := fun h => hc (HE.out.1.2 h)
        have h2 := HRES.out
        unfold sumR at h2
        rw [if_neg h1] at h2
        cases h2
        exact ⟨rfl, hb⟩

end Go.Proofs.Ytaoejonkiikhmaa.G

/- Tidying lines, in plain Lean: groups by (account, customer, contract), in order, each with its exact sum; no program here but the struct's name. -/
namespace Go.Proofs.Ytaoejonkiikhmaa.G
open Go.RowKit Go.Proofs.YtaoejonkiikhmaaW.PrintWords
set_option linter.unusedVariables false
set_option linter.unusedSimpArgs false

abbrev Line := S113
structure Title where
  a : Int
  c : Int
  k : Int
deriving DecidableEq
def keyT (x : Line) : Title := ⟨x.f0, x.f1, x.f2⟩
def ltT (x y : Title) : Prop := x.a < y.a ∨ (x.a = y.a ∧ (x.c < y.c ∨ (x.c = y.c ∧ x.k < y.k)))
instance (x y : Title) : Decidable (ltT x y) := by unfold ltT; infer_instance
theorem ltT_irrefl (x : Title) : ¬ ltT x x := by unfold ltT; omega
theorem ltT_trans {x y z : Title} (h1 : ltT x y) (h2 : ltT y z) : ltT x z := by unfold ltT at *; omega
theorem ltT_tri (x y : Title) : ltT x y ∨ x = y ∨ ltT y x := by
  by_cases h : x = y
  · exact .inr (.inl h)
  · have h' : ¬ (x.a = y.a ∧ x.c = y.c ∧ x.k = y.k) := by
      intro ⟨h1, h2, h3⟩
      apply h
      cases x; cases y
      simp_all
    unfold ltT
    omega
theorem ltT_asymm {x y : Title} (h1 : ltT x y) : ¬ ltT y x := by unfold ltT at *; omega

def u64ok (x : Int) : Bool := decide (0 ≤ x ∧ x ≤ 18446744073709551615)
def within62 (n : Int) : Bool := decide (-4611686018427387904 ≤ n ∧ n ≤ 4611686018427387904)
def mayB (x : Line) : Bool := decide (1 ≤ x.f0 ∧ x.f0 ≤ 9999 ∧ x.f3 ≠ 0) && within62 x.f3
def okL (x : Line) : Bool := i64ok x.f0 && u64ok x.f1 && u64ok x.f2 && i64ok x.f3

def ins (x : Line) : List Line → List Line
  | [] => [x]
  | y :: r => if keyT x = keyT y then ⟨y.f0, y.f1, y.f2, y.f3 + x.f3⟩ :: r else if ltT (keyT x) (keyT y) then x :: y :: r else y :: ins x r
def grp (l : List Line) : List Line := l.foldr ins []
def gsum (l : List Line) (t : Title) : Int := ((l.filter fun x => keyT x = t).map fun x => x.f3).sum
def Ordered (l : List Line) : Prop := l.Pairwise fun x y => ltT (keyT x) (keyT y)

def tidyR (l : List Line) : List Line × Int :=
  if l.all mayB = true then (if (grp l).all (fun g => within62 g.f3) = true then ((grp l).filter (fun g => decide (g.f3 ≠ 0)), 0) else ([], 2)) else ([], 2)
def journal_Tidy.f (l0 : List Line) : Option (List Line × Int) := if l0.all okL = true ∧ l0.length < 4398046511104 then some (tidyR l0) else none

theorem line_ext {x y : Line} (h : keyT x = keyT y) (h3 : x.f3 = y.f3) : x = y := by
  cases x; cases y
  simp only [keyT, Title.mk.injEq] at h
  simp only at h3
  obtain ⟨rfl, rfl, rfl⟩ := h
  subst h3
  rfl

theorem ins_key (x : Line) : ∀ (G : List Line) (g : Line), g ∈ ins x G → keyT g = keyT x ∨ ∃ y ∈ G, keyT g = keyT y
  | [], g, h => by simp [ins] at h; subst h; exact .inl rfl
  | y :: r, g, h => by
    unfold ins at h
    split at h
    · rename_i he
      rcases List.mem_cons.1 h with rfl | h
      · exact .inl he.symm
      · exact .inr ⟨g, List.mem_cons_of_mem _ h, rfl⟩
    · split at h
      · rcases List.mem_cons.1 h with rfl | h
        · exact .inl rfl
        · exact .inr ⟨g, h, rfl⟩
      · rcases List.mem_cons.1 h with rfl | h
        · exact .inr ⟨g, List.mem_cons_self, rfl⟩
        · rcases ins_key x r g h with h | ⟨y', hy, h⟩
          · exact .inl h
          · exact .inr ⟨y', List.mem_cons_of_mem _ hy, h⟩

theorem ins_ordered (x : Line) : ∀ (G : List Line), Ordered G → Ordered (ins x G)
  | [], _ => by simp [ins, Ordered]
  | y :: r, h => by
    obtain ⟨h1, h2⟩ := List.pairwise_cons.1 h
    unfold ins
    split
    · rename_i he
      exact List.pairwise_cons.2 ⟨fun z hz => h1 z hz, h2⟩
    · rename_i hne
      split
      · rename_i hlt
        exact List.pairwise_cons.2 ⟨fun z hz => by
          rcases List.mem_cons.1 hz with rfl | hz
          · exact hlt
          · exact ltT_trans hlt (h1 z hz), h⟩
      · rename_i hge
        refine List.pairwise_cons.2 ⟨fun z hz => ?_, ins_ordered x r h2⟩
        rcases ins_key x r z hz with hk | ⟨y', hy, hk⟩
        · rw [hk]
          rcases ltT_tri (keyT x) (keyT y) with h3 | h3 | h3
          · exact absurd h3 hge
          · exact absurd h3 hne
          · exact h3
        · rw [hk]; exact h1 y' hy
theorem grp_ordered (l : List Line) : Ordered (grp l) := by
  unfold grp
  induction l with
  | nil => exact List.Pairwise.nil
  | cons x r ih => exact ins_ordered x _ ih

theorem ins_len (x : Line) : ∀ (G : List Line), (ins x G).length ≤ G.length + 1
  | [] => by simp [ins]
  | y :: r => by
    have := ins_len x r
    unfold ins
    split
    · simp
    · split
      · simp
      · simp; omega
theorem grp_len : ∀ (l : List Line), (grp l).length ≤ l.length
  | [] => by simp [grp]
  | x :: r => by
    have h1 := grp_len r
    have h2 := ins_len x (grp r)
    show (ins x (grp r)).length ≤ _
    simp
    omega
theorem ordered_inj {G : List Line} (h : Ordered G) {x y : Line} (hx : x ∈ G) (hy : y ∈ G) (he : keyT x = keyT y) : x = y := by
  induction G with
  | nil => cases hx
  | cons a r ih =>
    obtain ⟨h1, h2⟩ := List.pairwise_cons.1 h
    rcases List.mem_cons.1 hx with rfl | hx'
    · rcases List.mem_cons.1 hy with rfl | hy
      · rfl
      · have := h1 y hy
        rw [he] at this
        exact absurd this (ltT_irrefl _)
    · rcases List.mem_cons.1 hy with rfl | hy
      · have h3 := h1 x (by assumption)
        rw [he] at h3
        exact absurd h3 (ltT_irrefl _)
      · exact ih h2 (by assumption) (by assumption)

/-- Who is in 'ins x G'. -/
theorem mem_ins (x : Line) : ∀ (G : List Line), Ordered G → ∀ g, g ∈ ins x G ↔
    (keyT g = keyT x ∧ ((∃ y ∈ G, keyT y = keyT x ∧ g.f3 = y.f3 + x.f3) ∨ ((∀ y ∈ G, keyT y ≠ keyT x) ∧ g.f3 = x.f3))) ∨ (keyT g ≠ keyT x ∧ g ∈ G)
  | [], _, g => by
    simp only [ins, List.mem_singleton, List.not_mem_nil, false_and, exists_false, false_or, and_false, or_false]
    constructor
    · rintro rfl; exact ⟨rfl, fun _ h => h.elim, rfl⟩
    · rintro ⟨h1, _, h2⟩; exact line_ext h1 h2
  | y :: r, h, g => by
    obtain ⟨h1, h2⟩ := List.pairwise_cons.1 h
    have hapart : ∀ z ∈ r, keyT z ≠ keyT y := fun z hz he => by
      have := h1 z hz
      rw [he] at this
      exact ltT_irrefl _ this
    unfold ins
    split
    · rename_i he
      constructor
      · intro hg
        rcases List.mem_cons.1 hg with rfl | hg
        · exact .inl ⟨he.symm, .inl ⟨y, List.mem_cons_self, he.symm, rfl⟩⟩
        · exact .inr ⟨fun e => hapart g hg (e.trans he), List.mem_cons_of_mem _ hg⟩
      · rintro (⟨hk, ⟨y', hy', hke, h3⟩ | ⟨hno, _⟩⟩ | ⟨hk, hg⟩)
        · have : y' = y := by
            rcases List.mem_cons.1 hy' with rfl | hy'
            · rfl
            · exact absurd (hke.trans he) (hapart y' hy')
          subst this
          exact List.mem_cons.2 (.inl (line_ext (hk.trans he) h3))
        · exact absurd he.symm (hno y List.mem_cons_self)
        · rcases List.mem_cons.1 hg with rfl | hg
          · exact absurd he.symm hk
          · exact List.mem_cons_of_mem _ hg
    · rename_i hne
      split
      · rename_i hlt
        have hno : ∀ z ∈ y :: r, keyT z ≠ keyT x := fun z hz he => by
          rcases List.mem_cons.1 hz with rfl | hz
          · exact hne he.symm
          · have := ltT_trans hlt (h1 z hz)
            rw [he] at this
            exact ltT_irrefl _ this
        constructor
        · intro hg
          rcases List.mem_cons.1 hg with rfl | hg
          · exact .inl ⟨rfl, .inr ⟨hno, rfl⟩⟩
          · exact .inr ⟨hno g hg, hg⟩
        · rintro (⟨hk, ⟨y', hy', hke, h3⟩ | ⟨_, h3⟩⟩ | ⟨hk, hg⟩)
          · exact absurd hke (hno y' hy')
          · exact List.mem_cons.2 (.inl (line_ext hk h3))
          · exact List.mem_cons_of_mem _ hg
      · rename_i hge
        rw [List.mem_cons, mem_ins x r h2 g]
        constructor
        · rintro (rfl | ⟨hk, ⟨y', hy', hke, h3⟩ | ⟨hno, h3⟩⟩ | ⟨hk, hg⟩)
          · exact .inr ⟨fun e => hne e.symm, List.mem_cons_self⟩
          · exact .inl ⟨hk, .inl ⟨y', List.mem_cons_of_mem _ hy', hke, h3⟩⟩
          · exact .inl ⟨hk, .inr ⟨fun z hz => by
              rcases List.mem_cons.1 hz with rfl | hz
              · exact fun e => hne e.symm
              · exact hno z hz, h3⟩⟩
          · exact .inr ⟨hk, List.mem_cons_of_mem _ hg⟩
        · rintro (⟨hk, ⟨y', hy', hke, h3⟩ | ⟨hno, h3⟩⟩ | ⟨hk, hg⟩)
          · rcases List.mem_cons.1 hy' with rfl | hy'
            · exact absurd hke.symm hne
            · exact .inr (.inl ⟨hk, .inl ⟨y', hy', hke, h3⟩⟩)
          · exact .inr (.inl ⟨hk, .inr ⟨fun z hz => hno z (List.mem_cons_of_mem _ hz), h3⟩⟩)
          · rcases List.mem_cons.1 hg with rfl | hg
            · exact .inl rfl
            · exact .inr (.inr ⟨hk, hg⟩)

theorem gsum_cons (x : Line) (r : List Line) (t : Title) : gsum (x :: r) t = (if keyT x = t then x.f3 else 0) + gsum r t := by
  unfold gsum
  rw [List.filter_cons]
  by_cases h : keyT x = t <;> simp [h]
theorem gsum_none {r : List Line} {t : Title} (h : ∀ y ∈ r, keyT y ≠ t) : gsum r t = 0 := by
  unfold gsum
  rw [List.filter_eq_nil_iff.2 (fun y hy => by simpa using h y hy)]
  rfl
/-- Who is in the groups: one for each title that there is, with its sum. -/
theorem mem_grp : ∀ (l : List Line) (g : Line), g ∈ grp l ↔ (∃ x ∈ l, keyT x = keyT g) ∧ g.f3 = gsum l (keyT g)
  | [], g => by simp [grp]
  | x :: r, g => by
    have ih := mem_grp r
    show g ∈ ins x (grp r) ↔ _
    rw [mem_ins x _ (grp_ordered r), gsum_cons]
    constructor
    · rintro (⟨hk, ⟨y, hy, hke, h3⟩ | ⟨hno, h3⟩⟩ | ⟨hk, hg⟩)
      · refine ⟨⟨x, List.mem_cons_self, hk.symm⟩, ?_⟩
        rw [if_pos hk.symm, h3, ((ih y).1 hy).2, hke, hk]
        omega
      · refine ⟨⟨x, List.mem_cons_self, hk.symm⟩, ?_⟩
        have : gsum r (keyT g) = 0 := gsum_none (fun y hy he => by
          refine hno ⟨y.f0, y.f1, y.f2, gsum r (keyT y)⟩ ((ih _).2 ⟨⟨y, hy, rfl⟩, rfl⟩) ?_
          exact he.trans hk)
        rw [if_pos hk.symm, h3, this]
        omega
      · obtain ⟨⟨y, hy, hke⟩, h3⟩ := (ih g).1 hg
        refine ⟨⟨y, List.mem_cons_of_mem _ hy, hke⟩, ?_⟩
        rw [if_neg (fun e => hk e.symm), h3]
        omega
    · rintro ⟨⟨y, hy, hke⟩, h3⟩
      by_cases hk : keyT g = keyT x
      · refine .inl ⟨hk, ?_⟩
        rw [if_pos hk.symm] at h3
        by_cases hex : ∃ y ∈ r, keyT y = keyT x
        · obtain ⟨z, hz, hze⟩ := hex
          refine .inl ⟨⟨z.f0, z.f1, z.f2, gsum r (keyT z)⟩, (ih _).2 ⟨⟨z, hz, rfl⟩, rfl⟩, hze, ?_⟩
          rw [h3, hk, ← hze]
          show _ = gsum r (keyT z) + x.f3
          omega
        · have : gsum r (keyT g) = 0 := gsum_none (fun z hz he => hex ⟨z, hz, he.trans hk⟩)
          refine .inr ⟨fun z hz he => ?_, by rw [h3, this]; omega⟩
          obtain ⟨⟨u, hu, hue⟩, _⟩ := (ih z).1 hz
          exact hex ⟨u, hu, hue.trans he⟩
      · refine .inr ⟨hk, (ih g).2 ⟨?_, ?_⟩⟩
        · rcases List.mem_cons.1 hy with rfl | hy
          · exact absurd hke.symm hk
          · exact ⟨y, hy, hke⟩
        · rw [if_neg (fun e => hk e.symm)] at h3
          omega

/-- Two ordered lists of the same members are one. -/
theorem ordered_eq : ∀ {a b : List Line}, Ordered a → Ordered b → (∀ g, g ∈ a ↔ g ∈ b) → a = b
  | [], [], _, _, _ => rfl
  | [], y :: s, _, _, h => absurd ((h y).2 List.mem_cons_self) (by simp)
  | x :: r, [], _, _, h => absurd ((h x).1 List.mem_cons_self) (by simp)
  | x :: r, y :: s, ha, hb, h => by
    obtain ⟨h1, h2⟩ := List.pairwise_cons.1 ha
    obtain ⟨h3, h4⟩ := List.pairwise_cons.1 hb
    have hxy : x = y := by
      rcases List.mem_cons.1 ((h x).1 List.mem_cons_self) with e | hx
      · exact e
      · rcases List.mem_cons.1 ((h y).2 List.mem_cons_self) with e | hy
        · exact e.symm
        · exact absurd (h1 y hy) (ltT_asymm (h3 x hx))
    subst hxy
    refine congrArg _ (ordered_eq h2 h4 (fun g => ?_))
    constructor
    · intro hg
      rcases List.mem_cons.1 ((h g).1 (List.mem_cons_of_mem _ hg)) with e | h'
      · subst e
        exact absurd (h1 g hg) (ltT_irrefl _)
      · exact h'
    · intro hg
      rcases List.mem_cons.1 ((h g).2 (List.mem_cons_of_mem _ hg)) with e | h'
      · subst e
        exact absurd (h3 g hg) (ltT_irrefl _)
      · exact h'
theorem filter_ordered {l : List Line} (h : Ordered l) (p : Line → Bool) : Ordered (l.filter p) := List.Pairwise.filter p h

end Go.Proofs.Ytaoejonkiikhmaa.G

/- journal.sum: the exact sum of the amounts that a function asks for. -/
namespace Go.Proofs.Ytaoejonkiikhmaa.G
open Go.RowKit Go.Proofs.YtaoejonkiikhmaaW.PrintWords Go.Proofs.YtaoejonkiikhmaaW.PrintLast Go.Proofs.YtaoejonkiikhmaaW.PrintMore
set_option linter.unusedVariables false
set_option linter.unusedSimpArgs false

def asked (p : Int → Bool) (l : List Line) : List Int := (l.map fun x => x.f3).filter p
theorem asked_take (p : Int → Bool) {l : List Line} {k : Nat} (hk : k < l.length) : asked p (l.take (k + 1)) = if p (rd_T113 l k).f3 = true then asked p (l.take k) ++ [(rd_T113 l k).f3] else asked p (l.take k) := by
  unfold asked
  rw [List.take_succ_eq_append_getElem hk]
  simp only [List.map_append, List.filter_append, rd_T113, List.getD_eq_getElem?_getD, Int.toNat_natCast, List.getElem?_eq_getElem hk, Option.getD_some]
  split <;> rename_i h <;> simp [h]
theorem asked_len (p : Int → Bool) (l : List Line) : (asked p l).length ≤ l.length := by
  unfold asked
  have := List.length_filter_le p (l.map fun x => x.f3)
  simpa using this
theorem asked_all (p : Int → Bool) {l : List Line} (h : l.all okL = true) : (asked p l).all i64ok = true := by
  unfold asked
  rw [List.all_eq_true]
  intro n hn
  obtain ⟨x, hx, rfl⟩ := List.mem_map.1 (List.mem_filter.1 hn).1
  have := List.all_eq_true.1 h x hx
  simp only [okL, Bool.and_eq_true] at this
  exact this.2

theorem size_alloc1 (w : World) (o : Obj) : (w.alloc o).heap.size = w.heap.size + 1 := by simp

/-- A closure that asks nothing, keeps the world and tells a bool of its number. -/
abbrev Asks (g : Nat) (p : Int → Bool) : Prop := ∀ n W, Calls Try.prog g #[.int .i64 n] W fun e w' => e = .returned (.bool (p n)) ∧ w' = W

theorem asks_all : Asks 74 (fun _ => true) := by
  intro n W
  go_enter Try.func74, Try.ntmps74
  go_wp2
  go_ret
  exact ⟨rfl, rfl⟩

set_option maxHeartbeats 1000000 in
set_option maxRecDepth 100000 in
theorem jsum_all (A0 : Option Addr) (c0 : Nat) (l0 : List Line) (w : World) (hr0 : Kd.C k113 w A0 l0.length l0) (hc0 : l0.length ≤ c0) (hl : l0.length < 4398046511104) (hok : l0.all okL = true) :
    Calls Try.prog 73 #[.slice A0 l0.length c0, .func (.func 74) #[] #[]] w fun e w' => e = .returned (.tuple #[.int .i64 (sumR (asked (fun _ => true) l0).sum).1, .bool (sumR (asked (fun _ => true) l0).sum).2]) ∧ Below w.heap.size w w' := by
  obtain ⟨p, hp0⟩ : ∃ p : Int → Bool, p = (fun _ => true) := ⟨_, rfl⟩
  have hask : Asks 74 p := by rw [hp0]; exact asks_all
  rw [← hp0]
  clear hp0
  have hu := Try.underlying113
  have HG := Aside0.mk hask
  have HR := Aside0.mk hr0
  have HOK := Aside0.mk hok
  clear hask hr0 hok
  go_enter Try.func73, Try.ntmps73
  go_wp2
  go_loopw [11, 6] (fun i v wr => ∃ (k : Nat), k ≤ l0.length ∧ i = .int .i64 k ∧ Aside0 (Kd.R (Kd.int .i64) 2 wr w.heap.size (fun _ => True) v (asked p (l0.take k))) ∧ Below w.heap.size w wr)
    (fun i _ _ => l0.length - (intOf i).toNat)
  case atStart => exact ⟨0, Nat.zero_le _, rfl, ⟨Kd.R_nil _ _ _ _ _⟩, Below.refl _ _⟩
  case round =>
    obtain ⟨k, hk, rfl, HKR, hb⟩ := hrel
    have hal := asked_len p (l0.take k)
    rw [List.length_take] at hal
    have hwr := hb.size
    by_cases hlt : k < l0.length
    · obtain ⟨ad, rfl, x0, x1, x2, x3⟩ := at_T113 (Kd.C_below HR.out hb) k (by omega) (by omega)
      rw [Int.toNat_natCast] at x0 x1 x2 x3
      have HST := Aside0.mk (asked_take p hlt)
      obtain ⟨x, hx⟩ : ∃ x, x = rd_T113 l0 k := ⟨_, rfl⟩
      rw [← hx] at x0 x1 x2 x3 HST
      clear hx
      cases hp : p x.f3 with
      | true =>
        rw [hp, if_pos rfl] at HST
        have hgx := fun W => HG.out x.f3 W
        rw [hp] at hgx
        have HGX := Aside0.mk hgx
        clear hgx hp
        go_wp2_with (first | (go_at_call 74; refine (HGX.out _).mono ?_; rintro e w' ⟨rfl, rfl⟩) | ((with_reducible refine gate_builtin (b := .append) (xs := #[.tmp 19, .tmp 22]) rfl ?_); at_builtin; go_loud (refine Kd.R_append (Kd.int .i64) (w0 := w) w.heap.size rfl (.tmp 19) (.tmp 22) 138 2 (.int .i64 0) 8 rfl Try.underlying138 info2 rfl (by decide) (by omega) u6 (asked p (l0.take k)) x.f3 [.int .i64 x.f3] (fun _ => True) (fun _ => False) rfl (by rw [size_alloc1]; rfl) rfl (fun _ hk => hk.elim) (fun _ _ => trivial) (Kd.R_alloc HKR.out _) (below_alloc hb _) (by simp; omega) (by omega) ?_); intro v1 w6 ho hb6 hg6 hat; rw [← HST.out] at ho; have HO := Aside0.mk ho; have HB6 := Aside0.mk hb6; clear ho hb6 hg6 hat))
        exact ⟨⟨k + 1, by omega, rfl, HO, HB6.out⟩, by simp [intOf]; omega⟩
      | false =>
        rw [hp, if_neg (by decide)] at HST
        have hgx := fun W => HG.out x.f3 W
        rw [hp] at hgx
        have HGX := Aside0.mk hgx
        clear hgx hp
        go_wp2_with (go_at_call 74; refine (HGX.out _).mono ?_; rintro e w' ⟨rfl, rfl⟩)
        exact ⟨⟨k + 1, by omega, rfl, ⟨by rw [HST.out]; exact Kd.R_alloc HKR.out _⟩, below_alloc hb _⟩, by simp [intOf]; omega⟩
    · obtain rfl : k = l0.length := by omega
      rw [List.take_length] at HKR hal
      obtain ⟨A, c, rfl, hlc, hcc⟩ := Kd.R_reads HKR.out
      have HS := Aside0.mk (arith_Sum.calls A c (asked p l0) (sumR (asked p l0).sum).1 (sumR (asked p l0).sum).2 wr hcc hlc (by unfold arith_Sum.f; rw [if_pos (asked_all p HOK.out)]))
      clear hcc
      go_wp2_with (go_at_call 106; refine HS.out.mono ?_; rintro e w' ⟨rfl, hb2⟩; have HB2 := Aside0.mk (below_then hb hb.size hb2))
      go_ret2
      exact ⟨rfl, HB2.out⟩

theorem asks_pos : Asks 120 (fun n => decide (0 < n)) := by
  intro n W
  go_enter Try.func120, Try.ntmps120
  go_wp2
  go_ret
  exact ⟨rfl, rfl⟩

set_option maxHeartbeats 1000000 in
set_option maxRecDepth 100000 in
theorem jsum_pos (A0 : Option Addr) (c0 : Nat) (l0 : List Line) (w : World) (hr0 : Kd.C k113 w A0 l0.length l0) (hc0 : l0.length ≤ c0) (hl : l0.length < 4398046511104) (hok : l0.all okL = true) :
    Calls Try.prog 73 #[.slice A0 l0.length c0, .func (.func 120) #[] #[]] w fun e w' => e = .returned (.tuple #[.int .i64 (sumR (asked (fun n => decide (0 < n)) l0).sum).1, .bool (sumR (asked (fun n => decide (0 < n)) l0).sum).2]) ∧ Below w.heap.size w w' := by
  obtain ⟨p, hp0⟩ : ∃ p : Int → Bool, p = (fun n => decide (0 < n)) := ⟨_, rfl⟩
  have hask : Asks 120 p := by rw [hp0]; exact asks_pos
  rw [← hp0]
  clear hp0
  have hu := Try.underlying113
  have HG := Aside0.mk hask
  have HR := Aside0.mk hr0
  have HOK := Aside0.mk hok
  clear hask hr0 hok
  go_enter Try.func73, Try.ntmps73
  go_wp2
  go_loopw [11, 6] (fun i v wr => ∃ (k : Nat), k ≤ l0.length ∧ i = .int .i64 k ∧ Aside0 (Kd.R (Kd.int .i64) 2 wr w.heap.size (fun _ => True) v (asked p (l0.take k))) ∧ Below w.heap.size w wr)
    (fun i _ _ => l0.length - (intOf i).toNat)
  case atStart => exact ⟨0, Nat.zero_le _, rfl, ⟨Kd.R_nil _ _ _ _ _⟩, Below.refl _ _⟩
  case round =>
    obtain ⟨k, hk, rfl, HKR, hb⟩ := hrel
    have hal := asked_len p (l0.take k)
    rw [List.length_take] at hal
    have hwr := hb.size
    by_cases hlt : k < l0.length
    · obtain ⟨ad, rfl, x0, x1, x2, x3⟩ := at_T113 (Kd.C_below HR.out hb) k (by omega) (by omega)
      rw [Int.toNat_natCast] at x0 x1 x2 x3
      have HST := Aside0.mk (asked_take p hlt)
      obtain ⟨x, hx⟩ : ∃ x, x = rd_T113 l0 k := ⟨_, rfl⟩
      rw [← hx] at x0 x1 x2 x3 HST
      clear hx
      cases hp : p x.f3 with
      | true =>
        rw [hp, if_pos rfl] at HST
        have hgx := fun W => HG.out x.f3 W
        rw [hp] at hgx
        have HGX := Aside0.mk hgx
        clear hgx hp
        go_wp2_with (first | (go_at_call 120; refine (HGX.out _).mono ?_; rintro e w' ⟨rfl, rfl⟩) | ((with_reducible refine gate_builtin (b := .append) (xs := #[.tmp 19, .tmp 22]) rfl ?_); at_builtin; go_loud (refine Kd.R_append (Kd.int .i64) (w0 := w) w.heap.size rfl (.tmp 19) (.tmp 22) 138 2 (.int .i64 0) 8 rfl Try.underlying138 info2 rfl (by decide) (by omega) u6 (asked p (l0.take k)) x.f3 [.int .i64 x.f3] (fun _ => True) (fun _ => False) rfl (by rw [size_alloc1]; rfl) rfl (fun _ hk => hk.elim) (fun _ _ => trivial) (Kd.R_alloc HKR.out _) (below_alloc hb _) (by simp; omega) (by omega) ?_); intro v1 w6 ho hb6 hg6 hat; rw [← HST.out] at ho; have HO := Aside0.mk ho; have HB6 := Aside0.mk hb6; clear ho hb6 hg6 hat))
        exact ⟨⟨k + 1, by omega, rfl, HO, HB6.out⟩, by simp [intOf]; omega⟩
      | false =>
        rw [hp, if_neg (by decide)] at HST
        have hgx := fun W => HG.out x.f3 W
        rw [hp] at hgx
        have HGX := Aside0.mk hgx
        clear hgx hp
        go_wp2_with (go_at_call 120; refine (HGX.out _).mono ?_; rintro e w' ⟨rfl, rfl⟩)
        exact ⟨⟨k + 1, by omega, rfl, ⟨by rw [HST.out]; exact Kd.R_alloc HKR.out _⟩, below_alloc hb _⟩, by simp [intOf]; omega⟩
    · obtain rfl : k = l0.length := by omega
      rw [List.take_length] at HKR hal
      obtain ⟨A, c, rfl, hlc, hcc⟩ := Kd.R_reads HKR.out
      have HS := Aside0.mk (arith_Sum.calls A c (asked p l0) (sumR (asked p l0).sum).1 (sumR (asked p l0).sum).2 wr hcc hlc (by unfold arith_Sum.f; rw [if_pos (asked_all p HOK.out)]))
      clear hcc
      go_wp2_with (go_at_call 106; refine HS.out.mono ?_; rintro e w' ⟨rfl, hb2⟩; have HB2 := Aside0.mk (below_then hb hb.size hb2))
      go_ret2
      exact ⟨rfl, HB2.out⟩

theorem asks_neg : Asks 121 (fun n => decide (n < 0)) := by
  intro n W
  go_enter Try.func121, Try.ntmps121
  go_wp2
  go_ret
  exact ⟨rfl, rfl⟩

set_option maxHeartbeats 1000000 in
set_option maxRecDepth 100000 in
theorem jsum_neg (A0 : Option Addr) (c0 : Nat) (l0 : List Line) (w : World) (hr0 : Kd.C k113 w A0 l0.length l0) (hc0 : l0.length ≤ c0) (hl : l0.length < 4398046511104) (hok : l0.all okL = true) :
    Calls Try.prog 73 #[.slice A0 l0.length c0, .func (.func 121) #[] #[]] w fun e w' => e = .returned (.tuple #[.int .i64 (sumR (asked (fun n => decide (n < 0)) l0).sum).1, .bool (sumR (asked (fun n => decide (n < 0)) l0).sum).2]) ∧ Below w.heap.size w w' := by
  obtain ⟨p, hp0⟩ : ∃ p : Int → Bool, p = (fun n => decide (n < 0)) := ⟨_, rfl⟩
  have hask : Asks 121 p := by rw [hp0]; exact asks_neg
  rw [← hp0]
  clear hp0
  have hu := Try.underlying113
  have HG := Aside0.mk hask
  have HR := Aside0.mk hr0
  have HOK := Aside0.mk hok
  clear hask hr0 hok
  go_enter Try.func73, Try.ntmps73
  go_wp2
  go_loopw [11, 6] (fun i v wr => ∃ (k : Nat), k ≤ l0.length ∧ i = .int .i64 k ∧ Aside0 (Kd.R (Kd.int .i64) 2 wr w.heap.size (fun _ => True) v (asked p (l0.take k))) ∧ Below w.heap.size w wr)
    (fun i _ _ => l0.length - (intOf i).toNat)
  case atStart => exact ⟨0, Nat.zero_le _, rfl, ⟨Kd.R_nil _ _ _ _ _⟩, Below.refl _ _⟩
  case round =>
    obtain ⟨k, hk, rfl, HKR, hb⟩ := hrel
    have hal := asked_len p (l0.take k)
    rw [List.length_take] at hal
    have hwr := hb.size
    by_cases hlt : k < l0.length
    · obtain ⟨ad, rfl, x0, x1, x2, x3⟩ := at_T113 (Kd.C_below HR.out hb) k (by omega) (by omega)
      rw [Int.toNat_natCast] at x0 x1 x2 x3
      have HST := Aside0.mk (asked_take p hlt)
      obtain ⟨x, hx⟩ : ∃ x, x = rd_T113 l0 k := ⟨_, rfl⟩
      rw [← hx] at x0 x1 x2 x3 HST
      clear hx
      cases hp : p x.f3 with
      | true =>
        rw [hp, if_pos rfl] at HST
        have hgx := fun W => HG.out x.f3 W
        rw [hp] at hgx
        have HGX := Aside0.mk hgx
        clear hgx hp
        go_wp2_with (first | (go_at_call 121; refine (HGX.out _).mono ?_; rintro e w' ⟨rfl, rfl⟩) | ((with_reducible refine gate_builtin (b := .append) (xs := #[.tmp 19, .tmp 22]) rfl ?_); at_builtin; go_loud (refine Kd.R_append (Kd.int .i64) (w0 := w) w.heap.size rfl (.tmp 19) (.tmp 22) 138 2 (.int .i64 0) 8 rfl Try.underlying138 info2 rfl (by decide) (by omega) u6 (asked p (l0.take k)) x.f3 [.int .i64 x.f3] (fun _ => True) (fun _ => False) rfl (by rw [size_alloc1]; rfl) rfl (fun _ hk => hk.elim) (fun _ _ => trivial) (Kd.R_alloc HKR.out _) (below_alloc hb _) (by simp; omega) (by omega) ?_); intro v1 w6 ho hb6 hg6 hat; rw [← HST.out] at ho; have HO := Aside0.mk ho; have HB6 := Aside0.mk hb6; clear ho hb6 hg6 hat))
        exact ⟨⟨k + 1, by omega, rfl, HO, HB6.out⟩, by simp [intOf]; omega⟩
      | false =>
        rw [hp, if_neg (by decide)] at HST
        have hgx := fun W => HG.out x.f3 W
        rw [hp] at hgx
        have HGX := Aside0.mk hgx
        clear hgx hp
        go_wp2_with (go_at_call 121; refine (HGX.out _).mono ?_; rintro e w' ⟨rfl, rfl⟩)
        exact ⟨⟨k + 1, by omega, rfl, ⟨by rw [HST.out]; exact Kd.R_alloc HKR.out _⟩, below_alloc hb _⟩, by simp [intOf]; omega⟩
    · obtain rfl : k = l0.length := by omega
      rw [List.take_length] at HKR hal
      obtain ⟨A, c, rfl, hlc, hcc⟩ := Kd.R_reads HKR.out
      have HS := Aside0.mk (arith_Sum.calls A c (asked p l0) (sumR (asked p l0).sum).1 (sumR (asked p l0).sum).2 wr hcc hlc (by unfold arith_Sum.f; rw [if_pos (asked_all p HOK.out)]))
      clear hcc
      go_wp2_with (go_at_call 106; refine HS.out.mono ?_; rintro e w' ⟨rfl, hb2⟩; have HB2 := Aside0.mk (below_then hb hb.size hb2))
      go_ret2
      exact ⟨rfl, HB2.out⟩
end Go.Proofs.Ytaoejonkiikhmaa.G

-- Text by a program of this session (gprint.py), over the kit's print.
namespace Go.Proofs.Ytaoejonkiikhmaa.G
open Go.RowKit Go.Proofs.YtaoejonkiikhmaaW.PrintWords Go.Proofs.YtaoejonkiikhmaaW.PrintLast Go.Proofs.YtaoejonkiikhmaaW.PrintMore
attribute [local go_sem] max2_int min2_int max_two min_two max_three min_three max_four min_four   -- for this text's walks alone
set_option linter.unusedVariables false
set_option linter.unusedSimpArgs false

/-! ### cmp_isNaN_uint64: function 154 -/
def cmp_isNaN_uint64.f (a0 : Int) : Option (Bool) := some (a0 != a0)
set_option maxHeartbeats 8000000 in
set_option maxRecDepth 100000 in
theorem cmp_isNaN_uint64.calls (a0 : Int) (r : Bool) (w : World) (h : cmp_isNaN_uint64.f a0 = some r) :
    Calls Try.prog 154 #[.int .u64 a0] w fun e w' => e = .returned (.bool r) ∧ Drawn0 w w' := by
  have H : (some (a0 != a0)) = some r := h
  clear h
  obtain rfl := Option.some.inj H
  go_enter Try.func154, Try.ntmps154
  go_wp2
  go_ret
  exact ⟨by first | rfl | (simp; done) | (simp [*]; done), by repeat (first | exact Drawn0.refl _ | apply Drawn0.step)⟩

end Go.Proofs.Ytaoejonkiikhmaa.G

-- Text by a program of this session (gprint.py), over the kit's print.
namespace Go.Proofs.Ytaoejonkiikhmaa.G
open Go.RowKit Go.Proofs.YtaoejonkiikhmaaW.PrintWords Go.Proofs.YtaoejonkiikhmaaW.PrintLast Go.Proofs.YtaoejonkiikhmaaW.PrintMore
attribute [local go_sem] max2_int min2_int max_two min_two max_three min_three max_four min_four   -- for this text's walks alone
set_option linter.unusedVariables false
set_option linter.unusedSimpArgs false

/-! ### cmp_Compare_uint64: function 89 -/
def cmp_Compare_uint64.f (a0 : Int) (a1 : Int) : Option (Int) := (cmp_isNaN_uint64.f a0).bind fun t124 => ((cmp_isNaN_uint64.f a1).bind fun t125 => (if t124 = true then (if t125 = true then (some 0) else (some (-1))) else (if t125 = true then (some 1) else (if a0 < a1 then (some (-1)) else (if a0 > a1 then (some 1) else (some 0))))))
set_option maxHeartbeats 8000000 in
set_option maxRecDepth 100000 in
theorem cmp_Compare_uint64.calls (a0 : Int) (a1 : Int) (r : Int) (w : World) (h : cmp_Compare_uint64.f a0 a1 = some r) :
    Calls Try.prog 89 #[.int .u64 a0, .int .u64 a1] w fun e w' => e = .returned (.int .i64 r) ∧ Drawn0 w w' := by
  have H : ((cmp_isNaN_uint64.f a0).bind fun t124 => ((cmp_isNaN_uint64.f a1).bind fun t125 => (if t124 = true then (if t125 = true then (some 0) else (some (-1))) else (if t125 = true then (some 1) else (if a0 < a1 then (some (-1)) else (if a0 > a1 then (some 1) else (some 0))))))) = some r := h
  clear h
  replace H := Option.bind_eq_some_iff.mp H
  obtain ⟨t124, A30, H⟩ := H
  replace H : ((cmp_isNaN_uint64.f a1).bind fun t125 => (if t124 = true then (if t125 = true then (some 0) else (some (-1))) else (if t125 = true then (some 1) else (if a0 < a1 then (some (-1)) else (if a0 > a1 then (some 1) else (some 0)))))) = some r := H
  have A3 := Aside0.mk A30
  clear A30
  replace H := Option.bind_eq_some_iff.mp H
  obtain ⟨t125, A40, H⟩ := H
  replace H : (if t124 = true then (if t125 = true then (some 0) else (some (-1))) else (if t125 = true then (some 1) else (if a0 < a1 then (some (-1)) else (if a0 > a1 then (some 1) else (some 0))))) = some r := H
  have A4 := Aside0.mk A40
  clear A40
  by_cases c5 : t124 = true
  · subst c5
    have H1 : (if t125 = true then (some 0) else (some (-1))) = some r := by rw [if_pos rfl] at H; exact H
    clear H
    have H := H1
    clear H1
    by_cases c6 : t125 = true
    · subst c6
      have H1 : (some 0) = some r := by rw [if_pos rfl] at H; exact H
      clear H
      have H := H1
      clear H1
      obtain rfl := Option.some.inj H
      go_enter Try.func89, Try.ntmps89
      go_wp2_with (first | ((with_reducible refine gate_callee (f := 154) rfl ?_); refine goesL_ (some 8) rfl rfl Try.func154 (by kernel_rfl) rfl #[.int .u64 a0] rfl (by (try simp only [List.map_toArray, List.map_cons, List.map_nil]); first | done | rfl | (simp only [List.length_drop, List.length_take]; rfl)) ?_; (with_reducible refine (cmp_isNaN_uint64.calls a0 true _ A3.out).mono ?_); rintro e w' ⟨rfl, ⟨nd, rfl⟩⟩; refine ⟨_, rfl, ?_⟩) | ((with_reducible refine gate_callee (f := 154) rfl ?_); refine goesL_ (some 10) rfl rfl Try.func154 (by kernel_rfl) rfl #[.int .u64 a1] rfl (by (try simp only [List.map_toArray, List.map_cons, List.map_nil]); first | done | rfl | (simp only [List.length_drop, List.length_take]; rfl)) ?_; (with_reducible refine (cmp_isNaN_uint64.calls a1 true _ A4.out).mono ?_); rintro e w' ⟨rfl, ⟨nd, rfl⟩⟩; refine ⟨_, rfl, ?_⟩))
      go_ret
      exact ⟨by first | rfl | (simp; done) | (simp [*]; done), by repeat (first | exact Drawn0.refl _ | apply Drawn0.step)⟩
    · replace c6 := Bool.eq_false_iff.mpr c6
      subst c6
      have H1 : (some (-1)) = some r := by rw [if_neg (show ¬ (false = true) by decide)] at H; exact H
      clear H
      have H := H1
      clear H1
      obtain rfl := Option.some.inj H
      go_enter Try.func89, Try.ntmps89
      go_wp2_with (first | ((with_reducible refine gate_callee (f := 154) rfl ?_); refine goesL_ (some 8) rfl rfl Try.func154 (by kernel_rfl) rfl #[.int .u64 a0] rfl (by (try simp only [List.map_toArray, List.map_cons, List.map_nil]); first | done | rfl | (simp only [List.length_drop, List.length_take]; rfl)) ?_; (with_reducible refine (cmp_isNaN_uint64.calls a0 true _ A3.out).mono ?_); rintro e w' ⟨rfl, ⟨nd, rfl⟩⟩; refine ⟨_, rfl, ?_⟩) | ((with_reducible refine gate_callee (f := 154) rfl ?_); refine goesL_ (some 10) rfl rfl Try.func154 (by kernel_rfl) rfl #[.int .u64 a1] rfl (by (try simp only [List.map_toArray, List.map_cons, List.map_nil]); first | done | rfl | (simp only [List.length_drop, List.length_take]; rfl)) ?_; (with_reducible refine (cmp_isNaN_uint64.calls a1 false _ A4.out).mono ?_); rintro e w' ⟨rfl, ⟨nd, rfl⟩⟩; refine ⟨_, rfl, ?_⟩))
      go_ret
      exact ⟨by first | rfl | (simp; done) | (simp [*]; done), by repeat (first | exact Drawn0.refl _ | apply Drawn0.step)⟩
  · replace c5 := Bool.eq_false_iff.mpr c5
    subst c5
    have H1 : (if t125 = true then (some 1) else (if a0 < a1 then (some (-1)) else (if a0 > a1 then (some 1) else (some 0)))) = some r := by rw [if_neg (show ¬ (false = true) by decide)] at H; exact H
    clear H
    have H := H1
    clear H1
    by_cases c7 : t125 = true
    · subst c7
      have H1 : (some 1) = some r := by rw [if_pos rfl] at H; exact H
      clear H
      have H := H1
      clear H1
      obtain rfl := Option.some.inj H
      go_enter Try.func89, Try.ntmps89
      go_wp2_with (first | ((with_reducible refine gate_callee (f := 154) rfl ?_); refine goesL_ (some 8) rfl rfl Try.func154 (by kernel_rfl) rfl #[.int .u64 a0] rfl (by (try simp only [List.map_toArray, List.map_cons, List.map_nil]); first | done | rfl | (simp only [List.length_drop, List.length_take]; rfl)) ?_; (with_reducible refine (cmp_isNaN_uint64.calls a0 false _ A3.out).mono ?_); rintro e w' ⟨rfl, ⟨nd, rfl⟩⟩; refine ⟨_, rfl, ?_⟩) | ((with_reducible refine gate_callee (f := 154) rfl ?_); refine goesL_ (some 10) rfl rfl Try.func154 (by kernel_rfl) rfl #[.int .u64 a1] rfl (by (try simp only [List.map_toArray, List.map_cons, List.map_nil]); first | done | rfl | (simp only [List.length_drop, List.length_take]; rfl)) ?_; (with_reducible refine (cmp_isNaN_uint64.calls a1 true _ A4.out).mono ?_); rintro e w' ⟨rfl, ⟨nd, rfl⟩⟩; refine ⟨_, rfl, ?_⟩))
      go_ret
      exact ⟨by first | rfl | (simp; done) | (simp [*]; done), by repeat (first | exact Drawn0.refl _ | apply Drawn0.step)⟩
    · replace c7 := Bool.eq_false_iff.mpr c7
      subst c7
      have H1 : (if a0 < a1 then (some (-1)) else (if a0 > a1 then (some 1) else (some 0))) = some r := by rw [if_neg (show ¬ (false = true) by decide)] at H; exact H
      clear H
      have H := H1
      clear H1
      by_cases c8 : a0 < a1
      · rw [if_pos c8] at H
        have c8b0 : decide (a0 < a1) = true := decide_eq_true c8
        clear c8
        obtain rfl := Option.some.inj H
        go_enter Try.func89, Try.ntmps89
        go_wp2_with (first | ((with_reducible refine gate_callee (f := 154) rfl ?_); refine goesL_ (some 8) rfl rfl Try.func154 (by kernel_rfl) rfl #[.int .u64 a0] rfl (by (try simp only [List.map_toArray, List.map_cons, List.map_nil]); first | done | rfl | (simp only [List.length_drop, List.length_take]; rfl)) ?_; (with_reducible refine (cmp_isNaN_uint64.calls a0 false _ A3.out).mono ?_); rintro e w' ⟨rfl, ⟨nd, rfl⟩⟩; refine ⟨_, rfl, ?_⟩) | ((with_reducible refine gate_callee (f := 154) rfl ?_); refine goesL_ (some 10) rfl rfl Try.func154 (by kernel_rfl) rfl #[.int .u64 a1] rfl (by (try simp only [List.map_toArray, List.map_cons, List.map_nil]); first | done | rfl | (simp only [List.length_drop, List.length_take]; rfl)) ?_; (with_reducible refine (cmp_isNaN_uint64.calls a1 false _ A4.out).mono ?_); rintro e w' ⟨rfl, ⟨nd, rfl⟩⟩; refine ⟨_, rfl, ?_⟩))
        go_ret
        exact ⟨by first | rfl | (simp; done) | (simp [*]; done), by repeat (first | exact Drawn0.refl _ | apply Drawn0.step)⟩
      · rw [if_neg c8] at H
        have c8b0 : decide (a0 < a1) = false := decide_eq_false c8
        clear c8
        by_cases c9 : a0 > a1
        · rw [if_pos c9] at H
          have c9b0 : decide (a1 < a0) = true := decide_eq_true c9
          clear c9
          obtain rfl := Option.some.inj H
          go_enter Try.func89, Try.ntmps89
          go_wp2_with (first | ((with_reducible refine gate_callee (f := 154) rfl ?_); refine goesL_ (some 8) rfl rfl Try.func154 (by kernel_rfl) rfl #[.int .u64 a0] rfl (by (try simp only [List.map_toArray, List.map_cons, List.map_nil]); first | done | rfl | (simp only [List.length_drop, List.length_take]; rfl)) ?_; (with_reducible refine (cmp_isNaN_uint64.calls a0 false _ A3.out).mono ?_); rintro e w' ⟨rfl, ⟨nd, rfl⟩⟩; refine ⟨_, rfl, ?_⟩) | ((with_reducible refine gate_callee (f := 154) rfl ?_); refine goesL_ (some 10) rfl rfl Try.func154 (by kernel_rfl) rfl #[.int .u64 a1] rfl (by (try simp only [List.map_toArray, List.map_cons, List.map_nil]); first | done | rfl | (simp only [List.length_drop, List.length_take]; rfl)) ?_; (with_reducible refine (cmp_isNaN_uint64.calls a1 false _ A4.out).mono ?_); rintro e w' ⟨rfl, ⟨nd, rfl⟩⟩; refine ⟨_, rfl, ?_⟩))
          go_ret
          exact ⟨by first | rfl | (simp; done) | (simp [*]; done), by repeat (first | exact Drawn0.refl _ | apply Drawn0.step)⟩
        · rw [if_neg c9] at H
          have c9b0 : decide (a1 < a0) = false := decide_eq_false c9
          clear c9
          obtain rfl := Option.some.inj H
          go_enter Try.func89, Try.ntmps89
          go_wp2_with (first | ((with_reducible refine gate_callee (f := 154) rfl ?_); refine goesL_ (some 8) rfl rfl Try.func154 (by kernel_rfl) rfl #[.int .u64 a0] rfl (by (try simp only [List.map_toArray, List.map_cons, List.map_nil]); first | done | rfl | (simp only [List.length_drop, List.length_take]; rfl)) ?_; (with_reducible refine (cmp_isNaN_uint64.calls a0 false _ A3.out).mono ?_); rintro e w' ⟨rfl, ⟨nd, rfl⟩⟩; refine ⟨_, rfl, ?_⟩) | ((with_reducible refine gate_callee (f := 154) rfl ?_); refine goesL_ (some 10) rfl rfl Try.func154 (by kernel_rfl) rfl #[.int .u64 a1] rfl (by (try simp only [List.map_toArray, List.map_cons, List.map_nil]); first | done | rfl | (simp only [List.length_drop, List.length_take]; rfl)) ?_; (with_reducible refine (cmp_isNaN_uint64.calls a1 false _ A4.out).mono ?_); rintro e w' ⟨rfl, ⟨nd, rfl⟩⟩; refine ⟨_, rfl, ?_⟩))
          go_ret
          exact ⟨by first | rfl | (simp; done) | (simp [*]; done), by repeat (first | exact Drawn0.refl _ | apply Drawn0.step)⟩

end Go.Proofs.Ytaoejonkiikhmaa.G

-- Text by a program of this session (gprint.py), over the kit's print.
namespace Go.Proofs.Ytaoejonkiikhmaa.G
open Go.RowKit Go.Proofs.YtaoejonkiikhmaaW.PrintWords Go.Proofs.YtaoejonkiikhmaaW.PrintLast Go.Proofs.YtaoejonkiikhmaaW.PrintMore
attribute [local go_sem] max2_int min2_int max_two min_two max_three min_three max_four min_four   -- for this text's walks alone
set_option linter.unusedVariables false
set_option linter.unusedSimpArgs false

/-! ### journal_order: function 164 -/
def journal_order.l0 : Nat → List Int → Int → Int → Option (Int)
  | 0, _, _, _ => none
  | k + 1, x5, x6, x7 => if x7 < x6 then (if 0 ≤ x7 then (if x7 < (x5.length : Int) then (if (rd x5 x7) = 0 then (journal_order.l0 k x5 x6 (wrap64 (x7 + 1))) else (some (rd x5 x7))) else (none)) else (none)) else (some 0)
def journal_order.f (k : Nat) (l0 : List Int) : Option (Int) := journal_order.l0 k l0 (l0.length : Int) 0
set_option maxHeartbeats 8000000 in
set_option maxRecDepth 100000 in
theorem journal_order.calls (k : Nat) (A0 : Option Addr) (c0 : Nat) (l0 : List Int) (r : Int) (w : World) (hr0 : Kd.C (Kd.int .i64) w A0 l0.length l0) (hc0 : l0.length ≤ c0) (h : journal_order.f k l0 = some r) :
    Calls Try.prog 164 #[.slice A0 l0.length c0] w fun e w' => e = .returned (.int .i64 r) ∧ Drawn0 w w' := by
  have HR0 := Aside0.mk hr0
  have HC0 := Aside0.mk hc0
  clear hr0 hc0
  have H : (journal_order.l0 k l0 (l0.length : Int) 0) = some r := h
  clear h
  have H' := Aside0.mk H
  clear H
  go_enter Try.func164, Try.ntmps164
  go_wp2
  go_loopg [7] k (fun kq v7 w' => ∃ (x7_1 : Int), v7 = .int .i64 x7_1 ∧ Aside0 (journal_order.l0 kq l0 (l0.length : Int) x7_1 = some r) ∧ Aside0 (kq ≤ k) ∧ Drawn0 w w')
  case atStart => exact ⟨(0), (by first | rfl | (simp; done) | (simp [*]; done)), H', ⟨Nat.le_refl _⟩, by repeat (first | exact Drawn0.refl _ | apply Drawn0.step)⟩
  case round =>
    clear H'
    try clear c1
    obtain ⟨x7_1, rfl, HA, HK1, ⟨m1, rfl⟩⟩ := hrel
    cases gk with
    | zero => exact absurd HA.out (by simp [journal_order.l0])
    | succ k1 =>
      have H := HA.out
      clear HA
      simp only [journal_order.l0] at H
      by_cases c2 : x7_1 < (l0.length : Int)
      · rw [if_pos c2] at H
        have c2b0 : decide (x7_1 < (l0.length : Int)) = true := decide_eq_true c2
        clear c2
        by_cases c3 : 0 ≤ x7_1
        · rw [if_pos c3] at H
          have c3b0 : decide (0 ≤ x7_1) = true := decide_eq_true c3
          clear c3
          by_cases c4 : x7_1 < (l0.length : Int)
          · rw [if_pos c4] at H
            have c4b0 : decide (x7_1 < (l0.length : Int)) = true := decide_eq_true c4
            clear c4
            by_cases c5 : (rd l0 x7_1) = 0
            · rw [if_pos c5] at H
              have c5b0 : ((rd l0 x7_1) == 0) = true := beq_iff_eq.mpr c5
              have c5b1 : ((rd l0 x7_1) != 0) = false := bne_eq_false_iff_eq.mpr c5
              clear c5
              have H' := Aside0.mk H
              clear H
              have p126 : 0 ≤ (x7_1 : Int) := of_decide_eq_true (by first | (with_reducible assumption) | assumption)
              have q126 : x7_1 < (l0.length : Int) := of_decide_eq_true (by first | (with_reducible assumption) | assumption)
              obtain ⟨ad126, e126, hx126_0⟩ := Kd.at_int HR0.out x7_1 p126 q126
              cases e126
              replace p126 := eq_true p126
              replace q126 := eq_true q126
              go_wp2
              go_roundg k1
              case measure => have := HK1.out; omega
              case rel => exact ⟨(wrap64 (x7_1 + 1)), (by first | rfl | (simp; done) | (simp [*]; done)), H', ⟨by have := HK1.out; omega⟩, by repeat (first | exact Drawn0.refl _ | apply Drawn0.step)⟩
            · rw [if_neg c5] at H
              have c5b0 : ((rd l0 x7_1) == 0) = false := beq_eq_false_iff_ne.mpr c5
              have c5b1 : ((rd l0 x7_1) != 0) = true := bne_iff_ne.mpr c5
              obtain rfl := Option.some.inj H
              have p126 : 0 ≤ (x7_1 : Int) := of_decide_eq_true (by first | (with_reducible assumption) | assumption)
              have q126 : x7_1 < (l0.length : Int) := of_decide_eq_true (by first | (with_reducible assumption) | assumption)
              obtain ⟨ad126, e126, hx126_0⟩ := Kd.at_int HR0.out x7_1 p126 q126
              cases e126
              replace p126 := eq_true p126
              replace q126 := eq_true q126
              go_wp2
              go_ret
              exact ⟨by first | rfl | (simp; done) | (simp [*]; done), by repeat (first | exact Drawn0.refl _ | apply Drawn0.step)⟩
          · rw [if_neg c4] at H
            exact absurd H (by simp)
        · rw [if_neg c3] at H
          exact absurd H (by simp)
      · rw [if_neg c2] at H
        have c2b0 : decide (x7_1 < (l0.length : Int)) = false := decide_eq_false c2
        clear c2
        obtain rfl := Option.some.inj H
        go_wp2
        go_ret
        exact ⟨by first | rfl | (simp; done) | (simp [*]; done), by repeat (first | exact Drawn0.refl _ | apply Drawn0.step)⟩

end Go.Proofs.Ytaoejonkiikhmaa.G

-- Text by a program of this session (gprint.py), over the kit's print.
namespace Go.Proofs.Ytaoejonkiikhmaa.G
open Go.RowKit Go.Proofs.YtaoejonkiikhmaaW.PrintWords Go.Proofs.YtaoejonkiikhmaaW.PrintLast Go.Proofs.YtaoejonkiikhmaaW.PrintMore
attribute [local go_sem] max2_int min2_int max_two min_two max_three min_three max_four min_four   -- for this text's walks alone
set_option linter.unusedVariables false
set_option linter.unusedSimpArgs false

/-! ### journal_of: function 107 -/
def journal_of.f (a0_0 : Int) (a0_1 : Int) (a0_2 : Int) (a0_3 : Int) : Option (Int × Int × Int) := some (a0_0, a0_1, a0_2)
set_option maxHeartbeats 8000000 in
set_option maxRecDepth 100000 in
theorem journal_of.calls (a0_0 : Int) (a0_1 : Int) (a0_2 : Int) (a0_3 : Int) (r1 : Int) (r2 : Int) (r3 : Int) (w : World) (h : journal_of.f a0_0 a0_1 a0_2 a0_3 = some (r1, r2, r3)) :
    Calls Try.prog 107 #[.agg #[.int .i64 a0_0, .int .u64 a0_1, .int .u64 a0_2, .int .i64 a0_3]] w fun e w' => e = .returned (.agg #[.int .i64 r1, .int .u64 r2, .int .u64 r3]) ∧ Below w.heap.size w w' := by
  have hu113 := Try.underlying113
  have hu200 := Try.underlying200
  have HB := Aside0.mk (Below.refl w.heap.size w)
  have H : (some (a0_0, a0_1, a0_2)) = some (r1, r2, r3) := h
  clear h
  simp only [Option.some.injEq, Prod.mk.injEq] at H
  obtain ⟨rfl, rfl, rfl⟩ := H
  go_enter Try.func107, Try.ntmps107
  go_wp2_with (first | ((with_reducible refine gate_dst (N := 1) rfl ?_); refine box_event ?hg (N := 1) ?hd (cs := #[.int .i64 a0_0, .int .u64 a0_1, .int .u64 a0_2, .int .i64 a0_3]) (t := 113) ?hr ?_; (case hd => rfl); (case hg => rfl); (case hr => first | (go_simp; done) | (go_simp; rfl)); intro gb120 hg w2 hbox hb; have n0_ := Aside0.mk (below_step (by repeat (first | (with_reducible first | exact HB.out | apply below_alloc | apply pw_below_drewN | apply below_drew1) | exact HB.out)) hb); have n1_ := Aside0.mk (hbox); have n2_ := Aside0.mk ((by rw [hg]; exact (below_size (by repeat (first | (with_reducible first | exact HB.out | apply below_alloc | apply pw_below_drewN | apply below_drew1) | exact HB.out))) : w.heap.size ≤ gb120)); have n3_ := Aside0.mk ((by rw [hg]; exact (below_size (by repeat (first | (with_reducible first | exact HB.out | apply below_alloc | apply pw_below_drewN | apply below_drew1) | exact HB.out))) : w.heap.size ≤ gb120)); clear HB; have HB := n0_; have BK120 := n1_; have GW120 := n2_; have GE120 := n3_; clear n0_ n1_ n2_ n3_; clear hb hbox hg) | ((with_reducible refine gate_dst (N := 2) rfl ?_); refine box_event ?hg (N := 2) ?hd (cs := #[.int .i64 0, .int .u64 0, .int .u64 0]) (t := 200) ?hr ?_; (case hd => rfl); (case hg => rfl); (case hr => first | (go_simp; done) | (go_simp; rfl)); intro gb121 hg w3 hbox hb; have n0_ := Aside0.mk (blk_below (g := gb120) (o := .cells #[.int .i64 a0_0, .int .u64 a0_1, .int .u64 a0_2, .int .i64 a0_3] 113 (0, 0)) (by (with_reducible repeat (first | refine blk_drewN ?_ _ | refine blk_drew ?_ | refine blk_alloc ?_ _)); exact BK120.out) hb); have n1_ := Aside0.mk (below_step (by repeat (first | (with_reducible first | exact HB.out | apply below_alloc | apply pw_below_drewN | apply below_drew1 | refine below_set ?_ GE120.out) | exact HB.out)) hb); have n2_ := Aside0.mk (hbox); have n3_ := Aside0.mk ((by rw [hg]; exact (below_size (by repeat (first | (with_reducible first | exact HB.out | apply below_alloc | apply pw_below_drewN | apply below_drew1 | refine below_set ?_ GE120.out) | exact HB.out))) : w.heap.size ≤ gb121)); have n4_ := Aside0.mk ((by rw [hg]; exact (below_size (by repeat (first | (with_reducible first | exact HB.out | apply below_alloc | apply pw_below_drewN | apply below_drew1 | refine below_set ?_ GE120.out) | exact HB.out))) : w.heap.size ≤ gb121)); have n5_ := Aside0.mk ((by rw [hg]; exact Nat.ne_of_lt (blk_lt (g := gb120) (o := .cells #[.int .i64 a0_0, .int .u64 a0_1, .int .u64 a0_2, .int .i64 a0_3] 113 (0, 0)) (by (with_reducible repeat (first | refine blk_drewN ?_ _ | refine blk_drew ?_ | refine blk_alloc ?_ _)); exact BK120.out)) : gb120 ≠ gb121)); have n6_ := Aside0.mk ((by rw [hg]; exact Nat.ne_of_gt (blk_lt (g := gb120) (o := .cells #[.int .i64 a0_0, .int .u64 a0_1, .int .u64 a0_2, .int .i64 a0_3] 113 (0, 0)) (by (with_reducible repeat (first | refine blk_drewN ?_ _ | refine blk_drew ?_ | refine blk_alloc ?_ _)); exact BK120.out)) : gb121 ≠ gb120)); clear BK120; clear HB; have BK120 := n0_; have HB := n1_; have BK121 := n2_; have GW121 := n3_; have GE121 := n4_; have NB120_121 := n5_; have NB121_120 := n6_; clear n0_ n1_ n2_ n3_ n4_ n5_ n6_; clear hb hbox hg; have hnb4 := NB120_121.out; have hnc4 := NB121_120.out; have hcz5_0 : w3.cell? ⟨gb120, 0, none⟩ = some (.int .i64 a0_0) := (blk_cell BK120.out 0).trans rfl; have hcz5_1 : w3.cell? ⟨gb120, 1, none⟩ = some (.int .u64 a0_1) := (blk_cell BK120.out 1).trans rfl; have hcz5_2 : w3.cell? ⟨gb120, 2, none⟩ = some (.int .u64 a0_2) := (blk_cell BK120.out 2).trans rfl; have hcz5_3 : w3.cell? ⟨gb120, 3, none⟩ = some (.int .i64 a0_3) := (blk_cell BK120.out 3).trans rfl; have hfz5_0 := blk_frozen BK120.out 0; have hfz5_1 := blk_frozen BK120.out 1; have hfz5_2 := blk_frozen BK120.out 2; have hfz5_3 := blk_frozen BK120.out 3; have hcz6_0 : w3.cell? ⟨gb121, 0, none⟩ = some (.int .i64 0) := (blk_cell BK121.out 0).trans rfl; have hcz6_1 : w3.cell? ⟨gb121, 1, none⟩ = some (.int .u64 0) := (blk_cell BK121.out 1).trans rfl; have hcz6_2 : w3.cell? ⟨gb121, 2, none⟩ = some (.int .u64 0) := (blk_cell BK121.out 2).trans rfl; have hfz6_0 := blk_frozen BK121.out 0; have hfz6_1 := blk_frozen BK121.out 1; have hfz6_2 := blk_frozen BK121.out 2))
  refine bodyPost_ret (results_cell_row rfl _ _ gb121 200 #[.int .i64 a0_0, .int .u64 a0_1, .int .u64 a0_2] (0, 0) _ rfl (by (with_reducible repeat (first | refine blk_drewN ?_ _ | refine blk_drew ?_ | refine blk_alloc ?_ _)); refine blk_put (cs := #[.int .i64 a0_0, .int .u64 a0_1, .int .u64 0]) ?_ 2 _ rfl; (with_reducible repeat (first | refine blk_drewN ?_ _ | refine blk_drew ?_ | refine blk_alloc ?_ _)); refine blk_put (cs := #[.int .i64 a0_0, .int .u64 0, .int .u64 0]) ?_ 1 _ rfl; (with_reducible repeat (first | refine blk_drewN ?_ _ | refine blk_drew ?_ | refine blk_alloc ?_ _)); refine blk_put (cs := #[.int .i64 0, .int .u64 0, .int .u64 0]) ?_ 0 _ rfl; (with_reducible repeat (first | refine blk_drewN ?_ _ | refine blk_drew ?_ | refine blk_alloc ?_ _)); exact BK121.out) Try.underlying200 rfl (by kernel_rfl)) rfl ?_
  exact ⟨by first | rfl | (simp [errW_none, errW_some] <;> rfl) | (simp [*, errW_none, errW_some] <;> rfl), by repeat (first | (with_reducible first | exact HB.out | apply below_alloc | apply pw_below_drewN | apply below_drew1 | refine below_set ?_ GE120.out | refine below_set ?_ GE121.out) | exact HB.out)⟩

end Go.Proofs.Ytaoejonkiikhmaa.G

-- Text by a program of this session (gprint.py), over the kit's print.
namespace Go.Proofs.Ytaoejonkiikhmaa.G
open Go.RowKit Go.Proofs.YtaoejonkiikhmaaW.PrintWords Go.Proofs.YtaoejonkiikhmaaW.PrintLast Go.Proofs.YtaoejonkiikhmaaW.PrintMore
attribute [local go_sem] max2_int min2_int max_two min_two max_three min_three max_four min_four   -- for this text's walks alone
set_option linter.unusedVariables false
set_option linter.unusedSimpArgs false

/-! ### journal_may: function 72 -/
def journal_may.f (a0_0 : Int) (a0_1 : Int) (a0_2 : Int) (a0_3 : Int) : Option (Bool) := if a0_0 ≥ 1 then (if a0_0 ≤ 9999 then (if a0_3 = 0 then (some false) else (if a0_3 ≥ (-4611686018427387904) then (some (decide (a0_3 ≤ 4611686018427387904))) else (some false))) else (some false)) else (some false)
set_option maxHeartbeats 8000000 in
set_option maxRecDepth 100000 in
theorem journal_may.calls (a0_0 : Int) (a0_1 : Int) (a0_2 : Int) (a0_3 : Int) (r : Bool) (w : World) (h : journal_may.f a0_0 a0_1 a0_2 a0_3 = some r) :
    Calls Try.prog 72 #[.agg #[.int .i64 a0_0, .int .u64 a0_1, .int .u64 a0_2, .int .i64 a0_3]] w fun e w' => e = .returned (.bool r) ∧ Below w.heap.size w w' := by
  have hu113 := Try.underlying113
  have HB := Aside0.mk (Below.refl w.heap.size w)
  have H : (if a0_0 ≥ 1 then (if a0_0 ≤ 9999 then (if a0_3 = 0 then (some false) else (if a0_3 ≥ (-4611686018427387904) then (some (decide (a0_3 ≤ 4611686018427387904))) else (some false))) else (some false)) else (some false)) = some r := h
  clear h
  by_cases c2 : a0_0 ≥ 1
  · rw [if_pos c2] at H
    have c2b0 : decide (1 ≤ a0_0) = true := decide_eq_true c2
    clear c2
    by_cases c3 : a0_0 ≤ 9999
    · rw [if_pos c3] at H
      have c3b0 : decide (a0_0 ≤ 9999) = true := decide_eq_true c3
      clear c3
      by_cases c4 : a0_3 = 0
      · rw [if_pos c4] at H
        have c4b0 : (a0_3 == 0) = true := beq_iff_eq.mpr c4
        have c4b1 : (a0_3 != 0) = false := bne_eq_false_iff_eq.mpr c4
        clear c4
        obtain rfl := Option.some.inj H
        go_enter Try.func72, Try.ntmps72
        go_wp2_with (first | ((with_reducible refine gate_dst (N := 1) rfl ?_); refine box_event ?hg (N := 1) ?hd (cs := #[.int .i64 a0_0, .int .u64 a0_1, .int .u64 a0_2, .int .i64 a0_3]) (t := 113) ?hr ?_; (case hd => rfl); (case hg => rfl); (case hr => first | (go_simp; done) | (go_simp; rfl)); intro gb119 hg w5 hbox hb; have n0_ := Aside0.mk (below_step (by repeat (first | (with_reducible first | exact HB.out | apply below_alloc | apply pw_below_drewN | apply below_drew1) | exact HB.out)) hb); have n1_ := Aside0.mk (hbox); have n2_ := Aside0.mk ((by rw [hg]; exact (below_size (by repeat (first | (with_reducible first | exact HB.out | apply below_alloc | apply pw_below_drewN | apply below_drew1) | exact HB.out))) : w.heap.size ≤ gb119)); have n3_ := Aside0.mk ((by rw [hg]; exact (below_size (by repeat (first | (with_reducible first | exact HB.out | apply below_alloc | apply pw_below_drewN | apply below_drew1) | exact HB.out))) : w.heap.size ≤ gb119)); clear HB; have HB := n0_; have BK119 := n1_; have GW119 := n2_; have GE119 := n3_; clear n0_ n1_ n2_ n3_; clear hb hbox hg; have hcz6_0 : w5.cell? ⟨gb119, 0, none⟩ = some (.int .i64 a0_0) := (blk_cell BK119.out 0).trans rfl; have hcz6_1 : w5.cell? ⟨gb119, 1, none⟩ = some (.int .u64 a0_1) := (blk_cell BK119.out 1).trans rfl; have hcz6_2 : w5.cell? ⟨gb119, 2, none⟩ = some (.int .u64 a0_2) := (blk_cell BK119.out 2).trans rfl; have hcz6_3 : w5.cell? ⟨gb119, 3, none⟩ = some (.int .i64 a0_3) := (blk_cell BK119.out 3).trans rfl; have hfz6_0 := blk_frozen BK119.out 0; have hfz6_1 := blk_frozen BK119.out 1; have hfz6_2 := blk_frozen BK119.out 2; have hfz6_3 := blk_frozen BK119.out 3))
        go_ret
        exact ⟨by first | rfl | (simp [errW_none, errW_some] <;> rfl) | (simp [*, errW_none, errW_some] <;> rfl), by repeat (first | (with_reducible first | exact HB.out | apply below_alloc | apply pw_below_drewN | apply below_drew1 | refine below_set ?_ GE119.out) | exact HB.out)⟩
      · rw [if_neg c4] at H
        have c4b0 : (a0_3 == 0) = false := beq_eq_false_iff_ne.mpr c4
        have c4b1 : (a0_3 != 0) = true := bne_iff_ne.mpr c4
        by_cases c7 : a0_3 ≥ (-4611686018427387904)
        · rw [if_pos c7] at H
          have c7b0 : decide ((-4611686018427387904) ≤ a0_3) = true := decide_eq_true c7
          clear c7
          obtain rfl := Option.some.inj H
          go_enter Try.func72, Try.ntmps72
          go_wp2_with (first | ((with_reducible refine gate_dst (N := 1) rfl ?_); refine box_event ?hg (N := 1) ?hd (cs := #[.int .i64 a0_0, .int .u64 a0_1, .int .u64 a0_2, .int .i64 a0_3]) (t := 113) ?hr ?_; (case hd => rfl); (case hg => rfl); (case hr => first | (go_simp; done) | (go_simp; rfl)); intro gb119 hg w8 hbox hb; have n0_ := Aside0.mk (below_step (by repeat (first | (with_reducible first | exact HB.out | apply below_alloc | apply pw_below_drewN | apply below_drew1) | exact HB.out)) hb); have n1_ := Aside0.mk (hbox); have n2_ := Aside0.mk ((by rw [hg]; exact (below_size (by repeat (first | (with_reducible first | exact HB.out | apply below_alloc | apply pw_below_drewN | apply below_drew1) | exact HB.out))) : w.heap.size ≤ gb119)); have n3_ := Aside0.mk ((by rw [hg]; exact (below_size (by repeat (first | (with_reducible first | exact HB.out | apply below_alloc | apply pw_below_drewN | apply below_drew1) | exact HB.out))) : w.heap.size ≤ gb119)); clear HB; have HB := n0_; have BK119 := n1_; have GW119 := n2_; have GE119 := n3_; clear n0_ n1_ n2_ n3_; clear hb hbox hg; have hcz9_0 : w8.cell? ⟨gb119, 0, none⟩ = some (.int .i64 a0_0) := (blk_cell BK119.out 0).trans rfl; have hcz9_1 : w8.cell? ⟨gb119, 1, none⟩ = some (.int .u64 a0_1) := (blk_cell BK119.out 1).trans rfl; have hcz9_2 : w8.cell? ⟨gb119, 2, none⟩ = some (.int .u64 a0_2) := (blk_cell BK119.out 2).trans rfl; have hcz9_3 : w8.cell? ⟨gb119, 3, none⟩ = some (.int .i64 a0_3) := (blk_cell BK119.out 3).trans rfl; have hfz9_0 := blk_frozen BK119.out 0; have hfz9_1 := blk_frozen BK119.out 1; have hfz9_2 := blk_frozen BK119.out 2; have hfz9_3 := blk_frozen BK119.out 3))
          go_ret
          exact ⟨by first | rfl | (simp [errW_none, errW_some] <;> rfl) | (simp [*, errW_none, errW_some] <;> rfl), by repeat (first | (with_reducible first | exact HB.out | apply below_alloc | apply pw_below_drewN | apply below_drew1 | refine below_set ?_ GE119.out) | exact HB.out)⟩
        · rw [if_neg c7] at H
          have c7b0 : decide ((-4611686018427387904) ≤ a0_3) = false := decide_eq_false c7
          clear c7
          obtain rfl := Option.some.inj H
          go_enter Try.func72, Try.ntmps72
          go_wp2_with (first | ((with_reducible refine gate_dst (N := 1) rfl ?_); refine box_event ?hg (N := 1) ?hd (cs := #[.int .i64 a0_0, .int .u64 a0_1, .int .u64 a0_2, .int .i64 a0_3]) (t := 113) ?hr ?_; (case hd => rfl); (case hg => rfl); (case hr => first | (go_simp; done) | (go_simp; rfl)); intro gb119 hg w10 hbox hb; have n0_ := Aside0.mk (below_step (by repeat (first | (with_reducible first | exact HB.out | apply below_alloc | apply pw_below_drewN | apply below_drew1) | exact HB.out)) hb); have n1_ := Aside0.mk (hbox); have n2_ := Aside0.mk ((by rw [hg]; exact (below_size (by repeat (first | (with_reducible first | exact HB.out | apply below_alloc | apply pw_below_drewN | apply below_drew1) | exact HB.out))) : w.heap.size ≤ gb119)); have n3_ := Aside0.mk ((by rw [hg]; exact (below_size (by repeat (first | (with_reducible first | exact HB.out | apply below_alloc | apply pw_below_drewN | apply below_drew1) | exact HB.out))) : w.heap.size ≤ gb119)); clear HB; have HB := n0_; have BK119 := n1_; have GW119 := n2_; have GE119 := n3_; clear n0_ n1_ n2_ n3_; clear hb hbox hg; have hcz11_0 : w10.cell? ⟨gb119, 0, none⟩ = some (.int .i64 a0_0) := (blk_cell BK119.out 0).trans rfl; have hcz11_1 : w10.cell? ⟨gb119, 1, none⟩ = some (.int .u64 a0_1) := (blk_cell BK119.out 1).trans rfl; have hcz11_2 : w10.cell? ⟨gb119, 2, none⟩ = some (.int .u64 a0_2) := (blk_cell BK119.out 2).trans rfl; have hcz11_3 : w10.cell? ⟨gb119, 3, none⟩ = some (.int .i64 a0_3) := (blk_cell BK119.out 3).trans rfl; have hfz11_0 := blk_frozen BK119.out 0; have hfz11_1 := blk_frozen BK119.out 1; have hfz11_2 := blk_frozen BK119.out 2; have hfz11_3 := blk_frozen BK119.out 3))
          go_ret
          exact ⟨by first | rfl | (simp [errW_none, errW_some] <;> rfl) | (simp [*, errW_none, errW_some] <;> rfl), by repeat (first | (with_reducible first | exact HB.out | apply below_alloc | apply pw_below_drewN | apply below_drew1 | refine below_set ?_ GE119.out) | exact HB.out)⟩
    · rw [if_neg c3] at H
      have c3b0 : decide (a0_0 ≤ 9999) = false := decide_eq_false c3
      clear c3
      obtain rfl := Option.some.inj H
      go_enter Try.func72, Try.ntmps72
      go_wp2_with (first | ((with_reducible refine gate_dst (N := 1) rfl ?_); refine box_event ?hg (N := 1) ?hd (cs := #[.int .i64 a0_0, .int .u64 a0_1, .int .u64 a0_2, .int .i64 a0_3]) (t := 113) ?hr ?_; (case hd => rfl); (case hg => rfl); (case hr => first | (go_simp; done) | (go_simp; rfl)); intro gb119 hg w12 hbox hb; have n0_ := Aside0.mk (below_step (by repeat (first | (with_reducible first | exact HB.out | apply below_alloc | apply pw_below_drewN | apply below_drew1) | exact HB.out)) hb); have n1_ := Aside0.mk (hbox); have n2_ := Aside0.mk ((by rw [hg]; exact (below_size (by repeat (first | (with_reducible first | exact HB.out | apply below_alloc | apply pw_below_drewN | apply below_drew1) | exact HB.out))) : w.heap.size ≤ gb119)); have n3_ := Aside0.mk ((by rw [hg]; exact (below_size (by repeat (first | (with_reducible first | exact HB.out | apply below_alloc | apply pw_below_drewN | apply below_drew1) | exact HB.out))) : w.heap.size ≤ gb119)); clear HB; have HB := n0_; have BK119 := n1_; have GW119 := n2_; have GE119 := n3_; clear n0_ n1_ n2_ n3_; clear hb hbox hg; have hcz13_0 : w12.cell? ⟨gb119, 0, none⟩ = some (.int .i64 a0_0) := (blk_cell BK119.out 0).trans rfl; have hcz13_1 : w12.cell? ⟨gb119, 1, none⟩ = some (.int .u64 a0_1) := (blk_cell BK119.out 1).trans rfl; have hcz13_2 : w12.cell? ⟨gb119, 2, none⟩ = some (.int .u64 a0_2) := (blk_cell BK119.out 2).trans rfl; have hcz13_3 : w12.cell? ⟨gb119, 3, none⟩ = some (.int .i64 a0_3) := (blk_cell BK119.out 3).trans rfl; have hfz13_0 := blk_frozen BK119.out 0; have hfz13_1 := blk_frozen BK119.out 1; have hfz13_2 := blk_frozen BK119.out 2; have hfz13_3 := blk_frozen BK119.out 3))
      go_ret
      exact ⟨by first | rfl | (simp [errW_none, errW_some] <;> rfl) | (simp [*, errW_none, errW_some] <;> rfl), by repeat (first | (with_reducible first | exact HB.out | apply below_alloc | apply pw_below_drewN | apply below_drew1 | refine below_set ?_ GE119.out) | exact HB.out)⟩
  · rw [if_neg c2] at H
    have c2b0 : decide (1 ≤ a0_0) = false := decide_eq_false c2
    clear c2
    obtain rfl := Option.some.inj H
    go_enter Try.func72, Try.ntmps72
    go_wp2_with (first | ((with_reducible refine gate_dst (N := 1) rfl ?_); refine box_event ?hg (N := 1) ?hd (cs := #[.int .i64 a0_0, .int .u64 a0_1, .int .u64 a0_2, .int .i64 a0_3]) (t := 113) ?hr ?_; (case hd => rfl); (case hg => rfl); (case hr => first | (go_simp; done) | (go_simp; rfl)); intro gb119 hg w14 hbox hb; have n0_ := Aside0.mk (below_step (by repeat (first | (with_reducible first | exact HB.out | apply below_alloc | apply pw_below_drewN | apply below_drew1) | exact HB.out)) hb); have n1_ := Aside0.mk (hbox); have n2_ := Aside0.mk ((by rw [hg]; exact (below_size (by repeat (first | (with_reducible first | exact HB.out | apply below_alloc | apply pw_below_drewN | apply below_drew1) | exact HB.out))) : w.heap.size ≤ gb119)); have n3_ := Aside0.mk ((by rw [hg]; exact (below_size (by repeat (first | (with_reducible first | exact HB.out | apply below_alloc | apply pw_below_drewN | apply below_drew1) | exact HB.out))) : w.heap.size ≤ gb119)); clear HB; have HB := n0_; have BK119 := n1_; have GW119 := n2_; have GE119 := n3_; clear n0_ n1_ n2_ n3_; clear hb hbox hg; have hcz15_0 : w14.cell? ⟨gb119, 0, none⟩ = some (.int .i64 a0_0) := (blk_cell BK119.out 0).trans rfl; have hcz15_1 : w14.cell? ⟨gb119, 1, none⟩ = some (.int .u64 a0_1) := (blk_cell BK119.out 1).trans rfl; have hcz15_2 : w14.cell? ⟨gb119, 2, none⟩ = some (.int .u64 a0_2) := (blk_cell BK119.out 2).trans rfl; have hcz15_3 : w14.cell? ⟨gb119, 3, none⟩ = some (.int .i64 a0_3) := (blk_cell BK119.out 3).trans rfl; have hfz15_0 := blk_frozen BK119.out 0; have hfz15_1 := blk_frozen BK119.out 1; have hfz15_2 := blk_frozen BK119.out 2; have hfz15_3 := blk_frozen BK119.out 3))
    go_ret
    exact ⟨by first | rfl | (simp [errW_none, errW_some] <;> rfl) | (simp [*, errW_none, errW_some] <;> rfl), by repeat (first | (with_reducible first | exact HB.out | apply below_alloc | apply pw_below_drewN | apply below_drew1 | refine below_set ?_ GE119.out) | exact HB.out)⟩

end Go.Proofs.Ytaoejonkiikhmaa.G

-- Text by a program of this session (gprint.py), over the kit's print.
namespace Go.Proofs.Ytaoejonkiikhmaa.G
open Go.RowKit Go.Proofs.YtaoejonkiikhmaaW.PrintWords Go.Proofs.YtaoejonkiikhmaaW.PrintLast Go.Proofs.YtaoejonkiikhmaaW.PrintMore
attribute [local go_sem] max2_int min2_int max_two min_two max_three min_three max_four min_four   -- for this text's walks alone
set_option linter.unusedVariables false
set_option linter.unusedSimpArgs false

/-! ### chart_Standard: function 115 -/
def chart_Standard.f  : Option ((List (S121))) := some (([(⟨1100, 0, 1, (⟨#[67, 97, 115, 104]⟩ : ByteArray), false⟩ : S121), (⟨1200, 0, 1, (⟨#[82, 101, 99, 101, 105, 118, 97, 98, 108, 101]⟩ : ByteArray), false⟩ : S121), (⟨2100, 0, 2, (⟨#[68, 101, 102, 101, 114, 114, 101, 100]⟩ : ByteArray), false⟩ : S121), (⟨2200, 0, 2, (⟨#[85, 110, 97, 112, 112, 108, 105, 101, 100]⟩ : ByteArray), false⟩ : S121), (⟨3100, 0, 3, (⟨#[82, 101, 118, 101, 110, 117, 101]⟩ : ByteArray), false⟩ : S121), (⟨4100, 0, 4, (⟨#[76, 111, 115, 116]⟩ : ByteArray), false⟩ : S121)] : List (S121)))
set_option maxHeartbeats 8000000 in
set_option maxRecDepth 100000 in
theorem chart_Standard.calls  (r : List (S121)) (w : World) (h : chart_Standard.f  = some r) :
    Calls Try.prog 115 #[] w fun e w' => ∃ v0_ : Value, e = .returned (v0_) ∧ Kd.R k121 121 w' w.heap.size (fun _ => True) v0_ r ∧ Below w.heap.size w w' := by
  have hu121 := Try.underlying121
  have HB := Aside0.mk (Below.refl w.heap.size w)
  have H : (some (([(⟨1100, 0, 1, (⟨#[67, 97, 115, 104]⟩ : ByteArray), false⟩ : S121), (⟨1200, 0, 1, (⟨#[82, 101, 99, 101, 105, 118, 97, 98, 108, 101]⟩ : ByteArray), false⟩ : S121), (⟨2100, 0, 2, (⟨#[68, 101, 102, 101, 114, 114, 101, 100]⟩ : ByteArray), false⟩ : S121), (⟨2200, 0, 2, (⟨#[85, 110, 97, 112, 112, 108, 105, 101, 100]⟩ : ByteArray), false⟩ : S121), (⟨3100, 0, 3, (⟨#[82, 101, 118, 101, 110, 117, 101]⟩ : ByteArray), false⟩ : S121), (⟨4100, 0, 4, (⟨#[76, 111, 115, 116]⟩ : ByteArray), false⟩ : S121)] : List (S121)))) = some r := h
  clear h
  obtain ⟨y1061, hy1061⟩ : ∃ y_ : List (S121), y_ = (([(⟨1100, 0, 1, (⟨#[67, 97, 115, 104]⟩ : ByteArray), false⟩ : S121), (⟨1200, 0, 1, (⟨#[82, 101, 99, 101, 105, 118, 97, 98, 108, 101]⟩ : ByteArray), false⟩ : S121), (⟨2100, 0, 2, (⟨#[68, 101, 102, 101, 114, 114, 101, 100]⟩ : ByteArray), false⟩ : S121), (⟨2200, 0, 2, (⟨#[85, 110, 97, 112, 112, 108, 105, 101, 100]⟩ : ByteArray), false⟩ : S121), (⟨3100, 0, 3, (⟨#[82, 101, 118, 101, 110, 117, 101]⟩ : ByteArray), false⟩ : S121), (⟨4100, 0, 4, (⟨#[76, 111, 115, 116]⟩ : ByteArray), false⟩ : S121)] : List (S121))) := ⟨_, rfl⟩
  replace H : (some y1061) = some r := by first | (rw [hy1061]; with_reducible exact H) | (have H2_ := (Option.bind_some _ _).symm.trans H; rw [hy1061]; with_reducible exact H2_) | (have H2_ := (Option.bind_some _ _).symm.trans H; with_reducible exact H2_) | with_reducible exact H | (rw [hy1061]; exact H) | exact H
  have Ny1061 := Aside0.mk hy1061
  clear hy1061
  obtain rfl := Option.some.inj H
  go_enter Try.func115, Try.ntmps115
  go_wp2_with (first | ((with_reducible refine gate_dst (N := 7) rfl ?_); refine Kd.R_lit k121 _ 121 ?hg (N := 7) ?hd (xs := ([(⟨1100, 0, 1, (⟨#[67, 97, 115, 104]⟩ : ByteArray), false⟩ : S121), (⟨1200, 0, 1, (⟨#[82, 101, 99, 101, 105, 118, 97, 98, 108, 101]⟩ : ByteArray), false⟩ : S121), (⟨2100, 0, 2, (⟨#[68, 101, 102, 101, 114, 114, 101, 100]⟩ : ByteArray), false⟩ : S121), (⟨2200, 0, 2, (⟨#[85, 110, 97, 112, 112, 108, 105, 101, 100]⟩ : ByteArray), false⟩ : S121), (⟨3100, 0, 3, (⟨#[82, 101, 118, 101, 110, 117, 101]⟩ : ByteArray), false⟩ : S121), (⟨4100, 0, 4, (⟨#[76, 111, 115, 116]⟩ : ByteArray), false⟩ : S121)] : List (S121))) (inner := [.int .i64 1100, .int .i64 0, .int .u8 1, .string (⟨#[67, 97, 115, 104]⟩ : ByteArray), .bool false, .int .i64 1200, .int .i64 0, .int .u8 1, .string (⟨#[82, 101, 99, 101, 105, 118, 97, 98, 108, 101]⟩ : ByteArray), .bool false, .int .i64 2100, .int .i64 0, .int .u8 2, .string (⟨#[68, 101, 102, 101, 114, 114, 101, 100]⟩ : ByteArray), .bool false, .int .i64 2200, .int .i64 0, .int .u8 2, .string (⟨#[85, 110, 97, 112, 112, 108, 105, 101, 100]⟩ : ByteArray), .bool false, .int .i64 3100, .int .i64 0, .int .u8 3, .string (⟨#[82, 101, 118, 101, 110, 117, 101]⟩ : ByteArray), .bool false, .int .i64 4100, .int .i64 0, .int .u8 4, .string (⟨#[76, 111, 115, 116]⟩ : ByteArray), .bool false]) (ok := fun _ => True) (okp := fun _ => True) ?hr ?hp (fun _ hk => hk) trivial (Below.refl _ _) (Nat.le_refl _) (by simp) ?_; (case hd => rfl); (case hg => rfl); (case hr => first | (go_simp; done) | (go_simp; rfl)); (case hp => exact (Reps.c5 (show Kd.M k121 _ _ _ (⟨1100, 0, 1, (⟨#[67, 97, 115, 104]⟩ : ByteArray), false⟩ : S121) [.int .i64 1100, .int .i64 0, .int .u8 1, .string (⟨#[67, 97, 115, 104]⟩ : ByteArray), .bool false] from (k121_mkM _ _ _ (⟨1100, 0, 1, (⟨#[67, 97, 115, 104]⟩ : ByteArray), false⟩ : S121) )) (Reps.c5 (show Kd.M k121 _ _ _ (⟨1200, 0, 1, (⟨#[82, 101, 99, 101, 105, 118, 97, 98, 108, 101]⟩ : ByteArray), false⟩ : S121) [.int .i64 1200, .int .i64 0, .int .u8 1, .string (⟨#[82, 101, 99, 101, 105, 118, 97, 98, 108, 101]⟩ : ByteArray), .bool false] from (k121_mkM _ _ _ (⟨1200, 0, 1, (⟨#[82, 101, 99, 101, 105, 118, 97, 98, 108, 101]⟩ : ByteArray), false⟩ : S121) )) (Reps.c5 (show Kd.M k121 _ _ _ (⟨2100, 0, 2, (⟨#[68, 101, 102, 101, 114, 114, 101, 100]⟩ : ByteArray), false⟩ : S121) [.int .i64 2100, .int .i64 0, .int .u8 2, .string (⟨#[68, 101, 102, 101, 114, 114, 101, 100]⟩ : ByteArray), .bool false] from (k121_mkM _ _ _ (⟨2100, 0, 2, (⟨#[68, 101, 102, 101, 114, 114, 101, 100]⟩ : ByteArray), false⟩ : S121) )) (Reps.c5 (show Kd.M k121 _ _ _ (⟨2200, 0, 2, (⟨#[85, 110, 97, 112, 112, 108, 105, 101, 100]⟩ : ByteArray), false⟩ : S121) [.int .i64 2200, .int .i64 0, .int .u8 2, .string (⟨#[85, 110, 97, 112, 112, 108, 105, 101, 100]⟩ : ByteArray), .bool false] from (k121_mkM _ _ _ (⟨2200, 0, 2, (⟨#[85, 110, 97, 112, 112, 108, 105, 101, 100]⟩ : ByteArray), false⟩ : S121) )) (Reps.c5 (show Kd.M k121 _ _ _ (⟨3100, 0, 3, (⟨#[82, 101, 118, 101, 110, 117, 101]⟩ : ByteArray), false⟩ : S121) [.int .i64 3100, .int .i64 0, .int .u8 3, .string (⟨#[82, 101, 118, 101, 110, 117, 101]⟩ : ByteArray), .bool false] from (k121_mkM _ _ _ (⟨3100, 0, 3, (⟨#[82, 101, 118, 101, 110, 117, 101]⟩ : ByteArray), false⟩ : S121) )) (Reps.c5 (show Kd.M k121 _ _ _ (⟨4100, 0, 4, (⟨#[76, 111, 115, 116]⟩ : ByteArray), false⟩ : S121) [.int .i64 4100, .int .i64 0, .int .u8 4, .string (⟨#[76, 111, 115, 116]⟩ : ByteArray), .bool false] from (k121_mkM _ _ _ (⟨4100, 0, 4, (⟨#[76, 111, 115, 116]⟩ : ByteArray), false⟩ : S121) )) (Reps.none _ _)))))))); intro v1062 w1 ho2 hb hg_ hnew_; clear hg_ hnew_; (first | rw [← Ny1061.out] at ho2 | (simp only [Int.reduceToNat] at ho2; rw [← Ny1061.out] at ho2)); have n0_ := Aside0.mk (Kd.R_lower ho2 (below_size (by repeat (first | (with_reducible first | exact HB.out | apply below_alloc | apply pw_below_drewN | apply below_drew1) | exact HB.out)))); have n1_ := Aside0.mk (below_step (by repeat (first | (with_reducible first | exact HB.out | apply below_alloc | apply pw_below_drewN | apply below_drew1) | exact HB.out)) hb); clear HB; have HO1063 := n0_; have HB := n1_; clear n0_ n1_; clear hb ho2))
  go_ret
  exact ⟨_, by first | rfl | (simp [errW_none, errW_some] <;> rfl) | (simp [*, errW_none, errW_some] <;> rfl), by (with_reducible repeat (first | apply Kd.R_alloc | apply Kd.R_drewN | apply Kd.R_drew)); exact HO1063.out, by repeat (first | (with_reducible first | exact HB.out | apply below_alloc | apply pw_below_drewN | apply below_drew1) | exact HB.out)⟩

end Go.Proofs.Ytaoejonkiikhmaa.G

-- Text by a program of this session (gprint.py), over the kit's print.
namespace Go.Proofs.Ytaoejonkiikhmaa.G
open Go.RowKit Go.Proofs.YtaoejonkiikhmaaW.PrintWords Go.Proofs.YtaoejonkiikhmaaW.PrintLast Go.Proofs.YtaoejonkiikhmaaW.PrintMore
attribute [local go_sem] max2_int min2_int max_two min_two max_three min_three max_four min_four   -- for this text's walks alone
set_option linter.unusedVariables false
set_option linter.unusedSimpArgs false

/-! ### slices_Reverse_byte_byte: function 171 -/
def slices_Reverse_byte_byte.l0 : Nat → List Int → Int → Int → Option (List Int)
  | 0, _, _, _ => none
  | k + 1, x0, x2, x3 => if x2 < x3 then (if 0 ≤ x3 then (if x3 < (x0.length : Int) then (if 0 ≤ x2 then (if x2 < (x0.length : Int) then (slices_Reverse_byte_byte.l0 k ((x0.set (x2 : Int).toNat (rd x0 x3)).set (x3 : Int).toNat (rd x0 x2)) (wrap64 (x2 + 1)) (wrap64 (x3 - 1))) else (none)) else (none)) else (none)) else (none)) else (some x0)
def slices_Reverse_byte_byte.f (k : Nat) (l0 : List Int) : Option (List Int) := slices_Reverse_byte_byte.l0 k l0 0 (wrap64 ((l0.length : Int) - 1))
def slices_Reverse_byte_byte.T3 : Bool × List (List Nat × List Nat) := (true, [([], []), ([], []), ([], []), ([], []), ([], []), ([], []), ([4, 5], [4, 5]), ([6], [6]), ([], []), ([], []), ([8, 9], [8, 9]), ([10], [10]), ([0, 1, 0, 1, 4, 5, 6, 7, 11], [0, 1]), ([12, 7, 0, 1, 4, 5, 6, 7, 11], [7, 12]), ([2, 3, 0, 1, 2, 3, 4, 5, 6, 7, 8, 9, 10, 11, 12, 13], [2, 3]), ([14, 11, 13, 0, 1, 2, 3, 4, 5, 6, 7, 8, 9, 10, 11, 12, 13], [11, 14])])
def slices_Reverse_byte_byte.B3 : List Nat := [0, 0, 0, 0, 0, 0, 48, 112, 0, 0, 768, 1792, 4083, 8179, 16383, 32767]
theorem slices_Reverse_byte_byte.tab3 : rtab .any (opsOf Try.f171 3) = slices_Reverse_byte_byte.T3 := by kernel_rfl
theorem slices_Reverse_byte_byte.bits3 : waitsOk slices_Reverse_byte_byte.T3.2 slices_Reverse_byte_byte.B3 = true := by kernel_rfl
set_option maxHeartbeats 8000000 in
set_option maxRecDepth 100000 in
theorem slices_Reverse_byte_byte.calls (k : Nat) (P0_ : Nat → Prop) (u9000_ : Value) (l0 : List Int) (r : List Int) (w0 w : World) (hB : Below w0.heap.size w0 w) (ho0 : Kd.R (Kd.int .u8) 5 w w0.heap.size P0_ u9000_ l0) (h : slices_Reverse_byte_byte.f k l0 = some r) :
    Calls Try.prog 171 #[u9000_] w fun e w' => e = .returned (.tuple #[]) ∧ Kd.R (Kd.int .u8) 5 w' w0.heap.size (fun k_ => (P0_ k_ ∨ w.heap.size ≤ k_)) u9000_ r ∧ Below w0.heap.size w0 w' ∧ Kept w w' (fun k_ => P0_ k_) := by
  have HO0 := Aside0.mk (show Kd.R (Kd.int .u8) 5 w w0.heap.size (fun k_ => (P0_ k_ ∨ w.heap.size ≤ k_)) u9000_ l0 from Kd.R_mono ho0 (fun k_ hk => (.inl hk)))
  have HK := Aside0.mk (Kept.refl w (fun k_ => P0_ k_))
  have HW0 := Aside0.mk hB.size
  have HB := Aside0.mk hB
  clear hB
  have H : (slices_Reverse_byte_byte.l0 k l0 0 (wrap64 ((l0.length : Int) - 1))) = some r := h
  clear h
  have H' := Aside0.mk H
  clear H
  obtain ⟨Ao2, co2, eo2⟩ := Kd.R_slice HO0.out
  subst eo2
  go_enter Try.func171, Try.ntmps171
  go_wp2
  go_loopg [2, 3] k (fun kq v2 v3 w' => ∃ (x0_1 : List Int) (x2_1 : Int) (x3_1 : Int), v2 = .int .i64 x2_1 ∧ v3 = .int .i64 x3_1 ∧ Aside0 (slices_Reverse_byte_byte.l0 kq x0_1 x2_1 x3_1 = some r) ∧ Aside0 (kq ≤ k) ∧ Aside0 (Kd.R (Kd.int .u8) 5 w' w0.heap.size (fun k_ => (P0_ k_ ∨ w.heap.size ≤ k_)) (.slice Ao2 l0.length co2) x0_1) ∧ Aside0 (Kept w w' (fun k_ => P0_ k_)) ∧ Aside0 (Below w0.heap.size w0 w'))
  case atStart => exact ⟨(l0), (0), (wrap64 ((l0.length : Int) - 1)), (by first | rfl | (simp; done) | (simp [*]; done)), (by first | rfl | (simp; done) | (simp [*]; done)), H', ⟨Nat.le_refl _⟩, ⟨by (with_reducible repeat (first | apply Kd.R_alloc | apply Kd.R_drewN | apply Kd.R_drew)); exact HO0.out⟩, ⟨by repeat (first | (with_reducible first | exact HK.out | apply Kept.alloc | apply Kept.drewN | apply Kept.drew) | exact HK.out)⟩, ⟨by repeat (first | (with_reducible first | exact HB.out | apply below_alloc | apply pw_below_drewN | apply below_drew1) | exact HB.out)⟩⟩
  case round =>
    clear H'
    try clear c1
    try clear p2
    obtain ⟨x0_1, x2_1, x3_1, rfl, rfl, HA, HK1, HO_0, HK, HB⟩ := hrel
    have hl0_1 := (Kd.R_reads' HO_0.out).1
    rw [hl0_1] at HO_0
    (try simp only [hl0_1])
    cases gk with
    | zero => exact absurd HA.out (by simp [slices_Reverse_byte_byte.l0])
    | succ k1 =>
      have H := HA.out
      clear HA
      simp only [slices_Reverse_byte_byte.l0] at H
      by_cases c3 : x2_1 < x3_1
      · rw [if_pos c3] at H
        have c3b0 : decide (x2_1 < x3_1) = true := decide_eq_true c3
        clear c3
        by_cases c4 : 0 ≤ x3_1
        · rw [if_pos c4] at H
          have c4b0 : decide (0 ≤ x3_1) = true := decide_eq_true c4
          clear c4
          by_cases c5 : x3_1 < (x0_1.length : Int)
          · rw [if_pos c5] at H
            have c5b0 : decide (x3_1 < (x0_1.length : Int)) = true := decide_eq_true c5
            clear c5
            by_cases c6 : 0 ≤ x2_1
            · rw [if_pos c6] at H
              have c6b0 : decide (0 ≤ x2_1) = true := decide_eq_true c6
              clear c6
              by_cases c7 : x2_1 < (x0_1.length : Int)
              · rw [if_pos c7] at H
                have c7b0 : decide (x2_1 < (x0_1.length : Int)) = true := decide_eq_true c7
                clear c7
                obtain ⟨y1167, hy1167⟩ : ∃ y_ : List Int, y_ = (x0_1.set (x2_1 : Int).toNat (rd x0_1 x3_1)) := ⟨_, rfl⟩
                replace H : (slices_Reverse_byte_byte.l0 k1 (y1167.set (x3_1 : Int).toNat (rd x0_1 x2_1)) (wrap64 (x2_1 + 1)) (wrap64 (x3_1 - 1))) = some r := by first | (rw [hy1167]; with_reducible exact H) | (have H2_ := (Option.bind_some _ _).symm.trans H; rw [hy1167]; with_reducible exact H2_) | (have H2_ := (Option.bind_some _ _).symm.trans H; with_reducible exact H2_) | with_reducible exact H | (rw [hy1167]; exact H) | exact H
                have Ny1167 := Aside0.mk hy1167
                clear hy1167
                obtain ⟨y1168, hy1168⟩ : ∃ y_ : List Int, y_ = (y1167.set (x3_1 : Int).toNat (rd x0_1 x2_1)) := ⟨_, rfl⟩
                replace H : (slices_Reverse_byte_byte.l0 k1 y1168 (wrap64 (x2_1 + 1)) (wrap64 (x3_1 - 1))) = some r := by first | (rw [hy1168]; with_reducible exact H) | (have H2_ := (Option.bind_some _ _).symm.trans H; rw [hy1168]; with_reducible exact H2_) | (have H2_ := (Option.bind_some _ _).symm.trans H; with_reducible exact H2_) | with_reducible exact H | (rw [hy1168]; exact H) | exact H
                have Ny1168 := Aside0.mk hy1168
                clear hy1168
                have H' := Aside0.mk H
                clear H
                try go_wp2
                have n0_ := Aside0.mk (Kd.R_drew HO_0.out)
                have n1_ := Aside0.mk (Kept.drew HK.out)
                have n2_ := Aside0.mk (below_drew1 HB.out)
                clear HO_0
                clear HK
                clear HB
                have HO_0 := n0_
                have HK := n1_
                have HB := n2_
                clear n0_ n1_ n2_
                have p1165 : 0 ≤ (x3_1 : Int) := of_decide_eq_true (by first | (with_reducible assumption) | assumption)
                have q1165 : x3_1 < (x0_1.length : Int) := of_decide_eq_true (by first | (with_reducible assumption) | assumption)
                obtain ⟨ad1165, e1165, hx1165_0⟩ := Kd.at_int (Kd.R_reads' HO_0.out).2.2 x3_1 p1165 q1165
                cases e1165
                replace p1165 := eq_true p1165
                replace q1165 := eq_true q1165
                have p1166 : 0 ≤ (x2_1 : Int) := of_decide_eq_true (by first | (with_reducible assumption) | assumption)
                have q1166 : x2_1 < (x0_1.length : Int) := of_decide_eq_true (by first | (with_reducible assumption) | assumption)
                obtain ⟨ad1166, e1166, hx1166_0⟩ := Kd.at_int (Kd.R_reads' HO_0.out).2.2 x2_1 p1166 q1166
                obtain rfl : ad1165 = ad1166 := (by injection e1166)
                replace p1166 := eq_true p1166
                replace q1166 := eq_true q1166
                have p8 : 0 ≤ (x2_1 : Int) := of_decide_eq_true (by first | (with_reducible assumption) | assumption)
                have q8 : (x2_1 : Int) < ((x0_1.length : Int) : Int) := of_decide_eq_true (by first | (with_reducible assumption) | assumption)
                obtain ⟨go8, co8, eo8, gb8, gl8, cl8, HG8⟩ := Kd.R_form HO_0.out (by omega)
                (first | cases eo8 | (injection eo8 with ea_ en_ ec_; (first | subst ea_ | (injection ea_ with ea_; subst ea_)); subst ec_; clear en_))
                have GB8 := Aside0.mk gb8
                have GG8 := Aside0.mk HG8
                clear gb8 gl8 HG8
                have HMgo8 := Aside0.mk (show (P0_ go8 ∨ w.heap.size ≤ go8) from (HO_0.out.1 _ rfl))
                (first | simp only [add_plain] at hx1165_0 | skip)
                (first | simp only [add_plain] at hx1166_0 | skip)
                obtain ⟨hx8_0, hf8_0⟩ := Kd.R_celln 0 HO_0.out (x2_1 : Int) p8 q8
                replace p8 := eq_true p8
                replace q8 := eq_true q8
                have HP11 := Kd.R_putn HO_0.out (x2_1 : Int) (rd x0_1 x3_1)
                rw [← Ny1167.out] at HP11
                have HQ11 := Aside0.mk HP11
                clear HP11
                have p9 : 0 ≤ (x3_1 : Int) := of_decide_eq_true (by first | (with_reducible assumption) | assumption)
                have q9 : (x3_1 : Int) < ((x0_1.length : Int) : Int) := of_decide_eq_true (by first | (with_reducible assumption) | assumption)
                obtain ⟨hx9_0, hf9_0⟩ := Kd.R_celln 0 HQ11.out (x3_1 : Int) p9 q9
                replace p9 := eq_true p9
                replace q9 := eq_true q9
                have HP12 := Kd.R_putn HQ11.out (x3_1 : Int) (rd x0_1 x2_1)
                rw [← Ny1168.out] at HP12
                have HQ12 := Aside0.mk HP12
                clear HP12
                refine start_ (n := 16) (S := fun w' => w'.cell? ⟨go8, (x3_1).toNat, none⟩ = some (.int .u8 (rd x0_1 x3_1)) ∧ w'.cell? ⟨go8, (x2_1).toNat, none⟩ = some (.int .u8 (rd x0_1 x2_1))) (ds := [13, 15]) #[false, false, false, false, false, false, false, false, false, false, false, false, false, false, false, false] (by kernel_rfl) rfl rfl ⟨hx1165_0, hx1166_0⟩ (fun hHeld => ?_); refine with_tabW slices_Reverse_byte_byte.tab3 slices_Reverse_byte_byte.bits3 (fun HT_ HW_ => ?_)
                generalize wr.drew = w10 at HO_0 HK HB GG8 HQ11 HQ12 hf8_0 hf9_0 hx1165_0 hx1166_0 hx8_0 hx9_0 hHeld ⊢
                refine pure_ (i := 0) (N := some 14) (v := ?_) (a' := ?_) #[true, false, false, false, false, false, false, false, false, false, false, false, false, false, false, false] rfl rfl (any_of HT_.out (by kernel_rfl)) (fun _ _ _ h => h) (Or.inl ⟨by rfl, ?_⟩) ?_ ?_
                rotate_left
                · intro w'
                  go_simp
                  with_reducible rfl
                rotate_left
                · simp only [Act.put, List.setIfInBounds_toArray, List.set_cons_zero, List.set_cons_succ, i64_w, i32_w]
                  rfl
                refine pure_ (i := 1) (N := some 15) (v := ?_) (a' := ?_) #[true, true, false, false, false, false, false, false, false, false, false, false, false, false, false, false] rfl rfl (any_of HT_.out (by kernel_rfl)) (fun _ _ _ h => h) (Or.inl ⟨by rfl, ?_⟩) ?_ ?_
                rotate_left
                · intro w'
                  go_simp
                  with_reducible rfl
                rotate_left
                · simp only [Act.put, List.setIfInBounds_toArray, List.set_cons_zero, List.set_cons_succ, i64_w, i32_w]
                  rfl
                refine pure_ (i := 2) (N := some 16) (v := ?_) (a' := ?_) #[true, true, true, false, false, false, false, false, false, false, false, false, false, false, false, false] rfl rfl (any_of HT_.out (by kernel_rfl)) (fun _ _ _ h => h) (Or.inl ⟨by rfl, ?_⟩) ?_ ?_
                rotate_left
                · intro w'
                  go_simp
                  with_reducible rfl
                rotate_left
                · simp only [Act.put, List.setIfInBounds_toArray, List.set_cons_zero, List.set_cons_succ, i64_w, i32_w]
                  rfl
                refine pure_ (i := 3) (N := some 17) (v := ?_) (a' := ?_) #[true, true, true, true, false, false, false, false, false, false, false, false, false, false, false, false] rfl rfl (any_of HT_.out (by kernel_rfl)) (fun _ _ _ h => h) (Or.inl ⟨by rfl, ?_⟩) ?_ ?_
                rotate_left
                · intro w'
                  go_simp
                  with_reducible rfl
                rotate_left
                · simp only [Act.put, List.setIfInBounds_toArray, List.set_cons_zero, List.set_cons_succ, i64_w, i32_w]
                  rfl
                refine pure_ (i := 4) (N := some 18) (v := ?_) (a' := ?_) #[true, true, true, true, true, false, false, false, false, false, false, false, false, false, false, false] rfl rfl (any_of HT_.out (by kernel_rfl)) (fun _ _ _ h => h) (Or.inl ⟨by rfl, ?_⟩) ?_ ?_
                rotate_left
                · intro w'
                  go_simp
                  with_reducible rfl
                rotate_left
                · simp only [Act.put, List.setIfInBounds_toArray, List.set_cons_zero, List.set_cons_succ, i64_w, i32_w]
                  rfl
                refine pure_ (i := 5) (N := some 19) (v := ?_) (a' := ?_) #[true, true, true, true, true, true, false, false, false, false, false, false, false, false, false, false] rfl rfl (any_of HT_.out (by kernel_rfl)) (fun _ _ _ h => h) (Or.inl ⟨by rfl, ?_⟩) ?_ ?_
                rotate_left
                · intro w'
                  go_simp
                  with_reducible rfl
                rotate_left
                · simp only [Act.put, List.setIfInBounds_toArray, List.set_cons_zero, List.set_cons_succ, i64_w, i32_w]
                  rfl
                refine pure_ (i := 6) (N := some 20) (v := ?_) (a' := ?_) #[true, true, true, true, true, true, true, false, false, false, false, false, false, false, false, false] rfl rfl (any_of HT_.out (by kernel_rfl)) (fun _ _ _ h => h) (Or.inl ⟨by rfl, ?_⟩) ?_ ?_
                rotate_left
                · intro w'
                  go_simp
                  with_reducible rfl
                rotate_left
                · simp only [Act.put, List.setIfInBounds_toArray, List.set_cons_zero, List.set_cons_succ, i64_w, i32_w]
                  rfl
                refine pure_ (i := 8) (N := some 22) (v := ?_) (a' := ?_) #[true, true, true, true, true, true, true, false, true, false, false, false, false, false, false, false] rfl rfl (any_of HT_.out (by kernel_rfl)) (fun _ _ _ h => h) (Or.inl ⟨by rfl, ?_⟩) ?_ ?_
                rotate_left
                · intro w'
                  go_simp
                  with_reducible rfl
                rotate_left
                · simp only [Act.put, List.setIfInBounds_toArray, List.set_cons_zero, List.set_cons_succ, i64_w, i32_w]
                  rfl
                refine pure_ (i := 9) (N := some 23) (v := ?_) (a' := ?_) #[true, true, true, true, true, true, true, false, true, true, false, false, false, false, false, false] rfl rfl (any_of HT_.out (by kernel_rfl)) (fun _ _ _ h => h) (Or.inl ⟨by rfl, ?_⟩) ?_ ?_
                rotate_left
                · intro w'
                  go_simp
                  with_reducible rfl
                rotate_left
                · simp only [Act.put, List.setIfInBounds_toArray, List.set_cons_zero, List.set_cons_succ, i64_w, i32_w]
                  rfl
                refine pure_ (i := 10) (N := some 24) (v := ?_) (a' := ?_) #[true, true, true, true, true, true, true, false, true, true, true, false, false, false, false, false] rfl rfl (any_of HT_.out (by kernel_rfl)) (fun _ _ _ h => h) (Or.inl ⟨by rfl, ?_⟩) ?_ ?_
                rotate_left
                · intro w'
                  go_simp
                  with_reducible rfl
                rotate_left
                · simp only [Act.put, List.setIfInBounds_toArray, List.set_cons_zero, List.set_cons_succ, i64_w, i32_w]
                  rfl
                refine take_ (i := 7) (N := some 21) (v := ?_) (a' := ?_) #[true, true, true, true, true, true, true, true, true, true, true, false, false, false, false, false] rfl rfl (take_ofW HT_.out HW_.out (by kernel_rfl)) (fun _ _ _ h => h) (Or.inl ⟨by rfl, ?_⟩) hHeld ?_ ?_
                rotate_left
                · rintro w' ⟨s0, s1⟩
                  go_simp
                  with_reducible rfl
                rotate_left
                · simp only [Act.put, List.setIfInBounds_toArray, List.set_cons_zero, List.set_cons_succ, i64_w, i32_w]
                  rfl
                refine take_ (i := 11) (N := some 25) (v := ?_) (a' := ?_) #[true, true, true, true, true, true, true, true, true, true, true, true, false, false, false, false] rfl rfl (take_ofW HT_.out HW_.out (by kernel_rfl)) (fun _ _ _ h => h) (Or.inl ⟨by rfl, ?_⟩) hHeld ?_ ?_
                rotate_left
                · rintro w' ⟨s0, s1⟩
                  go_simp
                  with_reducible rfl
                rotate_left
                · simp only [Act.put, List.setIfInBounds_toArray, List.set_cons_zero, List.set_cons_succ, i64_w, i32_w]
                  rfl
                refine pure_ (i := 12) (N := some 26) (v := ?_) (a' := ?_) #[true, true, true, true, true, true, true, true, true, true, true, true, true, false, false, false] rfl rfl (any_of HT_.out (by kernel_rfl)) (fun _ _ _ h => h) (Or.inl ⟨by rfl, ?_⟩) ?_ ?_
                rotate_left
                · intro w'
                  go_simp
                  with_reducible rfl
                rotate_left
                · simp only [Act.put, List.setIfInBounds_toArray, List.set_cons_zero, List.set_cons_succ, i64_w, i32_w]
                  rfl
                refine last_ (i := 13) (N := none) #[true, true, true, true, true, true, true, true, true, true, true, true, true, true, false, false] rfl rfl (one_of HT_.out (by kernel_rfl)) (by decide) (fun K hK => ?_)
                refine skip_ (w1 := ?_) (by rfl) rfl ?_ ?_
                rotate_left
                · go_simp
                  rfl
                refine hK.out _ _ ?_
                clear hK K
                refine pure_ (i := 14) (N := some 27) (v := ?_) (a' := ?_) #[true, true, true, true, true, true, true, true, true, true, true, true, true, true, true, false] rfl rfl (any_of HT_.out (by kernel_rfl)) (fun _ _ _ h => h) (Or.inl ⟨by rfl, ?_⟩) ?_ ?_
                rotate_left
                · intro w'
                  go_simp
                  with_reducible rfl
                rotate_left
                · simp only [Act.put, List.setIfInBounds_toArray, List.set_cons_zero, List.set_cons_succ, i64_w, i32_w]
                  rfl
                refine last_ (i := 15) (N := none) #[true, true, true, true, true, true, true, true, true, true, true, true, true, true, true, true] rfl rfl (one_of HT_.out (by kernel_rfl)) (by decide) (fun K hK => ?_)
                refine skip_ (w1 := ?_) (by rfl) rfl ?_ ?_
                rotate_left
                · go_simp
                  rfl
                refine hK.out _ _ ?_
                clear hK K
                refine done_ (done_of HT_.out (by kernel_rfl)) ?_
                try go_wp2
                (try simp only [← hl0_1])
                go_roundg k1
                case measure => have := HK1.out; omega
                case rel => exact ⟨(y1168), (wrap64 (x2_1 + 1)), (wrap64 (x3_1 - 1)), (by first | rfl | (simp; done) | (simp [*]; done)), (by first | rfl | (simp; done) | (simp [*]; done)), H', ⟨by have := HK1.out; omega⟩, ⟨by (try simp only [hl0_1]); (with_reducible repeat (first | apply Kd.R_alloc | apply Kd.R_drewN | apply Kd.R_drew)); exact HQ12.out⟩, ⟨by repeat (first | (with_reducible first | exact HK.out | apply Kept.alloc | apply Kept.drewN | apply Kept.drew | refine Kept.setCell ?_ HMgo8.out _ | refine Kept.setCell ?_ HMgo8.out _) | exact HK.out)⟩, ⟨by repeat (first | (with_reducible first | exact HB.out | apply below_alloc | apply pw_below_drewN | apply below_drew1 | refine below_set ?_ GB8.out | refine below_set ?_ GB8.out) | exact HB.out)⟩⟩
              · rw [if_neg c7] at H
                exact absurd H (by simp)
            · rw [if_neg c6] at H
              exact absurd H (by simp)
          · rw [if_neg c5] at H
            exact absurd H (by simp)
        · rw [if_neg c4] at H
          exact absurd H (by simp)
      · rw [if_neg c3] at H
        have c3b0 : decide (x2_1 < x3_1) = false := decide_eq_false c3
        clear c3
        obtain rfl := Option.some.inj H
        go_wp2
        first | go_end0 | ((try simp only [Exit.inBlock, Exit.then]); refine bodyPost_ret (results_none rfl _ _ _) rfl ?_)
        exact ⟨by first | rfl | (simp [errW_none, errW_some] <;> rfl) | (simp [*, errW_none, errW_some] <;> rfl), (by first | exact (by (with_reducible repeat (first | apply Kd.R_alloc | apply Kd.R_drewN | apply Kd.R_drew)); exact HO_0.out) | (simp only [hl0_1]; exact (by (with_reducible repeat (first | apply Kd.R_alloc | apply Kd.R_drewN | apply Kd.R_drew)); exact HO_0.out))), by repeat (first | (with_reducible first | exact HB.out | apply below_alloc | apply pw_below_drewN | apply below_drew1) | exact HB.out), by repeat (first | (with_reducible first | exact HK.out | apply Kept.alloc | apply Kept.drewN | apply Kept.drew) | exact HK.out)⟩

end Go.Proofs.Ytaoejonkiikhmaa.G

-- Text by a program of this session (gprint.py), over the kit's print.
namespace Go.Proofs.Ytaoejonkiikhmaa.G
open Go.RowKit Go.Proofs.YtaoejonkiikhmaaW.PrintWords Go.Proofs.YtaoejonkiikhmaaW.PrintLast Go.Proofs.YtaoejonkiikhmaaW.PrintMore
attribute [local go_sem] max2_int min2_int max_two min_two max_three min_three max_four min_four   -- for this text's walks alone
set_option linter.unusedVariables false
set_option linter.unusedSimpArgs false

/-! ### tally_Num: function 122 -/
def tally_Num.l0 : Nat → Int → List Int → Option (ByteArray)
  | 0, _, _ => none
  | k + 1, x0, x3 => if x0 > 0 then (if x3.length < 140737488355328 then (tally_Num.l0 k ((IntKind.u64.wrap (x0 - 1)) / 128) (x3 ++ [Go.bits .or .u8 128 ((Int.tmod (IntKind.u64.wrap (x0 - 1)) 128) % 256)])) else (none)) else ((slices_Reverse_byte_byte.f k x3).bind fun t1175 => (some (strOfNums t1175)))
def tally_Num.f (k : Nat) (a0 : Int) : Option (ByteArray) := tally_Num.l0 k (a0 / 128) (([(Int.tmod a0 128) % 256] : List Int))
set_option maxHeartbeats 8000000 in
set_option maxRecDepth 100000 in
theorem tally_Num.calls (k : Nat) (a0 : Int) (r : ByteArray) (w : World) (h : tally_Num.f k a0 = some r) :
    Calls Try.prog 122 #[.int .u64 a0] w fun e w' => e = .returned (.string r) ∧ Below w.heap.size w w' := by
  have HB := Aside0.mk (Below.refl w.heap.size w)
  have H : (tally_Num.l0 k (a0 / 128) (([(Int.tmod a0 128) % 256] : List Int))) = some r := h
  clear h
  obtain ⟨y1169, hy1169⟩ : ∃ y_ : List Int, y_ = (([(Int.tmod a0 128) % 256] : List Int)) := ⟨_, rfl⟩
  replace H : (tally_Num.l0 k (a0 / 128) y1169) = some r := by first | (rw [hy1169]; with_reducible exact H) | (have H2_ := (Option.bind_some _ _).symm.trans H; rw [hy1169]; with_reducible exact H2_) | (have H2_ := (Option.bind_some _ _).symm.trans H; with_reducible exact H2_) | with_reducible exact H | (rw [hy1169]; exact H) | exact H
  have Ny1169 := Aside0.mk hy1169
  clear hy1169
  have H' := Aside0.mk H
  clear H
  go_enter Try.func122, Try.ntmps122
  go_wp2_with (first | ((with_reducible refine gate_dst (N := 7) rfl ?_); refine Kd.R_lit (Kd.int .u8) _ 5 ?hg (N := 7) ?hd (xs := ([(Int.tmod a0 128) % 256] : List Int)) (inner := [.int .u8 ((Int.tmod a0 128) % 256)]) (ok := fun _ => True) (okp := fun _ => True) ?hr ?hp (fun _ hk => hk) trivial (Below.refl _ _) (Nat.le_refl _) (by simp) ?_; (case hd => rfl); (case hg => rfl); (case hr => first | (go_simp; done) | (go_simp; rfl)); (case hp => exact (Reps.one (show Kd.M (Kd.int .u8) _ _ _ ((Int.tmod a0 128) % 256) [.int .u8 ((Int.tmod a0 128) % 256)] from rfl) (Reps.none _ _))); intro v1170 w2 ho3 hb hg_ hnew_; clear hg_ hnew_; (first | rw [← Ny1169.out] at ho3 | (simp only [Int.reduceToNat] at ho3; rw [← Ny1169.out] at ho3)); have n0_ := Aside0.mk (Kd.R_lower ho3 (below_size (by repeat (first | (with_reducible first | exact HB.out | apply below_alloc | apply pw_below_drewN | apply below_drew1) | exact HB.out)))); have n1_ := Aside0.mk (below_step (by repeat (first | (with_reducible first | exact HB.out | apply below_alloc | apply pw_below_drewN | apply below_drew1) | exact HB.out)) hb); clear HB; have HO1171 := n0_; have HB := n1_; clear n0_ n1_; clear hb ho3))
  go_loopg [0, 3] k (fun kq v0 v3 w' => ∃ (x0_1 : Int) (x3_1 : List Int), v0 = .int .u64 x0_1 ∧ Aside0 (tally_Num.l0 kq x0_1 x3_1 = some r) ∧ Aside0 (kq ≤ k) ∧ Aside0 (Kd.R (Kd.int .u8) 5 w' w.heap.size (fun _ => True) v3 x3_1) ∧ Aside0 (Below w.heap.size w w'))
  case atStart => exact ⟨(a0 / 128), (y1169), (by first | rfl | (simp; done) | (simp [*]; done)), H', ⟨Nat.le_refl _⟩, ⟨by (with_reducible repeat (first | apply Kd.R_alloc | apply Kd.R_drewN | apply Kd.R_drew)); exact HO1171.out⟩, ⟨by repeat (first | (with_reducible first | exact HB.out | apply below_alloc | apply pw_below_drewN | apply below_drew1) | exact HB.out)⟩⟩
  case round =>
    clear H'
    try clear c1
    try clear p2
    obtain ⟨x0_1, x3_1, rfl, HA, HK1, HO_3, HB⟩ := hrel
    cases gk with
    | zero => exact absurd HA.out (by simp [tally_Num.l0])
    | succ k1 =>
      have H := HA.out
      clear HA
      simp only [tally_Num.l0] at H
      by_cases c4 : x0_1 > 0
      · rw [if_pos c4] at H
        have c4b0 : decide (0 < x0_1) = true := decide_eq_true c4
        clear c4
        by_cases c5 : x3_1.length < 140737488355328
        · rw [if_pos c5] at H
          have LMc5 := Aside0.mk c5
          clear c5
          obtain ⟨y1172, hy1172⟩ : ∃ y_ : List Int, y_ = (x3_1 ++ [Go.bits .or .u8 128 ((Int.tmod (IntKind.u64.wrap (x0_1 - 1)) 128) % 256)]) := ⟨_, rfl⟩
          replace H : (tally_Num.l0 k1 ((IntKind.u64.wrap (x0_1 - 1)) / 128) y1172) = some r := by first | (rw [hy1172]; with_reducible exact H) | (have H2_ := (Option.bind_some _ _).symm.trans H; rw [hy1172]; with_reducible exact H2_) | (have H2_ := (Option.bind_some _ _).symm.trans H; with_reducible exact H2_) | with_reducible exact H | (rw [hy1172]; exact H) | exact H
          have Ny1172 := Aside0.mk hy1172
          clear hy1172
          have H' := Aside0.mk H
          clear H
          go_wp2_with (first | ((with_reducible refine gate_builtin (b := .append) (xs := #[.tmp 16, .tmp 21]) rfl ?_); at_builtin; refine Kd.R_append (Kd.int .u8) (w0 := w) w.heap.size rfl (.tmp 16) (.tmp 21) 264 5 (.int .u8 0) 1 rfl Try.underlying264 info5 rfl (by decide) (by omega) u3 x3_1 (Go.bits .or .u8 128 ((Int.tmod (IntKind.u64.wrap (x0_1 - 1)) 128) % 256)) [.int .u8 (Go.bits .or .u8 128 ((Int.tmod (IntKind.u64.wrap (x0_1 - 1)) 128) % 256))] (fun _ => True) (fun _ => False) rfl rfl ?aP (fun _ hk => hk.elim) ?aF ?aO ?aB ?aS ?aL ?_; (case aP => exact rfl); (case aB => exact (by repeat (first | (with_reducible first | exact HB.out | apply below_alloc | apply pw_below_drewN | apply below_drew1) | exact HB.out))); (case aF => exact (fun _ _ => trivial)); (case aO => exact (by (with_reducible repeat (first | apply Kd.R_alloc | apply Kd.R_drewN | apply Kd.R_drew)); exact HO_3.out)); (case aS => exact (below_size (by repeat (first | (with_reducible first | exact HB.out | apply below_alloc | apply pw_below_drewN | apply below_drew1) | exact HB.out)))); (case aL => have := LMc5.out; omega); intro v1173 w6 ho hb hg hat; rw [← Ny1172.out] at ho; have n0_ := Aside0.mk (hb); have n1_ := Aside0.mk (ho); clear HB; clear HO_3; have HB := n0_; have HO1174 := n1_; clear n0_ n1_; clear ho hb hg hat))
          go_roundg k1
          case measure => have := HK1.out; omega
          case rel => exact ⟨((IntKind.u64.wrap (x0_1 - 1)) / 128), (y1172), (by first | rfl | (simp; done) | (simp [*]; done)), H', ⟨by have := HK1.out; omega⟩, ⟨by (with_reducible repeat (first | apply Kd.R_alloc | apply Kd.R_drewN | apply Kd.R_drew)); exact HO1174.out⟩, ⟨by repeat (first | (with_reducible first | exact HB.out | apply below_alloc | apply pw_below_drewN | apply below_drew1) | exact HB.out)⟩⟩
        · rw [if_neg c5] at H
          exact absurd H (by simp)
      · rw [if_neg c4] at H
        have c4b0 : decide (0 < x0_1) = false := decide_eq_false c4
        clear c4
        replace H := Option.bind_eq_some_iff.mp H
        obtain ⟨t1175, A70, H⟩ := H
        replace H : (some (strOfNums t1175)) = some r := H
        have A7 := Aside0.mk A70
        clear A70
        obtain rfl := Option.some.inj H
        obtain ⟨Ao8, co8, eo8⟩ := Kd.R_slice HO_3.out
        subst eo8
        go_wp2_with (first | ((with_reducible refine gate_callee (f := 171) rfl ?_); refine goesL_ (some 24) rfl rfl Try.func171 (by kernel_rfl) rfl #[.slice Ao8 x3_1.length co8] rfl (by (try simp only [List.map_toArray, List.map_cons, List.map_nil]); first | done | rfl | (simp only [List.length_drop, List.length_take]; rfl)) ?_; (with_reducible refine (slices_Reverse_byte_byte.calls k1 (fun k_ => some k_ = (.slice Ao8 x3_1.length co8 : Value).ownBlock) (.slice Ao8 x3_1.length co8) x3_1 t1175 w _ ?side1 ?side2 A7.out).mono ?_); (case side1 => repeat (first | (with_reducible first | exact HB.out | apply below_alloc | apply pw_below_drewN | apply below_drew1) | exact HB.out)); (case side2 => exact Kd.R_tight rfl HO_3.out); rintro e w9 ⟨rfl, hy0, hb, hkp⟩; refine ⟨_, rfl, ?_⟩; have n0_ := Aside0.mk (Kd.R_reok rfl hy0 (fun k_ e_ => HO_3.out.1 k_ e_)); have n1_ := Aside0.mk (hb); clear HO_3; clear HB; have HO_3 := n0_; have HB := n1_; clear n0_ n1_; (try clear hb); (try clear hkp); (try clear hy0); have hcv10 := own_string (P := Try.prog) Try.underlying264 Try.underlying5 Try.underlying9 (Kd.own_of_R HO_3.out)))
        go_ret
        exact ⟨by first | rfl | (simp [errW_none, errW_some] <;> rfl) | (simp [*, errW_none, errW_some] <;> rfl), by repeat (first | (with_reducible first | exact HB.out | apply below_alloc | apply pw_below_drewN | apply below_drew1) | exact HB.out)⟩

end Go.Proofs.Ytaoejonkiikhmaa.G

-- Text by a program of this session (gprint.py), over the kit's print.
namespace Go.Proofs.Ytaoejonkiikhmaa.G
open Go.RowKit Go.Proofs.YtaoejonkiikhmaaW.PrintWords Go.Proofs.YtaoejonkiikhmaaW.PrintLast Go.Proofs.YtaoejonkiikhmaaW.PrintMore
attribute [local go_sem] max2_int min2_int max_two min_two max_three min_three max_four min_four   -- for this text's walks alone
set_option linter.unusedVariables false
set_option linter.unusedSimpArgs false

/-! ### tally_Int: function 123 -/
def tally_Int.f (k : Nat) (a0 : Int) : Option (ByteArray) := (tally_Num.f k (Go.bits .xor .u64 (IntKind.u64.wrap ((IntKind.u64.wrap (a0)) * 2)) (IntKind.u64.wrap (a0 / 9223372036854775808)))).bind fun t1176 => (some t1176)
set_option maxHeartbeats 8000000 in
set_option maxRecDepth 100000 in
theorem tally_Int.calls (k : Nat) (a0 : Int) (r : ByteArray) (w : World) (h : tally_Int.f k a0 = some r) :
    Calls Try.prog 123 #[.int .i64 a0] w fun e w' => e = .returned (.string r) ∧ Below w.heap.size w w' := by
  have HB := Aside0.mk (Below.refl w.heap.size w)
  have H : ((tally_Num.f k (Go.bits .xor .u64 (IntKind.u64.wrap ((IntKind.u64.wrap (a0)) * 2)) (IntKind.u64.wrap (a0 / 9223372036854775808)))).bind fun t1176 => (some t1176)) = some r := h
  clear h
  replace H := Option.bind_eq_some_iff.mp H
  obtain ⟨t1176, A20, H⟩ := H
  replace H : (some t1176) = some r := H
  have A2 := Aside0.mk A20
  clear A20
  obtain rfl := Option.some.inj H
  go_enter Try.func123, Try.ntmps123
  go_wp2_with (first | ((with_reducible refine gate_callee (f := 122) rfl ?_); refine goesL_ (some 10) rfl rfl Try.func122 (by kernel_rfl) rfl #[.int .u64 (Go.bits .xor .u64 (IntKind.u64.wrap ((IntKind.u64.wrap (a0)) * 2)) (IntKind.u64.wrap (a0 / 9223372036854775808)))] rfl (by (try simp only [List.map_toArray, List.map_cons, List.map_nil]); first | done | rfl | (simp only [List.length_drop, List.length_take]; rfl)) ?_; (with_reducible refine (tally_Num.calls k (Go.bits .xor .u64 (IntKind.u64.wrap ((IntKind.u64.wrap (a0)) * 2)) (IntKind.u64.wrap (a0 / 9223372036854775808))) t1176 _ A2.out).mono ?_); rintro e w3 ⟨rfl, hb⟩; refine ⟨_, rfl, ?_⟩; have n0_ := Aside0.mk (below_step (by repeat (first | (with_reducible first | exact HB.out | apply below_alloc | apply pw_below_drewN | apply below_drew1) | exact HB.out)) hb); clear HB; have HB := n0_; clear n0_; (try clear hb); (try clear hb2); (try clear hk); (try clear hi)))
  go_ret
  exact ⟨by first | rfl | (simp [errW_none, errW_some] <;> rfl) | (simp [*, errW_none, errW_some] <;> rfl), by repeat (first | (with_reducible first | exact HB.out | apply below_alloc | apply pw_below_drewN | apply below_drew1) | exact HB.out)⟩

end Go.Proofs.Ytaoejonkiikhmaa.G

-- Text by a program of this session (gprint.py), over the kit's print.
namespace Go.Proofs.Ytaoejonkiikhmaa.G
open Go.RowKit Go.Proofs.YtaoejonkiikhmaaW.PrintWords Go.Proofs.YtaoejonkiikhmaaW.PrintLast Go.Proofs.YtaoejonkiikhmaaW.PrintMore
attribute [local go_sem] max2_int min2_int max_two min_two max_three min_three max_four min_four   -- for this text's walks alone
set_option linter.unusedVariables false
set_option linter.unusedSimpArgs false

theorem eqA113 (d : Nat) (w : World) (x0 y0 : Int) (x1 y1 : Int) (x2 y2 : Int) (x3 y3 : Int) :
    (Op.equalIn (d + 2) 113 (.agg #[.int .i64 x0, .int .u64 x1, .int .u64 x2, .int .i64 x3]) (.agg #[.int .i64 y0, .int .u64 y1, .int .u64 y2, .int .i64 y3])).run Try.prog w = .ok (x0 == y0 && (x1 == y1 && (x2 == y2 && (x3 == y3)))) w := by
  refine eqA_of Try.underlying113 (by kernel_rfl) ?_
  refine eqf_cons (by rfl) (by go_simp; rfl) (by go_simp; rfl) (by go_simp) ?_
  refine eqf_cons (by rfl) (by go_simp; rfl) (by go_simp; rfl) (by go_simp) ?_
  refine eqf_cons (by rfl) (by go_simp; rfl) (by go_simp; rfl) (by go_simp) ?_
  exact eqf_last (by rfl) (by go_simp; rfl) (by go_simp; rfl) (by go_simp)
end Go.Proofs.Ytaoejonkiikhmaa.G

-- Text by a program of this session (gprint.py), over the kit's print.
namespace Go.Proofs.Ytaoejonkiikhmaa.G
open Go.RowKit Go.Proofs.YtaoejonkiikhmaaW.PrintWords Go.Proofs.YtaoejonkiikhmaaW.PrintLast Go.Proofs.YtaoejonkiikhmaaW.PrintMore
attribute [local go_sem] max2_int min2_int max_two min_two max_three min_three max_four min_four   -- for this text's walks alone
set_option linter.unusedVariables false
set_option linter.unusedSimpArgs false

attribute [local go_sem high] eqA113
/-! ### quittanceref20_SameLines: function 53 -/
def quittanceref20_SameLines.l0 : Nat → List (S113) → List (S113) → Int → Option (Bool)
  | 0, _, _, _ => none
  | k + 1, x0, x1, x5 => if x5 < (x0.length : Int) then (if 0 ≤ x5 then (if x5 < (x1.length : Int) then (if (!(((rd_T113 x0 x5).f0) == ((rd_T113 x1 x5).f0)) || (!(((rd_T113 x0 x5).f1) == ((rd_T113 x1 x5).f1)) || (!(((rd_T113 x0 x5).f2) == ((rd_T113 x1 x5).f2)) || (!(((rd_T113 x0 x5).f3) == ((rd_T113 x1 x5).f3)))))) = true then (some false) else (quittanceref20_SameLines.l0 k x0 x1 (wrap64 (x5 + 1)))) else (none)) else (none)) else (some true)
def quittanceref20_SameLines.f (k : Nat) (l0 : List (S113)) (l1 : List (S113)) : Option (Bool) := if (l0.length : Int) = (l1.length : Int) then (quittanceref20_SameLines.l0 k l0 l1 0) else (some false)
set_option maxHeartbeats 8000000 in
set_option maxRecDepth 100000 in
theorem quittanceref20_SameLines.calls (k : Nat) (A0 : Option Addr) (c0 : Nat) (l0 : List (S113)) (A1 : Option Addr) (c1 : Nat) (l1 : List (S113)) (r : Bool) (w : World) (hr0 : Kd.C k113 w A0 l0.length l0) (hc0 : l0.length ≤ c0) (hr1 : Kd.C k113 w A1 l1.length l1) (hc1 : l1.length ≤ c1) (h : quittanceref20_SameLines.f k l0 l1 = some r) :
    Calls Try.prog 53 #[.slice A0 l0.length c0, .slice A1 l1.length c1] w fun e w' => e = .returned (.bool r) ∧ Drawn0 w w' := by
  have hu113 := Try.underlying113
  have HR0 := Aside0.mk hr0
  have HC0 := Aside0.mk hc0
  clear hr0 hc0
  have HR1 := Aside0.mk hr1
  have HC1 := Aside0.mk hc1
  clear hr1 hc1
  have H : (if (l0.length : Int) = (l1.length : Int) then (quittanceref20_SameLines.l0 k l0 l1 0) else (some false)) = some r := h
  clear h
  by_cases c3 : (l0.length : Int) = (l1.length : Int)
  · rw [if_pos c3] at H
    have c3b0 : ((l0.length : Int) == (l1.length : Int)) = true := beq_iff_eq.mpr c3
    have c3b1 : ((l0.length : Int) != (l1.length : Int)) = false := bne_eq_false_iff_eq.mpr c3
    have c3b2 : (l0.length == l1.length) = true := by first | simpa using c3 | (simp at c3 ⊢; omega)
    clear c3
    have H' := Aside0.mk H
    clear H
    go_enter Try.func53, Try.ntmps53
    go_wp2
    repeat (go_quiet (fail); try go_wp2)
    go_loopg [5] k (fun kq v5 w' => ∃ (x5_1 : Int), v5 = .int .i64 x5_1 ∧ Aside0 (quittanceref20_SameLines.l0 kq l0 l1 x5_1 = some r) ∧ Aside0 (kq ≤ k) ∧ Drawn0 w w')
    case atStart => exact ⟨(0), (by first | rfl | (simp; done) | (simp [*]; done)), H', ⟨Nat.le_refl _⟩, by repeat (first | exact Drawn0.refl _ | apply Drawn0.step)⟩
    case round =>
      clear H'
      try clear c1
      try clear p2
      try clear c3
      try clear c3b0
      try clear c3b1
      try clear c3b2
      obtain ⟨x5_1, rfl, HA, HK1, ⟨m1, rfl⟩⟩ := hrel
      cases gk with
      | zero => exact absurd HA.out (by simp [quittanceref20_SameLines.l0])
      | succ k1 =>
        have H := HA.out
        clear HA
        simp only [quittanceref20_SameLines.l0] at H
        by_cases c4 : x5_1 < (l0.length : Int)
        · rw [if_pos c4] at H
          have c4b0 : decide (x5_1 < (l0.length : Int)) = true := decide_eq_true c4
          clear c4
          by_cases c5 : 0 ≤ x5_1
          · rw [if_pos c5] at H
            have c5b0 : decide (0 ≤ x5_1) = true := decide_eq_true c5
            clear c5
            by_cases c6 : x5_1 < (l1.length : Int)
            · rw [if_pos c6] at H
              have c6b0 : decide (x5_1 < (l1.length : Int)) = true := decide_eq_true c6
              clear c6
              by_cases c7 : (!(((rd_T113 l0 x5_1).f0) == ((rd_T113 l1 x5_1).f0)) || (!(((rd_T113 l0 x5_1).f1) == ((rd_T113 l1 x5_1).f1)) || (!(((rd_T113 l0 x5_1).f2) == ((rd_T113 l1 x5_1).f2)) || (!(((rd_T113 l0 x5_1).f3) == ((rd_T113 l1 x5_1).f3)))))) = true
              · rw [if_pos c7] at H
                have c7b0 : (!(((rd_T113 l0 x5_1).f0) == ((rd_T113 l1 x5_1).f0)) || (!(((rd_T113 l0 x5_1).f1) == ((rd_T113 l1 x5_1).f1)) || (!(((rd_T113 l0 x5_1).f2) == ((rd_T113 l1 x5_1).f2)) || (!(((rd_T113 l0 x5_1).f3) == ((rd_T113 l1 x5_1).f3)))))) = true := c7
                clear c7
                obtain rfl := Option.some.inj H
                have p145 : 0 ≤ (x5_1 : Int) := of_decide_eq_true (by first | (with_reducible assumption) | assumption)
                have q145 : x5_1 < (l0.length : Int) := of_decide_eq_true (by first | (with_reducible assumption) | assumption)
                obtain ⟨ad145, e145, hx145_0, hx145_1, hx145_2, hx145_3⟩ := at_T113 HR0.out x5_1 p145 q145
                cases e145
                replace p145 := eq_true p145
                replace q145 := eq_true q145
                have p146 : 0 ≤ (x5_1 : Int) := of_decide_eq_true (by first | (with_reducible assumption) | assumption)
                have q146 : x5_1 < (l1.length : Int) := of_decide_eq_true (by first | (with_reducible assumption) | assumption)
                obtain ⟨ad146, e146, hx146_0, hx146_1, hx146_2, hx146_3⟩ := at_T113 HR1.out x5_1 p146 q146
                cases e146
                replace p146 := eq_true p146
                replace q146 := eq_true q146
                go_wp2
                repeat (go_quiet (fail); try go_wp2)
                go_ret
                exact ⟨by first | rfl | (simp; done) | (simp [*]; done), by repeat (first | exact Drawn0.refl _ | apply Drawn0.step)⟩
              · rw [if_neg c7] at H
                have c7b0 : (!(((rd_T113 l0 x5_1).f0) == ((rd_T113 l1 x5_1).f0)) || (!(((rd_T113 l0 x5_1).f1) == ((rd_T113 l1 x5_1).f1)) || (!(((rd_T113 l0 x5_1).f2) == ((rd_T113 l1 x5_1).f2)) || (!(((rd_T113 l0 x5_1).f3) == ((rd_T113 l1 x5_1).f3)))))) = false := by simpa using c7
                clear c7
                have H' := Aside0.mk H
                clear H
                have p145 : 0 ≤ (x5_1 : Int) := of_decide_eq_true (by first | (with_reducible assumption) | assumption)
                have q145 : x5_1 < (l0.length : Int) := of_decide_eq_true (by first | (with_reducible assumption) | assumption)
                obtain ⟨ad145, e145, hx145_0, hx145_1, hx145_2, hx145_3⟩ := at_T113 HR0.out x5_1 p145 q145
                cases e145
                replace p145 := eq_true p145
                replace q145 := eq_true q145
                have p146 : 0 ≤ (x5_1 : Int) := of_decide_eq_true (by first | (with_reducible assumption) | assumption)
                have q146 : x5_1 < (l1.length : Int) := of_decide_eq_true (by first | (with_reducible assumption) | assumption)
                obtain ⟨ad146, e146, hx146_0, hx146_1, hx146_2, hx146_3⟩ := at_T113 HR1.out x5_1 p146 q146
                cases e146
                replace p146 := eq_true p146
                replace q146 := eq_true q146
                go_wp2
                repeat (go_quiet (fail); try go_wp2)
                go_roundg k1
                case measure => have := HK1.out; omega
                case rel => exact ⟨(wrap64 (x5_1 + 1)), (by first | rfl | (simp; done) | (simp [*]; done)), H', ⟨by have := HK1.out; omega⟩, by repeat (first | exact Drawn0.refl _ | apply Drawn0.step)⟩
            · rw [if_neg c6] at H
              exact absurd H (by simp)
          · rw [if_neg c5] at H
            exact absurd H (by simp)
        · rw [if_neg c4] at H
          have c4b0 : decide (x5_1 < (l0.length : Int)) = false := decide_eq_false c4
          clear c4
          obtain rfl := Option.some.inj H
          go_wp2
          repeat (go_quiet (fail); try go_wp2)
          go_ret
          exact ⟨by first | rfl | (simp; done) | (simp [*]; done), by repeat (first | exact Drawn0.refl _ | apply Drawn0.step)⟩
  · rw [if_neg c3] at H
    have c3b0 : ((l0.length : Int) == (l1.length : Int)) = false := beq_eq_false_iff_ne.mpr c3
    have c3b1 : ((l0.length : Int) != (l1.length : Int)) = true := bne_iff_ne.mpr c3
    have c3b2 : (l0.length == l1.length) = false := by first | simpa using c3 | (simp at c3 ⊢; omega)
    obtain rfl := Option.some.inj H
    go_enter Try.func53, Try.ntmps53
    go_wp2
    repeat (go_quiet (fail); try go_wp2)
    go_ret
    exact ⟨by first | rfl | (simp; done) | (simp [*]; done), by repeat (first | exact Drawn0.refl _ | apply Drawn0.step)⟩

end Go.Proofs.Ytaoejonkiikhmaa.G

/- Tidying lines, in plain Lean: the order of the lines does not matter; what is tidied stays as it is; an entry and its reversal leave nothing. -/
namespace Go.Proofs.Ytaoejonkiikhmaa.G
open Go.RowKit Go.Proofs.YtaoejonkiikhmaaW.PrintWords
set_option linter.unusedVariables false
set_option linter.unusedSimpArgs false

theorem okL_iff (x : Line) : okL x = true ↔ (-9223372036854775808 ≤ x.f0 ∧ x.f0 ≤ 9223372036854775807) ∧ (0 ≤ x.f1 ∧ x.f1 ≤ 18446744073709551615) ∧ (0 ≤ x.f2 ∧ x.f2 ≤ 18446744073709551615) ∧ (-9223372036854775808 ≤ x.f3 ∧ x.f3 ≤ 9223372036854775807) := by
  simp [okL, i64ok, u64ok, and_assoc]
end Go.Proofs.Ytaoejonkiikhmaa.G

-- Text by a program of this session (gprint.py), over the kit's print.
namespace Go.Proofs.Ytaoejonkiikhmaa.G
open Go.RowKit Go.Proofs.YtaoejonkiikhmaaW.PrintWords Go.Proofs.YtaoejonkiikhmaaW.PrintLast Go.Proofs.YtaoejonkiikhmaaW.PrintMore
attribute [local go_sem] max2_int min2_int max_two min_two max_three min_three max_four min_four   -- for this text's walks alone
set_option linter.unusedVariables false
set_option linter.unusedSimpArgs false

/-! ### quittanceref19_Side: function 59 -/
mutual
def quittanceref19_Side.j0 : Nat → Int → Bool → Option (Int)
  | 0, _, _ => none
  | k + 1, x0, x8 => if x8 = true then (some 1) else (if x0 = 2 then (quittanceref19_Side.j1 k true) else (if x0 = 3 then (quittanceref19_Side.j1 k true) else (quittanceref19_Side.j1 k (x0 == 5))))
def quittanceref19_Side.j1 : Nat → Bool → Option (Int)
  | 0, _ => none
  | k + 1, x18 => if x18 = true then (some (-1)) else (some 0)
end
def quittanceref19_Side.f (k : Nat) (a0 : Int) : Option (Int) := if a0 = 1 then (quittanceref19_Side.j0 k a0 true) else (quittanceref19_Side.j0 k a0 (a0 == 4))
set_option maxHeartbeats 8000000 in
set_option maxRecDepth 100000 in
theorem quittanceref19_Side.calls (k : Nat) (a0 : Int) (r : Int) (w : World) (h : quittanceref19_Side.f k a0 = some r) :
    Calls Try.prog 59 #[.int .u8 a0] w fun e w' => e = .returned (.int .i64 r) ∧ Drawn0 w w' := by
  have H : (if a0 = 1 then (quittanceref19_Side.j0 k a0 true) else (quittanceref19_Side.j0 k a0 (a0 == 4))) = some r := h
  clear h
  have HC2 := Aside0.mk H
  clear H
  go_enter Try.func59, Try.ntmps59
  go_upto_region 1 with (fail)
  go_cut [8] (fun v8 wc => ∃ (kq : Nat) (x8_1 : Bool), v8 = .bool x8_1 ∧ Aside0 (quittanceref19_Side.j0 kq a0 x8_1 = some r) ∧ Aside0 (kq ≤ k) ∧ Drawn0 w wc)
  case first =>
    have H := HC2.out
    clear HC2
    by_cases c3 : a0 = 1
    · rw [if_pos c3] at H
      have c3b0 : (a0 == 1) = true := beq_iff_eq.mpr c3
      have c3b1 : (a0 != 1) = false := bne_eq_false_iff_eq.mpr c3
      clear c3
      (first | rw [c3b0] | (simp only [i64_w, i32_w]; rw [c3b0]) | skip)
      have H' := Aside0.mk H
      clear H
      go_wp2
      go_meet
      case rel => exact ⟨_, (true), (by first | rfl | (simp; done) | (simp [*]; done)), H', ⟨by first | omega | exact Nat.le_refl _⟩, by repeat (first | exact Drawn0.refl _ | apply Drawn0.step)⟩
    · rw [if_neg c3] at H
      have c3b0 : (a0 == 1) = false := beq_eq_false_iff_ne.mpr c3
      have c3b1 : (a0 != 1) = true := bne_iff_ne.mpr c3
      (first | rw [c3b0] | (simp only [i64_w, i32_w]; rw [c3b0]) | skip)
      have H' := Aside0.mk H
      clear H
      go_wp2
      go_meet
      case rel => exact ⟨_, ((a0 == 4)), (by first | rfl | (simp; done) | (simp [*]; done)), H', ⟨by first | omega | exact Nat.le_refl _⟩, by repeat (first | exact Drawn0.refl _ | apply Drawn0.step)⟩
  case rest =>
    clear HC2
    try clear p2
    try clear c3
    try clear c3b0
    try clear c3b1
    obtain ⟨kq, x8_1, rfl, HA, HJ1, ⟨mc1, rfl⟩⟩ := hcut
    cases kq with
    | zero => exact absurd HA.out (by simp [quittanceref19_Side.j0])
    | succ kj1 =>
      have H := HA.out
      clear HA
      simp only [quittanceref19_Side.j0] at H
      by_cases c4 : x8_1 = true
      · subst c4
        have H1 : (some 1) = some r := by rw [if_pos rfl] at H; exact H
        clear H
        have H := H1
        clear H1
        obtain rfl := Option.some.inj H
        go_wp2
        go_ret
        exact ⟨by first | rfl | (simp; done) | (simp [*]; done), by repeat (first | exact Drawn0.refl _ | apply Drawn0.step)⟩
      · replace c4 := Bool.eq_false_iff.mpr c4
        subst c4
        have H1 : (if a0 = 2 then (quittanceref19_Side.j1 kj1 true) else (if a0 = 3 then (quittanceref19_Side.j1 kj1 true) else (quittanceref19_Side.j1 kj1 (a0 == 5)))) = some r := by rw [if_neg (show ¬ (false = true) by decide)] at H; exact H
        clear H
        have H := H1
        clear H1
        have HC5 := Aside0.mk H
        clear H
        go_upto_region 3 with (fail)
        go_cut [18] (fun v18 wc => ∃ (kq : Nat) (x18_4 : Bool), v18 = .bool x18_4 ∧ Aside0 (quittanceref19_Side.j1 kq x18_4 = some r) ∧ Aside0 (kq ≤ kj1) ∧ Drawn0 w wc)
        case first =>
          have H := HC5.out
          clear HC5
          by_cases c6 : a0 = 2
          · rw [if_pos c6] at H
            have c6b0 : (a0 == 2) = true := beq_iff_eq.mpr c6
            have c6b1 : (a0 != 2) = false := bne_eq_false_iff_eq.mpr c6
            clear c6
            (first | rw [c6b0] | (simp only [i64_w, i32_w]; rw [c6b0]) | skip)
            have H' := Aside0.mk H
            clear H
            go_wp2
            go_meet
            case rel => exact ⟨_, (true), (by first | rfl | (simp; done) | (simp [*]; done)), H', ⟨by have := HJ1.out; first | omega | exact Nat.le_refl _⟩, by repeat (first | exact Drawn0.refl _ | apply Drawn0.step)⟩
          · rw [if_neg c6] at H
            have c6b0 : (a0 == 2) = false := beq_eq_false_iff_ne.mpr c6
            have c6b1 : (a0 != 2) = true := bne_iff_ne.mpr c6
            (first | rw [c6b0] | (simp only [i64_w, i32_w]; rw [c6b0]) | skip)
            by_cases c7 : a0 = 3
            · rw [if_pos c7] at H
              have c7b0 : (a0 == 3) = true := beq_iff_eq.mpr c7
              have c7b1 : (a0 != 3) = false := bne_eq_false_iff_eq.mpr c7
              clear c7
              have H' := Aside0.mk H
              clear H
              go_wp2
              go_meet
              case rel => exact ⟨_, (true), (by first | rfl | (simp; done) | (simp [*]; done)), H', ⟨by have := HJ1.out; first | omega | exact Nat.le_refl _⟩, by repeat (first | exact Drawn0.refl _ | apply Drawn0.step)⟩
            · rw [if_neg c7] at H
              have c7b0 : (a0 == 3) = false := beq_eq_false_iff_ne.mpr c7
              have c7b1 : (a0 != 3) = true := bne_iff_ne.mpr c7
              have H' := Aside0.mk H
              clear H
              go_wp2
              go_meet
              case rel => exact ⟨_, ((a0 == 5)), (by first | rfl | (simp; done) | (simp [*]; done)), H', ⟨by have := HJ1.out; first | omega | exact Nat.le_refl _⟩, by repeat (first | exact Drawn0.refl _ | apply Drawn0.step)⟩
        case rest =>
          clear HC5
          try clear c1
          try clear p2
          try clear c3
          try clear c3b0
          try clear c3b1
          try clear c4
          try clear c5
          try clear c6
          try clear c6b0
          try clear c6b1
          try clear c7
          try clear c7b0
          try clear c7b1
          try clear p2
          obtain ⟨kq, x18_4, rfl, HA, HJ4, ⟨mc4, rfl⟩⟩ := hcut
          cases kq with
          | zero => exact absurd HA.out (by simp [quittanceref19_Side.j1])
          | succ kj4 =>
            have H := HA.out
            clear HA
            simp only [quittanceref19_Side.j1] at H
            by_cases c8 : x18_4 = true
            · subst c8
              have H1 : (some (-1)) = some r := by rw [if_pos rfl] at H; exact H
              clear H
              have H := H1
              clear H1
              obtain rfl := Option.some.inj H
              go_wp2
              go_ret
              exact ⟨by first | rfl | (simp; done) | (simp [*]; done), by repeat (first | exact Drawn0.refl _ | apply Drawn0.step)⟩
            · replace c8 := Bool.eq_false_iff.mpr c8
              subst c8
              have H1 : (some 0) = some r := by rw [if_neg (show ¬ (false = true) by decide)] at H; exact H
              clear H
              have H := H1
              clear H1
              obtain rfl := Option.some.inj H
              go_wp2
              go_ret
              exact ⟨by first | rfl | (simp; done) | (simp [*]; done), by repeat (first | exact Drawn0.refl _ | apply Drawn0.step)⟩

end Go.Proofs.Ytaoejonkiikhmaa.G
