/- Texts of this claim put together: HChartUnder, HChartDepth, HChartGather, HChartUnder2. -/
import Derived.Test.YtaoejonkiikhmaaMLEac
import Derived.Test.YtaoejonkiikhmaaMLEae
import Derived.RangeFuncBox
import Derived.Sort.OwnSortedInts
import Derived.Test.YtaoejonkiikhmaaMLEab

/- (*Chart).Under of an account that none is under; (*Chart).Leaf. -/
namespace Go.Proofs.Ytaoejonkiikhmaa.G
open Go.RowKit Go.Proofs.YtaoejonkiikhmaaW.PrintWords Go.Proofs.YtaoejonkiikhmaaW.PrintLast Go.Proofs.YtaoejonkiikhmaaW.PrintMore
open Go.Maps Go.Sort Go.Shelf
set_option linter.unusedVariables false
set_option linter.unusedSimpArgs false

theorem acc_up (y : Acc) (w : World) : (Instr.field 121 (.agg #[.int .i64 y.f0, .int .i64 y.f1, .int .u8 y.f2, .string y.f3, .bool y.f4]) 1).run Try.prog w = .ok (.int .i64 y.f1) w := by
  first | kernel_rfl | (simp [Instr.field]; done)
theorem second_new (w : World) (o1 o2 : Obj) : ((w.alloc o1).alloc o2).heap[w.heap.size + 1]? = some o2 := by
  have := World.alloc_heap_new (w.alloc o1) o2
  simpa using this
theorem C_grown {w w' : World} {b : Nat} {A : Option Addr} {ks : List Int} (h : Kd.C (Kd.int .i64) w A ks.length ks) (hg : w.grownBy w' (some b)) (hA : ∀ ad, A = some ad → ad.block ≠ b) : Kd.C (Kd.int .i64) w' A ks.length ks := by
  have hr := Kd.reads_of_C (d := (0 : Int)) h
  refine Kd.C_of_reads (enc := Value.int .i64) (d := (0 : Int)) (h1 := fun _ => rfl) ⟨rfl, hr.2.1, fun h0 => ?_⟩
  obtain ⟨ad, e, hc⟩ := hr.2.2 h0
  refine ⟨ad, e, fun j hj => hg.cell (hc j hj) (fun e2 => hA ad e ?_)⟩
  have e3 := Option.some.inj e2
  rw [← e3]
  unfold Addr.add
  split <;> rfl
theorem sort_ints (w : World) (v : Value) (zs : List Int) (base : Nat) (ok : Nat → Prop) (ho : Kd.R (Kd.int .i64) 3 w base ok v zs) (hpos : 0 < zs.length) (hsm : zs.length < 4611686018427387904) :
    ∃ g cap, v = .slice (some ⟨g, 0, none⟩) zs.length cap ∧ base ≤ g ∧ g < w.heap.size ∧ Calls Try.prog 170 #[v] w fun e w' => e = .returned (.tuple #[]) ∧ w.grownBy w' (some g) := by
  obtain ⟨A, c, hv, hc, hC⟩ := Kd.R_reads ho
  obtain ⟨_, inner, hown, _⟩ := ho
  rcases hown.2 with ⟨rfl, h0⟩ | ⟨g, cap, cur, rfl, hb, hcell, _, _, _, _⟩
  · omega
  · injection hv with h1 h2 h3
    subst h1
    have hg : g < w.heap.size := (Array.getElem?_eq_some_iff.1 hcell).1
    refine ⟨g, cap, rfl, hb, hg, ?_⟩
    have hr := Kd.reads_of_C (d := (0 : Int)) hC
    have hH : Holds (Value.int .i64) w g 0 zs.toArray := by
      intro j hj
      have hj' : j < zs.length := by simpa using hj
      obtain ⟨ad, e, hcl⟩ := hr.2.2 hpos
      cases e
      have := hcl j hj'
      refine ⟨?_, blk_frozen hcell _⟩
      have e1 : (⟨g, 0, none⟩ : Addr).add j = ⟨g, 0 + j, none⟩ := by
        unfold Addr.add
        split
        · rename_i h0
          rw [h0]
        · rfl
      rw [e1] at this
      rw [this]
      simp [List.getD_eq_getElem?_getD, List.getElem?_eq_getElem hj']
    refine Calls.mono (AnyM.slices_Sort_int Try.sortI g 0 cap zs w hH hg hsm) ?_
    rintro e w' ⟨rfl, n, os, rfl⟩
    exact ⟨rfl, grownBy_sortedI _⟩
theorem ChartAt.grown {w w' : World} {cb mb b : Nat} {l : List Acc} (h : ChartAt w cb mb l) (hg : w.grownBy w' (some b)) (h1 : b ≠ cb) (h2 : b ≠ mb) : ChartAt w' cb mb l :=
  ⟨(hg.block _ (Array.getElem?_eq_some_iff.1 h.1).1 (fun e => h1 (Option.some.inj e).symm)).trans h.1, h.2.kept hg (fun e => h2 (Option.some.inj e).symm)⟩
theorem grown_set {w w6 : World} {b : Nat} (h : Below w.heap.size w w6) (v : Value) : w.grownBy (w6.setCell ⟨b, 0, none⟩ v) (some b) :=
  (grown_of_below h (some b)).trans (grownBy_setCell' _ _ _)

set_option maxHeartbeats 2000000 in
set_option maxRecDepth 100000 in
theorem under1 (w : World) (cb mb : Nat) (l : List Acc) (h : ChartAt w cb mb l) (c : Int) (hno : ∀ k, (lookC l k).f1 ≠ c) (bo bk bc bg : Nat) (A : Option Addr) (cp : Nat) (ks : List Int)
    (ho : w.heap[bo]? = some (.cells #[.slice none 0 0] 51 (0, 0))) (hk : w.heap[bk]? = some (.cells #[.slice A ks.length cp] 51 (0, 0))) (hc : w.heap[bc]? = some (.cells #[.pointer (some ⟨cb, 0, none⟩)] 117 (0, 0)))
    (hks : Kd.C (Kd.int .i64) w A ks.length ks) (hA : ∀ ad, A = some ad → ad.block ≠ bo) (hcp : ks.length ≤ cp) (hwf : ∀ k ∈ ks, (Lit.int .i64 k).wf = true) (hne : bk ≠ bo) :
    Calls Try.prog 169 #[.int .i64 c, .pointer (some ⟨bo, 0, none⟩), .pointer (some ⟨bk, 0, none⟩), .pointer (some ⟨bc, 0, none⟩), .pointer (some ⟨bg, 0, none⟩)] w fun e w' => e = .returned (.tuple #[]) ∧ ∃ v, w'.heap[bo]? = some (.cells #[v] 51 (0, 0)) ∧ Kd.R (Kd.int .i64) 3 w' w.heap.size (fun _ => True) v [c] ∧ w.grownBy w' (some bo) := by
  have hu := Try.underlying213
  have hua := Try.underlying121
  have hui := Try.underlying51
  have HR := Aside0.mk (Kd.R_nil (Kd.int .i64) 3 w w.heap.size (fun _ => True))
  obtain ⟨v0, hv0⟩ : ∃ v, v = Value.slice none 0 0 := ⟨_, rfl⟩
  rw [← hv0] at HR ho
  have HV0 := Aside0.mk hv0
  clear hv0
  have o0 : w.cell? ⟨bo, 0, none⟩ = some v0 := cell_of_one ho
  have k0 : w.cell? ⟨bk, 0, none⟩ = some (.slice A ks.length cp) := cell_of_one hk
  have c0 : w.cell? ⟨bc, 0, none⟩ = some (.pointer (some ⟨cb, 0, none⟩)) := cell_of_one hc
  have hob : bo < w.heap.size := (Array.getElem?_eq_some_iff.1 ho).1
  have h1 : bo ≠ cb := blk_ne ho h.1 (by decide)
  have h2 : bo ≠ mb := by
    intro e
    obtain ⟨es, cl, hm, _⟩ := h.2
    rw [← e, ho] at hm
    cases hm
  have h3 : bo ≠ bc := blk_ne ho hc (by decide)
  have HCH := Aside0.mk h
  have HKS := Aside0.mk hks
  have HO := Aside0.mk ho
  have HNO := Aside0.mk hno
  have HWF := Aside0.mk hwf
  have HA := Aside0.mk hA
  have hmax := Kd.C_max hks
  clear h hks ho hk hc hno hwf hA
  go_enter Try.func169, Try.ntmps169
  go_wp2_with (first | ((with_reducible refine gate_builtin (b := .append) (xs := #[.tmp 8, .tmp 10]) rfl ?_); at_builtin; refine Kd.R_append (Kd.int .i64) (w0 := w) w.heap.size rfl (.tmp 8) (.tmp 10) 51 3 (.int .i64 0) 8 rfl Try.underlying51 info3 rfl (by decide) (by omega) v0 [] c [.int .i64 c] (fun _ => True) (fun _ => False) rfl rfl rfl (fun _ hk => hk.elim) (fun _ _ => trivial) HR.out (Below.refl _ _) (Nat.le_refl _) (by decide) ?_; intro v1 w6 ho6 hb6 hg6 hat; have HO6 := Aside0.mk ho6; obtain ⟨A2, c2, rfl, _, _⟩ := Kd.R_reads ho6; have HB6 := Aside0.mk hb6; have o6 := pw_cell_below hb6 o0; have f6 := blk_frozen ((hb6.block bo hob).trans HO.out) 0; have HG := Aside0.mk (grown_set (b := bo) hb6 (.slice A2 1 c2)); have k7 := HG.out.cell k0 (fun e => hne (Option.some.inj e)); have c7 := HG.out.cell c0 (fun e => h3 (Option.some.inj e).symm); have ch7 := (HCH.out.grown HG.out h1 h2).cell; clear ho6 hb6 hg6 hat))
  obtain ⟨W7, hW7⟩ : ∃ W7, W7 = w6.setCell ⟨bo, 0, none⟩ (.slice A2 1 c2) := ⟨_, rfl⟩
  rw [← hW7] at HG k7 c7 ch7 ⊢
  have HW7 := Aside0.mk hW7
  clear hW7 o6 f6 o0 k0 c0
  have HC7 := Aside0.mk (HCH.out.grown HG.out h1 h2)
  go_loopw [14] (fun i wr => ∃ (k : Nat), k ≤ ks.length ∧ i = .int .i64 k ∧ wr = W7)
    (fun i _ => ks.length - (intOf i).toNat)
  case atStart => exact ⟨0, Nat.zero_le _, rfl, rfl⟩
  case round =>
    obtain ⟨k, hk, rfl, rfl⟩ := hrel
    by_cases hlt : k < ks.length
    · obtain ⟨ad, rfl, hcell⟩ := Kd.at_int (C_grown HKS.out HG.out HA.out) k (by omega) (by omega)
      rw [Int.toNat_natCast] at hcell
      have hw := HWF.out (Go.Proofs.YtaoejonkiikhmaaW.PrintWords.rd ks k) (by simp [Go.Proofs.YtaoejonkiikhmaaW.PrintWords.rd, List.getD_eq_getElem?_getD, List.getElem?_eq_getElem hlt])
      obtain ⟨x, hx⟩ : ∃ x, x = Go.Proofs.YtaoejonkiikhmaaW.PrintWords.rd ks k := ⟨_, rfl⟩
      rw [← hx] at hcell hw
      have hlk := HC7.out.look1 hw
      unfold accV at hlk
      have hnb : ((lookC l x).f1 == c) = false := beq_eq_false_iff_ne.mpr (HNO.out x)
      obtain ⟨y, hy⟩ : ∃ y, y = lookC l x := ⟨_, rfl⟩
      rw [← hy] at hlk hnb
      clear hx hy
      have hfu := acc_up y wr
      go_wp2
      exact ⟨⟨k + 1, by omega, by go_num, trivial⟩, by simp [intOf]; omega⟩
    · obtain rfl : k = ks.length := by omega
      go_wp2
      go_end0
      have hb6 : w6.heap[bo]? = some (.cells #[v0] 51 (0, 0)) := (HB6.out.block bo hob).trans HO.out
      refine ⟨rfl, .slice A2 1 c2, ?_, ?_, HG.out⟩
      · rw [HW7.out]
        exact blk_set hb6 0 _
      · rw [HW7.out]
        exact Kd.R_mono (Kd.R_far (p := ⟨bo, 0, none⟩) (Kd.R_types HO6.out hb6 (by decide)) (fun _ hk => hk.2) _) (fun _ _ => trivial)

set_option maxHeartbeats 2000000 in
set_option maxRecDepth 100000 in
theorem chart_Under.leaf (w : World) (cb mb : Nat) (l : List Acc) (h : ChartAt w cb mb l) (hl : l.length * 8 ≤ 140737488355328) (c : Int) (hwf : (Lit.int .i64 c).wf = true) (hin : hasC l c = true) (hno : ∀ k, (lookC l k).f1 ≠ c) :
    Calls Try.prog 118 #[.pointer (some ⟨cb, 0, none⟩), .int .i64 c] w fun e w' => (∃ A cp, e = .returned (.slice A 1 cp)) ∧ Below w.heap.size w w' := by
  have hu := Try.underlying213
  have hua := Try.underlying121
  have hui := Try.underlying51
  have HCH := Aside0.mk h
  have HNO := Aside0.mk hno
  obtain ⟨x, hx⟩ : ∃ x, x = lookC l c := ⟨_, rfl⟩
  have HGET := Aside0.mk (fun W hW => chart_Get.calls W cb mb l (h.below hW) c hwf)
  rw [hin, if_pos rfl, if_pos rfl, ← hx] at HGET
  unfold accV at HGET
  have hsf : ∀ (a : Addr) (lb : Array Value) (W : World), (store a (.func (.func 169) #[] lb)).run Try.prog W = stored Try.prog W a (.func (.func 169) #[] lb) .plain := fun a lb W => run_store Try.prog W a _ .plain rfl
  clear h hno hin hx
  go_enter Try.func118, Try.ntmps118
  go_wp2_with (first | (go_at_call 58; refine (HGET.out _ (below_alloc (Below.refl _ _) _)).mono ?_; rintro e w1 ⟨rfl, hb1⟩; have g1 : Below w.heap.size w w1 := below_then (below_alloc (Below.refl _ _) _) (by simp) hb1; have HC1 := Aside0.mk (HCH.out.below g1); have c1 := HC1.out.cell; have p1 : w1.cell? ⟨w.heap.size, 0, none⟩ = some (.pointer (some ⟨cb, 0, none⟩)) := pw_cell_below hb1 (by simp); have HB1 := Aside0.mk g1; have HP1 := Aside0.mk ((hb1.block w.heap.size (by simp)).trans (World.alloc_heap_new w _)); have q4 : Below w1.heap.size w1 ((w1.alloc (.cells #[.int .i64 x.f0, .int .i64 x.f1, .int .u8 x.f2, .string x.f3, .bool x.f4] 121)).alloc (.cells #[.slice none 0 0] 51)) := below_alloc (below_alloc (Below.refl _ _) _) _; have p4 := pw_cell_below q4 p1; have c4 := pw_cell_below q4 c1; clear hb1 g1 q4) | (go_at_call 168; refine (chart_keys _ cb mb l (HC1.out.below (below_alloc (below_alloc (Below.refl _ _) _) _)) hl).mono ?_; rintro e w5 ⟨A, cp, ks, rfl, hp5, hcp5, hC5, hwf5, hA5, hb5⟩; clear hp5; have HC5 := Aside0.mk ((HC1.out.below (below_alloc (below_alloc (Below.refl _ _) (.cells #[.int .i64 x.f0, .int .i64 x.f1, .int .u8 x.f2, .string x.f3, .bool x.f4] 121)) (.cells #[.slice none 0 0] 51))).below hb5); have HB5 := Aside0.mk hb5; have HK5 := Aside0.mk hC5; have HA5 := Aside0.mk hA5; have HWF5 := Aside0.mk hwf5; have HO5 := Aside0.mk ((hb5.block (w1.heap.size + 1) (by simp)).trans (second_new w1 _ _)); have HP5 := Aside0.mk ((hb5.block w.heap.size (by have := HB1.out.size; have := (Array.getElem?_eq_some_iff.1 HP1.out).1; simp; omega)).trans (((below_alloc (below_alloc (Below.refl w1.heap.size w1) _) _).block _ (Array.getElem?_eq_some_iff.1 HP1.out).1).trans HP1.out)); clear hb5 hC5 hA5 hwf5))
  have HO6 := Aside0.mk (show ((w5.alloc (.cells #[.slice A ks.length cp] 51)).alloc (.cells #[.func (.func 169) #[] #[.pointer (some ⟨w1.heap.size + 1, 0, none⟩), .pointer (some ⟨w5.heap.size, 0, none⟩), .pointer (some ⟨w.heap.size, 0, none⟩), .pointer (some ⟨w5.heap.size + 1, 0, none⟩)]] 262)).heap[w1.heap.size + 1]? = _ from ((below_alloc (below_alloc (Below.refl w5.heap.size w5) _) _).block _ (Array.getElem?_eq_some_iff.1 HO5.out).1).trans HO5.out)
  refine (under1 _ cb mb l (HC5.out.below (below_alloc (below_alloc (Below.refl _ _) _) _)) c HNO.out (w1.heap.size + 1) w5.heap.size w.heap.size (w5.heap.size + 1) A cp ks HO6.out (first_new w5 _ _ _ _) (((below_alloc (below_alloc (Below.refl w5.heap.size w5) _) _).block _ (Array.getElem?_eq_some_iff.1 HP5.out).1).trans HP5.out) (Kd.C_alloc (Kd.C_alloc HK5.out _) _) (fun ad e => by have := HA5.out ad e; simp at this; omega) hcp5 HWF5.out (by have := HB5.out.size; simp at this; omega)).mono ?_
  rintro e w7 ⟨rfl, v, hv, hR7, hg7⟩
  obtain ⟨g, cap, rfl, hbg, hgs, hsort⟩ := sort_ints w7 v [c] _ _ hR7 (by simp) (by simp)
  have HS : Aside0 (Calls Try.prog 170 #[.slice (some ⟨g, 0, none⟩) 1 cap] w7 fun e w' => e = .returned (.tuple #[]) ∧ w7.grownBy w' (some g)) := ⟨hsort⟩
  have o7 : w7.cell? ⟨w1.heap.size + 1, 0, none⟩ = some (.slice (some ⟨g, 0, none⟩) 1 cap) := cell_of_one hv
  have hne7 : some (w1.heap.size + 1) ≠ some g := by
    have h6 := (Array.getElem?_eq_some_iff.1 HO6.out).1
    intro e
    have := Option.some.inj e
    omega
  have HV7 := Aside0.mk hv
  have HG7 := Aside0.mk hg7
  clear hsort hv hg7 hR7
  simp only []
  go_at_K
  go_wp2_with (go_at_call 170; refine HS.out.mono ?_; rintro e w8 ⟨rfl, hg8⟩; have o8 := hg8.cell o7 hne7; have HG8 := Aside0.mk hg8; clear hg8)
  go_ret
  refine ⟨⟨_, _, rfl⟩, ?_⟩
  have b5 : Below w.heap.size w w5 := below_then (below_alloc (below_alloc HB1.out _) _) (by have := HB1.out.size; simp; omega) HB5.out
  have b6 : Below w.heap.size w ((w5.alloc (.cells #[.slice A ks.length cp] 51)).alloc (.cells #[.func (.func 169) #[] #[.pointer (some ⟨w1.heap.size + 1, 0, none⟩), .pointer (some ⟨w5.heap.size, 0, none⟩), .pointer (some ⟨w.heap.size, 0, none⟩), .pointer (some ⟨w5.heap.size + 1, 0, none⟩)]] 262)) := below_alloc (below_alloc b5 _) _
  have b7 : Below w.heap.size w w7 := pw_below_grown b6 _ b6.size HG7.out (fun k e => by cases e; have := HB1.out.size; omega)
  exact pw_below_grown b7 _ b7.size HG8.out (fun k e => by cases e; have := b6.size; omega)

set_option maxHeartbeats 1000000 in
set_option maxRecDepth 100000 in
theorem chart_Leaf.leaf (w : World) (cb mb : Nat) (l : List Acc) (h : ChartAt w cb mb l) (hl : l.length * 8 ≤ 140737488355328) (c : Int) (hwf : (Lit.int .i64 c).wf = true) (hin : hasC l c = true) (hno : ∀ k, (lookC l k).f1 ≠ c) :
    Calls Try.prog 60 #[.pointer (some ⟨cb, 0, none⟩), .int .i64 c] w fun e w' => e = .returned (.bool true) ∧ Below w.heap.size w w' := by
  have HU := Aside0.mk (chart_Under.leaf w cb mb l h hl c hwf hin hno)
  clear h hin hno
  go_enter Try.func60, Try.ntmps60
  go_wp2_with (go_at_call 118; refine HU.out.mono ?_; rintro e w1 ⟨⟨A, cp, rfl⟩, hb⟩)
  go_ret
  exact ⟨rfl, hb⟩
end Go.Proofs.Ytaoejonkiikhmaa.G

/- (*Chart).depth, in a chart whose accounts stand under ones that are there: it comes to an end, and leaves all as it is. -/
namespace Go.Proofs.Ytaoejonkiikhmaa.G
open Go.RowKit Go.Proofs.YtaoejonkiikhmaaW.PrintWords Go.Proofs.YtaoejonkiikhmaaW.PrintLast Go.Proofs.YtaoejonkiikhmaaW.PrintMore
open Go.Maps
set_option linter.unusedVariables false
set_option linter.unusedSimpArgs false

theorem wf_code {c : Int} (h : c = 0 ∨ (1 ≤ c ∧ c ≤ 9999)) : (Lit.int .i64 c).wf = true := WalkArith.wf_i64 (by omega)

def depthN (l : List Acc) : Nat → Int → Nat
  | 0, _ => 0
  | n + 1, c => if c = 0 then 0 else depthN l n (upC l c) + 1

set_option maxHeartbeats 1000000 in
set_option maxRecDepth 100000 in
theorem chart_depth.calls (w : World) (cb mb : Nat) (l : List Acc) (h : ChartAt w cb mb l) (hg : GoodC l) (hl : l.length ≤ 1000000) (c : Int) (hc : c = 0 ∨ hasC l c = true) :
    Calls Try.prog 167 #[.pointer (some ⟨cb, 0, none⟩), .int .i64 c] w fun e w' => e = .returned (.int .i64 (depthN l (l.length + 1) c)) ∧ w' = w := by
  have hu := Try.underlying213
  have hua := Try.underlying121
  obtain ⟨rk, N, hN, hb, h0, hgd⟩ := hg
  have HG := Aside0.mk hgd
  have HB := Aside0.mk hb
  have H0 := Aside0.mk h0
  have H := Aside0.mk h
  have hcell := h.cell
  have HC := Aside0.mk hc
  have hN2 : N ≤ 1000000 := by omega
  obtain ⟨D, hD⟩ : ∃ D, D = depthN l (l.length + 1) c := ⟨_, rfl⟩
  rw [← hD]
  have HD := Aside0.mk (show ∃ f, N + 1 ≤ f ∧ D = depthN l f c from ⟨l.length + 1, by omega, hD⟩)
  clear hgd hb h0 h hc hN hD
  go_enter Try.func167, Try.ntmps167
  go_wp2
  go_loopg [1, 5] (N + 1) (fun gg s1 s5 wr => ∃ (c : Int) (m : Nat), Aside0 (c = 0 ∨ hasC l c = true) ∧ deepC rk c ≤ gg ∧ Aside0 (m + deepC rk c ≤ N + 1 ∧ ∃ f, deepC rk c ≤ f ∧ D = m + depthN l f c) ∧ s1 = .int .i64 c ∧ s5 = .int .i64 m ∧ wr = w)
  case atStart =>
    have hd : deepC rk c ≤ N + 1 := by
      unfold deepC
      have := HB.out c
      split <;> omega
    obtain ⟨f, hf, hD⟩ := HD.out
    exact ⟨c, 0, HC, hd, ⟨by omega, f, by omega, by rw [hD, Nat.zero_add]⟩, rfl, rfl, rfl⟩
  case round =>
    obtain ⟨c, m, HCC, hd, HM, rfl, rfl, rfl⟩ := hrel
    have hm : m ≤ N + 1 := by have := HM.out.1; omega
    by_cases hz : c = 0
    · subst hz
      go_wp2
      go_ret
      obtain ⟨_, f, _, hD⟩ := HM.out
      have hz : depthN l f 0 = 0 := by cases f <;> simp [depthN]
      have hDm : D = m := by rw [hD, hz, Nat.add_zero]
      subst hDm
      exact ⟨rfl, rfl⟩
    · have hhas : hasC l c = true := by
        rcases HCC.out with h | h
        · exact absurd h hz
        · exact h
      obtain ⟨q1, q2, q3⟩ := HG.out c hhas
      have hlk := H.out.look1 (wf_code (.inr q1))
      unfold accV at hlk
      have hzb : (c != 0) = true := bne_iff_ne.mpr hz
      have hnx : deepC rk (upC l c) < deepC rk c := by
        have := H0.out
        unfold deepC
        rw [if_neg hz]
        split
        · omega
        · omega
      have HM2 : Aside0 (((m + 1 : Nat)) + deepC rk (upC l c) ≤ N + 1 ∧ ∃ f, deepC rk (upC l c) ≤ f ∧ D = (m + 1) + depthN l f (upC l c)) := ⟨by
        obtain ⟨h1, f, h2, h3⟩ := HM.out
        refine ⟨by omega, f - 1, by omega, ?_⟩
        obtain ⟨f', rfl⟩ : ∃ f', f = f' + 1 := ⟨f - 1, by omega⟩
        rw [h3, depthN, if_neg hz, Nat.add_sub_cancel]
        omega⟩
      unfold upC at q2 q3 hnx HM2
      have HQ := Aside0.mk q2
      obtain ⟨y, hy⟩ : ∃ y, y = lookC l c := ⟨_, rfl⟩
      rw [← hy] at hlk hnx HQ HM2
      clear hy q2 q3 hhas
      have hfu := acc_up y wr
      go_wp2
      go_roundg (deepC rk y.f1)
      case measure => omega
      case rel => exact ⟨y.f1, m + 1, HQ, Nat.le_refl _, HM2, rfl, by go_num, rfl⟩
end Go.Proofs.Ytaoejonkiikhmaa.G

/- What (*Chart).Under gathers: an account, and all under it; by a function that calls itself. -/
namespace Go.Proofs.Ytaoejonkiikhmaa.G
open Go.RowKit Go.Proofs.YtaoejonkiikhmaaW.PrintWords Go.Proofs.YtaoejonkiikhmaaW.PrintLast Go.Proofs.YtaoejonkiikhmaaW.PrintMore
open Go.Maps Go.Sort Go.Shelf
set_option linter.unusedVariables false
set_option linter.unusedSimpArgs false

theorem own_of_R {w : World} {base : Nat} {ok : Nat → Prop} {v : Value} {zs : List Int} (h : Kd.R (Kd.int .i64) 3 w base ok v zs) : w.ownsRow base 3 1 v zs.length h.2.choose := h.2.choose_spec.1
/-- All blocks below base are as they were, but one. -/
structure Fr (base bo : Nat) (w w' : World) : Prop where
  os : w'.os = w.os
  tape : w'.tape = w.tape
  output : w'.output = w.output
  size : w.heap.size ≤ w'.heap.size
  block : ∀ i, i < base → i ≠ bo → w'.heap[i]? = w.heap[i]?
theorem Fr.refl (base bo : Nat) (w : World) : Fr base bo w w := ⟨rfl, rfl, rfl, Nat.le_refl _, fun _ _ _ => rfl⟩
theorem Fr.trans {base bo : Nat} {a b c : World} (h : Fr base bo a b) (k : Fr base bo b c) : Fr base bo a c :=
  ⟨k.os.trans h.os, k.tape.trans h.tape, k.output.trans h.output, Nat.le_trans h.size k.size, fun i hi hn => (k.block i hi hn).trans (h.block i hi hn)⟩
theorem Fr.below {base bo : Nat} {w w' : World} (hb : base ≤ w.heap.size) (h : Below w.heap.size w w') : Fr base bo w w' :=
  ⟨h.os, h.tape, h.output, h.size, fun i hi _ => h.block i (by omega)⟩
theorem Fr.grown {base bo g : Nat} {w w' : World} (hb : base ≤ w.heap.size) (hg : base ≤ g) (h : w.grownBy w' (some g)) : Fr base bo w w' :=
  ⟨h.os, h.tape, h.output, h.size, fun i hi _ => h.block i (by omega) (fun e => by have := Option.some.inj e; omega)⟩
theorem Fr.grownRow {base bo : Nat} {w w' : World} {row : Option Nat} (hb : base ≤ w.heap.size) (hr : ∀ k, row = some k → base ≤ k) (h : w.grownBy w' row) : Fr base bo w w' :=
  ⟨h.os, h.tape, h.output, h.size, fun i hi _ => h.block i (by omega) (fun e => by have := hr i e.symm; omega)⟩
theorem Fr.set {base bo : Nat} {w : World} (v : Value) : Fr base bo w (w.setCell ⟨bo, 0, none⟩ v) := by
  have h : w.grownBy (w.setCell ⟨bo, 0, none⟩ v) (some bo) := grownBy_setCell' _ _ _
  exact ⟨h.os, h.tape, h.output, h.size, fun i hi hn => Below.heap_setCell w ⟨bo, 0, none⟩ v i hn⟩
theorem Fr.chart {base bo cb mb : Nat} {w w' : World} {l : List Acc} (h : Fr base bo w w') (hc : ChartAt w cb mb l) (h1 : cb < base) (h2 : mb < base) (h3 : cb ≠ bo) (h4 : mb ≠ bo) : ChartAt w' cb mb l := by
  refine ⟨(h.block cb h1 h3).trans hc.1, ?_⟩
  obtain ⟨es, cl, hm, rest⟩ := hc.2
  exact ⟨es, cl, (h.block mb h2 h4).trans hm, rest⟩
theorem Fr.ints {base bo : Nat} {w w' : World} {A : Option Addr} {ks : List Int} (h : Fr base bo w w') (hC : Kd.C (Kd.int .i64) w A ks.length ks) (hA : 0 < ks.length → ∀ ad, A = some ad → ad.block < base ∧ ad.block ≠ bo) : Kd.C (Kd.int .i64) w' A ks.length ks := by
  have hr := Kd.reads_of_C (d := (0 : Int)) hC
  refine Kd.C_of_reads (enc := Value.int .i64) (d := (0 : Int)) (h1 := fun _ => rfl) ⟨rfl, hr.2.1, fun h0 => ?_⟩
  obtain ⟨ad, e, hc⟩ := hr.2.2 h0
  refine ⟨ad, e, fun j hj => ?_⟩
  obtain ⟨q1, q2⟩ := hA h0 ad e
  have hb : (ad.add j).block = ad.block := by
    unfold Addr.add
    split <;> rfl
  exact (World.cell?_of_block (a := ad.add j) (by rw [hb]; exact h.block ad.block q1 q2)).trans (hc j hj)

def kidsC (ks : List Int) (up : Int → Int) (F : Int → List Int) (c : Int) (k : Nat) : List Int := ((ks.take k).filter fun k => decide (up k = c)).flatMap F
theorem kids_yes {ks : List Int} {up : Int → Int} {F : Int → List Int} {c : Int} {k : Nat} (h : k < ks.length) (hu : up (Go.Proofs.YtaoejonkiikhmaaW.PrintWords.rd ks k) = c) : kidsC ks up F c (k + 1) = kidsC ks up F c k ++ F (Go.Proofs.YtaoejonkiikhmaaW.PrintWords.rd ks k) := by
  have hr : Go.Proofs.YtaoejonkiikhmaaW.PrintWords.rd ks k = ks[k] := by simp [Go.Proofs.YtaoejonkiikhmaaW.PrintWords.rd, List.getD_eq_getElem?_getD, List.getElem?_eq_getElem h]
  rw [hr] at hu ⊢
  unfold kidsC
  rw [List.take_succ_eq_append_getElem h, List.filter_append, List.flatMap_append]
  simp [hu]
theorem kids_no {ks : List Int} {up : Int → Int} {F : Int → List Int} {c : Int} {k : Nat} (h : k < ks.length) (hu : up (Go.Proofs.YtaoejonkiikhmaaW.PrintWords.rd ks k) ≠ c) : kidsC ks up F c (k + 1) = kidsC ks up F c k := by
  have hr : Go.Proofs.YtaoejonkiikhmaaW.PrintWords.rd ks k = ks[k] := by simp [Go.Proofs.YtaoejonkiikhmaaW.PrintWords.rd, List.getD_eq_getElem?_getD, List.getElem?_eq_getElem h]
  rw [hr] at hu
  unfold kidsC
  rw [List.take_succ_eq_append_getElem h, List.filter_append, List.flatMap_append]
  simp [hu]
theorem kids_le (ks : List Int) (up : Int → Int) (F : Int → List Int) (c : Int) (k : Nat) : (kidsC ks up F c k).length ≤ ((ks.filter fun k => decide (up k = c)).flatMap F).length := by
  unfold kidsC
  conv => rhs; rw [← List.take_append_drop k ks, List.filter_append, List.flatMap_append, List.length_append]
  omega
theorem kids_all (ks : List Int) (up : Int → Int) (F : Int → List Int) (c : Int) : kidsC ks up F c ks.length = (ks.filter fun k => decide (up k = c)).flatMap F := by
  unfold kidsC
  rw [List.take_length]

set_option maxHeartbeats 4000000 in
set_option maxRecDepth 100000 in
theorem gather_step (cb mb : Nat) (l : List Acc) (bo bk bc bg : Nat) (A : Option Addr) (cp : Nat) (ks : List Int) (base : Nat) (hbs : cb < base ∧ mb < base ∧ bo < base ∧ bk < base ∧ bc < base ∧ bg < base) (hne : cb ≠ bo ∧ mb ≠ bo ∧ bk ≠ bo ∧ bc ≠ bo ∧ bg ≠ bo)
    (hA : 0 < ks.length → ∀ ad, A = some ad → ad.block < base ∧ ad.block ≠ bo) (hcp : ks.length ≤ cp) (hks : ∀ k ∈ ks, (Lit.int .i64 k).wf = true) (hlen : ks.length ≤ 1000000) (c : Int) (F : Int → List Int)
    (ih : ∀ x ∈ ks, upC l x = c → ∀ (w : World) (v0 : Value) (o : List Int), base ≤ w.heap.size → ChartAt w cb mb l → w.heap[bo]? = some (.cells #[v0] 51 (0, 0)) → w.heap[bk]? = some (.cells #[.slice A ks.length cp] 51 (0, 0)) → w.heap[bc]? = some (.cells #[.pointer (some ⟨cb, 0, none⟩)] 117 (0, 0)) → w.heap[bg]? = some (.cells #[.func (.func 169) #[] #[.pointer (some ⟨bo, 0, none⟩), .pointer (some ⟨bk, 0, none⟩), .pointer (some ⟨bc, 0, none⟩), .pointer (some ⟨bg, 0, none⟩)]] 262 (0, 0)) → Kd.C (Kd.int .i64) w A ks.length ks → Kd.R (Kd.int .i64) 3 w base (fun _ => True) v0 o → o.length + (F x).length ≤ 1000000 → Calls Try.prog 169 #[.int .i64 x, .pointer (some ⟨bo, 0, none⟩), .pointer (some ⟨bk, 0, none⟩), .pointer (some ⟨bc, 0, none⟩), .pointer (some ⟨bg, 0, none⟩)] w fun e w' => e = .returned (.tuple #[]) ∧ ∃ v, w'.heap[bo]? = some (.cells #[v] 51 (0, 0)) ∧ Kd.R (Kd.int .i64) 3 w' base (fun _ => True) v (o ++ F x) ∧ Fr base bo w w')
    (w : World) (v0 : Value) (o : List Int) (hbase : base ≤ w.heap.size) (hch : ChartAt w cb mb l) (ho : w.heap[bo]? = some (.cells #[v0] 51 (0, 0))) (hk : w.heap[bk]? = some (.cells #[.slice A ks.length cp] 51 (0, 0)))
    (hc : w.heap[bc]? = some (.cells #[.pointer (some ⟨cb, 0, none⟩)] 117 (0, 0))) (hgf : w.heap[bg]? = some (.cells #[.func (.func 169) #[] #[.pointer (some ⟨bo, 0, none⟩), .pointer (some ⟨bk, 0, none⟩), .pointer (some ⟨bc, 0, none⟩), .pointer (some ⟨bg, 0, none⟩)]] 262 (0, 0)))
    (hC : Kd.C (Kd.int .i64) w A ks.length ks) (hR : Kd.R (Kd.int .i64) 3 w base (fun _ => True) v0 o) (hlo : o.length + (c :: (ks.filter fun k => decide (upC l k = c)).flatMap F).length ≤ 1000000) :
    Calls Try.prog 169 #[.int .i64 c, .pointer (some ⟨bo, 0, none⟩), .pointer (some ⟨bk, 0, none⟩), .pointer (some ⟨bc, 0, none⟩), .pointer (some ⟨bg, 0, none⟩)] w fun e w' => e = .returned (.tuple #[]) ∧ ∃ v, w'.heap[bo]? = some (.cells #[v] 51 (0, 0)) ∧ Kd.R (Kd.int .i64) 3 w' base (fun _ => True) v (o ++ c :: (ks.filter fun k => decide (upC l k = c)).flatMap F) ∧ Fr base bo w w' := by
  have hu := Try.underlying213
  have hua := Try.underlying121
  have hui := Try.underlying51
  obtain ⟨A0, c0, rfl, _, _⟩ := Kd.R_reads hR
  obtain ⟨v0, hv0⟩ : ∃ v, v = Value.slice A0 o.length c0 := ⟨_, rfl⟩
  rw [← hv0] at hR ho
  have HV0 := Aside0.mk hv0
  have HR := Aside0.mk hR
  have HO := Aside0.mk ho
  have HKB := Aside0.mk hk
  have HCB := Aside0.mk hc
  have HGB := Aside0.mk hgf
  have HCH := Aside0.mk hch
  have HC := Aside0.mk hC
  have HNE := Aside0.mk hne
  have HBS := Aside0.mk hbs
  have HAA := Aside0.mk hA
  have HKS := Aside0.mk hks
  have HIH := Aside0.mk ih
  have HLO := Aside0.mk hlo
  have o0 : w.cell? ⟨bo, 0, none⟩ = some v0 := cell_of_one ho
  have k0 : w.cell? ⟨bk, 0, none⟩ = some (.slice A ks.length cp) := cell_of_one hk
  have hmax := Kd.C_max hC
  have hol : (o ++ [c]).length ≤ 1000000 := by simp at hlo ⊢; omega
  have HOL := Aside0.mk hol
  clear hv0 hR ho hk hc hgf hch hC hne hbs hA hks ih hlo hol
  go_enter Try.func169, Try.ntmps169
  go_wp2_with (first | ((with_reducible refine gate_builtin (b := .append) (xs := #[.tmp 8, .tmp 10]) rfl ?_); at_builtin; refine Kd.R_append (Kd.int .i64) (w0 := w) base rfl (.tmp 8) (.tmp 10) 51 3 (.int .i64 0) 8 rfl Try.underlying51 info3 rfl (by decide) (by omega) v0 o c [.int .i64 c] (fun _ => True) (fun _ => False) rfl rfl rfl (fun _ hk => hk.elim) (fun _ _ => trivial) HR.out (Below.refl _ _) hbase (by have := HOL.out; simp at this; omega) ?_; intro v1 w6 ho6 hb6 hg6 hat; obtain ⟨A2, c2, hv1, _, _⟩ := Kd.R_reads ho6; obtain ⟨n2, hn2⟩ : ∃ n2, n2 = (o ++ [c]).length := ⟨_, rfl⟩; rw [← hn2] at hv1; subst hv1; clear hn2; have HO6 := Aside0.mk ho6; have HG6 := Aside0.mk hg6; have HB6 := Aside0.mk hb6; have o6 : w6.cell? ⟨bo, 0, none⟩ = some v0 := hg6.cell o0 (own_ne (own_of_R HR.out) HO.out (by decide)); have f6 := blk_frozen (blk_grown HO.out hg6 (own_ne (own_of_R HR.out) HO.out (by decide))) 0; have HF6 := Aside0.mk ((Fr.grownRow (bo := bo) hbase (fun k hk => own_base (own_of_R HR.out) k hk) hg6).trans (Fr.set (base := base) (bo := bo) (w := w6) (.slice A2 n2 c2))); have k7 : (w6.setCell ⟨bo, 0, none⟩ (.slice A2 n2 c2)).cell? ⟨bk, 0, none⟩ = some (.slice A ks.length cp) := cell_of_one ((HF6.out.block bk HBS.out.2.2.2.1 HNE.out.2.2.1).trans HKB.out); clear ho6 hb6 hg6 hat))
  have o7 := blk_set (blk_grown HO.out HG6.out (own_ne (own_of_R HR.out) HO.out (by decide))) 0 (.slice A2 n2 c2)
  obtain ⟨W7, hW7⟩ : ∃ W7, W7 = w6.setCell ⟨bo, 0, none⟩ (.slice A2 n2 c2) := ⟨_, rfl⟩
  rw [← hW7] at HF6 k7 o7 ⊢
  have HR7 : Aside0 (Kd.R (Kd.int .i64) 3 W7 base (fun k => k ≠ bo) (.slice A2 n2 c2) (o ++ [c])) := ⟨by
    rw [hW7]
    exact Kd.R_far (p := ⟨bo, 0, none⟩) (Kd.R_mono (Kd.R_types HO6.out (blk_grown HO.out HG6.out (own_ne (own_of_R HR.out) HO.out (by decide))) (by decide)) (fun _ hk => hk.2)) (fun _ hk => hk) _⟩
  have HO7 := Aside0.mk o7
  have HW7 := Aside0.mk hW7
  clear hW7 o6 f6 o0 k0 o7
  go_loopw [14] (fun i wr => ∃ (k : Nat) (v : Value), k ≤ ks.length ∧ i = .int .i64 k ∧ Aside0 (wr.heap[bo]? = some (.cells #[v] 51 (0, 0))) ∧ Aside0 (Kd.R (Kd.int .i64) 3 wr base (fun _ => True) v (o ++ [c] ++ kidsC ks (upC l) F c k)) ∧ Aside0 (Fr base bo w wr))
    (fun i _ => ks.length - (intOf i).toNat)
  case atStart => exact ⟨0, _, Nat.zero_le _, rfl, by simpa using HO7, ⟨by simpa [kidsC] using Kd.R_mono HR7.out (fun _ _ => trivial)⟩, HF6⟩
  case round =>
    obtain ⟨k, v, hk, rfl, HOW, HRW, HFW⟩ := hrel
    have hbw : base ≤ wr.heap.size := Nat.le_trans hbase HFW.out.size
    by_cases hlt : k < ks.length
    · obtain ⟨ad, rfl, hcell⟩ := Kd.at_int (Fr.ints HFW.out HC.out HAA.out) k (by omega) (by omega)
      rw [Int.toNat_natCast] at hcell
      have hmem : Go.Proofs.YtaoejonkiikhmaaW.PrintWords.rd ks k ∈ ks := by simp [Go.Proofs.YtaoejonkiikhmaaW.PrintWords.rd, List.getD_eq_getElem?_getD, List.getElem?_eq_getElem hlt]
      have HM := Aside0.mk hmem
      have hw := HKS.out _ hmem
      have HKY := Aside0.mk (kids_yes (up := upC l) (F := F) (c := c) hlt)
      have HKN := Aside0.mk (kids_no (up := upC l) (F := F) (c := c) hlt)
      obtain ⟨x, hx⟩ : ∃ x, x = Go.Proofs.YtaoejonkiikhmaaW.PrintWords.rd ks k := ⟨_, rfl⟩
      rw [← hx] at hcell hw HKY HKN HM
      clear hx hmem
      have HCW := Aside0.mk (HFW.out.chart HCH.out HBS.out.1 HBS.out.2.1 HNE.out.1 HNE.out.2.1)
      have hlk := HCW.out.look1 hw
      unfold accV at hlk
      have chc := HCW.out.cell
      have HBC := Aside0.mk ((HFW.out.block bc HBS.out.2.2.2.2.1 HNE.out.2.2.2.1).trans HCB.out)
      have HBK := Aside0.mk ((HFW.out.block bk HBS.out.2.2.2.1 HNE.out.2.2.1).trans HKB.out)
      have HBG := Aside0.mk ((HFW.out.block bg HBS.out.2.2.2.2.2 HNE.out.2.2.2.2).trans HGB.out)
      have c0 : wr.cell? ⟨bc, 0, none⟩ = some (.pointer (some ⟨cb, 0, none⟩)) := cell_of_one HBC.out
      have g0 : wr.cell? ⟨bg, 0, none⟩ = some (.func (.func 169) #[] #[.pointer (some ⟨bo, 0, none⟩), .pointer (some ⟨bk, 0, none⟩), .pointer (some ⟨bc, 0, none⟩), .pointer (some ⟨bg, 0, none⟩)]) := cell_of_one HBG.out
      have HUP : Aside0 (upC l x = (lookC l x).f1) := ⟨rfl⟩
      by_cases hxc : upC l x = c
      · have HXC := Aside0.mk hxc
        have hnb : ((lookC l x).f1 == c) = true := beq_iff_eq.mpr (HUP.out.symm.trans hxc)
        clear hxc
        obtain ⟨y, hy⟩ : ∃ y, y = lookC l x := ⟨_, rfl⟩
        rw [← hy] at hlk hnb
        clear hy
        have hfu := acc_up y wr
        have HCALL := Aside0.mk (HIH.out x HM.out HXC.out wr v (o ++ [c] ++ kidsC ks (upC l) F c k) hbw HCW.out HOW.out HBK.out HBC.out HBG.out (Fr.ints HFW.out HC.out HAA.out) HRW.out (by
          have h1 := HKY.out HXC.out
          have h2 := kids_le ks (upC l) F c (k + 1)
          have h3 := HLO.out
          rw [h1, List.length_append] at h2
          simp only [List.length_append, List.length_cons, List.length_nil] at h3 ⊢
          omega))
        go_wp2_with (go_at_call 169; refine HCALL.out.mono ?_; rintro e w9 ⟨rfl, v9, hv9, hR9, hf9⟩; rw [List.append_assoc (o ++ [c]), ← HKY.out HXC.out] at hR9; have HV9 := Aside0.mk hv9; have HR9 := Aside0.mk hR9; have HF9 := Aside0.mk (HFW.out.trans hf9); clear hv9 hR9 hf9)
        exact ⟨⟨k + 1, v9, by omega, by go_num, HV9, HR9, HF9⟩, by simp [intOf]; omega⟩
      · have hnb : ((lookC l x).f1 == c) = false := beq_eq_false_iff_ne.mpr (fun e => hxc (HUP.out.trans e))
        have HK2 := Aside0.mk (HKN.out hxc)
        clear hxc
        obtain ⟨y, hy⟩ : ∃ y, y = lookC l x := ⟨_, rfl⟩
        rw [← hy] at hlk hnb
        clear hy
        have hfu := acc_up y wr
        go_wp2
        exact ⟨⟨k + 1, v, by omega, by go_num, HOW, ⟨by rw [HK2.out]; exact HRW.out⟩, HFW⟩, by simp [intOf]; omega⟩
    · obtain rfl : k = ks.length := by omega
      go_wp2
      go_end0
      refine ⟨rfl, v, HOW.out, ?_, HFW.out⟩
      have := HRW.out
      rw [kids_all] at this
      simpa using this

theorem gather (cb mb : Nat) (l : List Acc) (rk : Int → Nat) (N : Nat) (hb : ∀ c, rk c ≤ N) (hgd : ∀ c, hasC l c = true → (1 ≤ c ∧ c ≤ 9999) ∧ (upC l c = 0 ∨ hasC l (upC l c) = true) ∧ rk (upC l c) < rk c)
    (bo bk bc bg : Nat) (A : Option Addr) (cp : Nat) (ks : List Int) (base : Nat) (hbs : cb < base ∧ mb < base ∧ bo < base ∧ bk < base ∧ bc < base ∧ bg < base) (hne : cb ≠ bo ∧ mb ≠ bo ∧ bk ≠ bo ∧ bc ≠ bo ∧ bg ≠ bo)
    (hA : 0 < ks.length → ∀ ad, A = some ad → ad.block < base ∧ ad.block ≠ bo) (hcp : ks.length ≤ cp) (hks : ∀ k ∈ ks, hasC l k = true) (hlen : ks.length ≤ 1000000) :
    ∀ (n : Nat) (c : Int), N ≤ rk c + n → ∀ (w : World) (v0 : Value) (o : List Int), base ≤ w.heap.size → ChartAt w cb mb l → w.heap[bo]? = some (.cells #[v0] 51 (0, 0)) → w.heap[bk]? = some (.cells #[.slice A ks.length cp] 51 (0, 0)) → w.heap[bc]? = some (.cells #[.pointer (some ⟨cb, 0, none⟩)] 117 (0, 0)) → w.heap[bg]? = some (.cells #[.func (.func 169) #[] #[.pointer (some ⟨bo, 0, none⟩), .pointer (some ⟨bk, 0, none⟩), .pointer (some ⟨bc, 0, none⟩), .pointer (some ⟨bg, 0, none⟩)]] 262 (0, 0)) → Kd.C (Kd.int .i64) w A ks.length ks → Kd.R (Kd.int .i64) 3 w base (fun _ => True) v0 o → o.length + (subsC ks (upC l) n c).length ≤ 1000000 →
      Calls Try.prog 169 #[.int .i64 c, .pointer (some ⟨bo, 0, none⟩), .pointer (some ⟨bk, 0, none⟩), .pointer (some ⟨bc, 0, none⟩), .pointer (some ⟨bg, 0, none⟩)] w fun e w' => e = .returned (.tuple #[]) ∧ ∃ v, w'.heap[bo]? = some (.cells #[v] 51 (0, 0)) ∧ Kd.R (Kd.int .i64) 3 w' base (fun _ => True) v (o ++ subsC ks (upC l) n c) ∧ Fr base bo w w' := by
  have hwf : ∀ k ∈ ks, (Lit.int .i64 k).wf = true := fun k hk => wf_code (.inr (hgd k (hks k hk)).1)
  intro n
  induction n with
  | zero =>
    intro c hn w v0 o h1 h2 h3 h4 h5 h6 h7 h8 h9
    have hno : ∀ k ∈ ks, upC l k ≠ c := fun k hk e => by
      have := (hgd k (hks k hk)).2.2
      rw [e] at this
      have := hb k
      omega
    have hfl : (ks.filter fun k => decide (upC l k = c)) = [] := List.filter_eq_nil_iff.2 (fun k hk => by simpa using hno k hk)
    have := gather_step cb mb l bo bk bc bg A cp ks base hbs hne hA hcp hwf hlen c (fun _ => []) (fun x hx e => absurd e (hno x hx)) w v0 o h1 h2 h3 h4 h5 h6 h7 h8 (by rw [hfl]; simpa [subsC] using h9)
    rw [hfl] at this
    exact this
  | succ n ih =>
    intro c hn w v0 o h1 h2 h3 h4 h5 h6 h7 h8 h9
    exact gather_step cb mb l bo bk bc bg A cp ks base hbs hne hA hcp hwf hlen c (subsC ks (upC l) n) (fun x hx e => ih x (by
      have := (hgd x (hks x hx)).2.2
      rw [e] at this
      omega)) w v0 o h1 h2 h3 h4 h5 h6 h7 h8 h9
end Go.Proofs.Ytaoejonkiikhmaa.G

/- (*Chart).Under in full: an account and all under it, each once; (*Chart).Leaf. -/
namespace Go.Proofs.Ytaoejonkiikhmaa.G
open Go.RowKit Go.Proofs.YtaoejonkiikhmaaW.PrintWords Go.Proofs.YtaoejonkiikhmaaW.PrintLast Go.Proofs.YtaoejonkiikhmaaW.PrintMore
open Go.Maps Go.Sort Go.Shelf
set_option linter.unusedVariables false
set_option linter.unusedSimpArgs false

def upN (up : Int → Int) : Nat → Int → Int
  | 0, x => x
  | n + 1, x => up (upN up n x)
theorem upN_add (up : Int → Int) (a b : Nat) (x : Int) : upN up (a + b) x = upN up a (upN up b x) := by
  induction a with
  | zero => rw [Nat.zero_add]; rfl
  | succ a ih => rw [Nat.add_right_comm]; show up (upN up (a + b) x) = up (upN up a (upN up b x)); rw [ih]
theorem subsC_up (ks : List Int) (up : Int → Int) : ∀ (n : Nat) (c x : Int), x ∈ subsC ks up n c → ∃ j, upN up j x = c
  | 0, c, x, h => by simp [subsC] at h; subst h; exact ⟨0, rfl⟩
  | n + 1, c, x, h => by
    unfold subsC at h
    rcases List.mem_cons.1 h with rfl | h
    · exact ⟨0, rfl⟩
    · obtain ⟨k, hk, hx⟩ := List.mem_flatMap.1 h
      obtain ⟨j, hj⟩ := subsC_up ks up n k x hx
      have hu := (List.mem_filter.1 hk).2
      refine ⟨j + 1, ?_⟩
      show up (upN up j x) = c
      rw [hj]
      simpa using hu
theorem subsC_mem (ks : List Int) (up : Int → Int) : ∀ (n : Nat) (c x : Int), x ∈ subsC ks up n c → x = c ∨ x ∈ ks
  | 0, c, x, h => by simp [subsC] at h; exact .inl h
  | n + 1, c, x, h => by
    unfold subsC at h
    rcases List.mem_cons.1 h with h | h
    · exact .inl h
    · obtain ⟨k, hk, hx⟩ := List.mem_flatMap.1 h
      rcases subsC_mem ks up n k x hx with e | hx
      · rw [e]; exact .inr (List.mem_filter.1 hk).1
      · exact .inr hx
theorem rk_upN {up : Int → Int} {rk : Int → Nat} (h : ∀ y, rk (up y) ≤ rk y) (n : Nat) (x : Int) : rk (upN up n x) ≤ rk x := by
  induction n with
  | zero => exact Nat.le_refl _
  | succ n ih => exact Nat.le_trans (h _) ih
theorem flat_nodup {ks : List Int} {F : Int → List Int} (hk : ks.Nodup) (h1 : ∀ k ∈ ks, (F k).Nodup) (h2 : ∀ k ∈ ks, ∀ k' ∈ ks, k ≠ k' → ∀ x, x ∈ F k → x ∉ F k') : (ks.flatMap F).Nodup := by
  induction ks with
  | nil => simp
  | cons a r ih =>
    obtain ⟨q1, q2⟩ := List.nodup_cons.1 hk
    rw [List.flatMap_cons, List.nodup_append]
    refine ⟨h1 a List.mem_cons_self, ih q2 (fun k hk => h1 k (List.mem_cons_of_mem _ hk)) (fun k hk k' hk' => h2 k (List.mem_cons_of_mem _ hk) k' (List.mem_cons_of_mem _ hk')), ?_⟩
    intro x hx y hy e
    subst e
    obtain ⟨b, hb, hxb⟩ := List.mem_flatMap.1 hy
    exact h2 a List.mem_cons_self b (List.mem_cons_of_mem _ hb) (fun e => q1 (by rw [e]; exact hb)) x hx hxb
theorem subsC_nodup {ks : List Int} {up : Int → Int} {rk : Int → Nat} (hks : ks.Nodup) (h : ∀ y, rk (up y) ≤ rk y) (hlt : ∀ k ∈ ks, rk (up k) < rk k) : ∀ (n : Nat) (c : Int), (subsC ks up n c).Nodup
  | 0, c => by simp [subsC]
  | n + 1, c => by
    unfold subsC
    rw [List.nodup_cons]
    constructor
    · intro hc
      obtain ⟨k, hk, hx⟩ := List.mem_flatMap.1 hc
      obtain ⟨j, hj⟩ := subsC_up ks up n k c hx
      obtain ⟨hkm, hu⟩ := List.mem_filter.1 hk
      have h1 := rk_upN h j c
      have h2 := hlt k hkm
      have hu' : up k = c := by simpa using hu
      rw [hj] at h1
      rw [hu'] at h2
      omega
    · refine flat_nodup (hks.filter _) (fun k _ => subsC_nodup hks h hlt n k) ?_
      intro k hk k' hk' hne x hx hx'
      obtain ⟨i, hi⟩ := subsC_up ks up n k x hx
      obtain ⟨j, hj⟩ := subsC_up ks up n k' x hx'
      obtain ⟨hkm, hu⟩ := List.mem_filter.1 hk
      obtain ⟨hkm', hu'⟩ := List.mem_filter.1 hk'
      have e1 : up k = c := by simpa using hu
      have e2 : up k' = c := by simpa using hu'
      have l1 := hlt k hkm
      have l2 := hlt k' hkm'
      rw [e1] at l1
      rw [e2] at l2
      rcases Nat.lt_trichotomy i j with hij | hij | hij
      · obtain ⟨m, rfl⟩ : ∃ m, j = (m + 1) + i := ⟨j - i - 1, by omega⟩
        rw [upN_add, hi] at hj
        have hq : upN up (m + 1) k = upN up m c := by rw [upN_add up m 1 k]; show upN up m (up k) = _; rw [e1]
        rw [hq] at hj
        have := rk_upN h m c
        rw [hj] at this
        omega
      · subst hij
        exact hne (hi.symm.trans hj)
      · obtain ⟨m, rfl⟩ : ∃ m, i = (m + 1) + j := ⟨i - j - 1, by omega⟩
        rw [upN_add, hj] at hi
        have hq : upN up (m + 1) k' = upN up m c := by rw [upN_add up m 1 k']; show upN up m (up k') = _; rw [e2]
        rw [hq] at hi
        have := rk_upN h m c
        rw [hi] at this
        omega
theorem nodup_len : ∀ {a b : List Int}, a.Nodup → (∀ x ∈ a, x ∈ b) → a.length ≤ b.length
  | [], b, _, _ => by simp
  | x :: r, b, h, hs => by
    obtain ⟨h1, h2⟩ := List.nodup_cons.1 h
    have hx := hs x List.mem_cons_self
    have := nodup_len (a := r) (b := b.erase x) h2 (fun y hy => (List.mem_erase_of_ne (fun e => h1 (by rw [← e]; exact hy))).2 (hs y (List.mem_cons_of_mem _ hy)))
    rw [List.length_erase_of_mem hx] at this
    have hp := List.length_pos_of_mem hx
    simp only [List.length_cons]
    omega
theorem subsC_len {ks : List Int} {up : Int → Int} {rk : Int → Nat} (hks : ks.Nodup) (h : ∀ y, rk (up y) ≤ rk y) (hlt : ∀ k ∈ ks, rk (up k) < rk k) (n : Nat) (c : Int) : (subsC ks up n c).length ≤ ks.length + 1 := by
  have := nodup_len (b := c :: ks) (subsC_nodup hks h hlt n c) (fun x hx => by
    rcases subsC_mem ks up n c x hx with e | hx
    · rw [e]; exact List.mem_cons_self
    · exact List.mem_cons_of_mem _ hx)
  simpa using this

theorem chart_keys_of {w : World} {cb mb : Nat} {l : List Acc} (h : ChartAt w cb mb l) : (intKeys (chD l)).Nodup ∧ ∀ x, x ∈ intKeys (chD l) ↔ hasC l x = true := by
  obtain ⟨es, hD, hpw, _⟩ := h.2.entries ch_law
  obtain ⟨es', hD', hko⟩ := h.2.keysOf
  obtain rfl : es = es' := by rw [hD] at hD'; simpa using hD'
  have hk : ∀ p ∈ es, ∃ x, p.1 = .int .i64 x := fun p hp => by
    obtain ⟨v, hv⟩ := hko p hp
    obtain ⟨x, _, hx, _⟩ := Maps.keyOf_i64 Try.underlying3 hv
    exact ⟨x, hx⟩
  have hh := fun x => chD_has' l x
  rw [hD] at hh ⊢
  constructor
  · show (es.map fun p => Go.intOf p.1).Nodup
    refine List.pairwise_map.2 (hpw.imp_of_mem fun {p q} hp' hq' hne e => hne ?_)
    obtain ⟨a, ha⟩ := hk p hp'
    obtain ⟨b, hb⟩ := hk q hq'
    rw [ha, hb] at e ⊢
    exact congrArg _ e
  · intro x
    rw [← hh x, has_eq, List.any_eq_true]
    show x ∈ es.map (fun p => Go.intOf p.1) ↔ _
    rw [List.mem_map]
    constructor
    · rintro ⟨p, hp', rfl⟩
      obtain ⟨a, ha⟩ := hk p hp'
      exact ⟨p, hp', by rw [ha]; simp [Lit.sameKey, Go.intOf, clit]⟩
    · rintro ⟨p, hp', hs⟩
      obtain ⟨a, ha⟩ := hk p hp'
      rw [ha] at hs
      exact ⟨p, hp', by rw [ha]; simpa [Lit.sameKey, Go.intOf, clit] using hs⟩
theorem rank_le {l : List Acc} {rk : Int → Nat} (h0 : rk 0 = 0) (hg : ∀ c, hasC l c = true → (1 ≤ c ∧ c ≤ 9999) ∧ (upC l c = 0 ∨ hasC l (upC l c) = true) ∧ rk (upC l c) < rk c) (y : Int) : rk (upC l y) ≤ rk y := by
  by_cases h : hasC l y = true
  · exact Nat.le_of_lt (hg y h).2.2
  · have : upC l y = 0 := by
      unfold upC
      rw [lookC_none (by simpa using h)]
      rfl
    rw [this, h0]
    omega
/-- Is an account a leaf? -/
def leafC (l : List Acc) (c : Int) : Bool := l.all fun a => decide (upC l a.f0 ≠ c)
theorem leafC_iff (l : List Acc) (c : Int) : leafC l c = true ↔ ∀ k, hasC l k = true → upC l k ≠ c := by
  unfold leafC
  rw [List.all_eq_true]
  constructor
  · intro h k hk
    unfold hasC at hk
    rw [List.any_eq_true] at hk
    obtain ⟨a, ha, he⟩ := hk
    have := h a ha
    rw [beq_iff_eq.1 he] at this
    exact of_decide_eq_true this
  · intro h a ha
    exact decide_eq_true (h a.f0 (by unfold hasC; rw [List.any_eq_true]; exact ⟨a, ha, by simp⟩))

set_option maxHeartbeats 2000000 in
set_option maxRecDepth 100000 in
theorem chart_Under.calls (w : World) (cb mb : Nat) (l : List Acc) (h : ChartAt w cb mb l) (hgood : GoodC l) (hl6 : l.length ≤ 100000) (c : Int) (hwf : (Lit.int .i64 c).wf = true) (hin : hasC l c = true) :
    Calls Try.prog 118 #[.pointer (some ⟨cb, 0, none⟩), .int .i64 c] w fun e w' => (∃ A n cp, e = .returned (.slice A n cp) ∧ (n = 1 ↔ leafC l c = true)) ∧ Below w.heap.size w w' := by
  obtain ⟨rk, N, hN, hbk, h0, hgd⟩ := hgood
  have HKO := Aside0.mk (chart_keys_of h)
  have HRK := Aside0.mk (rank_le h0 hgd)
  have HBK := Aside0.mk hbk
  have HGD := Aside0.mk hgd
  have hl : l.length * 8 ≤ 140737488355328 := by omega
  have HSZ := Aside0.mk h.2.size_le
  clear hbk h0 hgd hN
  have hu := Try.underlying213
  have hua := Try.underlying121
  have hui := Try.underlying51
  have HCH := Aside0.mk h
  obtain ⟨x, hx⟩ : ∃ x, x = lookC l c := ⟨_, rfl⟩
  have HGET := Aside0.mk (fun W hW => chart_Get.calls W cb mb l (h.below hW) c hwf)
  rw [hin, if_pos rfl, if_pos rfl, ← hx] at HGET
  unfold accV at HGET
  have hsf : ∀ (a : Addr) (lb : Array Value) (W : World), (store a (.func (.func 169) #[] lb)).run Try.prog W = stored Try.prog W a (.func (.func 169) #[] lb) .plain := fun a lb W => run_store Try.prog W a _ .plain rfl
  clear h hin hx
  go_enter Try.func118, Try.ntmps118
  go_wp2_with (first | (go_at_call 58; refine (HGET.out _ (below_alloc (Below.refl _ _) _)).mono ?_; rintro e w1 ⟨rfl, hb1⟩; have g1 : Below w.heap.size w w1 := below_then (below_alloc (Below.refl _ _) _) (by simp) hb1; have HC1 := Aside0.mk (HCH.out.below g1); have c1 := HC1.out.cell; have p1 : w1.cell? ⟨w.heap.size, 0, none⟩ = some (.pointer (some ⟨cb, 0, none⟩)) := pw_cell_below hb1 (by simp); have HB1 := Aside0.mk g1; have HP1 := Aside0.mk ((hb1.block w.heap.size (by simp)).trans (World.alloc_heap_new w _)); have q4 : Below w1.heap.size w1 ((w1.alloc (.cells #[.int .i64 x.f0, .int .i64 x.f1, .int .u8 x.f2, .string x.f3, .bool x.f4] 121)).alloc (.cells #[.slice none 0 0] 51)) := below_alloc (below_alloc (Below.refl _ _) _) _; have p4 := pw_cell_below q4 p1; have c4 := pw_cell_below q4 c1; clear hb1 g1 q4) | (go_at_call 168; refine (chart_keys _ cb mb l (HC1.out.below (below_alloc (below_alloc (Below.refl _ _) _) _)) hl).mono ?_; rintro e w5 ⟨A, cp, ks, rfl, hp5, hcp5, hC5, hwf5, hA5, hb5⟩; have HP6 := Aside0.mk hp5; clear hp5; have HC5 := Aside0.mk ((HC1.out.below (below_alloc (below_alloc (Below.refl _ _) (.cells #[.int .i64 x.f0, .int .i64 x.f1, .int .u8 x.f2, .string x.f3, .bool x.f4] 121)) (.cells #[.slice none 0 0] 51))).below hb5); have HB5 := Aside0.mk hb5; have HK5 := Aside0.mk hC5; have HA5 := Aside0.mk hA5; have HWF5 := Aside0.mk hwf5; have HO5 := Aside0.mk ((hb5.block (w1.heap.size + 1) (by simp)).trans (second_new w1 _ _)); have HP5 := Aside0.mk ((hb5.block w.heap.size (by have := HB1.out.size; have := (Array.getElem?_eq_some_iff.1 HP1.out).1; simp; omega)).trans (((below_alloc (below_alloc (Below.refl w1.heap.size w1) _) _).block _ (Array.getElem?_eq_some_iff.1 HP1.out).1).trans HP1.out)); clear hb5 hC5 hA5 hwf5))
  have HO6 := Aside0.mk (show ((w5.alloc (.cells #[.slice A ks.length cp] 51)).alloc (.cells #[.func (.func 169) #[] #[.pointer (some ⟨w1.heap.size + 1, 0, none⟩), .pointer (some ⟨w5.heap.size, 0, none⟩), .pointer (some ⟨w.heap.size, 0, none⟩), .pointer (some ⟨w5.heap.size + 1, 0, none⟩)]] 262)).heap[w1.heap.size + 1]? = _ from ((below_alloc (below_alloc (Below.refl w5.heap.size w5) _) _).block _ (Array.getElem?_eq_some_iff.1 HO5.out).1).trans HO5.out)
  have hnd : ks.Nodup := HP6.out.nodup_iff.2 HKO.out.1
  have hksm : ∀ k ∈ ks, hasC l k = true := fun k hk => (HKO.out.2 k).1 (HP6.out.mem_iff.1 hk)
  have hmem : ∀ k, hasC l k = true → k ∈ ks := fun k hk => HP6.out.mem_iff.2 ((HKO.out.2 k).2 hk)
  have hkl : ks.length ≤ 100000 := by
    have h1 : ks.length = (intKeys (chD l)).length := HP6.out.length_eq
    have h2 : (intKeys (chD l)).length = Maps.size (chD l) := by
      obtain ⟨es, e⟩ := chD_isMap l
      rw [e]
      simp [intKeys]
      rfl
    have h3 := HSZ.out
    omega
  have hsl := subsC_len hnd HRK.out (fun k hk => (HGD.out k (hksm k hk)).2.2) N c
  have HLEAF : Aside0 ((subsC ks (upC l) N c).length = 1 ↔ leafC l c = true) := ⟨by
    rw [leafC_iff]
    constructor
    · intro h1 k hk hu
      cases hNN : N with
      | zero =>
        have q := (HGD.out k hk).2.2
        have := HBK.out k
        omega
      | succ m =>
        rw [hNN] at h1
        have := subsC_more ks (upC l) m c k (hmem k hk) hu
        omega
    · intro h1
      rw [subsC_one ks (upC l) N c (fun k hk => h1 k (hksm k hk))]
      rfl⟩
  obtain ⟨W6, hW6⟩ : ∃ W6, W6 = (w5.alloc (.cells #[.slice A ks.length cp] 51)).alloc (.cells #[.func (.func 169) #[] #[.pointer (some ⟨w1.heap.size + 1, 0, none⟩), .pointer (some ⟨w5.heap.size, 0, none⟩), .pointer (some ⟨w.heap.size, 0, none⟩), .pointer (some ⟨w5.heap.size + 1, 0, none⟩)]] 262) := ⟨_, rfl⟩
  have hs6 : W6.heap.size = w5.heap.size + 2 := by rw [hW6]; simp
  have hs5 : w1.heap.size + 2 ≤ w5.heap.size := by have := HB5.out.size; simp at this; omega
  have hs1 : w.heap.size + 1 ≤ w1.heap.size := (Array.getElem?_eq_some_iff.1 HP1.out).1
  have hcbl := (Array.getElem?_eq_some_iff.1 HCH.out.1).1
  have hmbl := HCH.out.2.lt
  have hA6 : 0 < ks.length → ∀ ad, A = some ad → ad.block < W6.heap.size ∧ ad.block ≠ w1.heap.size + 1 := fun hk0 ad e => by
    have q1 := HA5.out ad e
    simp at q1
    refine ⟨?_, by omega⟩
    · obtain ⟨ad', e', hc'⟩ := (Kd.reads_of_C (d := (0 : Int)) HK5.out).2.2 hk0
      rw [e] at e'
      cases e'
      have := World.block_lt_of_cell? w5 _ (hc' 0 hk0)
      have hb0 : (ad.add 0).block = ad.block := by unfold Addr.add; split <;> rfl
      rw [hb0] at this
      omega
  have HG6 : Aside0 (Calls Try.prog 169 #[.int .i64 c, .pointer (some ⟨w1.heap.size + 1, 0, none⟩), .pointer (some ⟨w5.heap.size, 0, none⟩), .pointer (some ⟨w.heap.size, 0, none⟩), .pointer (some ⟨w5.heap.size + 1, 0, none⟩)] W6 fun e w' => e = .returned (.tuple #[]) ∧ ∃ v, w'.heap[w1.heap.size + 1]? = some (.cells #[v] 51 (0, 0)) ∧ Kd.R (Kd.int .i64) 3 w' W6.heap.size (fun _ => True) v ([] ++ subsC ks (upC l) N c) ∧ Fr W6.heap.size (w1.heap.size + 1) W6 w') := ⟨by
    refine gather cb mb l rk N HBK.out HGD.out (w1.heap.size + 1) w5.heap.size w.heap.size (w5.heap.size + 1) A cp ks W6.heap.size ⟨by omega, by omega, by omega, by omega, by omega, by omega⟩ ⟨by omega, by omega, by omega, by omega, by omega⟩ hA6 hcp5 hksm (by omega) N c (by omega) W6 (.slice none 0 0) [] (Nat.le_refl _) ?_ ?_ ?_ ?_ ?_ ?_ (Kd.R_nil _ _ _ _ _) (by simp only [List.length_nil]; omega)
    · rw [hW6]; exact HC5.out.below (below_alloc (below_alloc (Below.refl _ _) _) _)
    · rw [hW6]; exact HO6.out
    · rw [hW6]; exact first_new w5 _ _ _ _
    · rw [hW6]; exact ((below_alloc (below_alloc (Below.refl w5.heap.size w5) _) _).block _ (Array.getElem?_eq_some_iff.1 HP5.out).1).trans HP5.out
    · rw [hW6]; exact second_new w5 _ _
    · rw [hW6]; exact Kd.C_alloc (Kd.C_alloc HK5.out _) _⟩
  have HW6 := Aside0.mk hW6
  rw [← hW6]
  have HS65 := Aside0.mk (And.intro hs6 (And.intro hs5 hs1))
  have HSL := Aside0.mk hsl
  have HKL := Aside0.mk hkl
  clear hnd hksm hmem hkl hsl hW6 hs6 hs5 hs1 hcbl hmbl hA6
  refine HG6.out.mono ?_
  rintro e w7 ⟨rfl, v, hv, hR7, hf7⟩
  rw [List.nil_append] at hR7
  obtain ⟨us, hus⟩ : ∃ us, us = subsC ks (upC l) N c := ⟨_, rfl⟩
  have hup : 0 < us.length := by rw [hus]; exact subsC_pos _ _ _ _
  rw [← hus] at hR7 HLEAF HSL
  have hul : us.length < 4611686018427387904 := by have := HSL.out; have := HKL.out; omega
  clear hus
  obtain ⟨g, cap, rfl, hbg, hgs, hsort⟩ := sort_ints w7 v us _ _ hR7 hup hul
  obtain ⟨n, hn⟩ : ∃ n, n = us.length := ⟨_, rfl⟩
  rw [← hn] at hv hsort HLEAF
  have HS : Aside0 (Calls Try.prog 170 #[.slice (some ⟨g, 0, none⟩) n cap] w7 fun e w' => e = .returned (.tuple #[]) ∧ w7.grownBy w' (some g)) := ⟨hsort⟩
  have o7 : w7.cell? ⟨w1.heap.size + 1, 0, none⟩ = some (.slice (some ⟨g, 0, none⟩) n cap) := cell_of_one hv
  have hne7 : some (w1.heap.size + 1) ≠ some g := by
    intro e
    have := Option.some.inj e
    have := HS65.out
    omega
  have HV7 := Aside0.mk hv
  have HF7 := Aside0.mk hf7
  have HGB := Aside0.mk hbg
  clear hsort hv hf7 hR7 hn hup hul
  simp only []
  go_at_K
  go_wp2_with (go_at_call 170; refine HS.out.mono ?_; rintro e w8 ⟨rfl, hg8⟩; have o8 := hg8.cell o7 hne7; have HG8 := Aside0.mk hg8; clear hg8)
  go_ret
  refine ⟨⟨_, _, _, rfl, HLEAF.out⟩, ?_⟩
  have b6 : Below w.heap.size w W6 := by
    rw [HW6.out]
    exact below_alloc (below_alloc (below_then (below_alloc (below_alloc HB1.out _) _) (by have := HB1.out.size; simp; omega) HB5.out) _) _
  have q := HS65.out
  have b7 : Below w.heap.size w w7 := ⟨HF7.out.os.trans b6.os, HF7.out.tape.trans b6.tape, HF7.out.output.trans b6.output, Nat.le_trans b6.size HF7.out.size, fun i hi => (HF7.out.block i (by omega) (by omega)).trans (b6.block i hi)⟩
  exact pw_below_grown b7 _ b7.size HG8.out (fun k e => by cases e; omega)

set_option maxHeartbeats 1000000 in
set_option maxRecDepth 100000 in
theorem chart_Leaf.calls (w : World) (cb mb : Nat) (l : List Acc) (h : ChartAt w cb mb l) (hgood : GoodC l) (hl6 : l.length ≤ 100000) (c : Int) (hwf : (Lit.int .i64 c).wf = true) (hin : hasC l c = true) :
    Calls Try.prog 60 #[.pointer (some ⟨cb, 0, none⟩), .int .i64 c] w fun e w' => e = .returned (.bool (leafC l c)) ∧ Below w.heap.size w w' := by
  have HU := Aside0.mk (chart_Under.calls w cb mb l h hgood hl6 c hwf hin)
  obtain ⟨b, hb⟩ : ∃ b, b = leafC l c := ⟨_, rfl⟩
  rw [← hb] at HU ⊢
  clear h hin hgood hb
  go_enter Try.func60, Try.ntmps60
  go_wp2_with (go_at_call 118; refine HU.out.mono ?_; rintro e w1 ⟨⟨A, n, cp, rfl, hn⟩, hb1⟩; have HN := Aside0.mk hn; have HB := Aside0.mk hb1; clear hn hb1)
  go_ret
  refine ⟨?_, HB.out⟩
  have hq := HN.out
  have : (((n : Int) == 1) : Bool) = b := by
    cases b with
    | true => have := hq.2 rfl; subst this; rfl
    | false =>
      rw [beq_eq_false_iff_ne]
      intro e
      have : n = 1 := by omega
      have := hq.1 this
      cases this
  first | rw [this]; rfl | exact congrArg (fun b => Ending.returned (Value.bool b)) this
end Go.Proofs.Ytaoejonkiikhmaa.G
