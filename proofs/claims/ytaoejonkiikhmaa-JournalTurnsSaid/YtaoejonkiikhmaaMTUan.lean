/- Texts of this claim put together: HChartUnder. -/
import Derived.Test.YtaoejonkiikhmaaMTUad
import Derived.Test.YtaoejonkiikhmaaMTUam
import Derived.RangeFuncBox
import Derived.Sort.OwnSortedInts

/- (*Chart).Under of an account that none is under; (*Chart).Leaf. -/
namespace Go.Proofs.Ytaoejonkiikhmaa.G
open Go.RowKit Go.Proofs.YtaoejonkiikhmaaW.PrintWords Go.Proofs.YtaoejonkiikhmaaW.PrintLast Go.Proofs.YtaoejonkiikhmaaW.PrintMore
open Go.Maps Go.Sort Go.Shelf
set_option linter.unusedVariables false
set_option linter.unusedSimpArgs false

theorem acc_up (y : Acc) (w : World) : (Instr.field 121 (.agg #[.int .i64 y.f0, .int .i64 y.f1, .int .u8 y.f2, .string y.f3, .bool y.f4]) 1).run Try.prog w = .ok (.int .i64 y.f1) w := by
  first | kernel_rfl | (simp [Instr.field]; done)
theorem second_new (w : World) (o1 o2 : Obj) : ((w.alloc o1).alloc o2).heap[w.heap.size + 1]? = some o2 := by
  have := World.alloc_heap_new (w.alloc o1) o2
  simpa using this
theorem C_grown {w w' : World} {b : Nat} {A : Option Addr} {ks : List Int} (h : Kd.C (Kd.int .i64) w A ks.length ks) (hg : w.grownBy w' (some b)) (hA : ∀ ad, A = some ad → ad.block ≠ b) : Kd.C (Kd.int .i64) w' A ks.length ks := by
  have hr := Kd.reads_of_C (d := (0 : Int)) h
  refine Kd.C_of_reads (enc := Value.int .i64) (d := (0 : Int)) (h1 := fun _ => rfl) ⟨rfl, hr.2.1, fun h0 => ?_⟩
  obtain ⟨ad, e, hc⟩ := hr.2.2 h0
  refine ⟨ad, e, fun j hj => hg.cell (hc j hj) (fun e2 => hA ad e ?_)⟩
  have e3 := Option.some.inj e2
  rw [← e3]
  unfold Addr.add
  split <;> rfl
theorem sort_ints (w : World) (v : Value) (zs : List Int) (base : Nat) (ok : Nat → Prop) (ho : Kd.R (Kd.int .i64) 3 w base ok v zs) (hpos : 0 < zs.length) (hsm : zs.length < 4611686018427387904) :
    ∃ g cap, v = .slice (some ⟨g, 0, none⟩) zs.length cap ∧ base ≤ g ∧ g < w.heap.size ∧ Calls Try.prog 170 #[v] w fun e w' => e = .returned (.tuple #[]) ∧ w.grownBy w' (some g) := by
  obtain ⟨A, c, hv, hc, hC⟩ := Kd.R_reads ho
  obtain ⟨_, inner, hown, _⟩ := ho
  rcases hown.2 with ⟨rfl, h0⟩ | ⟨g, cap, cur, rfl, hb, hcell, _, _, _, _⟩
  · omega
  · injection hv with h1 h2 h3
    subst h1
    have hg : g < w.heap.size := (Array.getElem?_eq_some_iff.1 hcell).1
    refine ⟨g, cap, rfl, hb, hg, ?_⟩
    have hr := Kd.reads_of_C (d := (0 : Int)) hC
    have hH : Holds (Value.int .i64) w g 0 zs.toArray := by
      intro j hj
      have hj' : j < zs.length := by simpa using hj
      obtain ⟨ad, e, hcl⟩ := hr.2.2 hpos
      cases e
      have := hcl j hj'
      refine ⟨?_, blk_frozen hcell _⟩
      have e1 : (⟨g, 0, none⟩ : Addr).add j = ⟨g, 0 + j, none⟩ := by
        unfold Addr.add
        split
        · rename_i h0
          rw [h0]
        · rfl
      rw [e1] at this
      rw [this]
      simp [List.getD_eq_getElem?_getD, List.getElem?_eq_getElem hj']
    refine Calls.mono (AnyM.slices_Sort_int Try.sortI g 0 cap zs w hH hg hsm) ?_
    rintro e w' ⟨rfl, n, os, rfl⟩
    exact ⟨rfl, grownBy_sortedI _⟩
theorem ChartAt.grown {w w' : World} {cb mb b : Nat} {l : List Acc} (h : ChartAt w cb mb l) (hg : w.grownBy w' (some b)) (h1 : b ≠ cb) (h2 : b ≠ mb) : ChartAt w' cb mb l :=
  ⟨(hg.block _ (Array.getElem?_eq_some_iff.1 h.1).1 (fun e => h1 (Option.some.inj e).symm)).trans h.1, h.2.kept hg (fun e => h2 (Option.some.inj e).symm)⟩
theorem grown_set {w w6 : World} {b : Nat} (h : Below w.heap.size w w6) (v : Value) : w.grownBy (w6.setCell ⟨b, 0, none⟩ v) (some b) :=
  (grown_of_below h (some b)).trans (grownBy_setCell' _ _ _)

set_option maxHeartbeats 2000000 in
set_option maxRecDepth 100000 in
theorem under1 (w : World) (cb mb : Nat) (l : List Acc) (h : ChartAt w cb mb l) (c : Int) (hno : ∀ k, (lookC l k).f1 ≠ c) (bo bk bc bg : Nat) (A : Option Addr) (cp : Nat) (ks : List Int)
    (ho : w.heap[bo]? = some (.cells #[.slice none 0 0] 51 (0, 0))) (hk : w.heap[bk]? = some (.cells #[.slice A ks.length cp] 51 (0, 0))) (hc : w.heap[bc]? = some (.cells #[.pointer (some ⟨cb, 0, none⟩)] 117 (0, 0)))
    (hks : Kd.C (Kd.int .i64) w A ks.length ks) (hA : ∀ ad, A = some ad → ad.block ≠ bo) (hcp : ks.length ≤ cp) (hwf : ∀ k ∈ ks, (Lit.int .i64 k).wf = true) (hne : bk ≠ bo) :
    Calls Try.prog 169 #[.int .i64 c, .pointer (some ⟨bo, 0, none⟩), .pointer (some ⟨bk, 0, none⟩), .pointer (some ⟨bc, 0, none⟩), .pointer (some ⟨bg, 0, none⟩)] w fun e w' => e = .returned (.tuple #[]) ∧ ∃ v, w'.heap[bo]? = some (.cells #[v] 51 (0, 0)) ∧ Kd.R (Kd.int .i64) 3 w' w.heap.size (fun _ => True) v [c] ∧ w.grownBy w' (some bo) := by
  have hu := Try.underlying213
  have hua := Try.underlying121
  have hui := Try.underlying51
  have HR := Aside0.mk (Kd.R_nil (Kd.int .i64) 3 w w.heap.size (fun _ => True))
  obtain ⟨v0, hv0⟩ : ∃ v, v = Value.slice none 0 0 := ⟨_, rfl⟩
  rw [← hv0] at HR ho
  have HV0 := Aside0.mk hv0
  clear hv0
  have o0 : w.cell? ⟨bo, 0, none⟩ = some v0 := cell_of_one ho
  have k0 : w.cell? ⟨bk, 0, none⟩ = some (.slice A ks.length cp) := cell_of_one hk
  have c0 : w.cell? ⟨bc, 0, none⟩ = some (.pointer (some ⟨cb, 0, none⟩)) := cell_of_one hc
  have hob : bo < w.heap.size := (Array.getElem?_eq_some_iff.1 ho).1
  have h1 : bo ≠ cb := blk_ne ho h.1 (by decide)
  have h2 : bo ≠ mb := by
    intro e
    obtain ⟨es, cl, hm, _⟩ := h.2
    rw [← e, ho] at hm
    cases hm
  have h3 : bo ≠ bc := blk_ne ho hc (by decide)
  have HCH := Aside0.mk h
  have HKS := Aside0.mk hks
  have HO := Aside0.mk ho
  have HNO := Aside0.mk hno
  have HWF := Aside0.mk hwf
  have HA := Aside0.mk hA
  have hmax := Kd.C_max hks
  clear h hks ho hk hc hno hwf hA
  go_enter Try.func169, Try.ntmps169
  go_wp2_with (first | ((with_reducible refine gate_builtin (b := .append) (xs := #[.tmp 8, .tmp 10]) rfl ?_); at_builtin; refine Kd.R_append (Kd.int .i64) (w0 := w) w.heap.size rfl (.tmp 8) (.tmp 10) 51 3 (.int .i64 0) 8 rfl Try.underlying51 info3 rfl (by decide) (by omega) v0 [] c [.int .i64 c] (fun _ => True) (fun _ => False) rfl rfl rfl (fun _ hk => hk.elim) (fun _ _ => trivial) HR.out (Below.refl _ _) (Nat.le_refl _) (by decide) ?_; intro v1 w6 ho6 hb6 hg6 hat; have HO6 := Aside0.mk ho6; obtain ⟨A2, c2, rfl, _, _⟩ := Kd.R_reads ho6; have HB6 := Aside0.mk hb6; have o6 := pw_cell_below hb6 o0; have f6 := blk_frozen ((hb6.block bo hob).trans HO.out) 0; have HG := Aside0.mk (grown_set (b := bo) hb6 (.slice A2 1 c2)); have k7 := HG.out.cell k0 (fun e => hne (Option.some.inj e)); have c7 := HG.out.cell c0 (fun e => h3 (Option.some.inj e).symm); have ch7 := (HCH.out.grown HG.out h1 h2).cell; clear ho6 hb6 hg6 hat))
  obtain ⟨W7, hW7⟩ : ∃ W7, W7 = w6.setCell ⟨bo, 0, none⟩ (.slice A2 1 c2) := ⟨_, rfl⟩
  rw [← hW7] at HG k7 c7 ch7 ⊢
  have HW7 := Aside0.mk hW7
  clear hW7 o6 f6 o0 k0 c0
  have HC7 := Aside0.mk (HCH.out.grown HG.out h1 h2)
  go_loopw [14] (fun i wr => ∃ (k : Nat), k ≤ ks.length ∧ i = .int .i64 k ∧ wr = W7)
    (fun i _ => ks.length - (intOf i).toNat)
  case atStart => exact ⟨0, Nat.zero_le _, rfl, rfl⟩
  case round =>
    obtain ⟨k, hk, rfl, rfl⟩ := hrel
    by_cases hlt : k < ks.length
    · obtain ⟨ad, rfl, hcell⟩ := Kd.at_int (C_grown HKS.out HG.out HA.out) k (by omega) (by omega)
      rw [Int.toNat_natCast] at hcell
      have hw := HWF.out (Go.Proofs.YtaoejonkiikhmaaW.PrintWords.rd ks k) (by simp [Go.Proofs.YtaoejonkiikhmaaW.PrintWords.rd, List.getD_eq_getElem?_getD, List.getElem?_eq_getElem hlt])
      obtain ⟨x, hx⟩ : ∃ x, x = Go.Proofs.YtaoejonkiikhmaaW.PrintWords.rd ks k := ⟨_, rfl⟩
      rw [← hx] at hcell hw
      have hlk := HC7.out.look1 hw
      unfold accV at hlk
      have hnb : ((lookC l x).f1 == c) = false := beq_eq_false_iff_ne.mpr (HNO.out x)
      obtain ⟨y, hy⟩ : ∃ y, y = lookC l x := ⟨_, rfl⟩
      rw [← hy] at hlk hnb
      clear hx hy
      have hfu := acc_up y wr
      go_wp2
      exact ⟨⟨k + 1, by omega, by go_num, trivial⟩, by simp [intOf]; omega⟩
    · obtain rfl : k = ks.length := by omega
      go_wp2
      go_end0
      have hb6 : w6.heap[bo]? = some (.cells #[v0] 51 (0, 0)) := (HB6.out.block bo hob).trans HO.out
      refine ⟨rfl, .slice A2 1 c2, ?_, ?_, HG.out⟩
      · rw [HW7.out]
        exact blk_set hb6 0 _
      · rw [HW7.out]
        exact Kd.R_mono (Kd.R_far (p := ⟨bo, 0, none⟩) (Kd.R_types HO6.out hb6 (by decide)) (fun _ hk => hk.2) _) (fun _ _ => trivial)

set_option maxHeartbeats 2000000 in
set_option maxRecDepth 100000 in
theorem chart_Under.leaf (w : World) (cb mb : Nat) (l : List Acc) (h : ChartAt w cb mb l) (hl : l.length * 8 ≤ 140737488355328) (c : Int) (hwf : (Lit.int .i64 c).wf = true) (hin : hasC l c = true) (hno : ∀ k, (lookC l k).f1 ≠ c) :
    Calls Try.prog 118 #[.pointer (some ⟨cb, 0, none⟩), .int .i64 c] w fun e w' => (∃ A cp, e = .returned (.slice A 1 cp)) ∧ Below w.heap.size w w' := by
  have hu := Try.underlying213
  have hua := Try.underlying121
  have hui := Try.underlying51
  have HCH := Aside0.mk h
  have HNO := Aside0.mk hno
  obtain ⟨x, hx⟩ : ∃ x, x = lookC l c := ⟨_, rfl⟩
  have HGET := Aside0.mk (fun W hW => chart_Get.calls W cb mb l (h.below hW) c hwf)
  rw [hin, if_pos rfl, if_pos rfl, ← hx] at HGET
  unfold accV at HGET
  have hsf : ∀ (a : Addr) (lb : Array Value) (W : World), (store a (.func (.func 169) #[] lb)).run Try.prog W = stored Try.prog W a (.func (.func 169) #[] lb) .plain := fun a lb W => run_store Try.prog W a _ .plain rfl
  clear h hno hin hx
  go_enter Try.func118, Try.ntmps118
  go_wp2_with (first | (go_at_call 58; refine (HGET.out _ (below_alloc (Below.refl _ _) _)).mono ?_; rintro e w1 ⟨rfl, hb1⟩; have g1 : Below w.heap.size w w1 := below_then (below_alloc (Below.refl _ _) _) (by simp) hb1; have HC1 := Aside0.mk (HCH.out.below g1); have c1 := HC1.out.cell; have p1 : w1.cell? ⟨w.heap.size, 0, none⟩ = some (.pointer (some ⟨cb, 0, none⟩)) := pw_cell_below hb1 (by simp); have HB1 := Aside0.mk g1; have HP1 := Aside0.mk ((hb1.block w.heap.size (by simp)).trans (World.alloc_heap_new w _)); have q4 : Below w1.heap.size w1 ((w1.alloc (.cells #[.int .i64 x.f0, .int .i64 x.f1, .int .u8 x.f2, .string x.f3, .bool x.f4] 121)).alloc (.cells #[.slice none 0 0] 51)) := below_alloc (below_alloc (Below.refl _ _) _) _; have p4 := pw_cell_below q4 p1; have c4 := pw_cell_below q4 c1; clear hb1 g1 q4) | (go_at_call 168; refine (chart_keys _ cb mb l (HC1.out.below (below_alloc (below_alloc (Below.refl _ _) _) _)) hl).mono ?_; rintro e w5 ⟨A, cp, ks, rfl, hp5, hcp5, hC5, hwf5, hA5, hb5⟩; clear hp5; have HC5 := Aside0.mk ((HC1.out.below (below_alloc (below_alloc (Below.refl _ _) (.cells #[.int .i64 x.f0, .int .i64 x.f1, .int .u8 x.f2, .string x.f3, .bool x.f4] 121)) (.cells #[.slice none 0 0] 51))).below hb5); have HB5 := Aside0.mk hb5; have HK5 := Aside0.mk hC5; have HA5 := Aside0.mk hA5; have HWF5 := Aside0.mk hwf5; have HO5 := Aside0.mk ((hb5.block (w1.heap.size + 1) (by simp)).trans (second_new w1 _ _)); have HP5 := Aside0.mk ((hb5.block w.heap.size (by have := HB1.out.size; have := (Array.getElem?_eq_some_iff.1 HP1.out).1; simp; omega)).trans (((below_alloc (below_alloc (Below.refl w1.heap.size w1) _) _).block _ (Array.getElem?_eq_some_iff.1 HP1.out).1).trans HP1.out)); clear hb5 hC5 hA5 hwf5))
  have HO6 := Aside0.mk (show ((w5.alloc (.cells #[.slice A ks.length cp] 51)).alloc (.cells #[.func (.func 169) #[] #[.pointer (some ⟨w1.heap.size + 1, 0, none⟩), .pointer (some ⟨w5.heap.size, 0, none⟩), .pointer (some ⟨w.heap.size, 0, none⟩), .pointer (some ⟨w5.heap.size + 1, 0, none⟩)]] 262)).heap[w1.heap.size + 1]? = _ from ((below_alloc (below_alloc (Below.refl w5.heap.size w5) _) _).block _ (Array.getElem?_eq_some_iff.1 HO5.out).1).trans HO5.out)
  refine (under1 _ cb mb l (HC5.out.below (below_alloc (below_alloc (Below.refl _ _) _) _)) c HNO.out (w1.heap.size + 1) w5.heap.size w.heap.size (w5.heap.size + 1) A cp ks HO6.out (first_new w5 _ _ _ _) (((below_alloc (below_alloc (Below.refl w5.heap.size w5) _) _).block _ (Array.getElem?_eq_some_iff.1 HP5.out).1).trans HP5.out) (Kd.C_alloc (Kd.C_alloc HK5.out _) _) (fun ad e => by have := HA5.out ad e; simp at this; omega) hcp5 HWF5.out (by have := HB5.out.size; simp at this; omega)).mono ?_
  rintro e w7 ⟨rfl, v, hv, hR7, hg7⟩
  obtain ⟨g, cap, rfl, hbg, hgs, hsort⟩ := sort_ints w7 v [c] _ _ hR7 (by simp) (by simp)
  have HS : Aside0 (Calls Try.prog 170 #[.slice (some ⟨g, 0, none⟩) 1 cap] w7 fun e w' => e = .returned (.tuple #[]) ∧ w7.grownBy w' (some g)) := ⟨hsort⟩
  have o7 : w7.cell? ⟨w1.heap.size + 1, 0, none⟩ = some (.slice (some ⟨g, 0, none⟩) 1 cap) := cell_of_one hv
  have hne7 : some (w1.heap.size + 1) ≠ some g := by
    have h6 := (Array.getElem?_eq_some_iff.1 HO6.out).1
    intro e
    have := Option.some.inj e
    omega
  have HV7 := Aside0.mk hv
  have HG7 := Aside0.mk hg7
  clear hsort hv hg7 hR7
  simp only []
  go_at_K
  go_wp2_with (go_at_call 170; refine HS.out.mono ?_; rintro e w8 ⟨rfl, hg8⟩; have o8 := hg8.cell o7 hne7; have HG8 := Aside0.mk hg8; clear hg8)
  go_ret
  refine ⟨⟨_, _, rfl⟩, ?_⟩
  have b5 : Below w.heap.size w w5 := below_then (below_alloc (below_alloc HB1.out _) _) (by have := HB1.out.size; simp; omega) HB5.out
  have b6 : Below w.heap.size w ((w5.alloc (.cells #[.slice A ks.length cp] 51)).alloc (.cells #[.func (.func 169) #[] #[.pointer (some ⟨w1.heap.size + 1, 0, none⟩), .pointer (some ⟨w5.heap.size, 0, none⟩), .pointer (some ⟨w.heap.size, 0, none⟩), .pointer (some ⟨w5.heap.size + 1, 0, none⟩)]] 262)) := below_alloc (below_alloc b5 _) _
  have b7 : Below w.heap.size w w7 := pw_below_grown b6 _ b6.size HG7.out (fun k e => by cases e; have := HB1.out.size; omega)
  exact pw_below_grown b7 _ b7.size HG8.out (fun k e => by cases e; have := b6.size; omega)

set_option maxHeartbeats 1000000 in
set_option maxRecDepth 100000 in
theorem chart_Leaf.leaf (w : World) (cb mb : Nat) (l : List Acc) (h : ChartAt w cb mb l) (hl : l.length * 8 ≤ 140737488355328) (c : Int) (hwf : (Lit.int .i64 c).wf = true) (hin : hasC l c = true) (hno : ∀ k, (lookC l k).f1 ≠ c) :
    Calls Try.prog 60 #[.pointer (some ⟨cb, 0, none⟩), .int .i64 c] w fun e w' => e = .returned (.bool true) ∧ Below w.heap.size w w' := by
  have HU := Aside0.mk (chart_Under.leaf w cb mb l h hl c hwf hin hno)
  clear h hin hno
  go_enter Try.func60, Try.ntmps60
  go_wp2_with (go_at_call 118; refine HU.out.mono ?_; rintro e w1 ⟨⟨A, cp, rfl⟩, hb⟩)
  go_ret
  exact ⟨rfl, hb⟩
end Go.Proofs.Ytaoejonkiikhmaa.G
