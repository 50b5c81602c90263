/- Texts of this claim put together: GJournalReverse. -/
import Derived.Test.YtaoejonkiikhmaaMTUaa
import Derived.Test.YtaoejonkiikhmaaMTUaj
import Derived.Test.YtaoejonkiikhmaaMTUap

-- Text by a program of this session (gprint.py), over the kit's print.
namespace Go.Proofs.Ytaoejonkiikhmaa.G
open Go.RowKit Go.Proofs.YtaoejonkiikhmaaW.PrintWords Go.Proofs.YtaoejonkiikhmaaW.PrintLast Go.Proofs.YtaoejonkiikhmaaW.PrintMore
attribute [local go_sem] max2_int min2_int max_two min_two max_three min_three max_four min_four   -- for this text's walks alone
set_option linter.unusedVariables false
set_option linter.unusedSimpArgs false

/-! ### journal_Reverse: function 61 -/
mutual
def journal_Reverse.j0 : Nat → Int → Bool → Int → Int → Int → List (S113) → Option (Int × Int × Int × (List (S113)) × Int)
  | 0, _, _, _, _, _, _ => none
  | k + 1, x1, x19, x1328000, x1328001, x1328002, x1328003 => if x19 = true then (some (0, 0, 0, ([] : List (S113)), 2)) else ((api_Line_119.f x1328003).bind fun t1330 => (journal_Reverse.l0 k (t1330.length : Int) 0 x1 x1328001 x1328002 t1330))
def journal_Reverse.l0 : Nat → Int → Int → Int → Int → Int → List (S113) → Option (Int × Int × Int × (List (S113)) × Int)
  | 0, _, _, _, _, _, _ => none
  | k + 1, x29, x30, x1328000, x1328001, x1328002, x1328003 => if x30 < x29 then (if 0 ≤ x30 then (if x30 < (x1328003.length : Int) then (journal_Reverse.l0 k x29 (wrap64 (x30 + 1)) x1328000 x1328001 x1328002 (x1328003.set (x30 : Int).toNat (⟨(rd_T113 x1328003 x30).f0, (rd_T113 x1328003 x30).f1, (rd_T113 x1328003 x30).f2, wrap64 (-((rd_T113 x1328003 x30).f3))⟩ : S113))) else (none)) else (none)) else (some (x1328000, x1328001, x1328002, x1328003, 0))
end
def journal_Reverse.f (k : Nat) (a0_0 : Int) (a0_1 : Int) (a0_2 : Int) (l0_3 : List (S113)) (a1 : Int) : Option (Int × Int × Int × (List (S113)) × Int) := (journal_Check.f a0_0 a0_1 a0_2 l0_3).bind fun t1329 => (if t1329 = 0 then (if a1 < 1 then (journal_Reverse.j0 k a1 true a0_0 a0_1 a0_2 l0_3) else (journal_Reverse.j0 k a1 (decide (a1 > 3652059)) a0_0 a0_1 a0_2 l0_3)) else (some (0, 0, 0, ([] : List (S113)), t1329)))
theorem journal_Reverse.mono_l : ∀ k, (∀ y0 y1 y2 y3 y4 y5, LeO (journal_Reverse.j0 k y0 y1 y2 y3 y4 y5) (journal_Reverse.j0 (k + 1) y0 y1 y2 y3 y4 y5)) ∧ (∀ y0 y1 y2 y3 y4 y5, LeO (journal_Reverse.l0 k y0 y1 y2 y3 y4 y5) (journal_Reverse.l0 (k + 1) y0 y1 y2 y3 y4 y5))
  | 0 => ⟨fun _ _ _ _ _ _ r h => by simp [journal_Reverse.j0] at h, fun _ _ _ _ _ _ r h => by simp [journal_Reverse.l0] at h⟩
  | k + 1 => by
    obtain ⟨ih0, ih1⟩ := journal_Reverse.mono_l k
    refine ⟨?_, ?_⟩
    · intro y0 y1 y2 y3 y4 y5
      unfold journal_Reverse.j0
      repeat' first
      | (with_reducible exact ih0 _ _ _ _ _ _)
      | (with_reducible exact ih1 _ _ _ _ _ _)
      | (with_reducible exact LeO.refl _)
      | (with_reducible exact LeO.none _)
      | (with_reducible refine LeO.ite ?_ ?_)
      | (with_reducible refine LeO.bind ?_ (fun _ => ?_))
      | exact ih0 _ _ _ _ _ _
      | exact ih1 _ _ _ _ _ _
      | exact LeO.none _
      | refine LeO.ite ?_ ?_
      | refine LeO.bind ?_ (fun _ => ?_)
    · intro y0 y1 y2 y3 y4 y5
      unfold journal_Reverse.l0
      repeat' first
      | (with_reducible exact ih0 _ _ _ _ _ _)
      | (with_reducible exact ih1 _ _ _ _ _ _)
      | (with_reducible exact LeO.refl _)
      | (with_reducible exact LeO.none _)
      | (with_reducible refine LeO.ite ?_ ?_)
      | (with_reducible refine LeO.bind ?_ (fun _ => ?_))
      | exact ih0 _ _ _ _ _ _
      | exact ih1 _ _ _ _ _ _
      | exact LeO.none _
      | refine LeO.ite ?_ ?_
      | refine LeO.bind ?_ (fun _ => ?_)
theorem journal_Reverse.mono : ∀ a0 a1 a2 a3 a4 k, LeO (journal_Reverse.f k a0 a1 a2 a3 a4) (journal_Reverse.f (k + 1) a0 a1 a2 a3 a4) := by
  intro a0 a1 a2 a3 a4 k
  obtain ⟨ih0, ih1⟩ := journal_Reverse.mono_l k
  unfold journal_Reverse.f
  repeat' first
      | (with_reducible exact ih0 _ _ _ _ _ _)
      | (with_reducible exact ih1 _ _ _ _ _ _)
      | (with_reducible exact LeO.refl _)
      | (with_reducible exact LeO.none _)
      | (with_reducible refine LeO.ite ?_ ?_)
      | (with_reducible refine LeO.bind ?_ (fun _ => ?_))
      | exact ih0 _ _ _ _ _ _
      | exact ih1 _ _ _ _ _ _
      | exact LeO.none _
      | refine LeO.ite ?_ ?_
      | refine LeO.bind ?_ (fun _ => ?_)
def journal_Reverse.T10 : Bool × List (List Nat × List Nat) := (true, [([], []), ([0], [0]), ([], []), ([], []), ([3], [3]), ([], []), ([4, 5], [4, 5]), ([6], [6]), ([7], [7]), ([8], [8]), ([1, 2, 0, 1, 2, 3, 4, 5, 6, 7, 8, 9], [1, 2]), ([10, 0, 1, 2, 3, 4, 5, 6, 7, 8, 9], [10]), ([11, 9, 0, 1, 2, 3, 4, 5, 6, 7, 8, 9], [9, 11])])
def journal_Reverse.B10 : List Nat := [0, 1, 0, 0, 8, 0, 56, 120, 248, 504, 1023, 2047, 4095]
theorem journal_Reverse.tab10 : rtab .any (opsOf Try.f61 10) = journal_Reverse.T10 := by kernel_rfl
theorem journal_Reverse.bits10 : waitsOk journal_Reverse.T10.2 journal_Reverse.B10 = true := by kernel_rfl
set_option maxHeartbeats 8000000 in
set_option maxRecDepth 100000 in
theorem journal_Reverse.calls (k : Nat) (a0_0 : Int) (a0_1 : Int) (a0_2 : Int) (A0_3 : Option Addr) (c0_3 : Nat) (l0_3 : List (S113)) (a1 : Int) (r1 : Int) (r2 : Int) (r3 : Int) (r4 : List (S113)) (r5 : Int) (w : World) (hr0_3 : Kd.C k113 w A0_3 l0_3.length l0_3) (hc0_3 : l0_3.length ≤ c0_3) (h : journal_Reverse.f k a0_0 a0_1 a0_2 l0_3 a1 = some (r1, r2, r3, r4, r5)) :
    Calls Try.prog 61 #[.agg #[.int .i64 a0_0, .int .u8 a0_1, .int .u64 a0_2, .slice A0_3 l0_3.length c0_3], .int .i64 a1] w fun e w' => ∃ v3_ : Value, e = .returned (.tuple #[.agg #[.int .i64 r1, .int .u8 r2, .int .u64 r3, v3_], .int .i64 r5]) ∧ Kd.R k113 113 w' w.heap.size (fun _ => True) v3_ r4 ∧ Below w.heap.size w w' := by
  have hu32 := Try.underlying32
  have HR0_3 := Aside0.mk hr0_3
  have HC0_3 := Aside0.mk hc0_3
  clear hr0_3 hc0_3
  have HB := Aside0.mk (Below.refl w.heap.size w)
  have H : ((journal_Check.f a0_0 a0_1 a0_2 l0_3).bind fun t1329 => (if t1329 = 0 then (if a1 < 1 then (journal_Reverse.j0 k a1 true a0_0 a0_1 a0_2 l0_3) else (journal_Reverse.j0 k a1 (decide (a1 > 3652059)) a0_0 a0_1 a0_2 l0_3)) else (some (0, 0, 0, ([] : List (S113)), t1329)))) = some (r1, r2, r3, r4, r5) := h
  clear h
  replace H := Option.bind_eq_some_iff.mp H
  obtain ⟨t1329, A30, H⟩ := H
  replace H : (if t1329 = 0 then (if a1 < 1 then (journal_Reverse.j0 k a1 true a0_0 a0_1 a0_2 l0_3) else (journal_Reverse.j0 k a1 (decide (a1 > 3652059)) a0_0 a0_1 a0_2 l0_3)) else (some (0, 0, 0, ([] : List (S113)), t1329))) = some (r1, r2, r3, r4, r5) := H
  have A3 := Aside0.mk A30
  clear A30
  by_cases c4 : t1329 = 0
  · rw [if_pos c4] at H
    have c4b0 : (t1329 == 0) = true := beq_iff_eq.mpr c4
    have c4b1 : (t1329 != 0) = false := bne_eq_false_iff_eq.mpr c4
    clear c4
    have HC5 := Aside0.mk H
    clear H
    go_enter Try.func61, Try.ntmps61
    go_upto_region 4 with (first | ((with_reducible refine gate_dst (N := 2) rfl ?_); refine box_event ?hg (N := 2) ?hd (cs := #[.int .i64 a0_0, .int .u8 a0_1, .int .u64 a0_2, .slice A0_3 l0_3.length c0_3]) (t := 32) ?hr ?_; (case hd => rfl); (case hg => rfl); (case hr => first | (go_simp; done) | (go_simp; rfl)); intro gb1327 hg w6 hbox hb; have n0_ := Aside0.mk (below_step (by repeat (first | (with_reducible first | exact HB.out | apply below_alloc | apply pw_below_drewN | apply below_drew1) | exact HB.out)) hb); have n1_ := Aside0.mk (hbox); have n2_ := Aside0.mk ((by rw [hg]; exact (below_size (by repeat (first | (with_reducible first | exact HB.out | apply below_alloc | apply pw_below_drewN | apply below_drew1) | exact HB.out))) : w.heap.size ≤ gb1327)); have n3_ := Aside0.mk ((by rw [hg]; exact (below_size (by repeat (first | (with_reducible first | exact HB.out | apply below_alloc | apply pw_below_drewN | apply below_drew1) | exact HB.out))) : w.heap.size ≤ gb1327)); clear HB; have HB := n0_; have BK1327 := n1_; have GW1327 := n2_; have GE1327 := n3_; clear n0_ n1_ n2_ n3_; clear hb hbox hg) | ((with_reducible refine gate_dst (N := 4) rfl ?_); refine box_event ?hg (N := 4) ?hd (cs := #[.int .i64 0, .int .u8 0, .int .u64 0, .slice none 0 0]) (t := 32) ?hr ?_; (case hd => rfl); (case hg => rfl); (case hr => first | (go_simp; done) | (go_simp; rfl)); intro gb1328 hg w7 hbox hb; have n0_ := Aside0.mk (blk_below (g := gb1327) (o := .cells #[.int .i64 a0_0, .int .u8 a0_1, .int .u64 a0_2, .slice A0_3 l0_3.length c0_3] 32 (0, 0)) (by (with_reducible repeat (first | refine blk_drewN ?_ _ | refine blk_drew ?_ | refine blk_alloc ?_ _)); exact BK1327.out) hb); have n1_ := Aside0.mk (below_step (by repeat (first | (with_reducible first | exact HB.out | apply below_alloc | apply pw_below_drewN | apply below_drew1 | refine below_set ?_ GE1327.out) | exact HB.out)) hb); have n2_ := Aside0.mk (hbox); have n3_ := Aside0.mk ((by rw [hg]; exact (below_size (by repeat (first | (with_reducible first | exact HB.out | apply below_alloc | apply pw_below_drewN | apply below_drew1 | refine below_set ?_ GE1327.out) | exact HB.out))) : w.heap.size ≤ gb1328)); have n4_ := Aside0.mk ((by rw [hg]; exact (below_size (by repeat (first | (with_reducible first | exact HB.out | apply below_alloc | apply pw_below_drewN | apply below_drew1 | refine below_set ?_ GE1327.out) | exact HB.out))) : w.heap.size ≤ gb1328)); have n5_ := Aside0.mk ((by rw [hg]; exact Nat.ne_of_lt (blk_lt (g := gb1327) (o := .cells #[.int .i64 a0_0, .int .u8 a0_1, .int .u64 a0_2, .slice A0_3 l0_3.length c0_3] 32 (0, 0)) (by (with_reducible repeat (first | refine blk_drewN ?_ _ | refine blk_drew ?_ | refine blk_alloc ?_ _)); exact BK1327.out)) : gb1327 ≠ gb1328)); have n6_ := Aside0.mk ((by rw [hg]; exact Nat.ne_of_gt (blk_lt (g := gb1327) (o := .cells #[.int .i64 a0_0, .int .u8 a0_1, .int .u64 a0_2, .slice A0_3 l0_3.length c0_3] 32 (0, 0)) (by (with_reducible repeat (first | refine blk_drewN ?_ _ | refine blk_drew ?_ | refine blk_alloc ?_ _)); exact BK1327.out)) : gb1328 ≠ gb1327)); clear BK1327; clear HB; have BK1327 := n0_; have HB := n1_; have BK1328 := n2_; have GW1328 := n3_; have GE1328 := n4_; have NB1327_1328 := n5_; have NB1328_1327 := n6_; clear n0_ n1_ n2_ n3_ n4_ n5_ n6_; clear hb hbox hg; have hnb8 := NB1327_1328.out; have hnc8 := NB1328_1327.out; have hcz9_0 : w7.cell? ⟨gb1327, 0, none⟩ = some (.int .i64 a0_0) := (blk_cell BK1327.out 0).trans rfl; have hcz9_1 : w7.cell? ⟨gb1327, 1, none⟩ = some (.int .u8 a0_1) := (blk_cell BK1327.out 1).trans rfl; have hcz9_2 : w7.cell? ⟨gb1327, 2, none⟩ = some (.int .u64 a0_2) := (blk_cell BK1327.out 2).trans rfl; have hcz9_3 : w7.cell? ⟨gb1327, 3, none⟩ = some (.slice A0_3 l0_3.length c0_3) := (blk_cell BK1327.out 3).trans rfl; have hfz9_0 := blk_frozen BK1327.out 0; have hfz9_1 := blk_frozen BK1327.out 1; have hfz9_2 := blk_frozen BK1327.out 2; have hfz9_3 := blk_frozen BK1327.out 3) | ((with_reducible refine gate_callee (f := 17) rfl ?_); refine goesL_ (some 9) rfl rfl Try.func17 (by kernel_rfl) rfl #[.agg #[.int .i64 a0_0, .int .u8 a0_1, .int .u64 a0_2, .slice A0_3 l0_3.length c0_3]] rfl (by (try simp only [List.map_toArray, List.map_cons, List.map_nil]); first | done | rfl | (simp only [List.length_drop, List.length_take]; rfl)) ?_; (with_reducible refine (journal_Check.calls a0_0 a0_1 a0_2 _ _ l0_3 t1329 _ ?side1 ?side2 A3.out).mono ?_); (case side1 => repeat (first | exact (Kd.C_below HR0_3.out HB.out) | (with_reducible refine Kd.C_alloc ?_ _) | (with_reducible refine Kd.C_drewN ?_ _) | (with_reducible refine Kd.C_drew ?_))); (case side2 => exact HC0_3.out); rintro e w10 ⟨rfl, hb⟩; refine ⟨_, rfl, ?_⟩; have n0_ := Aside0.mk (blk_below (g := gb1327) (o := .cells #[.int .i64 a0_0, .int .u8 a0_1, .int .u64 a0_2, .slice A0_3 l0_3.length c0_3] 32 (0, 0)) (by (with_reducible repeat (first | refine blk_drewN ?_ _ | refine blk_drew ?_ | refine blk_alloc ?_ _)); exact BK1327.out) hb); have n1_ := Aside0.mk (blk_below (g := gb1328) (o := .cells #[.int .i64 0, .int .u8 0, .int .u64 0, .slice none 0 0] 32 (0, 0)) (by (with_reducible repeat (first | refine blk_drewN ?_ _ | refine blk_drew ?_ | refine blk_alloc ?_ _)); exact BK1328.out) hb); have n2_ := Aside0.mk (below_step (by repeat (first | (with_reducible first | exact HB.out | apply below_alloc | apply pw_below_drewN | apply below_drew1 | refine below_set ?_ GE1327.out | refine below_set ?_ GE1328.out) | exact HB.out)) hb); clear BK1327; clear BK1328; clear HB; have BK1327 := n0_; have BK1328 := n1_; have HB := n2_; clear n0_ n1_ n2_; (try clear hb); (try clear hb2); (try clear hk); (try clear hi)))
    (try simp only [Act.put, List.setIfInBounds_toArray, List.set_cons_zero, List.set_cons_succ])
    go_cut [19] (fun v19 wc => ∃ (kq : Nat) (x19_4 : Bool), v19 = .bool x19_4 ∧ Aside0 (journal_Reverse.j0 kq a1 x19_4 a0_0 a0_1 a0_2 l0_3 = some (r1, r2, r3, r4, r5)) ∧ Aside0 (kq ≤ k) ∧ Aside0 (wc.heap[gb1327]? = some (.cells #[.int .i64 a0_0, .int .u8 a0_1, .int .u64 a0_2, (.slice A0_3 l0_3.length c0_3)] 32 (0, 0))) ∧ Aside0 (wc.heap[gb1328]? = some (.cells #[.int .i64 0, .int .u8 0, .int .u64 0, (.slice none 0 0)] 32 (0, 0))) ∧ Aside0 (Below w.heap.size w wc))
    case first =>
      have H := HC5.out
      clear HC5
      by_cases c11 : a1 < 1
      · rw [if_pos c11] at H
        have c11b0 : decide (a1 < 1) = true := decide_eq_true c11
        clear c11
        (first | rw [c11b0] | (simp only [i64_w, i32_w]; rw [c11b0]) | skip)
        have H' := Aside0.mk H
        clear H
        go_wp2
        go_meet
        case rel => exact ⟨_, (true), (by first | rfl | (simp; done) | (simp [*]; done)), H', ⟨by first | omega | exact Nat.le_refl _⟩, ⟨by (with_reducible repeat (first | refine blk_drewN ?_ _ | refine blk_drew ?_ | refine blk_alloc ?_ _)); exact BK1327.out⟩, ⟨by (with_reducible repeat (first | refine blk_drewN ?_ _ | refine blk_drew ?_ | refine blk_alloc ?_ _)); exact BK1328.out⟩, ⟨by repeat (first | (with_reducible first | exact HB.out | apply below_alloc | apply pw_below_drewN | apply below_drew1 | refine below_set ?_ GE1327.out | refine below_set ?_ GE1328.out) | exact HB.out)⟩⟩
      · rw [if_neg c11] at H
        have c11b0 : decide (a1 < 1) = false := decide_eq_false c11
        clear c11
        (first | rw [c11b0] | (simp only [i64_w, i32_w]; rw [c11b0]) | skip)
        have H' := Aside0.mk H
        clear H
        go_wp2
        go_meet
        case rel => exact ⟨_, (decide (a1 > 3652059)), (by first | rfl | (simp; done) | (simp [*]; done)), H', ⟨by first | omega | exact Nat.le_refl _⟩, ⟨by (with_reducible repeat (first | refine blk_drewN ?_ _ | refine blk_drew ?_ | refine blk_alloc ?_ _)); exact BK1327.out⟩, ⟨by (with_reducible repeat (first | refine blk_drewN ?_ _ | refine blk_drew ?_ | refine blk_alloc ?_ _)); exact BK1328.out⟩, ⟨by repeat (first | (with_reducible first | exact HB.out | apply below_alloc | apply pw_below_drewN | apply below_drew1 | refine below_set ?_ GE1327.out | refine below_set ?_ GE1328.out) | exact HB.out)⟩⟩
    case rest =>
      clear HC5
      try clear c1
      try clear p2
      try clear c4
      try clear c4b0
      try clear c4b1
      try clear c6
      try clear c8
      try clear c11
      try clear c11b0
      try clear hcz9_0
      try clear hcz9_1
      try clear hcz9_2
      try clear hcz9_3
      try clear hfz9_0
      try clear hfz9_1
      try clear hfz9_2
      try clear hfz9_3
      obtain ⟨kq, x19_4, rfl, HA, HJ4, BK1327, BK1328, HB⟩ := hcut
      cases kq with
      | zero => exact absurd HA.out (by simp [journal_Reverse.j0])
      | succ kj4 =>
        have H := HA.out
        clear HA
        simp only [journal_Reverse.j0] at H
        by_cases c12 : x19_4 = true
        · subst c12
          have H1 : (some (0, 0, 0, ([] : List (S113)), 2)) = some (r1, r2, r3, r4, r5) := by rw [if_pos rfl] at H; exact H
          clear H
          have H := H1
          clear H1
          simp only [Option.some.injEq, Prod.mk.injEq] at H
          obtain ⟨rfl, rfl, rfl, rfl, rfl⟩ := H
          have hnb13 := NB1328_1327.out
          have hnc13 := NB1327_1328.out
          have hcz14_0 : wc.cell? ⟨gb1328, 0, none⟩ = some (.int .i64 0) := (blk_cell BK1328.out 0).trans rfl
          have hcz14_1 : wc.cell? ⟨gb1328, 1, none⟩ = some (.int .u8 0) := (blk_cell BK1328.out 1).trans rfl
          have hcz14_2 : wc.cell? ⟨gb1328, 2, none⟩ = some (.int .u64 0) := (blk_cell BK1328.out 2).trans rfl
          have hcz14_3 : wc.cell? ⟨gb1328, 3, none⟩ = some (.slice none 0 0) := (blk_cell BK1328.out 3).trans rfl
          have hfz14_0 := blk_frozen BK1328.out 0
          have hfz14_1 := blk_frozen BK1328.out 1
          have hfz14_2 := blk_frozen BK1328.out 2
          have hfz14_3 := blk_frozen BK1328.out 3
          go_wp2
          refine bodyPost_ret (results_ct rfl _ _ gb1328 32 #[.int .i64 0, .int .u8 0, .int .u64 0, .slice none 0 0] (0, 0) _ rfl (by (with_reducible repeat (first | refine blk_drewN ?_ _ | refine blk_drew ?_ | refine blk_alloc ?_ _)); refine blk_put (cs := #[.int .i64 0, .int .u8 0, .int .u64 0, .slice none 0 0]) ?_ 3 _ rfl; (with_reducible repeat (first | refine blk_drewN ?_ _ | refine blk_drew ?_ | refine blk_alloc ?_ _)); refine blk_put (cs := #[.int .i64 0, .int .u8 0, .int .u64 0, .slice none 0 0]) ?_ 2 _ rfl; (with_reducible repeat (first | refine blk_drewN ?_ _ | refine blk_drew ?_ | refine blk_alloc ?_ _)); refine blk_put (cs := #[.int .i64 0, .int .u8 0, .int .u64 0, .slice none 0 0]) ?_ 1 _ rfl; (with_reducible repeat (first | refine blk_drewN ?_ _ | refine blk_drew ?_ | refine blk_alloc ?_ _)); refine blk_put (cs := #[.int .i64 0, .int .u8 0, .int .u64 0, .slice none 0 0]) ?_ 0 _ rfl; (with_reducible repeat (first | refine blk_drewN ?_ _ | refine blk_drew ?_ | refine blk_alloc ?_ _)); exact BK1328.out) Try.underlying32 rfl (by kernel_rfl)) rfl ?_
          exact ⟨_, by first | rfl | (simp [errW_none, errW_some] <;> rfl) | (simp [*, errW_none, errW_some] <;> rfl), by first | exact Kd.R_nil _ _ _ _ _ | exact Kd.N_nil _ _ _ _ _ | exact Kd.V_nil _ _ _ _ _ | exact Kd.Q_nil _ _ _ _ _ | exact Kd.S_nil _ _ _ _ _, by repeat (first | (with_reducible first | exact HB.out | apply below_alloc | apply pw_below_drewN | apply below_drew1 | refine below_set ?_ GE1327.out | refine below_set ?_ GE1328.out) | exact HB.out)⟩
        · replace c12 := Bool.eq_false_iff.mpr c12
          subst c12
          have H1 : ((api_Line_119.f l0_3).bind fun t1330 => (journal_Reverse.l0 kj4 (t1330.length : Int) 0 a1 a0_1 a0_2 t1330)) = some (r1, r2, r3, r4, r5) := by rw [if_neg (show ¬ (false = true) by decide)] at H; exact H
          clear H
          have H := H1
          clear H1
          replace H := Option.bind_eq_some_iff.mp H
          obtain ⟨t1330, A150, H⟩ := H
          replace H : (journal_Reverse.l0 kj4 (t1330.length : Int) 0 a1 a0_1 a0_2 t1330) = some (r1, r2, r3, r4, r5) := H
          have A15 := Aside0.mk A150
          clear A150
          have H' := Aside0.mk H
          clear H
          have hnb16 := NB1327_1328.out
          have hnc16 := NB1328_1327.out
          have hcz17_0 : wc.cell? ⟨gb1327, 0, none⟩ = some (.int .i64 a0_0) := (blk_cell BK1327.out 0).trans rfl
          have hcz17_1 : wc.cell? ⟨gb1327, 1, none⟩ = some (.int .u8 a0_1) := (blk_cell BK1327.out 1).trans rfl
          have hcz17_2 : wc.cell? ⟨gb1327, 2, none⟩ = some (.int .u64 a0_2) := (blk_cell BK1327.out 2).trans rfl
          have hcz17_3 : wc.cell? ⟨gb1327, 3, none⟩ = some (.slice A0_3 l0_3.length c0_3) := (blk_cell BK1327.out 3).trans rfl
          have hfz17_0 := blk_frozen BK1327.out 0
          have hfz17_1 := blk_frozen BK1327.out 1
          have hfz17_2 := blk_frozen BK1327.out 2
          have hfz17_3 := blk_frozen BK1327.out 3
          go_wp2_with (first | ((with_reducible refine gate_callee (f := 119) rfl ?_); refine goesL_ (some 24) rfl rfl Try.func119 (by kernel_rfl) rfl #[.slice A0_3 l0_3.length c0_3] rfl (by (try simp only [List.map_toArray, List.map_cons, List.map_nil]); first | done | rfl | (simp only [List.length_drop, List.length_take]; rfl)) ?_; (with_reducible refine (api_Line_119.calls _ _ l0_3 t1330 _ ?side1 ?side2 A15.out).mono ?_); (case side1 => repeat (first | exact (Kd.C_below HR0_3.out HB.out) | (with_reducible refine Kd.C_alloc ?_ _) | (with_reducible refine Kd.C_drewN ?_ _) | (with_reducible refine Kd.C_drew ?_))); (case side2 => exact HC0_3.out); rintro e w18 ⟨v1331, rfl, ho0, hb⟩; refine ⟨_, rfl, ?_⟩; have n0_ := Aside0.mk (Kd.R_lower ho0 (below_size (by repeat (first | (with_reducible first | exact HB.out | apply below_alloc | apply pw_below_drewN | apply below_drew1 | refine below_set ?_ GE1327.out | refine below_set ?_ GE1328.out) | exact HB.out)))); have n1_ := Aside0.mk (blk_below (g := gb1327) (o := .cells #[.int .i64 a0_0, .int .u8 a0_1, .int .u64 a0_2, .slice A0_3 l0_3.length c0_3] 32 (0, 0)) (by (with_reducible repeat (first | refine blk_drewN ?_ _ | refine blk_drew ?_ | refine blk_alloc ?_ _)); exact BK1327.out) hb); have n2_ := Aside0.mk (blk_below (g := gb1328) (o := .cells #[.int .i64 0, .int .u8 0, .int .u64 0, .slice none 0 0] 32 (0, 0)) (by (with_reducible repeat (first | refine blk_drewN ?_ _ | refine blk_drew ?_ | refine blk_alloc ?_ _)); exact BK1328.out) hb); have n3_ := Aside0.mk (below_step (by repeat (first | (with_reducible first | exact HB.out | apply below_alloc | apply pw_below_drewN | apply below_drew1 | refine below_set ?_ GE1327.out | refine below_set ?_ GE1328.out) | exact HB.out)) hb); clear BK1327; clear BK1328; clear HB; have HO1332 := n0_; have BK1327 := n1_; have BK1328 := n2_; have HB := n3_; clear n0_ n1_ n2_ n3_; (try clear hb); (try clear hb2); (try clear hk); (try clear hi); (try clear ho0); have hcz19_0 : w18.cell? ⟨gb1327, 0, none⟩ = some (.int .i64 a0_0) := (blk_cell BK1327.out 0).trans rfl; have hcz19_1 : w18.cell? ⟨gb1327, 1, none⟩ = some (.int .u8 a0_1) := (blk_cell BK1327.out 1).trans rfl; have hcz19_2 : w18.cell? ⟨gb1327, 2, none⟩ = some (.int .u64 a0_2) := (blk_cell BK1327.out 2).trans rfl; have hcz19_3 : w18.cell? ⟨gb1327, 3, none⟩ = some (.slice A0_3 l0_3.length c0_3) := (blk_cell BK1327.out 3).trans rfl; have hfz19_0 := blk_frozen BK1327.out 0; have hfz19_1 := blk_frozen BK1327.out 1; have hfz19_2 := blk_frozen BK1327.out 2; have hfz19_3 := blk_frozen BK1327.out 3; obtain ⟨Ao20, co20, eo20⟩ := Kd.R_slice HO1332.out; subst eo20))
          go_loopg [30] kj4 (fun kq v30 w' => ∃ (x30_2 : Int) (x1328003_2 : List (S113)) (u1328003 : Value), v30 = .int .i64 x30_2 ∧ Aside0 (journal_Reverse.l0 kq (t1330.length : Int) x30_2 a1 a0_1 a0_2 x1328003_2 = some (r1, r2, r3, r4, r5)) ∧ Aside0 (kq ≤ kj4) ∧ Aside0 (Kd.R k113 113 w' w.heap.size (fun _ => True) u1328003 x1328003_2) ∧ Aside0 (w'.heap[gb1327]? = some (.cells #[.int .i64 a1, .int .u8 a0_1, .int .u64 a0_2, u1328003] 32 (0, 0))) ∧ Aside0 (w'.heap[gb1328]? = some (.cells #[.int .i64 0, .int .u8 0, .int .u64 0, (.slice none 0 0)] 32 (0, 0))) ∧ Aside0 (Below w.heap.size w w'))
          case atStart => exact ⟨(0), (t1330), (.slice Ao20 t1330.length co20), (by first | rfl | (simp; done) | (simp [*]; done)), H', ⟨Nat.le_refl _⟩, ⟨by (with_reducible repeat (first | apply Kd.R_alloc | apply Kd.R_drewN | apply Kd.R_drew)); exact Kd.R_mono (Kd.R_far (p := ⟨gb1327, 3, none⟩) (Kd.R_far (p := ⟨gb1327, 0, none⟩) (Kd.R_types HO1332.out BK1327.out (by decide)) (fun _ hk => hk.2) (.int .i64 a1)) (fun _ hk => hk.2) (.slice Ao20 t1330.length co20)) (fun _ hk => trivial)⟩, ⟨by (with_reducible repeat (first | refine blk_drewN ?_ _ | refine blk_drew ?_ | refine blk_alloc ?_ _)); refine blk_put (cs := #[.int .i64 a1, .int .u8 a0_1, .int .u64 a0_2, .slice A0_3 l0_3.length c0_3]) ?_ 3 _ rfl; (with_reducible repeat (first | refine blk_drewN ?_ _ | refine blk_drew ?_ | refine blk_alloc ?_ _)); refine blk_put (cs := #[.int .i64 a0_0, .int .u8 a0_1, .int .u64 a0_2, .slice A0_3 l0_3.length c0_3]) ?_ 0 _ rfl; (with_reducible repeat (first | refine blk_drewN ?_ _ | refine blk_drew ?_ | refine blk_alloc ?_ _)); exact BK1327.out⟩, ⟨by (with_reducible repeat (first | refine blk_drewN ?_ _ | refine blk_drew ?_ | refine blk_alloc ?_ _)); refine blk_far ?_ NB1328_1327.out _; (with_reducible repeat (first | refine blk_drewN ?_ _ | refine blk_drew ?_ | refine blk_alloc ?_ _)); refine blk_far ?_ NB1328_1327.out _; (with_reducible repeat (first | refine blk_drewN ?_ _ | refine blk_drew ?_ | refine blk_alloc ?_ _)); exact BK1328.out⟩, ⟨by repeat (first | (with_reducible first | exact HB.out | apply below_alloc | apply pw_below_drewN | apply below_drew1 | refine below_set ?_ GE1327.out | refine below_set ?_ GE1328.out) | exact HB.out)⟩⟩
          case round =>
            clear H'
            try clear c1
            try clear p2
            try clear c4
            try clear c4b0
            try clear c4b1
            try clear c6
            try clear c8
            try clear c11
            try clear c11b0
            try clear c12
            try clear c13
            try clear c16
            try clear c17
            try clear hcz14_0
            try clear hcz14_1
            try clear hcz14_2
            try clear hcz14_3
            try clear hcz17_0
            try clear hcz17_1
            try clear hcz17_2
            try clear hcz17_3
            try clear hcz19_0
            try clear hcz19_1
            try clear hcz19_2
            try clear hcz19_3
            try clear hcz9_0
            try clear hcz9_1
            try clear hcz9_2
            try clear hcz9_3
            try clear hfz14_0
            try clear hfz14_1
            try clear hfz14_2
            try clear hfz14_3
            try clear hfz17_0
            try clear hfz17_1
            try clear hfz17_2
            try clear hfz17_3
            try clear hfz19_0
            try clear hfz19_1
            try clear hfz19_2
            try clear hfz19_3
            try clear hfz9_0
            try clear hfz9_1
            try clear hfz9_2
            try clear hfz9_3
            try clear p2
            obtain ⟨x30_2, x1328003_2, u1328003, rfl, HA, HK2, HO_1328003, BK1327, BK1328, HB⟩ := hrel
            cases gk with
            | zero => exact absurd HA.out (by simp [journal_Reverse.l0])
            | succ k2 =>
              have H := HA.out
              clear HA
              simp only [journal_Reverse.l0] at H
              by_cases c21 : x30_2 < (t1330.length : Int)
              · rw [if_pos c21] at H
                have c21b0 : decide (x30_2 < (t1330.length : Int)) = true := decide_eq_true c21
                clear c21
                by_cases c22 : 0 ≤ x30_2
                · rw [if_pos c22] at H
                  have c22b0 : decide (0 ≤ x30_2) = true := decide_eq_true c22
                  clear c22
                  by_cases c23 : x30_2 < (x1328003_2.length : Int)
                  · rw [if_pos c23] at H
                    have c23b0 : decide (x30_2 < (x1328003_2.length : Int)) = true := decide_eq_true c23
                    clear c23
                    obtain ⟨y1334, hy1334⟩ : ∃ y_ : List (S113), y_ = (x1328003_2.set (x30_2 : Int).toNat (⟨(rd_T113 x1328003_2 x30_2).f0, (rd_T113 x1328003_2 x30_2).f1, (rd_T113 x1328003_2 x30_2).f2, wrap64 (-((rd_T113 x1328003_2 x30_2).f3))⟩ : S113)) := ⟨_, rfl⟩
                    replace H : (journal_Reverse.l0 k2 (t1330.length : Int) (wrap64 (x30_2 + 1)) a1 a0_1 a0_2 y1334) = some (r1, r2, r3, r4, r5) := by first | (rw [hy1334]; with_reducible exact H) | (have H2_ := (Option.bind_some _ _).symm.trans H; rw [hy1334]; with_reducible exact H2_) | (have H2_ := (Option.bind_some _ _).symm.trans H; with_reducible exact H2_) | with_reducible exact H | (rw [hy1334]; exact H) | exact H
                    have Ny1334 := Aside0.mk hy1334
                    clear hy1334
                    have H' := Aside0.mk H
                    clear H
                    try go_wp2
                    have n0_ := Aside0.mk (Kd.R_drew HO_1328003.out)
                    have n1_ := Aside0.mk (blk_drew BK1327.out)
                    have n2_ := Aside0.mk (blk_drew BK1328.out)
                    have n3_ := Aside0.mk (below_drew1 HB.out)
                    clear HO_1328003
                    clear BK1327
                    clear BK1328
                    clear HB
                    have HO_1328003 := n0_
                    have BK1327 := n1_
                    have BK1328 := n2_
                    have HB := n3_
                    clear n0_ n1_ n2_ n3_
                    obtain ⟨Ao26, co26, eo26⟩ := Kd.R_slice HO_1328003.out
                    (first | subst eo26 | (injection eo26 with f1_ f2_ f3_; have f4_ := f1_.symm; have f5_ := f3_.symm; clear f1_ f2_ f3_; subst f4_; subst f5_))
                    have p1333 : 0 ≤ (x30_2 : Int) := of_decide_eq_true (by first | (with_reducible assumption) | assumption)
                    have q1333 : x30_2 < (x1328003_2.length : Int) := of_decide_eq_true (by first | (with_reducible assumption) | assumption)
                    obtain ⟨ad1333, e1333, hx1333_0, hx1333_1, hx1333_2, hx1333_3⟩ := at_T113 (Kd.R_reads' HO_1328003.out).2.2 x30_2 p1333 q1333
                    cases e1333
                    replace p1333 := eq_true p1333
                    replace q1333 := eq_true q1333
                    have p24 : 0 ≤ (x30_2 : Int) := of_decide_eq_true (by first | (with_reducible assumption) | assumption)
                    have q24 : (x30_2 : Int) < ((x1328003_2.length : Int) : Int) := of_decide_eq_true (by first | (with_reducible assumption) | assumption)
                    obtain ⟨go24, co24, eo24, gb24, gl24, cl24, HG24⟩ := Kd.R_form HO_1328003.out (by omega)
                    (first | cases eo24 | (injection eo24 with ea_ en_ ec_; (first | subst ea_ | (injection ea_ with ea_; subst ea_)); subst ec_; clear en_))
                    have GB24 := Aside0.mk gb24
                    have GG24 := Aside0.mk HG24
                    clear gb24 gl24 HG24
                    (first | simp only [add_plain] at hx1333_0 | skip)
                    (first | simp only [add_plain] at hx1333_1 | skip)
                    (first | simp only [add_plain] at hx1333_2 | skip)
                    (first | simp only [add_plain] at hx1333_3 | skip)
                    obtain ⟨ce24, hcl24, hM24, hcc24, hfr24⟩ := Kd.R_elem HO_1328003.out z113 (x30_2 : Int) p24 q24
                    obtain rfl := k113_openM hM24
                    have hx24_0 : World.cell? _ ⟨go24, (x30_2 : Int).toNat * 4, none⟩ = some (.int .i64 ((rd_T113 x1328003_2 x30_2).f0)) := hcc24 0 _ rfl
                    have hx24_1 : World.cell? _ ⟨go24, (x30_2 : Int).toNat * 4 + 1, none⟩ = some (.int .u64 ((rd_T113 x1328003_2 x30_2).f1)) := hcc24 1 _ rfl
                    have hx24_2 : World.cell? _ ⟨go24, (x30_2 : Int).toNat * 4 + 2, none⟩ = some (.int .u64 ((rd_T113 x1328003_2 x30_2).f2)) := hcc24 2 _ rfl
                    have hx24_3 : World.cell? _ ⟨go24, (x30_2 : Int).toNat * 4 + 3, none⟩ = some (.int .i64 ((rd_T113 x1328003_2 x30_2).f3)) := hcc24 3 _ rfl
                    have hf24_0 : World.frozen? _ ⟨go24, (x30_2 : Int).toNat * 4, none⟩ = false := hfr24 0
                    have hf24_1 : World.frozen? _ ⟨go24, (x30_2 : Int).toNat * 4 + 1, none⟩ = false := hfr24 1
                    have hf24_2 : World.frozen? _ ⟨go24, (x30_2 : Int).toNat * 4 + 2, none⟩ = false := hfr24 2
                    have hf24_3 : World.frozen? _ ⟨go24, (x30_2 : Int).toNat * 4 + 3, none⟩ = false := hfr24 3
                    clear hcl24 hcc24 hfr24 hM24
                    replace p24 := eq_true p24
                    replace q24 := eq_true q24
                    obtain ⟨ce27, hcl27, hM27, hcc27, hfr27⟩ := Kd.R_elem HO_1328003.out z113 (x30_2 : Int) (of_decide_eq_true (by first | (with_reducible assumption) | assumption)) (by have h_ : (x30_2 : Int) < ((x1328003_2.length : Int) : Int) := of_decide_eq_true (by first | (with_reducible assumption) | assumption); first | exact h_ | (have e_ := (Kd.R_reads' HO_1328003.out).1; omega) | simpa using h_)
                    obtain rfl := k113_openM hM27
                    have HP27 := (Kd.R_seg HO_1328003.out (x30_2 : Int) (of_decide_eq_true (by first | (with_reducible assumption) | assumption)) (by have h_ : (x30_2 : Int) < ((x1328003_2.length : Int) : Int) := of_decide_eq_true (by first | (with_reducible assumption) | assumption); first | exact h_ | (have e_ := (Kd.R_reads' HO_1328003.out).1; omega) | simpa using h_) (seg := [.int .i64 (wrap64 (-((rd_T113 x1328003_2 x30_2).f3)))]) (j := 3) hcl27 hcc27 (show 4 ≤ 4 from by decide) (x' := (⟨(rd_T113 x1328003_2 x30_2).f0, (rd_T113 x1328003_2 x30_2).f1, (rd_T113 x1328003_2 x30_2).f2, wrap64 (-((rd_T113 x1328003_2 x30_2).f3))⟩ : S113)) (k113_mkM _ _ _ (⟨(rd_T113 x1328003_2 x30_2).f0, (rd_T113 x1328003_2 x30_2).f1, (rd_T113 x1328003_2 x30_2).f2, wrap64 (-((rd_T113 x1328003_2 x30_2).f3))⟩ : S113) ) (fun _ hk => hk)).1
                    rw [← Ny1334.out] at HP27
                    have HQ27 := Aside0.mk HP27
                    clear hcl27 hcc27 hfr27 hM27 HP27
                    refine start_ (n := 13) (S := fun w' => w'.cell? ⟨gb1327, 0, none⟩ = some (.int .i64 a1) ∧ w'.cell? ⟨gb1327, 1, none⟩ = some (.int .u8 a0_1) ∧ w'.cell? ⟨gb1327, 2, none⟩ = some (.int .u64 a0_2) ∧ w'.cell? ⟨gb1327, 3, none⟩ = some (.slice (some ⟨go24, 0, none⟩) x1328003_2.length co26) ∧ w'.cell? ⟨go24, ((x30_2).toNat * 4), none⟩ = some (.int .i64 ((rd_T113 x1328003_2 x30_2).f0)) ∧ w'.cell? ⟨go24, ((x30_2).toNat * 4) + 1, none⟩ = some (.int .u64 ((rd_T113 x1328003_2 x30_2).f1)) ∧ w'.cell? ⟨go24, ((x30_2).toNat * 4) + 2, none⟩ = some (.int .u64 ((rd_T113 x1328003_2 x30_2).f2)) ∧ w'.cell? ⟨go24, ((x30_2).toNat * 4) + 3, none⟩ = some (.int .i64 ((rd_T113 x1328003_2 x30_2).f3))) (ds := [12]) #[false, false, false, false, false, false, false, false, false, false, false, false, false] (by kernel_rfl) rfl rfl ⟨(blk_cell BK1327.out 0).trans rfl, (blk_cell BK1327.out 1).trans rfl, (blk_cell BK1327.out 2).trans rfl, (blk_cell BK1327.out 3).trans rfl, hx1333_0, hx1333_1, hx1333_2, hx1333_3⟩ (fun hHeld => ?_); refine with_tabW journal_Reverse.tab10 journal_Reverse.bits10 (fun HT_ HW_ => ?_)
                    generalize wr.drew = w25 at HO_1328003 BK1327 BK1328 HB GG24 HQ27 hf24_0 hf24_1 hf24_2 hf24_3 hx1333_0 hx1333_1 hx1333_2 hx1333_3 hx24_0 hx24_1 hx24_2 hx24_3 hHeld ⊢
                    refine pure_ (i := 0) (N := some 33) (v := ?_) (a' := ?_) #[true, false, false, false, false, false, false, false, false, false, false, false, false] rfl rfl (any_of HT_.out (by kernel_rfl)) (fun _ _ _ h => h) (Or.inl ⟨by rfl, ?_⟩) ?_ ?_
                    rotate_left
                    · intro w'
                      go_simp
                      with_reducible rfl
                    rotate_left
                    · simp only [Act.put, List.setIfInBounds_toArray, List.set_cons_zero, List.set_cons_succ, i64_w, i32_w]
                      rfl
                    refine pure_ (i := 2) (N := some 35) (v := ?_) (a' := ?_) #[true, false, true, false, false, false, false, false, false, false, false, false, false] rfl rfl (any_of HT_.out (by kernel_rfl)) (fun _ _ _ h => h) (Or.inl ⟨by rfl, ?_⟩) ?_ ?_
                    rotate_left
                    · intro w'
                      go_simp
                      with_reducible rfl
                    rotate_left
                    · simp only [Act.put, List.setIfInBounds_toArray, List.set_cons_zero, List.set_cons_succ, i64_w, i32_w]
                      rfl
                    refine pure_ (i := 3) (N := some 36) (v := ?_) (a' := ?_) #[true, false, true, true, false, false, false, false, false, false, false, false, false] rfl rfl (any_of HT_.out (by kernel_rfl)) (fun _ _ _ h => h) (Or.inl ⟨by rfl, ?_⟩) ?_ ?_
                    rotate_left
                    · intro w'
                      go_simp
                      with_reducible rfl
                    rotate_left
                    · simp only [Act.put, List.setIfInBounds_toArray, List.set_cons_zero, List.set_cons_succ, i64_w, i32_w]
                      rfl
                    refine pure_ (i := 5) (N := some 38) (v := ?_) (a' := ?_) #[true, false, true, true, false, true, false, false, false, false, false, false, false] rfl rfl (any_of HT_.out (by kernel_rfl)) (fun _ _ _ h => h) (Or.inl ⟨by rfl, ?_⟩) ?_ ?_
                    rotate_left
                    · intro w'
                      go_simp
                      with_reducible rfl
                    rotate_left
                    · simp only [Act.put, List.setIfInBounds_toArray, List.set_cons_zero, List.set_cons_succ, i64_w, i32_w]
                      rfl
                    refine take_ (i := 1) (N := some 34) (v := ?_) (a' := ?_) #[true, true, true, true, false, true, false, false, false, false, false, false, false] rfl rfl (take_ofW HT_.out HW_.out (by kernel_rfl)) (fun _ _ _ h => h) (Or.inl ⟨by rfl, ?_⟩) hHeld ?_ ?_
                    rotate_left
                    · rintro w' ⟨s0, s1, s2, s3, s4, s5, s6, s7⟩
                      go_simp
                      with_reducible rfl
                    rotate_left
                    · simp only [Act.put, List.setIfInBounds_toArray, List.set_cons_zero, List.set_cons_succ, i64_w, i32_w]
                      rfl
                    refine take_ (i := 4) (N := some 37) (v := ?_) (a' := ?_) #[true, true, true, true, true, true, false, false, false, false, false, false, false] rfl rfl (take_ofW HT_.out HW_.out (by kernel_rfl)) (fun _ _ _ h => h) (Or.inl ⟨by rfl, ?_⟩) hHeld ?_ ?_
                    rotate_left
                    · rintro w' ⟨s0, s1, s2, s3, s4, s5, s6, s7⟩
                      go_simp
                      with_reducible rfl
                    rotate_left
                    · simp only [Act.put, List.setIfInBounds_toArray, List.set_cons_zero, List.set_cons_succ, i64_w, i32_w]
                      rfl
                    refine pure_ (i := 6) (N := some 39) (v := ?_) (a' := ?_) #[true, true, true, true, true, true, true, false, false, false, false, false, false] rfl rfl (any_of HT_.out (by kernel_rfl)) (fun _ _ _ h => h) (Or.inl ⟨by rfl, ?_⟩) ?_ ?_
                    rotate_left
                    · intro w'
                      go_simp
                      with_reducible rfl
                    rotate_left
                    · simp only [Act.put, List.setIfInBounds_toArray, List.set_cons_zero, List.set_cons_succ, i64_w, i32_w]
                      rfl
                    refine pure_ (i := 7) (N := some 40) (v := ?_) (a' := ?_) #[true, true, true, true, true, true, true, true, false, false, false, false, false] rfl rfl (any_of HT_.out (by kernel_rfl)) (fun _ _ _ h => h) (Or.inl ⟨by rfl, ?_⟩) ?_ ?_
                    rotate_left
                    · intro w'
                      go_simp
                      with_reducible rfl
                    rotate_left
                    · simp only [Act.put, List.setIfInBounds_toArray, List.set_cons_zero, List.set_cons_succ, i64_w, i32_w]
                      rfl
                    refine take_ (i := 8) (N := some 41) (v := ?_) (a' := ?_) #[true, true, true, true, true, true, true, true, true, false, false, false, false] rfl rfl (take_ofW HT_.out HW_.out (by kernel_rfl)) (fun _ _ _ h => h) (Or.inl ⟨by rfl, ?_⟩) hHeld ?_ ?_
                    rotate_left
                    · rintro w' ⟨s0, s1, s2, s3, s4, s5, s6, s7⟩
                      go_simp
                      with_reducible rfl
                    rotate_left
                    · simp only [Act.put, List.setIfInBounds_toArray, List.set_cons_zero, List.set_cons_succ, i64_w, i32_w]
                      rfl
                    refine pure_ (i := 9) (N := some 42) (v := ?_) (a' := ?_) #[true, true, true, true, true, true, true, true, true, true, false, false, false] rfl rfl (any_of HT_.out (by kernel_rfl)) (fun _ _ _ h => h) (Or.inl ⟨by rfl, ?_⟩) ?_ ?_
                    rotate_left
                    · intro w'
                      go_simp
                      with_reducible rfl
                    rotate_left
                    · simp only [Act.put, List.setIfInBounds_toArray, List.set_cons_zero, List.set_cons_succ, i64_w, i32_w]
                      rfl
                    refine pure_ (i := 10) (N := some 43) (v := ?_) (a' := ?_) #[true, true, true, true, true, true, true, true, true, true, true, false, false] rfl rfl (any_of HT_.out (by kernel_rfl)) (fun _ _ _ h => h) (Or.inl ⟨by rfl, ?_⟩) ?_ ?_
                    rotate_left
                    · intro w'
                      go_simp
                      with_reducible rfl
                    rotate_left
                    · simp only [Act.put, List.setIfInBounds_toArray, List.set_cons_zero, List.set_cons_succ, i64_w, i32_w]
                      rfl
                    refine pure_ (i := 11) (N := some 44) (v := ?_) (a' := ?_) #[true, true, true, true, true, true, true, true, true, true, true, true, false] rfl rfl (any_of HT_.out (by kernel_rfl)) (fun _ _ _ h => h) (Or.inl ⟨by rfl, ?_⟩) ?_ ?_
                    rotate_left
                    · intro w'
                      go_simp
                      with_reducible rfl
                    rotate_left
                    · simp only [Act.put, List.setIfInBounds_toArray, List.set_cons_zero, List.set_cons_succ, i64_w, i32_w]
                      rfl
                    refine last_ (i := 12) (N := none) #[true, true, true, true, true, true, true, true, true, true, true, true, true] rfl rfl (one_of HT_.out (by kernel_rfl)) (by decide) (fun K hK => ?_)
                    refine skip_ (w1 := ?_) (by rfl) rfl ?_ ?_
                    rotate_left
                    · go_simp
                      rfl
                    refine hK.out _ _ ?_
                    clear hK K
                    refine done_ (done_of HT_.out (by kernel_rfl)) ?_
                    try go_wp2
                    go_roundg k2
                    case measure => have := HJ4.out; have := HK2.out; omega
                    case rel => exact ⟨(wrap64 (x30_2 + 1)), (y1334), (.slice (some ⟨go24, 0, none⟩) x1328003_2.length co26), (by first | rfl | (simp; done) | (simp [*]; done)), H', ⟨by have := HJ4.out; have := HK2.out; omega⟩, ⟨by (with_reducible repeat (first | apply Kd.R_alloc | apply Kd.R_drewN | apply Kd.R_drew)); exact HQ27.out⟩, ⟨by (with_reducible repeat (first | refine blk_drewN ?_ _ | refine blk_drew ?_ | refine blk_alloc ?_ _)); refine blk_far ?_ (by have h_ := Kd.R_ne HO_1328003.out BK1327.out (by decide); intro e_; exact h_ (by rw [e_]; rfl)) _; (with_reducible repeat (first | refine blk_drewN ?_ _ | refine blk_drew ?_ | refine blk_alloc ?_ _)); exact BK1327.out⟩, ⟨by (with_reducible repeat (first | refine blk_drewN ?_ _ | refine blk_drew ?_ | refine blk_alloc ?_ _)); refine blk_far ?_ (by have h_ := Kd.R_ne HO_1328003.out BK1328.out (by decide); intro e_; exact h_ (by rw [e_]; rfl)) _; (with_reducible repeat (first | refine blk_drewN ?_ _ | refine blk_drew ?_ | refine blk_alloc ?_ _)); exact BK1328.out⟩, ⟨by repeat (first | (with_reducible first | exact HB.out | apply below_alloc | apply pw_below_drewN | apply below_drew1 | refine below_set ?_ GB24.out | refine below_set ?_ GE1327.out | refine below_set ?_ GE1328.out) | exact HB.out)⟩⟩
                  · rw [if_neg c23] at H
                    exact absurd H (by simp)
                · rw [if_neg c22] at H
                  exact absurd H (by simp)
              · rw [if_neg c21] at H
                have c21b0 : decide (x30_2 < (t1330.length : Int)) = false := decide_eq_false c21
                clear c21
                simp only [Option.some.injEq, Prod.mk.injEq] at H
                obtain ⟨rfl, rfl, rfl, rfl, rfl⟩ := H
                have hnb28 := NB1327_1328.out
                have hnc28 := NB1328_1327.out
                have hcz29_0 : wr.cell? ⟨gb1327, 0, none⟩ = some (.int .i64 a1) := (blk_cell BK1327.out 0).trans rfl
                have hcz29_1 : wr.cell? ⟨gb1327, 1, none⟩ = some (.int .u8 a0_1) := (blk_cell BK1327.out 1).trans rfl
                have hcz29_2 : wr.cell? ⟨gb1327, 2, none⟩ = some (.int .u64 a0_2) := (blk_cell BK1327.out 2).trans rfl
                have hcz29_3 : wr.cell? ⟨gb1327, 3, none⟩ = some (u1328003) := (blk_cell BK1327.out 3).trans rfl
                have hfz29_0 := blk_frozen BK1327.out 0
                have hfz29_1 := blk_frozen BK1327.out 1
                have hfz29_2 := blk_frozen BK1327.out 2
                have hfz29_3 := blk_frozen BK1327.out 3
                have hcz30_0 : wr.cell? ⟨gb1328, 0, none⟩ = some (.int .i64 0) := (blk_cell BK1328.out 0).trans rfl
                have hcz30_1 : wr.cell? ⟨gb1328, 1, none⟩ = some (.int .u8 0) := (blk_cell BK1328.out 1).trans rfl
                have hcz30_2 : wr.cell? ⟨gb1328, 2, none⟩ = some (.int .u64 0) := (blk_cell BK1328.out 2).trans rfl
                have hcz30_3 : wr.cell? ⟨gb1328, 3, none⟩ = some (.slice none 0 0) := (blk_cell BK1328.out 3).trans rfl
                have hfz30_0 := blk_frozen BK1328.out 0
                have hfz30_1 := blk_frozen BK1328.out 1
                have hfz30_2 := blk_frozen BK1328.out 2
                have hfz30_3 := blk_frozen BK1328.out 3
                obtain ⟨Ao31, co31, eo31⟩ := Kd.R_slice HO_1328003.out
                subst eo31
                go_wp2
                refine bodyPost_ret (results_ct rfl _ _ gb1328 32 #[.int .i64 a1, .int .u8 a0_1, .int .u64 a0_2, .slice Ao31 x1328003_2.length co31] (0, 0) _ rfl (by (with_reducible repeat (first | refine blk_drewN ?_ _ | refine blk_drew ?_ | refine blk_alloc ?_ _)); refine blk_put (cs := #[.int .i64 a1, .int .u8 a0_1, .int .u64 a0_2, .slice none 0 0]) ?_ 3 _ rfl; (with_reducible repeat (first | refine blk_drewN ?_ _ | refine blk_drew ?_ | refine blk_alloc ?_ _)); refine blk_put (cs := #[.int .i64 a1, .int .u8 a0_1, .int .u64 0, .slice none 0 0]) ?_ 2 _ rfl; (with_reducible repeat (first | refine blk_drewN ?_ _ | refine blk_drew ?_ | refine blk_alloc ?_ _)); refine blk_put (cs := #[.int .i64 a1, .int .u8 0, .int .u64 0, .slice none 0 0]) ?_ 1 _ rfl; (with_reducible repeat (first | refine blk_drewN ?_ _ | refine blk_drew ?_ | refine blk_alloc ?_ _)); refine blk_put (cs := #[.int .i64 0, .int .u8 0, .int .u64 0, .slice none 0 0]) ?_ 0 _ rfl; (with_reducible repeat (first | refine blk_drewN ?_ _ | refine blk_drew ?_ | refine blk_alloc ?_ _)); exact BK1328.out) Try.underlying32 rfl (by kernel_rfl)) rfl ?_
                exact ⟨_, by first | rfl | (simp [errW_none, errW_some] <;> rfl) | (simp [*, errW_none, errW_some] <;> rfl), by (with_reducible repeat (first | apply Kd.R_alloc | apply Kd.R_drewN | apply Kd.R_drew)); exact Kd.R_mono (Kd.R_far (p := ⟨gb1328, 3, none⟩) (Kd.R_far (p := ⟨gb1328, 2, none⟩) (Kd.R_far (p := ⟨gb1328, 1, none⟩) (Kd.R_far (p := ⟨gb1328, 0, none⟩) (Kd.R_types HO_1328003.out BK1328.out (by decide)) (fun _ hk => hk.2) (.int .i64 a1)) (fun _ hk => hk.2) (.int .u8 a0_1)) (fun _ hk => hk.2) (.int .u64 a0_2)) (fun _ hk => hk.2) (.slice Ao31 x1328003_2.length co31)) (fun _ hk => trivial), by repeat (first | (with_reducible first | exact HB.out | apply below_alloc | apply pw_below_drewN | apply below_drew1 | refine below_set ?_ GE1327.out | refine below_set ?_ GE1328.out) | exact HB.out)⟩
  · rw [if_neg c4] at H
    have c4b0 : (t1329 == 0) = false := beq_eq_false_iff_ne.mpr c4
    have c4b1 : (t1329 != 0) = true := bne_iff_ne.mpr c4
    simp only [Option.some.injEq, Prod.mk.injEq] at H
    obtain ⟨rfl, rfl, rfl, rfl, rfl⟩ := H
    go_enter Try.func61, Try.ntmps61
    go_wp2_with (first | ((with_reducible refine gate_dst (N := 2) rfl ?_); refine box_event ?hg (N := 2) ?hd (cs := #[.int .i64 a0_0, .int .u8 a0_1, .int .u64 a0_2, .slice A0_3 l0_3.length c0_3]) (t := 32) ?hr ?_; (case hd => rfl); (case hg => rfl); (case hr => first | (go_simp; done) | (go_simp; rfl)); intro gb1327 hg w32 hbox hb; have n0_ := Aside0.mk (below_step (by repeat (first | (with_reducible first | exact HB.out | apply below_alloc | apply pw_below_drewN | apply below_drew1) | exact HB.out)) hb); have n1_ := Aside0.mk (hbox); have n2_ := Aside0.mk ((by rw [hg]; exact (below_size (by repeat (first | (with_reducible first | exact HB.out | apply below_alloc | apply pw_below_drewN | apply below_drew1) | exact HB.out))) : w.heap.size ≤ gb1327)); have n3_ := Aside0.mk ((by rw [hg]; exact (below_size (by repeat (first | (with_reducible first | exact HB.out | apply below_alloc | apply pw_below_drewN | apply below_drew1) | exact HB.out))) : w.heap.size ≤ gb1327)); clear HB; have HB := n0_; have BK1327 := n1_; have GW1327 := n2_; have GE1327 := n3_; clear n0_ n1_ n2_ n3_; clear hb hbox hg) | ((with_reducible refine gate_dst (N := 4) rfl ?_); refine box_event ?hg (N := 4) ?hd (cs := #[.int .i64 0, .int .u8 0, .int .u64 0, .slice none 0 0]) (t := 32) ?hr ?_; (case hd => rfl); (case hg => rfl); (case hr => first | (go_simp; done) | (go_simp; rfl)); intro gb1328 hg w33 hbox hb; have n0_ := Aside0.mk (blk_below (g := gb1327) (o := .cells #[.int .i64 a0_0, .int .u8 a0_1, .int .u64 a0_2, .slice A0_3 l0_3.length c0_3] 32 (0, 0)) (by (with_reducible repeat (first | refine blk_drewN ?_ _ | refine blk_drew ?_ | refine blk_alloc ?_ _)); exact BK1327.out) hb); have n1_ := Aside0.mk (below_step (by repeat (first | (with_reducible first | exact HB.out | apply below_alloc | apply pw_below_drewN | apply below_drew1 | refine below_set ?_ GE1327.out) | exact HB.out)) hb); have n2_ := Aside0.mk (hbox); have n3_ := Aside0.mk ((by rw [hg]; exact (below_size (by repeat (first | (with_reducible first | exact HB.out | apply below_alloc | apply pw_below_drewN | apply below_drew1 | refine below_set ?_ GE1327.out) | exact HB.out))) : w.heap.size ≤ gb1328)); have n4_ := Aside0.mk ((by rw [hg]; exact (below_size (by repeat (first | (with_reducible first | exact HB.out | apply below_alloc | apply pw_below_drewN | apply below_drew1 | refine below_set ?_ GE1327.out) | exact HB.out))) : w.heap.size ≤ gb1328)); have n5_ := Aside0.mk ((by rw [hg]; exact Nat.ne_of_lt (blk_lt (g := gb1327) (o := .cells #[.int .i64 a0_0, .int .u8 a0_1, .int .u64 a0_2, .slice A0_3 l0_3.length c0_3] 32 (0, 0)) (by (with_reducible repeat (first | refine blk_drewN ?_ _ | refine blk_drew ?_ | refine blk_alloc ?_ _)); exact BK1327.out)) : gb1327 ≠ gb1328)); have n6_ := Aside0.mk ((by rw [hg]; exact Nat.ne_of_gt (blk_lt (g := gb1327) (o := .cells #[.int .i64 a0_0, .int .u8 a0_1, .int .u64 a0_2, .slice A0_3 l0_3.length c0_3] 32 (0, 0)) (by (with_reducible repeat (first | refine blk_drewN ?_ _ | refine blk_drew ?_ | refine blk_alloc ?_ _)); exact BK1327.out)) : gb1328 ≠ gb1327)); clear BK1327; clear HB; have BK1327 := n0_; have HB := n1_; have BK1328 := n2_; have GW1328 := n3_; have GE1328 := n4_; have NB1327_1328 := n5_; have NB1328_1327 := n6_; clear n0_ n1_ n2_ n3_ n4_ n5_ n6_; clear hb hbox hg; have hnb34 := NB1327_1328.out; have hnc34 := NB1328_1327.out; have hcz35_0 : w33.cell? ⟨gb1327, 0, none⟩ = some (.int .i64 a0_0) := (blk_cell BK1327.out 0).trans rfl; have hcz35_1 : w33.cell? ⟨gb1327, 1, none⟩ = some (.int .u8 a0_1) := (blk_cell BK1327.out 1).trans rfl; have hcz35_2 : w33.cell? ⟨gb1327, 2, none⟩ = some (.int .u64 a0_2) := (blk_cell BK1327.out 2).trans rfl; have hcz35_3 : w33.cell? ⟨gb1327, 3, none⟩ = some (.slice A0_3 l0_3.length c0_3) := (blk_cell BK1327.out 3).trans rfl; have hfz35_0 := blk_frozen BK1327.out 0; have hfz35_1 := blk_frozen BK1327.out 1; have hfz35_2 := blk_frozen BK1327.out 2; have hfz35_3 := blk_frozen BK1327.out 3) | ((with_reducible refine gate_callee (f := 17) rfl ?_); refine goesL_ (some 9) rfl rfl Try.func17 (by kernel_rfl) rfl #[.agg #[.int .i64 a0_0, .int .u8 a0_1, .int .u64 a0_2, .slice A0_3 l0_3.length c0_3]] rfl (by (try simp only [List.map_toArray, List.map_cons, List.map_nil]); first | done | rfl | (simp only [List.length_drop, List.length_take]; rfl)) ?_; (with_reducible refine (journal_Check.calls a0_0 a0_1 a0_2 _ _ l0_3 t1329 _ ?side1 ?side2 A3.out).mono ?_); (case side1 => repeat (first | exact (Kd.C_below HR0_3.out HB.out) | (with_reducible refine Kd.C_alloc ?_ _) | (with_reducible refine Kd.C_drewN ?_ _) | (with_reducible refine Kd.C_drew ?_))); (case side2 => exact HC0_3.out); rintro e w36 ⟨rfl, hb⟩; refine ⟨_, rfl, ?_⟩; have n0_ := Aside0.mk (blk_below (g := gb1327) (o := .cells #[.int .i64 a0_0, .int .u8 a0_1, .int .u64 a0_2, .slice A0_3 l0_3.length c0_3] 32 (0, 0)) (by (with_reducible repeat (first | refine blk_drewN ?_ _ | refine blk_drew ?_ | refine blk_alloc ?_ _)); exact BK1327.out) hb); have n1_ := Aside0.mk (blk_below (g := gb1328) (o := .cells #[.int .i64 0, .int .u8 0, .int .u64 0, .slice none 0 0] 32 (0, 0)) (by (with_reducible repeat (first | refine blk_drewN ?_ _ | refine blk_drew ?_ | refine blk_alloc ?_ _)); exact BK1328.out) hb); have n2_ := Aside0.mk (below_step (by repeat (first | (with_reducible first | exact HB.out | apply below_alloc | apply pw_below_drewN | apply below_drew1 | refine below_set ?_ GE1327.out | refine below_set ?_ GE1328.out) | exact HB.out)) hb); clear BK1327; clear BK1328; clear HB; have BK1327 := n0_; have BK1328 := n1_; have HB := n2_; clear n0_ n1_ n2_; (try clear hb); (try clear hb2); (try clear hk); (try clear hi); have hcz37_0 : w36.cell? ⟨gb1328, 0, none⟩ = some (.int .i64 0) := (blk_cell BK1328.out 0).trans rfl; have hcz37_1 : w36.cell? ⟨gb1328, 1, none⟩ = some (.int .u8 0) := (blk_cell BK1328.out 1).trans rfl; have hcz37_2 : w36.cell? ⟨gb1328, 2, none⟩ = some (.int .u64 0) := (blk_cell BK1328.out 2).trans rfl; have hcz37_3 : w36.cell? ⟨gb1328, 3, none⟩ = some (.slice none 0 0) := (blk_cell BK1328.out 3).trans rfl; have hfz37_0 := blk_frozen BK1328.out 0; have hfz37_1 := blk_frozen BK1328.out 1; have hfz37_2 := blk_frozen BK1328.out 2; have hfz37_3 := blk_frozen BK1328.out 3))
    refine bodyPost_ret (results_ct rfl _ _ gb1328 32 #[.int .i64 0, .int .u8 0, .int .u64 0, .slice none 0 0] (0, 0) _ rfl (by (with_reducible repeat (first | refine blk_drewN ?_ _ | refine blk_drew ?_ | refine blk_alloc ?_ _)); refine blk_put (cs := #[.int .i64 0, .int .u8 0, .int .u64 0, .slice none 0 0]) ?_ 3 _ rfl; (with_reducible repeat (first | refine blk_drewN ?_ _ | refine blk_drew ?_ | refine blk_alloc ?_ _)); refine blk_put (cs := #[.int .i64 0, .int .u8 0, .int .u64 0, .slice none 0 0]) ?_ 2 _ rfl; (with_reducible repeat (first | refine blk_drewN ?_ _ | refine blk_drew ?_ | refine blk_alloc ?_ _)); refine blk_put (cs := #[.int .i64 0, .int .u8 0, .int .u64 0, .slice none 0 0]) ?_ 1 _ rfl; (with_reducible repeat (first | refine blk_drewN ?_ _ | refine blk_drew ?_ | refine blk_alloc ?_ _)); refine blk_put (cs := #[.int .i64 0, .int .u8 0, .int .u64 0, .slice none 0 0]) ?_ 0 _ rfl; (with_reducible repeat (first | refine blk_drewN ?_ _ | refine blk_drew ?_ | refine blk_alloc ?_ _)); exact BK1328.out) Try.underlying32 rfl (by kernel_rfl)) rfl ?_
    exact ⟨_, by first | rfl | (simp [errW_none, errW_some] <;> rfl) | (simp [*, errW_none, errW_some] <;> rfl), by first | exact Kd.R_nil _ _ _ _ _ | exact Kd.N_nil _ _ _ _ _ | exact Kd.V_nil _ _ _ _ _ | exact Kd.Q_nil _ _ _ _ _ | exact Kd.S_nil _ _ _ _ _, by repeat (first | (with_reducible first | exact HB.out | apply below_alloc | apply pw_below_drewN | apply below_drew1 | refine below_set ?_ GE1327.out | refine below_set ?_ GE1328.out) | exact HB.out)⟩

end Go.Proofs.Ytaoejonkiikhmaa.G
