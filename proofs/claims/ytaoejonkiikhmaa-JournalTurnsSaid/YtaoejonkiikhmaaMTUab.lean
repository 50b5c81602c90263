/- Texts of this claim put together: GQuittanceref20Tidy, HRef20, HJSum, GSlicesReverseFbyteFbyte, GTallyNum, GTallyInt, GQuittanceref20Same. -/
import Derived.Test.YtaoejonkiikhmaaMTUaa

-- Text by a program of this session (gprint.py), over the kit's print.
namespace Go.Proofs.Ytaoejonkiikhmaa.G
open Go.RowKit Go.Proofs.YtaoejonkiikhmaaW.PrintWords Go.Proofs.YtaoejonkiikhmaaW.PrintLast Go.Proofs.YtaoejonkiikhmaaW.PrintMore
attribute [local go_sem] max2_int min2_int max_two min_two max_three min_three max_four min_four   -- for this text's walks alone
set_option linter.unusedVariables false
set_option linter.unusedSimpArgs false

/-! ### quittanceref20_Tidy: function 52 -/
mutual
def quittanceref20_Tidy.l0 : Nat → List (S113) → Int → Option ((List (S113)) × Int)
  | 0, _, _ => none
  | k + 1, x0, x5 => if x5 < (x0.length : Int) then (if 0 ≤ x5 then ((quittanceref20_May.f ((rd_T113 x0 x5).f0) ((rd_T113 x0 x5).f1) ((rd_T113 x0 x5).f2) ((rd_T113 x0 x5).f3)).bind fun t1237 => (if t1237 = true then (quittanceref20_Tidy.l0 k x0 (wrap64 (x5 + 1))) else (some (([] : List (S113)), 2)))) else (none)) else (quittanceref20_Tidy.l1 k x0 ([] : List (S113)) 0)
def quittanceref20_Tidy.l1 : Nat → List (S113) → List (S113) → Int → Option ((List (S113)) × Int)
  | 0, _, _, _ => none
  | k + 1, x0, x4, x6 => if x6 < (x0.length : Int) then (quittanceref20_Tidy.l2 k x0 x4 x6 ([] : List (S113)) true 0) else (some (x4, 0))
def quittanceref20_Tidy.l2 : Nat → List (S113) → List (S113) → Int → List (S113) → Bool → Int → Option ((List (S113)) × Int)
  | 0, _, _, _, _, _, _ => none
  | k + 1, x0, x4, x6, x7, x8, x9 => if x9 < (x0.length : Int) then (if 0 ≤ x9 then (if 0 ≤ x6 then (if x6 < (x0.length : Int) then ((quittanceref20_alike.f ((rd_T113 x0 x9).f0) ((rd_T113 x0 x9).f1) ((rd_T113 x0 x9).f2) ((rd_T113 x0 x9).f3) ((rd_T113 x0 x6).f0) ((rd_T113 x0 x6).f1) ((rd_T113 x0 x6).f2) ((rd_T113 x0 x6).f3)).bind fun t1240 => (if t1240 = true then (if x7.length < 4398046511104 then ((some (x7 ++ [(⟨(rd_T113 x0 x9).f0, (rd_T113 x0 x9).f1, (rd_T113 x0 x9).f2, (rd_T113 x0 x9).f3⟩ : S113)] : List (S113))).bind fun y1242 => (if x8 = true then (quittanceref20_Tidy.l2 k x0 x4 x6 y1242 (decide (x9 ≥ x6)) (wrap64 (x9 + 1))) else (quittanceref20_Tidy.l2 k x0 x4 x6 y1242 false (wrap64 (x9 + 1))))) else (none)) else (quittanceref20_Tidy.l2 k x0 x4 x6 x7 x8 (wrap64 (x9 + 1))))) else (none)) else (none)) else (none)) else (if x8 = true then ((quittanceref20_Sum.f k x7).bind fun bt1245 => (if 0 ≤ x6 then (if x6 < (x0.length : Int) then (if bt1245.2 = true then (if bt1245.1 = 0 then (quittanceref20_Tidy.j3 k x0 x4 x6 bt1245.1 false ((rd_T113 x0 x6).f0) ((rd_T113 x0 x6).f1) ((rd_T113 x0 x6).f2) bt1245.1) else ((quittanceref20_May.f ((rd_T113 x0 x6).f0) ((rd_T113 x0 x6).f1) ((rd_T113 x0 x6).f2) bt1245.1).bind fun t1249 => (quittanceref20_Tidy.j3 k x0 x4 x6 bt1245.1 (!t1249) ((rd_T113 x0 x6).f0) ((rd_T113 x0 x6).f1) ((rd_T113 x0 x6).f2) bt1245.1))) else (quittanceref20_Tidy.j3 k x0 x4 x6 bt1245.1 true ((rd_T113 x0 x6).f0) ((rd_T113 x0 x6).f1) ((rd_T113 x0 x6).f2) bt1245.1)) else (none)) else (none))) else (quittanceref20_Tidy.l1 k x0 x4 (wrap64 (x6 + 1))))
def quittanceref20_Tidy.j3 : Nat → List (S113) → List (S113) → Int → Int → Bool → Int → Int → Int → Int → Option ((List (S113)) × Int)
  | 0, _, _, _, _, _, _, _, _, _ => none
  | k + 1, x0, x4, x6, x10, x82, x1249000, x1249001, x1249002, x1249003 => if x82 = true then (some (([] : List (S113)), 2)) else (if x10 = 0 then (quittanceref20_Tidy.l1 k x0 x4 (wrap64 (x6 + 1))) else ((quittanceref20_put.f k x4 x1249000 x1249001 x1249002 x1249003).bind fun t1250 => (quittanceref20_Tidy.l1 k x0 t1250 (wrap64 (x6 + 1)))))
end
def quittanceref20_Tidy.f (k : Nat) (l0 : List (S113)) : Option ((List (S113)) × Int) := quittanceref20_Tidy.l0 k l0 0
theorem quittanceref20_Tidy.mono_l : ∀ k, (∀ y0 y1, LeO (quittanceref20_Tidy.l0 k y0 y1) (quittanceref20_Tidy.l0 (k + 1) y0 y1)) ∧ (∀ y0 y1 y2, LeO (quittanceref20_Tidy.l1 k y0 y1 y2) (quittanceref20_Tidy.l1 (k + 1) y0 y1 y2)) ∧ (∀ y0 y1 y2 y3 y4 y5, LeO (quittanceref20_Tidy.l2 k y0 y1 y2 y3 y4 y5) (quittanceref20_Tidy.l2 (k + 1) y0 y1 y2 y3 y4 y5)) ∧ (∀ y0 y1 y2 y3 y4 y5 y6 y7 y8, LeO (quittanceref20_Tidy.j3 k y0 y1 y2 y3 y4 y5 y6 y7 y8) (quittanceref20_Tidy.j3 (k + 1) y0 y1 y2 y3 y4 y5 y6 y7 y8))
  | 0 => ⟨fun _ _ r h => by simp [quittanceref20_Tidy.l0] at h, fun _ _ _ r h => by simp [quittanceref20_Tidy.l1] at h, fun _ _ _ _ _ _ r h => by simp [quittanceref20_Tidy.l2] at h, fun _ _ _ _ _ _ _ _ _ r h => by simp [quittanceref20_Tidy.j3] at h⟩
  | k + 1 => by
    obtain ⟨ih0, ih1, ih2, ih3⟩ := quittanceref20_Tidy.mono_l k
    refine ⟨?_, ?_, ?_, ?_⟩
    · intro y0 y1
      unfold quittanceref20_Tidy.l0
      repeat' first
      | (with_reducible exact ih0 _ _)
      | (with_reducible exact ih1 _ _ _)
      | (with_reducible exact ih2 _ _ _ _ _ _)
      | (with_reducible exact ih3 _ _ _ _ _ _ _ _ _)
      | (with_reducible exact quittanceref20_Sum.mono _ _)
      | (with_reducible exact quittanceref20_put.mono _ _ _ _ _ _)
      | (with_reducible exact LeO.refl _)
      | (with_reducible exact LeO.none _)
      | (with_reducible refine LeO.ite ?_ ?_)
      | (with_reducible refine LeO.bind ?_ (fun _ => ?_))
      | exact ih0 _ _
      | exact ih1 _ _ _
      | exact ih2 _ _ _ _ _ _
      | exact ih3 _ _ _ _ _ _ _ _ _
      | exact quittanceref20_Sum.mono _ _
      | exact quittanceref20_put.mono _ _ _ _ _ _
      | exact LeO.none _
      | refine LeO.ite ?_ ?_
      | refine LeO.bind ?_ (fun _ => ?_)
    · intro y0 y1 y2
      unfold quittanceref20_Tidy.l1
      repeat' first
      | (with_reducible exact ih0 _ _)
      | (with_reducible exact ih1 _ _ _)
      | (with_reducible exact ih2 _ _ _ _ _ _)
      | (with_reducible exact ih3 _ _ _ _ _ _ _ _ _)
      | (with_reducible exact quittanceref20_Sum.mono _ _)
      | (with_reducible exact quittanceref20_put.mono _ _ _ _ _ _)
      | (with_reducible exact LeO.refl _)
      | (with_reducible exact LeO.none _)
      | (with_reducible refine LeO.ite ?_ ?_)
      | (with_reducible refine LeO.bind ?_ (fun _ => ?_))
      | exact ih0 _ _
      | exact ih1 _ _ _
      | exact ih2 _ _ _ _ _ _
      | exact ih3 _ _ _ _ _ _ _ _ _
      | exact quittanceref20_Sum.mono _ _
      | exact quittanceref20_put.mono _ _ _ _ _ _
      | exact LeO.none _
      | refine LeO.ite ?_ ?_
      | refine LeO.bind ?_ (fun _ => ?_)
    · intro y0 y1 y2 y3 y4 y5
      unfold quittanceref20_Tidy.l2
      repeat' first
      | (with_reducible exact ih0 _ _)
      | (with_reducible exact ih1 _ _ _)
      | (with_reducible exact ih2 _ _ _ _ _ _)
      | (with_reducible exact ih3 _ _ _ _ _ _ _ _ _)
      | (with_reducible exact quittanceref20_Sum.mono _ _)
      | (with_reducible exact quittanceref20_put.mono _ _ _ _ _ _)
      | (with_reducible exact LeO.refl _)
      | (with_reducible exact LeO.none _)
      | (with_reducible refine LeO.ite ?_ ?_)
      | (with_reducible refine LeO.bind ?_ (fun _ => ?_))
      | exact ih0 _ _
      | exact ih1 _ _ _
      | exact ih2 _ _ _ _ _ _
      | exact ih3 _ _ _ _ _ _ _ _ _
      | exact quittanceref20_Sum.mono _ _
      | exact quittanceref20_put.mono _ _ _ _ _ _
      | exact LeO.none _
      | refine LeO.ite ?_ ?_
      | refine LeO.bind ?_ (fun _ => ?_)
    · intro y0 y1 y2 y3 y4 y5 y6 y7 y8
      unfold quittanceref20_Tidy.j3
      repeat' first
      | (with_reducible exact ih0 _ _)
      | (with_reducible exact ih1 _ _ _)
      | (with_reducible exact ih2 _ _ _ _ _ _)
      | (with_reducible exact ih3 _ _ _ _ _ _ _ _ _)
      | (with_reducible exact quittanceref20_Sum.mono _ _)
      | (with_reducible exact quittanceref20_put.mono _ _ _ _ _ _)
      | (with_reducible exact LeO.refl _)
      | (with_reducible exact LeO.none _)
      | (with_reducible refine LeO.ite ?_ ?_)
      | (with_reducible refine LeO.bind ?_ (fun _ => ?_))
      | exact ih0 _ _
      | exact ih1 _ _ _
      | exact ih2 _ _ _ _ _ _
      | exact ih3 _ _ _ _ _ _ _ _ _
      | exact quittanceref20_Sum.mono _ _
      | exact quittanceref20_put.mono _ _ _ _ _ _
      | exact LeO.none _
      | refine LeO.ite ?_ ?_
      | refine LeO.bind ?_ (fun _ => ?_)
theorem quittanceref20_Tidy.mono : ∀ a0 k, LeO (quittanceref20_Tidy.f k a0) (quittanceref20_Tidy.f (k + 1) a0) := by
  intro a0 k
  obtain ⟨ih0, ih1, ih2, ih3⟩ := quittanceref20_Tidy.mono_l k
  unfold quittanceref20_Tidy.f
  repeat' first
      | (with_reducible exact ih0 _ _)
      | (with_reducible exact ih1 _ _ _)
      | (with_reducible exact ih2 _ _ _ _ _ _)
      | (with_reducible exact ih3 _ _ _ _ _ _ _ _ _)
      | (with_reducible exact quittanceref20_Sum.mono _ _)
      | (with_reducible exact quittanceref20_put.mono _ _ _ _ _ _)
      | (with_reducible exact LeO.refl _)
      | (with_reducible exact LeO.none _)
      | (with_reducible refine LeO.ite ?_ ?_)
      | (with_reducible refine LeO.bind ?_ (fun _ => ?_))
      | exact ih0 _ _
      | exact ih1 _ _ _
      | exact ih2 _ _ _ _ _ _
      | exact ih3 _ _ _ _ _ _ _ _ _
      | exact quittanceref20_Sum.mono _ _
      | exact quittanceref20_put.mono _ _ _ _ _ _
      | exact LeO.none _
      | refine LeO.ite ?_ ?_
      | refine LeO.bind ?_ (fun _ => ?_)
def quittanceref20_Tidy.T15 : Bool × List (List Nat × List Nat) := (true, [([], []), ([], []), ([0, 1], [0, 1]), ([2], [2]), ([], []), ([], []), ([4, 5], [4, 5]), ([6], [6]), ([3, 7], [3, 7])])
def quittanceref20_Tidy.B15 : List Nat := [0, 0, 3, 7, 0, 0, 48, 112, 255]
theorem quittanceref20_Tidy.tab15 : rtab .any (opsOf Try.f52 15) = quittanceref20_Tidy.T15 := by kernel_rfl
theorem quittanceref20_Tidy.bits15 : waitsOk quittanceref20_Tidy.T15.2 quittanceref20_Tidy.B15 = true := by kernel_rfl
set_option maxHeartbeats 8000000 in
set_option maxRecDepth 100000 in
theorem quittanceref20_Tidy.calls (k : Nat) (A0 : Option Addr) (c0 : Nat) (l0 : List (S113)) (r1 : List (S113)) (r2 : Int) (w : World) (hr0 : Kd.C k113 w A0 l0.length l0) (hc0 : l0.length ≤ c0) (h : quittanceref20_Tidy.f k l0 = some (r1, r2)) :
    Calls Try.prog 52 #[.slice A0 l0.length c0] w fun e w' => ∃ v0_ : Value, e = .returned (.tuple #[v0_, .int .i64 r2]) ∧ Kd.R k113 113 w' w.heap.size (fun _ => True) v0_ r1 ∧ Below w.heap.size w w' := by
  have hu113 := Try.underlying113
  have HR0 := Aside0.mk hr0
  have HC0 := Aside0.mk hc0
  clear hr0 hc0
  have HB := Aside0.mk (Below.refl w.heap.size w)
  have H : (quittanceref20_Tidy.l0 k l0 0) = some (r1, r2) := h
  clear h
  have H' := Aside0.mk H
  clear H
  go_enter Try.func52, Try.ntmps52
  go_wp2
  go_loopg [5] k (fun kq v5 w' => ∃ (x5_1 : Int), v5 = .int .i64 x5_1 ∧ Aside0 (quittanceref20_Tidy.l0 kq l0 x5_1 = some (r1, r2)) ∧ Aside0 (kq ≤ k) ∧ Aside0 (Below w.heap.size w w'))
  case atStart => exact ⟨(0), (by first | rfl | (simp; done) | (simp [*]; done)), H', ⟨Nat.le_refl _⟩, ⟨by repeat (first | (with_reducible first | exact HB.out | apply below_alloc | apply pw_below_drewN | apply below_drew1) | exact HB.out)⟩⟩
  case round =>
    clear H'
    obtain ⟨x5_1, rfl, HA, HK1, HB⟩ := hrel
    cases gk with
    | zero => exact absurd HA.out (by simp [quittanceref20_Tidy.l0])
    | succ k1 =>
      have H := HA.out
      clear HA
      simp only [quittanceref20_Tidy.l0] at H
      by_cases c2 : x5_1 < (l0.length : Int)
      · rw [if_pos c2] at H
        have c2b0 : decide (x5_1 < (l0.length : Int)) = true := decide_eq_true c2
        clear c2
        by_cases c3 : 0 ≤ x5_1
        · rw [if_pos c3] at H
          have c3b0 : decide (0 ≤ x5_1) = true := decide_eq_true c3
          clear c3
          replace H := Option.bind_eq_some_iff.mp H
          obtain ⟨t1237, A40, H⟩ := H
          replace H : (if t1237 = true then (quittanceref20_Tidy.l0 k1 l0 (wrap64 (x5_1 + 1))) else (some (([] : List (S113)), 2))) = some (r1, r2) := H
          have A4 := Aside0.mk A40
          clear A40
          by_cases c5 : t1237 = true
          · subst c5
            have H1 : (quittanceref20_Tidy.l0 k1 l0 (wrap64 (x5_1 + 1))) = some (r1, r2) := by rw [if_pos rfl] at H; exact H
            clear H
            have H := H1
            clear H1
            have H' := Aside0.mk H
            clear H
            have p1236 : 0 ≤ (x5_1 : Int) := of_decide_eq_true (by first | (with_reducible assumption) | assumption)
            have q1236 : x5_1 < (l0.length : Int) := of_decide_eq_true (by first | (with_reducible assumption) | assumption)
            obtain ⟨ad1236, e1236, hx1236_0, hx1236_1, hx1236_2, hx1236_3⟩ := at_T113 HR0.out x5_1 p1236 q1236
            cases e1236
            replace hx1236_0 := (HB.out.cell (World.block_lt_of_cell? w _ hx1236_0)).trans hx1236_0
            replace hx1236_1 := (HB.out.cell (World.block_lt_of_cell? w _ hx1236_1)).trans hx1236_1
            replace hx1236_2 := (HB.out.cell (World.block_lt_of_cell? w _ hx1236_2)).trans hx1236_2
            replace hx1236_3 := (HB.out.cell (World.block_lt_of_cell? w _ hx1236_3)).trans hx1236_3
            replace p1236 := eq_true p1236
            replace q1236 := eq_true q1236
            go_wp2_with (first | ((with_reducible refine gate_callee (f := 110) rfl ?_); refine goesL_ (some 23) rfl rfl Try.func110 (by kernel_rfl) rfl #[.agg #[.int .i64 ((rd_T113 l0 x5_1).f0), .int .u64 ((rd_T113 l0 x5_1).f1), .int .u64 ((rd_T113 l0 x5_1).f2), .int .i64 ((rd_T113 l0 x5_1).f3)]] rfl (by (try simp only [List.map_toArray, List.map_cons, List.map_nil]); first | done | rfl | (simp only [List.length_drop, List.length_take]; rfl)) ?_; (with_reducible refine (quittanceref20_May.calls ((rd_T113 l0 x5_1).f0) ((rd_T113 l0 x5_1).f1) ((rd_T113 l0 x5_1).f2) ((rd_T113 l0 x5_1).f3) true _ A4.out).mono ?_); rintro e w6 ⟨rfl, hb⟩; refine ⟨_, rfl, ?_⟩; have n0_ := Aside0.mk (below_step (by repeat (first | (with_reducible first | exact HB.out | apply below_alloc | apply pw_below_drewN | apply below_drew1) | exact HB.out)) hb); clear HB; have HB := n0_; clear n0_; (try clear hb); (try clear hb2); (try clear hk); (try clear hi)))
            go_roundg k1
            case measure => have := HK1.out; omega
            case rel => exact ⟨(wrap64 (x5_1 + 1)), (by first | rfl | (simp; done) | (simp [*]; done)), H', ⟨by have := HK1.out; omega⟩, ⟨by repeat (first | (with_reducible first | exact HB.out | apply below_alloc | apply pw_below_drewN | apply below_drew1) | exact HB.out)⟩⟩
          · replace c5 := Bool.eq_false_iff.mpr c5
            subst c5
            have H1 : (some (([] : List (S113)), 2)) = some (r1, r2) := by rw [if_neg (show ¬ (false = true) by decide)] at H; exact H
            clear H
            have H := H1
            clear H1
            simp only [Option.some.injEq, Prod.mk.injEq] at H
            obtain ⟨rfl, rfl⟩ := H
            have p1236 : 0 ≤ (x5_1 : Int) := of_decide_eq_true (by first | (with_reducible assumption) | assumption)
            have q1236 : x5_1 < (l0.length : Int) := of_decide_eq_true (by first | (with_reducible assumption) | assumption)
            obtain ⟨ad1236, e1236, hx1236_0, hx1236_1, hx1236_2, hx1236_3⟩ := at_T113 HR0.out x5_1 p1236 q1236
            cases e1236
            replace hx1236_0 := (HB.out.cell (World.block_lt_of_cell? w _ hx1236_0)).trans hx1236_0
            replace hx1236_1 := (HB.out.cell (World.block_lt_of_cell? w _ hx1236_1)).trans hx1236_1
            replace hx1236_2 := (HB.out.cell (World.block_lt_of_cell? w _ hx1236_2)).trans hx1236_2
            replace hx1236_3 := (HB.out.cell (World.block_lt_of_cell? w _ hx1236_3)).trans hx1236_3
            replace p1236 := eq_true p1236
            replace q1236 := eq_true q1236
            go_wp2_with (first | ((with_reducible refine gate_callee (f := 110) rfl ?_); refine goesL_ (some 23) rfl rfl Try.func110 (by kernel_rfl) rfl #[.agg #[.int .i64 ((rd_T113 l0 x5_1).f0), .int .u64 ((rd_T113 l0 x5_1).f1), .int .u64 ((rd_T113 l0 x5_1).f2), .int .i64 ((rd_T113 l0 x5_1).f3)]] rfl (by (try simp only [List.map_toArray, List.map_cons, List.map_nil]); first | done | rfl | (simp only [List.length_drop, List.length_take]; rfl)) ?_; (with_reducible refine (quittanceref20_May.calls ((rd_T113 l0 x5_1).f0) ((rd_T113 l0 x5_1).f1) ((rd_T113 l0 x5_1).f2) ((rd_T113 l0 x5_1).f3) false _ A4.out).mono ?_); rintro e w7 ⟨rfl, hb⟩; refine ⟨_, rfl, ?_⟩; have n0_ := Aside0.mk (below_step (by repeat (first | (with_reducible first | exact HB.out | apply below_alloc | apply pw_below_drewN | apply below_drew1) | exact HB.out)) hb); clear HB; have HB := n0_; clear n0_; (try clear hb); (try clear hb2); (try clear hk); (try clear hi)))
            go_ret2
            exact ⟨_, by first | rfl | (simp [errW_none, errW_some] <;> rfl) | (simp [*, errW_none, errW_some] <;> rfl), by first | exact Kd.R_nil _ _ _ _ _ | exact Kd.N_nil _ _ _ _ _ | exact Kd.V_nil _ _ _ _ _ | exact Kd.Q_nil _ _ _ _ _ | exact Kd.S_nil _ _ _ _ _, by repeat (first | (with_reducible first | exact HB.out | apply below_alloc | apply pw_below_drewN | apply below_drew1) | exact HB.out)⟩
        · rw [if_neg c3] at H
          exact absurd H (by simp)
      · rw [if_neg c2] at H
        have c2b0 : decide (x5_1 < (l0.length : Int)) = false := decide_eq_false c2
        clear c2
        have H' := Aside0.mk H
        clear H
        go_wp2
        go_loopg [4, 6] k1 (fun kq v4 v6 w' => ∃ (x4_2 : List (S113)) (x6_2 : Int), v6 = .int .i64 x6_2 ∧ Aside0 (quittanceref20_Tidy.l1 kq l0 x4_2 x6_2 = some (r1, r2)) ∧ Aside0 (kq ≤ k1) ∧ Aside0 (Kd.R k113 113 w' w.heap.size (fun _ => True) v4 x4_2) ∧ Aside0 (Below w.heap.size w w'))
        case atStart => exact ⟨(([] : List (S113))), (0), (by first | rfl | (simp; done) | (simp [*]; done)), H', ⟨Nat.le_refl _⟩, ⟨by first | exact Kd.R_nil _ _ _ _ _ | exact Kd.N_nil _ _ _ _ _ | exact Kd.V_nil _ _ _ _ _ | exact Kd.Q_nil _ _ _ _ _ | exact Kd.S_nil _ _ _ _ _⟩, ⟨by repeat (first | (with_reducible first | exact HB.out | apply below_alloc | apply pw_below_drewN | apply below_drew1) | exact HB.out)⟩⟩
        case round =>
          clear H'
          try clear c1
          try clear p1
          try clear q1
          try clear hx1
          try clear c2
          try clear c2b0
          try clear p2
          try clear c3
          try clear c3b0
          try clear c5
          try clear p6
          try clear hx1236_0
          try clear hx1236_1
          try clear hx1236_2
          try clear hx1236_3
          try clear p1236
          try clear q1236
          obtain ⟨x4_2, x6_2, rfl, HA, HK2, HO_4, HB⟩ := hrel
          cases gk with
          | zero => exact absurd HA.out (by simp [quittanceref20_Tidy.l1])
          | succ k2 =>
            have H := HA.out
            clear HA
            simp only [quittanceref20_Tidy.l1] at H
            by_cases c8 : x6_2 < (l0.length : Int)
            · rw [if_pos c8] at H
              have c8b0 : decide (x6_2 < (l0.length : Int)) = true := decide_eq_true c8
              clear c8
              have H' := Aside0.mk H
              clear H
              go_wp2
              go_loopg [7, 8, 9] k2 (fun kq v7 v8 v9 w' => ∃ (x7_3 : List (S113)) (x8_3 : Bool) (x9_3 : Int), v8 = .bool x8_3 ∧ v9 = .int .i64 x9_3 ∧ Aside0 (quittanceref20_Tidy.l2 kq l0 x4_2 x6_2 x7_3 x8_3 x9_3 = some (r1, r2)) ∧ Aside0 (kq ≤ k2) ∧ Aside0 (Kd.R k113 113 w' w.heap.size (fun k_ => some k_ ≠ (v7 : Value).ownBlock) u4 x4_2) ∧ Aside0 (Kd.R k113 113 w' w.heap.size (fun k_ => some k_ ≠ (u4 : Value).ownBlock) v7 x7_3) ∧ Aside0 (Below w.heap.size w w'))
              case atStart => exact ⟨(([] : List (S113))), (true), (0), (by first | rfl | (simp; done) | (simp [*]; done)), (by first | rfl | (simp; done) | (simp [*]; done)), H', ⟨Nat.le_refl _⟩, ⟨by (with_reducible repeat (first | apply Kd.R_alloc | apply Kd.R_drewN | apply Kd.R_drew)); exact Kd.R_mono HO_4.out (fun _ hk => (by simp [Value.ownBlock]))⟩, ⟨by first | exact Kd.R_nil _ _ _ _ _ | exact Kd.N_nil _ _ _ _ _ | exact Kd.V_nil _ _ _ _ _ | exact Kd.Q_nil _ _ _ _ _ | exact Kd.S_nil _ _ _ _ _⟩, ⟨by repeat (first | (with_reducible first | exact HB.out | apply below_alloc | apply pw_below_drewN | apply below_drew1) | exact HB.out)⟩⟩
              case round =>
                clear H'
                try clear c1
                try clear p1
                try clear q1
                try clear hx1
                try clear c2
                try clear c2b0
                try clear p2
                try clear c3
                try clear c3b0
                try clear c5
                try clear p6
                try clear c8
                try clear c8b0
                try clear hx1236_0
                try clear hx1236_1
                try clear hx1236_2
                try clear hx1236_3
                try clear p1
                try clear p1236
                try clear p2
                try clear p6
                try clear q1
                try clear q1236
                obtain ⟨x7_3, x8_3, x9_3, rfl, rfl, HA, HK3, HO_4, HO_7, HB⟩ := hrel
                cases gk with
                | zero => exact absurd HA.out (by simp [quittanceref20_Tidy.l2])
                | succ k3 =>
                  have H := HA.out
                  clear HA
                  simp only [quittanceref20_Tidy.l2] at H
                  by_cases c9 : x9_3 < (l0.length : Int)
                  · rw [if_pos c9] at H
                    have c9b0 : decide (x9_3 < (l0.length : Int)) = true := decide_eq_true c9
                    clear c9
                    by_cases c10 : 0 ≤ x9_3
                    · rw [if_pos c10] at H
                      have c10b0 : decide (0 ≤ x9_3) = true := decide_eq_true c10
                      clear c10
                      by_cases c11 : 0 ≤ x6_2
                      · rw [if_pos c11] at H
                        have c11b0 : decide (0 ≤ x6_2) = true := decide_eq_true c11
                        clear c11
                        by_cases c12 : x6_2 < (l0.length : Int)
                        · rw [if_pos c12] at H
                          have c12b0 : decide (x6_2 < (l0.length : Int)) = true := decide_eq_true c12
                          clear c12
                          replace H := Option.bind_eq_some_iff.mp H
                          obtain ⟨t1240, A130, H⟩ := H
                          replace H : (if t1240 = true then (if x7_3.length < 4398046511104 then ((some (x7_3 ++ [(⟨(rd_T113 l0 x9_3).f0, (rd_T113 l0 x9_3).f1, (rd_T113 l0 x9_3).f2, (rd_T113 l0 x9_3).f3⟩ : S113)] : List (S113))).bind fun y1242 => (if x8_3 = true then (quittanceref20_Tidy.l2 k3 l0 x4_2 x6_2 y1242 (decide (x9_3 ≥ x6_2)) (wrap64 (x9_3 + 1))) else (quittanceref20_Tidy.l2 k3 l0 x4_2 x6_2 y1242 false (wrap64 (x9_3 + 1))))) else (none)) else (quittanceref20_Tidy.l2 k3 l0 x4_2 x6_2 x7_3 x8_3 (wrap64 (x9_3 + 1)))) = some (r1, r2) := H
                          have A13 := Aside0.mk A130
                          clear A130
                          by_cases c14 : t1240 = true
                          · subst c14
                            have H1 : (if x7_3.length < 4398046511104 then ((some (x7_3 ++ [(⟨(rd_T113 l0 x9_3).f0, (rd_T113 l0 x9_3).f1, (rd_T113 l0 x9_3).f2, (rd_T113 l0 x9_3).f3⟩ : S113)] : List (S113))).bind fun y1242 => (if x8_3 = true then (quittanceref20_Tidy.l2 k3 l0 x4_2 x6_2 y1242 (decide (x9_3 ≥ x6_2)) (wrap64 (x9_3 + 1))) else (quittanceref20_Tidy.l2 k3 l0 x4_2 x6_2 y1242 false (wrap64 (x9_3 + 1))))) else (none)) = some (r1, r2) := by rw [if_pos rfl] at H; exact H
                            clear H
                            have H := H1
                            clear H1
                            by_cases c15 : x7_3.length < 4398046511104
                            · rw [if_pos c15] at H
                              have LMc15 := Aside0.mk c15
                              clear c15
                              obtain ⟨y1242, hy1242⟩ : ∃ y_ : List (S113), y_ = (x7_3 ++ [(⟨(rd_T113 l0 x9_3).f0, (rd_T113 l0 x9_3).f1, (rd_T113 l0 x9_3).f2, (rd_T113 l0 x9_3).f3⟩ : S113)]) := ⟨_, rfl⟩
                              replace H : (if x8_3 = true then (quittanceref20_Tidy.l2 k3 l0 x4_2 x6_2 y1242 (decide (x9_3 ≥ x6_2)) (wrap64 (x9_3 + 1))) else (quittanceref20_Tidy.l2 k3 l0 x4_2 x6_2 y1242 false (wrap64 (x9_3 + 1)))) = some (r1, r2) := by first | (rw [hy1242]; with_reducible exact H) | (have H2_ := (Option.bind_some _ _).symm.trans H; rw [hy1242]; with_reducible exact H2_) | (have H2_ := (Option.bind_some _ _).symm.trans H; with_reducible exact H2_) | with_reducible exact H | (rw [hy1242]; exact H) | exact H
                              have Ny1242 := Aside0.mk hy1242
                              clear hy1242
                              by_cases c16 : x8_3 = true
                              · subst c16
                                have H1 : (quittanceref20_Tidy.l2 k3 l0 x4_2 x6_2 y1242 (decide (x9_3 ≥ x6_2)) (wrap64 (x9_3 + 1))) = some (r1, r2) := by rw [if_pos rfl] at H; exact H
                                clear H
                                have H := H1
                                clear H1
                                have H' := Aside0.mk H
                                clear H
                                try go_wp2
                                have n0_ := Aside0.mk (Kd.R_drew HO_4.out)
                                have n1_ := Aside0.mk (Kd.R_drew HO_7.out)
                                have n2_ := Aside0.mk (below_drew1 HB.out)
                                clear HO_4
                                clear HO_7
                                clear HB
                                have HO_4 := n0_
                                have HO_7 := n1_
                                have HB := n2_
                                clear n0_ n1_ n2_
                                have p1238 : 0 ≤ (x9_3 : Int) := of_decide_eq_true (by first | (with_reducible assumption) | assumption)
                                have q1238 : x9_3 < (l0.length : Int) := of_decide_eq_true (by first | (with_reducible assumption) | assumption)
                                obtain ⟨ad1238, e1238, hx1238_0, hx1238_1, hx1238_2, hx1238_3⟩ := at_T113 HR0.out x9_3 p1238 q1238
                                have hw1238_3 := hx1238_3
                                have hw1238_2 := hx1238_2
                                have hw1238_1 := hx1238_1
                                have hw1238_0 := hx1238_0
                                cases e1238
                                replace hx1238_0 := (HB.out.cell (World.block_lt_of_cell? w _ hx1238_0)).trans hx1238_0
                                replace hx1238_1 := (HB.out.cell (World.block_lt_of_cell? w _ hx1238_1)).trans hx1238_1
                                replace hx1238_2 := (HB.out.cell (World.block_lt_of_cell? w _ hx1238_2)).trans hx1238_2
                                replace hx1238_3 := (HB.out.cell (World.block_lt_of_cell? w _ hx1238_3)).trans hx1238_3
                                replace p1238 := eq_true p1238
                                replace q1238 := eq_true q1238
                                have p1239 : 0 ≤ (x6_2 : Int) := of_decide_eq_true (by first | (with_reducible assumption) | assumption)
                                have q1239 : x6_2 < (l0.length : Int) := of_decide_eq_true (by first | (with_reducible assumption) | assumption)
                                obtain ⟨ad1239, e1239, hx1239_0, hx1239_1, hx1239_2, hx1239_3⟩ := at_T113 HR0.out x6_2 p1239 q1239
                                have hw1239_3 := hx1239_3
                                have hw1239_2 := hx1239_2
                                have hw1239_1 := hx1239_1
                                have hw1239_0 := hx1239_0
                                obtain rfl : ad1238 = ad1239 := (by injection e1239)
                                replace hx1239_0 := (HB.out.cell (World.block_lt_of_cell? w _ hx1239_0)).trans hx1239_0
                                replace hx1239_1 := (HB.out.cell (World.block_lt_of_cell? w _ hx1239_1)).trans hx1239_1
                                replace hx1239_2 := (HB.out.cell (World.block_lt_of_cell? w _ hx1239_2)).trans hx1239_2
                                replace hx1239_3 := (HB.out.cell (World.block_lt_of_cell? w _ hx1239_3)).trans hx1239_3
                                replace p1239 := eq_true p1239
                                replace q1239 := eq_true q1239
                                refine start_ (n := 9) (S := fun w' => w'.cell? (ad1238.add ((x9_3).toNat * 4)) = some (.int .i64 ((rd_T113 l0 x9_3).f0)) ∧ w'.cell? ⟨(ad1238.add ((x9_3).toNat * 4)).block, (ad1238.add ((x9_3).toNat * 4)).off + 1, none⟩ = some (.int .u64 ((rd_T113 l0 x9_3).f1)) ∧ w'.cell? ⟨(ad1238.add ((x9_3).toNat * 4)).block, (ad1238.add ((x9_3).toNat * 4)).off + 2, none⟩ = some (.int .u64 ((rd_T113 l0 x9_3).f2)) ∧ w'.cell? ⟨(ad1238.add ((x9_3).toNat * 4)).block, (ad1238.add ((x9_3).toNat * 4)).off + 3, none⟩ = some (.int .i64 ((rd_T113 l0 x9_3).f3)) ∧ w'.cell? (ad1238.add ((x6_2).toNat * 4)) = some (.int .i64 ((rd_T113 l0 x6_2).f0)) ∧ w'.cell? ⟨(ad1238.add ((x6_2).toNat * 4)).block, (ad1238.add ((x6_2).toNat * 4)).off + 1, none⟩ = some (.int .u64 ((rd_T113 l0 x6_2).f1)) ∧ w'.cell? ⟨(ad1238.add ((x6_2).toNat * 4)).block, (ad1238.add ((x6_2).toNat * 4)).off + 2, none⟩ = some (.int .u64 ((rd_T113 l0 x6_2).f2)) ∧ w'.cell? ⟨(ad1238.add ((x6_2).toNat * 4)).block, (ad1238.add ((x6_2).toNat * 4)).off + 3, none⟩ = some (.int .i64 ((rd_T113 l0 x6_2).f3))) (ds := []) #[false, false, false, false, false, false, false, false, false] (by kernel_rfl) rfl rfl ⟨((HB.out.cell (World.block_lt_of_cell? w _ hw1238_0)).trans hw1238_0), ((HB.out.cell (World.block_lt_of_cell? w _ hw1238_1)).trans hw1238_1), ((HB.out.cell (World.block_lt_of_cell? w _ hw1238_2)).trans hw1238_2), ((HB.out.cell (World.block_lt_of_cell? w _ hw1238_3)).trans hw1238_3), ((HB.out.cell (World.block_lt_of_cell? w _ hw1239_0)).trans hw1239_0), ((HB.out.cell (World.block_lt_of_cell? w _ hw1239_1)).trans hw1239_1), ((HB.out.cell (World.block_lt_of_cell? w _ hw1239_2)).trans hw1239_2), ((HB.out.cell (World.block_lt_of_cell? w _ hw1239_3)).trans hw1239_3)⟩ (fun hHeld => ?_); refine with_tabW quittanceref20_Tidy.tab15 quittanceref20_Tidy.bits15 (fun HT_ HW_ => ?_)
                                generalize wr.drew = w17 at HO_4 HO_7 HB hx1238_0 hx1238_1 hx1238_2 hx1238_3 hx1239_0 hx1239_1 hx1239_2 hx1239_3 hHeld ⊢
                                refine pure_ (i := 0) (N := some 37) (v := ?_) (a' := ?_) #[true, false, false, false, false, false, false, false, false] rfl rfl (any_of HT_.out (by kernel_rfl)) (fun _ _ _ h => h) (Or.inl ⟨by rfl, ?_⟩) ?_ ?_
                                rotate_left
                                · intro w'
                                  go_simp
                                  with_reducible rfl
                                rotate_left
                                · simp only [Act.put, List.setIfInBounds_toArray, List.set_cons_zero, List.set_cons_succ, i64_w, i32_w]
                                  rfl
                                refine pure_ (i := 1) (N := some 38) (v := ?_) (a' := ?_) #[true, true, false, false, false, false, false, false, false] rfl rfl (any_of HT_.out (by kernel_rfl)) (fun _ _ _ h => h) (Or.inl ⟨by rfl, ?_⟩) ?_ ?_
                                rotate_left
                                · intro w'
                                  go_simp
                                  with_reducible rfl
                                rotate_left
                                · simp only [Act.put, List.setIfInBounds_toArray, List.set_cons_zero, List.set_cons_succ, i64_w, i32_w]
                                  rfl
                                refine pure_ (i := 2) (N := some 39) (v := ?_) (a' := ?_) #[true, true, true, false, false, false, false, false, false] rfl rfl (any_of HT_.out (by kernel_rfl)) (fun _ _ _ h => h) (Or.inl ⟨by rfl, ?_⟩) ?_ ?_
                                rotate_left
                                · intro w'
                                  go_simp
                                  with_reducible rfl
                                rotate_left
                                · simp only [Act.put, List.setIfInBounds_toArray, List.set_cons_zero, List.set_cons_succ, i64_w, i32_w]
                                  rfl
                                refine pure_ (i := 4) (N := some 41) (v := ?_) (a' := ?_) #[true, true, true, false, true, false, false, false, false] rfl rfl (any_of HT_.out (by kernel_rfl)) (fun _ _ _ h => h) (Or.inl ⟨by rfl, ?_⟩) ?_ ?_
                                rotate_left
                                · intro w'
                                  go_simp
                                  with_reducible rfl
                                rotate_left
                                · simp only [Act.put, List.setIfInBounds_toArray, List.set_cons_zero, List.set_cons_succ, i64_w, i32_w]
                                  rfl
                                refine pure_ (i := 5) (N := some 42) (v := ?_) (a' := ?_) #[true, true, true, false, true, true, false, false, false] rfl rfl (any_of HT_.out (by kernel_rfl)) (fun _ _ _ h => h) (Or.inl ⟨by rfl, ?_⟩) ?_ ?_
                                rotate_left
                                · intro w'
                                  go_simp
                                  with_reducible rfl
                                rotate_left
                                · simp only [Act.put, List.setIfInBounds_toArray, List.set_cons_zero, List.set_cons_succ, i64_w, i32_w]
                                  rfl
                                refine pure_ (i := 6) (N := some 43) (v := ?_) (a' := ?_) #[true, true, true, false, true, true, true, false, false] rfl rfl (any_of HT_.out (by kernel_rfl)) (fun _ _ _ h => h) (Or.inl ⟨by rfl, ?_⟩) ?_ ?_
                                rotate_left
                                · intro w'
                                  go_simp
                                  with_reducible rfl
                                rotate_left
                                · simp only [Act.put, List.setIfInBounds_toArray, List.set_cons_zero, List.set_cons_succ, i64_w, i32_w]
                                  rfl
                                refine take_ (i := 3) (N := some 40) (v := ?_) (a' := ?_) #[true, true, true, true, true, true, true, false, false] rfl rfl (take_ofW HT_.out HW_.out (by kernel_rfl)) (fun _ _ _ h => h) (Or.inl ⟨by rfl, ?_⟩) hHeld ?_ ?_
                                rotate_left
                                · rintro w' ⟨s0, s1, s2, s3, s4, s5, s6, s7⟩
                                  go_simp
                                  with_reducible rfl
                                rotate_left
                                · simp only [Act.put, List.setIfInBounds_toArray, List.set_cons_zero, List.set_cons_succ, i64_w, i32_w]
                                  rfl
                                refine take_ (i := 7) (N := some 44) (v := ?_) (a' := ?_) #[true, true, true, true, true, true, true, true, false] rfl rfl (take_ofW HT_.out HW_.out (by kernel_rfl)) (fun _ _ _ h => h) (Or.inl ⟨by rfl, ?_⟩) hHeld ?_ ?_
                                rotate_left
                                · rintro w' ⟨s0, s1, s2, s3, s4, s5, s6, s7⟩
                                  go_simp
                                  with_reducible rfl
                                rotate_left
                                · simp only [Act.put, List.setIfInBounds_toArray, List.set_cons_zero, List.set_cons_succ, i64_w, i32_w]
                                  rfl
                                refine one_ (i := 8) (N := some 45) #[true, true, true, true, true, true, true, true, true] rfl rfl (one_of HT_.out (by kernel_rfl)) (by decide) (fun K hK => ?_)
                                refine goes_ Try.func111 (by kernel_rfl) rfl #[.agg #[.int .i64 ((rd_T113 l0 x9_3).f0), .int .u64 ((rd_T113 l0 x9_3).f1), .int .u64 ((rd_T113 l0 x9_3).f2), .int .i64 ((rd_T113 l0 x9_3).f3)], .agg #[.int .i64 ((rd_T113 l0 x6_2).f0), .int .u64 ((rd_T113 l0 x6_2).f1), .int .u64 ((rd_T113 l0 x6_2).f2), .int .i64 ((rd_T113 l0 x6_2).f3)]] (by rfl) rfl rfl (by (try simp only [List.map_toArray, List.map_cons, List.map_nil]); first | done | rfl | (simp only [List.length_drop, List.length_take]; rfl)) ?_
                                with_reducible refine (quittanceref20_alike.calls ((rd_T113 l0 x9_3).f0) ((rd_T113 l0 x9_3).f1) ((rd_T113 l0 x9_3).f2) ((rd_T113 l0 x9_3).f3) ((rd_T113 l0 x6_2).f0) ((rd_T113 l0 x6_2).f1) ((rd_T113 l0 x6_2).f2) ((rd_T113 l0 x6_2).f3) true _ A13.out).mono ?_
                                rintro e w18 ⟨rfl, hb⟩
                                refine ⟨_, rfl, ?_⟩
                                have n0_ := Aside0.mk (Kd.R_below (by (with_reducible repeat (first | apply Kd.R_alloc | apply Kd.R_drewN | apply Kd.R_drew)); exact HO_4.out) hb)
                                have n1_ := Aside0.mk (Kd.R_below (by (with_reducible repeat (first | apply Kd.R_alloc | apply Kd.R_drewN | apply Kd.R_drew)); exact HO_7.out) hb)
                                have n2_ := Aside0.mk (below_step (by repeat (first | (with_reducible first | exact HB.out | apply below_alloc | apply pw_below_drewN | apply below_drew1) | exact HB.out)) hb)
                                clear HO_4
                                clear HO_7
                                clear HB
                                have HO_4 := n0_
                                have HO_7 := n1_
                                have HB := n2_
                                clear n0_ n1_ n2_
                                (try clear hb)
                                (try clear hb2)
                                (try clear hk)
                                (try clear hi)
                                refine hK.out _ _ ⟨((HB.out.cell (World.block_lt_of_cell? w _ hw1238_0)).trans hw1238_0), ((HB.out.cell (World.block_lt_of_cell? w _ hw1238_1)).trans hw1238_1), ((HB.out.cell (World.block_lt_of_cell? w _ hw1238_2)).trans hw1238_2), ((HB.out.cell (World.block_lt_of_cell? w _ hw1238_3)).trans hw1238_3), ((HB.out.cell (World.block_lt_of_cell? w _ hw1239_0)).trans hw1239_0), ((HB.out.cell (World.block_lt_of_cell? w _ hw1239_1)).trans hw1239_1), ((HB.out.cell (World.block_lt_of_cell? w _ hw1239_2)).trans hw1239_2), ((HB.out.cell (World.block_lt_of_cell? w _ hw1239_3)).trans hw1239_3)⟩ (fun hHeld => ?_)
                                clear hK K
                                refine norm_ (a' := ?_) ?_ ?_
                                rotate_left
                                · show Act.put _ (some 45) _ = _
                                  simp only [Act.put, List.setIfInBounds_toArray, List.set_cons_zero, List.set_cons_succ, i64_w, i32_w]
                                  rfl
                                refine done_ (done_of HT_.out (by kernel_rfl)) ?_
                                have p1241 : 0 ≤ (x9_3 : Int) := of_decide_eq_true (by first | (with_reducible assumption) | assumption)
                                have q1241 : x9_3 < (l0.length : Int) := of_decide_eq_true (by first | (with_reducible assumption) | assumption)
                                obtain ⟨ad1241, e1241, hx1241_0, hx1241_1, hx1241_2, hx1241_3⟩ := at_T113 HR0.out x9_3 p1241 q1241
                                obtain rfl : ad1238 = ad1241 := (by injection e1241)
                                replace hx1241_0 := (HB.out.cell (World.block_lt_of_cell? w _ hx1241_0)).trans hx1241_0
                                replace hx1241_1 := (HB.out.cell (World.block_lt_of_cell? w _ hx1241_1)).trans hx1241_1
                                replace hx1241_2 := (HB.out.cell (World.block_lt_of_cell? w _ hx1241_2)).trans hx1241_2
                                replace hx1241_3 := (HB.out.cell (World.block_lt_of_cell? w _ hx1241_3)).trans hx1241_3
                                replace p1241 := eq_true p1241
                                replace q1241 := eq_true q1241
                                try go_wp2_with (first | ((with_reducible refine gate_builtin (b := .append) (xs := #[.tmp 46, .tmp 51]) rfl ?_); at_builtin; refine Kd.R_append k113 (w0 := w) w.heap.size rfl (.tmp 46) (.tmp 51) 30 113 (.agg #[(.int .i64 0), (.int .u64 0), (.int .u64 0), (.int .i64 0)]) 32 rfl Try.underlying30 info113 rfl (by decide) (by omega) u7 x7_3 (⟨(rd_T113 l0 x9_3).f0, (rd_T113 l0 x9_3).f1, (rd_T113 l0 x9_3).f2, (rd_T113 l0 x9_3).f3⟩ : S113) [.int .i64 ((rd_T113 l0 x9_3).f0), .int .u64 ((rd_T113 l0 x9_3).f1), .int .u64 ((rd_T113 l0 x9_3).f2), .int .i64 ((rd_T113 l0 x9_3).f3)] (fun k_ => some k_ ≠ (u4 : Value).ownBlock) (fun _ => False) rfl rfl ?aP (fun _ hk => hk.elim) ?aF ?aO ?aB ?aS ?aL ?_; (case aP => exact k113_mkM _ _ _ (⟨(rd_T113 l0 x9_3).f0, (rd_T113 l0 x9_3).f1, (rd_T113 l0 x9_3).f2, (rd_T113 l0 x9_3).f3⟩ : S113)); (case aB => exact (by repeat (first | (with_reducible first | exact HB.out | apply below_alloc | apply pw_below_drewN | apply below_drew1) | exact HB.out))); (case aF => exact (fun k_ hk => Kd.fresh' (Kd.R_lt (by (with_reducible repeat (first | apply Kd.R_alloc | apply Kd.R_drewN | apply Kd.R_drew)); exact HO_4.out)) k_ hk)); (case aO => exact (by (with_reducible repeat (first | apply Kd.R_alloc | apply Kd.R_drewN | apply Kd.R_drew)); exact HO_7.out)); (case aS => exact (below_size (by repeat (first | (with_reducible first | exact HB.out | apply below_alloc | apply pw_below_drewN | apply below_drew1) | exact HB.out)))); (case aL => have := LMc15.out; omega); intro v1243 w19 ho hb hg hat; rw [← Ny1242.out] at ho; have n0_ := Aside0.mk (Kd.R_after (ok := (fun _ => True)) (by (with_reducible repeat (first | apply Kd.R_alloc | apply Kd.R_drewN | apply Kd.R_drew)); exact Kd.R_mono HO_4.out (fun _ hk => ⟨trivial, hk⟩)) hg hat); have n1_ := Aside0.mk (hb); have n2_ := Aside0.mk (ho); clear HO_4; clear HB; clear HO_7; have HO_4 := n0_; have HB := n1_; have HO1244 := n2_; clear n0_ n1_ n2_; clear ho hb hg hat))
                                go_roundg k3
                                case measure => have := HK1.out; have := HK2.out; have := HK3.out; omega
                                case rel => exact ⟨(y1242), (decide (x9_3 ≥ x6_2)), (wrap64 (x9_3 + 1)), (by first | rfl | (simp; done) | (simp [*]; done)), (by first | rfl | (simp; done) | (simp [*]; done)), H', ⟨by have := HK1.out; have := HK2.out; have := HK3.out; omega⟩, ⟨by (with_reducible repeat (first | apply Kd.R_alloc | apply Kd.R_drewN | apply Kd.R_drew)); exact Kd.R_mono HO_4.out (fun _ hk => hk.2)⟩, ⟨by (with_reducible repeat (first | apply Kd.R_alloc | apply Kd.R_drewN | apply Kd.R_drew)); exact HO1244.out⟩, ⟨by repeat (first | (with_reducible first | exact HB.out | apply below_alloc | apply pw_below_drewN | apply below_drew1) | exact HB.out)⟩⟩
                              · replace c16 := Bool.eq_false_iff.mpr c16
                                subst c16
                                have H1 : (quittanceref20_Tidy.l2 k3 l0 x4_2 x6_2 y1242 false (wrap64 (x9_3 + 1))) = some (r1, r2) := by rw [if_neg (show ¬ (false = true) by decide)] at H; exact H
                                clear H
                                have H := H1
                                clear H1
                                have H' := Aside0.mk H
                                clear H
                                try go_wp2
                                have n0_ := Aside0.mk (Kd.R_drew HO_4.out)
                                have n1_ := Aside0.mk (Kd.R_drew HO_7.out)
                                have n2_ := Aside0.mk (below_drew1 HB.out)
                                clear HO_4
                                clear HO_7
                                clear HB
                                have HO_4 := n0_
                                have HO_7 := n1_
                                have HB := n2_
                                clear n0_ n1_ n2_
                                have p1238 : 0 ≤ (x9_3 : Int) := of_decide_eq_true (by first | (with_reducible assumption) | assumption)
                                have q1238 : x9_3 < (l0.length : Int) := of_decide_eq_true (by first | (with_reducible assumption) | assumption)
                                obtain ⟨ad1238, e1238, hx1238_0, hx1238_1, hx1238_2, hx1238_3⟩ := at_T113 HR0.out x9_3 p1238 q1238
                                have hw1238_3 := hx1238_3
                                have hw1238_2 := hx1238_2
                                have hw1238_1 := hx1238_1
                                have hw1238_0 := hx1238_0
                                cases e1238
                                replace hx1238_0 := (HB.out.cell (World.block_lt_of_cell? w _ hx1238_0)).trans hx1238_0
                                replace hx1238_1 := (HB.out.cell (World.block_lt_of_cell? w _ hx1238_1)).trans hx1238_1
                                replace hx1238_2 := (HB.out.cell (World.block_lt_of_cell? w _ hx1238_2)).trans hx1238_2
                                replace hx1238_3 := (HB.out.cell (World.block_lt_of_cell? w _ hx1238_3)).trans hx1238_3
                                replace p1238 := eq_true p1238
                                replace q1238 := eq_true q1238
                                have p1239 : 0 ≤ (x6_2 : Int) := of_decide_eq_true (by first | (with_reducible assumption) | assumption)
                                have q1239 : x6_2 < (l0.length : Int) := of_decide_eq_true (by first | (with_reducible assumption) | assumption)
                                obtain ⟨ad1239, e1239, hx1239_0, hx1239_1, hx1239_2, hx1239_3⟩ := at_T113 HR0.out x6_2 p1239 q1239
                                have hw1239_3 := hx1239_3
                                have hw1239_2 := hx1239_2
                                have hw1239_1 := hx1239_1
                                have hw1239_0 := hx1239_0
                                obtain rfl : ad1238 = ad1239 := (by injection e1239)
                                replace hx1239_0 := (HB.out.cell (World.block_lt_of_cell? w _ hx1239_0)).trans hx1239_0
                                replace hx1239_1 := (HB.out.cell (World.block_lt_of_cell? w _ hx1239_1)).trans hx1239_1
                                replace hx1239_2 := (HB.out.cell (World.block_lt_of_cell? w _ hx1239_2)).trans hx1239_2
                                replace hx1239_3 := (HB.out.cell (World.block_lt_of_cell? w _ hx1239_3)).trans hx1239_3
                                replace p1239 := eq_true p1239
                                replace q1239 := eq_true q1239
                                refine start_ (n := 9) (S := fun w' => w'.cell? (ad1238.add ((x9_3).toNat * 4)) = some (.int .i64 ((rd_T113 l0 x9_3).f0)) ∧ w'.cell? ⟨(ad1238.add ((x9_3).toNat * 4)).block, (ad1238.add ((x9_3).toNat * 4)).off + 1, none⟩ = some (.int .u64 ((rd_T113 l0 x9_3).f1)) ∧ w'.cell? ⟨(ad1238.add ((x9_3).toNat * 4)).block, (ad1238.add ((x9_3).toNat * 4)).off + 2, none⟩ = some (.int .u64 ((rd_T113 l0 x9_3).f2)) ∧ w'.cell? ⟨(ad1238.add ((x9_3).toNat * 4)).block, (ad1238.add ((x9_3).toNat * 4)).off + 3, none⟩ = some (.int .i64 ((rd_T113 l0 x9_3).f3)) ∧ w'.cell? (ad1238.add ((x6_2).toNat * 4)) = some (.int .i64 ((rd_T113 l0 x6_2).f0)) ∧ w'.cell? ⟨(ad1238.add ((x6_2).toNat * 4)).block, (ad1238.add ((x6_2).toNat * 4)).off + 1, none⟩ = some (.int .u64 ((rd_T113 l0 x6_2).f1)) ∧ w'.cell? ⟨(ad1238.add ((x6_2).toNat * 4)).block, (ad1238.add ((x6_2).toNat * 4)).off + 2, none⟩ = some (.int .u64 ((rd_T113 l0 x6_2).f2)) ∧ w'.cell? ⟨(ad1238.add ((x6_2).toNat * 4)).block, (ad1238.add ((x6_2).toNat * 4)).off + 3, none⟩ = some (.int .i64 ((rd_T113 l0 x6_2).f3))) (ds := []) #[false, false, false, false, false, false, false, false, false] (by kernel_rfl) rfl rfl ⟨((HB.out.cell (World.block_lt_of_cell? w _ hw1238_0)).trans hw1238_0), ((HB.out.cell (World.block_lt_of_cell? w _ hw1238_1)).trans hw1238_1), ((HB.out.cell (World.block_lt_of_cell? w _ hw1238_2)).trans hw1238_2), ((HB.out.cell (World.block_lt_of_cell? w _ hw1238_3)).trans hw1238_3), ((HB.out.cell (World.block_lt_of_cell? w _ hw1239_0)).trans hw1239_0), ((HB.out.cell (World.block_lt_of_cell? w _ hw1239_1)).trans hw1239_1), ((HB.out.cell (World.block_lt_of_cell? w _ hw1239_2)).trans hw1239_2), ((HB.out.cell (World.block_lt_of_cell? w _ hw1239_3)).trans hw1239_3)⟩ (fun hHeld => ?_); refine with_tabW quittanceref20_Tidy.tab15 quittanceref20_Tidy.bits15 (fun HT_ HW_ => ?_)
                                generalize wr.drew = w20 at HO_4 HO_7 HB hx1238_0 hx1238_1 hx1238_2 hx1238_3 hx1239_0 hx1239_1 hx1239_2 hx1239_3 hHeld ⊢
                                refine pure_ (i := 0) (N := some 37) (v := ?_) (a' := ?_) #[true, false, false, false, false, false, false, false, false] rfl rfl (any_of HT_.out (by kernel_rfl)) (fun _ _ _ h => h) (Or.inl ⟨by rfl, ?_⟩) ?_ ?_
                                rotate_left
                                · intro w'
                                  go_simp
                                  with_reducible rfl
                                rotate_left
                                · simp only [Act.put, List.setIfInBounds_toArray, List.set_cons_zero, List.set_cons_succ, i64_w, i32_w]
                                  rfl
                                refine pure_ (i := 1) (N := some 38) (v := ?_) (a' := ?_) #[true, true, false, false, false, false, false, false, false] rfl rfl (any_of HT_.out (by kernel_rfl)) (fun _ _ _ h => h) (Or.inl ⟨by rfl, ?_⟩) ?_ ?_
                                rotate_left
                                · intro w'
                                  go_simp
                                  with_reducible rfl
                                rotate_left
                                · simp only [Act.put, List.setIfInBounds_toArray, List.set_cons_zero, List.set_cons_succ, i64_w, i32_w]
                                  rfl
                                refine pure_ (i := 2) (N := some 39) (v := ?_) (a' := ?_) #[true, true, true, false, false, false, false, false, false] rfl rfl (any_of HT_.out (by kernel_rfl)) (fun _ _ _ h => h) (Or.inl ⟨by rfl, ?_⟩) ?_ ?_
                                rotate_left
                                · intro w'
                                  go_simp
                                  with_reducible rfl
                                rotate_left
                                · simp only [Act.put, List.setIfInBounds_toArray, List.set_cons_zero, List.set_cons_succ, i64_w, i32_w]
                                  rfl
                                refine pure_ (i := 4) (N := some 41) (v := ?_) (a' := ?_) #[true, true, true, false, true, false, false, false, false] rfl rfl (any_of HT_.out (by kernel_rfl)) (fun _ _ _ h => h) (Or.inl ⟨by rfl, ?_⟩) ?_ ?_
                                rotate_left
                                · intro w'
                                  go_simp
                                  with_reducible rfl
                                rotate_left
                                · simp only [Act.put, List.setIfInBounds_toArray, List.set_cons_zero, List.set_cons_succ, i64_w, i32_w]
                                  rfl
                                refine pure_ (i := 5) (N := some 42) (v := ?_) (a' := ?_) #[true, true, true, false, true, true, false, false, false] rfl rfl (any_of HT_.out (by kernel_rfl)) (fun _ _ _ h => h) (Or.inl ⟨by rfl, ?_⟩) ?_ ?_
                                rotate_left
                                · intro w'
                                  go_simp
                                  with_reducible rfl
                                rotate_left
                                · simp only [Act.put, List.setIfInBounds_toArray, List.set_cons_zero, List.set_cons_succ, i64_w, i32_w]
                                  rfl
                                refine pure_ (i := 6) (N := some 43) (v := ?_) (a' := ?_) #[true, true, true, false, true, true, true, false, false] rfl rfl (any_of HT_.out (by kernel_rfl)) (fun _ _ _ h => h) (Or.inl ⟨by rfl, ?_⟩) ?_ ?_
                                rotate_left
                                · intro w'
                                  go_simp
                                  with_reducible rfl
                                rotate_left
                                · simp only [Act.put, List.setIfInBounds_toArray, List.set_cons_zero, List.set_cons_succ, i64_w, i32_w]
                                  rfl
                                refine take_ (i := 3) (N := some 40) (v := ?_) (a' := ?_) #[true, true, true, true, true, true, true, false, false] rfl rfl (take_ofW HT_.out HW_.out (by kernel_rfl)) (fun _ _ _ h => h) (Or.inl ⟨by rfl, ?_⟩) hHeld ?_ ?_
                                rotate_left
                                · rintro w' ⟨s0, s1, s2, s3, s4, s5, s6, s7⟩
                                  go_simp
                                  with_reducible rfl
                                rotate_left
                                · simp only [Act.put, List.setIfInBounds_toArray, List.set_cons_zero, List.set_cons_succ, i64_w, i32_w]
                                  rfl
                                refine take_ (i := 7) (N := some 44) (v := ?_) (a' := ?_) #[true, true, true, true, true, true, true, true, false] rfl rfl (take_ofW HT_.out HW_.out (by kernel_rfl)) (fun _ _ _ h => h) (Or.inl ⟨by rfl, ?_⟩) hHeld ?_ ?_
                                rotate_left
                                · rintro w' ⟨s0, s1, s2, s3, s4, s5, s6, s7⟩
                                  go_simp
                                  with_reducible rfl
                                rotate_left
                                · simp only [Act.put, List.setIfInBounds_toArray, List.set_cons_zero, List.set_cons_succ, i64_w, i32_w]
                                  rfl
                                refine one_ (i := 8) (N := some 45) #[true, true, true, true, true, true, true, true, true] rfl rfl (one_of HT_.out (by kernel_rfl)) (by decide) (fun K hK => ?_)
                                refine goes_ Try.func111 (by kernel_rfl) rfl #[.agg #[.int .i64 ((rd_T113 l0 x9_3).f0), .int .u64 ((rd_T113 l0 x9_3).f1), .int .u64 ((rd_T113 l0 x9_3).f2), .int .i64 ((rd_T113 l0 x9_3).f3)], .agg #[.int .i64 ((rd_T113 l0 x6_2).f0), .int .u64 ((rd_T113 l0 x6_2).f1), .int .u64 ((rd_T113 l0 x6_2).f2), .int .i64 ((rd_T113 l0 x6_2).f3)]] (by rfl) rfl rfl (by (try simp only [List.map_toArray, List.map_cons, List.map_nil]); first | done | rfl | (simp only [List.length_drop, List.length_take]; rfl)) ?_
                                with_reducible refine (quittanceref20_alike.calls ((rd_T113 l0 x9_3).f0) ((rd_T113 l0 x9_3).f1) ((rd_T113 l0 x9_3).f2) ((rd_T113 l0 x9_3).f3) ((rd_T113 l0 x6_2).f0) ((rd_T113 l0 x6_2).f1) ((rd_T113 l0 x6_2).f2) ((rd_T113 l0 x6_2).f3) true _ A13.out).mono ?_
                                rintro e w21 ⟨rfl, hb⟩
                                refine ⟨_, rfl, ?_⟩
                                have n0_ := Aside0.mk (Kd.R_below (by (with_reducible repeat (first | apply Kd.R_alloc | apply Kd.R_drewN | apply Kd.R_drew)); exact HO_4.out) hb)
                                have n1_ := Aside0.mk (Kd.R_below (by (with_reducible repeat (first | apply Kd.R_alloc | apply Kd.R_drewN | apply Kd.R_drew)); exact HO_7.out) hb)
                                have n2_ := Aside0.mk (below_step (by repeat (first | (with_reducible first | exact HB.out | apply below_alloc | apply pw_below_drewN | apply below_drew1) | exact HB.out)) hb)
                                clear HO_4
                                clear HO_7
                                clear HB
                                have HO_4 := n0_
                                have HO_7 := n1_
                                have HB := n2_
                                clear n0_ n1_ n2_
                                (try clear hb)
                                (try clear hb2)
                                (try clear hk)
                                (try clear hi)
                                refine hK.out _ _ ⟨((HB.out.cell (World.block_lt_of_cell? w _ hw1238_0)).trans hw1238_0), ((HB.out.cell (World.block_lt_of_cell? w _ hw1238_1)).trans hw1238_1), ((HB.out.cell (World.block_lt_of_cell? w _ hw1238_2)).trans hw1238_2), ((HB.out.cell (World.block_lt_of_cell? w _ hw1238_3)).trans hw1238_3), ((HB.out.cell (World.block_lt_of_cell? w _ hw1239_0)).trans hw1239_0), ((HB.out.cell (World.block_lt_of_cell? w _ hw1239_1)).trans hw1239_1), ((HB.out.cell (World.block_lt_of_cell? w _ hw1239_2)).trans hw1239_2), ((HB.out.cell (World.block_lt_of_cell? w _ hw1239_3)).trans hw1239_3)⟩ (fun hHeld => ?_)
                                clear hK K
                                refine norm_ (a' := ?_) ?_ ?_
                                rotate_left
                                · show Act.put _ (some 45) _ = _
                                  simp only [Act.put, List.setIfInBounds_toArray, List.set_cons_zero, List.set_cons_succ, i64_w, i32_w]
                                  rfl
                                refine done_ (done_of HT_.out (by kernel_rfl)) ?_
                                have p1241 : 0 ≤ (x9_3 : Int) := of_decide_eq_true (by first | (with_reducible assumption) | assumption)
                                have q1241 : x9_3 < (l0.length : Int) := of_decide_eq_true (by first | (with_reducible assumption) | assumption)
                                obtain ⟨ad1241, e1241, hx1241_0, hx1241_1, hx1241_2, hx1241_3⟩ := at_T113 HR0.out x9_3 p1241 q1241
                                obtain rfl : ad1238 = ad1241 := (by injection e1241)
                                replace hx1241_0 := (HB.out.cell (World.block_lt_of_cell? w _ hx1241_0)).trans hx1241_0
                                replace hx1241_1 := (HB.out.cell (World.block_lt_of_cell? w _ hx1241_1)).trans hx1241_1
                                replace hx1241_2 := (HB.out.cell (World.block_lt_of_cell? w _ hx1241_2)).trans hx1241_2
                                replace hx1241_3 := (HB.out.cell (World.block_lt_of_cell? w _ hx1241_3)).trans hx1241_3
                                replace p1241 := eq_true p1241
                                replace q1241 := eq_true q1241
                                try go_wp2_with (first | ((with_reducible refine gate_builtin (b := .append) (xs := #[.tmp 46, .tmp 51]) rfl ?_); at_builtin; refine Kd.R_append k113 (w0 := w) w.heap.size rfl (.tmp 46) (.tmp 51) 30 113 (.agg #[(.int .i64 0), (.int .u64 0), (.int .u64 0), (.int .i64 0)]) 32 rfl Try.underlying30 info113 rfl (by decide) (by omega) u7 x7_3 (⟨(rd_T113 l0 x9_3).f0, (rd_T113 l0 x9_3).f1, (rd_T113 l0 x9_3).f2, (rd_T113 l0 x9_3).f3⟩ : S113) [.int .i64 ((rd_T113 l0 x9_3).f0), .int .u64 ((rd_T113 l0 x9_3).f1), .int .u64 ((rd_T113 l0 x9_3).f2), .int .i64 ((rd_T113 l0 x9_3).f3)] (fun k_ => some k_ ≠ (u4 : Value).ownBlock) (fun _ => False) rfl rfl ?aP (fun _ hk => hk.elim) ?aF ?aO ?aB ?aS ?aL ?_; (case aP => exact k113_mkM _ _ _ (⟨(rd_T113 l0 x9_3).f0, (rd_T113 l0 x9_3).f1, (rd_T113 l0 x9_3).f2, (rd_T113 l0 x9_3).f3⟩ : S113)); (case aB => exact (by repeat (first | (with_reducible first | exact HB.out | apply below_alloc | apply pw_below_drewN | apply below_drew1) | exact HB.out))); (case aF => exact (fun k_ hk => Kd.fresh' (Kd.R_lt (by (with_reducible repeat (first | apply Kd.R_alloc | apply Kd.R_drewN | apply Kd.R_drew)); exact HO_4.out)) k_ hk)); (case aO => exact (by (with_reducible repeat (first | apply Kd.R_alloc | apply Kd.R_drewN | apply Kd.R_drew)); exact HO_7.out)); (case aS => exact (below_size (by repeat (first | (with_reducible first | exact HB.out | apply below_alloc | apply pw_below_drewN | apply below_drew1) | exact HB.out)))); (case aL => have := LMc15.out; omega); intro v1243 w22 ho hb hg hat; rw [← Ny1242.out] at ho; have n0_ := Aside0.mk (Kd.R_after (ok := (fun _ => True)) (by (with_reducible repeat (first | apply Kd.R_alloc | apply Kd.R_drewN | apply Kd.R_drew)); exact Kd.R_mono HO_4.out (fun _ hk => ⟨trivial, hk⟩)) hg hat); have n1_ := Aside0.mk (hb); have n2_ := Aside0.mk (ho); clear HO_4; clear HB; clear HO_7; have HO_4 := n0_; have HB := n1_; have HO1244 := n2_; clear n0_ n1_ n2_; clear ho hb hg hat))
                                go_roundg k3
                                case measure => have := HK1.out; have := HK2.out; have := HK3.out; omega
                                case rel => exact ⟨(y1242), (false), (wrap64 (x9_3 + 1)), (by first | rfl | (simp; done) | (simp [*]; done)), (by first | rfl | (simp; done) | (simp [*]; done)), H', ⟨by have := HK1.out; have := HK2.out; have := HK3.out; omega⟩, ⟨by (with_reducible repeat (first | apply Kd.R_alloc | apply Kd.R_drewN | apply Kd.R_drew)); exact Kd.R_mono HO_4.out (fun _ hk => hk.2)⟩, ⟨by (with_reducible repeat (first | apply Kd.R_alloc | apply Kd.R_drewN | apply Kd.R_drew)); exact HO1244.out⟩, ⟨by repeat (first | (with_reducible first | exact HB.out | apply below_alloc | apply pw_below_drewN | apply below_drew1) | exact HB.out)⟩⟩
                            · rw [if_neg c15] at H
                              exact absurd H (by simp)
                          · replace c14 := Bool.eq_false_iff.mpr c14
                            subst c14
                            have H1 : (quittanceref20_Tidy.l2 k3 l0 x4_2 x6_2 x7_3 x8_3 (wrap64 (x9_3 + 1))) = some (r1, r2) := by rw [if_neg (show ¬ (false = true) by decide)] at H; exact H
                            clear H
                            have H := H1
                            clear H1
                            have H' := Aside0.mk H
                            clear H
                            try go_wp2
                            have n0_ := Aside0.mk (Kd.R_drew HO_4.out)
                            have n1_ := Aside0.mk (Kd.R_drew HO_7.out)
                            have n2_ := Aside0.mk (below_drew1 HB.out)
                            clear HO_4
                            clear HO_7
                            clear HB
                            have HO_4 := n0_
                            have HO_7 := n1_
                            have HB := n2_
                            clear n0_ n1_ n2_
                            have p1238 : 0 ≤ (x9_3 : Int) := of_decide_eq_true (by first | (with_reducible assumption) | assumption)
                            have q1238 : x9_3 < (l0.length : Int) := of_decide_eq_true (by first | (with_reducible assumption) | assumption)
                            obtain ⟨ad1238, e1238, hx1238_0, hx1238_1, hx1238_2, hx1238_3⟩ := at_T113 HR0.out x9_3 p1238 q1238
                            have hw1238_3 := hx1238_3
                            have hw1238_2 := hx1238_2
                            have hw1238_1 := hx1238_1
                            have hw1238_0 := hx1238_0
                            cases e1238
                            replace hx1238_0 := (HB.out.cell (World.block_lt_of_cell? w _ hx1238_0)).trans hx1238_0
                            replace hx1238_1 := (HB.out.cell (World.block_lt_of_cell? w _ hx1238_1)).trans hx1238_1
                            replace hx1238_2 := (HB.out.cell (World.block_lt_of_cell? w _ hx1238_2)).trans hx1238_2
                            replace hx1238_3 := (HB.out.cell (World.block_lt_of_cell? w _ hx1238_3)).trans hx1238_3
                            replace p1238 := eq_true p1238
                            replace q1238 := eq_true q1238
                            have p1239 : 0 ≤ (x6_2 : Int) := of_decide_eq_true (by first | (with_reducible assumption) | assumption)
                            have q1239 : x6_2 < (l0.length : Int) := of_decide_eq_true (by first | (with_reducible assumption) | assumption)
                            obtain ⟨ad1239, e1239, hx1239_0, hx1239_1, hx1239_2, hx1239_3⟩ := at_T113 HR0.out x6_2 p1239 q1239
                            have hw1239_3 := hx1239_3
                            have hw1239_2 := hx1239_2
                            have hw1239_1 := hx1239_1
                            have hw1239_0 := hx1239_0
                            obtain rfl : ad1238 = ad1239 := (by injection e1239)
                            replace hx1239_0 := (HB.out.cell (World.block_lt_of_cell? w _ hx1239_0)).trans hx1239_0
                            replace hx1239_1 := (HB.out.cell (World.block_lt_of_cell? w _ hx1239_1)).trans hx1239_1
                            replace hx1239_2 := (HB.out.cell (World.block_lt_of_cell? w _ hx1239_2)).trans hx1239_2
                            replace hx1239_3 := (HB.out.cell (World.block_lt_of_cell? w _ hx1239_3)).trans hx1239_3
                            replace p1239 := eq_true p1239
                            replace q1239 := eq_true q1239
                            refine start_ (n := 9) (S := fun w' => w'.cell? (ad1238.add ((x9_3).toNat * 4)) = some (.int .i64 ((rd_T113 l0 x9_3).f0)) ∧ w'.cell? ⟨(ad1238.add ((x9_3).toNat * 4)).block, (ad1238.add ((x9_3).toNat * 4)).off + 1, none⟩ = some (.int .u64 ((rd_T113 l0 x9_3).f1)) ∧ w'.cell? ⟨(ad1238.add ((x9_3).toNat * 4)).block, (ad1238.add ((x9_3).toNat * 4)).off + 2, none⟩ = some (.int .u64 ((rd_T113 l0 x9_3).f2)) ∧ w'.cell? ⟨(ad1238.add ((x9_3).toNat * 4)).block, (ad1238.add ((x9_3).toNat * 4)).off + 3, none⟩ = some (.int .i64 ((rd_T113 l0 x9_3).f3)) ∧ w'.cell? (ad1238.add ((x6_2).toNat * 4)) = some (.int .i64 ((rd_T113 l0 x6_2).f0)) ∧ w'.cell? ⟨(ad1238.add ((x6_2).toNat * 4)).block, (ad1238.add ((x6_2).toNat * 4)).off + 1, none⟩ = some (.int .u64 ((rd_T113 l0 x6_2).f1)) ∧ w'.cell? ⟨(ad1238.add ((x6_2).toNat * 4)).block, (ad1238.add ((x6_2).toNat * 4)).off + 2, none⟩ = some (.int .u64 ((rd_T113 l0 x6_2).f2)) ∧ w'.cell? ⟨(ad1238.add ((x6_2).toNat * 4)).block, (ad1238.add ((x6_2).toNat * 4)).off + 3, none⟩ = some (.int .i64 ((rd_T113 l0 x6_2).f3))) (ds := []) #[false, false, false, false, false, false, false, false, false] (by kernel_rfl) rfl rfl ⟨((HB.out.cell (World.block_lt_of_cell? w _ hw1238_0)).trans hw1238_0), ((HB.out.cell (World.block_lt_of_cell? w _ hw1238_1)).trans hw1238_1), ((HB.out.cell (World.block_lt_of_cell? w _ hw1238_2)).trans hw1238_2), ((HB.out.cell (World.block_lt_of_cell? w _ hw1238_3)).trans hw1238_3), ((HB.out.cell (World.block_lt_of_cell? w _ hw1239_0)).trans hw1239_0), ((HB.out.cell (World.block_lt_of_cell? w _ hw1239_1)).trans hw1239_1), ((HB.out.cell (World.block_lt_of_cell? w _ hw1239_2)).trans hw1239_2), ((HB.out.cell (World.block_lt_of_cell? w _ hw1239_3)).trans hw1239_3)⟩ (fun hHeld => ?_); refine with_tabW quittanceref20_Tidy.tab15 quittanceref20_Tidy.bits15 (fun HT_ HW_ => ?_)
                            generalize wr.drew = w23 at HO_4 HO_7 HB hx1238_0 hx1238_1 hx1238_2 hx1238_3 hx1239_0 hx1239_1 hx1239_2 hx1239_3 hHeld ⊢
                            refine pure_ (i := 0) (N := some 37) (v := ?_) (a' := ?_) #[true, false, false, false, false, false, false, false, false] rfl rfl (any_of HT_.out (by kernel_rfl)) (fun _ _ _ h => h) (Or.inl ⟨by rfl, ?_⟩) ?_ ?_
                            rotate_left
                            · intro w'
                              go_simp
                              with_reducible rfl
                            rotate_left
                            · simp only [Act.put, List.setIfInBounds_toArray, List.set_cons_zero, List.set_cons_succ, i64_w, i32_w]
                              rfl
                            refine pure_ (i := 1) (N := some 38) (v := ?_) (a' := ?_) #[true, true, false, false, false, false, false, false, false] rfl rfl (any_of HT_.out (by kernel_rfl)) (fun _ _ _ h => h) (Or.inl ⟨by rfl, ?_⟩) ?_ ?_
                            rotate_left
                            · intro w'
                              go_simp
                              with_reducible rfl
                            rotate_left
                            · simp only [Act.put, List.setIfInBounds_toArray, List.set_cons_zero, List.set_cons_succ, i64_w, i32_w]
                              rfl
                            refine pure_ (i := 2) (N := some 39) (v := ?_) (a' := ?_) #[true, true, true, false, false, false, false, false, false] rfl rfl (any_of HT_.out (by kernel_rfl)) (fun _ _ _ h => h) (Or.inl ⟨by rfl, ?_⟩) ?_ ?_
                            rotate_left
                            · intro w'
                              go_simp
                              with_reducible rfl
                            rotate_left
                            · simp only [Act.put, List.setIfInBounds_toArray, List.set_cons_zero, List.set_cons_succ, i64_w, i32_w]
                              rfl
                            refine pure_ (i := 4) (N := some 41) (v := ?_) (a' := ?_) #[true, true, true, false, true, false, false, false, false] rfl rfl (any_of HT_.out (by kernel_rfl)) (fun _ _ _ h => h) (Or.inl ⟨by rfl, ?_⟩) ?_ ?_
                            rotate_left
                            · intro w'
                              go_simp
                              with_reducible rfl
                            rotate_left
                            · simp only [Act.put, List.setIfInBounds_toArray, List.set_cons_zero, List.set_cons_succ, i64_w, i32_w]
                              rfl
                            refine pure_ (i := 5) (N := some 42) (v := ?_) (a' := ?_) #[true, true, true, false, true, true, false, false, false] rfl rfl (any_of HT_.out (by kernel_rfl)) (fun _ _ _ h => h) (Or.inl ⟨by rfl, ?_⟩) ?_ ?_
                            rotate_left
                            · intro w'
                              go_simp
                              with_reducible rfl
                            rotate_left
                            · simp only [Act.put, List.setIfInBounds_toArray, List.set_cons_zero, List.set_cons_succ, i64_w, i32_w]
                              rfl
                            refine pure_ (i := 6) (N := some 43) (v := ?_) (a' := ?_) #[true, true, true, false, true, true, true, false, false] rfl rfl (any_of HT_.out (by kernel_rfl)) (fun _ _ _ h => h) (Or.inl ⟨by rfl, ?_⟩) ?_ ?_
                            rotate_left
                            · intro w'
                              go_simp
                              with_reducible rfl
                            rotate_left
                            · simp only [Act.put, List.setIfInBounds_toArray, List.set_cons_zero, List.set_cons_succ, i64_w, i32_w]
                              rfl
                            refine take_ (i := 3) (N := some 40) (v := ?_) (a' := ?_) #[true, true, true, true, true, true, true, false, false] rfl rfl (take_ofW HT_.out HW_.out (by kernel_rfl)) (fun _ _ _ h => h) (Or.inl ⟨by rfl, ?_⟩) hHeld ?_ ?_
                            rotate_left
                            · rintro w' ⟨s0, s1, s2, s3, s4, s5, s6, s7⟩
                              go_simp
                              with_reducible rfl
                            rotate_left
                            · simp only [Act.put, List.setIfInBounds_toArray, List.set_cons_zero, List.set_cons_succ, i64_w, i32_w]
                              rfl
                            refine take_ (i := 7) (N := some 44) (v := ?_) (a' := ?_) #[true, true, true, true, true, true, true, true, false] rfl rfl (take_ofW HT_.out HW_.out (by kernel_rfl)) (fun _ _ _ h => h) (Or.inl ⟨by rfl, ?_⟩) hHeld ?_ ?_
                            rotate_left
                            · rintro w' ⟨s0, s1, s2, s3, s4, s5, s6, s7⟩
                              go_simp
                              with_reducible rfl
                            rotate_left
                            · simp only [Act.put, List.setIfInBounds_toArray, List.set_cons_zero, List.set_cons_succ, i64_w, i32_w]
                              rfl
                            refine one_ (i := 8) (N := some 45) #[true, true, true, true, true, true, true, true, true] rfl rfl (one_of HT_.out (by kernel_rfl)) (by decide) (fun K hK => ?_)
                            refine goes_ Try.func111 (by kernel_rfl) rfl #[.agg #[.int .i64 ((rd_T113 l0 x9_3).f0), .int .u64 ((rd_T113 l0 x9_3).f1), .int .u64 ((rd_T113 l0 x9_3).f2), .int .i64 ((rd_T113 l0 x9_3).f3)], .agg #[.int .i64 ((rd_T113 l0 x6_2).f0), .int .u64 ((rd_T113 l0 x6_2).f1), .int .u64 ((rd_T113 l0 x6_2).f2), .int .i64 ((rd_T113 l0 x6_2).f3)]] (by rfl) rfl rfl (by (try simp only [List.map_toArray, List.map_cons, List.map_nil]); first | done | rfl | (simp only [List.length_drop, List.length_take]; rfl)) ?_
                            with_reducible refine (quittanceref20_alike.calls ((rd_T113 l0 x9_3).f0) ((rd_T113 l0 x9_3).f1) ((rd_T113 l0 x9_3).f2) ((rd_T113 l0 x9_3).f3) ((rd_T113 l0 x6_2).f0) ((rd_T113 l0 x6_2).f1) ((rd_T113 l0 x6_2).f2) ((rd_T113 l0 x6_2).f3) false _ A13.out).mono ?_
                            rintro e w24 ⟨rfl, hb⟩
                            refine ⟨_, rfl, ?_⟩
                            have n0_ := Aside0.mk (Kd.R_below (by (with_reducible repeat (first | apply Kd.R_alloc | apply Kd.R_drewN | apply Kd.R_drew)); exact HO_4.out) hb)
                            have n1_ := Aside0.mk (Kd.R_below (by (with_reducible repeat (first | apply Kd.R_alloc | apply Kd.R_drewN | apply Kd.R_drew)); exact HO_7.out) hb)
                            have n2_ := Aside0.mk (below_step (by repeat (first | (with_reducible first | exact HB.out | apply below_alloc | apply pw_below_drewN | apply below_drew1) | exact HB.out)) hb)
                            clear HO_4
                            clear HO_7
                            clear HB
                            have HO_4 := n0_
                            have HO_7 := n1_
                            have HB := n2_
                            clear n0_ n1_ n2_
                            (try clear hb)
                            (try clear hb2)
                            (try clear hk)
                            (try clear hi)
                            refine hK.out _ _ ⟨((HB.out.cell (World.block_lt_of_cell? w _ hw1238_0)).trans hw1238_0), ((HB.out.cell (World.block_lt_of_cell? w _ hw1238_1)).trans hw1238_1), ((HB.out.cell (World.block_lt_of_cell? w _ hw1238_2)).trans hw1238_2), ((HB.out.cell (World.block_lt_of_cell? w _ hw1238_3)).trans hw1238_3), ((HB.out.cell (World.block_lt_of_cell? w _ hw1239_0)).trans hw1239_0), ((HB.out.cell (World.block_lt_of_cell? w _ hw1239_1)).trans hw1239_1), ((HB.out.cell (World.block_lt_of_cell? w _ hw1239_2)).trans hw1239_2), ((HB.out.cell (World.block_lt_of_cell? w _ hw1239_3)).trans hw1239_3)⟩ (fun hHeld => ?_)
                            clear hK K
                            refine norm_ (a' := ?_) ?_ ?_
                            rotate_left
                            · show Act.put _ (some 45) _ = _
                              simp only [Act.put, List.setIfInBounds_toArray, List.set_cons_zero, List.set_cons_succ, i64_w, i32_w]
                              rfl
                            refine done_ (done_of HT_.out (by kernel_rfl)) ?_
                            try go_wp2
                            go_roundg k3
                            case measure => have := HK1.out; have := HK2.out; have := HK3.out; omega
                            case rel => exact ⟨(x7_3), (x8_3), (wrap64 (x9_3 + 1)), (by first | rfl | (simp; done) | (simp [*]; done)), (by first | rfl | (simp; done) | (simp [*]; done)), H', ⟨by have := HK1.out; have := HK2.out; have := HK3.out; omega⟩, ⟨by (with_reducible repeat (first | apply Kd.R_alloc | apply Kd.R_drewN | apply Kd.R_drew)); exact HO_4.out⟩, ⟨by (with_reducible repeat (first | apply Kd.R_alloc | apply Kd.R_drewN | apply Kd.R_drew)); exact HO_7.out⟩, ⟨by repeat (first | (with_reducible first | exact HB.out | apply below_alloc | apply pw_below_drewN | apply below_drew1) | exact HB.out)⟩⟩
                        · rw [if_neg c12] at H
                          exact absurd H (by simp)
                      · rw [if_neg c11] at H
                        exact absurd H (by simp)
                    · rw [if_neg c10] at H
                      exact absurd H (by simp)
                  · rw [if_neg c9] at H
                    have c9b0 : decide (x9_3 < (l0.length : Int)) = false := decide_eq_false c9
                    clear c9
                    by_cases c25 : x8_3 = true
                    · subst c25
                      have H1 : ((quittanceref20_Sum.f k3 x7_3).bind fun bt1245 => (if 0 ≤ x6_2 then (if x6_2 < (l0.length : Int) then (if bt1245.2 = true then (if bt1245.1 = 0 then (quittanceref20_Tidy.j3 k3 l0 x4_2 x6_2 bt1245.1 false ((rd_T113 l0 x6_2).f0) ((rd_T113 l0 x6_2).f1) ((rd_T113 l0 x6_2).f2) bt1245.1) else ((quittanceref20_May.f ((rd_T113 l0 x6_2).f0) ((rd_T113 l0 x6_2).f1) ((rd_T113 l0 x6_2).f2) bt1245.1).bind fun t1249 => (quittanceref20_Tidy.j3 k3 l0 x4_2 x6_2 bt1245.1 (!t1249) ((rd_T113 l0 x6_2).f0) ((rd_T113 l0 x6_2).f1) ((rd_T113 l0 x6_2).f2) bt1245.1))) else (quittanceref20_Tidy.j3 k3 l0 x4_2 x6_2 bt1245.1 true ((rd_T113 l0 x6_2).f0) ((rd_T113 l0 x6_2).f1) ((rd_T113 l0 x6_2).f2) bt1245.1)) else (none)) else (none))) = some (r1, r2) := by rw [if_pos rfl] at H; exact H
                      clear H
                      have H := H1
                      clear H1
                      replace H := Option.bind_eq_some_iff.mp H
                      obtain ⟨⟨t1245, t1246⟩, A260, H⟩ := H
                      replace H : (if 0 ≤ x6_2 then (if x6_2 < (l0.length : Int) then (if t1246 = true then (if t1245 = 0 then (quittanceref20_Tidy.j3 k3 l0 x4_2 x6_2 t1245 false ((rd_T113 l0 x6_2).f0) ((rd_T113 l0 x6_2).f1) ((rd_T113 l0 x6_2).f2) t1245) else ((quittanceref20_May.f ((rd_T113 l0 x6_2).f0) ((rd_T113 l0 x6_2).f1) ((rd_T113 l0 x6_2).f2) t1245).bind fun t1249 => (quittanceref20_Tidy.j3 k3 l0 x4_2 x6_2 t1245 (!t1249) ((rd_T113 l0 x6_2).f0) ((rd_T113 l0 x6_2).f1) ((rd_T113 l0 x6_2).f2) t1245))) else (quittanceref20_Tidy.j3 k3 l0 x4_2 x6_2 t1245 true ((rd_T113 l0 x6_2).f0) ((rd_T113 l0 x6_2).f1) ((rd_T113 l0 x6_2).f2) t1245)) else (none)) else (none)) = some (r1, r2) := H
                      have A26 := Aside0.mk A260
                      clear A260
                      by_cases c27 : 0 ≤ x6_2
                      · rw [if_pos c27] at H
                        have c27b0 : decide (0 ≤ x6_2) = true := decide_eq_true c27
                        clear c27
                        by_cases c28 : x6_2 < (l0.length : Int)
                        · rw [if_pos c28] at H
                          have c28b0 : decide (x6_2 < (l0.length : Int)) = true := decide_eq_true c28
                          clear c28
                          have HC29 := Aside0.mk H
                          clear H
                          obtain ⟨Ao30, co30, eo30⟩ := Kd.R_slice HO_7.out
                          subst eo30
                          go_upto_region 22 with (first | ((with_reducible refine gate_callee (f := 112) rfl ?_); refine goesL_ (some 63) rfl rfl Try.func112 (by kernel_rfl) rfl #[.slice Ao30 x7_3.length co30] rfl (by (try simp only [List.map_toArray, List.map_cons, List.map_nil]); first | done | rfl | (simp only [List.length_drop, List.length_take]; rfl)) ?_; (with_reducible refine (quittanceref20_Sum.calls k3 _ _ x7_3 t1245 t1246 _ ?side1 ?side2 A26.out).mono ?_); (case side1 => repeat (first | exact (Kd.R_reads' HO_7.out).2.2 | (with_reducible refine Kd.C_alloc ?_ _) | (with_reducible refine Kd.C_drewN ?_ _) | (with_reducible refine Kd.C_drew ?_))); (case side2 => exact (Kd.R_reads' HO_7.out).2.1); rintro e w31 ⟨rfl, hb⟩; refine ⟨_, rfl, ?_⟩; have n0_ := Aside0.mk (Kd.R_below (by (with_reducible repeat (first | apply Kd.R_alloc | apply Kd.R_drewN | apply Kd.R_drew)); exact HO_4.out) hb); have n1_ := Aside0.mk (Kd.R_below (by (with_reducible repeat (first | apply Kd.R_alloc | apply Kd.R_drewN | apply Kd.R_drew)); exact HO_7.out) hb); have n2_ := Aside0.mk (below_step (by repeat (first | (with_reducible first | exact HB.out | apply below_alloc | apply pw_below_drewN | apply below_drew1) | exact HB.out)) hb); clear HO_4; clear HO_7; clear HB; have HO_4 := n0_; have HO_7 := n1_; have HB := n2_; clear n0_ n1_ n2_; (try clear hb); (try clear hb2); (try clear hk); (try clear hi); have p1247 : 0 ≤ (x6_2 : Int) := of_decide_eq_true (by first | (with_reducible assumption) | assumption); have q1247 : x6_2 < (l0.length : Int) := of_decide_eq_true (by first | (with_reducible assumption) | assumption); obtain ⟨ad1247, e1247, hx1247_0, hx1247_1, hx1247_2, hx1247_3⟩ := at_T113 HR0.out x6_2 p1247 q1247; cases e1247; replace hx1247_0 := (HB.out.cell (World.block_lt_of_cell? w _ hx1247_0)).trans hx1247_0; replace hx1247_1 := (HB.out.cell (World.block_lt_of_cell? w _ hx1247_1)).trans hx1247_1; replace hx1247_2 := (HB.out.cell (World.block_lt_of_cell? w _ hx1247_2)).trans hx1247_2; replace hx1247_3 := (HB.out.cell (World.block_lt_of_cell? w _ hx1247_3)).trans hx1247_3; replace p1247 := eq_true p1247; replace q1247 := eq_true q1247) | ((with_reducible refine gate_dst (N := 12) rfl ?_); refine box_event ?hg (N := 12) ?hd (cs := #[.int .i64 0, .int .u64 0, .int .u64 0, .int .i64 0]) (t := 113) ?hr ?_; (case hd => rfl); (case hg => rfl); (case hr => first | (go_simp; done) | (go_simp; rfl)); intro gb1248 hg w32 hbox hb; have n0_ := Aside0.mk (Kd.R_below (Kd.R_elderB (by (with_reducible repeat (first | apply Kd.R_alloc | apply Kd.R_drewN | apply Kd.R_drew)); exact HO_4.out) gb1248 (Nat.le_of_eq hg.symm)) hb); have n1_ := Aside0.mk (Kd.R_below (Kd.R_elderB (by (with_reducible repeat (first | apply Kd.R_alloc | apply Kd.R_drewN | apply Kd.R_drew)); exact HO_7.out) gb1248 (Nat.le_of_eq hg.symm)) hb); have n2_ := Aside0.mk (below_step (by repeat (first | (with_reducible first | exact HB.out | apply below_alloc | apply pw_below_drewN | apply below_drew1) | exact HB.out)) hb); have n3_ := Aside0.mk (hbox); have n4_ := Aside0.mk ((by rw [hg]; exact (below_size (by repeat (first | (with_reducible first | exact HB.out | apply below_alloc | apply pw_below_drewN | apply below_drew1) | exact HB.out))) : w.heap.size ≤ gb1248)); have n5_ := Aside0.mk ((by rw [hg]; exact (below_size (by repeat (first | (with_reducible first | exact HB.out | apply below_alloc | apply pw_below_drewN | apply below_drew1) | exact HB.out))) : w.heap.size ≤ gb1248)); clear HO_4; clear HO_7; clear HB; have HO_4 := n0_; have HO_7 := n1_; have HB := n2_; have BK1248 := n3_; have GW1248 := n4_; have GE1248 := n5_; clear n0_ n1_ n2_ n3_ n4_ n5_; clear hb hbox hg; have hcz33_0 : w32.cell? ⟨gb1248, 0, none⟩ = some (.int .i64 0) := (blk_cell BK1248.out 0).trans rfl; have hcz33_1 : w32.cell? ⟨gb1248, 1, none⟩ = some (.int .u64 0) := (blk_cell BK1248.out 1).trans rfl; have hcz33_2 : w32.cell? ⟨gb1248, 2, none⟩ = some (.int .u64 0) := (blk_cell BK1248.out 2).trans rfl; have hcz33_3 : w32.cell? ⟨gb1248, 3, none⟩ = some (.int .i64 0) := (blk_cell BK1248.out 3).trans rfl; have hfz33_0 := blk_frozen BK1248.out 0; have hfz33_1 := blk_frozen BK1248.out 1; have hfz33_2 := blk_frozen BK1248.out 2; have hfz33_3 := blk_frozen BK1248.out 3))
                          (try simp only [Act.put, List.setIfInBounds_toArray, List.set_cons_zero, List.set_cons_succ])
                          go_cut [82] (fun v82 wc => ∃ (kq : Nat) (x82_28 : Bool), v82 = .bool x82_28 ∧ Aside0 (quittanceref20_Tidy.j3 kq l0 x4_2 x6_2 t1245 x82_28 ((rd_T113 l0 x6_2).f0) ((rd_T113 l0 x6_2).f1) ((rd_T113 l0 x6_2).f2) t1245 = some (r1, r2)) ∧ Aside0 (kq ≤ k3) ∧ Aside0 (Kd.R k113 113 wc w.heap.size (fun k_ => k_ ≠ gb1248) u4 x4_2) ∧ Aside0 (wc.heap[gb1248]? = some (.cells #[.int .i64 ((rd_T113 l0 x6_2).f0), .int .u64 ((rd_T113 l0 x6_2).f1), .int .u64 ((rd_T113 l0 x6_2).f2), .int .i64 t1245] 113 (0, 0))) ∧ Aside0 (Below w.heap.size w wc))
                          case first =>
                            have H := HC29.out
                            clear HC29
                            by_cases c34 : t1246 = true
                            · subst c34
                              have H1 : (if t1245 = 0 then (quittanceref20_Tidy.j3 k3 l0 x4_2 x6_2 t1245 false ((rd_T113 l0 x6_2).f0) ((rd_T113 l0 x6_2).f1) ((rd_T113 l0 x6_2).f2) t1245) else ((quittanceref20_May.f ((rd_T113 l0 x6_2).f0) ((rd_T113 l0 x6_2).f1) ((rd_T113 l0 x6_2).f2) t1245).bind fun t1249 => (quittanceref20_Tidy.j3 k3 l0 x4_2 x6_2 t1245 (!t1249) ((rd_T113 l0 x6_2).f0) ((rd_T113 l0 x6_2).f1) ((rd_T113 l0 x6_2).f2) t1245))) = some (r1, r2) := by rw [if_pos rfl] at H; exact H
                              clear H
                              have H := H1
                              clear H1
                              by_cases c35 : t1245 = 0
                              · rw [if_pos c35] at H
                                have c35b0 : (t1245 == 0) = true := beq_iff_eq.mpr c35
                                have c35b1 : (t1245 != 0) = false := bne_eq_false_iff_eq.mpr c35
                                clear c35
                                (first | rw [c35b0] | (simp only [i64_w, i32_w]; rw [c35b0]) | skip)
                                have H' := Aside0.mk H
                                clear H
                                go_wp2
                                go_meet
                                case rel => exact ⟨_, (false), (by first | rfl | (simp; done) | (simp [*]; done)), H', ⟨by have := HK1.out; have := HK2.out; have := HK3.out; first | omega | exact Nat.le_refl _⟩, ⟨by (with_reducible repeat (first | apply Kd.R_alloc | apply Kd.R_drewN | apply Kd.R_drew)); exact Kd.R_mono (Kd.R_far (p := ⟨gb1248, 3, none⟩) (Kd.R_far (p := ⟨gb1248, 3, none⟩) (Kd.R_far (p := ⟨gb1248, 2, none⟩) (Kd.R_far (p := ⟨gb1248, 1, none⟩) (Kd.R_far (p := ⟨gb1248, 0, none⟩) (Kd.R_mono HO_4.out (fun k_ hk => (⟨hk, hk.2⟩ : _ ∧ k_ ≠ gb1248))) (fun _ hk => hk.2) (.int .i64 ((rd_T113 l0 x6_2).f0))) (fun _ hk => hk.2) (.int .u64 ((rd_T113 l0 x6_2).f1))) (fun _ hk => hk.2) (.int .u64 ((rd_T113 l0 x6_2).f2))) (fun _ hk => hk.2) (.int .i64 ((rd_T113 l0 x6_2).f3))) (fun _ hk => hk.2) (.int .i64 t1245)) (fun _ hk => hk.1.2)⟩, ⟨by (with_reducible repeat (first | refine blk_drewN ?_ _ | refine blk_drew ?_ | refine blk_alloc ?_ _)); refine blk_put (cs := #[.int .i64 ((rd_T113 l0 x6_2).f0), .int .u64 ((rd_T113 l0 x6_2).f1), .int .u64 ((rd_T113 l0 x6_2).f2), .int .i64 ((rd_T113 l0 x6_2).f3)]) ?_ 3 _ rfl; (with_reducible repeat (first | refine blk_drewN ?_ _ | refine blk_drew ?_ | refine blk_alloc ?_ _)); refine blk_put (cs := #[.int .i64 ((rd_T113 l0 x6_2).f0), .int .u64 ((rd_T113 l0 x6_2).f1), .int .u64 ((rd_T113 l0 x6_2).f2), .int .i64 0]) ?_ 3 _ rfl; (with_reducible repeat (first | refine blk_drewN ?_ _ | refine blk_drew ?_ | refine blk_alloc ?_ _)); refine blk_put (cs := #[.int .i64 ((rd_T113 l0 x6_2).f0), .int .u64 ((rd_T113 l0 x6_2).f1), .int .u64 0, .int .i64 0]) ?_ 2 _ rfl; (with_reducible repeat (first | refine blk_drewN ?_ _ | refine blk_drew ?_ | refine blk_alloc ?_ _)); refine blk_put (cs := #[.int .i64 ((rd_T113 l0 x6_2).f0), .int .u64 0, .int .u64 0, .int .i64 0]) ?_ 1 _ rfl; (with_reducible repeat (first | refine blk_drewN ?_ _ | refine blk_drew ?_ | refine blk_alloc ?_ _)); refine blk_put (cs := #[.int .i64 0, .int .u64 0, .int .u64 0, .int .i64 0]) ?_ 0 _ rfl; (with_reducible repeat (first | refine blk_drewN ?_ _ | refine blk_drew ?_ | refine blk_alloc ?_ _)); exact BK1248.out⟩, ⟨by repeat (first | (with_reducible first | exact HB.out | apply below_alloc | apply pw_below_drewN | apply below_drew1 | refine below_set ?_ GE1248.out) | exact HB.out)⟩⟩
                              · rw [if_neg c35] at H
                                have c35b0 : (t1245 == 0) = false := beq_eq_false_iff_ne.mpr c35
                                have c35b1 : (t1245 != 0) = true := bne_iff_ne.mpr c35
                                (first | rw [c35b0] | (simp only [i64_w, i32_w]; rw [c35b0]) | skip)
                                replace H := Option.bind_eq_some_iff.mp H
                                obtain ⟨t1249, A360, H⟩ := H
                                replace H : (quittanceref20_Tidy.j3 k3 l0 x4_2 x6_2 t1245 (!t1249) ((rd_T113 l0 x6_2).f0) ((rd_T113 l0 x6_2).f1) ((rd_T113 l0 x6_2).f2) t1245) = some (r1, r2) := H
                                have A36 := Aside0.mk A360
                                clear A360
                                have H' := Aside0.mk H
                                clear H
                                have hcz37_0 : w32.cell? ⟨gb1248, 0, none⟩ = some (.int .i64 0) := (blk_cell BK1248.out 0).trans rfl
                                have hcz37_1 : w32.cell? ⟨gb1248, 1, none⟩ = some (.int .u64 0) := (blk_cell BK1248.out 1).trans rfl
                                have hcz37_2 : w32.cell? ⟨gb1248, 2, none⟩ = some (.int .u64 0) := (blk_cell BK1248.out 2).trans rfl
                                have hcz37_3 : w32.cell? ⟨gb1248, 3, none⟩ = some (.int .i64 0) := (blk_cell BK1248.out 3).trans rfl
                                have hfz37_0 := blk_frozen BK1248.out 0
                                have hfz37_1 := blk_frozen BK1248.out 1
                                have hfz37_2 := blk_frozen BK1248.out 2
                                have hfz37_3 := blk_frozen BK1248.out 3
                                try have hds37 : ((((w32.setCell ⟨gb1248, 0, none⟩ (.int .i64 (rd_T113 l0 x6_2).f0)).setCell ⟨gb1248, 1, none⟩ (.int .u64 (rd_T113 l0 x6_2).f1)).setCell ⟨gb1248, 2, none⟩ (.int .u64 (rd_T113 l0 x6_2).f2)).setCell ⟨gb1248, 3, none⟩ (.int .i64 (rd_T113 l0 x6_2).f3)).cell? ⟨gb1248, 3, none⟩ = some (.int .i64 (rd_T113 l0 x6_2).f3) := by go_simp
                                go_wp2_with (first | (go_at_call 110; (with_reducible refine (quittanceref20_May.calls ((rd_T113 l0 x6_2).f0) ((rd_T113 l0 x6_2).f1) ((rd_T113 l0 x6_2).f2) t1245 t1249 _ A36.out).mono ?_); rintro e w38 ⟨rfl, hb⟩; have n0_ := Aside0.mk (Kd.R_below (by (with_reducible repeat (first | apply Kd.R_alloc | apply Kd.R_drewN | apply Kd.R_drew)); exact (Kd.R_mono (Kd.R_far (p := ⟨gb1248, 3, none⟩) (Kd.R_far (p := ⟨gb1248, 3, none⟩) (Kd.R_far (p := ⟨gb1248, 2, none⟩) (Kd.R_far (p := ⟨gb1248, 1, none⟩) (Kd.R_far (p := ⟨gb1248, 0, none⟩) (Kd.R_mono HO_4.out (fun k_ hk => (⟨hk, hk.2⟩ : _ ∧ k_ ≠ gb1248))) (fun _ hk => hk.2) (.int .i64 ((rd_T113 l0 x6_2).f0))) (fun _ hk => hk.2) (.int .u64 ((rd_T113 l0 x6_2).f1))) (fun _ hk => hk.2) (.int .u64 ((rd_T113 l0 x6_2).f2))) (fun _ hk => hk.2) (.int .i64 ((rd_T113 l0 x6_2).f3))) (fun _ hk => hk.2) (.int .i64 t1245)) (fun _ h_ => h_.1))) hb); have n1_ := Aside0.mk (Kd.R_below (by (with_reducible repeat (first | apply Kd.R_alloc | apply Kd.R_drewN | apply Kd.R_drew)); exact (Kd.R_mono (Kd.R_far (p := ⟨gb1248, 3, none⟩) (Kd.R_far (p := ⟨gb1248, 3, none⟩) (Kd.R_far (p := ⟨gb1248, 2, none⟩) (Kd.R_far (p := ⟨gb1248, 1, none⟩) (Kd.R_far (p := ⟨gb1248, 0, none⟩) (Kd.R_mono HO_7.out (fun k_ hk => (⟨hk, hk.2⟩ : _ ∧ k_ ≠ gb1248))) (fun _ hk => hk.2) (.int .i64 ((rd_T113 l0 x6_2).f0))) (fun _ hk => hk.2) (.int .u64 ((rd_T113 l0 x6_2).f1))) (fun _ hk => hk.2) (.int .u64 ((rd_T113 l0 x6_2).f2))) (fun _ hk => hk.2) (.int .i64 ((rd_T113 l0 x6_2).f3))) (fun _ hk => hk.2) (.int .i64 t1245)) (fun _ h_ => h_.1))) hb); have n2_ := Aside0.mk (blk_below (g := gb1248) (o := .cells #[.int .i64 ((rd_T113 l0 x6_2).f0), .int .u64 ((rd_T113 l0 x6_2).f1), .int .u64 ((rd_T113 l0 x6_2).f2), .int .i64 t1245] 113 (0, 0)) (by (with_reducible repeat (first | refine blk_drewN ?_ _ | refine blk_drew ?_ | refine blk_alloc ?_ _)); refine blk_put (cs := #[.int .i64 ((rd_T113 l0 x6_2).f0), .int .u64 ((rd_T113 l0 x6_2).f1), .int .u64 ((rd_T113 l0 x6_2).f2), .int .i64 ((rd_T113 l0 x6_2).f3)]) ?_ 3 _ rfl; (with_reducible repeat (first | refine blk_drewN ?_ _ | refine blk_drew ?_ | refine blk_alloc ?_ _)); refine blk_put (cs := #[.int .i64 ((rd_T113 l0 x6_2).f0), .int .u64 ((rd_T113 l0 x6_2).f1), .int .u64 ((rd_T113 l0 x6_2).f2), .int .i64 0]) ?_ 3 _ rfl; (with_reducible repeat (first | refine blk_drewN ?_ _ | refine blk_drew ?_ | refine blk_alloc ?_ _)); refine blk_put (cs := #[.int .i64 ((rd_T113 l0 x6_2).f0), .int .u64 ((rd_T113 l0 x6_2).f1), .int .u64 0, .int .i64 0]) ?_ 2 _ rfl; (with_reducible repeat (first | refine blk_drewN ?_ _ | refine blk_drew ?_ | refine blk_alloc ?_ _)); refine blk_put (cs := #[.int .i64 ((rd_T113 l0 x6_2).f0), .int .u64 0, .int .u64 0, .int .i64 0]) ?_ 1 _ rfl; (with_reducible repeat (first | refine blk_drewN ?_ _ | refine blk_drew ?_ | refine blk_alloc ?_ _)); refine blk_put (cs := #[.int .i64 0, .int .u64 0, .int .u64 0, .int .i64 0]) ?_ 0 _ rfl; (with_reducible repeat (first | refine blk_drewN ?_ _ | refine blk_drew ?_ | refine blk_alloc ?_ _)); exact BK1248.out) hb); have n3_ := Aside0.mk (below_step (by repeat (first | (with_reducible first | exact HB.out | apply below_alloc | apply pw_below_drewN | apply below_drew1 | refine below_set ?_ GE1248.out) | exact HB.out)) hb); clear HO_4; clear HO_7; clear BK1248; clear HB; have HO_4 := n0_; have HO_7 := n1_; have BK1248 := n2_; have HB := n3_; clear n0_ n1_ n2_ n3_; (try clear hb); (try clear hb2); (try clear hk); (try clear hi)))
                                go_meet
                                case rel => exact ⟨_, (!t1249), (by first | rfl | (simp; done) | (simp [*]; done)), H', ⟨by have := HK1.out; have := HK2.out; have := HK3.out; first | omega | exact Nat.le_refl _⟩, ⟨by (with_reducible repeat (first | apply Kd.R_alloc | apply Kd.R_drewN | apply Kd.R_drew)); exact Kd.R_mono HO_4.out (fun _ hk => hk.2)⟩, ⟨by (with_reducible repeat (first | refine blk_drewN ?_ _ | refine blk_drew ?_ | refine blk_alloc ?_ _)); exact BK1248.out⟩, ⟨by repeat (first | (with_reducible first | exact HB.out | apply below_alloc | apply pw_below_drewN | apply below_drew1 | refine below_set ?_ GE1248.out) | exact HB.out)⟩⟩
                            · replace c34 := Bool.eq_false_iff.mpr c34
                              subst c34
                              have H1 : (quittanceref20_Tidy.j3 k3 l0 x4_2 x6_2 t1245 true ((rd_T113 l0 x6_2).f0) ((rd_T113 l0 x6_2).f1) ((rd_T113 l0 x6_2).f2) t1245) = some (r1, r2) := by rw [if_neg (show ¬ (false = true) by decide)] at H; exact H
                              clear H
                              have H := H1
                              clear H1
                              have H' := Aside0.mk H
                              clear H
                              go_wp2
                              go_meet
                              case rel => exact ⟨_, (true), (by first | rfl | (simp; done) | (simp [*]; done)), H', ⟨by have := HK1.out; have := HK2.out; have := HK3.out; first | omega | exact Nat.le_refl _⟩, ⟨by (with_reducible repeat (first | apply Kd.R_alloc | apply Kd.R_drewN | apply Kd.R_drew)); exact Kd.R_mono (Kd.R_far (p := ⟨gb1248, 3, none⟩) (Kd.R_far (p := ⟨gb1248, 3, none⟩) (Kd.R_far (p := ⟨gb1248, 2, none⟩) (Kd.R_far (p := ⟨gb1248, 1, none⟩) (Kd.R_far (p := ⟨gb1248, 0, none⟩) (Kd.R_mono HO_4.out (fun k_ hk => (⟨hk, hk.2⟩ : _ ∧ k_ ≠ gb1248))) (fun _ hk => hk.2) (.int .i64 ((rd_T113 l0 x6_2).f0))) (fun _ hk => hk.2) (.int .u64 ((rd_T113 l0 x6_2).f1))) (fun _ hk => hk.2) (.int .u64 ((rd_T113 l0 x6_2).f2))) (fun _ hk => hk.2) (.int .i64 ((rd_T113 l0 x6_2).f3))) (fun _ hk => hk.2) (.int .i64 t1245)) (fun _ hk => hk.1.2)⟩, ⟨by (with_reducible repeat (first | refine blk_drewN ?_ _ | refine blk_drew ?_ | refine blk_alloc ?_ _)); refine blk_put (cs := #[.int .i64 ((rd_T113 l0 x6_2).f0), .int .u64 ((rd_T113 l0 x6_2).f1), .int .u64 ((rd_T113 l0 x6_2).f2), .int .i64 ((rd_T113 l0 x6_2).f3)]) ?_ 3 _ rfl; (with_reducible repeat (first | refine blk_drewN ?_ _ | refine blk_drew ?_ | refine blk_alloc ?_ _)); refine blk_put (cs := #[.int .i64 ((rd_T113 l0 x6_2).f0), .int .u64 ((rd_T113 l0 x6_2).f1), .int .u64 ((rd_T113 l0 x6_2).f2), .int .i64 0]) ?_ 3 _ rfl; (with_reducible repeat (first | refine blk_drewN ?_ _ | refine blk_drew ?_ | refine blk_alloc ?_ _)); refine blk_put (cs := #[.int .i64 ((rd_T113 l0 x6_2).f0), .int .u64 ((rd_T113 l0 x6_2).f1), .int .u64 0, .int .i64 0]) ?_ 2 _ rfl; (with_reducible repeat (first | refine blk_drewN ?_ _ | refine blk_drew ?_ | refine blk_alloc ?_ _)); refine blk_put (cs := #[.int .i64 ((rd_T113 l0 x6_2).f0), .int .u64 0, .int .u64 0, .int .i64 0]) ?_ 1 _ rfl; (with_reducible repeat (first | refine blk_drewN ?_ _ | refine blk_drew ?_ | refine blk_alloc ?_ _)); refine blk_put (cs := #[.int .i64 0, .int .u64 0, .int .u64 0, .int .i64 0]) ?_ 0 _ rfl; (with_reducible repeat (first | refine blk_drewN ?_ _ | refine blk_drew ?_ | refine blk_alloc ?_ _)); exact BK1248.out⟩, ⟨by repeat (first | (with_reducible first | exact HB.out | apply below_alloc | apply pw_below_drewN | apply below_drew1 | refine below_set ?_ GE1248.out) | exact HB.out)⟩⟩
                          case rest =>
                            clear HC29
                            try clear c1
                            try clear p1
                            try clear q1
                            try clear hx1
                            try clear c2
                            try clear p2
                            try clear c3
                            try clear c5
                            try clear p6
                            try clear c8
                            try clear c8b0
                            try clear c9
                            try clear c9b0
                            try clear c10
                            try clear c10b0
                            try clear c11
                            try clear c11b0
                            try clear c12
                            try clear c12b0
                            try clear p12
                            try clear q12
                            try clear hx12
                            try clear c14
                            try clear c15
                            try clear c16
                            try clear c25
                            try clear c27
                            try clear c27b0
                            try clear c28
                            try clear c28b0
                            try clear c34
                            try clear c35
                            try clear c35b0
                            try clear c35b1
                            try clear hcz33_0
                            try clear hcz33_1
                            try clear hcz33_2
                            try clear hcz33_3
                            try clear hcz37_0
                            try clear hcz37_1
                            try clear hcz37_2
                            try clear hcz37_3
                            try clear hfz33_0
                            try clear hfz33_1
                            try clear hfz33_2
                            try clear hfz33_3
                            try clear hfz37_0
                            try clear hfz37_1
                            try clear hfz37_2
                            try clear hfz37_3
                            try clear hx1236_0
                            try clear hx1236_1
                            try clear hx1236_2
                            try clear hx1236_3
                            try clear hx1238_0
                            try clear hx1238_1
                            try clear hx1238_2
                            try clear hx1238_3
                            try clear hx1239_0
                            try clear hx1239_1
                            try clear hx1239_2
                            try clear hx1239_3
                            try clear hx1241_0
                            try clear hx1241_1
                            try clear hx1241_2
                            try clear hx1241_3
                            try clear hx1247_0
                            try clear hx1247_1
                            try clear hx1247_2
                            try clear hx1247_3
                            try clear p1
                            try clear p1236
                            try clear p1238
                            try clear p1239
                            try clear p1241
                            try clear p1247
                            try clear p2
                            try clear p6
                            try clear q1
                            try clear q1236
                            try clear q1238
                            try clear q1239
                            try clear q1241
                            try clear q1247
                            obtain ⟨kq, x82_28, rfl, HA, HJ28, HO_4, BK1248, HB⟩ := hcut
                            cases kq with
                            | zero => exact absurd HA.out (by simp [quittanceref20_Tidy.j3])
                            | succ kj28 =>
                              have H := HA.out
                              clear HA
                              simp only [quittanceref20_Tidy.j3] at H
                              by_cases c39 : x82_28 = true
                              · subst c39
                                have H1 : (some (([] : List (S113)), 2)) = some (r1, r2) := by rw [if_pos rfl] at H; exact H
                                clear H
                                have H := H1
                                clear H1
                                simp only [Option.some.injEq, Prod.mk.injEq] at H
                                obtain ⟨rfl, rfl⟩ := H
                                go_wp2
                                go_ret2
                                exact ⟨_, by first | rfl | (simp [errW_none, errW_some] <;> rfl) | (simp [*, errW_none, errW_some] <;> rfl), by first | exact Kd.R_nil _ _ _ _ _ | exact Kd.N_nil _ _ _ _ _ | exact Kd.V_nil _ _ _ _ _ | exact Kd.Q_nil _ _ _ _ _ | exact Kd.S_nil _ _ _ _ _, by repeat (first | (with_reducible first | exact HB.out | apply below_alloc | apply pw_below_drewN | apply below_drew1 | refine below_set ?_ GE1248.out) | exact HB.out)⟩
                              · replace c39 := Bool.eq_false_iff.mpr c39
                                subst c39
                                have H1 : (if t1245 = 0 then (quittanceref20_Tidy.l1 kj28 l0 x4_2 (wrap64 (x6_2 + 1))) else ((quittanceref20_put.f kj28 x4_2 ((rd_T113 l0 x6_2).f0) ((rd_T113 l0 x6_2).f1) ((rd_T113 l0 x6_2).f2) t1245).bind fun t1250 => (quittanceref20_Tidy.l1 kj28 l0 t1250 (wrap64 (x6_2 + 1))))) = some (r1, r2) := by rw [if_neg (show ¬ (false = true) by decide)] at H; exact H
                                clear H
                                have H := H1
                                clear H1
                                by_cases c40 : t1245 = 0
                                · rw [if_pos c40] at H
                                  have c40b0 : (t1245 == 0) = true := beq_iff_eq.mpr c40
                                  have c40b1 : (t1245 != 0) = false := bne_eq_false_iff_eq.mpr c40
                                  clear c40
                                  have H' := Aside0.mk H
                                  clear H
                                  go_wp2
                                  go_roundg kj28
                                  case measure => have := HK1.out; have := HK2.out; have := HK3.out; have := HJ28.out; omega
                                  case rel => exact ⟨(x4_2), (wrap64 (x6_2 + 1)), (by first | rfl | (simp; done) | (simp [*]; done)), H', ⟨by have := HK1.out; have := HK2.out; have := HK3.out; have := HJ28.out; omega⟩, ⟨by (with_reducible repeat (first | apply Kd.R_alloc | apply Kd.R_drewN | apply Kd.R_drew)); exact Kd.R_mono HO_4.out (fun _ hk => trivial)⟩, ⟨by repeat (first | (with_reducible first | exact HB.out | apply below_alloc | apply pw_below_drewN | apply below_drew1 | refine below_set ?_ GE1248.out) | exact HB.out)⟩⟩
                                · rw [if_neg c40] at H
                                  have c40b0 : (t1245 == 0) = false := beq_eq_false_iff_ne.mpr c40
                                  have c40b1 : (t1245 != 0) = true := bne_iff_ne.mpr c40
                                  replace H := Option.bind_eq_some_iff.mp H
                                  obtain ⟨t1250, A410, H⟩ := H
                                  replace H : (quittanceref20_Tidy.l1 kj28 l0 t1250 (wrap64 (x6_2 + 1))) = some (r1, r2) := H
                                  have A41 := Aside0.mk A410
                                  clear A410
                                  have H' := Aside0.mk H
                                  clear H
                                  have hcz42_0 : wc.cell? ⟨gb1248, 0, none⟩ = some (.int .i64 ((rd_T113 l0 x6_2).f0)) := (blk_cell BK1248.out 0).trans rfl
                                  have hcz42_1 : wc.cell? ⟨gb1248, 1, none⟩ = some (.int .u64 ((rd_T113 l0 x6_2).f1)) := (blk_cell BK1248.out 1).trans rfl
                                  have hcz42_2 : wc.cell? ⟨gb1248, 2, none⟩ = some (.int .u64 ((rd_T113 l0 x6_2).f2)) := (blk_cell BK1248.out 2).trans rfl
                                  have hcz42_3 : wc.cell? ⟨gb1248, 3, none⟩ = some (.int .i64 t1245) := (blk_cell BK1248.out 3).trans rfl
                                  have hfz42_0 := blk_frozen BK1248.out 0
                                  have hfz42_1 := blk_frozen BK1248.out 1
                                  have hfz42_2 := blk_frozen BK1248.out 2
                                  have hfz42_3 := blk_frozen BK1248.out 3
                                  obtain ⟨Ao43, co43, eo43⟩ := Kd.R_slice HO_4.out
                                  subst eo43
                                  go_wp2_with (first | ((with_reducible refine gate_callee (f := 113) rfl ?_); refine goesL_ (some 87) rfl rfl Try.func113 (by kernel_rfl) rfl #[.slice Ao43 x4_2.length co43, .agg #[.int .i64 ((rd_T113 l0 x6_2).f0), .int .u64 ((rd_T113 l0 x6_2).f1), .int .u64 ((rd_T113 l0 x6_2).f2), .int .i64 t1245]] rfl (by (try simp only [List.map_toArray, List.map_cons, List.map_nil]); first | done | rfl | (simp only [List.length_drop, List.length_take]; rfl)) ?_; (with_reducible refine (quittanceref20_put.calls kj28 _ _ x4_2 ((rd_T113 l0 x6_2).f0) ((rd_T113 l0 x6_2).f1) ((rd_T113 l0 x6_2).f2) t1245 t1250 _ ?side1 ?side2 A41.out).mono ?_); (case side1 => repeat (first | exact (Kd.R_reads' HO_4.out).2.2 | (with_reducible refine Kd.C_alloc ?_ _) | (with_reducible refine Kd.C_drewN ?_ _) | (with_reducible refine Kd.C_drew ?_))); (case side2 => exact (Kd.R_reads' HO_4.out).2.1); rintro e w44 ⟨v1251, rfl, ho0, hb⟩; refine ⟨_, rfl, ?_⟩; have n0_ := Aside0.mk (Kd.R_elder' (by (with_reducible repeat (first | apply Kd.R_alloc | apply Kd.R_drewN | apply Kd.R_drew)); exact HO_4.out) (Kd.R_base ho0) hb); have n1_ := Aside0.mk (Kd.R_lower (Kd.R_newB (Kd.R_new' ho0 (Kd.R_lt (by (with_reducible repeat (first | apply Kd.R_alloc | apply Kd.R_drewN | apply Kd.R_drew)); exact HO_4.out))) (g := gb1248) (o := .cells #[.int .i64 ((rd_T113 l0 x6_2).f0), .int .u64 ((rd_T113 l0 x6_2).f1), .int .u64 ((rd_T113 l0 x6_2).f2), .int .i64 t1245] 113 (0, 0)) (by (with_reducible repeat (first | refine blk_drewN ?_ _ | refine blk_drew ?_ | refine blk_alloc ?_ _)); exact BK1248.out)) (below_size (by repeat (first | (with_reducible first | exact HB.out | apply below_alloc | apply pw_below_drewN | apply below_drew1 | refine below_set ?_ GE1248.out) | exact HB.out)))); have n2_ := Aside0.mk (blk_below (g := gb1248) (o := .cells #[.int .i64 ((rd_T113 l0 x6_2).f0), .int .u64 ((rd_T113 l0 x6_2).f1), .int .u64 ((rd_T113 l0 x6_2).f2), .int .i64 t1245] 113 (0, 0)) (by (with_reducible repeat (first | refine blk_drewN ?_ _ | refine blk_drew ?_ | refine blk_alloc ?_ _)); exact BK1248.out) hb); have n3_ := Aside0.mk (below_step (by repeat (first | (with_reducible first | exact HB.out | apply below_alloc | apply pw_below_drewN | apply below_drew1 | refine below_set ?_ GE1248.out) | exact HB.out)) hb); clear HO_4; clear BK1248; clear HB; have HO_4 := n0_; have HO1252 := n1_; have BK1248 := n2_; have HB := n3_; clear n0_ n1_ n2_ n3_; (try clear hb); (try clear hb2); (try clear hk); (try clear hi); (try clear ho0)))
                                  go_roundg kj28
                                  case measure => have := HK1.out; have := HK2.out; have := HK3.out; have := HJ28.out; omega
                                  case rel => exact ⟨(t1250), (wrap64 (x6_2 + 1)), (by first | rfl | (simp; done) | (simp [*]; done)), H', ⟨by have := HK1.out; have := HK2.out; have := HK3.out; have := HJ28.out; omega⟩, ⟨by (with_reducible repeat (first | apply Kd.R_alloc | apply Kd.R_drewN | apply Kd.R_drew)); exact Kd.R_mono HO1252.out (fun _ hk => trivial)⟩, ⟨by repeat (first | (with_reducible first | exact HB.out | apply below_alloc | apply pw_below_drewN | apply below_drew1 | refine below_set ?_ GE1248.out) | exact HB.out)⟩⟩
                        · rw [if_neg c28] at H
                          exact absurd H (by simp)
                      · rw [if_neg c27] at H
                        exact absurd H (by simp)
                    · replace c25 := Bool.eq_false_iff.mpr c25
                      subst c25
                      have H1 : (quittanceref20_Tidy.l1 k3 l0 x4_2 (wrap64 (x6_2 + 1))) = some (r1, r2) := by rw [if_neg (show ¬ (false = true) by decide)] at H; exact H
                      clear H
                      have H := H1
                      clear H1
                      have H' := Aside0.mk H
                      clear H
                      go_wp2
                      go_roundg k3
                      case measure => have := HK1.out; have := HK2.out; have := HK3.out; omega
                      case rel => exact ⟨(x4_2), (wrap64 (x6_2 + 1)), (by first | rfl | (simp; done) | (simp [*]; done)), H', ⟨by have := HK1.out; have := HK2.out; have := HK3.out; omega⟩, ⟨by (with_reducible repeat (first | apply Kd.R_alloc | apply Kd.R_drewN | apply Kd.R_drew)); exact Kd.R_mono HO_4.out (fun _ hk => trivial)⟩, ⟨by repeat (first | (with_reducible first | exact HB.out | apply below_alloc | apply pw_below_drewN | apply below_drew1) | exact HB.out)⟩⟩
            · rw [if_neg c8] at H
              have c8b0 : decide (x6_2 < (l0.length : Int)) = false := decide_eq_false c8
              clear c8
              simp only [Option.some.injEq, Prod.mk.injEq] at H
              obtain ⟨rfl, rfl⟩ := H
              go_wp2
              go_ret2
              exact ⟨_, by first | rfl | (simp [errW_none, errW_some] <;> rfl) | (simp [*, errW_none, errW_some] <;> rfl), by (with_reducible repeat (first | apply Kd.R_alloc | apply Kd.R_drewN | apply Kd.R_drew)); exact HO_4.out, by repeat (first | (with_reducible first | exact HB.out | apply below_alloc | apply pw_below_drewN | apply below_drew1) | exact HB.out)⟩

end Go.Proofs.Ytaoejonkiikhmaa.G

/- The document's journal, in plain Lean: sums, lists that are the same, and lines tidied: what the printed functions tell is what journal.Tidy's contract tells. -/
namespace Go.Proofs.Ytaoejonkiikhmaa.G
open Go.RowKit Go.Proofs.YtaoejonkiikhmaaW.PrintWords Go.Proofs.YtaoejonkiikhmaaW.PrintLast Go.Proofs.YtaoejonkiikhmaaW.PrintMore
set_option linter.unusedVariables false
set_option linter.unusedSimpArgs false
theorem wrap_succ {n m : Nat} (h : n < m) (hm : m ≤ 9223372036854775807) : wrap64 ((n : Int) + 1) = ((n + 1 : Nat) : Int) := by unfold wrap64; omega
theorem rd_mid (pre : List Int) (x : Int) (r : List Int) : Go.Proofs.YtaoejonkiikhmaaW.PrintWords.rd (pre ++ x :: r) (pre.length : Int) = x := by
  simp [Go.Proofs.YtaoejonkiikhmaaW.PrintWords.rd]
theorem rdL_mid (pre : List Line) (x : Line) (r : List Line) : rd_T113 (pre ++ x :: r) (pre.length : Int) = x := by
  simp [rd_T113]
theorem mid_lt {α : Type} (pre : List α) (x : α) (r : List α) : (pre.length : Int) < ((pre ++ x :: r).length : Int) := by simp; omega
theorem mid_next {α : Type} (pre : List α) (x : α) (r : List α) (h : (pre ++ x :: r).length ≤ 1000000) : wrap64 ((pre.length : Int) + 1) = ((pre ++ [x]).length : Int) := by
  have : (pre ++ x :: r).length = pre.length + (r.length + 1) := by simp
  rw [List.length_append, List.length_singleton]
  unfold wrap64
  omega
theorem not_lt_end {α : Type} (l : List α) : ¬ ((l.length : Int) < (l.length : Int)) := by omega

/-! ### Lists that are the same -/
theorem same_l0 (l : List Line) (hl : l.length ≤ 1000000) : ∀ (r pre : List Line), pre ++ r = l → Ev (fun k => quittanceref20_SameLines.l0 k l l (pre.length : Int)) true
  | [], pre, h => by
    rw [List.append_nil] at h
    subst h
    refine Ev.step (f := fun _ => some true) (fun k => ?_) (Ev.now _)
    simp only [quittanceref20_SameLines.l0]
    rw [if_neg (not_lt_end _)]
  | x :: r, pre, h => by
    refine Ev.step (f := fun k => quittanceref20_SameLines.l0 k l l ((pre ++ [x]).length : Int)) (fun k => ?_) (same_l0 l hl r (pre ++ [x]) (by rw [← h]; simp))
    simp only [quittanceref20_SameLines.l0]
    subst h
    rw [if_pos (mid_lt pre x r), if_pos (by omega), if_pos (mid_lt pre x r), mid_next pre x r hl]
    simp
theorem same_ev (l : List Line) (hl : l.length ≤ 1000000) : Ev (fun k => quittanceref20_SameLines.f k l l) true := by
  refine Ev.congr (f := fun k => quittanceref20_SameLines.l0 k l l (([] : List Line).length : Int)) (fun k => ?_) (same_l0 l hl l [] rfl)
  unfold quittanceref20_SameLines.f
  rw [if_pos rfl]
  rfl

/-! ### Sums -/
theorem and_low (n : Int) : Go.bits .and .i64 n 4294967295 = n % 4294967296 := by
  have h127 : (BitVec.ofInt 64 4294967295).toNat = 2 ^ 32 - 1 := by decide
  have key : (BitVec.ofInt 64 n &&& BitVec.ofInt 64 4294967295).toNat = (n % ((2 ^ 64 : Nat) : Int)).toNat % 2 ^ 32 := by
    rw [BitVec.toNat_and, BitVec.toNat_ofInt, h127, Nat.and_two_pow_sub_one_eq_mod]
  show IntKind.i64.wrap ((BitVec.ofInt 64 n &&& BitVec.ofInt 64 4294967295).toNat : Nat) = n % 4294967296
  rw [key, IntKind.wrap_i64]
  omega
def his (l : List Int) : Int := (l.map fun x => x / 4294967296).sum
def los (l : List Int) : Int := (l.map fun x => x % 4294967296).sum
theorem his_snoc (l : List Int) (x : Int) : his (l ++ [x]) = his l + x / 4294967296 := by simp [his]
theorem los_snoc (l : List Int) (x : Int) : los (l ++ [x]) = los l + x % 4294967296 := by simp [los]
theorem halves (l : List Int) (h : l.all i64ok = true) : l.sum = 4294967296 * his l + los l ∧ 0 ≤ los l ∧ los l ≤ 4294967296 * l.length ∧ -(2147483648 * (l.length : Int)) ≤ his l ∧ his l ≤ 2147483648 * l.length := by
  induction l with
  | nil => simp [his, los]
  | cons x r ih =>
    simp only [List.all_cons, Bool.and_eq_true] at h
    have hx := (i64ok_iff x).1 h.1
    have h1 := ih h.2
    simp only [his, los, List.map_cons, List.sum_cons, List.length_cons] at h1 ⊢
    generalize (r.map fun x => x / 4294967296).sum = a at h1 ⊢
    generalize (r.map fun x => x % 4294967296).sum = b at h1 ⊢
    push_cast
    omega
theorem sum07_l0 (l : List Int) (hl : l.length ≤ 1000000) (hok : l.all i64ok = true) : ∀ (r pre : List Int), pre ++ r = l → Ev (fun k => quittanceref07_Sum.l0 k l (his pre) (los pre) (pre.length : Int)) (sumR l.sum)
  | [], pre, h => by
    rw [List.append_nil] at h
    subst h
    refine Ev.step (f := fun _ => some (sumR pre.sum)) (fun k => ?_) (Ev.now _)
    obtain ⟨hs, h1, h2, h3, h4⟩ := halves pre hok
    simp only [quittanceref07_Sum.l0]
    rw [if_neg (not_lt_end _), and_low]
    have hw : wrap64 (his pre + los pre / 4294967296) = pre.sum / 4294967296 := by unfold wrap64; omega
    rw [hw]
    unfold sumR
    by_cases c1 : pre.sum / 4294967296 < -2147483648
    · rw [if_pos c1, if_neg (by rw [i64ok_iff]; omega)]
    · rw [if_neg c1]
      by_cases c2 : pre.sum / 4294967296 ≥ 2147483648
      · rw [if_pos c2, if_neg (by rw [i64ok_iff]; omega)]
      · rw [if_neg c2, if_pos (by rw [i64ok_iff]; omega)]
        have : wrap64 (wrap64 (pre.sum / 4294967296 * 4294967296) + los pre % 4294967296) = pre.sum := by unfold wrap64; omega
        rw [this]
  | x :: r, pre, h => by
    refine Ev.step (f := fun k => quittanceref07_Sum.l0 k l (his (pre ++ [x])) (los (pre ++ [x])) ((pre ++ [x]).length : Int)) (fun k => ?_) (sum07_l0 l hl hok r (pre ++ [x]) (by rw [← h]; simp))
    simp only [quittanceref07_Sum.l0]
    subst h
    rw [if_pos (mid_lt pre x r), if_pos (by omega), rd_mid, and_low, mid_next pre x r hl, his_snoc, los_snoc]
    have hp : pre.all i64ok = true := by
      rw [List.all_append, Bool.and_eq_true] at hok
      exact hok.1
    have hx : -9223372036854775808 ≤ x ∧ x ≤ 9223372036854775807 := by
      rw [List.all_append, Bool.and_eq_true, List.all_cons, Bool.and_eq_true] at hok
      exact (i64ok_iff x).1 hok.2.1
    obtain ⟨hs, h1, h2, h3, h4⟩ := halves pre hp
    have hlen : pre.length ≤ 1000000 := by
      have : (pre ++ x :: r).length = pre.length + (r.length + 1) := by simp
      omega
    have w1 : wrap64 (his pre + x / 4294967296) = his pre + x / 4294967296 := by unfold wrap64; omega
    have w2 : wrap64 (los pre + x % 4294967296) = los pre + x % 4294967296 := by unfold wrap64; omega
    rw [w1, w2]
theorem sum07_ev (l : List Int) (hl : l.length ≤ 1000000) (hok : l.all i64ok = true) : Ev (fun k => quittanceref07_Sum.f k l) (sumR l.sum) :=
  sum07_l0 l hl hok l [] rfl
def amts (l : List Line) : List Int := l.map fun x => x.f3
theorem amts_ok {l : List Line} (h : l.all okL = true) : (amts l).all i64ok = true := by
  rw [List.all_eq_true]
  intro y hy
  obtain ⟨x, hx, rfl⟩ := List.mem_map.1 hy
  exact (i64ok_iff _).2 ((okL_iff x).1 (List.all_eq_true.1 h x hx)).2.2.2
theorem sum20_l0 (l : List Line) (hl : l.length ≤ 1000000) (hok : l.all okL = true) : ∀ (r pre : List Line), pre ++ r = l → Ev (fun k => quittanceref20_Sum.l0 k l (amts pre) (pre.length : Int)) (sumR (amts l).sum)
  | [], pre, h => by
    rw [List.append_nil] at h
    subst h
    refine Ev.step (f := fun k => (quittanceref07_Sum.f k (amts pre)).bind fun bt => some (bt.1, bt.2)) (fun k => ?_) (Ev.bind (sum07_ev (amts pre) (by simp [amts]; exact hl) (amts_ok hok)) (Ev.now _))
    simp only [quittanceref20_Sum.l0]
    rw [if_neg (not_lt_end _)]
  | x :: r, pre, h => by
    refine Ev.step (f := fun k => quittanceref20_Sum.l0 k l (amts (pre ++ [x])) ((pre ++ [x]).length : Int)) (fun k => ?_) (sum20_l0 l hl hok r (pre ++ [x]) (by rw [← h]; simp))
    simp only [quittanceref20_Sum.l0]
    subst h
    have hlen : (pre ++ x :: r).length = pre.length + (r.length + 1) := by simp
    rw [if_pos (mid_lt pre x r), if_pos (by omega), if_pos (by simp [amts]; omega), rdL_mid, mid_next pre x r hl]
    simp [amts]
theorem sum20_ev (l : List Line) (hl : l.length ≤ 1000000) (hok : l.all okL = true) : Ev (fun k => quittanceref20_Sum.f k l) (sumR (amts l).sum) :=
  sum20_l0 l hl hok l [] rfl

/-! ### Lines -/
theorem may20_f (x : Line) : quittanceref20_May.f x.f0 x.f1 x.f2 x.f3 = some (mayB x) := by
  unfold quittanceref20_May.f mayB within62
  by_cases h1 : x.f0 ≥ 1
  · by_cases h2 : x.f0 ≤ 9999
    · by_cases h3 : x.f3 = 0
      · simp [h1, h2, h3]
      · by_cases h4 : x.f3 ≥ -4611686018427387904
        · simp [h1, h2, h3, h4]
        · simp [h1, h2, h3, h4]
    · simp [h1, h2]
  · simp [h1]
theorem alike_f (x y : Line) : quittanceref20_alike.f x.f0 x.f1 x.f2 x.f3 y.f0 y.f1 y.f2 y.f3 = some (decide (keyT x = keyT y)) := by
  unfold quittanceref20_alike.f keyT
  by_cases h1 : x.f0 = y.f0
  · by_cases h2 : x.f1 = y.f1
    · simp [h1, h2, Bool.beq_eq_decide_eq]
    · simp [h1, h2]
  · simp [h1]
theorem less_f (x y : Line) : quittanceref20_Less.f x.f0 x.f1 x.f2 x.f3 y.f0 y.f1 y.f2 y.f3 = some (decide (ltT (keyT x) (keyT y))) := by
  unfold quittanceref20_Less.f ltT keyT
  by_cases h1 : x.f0 = y.f0
  · by_cases h2 : x.f1 = y.f1
    · simp [h1, h2]
    · simp [h1, h2]
  · simp [h1]
def lessB (x y : Line) : Bool := decide (ltT (keyT x) (keyT y))
/-- A line in its place. -/
def putP (x : Line) : List Line → List Line
  | [] => [x]
  | y :: r => if lessB y x = true then y :: putP x r else x :: y :: r
theorem put_l0 (l : List Line) (hl : l.length ≤ 1000000) (x : Line) : ∀ (r pre : List Line), pre ++ r = l → Ev (fun k => quittanceref20_put.l0 k l (pre.length : Int) x.f0 x.f1 x.f2 x.f3) (pre ++ putP x r)
  | [], pre, h => by
    rw [List.append_nil] at h
    subst h
    refine Ev.step (f := fun _ => some (pre ++ [x])) (fun k => ?_) (Ev.now _)
    simp only [quittanceref20_put.l0, Option.bind_some]
    rw [if_neg (not_lt_end _), if_pos (by omega), if_pos (by omega)]
    rw [if_pos (by simp; omega), if_pos (by simp; omega), if_pos (by simp; omega)]
    simp
  | y :: r, pre, h => by
    by_cases hy : lessB y x = true
    · refine Ev.step (f := fun k => quittanceref20_put.l0 k l ((pre ++ [y]).length : Int) x.f0 x.f1 x.f2 x.f3) (fun k => ?_) (by
        have := put_l0 l hl x r (pre ++ [y]) (by rw [← h]; simp)
        rw [putP, if_pos hy]
        simpa using this)
      simp only [quittanceref20_put.l0]
      subst h
      rw [if_pos (mid_lt pre y r), if_pos (by omega), rdL_mid, less_f, Option.bind_some, show decide (ltT (keyT y) (keyT x)) = lessB y x from rfl, if_pos hy, mid_next pre y r hl]
    · refine Ev.step (f := fun _ => some (pre ++ putP x (y :: r))) (fun k => ?_) (Ev.now _)
      simp only [quittanceref20_put.l0]
      subst h
      have hlen : (pre ++ y :: r).length = pre.length + (r.length + 1) := by simp
      rw [if_pos (mid_lt pre y r), if_pos (by omega), rdL_mid, less_f, Option.bind_some, show decide (ltT (keyT y) (keyT x)) = lessB y x from rfl, if_neg hy, putP, if_neg hy]
      simp only [Option.bind_some]
      rw [if_pos (by omega), if_pos (by simp; omega), if_pos (by simp; omega), if_pos (by simp; omega)]
      simp
theorem put_ev (l : List Line) (hl : l.length ≤ 1000000) (x : Line) : Ev (fun k => quittanceref20_put.f k l x.f0 x.f1 x.f2 x.f3) (putP x l) :=
  put_l0 l hl x l [] rfl
theorem putP_mem (x : Line) : ∀ (l : List Line) (g : Line), g ∈ putP x l ↔ g = x ∨ g ∈ l
  | [], g => by simp [putP]
  | y :: r, g => by
    unfold putP
    split
    · rw [List.mem_cons, putP_mem x r, List.mem_cons]
      constructor
      · rintro (h | h | h)
        · exact .inr (.inl h)
        · exact .inl h
        · exact .inr (.inr h)
      · rintro (h | h | h)
        · exact .inr (.inl h)
        · exact .inl h
        · exact .inr (.inr h)
    · rw [List.mem_cons]
theorem putP_ordered (x : Line) : ∀ (l : List Line), Ordered l → (∀ y ∈ l, keyT y ≠ keyT x) → Ordered (putP x l)
  | [], _, _ => by simp [putP, Ordered]
  | y :: r, h, hne => by
    obtain ⟨h1, h2⟩ := List.pairwise_cons.1 h
    unfold putP
    split
    · rename_i hl
      refine List.pairwise_cons.2 ⟨fun z hz => ?_, putP_ordered x r h2 (fun z hz => hne z (List.mem_cons_of_mem _ hz))⟩
      rcases (putP_mem x r z).1 hz with rfl | hz
      · exact of_decide_eq_true hl
      · exact h1 z hz
    · rename_i hl
      have hlt : ltT (keyT x) (keyT y) := by
        rcases ltT_tri (keyT x) (keyT y) with h3 | h3 | h3
        · exact h3
        · exact absurd h3.symm (hne y List.mem_cons_self)
        · exact absurd (decide_eq_true h3) hl
      refine List.pairwise_cons.2 ⟨fun z hz => ?_, h⟩
      rcases List.mem_cons.1 hz with rfl | hz
      · exact hlt
      · exact ltT_trans hlt (h1 z hz)

/-! ### Lines tidied -/
def hasK (l : List Line) (t : Title) : Bool := l.any fun x => decide (keyT x = t)
theorem hasK_iff (l : List Line) (t : Title) : hasK l t = true ↔ ∃ x ∈ l, keyT x = t := by simp [hasK]
def outP (l pre : List Line) : List Line := (grp l).filter fun g => decide (g.f3 ≠ 0) && hasK pre (keyT g)
theorem outP_ordered (l pre : List Line) : Ordered (outP l pre) := filter_ordered (grp_ordered l) _
theorem outP_len (l pre : List Line) : (outP l pre).length ≤ l.length := Nat.le_trans (List.length_filter_le _ _) (grp_len l)
theorem outP_nil (l : List Line) : outP l [] = [] := by
  unfold outP
  rw [List.filter_eq_nil_iff]
  intro g hg
  simp [hasK]
theorem outP_all (l : List Line) : outP l l = (grp l).filter fun g => decide (g.f3 ≠ 0) := by
  unfold outP
  apply List.filter_congr
  intro g hg
  rw [(hasK_iff l (keyT g)).2 ((mem_grp l g).1 hg).1, Bool.and_true]
theorem outP_again {l pre : List Line} {x : Line} (h : hasK pre (keyT x) = true) : outP l (pre ++ [x]) = outP l pre := by
  unfold outP
  apply List.filter_congr
  intro g hg
  have : hasK (pre ++ [x]) (keyT g) = hasK pre (keyT g) := by
    unfold hasK at *
    rw [List.any_append]
    by_cases e : keyT x = keyT g
    · rw [e] at h; rw [h]; rfl
    · simp [e]
  rw [this]
theorem grp_of {l : List Line} {x : Line} (h : x ∈ l) : (⟨x.f0, x.f1, x.f2, gsum l (keyT x)⟩ : Line) ∈ grp l := (mem_grp l _).2 ⟨⟨x, h, rfl⟩, rfl⟩
theorem outP_zero {l pre : List Line} {x : Line} (hz : gsum l (keyT x) = 0) : outP l (pre ++ [x]) = outP l pre := by
  unfold outP
  apply List.filter_congr
  intro g hg
  by_cases e : keyT x = keyT g
  · have := ((mem_grp l g).1 hg).2
    rw [← e, hz] at this
    simp [this]
  · have : hasK (pre ++ [x]) (keyT g) = hasK pre (keyT g) := by
      unfold hasK
      rw [List.any_append]
      simp [e]
    rw [this]
theorem outP_put {l pre : List Line} {x : Line} (hx : x ∈ l) (hk : hasK pre (keyT x) = false) (hz : gsum l (keyT x) ≠ 0) : putP ⟨x.f0, x.f1, x.f2, gsum l (keyT x)⟩ (outP l pre) = outP l (pre ++ [x]) := by
  have hkey : keyT (⟨x.f0, x.f1, x.f2, gsum l (keyT x)⟩ : Line) = keyT x := rfl
  refine ordered_eq (putP_ordered _ _ (outP_ordered l pre) (fun y hy e => ?_)) (outP_ordered l _) (fun g => ?_)
  · have := (List.mem_filter.1 hy).2
    rw [Bool.and_eq_true] at this
    rw [e, hkey, hk] at this
    cases this.2
  · rw [putP_mem]
    unfold outP
    rw [List.mem_filter, List.mem_filter]
    constructor
    · rintro (rfl | ⟨h1, h2⟩)
      · refine ⟨grp_of hx, ?_⟩
        rw [Bool.and_eq_true]
        exact ⟨by simpa using hz, (hasK_iff _ _).2 ⟨x, by simp, rfl⟩⟩
      · refine ⟨h1, ?_⟩
        rw [Bool.and_eq_true] at h2 ⊢
        refine ⟨h2.1, ?_⟩
        obtain ⟨y, hy, he⟩ := (hasK_iff _ _).1 h2.2
        exact (hasK_iff _ _).2 ⟨y, List.mem_append_left _ hy, he⟩
    · rintro ⟨h1, h2⟩
      rw [Bool.and_eq_true] at h2
      obtain ⟨y, hy, he⟩ := (hasK_iff _ _).1 h2.2
      rcases List.mem_append.1 hy with hy | hy
      · exact .inr ⟨h1, by rw [Bool.and_eq_true]; exact ⟨h2.1, (hasK_iff _ _).2 ⟨y, hy, he⟩⟩⟩
      · rw [List.mem_singleton.1 hy] at he
        left
        have h3 := ((mem_grp l g).1 h1).2
        exact line_ext (he.symm.trans hkey.symm) (by rw [h3, ← he])
theorem own_snoc_yes {pre : List Line} {x y : Line} (h : keyT y = keyT x) : (pre ++ [y]).filter (fun z => decide (keyT z = keyT x)) = pre.filter (fun z => decide (keyT z = keyT x)) ++ [y] := by
  rw [List.filter_append]; simp [h]
theorem own_snoc_no {pre : List Line} {x y : Line} (h : keyT y ≠ keyT x) : (pre ++ [y]).filter (fun z => decide (keyT z = keyT x)) = pre.filter (fun z => decide (keyT z = keyT x)) := by
  rw [List.filter_append]; simp [h]
/-- The inner loop: the lines that stand for the same as one, and whether it is the first of them. -/
theorem tidy_l2 (l out pre : List Line) (x : Line) (r : List Line) (hl : l.length ≤ 1000000) (hp : pre ++ x :: r = l) (res : List Line × Int)
    (hend : Ev (fun k => quittanceref20_Tidy.l2 k l out (pre.length : Int) (l.filter fun z => decide (keyT z = keyT x)) (!hasK pre (keyT x)) (l.length : Int)) res) :
    ∀ (s a : List Line), a ++ s = l → Ev (fun k => quittanceref20_Tidy.l2 k l out (pre.length : Int) (a.filter fun z => decide (keyT z = keyT x)) (!hasK (a.take pre.length) (keyT x)) (a.length : Int)) res
  | [], a, h => by
    rw [List.append_nil] at h
    subst h
    have : a.take pre.length = pre := by rw [← hp]; simp
    rw [this]
    exact hend
  | y :: s, a, h => by
    have ih := tidy_l2 l out pre x r hl hp res hend s (a ++ [y]) (by rw [← h]; simp)
    refine Ev.step (fun k => ?_) ih
    have hx : rd_T113 l (pre.length : Int) = x := by rw [← hp]; exact rdL_mid pre x r
    have hy : rd_T113 l (a.length : Int) = y := by rw [← h]; exact rdL_mid a y s
    have h1 : (a.length : Int) < (l.length : Int) := by rw [← h]; exact mid_lt a y s
    have h2 : (pre.length : Int) < (l.length : Int) := by rw [← hp]; exact mid_lt pre x r
    have h3 : wrap64 ((a.length : Int) + 1) = ((a ++ [y]).length : Int) := mid_next a y s (by rw [h]; exact hl)
    have h4 : (a.filter fun z => decide (keyT z = keyT x)).length < 4398046511104 := by
      have := List.length_filter_le (fun z => decide (keyT z = keyT x)) a
      omega
    simp only [quittanceref20_Tidy.l2]
    rw [if_pos h1, if_pos (by omega), if_pos (by omega), if_pos h2, hx, hy, alike_f, Option.bind_some, h3]
    by_cases he : keyT y = keyT x
    · rw [decide_eq_true he, if_pos rfl, if_pos h4, own_snoc_yes he]
      simp only [Option.bind_some]
      by_cases hge : pre.length ≤ a.length
      · have ht : (a ++ [y]).take pre.length = a.take pre.length := List.take_append_of_le_length hge
        rw [ht]
        have hd : decide ((a.length : Int) ≥ (pre.length : Int)) = true := decide_eq_true (by omega)
        rw [hd]
        cases hasK (a.take pre.length) (keyT x) <;> simp
      · have ht : (a ++ [y]).take pre.length = a ++ [y] := List.take_of_length_le (by simp; omega)
        have ht2 : a.take pre.length = a := List.take_of_length_le (by omega)
        have hk : hasK (a ++ [y]) (keyT x) = true := (hasK_iff _ _).2 ⟨y, by simp, he⟩
        rw [ht, ht2, hk]
        have hd : decide ((a.length : Int) ≥ (pre.length : Int)) = false := decide_eq_false (by omega)
        rw [hd]
        cases hasK a (keyT x) <;> simp
    · rw [decide_eq_false he, if_neg (by simp), own_snoc_no he]
      by_cases hge : pre.length ≤ a.length
      · rw [List.take_append_of_le_length hge]
      · have ht : (a ++ [y]).take pre.length = a ++ [y] := List.take_of_length_le (by simp; omega)
        have ht2 : a.take pre.length = a := List.take_of_length_le (by omega)
        have hk : hasK (a ++ [y]) (keyT x) = hasK a (keyT x) := by unfold hasK; rw [List.any_append]; simp [he]
        rw [ht, ht2, hk]
theorem tidyR_bad {l : List Line} {g : Line} (h : g ∈ grp l) (hw : ¬ within62 g.f3 = true) : tidyR l = ([], 2) := by
  rcases tidyR_cases l with ⟨_, h2, _⟩ | ⟨_, e⟩
  · exact absurd (List.all_eq_true.1 h2 g h) hw
  · exact e
theorem i64_of_within {s : Int} (h : within62 s = true) : i64ok s = true := by
  rw [within62_iff] at h
  rw [i64ok_iff]
  omega
theorem own_sum (l : List Line) (t : Title) : (amts (l.filter fun z => decide (keyT z = t))).sum = gsum l t := rfl
theorem tidy_l1 (l : List Line) (hl : l.length ≤ 1000000) (hok : l.all okL = true) (hmay : l.all mayB = true) : ∀ (r pre : List Line), pre ++ r = l → (∀ g ∈ grp l, hasK pre (keyT g) = true → within62 g.f3 = true) →
    Ev (fun k => quittanceref20_Tidy.l1 k l (outP l pre) (pre.length : Int)) (tidyR l)
  | [], pre, h, hw => by
    rw [List.append_nil] at h
    subst h
    refine Ev.step (f := fun _ => some (outP pre pre, 0)) (fun k => ?_) ?_
    · simp only [quittanceref20_Tidy.l1]
      rw [if_neg (not_lt_end _)]
    · have : tidyR pre = (outP pre pre, 0) := by
        unfold tidyR
        rw [if_pos hmay, if_pos, outP_all]
        rw [List.all_eq_true]
        intro g hg
        exact hw g hg ((hasK_iff _ _).2 ((mem_grp pre g).1 hg).1)
      rw [this]
      exact Ev.now _
  | x :: r, pre, h, hw => by
    have hx : rd_T113 l (pre.length : Int) = x := by rw [← h]; exact rdL_mid pre x r
    have hlt : (pre.length : Int) < (l.length : Int) := by rw [← h]; exact mid_lt pre x r
    have hnx : wrap64 ((pre.length : Int) + 1) = ((pre ++ [x]).length : Int) := mid_next pre x r (by rw [h]; exact hl)
    have hxm : x ∈ l := by rw [← h]; simp
    have hmx := List.all_eq_true.1 hmay x hxm
    refine Ev.step (f := fun k => quittanceref20_Tidy.l2 k l (outP l pre) (pre.length : Int) ([] : List Line) true 0) (fun k => ?_) ?_
    · simp only [quittanceref20_Tidy.l1]
      rw [if_pos hlt]
    · have hin := tidy_l2 l (outP l pre) pre x r hl h (tidyR l) ?_ l [] rfl
      · simpa [hasK] using hin
      · have hg := grp_of (l := l) hxm
        have ih := tidy_l1 l hl hok hmay r (pre ++ [x]) (by rw [← h]; simp)
        by_cases hk : hasK pre (keyT x) = true
        · rw [hk]
          refine Ev.step (f := fun k => quittanceref20_Tidy.l1 k l (outP l pre) ((pre ++ [x]).length : Int)) (fun k => ?_) ?_
          · simp only [quittanceref20_Tidy.l2]
            rw [if_neg (not_lt_end _), if_neg (by simp), hnx]
          · rw [outP_again hk] at ih
            refine ih (fun g hg2 hkg => ?_)
            obtain ⟨y, hy, he⟩ := (hasK_iff _ _).1 hkg
            rcases List.mem_append.1 hy with hy | hy
            · exact hw g hg2 ((hasK_iff _ _).2 ⟨y, hy, he⟩)
            · rw [List.mem_singleton.1 hy] at he
              exact hw g hg2 (by rw [← he]; exact hk)
        · have hk' : hasK pre (keyT x) = false := by simpa using hk
          rw [hk']
          have hown : (l.filter fun z => decide (keyT z = keyT x)).all okL = true := by
            rw [List.all_eq_true]
            intro y hy
            exact List.all_eq_true.1 hok y (List.mem_filter.1 hy).1
          have hsum := sum20_ev (l.filter fun z => decide (keyT z = keyT x)) (Nat.le_trans (List.length_filter_le _ _) hl) hown
          rw [own_sum] at hsum
          have hw' : within62 (gsum l (keyT x)) = true → ∀ g ∈ grp l, hasK (pre ++ [x]) (keyT g) = true → within62 g.f3 = true := by
            intro hw2 g hg2 hkg
            obtain ⟨y, hy, he⟩ := (hasK_iff _ _).1 hkg
            rcases List.mem_append.1 hy with hy | hy
            · exact hw g hg2 ((hasK_iff _ _).2 ⟨y, hy, he⟩)
            · rw [List.mem_singleton.1 hy] at he
              rw [((mem_grp l g).1 hg2).2, ← he]
              exact hw2
          refine Ev.step (f := fun k => (quittanceref20_Sum.f k (l.filter fun z => decide (keyT z = keyT x))).bind fun bt1245 => (if 0 ≤ (pre.length : Int) then (if (pre.length : Int) < (l.length : Int) then (if bt1245.2 = true then (if bt1245.1 = 0 then (quittanceref20_Tidy.j3 k l (outP l pre) (pre.length : Int) bt1245.1 false (x.f0) (x.f1) (x.f2) bt1245.1) else ((quittanceref20_May.f (x.f0) (x.f1) (x.f2) bt1245.1).bind fun t1249 => (quittanceref20_Tidy.j3 k l (outP l pre) (pre.length : Int) bt1245.1 (!t1249) (x.f0) (x.f1) (x.f2) bt1245.1))) else (quittanceref20_Tidy.j3 k l (outP l pre) (pre.length : Int) bt1245.1 true (x.f0) (x.f1) (x.f2) bt1245.1)) else (none)) else (none))) (fun k => ?_) (Ev.bind hsum ?_)
          · simp only [quittanceref20_Tidy.l2]
            rw [if_neg (not_lt_end _), if_pos (show (!false) = true from rfl), hx]
          · refine Ev.congr (f := fun k => if (sumR (gsum l (keyT x))).2 = true then (if (sumR (gsum l (keyT x))).1 = 0 then (quittanceref20_Tidy.j3 k l (outP l pre) (pre.length : Int) (sumR (gsum l (keyT x))).1 false (x.f0) (x.f1) (x.f2) (sumR (gsum l (keyT x))).1) else ((quittanceref20_May.f (x.f0) (x.f1) (x.f2) (sumR (gsum l (keyT x))).1).bind fun t1249 => (quittanceref20_Tidy.j3 k l (outP l pre) (pre.length : Int) (sumR (gsum l (keyT x))).1 (!t1249) (x.f0) (x.f1) (x.f2) (sumR (gsum l (keyT x))).1))) else (quittanceref20_Tidy.j3 k l (outP l pre) (pre.length : Int) (sumR (gsum l (keyT x))).1 true (x.f0) (x.f1) (x.f2) (sumR (gsum l (keyT x))).1)) (fun k => by rw [if_pos (by omega), if_pos hlt]) ?_
            by_cases hi : i64ok (gsum l (keyT x)) = true
            · have hs : sumR (gsum l (keyT x)) = (gsum l (keyT x), true) := by unfold sumR; rw [if_pos hi]
              simp only [hs, if_true]
              by_cases hz : gsum l (keyT x) = 0
              · refine Ev.congr (f := fun k => quittanceref20_Tidy.j3 k l (outP l pre) (pre.length : Int) 0 false (x.f0) (x.f1) (x.f2) 0) (fun k => by simp only [hz, if_true]) ?_
                refine Ev.step (f := fun k => quittanceref20_Tidy.l1 k l (outP l pre) ((pre ++ [x]).length : Int)) (fun k => ?_) ?_
                · simp only [quittanceref20_Tidy.j3]
                  simp [hnx]
                · rw [outP_zero hz] at ih
                  exact ih (hw' (by rw [hz]; decide))
              · have hm2 : mayB ⟨x.f0, x.f1, x.f2, gsum l (keyT x)⟩ = within62 (gsum l (keyT x)) := by
                  have := (mayB_iff x).1 hmx
                  rw [Bool.eq_iff_iff, mayB_iff]
                  simp only
                  constructor
                  · exact fun h => h.2
                  · exact fun h => ⟨⟨by omega, by omega, hz⟩, h⟩
                refine Ev.congr (f := fun k => quittanceref20_Tidy.j3 k l (outP l pre) (pre.length : Int) (gsum l (keyT x)) (!within62 (gsum l (keyT x))) (x.f0) (x.f1) (x.f2) (gsum l (keyT x))) (fun k => by rw [if_neg hz, may20_f ⟨x.f0, x.f1, x.f2, gsum l (keyT x)⟩, hm2]; rfl) ?_
                by_cases hw2 : within62 (gsum l (keyT x)) = true
                · rw [hw2]
                  refine Ev.step (f := fun k => (quittanceref20_put.f k (outP l pre) x.f0 x.f1 x.f2 (gsum l (keyT x))).bind fun t1250 => quittanceref20_Tidy.l1 k l t1250 ((pre ++ [x]).length : Int)) (fun k => ?_) (Ev.bind (put_ev (outP l pre) (Nat.le_trans (outP_len l pre) hl) ⟨x.f0, x.f1, x.f2, gsum l (keyT x)⟩) ?_)
                  · simp only [quittanceref20_Tidy.j3]
                    rw [if_neg (by simp), if_neg hz, hnx]
                  · rw [outP_put hxm hk' hz]
                    exact ih (hw' hw2)
                · have hw3 : within62 (gsum l (keyT x)) = false := by simpa using hw2
                  rw [hw3]
                  refine Ev.step (f := fun _ => some (([] : List Line), 2)) (fun k => ?_) ?_
                  · simp only [quittanceref20_Tidy.j3]
                    rw [if_pos (by simp)]
                  · rw [tidyR_bad hg hw2]
                    exact Ev.now _
            · have hs : sumR (gsum l (keyT x)) = (0, false) := by unfold sumR; rw [if_neg hi]
              simp only [hs]
              refine Ev.congr (f := fun k => quittanceref20_Tidy.j3 k l (outP l pre) (pre.length : Int) 0 true (x.f0) (x.f1) (x.f2) 0) (fun k => by rw [if_neg (by simp)]) ?_
              refine Ev.step (f := fun _ => some (([] : List Line), 2)) (fun k => ?_) ?_
              · simp only [quittanceref20_Tidy.j3]
                rfl
              · rw [tidyR_bad hg (fun h2 => hi (i64_of_within h2))]
                exact Ev.now _
theorem tidy_l0 (l : List Line) (hl : l.length ≤ 1000000) (hok : l.all okL = true) : ∀ (r pre : List Line), pre ++ r = l → pre.all mayB = true → Ev (fun k => quittanceref20_Tidy.l0 k l (pre.length : Int)) (tidyR l)
  | [], pre, h, hp => by
    rw [List.append_nil] at h
    subst h
    refine Ev.step (f := fun k => quittanceref20_Tidy.l1 k pre ([] : List Line) 0) (fun k => ?_) ?_
    · simp only [quittanceref20_Tidy.l0]
      rw [if_neg (not_lt_end _)]
    · have := tidy_l1 pre hl hok hp pre [] rfl (fun g hg hk => by simp [hasK] at hk)
      rwa [outP_nil] at this
  | x :: r, pre, h, hp => by
    have hx : rd_T113 l (pre.length : Int) = x := by rw [← h]; exact rdL_mid pre x r
    have hlt : (pre.length : Int) < (l.length : Int) := by rw [← h]; exact mid_lt pre x r
    have hnx : wrap64 ((pre.length : Int) + 1) = ((pre ++ [x]).length : Int) := mid_next pre x r (by rw [h]; exact hl)
    by_cases hm : mayB x = true
    · refine Ev.step (f := fun k => quittanceref20_Tidy.l0 k l ((pre ++ [x]).length : Int)) (fun k => ?_) (tidy_l0 l hl hok r (pre ++ [x]) (by rw [← h]; simp) (by rw [List.all_append, hp]; simp [hm]))
      simp only [quittanceref20_Tidy.l0]
      rw [if_pos hlt, if_pos (by omega), hx, may20_f, Option.bind_some, if_pos hm, hnx]
    · refine Ev.step (f := fun _ => some (([] : List Line), 2)) (fun k => ?_) ?_
      · simp only [quittanceref20_Tidy.l0]
        rw [if_pos hlt, if_pos (by omega), hx, may20_f, Option.bind_some, if_neg hm]
      · have : tidyR l = ([], 2) := by
          unfold tidyR
          rw [if_neg]
          intro ha
          exact hm (List.all_eq_true.1 ha x (by rw [← h]; simp))
        rw [this]
        exact Ev.now _
theorem tidy20_ev (l : List Line) (hl : l.length ≤ 1000000) (hok : l.all okL = true) : Ev (fun k => quittanceref20_Tidy.f k l) (tidyR l) :=
  tidy_l0 l hl hok l [] rfl rfl
end Go.Proofs.Ytaoejonkiikhmaa.G

/- journal.sum: the exact sum of the amounts that a function asks for. -/
namespace Go.Proofs.Ytaoejonkiikhmaa.G
open Go.RowKit Go.Proofs.YtaoejonkiikhmaaW.PrintWords Go.Proofs.YtaoejonkiikhmaaW.PrintLast Go.Proofs.YtaoejonkiikhmaaW.PrintMore
set_option linter.unusedVariables false
set_option linter.unusedSimpArgs false

def asked (p : Int → Bool) (l : List Line) : List Int := (l.map fun x => x.f3).filter p
theorem asked_take (p : Int → Bool) {l : List Line} {k : Nat} (hk : k < l.length) : asked p (l.take (k + 1)) = if p (rd_T113 l k).f3 = true then asked p (l.take k) ++ [(rd_T113 l k).f3] else asked p (l.take k) := by
  unfold asked
  rw [List.take_succ_eq_append_getElem hk]
  simp only [List.map_append, List.filter_append, rd_T113, List.getD_eq_getElem?_getD, Int.toNat_natCast, List.getElem?_eq_getElem hk, Option.getD_some]
  split <;> rename_i h <;> simp [h]
theorem asked_len (p : Int → Bool) (l : List Line) : (asked p l).length ≤ l.length := by
  unfold asked
  have := List.length_filter_le p (l.map fun x => x.f3)
  simpa using this
theorem asked_all (p : Int → Bool) {l : List Line} (h : l.all okL = true) : (asked p l).all i64ok = true := by
  unfold asked
  rw [List.all_eq_true]
  intro n hn
  obtain ⟨x, hx, rfl⟩ := List.mem_map.1 (List.mem_filter.1 hn).1
  have := List.all_eq_true.1 h x hx
  simp only [okL, Bool.and_eq_true] at this
  exact this.2

theorem size_alloc1 (w : World) (o : Obj) : (w.alloc o).heap.size = w.heap.size + 1 := by simp

/-- A closure that asks nothing, keeps the world and tells a bool of its number. -/
abbrev Asks (g : Nat) (p : Int → Bool) : Prop := ∀ n W, Calls Try.prog g #[.int .i64 n] W fun e w' => e = .returned (.bool (p n)) ∧ w' = W

theorem asks_all : Asks 74 (fun _ => true) := by
  intro n W
  go_enter Try.func74, Try.ntmps74
  go_wp2
  go_ret
  exact ⟨rfl, rfl⟩

set_option maxHeartbeats 1000000 in
set_option maxRecDepth 100000 in
theorem jsum_all (A0 : Option Addr) (c0 : Nat) (l0 : List Line) (w : World) (hr0 : Kd.C k113 w A0 l0.length l0) (hc0 : l0.length ≤ c0) (hl : l0.length < 4398046511104) (hok : l0.all okL = true) :
    Calls Try.prog 73 #[.slice A0 l0.length c0, .func (.func 74) #[] #[]] w fun e w' => e = .returned (.tuple #[.int .i64 (sumR (asked (fun _ => true) l0).sum).1, .bool (sumR (asked (fun _ => true) l0).sum).2]) ∧ Below w.heap.size w w' := by
  obtain ⟨p, hp0⟩ : ∃ p : Int → Bool, p = (fun _ => true) := ⟨_, rfl⟩
  have hask : Asks 74 p := by rw [hp0]; exact asks_all
  rw [← hp0]
  clear hp0
  have hu := Try.underlying113
  have HG := Aside0.mk hask
  have HR := Aside0.mk hr0
  have HOK := Aside0.mk hok
  clear hask hr0 hok
  go_enter Try.func73, Try.ntmps73
  go_wp2
  go_loopw [11, 6] (fun i v wr => ∃ (k : Nat), k ≤ l0.length ∧ i = .int .i64 k ∧ Aside0 (Kd.R (Kd.int .i64) 2 wr w.heap.size (fun _ => True) v (asked p (l0.take k))) ∧ Below w.heap.size w wr)
    (fun i _ _ => l0.length - (intOf i).toNat)
  case atStart => exact ⟨0, Nat.zero_le _, rfl, ⟨Kd.R_nil _ _ _ _ _⟩, Below.refl _ _⟩
  case round =>
    obtain ⟨k, hk, rfl, HKR, hb⟩ := hrel
    have hal := asked_len p (l0.take k)
    rw [List.length_take] at hal
    have hwr := hb.size
    by_cases hlt : k < l0.length
    · obtain ⟨ad, rfl, x0, x1, x2, x3⟩ := at_T113 (Kd.C_below HR.out hb) k (by omega) (by omega)
      rw [Int.toNat_natCast] at x0 x1 x2 x3
      have HST := Aside0.mk (asked_take p hlt)
      obtain ⟨x, hx⟩ : ∃ x, x = rd_T113 l0 k := ⟨_, rfl⟩
      rw [← hx] at x0 x1 x2 x3 HST
      clear hx
      cases hp : p x.f3 with
      | true =>
        rw [hp, if_pos rfl] at HST
        have hgx := fun W => HG.out x.f3 W
        rw [hp] at hgx
        have HGX := Aside0.mk hgx
        clear hgx hp
        go_wp2_with (first | (go_at_call 74; refine (HGX.out _).mono ?_; rintro e w' ⟨rfl, rfl⟩) | ((with_reducible refine gate_builtin (b := .append) (xs := #[.tmp 19, .tmp 22]) rfl ?_); at_builtin; go_loud (refine Kd.R_append (Kd.int .i64) (w0 := w) w.heap.size rfl (.tmp 19) (.tmp 22) 138 2 (.int .i64 0) 8 rfl Try.underlying138 info2 rfl (by decide) (by omega) u6 (asked p (l0.take k)) x.f3 [.int .i64 x.f3] (fun _ => True) (fun _ => False) rfl (by rw [size_alloc1]; rfl) rfl (fun _ hk => hk.elim) (fun _ _ => trivial) (Kd.R_alloc HKR.out _) (below_alloc hb _) (by simp; omega) (by omega) ?_); intro v1 w6 ho hb6 hg6 hat; rw [← HST.out] at ho; have HO := Aside0.mk ho; have HB6 := Aside0.mk hb6; clear ho hb6 hg6 hat))
        exact ⟨⟨k + 1, by omega, rfl, HO, HB6.out⟩, by simp [intOf]; omega⟩
      | false =>
        rw [hp, if_neg (by decide)] at HST
        have hgx := fun W => HG.out x.f3 W
        rw [hp] at hgx
        have HGX := Aside0.mk hgx
        clear hgx hp
        go_wp2_with (go_at_call 74; refine (HGX.out _).mono ?_; rintro e w' ⟨rfl, rfl⟩)
        exact ⟨⟨k + 1, by omega, rfl, ⟨by rw [HST.out]; exact Kd.R_alloc HKR.out _⟩, below_alloc hb _⟩, by simp [intOf]; omega⟩
    · obtain rfl : k = l0.length := by omega
      rw [List.take_length] at HKR hal
      obtain ⟨A, c, rfl, hlc, hcc⟩ := Kd.R_reads HKR.out
      have HS := Aside0.mk (arith_Sum.calls A c (asked p l0) (sumR (asked p l0).sum).1 (sumR (asked p l0).sum).2 wr hcc hlc (by unfold arith_Sum.f; rw [if_pos (asked_all p HOK.out)]))
      clear hcc
      go_wp2_with (go_at_call 106; refine HS.out.mono ?_; rintro e w' ⟨rfl, hb2⟩; have HB2 := Aside0.mk (below_then hb hb.size hb2))
      go_ret2
      exact ⟨rfl, HB2.out⟩

theorem asks_pos : Asks 120 (fun n => decide (0 < n)) := by
  intro n W
  go_enter Try.func120, Try.ntmps120
  go_wp2
  go_ret
  exact ⟨rfl, rfl⟩

set_option maxHeartbeats 1000000 in
set_option maxRecDepth 100000 in
theorem jsum_pos (A0 : Option Addr) (c0 : Nat) (l0 : List Line) (w : World) (hr0 : Kd.C k113 w A0 l0.length l0) (hc0 : l0.length ≤ c0) (hl : l0.length < 4398046511104) (hok : l0.all okL = true) :
    Calls Try.prog 73 #[.slice A0 l0.length c0, .func (.func 120) #[] #[]] w fun e w' => e = .returned (.tuple #[.int .i64 (sumR (asked (fun n => decide (0 < n)) l0).sum).1, .bool (sumR (asked (fun n => decide (0 < n)) l0).sum).2]) ∧ Below w.heap.size w w' := by
  obtain ⟨p, hp0⟩ : ∃ p : Int → Bool, p = (fun n => decide (0 < n)) := ⟨_, rfl⟩
  have hask : Asks 120 p := by rw [hp0]; exact asks_pos
  rw [← hp0]
  clear hp0
  have hu := Try.underlying113
  have HG := Aside0.mk hask
  have HR := Aside0.mk hr0
  have HOK := Aside0.mk hok
  clear hask hr0 hok
  go_enter Try.func73, Try.ntmps73
  go_wp2
  go_loopw [11, 6] (fun i v wr => ∃ (k : Nat), k ≤ l0.length ∧ i = .int .i64 k ∧ Aside0 (Kd.R (Kd.int .i64) 2 wr w.heap.size (fun _ => True) v (asked p (l0.take k))) ∧ Below w.heap.size w wr)
    (fun i _ _ => l0.length - (intOf i).toNat)
  case atStart => exact ⟨0, Nat.zero_le _, rfl, ⟨Kd.R_nil _ _ _ _ _⟩, Below.refl _ _⟩
  case round =>
    obtain ⟨k, hk, rfl, HKR, hb⟩ := hrel
    have hal := asked_len p (l0.take k)
    rw [List.length_take] at hal
    have hwr := hb.size
    by_cases hlt : k < l0.length
    · obtain ⟨ad, rfl, x0, x1, x2, x3⟩ := at_T113 (Kd.C_below HR.out hb) k (by omega) (by omega)
      rw [Int.toNat_natCast] at x0 x1 x2 x3
      have HST := Aside0.mk (asked_take p hlt)
      obtain ⟨x, hx⟩ : ∃ x, x = rd_T113 l0 k := ⟨_, rfl⟩
      rw [← hx] at x0 x1 x2 x3 HST
      clear hx
      cases hp : p x.f3 with
      | true =>
        rw [hp, if_pos rfl] at HST
        have hgx := fun W => HG.out x.f3 W
        rw [hp] at hgx
        have HGX := Aside0.mk hgx
        clear hgx hp
        go_wp2_with (first | (go_at_call 120; refine (HGX.out _).mono ?_; rintro e w' ⟨rfl, rfl⟩) | ((with_reducible refine gate_builtin (b := .append) (xs := #[.tmp 19, .tmp 22]) rfl ?_); at_builtin; go_loud (refine Kd.R_append (Kd.int .i64) (w0 := w) w.heap.size rfl (.tmp 19) (.tmp 22) 138 2 (.int .i64 0) 8 rfl Try.underlying138 info2 rfl (by decide) (by omega) u6 (asked p (l0.take k)) x.f3 [.int .i64 x.f3] (fun _ => True) (fun _ => False) rfl (by rw [size_alloc1]; rfl) rfl (fun _ hk => hk.elim) (fun _ _ => trivial) (Kd.R_alloc HKR.out _) (below_alloc hb _) (by simp; omega) (by omega) ?_); intro v1 w6 ho hb6 hg6 hat; rw [← HST.out] at ho; have HO := Aside0.mk ho; have HB6 := Aside0.mk hb6; clear ho hb6 hg6 hat))
        exact ⟨⟨k + 1, by omega, rfl, HO, HB6.out⟩, by simp [intOf]; omega⟩
      | false =>
        rw [hp, if_neg (by decide)] at HST
        have hgx := fun W => HG.out x.f3 W
        rw [hp] at hgx
        have HGX := Aside0.mk hgx
        clear hgx hp
        go_wp2_with (go_at_call 120; refine (HGX.out _).mono ?_; rintro e w' ⟨rfl, rfl⟩)
        exact ⟨⟨k + 1, by omega, rfl, ⟨by rw [HST.out]; exact Kd.R_alloc HKR.out _⟩, below_alloc hb _⟩, by simp [intOf]; omega⟩
    · obtain rfl : k = l0.length := by omega
      rw [List.take_length] at HKR hal
      obtain ⟨A, c, rfl, hlc, hcc⟩ := Kd.R_reads HKR.out
      have HS := Aside0.mk (arith_Sum.calls A c (asked p l0) (sumR (asked p l0).sum).1 (sumR (asked p l0).sum).2 wr hcc hlc (by unfold arith_Sum.f; rw [if_pos (asked_all p HOK.out)]))
      clear hcc
      go_wp2_with (go_at_call 106; refine HS.out.mono ?_; rintro e w' ⟨rfl, hb2⟩; have HB2 := Aside0.mk (below_then hb hb.size hb2))
      go_ret2
      exact ⟨rfl, HB2.out⟩

theorem asks_neg : Asks 121 (fun n => decide (n < 0)) := by
  intro n W
  go_enter Try.func121, Try.ntmps121
  go_wp2
  go_ret
  exact ⟨rfl, rfl⟩

set_option maxHeartbeats 1000000 in
set_option maxRecDepth 100000 in
theorem jsum_neg (A0 : Option Addr) (c0 : Nat) (l0 : List Line) (w : World) (hr0 : Kd.C k113 w A0 l0.length l0) (hc0 : l0.length ≤ c0) (hl : l0.length < 4398046511104) (hok : l0.all okL = true) :
    Calls Try.prog 73 #[.slice A0 l0.length c0, .func (.func 121) #[] #[]] w fun e w' => e = .returned (.tuple #[.int .i64 (sumR (asked (fun n => decide (n < 0)) l0).sum).1, .bool (sumR (asked (fun n => decide (n < 0)) l0).sum).2]) ∧ Below w.heap.size w w' := by
  obtain ⟨p, hp0⟩ : ∃ p : Int → Bool, p = (fun n => decide (n < 0)) := ⟨_, rfl⟩
  have hask : Asks 121 p := by rw [hp0]; exact asks_neg
  rw [← hp0]
  clear hp0
  have hu := Try.underlying113
  have HG := Aside0.mk hask
  have HR := Aside0.mk hr0
  have HOK := Aside0.mk hok
  clear hask hr0 hok
  go_enter Try.func73, Try.ntmps73
  go_wp2
  go_loopw [11, 6] (fun i v wr => ∃ (k : Nat), k ≤ l0.length ∧ i = .int .i64 k ∧ Aside0 (Kd.R (Kd.int .i64) 2 wr w.heap.size (fun _ => True) v (asked p (l0.take k))) ∧ Below w.heap.size w wr)
    (fun i _ _ => l0.length - (intOf i).toNat)
  case atStart => exact ⟨0, Nat.zero_le _, rfl, ⟨Kd.R_nil _ _ _ _ _⟩, Below.refl _ _⟩
  case round =>
    obtain ⟨k, hk, rfl, HKR, hb⟩ := hrel
    have hal := asked_len p (l0.take k)
    rw [List.length_take] at hal
    have hwr := hb.size
    by_cases hlt : k < l0.length
    · obtain ⟨ad, rfl, x0, x1, x2, x3⟩ := at_T113 (Kd.C_below HR.out hb) k (by omega) (by omega)
      rw [Int.toNat_natCast] at x0 x1 x2 x3
      have HST := Aside0.mk (asked_take p hlt)
      obtain ⟨x, hx⟩ : ∃ x, x = rd_T113 l0 k := ⟨_, rfl⟩
      rw [← hx] at x0 x1 x2 x3 HST
      clear hx
      cases hp : p x.f3 with
      | true =>
        rw [hp, if_pos rfl] at HST
        have hgx := fun W => HG.out x.f3 W
        rw [hp] at hgx
        have HGX := Aside0.mk hgx
        clear hgx hp
        go_wp2_with (first | (go_at_call 121; refine (HGX.out _).mono ?_; rintro e w' ⟨rfl, rfl⟩) | ((with_reducible refine gate_builtin (b := .append) (xs := #[.tmp 19, .tmp 22]) rfl ?_); at_builtin; go_loud (refine Kd.R_append (Kd.int .i64) (w0 := w) w.heap.size rfl (.tmp 19) (.tmp 22) 138 2 (.int .i64 0) 8 rfl Try.underlying138 info2 rfl (by decide) (by omega) u6 (asked p (l0.take k)) x.f3 [.int .i64 x.f3] (fun _ => True) (fun _ => False) rfl (by rw [size_alloc1]; rfl) rfl (fun _ hk => hk.elim) (fun _ _ => trivial) (Kd.R_alloc HKR.out _) (below_alloc hb _) (by simp; omega) (by omega) ?_); intro v1 w6 ho hb6 hg6 hat; rw [← HST.out] at ho; have HO := Aside0.mk ho; have HB6 := Aside0.mk hb6; clear ho hb6 hg6 hat))
        exact ⟨⟨k + 1, by omega, rfl, HO, HB6.out⟩, by simp [intOf]; omega⟩
      | false =>
        rw [hp, if_neg (by decide)] at HST
        have hgx := fun W => HG.out x.f3 W
        rw [hp] at hgx
        have HGX := Aside0.mk hgx
        clear hgx hp
        go_wp2_with (go_at_call 121; refine (HGX.out _).mono ?_; rintro e w' ⟨rfl, rfl⟩)
        exact ⟨⟨k + 1, by omega, rfl, ⟨by rw [HST.out]; exact Kd.R_alloc HKR.out _⟩, below_alloc hb _⟩, by simp [intOf]; omega⟩
    · obtain rfl : k = l0.length := by omega
      rw [List.take_length] at HKR hal
      obtain ⟨A, c, rfl, hlc, hcc⟩ := Kd.R_reads HKR.out
      have HS := Aside0.mk (arith_Sum.calls A c (asked p l0) (sumR (asked p l0).sum).1 (sumR (asked p l0).sum).2 wr hcc hlc (by unfold arith_Sum.f; rw [if_pos (asked_all p HOK.out)]))
      clear hcc
      go_wp2_with (go_at_call 106; refine HS.out.mono ?_; rintro e w' ⟨rfl, hb2⟩; have HB2 := Aside0.mk (below_then hb hb.size hb2))
      go_ret2
      exact ⟨rfl, HB2.out⟩
end Go.Proofs.Ytaoejonkiikhmaa.G

-- Text by a program of this session (gprint.py), over the kit's print.
namespace Go.Proofs.Ytaoejonkiikhmaa.G
open Go.RowKit Go.Proofs.YtaoejonkiikhmaaW.PrintWords Go.Proofs.YtaoejonkiikhmaaW.PrintLast Go.Proofs.YtaoejonkiikhmaaW.PrintMore
attribute [local go_sem] max2_int min2_int max_two min_two max_three min_three max_four min_four   -- for this text's walks alone
set_option linter.unusedVariables false
set_option linter.unusedSimpArgs false

/-! ### slices_Reverse_byte_byte: function 171 -/
def slices_Reverse_byte_byte.l0 : Nat → List Int → Int → Int → Option (List Int)
  | 0, _, _, _ => none
  | k + 1, x0, x2, x3 => if x2 < x3 then (if 0 ≤ x3 then (if x3 < (x0.length : Int) then (if 0 ≤ x2 then (if x2 < (x0.length : Int) then (slices_Reverse_byte_byte.l0 k ((x0.set (x2 : Int).toNat (rd x0 x3)).set (x3 : Int).toNat (rd x0 x2)) (wrap64 (x2 + 1)) (wrap64 (x3 - 1))) else (none)) else (none)) else (none)) else (none)) else (some x0)
def slices_Reverse_byte_byte.f (k : Nat) (l0 : List Int) : Option (List Int) := slices_Reverse_byte_byte.l0 k l0 0 (wrap64 ((l0.length : Int) - 1))
theorem slices_Reverse_byte_byte.mono_l : ∀ k, (∀ y0 y1 y2, LeO (slices_Reverse_byte_byte.l0 k y0 y1 y2) (slices_Reverse_byte_byte.l0 (k + 1) y0 y1 y2))
  | 0 => fun _ _ _ r h => by simp [slices_Reverse_byte_byte.l0] at h
  | k + 1 => by
    have ih0 := slices_Reverse_byte_byte.mono_l k
    · intro y0 y1 y2
      unfold slices_Reverse_byte_byte.l0
      repeat' first
      | (with_reducible exact ih0 _ _ _)
      | (with_reducible exact LeO.refl _)
      | (with_reducible exact LeO.none _)
      | (with_reducible refine LeO.ite ?_ ?_)
      | (with_reducible refine LeO.bind ?_ (fun _ => ?_))
      | exact ih0 _ _ _
      | exact LeO.none _
      | refine LeO.ite ?_ ?_
      | refine LeO.bind ?_ (fun _ => ?_)
theorem slices_Reverse_byte_byte.mono : ∀ a0 k, LeO (slices_Reverse_byte_byte.f k a0) (slices_Reverse_byte_byte.f (k + 1) a0) := by
  intro a0 k
  have ih0 := slices_Reverse_byte_byte.mono_l k
  unfold slices_Reverse_byte_byte.f
  repeat' first
      | (with_reducible exact ih0 _ _ _)
      | (with_reducible exact LeO.refl _)
      | (with_reducible exact LeO.none _)
      | (with_reducible refine LeO.ite ?_ ?_)
      | (with_reducible refine LeO.bind ?_ (fun _ => ?_))
      | exact ih0 _ _ _
      | exact LeO.none _
      | refine LeO.ite ?_ ?_
      | refine LeO.bind ?_ (fun _ => ?_)
def slices_Reverse_byte_byte.T3 : Bool × List (List Nat × List Nat) := (true, [([], []), ([], []), ([], []), ([], []), ([], []), ([], []), ([4, 5], [4, 5]), ([6], [6]), ([], []), ([], []), ([8, 9], [8, 9]), ([10], [10]), ([0, 1, 0, 1, 4, 5, 6, 7, 11], [0, 1]), ([12, 7, 0, 1, 4, 5, 6, 7, 11], [7, 12]), ([2, 3, 0, 1, 2, 3, 4, 5, 6, 7, 8, 9, 10, 11, 12, 13], [2, 3]), ([14, 11, 13, 0, 1, 2, 3, 4, 5, 6, 7, 8, 9, 10, 11, 12, 13], [11, 14])])
def slices_Reverse_byte_byte.B3 : List Nat := [0, 0, 0, 0, 0, 0, 48, 112, 0, 0, 768, 1792, 4083, 8179, 16383, 32767]
theorem slices_Reverse_byte_byte.tab3 : rtab .any (opsOf Try.f171 3) = slices_Reverse_byte_byte.T3 := by kernel_rfl
theorem slices_Reverse_byte_byte.bits3 : waitsOk slices_Reverse_byte_byte.T3.2 slices_Reverse_byte_byte.B3 = true := by kernel_rfl
set_option maxHeartbeats 8000000 in
set_option maxRecDepth 100000 in
theorem slices_Reverse_byte_byte.calls (k : Nat) (P0_ : Nat → Prop) (u9000_ : Value) (l0 : List Int) (r : List Int) (w0 w : World) (hB : Below w0.heap.size w0 w) (ho0 : Kd.R (Kd.int .u8) 5 w w0.heap.size P0_ u9000_ l0) (h : slices_Reverse_byte_byte.f k l0 = some r) :
    Calls Try.prog 171 #[u9000_] w fun e w' => e = .returned (.tuple #[]) ∧ Kd.R (Kd.int .u8) 5 w' w0.heap.size (fun k_ => (P0_ k_ ∨ w.heap.size ≤ k_)) u9000_ r ∧ Below w0.heap.size w0 w' ∧ Kept w w' (fun k_ => P0_ k_) := by
  have HO0 := Aside0.mk (show Kd.R (Kd.int .u8) 5 w w0.heap.size (fun k_ => (P0_ k_ ∨ w.heap.size ≤ k_)) u9000_ l0 from Kd.R_mono ho0 (fun k_ hk => (.inl hk)))
  have HK := Aside0.mk (Kept.refl w (fun k_ => P0_ k_))
  have HW0 := Aside0.mk hB.size
  have HB := Aside0.mk hB
  clear hB
  have H : (slices_Reverse_byte_byte.l0 k l0 0 (wrap64 ((l0.length : Int) - 1))) = some r := h
  clear h
  have H' := Aside0.mk H
  clear H
  obtain ⟨Ao2, co2, eo2⟩ := Kd.R_slice HO0.out
  subst eo2
  go_enter Try.func171, Try.ntmps171
  go_wp2
  go_loopg [2, 3] k (fun kq v2 v3 w' => ∃ (x0_1 : List Int) (x2_1 : Int) (x3_1 : Int), v2 = .int .i64 x2_1 ∧ v3 = .int .i64 x3_1 ∧ Aside0 (slices_Reverse_byte_byte.l0 kq x0_1 x2_1 x3_1 = some r) ∧ Aside0 (kq ≤ k) ∧ Aside0 (Kd.R (Kd.int .u8) 5 w' w0.heap.size (fun k_ => (P0_ k_ ∨ w.heap.size ≤ k_)) (.slice Ao2 l0.length co2) x0_1) ∧ Aside0 (Kept w w' (fun k_ => P0_ k_)) ∧ Aside0 (Below w0.heap.size w0 w'))
  case atStart => exact ⟨(l0), (0), (wrap64 ((l0.length : Int) - 1)), (by first | rfl | (simp; done) | (simp [*]; done)), (by first | rfl | (simp; done) | (simp [*]; done)), H', ⟨Nat.le_refl _⟩, ⟨by (with_reducible repeat (first | apply Kd.R_alloc | apply Kd.R_drewN | apply Kd.R_drew)); exact HO0.out⟩, ⟨by repeat (first | (with_reducible first | exact HK.out | apply Kept.alloc | apply Kept.drewN | apply Kept.drew) | exact HK.out)⟩, ⟨by repeat (first | (with_reducible first | exact HB.out | apply below_alloc | apply pw_below_drewN | apply below_drew1) | exact HB.out)⟩⟩
  case round =>
    clear H'
    try clear c1
    try clear p2
    obtain ⟨x0_1, x2_1, x3_1, rfl, rfl, HA, HK1, HO_0, HK, HB⟩ := hrel
    have hl0_1 := (Kd.R_reads' HO_0.out).1
    rw [hl0_1] at HO_0
    (try simp only [hl0_1])
    cases gk with
    | zero => exact absurd HA.out (by simp [slices_Reverse_byte_byte.l0])
    | succ k1 =>
      have H := HA.out
      clear HA
      simp only [slices_Reverse_byte_byte.l0] at H
      by_cases c3 : x2_1 < x3_1
      · rw [if_pos c3] at H
        have c3b0 : decide (x2_1 < x3_1) = true := decide_eq_true c3
        clear c3
        by_cases c4 : 0 ≤ x3_1
        · rw [if_pos c4] at H
          have c4b0 : decide (0 ≤ x3_1) = true := decide_eq_true c4
          clear c4
          by_cases c5 : x3_1 < (x0_1.length : Int)
          · rw [if_pos c5] at H
            have c5b0 : decide (x3_1 < (x0_1.length : Int)) = true := decide_eq_true c5
            clear c5
            by_cases c6 : 0 ≤ x2_1
            · rw [if_pos c6] at H
              have c6b0 : decide (0 ≤ x2_1) = true := decide_eq_true c6
              clear c6
              by_cases c7 : x2_1 < (x0_1.length : Int)
              · rw [if_pos c7] at H
                have c7b0 : decide (x2_1 < (x0_1.length : Int)) = true := decide_eq_true c7
                clear c7
                obtain ⟨y1167, hy1167⟩ : ∃ y_ : List Int, y_ = (x0_1.set (x2_1 : Int).toNat (rd x0_1 x3_1)) := ⟨_, rfl⟩
                replace H : (slices_Reverse_byte_byte.l0 k1 (y1167.set (x3_1 : Int).toNat (rd x0_1 x2_1)) (wrap64 (x2_1 + 1)) (wrap64 (x3_1 - 1))) = some r := by first | (rw [hy1167]; with_reducible exact H) | (have H2_ := (Option.bind_some _ _).symm.trans H; rw [hy1167]; with_reducible exact H2_) | (have H2_ := (Option.bind_some _ _).symm.trans H; with_reducible exact H2_) | with_reducible exact H | (rw [hy1167]; exact H) | exact H
                have Ny1167 := Aside0.mk hy1167
                clear hy1167
                obtain ⟨y1168, hy1168⟩ : ∃ y_ : List Int, y_ = (y1167.set (x3_1 : Int).toNat (rd x0_1 x2_1)) := ⟨_, rfl⟩
                replace H : (slices_Reverse_byte_byte.l0 k1 y1168 (wrap64 (x2_1 + 1)) (wrap64 (x3_1 - 1))) = some r := by first | (rw [hy1168]; with_reducible exact H) | (have H2_ := (Option.bind_some _ _).symm.trans H; rw [hy1168]; with_reducible exact H2_) | (have H2_ := (Option.bind_some _ _).symm.trans H; with_reducible exact H2_) | with_reducible exact H | (rw [hy1168]; exact H) | exact H
                have Ny1168 := Aside0.mk hy1168
                clear hy1168
                have H' := Aside0.mk H
                clear H
                try go_wp2
                have n0_ := Aside0.mk (Kd.R_drew HO_0.out)
                have n1_ := Aside0.mk (Kept.drew HK.out)
                have n2_ := Aside0.mk (below_drew1 HB.out)
                clear HO_0
                clear HK
                clear HB
                have HO_0 := n0_
                have HK := n1_
                have HB := n2_
                clear n0_ n1_ n2_
                have p1165 : 0 ≤ (x3_1 : Int) := of_decide_eq_true (by first | (with_reducible assumption) | assumption)
                have q1165 : x3_1 < (x0_1.length : Int) := of_decide_eq_true (by first | (with_reducible assumption) | assumption)
                obtain ⟨ad1165, e1165, hx1165_0⟩ := Kd.at_int (Kd.R_reads' HO_0.out).2.2 x3_1 p1165 q1165
                cases e1165
                replace p1165 := eq_true p1165
                replace q1165 := eq_true q1165
                have p1166 : 0 ≤ (x2_1 : Int) := of_decide_eq_true (by first | (with_reducible assumption) | assumption)
                have q1166 : x2_1 < (x0_1.length : Int) := of_decide_eq_true (by first | (with_reducible assumption) | assumption)
                obtain ⟨ad1166, e1166, hx1166_0⟩ := Kd.at_int (Kd.R_reads' HO_0.out).2.2 x2_1 p1166 q1166
                obtain rfl : ad1165 = ad1166 := (by injection e1166)
                replace p1166 := eq_true p1166
                replace q1166 := eq_true q1166
                have p8 : 0 ≤ (x2_1 : Int) := of_decide_eq_true (by first | (with_reducible assumption) | assumption)
                have q8 : (x2_1 : Int) < ((x0_1.length : Int) : Int) := of_decide_eq_true (by first | (with_reducible assumption) | assumption)
                obtain ⟨go8, co8, eo8, gb8, gl8, cl8, HG8⟩ := Kd.R_form HO_0.out (by omega)
                (first | cases eo8 | (injection eo8 with ea_ en_ ec_; (first | subst ea_ | (injection ea_ with ea_; subst ea_)); subst ec_; clear en_))
                have GB8 := Aside0.mk gb8
                have GG8 := Aside0.mk HG8
                clear gb8 gl8 HG8
                have HMgo8 := Aside0.mk (show (P0_ go8 ∨ w.heap.size ≤ go8) from (HO_0.out.1 _ rfl))
                (first | simp only [add_plain] at hx1165_0 | skip)
                (first | simp only [add_plain] at hx1166_0 | skip)
                obtain ⟨hx8_0, hf8_0⟩ := Kd.R_celln 0 HO_0.out (x2_1 : Int) p8 q8
                replace p8 := eq_true p8
                replace q8 := eq_true q8
                have HP11 := Kd.R_putn HO_0.out (x2_1 : Int) (rd x0_1 x3_1)
                rw [← Ny1167.out] at HP11
                have HQ11 := Aside0.mk HP11
                clear HP11
                have p9 : 0 ≤ (x3_1 : Int) := of_decide_eq_true (by first | (with_reducible assumption) | assumption)
                have q9 : (x3_1 : Int) < ((x0_1.length : Int) : Int) := of_decide_eq_true (by first | (with_reducible assumption) | assumption)
                obtain ⟨hx9_0, hf9_0⟩ := Kd.R_celln 0 HQ11.out (x3_1 : Int) p9 q9
                replace p9 := eq_true p9
                replace q9 := eq_true q9
                have HP12 := Kd.R_putn HQ11.out (x3_1 : Int) (rd x0_1 x2_1)
                rw [← Ny1168.out] at HP12
                have HQ12 := Aside0.mk HP12
                clear HP12
                refine start_ (n := 16) (S := fun w' => w'.cell? ⟨go8, (x3_1).toNat, none⟩ = some (.int .u8 (rd x0_1 x3_1)) ∧ w'.cell? ⟨go8, (x2_1).toNat, none⟩ = some (.int .u8 (rd x0_1 x2_1))) (ds := [13, 15]) #[false, false, false, false, false, false, false, false, false, false, false, false, false, false, false, false] (by kernel_rfl) rfl rfl ⟨hx1165_0, hx1166_0⟩ (fun hHeld => ?_); refine with_tabW slices_Reverse_byte_byte.tab3 slices_Reverse_byte_byte.bits3 (fun HT_ HW_ => ?_)
                generalize wr.drew = w10 at HO_0 HK HB GG8 HQ11 HQ12 hf8_0 hf9_0 hx1165_0 hx1166_0 hx8_0 hx9_0 hHeld ⊢
                refine pure_ (i := 0) (N := some 14) (v := ?_) (a' := ?_) #[true, false, false, false, false, false, false, false, false, false, false, false, false, false, false, false] rfl rfl (any_of HT_.out (by kernel_rfl)) (fun _ _ _ h => h) (Or.inl ⟨by rfl, ?_⟩) ?_ ?_
                rotate_left
                · intro w'
                  go_simp
                  with_reducible rfl
                rotate_left
                · simp only [Act.put, List.setIfInBounds_toArray, List.set_cons_zero, List.set_cons_succ, i64_w, i32_w]
                  rfl
                refine pure_ (i := 1) (N := some 15) (v := ?_) (a' := ?_) #[true, true, false, false, false, false, false, false, false, false, false, false, false, false, false, false] rfl rfl (any_of HT_.out (by kernel_rfl)) (fun _ _ _ h => h) (Or.inl ⟨by rfl, ?_⟩) ?_ ?_
                rotate_left
                · intro w'
                  go_simp
                  with_reducible rfl
                rotate_left
                · simp only [Act.put, List.setIfInBounds_toArray, List.set_cons_zero, List.set_cons_succ, i64_w, i32_w]
                  rfl
                refine pure_ (i := 2) (N := some 16) (v := ?_) (a' := ?_) #[true, true, true, false, false, false, false, false, false, false, false, false, false, false, false, false] rfl rfl (any_of HT_.out (by kernel_rfl)) (fun _ _ _ h => h) (Or.inl ⟨by rfl, ?_⟩) ?_ ?_
                rotate_left
                · intro w'
                  go_simp
                  with_reducible rfl
                rotate_left
                · simp only [Act.put, List.setIfInBounds_toArray, List.set_cons_zero, List.set_cons_succ, i64_w, i32_w]
                  rfl
                refine pure_ (i := 3) (N := some 17) (v := ?_) (a' := ?_) #[true, true, true, true, false, false, false, false, false, false, false, false, false, false, false, false] rfl rfl (any_of HT_.out (by kernel_rfl)) (fun _ _ _ h => h) (Or.inl ⟨by rfl, ?_⟩) ?_ ?_
                rotate_left
                · intro w'
                  go_simp
                  with_reducible rfl
                rotate_left
                · simp only [Act.put, List.setIfInBounds_toArray, List.set_cons_zero, List.set_cons_succ, i64_w, i32_w]
                  rfl
                refine pure_ (i := 4) (N := some 18) (v := ?_) (a' := ?_) #[true, true, true, true, true, false, false, false, false, false, false, false, false, false, false, false] rfl rfl (any_of HT_.out (by kernel_rfl)) (fun _ _ _ h => h) (Or.inl ⟨by rfl, ?_⟩) ?_ ?_
                rotate_left
                · intro w'
                  go_simp
                  with_reducible rfl
                rotate_left
                · simp only [Act.put, List.setIfInBounds_toArray, List.set_cons_zero, List.set_cons_succ, i64_w, i32_w]
                  rfl
                refine pure_ (i := 5) (N := some 19) (v := ?_) (a' := ?_) #[true, true, true, true, true, true, false, false, false, false, false, false, false, false, false, false] rfl rfl (any_of HT_.out (by kernel_rfl)) (fun _ _ _ h => h) (Or.inl ⟨by rfl, ?_⟩) ?_ ?_
                rotate_left
                · intro w'
                  go_simp
                  with_reducible rfl
                rotate_left
                · simp only [Act.put, List.setIfInBounds_toArray, List.set_cons_zero, List.set_cons_succ, i64_w, i32_w]
                  rfl
                refine pure_ (i := 6) (N := some 20) (v := ?_) (a' := ?_) #[true, true, true, true, true, true, true, false, false, false, false, false, false, false, false, false] rfl rfl (any_of HT_.out (by kernel_rfl)) (fun _ _ _ h => h) (Or.inl ⟨by rfl, ?_⟩) ?_ ?_
                rotate_left
                · intro w'
                  go_simp
                  with_reducible rfl
                rotate_left
                · simp only [Act.put, List.setIfInBounds_toArray, List.set_cons_zero, List.set_cons_succ, i64_w, i32_w]
                  rfl
                refine pure_ (i := 8) (N := some 22) (v := ?_) (a' := ?_) #[true, true, true, true, true, true, true, false, true, false, false, false, false, false, false, false] rfl rfl (any_of HT_.out (by kernel_rfl)) (fun _ _ _ h => h) (Or.inl ⟨by rfl, ?_⟩) ?_ ?_
                rotate_left
                · intro w'
                  go_simp
                  with_reducible rfl
                rotate_left
                · simp only [Act.put, List.setIfInBounds_toArray, List.set_cons_zero, List.set_cons_succ, i64_w, i32_w]
                  rfl
                refine pure_ (i := 9) (N := some 23) (v := ?_) (a' := ?_) #[true, true, true, true, true, true, true, false, true, true, false, false, false, false, false, false] rfl rfl (any_of HT_.out (by kernel_rfl)) (fun _ _ _ h => h) (Or.inl ⟨by rfl, ?_⟩) ?_ ?_
                rotate_left
                · intro w'
                  go_simp
                  with_reducible rfl
                rotate_left
                · simp only [Act.put, List.setIfInBounds_toArray, List.set_cons_zero, List.set_cons_succ, i64_w, i32_w]
                  rfl
                refine pure_ (i := 10) (N := some 24) (v := ?_) (a' := ?_) #[true, true, true, true, true, true, true, false, true, true, true, false, false, false, false, false] rfl rfl (any_of HT_.out (by kernel_rfl)) (fun _ _ _ h => h) (Or.inl ⟨by rfl, ?_⟩) ?_ ?_
                rotate_left
                · intro w'
                  go_simp
                  with_reducible rfl
                rotate_left
                · simp only [Act.put, List.setIfInBounds_toArray, List.set_cons_zero, List.set_cons_succ, i64_w, i32_w]
                  rfl
                refine take_ (i := 7) (N := some 21) (v := ?_) (a' := ?_) #[true, true, true, true, true, true, true, true, true, true, true, false, false, false, false, false] rfl rfl (take_ofW HT_.out HW_.out (by kernel_rfl)) (fun _ _ _ h => h) (Or.inl ⟨by rfl, ?_⟩) hHeld ?_ ?_
                rotate_left
                · rintro w' ⟨s0, s1⟩
                  go_simp
                  with_reducible rfl
                rotate_left
                · simp only [Act.put, List.setIfInBounds_toArray, List.set_cons_zero, List.set_cons_succ, i64_w, i32_w]
                  rfl
                refine take_ (i := 11) (N := some 25) (v := ?_) (a' := ?_) #[true, true, true, true, true, true, true, true, true, true, true, true, false, false, false, false] rfl rfl (take_ofW HT_.out HW_.out (by kernel_rfl)) (fun _ _ _ h => h) (Or.inl ⟨by rfl, ?_⟩) hHeld ?_ ?_
                rotate_left
                · rintro w' ⟨s0, s1⟩
                  go_simp
                  with_reducible rfl
                rotate_left
                · simp only [Act.put, List.setIfInBounds_toArray, List.set_cons_zero, List.set_cons_succ, i64_w, i32_w]
                  rfl
                refine pure_ (i := 12) (N := some 26) (v := ?_) (a' := ?_) #[true, true, true, true, true, true, true, true, true, true, true, true, true, false, false, false] rfl rfl (any_of HT_.out (by kernel_rfl)) (fun _ _ _ h => h) (Or.inl ⟨by rfl, ?_⟩) ?_ ?_
                rotate_left
                · intro w'
                  go_simp
                  with_reducible rfl
                rotate_left
                · simp only [Act.put, List.setIfInBounds_toArray, List.set_cons_zero, List.set_cons_succ, i64_w, i32_w]
                  rfl
                refine last_ (i := 13) (N := none) #[true, true, true, true, true, true, true, true, true, true, true, true, true, true, false, false] rfl rfl (one_of HT_.out (by kernel_rfl)) (by decide) (fun K hK => ?_)
                refine skip_ (w1 := ?_) (by rfl) rfl ?_ ?_
                rotate_left
                · go_simp
                  rfl
                refine hK.out _ _ ?_
                clear hK K
                refine pure_ (i := 14) (N := some 27) (v := ?_) (a' := ?_) #[true, true, true, true, true, true, true, true, true, true, true, true, true, true, true, false] rfl rfl (any_of HT_.out (by kernel_rfl)) (fun _ _ _ h => h) (Or.inl ⟨by rfl, ?_⟩) ?_ ?_
                rotate_left
                · intro w'
                  go_simp
                  with_reducible rfl
                rotate_left
                · simp only [Act.put, List.setIfInBounds_toArray, List.set_cons_zero, List.set_cons_succ, i64_w, i32_w]
                  rfl
                refine last_ (i := 15) (N := none) #[true, true, true, true, true, true, true, true, true, true, true, true, true, true, true, true] rfl rfl (one_of HT_.out (by kernel_rfl)) (by decide) (fun K hK => ?_)
                refine skip_ (w1 := ?_) (by rfl) rfl ?_ ?_
                rotate_left
                · go_simp
                  rfl
                refine hK.out _ _ ?_
                clear hK K
                refine done_ (done_of HT_.out (by kernel_rfl)) ?_
                try go_wp2
                (try simp only [← hl0_1])
                go_roundg k1
                case measure => have := HK1.out; omega
                case rel => exact ⟨(y1168), (wrap64 (x2_1 + 1)), (wrap64 (x3_1 - 1)), (by first | rfl | (simp; done) | (simp [*]; done)), (by first | rfl | (simp; done) | (simp [*]; done)), H', ⟨by have := HK1.out; omega⟩, ⟨by (try simp only [hl0_1]); (with_reducible repeat (first | apply Kd.R_alloc | apply Kd.R_drewN | apply Kd.R_drew)); exact HQ12.out⟩, ⟨by repeat (first | (with_reducible first | exact HK.out | apply Kept.alloc | apply Kept.drewN | apply Kept.drew | refine Kept.setCell ?_ HMgo8.out _ | refine Kept.setCell ?_ HMgo8.out _) | exact HK.out)⟩, ⟨by repeat (first | (with_reducible first | exact HB.out | apply below_alloc | apply pw_below_drewN | apply below_drew1 | refine below_set ?_ GB8.out | refine below_set ?_ GB8.out) | exact HB.out)⟩⟩
              · rw [if_neg c7] at H
                exact absurd H (by simp)
            · rw [if_neg c6] at H
              exact absurd H (by simp)
          · rw [if_neg c5] at H
            exact absurd H (by simp)
        · rw [if_neg c4] at H
          exact absurd H (by simp)
      · rw [if_neg c3] at H
        have c3b0 : decide (x2_1 < x3_1) = false := decide_eq_false c3
        clear c3
        obtain rfl := Option.some.inj H
        go_wp2
        first | go_end0 | ((try simp only [Exit.inBlock, Exit.then]); refine bodyPost_ret (results_none rfl _ _ _) rfl ?_)
        exact ⟨by first | rfl | (simp [errW_none, errW_some] <;> rfl) | (simp [*, errW_none, errW_some] <;> rfl), (by first | exact (by (with_reducible repeat (first | apply Kd.R_alloc | apply Kd.R_drewN | apply Kd.R_drew)); exact HO_0.out) | (simp only [hl0_1]; exact (by (with_reducible repeat (first | apply Kd.R_alloc | apply Kd.R_drewN | apply Kd.R_drew)); exact HO_0.out))), by repeat (first | (with_reducible first | exact HB.out | apply below_alloc | apply pw_below_drewN | apply below_drew1) | exact HB.out), by repeat (first | (with_reducible first | exact HK.out | apply Kept.alloc | apply Kept.drewN | apply Kept.drew) | exact HK.out)⟩

end Go.Proofs.Ytaoejonkiikhmaa.G

-- Text by a program of this session (gprint.py), over the kit's print.
namespace Go.Proofs.Ytaoejonkiikhmaa.G
open Go.RowKit Go.Proofs.YtaoejonkiikhmaaW.PrintWords Go.Proofs.YtaoejonkiikhmaaW.PrintLast Go.Proofs.YtaoejonkiikhmaaW.PrintMore
attribute [local go_sem] max2_int min2_int max_two min_two max_three min_three max_four min_four   -- for this text's walks alone
set_option linter.unusedVariables false
set_option linter.unusedSimpArgs false

/-! ### tally_Num: function 122 -/
def tally_Num.l0 : Nat → Int → List Int → Option (ByteArray)
  | 0, _, _ => none
  | k + 1, x0, x3 => if x0 > 0 then (if x3.length < 140737488355328 then (tally_Num.l0 k ((IntKind.u64.wrap (x0 - 1)) / 128) (x3 ++ [Go.bits .or .u8 128 ((Int.tmod (IntKind.u64.wrap (x0 - 1)) 128) % 256)])) else (none)) else ((slices_Reverse_byte_byte.f k x3).bind fun t1175 => (some (strOfNums t1175)))
def tally_Num.f (k : Nat) (a0 : Int) : Option (ByteArray) := tally_Num.l0 k (a0 / 128) (([(Int.tmod a0 128) % 256] : List Int))
theorem tally_Num.mono_l : ∀ k, (∀ y0 y1, LeO (tally_Num.l0 k y0 y1) (tally_Num.l0 (k + 1) y0 y1))
  | 0 => fun _ _ r h => by simp [tally_Num.l0] at h
  | k + 1 => by
    have ih0 := tally_Num.mono_l k
    · intro y0 y1
      unfold tally_Num.l0
      repeat' first
      | (with_reducible exact ih0 _ _)
      | (with_reducible exact slices_Reverse_byte_byte.mono _ _)
      | (with_reducible exact LeO.refl _)
      | (with_reducible exact LeO.none _)
      | (with_reducible refine LeO.ite ?_ ?_)
      | (with_reducible refine LeO.bind ?_ (fun _ => ?_))
      | exact ih0 _ _
      | exact slices_Reverse_byte_byte.mono _ _
      | exact LeO.none _
      | refine LeO.ite ?_ ?_
      | refine LeO.bind ?_ (fun _ => ?_)
theorem tally_Num.mono : ∀ a0 k, LeO (tally_Num.f k a0) (tally_Num.f (k + 1) a0) := by
  intro a0 k
  have ih0 := tally_Num.mono_l k
  unfold tally_Num.f
  repeat' first
      | (with_reducible exact ih0 _ _)
      | (with_reducible exact slices_Reverse_byte_byte.mono _ _)
      | (with_reducible exact LeO.refl _)
      | (with_reducible exact LeO.none _)
      | (with_reducible refine LeO.ite ?_ ?_)
      | (with_reducible refine LeO.bind ?_ (fun _ => ?_))
      | exact ih0 _ _
      | exact slices_Reverse_byte_byte.mono _ _
      | exact LeO.none _
      | refine LeO.ite ?_ ?_
      | refine LeO.bind ?_ (fun _ => ?_)
set_option maxHeartbeats 8000000 in
set_option maxRecDepth 100000 in
theorem tally_Num.calls (k : Nat) (a0 : Int) (r : ByteArray) (w : World) (h : tally_Num.f k a0 = some r) :
    Calls Try.prog 122 #[.int .u64 a0] w fun e w' => e = .returned (.string r) ∧ Below w.heap.size w w' := by
  have HB := Aside0.mk (Below.refl w.heap.size w)
  have H : (tally_Num.l0 k (a0 / 128) (([(Int.tmod a0 128) % 256] : List Int))) = some r := h
  clear h
  obtain ⟨y1169, hy1169⟩ : ∃ y_ : List Int, y_ = (([(Int.tmod a0 128) % 256] : List Int)) := ⟨_, rfl⟩
  replace H : (tally_Num.l0 k (a0 / 128) y1169) = some r := by first | (rw [hy1169]; with_reducible exact H) | (have H2_ := (Option.bind_some _ _).symm.trans H; rw [hy1169]; with_reducible exact H2_) | (have H2_ := (Option.bind_some _ _).symm.trans H; with_reducible exact H2_) | with_reducible exact H | (rw [hy1169]; exact H) | exact H
  have Ny1169 := Aside0.mk hy1169
  clear hy1169
  have H' := Aside0.mk H
  clear H
  go_enter Try.func122, Try.ntmps122
  go_wp2_with (first | ((with_reducible refine gate_dst (N := 7) rfl ?_); refine Kd.R_lit (Kd.int .u8) _ 5 ?hg (N := 7) ?hd (xs := ([(Int.tmod a0 128) % 256] : List Int)) (inner := [.int .u8 ((Int.tmod a0 128) % 256)]) (ok := fun _ => True) (okp := fun _ => True) ?hr ?hp (fun _ hk => hk) trivial (Below.refl _ _) (Nat.le_refl _) (by simp) ?_; (case hd => rfl); (case hg => rfl); (case hr => first | (go_simp; done) | (go_simp; rfl)); (case hp => exact (Reps.one (show Kd.M (Kd.int .u8) _ _ _ ((Int.tmod a0 128) % 256) [.int .u8 ((Int.tmod a0 128) % 256)] from rfl) (Reps.none _ _))); intro v1170 w2 ho3 hb hg_ hnew_; clear hg_ hnew_; (first | rw [← Ny1169.out] at ho3 | (simp only [Int.reduceToNat] at ho3; rw [← Ny1169.out] at ho3)); have n0_ := Aside0.mk (Kd.R_lower ho3 (below_size (by repeat (first | (with_reducible first | exact HB.out | apply below_alloc | apply pw_below_drewN | apply below_drew1) | exact HB.out)))); have n1_ := Aside0.mk (below_step (by repeat (first | (with_reducible first | exact HB.out | apply below_alloc | apply pw_below_drewN | apply below_drew1) | exact HB.out)) hb); clear HB; have HO1171 := n0_; have HB := n1_; clear n0_ n1_; clear hb ho3))
  go_loopg [0, 3] k (fun kq v0 v3 w' => ∃ (x0_1 : Int) (x3_1 : List Int), v0 = .int .u64 x0_1 ∧ Aside0 (tally_Num.l0 kq x0_1 x3_1 = some r) ∧ Aside0 (kq ≤ k) ∧ Aside0 (Kd.R (Kd.int .u8) 5 w' w.heap.size (fun _ => True) v3 x3_1) ∧ Aside0 (Below w.heap.size w w'))
  case atStart => exact ⟨(a0 / 128), (y1169), (by first | rfl | (simp; done) | (simp [*]; done)), H', ⟨Nat.le_refl _⟩, ⟨by (with_reducible repeat (first | apply Kd.R_alloc | apply Kd.R_drewN | apply Kd.R_drew)); exact HO1171.out⟩, ⟨by repeat (first | (with_reducible first | exact HB.out | apply below_alloc | apply pw_below_drewN | apply below_drew1) | exact HB.out)⟩⟩
  case round =>
    clear H'
    try clear c1
    try clear p2
    obtain ⟨x0_1, x3_1, rfl, HA, HK1, HO_3, HB⟩ := hrel
    cases gk with
    | zero => exact absurd HA.out (by simp [tally_Num.l0])
    | succ k1 =>
      have H := HA.out
      clear HA
      simp only [tally_Num.l0] at H
      by_cases c4 : x0_1 > 0
      · rw [if_pos c4] at H
        have c4b0 : decide (0 < x0_1) = true := decide_eq_true c4
        clear c4
        by_cases c5 : x3_1.length < 140737488355328
        · rw [if_pos c5] at H
          have LMc5 := Aside0.mk c5
          clear c5
          obtain ⟨y1172, hy1172⟩ : ∃ y_ : List Int, y_ = (x3_1 ++ [Go.bits .or .u8 128 ((Int.tmod (IntKind.u64.wrap (x0_1 - 1)) 128) % 256)]) := ⟨_, rfl⟩
          replace H : (tally_Num.l0 k1 ((IntKind.u64.wrap (x0_1 - 1)) / 128) y1172) = some r := by first | (rw [hy1172]; with_reducible exact H) | (have H2_ := (Option.bind_some _ _).symm.trans H; rw [hy1172]; with_reducible exact H2_) | (have H2_ := (Option.bind_some _ _).symm.trans H; with_reducible exact H2_) | with_reducible exact H | (rw [hy1172]; exact H) | exact H
          have Ny1172 := Aside0.mk hy1172
          clear hy1172
          have H' := Aside0.mk H
          clear H
          go_wp2_with (first | ((with_reducible refine gate_builtin (b := .append) (xs := #[.tmp 16, .tmp 21]) rfl ?_); at_builtin; refine Kd.R_append (Kd.int .u8) (w0 := w) w.heap.size rfl (.tmp 16) (.tmp 21) 264 5 (.int .u8 0) 1 rfl Try.underlying264 info5 rfl (by decide) (by omega) u3 x3_1 (Go.bits .or .u8 128 ((Int.tmod (IntKind.u64.wrap (x0_1 - 1)) 128) % 256)) [.int .u8 (Go.bits .or .u8 128 ((Int.tmod (IntKind.u64.wrap (x0_1 - 1)) 128) % 256))] (fun _ => True) (fun _ => False) rfl rfl ?aP (fun _ hk => hk.elim) ?aF ?aO ?aB ?aS ?aL ?_; (case aP => exact rfl); (case aB => exact (by repeat (first | (with_reducible first | exact HB.out | apply below_alloc | apply pw_below_drewN | apply below_drew1) | exact HB.out))); (case aF => exact (fun _ _ => trivial)); (case aO => exact (by (with_reducible repeat (first | apply Kd.R_alloc | apply Kd.R_drewN | apply Kd.R_drew)); exact HO_3.out)); (case aS => exact (below_size (by repeat (first | (with_reducible first | exact HB.out | apply below_alloc | apply pw_below_drewN | apply below_drew1) | exact HB.out)))); (case aL => have := LMc5.out; omega); intro v1173 w6 ho hb hg hat; rw [← Ny1172.out] at ho; have n0_ := Aside0.mk (hb); have n1_ := Aside0.mk (ho); clear HB; clear HO_3; have HB := n0_; have HO1174 := n1_; clear n0_ n1_; clear ho hb hg hat))
          go_roundg k1
          case measure => have := HK1.out; omega
          case rel => exact ⟨((IntKind.u64.wrap (x0_1 - 1)) / 128), (y1172), (by first | rfl | (simp; done) | (simp [*]; done)), H', ⟨by have := HK1.out; omega⟩, ⟨by (with_reducible repeat (first | apply Kd.R_alloc | apply Kd.R_drewN | apply Kd.R_drew)); exact HO1174.out⟩, ⟨by repeat (first | (with_reducible first | exact HB.out | apply below_alloc | apply pw_below_drewN | apply below_drew1) | exact HB.out)⟩⟩
        · rw [if_neg c5] at H
          exact absurd H (by simp)
      · rw [if_neg c4] at H
        have c4b0 : decide (0 < x0_1) = false := decide_eq_false c4
        clear c4
        replace H := Option.bind_eq_some_iff.mp H
        obtain ⟨t1175, A70, H⟩ := H
        replace H : (some (strOfNums t1175)) = some r := H
        have A7 := Aside0.mk A70
        clear A70
        obtain rfl := Option.some.inj H
        obtain ⟨Ao8, co8, eo8⟩ := Kd.R_slice HO_3.out
        subst eo8
        go_wp2_with (first | ((with_reducible refine gate_callee (f := 171) rfl ?_); refine goesL_ (some 24) rfl rfl Try.func171 (by kernel_rfl) rfl #[.slice Ao8 x3_1.length co8] rfl (by (try simp only [List.map_toArray, List.map_cons, List.map_nil]); first | done | rfl | (simp only [List.length_drop, List.length_take]; rfl)) ?_; (with_reducible refine (slices_Reverse_byte_byte.calls k1 (fun k_ => some k_ = (.slice Ao8 x3_1.length co8 : Value).ownBlock) (.slice Ao8 x3_1.length co8) x3_1 t1175 w _ ?side1 ?side2 A7.out).mono ?_); (case side1 => repeat (first | (with_reducible first | exact HB.out | apply below_alloc | apply pw_below_drewN | apply below_drew1) | exact HB.out)); (case side2 => exact Kd.R_tight rfl HO_3.out); rintro e w9 ⟨rfl, hy0, hb, hkp⟩; refine ⟨_, rfl, ?_⟩; have n0_ := Aside0.mk (Kd.R_reok rfl hy0 (fun k_ e_ => HO_3.out.1 k_ e_)); have n1_ := Aside0.mk (hb); clear HO_3; clear HB; have HO_3 := n0_; have HB := n1_; clear n0_ n1_; (try clear hb); (try clear hkp); (try clear hy0); have hcv10 := own_string (P := Try.prog) Try.underlying264 Try.underlying5 Try.underlying9 (Kd.own_of_R HO_3.out)))
        go_ret
        exact ⟨by first | rfl | (simp [errW_none, errW_some] <;> rfl) | (simp [*, errW_none, errW_some] <;> rfl), by repeat (first | (with_reducible first | exact HB.out | apply below_alloc | apply pw_below_drewN | apply below_drew1) | exact HB.out)⟩

end Go.Proofs.Ytaoejonkiikhmaa.G

-- Text by a program of this session (gprint.py), over the kit's print.
namespace Go.Proofs.Ytaoejonkiikhmaa.G
open Go.RowKit Go.Proofs.YtaoejonkiikhmaaW.PrintWords Go.Proofs.YtaoejonkiikhmaaW.PrintLast Go.Proofs.YtaoejonkiikhmaaW.PrintMore
attribute [local go_sem] max2_int min2_int max_two min_two max_three min_three max_four min_four   -- for this text's walks alone
set_option linter.unusedVariables false
set_option linter.unusedSimpArgs false

/-! ### tally_Int: function 123 -/
def tally_Int.f (k : Nat) (a0 : Int) : Option (ByteArray) := (tally_Num.f k (Go.bits .xor .u64 (IntKind.u64.wrap ((IntKind.u64.wrap (a0)) * 2)) (IntKind.u64.wrap (a0 / 9223372036854775808)))).bind fun t1176 => (some t1176)
theorem tally_Int.mono : ∀ a0 k, LeO (tally_Int.f k a0) (tally_Int.f (k + 1) a0) := by
  intro a0 k
  unfold tally_Int.f
  repeat' first
      | (with_reducible exact tally_Num.mono _ _)
      | (with_reducible exact LeO.refl _)
      | (with_reducible exact LeO.none _)
      | (with_reducible refine LeO.ite ?_ ?_)
      | (with_reducible refine LeO.bind ?_ (fun _ => ?_))
      | exact tally_Num.mono _ _
      | exact LeO.none _
      | refine LeO.ite ?_ ?_
      | refine LeO.bind ?_ (fun _ => ?_)
set_option maxHeartbeats 8000000 in
set_option maxRecDepth 100000 in
theorem tally_Int.calls (k : Nat) (a0 : Int) (r : ByteArray) (w : World) (h : tally_Int.f k a0 = some r) :
    Calls Try.prog 123 #[.int .i64 a0] w fun e w' => e = .returned (.string r) ∧ Below w.heap.size w w' := by
  have HB := Aside0.mk (Below.refl w.heap.size w)
  have H : ((tally_Num.f k (Go.bits .xor .u64 (IntKind.u64.wrap ((IntKind.u64.wrap (a0)) * 2)) (IntKind.u64.wrap (a0 / 9223372036854775808)))).bind fun t1176 => (some t1176)) = some r := h
  clear h
  replace H := Option.bind_eq_some_iff.mp H
  obtain ⟨t1176, A20, H⟩ := H
  replace H : (some t1176) = some r := H
  have A2 := Aside0.mk A20
  clear A20
  obtain rfl := Option.some.inj H
  go_enter Try.func123, Try.ntmps123
  go_wp2_with (first | ((with_reducible refine gate_callee (f := 122) rfl ?_); refine goesL_ (some 10) rfl rfl Try.func122 (by kernel_rfl) rfl #[.int .u64 (Go.bits .xor .u64 (IntKind.u64.wrap ((IntKind.u64.wrap (a0)) * 2)) (IntKind.u64.wrap (a0 / 9223372036854775808)))] rfl (by (try simp only [List.map_toArray, List.map_cons, List.map_nil]); first | done | rfl | (simp only [List.length_drop, List.length_take]; rfl)) ?_; (with_reducible refine (tally_Num.calls k (Go.bits .xor .u64 (IntKind.u64.wrap ((IntKind.u64.wrap (a0)) * 2)) (IntKind.u64.wrap (a0 / 9223372036854775808))) t1176 _ A2.out).mono ?_); rintro e w3 ⟨rfl, hb⟩; refine ⟨_, rfl, ?_⟩; have n0_ := Aside0.mk (below_step (by repeat (first | (with_reducible first | exact HB.out | apply below_alloc | apply pw_below_drewN | apply below_drew1) | exact HB.out)) hb); clear HB; have HB := n0_; clear n0_; (try clear hb); (try clear hb2); (try clear hk); (try clear hi)))
  go_ret
  exact ⟨by first | rfl | (simp [errW_none, errW_some] <;> rfl) | (simp [*, errW_none, errW_some] <;> rfl), by repeat (first | (with_reducible first | exact HB.out | apply below_alloc | apply pw_below_drewN | apply below_drew1) | exact HB.out)⟩

end Go.Proofs.Ytaoejonkiikhmaa.G

-- Text by a program of this session (gprint.py), over the kit's print.
namespace Go.Proofs.Ytaoejonkiikhmaa.G
open Go.RowKit Go.Proofs.YtaoejonkiikhmaaW.PrintWords Go.Proofs.YtaoejonkiikhmaaW.PrintLast Go.Proofs.YtaoejonkiikhmaaW.PrintMore
attribute [local go_sem] max2_int min2_int max_two min_two max_three min_three max_four min_four   -- for this text's walks alone
set_option linter.unusedVariables false
set_option linter.unusedSimpArgs false

/-! ### quittanceref20_Same: function 38 -/
def quittanceref20_Same.f (k : Nat) (a0_0 : Int) (a0_1 : Int) (a0_2 : Int) (l0_3 : List (S113)) (a1_0 : Int) (a1_1 : Int) (a1_2 : Int) (l1_3 : List (S113)) : Option (Bool) := if a0_0 = a1_0 then (if a0_1 = a1_1 then (if a0_2 = a1_2 then ((quittanceref20_SameLines.f k l0_3 l1_3).bind fun t765 => (some t765)) else (some false)) else (some false)) else (some false)
theorem quittanceref20_Same.mono : ∀ a0 a1 a2 a3 a4 a5 a6 a7 k, LeO (quittanceref20_Same.f k a0 a1 a2 a3 a4 a5 a6 a7) (quittanceref20_Same.f (k + 1) a0 a1 a2 a3 a4 a5 a6 a7) := by
  intro a0 a1 a2 a3 a4 a5 a6 a7 k
  unfold quittanceref20_Same.f
  repeat' first
      | (with_reducible exact quittanceref20_SameLines.mono _ _ _)
      | (with_reducible exact LeO.refl _)
      | (with_reducible exact LeO.none _)
      | (with_reducible refine LeO.ite ?_ ?_)
      | (with_reducible refine LeO.bind ?_ (fun _ => ?_))
      | exact quittanceref20_SameLines.mono _ _ _
      | exact LeO.none _
      | refine LeO.ite ?_ ?_
      | refine LeO.bind ?_ (fun _ => ?_)
set_option maxHeartbeats 8000000 in
set_option maxRecDepth 100000 in
theorem quittanceref20_Same.calls (k : Nat) (a0_0 : Int) (a0_1 : Int) (a0_2 : Int) (A0_3 : Option Addr) (c0_3 : Nat) (l0_3 : List (S113)) (a1_0 : Int) (a1_1 : Int) (a1_2 : Int) (A1_3 : Option Addr) (c1_3 : Nat) (l1_3 : List (S113)) (r : Bool) (w : World) (hr0_3 : Kd.C k113 w A0_3 l0_3.length l0_3) (hc0_3 : l0_3.length ≤ c0_3) (hr1_3 : Kd.C k113 w A1_3 l1_3.length l1_3) (hc1_3 : l1_3.length ≤ c1_3) (h : quittanceref20_Same.f k a0_0 a0_1 a0_2 l0_3 a1_0 a1_1 a1_2 l1_3 = some r) :
    Calls Try.prog 38 #[.agg #[.int .i64 a0_0, .int .u8 a0_1, .int .u64 a0_2, .slice A0_3 l0_3.length c0_3], .agg #[.int .i64 a1_0, .int .u8 a1_1, .int .u64 a1_2, .slice A1_3 l1_3.length c1_3]] w fun e w' => e = .returned (.bool r) ∧ Below w.heap.size w w' := by
  have hu32 := Try.underlying32
  have HR0_3 := Aside0.mk hr0_3
  have HC0_3 := Aside0.mk hc0_3
  clear hr0_3 hc0_3
  have HR1_3 := Aside0.mk hr1_3
  have HC1_3 := Aside0.mk hc1_3
  clear hr1_3 hc1_3
  have HB := Aside0.mk (Below.refl w.heap.size w)
  have H : (if a0_0 = a1_0 then (if a0_1 = a1_1 then (if a0_2 = a1_2 then ((quittanceref20_SameLines.f k l0_3 l1_3).bind fun t765 => (some t765)) else (some false)) else (some false)) else (some false)) = some r := h
  clear h
  by_cases c3 : a0_0 = a1_0
  · rw [if_pos c3] at H
    have c3b0 : (a0_0 == a1_0) = true := beq_iff_eq.mpr c3
    have c3b1 : (a0_0 != a1_0) = false := bne_eq_false_iff_eq.mpr c3
    clear c3
    by_cases c4 : a0_1 = a1_1
    · rw [if_pos c4] at H
      have c4b0 : (a0_1 == a1_1) = true := beq_iff_eq.mpr c4
      have c4b1 : (a0_1 != a1_1) = false := bne_eq_false_iff_eq.mpr c4
      clear c4
      by_cases c5 : a0_2 = a1_2
      · rw [if_pos c5] at H
        have c5b0 : (a0_2 == a1_2) = true := beq_iff_eq.mpr c5
        have c5b1 : (a0_2 != a1_2) = false := bne_eq_false_iff_eq.mpr c5
        clear c5
        replace H := Option.bind_eq_some_iff.mp H
        obtain ⟨t765, A60, H⟩ := H
        replace H : (some t765) = some r := H
        have A6 := Aside0.mk A60
        clear A60
        obtain rfl := Option.some.inj H
        go_enter Try.func38, Try.ntmps38
        go_wp2_with (first | ((with_reducible refine gate_dst (N := 2) rfl ?_); refine box_event ?hg (N := 2) ?hd (cs := #[.int .i64 a0_0, .int .u8 a0_1, .int .u64 a0_2, .slice A0_3 l0_3.length c0_3]) (t := 32) ?hr ?_; (case hd => rfl); (case hg => rfl); (case hr => first | (go_simp; done) | (go_simp; rfl)); intro gb763 hg w7 hbox hb; have n0_ := Aside0.mk (below_step (by repeat (first | (with_reducible first | exact HB.out | apply below_alloc | apply pw_below_drewN | apply below_drew1) | exact HB.out)) hb); have n1_ := Aside0.mk (hbox); have n2_ := Aside0.mk ((by rw [hg]; exact (below_size (by repeat (first | (with_reducible first | exact HB.out | apply below_alloc | apply pw_below_drewN | apply below_drew1) | exact HB.out))) : w.heap.size ≤ gb763)); have n3_ := Aside0.mk ((by rw [hg]; exact (below_size (by repeat (first | (with_reducible first | exact HB.out | apply below_alloc | apply pw_below_drewN | apply below_drew1) | exact HB.out))) : w.heap.size ≤ gb763)); clear HB; have HB := n0_; have BK763 := n1_; have GW763 := n2_; have GE763 := n3_; clear n0_ n1_ n2_ n3_; clear hb hbox hg) | ((with_reducible refine gate_dst (N := 3) rfl ?_); refine box_event ?hg (N := 3) ?hd (cs := #[.int .i64 a1_0, .int .u8 a1_1, .int .u64 a1_2, .slice A1_3 l1_3.length c1_3]) (t := 32) ?hr ?_; (case hd => rfl); (case hg => rfl); (case hr => first | (go_simp; done) | (go_simp; rfl)); intro gb764 hg w8 hbox hb; have n0_ := Aside0.mk (blk_below (g := gb763) (o := .cells #[.int .i64 a0_0, .int .u8 a0_1, .int .u64 a0_2, .slice A0_3 l0_3.length c0_3] 32 (0, 0)) (by (with_reducible repeat (first | refine blk_drewN ?_ _ | refine blk_drew ?_ | refine blk_alloc ?_ _)); exact BK763.out) hb); have n1_ := Aside0.mk (below_step (by repeat (first | (with_reducible first | exact HB.out | apply below_alloc | apply pw_below_drewN | apply below_drew1 | refine below_set ?_ GE763.out) | exact HB.out)) hb); have n2_ := Aside0.mk (hbox); have n3_ := Aside0.mk ((by rw [hg]; exact (below_size (by repeat (first | (with_reducible first | exact HB.out | apply below_alloc | apply pw_below_drewN | apply below_drew1 | refine below_set ?_ GE763.out) | exact HB.out))) : w.heap.size ≤ gb764)); have n4_ := Aside0.mk ((by rw [hg]; exact (below_size (by repeat (first | (with_reducible first | exact HB.out | apply below_alloc | apply pw_below_drewN | apply below_drew1 | refine below_set ?_ GE763.out) | exact HB.out))) : w.heap.size ≤ gb764)); have n5_ := Aside0.mk ((by rw [hg]; exact Nat.ne_of_lt (blk_lt (g := gb763) (o := .cells #[.int .i64 a0_0, .int .u8 a0_1, .int .u64 a0_2, .slice A0_3 l0_3.length c0_3] 32 (0, 0)) (by (with_reducible repeat (first | refine blk_drewN ?_ _ | refine blk_drew ?_ | refine blk_alloc ?_ _)); exact BK763.out)) : gb763 ≠ gb764)); have n6_ := Aside0.mk ((by rw [hg]; exact Nat.ne_of_gt (blk_lt (g := gb763) (o := .cells #[.int .i64 a0_0, .int .u8 a0_1, .int .u64 a0_2, .slice A0_3 l0_3.length c0_3] 32 (0, 0)) (by (with_reducible repeat (first | refine blk_drewN ?_ _ | refine blk_drew ?_ | refine blk_alloc ?_ _)); exact BK763.out)) : gb764 ≠ gb763)); clear BK763; clear HB; have BK763 := n0_; have HB := n1_; have BK764 := n2_; have GW764 := n3_; have GE764 := n4_; have NB763_764 := n5_; have NB764_763 := n6_; clear n0_ n1_ n2_ n3_ n4_ n5_ n6_; clear hb hbox hg; have hnb9 := NB763_764.out; have hnc9 := NB764_763.out; have hcz10_0 : w8.cell? ⟨gb763, 0, none⟩ = some (.int .i64 a0_0) := (blk_cell BK763.out 0).trans rfl; have hcz10_1 : w8.cell? ⟨gb763, 1, none⟩ = some (.int .u8 a0_1) := (blk_cell BK763.out 1).trans rfl; have hcz10_2 : w8.cell? ⟨gb763, 2, none⟩ = some (.int .u64 a0_2) := (blk_cell BK763.out 2).trans rfl; have hcz10_3 : w8.cell? ⟨gb763, 3, none⟩ = some (.slice A0_3 l0_3.length c0_3) := (blk_cell BK763.out 3).trans rfl; have hfz10_0 := blk_frozen BK763.out 0; have hfz10_1 := blk_frozen BK763.out 1; have hfz10_2 := blk_frozen BK763.out 2; have hfz10_3 := blk_frozen BK763.out 3; have hcz11_0 : w8.cell? ⟨gb764, 0, none⟩ = some (.int .i64 a1_0) := (blk_cell BK764.out 0).trans rfl; have hcz11_1 : w8.cell? ⟨gb764, 1, none⟩ = some (.int .u8 a1_1) := (blk_cell BK764.out 1).trans rfl; have hcz11_2 : w8.cell? ⟨gb764, 2, none⟩ = some (.int .u64 a1_2) := (blk_cell BK764.out 2).trans rfl; have hcz11_3 : w8.cell? ⟨gb764, 3, none⟩ = some (.slice A1_3 l1_3.length c1_3) := (blk_cell BK764.out 3).trans rfl; have hfz11_0 := blk_frozen BK764.out 0; have hfz11_1 := blk_frozen BK764.out 1; have hfz11_2 := blk_frozen BK764.out 2; have hfz11_3 := blk_frozen BK764.out 3) | (go_at_call 53; (with_reducible refine (quittanceref20_SameLines.calls k _ _ l0_3 _ _ l1_3 t765 _ ?side1 ?side2 ?side3 ?side4 A6.out).mono ?_); (case side1 => repeat (first | exact (Kd.C_below HR0_3.out HB.out) | (with_reducible refine Kd.C_alloc ?_ _) | (with_reducible refine Kd.C_drewN ?_ _) | (with_reducible refine Kd.C_drew ?_))); (case side2 => exact HC0_3.out); (case side3 => repeat (first | exact (Kd.C_below HR1_3.out HB.out) | (with_reducible refine Kd.C_alloc ?_ _) | (with_reducible refine Kd.C_drewN ?_ _) | (with_reducible refine Kd.C_drew ?_))); (case side4 => exact HC1_3.out); rintro e w' ⟨rfl, ⟨nd, rfl⟩⟩))
        go_ret
        exact ⟨by first | rfl | (simp [errW_none, errW_some] <;> rfl) | (simp [*, errW_none, errW_some] <;> rfl), by repeat (first | (with_reducible first | exact HB.out | apply below_alloc | apply pw_below_drewN | apply below_drew1 | refine below_set ?_ GE763.out | refine below_set ?_ GE764.out) | exact HB.out)⟩
      · rw [if_neg c5] at H
        have c5b0 : (a0_2 == a1_2) = false := beq_eq_false_iff_ne.mpr c5
        have c5b1 : (a0_2 != a1_2) = true := bne_iff_ne.mpr c5
        obtain rfl := Option.some.inj H
        go_enter Try.func38, Try.ntmps38
        go_wp2_with (first | ((with_reducible refine gate_dst (N := 2) rfl ?_); refine box_event ?hg (N := 2) ?hd (cs := #[.int .i64 a0_0, .int .u8 a0_1, .int .u64 a0_2, .slice A0_3 l0_3.length c0_3]) (t := 32) ?hr ?_; (case hd => rfl); (case hg => rfl); (case hr => first | (go_simp; done) | (go_simp; rfl)); intro gb763 hg w12 hbox hb; have n0_ := Aside0.mk (below_step (by repeat (first | (with_reducible first | exact HB.out | apply below_alloc | apply pw_below_drewN | apply below_drew1) | exact HB.out)) hb); have n1_ := Aside0.mk (hbox); have n2_ := Aside0.mk ((by rw [hg]; exact (below_size (by repeat (first | (with_reducible first | exact HB.out | apply below_alloc | apply pw_below_drewN | apply below_drew1) | exact HB.out))) : w.heap.size ≤ gb763)); have n3_ := Aside0.mk ((by rw [hg]; exact (below_size (by repeat (first | (with_reducible first | exact HB.out | apply below_alloc | apply pw_below_drewN | apply below_drew1) | exact HB.out))) : w.heap.size ≤ gb763)); clear HB; have HB := n0_; have BK763 := n1_; have GW763 := n2_; have GE763 := n3_; clear n0_ n1_ n2_ n3_; clear hb hbox hg) | ((with_reducible refine gate_dst (N := 3) rfl ?_); refine box_event ?hg (N := 3) ?hd (cs := #[.int .i64 a1_0, .int .u8 a1_1, .int .u64 a1_2, .slice A1_3 l1_3.length c1_3]) (t := 32) ?hr ?_; (case hd => rfl); (case hg => rfl); (case hr => first | (go_simp; done) | (go_simp; rfl)); intro gb764 hg w13 hbox hb; have n0_ := Aside0.mk (blk_below (g := gb763) (o := .cells #[.int .i64 a0_0, .int .u8 a0_1, .int .u64 a0_2, .slice A0_3 l0_3.length c0_3] 32 (0, 0)) (by (with_reducible repeat (first | refine blk_drewN ?_ _ | refine blk_drew ?_ | refine blk_alloc ?_ _)); exact BK763.out) hb); have n1_ := Aside0.mk (below_step (by repeat (first | (with_reducible first | exact HB.out | apply below_alloc | apply pw_below_drewN | apply below_drew1 | refine below_set ?_ GE763.out) | exact HB.out)) hb); have n2_ := Aside0.mk (hbox); have n3_ := Aside0.mk ((by rw [hg]; exact (below_size (by repeat (first | (with_reducible first | exact HB.out | apply below_alloc | apply pw_below_drewN | apply below_drew1 | refine below_set ?_ GE763.out) | exact HB.out))) : w.heap.size ≤ gb764)); have n4_ := Aside0.mk ((by rw [hg]; exact (below_size (by repeat (first | (with_reducible first | exact HB.out | apply below_alloc | apply pw_below_drewN | apply below_drew1 | refine below_set ?_ GE763.out) | exact HB.out))) : w.heap.size ≤ gb764)); have n5_ := Aside0.mk ((by rw [hg]; exact Nat.ne_of_lt (blk_lt (g := gb763) (o := .cells #[.int .i64 a0_0, .int .u8 a0_1, .int .u64 a0_2, .slice A0_3 l0_3.length c0_3] 32 (0, 0)) (by (with_reducible repeat (first | refine blk_drewN ?_ _ | refine blk_drew ?_ | refine blk_alloc ?_ _)); exact BK763.out)) : gb763 ≠ gb764)); have n6_ := Aside0.mk ((by rw [hg]; exact Nat.ne_of_gt (blk_lt (g := gb763) (o := .cells #[.int .i64 a0_0, .int .u8 a0_1, .int .u64 a0_2, .slice A0_3 l0_3.length c0_3] 32 (0, 0)) (by (with_reducible repeat (first | refine blk_drewN ?_ _ | refine blk_drew ?_ | refine blk_alloc ?_ _)); exact BK763.out)) : gb764 ≠ gb763)); clear BK763; clear HB; have BK763 := n0_; have HB := n1_; have BK764 := n2_; have GW764 := n3_; have GE764 := n4_; have NB763_764 := n5_; have NB764_763 := n6_; clear n0_ n1_ n2_ n3_ n4_ n5_ n6_; clear hb hbox hg; have hnb14 := NB763_764.out; have hnc14 := NB764_763.out; have hcz15_0 : w13.cell? ⟨gb763, 0, none⟩ = some (.int .i64 a0_0) := (blk_cell BK763.out 0).trans rfl; have hcz15_1 : w13.cell? ⟨gb763, 1, none⟩ = some (.int .u8 a0_1) := (blk_cell BK763.out 1).trans rfl; have hcz15_2 : w13.cell? ⟨gb763, 2, none⟩ = some (.int .u64 a0_2) := (blk_cell BK763.out 2).trans rfl; have hcz15_3 : w13.cell? ⟨gb763, 3, none⟩ = some (.slice A0_3 l0_3.length c0_3) := (blk_cell BK763.out 3).trans rfl; have hfz15_0 := blk_frozen BK763.out 0; have hfz15_1 := blk_frozen BK763.out 1; have hfz15_2 := blk_frozen BK763.out 2; have hfz15_3 := blk_frozen BK763.out 3; have hcz16_0 : w13.cell? ⟨gb764, 0, none⟩ = some (.int .i64 a1_0) := (blk_cell BK764.out 0).trans rfl; have hcz16_1 : w13.cell? ⟨gb764, 1, none⟩ = some (.int .u8 a1_1) := (blk_cell BK764.out 1).trans rfl; have hcz16_2 : w13.cell? ⟨gb764, 2, none⟩ = some (.int .u64 a1_2) := (blk_cell BK764.out 2).trans rfl; have hcz16_3 : w13.cell? ⟨gb764, 3, none⟩ = some (.slice A1_3 l1_3.length c1_3) := (blk_cell BK764.out 3).trans rfl; have hfz16_0 := blk_frozen BK764.out 0; have hfz16_1 := blk_frozen BK764.out 1; have hfz16_2 := blk_frozen BK764.out 2; have hfz16_3 := blk_frozen BK764.out 3))
        go_ret
        exact ⟨by first | rfl | (simp [errW_none, errW_some] <;> rfl) | (simp [*, errW_none, errW_some] <;> rfl), by repeat (first | (with_reducible first | exact HB.out | apply below_alloc | apply pw_below_drewN | apply below_drew1 | refine below_set ?_ GE763.out | refine below_set ?_ GE764.out) | exact HB.out)⟩
    · rw [if_neg c4] at H
      have c4b0 : (a0_1 == a1_1) = false := beq_eq_false_iff_ne.mpr c4
      have c4b1 : (a0_1 != a1_1) = true := bne_iff_ne.mpr c4
      obtain rfl := Option.some.inj H
      go_enter Try.func38, Try.ntmps38
      go_wp2_with (first | ((with_reducible refine gate_dst (N := 2) rfl ?_); refine box_event ?hg (N := 2) ?hd (cs := #[.int .i64 a0_0, .int .u8 a0_1, .int .u64 a0_2, .slice A0_3 l0_3.length c0_3]) (t := 32) ?hr ?_; (case hd => rfl); (case hg => rfl); (case hr => first | (go_simp; done) | (go_simp; rfl)); intro gb763 hg w17 hbox hb; have n0_ := Aside0.mk (below_step (by repeat (first | (with_reducible first | exact HB.out | apply below_alloc | apply pw_below_drewN | apply below_drew1) | exact HB.out)) hb); have n1_ := Aside0.mk (hbox); have n2_ := Aside0.mk ((by rw [hg]; exact (below_size (by repeat (first | (with_reducible first | exact HB.out | apply below_alloc | apply pw_below_drewN | apply below_drew1) | exact HB.out))) : w.heap.size ≤ gb763)); have n3_ := Aside0.mk ((by rw [hg]; exact (below_size (by repeat (first | (with_reducible first | exact HB.out | apply below_alloc | apply pw_below_drewN | apply below_drew1) | exact HB.out))) : w.heap.size ≤ gb763)); clear HB; have HB := n0_; have BK763 := n1_; have GW763 := n2_; have GE763 := n3_; clear n0_ n1_ n2_ n3_; clear hb hbox hg) | ((with_reducible refine gate_dst (N := 3) rfl ?_); refine box_event ?hg (N := 3) ?hd (cs := #[.int .i64 a1_0, .int .u8 a1_1, .int .u64 a1_2, .slice A1_3 l1_3.length c1_3]) (t := 32) ?hr ?_; (case hd => rfl); (case hg => rfl); (case hr => first | (go_simp; done) | (go_simp; rfl)); intro gb764 hg w18 hbox hb; have n0_ := Aside0.mk (blk_below (g := gb763) (o := .cells #[.int .i64 a0_0, .int .u8 a0_1, .int .u64 a0_2, .slice A0_3 l0_3.length c0_3] 32 (0, 0)) (by (with_reducible repeat (first | refine blk_drewN ?_ _ | refine blk_drew ?_ | refine blk_alloc ?_ _)); exact BK763.out) hb); have n1_ := Aside0.mk (below_step (by repeat (first | (with_reducible first | exact HB.out | apply below_alloc | apply pw_below_drewN | apply below_drew1 | refine below_set ?_ GE763.out) | exact HB.out)) hb); have n2_ := Aside0.mk (hbox); have n3_ := Aside0.mk ((by rw [hg]; exact (below_size (by repeat (first | (with_reducible first | exact HB.out | apply below_alloc | apply pw_below_drewN | apply below_drew1 | refine below_set ?_ GE763.out) | exact HB.out))) : w.heap.size ≤ gb764)); have n4_ := Aside0.mk ((by rw [hg]; exact (below_size (by repeat (first | (with_reducible first | exact HB.out | apply below_alloc | apply pw_below_drewN | apply below_drew1 | refine below_set ?_ GE763.out) | exact HB.out))) : w.heap.size ≤ gb764)); have n5_ := Aside0.mk ((by rw [hg]; exact Nat.ne_of_lt (blk_lt (g := gb763) (o := .cells #[.int .i64 a0_0, .int .u8 a0_1, .int .u64 a0_2, .slice A0_3 l0_3.length c0_3] 32 (0, 0)) (by (with_reducible repeat (first | refine blk_drewN ?_ _ | refine blk_drew ?_ | refine blk_alloc ?_ _)); exact BK763.out)) : gb763 ≠ gb764)); have n6_ := Aside0.mk ((by rw [hg]; exact Nat.ne_of_gt (blk_lt (g := gb763) (o := .cells #[.int .i64 a0_0, .int .u8 a0_1, .int .u64 a0_2, .slice A0_3 l0_3.length c0_3] 32 (0, 0)) (by (with_reducible repeat (first | refine blk_drewN ?_ _ | refine blk_drew ?_ | refine blk_alloc ?_ _)); exact BK763.out)) : gb764 ≠ gb763)); clear BK763; clear HB; have BK763 := n0_; have HB := n1_; have BK764 := n2_; have GW764 := n3_; have GE764 := n4_; have NB763_764 := n5_; have NB764_763 := n6_; clear n0_ n1_ n2_ n3_ n4_ n5_ n6_; clear hb hbox hg; have hnb19 := NB763_764.out; have hnc19 := NB764_763.out; have hcz20_0 : w18.cell? ⟨gb763, 0, none⟩ = some (.int .i64 a0_0) := (blk_cell BK763.out 0).trans rfl; have hcz20_1 : w18.cell? ⟨gb763, 1, none⟩ = some (.int .u8 a0_1) := (blk_cell BK763.out 1).trans rfl; have hcz20_2 : w18.cell? ⟨gb763, 2, none⟩ = some (.int .u64 a0_2) := (blk_cell BK763.out 2).trans rfl; have hcz20_3 : w18.cell? ⟨gb763, 3, none⟩ = some (.slice A0_3 l0_3.length c0_3) := (blk_cell BK763.out 3).trans rfl; have hfz20_0 := blk_frozen BK763.out 0; have hfz20_1 := blk_frozen BK763.out 1; have hfz20_2 := blk_frozen BK763.out 2; have hfz20_3 := blk_frozen BK763.out 3; have hcz21_0 : w18.cell? ⟨gb764, 0, none⟩ = some (.int .i64 a1_0) := (blk_cell BK764.out 0).trans rfl; have hcz21_1 : w18.cell? ⟨gb764, 1, none⟩ = some (.int .u8 a1_1) := (blk_cell BK764.out 1).trans rfl; have hcz21_2 : w18.cell? ⟨gb764, 2, none⟩ = some (.int .u64 a1_2) := (blk_cell BK764.out 2).trans rfl; have hcz21_3 : w18.cell? ⟨gb764, 3, none⟩ = some (.slice A1_3 l1_3.length c1_3) := (blk_cell BK764.out 3).trans rfl; have hfz21_0 := blk_frozen BK764.out 0; have hfz21_1 := blk_frozen BK764.out 1; have hfz21_2 := blk_frozen BK764.out 2; have hfz21_3 := blk_frozen BK764.out 3))
      go_ret
      exact ⟨by first | rfl | (simp [errW_none, errW_some] <;> rfl) | (simp [*, errW_none, errW_some] <;> rfl), by repeat (first | (with_reducible first | exact HB.out | apply below_alloc | apply pw_below_drewN | apply below_drew1 | refine below_set ?_ GE763.out | refine below_set ?_ GE764.out) | exact HB.out)⟩
  · rw [if_neg c3] at H
    have c3b0 : (a0_0 == a1_0) = false := beq_eq_false_iff_ne.mpr c3
    have c3b1 : (a0_0 != a1_0) = true := bne_iff_ne.mpr c3
    obtain rfl := Option.some.inj H
    go_enter Try.func38, Try.ntmps38
    go_wp2_with (first | ((with_reducible refine gate_dst (N := 2) rfl ?_); refine box_event ?hg (N := 2) ?hd (cs := #[.int .i64 a0_0, .int .u8 a0_1, .int .u64 a0_2, .slice A0_3 l0_3.length c0_3]) (t := 32) ?hr ?_; (case hd => rfl); (case hg => rfl); (case hr => first | (go_simp; done) | (go_simp; rfl)); intro gb763 hg w22 hbox hb; have n0_ := Aside0.mk (below_step (by repeat (first | (with_reducible first | exact HB.out | apply below_alloc | apply pw_below_drewN | apply below_drew1) | exact HB.out)) hb); have n1_ := Aside0.mk (hbox); have n2_ := Aside0.mk ((by rw [hg]; exact (below_size (by repeat (first | (with_reducible first | exact HB.out | apply below_alloc | apply pw_below_drewN | apply below_drew1) | exact HB.out))) : w.heap.size ≤ gb763)); have n3_ := Aside0.mk ((by rw [hg]; exact (below_size (by repeat (first | (with_reducible first | exact HB.out | apply below_alloc | apply pw_below_drewN | apply below_drew1) | exact HB.out))) : w.heap.size ≤ gb763)); clear HB; have HB := n0_; have BK763 := n1_; have GW763 := n2_; have GE763 := n3_; clear n0_ n1_ n2_ n3_; clear hb hbox hg) | ((with_reducible refine gate_dst (N := 3) rfl ?_); refine box_event ?hg (N := 3) ?hd (cs := #[.int .i64 a1_0, .int .u8 a1_1, .int .u64 a1_2, .slice A1_3 l1_3.length c1_3]) (t := 32) ?hr ?_; (case hd => rfl); (case hg => rfl); (case hr => first | (go_simp; done) | (go_simp; rfl)); intro gb764 hg w23 hbox hb; have n0_ := Aside0.mk (blk_below (g := gb763) (o := .cells #[.int .i64 a0_0, .int .u8 a0_1, .int .u64 a0_2, .slice A0_3 l0_3.length c0_3] 32 (0, 0)) (by (with_reducible repeat (first | refine blk_drewN ?_ _ | refine blk_drew ?_ | refine blk_alloc ?_ _)); exact BK763.out) hb); have n1_ := Aside0.mk (below_step (by repeat (first | (with_reducible first | exact HB.out | apply below_alloc | apply pw_below_drewN | apply below_drew1 | refine below_set ?_ GE763.out) | exact HB.out)) hb); have n2_ := Aside0.mk (hbox); have n3_ := Aside0.mk ((by rw [hg]; exact (below_size (by repeat (first | (with_reducible first | exact HB.out | apply below_alloc | apply pw_below_drewN | apply below_drew1 | refine below_set ?_ GE763.out) | exact HB.out))) : w.heap.size ≤ gb764)); have n4_ := Aside0.mk ((by rw [hg]; exact (below_size (by repeat (first | (with_reducible first | exact HB.out | apply below_alloc | apply pw_below_drewN | apply below_drew1 | refine below_set ?_ GE763.out) | exact HB.out))) : w.heap.size ≤ gb764)); have n5_ := Aside0.mk ((by rw [hg]; exact Nat.ne_of_lt (blk_lt (g := gb763) (o := .cells #[.int .i64 a0_0, .int .u8 a0_1, .int .u64 a0_2, .slice A0_3 l0_3.length c0_3] 32 (0, 0)) (by (with_reducible repeat (first | refine blk_drewN ?_ _ | refine blk_drew ?_ | refine blk_alloc ?_ _)); exact BK763.out)) : gb763 ≠ gb764)); have n6_ := Aside0.mk ((by rw [hg]; exact Nat.ne_of_gt (blk_lt (g := gb763) (o := .cells #[.int .i64 a0_0, .int .u8 a0_1, .int .u64 a0_2, .slice A0_3 l0_3.length c0_3] 32 (0, 0)) (by (with_reducible repeat (first | refine blk_drewN ?_ _ | refine blk_drew ?_ | refine blk_alloc ?_ _)); exact BK763.out)) : gb764 ≠ gb763)); clear BK763; clear HB; have BK763 := n0_; have HB := n1_; have BK764 := n2_; have GW764 := n3_; have GE764 := n4_; have NB763_764 := n5_; have NB764_763 := n6_; clear n0_ n1_ n2_ n3_ n4_ n5_ n6_; clear hb hbox hg; have hnb24 := NB763_764.out; have hnc24 := NB764_763.out; have hcz25_0 : w23.cell? ⟨gb763, 0, none⟩ = some (.int .i64 a0_0) := (blk_cell BK763.out 0).trans rfl; have hcz25_1 : w23.cell? ⟨gb763, 1, none⟩ = some (.int .u8 a0_1) := (blk_cell BK763.out 1).trans rfl; have hcz25_2 : w23.cell? ⟨gb763, 2, none⟩ = some (.int .u64 a0_2) := (blk_cell BK763.out 2).trans rfl; have hcz25_3 : w23.cell? ⟨gb763, 3, none⟩ = some (.slice A0_3 l0_3.length c0_3) := (blk_cell BK763.out 3).trans rfl; have hfz25_0 := blk_frozen BK763.out 0; have hfz25_1 := blk_frozen BK763.out 1; have hfz25_2 := blk_frozen BK763.out 2; have hfz25_3 := blk_frozen BK763.out 3; have hcz26_0 : w23.cell? ⟨gb764, 0, none⟩ = some (.int .i64 a1_0) := (blk_cell BK764.out 0).trans rfl; have hcz26_1 : w23.cell? ⟨gb764, 1, none⟩ = some (.int .u8 a1_1) := (blk_cell BK764.out 1).trans rfl; have hcz26_2 : w23.cell? ⟨gb764, 2, none⟩ = some (.int .u64 a1_2) := (blk_cell BK764.out 2).trans rfl; have hcz26_3 : w23.cell? ⟨gb764, 3, none⟩ = some (.slice A1_3 l1_3.length c1_3) := (blk_cell BK764.out 3).trans rfl; have hfz26_0 := blk_frozen BK764.out 0; have hfz26_1 := blk_frozen BK764.out 1; have hfz26_2 := blk_frozen BK764.out 2; have hfz26_3 := blk_frozen BK764.out 3))
    go_ret
    exact ⟨by first | rfl | (simp [errW_none, errW_some] <;> rfl) | (simp [*, errW_none, errW_some] <;> rfl), by repeat (first | (with_reducible first | exact HB.out | apply below_alloc | apply pw_below_drewN | apply below_drew1 | refine below_set ?_ GE763.out | refine below_set ?_ GE764.out) | exact HB.out)⟩

end Go.Proofs.Ytaoejonkiikhmaa.G
