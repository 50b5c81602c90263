/- Texts of this claim put together: HChartAdd2, HChartAdd3, HOn2, HStandard, HStandard2, HHead20. -/
import Derived.Test.YtaoejonkiikhmaaMLEan
import Derived.Test.YtaoejonkiikhmaaMLEaf
import Derived.Test.YtaoejonkiikhmaaMLEam
import Derived.Test.YtaoejonkiikhmaaMLEaa
import Derived.Test.YtaoejonkiikhmaaMLEal

/- (*Chart).Add, of any account that is handed: what it may do to a chart whose accounts stand under ones that are there. -/
namespace Go.Proofs.Ytaoejonkiikhmaa.G
open Go.RowKit Go.Proofs.YtaoejonkiikhmaaW.PrintWords Go.Proofs.YtaoejonkiikhmaaW.PrintLast Go.Proofs.YtaoejonkiikhmaaW.PrintMore
open Go.Maps
set_option linter.unusedVariables false
set_option linter.unusedSimpArgs false

attribute [local go_sem ↓] Go.wp_at_zero Go.wp_at_succ
set_option maxHeartbeats 4000000 in
set_option maxRecDepth 100000 in
theorem chart_Add.bad (k : Nat) (w : World) (cb mb : Nat) (l : List Acc) (h : ChartAt w cb mb l) (a : Acc) (hwf : (Lit.int .i64 a.f0).wf = true) (hmay : chart_may.f k a.f0 a.f1 a.f2 a.f3 a.f4 = some false) :
    Calls Try.prog 116 #[.pointer (some ⟨cb, 0, none⟩), accV a] w fun e w' => e = .returned (.int .i64 2) ∧ Below w.heap.size w w' := by
  have hu := Try.underlying213
  have hua := Try.underlying121
  have HMAY := Aside0.mk (fun W => chart_may.calls k a.f0 a.f1 a.f2 a.f3 a.f4 false W hmay)
  unfold accV
  obtain ⟨wa, hwa⟩ : ∃ wa, wa = w.alloc (.cells #[.int .i64 a.f0, .int .i64 a.f1, .int .u8 a.f2, .string a.f3, .bool a.f4] 121) := ⟨_, rfl⟩
  have HWA := Aside0.mk hwa
  have HCA : Aside0 (ChartAt wa cb mb l) := ⟨by rw [hwa]; exact h.below (below_alloc (Below.refl _ _) _)⟩
  clear hwa h hmay
  go_enter Try.func116, Try.ntmps116
  go_wp2_with (first | (go_at_call 117; rw [← HWA.out]; refine (chart_none.calls _ cb mb l HCA.out).mono ?_; rintro e w1 ⟨rfl, rfl⟩; have hcells := acc_cells (w4 := w) (w5 := w1) (by rw [HWA.out]; exact Below.refl _ _); obtain ⟨a0, a1, a2, a3, a4⟩ := hcells) | (go_at_call 166; refine (HMAY.out _).mono ?_; rintro e w2 ⟨rfl, hb2⟩; have HB2 := Aside0.mk hb2; clear hb2))
  go_ret
  have g : Below w.heap.size w w2 := by
    have h0 := HB2.out
    rw [HWA.out] at h0
    exact below_then (below_alloc (Below.refl _ _) _) (by simp) h0
  exact ⟨rfl, g⟩

set_option maxHeartbeats 4000000 in
set_option maxRecDepth 100000 in
theorem chart_Add.there (k : Nat) (w : World) (cb mb : Nat) (l : List Acc) (h : ChartAt w cb mb l) (a : Acc) (hwf : (Lit.int .i64 a.f0).wf = true) (hwu : (Lit.int .i64 a.f1).wf = true) (hmay : chart_may.f k a.f0 a.f1 a.f2 a.f3 a.f4 = some true) (hb1 : hasC l a.f0 = true) :
    Calls Try.prog 116 #[.pointer (some ⟨cb, 0, none⟩), accV a] w fun e w' => e = .returned (.int .i64 8) ∧ Below w.heap.size w w' := by
  obtain ⟨b2, hb2'⟩ : ∃ b2, hasC l a.f1 = b2 := ⟨_, rfl⟩
  have HWU := Aside0.mk hwu
  have HB1 := Aside0.mk hb1
  have HB2' := Aside0.mk hb2'
  clear hwu hb1 hb2'
  have hu := Try.underlying213
  have hua := Try.underlying121
  have H := Aside0.mk h
  have HMAY := Aside0.mk (fun W => chart_may.calls k a.f0 a.f1 a.f2 a.f3 a.f4 true W hmay)
  unfold accV
  obtain ⟨wa, hwa⟩ : ∃ wa, wa = w.alloc (.cells #[.int .i64 a.f0, .int .i64 a.f1, .int .u8 a.f2, .string a.f3, .bool a.f4] 121) := ⟨_, rfl⟩
  have HWA := Aside0.mk hwa
  have HCA : Aside0 (ChartAt wa cb mb l) := ⟨by rw [hwa]; exact h.below (below_alloc (Below.refl _ _) _)⟩
  clear hwa h hmay
  go_enter Try.func116, Try.ntmps116
  go_wp2_with (first | (go_at_call 117; rw [← HWA.out]; refine (chart_none.calls _ cb mb l HCA.out).mono ?_; rintro e w1 ⟨rfl, rfl⟩; have hcells := acc_cells (w4 := w) (w5 := w1) (by rw [HWA.out]; exact Below.refl _ _); obtain ⟨a0, a1, a2, a3, a4⟩ := hcells) | (go_at_call 166; refine (HMAY.out _).mono ?_; rintro e w2 ⟨rfl, hb2⟩))
  obtain ⟨x, hx⟩ : ∃ x, x = lookC l a.f0 := ⟨_, rfl⟩
  obtain ⟨y, hy⟩ : ∃ y, y = lookC l a.f1 := ⟨_, rfl⟩
  have HC2 := Aside0.mk (HCA.out.below hb2)
  have HS : Aside0 (∀ W, Below w2.heap.size w2 W → W.cell? ⟨cb, 0, none⟩ = some (.map (some mb)) ∧ W.cell? ⟨w.heap.size, 0, none⟩ = some (.int .i64 a.f0) ∧ W.cell? ⟨w.heap.size, 1, none⟩ = some (.int .i64 a.f1) ∧ W.cell? ⟨w.heap.size, 2, none⟩ = some (.int .u8 a.f2) ∧ W.cell? ⟨w.heap.size, 3, none⟩ = some (.string a.f3) ∧ W.cell? ⟨w.heap.size, 4, none⟩ = some (.bool a.f4) ∧ (Instr.lookup 211 (.map (some mb)) (.int .i64 a.f0) true).run Try.prog W = .ok (.tuple #[.agg #[.int .i64 x.f0, .int .i64 x.f1, .int .u8 x.f2, .string x.f3, .bool x.f4], .bool true]) W ∧ (Instr.lookup 211 (.map (some mb)) (.int .i64 a.f1) true).run Try.prog W = .ok (.tuple #[.agg #[.int .i64 y.f0, .int .i64 y.f1, .int .u8 y.f2, .string y.f3, .bool y.f4], .bool b2]) W ∧ Below w2.heap.size w2 W) := ⟨fun W hW => by
    have hlk := (HC2.out.below hW).look hwf
    have hlk2 := (HC2.out.below hW).look (c := a.f1) HWU.out
    rw [← hx, HB1.out] at hlk
    rw [← hy, HB2'.out] at hlk2
    exact ⟨(HC2.out.below hW).cell, pw_cell_below hW (pw_cell_below hb2 a0), pw_cell_below hW (pw_cell_below hb2 a1), pw_cell_below hW (pw_cell_below hb2 a2), pw_cell_below hW (pw_cell_below hb2 a3), pw_cell_below hW (pw_cell_below hb2 a4), hlk, hlk2, hW⟩⟩
  clear a0 a1 a2 a3 a4
  have HB2 := Aside0.mk hb2
  clear hb2 hx hy
  go_region_held3 (fun W => W.cell? ⟨cb, 0, none⟩ = some (.map (some mb)) ∧ W.cell? ⟨w.heap.size, 0, none⟩ = some (.int .i64 a.f0) ∧ W.cell? ⟨w.heap.size, 1, none⟩ = some (.int .i64 a.f1) ∧ W.cell? ⟨w.heap.size, 2, none⟩ = some (.int .u8 a.f2) ∧ W.cell? ⟨w.heap.size, 3, none⟩ = some (.string a.f3) ∧ W.cell? ⟨w.heap.size, 4, none⟩ = some (.bool a.f4) ∧ (Instr.lookup 211 (.map (some mb)) (.int .i64 a.f0) true).run Try.prog W = .ok (.tuple #[.agg #[.int .i64 x.f0, .int .i64 x.f1, .int .u8 x.f2, .string x.f3, .bool x.f4], .bool true]) W ∧ (Instr.lookup 211 (.map (some mb)) (.int .i64 a.f1) true).run Try.prog W = .ok (.tuple #[.agg #[.int .i64 y.f0, .int .i64 y.f1, .int .u8 y.f2, .string y.f3, .bool y.f4], .bool b2]) W ∧ Below w2.heap.size w2 W)
    (first | (go_split_ands; exact HS.out _ (by repeat (first | assumption | exact Below.refl _ _ | apply below_drew | apply below_alloc | (refine Below.setCell ?_ (by simp; omega) _)))))
    (fail)
  all_goals
    (obtain ⟨f0, f1, f2, f3, f4, f5, f6, f7, f8⟩ := HS.out ((w2.alloc (.cells #[.int .i64 x.f0, .int .i64 x.f1, .int .u8 x.f2, .string x.f3, .bool x.f4] 121)).drew) (below_drew (below_alloc (Below.refl _ _) _))
     clear f8
     go_wp2
     go_ret
     have g : Below w.heap.size w w2 := by
       have h0 := HB2.out
       rw [HWA.out] at h0
       exact below_then (below_alloc (Below.refl _ _) _) (by simp) h0
     exact ⟨rfl, below_drew (below_alloc g _)⟩)

set_option maxHeartbeats 4000000 in
set_option maxRecDepth 100000 in
theorem chart_Add.none_up (k : Nat) (w : World) (cb mb : Nat) (l : List Acc) (h : ChartAt w cb mb l) (a : Acc) (hwf : (Lit.int .i64 a.f0).wf = true) (hwu : (Lit.int .i64 a.f1).wf = true) (hmay : chart_may.f k a.f0 a.f1 a.f2 a.f3 a.f4 = some true) (hb1 : hasC l a.f0 = false) (hb2' : hasC l a.f1 = false) (hu0 : a.f1 ≠ 0) :
    Calls Try.prog 116 #[.pointer (some ⟨cb, 0, none⟩), accV a] w fun e w' => e = .returned (.int .i64 7) ∧ Below w.heap.size w w' := by
  have HWU := Aside0.mk hwu
  have HB1 := Aside0.mk hb1
  have HB2' := Aside0.mk hb2'
  clear hwu hb1 hb2'
  have HU1 := Aside0.mk (show (a.f1 != 0) = true from bne_iff_ne.mpr hu0)
  clear hu0
  have hu := Try.underlying213
  have hua := Try.underlying121
  have H := Aside0.mk h
  have HMAY := Aside0.mk (fun W => chart_may.calls k a.f0 a.f1 a.f2 a.f3 a.f4 true W hmay)
  unfold accV
  obtain ⟨wa, hwa⟩ : ∃ wa, wa = w.alloc (.cells #[.int .i64 a.f0, .int .i64 a.f1, .int .u8 a.f2, .string a.f3, .bool a.f4] 121) := ⟨_, rfl⟩
  have HWA := Aside0.mk hwa
  have HCA : Aside0 (ChartAt wa cb mb l) := ⟨by rw [hwa]; exact h.below (below_alloc (Below.refl _ _) _)⟩
  clear hwa h hmay
  go_enter Try.func116, Try.ntmps116
  go_wp2_with (first | (go_at_call 117; rw [← HWA.out]; refine (chart_none.calls _ cb mb l HCA.out).mono ?_; rintro e w1 ⟨rfl, rfl⟩; have hcells := acc_cells (w4 := w) (w5 := w1) (by rw [HWA.out]; exact Below.refl _ _); obtain ⟨a0, a1, a2, a3, a4⟩ := hcells) | (go_at_call 166; refine (HMAY.out _).mono ?_; rintro e w2 ⟨rfl, hb2⟩))
  obtain ⟨x, hx⟩ : ∃ x, x = lookC l a.f0 := ⟨_, rfl⟩
  obtain ⟨y, hy⟩ : ∃ y, y = lookC l a.f1 := ⟨_, rfl⟩
  have HC2 := Aside0.mk (HCA.out.below hb2)
  have HS : Aside0 (∀ W, Below w2.heap.size w2 W → W.cell? ⟨cb, 0, none⟩ = some (.map (some mb)) ∧ W.cell? ⟨w.heap.size, 0, none⟩ = some (.int .i64 a.f0) ∧ W.cell? ⟨w.heap.size, 1, none⟩ = some (.int .i64 a.f1) ∧ W.cell? ⟨w.heap.size, 2, none⟩ = some (.int .u8 a.f2) ∧ W.cell? ⟨w.heap.size, 3, none⟩ = some (.string a.f3) ∧ W.cell? ⟨w.heap.size, 4, none⟩ = some (.bool a.f4) ∧ (Instr.lookup 211 (.map (some mb)) (.int .i64 a.f0) true).run Try.prog W = .ok (.tuple #[.agg #[.int .i64 x.f0, .int .i64 x.f1, .int .u8 x.f2, .string x.f3, .bool x.f4], .bool false]) W ∧ (Instr.lookup 211 (.map (some mb)) (.int .i64 a.f1) true).run Try.prog W = .ok (.tuple #[.agg #[.int .i64 y.f0, .int .i64 y.f1, .int .u8 y.f2, .string y.f3, .bool y.f4], .bool false]) W ∧ Below w2.heap.size w2 W) := ⟨fun W hW => by
    have hlk := (HC2.out.below hW).look hwf
    have hlk2 := (HC2.out.below hW).look (c := a.f1) HWU.out
    rw [← hx, HB1.out] at hlk
    rw [← hy, HB2'.out] at hlk2
    exact ⟨(HC2.out.below hW).cell, pw_cell_below hW (pw_cell_below hb2 a0), pw_cell_below hW (pw_cell_below hb2 a1), pw_cell_below hW (pw_cell_below hb2 a2), pw_cell_below hW (pw_cell_below hb2 a3), pw_cell_below hW (pw_cell_below hb2 a4), hlk, hlk2, hW⟩⟩
  clear a0 a1 a2 a3 a4
  have HB2 := Aside0.mk hb2
  clear hb2 hx hy
  go_region_held3 (fun W => W.cell? ⟨cb, 0, none⟩ = some (.map (some mb)) ∧ W.cell? ⟨w.heap.size, 0, none⟩ = some (.int .i64 a.f0) ∧ W.cell? ⟨w.heap.size, 1, none⟩ = some (.int .i64 a.f1) ∧ W.cell? ⟨w.heap.size, 2, none⟩ = some (.int .u8 a.f2) ∧ W.cell? ⟨w.heap.size, 3, none⟩ = some (.string a.f3) ∧ W.cell? ⟨w.heap.size, 4, none⟩ = some (.bool a.f4) ∧ (Instr.lookup 211 (.map (some mb)) (.int .i64 a.f0) true).run Try.prog W = .ok (.tuple #[.agg #[.int .i64 x.f0, .int .i64 x.f1, .int .u8 x.f2, .string x.f3, .bool x.f4], .bool false]) W ∧ (Instr.lookup 211 (.map (some mb)) (.int .i64 a.f1) true).run Try.prog W = .ok (.tuple #[.agg #[.int .i64 y.f0, .int .i64 y.f1, .int .u8 y.f2, .string y.f3, .bool y.f4], .bool false]) W ∧ Below w2.heap.size w2 W)
    (first | (go_split_ands; exact HS.out _ (by repeat (first | assumption | exact Below.refl _ _ | apply below_drew | apply below_alloc | (refine Below.setCell ?_ (by simp; omega) _)))))
    (fail)
  all_goals
    (obtain ⟨f0, f1, f2, f3, f4, f5, f6, f7, f8⟩ := HS.out ((w2.alloc (.cells #[.int .i64 x.f0, .int .i64 x.f1, .int .u8 x.f2, .string x.f3, .bool x.f4] 121)).drew) (below_drew (below_alloc (Below.refl _ _) _))
     clear f8
     go_wp2
     go_region_held3 (fun W => W.cell? ⟨cb, 0, none⟩ = some (.map (some mb)) ∧ W.cell? ⟨w.heap.size, 0, none⟩ = some (.int .i64 a.f0) ∧ W.cell? ⟨w.heap.size, 1, none⟩ = some (.int .i64 a.f1) ∧ W.cell? ⟨w.heap.size, 2, none⟩ = some (.int .u8 a.f2) ∧ W.cell? ⟨w.heap.size, 3, none⟩ = some (.string a.f3) ∧ W.cell? ⟨w.heap.size, 4, none⟩ = some (.bool a.f4) ∧ (Instr.lookup 211 (.map (some mb)) (.int .i64 a.f0) true).run Try.prog W = .ok (.tuple #[.agg #[.int .i64 x.f0, .int .i64 x.f1, .int .u8 x.f2, .string x.f3, .bool x.f4], .bool false]) W ∧ (Instr.lookup 211 (.map (some mb)) (.int .i64 a.f1) true).run Try.prog W = .ok (.tuple #[.agg #[.int .i64 y.f0, .int .i64 y.f1, .int .u8 y.f2, .string y.f3, .bool y.f4], .bool false]) W ∧ Below w2.heap.size w2 W)
       (first | (go_split_ands; exact HS.out _ (by repeat (first | assumption | exact Below.refl _ _ | apply below_drew | apply below_alloc | (refine Below.setCell ?_ (by simp; omega) _)))))
       (fail))
  all_goals
    (clear f0 f1 f2 f3 f4 f5 f6 f7
     obtain ⟨f0, f1, f2, f3, f4, f5, f6, f7, f8⟩ := HS.out (((w2.alloc (.cells #[.int .i64 x.f0, .int .i64 x.f1, .int .u8 x.f2, .string x.f3, .bool x.f4] 121)).drew.alloc (.cells #[.int .i64 y.f0, .int .i64 y.f1, .int .u8 y.f2, .string y.f3, .bool y.f4] 121)).drew) (below_drew (below_alloc (below_drew (below_alloc (Below.refl _ _) _)) _))
     clear f8
     have hb1 := HU1.out
     go_wp2
     go_ret
     have g : Below w.heap.size w w2 := by
       have h0 := HB2.out
       rw [HWA.out] at h0
       exact below_then (below_alloc (Below.refl _ _) _) (by simp) h0
     exact ⟨rfl, below_drew (below_drew (below_alloc (below_alloc g _) _))⟩)

end Go.Proofs.Ytaoejonkiikhmaa.G

/- (*Chart).Add, of an account under one that is there: refused, where that is shut, of another class, or too deep; else added. -/
namespace Go.Proofs.Ytaoejonkiikhmaa.G
open Go.RowKit Go.Proofs.YtaoejonkiikhmaaW.PrintWords Go.Proofs.YtaoejonkiikhmaaW.PrintLast Go.Proofs.YtaoejonkiikhmaaW.PrintMore
open Go.Maps
set_option linter.unusedVariables false
set_option linter.unusedSimpArgs false

attribute [local go_sem ↓] Go.wp_at_zero Go.wp_at_succ
set_option maxHeartbeats 4000000 in
set_option maxRecDepth 100000 in
theorem chart_Add.class (k : Nat) (w : World) (cb mb : Nat) (l : List Acc) (h : ChartAt w cb mb l) (a : Acc) (hwf : (Lit.int .i64 a.f0).wf = true) (hwu : (Lit.int .i64 a.f1).wf = true) (hmay : chart_may.f k a.f0 a.f1 a.f2 a.f3 a.f4 = some true) (hb1 : hasC l a.f0 = false) (hb2' : hasC l a.f1 = true) (hu0 : a.f1 ≠ 0) (hy4 : (lookC l a.f1).f4 = false) (hcl : (lookC l a.f1).f2 ≠ a.f2) :
    Calls Try.prog 116 #[.pointer (some ⟨cb, 0, none⟩), accV a] w fun e w' => e = .returned (.int .i64 9) ∧ Below w.heap.size w w' := by
  have HY := Aside0.mk hy4
  clear hy4
  have HWU := Aside0.mk hwu
  have HB1 := Aside0.mk hb1
  have HB2' := Aside0.mk hb2'
  clear hwu hb1 hb2'
  have HU1 := Aside0.mk (show (a.f1 != 0) = true from bne_iff_ne.mpr hu0)
  clear hu0
  have HCL := Aside0.mk hcl
  clear hcl
  have hu := Try.underlying213
  have hua := Try.underlying121
  have H := Aside0.mk h
  have HMAY := Aside0.mk (fun W => chart_may.calls k a.f0 a.f1 a.f2 a.f3 a.f4 true W hmay)
  unfold accV
  obtain ⟨wa, hwa⟩ : ∃ wa, wa = w.alloc (.cells #[.int .i64 a.f0, .int .i64 a.f1, .int .u8 a.f2, .string a.f3, .bool a.f4] 121) := ⟨_, rfl⟩
  have HWA := Aside0.mk hwa
  have HCA : Aside0 (ChartAt wa cb mb l) := ⟨by rw [hwa]; exact h.below (below_alloc (Below.refl _ _) _)⟩
  clear hwa h hmay
  go_enter Try.func116, Try.ntmps116
  go_wp2_with (first | (go_at_call 117; rw [← HWA.out]; refine (chart_none.calls _ cb mb l HCA.out).mono ?_; rintro e w1 ⟨rfl, rfl⟩; have hcells := acc_cells (w4 := w) (w5 := w1) (by rw [HWA.out]; exact Below.refl _ _); obtain ⟨a0, a1, a2, a3, a4⟩ := hcells) | (go_at_call 166; refine (HMAY.out _).mono ?_; rintro e w2 ⟨rfl, hb2⟩))
  obtain ⟨x, hx⟩ : ∃ x, x = lookC l a.f0 := ⟨_, rfl⟩
  obtain ⟨y, hy⟩ : ∃ y, y = lookC l a.f1 := ⟨_, rfl⟩
  have HC2 := Aside0.mk (HCA.out.below hb2)
  have HS : Aside0 (∀ W, Below w2.heap.size w2 W → W.cell? ⟨cb, 0, none⟩ = some (.map (some mb)) ∧ W.cell? ⟨w.heap.size, 0, none⟩ = some (.int .i64 a.f0) ∧ W.cell? ⟨w.heap.size, 1, none⟩ = some (.int .i64 a.f1) ∧ W.cell? ⟨w.heap.size, 2, none⟩ = some (.int .u8 a.f2) ∧ W.cell? ⟨w.heap.size, 3, none⟩ = some (.string a.f3) ∧ W.cell? ⟨w.heap.size, 4, none⟩ = some (.bool a.f4) ∧ (Instr.lookup 211 (.map (some mb)) (.int .i64 a.f0) true).run Try.prog W = .ok (.tuple #[.agg #[.int .i64 x.f0, .int .i64 x.f1, .int .u8 x.f2, .string x.f3, .bool x.f4], .bool false]) W ∧ (Instr.lookup 211 (.map (some mb)) (.int .i64 a.f1) true).run Try.prog W = .ok (.tuple #[.agg #[.int .i64 y.f0, .int .i64 y.f1, .int .u8 y.f2, .string y.f3, .bool false], .bool true]) W ∧ Below w2.heap.size w2 W) := ⟨fun W hW => by
    have hlk := (HC2.out.below hW).look hwf
    have hlk2 := (HC2.out.below hW).look (c := a.f1) HWU.out
    rw [← hx, HB1.out] at hlk
    rw [← hy, HB2'.out] at hlk2
    unfold accV at hlk2
    rw [show y.f4 = false by rw [hy]; exact HY.out] at hlk2
    exact ⟨(HC2.out.below hW).cell, pw_cell_below hW (pw_cell_below hb2 a0), pw_cell_below hW (pw_cell_below hb2 a1), pw_cell_below hW (pw_cell_below hb2 a2), pw_cell_below hW (pw_cell_below hb2 a3), pw_cell_below hW (pw_cell_below hb2 a4), hlk, hlk2, hW⟩⟩
  clear a0 a1 a2 a3 a4
  have HB2 := Aside0.mk hb2
  have HY4 : Aside0 (y.f4 = false) := ⟨by rw [hy]; exact HY.out⟩
  have HCB : Aside0 ((y.f2 != a.f2) = true) := ⟨bne_iff_ne.mpr (by rw [hy]; exact HCL.out)⟩
  clear hb2 hx hy
  go_region_held3 (fun W => W.cell? ⟨cb, 0, none⟩ = some (.map (some mb)) ∧ W.cell? ⟨w.heap.size, 0, none⟩ = some (.int .i64 a.f0) ∧ W.cell? ⟨w.heap.size, 1, none⟩ = some (.int .i64 a.f1) ∧ W.cell? ⟨w.heap.size, 2, none⟩ = some (.int .u8 a.f2) ∧ W.cell? ⟨w.heap.size, 3, none⟩ = some (.string a.f3) ∧ W.cell? ⟨w.heap.size, 4, none⟩ = some (.bool a.f4) ∧ (Instr.lookup 211 (.map (some mb)) (.int .i64 a.f0) true).run Try.prog W = .ok (.tuple #[.agg #[.int .i64 x.f0, .int .i64 x.f1, .int .u8 x.f2, .string x.f3, .bool x.f4], .bool false]) W ∧ (Instr.lookup 211 (.map (some mb)) (.int .i64 a.f1) true).run Try.prog W = .ok (.tuple #[.agg #[.int .i64 y.f0, .int .i64 y.f1, .int .u8 y.f2, .string y.f3, .bool false], .bool true]) W ∧ Below w2.heap.size w2 W)
    (first | (go_split_ands; exact HS.out _ (by repeat (first | assumption | exact Below.refl _ _ | apply below_drew | apply below_alloc | (refine Below.setCell ?_ (by simp; omega) _)))))
    (fail)
  all_goals
    (obtain ⟨f0, f1, f2, f3, f4, f5, f6, f7, f8⟩ := HS.out ((w2.alloc (.cells #[.int .i64 x.f0, .int .i64 x.f1, .int .u8 x.f2, .string x.f3, .bool x.f4] 121)).drew) (below_drew (below_alloc (Below.refl _ _) _))
     clear f8
     go_wp2
     go_region_held3 (fun W => W.cell? ⟨cb, 0, none⟩ = some (.map (some mb)) ∧ W.cell? ⟨w.heap.size, 0, none⟩ = some (.int .i64 a.f0) ∧ W.cell? ⟨w.heap.size, 1, none⟩ = some (.int .i64 a.f1) ∧ W.cell? ⟨w.heap.size, 2, none⟩ = some (.int .u8 a.f2) ∧ W.cell? ⟨w.heap.size, 3, none⟩ = some (.string a.f3) ∧ W.cell? ⟨w.heap.size, 4, none⟩ = some (.bool a.f4) ∧ (Instr.lookup 211 (.map (some mb)) (.int .i64 a.f0) true).run Try.prog W = .ok (.tuple #[.agg #[.int .i64 x.f0, .int .i64 x.f1, .int .u8 x.f2, .string x.f3, .bool x.f4], .bool false]) W ∧ (Instr.lookup 211 (.map (some mb)) (.int .i64 a.f1) true).run Try.prog W = .ok (.tuple #[.agg #[.int .i64 y.f0, .int .i64 y.f1, .int .u8 y.f2, .string y.f3, .bool false], .bool true]) W ∧ Below w2.heap.size w2 W)
       (first | (go_split_ands; exact HS.out _ (by repeat (first | assumption | exact Below.refl _ _ | apply below_drew | apply below_alloc | (refine Below.setCell ?_ (by simp; omega) _)))))
       (fail))
  all_goals
    (clear f0 f1 f2 f3 f4 f5 f6 f7
     obtain ⟨f0, f1, f2, f3, f4, f5, f6, f7, f8⟩ := HS.out (((w2.alloc (.cells #[.int .i64 x.f0, .int .i64 x.f1, .int .u8 x.f2, .string x.f3, .bool x.f4] 121)).drew.alloc (.cells #[.int .i64 y.f0, .int .i64 y.f1, .int .u8 y.f2, .string y.f3, .bool false] 121)).drew) (below_drew (below_alloc (below_drew (below_alloc (Below.refl _ _) _)) _))
     clear f8
     have hb1 := HU1.out
     have hcl := HCB.out
     go_wp2
     go_ret
     have g : Below w.heap.size w w2 := by
       have h0 := HB2.out
       rw [HWA.out] at h0
       exact below_then (below_alloc (Below.refl _ _) _) (by simp) h0
     exact ⟨rfl, below_drew (below_drew (below_alloc (below_alloc g _) _))⟩)

set_option maxHeartbeats 4000000 in
set_option maxRecDepth 100000 in
theorem chart_Add.deep (k : Nat) (w : World) (cb mb : Nat) (l : List Acc) (h : ChartAt w cb mb l) (a : Acc) (hwf : (Lit.int .i64 a.f0).wf = true) (hwu : (Lit.int .i64 a.f1).wf = true) (hmay : chart_may.f k a.f0 a.f1 a.f2 a.f3 a.f4 = some true) (hb1 : hasC l a.f0 = false) (hb2' : hasC l a.f1 = true) (hu0 : a.f1 ≠ 0) (hy4 : (lookC l a.f1).f4 = false) (hcl : (lookC l a.f1).f2 = a.f2) (hg : GoodC l) (hl2 : l.length ≤ 1000000) (hdp : 8 ≤ depthN l (l.length + 1) a.f1) :
    Calls Try.prog 116 #[.pointer (some ⟨cb, 0, none⟩), accV a] w fun e w' => e = .returned (.int .i64 9) ∧ Below w.heap.size w w' := by
  have HY := Aside0.mk hy4
  clear hy4
  have HWU := Aside0.mk hwu
  have HB1 := Aside0.mk hb1
  have HB2' := Aside0.mk hb2'
  clear hwu hb1 hb2'
  have HU1 := Aside0.mk (show (a.f1 != 0) = true from bne_iff_ne.mpr hu0)
  clear hu0
  have HCL := Aside0.mk hcl
  obtain ⟨D, hD⟩ : ∃ D, D = depthN l (l.length + 1) a.f1 := ⟨_, rfl⟩
  have HDB : Aside0 (decide ((8 : Int) ≤ (D : Int)) = true) := ⟨by rw [hD]; exact decide_eq_true (by omega)⟩
  have HGG := Aside0.mk hg
  clear hcl hdp hg
  have hu := Try.underlying213
  have hua := Try.underlying121
  have H := Aside0.mk h
  have HMAY := Aside0.mk (fun W => chart_may.calls k a.f0 a.f1 a.f2 a.f3 a.f4 true W hmay)
  unfold accV
  obtain ⟨wa, hwa⟩ : ∃ wa, wa = w.alloc (.cells #[.int .i64 a.f0, .int .i64 a.f1, .int .u8 a.f2, .string a.f3, .bool a.f4] 121) := ⟨_, rfl⟩
  have HWA := Aside0.mk hwa
  have HCA : Aside0 (ChartAt wa cb mb l) := ⟨by rw [hwa]; exact h.below (below_alloc (Below.refl _ _) _)⟩
  clear hwa h hmay
  go_enter Try.func116, Try.ntmps116
  go_wp2_with (first | (go_at_call 117; rw [← HWA.out]; refine (chart_none.calls _ cb mb l HCA.out).mono ?_; rintro e w1 ⟨rfl, rfl⟩; have hcells := acc_cells (w4 := w) (w5 := w1) (by rw [HWA.out]; exact Below.refl _ _); obtain ⟨a0, a1, a2, a3, a4⟩ := hcells) | (go_at_call 166; refine (HMAY.out _).mono ?_; rintro e w2 ⟨rfl, hb2⟩))
  obtain ⟨x, hx⟩ : ∃ x, x = lookC l a.f0 := ⟨_, rfl⟩
  obtain ⟨y, hy⟩ : ∃ y, y = lookC l a.f1 := ⟨_, rfl⟩
  have HC2 := Aside0.mk (HCA.out.below hb2)
  have HS : Aside0 (∀ W, Below w2.heap.size w2 W → W.cell? ⟨cb, 0, none⟩ = some (.map (some mb)) ∧ W.cell? ⟨w.heap.size, 0, none⟩ = some (.int .i64 a.f0) ∧ W.cell? ⟨w.heap.size, 1, none⟩ = some (.int .i64 a.f1) ∧ W.cell? ⟨w.heap.size, 2, none⟩ = some (.int .u8 a.f2) ∧ W.cell? ⟨w.heap.size, 3, none⟩ = some (.string a.f3) ∧ W.cell? ⟨w.heap.size, 4, none⟩ = some (.bool a.f4) ∧ (Instr.lookup 211 (.map (some mb)) (.int .i64 a.f0) true).run Try.prog W = .ok (.tuple #[.agg #[.int .i64 x.f0, .int .i64 x.f1, .int .u8 x.f2, .string x.f3, .bool x.f4], .bool false]) W ∧ (Instr.lookup 211 (.map (some mb)) (.int .i64 a.f1) true).run Try.prog W = .ok (.tuple #[.agg #[.int .i64 y.f0, .int .i64 y.f1, .int .u8 y.f2, .string y.f3, .bool false], .bool true]) W ∧ Below w2.heap.size w2 W) := ⟨fun W hW => by
    have hlk := (HC2.out.below hW).look hwf
    have hlk2 := (HC2.out.below hW).look (c := a.f1) HWU.out
    rw [← hx, HB1.out] at hlk
    rw [← hy, HB2'.out] at hlk2
    unfold accV at hlk2
    rw [show y.f4 = false by rw [hy]; exact HY.out] at hlk2
    exact ⟨(HC2.out.below hW).cell, pw_cell_below hW (pw_cell_below hb2 a0), pw_cell_below hW (pw_cell_below hb2 a1), pw_cell_below hW (pw_cell_below hb2 a2), pw_cell_below hW (pw_cell_below hb2 a3), pw_cell_below hW (pw_cell_below hb2 a4), hlk, hlk2, hW⟩⟩
  clear a0 a1 a2 a3 a4
  have HB2 := Aside0.mk hb2
  have HY4 : Aside0 (y.f4 = false) := ⟨by rw [hy]; exact HY.out⟩
  have HCB : Aside0 ((y.f2 != a.f2) = false) := ⟨bne_eq_false_iff_eq.mpr (by rw [hy]; exact HCL.out)⟩
  have HDEP : Aside0 (∀ W, Below w2.heap.size w2 W → Calls Try.prog 167 #[.pointer (some ⟨cb, 0, none⟩), .int .i64 a.f1] W fun e w' => e = .returned (.int .i64 D) ∧ w' = W) := ⟨fun W hW => by rw [hD]; exact chart_depth.calls W cb mb l (HC2.out.below hW) HGG.out hl2 a.f1 (.inr HB2'.out)⟩
  clear hD
  clear hb2 hx hy
  go_region_held3 (fun W => W.cell? ⟨cb, 0, none⟩ = some (.map (some mb)) ∧ W.cell? ⟨w.heap.size, 0, none⟩ = some (.int .i64 a.f0) ∧ W.cell? ⟨w.heap.size, 1, none⟩ = some (.int .i64 a.f1) ∧ W.cell? ⟨w.heap.size, 2, none⟩ = some (.int .u8 a.f2) ∧ W.cell? ⟨w.heap.size, 3, none⟩ = some (.string a.f3) ∧ W.cell? ⟨w.heap.size, 4, none⟩ = some (.bool a.f4) ∧ (Instr.lookup 211 (.map (some mb)) (.int .i64 a.f0) true).run Try.prog W = .ok (.tuple #[.agg #[.int .i64 x.f0, .int .i64 x.f1, .int .u8 x.f2, .string x.f3, .bool x.f4], .bool false]) W ∧ (Instr.lookup 211 (.map (some mb)) (.int .i64 a.f1) true).run Try.prog W = .ok (.tuple #[.agg #[.int .i64 y.f0, .int .i64 y.f1, .int .u8 y.f2, .string y.f3, .bool false], .bool true]) W ∧ Below w2.heap.size w2 W)
    (first | (go_split_ands; exact HS.out _ (by repeat (first | assumption | exact Below.refl _ _ | apply below_drew | apply below_alloc | (refine Below.setCell ?_ (by simp; omega) _)))))
    (fail)
  all_goals
    (obtain ⟨f0, f1, f2, f3, f4, f5, f6, f7, f8⟩ := HS.out ((w2.alloc (.cells #[.int .i64 x.f0, .int .i64 x.f1, .int .u8 x.f2, .string x.f3, .bool x.f4] 121)).drew) (below_drew (below_alloc (Below.refl _ _) _))
     clear f8
     go_wp2
     go_region_held3 (fun W => W.cell? ⟨cb, 0, none⟩ = some (.map (some mb)) ∧ W.cell? ⟨w.heap.size, 0, none⟩ = some (.int .i64 a.f0) ∧ W.cell? ⟨w.heap.size, 1, none⟩ = some (.int .i64 a.f1) ∧ W.cell? ⟨w.heap.size, 2, none⟩ = some (.int .u8 a.f2) ∧ W.cell? ⟨w.heap.size, 3, none⟩ = some (.string a.f3) ∧ W.cell? ⟨w.heap.size, 4, none⟩ = some (.bool a.f4) ∧ (Instr.lookup 211 (.map (some mb)) (.int .i64 a.f0) true).run Try.prog W = .ok (.tuple #[.agg #[.int .i64 x.f0, .int .i64 x.f1, .int .u8 x.f2, .string x.f3, .bool x.f4], .bool false]) W ∧ (Instr.lookup 211 (.map (some mb)) (.int .i64 a.f1) true).run Try.prog W = .ok (.tuple #[.agg #[.int .i64 y.f0, .int .i64 y.f1, .int .u8 y.f2, .string y.f3, .bool false], .bool true]) W ∧ Below w2.heap.size w2 W)
       (first | (go_split_ands; exact HS.out _ (by repeat (first | assumption | exact Below.refl _ _ | apply below_drew | apply below_alloc | (refine Below.setCell ?_ (by simp; omega) _)))))
       (fail))
  all_goals
    (clear f0 f1 f2 f3 f4 f5 f6 f7
     obtain ⟨f0, f1, f2, f3, f4, f5, f6, f7, f8⟩ := HS.out (((w2.alloc (.cells #[.int .i64 x.f0, .int .i64 x.f1, .int .u8 x.f2, .string x.f3, .bool x.f4] 121)).drew.alloc (.cells #[.int .i64 y.f0, .int .i64 y.f1, .int .u8 y.f2, .string y.f3, .bool false] 121)).drew) (below_drew (below_alloc (below_drew (below_alloc (Below.refl _ _) _)) _))
     clear f8
     have hb1 := HU1.out
     have hcl := HCB.out
     have hdd := HDB.out
     go_wp2_with (go_at_call 167; refine (HDEP.out _ (below_drew (below_drew (below_alloc (below_alloc (Below.refl _ _) _) _)))).mono ?_; rintro e w7 ⟨rfl, rfl⟩)
     go_ret
     have g : Below w.heap.size w w2 := by
       have h0 := HB2.out
       rw [HWA.out] at h0
       exact below_then (below_alloc (Below.refl _ _) _) (by simp) h0
     exact ⟨rfl, below_drew (below_drew (below_alloc (below_alloc g _) _))⟩)

set_option maxHeartbeats 4000000 in
set_option maxRecDepth 100000 in
theorem chart_Add.under (k : Nat) (w : World) (cb mb : Nat) (l : List Acc) (h : ChartAt w cb mb l) (a : Acc) (hwf : (Lit.int .i64 a.f0).wf = true) (hwu : (Lit.int .i64 a.f1).wf = true) (hmay : chart_may.f k a.f0 a.f1 a.f2 a.f3 a.f4 = some true) (hb1 : hasC l a.f0 = false) (hb2' : hasC l a.f1 = true) (hu0 : a.f1 ≠ 0) (hy4 : (lookC l a.f1).f4 = false) (hcl : (lookC l a.f1).f2 = a.f2) (hg : GoodC l) (hl2 : l.length ≤ 1000000) (hl : l.length < maxLen) (hdp : ¬ 8 ≤ depthN l (l.length + 1) a.f1) :
    Calls Try.prog 116 #[.pointer (some ⟨cb, 0, none⟩), accV a] w fun e w' => e = .returned (.int .i64 0) ∧ ChartAt w' cb mb (l ++ [a]) ∧ w.grownBy w' (some mb) := by
  have HY := Aside0.mk hy4
  clear hy4
  have HWU := Aside0.mk hwu
  have HB1 := Aside0.mk hb1
  have HB2' := Aside0.mk hb2'
  clear hwu hb1 hb2'
  have HU1 := Aside0.mk (show (a.f1 != 0) = true from bne_iff_ne.mpr hu0)
  clear hu0
  have HCL := Aside0.mk hcl
  obtain ⟨D, hD⟩ : ∃ D, D = depthN l (l.length + 1) a.f1 := ⟨_, rfl⟩
  have HDB : Aside0 (decide ((8 : Int) ≤ (D : Int)) = false) := ⟨by rw [hD]; exact decide_eq_false (by omega)⟩
  have HGG := Aside0.mk hg
  clear hcl hdp hg
  have hu := Try.underlying213
  have hua := Try.underlying121
  have H := Aside0.mk h
  have HMAY := Aside0.mk (fun W => chart_may.calls k a.f0 a.f1 a.f2 a.f3 a.f4 true W hmay)
  unfold accV
  obtain ⟨wa, hwa⟩ : ∃ wa, wa = w.alloc (.cells #[.int .i64 a.f0, .int .i64 a.f1, .int .u8 a.f2, .string a.f3, .bool a.f4] 121) := ⟨_, rfl⟩
  have HWA := Aside0.mk hwa
  have HCA : Aside0 (ChartAt wa cb mb l) := ⟨by rw [hwa]; exact h.below (below_alloc (Below.refl _ _) _)⟩
  clear hwa h hmay
  go_enter Try.func116, Try.ntmps116
  go_wp2_with (first | (go_at_call 117; rw [← HWA.out]; refine (chart_none.calls _ cb mb l HCA.out).mono ?_; rintro e w1 ⟨rfl, rfl⟩; have hcells := acc_cells (w4 := w) (w5 := w1) (by rw [HWA.out]; exact Below.refl _ _); obtain ⟨a0, a1, a2, a3, a4⟩ := hcells) | (go_at_call 166; refine (HMAY.out _).mono ?_; rintro e w2 ⟨rfl, hb2⟩))
  obtain ⟨x, hx⟩ : ∃ x, x = lookC l a.f0 := ⟨_, rfl⟩
  obtain ⟨y, hy⟩ : ∃ y, y = lookC l a.f1 := ⟨_, rfl⟩
  have HC2 := Aside0.mk (HCA.out.below hb2)
  have HS : Aside0 (∀ W, Below w2.heap.size w2 W → W.cell? ⟨cb, 0, none⟩ = some (.map (some mb)) ∧ W.cell? ⟨w.heap.size, 0, none⟩ = some (.int .i64 a.f0) ∧ W.cell? ⟨w.heap.size, 1, none⟩ = some (.int .i64 a.f1) ∧ W.cell? ⟨w.heap.size, 2, none⟩ = some (.int .u8 a.f2) ∧ W.cell? ⟨w.heap.size, 3, none⟩ = some (.string a.f3) ∧ W.cell? ⟨w.heap.size, 4, none⟩ = some (.bool a.f4) ∧ (Instr.lookup 211 (.map (some mb)) (.int .i64 a.f0) true).run Try.prog W = .ok (.tuple #[.agg #[.int .i64 x.f0, .int .i64 x.f1, .int .u8 x.f2, .string x.f3, .bool x.f4], .bool false]) W ∧ (Instr.lookup 211 (.map (some mb)) (.int .i64 a.f1) true).run Try.prog W = .ok (.tuple #[.agg #[.int .i64 y.f0, .int .i64 y.f1, .int .u8 y.f2, .string y.f3, .bool false], .bool true]) W ∧ Below w2.heap.size w2 W) := ⟨fun W hW => by
    have hlk := (HC2.out.below hW).look hwf
    have hlk2 := (HC2.out.below hW).look (c := a.f1) HWU.out
    rw [← hx, HB1.out] at hlk
    rw [← hy, HB2'.out] at hlk2
    unfold accV at hlk2
    rw [show y.f4 = false by rw [hy]; exact HY.out] at hlk2
    exact ⟨(HC2.out.below hW).cell, pw_cell_below hW (pw_cell_below hb2 a0), pw_cell_below hW (pw_cell_below hb2 a1), pw_cell_below hW (pw_cell_below hb2 a2), pw_cell_below hW (pw_cell_below hb2 a3), pw_cell_below hW (pw_cell_below hb2 a4), hlk, hlk2, hW⟩⟩
  clear a0 a1 a2 a3 a4
  have HB2 := Aside0.mk hb2
  have HY4 : Aside0 (y.f4 = false) := ⟨by rw [hy]; exact HY.out⟩
  have HCB : Aside0 ((y.f2 != a.f2) = false) := ⟨bne_eq_false_iff_eq.mpr (by rw [hy]; exact HCL.out)⟩
  have HDEP : Aside0 (∀ W, Below w2.heap.size w2 W → Calls Try.prog 167 #[.pointer (some ⟨cb, 0, none⟩), .int .i64 a.f1] W fun e w' => e = .returned (.int .i64 D) ∧ w' = W) := ⟨fun W hW => by rw [hD]; exact chart_depth.calls W cb mb l (HC2.out.below hW) HGG.out hl2 a.f1 (.inr HB2'.out)⟩
  clear hD
  clear hb2 hx hy
  go_region_held3 (fun W => W.cell? ⟨cb, 0, none⟩ = some (.map (some mb)) ∧ W.cell? ⟨w.heap.size, 0, none⟩ = some (.int .i64 a.f0) ∧ W.cell? ⟨w.heap.size, 1, none⟩ = some (.int .i64 a.f1) ∧ W.cell? ⟨w.heap.size, 2, none⟩ = some (.int .u8 a.f2) ∧ W.cell? ⟨w.heap.size, 3, none⟩ = some (.string a.f3) ∧ W.cell? ⟨w.heap.size, 4, none⟩ = some (.bool a.f4) ∧ (Instr.lookup 211 (.map (some mb)) (.int .i64 a.f0) true).run Try.prog W = .ok (.tuple #[.agg #[.int .i64 x.f0, .int .i64 x.f1, .int .u8 x.f2, .string x.f3, .bool x.f4], .bool false]) W ∧ (Instr.lookup 211 (.map (some mb)) (.int .i64 a.f1) true).run Try.prog W = .ok (.tuple #[.agg #[.int .i64 y.f0, .int .i64 y.f1, .int .u8 y.f2, .string y.f3, .bool false], .bool true]) W ∧ Below w2.heap.size w2 W)
    (first | (go_split_ands; exact HS.out _ (by repeat (first | assumption | exact Below.refl _ _ | apply below_drew | apply below_alloc | (refine Below.setCell ?_ (by simp; omega) _)))))
    (fail)
  all_goals
    (obtain ⟨f0, f1, f2, f3, f4, f5, f6, f7, f8⟩ := HS.out ((w2.alloc (.cells #[.int .i64 x.f0, .int .i64 x.f1, .int .u8 x.f2, .string x.f3, .bool x.f4] 121)).drew) (below_drew (below_alloc (Below.refl _ _) _))
     clear f8
     go_wp2
     go_region_held3 (fun W => W.cell? ⟨cb, 0, none⟩ = some (.map (some mb)) ∧ W.cell? ⟨w.heap.size, 0, none⟩ = some (.int .i64 a.f0) ∧ W.cell? ⟨w.heap.size, 1, none⟩ = some (.int .i64 a.f1) ∧ W.cell? ⟨w.heap.size, 2, none⟩ = some (.int .u8 a.f2) ∧ W.cell? ⟨w.heap.size, 3, none⟩ = some (.string a.f3) ∧ W.cell? ⟨w.heap.size, 4, none⟩ = some (.bool a.f4) ∧ (Instr.lookup 211 (.map (some mb)) (.int .i64 a.f0) true).run Try.prog W = .ok (.tuple #[.agg #[.int .i64 x.f0, .int .i64 x.f1, .int .u8 x.f2, .string x.f3, .bool x.f4], .bool false]) W ∧ (Instr.lookup 211 (.map (some mb)) (.int .i64 a.f1) true).run Try.prog W = .ok (.tuple #[.agg #[.int .i64 y.f0, .int .i64 y.f1, .int .u8 y.f2, .string y.f3, .bool false], .bool true]) W ∧ Below w2.heap.size w2 W)
       (first | (go_split_ands; exact HS.out _ (by repeat (first | assumption | exact Below.refl _ _ | apply below_drew | apply below_alloc | (refine Below.setCell ?_ (by simp; omega) _)))))
       (fail))
  all_goals
    (clear f0 f1 f2 f3 f4 f5 f6 f7
     obtain ⟨f0, f1, f2, f3, f4, f5, f6, f7, f8⟩ := HS.out (((w2.alloc (.cells #[.int .i64 x.f0, .int .i64 x.f1, .int .u8 x.f2, .string x.f3, .bool x.f4] 121)).drew.alloc (.cells #[.int .i64 y.f0, .int .i64 y.f1, .int .u8 y.f2, .string y.f3, .bool false] 121)).drew) (below_drew (below_alloc (below_drew (below_alloc (Below.refl _ _) _)) _))
     clear f8
     have hb1 := HU1.out
     have hcl := HCB.out
     have hdd := HDB.out
     go_wp2_with (go_at_call 167; refine (HDEP.out _ (below_drew (below_drew (below_alloc (below_alloc (Below.refl _ _) _) _)))).mono ?_; rintro e w7 ⟨rfl, rfl⟩))
  all_goals
    (have hmb : (⟨w.heap.size, 0, none⟩ : Addr).block ≠ mb := fun e => by have := H.out.2.lt; simp at e; omega
     have hbl : Below w2.heap.size w2 ((w2.alloc (.cells #[.int .i64 x.f0, .int .i64 x.f1, .int .u8 x.f2, .string x.f3, .bool x.f4] 121)).alloc (.cells #[.int .i64 y.f0, .int .i64 y.f1, .int .u8 y.f2, .string y.f3, .bool false] 121)).drew.drew.drew := below_drew (below_drew (below_drew (below_alloc (below_alloc (Below.refl _ _) _) _)))
     obtain ⟨w9, hr, hc9, hg9⟩ := (HC2.out.below hbl).put hwf hl
     unfold accV at hr
     have HC9 := Aside0.mk hc9
     have HG9 := Aside0.mk hg9
     have hq : w9.cell? ⟨cb, 0, none⟩ = some (.map (some mb)) ∧ w9.cell? ⟨w.heap.size, 0, none⟩ = some (.int .i64 a.f0) ∧ w9.cell? ⟨w.heap.size, 1, none⟩ = some (.int .i64 a.f1) ∧ w9.cell? ⟨w.heap.size, 2, none⟩ = some (.int .u8 a.f2) ∧ w9.cell? ⟨w.heap.size, 3, none⟩ = some (.string a.f3) ∧ w9.cell? ⟨w.heap.size, 4, none⟩ = some (.bool a.f4) := ⟨hc9.cell, hg9.cell f1 (fun e => hmb (Option.some.inj e)), hg9.cell f2 (fun e => hmb (Option.some.inj e)), hg9.cell f3 (fun e => hmb (Option.some.inj e)), hg9.cell f4 (fun e => hmb (Option.some.inj e)), hg9.cell f5 (fun e => hmb (Option.some.inj e))⟩
     clear hc9 hg9 hbl hmb
     go_region_held3 (fun W => W.cell? ⟨cb, 0, none⟩ = some (.map (some mb)) ∧ W.cell? ⟨w.heap.size, 0, none⟩ = some (.int .i64 a.f0) ∧ W.cell? ⟨w.heap.size, 1, none⟩ = some (.int .i64 a.f1) ∧ W.cell? ⟨w.heap.size, 2, none⟩ = some (.int .u8 a.f2) ∧ W.cell? ⟨w.heap.size, 3, none⟩ = some (.string a.f3) ∧ W.cell? ⟨w.heap.size, 4, none⟩ = some (.bool a.f4))
       (first | exact hq | go_keep)
       (fail))
  all_goals
    (go_wp2
     go_ret
     exact ⟨rfl, HC9.out, add_grown HWA.out HB2.out (below_drew (below_drew (below_drew (below_alloc (below_alloc (Below.refl _ _) _) _)))) HG9.out⟩)
end Go.Proofs.Ytaoejonkiikhmaa.G

/- journal.On at a fine chart: what an entry is told there. (A fine chart: accounts stand under ones that are there, none is shut, each has a side.) -/
namespace Go.Proofs.Ytaoejonkiikhmaa.G
open Go.RowKit Go.Proofs.YtaoejonkiikhmaaW.PrintWords Go.Proofs.YtaoejonkiikhmaaW.PrintLast Go.Proofs.YtaoejonkiikhmaaW.PrintMore
set_option linter.unusedVariables false
set_option linter.unusedSimpArgs false

def sideC (n : Int) : Bool := decide (1 ≤ n ∧ n ≤ 5)
def FineC (l : List Acc) : Prop := GoodC l ∧ ∀ c, hasC l c = true → (lookC l c).f4 = false ∧ sideC (lookC l c).f2 = true ∧ (lookC l c).f0 = c
def lineOk (l : List Acc) (x : Line) : Bool := hasC l x.f0 && leafC l x.f0
theorem onok_take {l : List Acc} {ls : List Line} {k : Nat} (h : k < ls.length) (hp : (ls.take k).all (lineOk l) = true) (hx : lineOk l (rd_T113 ls k) = true) : (ls.take (k + 1)).all (lineOk l) = true := by
  rw [List.take_succ_eq_append_getElem h, List.all_append, hp]
  simp only [rd_T113, List.getD_eq_getElem?_getD, Int.toNat_natCast, List.getElem?_eq_getElem h, Option.getD_some] at hx
  simp [hx]
theorem on_not {l : List Acc} {ls : List Line} {k : Nat} (h : k < ls.length) (hx : lineOk l (rd_T113 ls k) = false) : ls.all (lineOk l) = false := by
  cases ha : ls.all (lineOk l) with
  | false => rfl
  | true =>
    rw [List.all_eq_true] at ha
    simp only [rd_T113, List.getD_eq_getElem?_getD, Int.toNat_natCast, List.getElem?_eq_getElem h, Option.getD_some] at hx
    rw [ha _ (List.getElem_mem h)] at hx
    cases hx
/-- What On tells where the entry may be. -/
def OnTells (fine : Bool) (g : Int) : Prop := (fine = true ∧ g = 0) ∨ (fine = false ∧ (g = 7 ∨ g = 9))

set_option maxHeartbeats 2000000 in
set_option maxRecDepth 100000 in
theorem journal_On.any (w : World) (cb mb : Nat) (l : List Acc) (h : ChartAt w cb mb l) (hl : l.length * 8 ≤ 140737488355328) (a0_0 a0_1 a0_2 : Int) (A0_3 : Option Addr) (c0_3 : Nat) (l0_3 : List Line) (hr0_3 : Kd.C k113 w A0_3 l0_3.length l0_3) (hc0_3 : l0_3.length ≤ c0_3)
    (hok : l0_3.all okL = true) (hcheck : checkR a0_0 a0_1 l0_3 = 0) (hfine : FineC l) (hl6 : l.length ≤ 100000) :
    Calls Try.prog 57 #[.pointer (some ⟨cb, 0, none⟩), .agg #[.int .i64 a0_0, .int .u8 a0_1, .int .u64 a0_2, .slice A0_3 l0_3.length c0_3]] w fun e w' => (∃ g, e = .returned (.int .i64 g) ∧ OnTells (l0_3.all (lineOk l)) g) ∧ Below w.heap.size w w' := by
  have hu := Try.underlying113
  have hua := Try.underlying121
  have hue := Try.underlying32
  have HCH := Aside0.mk h
  have HR := Aside0.mk hr0_3
  have HOK := Aside0.mk hok
  have HF := Aside0.mk hfine
  have hmax := Kd.C_max hr0_3
  have HGET0 := Aside0.mk (fun W hW => chart_Get.calls W cb mb l (h.below hW) 0 (by decide))
  obtain ⟨g0, hg0⟩ : ∃ g : Acc, g = (if hasC l 0 = true then lookC l 0 else z121) := ⟨_, rfl⟩
  obtain ⟨f0, hf0⟩ : ∃ f : Int, f = (if hasC l 0 = true then 0 else 7) := ⟨_, rfl⟩
  rw [← hg0, ← hf0] at HGET0
  unfold accV at HGET0
  have hf0b : (f0 == 1) = false := by rw [hf0]; split <;> rfl
  clear hg0 hf0
  have HCHK := Aside0.mk (fun (W : World) (hW : Below w.heap.size w W) => journal_Check.calls a0_0 a0_1 a0_2 A0_3 c0_3 l0_3 0 W (Kd.C_below hr0_3 hW) hc0_3 (by unfold journal_Check.f; rw [if_pos hok, hcheck]))
  clear h hr0_3 hok hfine hcheck
  go_enter Try.func57, Try.ntmps57
  go_wp2_with (first | (go_at_call 58; refine (HGET0.out _ (below_alloc (Below.refl _ _) _)).mono ?_; rintro e w1 ⟨rfl, hb1⟩; obtain ⟨e0, e1, e2, e3⟩ := entry_cells (w := w) (w5 := w1.alloc (.cells #[.int .i64 g0.f0, .int .i64 g0.f1, .int .u8 g0.f2, .string g0.f3, .bool g0.f4] 121)) (by have h9 := below_alloc hb1 (.cells #[.int .i64 g0.f0, .int .i64 g0.f1, .int .u8 g0.f2, .string g0.f3, .bool g0.f4] 121); simpa using h9); have HB1 := Aside0.mk (over_box (w := w) (by simpa using hb1)); have HE1 := Aside0.mk (And.intro e0 (And.intro e1 (And.intro e2 e3))); clear hb1) | (go_at_call 17; refine (HCHK.out _ (below_alloc HB1.out _)).mono ?_; rintro e w2 ⟨rfl, hb2⟩; have f3 := pw_cell_below hb2 HE1.out.2.2.2; have HB2 := Aside0.mk (below_then (below_alloc HB1.out _) (below_alloc HB1.out _).size hb2); clear hb2))
  go_loopw [28] (fun i wr => ∃ (k : Nat), k ≤ l0_3.length ∧ i = .int .i64 k ∧ Aside0 ((l0_3.take k).all (lineOk l) = true) ∧ Aside0 (Below w.heap.size w wr))
    (fun i _ => l0_3.length - (intOf i).toNat)
  case atStart => exact ⟨0, Nat.zero_le _, rfl, ⟨rfl⟩, HB2⟩
  case round =>
    obtain ⟨k, hk, rfl, HALL, HB⟩ := hrel
    by_cases hlt : k < l0_3.length
    · obtain ⟨ad, rfl, x0, x1, x2, x3⟩ := at_T113 (Kd.C_below HR.out HB.out) k (by omega) (by omega)
      rw [Int.toNat_natCast] at x0 x1 x2 x3
      have HYES := Aside0.mk (onok_take (l := l) hlt HALL.out)
      have HNOT := Aside0.mk (on_not (l := l) (k := k) hlt)
      obtain ⟨x, hx⟩ : ∃ x, x = rd_T113 l0_3 k := ⟨_, rfl⟩
      have hmem : x ∈ l0_3 := by
        rw [hx]
        simp [rd_T113, List.getD_eq_getElem?_getD, List.getElem?_eq_getElem hlt]
      rw [← hx] at x0 x1 x2 x3 HYES HNOT
      have hxo := List.all_eq_true.1 HOK.out x hmem
      have hwf : (Lit.int .i64 x.f0).wf = true := by
        simp only [okL, Bool.and_eq_true] at hxo
        exact wf_i64 hxo.1.1.1
      clear hx hmem hxo
      have HGET := Aside0.mk (fun W hW => chart_Get.calls W cb mb l (HCH.out.below hW) x.f0 hwf)
      cases hhas : hasC l x.f0 with
      | false =>
        have HNO : Aside0 (l0_3.all (lineOk l) = false) := ⟨HNOT.out (by unfold lineOk; rw [hhas]; rfl)⟩
        rw [hhas, if_neg (by simp), if_neg (by simp)] at HGET
        unfold accV at HGET
        clear hhas HYES HNOT
        go_wp2_with (go_at_call 58; refine (HGET.out _ (below_alloc HB.out _)).mono ?_; rintro e w3 ⟨rfl, hb3⟩; have HB3 := Aside0.mk (below_then (below_alloc HB.out _) (below_alloc HB.out _).size hb3); clear hb3)
        go_ret
        exact ⟨⟨_, rfl, .inr ⟨HNO.out, .inl rfl⟩⟩, below_alloc HB3.out _⟩
      | true =>
        obtain ⟨y, hy⟩ : ∃ y, y = lookC l x.f0 := ⟨_, rfl⟩
        rw [hhas, if_pos rfl, if_pos rfl, ← hy] at HGET
        unfold accV at HGET
        have hsh : y.f4 = false := by rw [hy]; exact (HF.out.2 _ hhas).1
        rw [hsh] at HGET
        have HLEAF := Aside0.mk (fun W hW => chart_Leaf.calls W cb mb l (HCH.out.below hW) HF.out.1 hl6 x.f0 hwf hhas)
        have HLK : Aside0 (lineOk l x = leafC l x.f0) := ⟨by unfold lineOk; rw [hhas, Bool.true_and]⟩
        clear hsh hy hhas
        cases hlf : leafC l x.f0 with
        | true =>
          have HNX := Aside0.mk (HYES.out (HLK.out.trans hlf))
          rw [hlf] at HLEAF
          clear hlf HYES HNOT
          go_wp2_with (first | (go_at_call 58; refine (HGET.out _ (below_alloc HB.out _)).mono ?_; rintro e w3 ⟨rfl, hb3⟩; have HB3 := Aside0.mk (below_then (below_alloc HB.out _) (below_alloc HB.out _).size hb3); have hl0 : (w3.alloc (.cells #[.int .i64 y.f0, .int .i64 y.f1, .int .u8 y.f2, .string y.f3, .bool false] 121)).cell? ⟨wr.heap.size, 0, none⟩ = some (.int .i64 x.f0) := pw_cell_below (below_alloc (Below.refl w3.heap.size w3) _) (line_cells hb3).1; clear hb3) | (go_at_call 60; refine (HLEAF.out _ (below_alloc HB3.out _)).mono ?_; rintro e w4 ⟨rfl, hb4⟩; have HB4 := Aside0.mk (below_then (below_alloc HB3.out _) (below_alloc HB3.out _).size hb4); clear hb4))
          exact ⟨⟨k + 1, by omega, by go_num, HNX, HB4⟩, by simp [intOf]; omega⟩
        | false =>
          have HNO := Aside0.mk (HNOT.out (HLK.out.trans hlf))
          rw [hlf] at HLEAF
          clear hlf HYES HNOT
          go_wp2_with (first | (go_at_call 58; refine (HGET.out _ (below_alloc HB.out _)).mono ?_; rintro e w3 ⟨rfl, hb3⟩; have HB3 := Aside0.mk (below_then (below_alloc HB.out _) (below_alloc HB.out _).size hb3); have hl0 : (w3.alloc (.cells #[.int .i64 y.f0, .int .i64 y.f1, .int .u8 y.f2, .string y.f3, .bool false] 121)).cell? ⟨wr.heap.size, 0, none⟩ = some (.int .i64 x.f0) := pw_cell_below (below_alloc (Below.refl w3.heap.size w3) _) (line_cells hb3).1; clear hb3) | (go_at_call 60; refine (HLEAF.out _ (below_alloc HB3.out _)).mono ?_; rintro e w4 ⟨rfl, hb4⟩; have HB4 := Aside0.mk (below_then (below_alloc HB3.out _) (below_alloc HB3.out _).size hb4); clear hb4))
          go_ret
          exact ⟨⟨_, rfl, .inr ⟨HNO.out, .inr rfl⟩⟩, HB4.out⟩
    · obtain rfl : k = l0_3.length := by omega
      go_wp2
      go_ret
      have hq := HALL.out
      rw [List.take_length] at hq
      exact ⟨⟨_, rfl, .inl ⟨hq, rfl⟩⟩, HB.out⟩

set_option maxHeartbeats 2000000 in
set_option maxRecDepth 100000 in
theorem journal_On.refused (w : World) (cb mb : Nat) (l : List Acc) (h : ChartAt w cb mb l) (a0_0 a0_1 a0_2 : Int) (A0_3 : Option Addr) (c0_3 : Nat) (l0_3 : List Line) (hr0_3 : Kd.C k113 w A0_3 l0_3.length l0_3) (hc0_3 : l0_3.length ≤ c0_3)
    (hok : l0_3.all okL = true) (hcheck : checkR a0_0 a0_1 l0_3 ≠ 0) :
    Calls Try.prog 57 #[.pointer (some ⟨cb, 0, none⟩), .agg #[.int .i64 a0_0, .int .u8 a0_1, .int .u64 a0_2, .slice A0_3 l0_3.length c0_3]] w fun e w' => e = .returned (.int .i64 (checkR a0_0 a0_1 l0_3)) ∧ Below w.heap.size w w' := by
  obtain ⟨q, hq⟩ : ∃ q, q = checkR a0_0 a0_1 l0_3 := ⟨_, rfl⟩
  rw [← hq] at hcheck ⊢
  have hqb : (q != 0) = true := bne_iff_ne.mpr hcheck
  have hu := Try.underlying113
  have hua := Try.underlying121
  have hue := Try.underlying32
  have HCH := Aside0.mk h
  have HR := Aside0.mk hr0_3
  have HOK := Aside0.mk hok
  have hmax := Kd.C_max hr0_3
  have HGET0 := Aside0.mk (fun W hW => chart_Get.calls W cb mb l (h.below hW) 0 (by decide))
  obtain ⟨g0, hg0⟩ : ∃ g : Acc, g = (if hasC l 0 = true then lookC l 0 else z121) := ⟨_, rfl⟩
  obtain ⟨f0, hf0⟩ : ∃ f : Int, f = (if hasC l 0 = true then 0 else 7) := ⟨_, rfl⟩
  rw [← hg0, ← hf0] at HGET0
  unfold accV at HGET0
  have hf0b : (f0 == 1) = false := by rw [hf0]; split <;> rfl
  clear hg0 hf0
  have HCHK := Aside0.mk (fun (W : World) (hW : Below w.heap.size w W) => journal_Check.calls a0_0 a0_1 a0_2 A0_3 c0_3 l0_3 q W (Kd.C_below hr0_3 hW) hc0_3 (by unfold journal_Check.f; rw [if_pos hok, hq]))
  clear h hr0_3 hok hcheck hq
  go_enter Try.func57, Try.ntmps57
  go_wp2_with (first | (go_at_call 58; refine (HGET0.out _ (below_alloc (Below.refl _ _) _)).mono ?_; rintro e w1 ⟨rfl, hb1⟩; obtain ⟨e0, e1, e2, e3⟩ := entry_cells (w := w) (w5 := w1.alloc (.cells #[.int .i64 g0.f0, .int .i64 g0.f1, .int .u8 g0.f2, .string g0.f3, .bool g0.f4] 121)) (by have h9 := below_alloc hb1 (.cells #[.int .i64 g0.f0, .int .i64 g0.f1, .int .u8 g0.f2, .string g0.f3, .bool g0.f4] 121); simpa using h9); have HB1 := Aside0.mk (over_box (w := w) (by simpa using hb1)); have HE1 := Aside0.mk (And.intro e0 (And.intro e1 (And.intro e2 e3))); clear hb1) | (go_at_call 17; refine (HCHK.out _ (below_alloc HB1.out _)).mono ?_; rintro e w2 ⟨rfl, hb2⟩; have f3 := pw_cell_below hb2 HE1.out.2.2.2; have HB2 := Aside0.mk (below_then (below_alloc HB1.out _) (below_alloc HB1.out _).size hb2); clear hb2))
  go_ret
  exact ⟨rfl, HB2.out⟩
end Go.Proofs.Ytaoejonkiikhmaa.G

/- The law's chart: the standard accounts alone. -/
namespace Go.Proofs.Ytaoejonkiikhmaa.G
open Go.RowKit Go.Proofs.YtaoejonkiikhmaaW.PrintWords Go.Proofs.YtaoejonkiikhmaaW.PrintLast Go.Proofs.YtaoejonkiikhmaaW.PrintMore
set_option linter.unusedVariables false
set_option linter.unusedSimpArgs false

def std : List Acc := (chart_Standard.f).getD []
theorem std_some : chart_Standard.f = some std := rfl
theorem std_fine : ∀ k : Fin 6, (Lit.int .i64 (rd_T121 std k.val).f0).wf = true ∧ chart_may.f 8 (rd_T121 std k.val).f0 (rd_T121 std k.val).f1 (rd_T121 std k.val).f2 (rd_T121 std k.val).f3 (rd_T121 std k.val).f4 = some true ∧ (rd_T121 std k.val).f1 = 0 ∧ hasC (std.take k.val) (rd_T121 std k.val).f0 = false ∧ hasC (std.take k.val) 0 = false := by
  decide
theorem std_ups : ∀ c, (lookC std c).f1 = 0 := by
  intro c
  unfold lookC
  cases h : std.reverse.find? (fun a => a.f0 == c) with
  | none => rfl
  | some a =>
    have hm := List.mem_of_find?_eq_some h
    have : ∀ a ∈ std.reverse, a.f1 = 0 := by decide
    exact this a hm
theorem no_cell {w : World} {mb : Nat} {l : List Acc} {cb : Nat} (h : ChartAt w cb mb l) {a : Addr} {v : Value} (hc : w.cell? a = some v) : some a.block ≠ some mb := by
  intro e
  have e := Option.some.inj e
  obtain ⟨es, cl, hm, _⟩ := h.2
  unfold World.cell? at hc
  rw [e, hm] at hc
  cases hc
theorem C_chart {w w' : World} {mb cb : Nat} {l : List Acc} (h : ChartAt w cb mb l) (hg : w.grownBy w' (some mb)) {A : Option Addr} {n : Nat} {xs : List Acc} (hC : Kd.C k121 w A n xs) : Kd.C k121 w' A n xs := by
  refine ⟨hC.1, hC.2.1, fun h0 => ?_⟩
  obtain ⟨ad, e, hq⟩ := hC.2.2 h0
  refine ⟨ad, e, fun j p hj => ?_⟩
  obtain ⟨c, hcl, hK, hcell⟩ := hq j p hj
  refine ⟨c, hcl, ?_, fun i u hu => hg.cell (hcell i u hu) (no_cell h (hcell i u hu))⟩
  have hK' : k121.K w p c := hK
  rw [k121_open hK']
  exact k121_mk w' p

set_option maxHeartbeats 2000000 in
set_option maxRecDepth 100000 in
theorem standard_none (w : World) : Calls Try.prog 56 #[.slice none 0 0] w fun e w' => ∃ cb mb, e = .returned (.pointer (some ⟨cb, 0, none⟩)) ∧ ChartAt w' cb mb std ∧ Below w.heap.size w w' := by
  have hua := Try.underlying121
  go_enter Try.func56, Try.ntmps56
  go_wp2_with (first | (go_at_call 114; refine (chart_New.calls _).mono ?_; rintro e w1 ⟨rfl, hc1, hb1⟩; have HC1 := Aside0.mk hc1; have HB1 := Aside0.mk hb1; clear hc1 hb1) | (go_at_call 115; refine (chart_Standard.calls std _ std_some).mono ?_; rintro e w2 ⟨v0, rfl, hR2, hb2⟩; obtain ⟨A2, c2, rfl, hc2, hC2⟩ := Kd.R_reads hR2; have HCH := Aside0.mk (HC1.out.below hb2); have HB2 := Aside0.mk (below_then HB1.out HB1.out.size hb2); have HC2 := Aside0.mk hC2; clear hb2 hR2 hC2))
  go_loopw [5] (fun i wr => ∃ (k : Nat), k ≤ 6 ∧ i = .int .i64 k ∧ Aside0 (ChartAt wr (w.heap.size + 1) w.heap.size (std.take k)) ∧ Aside0 (Kd.C k121 wr A2 std.length std) ∧ Aside0 (Below w.heap.size w wr))
    (fun i _ => 6 - (intOf i).toNat)
  case atStart => exact ⟨0, Nat.zero_le _, rfl, HCH, HC2, HB2⟩
  case round =>
    obtain ⟨k, hk, rfl, HC, HK, HB⟩ := hrel
    have h6 : std.length = 6 := rfl
    by_cases hlt : k < 6
    · obtain ⟨ad, rfl, x0, x1, x2, x3, x4⟩ := at_T121 HK.out k (by omega) (by omega)
      rw [Int.toNat_natCast] at x0 x1 x2 x3 x4
      obtain ⟨q1, q2, q3, q4, q5⟩ := std_fine ⟨k, hlt⟩
      simp only at q1 q2 q3 q4 q5
      have hsn : std.take k ++ [rd_T121 std k] = std.take (k + 1) := by
        rw [List.take_succ_eq_append_getElem (by omega)]
        simp [rd_T121, List.getElem?_eq_getElem (show k < std.length by omega)]
      have HSN := Aside0.mk hsn
      obtain ⟨x, hx⟩ : ∃ x, x = rd_T121 std k := ⟨_, rfl⟩
      rw [← hx] at x0 x1 x2 x3 x4 q1 q2 q3 q4 HSN
      have HADD := Aside0.mk (chart_Add.fine 8 wr _ _ _ HC.out x q1 q2 q3 q4 q5 (by rw [List.length_take]; unfold maxLen; omega))
      unfold accV at HADD
      clear hx q1 q2 q3 q4 q5 hsn h6
      go_wp2_with (go_at_call 116; refine HADD.out.mono ?_; rintro e w3 ⟨rfl, hc3, hg3⟩; have HC3 := Aside0.mk hc3; have HG3 := Aside0.mk hg3; clear hc3 hg3)
      rw [HSN.out] at HC3
      go_roundw
      case rel => exact ⟨k + 1, by omega, by go_num, HC3, ⟨C_chart HC.out HG3.out HK.out⟩, ⟨pw_below_grown HB.out _ HB.out.size HG3.out (fun j e => by cases e; exact Nat.le_refl _)⟩⟩
      case measure => simp [intOf]; omega
    · obtain rfl : k = 6 := by omega
      have hs6 : std.take 6 = std := rfl
      rw [hs6] at HC
      have H6 := Aside0.mk h6
      go_wp2
      obtain ⟨wo, hwo⟩ : ∃ wo, wo = wr := ⟨_, rfl⟩
      subst hwo
      go_loopw [6] (fun i w' => i = .int .i64 0 ∧ w' = wo) (fun _ _ => 0)
      case atStart => exact ⟨rfl, rfl⟩
      case round =>
        obtain ⟨rfl, hwr⟩ := hrel
        go_wp2
        go_ret
        skip
        exact ⟨_, _, rfl, HC.out, HB.out⟩
end Go.Proofs.Ytaoejonkiikhmaa.G

/- The law's chart, of any more accounts: it is fine. -/
namespace Go.Proofs.Ytaoejonkiikhmaa.G
open Go.RowKit Go.Proofs.YtaoejonkiikhmaaW.PrintWords Go.Proofs.YtaoejonkiikhmaaW.PrintLast Go.Proofs.YtaoejonkiikhmaaW.PrintMore
set_option linter.unusedVariables false
set_option linter.unusedSimpArgs false

def okAcc (a : Acc) : Bool := i64ok a.f0 && i64ok a.f1 && decide (0 ≤ a.f2 ∧ a.f2 ≤ 255)
def sideV (n : Int) : Int := if n = 1 ∨ n = 4 then 1 else if n = 2 ∨ n = 3 ∨ n = 5 then -1 else 0
theorem side_f (n : Int) : chart_Side.f 8 n = some (sideV n) := by
  unfold chart_Side.f sideV
  by_cases h1 : n = 1
  · subst h1; rfl
  · by_cases h4 : n = 4
    · subst h4; rfl
    · by_cases h2 : n = 2
      · subst h2; rfl
      · by_cases h3 : n = 3
        · subst h3; rfl
        · by_cases h5 : n = 5
          · subst h5; rfl
          · simp [chart_Side.j0, chart_Side.j1, h1, h2, h3, h4, h5]
theorem sideV_zero (n : Int) : sideV n = 0 ↔ sideC n = false := by
  unfold sideV sideC
  rw [decide_eq_false_iff_not]
  constructor
  · intro h
    split at h
    · cases h
    · split at h
      · cases h
      · omega
  · intro h
    rw [if_neg (by omega), if_neg (by omega)]
def mayAcc (a : Acc) : Bool := decide (1 ≤ a.f0 ∧ a.f0 ≤ 9999) && (sideC a.f2 && (decide (1 ≤ a.f3.size ∧ a.f3.size ≤ 60) && !a.f4))
theorem mayAcc_f (a : Acc) : chart_may.f 8 a.f0 a.f1 a.f2 a.f3 a.f4 = some (mayAcc a) := by
  unfold chart_may.f mayAcc
  rw [side_f]
  by_cases h1 : a.f0 ≥ 1
  · by_cases h2 : a.f0 ≤ 9999
    · rw [if_pos h1, if_pos h2, Option.bind_some, decide_eq_true (show 1 ≤ a.f0 ∧ a.f0 ≤ 9999 from ⟨h1, h2⟩), Bool.true_and]
      by_cases h3 : sideV a.f2 = 0
      · rw [if_pos h3, (sideV_zero _).1 h3]; rfl
      · have h3' : sideC a.f2 = true := by
          cases hs : sideC a.f2 with
          | true => rfl
          | false => exact absurd ((sideV_zero _).2 hs) h3
        rw [if_neg h3, h3', Bool.true_and]
        by_cases h4 : 1 ≤ a.f3.size ∧ a.f3.size ≤ 60
        · rw [decide_eq_true h4, if_pos (by omega), if_pos (by omega)]; rfl
        · rw [decide_eq_false h4]
          by_cases h5 : (a.f3.size : Int) ≥ 1
          · rw [if_pos h5, if_neg (by omega)]; rfl
          · rw [if_neg h5]; rfl
    · rw [if_pos h1, if_neg h2, decide_eq_false (by omega)]; rfl
  · rw [if_neg h1, decide_eq_false (by omega)]; rfl
theorem fineC_add {l : List Acc} {a : Acc} (h : FineC l) (hm : mayAcc a = true) (hn : hasC l a.f0 = false) (hu : a.f1 = 0 ∨ hasC l a.f1 = true) : FineC (l ++ [a]) := by
  simp only [mayAcc, Bool.and_eq_true, decide_eq_true_eq] at hm
  obtain ⟨h1, h2, h3, h4⟩ := hm
  refine ⟨goodC_add h.1 hn h1 hu, fun c hc => ?_⟩
  rw [lookC_snoc]
  by_cases e : a.f0 = c
  · rw [if_pos e]
    exact ⟨by simpa using h4, h2, e⟩
  · rw [if_neg e]
    refine h.2 c ?_
    rw [hasC_snoc, Bool.or_eq_true] at hc
    rcases hc with hc | hc
    · exact hc
    · exact absurd (beq_iff_eq.1 hc) e
theorem fineC_nil : FineC [] := ⟨goodC_nil, fun c h => by simp [hasC] at h⟩
theorem fine_zero {l : List Acc} (h : FineC l) : hasC l 0 = false := by
  cases hh : hasC l 0 with
  | false => rfl
  | true =>
    obtain ⟨rk, N, _, _, _, hg⟩ := h.1
    have := (hg 0 hh).1
    omega

theorem chart_Add.fineC (w : World) (cb mb : Nat) (l : List Acc) (h : ChartAt w cb mb l) (hf : FineC l) (hl : l.length ≤ 1000) (a : Acc) (hok : okAcc a = true) :
    Calls Try.prog 116 #[.pointer (some ⟨cb, 0, none⟩), accV a] w fun e w' => ∃ (r : Int) (l' : List Acc), e = .returned (.int .i64 r) ∧ ChartAt w' cb mb l' ∧ FineC l' ∧ l'.length ≤ l.length + 1 ∧ w.grownBy w' (some mb) := by
  simp only [okAcc, Bool.and_eq_true] at hok
  have hwf := wf_i64 hok.1.1
  have hwu := wf_i64 hok.1.2
  have hm := mayAcc_f a
  have stay : ∀ {q : Int} {e : Ending} {w' : World}, (e = .returned (.int .i64 q) ∧ Below w.heap.size w w') → ∃ (r : Int) (l' : List Acc), e = .returned (.int .i64 r) ∧ ChartAt w' cb mb l' ∧ FineC l' ∧ l'.length ≤ l.length + 1 ∧ w.grownBy w' (some mb) :=
    fun {q e w'} ⟨he, hb⟩ => ⟨q, l, he, h.below hb, hf, by omega, grown_of_below hb _⟩
  cases hmay : mayAcc a with
  | false =>
    rw [hmay] at hm
    exact (chart_Add.bad 8 w cb mb l h a hwf hm).mono fun e w' q => stay q
  | true =>
    rw [hmay] at hm
    cases hb1 : hasC l a.f0 with
    | true => exact (chart_Add.there 8 w cb mb l h a hwf hwu hm hb1).mono fun e w' q => stay q
    | false =>
      have grows : (a.f1 = 0 ∨ hasC l a.f1 = true) → ∀ {e : Ending} {w' : World}, (e = .returned (.int .i64 0) ∧ ChartAt w' cb mb (l ++ [a]) ∧ w.grownBy w' (some mb)) → ∃ (r : Int) (l' : List Acc), e = .returned (.int .i64 r) ∧ ChartAt w' cb mb l' ∧ FineC l' ∧ l'.length ≤ l.length + 1 ∧ w.grownBy w' (some mb) :=
        fun hu {e w'} ⟨he, hc, hg⟩ => ⟨0, l ++ [a], he, hc, fineC_add hf hmay hb1 hu, by simp, hg⟩
      by_cases hu0 : a.f1 = 0
      · exact (chart_Add.fine 8 w cb mb l h a hwf hm hu0 hb1 (fine_zero hf) (by unfold maxLen; omega)).mono fun e w' q => grows (.inl hu0) q
      · cases hb2 : hasC l a.f1 with
        | false => exact (chart_Add.none_up 8 w cb mb l h a hwf hwu hm hb1 hb2 hu0).mono fun e w' q => stay q
        | true =>
          have hsh := (hf.2 _ hb2).1
          by_cases hcl : (lookC l a.f1).f2 = a.f2
          · by_cases hdp : 8 ≤ depthN l (l.length + 1) a.f1
            · exact (chart_Add.deep 8 w cb mb l h a hwf hwu hm hb1 hb2 hu0 hsh hcl hf.1 (by omega) hdp).mono fun e w' q => stay q
            · exact (chart_Add.under 8 w cb mb l h a hwf hwu hm hb1 hb2 hu0 hsh hcl hf.1 (by omega) (by unfold maxLen; omega) hdp).mono fun e w' q => grows (.inr hb2) q
          · exact (chart_Add.class 8 w cb mb l h a hwf hwu hm hb1 hb2 hu0 hsh hcl).mono fun e w' q => stay q
theorem std_ok : ∀ k : Fin 6, okAcc (rd_T121 std k.val) = true := by decide

set_option maxHeartbeats 2000000 in
set_option maxRecDepth 100000 in
theorem standard_any (w : World) (A : Option Addr) (c : Nat) (more : List Acc) (hC : Kd.C k121 w A more.length more) (hc : more.length ≤ c) (hok : more.all okAcc = true) (hlen : more.length ≤ 10) (hsz : ∀ a ∈ more, a.f3.size ≤ 9223372036854775807) :
    Calls Try.prog 56 #[.slice A more.length c] w fun e w' => ∃ cb mb l, e = .returned (.pointer (some ⟨cb, 0, none⟩)) ∧ ChartAt w' cb mb l ∧ FineC l ∧ l.length ≤ 16 ∧ Below w.heap.size w w' := by
  have hua := Try.underlying121
  have HMC := Aside0.mk hC
  have HMK := Aside0.mk hok
  have HSZ := Aside0.mk hsz
  have hmax := Kd.C_max hC
  clear hC hok hsz
  go_enter Try.func56, Try.ntmps56
  go_wp2_with (first | (go_at_call 114; refine (chart_New.calls _).mono ?_; rintro e w1 ⟨rfl, hc1, hb1⟩; have HC1 := Aside0.mk hc1; have HB1 := Aside0.mk hb1; clear hc1 hb1) | (go_at_call 115; refine (chart_Standard.calls std _ std_some).mono ?_; rintro e w2 ⟨v0, rfl, hR2, hb2⟩; obtain ⟨A2, c2, rfl, hc2, hC2⟩ := Kd.R_reads hR2; have HCH := Aside0.mk (HC1.out.below hb2); have HB2 := Aside0.mk (below_then HB1.out HB1.out.size hb2); have HC2 := Aside0.mk hC2; clear hb2 hR2 hC2))
  go_loopw [5] (fun i wr => ∃ (k : Nat) (l : List Acc), k ≤ 6 ∧ i = .int .i64 k ∧ Aside0 (ChartAt wr (w.heap.size + 1) w.heap.size l ∧ FineC l ∧ l.length ≤ k) ∧ Aside0 (Kd.C k121 wr A2 std.length std) ∧ Aside0 (Below w.heap.size w wr))
    (fun i _ => 6 - (intOf i).toNat)
  case atStart => exact ⟨0, [], Nat.zero_le _, rfl, ⟨HCH.out, fineC_nil, Nat.le_refl _⟩, HC2, HB2⟩
  case round =>
    obtain ⟨k, l, hk, rfl, HL, HK, HB⟩ := hrel
    have h6 : std.length = 6 := rfl
    by_cases hlt : k < 6
    · obtain ⟨ad, rfl, x0, x1, x2, x3, x4⟩ := at_T121 HK.out k (by omega) (by omega)
      rw [Int.toNat_natCast] at x0 x1 x2 x3 x4
      have q1 := std_ok ⟨k, hlt⟩
      simp only at q1
      obtain ⟨x, hx⟩ : ∃ x, x = rd_T121 std k := ⟨_, rfl⟩
      rw [← hx] at x0 x1 x2 x3 x4 q1
      have HADD := Aside0.mk (chart_Add.fineC wr _ _ _ HL.out.1 HL.out.2.1 (by have := HL.out.2.2; omega) x q1)
      unfold accV at HADD
      clear hx q1 h6
      go_wp2_with (go_at_call 116; refine HADD.out.mono ?_; rintro e w3 ⟨r, l', rfl, hc3, hf3, hl3, hg3⟩; have HL3 : Aside0 (ChartAt w3 (w.heap.size + 1) w.heap.size l' ∧ FineC l' ∧ l'.length ≤ k + 1) := ⟨hc3, hf3, by have := HL.out.2.2; omega⟩; have HG3 := Aside0.mk hg3; clear hc3 hf3 hl3 hg3)
      go_roundw
      case rel => exact ⟨k + 1, l', by omega, by go_num, HL3, ⟨C_chart HL.out.1 HG3.out HK.out⟩, ⟨pw_below_grown HB.out _ HB.out.size HG3.out (fun j e => by cases e; exact Nat.le_refl _)⟩⟩
      case measure => simp [intOf]; omega
    · obtain rfl : k = 6 := by omega
      have H6 := Aside0.mk h6
      clear h6
      go_wp2
      obtain ⟨wo, hwo⟩ : ∃ wo, wo = wr := ⟨_, rfl⟩
      subst hwo
      go_loopw [6] (fun i wr => ∃ (k : Nat) (l : List Acc), k ≤ more.length ∧ i = .int .i64 k ∧ Aside0 (ChartAt wr (w.heap.size + 1) w.heap.size l ∧ FineC l ∧ l.length ≤ 6 + k) ∧ Aside0 (Below w.heap.size w wr))
        (fun i _ => more.length - (intOf i).toNat)
      case atStart => exact ⟨0, l, Nat.zero_le _, rfl, HL, HB⟩
      case round =>
        obtain ⟨m, l, hm, rfl, HL, HB⟩ := hrel
        by_cases hlm : m < more.length
        · obtain ⟨ad, rfl, x0, x1, x2, x3, x4⟩ := at_T121 (Kd.C_below HMC.out HB.out) m (by omega) (by omega)
          rw [Int.toNat_natCast] at x0 x1 x2 x3 x4
          obtain ⟨x, hx⟩ : ∃ x, x = rd_T121 more m := ⟨_, rfl⟩
          have hmem : x ∈ more := by
            rw [hx]
            simp [rd_T121, List.getD_eq_getElem?_getD, List.getElem?_eq_getElem hlm]
          rw [← hx] at x0 x1 x2 x3 x4
          have HADD := Aside0.mk (chart_Add.fineC wr _ _ _ HL.out.1 HL.out.2.1 (by have := HL.out.2.2; omega) x (List.all_eq_true.1 HMK.out x hmem))
          have hxs := HSZ.out x hmem
          unfold accV at HADD
          clear hx hmem
          by_cases h200 : x.f3.size ≤ 200
          · go_wp2_with (go_at_call 116; refine HADD.out.mono ?_; rintro e w3 ⟨r, l', rfl, hc3, hf3, hl3, hg3⟩; have HL3 : Aside0 (ChartAt w3 (w.heap.size + 1) w.heap.size l' ∧ FineC l' ∧ l'.length ≤ 6 + (m + 1)) := ⟨hc3, hf3, by have := HL.out.2.2; omega⟩; have HG3 := Aside0.mk hg3; clear hc3 hf3 hl3 hg3)
            go_roundw
            case rel =>
              have hrel2 : ∃ (k : Nat) (l : List Acc), k ≤ more.length ∧ (Value.int .i64 ((m : Int) + 1)) = .int .i64 k ∧ Aside0 (ChartAt w3 (w.heap.size + 1) w.heap.size l ∧ FineC l ∧ l.length ≤ 6 + k) ∧ Aside0 (Below w.heap.size w w3) := ⟨m + 1, l', by omega, by go_num, HL3, ⟨pw_below_grown HB.out _ HB.out.size HG3.out (fun j e => by cases e; exact Nat.le_refl _)⟩⟩
              first | exact hrel2 | ((repeat apply Exists.intro); exact ⟨hrel2, rfl⟩)
            case measure => simp [intOf]; omega
          · go_wp2
            go_roundw
            case rel => exact ⟨m + 1, l, by omega, by go_num, ⟨HL.out.1, HL.out.2.1, by have := HL.out.2.2; omega⟩, HB⟩
            case measure => simp [intOf]; omega
        · obtain rfl : m = more.length := by omega
          go_wp2
          go_ret
          exact ⟨_, _, l, rfl, HL.out.1, HL.out.2.1, by have := HL.out.2.2; omega, HB.out⟩
end Go.Proofs.Ytaoejonkiikhmaa.G

/- The known answers of the layer journal: they are so. -/
namespace Go.Proofs.Ytaoejonkiikhmaa.G
open Go.RowKit Go.Proofs.YtaoejonkiikhmaaW.PrintWords Go.Proofs.YtaoejonkiikhmaaW.PrintLast Go.Proofs.YtaoejonkiikhmaaW.PrintMore
set_option linter.unusedVariables false
set_option linter.unusedSimpArgs false

def quittancelaw20_head.f : Option Bool := some true
def lineV (x : Line) : List Value := [.int .i64 x.f0, .int .u64 x.f1, .int .u64 x.f2, .int .i64 x.f3]
theorem flat_at : ∀ (xs : List Line) (j i : Nat) (p : Line) (u : Value), xs[j]? = some p → (lineV p)[i]? = some u → (xs.flatMap lineV)[j * 4 + i]? = some u
  | [], j, i, p, u, h, _ => by simp at h
  | x :: r, 0, i, p, u, h, hu => by
    simp at h
    subst h
    have hi : i < 4 := (List.getElem?_eq_some_iff.1 hu).1
    rw [List.flatMap_cons, List.getElem?_append_left (by show 0 * 4 + i < 4; omega), Nat.zero_mul, Nat.zero_add]
    exact hu
  | x :: r, j + 1, i, p, u, h, hu => by
    rw [List.flatMap_cons, List.getElem?_append_right (by show 4 ≤ (j + 1) * 4 + i; omega)]
    have e : (j + 1) * 4 + i - (lineV x).length = j * 4 + i := by
      show (j + 1) * 4 + i - 4 = j * 4 + i
      omega
    rw [e]
    exact flat_at r j i p u (by simpa using h) hu
theorem C_lines (xs : List Line) (W : World) (g : Nat) (cs : Array Value) (hg : W.heap[g]? = some (.cells cs 113 (0, 0))) (hq : cs = (xs.flatMap lineV).toArray) (hlen : xs.length ≤ 1000) : Kd.C k113 W (some ⟨g, 0, none⟩) xs.length xs := by
  subst hq
  refine ⟨rfl, by omega, fun h0 => ⟨_, rfl, fun j p hj => ⟨lineV p, rfl, k113_mk W p, fun i u hu => ?_⟩⟩⟩
  have h1 : ((xs.flatMap lineV).toArray)[j * 4 + i]? = some u := by
    rw [List.getElem?_toArray]
    exact flat_at xs j i p u hj hu
  have e1 : (⟨g, 0, none⟩ : Addr).add (j * 4 + i) = ⟨g, j * 4 + i, none⟩ := by
    unfold Addr.add
    split
    · rename_i h0
      rw [h0]
    · simp
  rw [show k113.sz = 4 from rfl, e1]
  exact (blk_cell hg _).trans h1
theorem third_new (w : World) (a b c : Obj) : (((w.alloc a).alloc b).alloc c).heap[w.heap.size + 1 + 1]? = some c := by
  have := World.alloc_heap_new ((w.alloc a).alloc b) c
  simpa using this
def e2 : List Line := [⟨1100, 0, 0, 5⟩, ⟨1200, 0, 0, -5⟩]
def b2 : List Line := [⟨1100, 0, 0, 5⟩, ⟨1200, 0, 0, -4⟩]
def t3 : List Line := [⟨1200, 0, 0, 2⟩, ⟨1100, 0, 0, 3⟩, ⟨1200, 0, 0, -2⟩]
def o1 : List Line := [⟨1100, 0, 0, 3⟩]
theorem e2_ok : e2.all okL = true := by decide
theorem e2_totals : journal_Totals.f 1 1 0 e2 = some (5, 5, 0) := by kernel_rfl
theorem e2_check : journal_Check.f 1 1 0 e2 = some 0 := by kernel_rfl
theorem e2_checkR : checkR 1 1 e2 = 0 := by decide
theorem b2_check : journal_Check.f 1 1 0 b2 = some 200 := by kernel_rfl
theorem e2_put : journal_Put.f 12 1 1 0 e2 = some (⟨#[1, 1, 0, 2, 135, 76, 0, 0, 10, 136, 48, 0, 0, 9]⟩, 0) := by kernel_rfl
theorem t3_tidy : journal_Tidy.f t3 = some (o1, 0) := by kernel_rfl
theorem o1_same : quittanceref20_SameLines.f 12 o1 o1 = some true := by kernel_rfl
theorem e2_post : ∀ x ∈ e2, postable std x.f0 := by
  intro x hx
  refine ⟨?_, ?_, fun k => ?_⟩
  · have : ∀ x ∈ e2, hasC std x.f0 = true := by decide
    exact this x hx
  · have : ∀ x ∈ e2, (lookC std x.f0).f4 = false := by decide
    exact this x hx
  · rw [std_ups]
    have : ∀ x ∈ e2, (0 : Int) ≠ x.f0 := by decide
    exact this x hx

set_option maxHeartbeats 4000000 in
set_option maxRecDepth 100000 in
theorem quittancelaw20_head.calls (r : Bool) (w : World) (h : quittancelaw20_head.f = some r) :
    Calls Try.prog 50 #[] w fun e w' => e = .returned (.bool r) ∧ Below w.heap.size w w' := by
  obtain rfl := Option.some.inj h
  clear h
  have hu := Try.underlying113
  have hue := Try.underlying32
  go_enter Try.func50, Try.ntmps50
  obtain ⟨wa, hwa⟩ : ∃ wa, wa = (w.alloc (.cells #[.int .i64 1100, .int .u64 0, .int .u64 0, .int .i64 5, .int .i64 1200, .int .u64 0, .int .u64 0, .int .i64 (-5)] 113)).alloc (.cells #[.int .i64 1, .int .u8 1, .int .u64 0, .slice (some ⟨w.heap.size, 0, none⟩) 2 2] 32) := ⟨_, rfl⟩
  have HWA := Aside0.mk hwa
  have HA : Aside0 (∀ W, Below wa.heap.size wa W → W.cell? ⟨w.heap.size + 1, 0, none⟩ = some (.int .i64 1) ∧ W.cell? ⟨w.heap.size + 1, 1, none⟩ = some (.int .u8 1) ∧ W.cell? ⟨w.heap.size + 1, 2, none⟩ = some (.int .u64 0) ∧ W.cell? ⟨w.heap.size + 1, 3, none⟩ = some (.slice (some ⟨w.heap.size, 0, none⟩) 2 2) ∧ Kd.C k113 W (some ⟨w.heap.size, 0, none⟩) e2.length e2) := ⟨fun W hW => by
    have hk : wa.heap[w.heap.size + 1]? = some (.cells #[.int .i64 1, .int .u8 1, .int .u64 0, .slice (some ⟨w.heap.size, 0, none⟩) 2 2] 32) := by rw [hwa]; exact second_new w _ _
    have hl : wa.heap[w.heap.size]? = some (.cells #[.int .i64 1100, .int .u64 0, .int .u64 0, .int .i64 5, .int .i64 1200, .int .u64 0, .int .u64 0, .int .i64 (-5)] 113) := by rw [hwa]; exact first_new w _ _ _ _
    exact ⟨pw_cell_below hW (blk_cell hk 0), pw_cell_below hW (blk_cell hk 1), pw_cell_below hW (blk_cell hk 2), pw_cell_below hW (blk_cell hk 3), Kd.C_below (C_lines e2 wa w.heap.size _ hl rfl (by decide)) hW⟩⟩
  clear hwa
  go_wp2_with (first | (go_at_call 62; rw [← HWA.out]; refine (journal_Totals.calls 1 1 0 (some ⟨w.heap.size, 0, none⟩) 2 e2 5 5 0 _ (HA.out _ (Below.refl _ _)).2.2.2.2 (by decide) e2_totals).mono ?_; rintro e w1 ⟨rfl, hb1⟩; obtain ⟨e0, e1, e2', e3, _⟩ := HA.out w1 hb1; have HB1 := Aside0.mk hb1; clear hb1) | (go_at_call 63; refine (journal_Put.calls 12 1 1 0 (some ⟨w.heap.size, 0, none⟩) 2 e2 _ 0 _ (HA.out _ HB1.out).2.2.2.2 (by decide) e2_put).mono ?_; rintro e w2 ⟨rfl, hb2⟩; have HB2 := Aside0.mk (below_then HB1.out HB1.out.size hb2); clear hb2) | (go_at_call 51; go_loud (refine (journal_Tidy.calls (some ⟨w2.heap.size + 1 + 1, 0, none⟩) 3 t3 o1 0 _ (C_lines t3 _ _ _ (third_new w2 _ _ _) rfl (by decide)) (by decide) t3_tidy).mono ?_); rintro e w3 ⟨v0, rfl, hR3, hb3⟩; obtain ⟨A3, c3, rfl, hc3, hC3⟩ := Kd.R_reads hR3; have HR3 := Aside0.mk hC3; have HB3 := Aside0.mk hb3; clear hR3 hC3 hb3))
  obtain ⟨wb, hwb⟩ : ∃ wb, wb = ((w2.alloc (.cells #[.int .i64 1100, .int .u64 0, .int .u64 0, .int .i64 5, .int .i64 1200, .int .u64 0, .int .u64 0, .int .i64 (-4)] 113)).alloc (.cells #[.int .i64 1, .int .u8 1, .int .u64 0, .slice (some ⟨w2.heap.size, 0, none⟩) 2 2] 32)).alloc (.cells #[.int .i64 1200, .int .u64 0, .int .u64 0, .int .i64 2, .int .i64 1100, .int .u64 0, .int .u64 0, .int .i64 3, .int .i64 1200, .int .u64 0, .int .u64 0, .int .i64 (-2)] 113) := ⟨_, rfl⟩
  have HWB := Aside0.mk hwb
  have HB3' : Aside0 (Below wb.heap.size wb w3) := ⟨by rw [hwb]; exact HB3.out⟩
  have HB23 : Aside0 (Below w2.heap.size w2 w3) := ⟨below_then (below_alloc (below_alloc (below_alloc (Below.refl _ _) _) _) _) (by simp; omega) HB3.out⟩
  have HB13 : Aside0 (Below wa.heap.size wa w3) := ⟨below_then HB2.out HB2.out.size HB23.out⟩
  have HS : Aside0 (∀ W, Below w3.heap.size w3 W → W.cell? ⟨w.heap.size + 1, 0, none⟩ = some (.int .i64 1) ∧ W.cell? ⟨w.heap.size + 1, 1, none⟩ = some (.int .u8 1) ∧ W.cell? ⟨w.heap.size + 1, 2, none⟩ = some (.int .u64 0) ∧ W.cell? ⟨w.heap.size + 1, 3, none⟩ = some (.slice (some ⟨w.heap.size, 0, none⟩) 2 2) ∧ W.cell? ⟨w2.heap.size + 1, 0, none⟩ = some (.int .i64 1) ∧ W.cell? ⟨w2.heap.size + 1, 1, none⟩ = some (.int .u8 1) ∧ W.cell? ⟨w2.heap.size + 1, 2, none⟩ = some (.int .u64 0) ∧ W.cell? ⟨w2.heap.size + 1, 3, none⟩ = some (.slice (some ⟨w2.heap.size, 0, none⟩) 2 2) ∧ Below w3.heap.size w3 W) := ⟨fun W hW => by
    have hk : wb.heap[w2.heap.size + 1]? = some (.cells #[.int .i64 1, .int .u8 1, .int .u64 0, .slice (some ⟨w2.heap.size, 0, none⟩) 2 2] 32) := by rw [hwb]; exact (Below.heap_alloc _ _ _ (by simp)).trans (second_new w2 _ _)
    have ha := HA.out W (below_then HB13.out HB13.out.size hW)
    have hb (k : Nat) {v : Value} (hv : (#[.int .i64 1, .int .u8 1, .int .u64 0, .slice (some ⟨w2.heap.size, 0, none⟩) 2 2] : Array Value)[k]? = some v) : W.cell? ⟨w2.heap.size + 1, k, none⟩ = some v := pw_cell_below hW (pw_cell_below HB3'.out ((blk_cell hk k).trans hv))
    exact ⟨ha.1, ha.2.1, ha.2.2.1, ha.2.2.2.1, hb 0 rfl, hb 1 rfl, hb 2 rfl, hb 3 rfl, hW⟩⟩
  have HC : Aside0 ((∀ W, Below w3.heap.size w3 W → Kd.C k113 W (some ⟨w.heap.size, 0, none⟩) e2.length e2) ∧ (∀ W, Below w3.heap.size w3 W → Kd.C k113 W (some ⟨w2.heap.size, 0, none⟩) b2.length b2) ∧ (∀ W, Below w3.heap.size w3 W → Kd.C k113 W A3 o1.length o1)) := ⟨⟨fun W hW => (HA.out W (below_then HB13.out HB13.out.size hW)).2.2.2.2, fun W hW => by
    have hk : wb.heap[w2.heap.size]? = some (.cells #[.int .i64 1100, .int .u64 0, .int .u64 0, .int .i64 5, .int .i64 1200, .int .u64 0, .int .u64 0, .int .i64 (-4)] 113) := by rw [hwb]; exact (Below.heap_alloc _ _ _ (by simp; omega)).trans (first_new w2 _ _ _ _)
    exact Kd.C_below (Kd.C_below (C_lines b2 wb w2.heap.size _ hk rfl (by decide)) HB3'.out) hW, fun W hW => Kd.C_below HR3.out hW⟩⟩
  have HT : Aside0 (∀ W W' : World, Below w3.heap.size w3 W → Below W.heap.size W W' → Below w3.heap.size w3 W') := ⟨fun W W' h1 h2 => below_then h1 h1.size h2⟩
  have HK1 : Aside0 (∀ W, Below w3.heap.size w3 W → Calls Try.prog 17 #[.agg #[.int .i64 1, .int .u8 1, .int .u64 0, .slice (some ⟨w.heap.size, 0, none⟩) 2 2]] W fun e w' => e = .returned (.int .i64 0) ∧ Below W.heap.size W w') := ⟨fun W hW => journal_Check.calls 1 1 0 (some ⟨w.heap.size, 0, none⟩) 2 e2 0 W (HC.out.1 W hW) (by decide) e2_check⟩
  have HK2 : Aside0 (∀ W, Below w3.heap.size w3 W → Calls Try.prog 17 #[.agg #[.int .i64 1, .int .u8 1, .int .u64 0, .slice (some ⟨w2.heap.size, 0, none⟩) 2 2]] W fun e w' => e = .returned (.int .i64 200) ∧ Below W.heap.size W w') := ⟨fun W hW => journal_Check.calls 1 1 0 (some ⟨w2.heap.size, 0, none⟩) 2 b2 200 W (HC.out.2.1 W hW) (by decide) b2_check⟩
  have HK3 : Aside0 (∀ W, Below w3.heap.size w3 W → Calls Try.prog 53 #[.slice A3 o1.length c3, .slice (some ⟨W.heap.size, 0, none⟩) 1 1] (W.alloc (.cells #[.int .i64 1100, .int .u64 0, .int .u64 0, .int .i64 3] 113)) fun e w' => e = .returned (.bool true) ∧ Below (W.alloc (.cells #[.int .i64 1100, .int .u64 0, .int .u64 0, .int .i64 3] 113)).heap.size (W.alloc (.cells #[.int .i64 1100, .int .u64 0, .int .u64 0, .int .i64 3] 113)) w') := ⟨fun W hW => Calls.mono (quittanceref20_SameLines.calls 12 A3 c3 o1 (some ⟨W.heap.size, 0, none⟩) 1 o1 true _ (HC.out.2.2 _ (below_alloc hW _)) hc3 (C_lines o1 _ _ _ (World.alloc_heap_new W _) rfl (by decide)) (by decide) o1_same) (by rintro e w' ⟨rfl, ⟨⟨n, rfl⟩⟩⟩; exact ⟨rfl, pw_below_drewN (Below.refl _ _) n⟩)⟩
  have HK5 : Aside0 (∀ W cb mb, ChartAt W cb mb std → Below w3.heap.size w3 W → Calls Try.prog 57 #[.pointer (some ⟨cb, 0, none⟩), .agg #[.int .i64 1, .int .u8 1, .int .u64 0, .slice (some ⟨w.heap.size, 0, none⟩) 2 2]] W fun e w' => e = .returned (.int .i64 0) ∧ Below W.heap.size W w') := ⟨fun W cb mb hc hW => journal_On.fine W cb mb std hc (by decide) 1 1 0 (some ⟨w.heap.size, 0, none⟩) 2 e2 (HC.out.1 W hW) (by decide) e2_ok e2_checkR e2_post⟩
  have HK6 : Aside0 (∀ W, Calls Try.prog 57 #[.pointer none, .agg #[.int .i64 1, .int .u8 1, .int .u64 0, .slice (some ⟨w.heap.size, 0, none⟩) 2 2]] W fun e w' => e = .returned (.int .i64 1) ∧ Below W.heap.size W w') := ⟨fun W => journal_On.nils W 1 1 0 _ 2 2⟩
  have HW3 : Aside0 (∀ W, Below w3.heap.size w3 W → Below w.heap.size w W) := ⟨fun W hW => by
    have h0 : Below w.heap.size w wa := by rw [HWA.out]; exact below_alloc (below_alloc (Below.refl _ _) _) _
    have h1 := below_then h0 h0.size HB13.out
    exact below_then h1 h1.size hW⟩
  clear hwb
  obtain ⟨f0, f1, f2, f3, f4, f5, f6, f7, f8⟩ := HS.out w3 (Below.refl _ _)
  go_region_held3 (fun W => W.cell? ⟨w.heap.size + 1, 0, none⟩ = some (.int .i64 1) ∧ W.cell? ⟨w.heap.size + 1, 1, none⟩ = some (.int .u8 1) ∧ W.cell? ⟨w.heap.size + 1, 2, none⟩ = some (.int .u64 0) ∧ W.cell? ⟨w.heap.size + 1, 3, none⟩ = some (.slice (some ⟨w.heap.size, 0, none⟩) 2 2) ∧ W.cell? ⟨w2.heap.size + 1, 0, none⟩ = some (.int .i64 1) ∧ W.cell? ⟨w2.heap.size + 1, 1, none⟩ = some (.int .u8 1) ∧ W.cell? ⟨w2.heap.size + 1, 2, none⟩ = some (.int .u64 0) ∧ W.cell? ⟨w2.heap.size + 1, 3, none⟩ = some (.slice (some ⟨w2.heap.size, 0, none⟩) 2 2) ∧ Below w3.heap.size w3 W)
    (first | (go_split_ands; exact HS.out _ (by repeat (first | assumption | exact Below.refl _ _ | apply below_drew | apply below_alloc))))
    (first | (go_at_call 17; (with_reducible first | refine (HK1.out _ ?hb).mono ?_ | refine (HK2.out _ ?hb).mono ?_); (case hb => exact (by repeat (first | assumption | exact Below.refl _ _ | apply below_drew | apply below_alloc))); rintro e wx ⟨rfl, hbx⟩; have hqx := HT.out _ _ (by repeat (first | assumption | exact Below.refl _ _ | apply below_drew | apply below_alloc)) hbx; clear hbx) | (go_at_call 53; with_reducible refine (HK3.out _ ?hb).mono ?_; (case hb => exact (by repeat (first | assumption | exact Below.refl _ _ | apply below_drew | apply below_alloc))); rintro e wx ⟨rfl, hbx⟩; have hqx := HT.out _ _ (by repeat (first | assumption | exact Below.refl _ _ | apply below_drew | apply below_alloc)) hbx; clear hbx) | (go_at_call 56; refine (standard_none _).mono ?_; rintro e wx ⟨cb, mb, rfl, hcx, hbx⟩; have HCX := Aside0.mk hcx; have hqx := HT.out _ _ (by repeat (first | assumption | exact Below.refl _ _ | apply below_drew | apply below_alloc)) hbx; clear hbx hcx) | (go_at_call 57; (with_reducible first | refine (HK6.out _).mono ?_ | refine (HK5.out _ _ _ HCX.out ?hb).mono ?_); (try case hb => exact (by repeat (first | assumption | exact Below.refl _ _ | apply below_drew | apply below_alloc))); rintro e wx ⟨rfl, hbx⟩; have hqx := HT.out _ _ (by repeat (first | assumption | exact Below.refl _ _ | apply below_drew | apply below_alloc)) hbx; clear hbx))
  all_goals
    (go_wp2
     go_ret
     exact ⟨rfl, HW3.out _ (by repeat (first | assumption | apply below_drew | apply below_alloc))⟩)
end Go.Proofs.Ytaoejonkiikhmaa.G
