/- Texts of this claim put together: HChartAdd. -/
import Derived.Test.YtaoejonkiikhmaaMLEac
import Derived.Test.YtaoejonkiikhmaaMLEal
import Derived.Deep.RegionHeld3

/- (*Chart).Add: an account that may be, under none, not there: it is added. -/
namespace Go.Proofs.Ytaoejonkiikhmaa.G
open Go.RowKit Go.Proofs.YtaoejonkiikhmaaW.PrintWords Go.Proofs.YtaoejonkiikhmaaW.PrintLast Go.Proofs.YtaoejonkiikhmaaW.PrintMore
open Go.Maps
set_option linter.unusedVariables false
set_option linter.unusedSimpArgs false

theorem acc_cells {w4 w5 : World} {a b c d e : Value} {t : TypeId} (h : Below (w4.heap.size + 1) (w4.alloc (.cells #[a, b, c, d, e] t)) w5) :
    w5.cell? ⟨w4.heap.size, 0, none⟩ = some a ∧ w5.cell? ⟨w4.heap.size, 1, none⟩ = some b ∧ w5.cell? ⟨w4.heap.size, 2, none⟩ = some c ∧ w5.cell? ⟨w4.heap.size, 3, none⟩ = some d ∧ w5.cell? ⟨w4.heap.size, 4, none⟩ = some e := by
  refine ⟨?_, ?_, ?_, ?_, ?_⟩
  · exact (h.cell (p := ⟨w4.heap.size, 0, none⟩) (by simp)).trans (by simp)
  · exact (h.cell (p := ⟨w4.heap.size, 1, none⟩) (by simp)).trans (by simp)
  · exact (h.cell (p := ⟨w4.heap.size, 2, none⟩) (by simp)).trans (by simp)
  · exact (h.cell (p := ⟨w4.heap.size, 3, none⟩) (by simp)).trans (by simp)
  · exact (h.cell (p := ⟨w4.heap.size, 4, none⟩) (by simp)).trans (by simp)

theorem add_grown {w wa w2 W3 w9 : World} {o : Obj} {mb : Nat} (ha : wa = w.alloc o) (h2 : Below wa.heap.size wa w2) (h3 : Below w2.heap.size w2 W3) (h9 : W3.grownBy w9 (some mb)) : w.grownBy w9 (some mb) := by
  subst ha
  have g1 : Below w.heap.size w w2 := below_then (below_alloc (Below.refl _ _) o) (by simp) h2
  have g2 : Below w.heap.size w W3 := below_then g1 g1.size h3
  exact (grown_of_below g2 (some mb)).trans h9

attribute [local go_sem ↓] Go.wp_at_zero Go.wp_at_succ
set_option maxHeartbeats 4000000 in
set_option maxRecDepth 100000 in
theorem chart_Add.fine (k : Nat) (w : World) (cb mb : Nat) (l : List Acc) (h : ChartAt w cb mb l) (a : Acc) (hwf : (Lit.int .i64 a.f0).wf = true) (hmay : chart_may.f k a.f0 a.f1 a.f2 a.f3 a.f4 = some true) (hup : a.f1 = 0) (hno : hasC l a.f0 = false) (hno0 : hasC l 0 = false) (hl : l.length < maxLen) :
    Calls Try.prog 116 #[.pointer (some ⟨cb, 0, none⟩), accV a] w fun e w' => e = .returned (.int .i64 0) ∧ ChartAt w' cb mb (l ++ [a]) ∧ w.grownBy w' (some mb) := by
  have hu := Try.underlying213
  have hua := Try.underlying121
  have HUP := Aside0.mk hup
  have HNO := Aside0.mk hno
  have HNO0 := Aside0.mk hno0
  have H := Aside0.mk h
  have HMAY := Aside0.mk (fun W => chart_may.calls k a.f0 a.f1 a.f2 a.f3 a.f4 true W hmay)
  unfold accV
  obtain ⟨wa, hwa⟩ : ∃ wa, wa = w.alloc (.cells #[.int .i64 a.f0, .int .i64 a.f1, .int .u8 a.f2, .string a.f3, .bool a.f4] 121) := ⟨_, rfl⟩
  have HWA := Aside0.mk hwa
  have HCA : Aside0 (ChartAt wa cb mb l) := ⟨by rw [hwa]; exact h.below (below_alloc (Below.refl _ _) _)⟩
  clear hwa h hmay hno hno0 hup
  go_enter Try.func116, Try.ntmps116
  go_wp2_with (first | (go_at_call 117; rw [← HWA.out]; refine (chart_none.calls _ cb mb l HCA.out).mono ?_; rintro e w1 ⟨rfl, rfl⟩; have hcells := acc_cells (w4 := w) (w5 := w1) (by rw [HWA.out]; exact Below.refl _ _); obtain ⟨a0, a1, a2, a3, a4⟩ := hcells) | (go_at_call 166; refine (HMAY.out _).mono ?_; rintro e w2 ⟨rfl, hb2⟩))
  obtain ⟨x, hx⟩ : ∃ x, x = lookC l a.f0 := ⟨_, rfl⟩
  obtain ⟨y, hy⟩ : ∃ y, y = lookC l a.f1 := ⟨_, rfl⟩
  have HC2 := Aside0.mk (HCA.out.below hb2)
  have HS : Aside0 (∀ W, Below w2.heap.size w2 W → W.cell? ⟨cb, 0, none⟩ = some (.map (some mb)) ∧ W.cell? ⟨w.heap.size, 0, none⟩ = some (.int .i64 a.f0) ∧ W.cell? ⟨w.heap.size, 1, none⟩ = some (.int .i64 a.f1) ∧ W.cell? ⟨w.heap.size, 2, none⟩ = some (.int .u8 a.f2) ∧ W.cell? ⟨w.heap.size, 3, none⟩ = some (.string a.f3) ∧ W.cell? ⟨w.heap.size, 4, none⟩ = some (.bool a.f4) ∧ (Instr.lookup 211 (.map (some mb)) (.int .i64 a.f0) true).run Try.prog W = .ok (.tuple #[.agg #[.int .i64 x.f0, .int .i64 x.f1, .int .u8 x.f2, .string x.f3, .bool x.f4], .bool false]) W ∧ (Instr.lookup 211 (.map (some mb)) (.int .i64 a.f1) true).run Try.prog W = .ok (.tuple #[.agg #[.int .i64 y.f0, .int .i64 y.f1, .int .u8 y.f2, .string y.f3, .bool y.f4], .bool false]) W ∧ Below w2.heap.size w2 W) := ⟨fun W hW => by
    have hlk := (HC2.out.below hW).look hwf
    have hlk2 := (HC2.out.below hW).look (c := a.f1) (by rw [HUP.out]; decide)
    rw [← hx, HNO.out] at hlk
    rw [← hy, HUP.out, HNO0.out, ← HUP.out] at hlk2
    exact ⟨(HC2.out.below hW).cell, pw_cell_below hW (pw_cell_below hb2 a0), pw_cell_below hW (pw_cell_below hb2 a1), pw_cell_below hW (pw_cell_below hb2 a2), pw_cell_below hW (pw_cell_below hb2 a3), pw_cell_below hW (pw_cell_below hb2 a4), hlk, hlk2, hW⟩⟩
  clear a0 a1 a2 a3 a4
  have HB2 := Aside0.mk hb2
  clear hb2 hx hy
  have HU1 := Aside0.mk (show (a.f1 != 0) = false by rw [HUP.out]; rfl)
  go_region_held3 (fun W => W.cell? ⟨cb, 0, none⟩ = some (.map (some mb)) ∧ W.cell? ⟨w.heap.size, 0, none⟩ = some (.int .i64 a.f0) ∧ W.cell? ⟨w.heap.size, 1, none⟩ = some (.int .i64 a.f1) ∧ W.cell? ⟨w.heap.size, 2, none⟩ = some (.int .u8 a.f2) ∧ W.cell? ⟨w.heap.size, 3, none⟩ = some (.string a.f3) ∧ W.cell? ⟨w.heap.size, 4, none⟩ = some (.bool a.f4) ∧ (Instr.lookup 211 (.map (some mb)) (.int .i64 a.f0) true).run Try.prog W = .ok (.tuple #[.agg #[.int .i64 x.f0, .int .i64 x.f1, .int .u8 x.f2, .string x.f3, .bool x.f4], .bool false]) W ∧ (Instr.lookup 211 (.map (some mb)) (.int .i64 a.f1) true).run Try.prog W = .ok (.tuple #[.agg #[.int .i64 y.f0, .int .i64 y.f1, .int .u8 y.f2, .string y.f3, .bool y.f4], .bool false]) W ∧ Below w2.heap.size w2 W)
    (first | (go_split_ands; exact HS.out _ (by repeat (first | assumption | exact Below.refl _ _ | apply below_drew | apply below_alloc | (refine Below.setCell ?_ (by simp; omega) _)))))
    (fail)
  all_goals
    (obtain ⟨f0, f1, f2, f3, f4, f5, f6, f7, f8⟩ := HS.out ((w2.alloc (.cells #[.int .i64 x.f0, .int .i64 x.f1, .int .u8 x.f2, .string x.f3, .bool x.f4] 121)).drew) (below_drew (below_alloc (Below.refl _ _) _))
     clear f8
     go_wp2
     go_region_held3 (fun W => W.cell? ⟨cb, 0, none⟩ = some (.map (some mb)) ∧ W.cell? ⟨w.heap.size, 0, none⟩ = some (.int .i64 a.f0) ∧ W.cell? ⟨w.heap.size, 1, none⟩ = some (.int .i64 a.f1) ∧ W.cell? ⟨w.heap.size, 2, none⟩ = some (.int .u8 a.f2) ∧ W.cell? ⟨w.heap.size, 3, none⟩ = some (.string a.f3) ∧ W.cell? ⟨w.heap.size, 4, none⟩ = some (.bool a.f4) ∧ (Instr.lookup 211 (.map (some mb)) (.int .i64 a.f0) true).run Try.prog W = .ok (.tuple #[.agg #[.int .i64 x.f0, .int .i64 x.f1, .int .u8 x.f2, .string x.f3, .bool x.f4], .bool false]) W ∧ (Instr.lookup 211 (.map (some mb)) (.int .i64 a.f1) true).run Try.prog W = .ok (.tuple #[.agg #[.int .i64 y.f0, .int .i64 y.f1, .int .u8 y.f2, .string y.f3, .bool y.f4], .bool false]) W ∧ Below w2.heap.size w2 W)
       (first | (go_split_ands; exact HS.out _ (by repeat (first | assumption | exact Below.refl _ _ | apply below_drew | apply below_alloc | (refine Below.setCell ?_ (by simp; omega) _)))))
       (fail))
  all_goals
    (clear f0 f1 f2 f3 f4 f5 f6 f7
     obtain ⟨f0, f1, f2, f3, f4, f5, f6, f7, f8⟩ := HS.out (((w2.alloc (.cells #[.int .i64 x.f0, .int .i64 x.f1, .int .u8 x.f2, .string x.f3, .bool x.f4] 121)).drew.alloc (.cells #[.int .i64 y.f0, .int .i64 y.f1, .int .u8 y.f2, .string y.f3, .bool y.f4] 121)).drew) (below_drew (below_alloc (below_drew (below_alloc (Below.refl _ _) _)) _))
     clear f8
     have hb1 := HU1.out
     go_wp2)
  all_goals
    (have hmb : (⟨w.heap.size, 0, none⟩ : Addr).block ≠ mb := fun e => by have := H.out.2.lt; simp at e; omega
     have hbl : Below w2.heap.size w2 ((w2.alloc (.cells #[.int .i64 x.f0, .int .i64 x.f1, .int .u8 x.f2, .string x.f3, .bool x.f4] 121)).alloc (.cells #[.int .i64 y.f0, .int .i64 y.f1, .int .u8 y.f2, .string y.f3, .bool y.f4] 121)).drew.drew.drew := below_drew (below_drew (below_drew (below_alloc (below_alloc (Below.refl _ _) _) _)))
     obtain ⟨w9, hr, hc9, hg9⟩ := (HC2.out.below hbl).put hwf hl
     unfold accV at hr
     have HC9 := Aside0.mk hc9
     have HG9 := Aside0.mk hg9
     have hq : w9.cell? ⟨cb, 0, none⟩ = some (.map (some mb)) ∧ w9.cell? ⟨w.heap.size, 0, none⟩ = some (.int .i64 a.f0) ∧ w9.cell? ⟨w.heap.size, 1, none⟩ = some (.int .i64 a.f1) ∧ w9.cell? ⟨w.heap.size, 2, none⟩ = some (.int .u8 a.f2) ∧ w9.cell? ⟨w.heap.size, 3, none⟩ = some (.string a.f3) ∧ w9.cell? ⟨w.heap.size, 4, none⟩ = some (.bool a.f4) := ⟨hc9.cell, hg9.cell f1 (fun e => hmb (Option.some.inj e)), hg9.cell f2 (fun e => hmb (Option.some.inj e)), hg9.cell f3 (fun e => hmb (Option.some.inj e)), hg9.cell f4 (fun e => hmb (Option.some.inj e)), hg9.cell f5 (fun e => hmb (Option.some.inj e))⟩
     clear hc9 hg9 hbl hmb
     go_region_held3 (fun W => W.cell? ⟨cb, 0, none⟩ = some (.map (some mb)) ∧ W.cell? ⟨w.heap.size, 0, none⟩ = some (.int .i64 a.f0) ∧ W.cell? ⟨w.heap.size, 1, none⟩ = some (.int .i64 a.f1) ∧ W.cell? ⟨w.heap.size, 2, none⟩ = some (.int .u8 a.f2) ∧ W.cell? ⟨w.heap.size, 3, none⟩ = some (.string a.f3) ∧ W.cell? ⟨w.heap.size, 4, none⟩ = some (.bool a.f4))
       (first | exact hq | go_keep)
       (fail))
  all_goals
    (go_wp2
     go_ret
     exact ⟨rfl, HC9.out, add_grown HWA.out HB2.out (below_drew (below_drew (below_drew (below_alloc (below_alloc (Below.refl _ _) _) _)))) HG9.out⟩)
end Go.Proofs.Ytaoejonkiikhmaa.G
