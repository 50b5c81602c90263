/- Texts of this claim put together: HChartGet. -/
import Derived.Test.YtaoejonkiikhmaaMLEab
import Derived.RangeFuncRecord

/- chart.New, (*Chart).none, (*Chart).Get: contracts. -/
namespace Go.Proofs.Ytaoejonkiikhmaa.G
open Go.RowKit Go.Proofs.YtaoejonkiikhmaaW.PrintWords Go.Proofs.YtaoejonkiikhmaaW.PrintLast Go.Proofs.YtaoejonkiikhmaaW.PrintMore
open Go.Maps
set_option linter.unusedVariables false
set_option linter.unusedSimpArgs false

theorem info_acc : (Try.prog.info? 121).map (·.size) = some 5 := by kernel_rfl
theorem first_new (w : World) (cs ds : Array Value) (t u : TypeId) : ((w.alloc (.cells cs t)).alloc (.cells ds u)).heap[w.heap.size]? = some (.cells cs t (0, 0)) :=
  (Below.heap_alloc _ _ _ (by simp)).trans (World.alloc_heap_new w _)
theorem map_not_nil (mb : Nat) (w : World) : (binOp .eql 211 (.map (some mb)) (.map none)).run Try.prog w = .ok (.bool false) w := by
  first | kernel_rfl | rfl | (simp [binOp])

set_option maxHeartbeats 1000000 in
set_option maxRecDepth 100000 in
theorem chart_New.calls (w : World) : Calls Try.prog 114 #[] w fun e w' => e = .returned (.pointer (some ⟨w.heap.size + 1, 0, none⟩)) ∧ ChartAt w' (w.heap.size + 1) w.heap.size [] ∧ Below w.heap.size w w' := by
  have hmm := @run_makeMap Try.prog
  have hu := Try.underlying213
  go_enter Try.func114, Try.ntmps114
  go_wp2
  go_ret
  refine ⟨rfl, ⟨?_, ?_⟩, ?_⟩
  · have := World.alloc_heap_new (w.alloc (.map #[] 0)) (.cells #[.map (some w.heap.size)] 213)
    simpa using this
  · exact (World.ownsMap_made w _ _ _).alloc _
  · exact below_alloc (below_alloc (Below.refl _ _) _) _

set_option maxHeartbeats 1000000 in
set_option maxRecDepth 100000 in
theorem chart_none.calls (w : World) (cb mb : Nat) (l : List Acc) (h : ChartAt w cb mb l) : Calls Try.prog 117 #[.pointer (some ⟨cb, 0, none⟩)] w fun e w' => e = .returned (.bool false) ∧ w' = w := by
  have hc := h.cell
  have hnn := map_not_nil mb w
  have hu := Try.underlying213
  go_enter Try.func117, Try.ntmps117
  go_wp2
  go_ret
  exact ⟨rfl, rfl⟩
theorem chart_none.nils (w : World) : Calls Try.prog 117 #[.pointer none] w fun e w' => e = .returned (.bool true) ∧ w' = w := by
  have hu := Try.underlying213
  go_enter Try.func117, Try.ntmps117
  go_wp2
  go_ret
  exact ⟨rfl, rfl⟩

set_option maxHeartbeats 1000000 in
set_option maxRecDepth 100000 in
theorem chart_Get.calls (w : World) (cb mb : Nat) (l : List Acc) (h : ChartAt w cb mb l) (c : Int) (hc : (Lit.int .i64 c).wf = true) : Calls Try.prog 58 #[.pointer (some ⟨cb, 0, none⟩), .int .i64 c] w fun e w' => e = .returned (.tuple #[accV (if hasC l c = true then lookC l c else z121), .int .i64 (if hasC l c = true then 0 else 7)]) ∧ Below w.heap.size w w' := by
  have hu := Try.underlying213
  have hua := Try.underlying121
  have H := Aside0.mk h
  obtain ⟨x, hx⟩ : ∃ x, x = lookC l c := ⟨_, rfl⟩
  rw [← hx]
  have HX := Aside0.mk hx
  clear hx h
  unfold accV
  cases hh : hasC l c with
  | true =>
    have HH := Aside0.mk hh
    clear hh
    simp only [if_true]
    go_enter Try.func58, Try.ntmps58
    go_wp2_with (go_at_call 117; refine (chart_none.calls _ cb mb l (H.out.below (below_alloc (Below.refl _ _) _))).mono ?_; rintro e w1 ⟨rfl, rfl⟩; have HC1 := H.out.below (below_alloc (Below.refl _ _) (.cells #[.int .i64 0, .int .i64 0, .int .u8 0, .string ⟨#[]⟩, .bool false] 121)); have hcc := HC1.cell; have hlk := HC1.look hc; rw [← HX.out, HH.out] at hlk; unfold accV at hlk; clear HC1)
    refine bodyPost_ret (results_ct rfl _ _ w.heap.size 121 #[.int .i64 x.f0, .int .i64 x.f1, .int .u8 x.f2, .string x.f3, .bool x.f4] (0, 0) _ rfl (first_new w _ _ _ _) Try.underlying121 rfl info_acc) rfl ?_
    exact ⟨rfl, below_alloc (below_alloc (Below.refl _ _) _) _⟩
  | false =>
    have HH := Aside0.mk hh
    clear hh
    simp only [Bool.false_eq_true, if_false]
    go_enter Try.func58, Try.ntmps58
    go_wp2_with (go_at_call 117; refine (chart_none.calls _ cb mb l (H.out.below (below_alloc (Below.refl _ _) _))).mono ?_; rintro e w1 ⟨rfl, rfl⟩; have HC1 := H.out.below (below_alloc (Below.refl _ _) (.cells #[.int .i64 0, .int .i64 0, .int .u8 0, .string ⟨#[]⟩, .bool false] 121)); have hcc := HC1.cell; have hlk := HC1.look hc; rw [← HX.out, HH.out] at hlk; unfold accV at hlk; clear HC1)
    refine bodyPost_ret (results_ct rfl _ _ w.heap.size 121 #[.int .i64 0, .int .i64 0, .int .u8 0, .string ⟨#[]⟩, .bool false] (0, 0) _ rfl (first_new w _ _ _ _) Try.underlying121 rfl info_acc) rfl ?_
    exact ⟨rfl, below_alloc (below_alloc (Below.refl _ _) _) _⟩
end Go.Proofs.Ytaoejonkiikhmaa.G
