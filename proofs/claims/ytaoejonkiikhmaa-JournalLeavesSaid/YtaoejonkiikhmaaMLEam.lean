/- Texts of this claim put together: HOn. -/
import Derived.Test.YtaoejonkiikhmaaMLEaf
import Derived.Test.YtaoejonkiikhmaaMLEal

/- journal.On, where an entry may be posted; and on no chart. -/
namespace Go.Proofs.Ytaoejonkiikhmaa.G
open Go.RowKit Go.Proofs.YtaoejonkiikhmaaW.PrintWords Go.Proofs.YtaoejonkiikhmaaW.PrintLast Go.Proofs.YtaoejonkiikhmaaW.PrintMore
set_option linter.unusedVariables false
set_option linter.unusedSimpArgs false

def postable (l : List Acc) (c : Int) : Prop := hasC l c = true ∧ (lookC l c).f4 = false ∧ ∀ k, (lookC l k).f1 ≠ c

set_option maxHeartbeats 2000000 in
set_option maxRecDepth 100000 in
theorem journal_On.fine (w : World) (cb mb : Nat) (l : List Acc) (h : ChartAt w cb mb l) (hl : l.length * 8 ≤ 140737488355328) (a0_0 a0_1 a0_2 : Int) (A0_3 : Option Addr) (c0_3 : Nat) (l0_3 : List Line) (hr0_3 : Kd.C k113 w A0_3 l0_3.length l0_3) (hc0_3 : l0_3.length ≤ c0_3)
    (hok : l0_3.all okL = true) (hcheck : checkR a0_0 a0_1 l0_3 = 0) (hpost : ∀ x ∈ l0_3, postable l x.f0) :
    Calls Try.prog 57 #[.pointer (some ⟨cb, 0, none⟩), .agg #[.int .i64 a0_0, .int .u8 a0_1, .int .u64 a0_2, .slice A0_3 l0_3.length c0_3]] w fun e w' => e = .returned (.int .i64 0) ∧ Below w.heap.size w w' := by
  have hu := Try.underlying113
  have hua := Try.underlying121
  have hue := Try.underlying32
  have HCH := Aside0.mk h
  have HR := Aside0.mk hr0_3
  have HOK := Aside0.mk hok
  have HPOST := Aside0.mk hpost
  have hmax := Kd.C_max hr0_3
  have HGET0 := Aside0.mk (fun W hW => chart_Get.calls W cb mb l (h.below hW) 0 (by decide))
  obtain ⟨g0, hg0⟩ : ∃ g : Acc, g = (if hasC l 0 = true then lookC l 0 else z121) := ⟨_, rfl⟩
  obtain ⟨f0, hf0⟩ : ∃ f : Int, f = (if hasC l 0 = true then 0 else 7) := ⟨_, rfl⟩
  rw [← hg0, ← hf0] at HGET0
  unfold accV at HGET0
  have hf0b : (f0 == 1) = false := by rw [hf0]; split <;> rfl
  clear hg0 hf0
  have HCHK := Aside0.mk (fun (W : World) (hW : Below w.heap.size w W) => journal_Check.calls a0_0 a0_1 a0_2 A0_3 c0_3 l0_3 0 W (Kd.C_below hr0_3 hW) hc0_3 (by unfold journal_Check.f; rw [if_pos hok, hcheck]))
  clear h hr0_3 hok hpost hcheck
  go_enter Try.func57, Try.ntmps57
  go_wp2_with (first | (go_at_call 58; refine (HGET0.out _ (below_alloc (Below.refl _ _) _)).mono ?_; rintro e w1 ⟨rfl, hb1⟩; obtain ⟨e0, e1, e2, e3⟩ := entry_cells (w := w) (w5 := w1.alloc (.cells #[.int .i64 g0.f0, .int .i64 g0.f1, .int .u8 g0.f2, .string g0.f3, .bool g0.f4] 121)) (by have h9 := below_alloc hb1 (.cells #[.int .i64 g0.f0, .int .i64 g0.f1, .int .u8 g0.f2, .string g0.f3, .bool g0.f4] 121); simpa using h9); have HB1 := Aside0.mk (over_box (w := w) (by simpa using hb1)); have HE1 := Aside0.mk (And.intro e0 (And.intro e1 (And.intro e2 e3))); clear hb1) | (go_at_call 17; refine (HCHK.out _ (below_alloc HB1.out _)).mono ?_; rintro e w2 ⟨rfl, hb2⟩; have f3 := pw_cell_below hb2 HE1.out.2.2.2; have HB2 := Aside0.mk (below_then (below_alloc HB1.out _) (below_alloc HB1.out _).size hb2); clear hb2))
  go_loopw [28] (fun i wr => ∃ (k : Nat), k ≤ l0_3.length ∧ i = .int .i64 k ∧ Aside0 (Below w.heap.size w wr))
    (fun i _ => l0_3.length - (intOf i).toNat)
  case atStart => exact ⟨0, Nat.zero_le _, rfl, HB2⟩
  case round =>
    obtain ⟨k, hk, rfl, HB⟩ := hrel
    by_cases hlt : k < l0_3.length
    · obtain ⟨ad, rfl, x0, x1, x2, x3⟩ := at_T113 (Kd.C_below HR.out HB.out) k (by omega) (by omega)
      rw [Int.toNat_natCast] at x0 x1 x2 x3
      obtain ⟨x, hx⟩ : ∃ x, x = rd_T113 l0_3 k := ⟨_, rfl⟩
      have hmem : x ∈ l0_3 := by
        rw [hx]
        simp [rd_T113, List.getD_eq_getElem?_getD, List.getElem?_eq_getElem hlt]
      rw [← hx] at x0 x1 x2 x3
      have HP := Aside0.mk (HPOST.out x hmem)
      have hxo := List.all_eq_true.1 HOK.out x hmem
      have hwf : (Lit.int .i64 x.f0).wf = true := by
        simp only [okL, Bool.and_eq_true] at hxo
        exact wf_i64 hxo.1.1.1
      clear hx hmem hxo
      have HGET := Aside0.mk (fun W hW => chart_Get.calls W cb mb l (HCH.out.below hW) x.f0 hwf)
      obtain ⟨y, hy⟩ : ∃ y, y = lookC l x.f0 := ⟨_, rfl⟩
      rw [HP.out.1, if_pos rfl, if_pos rfl, ← hy] at HGET
      unfold accV at HGET
      have hsh : y.f4 = false := by rw [hy]; exact HP.out.2.1
      rw [hsh] at HGET
      clear hsh hy
      have HLEAF := Aside0.mk (fun W hW => chart_Leaf.leaf W cb mb l (HCH.out.below hW) hl x.f0 hwf HP.out.1 HP.out.2.2)
      go_wp2_with (first | (go_at_call 58; refine (HGET.out _ (below_alloc HB.out _)).mono ?_; rintro e w3 ⟨rfl, hb3⟩; have HB3 := Aside0.mk (below_then (below_alloc HB.out _) (below_alloc HB.out _).size hb3); have hl0 : (w3.alloc (.cells #[.int .i64 y.f0, .int .i64 y.f1, .int .u8 y.f2, .string y.f3, .bool false] 121)).cell? ⟨wr.heap.size, 0, none⟩ = some (.int .i64 x.f0) := pw_cell_below (below_alloc (Below.refl w3.heap.size w3) _) (line_cells hb3).1; clear hb3) | (go_at_call 60; refine (HLEAF.out _ (below_alloc HB3.out _)).mono ?_; rintro e w4 ⟨rfl, hb4⟩; have HB4 := Aside0.mk (below_then (below_alloc HB3.out _) (below_alloc HB3.out _).size hb4); clear hb4))
      exact ⟨⟨k + 1, by omega, by go_num, HB4⟩, by simp [intOf]; omega⟩
    · obtain rfl : k = l0_3.length := by omega
      go_wp2
      go_ret
      exact ⟨rfl, HB.out⟩

set_option maxHeartbeats 1000000 in
set_option maxRecDepth 100000 in
theorem chart_Get.nils (w : World) (c : Int) : Calls Try.prog 58 #[.pointer none, .int .i64 c] w fun e w' => e = .returned (.tuple #[.agg #[.int .i64 0, .int .i64 0, .int .u8 0, .string ⟨#[]⟩, .bool false], .int .i64 1]) ∧ Below w.heap.size w w' := by
  have hu := Try.underlying213
  have hua := Try.underlying121
  go_enter Try.func58, Try.ntmps58
  go_wp2_with (go_at_call 117; refine (chart_none.nils _).mono ?_; rintro e w1 ⟨rfl, rfl⟩)
  refine bodyPost_ret (results_ct rfl _ _ w.heap.size 121 #[.int .i64 0, .int .i64 0, .int .u8 0, .string ⟨#[]⟩, .bool false] (0, 0) _ rfl (World.alloc_heap_new w _) Try.underlying121 rfl info_acc) rfl ?_
  exact ⟨rfl, below_alloc (Below.refl _ _) _⟩

set_option maxHeartbeats 1000000 in
set_option maxRecDepth 100000 in
theorem journal_On.nils (w : World) (a0_0 a0_1 a0_2 : Int) (A : Option Addr) (n c : Nat) :
    Calls Try.prog 57 #[.pointer none, .agg #[.int .i64 a0_0, .int .u8 a0_1, .int .u64 a0_2, .slice A n c]] w fun e w' => e = .returned (.int .i64 1) ∧ Below w.heap.size w w' := by
  have hua := Try.underlying121
  have hue := Try.underlying32
  go_enter Try.func57, Try.ntmps57
  go_wp2_with (go_at_call 58; refine (chart_Get.nils _ _).mono ?_; rintro e w1 ⟨rfl, hb1⟩; have HB1 := Aside0.mk (over_box (w := w) (by simpa using hb1)); clear hb1)
  go_ret
  exact ⟨rfl, below_alloc HB1.out _⟩
end Go.Proofs.Ytaoejonkiikhmaa.G
