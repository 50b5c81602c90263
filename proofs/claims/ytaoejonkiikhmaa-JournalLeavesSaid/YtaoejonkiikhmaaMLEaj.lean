/- Texts of this claim put together: HAhead. -/
import Derived.Test.YtaoejonkiikhmaaMLEaa
import Derived.Shelf.SlSortCmp.InsertionK
import Derived.Deep.DrawnRows
import Derived.Deep.RegionHeld3

/- journal.ahead: what it returns, and that it only draws and makes blocks (as slices.SortFunc's contract asks of it). -/
namespace Go.Proofs.Ytaoejonkiikhmaa.G
open Go.RowKit Go.Proofs.YtaoejonkiikhmaaW.PrintWords Go.Proofs.YtaoejonkiikhmaaW.PrintLast Go.Proofs.YtaoejonkiikhmaaW.PrintMore
open Go.Sort
set_option linter.unusedVariables false
set_option linter.unusedSimpArgs false

/-- w' is w after some draws, with some blocks behind it. -/
def Grew (w w' : World) : Prop := ∃ q os, w' = grow (w.drewN q) os
theorem Grew.refl (w : World) : Grew w w := ⟨0, #[], by simp [World.drewN]⟩
theorem Grew.alloc {w w' : World} (h : Grew w w') (o : Obj) : Grew w (w'.alloc o) := by
  obtain ⟨q, os, rfl⟩ := h
  exact ⟨q, os ++ #[o], by rw [alloc_eq_grow, grow_grow]⟩
theorem Grew.drewN {w w' : World} (h : Grew w w') (n : Nat) : Grew w (w'.drewN n) := by
  obtain ⟨q, os, rfl⟩ := h
  exact ⟨q + n, os, by rw [← World.drewN_drewN]; rfl⟩
theorem Grew.drew {w w' : World} (h : Grew w w') : Grew w w'.drew := h.drewN 1

theorem C_three (W : World) (x y z : Int) (e : TypeId) (g : Nat) (hg : g = W.heap.size) : Kd.C (Kd.int .i64) (W.alloc (.cells #[.int .i64 x, .int .i64 y, .int .i64 z] e)) (some ⟨g, 0, none⟩) ([x, y, z] : List Int).length [x, y, z] := by
  subst hg
  refine Kd.C_of_reads (enc := Value.int .i64) (d := (0 : Int)) (h1 := fun _ => rfl) ⟨rfl, by simp, fun _ => ⟨_, rfl, fun j hj => ?_⟩⟩
  match j, hj with
  | 0, _ => simp [Addr.add]
  | 1, _ => simp [Addr.add]
  | 2, _ => simp [Addr.add]

attribute [local go_sem ↓] Go.wp_at_zero Go.wp_at_succ
set_option maxHeartbeats 2000000 in
set_option maxRecDepth 100000 in
theorem ahead_grew (k : Nat) (a0 a1 a2 a3 b0 b1 b2 b3 r t1 t2 : Int) (w : World) (h1 : cmp_Compare_uint64.f a1 b1 = some t1) (h2 : cmp_Compare_uint64.f a2 b2 = some t2) (h3 : journal_order.f k [wrap64 (a0 - b0), t1, t2] = some r) :
    Calls Try.prog 109 #[.agg #[.int .i64 a0, .int .u64 a1, .int .u64 a2, .int .i64 a3], .agg #[.int .i64 b0, .int .u64 b1, .int .u64 b2, .int .i64 b3]] w fun e w' => e = .returned (.int .i64 r) ∧ Grew w w' := by
  have hu := Try.underlying113
  have c1 := fun W => cmp_Compare_uint64.calls a1 b1 t1 W h1
  have c2 := fun W => cmp_Compare_uint64.calls a2 b2 t2 W h2
  have C1 := Aside0.mk c1
  have C2 := Aside0.mk c2
  have H3 := Aside0.mk (show journal_order.f k [IntKind.i64.wrap (a0 - b0), t1, t2] = some r by rw [i64_w]; exact h3)
  clear c1 c2 h1 h2 h3
  go_enter Try.func109, Try.ntmps109
  go_wp2
  go_region_held3 (fun w' => w'.cell? ⟨w.heap.size, 0, none⟩ = some (.int .i64 a0) ∧ w'.cell? ⟨w.heap.size, 1, none⟩ = some (.int .u64 a1) ∧ w'.cell? ⟨w.heap.size, 2, none⟩ = some (.int .u64 a2) ∧ w'.cell? ⟨w.heap.size + 1, 0, none⟩ = some (.int .i64 b0) ∧ w'.cell? ⟨w.heap.size + 1, 1, none⟩ = some (.int .u64 b1) ∧ w'.cell? ⟨w.heap.size + 1, 2, none⟩ = some (.int .u64 b2))
    (go_keep)
    (first | (go_at_call 89; (with_reducible first | refine (C1.out _).mono ?_ | refine (C2.out _).mono ?_); rintro e w' ⟨rfl, ⟨⟨n, rfl⟩⟩⟩) | (go_at_call 164; refine (journal_order.calls k (some ⟨w.heap.size + 1 + 1, 0, none⟩) 3 [IntKind.i64.wrap (a0 - b0), t1, t2] r _ (C_three _ _ _ _ _ _ (by simp)) (by simp) H3.out).mono ?_; rintro e w' ⟨rfl, ⟨⟨n, rfl⟩⟩⟩))
  go_wp2
  go_ret
  exact ⟨rfl, by repeat (first | exact Grew.refl _ | apply Grew.drewN | apply Grew.drew | apply Grew.alloc)⟩
end Go.Proofs.Ytaoejonkiikhmaa.G
