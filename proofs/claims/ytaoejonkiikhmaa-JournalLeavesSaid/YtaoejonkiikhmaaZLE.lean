/- JournalLeaves: an entry may be posted on a chart just if it may be and each of its accounts is an open leaf there; under no condition: of every entry and all accounts that can be read. -/
import Derived.Test.YtaoejonkiikhmaaRows
import Derived.Test.YtaoejonkiikhmaaMLEap
import Derived.Test.YtaoejonkiikhmaaMLEar
import Derived.WalkKit
import Derived.ProofKit
import Derived.OpenShut
import Derived.ShutString
import Derived.ChangeOld
import Derived.Below
import Derived.SizedLaws
import Derived.JoinedOf
namespace Go.Proofs.Ytaoejonkiikhmaa.journalLeaves
open Go.ChangeShapes Go.WideShapes Go.ChangeAt Go.RowKit
open Go.ChangeMaps (open_string shut_string)
open Go.Proofs.YtaoejonkiikhmaaW.PrintWords
set_option linter.unusedVariables false
theorem own : ownKnob Try.prog.godebug = none := by kernel_rfl
theorem laidOut : laidOutB Try.prog = true := by kernel_rfl
set_option maxRecDepth 100000 in
theorem lifted (os : Os) (started : os.Started) (H : Type) (enc : TypeId × Value → H) :
    ReturnsInHanded {} Try.checked os 12 .any (Rows.journalLeavesSpec.pre6 enc Try.prog Try.f12 Rows.journalLeavesRow.domain false) (Rows.journalLeavesSpec.post enc Try.prog Try.f12 false true false false) := by
  refine returnsInHanded_of_change_sized (C := Try.checked) own started (by kernel_rfl) Try.func12
    (ChangeSpec.witness6 (enc := enc) (C := Try.checked) false ⟨#[], #[.agg #[.int .i64 0, .int .u8 0, .int .u64 0, .slice none 0 0], .slice none 0 0], []⟩ 8 (by kernel_rfl) (by kernel_rfl) (by kernel_rfl) (by kernel_rfl)) ?_
  intro W base args ds gs before hval0 hW hcnd hsz0 _
  have hsz : (DataW.weightsEach Try.prog (Try.f12.params.toList ++ Rows.journalLeavesSpec.plain.varTypes Try.prog) (ds ++ gs)).all (· ≤ reachBytes) = true := hsz0
  have hval : ∀ (j : Nat) t v, Try.f12.params[j]? = some t → args[j]? = some v → Value.okWide Try.prog W .any base t v := hval0
  have hW' := hW
  obtain ⟨p, q, hA0, hV, rfl, hfz, hnd⟩ := hW
  have hA : DataW.TrodAll enc Try.prog W 0 (fun _ => true) true Try.f12.params.toList args.toList ds p := hA0
  rw [Try.params12] at hA hval hsz
  obtain ⟨v0, vs0, d0, ds0, p0, q0, hargs, rfl, rfl, h0, r0⟩ := trodAll_cons hA
  obtain ⟨v1, vs1, d1, ds1, p1, q1, rfl, rfl, rfl, h1, r1⟩ := trodAll_cons r0
  obtain ⟨rfl, rfl, rfl⟩ := trodAll_nil r1
  obtain rfl : args = #[v0, v1] := by cases args; simp_all
  obtain ⟨rfl, rfl⟩ := trodVars_none hV
  obtain ⟨cs0, rfl, hn0⟩ := okWide_struct Try.underlying32 (hval 0 32 v0 rfl rfl)
  have k0 := h0
  have lt0 : ∀ x ∈ p0, x.block < W.heap.size := by obtain ⟨m, hm⟩ := k0; exact DataW.trod_lt m _ _ _ hm
  obtain ⟨fuel0, hf0⟩ := h0
  obtain ⟨e0, kk0, ok0⟩ := G.opens_entry H enc W _ _ _ _ _ _ hf0
  obtain ⟨A0, c0, hcs0, hc0, hC0⟩ := G.k32_open kk0
  simp [Value.cells] at hcs0
  have hcs0' : cs0 = #[.int .i64 e0.f0, .int .u8 e0.f1, .int .u64 e0.f2, .slice A0 e0.f3.length c0] := by first | exact hcs0 | (cases cs0; simp_all)
  subst hcs0'
  obtain ⟨a1, len1, cap1, rfl⟩ := okWide_slice Try.underlying116 (hval 1 116 v1 rfl rfl)
  have k1 := h1
  have lt1 : ∀ x ∈ p1, x.block < W.heap.size := by obtain ⟨m, hm⟩ := k1; exact DataW.trod_lt m _ _ _ hm
  obtain ⟨fuel1, hf1⟩ := h1
  obtain ⟨l1, ⟨A1, c1, hcs1, hc1, hC1⟩, ok1⟩ := G.opens_accounts H enc W _ _ _ _ _ _ hf1
  simp [Value.cells] at hcs1
  obtain ⟨rfl, rfl, rfl⟩ := hcs1
  rw [Bool.and_eq_true] at ok1
  clear hA0 hval0 hsz0 hsz
  refine (G.quittancelaw20_JournalLeaves.run e0 A0 c0 l1 a1 cap1 W hC0 hc0 hC1 hc1 ok0 (G.okAccS_all ok1.2).1 (G.okAccS_all ok1.2).2).mono fun e W' ⟨he, bel⟩ => ?_
  subst he
  exact ⟨_, rfl, _, _, _, [], _, [], hW', trodAll_mk1 (shut_bool Try.underlying4 _), (trodAll_cons_mk (Below.trod laidOut (by kernel_rfl) (of_decide_eq_true (by kernel_rfl)) k0 bel lt0) (trodAll_cons_mk (Below.trod laidOut (by kernel_rfl) (of_decide_eq_true (by kernel_rfl)) k1 bel lt1) trodAll_mk0)), rfl, bel.frame _, fun h => by cases h⟩
set_option maxHeartbeats 20000000 in
theorem closed : joinedFacts Try.prog 12 Try.f12 Rows.journalLeavesSpec Rows.journalLeavesRow = true := by
  unfold joinedFacts
  repeat' (with_reducible (rw [Bool.and_eq_true]; refine ⟨?_, ?_⟩))
  all_goals as_aux_lemma => kernel_rfl
theorem named : Try.prog.funcNamed Rows.journalLeavesRow.func = some 12 := by kernel_rfl
theorem inst : Func.isInstance Try.prog Try.f12 Rows.journalLeavesRow.origin Rows.journalLeavesRow.targs := of_decide_eq_true (by kernel_rfl)
theorem wrapper : Func.isWrapper Try.prog Try.f12 Rows.journalLeavesRow.wrapper Rows.journalLeavesRow.mainSum := by unfold Func.isWrapper; first | (rw [if_pos (by decide +kernel)]; kernel_rfl) | (rw [if_neg (by decide +kernel)]; exact ⟨rfl, rfl⟩)
theorem over : Rows.journalLeavesRow.holds Try.pinned (OpenSpec.ofChange Rows.journalLeavesSpec) :=
  OpenClaim.holds_of_wide 12 Try.f12 rfl rfl rfl rfl rfl rfl rfl ⟨rfl, rfl, rfl, rfl, rfl⟩ rfl rfl rfl rfl rfl named Try.func12 closed inst wrapper
    (fun os started H enc _ => lifted os started H enc)
theorem proved : Rows.JournalLeavesSaid := over
#print axioms proved
end Go.Proofs.Ytaoejonkiikhmaa.journalLeaves
namespace Go.Proofs.Ytaoejonkiikhmaa
/-- The row, under a short name, for the claim. -/
theorem journalLeaves_holds : Rows.JournalLeavesSaid := journalLeaves.proved
end Go.Proofs.Ytaoejonkiikhmaa
