/- Texts of this claim put together: HOpenEntry. -/
import Derived.Test.YtaoejonkiikhmaaMTUas
import Derived.Test.YtaoejonkiikhmaaMTUar

/- What comes in as an entry: opened. -/
namespace Go.Proofs.Ytaoejonkiikhmaa.G
open Go.RowKit Go.Proofs.YtaoejonkiikhmaaW.PrintWords Go.Proofs.YtaoejonkiikhmaaW.PrintLast Go.Proofs.YtaoejonkiikhmaaW.PrintMore
open Go.ChangeShapes Go.WideShapes Go.Deep
set_option linter.unusedVariables false
set_option linter.unusedSimpArgs false

theorem lit_u8 {n : Int} : (Lit.int .u8 n).wf = true ↔ 0 ≤ n ∧ n ≤ 255 := by
  constructor
  · intro h
    simp [Lit.wf, IntKind.min, IntKind.max, IntKind.signed, IntKind.bits] at h
    omega
  · exact WalkArith.wf_u8
theorem opens_entry : Opens Try.prog k32 32 okE := by
  refine opens_imp (opens_iso (f := fun x : S32 => (x.f0, x.f1, x.f2, x.f3)) (opens_struct Try.underlying32 (by kernel_rfl)
    (opensAt_cons (opens_int .i64 Try.underlying3) rfl (by kernel_rfl) (opensAt_cons (opens_int .u8 Try.underlying5) rfl (by kernel_rfl) (opensAt_cons (opens_int .u64 Try.underlying22) rfl (by kernel_rfl) (opensAt_one opens_lines rfl (by kernel_rfl))))))
    (ok' := fun x => (Lit.int .i64 x.f0).wf && ((Lit.int .u8 x.f1).wf && ((Lit.int .u64 x.f2).wf && (decide (x.f3.length ≤ maxLen) && x.f3.all okL)))) (fun p => ⟨p.1, p.2.1, p.2.2.1, p.2.2.2⟩) (fun _ => rfl) (fun _ => rfl)) (fun x h => ?_)
  simp only [Bool.and_eq_true] at h
  obtain ⟨h0, h1, h2, _, h3⟩ := h
  rw [okE_iff]
  exact ⟨⟨lit_i64.1 h0, lit_u8.1 h1, lit_u64.1 h2⟩, h3⟩
end Go.Proofs.Ytaoejonkiikhmaa.G
