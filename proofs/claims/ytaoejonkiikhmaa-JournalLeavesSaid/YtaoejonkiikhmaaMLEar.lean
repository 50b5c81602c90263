/- Texts of this claim put together: HOpenEntry, HOpenAcc. -/
import Derived.Test.YtaoejonkiikhmaaMLEaq
import Derived.Test.YtaoejonkiikhmaaMLEap
import Derived.Test.YtaoejonkiikhmaaMLEao

/- What comes in as an entry: opened. -/
namespace Go.Proofs.Ytaoejonkiikhmaa.G
open Go.RowKit Go.Proofs.YtaoejonkiikhmaaW.PrintWords Go.Proofs.YtaoejonkiikhmaaW.PrintLast Go.Proofs.YtaoejonkiikhmaaW.PrintMore
open Go.ChangeShapes Go.WideShapes Go.Deep
set_option linter.unusedVariables false
set_option linter.unusedSimpArgs false

theorem lit_u8 {n : Int} : (Lit.int .u8 n).wf = true ↔ 0 ≤ n ∧ n ≤ 255 := by
  constructor
  · intro h
    simp [Lit.wf, IntKind.min, IntKind.max, IntKind.signed, IntKind.bits] at h
    omega
  · exact WalkArith.wf_u8
theorem opens_entry : Opens Try.prog k32 32 okE := by
  refine opens_imp (opens_iso (f := fun x : S32 => (x.f0, x.f1, x.f2, x.f3)) (opens_struct Try.underlying32 (by kernel_rfl)
    (opensAt_cons (opens_int .i64 Try.underlying3) rfl (by kernel_rfl) (opensAt_cons (opens_int .u8 Try.underlying5) rfl (by kernel_rfl) (opensAt_cons (opens_int .u64 Try.underlying22) rfl (by kernel_rfl) (opensAt_one opens_lines rfl (by kernel_rfl))))))
    (ok' := fun x => (Lit.int .i64 x.f0).wf && ((Lit.int .u8 x.f1).wf && ((Lit.int .u64 x.f2).wf && (decide (x.f3.length ≤ maxLen) && x.f3.all okL)))) (fun p => ⟨p.1, p.2.1, p.2.2.1, p.2.2.2⟩) (fun _ => rfl) (fun _ => rfl)) (fun x h => ?_)
  simp only [Bool.and_eq_true] at h
  obtain ⟨h0, h1, h2, _, h3⟩ := h
  rw [okE_iff]
  exact ⟨⟨lit_i64.1 h0, lit_u8.1 h1, lit_u64.1 h2⟩, h3⟩
end Go.Proofs.Ytaoejonkiikhmaa.G

/- What comes in as a slice of accounts: opened. -/
namespace Go.Proofs.Ytaoejonkiikhmaa.G
open Go.RowKit Go.Proofs.YtaoejonkiikhmaaW.PrintWords Go.Proofs.YtaoejonkiikhmaaW.PrintLast Go.Proofs.YtaoejonkiikhmaaW.PrintMore
open Go.ChangeShapes Go.WideShapes Go.Deep
set_option linter.unusedVariables false
set_option linter.unusedSimpArgs false

def okAccS (a : Acc) : Bool := okAcc a && decide (a.f3.size ≤ maxLen)
theorem okAccS_all {l : List Acc} (h : l.all okAccS = true) : l.all okAcc = true ∧ ∀ a ∈ l, a.f3.size ≤ 9223372036854775807 := by
  rw [List.all_eq_true] at h
  refine ⟨List.all_eq_true.2 (fun a ha => ?_), fun a ha => ?_⟩
  · have := h a ha
    simp only [okAccS, Bool.and_eq_true] at this
    exact this.1
  · have := h a ha
    simp only [okAccS, Bool.and_eq_true, decide_eq_true_eq] at this
    have h2 := this.2
    unfold maxLen at h2
    omega
theorem opens_account : Opens Try.prog k121 121 okAccS := by
  refine opens_imp (opens_iso (f := fun x : S121 => (x.f0, x.f1, x.f2, x.f3, x.f4)) (opens_struct Try.underlying121 (by kernel_rfl)
    (opensAt_cons (opens_int .i64 Try.underlying3) rfl (by kernel_rfl) (opensAt_cons (opens_int .i64 Try.underlying3) rfl (by kernel_rfl) (opensAt_cons (opens_int .u8 Try.underlying5) rfl (by kernel_rfl) (opensAt_cons (opens_string Try.underlying9) rfl (by kernel_rfl) (opensAt_one (opens_bool Try.underlying4) rfl (by kernel_rfl)))))))
    (ok' := fun x => (Lit.int .i64 x.f0).wf && ((Lit.int .i64 x.f1).wf && ((Lit.int .u8 x.f2).wf && (decide (x.f3.size ≤ maxLen) && true)))) (fun p => ⟨p.1, p.2.1, p.2.2.1, p.2.2.2.1, p.2.2.2.2⟩) (fun _ => rfl) (fun _ => rfl)) (fun x h => ?_)
  simp only [Bool.and_eq_true, Bool.and_true] at h
  obtain ⟨h0, h1, h2, h3⟩ := h
  simp only [okAccS, okAcc, Bool.and_eq_true]
  exact ⟨⟨⟨(i64ok_iff _).2 (lit_i64.1 h0), (i64ok_iff _).2 (lit_i64.1 h1)⟩, decide_eq_true (lit_u8.1 h2)⟩, h3⟩
theorem opens_accounts : Opens Try.prog (Kd.slice 121 k121) 116 (fun l => decide (l.length ≤ maxLen) && l.all okAccS) :=
  opens_slice Try.underlying116 (by kernel_rfl) opens_account
end Go.Proofs.Ytaoejonkiikhmaa.G
