/- Texts of this claim put together: HOpen, HOpenLine. -/
import Derived.Test.YtaoejonkiikhmaaMLEaa
import Derived.Deep.Slices
import Derived.ChangeSame

/- What comes in, opened to what the contracts speak of: numbers, texts, structs, slices of them, of any depth. -/
namespace Go.Proofs.Ytaoejonkiikhmaa.G
open Go.RowKit Go.Proofs.YtaoejonkiikhmaaW.PrintWords Go.Proofs.YtaoejonkiikhmaaW.PrintLast Go.Proofs.YtaoejonkiikhmaaW.PrintMore
open Go.ChangeShapes Go.WideShapes Go.Deep
set_option linter.unusedVariables false
set_option linter.unusedSimpArgs false

/-- Whatever reads at type t is one of the kind d, and ok. -/
def Opens {α : Type} (P : Program) (d : Kd α) (t : TypeId) (ok : α → Bool) : Prop :=
  ∀ (H : Type) (enc : TypeId × Value → H) (w : World) (base : Nat) (sp : Nat → Bool) (held : Bool) (fuel : Nat) (cs : List Value) (x : DataW H × List MemPlace),
    DataW.trod enc P w base sp held fuel t cs = some x → ∃ a, d.K w a cs ∧ ok a = true
def OpensAt {α : Type} (P : Program) (d : Kd α) (off : Nat) (fs : List Field) (ok : α → Bool) : Prop :=
  ∀ (H : Type) (enc : TypeId × Value → H) (w : World) (base : Nat) (sp : Nat → Bool) (held : Bool) (n : Nat) (cs : List Value), cs.length = off + d.sz →
    (∀ f ∈ fs, ∃ y, DataW.trod enc P w base sp held n f.type ((cs.drop f.offset).take (P.cellsOf f.type)) = some y) → ∃ a, d.K w a (cs.drop off) ∧ ok a = true

theorem opens_int {P : Program} {t : TypeId} (k : IntKind) (ht : P.underlying t = some (.int k)) : Opens P (Kd.int k) t (fun n => (Lit.int k n).wf) := by
  intro H enc w base sp held fuel cs x h
  obtain ⟨n, rfl, _, hw⟩ := DataW.trod_int ht h
  exact ⟨n, rfl, hw⟩
theorem opens_string {P : Program} {t : TypeId} (ht : P.underlying t = some .string) : Opens P Kd.string t (fun s => decide (s.size ≤ maxLen)) := by
  intro H enc w base sp held fuel cs x h
  obtain ⟨s, rfl, _, hw⟩ := DataW.trod_string ht h
  exact ⟨s, rfl, decide_eq_true hw⟩
theorem opens_bool {P : Program} {t : TypeId} (ht : P.underlying t = some .bool) : Opens P Kd.bool t (fun _ => true) := by
  intro H enc w base sp held fuel cs x h
  obtain ⟨b, rfl, _⟩ := DataW.trod_bool ht h
  exact ⟨b, rfl, rfl⟩
theorem opensAt_one {α : Type} {P : Program} {d : Kd α} {off : Nat} {f : Field} {ok : α → Bool} (h : Opens P d f.type ok) (ho : f.offset = off) (hs : P.cellsOf f.type = d.sz) : OpensAt P d off [f] ok := by
  intro H enc w base sp held n cs hl hf
  obtain ⟨y, hy⟩ := hf f (by simp)
  rw [ho, hs, List.take_of_length_le (by rw [List.length_drop]; omega)] at hy
  exact h H enc w base sp held n _ y hy
theorem opensAt_cons {α β : Type} {P : Program} {a : Kd α} {b : Kd β} {off : Nat} {f : Field} {fs : List Field} {ok1 : α → Bool} {ok2 : β → Bool} (h : Opens P a f.type ok1) (ho : f.offset = off) (hs : P.cellsOf f.type = a.sz)
    (h2 : OpensAt P b (off + a.sz) fs ok2) : OpensAt P (Kd.pair a b) off (f :: fs) (fun p => ok1 p.1 && ok2 p.2) := by
  intro H enc w base sp held n cs hl hf
  have hl' : cs.length = off + (a.sz + b.sz) := hl
  obtain ⟨y, hy⟩ := hf f (by simp)
  rw [ho, hs] at hy
  obtain ⟨x1, k1, o1⟩ := h H enc w base sp held n _ y hy
  obtain ⟨x2, k2, o2⟩ := h2 H enc w base sp held n cs (by omega) (fun g hg => hf g (by simp [hg]))
  refine ⟨(x1, x2), ⟨_, _, ?_, k1, k2⟩, by simp [o1, o2]⟩
  rw [← List.drop_drop, List.take_append_drop]
theorem opens_struct {α : Type} {P : Program} {d : Kd α} {t : TypeId} {fs : Array Field} {ok : α → Bool} (ht : P.underlying t = some (.struct fs)) (hs : P.cellsOf t = d.sz) (h : OpensAt P d 0 fs.toList ok) : Opens P d t ok := by
  intro H enc w base sp held fuel cs x hx
  obtain ⟨xs, n, rfl, _, hl, hxl, hf⟩ := DataW.trod_struct ht hx
  obtain ⟨a, k, o⟩ := h H enc w base sp held n cs (by omega) (fun f hf' => by
    obtain ⟨i, hi, he⟩ := List.mem_iff_getElem.1 hf'
    have hi' : i < fs.size := by simpa using hi
    have := hf i f (by rw [Array.getElem?_eq_getElem hi', ← he]; simp)
    rw [List.getElem?_eq_getElem (by omega)] at this
    exact ⟨_, this⟩)
  exact ⟨a, k, o⟩
theorem opens_iso {α β : Type} {P : Program} {d : Kd α} {t : TypeId} {f : β → α} {ok : α → Bool} {ok' : β → Bool} (h : Opens P d t ok) (g : α → β) (hg : ∀ a, f (g a) = a) (ho : ∀ a, ok' (g a) = ok a) : Opens P (Kd.iso d f) t ok' := by
  intro H enc w base sp held fuel cs x hx
  obtain ⟨a, k, o⟩ := h H enc w base sp held fuel cs x hx
  exact ⟨g a, show d.K w (f (g a)) cs by rw [hg]; exact k, by rw [ho]; exact o⟩
theorem list_of {α : Type} {Q : Nat → α → Prop} : ∀ n : Nat, (∀ i, i < n → ∃ a, Q i a) → ∃ l : List α, l.length = n ∧ ∀ i a, l[i]? = some a → Q i a
  | 0, _ => ⟨[], rfl, fun i a h => by simp at h⟩
  | n + 1, h => by
    obtain ⟨l, hl, hq⟩ := list_of n (fun i hi => h i (by omega))
    obtain ⟨a, ha⟩ := h n (by omega)
    refine ⟨l ++ [a], by simp [hl], fun i b hb => ?_⟩
    by_cases hi : i < n
    · rw [List.getElem?_append_left (by omega)] at hb
      exact hq i b hb
    · have hi2 : i = n := by
        have := (List.getElem?_eq_some_iff.1 hb).1
        simp [hl] at this
        omega
      subst hi2
      rw [List.getElem?_append_right (by omega), hl, Nat.sub_self] at hb
      simp at hb
      subst hb
      exact ha
theorem opens_slice {α : Type} {P : Program} {d : Kd α} {t e : TypeId} {ok : α → Bool} (ht : P.underlying t = some (.slice e)) (hs : P.cellsOf e = d.sz) (h : Opens P d e ok) : Opens P (Kd.slice e d) t (fun l => decide (l.length ≤ maxLen) && l.all ok) := by
  intro H enc w base sp held fuel cs x hx
  rcases open_slice ht hx with ⟨rfl, _⟩ | ⟨a, len, cap, m, n, D, Pl, rfl, _, hl, hc, hm, _, hi⟩
  · exact ⟨[], ⟨none, 0, rfl, Nat.le_refl _, by refine ⟨rfl, by simp, fun h0 => by simp at h0⟩⟩, by simp⟩
  · have hlm : len ≤ m := by rw [hm]; split <;> omega
    obtain ⟨l, hll, hq⟩ := list_of (Q := fun i (x : α) => ok x = true ∧ ∃ cs', w.cells? base (a.add (i * d.sz)) d.sz = some cs' ∧ d.K w x cs') len (fun i hil => by
      obtain ⟨cs', hc', ht'⟩ := hi i (by omega)
      obtain ⟨x, k, o⟩ := h H enc w base sp held n cs' _ ht'
      exact ⟨x, o, cs', by rw [← hs]; exact hc', k⟩)
    have hmx : maxLen ≤ 9223372036854775807 := by decide
    have hC : d.C w (some a) l.length l := by
      refine ⟨rfl, by omega, fun _ => ⟨a, rfl, fun j p hj => ?_⟩⟩
      obtain ⟨_, cs', hc', k⟩ := hq j p hj
      obtain ⟨_, hcl, hat⟩ := World.cells?_some hc'
      refine ⟨cs', hcl, k, fun i u hu => ?_⟩
      have hi' := (List.getElem?_eq_some_iff.1 hu).1
      have := hat i (by omega)
      rw [hu, Go.Deep.add_add] at this
      exact this
    refine ⟨l, ⟨some a, cap, by rw [hll], by omega, hC⟩, ?_⟩
    simp only [Bool.and_eq_true, decide_eq_true_eq, List.all_eq_true]
    refine ⟨by omega, fun y hy => ?_⟩
    obtain ⟨i, hi', he⟩ := List.mem_iff_getElem.1 hy
    exact (hq i y (by rw [List.getElem?_eq_getElem hi', he])).1
end Go.Proofs.Ytaoejonkiikhmaa.G

/- What comes in as a slice of lines, as an entry: opened. -/
namespace Go.Proofs.Ytaoejonkiikhmaa.G
open Go.RowKit Go.Proofs.YtaoejonkiikhmaaW.PrintWords Go.Proofs.YtaoejonkiikhmaaW.PrintLast Go.Proofs.YtaoejonkiikhmaaW.PrintMore
open Go.ChangeShapes Go.WideShapes Go.Deep
set_option linter.unusedVariables false
set_option linter.unusedSimpArgs false

theorem opens_imp {α : Type} {P : Program} {d : Kd α} {t : TypeId} {ok ok' : α → Bool} (h : Opens P d t ok) (hi : ∀ a, ok a = true → ok' a = true) : Opens P d t ok' := by
  intro H enc w base sp held fuel cs x hx
  obtain ⟨a, k, o⟩ := h H enc w base sp held fuel cs x hx
  exact ⟨a, k, hi a o⟩
theorem lit_i64 {n : Int} : (Lit.int .i64 n).wf = true ↔ -9223372036854775808 ≤ n ∧ n ≤ 9223372036854775807 := by
  constructor
  · intro h
    simp [Lit.wf, IntKind.min, IntKind.max, IntKind.signed, IntKind.bits] at h
    omega
  · exact WalkArith.wf_i64
theorem lit_u64 {n : Int} : (Lit.int .u64 n).wf = true ↔ 0 ≤ n ∧ n ≤ 18446744073709551615 := by
  constructor
  · intro h
    simp [Lit.wf, IntKind.min, IntKind.max, IntKind.signed, IntKind.bits] at h
    omega
  · exact WalkArith.wf_u64
theorem opens_line : Opens Try.prog k113 113 okL := by
  refine opens_imp (opens_iso (f := fun x : S113 => (x.f0, x.f1, x.f2, x.f3)) (opens_struct Try.underlying113 (by kernel_rfl)
    (opensAt_cons (opens_int .i64 Try.underlying3) rfl (by kernel_rfl) (opensAt_cons (opens_int .u64 Try.underlying22) rfl (by kernel_rfl) (opensAt_cons (opens_int .u64 Try.underlying22) rfl (by kernel_rfl) (opensAt_one (opens_int .i64 Try.underlying2) rfl (by kernel_rfl))))))
    (ok' := fun x => (Lit.int .i64 x.f0).wf && ((Lit.int .u64 x.f1).wf && ((Lit.int .u64 x.f2).wf && (Lit.int .i64 x.f3).wf))) (fun p => ⟨p.1, p.2.1, p.2.2.1, p.2.2.2⟩) (fun _ => rfl) (fun _ => rfl)) (fun x h => ?_)
  simp only [Bool.and_eq_true] at h
  obtain ⟨h0, h1, h2, h3⟩ := h
  rw [okL_iff]
  exact ⟨lit_i64.1 h0, lit_u64.1 h1, lit_u64.1 h2, lit_i64.1 h3⟩
theorem opens_lines : Opens Try.prog (Kd.slice 113 k113) 30 (fun l => decide (l.length ≤ maxLen) && l.all okL) :=
  opens_slice Try.underlying30 (by kernel_rfl) opens_line
end Go.Proofs.Ytaoejonkiikhmaa.G
