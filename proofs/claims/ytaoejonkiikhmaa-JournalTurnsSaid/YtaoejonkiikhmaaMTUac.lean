/- Texts of this claim put together: HChartMap. -/
import Derived.Test.YtaoejonkiikhmaaMTUaa
import Derived.Maps.OwnSet
import Derived.Maps.OwnOps
import Derived.Maps.Views

/- A chart of accounts: what its map holds; making one, looking into one. -/
namespace Go.Proofs.Ytaoejonkiikhmaa.G
open Go.RowKit Go.Proofs.YtaoejonkiikhmaaW.PrintWords Go.Proofs.YtaoejonkiikhmaaW.PrintLast Go.Proofs.YtaoejonkiikhmaaW.PrintMore
open Go.Maps
set_option linter.unusedVariables false
set_option linter.unusedSimpArgs false
set_option linter.unusedSectionVars false

abbrev Acc := S121
def accV (a : Acc) : Value := .agg #[.int .i64 a.f0, .int .i64 a.f1, .int .u8 a.f2, .string a.f3, .bool a.f4]
def RA : Value → Option (DataW Value × List MemPlace) := fun v => some (.held v, [])
theorem RA_inv {v x : Value} {ps : List MemPlace} (h : RA v = some (.held x, ps)) : v = x := by
  simp only [RA, Option.some.injEq, Prod.mk.injEq, DataW.held.injEq] at h
  exact h.1
def clit (c : Int) : Lit := .int .i64 c
def addD (D : DataW Value) (a : Acc) : DataW Value := D.put (clit a.f0) (.held (accV a))
def chD (l : List Acc) : DataW Value := l.foldl addD (.map [])
theorem chD_nil : chD [] = .map [] := rfl
theorem chD_snoc (l : List Acc) (a : Acc) : chD (l ++ [a]) = addD (chD l) a := by simp [chD]
theorem clit_key (c : Int) : WideAt.IsKeyLit (clit c) := by
  first | exact trivial | simp [WideAt.IsKeyLit, clit]
theorem clit_inj {a b : Int} (h : clit a = clit b) : a = b := by
  injection h
def hasC (l : List Acc) (c : Int) : Bool := l.any fun a => a.f0 == c
def lookC (l : List Acc) (c : Int) : Acc := (l.reverse.find? fun a => a.f0 == c).getD z121
theorem isMap_fold (l : List Acc) : ∀ D, IsMap D → IsMap (l.foldl addD D) := by
  induction l with
  | nil => intro D h; exact h
  | cons a r ih => intro D h; exact ih _ (IsMap.put h _ _)
theorem chD_isMap (l : List Acc) : IsMap (chD l) := isMap_fold l _ isMap_empty
theorem chD_has (r : List Acc) (c : Int) : Maps.has (chD r.reverse) (clit c) = hasC r.reverse c := by
  induction r with
  | nil => rfl
  | cons a r ih =>
    rw [List.reverse_cons, chD_snoc]
    unfold addD hasC
    rw [List.any_append]
    by_cases h : a.f0 = c
    · subst h
      rw [has_put_same (chD_isMap _) (clit_key _)]
      simp
    · rw [has_put_other (fun e => h (clit_inj e).symm), ih]
      simp [hasC, h]
theorem chD_at (r : List Acc) (c : Int) : (chD r.reverse).atKey (clit c) (.held (accV z121)) = .held (accV (lookC r.reverse c)) := by
  induction r with
  | nil => rfl
  | cons a r ih =>
    rw [List.reverse_cons, chD_snoc]
    unfold addD lookC
    rw [List.reverse_append]
    by_cases h : a.f0 = c
    · subst h
      rw [atKey_put_same (chD_isMap _) (clit_key _)]
      simp
    · rw [atKey_put_other (fun e => h (clit_inj e).symm), ih]
      simp [lookC, h]

theorem chD_has' (l : List Acc) (c : Int) : Maps.has (chD l) (clit c) = hasC l c := by
  have := chD_has l.reverse c
  rwa [List.reverse_reverse] at this
theorem chD_at' (l : List Acc) (c : Int) : (chD l).atKey (clit c) (.held (accV z121)) = .held (accV (lookC l c)) := by
  have := chD_at l.reverse c
  rwa [List.reverse_reverse] at this
theorem ch_law : Keyed Try.prog 3 := int_keyed Try.underlying3
theorem ch_zero (w : World) : (zeroValue 121).run Try.prog w = .ok (accV z121) w := by kernel_rfl
def ChartAt (w : World) (cb mb : Nat) (l : List Acc) : Prop :=
  w.heap[cb]? = some (.cells #[.map (some mb)] 213 (0, 0)) ∧ w.ownsMap Try.prog 3 RA mb l.length (chD l)
theorem ChartAt.below {w w' : World} {cb mb : Nat} {l : List Acc} (h : ChartAt w cb mb l) (hb : Below w.heap.size w w') : ChartAt w' cb mb l :=
  ⟨(hb.block _ (Array.getElem?_eq_some_iff.1 h.1).1).trans h.1, h.2.kept (grown_of_below hb none) (by simp)⟩
theorem ChartAt.cell {w : World} {cb mb : Nat} {l : List Acc} (h : ChartAt w cb mb l) : w.cell? ⟨cb, 0, none⟩ = some (.map (some mb)) := cell_of_one h.1
theorem ChartAt.look {w : World} {cb mb : Nat} {l : List Acc} (h : ChartAt w cb mb l) {c : Int} (hc : (Lit.int .i64 c).wf = true) :
    (Instr.lookup 211 (.map (some mb)) (.int .i64 c) true).run Try.prog w = .ok (.tuple #[accV (lookC l c), .bool (hasC l c)]) w := by
  obtain ⟨v, ps, hr, hv⟩ := h.2.look_ok ch_law Try.underlying211 (ch_zero w) (show RA _ = some (.held (accV z121), []) from rfl) (keyOf_int_mk Try.underlying3 hc)
  rw [show (Lit.int .i64 c) = clit c from rfl, chD_at'] at hv
  rw [RA_inv hv] at hr
  rw [show (Lit.int .i64 c) = clit c from rfl, chD_has'] at hr
  exact hr
theorem ChartAt.look1 {w : World} {cb mb : Nat} {l : List Acc} (h : ChartAt w cb mb l) {c : Int} (hc : (Lit.int .i64 c).wf = true) :
    (Instr.lookup 211 (.map (some mb)) (.int .i64 c) false).run Try.prog w = .ok (accV (lookC l c)) w := by
  obtain ⟨v, ps, hr, hv⟩ := h.2.lookup ch_law Try.underlying211 (ch_zero w) (show RA _ = some (.held (accV z121), []) from rfl) (keyOf_int_mk Try.underlying3 hc)
  rw [show (Lit.int .i64 c) = clit c from rfl, chD_at'] at hv
  rw [RA_inv hv] at hr
  exact hr
theorem ChartAt.put {w : World} {cb mb : Nat} {l : List Acc} (h : ChartAt w cb mb l) {a : Acc} (hc : (Lit.int .i64 a.f0).wf = true) (hl : l.length < maxLen) :
    ∃ w', (Instr.mapUpdate 211 (.map (some mb)) (.int .i64 a.f0) (accV a)).run Try.prog w = .ok () w' ∧ ChartAt w' cb mb (l ++ [a]) ∧ w.grownBy w' (some mb) := by
  obtain ⟨w', hr, ho, hg⟩ := h.2.update ch_law Try.underlying211 hl (keyOf_int_mk Try.underlying3 hc) (show RA (accV a) = some (.held (accV a), []) from rfl)
  refine ⟨w', hr, ⟨?_, ?_⟩, hg⟩
  · refine (hg.block cb (Array.getElem?_eq_some_iff.1 h.1).1 ?_).trans h.1
    intro e
    cases e
    obtain ⟨es, cl, hm, _⟩ := h.2
    rw [h.1] at hm
    cases hm
  · rw [chD_snoc, List.length_append]
    exact ho
end Go.Proofs.Ytaoejonkiikhmaa.G
