/- Texts of this claim put together: HChartMap, HChartGood. -/
import Derived.Test.YtaoejonkiikhmaaMLEaa
import Derived.Maps.OwnSet
import Derived.Maps.OwnOps
import Derived.Maps.Views

/- A chart of accounts: what its map holds; making one, looking into one. -/
namespace Go.Proofs.Ytaoejonkiikhmaa.G
open Go.RowKit Go.Proofs.YtaoejonkiikhmaaW.PrintWords Go.Proofs.YtaoejonkiikhmaaW.PrintLast Go.Proofs.YtaoejonkiikhmaaW.PrintMore
open Go.Maps
set_option linter.unusedVariables false
set_option linter.unusedSimpArgs false
set_option linter.unusedSectionVars false

abbrev Acc := S121
def accV (a : Acc) : Value := .agg #[.int .i64 a.f0, .int .i64 a.f1, .int .u8 a.f2, .string a.f3, .bool a.f4]
def RA : Value → Option (DataW Value × List MemPlace) := fun v => some (.held v, [])
theorem RA_inv {v x : Value} {ps : List MemPlace} (h : RA v = some (.held x, ps)) : v = x := by
  simp only [RA, Option.some.injEq, Prod.mk.injEq, DataW.held.injEq] at h
  exact h.1
def clit (c : Int) : Lit := .int .i64 c
def addD (D : DataW Value) (a : Acc) : DataW Value := D.put (clit a.f0) (.held (accV a))
def chD (l : List Acc) : DataW Value := l.foldl addD (.map [])
theorem chD_snoc (l : List Acc) (a : Acc) : chD (l ++ [a]) = addD (chD l) a := by simp [chD]
theorem clit_key (c : Int) : WideAt.IsKeyLit (clit c) := by
  first | exact trivial | simp [WideAt.IsKeyLit, clit]
theorem clit_inj {a b : Int} (h : clit a = clit b) : a = b := by
  injection h
def hasC (l : List Acc) (c : Int) : Bool := l.any fun a => a.f0 == c
def lookC (l : List Acc) (c : Int) : Acc := (l.reverse.find? fun a => a.f0 == c).getD z121
theorem isMap_fold (l : List Acc) : ∀ D, IsMap D → IsMap (l.foldl addD D) := by
  induction l with
  | nil => intro D h; exact h
  | cons a r ih => intro D h; exact ih _ (IsMap.put h _ _)
theorem chD_isMap (l : List Acc) : IsMap (chD l) := isMap_fold l _ isMap_empty
theorem chD_has (r : List Acc) (c : Int) : Maps.has (chD r.reverse) (clit c) = hasC r.reverse c := by
  induction r with
  | nil => rfl
  | cons a r ih =>
    rw [List.reverse_cons, chD_snoc]
    unfold addD hasC
    rw [List.any_append]
    by_cases h : a.f0 = c
    · subst h
      rw [has_put_same (chD_isMap _) (clit_key _)]
      simp
    · rw [has_put_other (fun e => h (clit_inj e).symm), ih]
      simp [hasC, h]
theorem chD_at (r : List Acc) (c : Int) : (chD r.reverse).atKey (clit c) (.held (accV z121)) = .held (accV (lookC r.reverse c)) := by
  induction r with
  | nil => rfl
  | cons a r ih =>
    rw [List.reverse_cons, chD_snoc]
    unfold addD lookC
    rw [List.reverse_append]
    by_cases h : a.f0 = c
    · subst h
      rw [atKey_put_same (chD_isMap _) (clit_key _)]
      simp
    · rw [atKey_put_other (fun e => h (clit_inj e).symm), ih]
      simp [lookC, h]

theorem chD_has' (l : List Acc) (c : Int) : Maps.has (chD l) (clit c) = hasC l c := by
  have := chD_has l.reverse c
  rwa [List.reverse_reverse] at this
theorem chD_at' (l : List Acc) (c : Int) : (chD l).atKey (clit c) (.held (accV z121)) = .held (accV (lookC l c)) := by
  have := chD_at l.reverse c
  rwa [List.reverse_reverse] at this
theorem ch_law : Keyed Try.prog 3 := int_keyed Try.underlying3
theorem ch_zero (w : World) : (zeroValue 121).run Try.prog w = .ok (accV z121) w := by kernel_rfl
def ChartAt (w : World) (cb mb : Nat) (l : List Acc) : Prop :=
  w.heap[cb]? = some (.cells #[.map (some mb)] 213 (0, 0)) ∧ w.ownsMap Try.prog 3 RA mb l.length (chD l)
theorem ChartAt.below {w w' : World} {cb mb : Nat} {l : List Acc} (h : ChartAt w cb mb l) (hb : Below w.heap.size w w') : ChartAt w' cb mb l :=
  ⟨(hb.block _ (Array.getElem?_eq_some_iff.1 h.1).1).trans h.1, h.2.kept (grown_of_below hb none) (by simp)⟩
theorem ChartAt.cell {w : World} {cb mb : Nat} {l : List Acc} (h : ChartAt w cb mb l) : w.cell? ⟨cb, 0, none⟩ = some (.map (some mb)) := cell_of_one h.1
theorem ChartAt.look {w : World} {cb mb : Nat} {l : List Acc} (h : ChartAt w cb mb l) {c : Int} (hc : (Lit.int .i64 c).wf = true) :
    (Instr.lookup 211 (.map (some mb)) (.int .i64 c) true).run Try.prog w = .ok (.tuple #[accV (lookC l c), .bool (hasC l c)]) w := by
  obtain ⟨v, ps, hr, hv⟩ := h.2.look_ok ch_law Try.underlying211 (ch_zero w) (show RA _ = some (.held (accV z121), []) from rfl) (keyOf_int_mk Try.underlying3 hc)
  rw [show (Lit.int .i64 c) = clit c from rfl, chD_at'] at hv
  rw [RA_inv hv] at hr
  rw [show (Lit.int .i64 c) = clit c from rfl, chD_has'] at hr
  exact hr
theorem ChartAt.look1 {w : World} {cb mb : Nat} {l : List Acc} (h : ChartAt w cb mb l) {c : Int} (hc : (Lit.int .i64 c).wf = true) :
    (Instr.lookup 211 (.map (some mb)) (.int .i64 c) false).run Try.prog w = .ok (accV (lookC l c)) w := by
  obtain ⟨v, ps, hr, hv⟩ := h.2.lookup ch_law Try.underlying211 (ch_zero w) (show RA _ = some (.held (accV z121), []) from rfl) (keyOf_int_mk Try.underlying3 hc)
  rw [show (Lit.int .i64 c) = clit c from rfl, chD_at'] at hv
  rw [RA_inv hv] at hr
  exact hr
theorem ChartAt.put {w : World} {cb mb : Nat} {l : List Acc} (h : ChartAt w cb mb l) {a : Acc} (hc : (Lit.int .i64 a.f0).wf = true) (hl : l.length < maxLen) :
    ∃ w', (Instr.mapUpdate 211 (.map (some mb)) (.int .i64 a.f0) (accV a)).run Try.prog w = .ok () w' ∧ ChartAt w' cb mb (l ++ [a]) ∧ w.grownBy w' (some mb) := by
  obtain ⟨w', hr, ho, hg⟩ := h.2.update ch_law Try.underlying211 hl (keyOf_int_mk Try.underlying3 hc) (show RA (accV a) = some (.held (accV a), []) from rfl)
  refine ⟨w', hr, ⟨?_, ?_⟩, hg⟩
  · refine (hg.block cb (Array.getElem?_eq_some_iff.1 h.1).1 ?_).trans h.1
    intro e
    cases e
    obtain ⟨es, cl, hm, _⟩ := h.2
    rw [h.1] at hm
    cases hm
  · rw [chD_snoc, List.length_append]
    exact ho
end Go.Proofs.Ytaoejonkiikhmaa.G

/- Charts whose accounts stand under ones that are there, or none: in plain Lean. -/
namespace Go.Proofs.Ytaoejonkiikhmaa.G
open Go.RowKit Go.Proofs.YtaoejonkiikhmaaW.PrintWords
set_option linter.unusedVariables false
set_option linter.unusedSimpArgs false

theorem hasC_snoc (l : List Acc) (a : Acc) (c : Int) : hasC (l ++ [a]) c = (hasC l c || a.f0 == c) := by simp [hasC]
theorem lookC_snoc (l : List Acc) (a : Acc) (c : Int) : lookC (l ++ [a]) c = if a.f0 = c then a else lookC l c := by
  unfold lookC
  rw [List.reverse_append]
  by_cases h : a.f0 = c
  · rw [if_pos h]; subst h; simp
  · rw [if_neg h]; simp [h]
theorem lookC_none {l : List Acc} {c : Int} (h : hasC l c = false) : lookC l c = z121 := by
  unfold lookC
  rw [List.find?_eq_none.2]
  · rfl
  · intro x hx
    unfold hasC at h
    rw [List.any_eq_false] at h
    exact h x (List.mem_reverse.1 hx)
def upC (l : List Acc) (c : Int) : Int := (lookC l c).f1
/-- A chart whose accounts stand under ones that are there, or none. -/
def GoodC (l : List Acc) : Prop := ∃ (rk : Int → Nat) (N : Nat), N ≤ l.length ∧ (∀ c, rk c ≤ N) ∧ rk 0 = 0 ∧ ∀ c, hasC l c = true → (1 ≤ c ∧ c ≤ 9999) ∧ (upC l c = 0 ∨ hasC l (upC l c) = true) ∧ rk (upC l c) < rk c
theorem goodC_nil : GoodC [] := ⟨fun _ => 0, 0, by simp, fun _ => Nat.le_refl _, rfl, fun c h => by simp [hasC] at h⟩
theorem goodC_add {l : List Acc} {a : Acc} (h : GoodC l) (hn : hasC l a.f0 = false) (h1 : 1 ≤ a.f0 ∧ a.f0 ≤ 9999) (hu : a.f1 = 0 ∨ hasC l a.f1 = true) : GoodC (l ++ [a]) := by
  obtain ⟨rk, N, hN, hb, h0, hg⟩ := h
  have hne : a.f1 ≠ a.f0 := by
    rcases hu with hu | hu
    · omega
    · intro e; rw [e, hn] at hu; cases hu
  refine ⟨fun c => if c = a.f0 then N + 1 else rk c, N + 1, by simp; omega, fun c => ?_, ?_, fun c hc => ?_⟩
  · have := hb c
    show (if c = a.f0 then N + 1 else rk c) ≤ _
    split <;> omega
  · show (if (0 : Int) = a.f0 then N + 1 else rk 0) = 0
    rw [if_neg (by omega), h0]
  · unfold upC
    rw [lookC_snoc]
    by_cases e : a.f0 = c
    · subst e
      rw [if_pos rfl]
      refine ⟨h1, ?_, ?_⟩
      · rcases hu with hu | hu
        · exact .inl hu
        · right; rw [hasC_snoc, hu]; rfl
      · show (if a.f1 = a.f0 then N + 1 else rk a.f1) < (if a.f0 = a.f0 then N + 1 else _)
        rw [if_neg hne, if_pos rfl]
        have := hb a.f1
        omega
    · rw [if_neg e]
      rw [hasC_snoc] at hc
      have hc' : hasC l c = true := by
        rw [Bool.or_eq_true] at hc
        rcases hc with hc | hc
        · exact hc
        · exact absurd (beq_iff_eq.1 hc) e
      obtain ⟨q1, q2, q3⟩ := hg c hc'
      unfold upC at q2 q3
      have hne2 : (lookC l c).f1 ≠ a.f0 := by
        rcases q2 with q2 | q2
        · omega
        · intro e2; rw [e2, hn] at q2; cases q2
      refine ⟨q1, ?_, ?_⟩
      · rcases q2 with q2 | q2
        · exact .inl q2
        · right; rw [hasC_snoc, q2]; rfl
      · show (if (lookC l c).f1 = a.f0 then N + 1 else rk (lookC l c).f1) < (if c = a.f0 then N + 1 else rk c)
        rw [if_neg hne2, if_neg (fun e2 => e e2.symm)]
        exact q3
def deepC (rk : Int → Nat) (c : Int) : Nat := if c = 0 then 0 else rk c + 1
/-- What is under an account, it first, so deep. -/
def subsC (ks : List Int) (up : Int → Int) : Nat → Int → List Int
  | 0, c => [c]
  | n + 1, c => c :: (ks.filter fun k => decide (up k = c)).flatMap (subsC ks up n)
theorem subsC_one (ks : List Int) (up : Int → Int) (n : Nat) (c : Int) (h : ∀ k ∈ ks, up k ≠ c) : subsC ks up n c = [c] := by
  cases n with
  | zero => rfl
  | succ n =>
    unfold subsC
    rw [List.filter_eq_nil_iff.2 (fun k hk => by simpa using h k hk)]
    rfl
theorem subsC_pos (ks : List Int) (up : Int → Int) (n : Nat) (c : Int) : 0 < (subsC ks up n c).length := by
  cases n <;> simp [subsC]
theorem subsC_more (ks : List Int) (up : Int → Int) (n : Nat) (c k : Int) (hk : k ∈ ks) (hu : up k = c) : 1 < (subsC ks up (n + 1) c).length := by
  unfold subsC
  rw [List.length_cons]
  have hm : k ∈ ks.filter fun k => decide (up k = c) := List.mem_filter.2 ⟨hk, by simpa using hu⟩
  have : subsC ks up n k ≠ [] := fun e => by have := subsC_pos ks up n k; rw [e] at this; simp at this
  obtain ⟨x, hx⟩ := List.exists_mem_of_ne_nil _ this
  have := List.length_pos_of_mem (List.mem_flatMap.2 ⟨k, hm, hx⟩)
  omega
end Go.Proofs.Ytaoejonkiikhmaa.G
