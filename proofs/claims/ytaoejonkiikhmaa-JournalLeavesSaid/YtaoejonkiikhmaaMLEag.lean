/- Texts of this claim put together: HTidyMap. -/
import Derived.Test.YtaoejonkiikhmaaMLEaa
import Derived.Maps.OwnRows
import Derived.Maps.RangeWalk
import Derived.DeepKeys4
import Derived.KernelRfl

/- The map of Tidy: titles to the amounts of their lines, as the model reads it. -/
namespace Go.Proofs.Ytaoejonkiikhmaa.G
open Go.RowKit Go.Proofs.YtaoejonkiikhmaaW.PrintWords Go.Maps Go.WideMaps
open Go.ChangeShapes (lits)
set_option linter.unusedVariables false
set_option linter.unusedSimpArgs false

theorem tm_laidOut : laidOutB Try.prog = true := by kernel_rfl
theorem tm_row : (200 : TypeId) < Try.prog.types.size := of_decide_eq_true (by kernel_rfl)
theorem tm_wide : (match Try.prog.underlying 200 with | some (.array _ _) | some (.struct _) => true | _ => false) = true := by kernel_rfl
set_option maxRecDepth 100000 in
theorem tm_law : Keyed Try.prog 200 := Keyed.of_law (deep_law_laid tm_laidOut (m := 2) (by omega) tm_row (by kernel_rfl) tm_wide)
theorem tm_type : Try.prog.keyType 200 = true := by kernel_rfl
theorem tm_cells : Try.prog.cellsOf 200 = 3 := by kernel_rfl
theorem tm_c3 : Try.prog.cellsOf 3 = 1 := by kernel_rfl
theorem tm_cu : Try.prog.cellsOf 22 = 1 := by kernel_rfl
theorem tm_fuel : ∃ m, Try.prog.types.size + 1 = m + 2 := by
  have h : (200 : Nat) < Try.prog.types.size := tm_row
  exact ⟨Try.prog.types.size - 1, by omega⟩

def tv (t : Title) : Value := .agg #[.int .i64 t.a, .int .u64 t.c, .int .u64 t.k]
def okT (t : Title) : Bool := i64ok t.a && u64ok t.c && u64ok t.k
def klit (t : Title) : Lit := .string (keyBytes [.int .i64 t.a, .int .u64 t.c, .int .u64 t.k])
theorem wf_i64 {x : Int} (h : i64ok x = true) : (Lit.int .i64 x).wf = true := by
  have := (i64ok_iff x).1 h
  simp [Lit.wf, IntKind.min, IntKind.max, IntKind.signed, IntKind.bits]
  omega
theorem wf_u64 {x : Int} (h : u64ok x = true) : (Lit.int .u64 x).wf = true := by
  simp [u64ok] at h
  simp [Lit.wf, IntKind.min, IntKind.max, IntKind.signed, IntKind.bits]
  omega
theorem keyOf_tv {t : Title} (h : okT t = true) : keyOf Try.prog 200 (tv t) = some (klit t) := by
  simp only [okT, Bool.and_eq_true] at h
  have h1 := wf_i64 h.1.1
  have h2 := wf_u64 h.1.2
  have h3 := wf_u64 h.2
  obtain ⟨m, hm⟩ := tm_fuel
  unfold keyOf
  rw [Try.underlying200]
  simp only [tm_type, hm]
  have hf : (tv t).formed Try.prog 200 = true := by
    simp [tv, Value.formed, Try.underlying200]
    exact tm_cells.symm
  rw [hf]
  simp [tv, Value.cells, Program.keyLits, Try.underlying200, Try.underlying3, Try.underlying22, tm_cells, tm_c3, tm_cu, h1, h2, h3, klit]
theorem klit_inj {t u : Title} (ht : okT t = true) (hu : okT u = true) (h : klit t = klit u) : t = u := by
  have := tm_law.inj (keyOf_tv ht) (by rw [keyOf_tv hu, h])
  cases t; cases u
  simpa [tv] using this

/-! ### what the map reads as, behind the lines r (the last one first) -/
def amtsR : List Line → Title → List Int
  | [], _ => []
  | x :: r, t => if keyT x = t then amtsR r t ++ [x.f3] else amtsR r t
def DmR : List Line → DataW Unit
  | [] => .map []
  | x :: r => (DmR r).put (klit (keyT x)) (.slice (lits .i64 (amtsR r (keyT x) ++ [x.f3])) [])
theorem amtsR_sum : ∀ (r : List Line) (t : Title), (amtsR r t).sum = gsum r t
  | [], t => rfl
  | x :: r, t => by
    rw [gsum_cons, amtsR]
    split
    · rename_i h
      rw [List.sum_append, amtsR_sum r t]
      simp
      omega
    · rw [amtsR_sum r t]
      omega
theorem amtsR_len : ∀ (r : List Line) (t : Title), (amtsR r t).length ≤ r.length
  | [], _ => Nat.le_refl _
  | x :: r, t => by
    have := amtsR_len r t
    rw [amtsR]
    split <;> simp <;> omega
theorem amtsR_all : ∀ (r : List Line) (t : Title), (∀ x ∈ r, i64ok x.f3 = true) → (amtsR r t).all i64ok = true
  | [], _, _ => rfl
  | x :: r, t, h => by
    have := amtsR_all r t (fun y hy => h y (List.mem_cons_of_mem _ hy))
    rw [amtsR]
    split
    · rw [List.all_append, this]
      simpa using h x List.mem_cons_self
    · exact this
theorem DmR_isMap : ∀ r, IsMap (DmR r)
  | [] => isMap_empty
  | x :: r => (DmR_isMap r).put _ _
theorem klit_key (t : Title) : WideAt.IsKeyLit (klit t) := trivial
/-- What stands at a title. -/
theorem DmR_at : ∀ (r : List Line), (∀ x ∈ r, okT (keyT x) = true) → ∀ (t : Title), okT t = true → ∀ z,
    (DmR r).atKey (klit t) z = if (amtsR r t) = [] then z else .slice (lits .i64 (amtsR r t)) []
  | [], _, t, _, z => by simp [DmR, amtsR, DataW.atKey]
  | x :: r, h, t, ht, z => by
    have hr := fun y hy => h y (List.mem_cons_of_mem _ hy)
    rw [DmR, amtsR]
    by_cases he : keyT x = t
    · subst he
      rw [atKey_put_same (DmR_isMap r) (klit_key _), if_pos rfl, if_neg (by simp)]
    · have hne : klit t ≠ klit (keyT x) := fun e => he (klit_inj ht (h x List.mem_cons_self) e).symm
      rw [atKey_put_other hne, if_neg he]
      exact DmR_at r hr t ht z
/-- Which keys there are. -/
theorem DmR_has : ∀ (r : List Line) (kl : Lit), has (DmR r) kl = true → ∃ x ∈ r, klit (keyT x) = kl
  | [], kl, h => by simp [DmR, has] at h
  | x :: r, kl, h => by
    by_cases he : klit (keyT x) = kl
    · exact ⟨x, List.mem_cons_self, he⟩
    · rw [DmR, has_put_other (fun e => he e.symm)] at h
      obtain ⟨y, hy, hk⟩ := DmR_has r kl h
      exact ⟨y, List.mem_cons_of_mem _ hy, hk⟩
theorem has_DmR : ∀ (r : List Line), (∀ x ∈ r, okT (keyT x) = true) → ∀ x ∈ r, has (DmR r) (klit (keyT x)) = true
  | y :: r, h, x, hx => by
    by_cases he : klit (keyT x) = klit (keyT y)
    · rw [DmR, he]
      exact has_put_same (DmR_isMap r) (klit_key _) _
    · rw [DmR, has_put_other he]
      rcases List.mem_cons.1 hx with rfl | hx
      · exact absurd rfl he
      · exact has_DmR r (fun z hz => h z (List.mem_cons_of_mem _ hz)) x hx
theorem lits_inj {q : IntKind} : ∀ {a b : List Int}, lits (H := Unit) q a = lits q b → a = b
  | [], [], _ => rfl
  | [], _ :: _, h => by simp [lits] at h
  | _ :: _, [], h => by simp [lits] at h
  | x :: a, y :: b, h => by
    simp only [lits, List.map_cons, List.cons.injEq] at h
    obtain ⟨h1, h2⟩ := h
    cases h1
    rw [lits_inj (a := a) (b := b) h2]
/-- What the look-up hands over: the amounts so far. -/
theorem zs_of {w : World} {base : Nat} {e : TypeId} {v : Value} {zs : List Int} {r : List Line} {t : Title} (hr : ∀ x ∈ r, okT (keyT x) = true) (ht : okT t = true) (ho : w.ownsInts base e .i64 v zs)
    (hat : (DmR r).atKey (klit t) .nil = rowDatum .i64 v zs) : zs = amtsR r t := by
  rw [DmR_at r hr t ht] at hat
  rcases ho.datum (H := Unit) with ⟨h1, rfl⟩ | h1
  · rw [h1] at hat
    split at hat
    · rename_i h; exact h.symm
    · cases hat
  · rw [h1] at hat
    split at hat
    · cases hat
    · injection hat with h2 _
      exact (lits_inj h2).symm

/-! ### the groups, carried over new blocks -/
section
variable {H : Type} {P : Program} {k : TypeId} {base : Nat} {e : TypeId} {q : IntKind} {b n : Nat} {D : DataW H} {w w' : World}
theorem ownsInts_below {v : Value} {zs : List Int} (h : w.ownsInts base e q v zs) (hb : Below w.heap.size w w') : w'.ownsInts base e q v zs := ⟨pw_own_below h.1 hb, h.2⟩
theorem groups_below (h : w.ownsGroups P k base e q b n D) (hb : Below w.heap.size w w') : w'.ownsGroups P k base e q b n D := by
  obtain ⟨es, clock, hblk, F, hs, rfl, hbb, hlen, hap⟩ := h
  have hlt : b < w.heap.size := (Array.getElem?_eq_some_iff.1 hblk).1
  have hst : ∀ x ∈ es.toList, ∀ z, rowElem (H := H) w base e q x.val = some z → rowElem w' base e q x.val = some z := by
    intro x _ z hz
    obtain ⟨ys, ho, rfl⟩ := rowElem_inv hz
    exact rowElem_mk (ownsInts_below ho hb)
  obtain ⟨F2, hmap2, _⟩ := F.stay hst
  refine ⟨es, clock, (hb.block b hlt).trans hblk, F2, hs, by rw [hmap2], hbb, fun x hx zs hz => ?_, hap⟩
  obtain ⟨y, hy⟩ := F.reads x hx
  obtain ⟨z, hz', _⟩ := Go.WideElems.rd_val hy
  obtain ⟨ys, ho, _⟩ := rowElem_inv hz'
  rw [hz.unique (ownsInts_below ho hb)]
  exact hlen x hx ys ho
theorem groupBack_below {t : TypeId} {key : Value} {kl : Lit} {v : Value} (h : w.groupBack P t k base e q b n D key kl v) (hb : Below w.heap.size w w') : w'.groupBack P t k base e q b n D key kl v := by
  intro w1 v' zs' hg ho hl hloc
  refine h w1 v' zs' ⟨hg.os.trans hb.os, hg.tape.trans hb.tape, hg.output.trans hb.output, Nat.le_trans hb.size hg.size, fun i hi hne => (hg.block i (Nat.lt_of_lt_of_le hi hb.size) hne).trans (hb.block i hi)⟩ ho hl ?_
  rcases hloc with h1 | ⟨g, h1, h2⟩
  · exact .inl h1
  · exact .inr ⟨g, h1, Nat.le_trans hb.size h2⟩
end

theorem groups_map {H : Type} {P : Program} {k : TypeId} {base : Nat} {e : TypeId} {q : IntKind} {b n : Nat} {D : DataW H} {w : World} (h : w.ownsGroups P k base e q b n D) : w.ownsMap P k (rowElem w base e q) b n D := by
  obtain ⟨es, clock, hb, F, hs, hD, _⟩ := h
  exact ⟨es, clock, hb, F, hs, hD⟩
set_option maxRecDepth 100000 in
theorem tm_invK (key : Value) (kl : Lit) (h : keyOf Try.prog 200 key = some kl) : ∃ t, key = tv t := by
  obtain ⟨m, hm⟩ := tm_fuel
  unfold keyOf at h
  rw [Try.underlying200] at h
  simp only [tm_type, hm, Bool.true_and] at h
  split at h
  · rename_i hf
    cases key <;> simp [Value.formed, Try.underlying200] at hf
    rename_i xs
    rw [tm_cells] at hf
    match xs, hf with
    | ⟨[c0, c1, c2]⟩, _ =>
      simp [Value.cells, Program.keyLits, Try.underlying200, Try.underlying3, Try.underlying22, tm_cells, tm_c3, tm_cu] at h
      obtain ⟨l0, h0, h⟩ := Option.bind_eq_some_iff.1 h
      simp only [Function.comp_apply, Option.map_eq_some_iff] at h
      obtain ⟨_, ⟨_, h, _⟩, _⟩ := h
      obtain ⟨l1, h1, _⟩ := Option.bind_eq_some_iff.1 h
      obtain ⟨lA, hA, h1⟩ := Option.bind_eq_some_iff.1 h1
      obtain ⟨lB, hB, _⟩ := Option.bind_eq_some_iff.1 h1
      clear h h1
      have k1 : ∃ n, c0 = .int .i64 n := by
        cases c0 <;> first | (simp at h0; done) | skip
        simp at h0
        exact ⟨_, by rw [h0.1.1]⟩
      have k2 : ∃ n, c1 = .int .u64 n := by
        cases c1 <;> first | (simp at hA; done) | skip
        simp at hA
        exact ⟨_, by rw [hA.1.1]⟩
      have k3 : ∃ n, c2 = .int .u64 n := by
        cases c2 <;> first | (simp at hB; done) | skip
        obtain ⟨q, hq, _⟩ := Option.bind_eq_some_iff.1 hB
        simp at hq
        exact ⟨_, by rw [hq.1.1]⟩
      obtain ⟨n0, rfl⟩ := k1
      obtain ⟨n1, rfl⟩ := k2
      obtain ⟨n2, rfl⟩ := k3
      exact ⟨⟨n0, n1, n2⟩, rfl⟩
  · cases h
def mkS (c : Option Addr × Nat × Nat) : Value := .slice c.1 c.2.1 c.2.2
theorem tm_invV {H : Type} {w : World} {base : Nat} {e : TypeId} (v : Value) (y : DataW H × List MemPlace) (h : rowElem w base e .i64 v = some y) : ∃ c, v = mkS c := by
  obtain ⟨zs, ho, _⟩ := rowElem_inv h
  obtain ⟨A, c, rfl⟩ := own_slice ho.1
  exact ⟨⟨A, _, c⟩, rfl⟩

/-! ### what the range over the map has done, by what is still to come -/
theorem filter_step {α : Type} [DecidableEq α] {p p' : α → Bool} {g0 : α} : ∀ {G : List α}, G.Nodup → g0 ∈ G → (∀ g ∈ G, g ≠ g0 → p' g = p g) → p g0 = false → p' g0 = true → (G.filter p').Perm (g0 :: G.filter p)
  | [], _, h, _, _, _ => by cases h
  | a :: r, hn, h, he, h0, h1 => by
    obtain ⟨ha, hr⟩ := List.nodup_cons.1 hn
    by_cases hag : a = g0
    · subst hag
      rw [List.filter_cons, List.filter_cons, h0, h1]
      have : r.filter p' = r.filter p := List.filter_congr (fun g hg => he g (List.mem_cons_of_mem _ hg) (fun e => ha (e ▸ hg)))
      simp [this]
    · have hg : g0 ∈ r := by
        rcases List.mem_cons.1 h with e | h
        · exact absurd e.symm hag
        · exact h
      have ih := filter_step hr hg (fun g hg => he g (List.mem_cons_of_mem _ hg)) h0 h1
      rw [List.filter_cons, List.filter_cons, he a List.mem_cons_self hag]
      split
      · exact (ih.cons a).trans (List.Perm.swap _ _ _)
      · exact ih
def line_dec (x y : Line) : Decidable (x = y) := if h : keyT x = keyT y ∧ x.f3 = y.f3 then .isTrue (line_ext h.1 h.2) else .isFalse (fun e => h (e ▸ ⟨rfl, rfl⟩))
def Ranged (l : List Line) (left : Lit → Bool) (o : List Line) : Prop :=
  o.Perm ((grp l).filter fun g => !left (klit (keyT g)) && decide (g.f3 ≠ 0)) ∧ ∀ g ∈ grp l, left (klit (keyT g)) = false → within62 g.f3 = true
theorem ordered_nodup {G : List Line} (h : Ordered G) : G.Nodup := List.Pairwise.imp (fun {a b} hab => by rintro rfl; exact ltT_irrefl _ hab) h
theorem strike_eq {left : Lit → Bool} {z kl : Lit} (h : z ≠ kl) : (left z && !z.sameKey kl) = left z := by rw [sameKey_ne h]; simp
theorem strike_self {left : Lit → Bool} {kl : Lit} (h : WideAt.IsKeyLit kl) : (left kl && !kl.sameKey kl) = false := by rw [WideAt.sameKey_self h]; simp
section
variable {l : List Line} {left : Lit → Bool} {o : List Line} {g0 : Line}
theorem ranged_apart (hok : ∀ x ∈ l, okT (keyT x) = true) {g : Line} (hg : g ∈ grp l) (h0 : g0 ∈ grp l) (hne : g ≠ g0) : klit (keyT g) ≠ klit (keyT g0) := fun e => by
  have hk : ∀ g ∈ grp l, okT (keyT g) = true := fun g hg => by
    obtain ⟨⟨x, hx, hxe⟩, _⟩ := (mem_grp l g).1 hg
    rw [← hxe]; exact hok x hx
  exact hne (ordered_inj (grp_ordered l) hg h0 (klit_inj (hk g hg) (hk g0 h0) e))
theorem ranged_zero (hok : ∀ x ∈ l, okT (keyT x) = true) (h : Ranged l left o) (h0 : g0 ∈ grp l) (hz : g0.f3 = 0) : Ranged l (fun z => left z && !z.sameKey (klit (keyT g0))) o := by
  refine ⟨?_, fun g hg hl => ?_⟩
  · rw [show ((grp l).filter fun g => !(left (klit (keyT g)) && !(klit (keyT g)).sameKey (klit (keyT g0))) && decide (g.f3 ≠ 0)) = (grp l).filter fun g => !left (klit (keyT g)) && decide (g.f3 ≠ 0) from
      List.filter_congr (fun g hg => ?_)]
    · exact h.1
    · by_cases e : g = g0
      · subst e; simp [hz]
      · rw [strike_eq (ranged_apart hok hg h0 e)]
  · by_cases e : g = g0
    · subst e; rw [hz]; rfl
    · have hl := (strike_eq (left := left) (ranged_apart hok hg h0 e)).symm.trans hl
      exact h.2 g hg hl
theorem ranged_put (hok : ∀ x ∈ l, okT (keyT x) = true) (h : Ranged l left o) (h0 : g0 ∈ grp l) (hl0 : left (klit (keyT g0)) = true) (hz : g0.f3 ≠ 0) (hw : within62 g0.f3 = true) : Ranged l (fun z => left z && !z.sameKey (klit (keyT g0))) (o ++ [g0]) := by
  refine ⟨?_, fun g hg hl => ?_⟩
  · refine (List.perm_append_comm.trans (h.1.cons g0)).trans (List.Perm.symm ?_)
    have : DecidableEq Line := line_dec
    refine filter_step (ordered_nodup (grp_ordered l)) h0 (fun g hg e => ?_) ?_ ?_
    · show (!(left (klit (keyT g)) && !(klit (keyT g)).sameKey (klit (keyT g0))) && decide (g.f3 ≠ 0)) = _
      rw [strike_eq (ranged_apart hok hg h0 e)]
    · simp [hl0]
    · show (!(left (klit (keyT g0)) && !(klit (keyT g0)).sameKey (klit (keyT g0))) && decide (g0.f3 ≠ 0)) = true
      rw [strike_self (klit_key _)]
      simp [hz]
  · by_cases e : g = g0
    · subst e; exact hw
    · have hl := (strike_eq (left := left) (ranged_apart hok hg h0 e)).symm.trans hl
      exact h.2 g hg hl
theorem ranged_start (l : List Line) (hok : ∀ x ∈ l, okT (keyT x) = true) : Ranged l (has (DmR l.reverse)) [] := by
  have hh : ∀ g ∈ grp l, has (DmR l.reverse) (klit (keyT g)) = true := fun g hg => by
    obtain ⟨⟨x, hx, hxe⟩, _⟩ := (mem_grp l g).1 hg
    rw [← hxe]
    exact has_DmR l.reverse (fun x hx => hok x (List.mem_reverse.1 hx)) x (List.mem_reverse.2 hx)
  refine ⟨?_, fun g hg hl => ?_⟩
  · rw [List.filter_eq_nil_iff.2 (fun g hg => by simp [hh g hg])]
  · rw [hh g hg] at hl; cases hl
theorem ranged_end (h : Ranged l left o) (hl : ∀ z, left z = false) : o.Perm ((grp l).filter fun g => decide (g.f3 ≠ 0)) ∧ (grp l).all (fun g => within62 g.f3) = true := by
  refine ⟨?_, List.all_eq_true.2 (fun g hg => h.2 g hg (hl _))⟩
  have := h.1
  simpa [hl] using this
end

theorem gsum_append (a b : List Line) (t : Title) : gsum (a ++ b) t = gsum a t + gsum b t := by simp [gsum, List.filter_append, List.sum_append]
theorem gsum_reverse (l : List Line) (t : Title) : gsum l.reverse t = gsum l t := by
  induction l with
  | nil => rfl
  | cons x r ih =>
    rw [List.reverse_cons, gsum_append, ih, gsum_cons, gsum_cons]
    simp [gsum]
    omega
/-- What a key of the map stands for: a group of the lines; its slice holds that group's amounts. -/
theorem tidy_key {l : List Line} (hok : ∀ x ∈ l, okT (keyT x) = true) (hoa : ∀ x ∈ l, i64ok x.f3 = true) {w : World} {base : Nat} {t : Title} {kl : Lit} {v : Value} {y : DataW Unit × List MemPlace} (hkey : keyOf Try.prog 200 (tv t) = some kl)
    (hat : ∀ zd, (DmR l.reverse).atKey kl zd = y.1) (hv : rowElem w base 2 .i64 v = some y) :
    ∃ g ∈ grp l, keyT g = t ∧ klit t = kl ∧ ∃ zs, w.ownsInts base 2 .i64 v zs ∧ zs.sum = g.f3 ∧ zs.all i64ok = true ∧ ∃ x ∈ l, keyT x = t := by
  obtain ⟨x, hx, hk⟩ := DmR_has _ _ (has_true_of_atKey hat)
  have hx := List.mem_reverse.1 hx
  have ht : t = keyT x := by
    have := tm_law.inj hkey (by rw [keyOf_tv (hok x hx), hk])
    cases t
    simpa [tv, keyT] using this
  subst ht
  obtain ⟨zs, ho, rfl⟩ := rowElem_inv hv
  have hz := zs_of (fun y hy => hok y (List.mem_reverse.1 hy)) (hok x hx) ho (by rw [hk]; exact hat .nil)
  refine ⟨⟨x.f0, x.f1, x.f2, gsum l (keyT x)⟩, (mem_grp l _).2 ⟨⟨x, hx, rfl⟩, rfl⟩, rfl, hk, zs, ho, ?_, ?_, x, hx, rfl⟩
  · rw [hz, amtsR_sum, gsum_reverse]
  · rw [hz]
    exact amtsR_all _ _ (fun y hy => hoa y (List.mem_reverse.1 hy))
theorem ints_C {w : World} {base : Nat} {e : TypeId} {A : Option Addr} {n c : Nat} {zs : List Int} (h : w.ownsInts base e .i64 (.slice A n c) zs) : n = zs.length ∧ zs.length ≤ c ∧ Kd.C (Kd.int .i64) w A zs.length zs := by
  obtain ⟨A', c', he, hr⟩ := own_reads (k := .i64) (xs := zs) h.1
  injection he with h1 h2 h3
  subst h1 h2
  have hc : zs.length ≤ c := by
    rcases h.1.2 with ⟨h4, h5⟩ | ⟨g, cap, cur, h4, _, _, h5, _⟩
    · omega
    · injection h4 with _ _ h6
      subst h6
      exact h5
  exact ⟨rfl, hc, Kd.C_of_reads (d := (0 : Int)) (h1 := fun _ => rfl) hr⟩
end Go.Proofs.Ytaoejonkiikhmaa.G
