/- Texts of this claim put together: HSortLines. -/
import Derived.Test.YtaoejonkiikhmaaMLEah
import Derived.Test.YtaoejonkiikhmaaMLEai
import Derived.Test.YtaoejonkiikhmaaMLEaj
import Derived.Test.YtaoejonkiikhmaaMLEaa

/- slices.SortFunc(out, ahead) at lines whose titles are all different: what is left is the same lines, in order. -/
namespace Go.Proofs.Ytaoejonkiikhmaa.G
open Go.RowKit Go.Proofs.YtaoejonkiikhmaaW.PrintWords Go.Proofs.YtaoejonkiikhmaaW.PrintLast Go.Proofs.YtaoejonkiikhmaaW.PrintMore
open Go.Sort Go.Shelf Go.Lib
set_option linter.unusedVariables false
set_option linter.unusedSimpArgs false

def cmpI (a b : Int) : Int := if a < b then -1 else if a > b then 1 else 0
theorem cmp_f (a b : Int) : cmp_Compare_uint64.f a b = some (cmpI a b) := by
  unfold cmp_Compare_uint64.f cmp_isNaN_uint64.f cmpI
  simp
  split
  · rfl
  · split <;> rfl
def firstI (p q r : Int) : Int := if p ≠ 0 then p else if q ≠ 0 then q else r
theorem order_f (p q r : Int) : journal_order.f 4 [p, q, r] = some (firstI p q r) := by
  unfold firstI
  have w1 : wrap64 1 = 1 := by unfold wrap64; omega
  have w2 : wrap64 2 = 2 := by unfold wrap64; omega
  have w3 : wrap64 3 = 3 := by unfold wrap64; omega
  by_cases h1 : p = 0
  · subst h1
    by_cases h2 : q = 0
    · subst h2
      by_cases h3 : r = 0
      · subst h3
        simp [journal_order.f, journal_order.l0, Go.Proofs.YtaoejonkiikhmaaW.PrintWords.rd, w1, w2, w3]
      · simp [journal_order.f, journal_order.l0, Go.Proofs.YtaoejonkiikhmaaW.PrintWords.rd, w1, w2, w3, h3]
    · simp [journal_order.f, journal_order.l0, Go.Proofs.YtaoejonkiikhmaaW.PrintWords.rd, w1, w2, w3, h2]
  · simp [journal_order.f, journal_order.l0, Go.Proofs.YtaoejonkiikhmaaW.PrintWords.rd, w1, w2, w3, h1]
def aheadI (x y : Line) : Int := firstI (wrap64 (x.f0 - y.f0)) (cmpI x.f1 y.f1) (cmpI x.f2 y.f2)
def okA (x : Line) : Prop := 1 ≤ x.f0 ∧ x.f0 ≤ 9999
theorem ahead_lt {x y : Line} (hx : okA x) (hy : okA y) : aheadI x y < 0 ↔ ltT (keyT x) (keyT y) := by
  unfold okA at hx hy
  have hw : wrap64 (x.f0 - y.f0) = x.f0 - y.f0 := by unfold wrap64; omega
  unfold aheadI firstI cmpI ltT keyT
  rw [hw]
  simp only
  repeat' split
  all_goals omega
def encL (x : Line) : List Value := [.int .i64 x.f0, .int .u64 x.f1, .int .u64 x.f2, .int .i64 x.f3]
theorem ahead_calls (x y : Line) (w : World) : Calls Try.prog 109 #[.agg (encL x).toArray, .agg (encL y).toArray] w fun e w' => e = .returned (.int .i64 (aheadI x y)) ∧ Grew w w' :=
  ahead_grew 4 x.f0 x.f1 x.f2 x.f3 y.f0 y.f1 y.f2 y.f3 (aheadI x y) _ _ w (cmp_f _ _) (cmp_f _ _) (order_f _ _ _)

theorem reps_inner {w : World} {base : Nat} {ok : Nat → Prop} : ∀ {o : List Line} {inner : List Value}, Reps (k113.M w base ok) 4 o inner → inner = o.flatMap encL
  | [], inner, h => by simpa using h.1
  | x :: r, inner, h => by
    have h0 := h.2 0 x rfl
    simp only [Nat.zero_mul, List.drop_zero] at h0
    have h1 := k113_openM h0
    have h2 : Reps (k113.M w base ok) 4 r (inner.drop 4) := by
      refine ⟨by rw [List.length_drop, h.1]; simp [Nat.add_mul], fun j p hj => ?_⟩
      have := h.2 (j + 1) p (by simpa using hj)
      rw [Nat.add_mul, Nat.one_mul] at this
      rw [List.drop_drop, Nat.add_comm]
      exact this
    rw [List.flatMap_cons, ← reps_inner h2, ← List.take_append_drop 4 inner]
    rw [h1]
    simp [encL]
theorem reps_flat (w : World) (base : Nat) (ok : Nat → Prop) : ∀ (o : List Line), Reps (k113.M w base ok) 4 o (o.flatMap encL)
  | [] => ⟨by simp, fun j p h => by simp at h⟩
  | x :: r => by
    have ih := reps_flat w base ok r
    refine ⟨by rw [List.flatMap_cons, List.length_append, ih.1]; simp [encL, Nat.add_mul]; omega, fun j p hj => ?_⟩
    cases j with
    | zero =>
      have : x = p := by simpa using hj
      subst this
      simpa [encL] using k113_mkM w base ok x
    | succ j =>
      have := ih.2 j p (by simpa using hj)
      rw [List.flatMap_cons, Nat.add_mul, Nat.one_mul, Nat.add_comm, ← List.drop_drop]
      simpa [encL] using this

theorem pair_ne : ∀ {o : List Line}, (o.Pairwise fun x y => keyT x ≠ keyT y) → ∀ {x y : Line}, x ∈ o → y ∈ o → x ≠ y → keyT x ≠ keyT y
  | a :: r, hd, x, y, hx, hy, hne => by
    obtain ⟨h1, h2⟩ := List.pairwise_cons.1 hd
    rcases List.mem_cons.1 hx with ex | hx
    · rcases List.mem_cons.1 hy with ey | hy
      · exact absurd (ex.trans ey.symm) hne
      · rw [ex]; exact h1 y hy
    · rcases List.mem_cons.1 hy with ey | hy
      · rw [ey]; exact (h1 x hx).symm
      · exact pair_ne h2 hx hy hne
theorem ordered_of : ∀ {o : List Line}, (o.Pairwise fun x y => keyT x ≠ keyT y) → (o.Pairwise fun x y => ¬ ltT (keyT y) (keyT x)) → Ordered o
  | [], _, _ => List.Pairwise.nil
  | a :: r, hd, hs => by
    obtain ⟨h1, h2⟩ := List.pairwise_cons.1 hd
    obtain ⟨h3, h4⟩ := List.pairwise_cons.1 hs
    refine List.pairwise_cons.2 ⟨fun y hy => ?_, ordered_of h2 h4⟩
    rcases ltT_tri (keyT a) (keyT y) with h | h | h
    · exact h
    · exact absurd h (h1 y hy)
    · exact absurd h (h3 y hy)

set_option maxRecDepth 100000 in
/-- THE SORT, at lines of different titles. -/
theorem sort_lines (w : World) (A : Option Addr) (n c : Nat) (o : List Line) (base : Nat) (ok : Nat → Prop) (ho : Kd.R k113 113 w base ok (.slice A n c) o) (hd : o.Pairwise fun x y => keyT x ≠ keyT y) (hok : ∀ x ∈ o, okA x) (hsm : o.length < 4611686018427387904) :
    Calls Try.prog 108 #[.slice A n c, .func (.func 109) #[] #[]] w fun e w' => e = .returned (.tuple #[]) ∧ ∃ o' : List Line, o'.Perm o ∧ Ordered o' ∧ Kd.R k113 113 w' base ok (.slice A n c) o' ∧ w.grownBy w' (Value.slice A n c).ownBlock := by
  obtain ⟨h0, inner, hown, hrep⟩ := ho
  rcases Nat.eq_zero_or_pos o.length with hz | hpos
  · have hn : n = 0 := by
      rcases hown.2 with ⟨h1, _⟩ | ⟨g, cap, cur, h1, _⟩
      · injection h1
      · injection h1 with _ h2 _; omega
    subst hn
    obtain rfl : o = [] := List.eq_nil_of_length_eq_zero hz
    have hc := AnyF.slices_SortFunc_none Try.sortLine A c (.func (.func 109) #[] #[]) w
    refine Calls.mono (show Calls Try.prog 108 _ _ _ from hc) ?_
    rintro e w' ⟨rfl, rfl⟩
    exact ⟨rfl, [], List.Perm.refl _, List.Pairwise.nil, ⟨h0, inner, hown, hrep⟩, ⟨rfl, rfl, rfl, Nat.le_refl _, fun _ _ _ => rfl⟩⟩
  · rcases hown.2 with ⟨_, h1⟩ | ⟨g, cap, cur, hv, hbase, hb, h1, h2, h3, h4⟩
    · omega
    · injection hv with hA hn hc
      subst hA hn hc
      have hinner := reps_inner hrep
      let α := {x : Line // x ∈ o}
      have hin : Inhabited α := ⟨⟨o[0], List.getElem_mem hpos⟩⟩
      let enc : α → List Value := fun x => encL x.1
      have hk : ∀ x : α, (enc x).length = 4 := fun _ => rfl
      let d : List α := o.attach
      have hdm : d.map (fun x => x.1) = o := List.attach_map_subtype_val o
      have hflat : d.flatMap enc = o.flatMap encL := by
        conv => rhs; rw [← hdm]
        rw [List.flatMap_map]
      let cf : α → α → Int := fun x y => aheadI x.1 y.1
      have hlt : ∀ x y : α, ltOf cf x y = decide (ltT (keyT x.1) (keyT y.1)) := fun x y => by
        unfold ltOf
        exact decide_eq_decide.2 (ahead_lt (hok _ x.2) (hok _ y.2))
      have hO : SWO (ltOf cf) := {
        irrefl := fun x => by rw [hlt]; exact decide_eq_false (ltT_irrefl _)
        trans := fun x y z a b => by rw [hlt] at *; exact decide_eq_true (ltT_trans (of_decide_eq_true a) (of_decide_eq_true b))
        ntrans := fun x y z a b => by
          rw [hlt] at *
          have a := of_decide_eq_false a
          have b := of_decide_eq_false b
          refine decide_eq_false (fun h => ?_)
          unfold ltT at *
          omega }
      have hinj : ∀ x y : α, keyT x.1 = keyT y.1 → x = y := fun x y h => by
        apply Subtype.ext
        refine Classical.byContradiction (fun hne => pair_ne hd x.2 y.2 hne h)
      have hT : ∀ x y : α, (ltOf cf) x y = false → (ltOf cf) y x = false → x = y := fun x y a b => by
        rw [hlt] at a b
        rcases ltT_tri (keyT x.1) (keyT y.1) with h | h | h
        · exact absurd h (of_decide_eq_false a)
        · exact hinj x y h
        · exact absurd h (of_decide_eq_false b)
      have hH : HoldsK enc 4 w g 0 d.toArray := holdsK_of_block hk (by omega) hb (by
        rw [hflat, ← hinner, ← h4]
        have : d.length = o.length := by rw [← hdm, List.length_map]
        rw [this]
        rfl)
      have hblk : g < w.heap.size := (Array.getElem?_eq_some_iff.1 hb).1
      have hdl : d.length = o.length := by rw [← hdm, List.length_map]
      have hsz : d.toArray.size < 4611686018427387904 := by
        simp only [List.size_toArray, hdl]
        exact hsm
      have eg : ∀ args w, (callFunc 109 args).run Try.prog w = .ok (.enter 109 args) w := enters_of Try.func109 (by kernel_rfl) rfl
      have hcmp : CmpLays Try.prog 109 #[] enc 4 cf g 0 d.toArray.size w := fun m os dk _ x y => (ahead_calls x.1 y.1 _).mono (fun e w' h => ⟨h.1, by obtain ⟨q, os', h2⟩ := h.2; exact ⟨q, os', h2⟩⟩)
      have hc := AnyQ.slices_SortFunc_total Try.sortLine 4 Try.isAgg113 Try.sizeOf113 enc hk (fun x v hv => by simp [enc, encL] at hv; rcases hv with rfl | rfl | rfl | rfl <;> rfl) cf hO 109 #[] g 0 c d.toArray w eg hcmp hH hblk hsz hT
      rw [show d.toArray.size = o.length by simpa using hdl] at hc
      refine Calls.mono (show Calls Try.prog 108 _ _ _ from hc) ?_
      rintro e w' ⟨rfl, q, os, rfl⟩
      let s : List α := d.mergeSort fun x y => !(ltOf cf) y x
      have hperm : s.Perm d := List.mergeSort_perm _ _
      have hsl : s.length = o.length := by rw [hperm.length_eq, hdl]
      have hp2 : (s.map (fun x => x.1)).Perm o := by
        have := hperm.map (fun x : α => x.1)
        rw [hdm] at this
        exact this
      have hflat2 : s.flatMap enc = (s.map (fun x => x.1)).flatMap encL := by rw [List.flatMap_map]
      have hrow := ownsRow_sortedK (os := os) (q := q) hk (by omega) (ts := s) hsl hbase hb h1 h2 h3
      refine ⟨rfl, s.map (fun x => x.1), hp2, ?_, ⟨h0, s.flatMap enc, ?_, ?_⟩, grownBy_sortedK _⟩
      · refine ordered_of ?_ ?_
        · exact (hp2.pairwise_iff (fun {a b} h => h.symm)).2 hd
        · have h5 : s.Pairwise fun x y => (!(ltOf cf) y x) = true := List.pairwise_mergeSort (fun a b c h6 h7 => by
            simp only [hlt, Bool.not_eq_true', decide_eq_false_iff_not] at h6 h7 ⊢
            unfold ltT at *
            omega) (fun a b => by
            simp only [hlt, Bool.or_eq_true, Bool.not_eq_true', decide_eq_false_iff_not]
            unfold ltT
            omega) d
          rw [List.pairwise_map]
          exact h5.imp (fun {a b} h => by simpa [hlt] using h)
      · rw [List.length_map, hsl]
        exact hrow
      · rw [hflat2]
        exact reps_flat _ _ _ _
end Go.Proofs.Ytaoejonkiikhmaa.G
