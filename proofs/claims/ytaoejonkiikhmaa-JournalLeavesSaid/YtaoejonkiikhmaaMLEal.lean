/- Texts of this claim put together: HTidy, HCheck, HTotals, GJournalPut. -/
import Derived.Test.YtaoejonkiikhmaaMLEag
import Derived.Test.YtaoejonkiikhmaaMLEak
import Derived.Test.YtaoejonkiikhmaaMLEaa
import Derived.Shelf.SlSortCmp.NoneTotal

/- journal.Tidy: its contract: it returns the tidied lines, or refuses; under: each line's numbers are of their kinds, fewer than 2^42 lines. -/
namespace Go.Proofs.Ytaoejonkiikhmaa.G
open Go.RowKit Go.Proofs.YtaoejonkiikhmaaW.PrintWords Go.Proofs.YtaoejonkiikhmaaW.PrintLast Go.Proofs.YtaoejonkiikhmaaW.PrintMore
open Go.Maps
set_option linter.unusedVariables false
set_option linter.unusedSimpArgs false

theorem may_f (x : Line) : journal_may.f x.f0 x.f1 x.f2 x.f3 = some (mayB x) := by
  unfold journal_may.f mayB within62
  repeat' split
  all_goals (simp_all; try omega)
theorem okL_at {l : List Line} (h : l.all okL = true) {k : Nat} (hk : k < l.length) {x : Line} (hx : x = rd_T113 l k) : okL x = true := by
  subst hx
  refine List.all_eq_true.1 h _ ?_
  simp [rd_T113, List.getD_eq_getElem?_getD, List.getElem?_eq_getElem hk]
theorem okT_of {x : Line} (h : okL x = true) : okT (keyT x) = true := by
  simp only [okL, Bool.and_eq_true] at h
  simp only [okT, keyT, Bool.and_eq_true]
  exact h.1
theorem amt_of {x : Line} (h : okL x = true) : i64ok x.f3 = true := by
  simp only [okL, Bool.and_eq_true] at h
  exact h.2
theorem okT_take {l : List Line} (h : l.all okL = true) (k : Nat) : ∀ x ∈ (l.take k).reverse, okT (keyT x) = true := fun x hx =>
  okT_of (List.all_eq_true.1 h x (List.mem_of_mem_take (List.mem_reverse.1 hx)))
theorem box_cells {wr w1 W : World} {x : Line} {e : TypeId} (hb : Below (wr.alloc (.cells #[.int .i64 x.f0, .int .u64 x.f1, .int .u64 x.f2, .int .i64 x.f3] e)).heap.size (wr.alloc (.cells #[.int .i64 x.f0, .int .u64 x.f1, .int .u64 x.f2, .int .i64 x.f3] e)) w1)
    (hW : Below w1.heap.size w1 W) : W.cell? ⟨wr.heap.size, 0, none⟩ = some (.int .i64 x.f0) ∧ W.cell? ⟨wr.heap.size, 1, none⟩ = some (.int .u64 x.f1) ∧ W.cell? ⟨wr.heap.size, 2, none⟩ = some (.int .u64 x.f2) ∧ W.cell? ⟨wr.heap.size, 3, none⟩ = some (.int .i64 x.f3) := by
  have h := below_then hb hb.size hW
  refine ⟨?_, ?_, ?_, ?_⟩
  · exact (h.cell (p := ⟨wr.heap.size, 0, none⟩) (by simp)).trans (by simp)
  · exact (h.cell (p := ⟨wr.heap.size, 1, none⟩) (by simp)).trans (by simp)
  · exact (h.cell (p := ⟨wr.heap.size, 2, none⟩) (by simp)).trans (by simp)
  · exact (h.cell (p := ⟨wr.heap.size, 3, none⟩) (by simp)).trans (by simp)
theorem box_block {wr w1 W : World} {y : Array Value} {e : TypeId} (hb : Below (wr.alloc (.cells y e)).heap.size (wr.alloc (.cells y e)) w1) (hW : Below w1.heap.size w1 W) : W.heap[wr.heap.size]? = some (.cells y e (0, 0)) := by
  have h := below_then hb hb.size hW
  exact (h.block _ (by simp)).trans (heap_alloc_new wr _)
theorem own_not_box {W : World} {base : Nat} {v : Value} {n : Nat} {xs : List Value} {g : Nat} {y : Array Value} (h : W.ownsRow base 2 1 v n xs) (e : v.ownBlock = some g) (hb : W.heap[g]? = some (.cells y 113 (0, 0))) : False := by
  obtain ⟨cells, hc⟩ := own_typed h g e
  rw [hc] at hb
  injection hb with hb
  injection hb with _ hb
  exact absurd hb (by decide)
theorem exec_append {P : Program} {a : Act} {oi : Oper} {s x : Operand} {t : TypeId} {v xv v' : Value} {W W' : World} (ho : oi.op = .call { callee := .builtin .append, args := #[s, x], argTypes := #[t, t] }) (hs : a.eval s = v) (hx : a.eval x = xv)
    (hr : (Builtin.append_ #[t, t] oi.type #[v, xv]).run P W = .ok v' W') : (execOp a.eval oi).run P W = .ok (.value v') W' := by
  unfold execOp
  simp only [ho, resolve, invoke, builtin, Sem.run_bind, Sem.run_pure, Result.andThen_ok, List.map_toArray, List.map_cons, List.map_nil, hs, hx, hr]
theorem exec_lookup {P : Program} {a : Act} {oi : Oper} {m x : Operand} {t : TypeId} {mv xv v : Value} {W W' : World} (ho : oi.op = .lookup t m x false) (hm : a.eval m = mv) (hx : a.eval x = xv)
    (hr : (Instr.lookup t mv xv false).run P W = .ok v W') : (execOp a.eval oi).run P W = .ok (.value v) W' := by
  unfold execOp
  simp [ho, hm, hx, hr, Result.andThen]
theorem exec_mapUpdate {P : Program} {a : Act} {oi : Oper} {m x v : Operand} {t : TypeId} {mv xv vv : Value} {W W' : World} (ho : oi.op = .mapUpdate t m x v) (hm : a.eval m = mv) (hx : a.eval x = xv) (hv : a.eval v = vv)
    (hr : (Instr.mapUpdate t mv xv vv).run P W = .ok () W') : (execOp a.eval oi).run P W = .ok .skip W' := by
  unfold execOp
  simp [ho, hm, hx, hv, hr, Result.andThen]
theorem take_rev {l : List Line} {k : Nat} (hk : k < l.length) {x : Line} (hx : x = rd_T113 l k) : l.take (k + 1) = l.take k ++ [x] := by
  subst hx
  rw [List.take_succ_eq_append_getElem hk]
  simp [rd_T113, List.getElem?_eq_getElem hk]
theorem tidy_rel {l0 : List Line} {k : Nat} (hlt : k < l0.length) {x : Line} (hx : x = rd_T113 l0 k) (hmay : (l0.take k).all mayB = true) (hm : mayB x = true) {w wr w1 w' w3 w4 : World} {y : Array Value} {e : TypeId}
    (hb : Below w.heap.size w wr) (hb1 : Below (wr.alloc (.cells y e)).heap.size (wr.alloc (.cells y e)) w1) (hb2 : Below w1.heap.size w1 w') {v v' : Value} {zs : List Int} (ho : w'.ownsInts (w.heap.size + 1) 2 .i64 v zs)
    (hg : w'.grownBy w3 v.ownBlock) (ho3 : w3.ownsInts (w.heap.size + 1) 2 .i64 v' (zs ++ [x.f3])) (hz : zs = amtsR (l0.take k).reverse (keyT x)) (hown : w4.ownsGroups Try.prog 200 (w.heap.size + 1) 2 .i64 w.heap.size (k + 1) ((DmR (l0.take k).reverse).put (klit (keyT x)) (rowDatum .i64 v' (zs ++ [x.f3]))))
    (hg4 : w3.grownBy w4 (some w.heap.size)) (hws : w.heap.size + 1 ≤ wr.heap.size) :
    (l0.take (k + 1)).all mayB = true ∧ w4.ownsGroups Try.prog 200 (w.heap.size + 1) 2 .i64 w.heap.size (k + 1) (DmR (l0.take (k + 1)).reverse) ∧ Below w.heap.size w w4 ∧ w.heap.size + 1 ≤ w4.heap.size := by
  rw [take_rev hlt hx]
  have hbw1 : Below w.heap.size w w1 := below_then (below_alloc hb _) (by have := hb.size; simp; omega) hb1
  have hbw : Below w.heap.size w w' := below_then hbw1 hbw1.size hb2
  refine ⟨by rw [List.all_append, hmay]; simpa using hm, ?_, RowKit.Below.groups hbw ho hg hg4 hbw.size (Nat.le_succ _) (Nat.le_refl _), ?_⟩
  · rw [ho3.datum_pos (by simp)] at hown
    rw [List.reverse_append]
    show w4.ownsGroups _ _ _ _ _ _ _ (DmR (x :: (l0.take k).reverse))
    rw [DmR, ← hz]
    exact hown
  · have h1 := hb1.size
    have h2 := hb2.size
    have h3 := hg.size
    have h4 := hg4.size
    simp at h1
    omega
theorem tidy_bad {l0 r1 : List Line} {r2 : Int} (h : journal_Tidy.f l0 = some (r1, r2)) {k : Nat} (hk : k < l0.length) {x : Line} (hx : x = rd_T113 l0 k) (hm : mayB x = false) : [] = r1 ∧ 2 = r2 := by
  unfold journal_Tidy.f at h
  split at h
  · have hn : ¬ (l0.all mayB = true) := fun h1 => by
      have := List.all_eq_true.1 h1 x (by subst hx; simp [rd_T113, List.getD_eq_getElem?_getD, List.getElem?_eq_getElem hk])
      rw [hm] at this
      cases this
    unfold tidyR at h
    rw [if_neg hn] at h
    injection h with h
    injection h with h1 h2
    exact ⟨h1, h2⟩
  · cases h
theorem ranged_len {l o : List Line} {left : Lit → Bool} (h : Ranged l left o) : o.length ≤ l.length := by
  have h1 := h.1.length_eq
  have h2 := List.length_filter_le (fun g => !left (klit (keyT g)) && decide (g.f3 ≠ 0)) (grp l)
  have h3 := grp_len l
  omega
theorem ended_apart {l o : List Line} (h : o.Perm ((grp l).filter fun g => decide (g.f3 ≠ 0))) : o.Pairwise fun x y => keyT x ≠ keyT y :=
  (h.pairwise_iff (fun {a b} e => e.symm)).2 ((filter_ordered (grp_ordered l) _).imp (fun {a b} hab e => by rw [e] at hab; exact ltT_irrefl _ hab))
theorem ended_ok {l o : List Line} (h : o.Perm ((grp l).filter fun g => decide (g.f3 ≠ 0))) (hm : l.all mayB = true) {x : Line} (hx : x ∈ o) : okA x := by
  have h1 := (List.mem_filter.1 (h.mem_iff.1 hx)).1
  obtain ⟨⟨y, hy, hk⟩, _⟩ := (mem_grp l x).1 h1
  have h2 := List.all_eq_true.1 hm y hy
  simp [mayB] at h2
  have h3 : y.f0 = x.f0 := congrArg Title.a hk
  unfold okA
  omega
theorem tidy_good {l0 r1 : List Line} {r2 : Int} (h : journal_Tidy.f l0 = some (r1, r2)) (hm : l0.all mayB = true) (hw : (grp l0).all (fun g => within62 g.f3) = true) : (grp l0).filter (fun g => decide (g.f3 ≠ 0)) = r1 ∧ 0 = r2 := by
  unfold journal_Tidy.f at h
  split at h
  · unfold tidyR at h
    rw [if_pos hm, if_pos hw] at h
    injection h with h
    injection h with h1 h2
    exact ⟨h1, h2⟩
  · cases h
theorem tidy_refused {l0 r1 : List Line} {r2 : Int} (h : journal_Tidy.f l0 = some (r1, r2)) {g : Line} (hg : g ∈ grp l0) (hw : ¬ within62 g.f3 = true) : [] = r1 ∧ 2 = r2 := by
  unfold journal_Tidy.f at h
  split at h
  · have hn : ¬ ((grp l0).all (fun g => within62 g.f3) = true) := fun h1 => hw (List.all_eq_true.1 h1 g hg)
    unfold tidyR at h
    rw [if_neg hn] at h
    split at h
    all_goals
      injection h with h
      injection h with h1 h2
      exact ⟨h1, h2⟩
  · cases h
theorem tidy_same {l o o' : List Line} (h : o.Perm ((grp l).filter fun g => decide (g.f3 ≠ 0))) (hp : o'.Perm o) (ho : Ordered o') : (grp l).filter (fun g => decide (g.f3 ≠ 0)) = o' :=
  ordered_eq (filter_ordered (grp_ordered l) _) ho (fun g => ((hp.trans h).mem_iff).symm)
theorem box_below {w3 w4 : World} {o1 o2 : Obj} (h : Below (w3.alloc o1).heap.size (w3.alloc o1) w4) : Below w3.heap.size w3 (w4.alloc o2) := by
  have h1 : Below w3.heap.size w3 w4 := below_then (below_alloc (Below.refl _ _) o1) (by simp) h
  exact h1.alloc h1.size o2
theorem ranges_below {H : Type} {P : Program} {k : TypeId} {R : Value → Option (DataW H × List MemPlace)} {w w' : World} {b r n : Nat} {D : DataW H} {left : Lit → Bool} {cnt : Nat} (h : w.ranges P k R b r n D left cnt) (hb : Below w.heap.size w w') : w'.ranges P k R b r n D left cnt :=
  h.kept (row := none) (grown_of_below hb none) (by simp) (by simp)
theorem may_grp {l : List Line} (hm : l.all mayB = true) {g : Line} (hg : g ∈ grp l) (hz : ¬ g.f3 = 0) (hw : within62 g.f3 = true) : mayB g = true := by
  obtain ⟨⟨y, hy, hk⟩, _⟩ := (mem_grp l g).1 hg
  have h2 := List.all_eq_true.1 hm y hy
  simp [mayB] at h2
  have h3 : y.f0 = g.f0 := congrArg Title.a hk
  simp [mayB, hw, hz]
  omega
theorem may_not {g : Line} (hw : ¬ within62 g.f3 = true) : mayB g = false := by
  simp only [mayB]
  have : within62 g.f3 = false := by simpa using hw
  rw [this]
  simp
theorem i64_within {n : Int} (h : within62 n = true) : i64ok n = true := by
  rw [i64ok_iff]
  simp [within62] at h
  omega
theorem title_cells {wr w3 w4 : World} {a b c : Value} {e : TypeId} (hs : w3.heap.size = wr.heap.size) (h : Below (w3.alloc (.cells #[a, b, c] e)).heap.size (w3.alloc (.cells #[a, b, c] e)) w4) :
    w4.cell? ⟨wr.heap.size, 0, none⟩ = some a ∧ w4.cell? ⟨wr.heap.size, 1, none⟩ = some b ∧ w4.cell? ⟨wr.heap.size, 2, none⟩ = some c := by
  rw [← hs]
  refine ⟨?_, ?_, ?_⟩
  · exact (h.cell (p := ⟨w3.heap.size, 0, none⟩) (by simp)).trans (by simp)
  · exact (h.cell (p := ⟨w3.heap.size, 1, none⟩) (by simp)).trans (by simp)
  · exact (h.cell (p := ⟨w3.heap.size, 2, none⟩) (by simp)).trans (by simp)
theorem line_cells {w4 w5 : World} {a b c d : Value} {e : TypeId} (h : Below (w4.alloc (.cells #[a, b, c, d] e)).heap.size (w4.alloc (.cells #[a, b, c, d] e)) w5) :
    w5.cell? ⟨w4.heap.size, 0, none⟩ = some a ∧ w5.cell? ⟨w4.heap.size, 1, none⟩ = some b ∧ w5.cell? ⟨w4.heap.size, 2, none⟩ = some c ∧ w5.cell? ⟨w4.heap.size, 3, none⟩ = some d := by
  refine ⟨?_, ?_, ?_, ?_⟩
  · exact (h.cell (p := ⟨w4.heap.size, 0, none⟩) (by simp)).trans (by simp)
  · exact (h.cell (p := ⟨w4.heap.size, 1, none⟩) (by simp)).trans (by simp)
  · exact (h.cell (p := ⟨w4.heap.size, 2, none⟩) (by simp)).trans (by simp)
  · exact (h.cell (p := ⟨w4.heap.size, 3, none⟩) (by simp)).trans (by simp)
theorem new_cells {a W : World} (h : Below a.heap.size a W) (n : Int) (e : TypeId) : (W.alloc (.cells #[.int .i64 n] e)).heap[W.heap.size]? = some (.cells #[.int .i64 n] e (0, 0)) := heap_alloc_new W _
theorem cell_of_cells {W : World} {g : Nat} {y : Value} {e : TypeId} (h : W.heap[g]? = some (.cells #[y] e (0, 0))) {j : Nat} {u : Value} (hj : [y][j]? = some u) : W.cell? ((⟨g, 0, none⟩ : Addr).add j) = some u := by
  match j, hj with
  | 0, hj =>
    simp at hj
    subst hj
    simp [Addr.add, World.cell?, h]
theorem info64 : (Try.prog.info? 2).map (fun i => (i.zero, i.size, i.bytes)) = some (some (.int .i64 0), 1, 8) := by kernel_rfl
def tidy.T7 : Bool × List (List Nat × List Nat) := (true, [([], []), ([], []), ([1], [1]), ([], []), ([], []), ([4, 2], [4]), ([3, 5], [3, 5]), ([], []), ([7], [7]), ([8], [8]), ([6, 9, 5], [6, 9]), ([0, 2, 10, 10, 0, 1, 2, 3, 4, 5, 6, 7, 8, 9, 10], [0, 2, 10])])
def tidy.B7 : List Nat := [0, 0, 2, 0, 0, 22, 62, 0, 128, 384, 1022, 2047]
theorem tidy.tab7 : rtab .any (opsOf Try.f51 7) = tidy.T7 := by kernel_rfl
theorem tidy.bits7 : waitsOk tidy.T7.2 tidy.B7 = true := by kernel_rfl
theorem zero138 (w : World) : (zeroValue 138).run Try.prog w = .ok (.slice none 0 0) w := by kernel_rfl

set_option maxHeartbeats 4000000 in
set_option maxRecDepth 100000 in
theorem journal_Tidy.calls (A0 : Option Addr) (c0 : Nat) (l0 : List Line) (r1 : List Line) (r2 : Int) (w : World) (hr0 : Kd.C k113 w A0 l0.length l0) (hc0 : l0.length ≤ c0) (h : journal_Tidy.f l0 = some (r1, r2)) :
    Calls Try.prog 51 #[.slice A0 l0.length c0] w fun e w' => ∃ v0_ : Value, e = .returned (.tuple #[v0_, .int .i64 r2]) ∧ Kd.R k113 113 w' w.heap.size (fun _ => True) v0_ r1 ∧ Below w.heap.size w w' := by
  have hmm := @run_makeMap Try.prog
  have hu := Try.underlying113
  obtain ⟨i0, hi0, hz0, hz1, hz2⟩ := info_parts info64
  have hok : l0.all okL = true ∧ l0.length < 4398046511104 := by
    unfold journal_Tidy.f at h
    split at h
    · assumption
    · cases h
  have hlen := hok.2
  have HOKL := Aside0.mk hok.1
  clear hok
  have HR := Aside0.mk hr0
  have HF := Aside0.mk h
  clear hr0 h
  go_enter Try.func51, Try.ntmps51
  go_wp2
  go_loopw [16] (fun i wr => ∃ k : Nat, k ≤ l0.length ∧ i = .int .i64 k ∧ Aside0 ((l0.take k).all mayB = true) ∧ wr.ownsGroups Try.prog 200 (w.heap.size + 1) 2 .i64 w.heap.size k (DmR (l0.take k).reverse) ∧ Below w.heap.size w wr ∧ w.heap.size + 1 ≤ wr.heap.size)
    (fun i _ => l0.length - (intOf i).toNat)
  case atStart => exact ⟨0, Nat.zero_le _, rfl, ⟨rfl⟩, World.ownsGroups_made _ _ _ _ _, (Below.refl _ _).alloc (Nat.le_refl _) _, by simp⟩
  case round =>
    obtain ⟨k, hk, rfl, hmay, hown, hb, hws⟩ := hrel
    have HOWN := Aside0.mk hown
    clear hown
    by_cases hlt : k < l0.length
    · obtain ⟨ad, rfl, x0, x1, x2, x3⟩ := at_T113 (Kd.C_below HR.out hb) k (by omega) (by omega)
      rw [Int.toNat_natCast] at x0 x1 x2 x3
      obtain ⟨x, hx⟩ : ∃ x, x = rd_T113 l0 k := ⟨_, rfl⟩
      rw [← hx] at x0 x1 x2 x3
      have HX := Aside0.mk hx
      clear hx
      by_cases hm : mayB x = true
      · have hcm := fun W => journal_may.calls x.f0 x.f1 x.f2 x.f3 true W (by rw [may_f, hm])
        have HCM := Aside0.mk hcm
        have HM := Aside0.mk hm
        have hokx := okL_at HOKL.out hlt HX.out
        have HOK := Aside0.mk (okT_of hokx)
        have HOKS := Aside0.mk (okT_take HOKL.out k)
        have HWF := Aside0.mk (wf_i64 (amt_of hokx))
        have HOW := Aside0.mk (groups_below HOWN.out (below_alloc (Below.refl _ _) (.cells #[.int .i64 x.f0, .int .u64 x.f1, .int .u64 x.f2, .int .i64 x.f3] 113)))
        clear hcm hm hokx
        go_wp2_with (go_at_call 72; refine (HCM.out _).mono ?_; rintro e w1 ⟨rfl, hb1⟩)
        have HOW := Aside0.mk (groups_below HOW.out hb1)
        have HBX := Aside0.mk (fun (W : World) (hW : Below w1.heap.size w1 W) => box_cells (wr := wr) hb1 hW)
        have HB1 := Aside0.mk hb1
        have hw1 : wr.heap.size + 1 ≤ w1.heap.size := by have := hb1.size; simpa using this
        clear hb1
        refine start_ (n := 12) (S := fun w' => w'.cell? ⟨wr.heap.size, 0, none⟩ = some (.int .i64 x.f0) ∧ w'.cell? ⟨wr.heap.size, 1, none⟩ = some (.int .u64 x.f1) ∧ w'.cell? ⟨wr.heap.size, 2, none⟩ = some (.int .u64 x.f2) ∧ w'.cell? ⟨wr.heap.size, 3, none⟩ = some (.int .i64 x.f3)) (ds := [11]) #[false, false, false, false, false, false, false, false, false, false, false, false] (by kernel_rfl) rfl rfl (HBX.out _ (below_drew (Below.refl _ _))) (fun hHeld => ?_)
        refine with_tabW tidy.tab7 tidy.bits7 (fun HT_ HW_ => ?_)
        have B0 := Aside0.mk (below_drew (Below.refl w1.heap.size w1))
        generalize w1.drew = W0 at B0 hHeld ⊢
        refine pure_ (i := 0) (N := some 23) (v := ?_) (a' := ?_) #[true, false, false, false, false, false, false, false, false, false, false, false] rfl rfl (any_of HT_.out (by kernel_rfl)) (fun _ _ _ h => h) (Or.inl ⟨by rfl, ?_⟩) ?_ ?_
        rotate_left
        · intro w'
          go_simp
          with_reducible rfl
        rotate_left
        · simp only [Act.put, List.setIfInBounds_toArray, List.set_cons_zero, List.set_cons_succ, i64_w, i32_w]
          rfl
        refine pure_ (i := 3) (N := some 26) (v := ?_) (a' := ?_) #[true, false, false, true, false, false, false, false, false, false, false, false] rfl rfl (any_of HT_.out (by kernel_rfl)) (fun _ _ _ h => h) (Or.inl ⟨by rfl, ?_⟩) ?_ ?_
        rotate_left
        · intro w'
          go_simp
          with_reducible rfl
        rotate_left
        · simp only [Act.put, List.setIfInBounds_toArray, List.set_cons_zero, List.set_cons_succ, i64_w, i32_w]
          rfl
        refine take_ (i := 1) (N := some 24) (v := ?_) (a' := ?_) #[true, true, false, true, false, false, false, false, false, false, false, false] rfl rfl (take_ofW HT_.out HW_.out (by kernel_rfl)) (fun _ _ _ h => h) (Or.inl ⟨by rfl, ?_⟩) hHeld ?_ ?_
        rotate_left
        · rintro w' ⟨s0, s1, s2, s3⟩
          go_simp
          with_reducible rfl
        rotate_left
        · simp only [Act.put, List.setIfInBounds_toArray, List.set_cons_zero, List.set_cons_succ, i64_w, i32_w]
          rfl
        refine take_ (i := 4) (N := some 27) (v := ?_) (a' := ?_) #[true, true, false, true, true, false, false, false, false, false, false, false] rfl rfl (take_ofW HT_.out HW_.out (by kernel_rfl)) (fun _ _ _ h => h) (Or.inl ⟨by rfl, ?_⟩) hHeld ?_ ?_
        rotate_left
        · rintro w' ⟨s0, s1, s2, s3⟩
          go_simp
          with_reducible rfl
        rotate_left
        · simp only [Act.put, List.setIfInBounds_toArray, List.set_cons_zero, List.set_cons_succ, i64_w, i32_w]
          rfl
        refine pure_ (i := 7) (N := some 30) (v := ?_) (a' := ?_) #[true, true, false, true, true, false, false, true, false, false, false, false] rfl rfl (any_of HT_.out (by kernel_rfl)) (fun _ _ _ h => h) (Or.inl ⟨by rfl, ?_⟩) ?_ ?_
        rotate_left
        · intro w'
          go_simp
          with_reducible rfl
        rotate_left
        · simp only [Act.put, List.setIfInBounds_toArray, List.set_cons_zero, List.set_cons_succ, i64_w, i32_w]
          rfl
        refine take_ (i := 8) (N := some 31) (v := ?_) (a' := ?_) #[true, true, false, true, true, false, false, true, true, false, false, false] rfl rfl (take_ofW HT_.out HW_.out (by kernel_rfl)) (fun _ _ _ h => h) (Or.inl ⟨by rfl, ?_⟩) hHeld ?_ ?_
        rotate_left
        · rintro w' ⟨s0, s1, s2, s3⟩
          go_simp
          with_reducible rfl
        rotate_left
        · simp only [Act.put, List.setIfInBounds_toArray, List.set_cons_zero, List.set_cons_succ, i64_w, i32_w]
          rfl
        refine join_ (σ := Value × List Int × Nat) 2 #[true, true, true, true, true, true, true, true, true, true, false, false] (fun s => [(25, .agg #[.int .i64 x.f0, .int .u64 x.f1, .int .u64 x.f2]), (28, .agg #[.int .i64 x.f0, .int .u64 x.f1, .int .u64 x.f2]), (29, s.1), (32, .slice (some ⟨s.2.2, 0, none⟩) 1 1)]) (fun s w' => Below w1.heap.size w1 w' ∧ w'.heap[s.2.2]? = some (.cells #[.int .i64 x.f3] 2 (0, 0)) ∧ w1.heap.size ≤ s.2.2 ∧ w'.ownsInts (w.heap.size + 1) 2 .i64 s.1 s.2.1 ∧ s.2.1 = amtsR (l0.take k).reverse (keyT x) ∧ w'.groupBack Try.prog 198 200 (w.heap.size + 1) 2 .i64 w.heap.size k (DmR (l0.take k).reverse) (tv (keyT x)) (klit (keyT x)) s.1) ?_ (fun hjoin => ?_)
        · rintro ⟨v, zs, g⟩ w' ⟨hb2, hg2, hl2, ho2, hz2, hk2⟩
          have B2 := Aside0.mk hb2
          have HK2 := Aside0.mk hk2
          have HO2 := Aside0.mk (show w'.ownsInts (w.heap.size + 1) 2 .i64 v zs from ho2)
          have HG2 := Aside0.mk (show w'.heap[g]? = some (.cells #[.int .i64 x.f3] 2 (0, 0)) from hg2)
          have HZ2 := Aside0.mk (show zs = amtsR (l0.take k).reverse (keyT x) from hz2)
          have hs1 := B2.out.size
          clear hb2 hk2 ho2 hg2 hz2
          refine norm_ (a' := ?_) ?_ ?_
          rotate_left
          · simp only [putAll, Act.put, List.setIfInBounds_toArray, List.set_cons_zero, List.set_cons_succ]
            rfl
          refine one_ (i := 10) (N := some 33) #[true, true, true, true, true, true, true, true, true, true, true, false] rfl rfl (one_of HT_.out (by kernel_rfl)) (by decide) (fun K hK => ?_)
          have hle := amtsR_len (l0.take k).reverse (keyT x)
          rw [List.length_reverse, List.length_take, ← HZ2.out] at hle
          obtain ⟨v', w3, hr, hown', hgrow, hnil, hloc⟩ := run_append_own_at (P := Try.prog) w' (w.heap.size + 1) 138 138 2 i0 (.int .i64 0) 1 8 Try.underlying138 hi0 hz0 hz1 hz2 rfl (by decide) v zs.length _ HO2.out.1 ⟨g, 0, none⟩ 1 1 [.int .i64 x.f3] rfl (fun j u hj => cell_of_cells HG2.out hj) (by simp [Value.oneCell']) (by unfold maxLen; omega) (by omega) (by omega)
          refine value_ (v := v') (by rfl) rfl (exec_append (by rfl) (by rfl) (by rfl) hr) ?_
          have HO3 := Aside0.mk (HO2.out.appended hown' HWF.out)
          have G3 := Aside0.mk hgrow
          have HLOC := Aside0.mk hloc
          have hbx : wr.heap.size < w'.heap.size := by omega
          have hbo : v.ownBlock ≠ some wr.heap.size := by
            intro e
            exact own_not_box HO2.out.1 e (box_block HB1.out B2.out)
          refine hK.out _ _ ?_ (fun hHeld => ?_)
          · have h4 := HBX.out _ B2.out
            exact ⟨hgrow.cell h4.1 (fun e => hbo e.symm), hgrow.cell h4.2.1 (fun e => hbo e.symm), hgrow.cell h4.2.2.1 (fun e => hbo e.symm), hgrow.cell h4.2.2.2 (fun e => hbo e.symm)⟩
          clear hK hown' hgrow hnil hloc hr
          (refine norm_ (a' := ?_) ?_ ?_; rotate_left; · (show Act.put _ (some 33) _ = _; simp only [Act.put, List.setIfInBounds_toArray, List.set_cons_zero, List.set_cons_succ, i64_w, i32_w]; rfl))
          refine last_ (i := 11) (N := none) #[true, true, true, true, true, true, true, true, true, true, true, true] rfl rfl (one_of HT_.out (by kernel_rfl)) (by decide) (fun K hK => ?_)
          obtain ⟨w4, hr4, hown4, hgrow4⟩ := HK2.out w3 v' (zs ++ [x.f3]) G3.out HO3.out (by simp; omega) (HLOC.out.imp id (fun h => ⟨_, h, Nat.le_refl _⟩))
          refine skip_ (by rfl) rfl (exec_mapUpdate (by rfl) (by rfl) (by rfl) (by rfl) hr4) ?_
          refine hK.out _ _ ?_
          refine done_ (done_of HT_.out (by kernel_rfl)) ?_
          clear hK hr4 hHeld
          have R := tidy_rel hlt HX.out hmay.out HM.out hb HB1.out B2.out HO2.out G3.out HO3.out HZ2.out hown4 hgrow4 hws
          clear hown4 hgrow4 hmm
          go_wp2
          go_roundw
          case rel => exact ⟨k + 1, by omega, by go_num, ⟨R.1⟩, R.2.1, R.2.2.1, R.2.2.2⟩
          case measure => simp [intOf]; omega
        refine two_ (i := 2) (j := 9) (Ni := some 25) (Nj := some 32) #[true, true, true, true, true, false, false, true, true, false, false, false] #[true, true, false, true, true, false, false, true, true, true, false, false] rfl rfl rfl rfl (two_of HT_.out (by kernel_rfl)) (by decide) (by decide) (fun K hK => ?_) (fun K hK => ?_)
        · skip
          refine goes_ Try.func107 (by kernel_rfl) rfl #[.agg #[.int .i64 x.f0, .int .u64 x.f1, .int .u64 x.f2, .int .i64 x.f3]] (by rfl) rfl rfl (by (try simp only [List.map_toArray, List.map_cons, List.map_nil]); first | done | rfl) ?_
          with_reducible refine (journal_of.calls x.f0 x.f1 x.f2 x.f3 x.f0 x.f1 x.f2 _ rfl).mono ?_
          rintro e W1 ⟨rfl, hb_1⟩
          have B1 := Aside0.mk (below_then B0.out (B0.out.size) hb_1)
          clear hb_1
          refine ⟨_, rfl, ?_⟩
          refine hK.out _ _ (HBX.out _ B1.out) (fun hHeld => ?_)
          clear hK
          (refine norm_ (a' := ?_) ?_ ?_; rotate_left; · (show Act.put _ (some 25) _ = _; simp only [Act.put, List.setIfInBounds_toArray, List.set_cons_zero, List.set_cons_succ, i64_w, i32_w]; rfl))
          refine two_ (i := 5) (j := 9) (Ni := some 28) (Nj := some 32) #[true, true, true, true, true, true, false, true, true, false, false, false] #[true, true, true, true, true, false, false, true, true, true, false, false] rfl rfl rfl rfl (two_of HT_.out (by kernel_rfl)) (by decide) (by decide) (fun K hK => ?_) (fun K hK => ?_)
          · skip
            refine goes_ Try.func107 (by kernel_rfl) rfl #[.agg #[.int .i64 x.f0, .int .u64 x.f1, .int .u64 x.f2, .int .i64 x.f3]] (by rfl) rfl rfl (by (try simp only [List.map_toArray, List.map_cons, List.map_nil]); first | done | rfl) ?_
            with_reducible refine (journal_of.calls x.f0 x.f1 x.f2 x.f3 x.f0 x.f1 x.f2 _ rfl).mono ?_
            rintro e W2 ⟨rfl, hb_2⟩
            have B2 := Aside0.mk (below_then B1.out (B1.out.size) hb_2)
            clear hb_2
            refine ⟨_, rfl, ?_⟩
            refine hK.out _ _ (HBX.out _ B2.out) (fun hHeld => ?_)
            clear hK
            (refine norm_ (a' := ?_) ?_ ?_; rotate_left; · (show Act.put _ (some 28) _ = _; simp only [Act.put, List.setIfInBounds_toArray, List.set_cons_zero, List.set_cons_succ, i64_w, i32_w]; rfl))
            refine two_ (i := 6) (j := 9) (Ni := some 29) (Nj := some 32) #[true, true, true, true, true, true, true, true, true, false, false, false] #[true, true, true, true, true, true, false, true, true, true, false, false] rfl rfl rfl rfl (two_of HT_.out (by kernel_rfl)) (by decide) (by decide) (fun K hK => ?_) (fun K hK => ?_)
            · skip
              obtain ⟨v, zs, hrun, hat, hoi, hzl, hback⟩ := (groups_below HOW.out B2.out).at tm_law Try.underlying198 (zero138 _) (by unfold maxLen; omega) (keyOf_tv (t := keyT x) HOK.out)
              have V3 := Aside0.mk hoi
              have K3 := Aside0.mk hback
              have ZS := Aside0.mk (zs_of HOKS.out HOK.out hoi hat)
              refine value_ (v := v) (by rfl) rfl (exec_lookup (by rfl) (by rfl) (by rfl) hrun) ?_
              clear hrun hat hoi hzl hback
              refine hK.out _ _ (HBX.out _ B2.out) (fun hHeld => ?_)
              clear hK
              (refine norm_ (a' := ?_) ?_ ?_; rotate_left; · (show Act.put _ (some 29) _ = _; simp only [Act.put, List.setIfInBounds_toArray, List.set_cons_zero, List.set_cons_succ, i64_w, i32_w]; rfl))
              refine one_ (i := 9) (N := some 32) #[true, true, true, true, true, true, true, true, true, true, false, false] rfl rfl (one_of HT_.out (by kernel_rfl)) (by decide) (fun K hK => ?_)
              refine value_ (v := .slice (some ⟨_, 0, none⟩) 1 1) (by rfl) rfl (by go_simp; first | rfl | exact ⟨rfl, rfl⟩) ?_
              have G4 := Aside0.mk (new_cells B2.out x.f3 2)
              have L4 := Aside0.mk B2.out.size
              have V4 := Aside0.mk (ownsInts_below V3.out (below_alloc (Below.refl _ _) (.cells #[.int .i64 x.f3] 2)))
              have K4 := Aside0.mk (groupBack_below K3.out (below_alloc (Below.refl _ _) (.cells #[.int .i64 x.f3] 2)))
              have B4 := Aside0.mk (below_alloc B2.out (.cells #[.int .i64 x.f3] 2))
              refine hK.out _ _ (HBX.out _ B4.out) (fun hHeld => ?_)
              clear hK
              (refine norm_ (a' := ?_) ?_ ?_; rotate_left; · (show Act.put _ (some 32) _ = _; simp only [Act.put, List.setIfInBounds_toArray, List.set_cons_zero, List.set_cons_succ, i64_w, i32_w]; rfl))
              exact hjoin ⟨v, zs, _⟩ _ ⟨B4.out, G4.out, L4.out, V4.out, ZS.out, K4.out⟩
            · skip
              refine value_ (v := .slice (some ⟨_, 0, none⟩) 1 1) (by rfl) rfl (by go_simp; first | rfl | exact ⟨rfl, rfl⟩) ?_
              have G5 := Aside0.mk (new_cells B2.out x.f3 2)
              have L5 := Aside0.mk B2.out.size
              have B5 := Aside0.mk (below_alloc B2.out (.cells #[.int .i64 x.f3] 2))
              refine hK.out _ _ (HBX.out _ B5.out) (fun hHeld => ?_)
              clear hK
              (refine norm_ (a' := ?_) ?_ ?_; rotate_left; · (show Act.put _ (some 32) _ = _; simp only [Act.put, List.setIfInBounds_toArray, List.set_cons_zero, List.set_cons_succ, i64_w, i32_w]; rfl))
              refine one_ (i := 6) (N := some 29) #[true, true, true, true, true, true, true, true, true, true, false, false] rfl rfl (one_of HT_.out (by kernel_rfl)) (by decide) (fun K hK => ?_)
              obtain ⟨v, zs, hrun, hat, hoi, hzl, hback⟩ := (groups_below HOW.out B5.out).at tm_law Try.underlying198 (zero138 _) (by unfold maxLen; omega) (keyOf_tv (t := keyT x) HOK.out)
              have V6 := Aside0.mk hoi
              have K6 := Aside0.mk hback
              have ZS := Aside0.mk (zs_of HOKS.out HOK.out hoi hat)
              refine value_ (v := v) (by rfl) rfl (exec_lookup (by rfl) (by rfl) (by rfl) hrun) ?_
              clear hrun hat hoi hzl hback
              refine hK.out _ _ (HBX.out _ B5.out) (fun hHeld => ?_)
              clear hK
              (refine norm_ (a' := ?_) ?_ ?_; rotate_left; · (show Act.put _ (some 29) _ = _; simp only [Act.put, List.setIfInBounds_toArray, List.set_cons_zero, List.set_cons_succ, i64_w, i32_w]; rfl))
              exact hjoin ⟨v, zs, _⟩ _ ⟨B5.out, G5.out, L5.out, V6.out, ZS.out, K6.out⟩
          · skip
            refine value_ (v := .slice (some ⟨_, 0, none⟩) 1 1) (by rfl) rfl (by go_simp; first | rfl | exact ⟨rfl, rfl⟩) ?_
            have G7 := Aside0.mk (new_cells B1.out x.f3 2)
            have L7 := Aside0.mk B1.out.size
            have B7 := Aside0.mk (below_alloc B1.out (.cells #[.int .i64 x.f3] 2))
            refine hK.out _ _ (HBX.out _ B7.out) (fun hHeld => ?_)
            clear hK
            (refine norm_ (a' := ?_) ?_ ?_; rotate_left; · (show Act.put _ (some 32) _ = _; simp only [Act.put, List.setIfInBounds_toArray, List.set_cons_zero, List.set_cons_succ, i64_w, i32_w]; rfl))
            refine one_ (i := 5) (N := some 28) #[true, true, true, true, true, true, false, true, true, true, false, false] rfl rfl (one_of HT_.out (by kernel_rfl)) (by decide) (fun K hK => ?_)
            refine goes_ Try.func107 (by kernel_rfl) rfl #[.agg #[.int .i64 x.f0, .int .u64 x.f1, .int .u64 x.f2, .int .i64 x.f3]] (by rfl) rfl rfl (by (try simp only [List.map_toArray, List.map_cons, List.map_nil]); first | done | rfl) ?_
            with_reducible refine (journal_of.calls x.f0 x.f1 x.f2 x.f3 x.f0 x.f1 x.f2 _ rfl).mono ?_
            rintro e W8 ⟨rfl, hb_8⟩
            have B8 := Aside0.mk (below_then B7.out (B7.out.size) hb_8)
            have G8 := Aside0.mk ((hb_8.block _ (Array.getElem?_eq_some_iff.1 G7.out).1).trans G7.out)
            clear hb_8
            refine ⟨_, rfl, ?_⟩
            refine hK.out _ _ (HBX.out _ B8.out) (fun hHeld => ?_)
            clear hK
            (refine norm_ (a' := ?_) ?_ ?_; rotate_left; · (show Act.put _ (some 28) _ = _; simp only [Act.put, List.setIfInBounds_toArray, List.set_cons_zero, List.set_cons_succ, i64_w, i32_w]; rfl))
            refine one_ (i := 6) (N := some 29) #[true, true, true, true, true, true, true, true, true, true, false, false] rfl rfl (one_of HT_.out (by kernel_rfl)) (by decide) (fun K hK => ?_)
            obtain ⟨v, zs, hrun, hat, hoi, hzl, hback⟩ := (groups_below HOW.out B8.out).at tm_law Try.underlying198 (zero138 _) (by unfold maxLen; omega) (keyOf_tv (t := keyT x) HOK.out)
            have V9 := Aside0.mk hoi
            have K9 := Aside0.mk hback
            have ZS := Aside0.mk (zs_of HOKS.out HOK.out hoi hat)
            refine value_ (v := v) (by rfl) rfl (exec_lookup (by rfl) (by rfl) (by rfl) hrun) ?_
            clear hrun hat hoi hzl hback
            refine hK.out _ _ (HBX.out _ B8.out) (fun hHeld => ?_)
            clear hK
            (refine norm_ (a' := ?_) ?_ ?_; rotate_left; · (show Act.put _ (some 29) _ = _; simp only [Act.put, List.setIfInBounds_toArray, List.set_cons_zero, List.set_cons_succ, i64_w, i32_w]; rfl))
            exact hjoin ⟨v, zs, _⟩ _ ⟨B8.out, G8.out, L7.out, V9.out, ZS.out, K9.out⟩
        · skip
          refine value_ (v := .slice (some ⟨_, 0, none⟩) 1 1) (by rfl) rfl (by go_simp; first | rfl | exact ⟨rfl, rfl⟩) ?_
          have G10 := Aside0.mk (new_cells B0.out x.f3 2)
          have L10 := Aside0.mk B0.out.size
          have B10 := Aside0.mk (below_alloc B0.out (.cells #[.int .i64 x.f3] 2))
          refine hK.out _ _ (HBX.out _ B10.out) (fun hHeld => ?_)
          clear hK
          (refine norm_ (a' := ?_) ?_ ?_; rotate_left; · (show Act.put _ (some 32) _ = _; simp only [Act.put, List.setIfInBounds_toArray, List.set_cons_zero, List.set_cons_succ, i64_w, i32_w]; rfl))
          refine one_ (i := 2) (N := some 25) #[true, true, true, true, true, false, false, true, true, true, false, false] rfl rfl (one_of HT_.out (by kernel_rfl)) (by decide) (fun K hK => ?_)
          refine goes_ Try.func107 (by kernel_rfl) rfl #[.agg #[.int .i64 x.f0, .int .u64 x.f1, .int .u64 x.f2, .int .i64 x.f3]] (by rfl) rfl rfl (by (try simp only [List.map_toArray, List.map_cons, List.map_nil]); first | done | rfl) ?_
          with_reducible refine (journal_of.calls x.f0 x.f1 x.f2 x.f3 x.f0 x.f1 x.f2 _ rfl).mono ?_
          rintro e W11 ⟨rfl, hb_11⟩
          have B11 := Aside0.mk (below_then B10.out (B10.out.size) hb_11)
          have G11 := Aside0.mk ((hb_11.block _ (Array.getElem?_eq_some_iff.1 G10.out).1).trans G10.out)
          clear hb_11
          refine ⟨_, rfl, ?_⟩
          refine hK.out _ _ (HBX.out _ B11.out) (fun hHeld => ?_)
          clear hK
          (refine norm_ (a' := ?_) ?_ ?_; rotate_left; · (show Act.put _ (some 25) _ = _; simp only [Act.put, List.setIfInBounds_toArray, List.set_cons_zero, List.set_cons_succ, i64_w, i32_w]; rfl))
          refine one_ (i := 5) (N := some 28) #[true, true, true, true, true, true, false, true, true, true, false, false] rfl rfl (one_of HT_.out (by kernel_rfl)) (by decide) (fun K hK => ?_)
          refine goes_ Try.func107 (by kernel_rfl) rfl #[.agg #[.int .i64 x.f0, .int .u64 x.f1, .int .u64 x.f2, .int .i64 x.f3]] (by rfl) rfl rfl (by (try simp only [List.map_toArray, List.map_cons, List.map_nil]); first | done | rfl) ?_
          with_reducible refine (journal_of.calls x.f0 x.f1 x.f2 x.f3 x.f0 x.f1 x.f2 _ rfl).mono ?_
          rintro e W12 ⟨rfl, hb_12⟩
          have B12 := Aside0.mk (below_then B11.out (B11.out.size) hb_12)
          have G12 := Aside0.mk ((hb_12.block _ (Array.getElem?_eq_some_iff.1 G11.out).1).trans G11.out)
          clear hb_12
          refine ⟨_, rfl, ?_⟩
          refine hK.out _ _ (HBX.out _ B12.out) (fun hHeld => ?_)
          clear hK
          (refine norm_ (a' := ?_) ?_ ?_; rotate_left; · (show Act.put _ (some 28) _ = _; simp only [Act.put, List.setIfInBounds_toArray, List.set_cons_zero, List.set_cons_succ, i64_w, i32_w]; rfl))
          refine one_ (i := 6) (N := some 29) #[true, true, true, true, true, true, true, true, true, true, false, false] rfl rfl (one_of HT_.out (by kernel_rfl)) (by decide) (fun K hK => ?_)
          obtain ⟨v, zs, hrun, hat, hoi, hzl, hback⟩ := (groups_below HOW.out B12.out).at tm_law Try.underlying198 (zero138 _) (by unfold maxLen; omega) (keyOf_tv (t := keyT x) HOK.out)
          have V13 := Aside0.mk hoi
          have K13 := Aside0.mk hback
          have ZS := Aside0.mk (zs_of HOKS.out HOK.out hoi hat)
          refine value_ (v := v) (by rfl) rfl (exec_lookup (by rfl) (by rfl) (by rfl) hrun) ?_
          clear hrun hat hoi hzl hback
          refine hK.out _ _ (HBX.out _ B12.out) (fun hHeld => ?_)
          clear hK
          (refine norm_ (a' := ?_) ?_ ?_; rotate_left; · (show Act.put _ (some 29) _ = _; simp only [Act.put, List.setIfInBounds_toArray, List.set_cons_zero, List.set_cons_succ, i64_w, i32_w]; rfl))
          exact hjoin ⟨v, zs, _⟩ _ ⟨B12.out, G12.out, L10.out, V13.out, ZS.out, K13.out⟩
      · have hm' : mayB x = false := by simpa using hm
        have hcm := fun W => journal_may.calls x.f0 x.f1 x.f2 x.f3 false W (by rw [may_f, hm'])
        have HCM := Aside0.mk hcm
        have HRES := Aside0.mk (tidy_bad HF.out hlt HX.out hm')
        clear hcm hm hm'
        go_wp2_with (go_at_call 72; refine (HCM.out _).mono ?_; rintro e w1 ⟨rfl, hb1⟩)
        go_ret2
        obtain ⟨h1, h2⟩ := HRES.out
        subst h1 h2
        exact ⟨_, rfl, Kd.R_nil _ _ _ _ _, below_then (below_alloc hb _) (by have := hb.size; simp; omega) hb1⟩
    · obtain rfl : k = l0.length := by omega
      rw [List.take_length] at hmay HOWN
      have HMAP := Aside0.mk (groups_map HOWN.out)
      have HOKS := Aside0.mk (fun x hx => okT_of (List.all_eq_true.1 HOKL.out x hx))
      have HOAS := Aside0.mk (fun x hx => amt_of (List.all_eq_true.1 HOKL.out x hx))
      clear hmm hlt hk
      have HB0 := Aside0.mk hb
      clear hb
      go_wp2_with (first | (at_range; refine wpList_range_own _ rfl _ 198 rfl 200 138 tm_law Try.underlying198 _ w.heap.size l0.length _ rfl HMAP.out ?_; intro w2 hrg0 hg0 hs0))
      go_frame
      obtain ⟨wo, ewo⟩ : ∃ wo : World, wo = wr := ⟨_, rfl⟩
      subst ewo
      go_loopw [7] (fun v wr2 => ∃ (left : Lit → Bool) (cnt : Nat) (o : List Line) (A : Option Addr) (c : Nat), v = .slice A o.length c ∧ wr2.ranges Try.prog 200 (rowElem wo (w.heap.size + 1) 2 .i64) w.heap.size wo.heap.size l0.length (DmR l0.reverse) left cnt ∧ Aside0 (Ranged l0 left o) ∧ Aside0 (Kd.R k113 113 wr2 wo.heap.size (fun k => k ≠ wo.heap.size) (.slice A o.length c) o) ∧ Below wo.heap.size wo wr2)
        (fun _ wr2 => wr2.rangeLeft w.heap.size wo.heap.size)
      case atStart => exact ⟨_, _, [], none, 0, rfl, hrg0, ⟨ranged_start l0 HOKS.out⟩, ⟨Kd.R_nil _ _ _ _ _⟩, ⟨hg0.os, hg0.tape, hg0.output, hg0.size, fun k hk => hg0.block k hk (by simp)⟩⟩
      case round =>
        obtain ⟨left, cnt, o, A, c, rfl, hrg, HRA, HKR, hb2⟩ := hrel
        clear hrg0 hg0 hs0
        have hol := ranged_len HRA.out
        go_wp2_with (first | (at_next; refine wpList_next_ranges _ rfl _ rfl 200 tm_law _ tv mkS tm_invK tm_invV w.heap.size wo.heap.size l0.length _ left cnt rfl hrg ?_ ?_))
        · intro hc0 hl0
          have HEND := Aside0.mk (ranged_end HRA.out hl0)
          have hcs := sort_lines wr A o.length c o wo.heap.size _ HKR.out (ended_apart HEND.out.1) (fun x hx => ended_ok HEND.out.1 hmay.out hx) (by omega)
          have HCS := Aside0.mk hcs
          have HRES := Aside0.mk (tidy_good HF.out hmay.out HEND.out.2)
          clear hl0 hcs hrg
          go_wp2_with (go_at_call 108; refine HCS.out.mono ?_; rintro e w' ⟨rfl, o', hp, ho', hR, hgr⟩)
          go_ret2
          obtain ⟨h1, h2⟩ := HRES.out
          subst h2
          have ho2 := tidy_same HEND.out.1 hp ho'
          rw [h1] at ho2
          subst ho2
          refine ⟨_, rfl, Kd.R_mono (Kd.R_lower hR (by have := HB0.out.size; omega)) (fun _ _ => trivial), ?_⟩
          exact below_then HB0.out HB0.out.size (hb2.grown hgr hb2.size (fun k hk => Kd.R_base HKR.out k hk))
        · intro t A1 n1 c1 kl y1 y2 w3 cnt1 hkey hlk hv hat hrg1 hlt1 hg1 hs1 hen
          obtain ⟨g, hg, hgt, hkl, zs, hoi, hsum, hall, x0, hx0, hxt⟩ := tidy_key (y := (y1, y2)) HOKS.out HOAS.out hkey hat hv
          subst hkl
          subst hgt
          simp only [mkS] at hoi
          simp only [mkS, tv, keyT] at hen ⊢
          obtain ⟨hn1, hc1, hC⟩ := ints_C hoi
          subst hn1
          have hb3 : Below wo.heap.size wo w3 := hb2.grown hg1 hb2.size (fun k hk => by cases hk; exact Nat.le_refl _)
          have HR3 : Aside0 (Kd.R k113 113 w3 wo.heap.size (fun k => k ≠ wo.heap.size) (.slice A o.length c) o) := ⟨Kd.R_step HKR.out (fun k hk hk2 => hg1.block k hk2 (fun e => hk (by injection e)))⟩
          have HSUM : Aside0 (∀ W, Below wo.heap.size wo W → Calls Try.prog 106 #[.slice A1 zs.length c1] W fun e w' => e = .returned (.tuple #[.int .i64 (sumR g.f3).1, .bool (sumR g.f3).2]) ∧ Below W.heap.size W w') :=
            ⟨fun W hW => arith_Sum.calls A1 c1 zs _ _ W (Kd.C_below hC hW) hc1 (by unfold arith_Sum.f; rw [if_pos hall, hsum])⟩
          have hlen2 : wo.heap.size ≤ w3.heap.size := hb3.size
          have hrl : wo.heap.size < wr.heap.size := hrg.lt
          have HG := Aside0.mk hg
          have HLK := Aside0.mk hlk
          clear hat hv hoi hsum hall hC hg hlk HKR hxt hx0
          by_cases hi : i64ok g.f3 = true
          · by_cases hz : g.f3 = 0
            · have hs : sumR g.f3 = (0, true) := by unfold sumR; rw [if_pos hi, hz]
              rw [hs] at HSUM
              have HRZ := Aside0.mk (ranged_zero HOKS.out HRA.out HG.out hz)
              clear hs hz hi
              go_wp2_with (go_at_call 106; refine (HSUM.out _ (below_alloc hb3 _)).mono ?_; rintro e w4 ⟨rfl, hb4⟩; obtain ⟨tc0, tc1, tc2⟩ := title_cells hs1 hb4)
              go_roundw
              case rel => exact ⟨_, cnt1, o, A, c, rfl, ranges_below hrg1 (box_below hb4), HRZ, ⟨Kd.R_below HR3.out (box_below hb4)⟩, below_then hb3 hb3.size (box_below hb4)⟩
              case measure => rw [(ranges_below hrg1 (box_below hb4)).left_eq, hrg.left_eq]; omega
            · have hs : sumR g.f3 = (g.f3, true) := by unfold sumR; rw [if_pos hi]
              have hzb : (g.f3 == 0) = false := by simpa using hz
              rw [hs] at HSUM
              by_cases hw : within62 g.f3 = true
              · have HMAY := Aside0.mk (fun W => journal_may.calls g.f0 g.f1 g.f2 g.f3 true W (by rw [may_f, may_grp hmay.out HG.out hz hw]))
                have HRP := Aside0.mk (ranged_put HOKS.out HRA.out HG.out HLK.out hz hw)
                clear hs hz hi hw
                go_wp2_with (first | (go_at_call 106; refine (HSUM.out _ (below_alloc hb3 _)).mono ?_; rintro e w4 ⟨rfl, hb4⟩; obtain ⟨tc0, tc1, tc2⟩ := title_cells hs1 hb4) | (go_at_call 72; refine (HMAY.out _).mono ?_; rintro e w5 ⟨rfl, hb5⟩; obtain ⟨xc0, xc1, xc2, xc3⟩ := line_cells hb5; have HB5 := Aside0.mk (below_then (box_below hb4) (box_below hb4).size hb5)) | (at_builtin; refine Kd.R_append k113 (w0 := wo) wo.heap.size rfl (.tmp 55) (.tmp 57) 30 113 (.agg #[(.int .i64 0), (.int .u64 0), (.int .u64 0), (.int .i64 0)]) 32 rfl Try.underlying30 info113 rfl (by decide) (by omega) (.slice A o.length c) o g (encL g) (fun k => k ≠ wo.heap.size) (fun _ => False) rfl rfl (k113_mkM _ _ _ g) (fun _ hk => hk.elim) (fun k hk => by have := HB5.out.size; omega) (Kd.R_below HR3.out HB5.out) (below_then hb3 hb3.size HB5.out) (by have := HB5.out.size; omega) (by omega) ?_; intro v1 w6 ho hb hg hat; obtain ⟨A2, c2, rfl, _, _⟩ := Kd.R_reads ho))
                have hr5 : w6.ranges Try.prog 200 (rowElem wo (w.heap.size + 1) 2 .i64) w.heap.size wo.heap.size l0.length (DmR l0.reverse) _ cnt1 := (ranges_below hrg1 HB5.out).kept hg
                  (fun e => by have := Kd.R_base HR3.out _ e.symm; have := HB0.out.size; omega) (fun e => HR3.out.1 _ e.symm rfl)
                go_roundw
                case rel => exact ⟨_, cnt1, o ++ [g], A2, c2, by simp, hr5, HRP, ⟨ho⟩, hb⟩
                case measure => rw [hr5.left_eq, hrg.left_eq]; omega
              · have HRES := Aside0.mk (tidy_refused HF.out HG.out hw)
                have HMAY := Aside0.mk (fun W => journal_may.calls g.f0 g.f1 g.f2 g.f3 false W (by rw [may_f, may_not hw]))
                clear hs hz hi hw
                go_wp2_with (first | (go_at_call 106; refine (HSUM.out _ (below_alloc hb3 _)).mono ?_; rintro e w4 ⟨rfl, hb4⟩; obtain ⟨tc0, tc1, tc2⟩ := title_cells hs1 hb4) | (go_at_call 72; refine (HMAY.out _).mono ?_; rintro e w5 ⟨rfl, hb5⟩))
                go_ret2
                obtain ⟨h1, h2⟩ := HRES.out
                subst h1 h2
                exact ⟨_, rfl, Kd.R_nil _ _ _ _ _, below_then HB0.out HB0.out.size (below_then hb3 hb3.size (below_then (box_below hb4) (box_below hb4).size hb5))⟩
          · have HRES := Aside0.mk (tidy_refused HF.out HG.out (fun h => hi (i64_within h)))
            have hs : sumR g.f3 = (0, false) := by unfold sumR; rw [if_neg hi]
            rw [hs] at HSUM
            clear hs hi
            go_wp2_with (go_at_call 106; refine (HSUM.out _ (below_alloc hb3 _)).mono ?_; rintro e w4 ⟨rfl, hb4⟩; obtain ⟨tc0, tc1, tc2⟩ := title_cells hs1 hb4)
            go_ret2
            obtain ⟨h1, h2⟩ := HRES.out
            subst h1 h2
            exact ⟨_, rfl, Kd.R_nil _ _ _ _ _, below_then HB0.out HB0.out.size (below_then hb3 hb3.size (box_below hb4))⟩
end Go.Proofs.Ytaoejonkiikhmaa.G

/- journal.Check: which entries may be. -/
namespace Go.Proofs.Ytaoejonkiikhmaa.G
open Go.RowKit Go.Proofs.YtaoejonkiikhmaaW.PrintWords Go.Proofs.YtaoejonkiikhmaaW.PrintLast Go.Proofs.YtaoejonkiikhmaaW.PrintMore
set_option linter.unusedVariables false
set_option linter.unusedSimpArgs false

def headBad (d k : Int) (n : Nat) : Bool := decide (d < 1) || decide (3652059 < d) || decide (k = 0) || decide (n < 2) || decide (64 < n)
def amounts (l : List Line) : List Int := l.map fun x => x.f3
def checkR (d k : Int) (l : List Line) : Int := if headBad d k l.length = true then 2 else if l.all mayB = true then (if (amounts l).sum = 0 then 0 else 200) else 2
def journal_Check.f (a0_0 a0_1 a0_2 : Int) (l0_3 : List Line) : Option Int := if l0_3.all okL = true then some (checkR a0_0 a0_1 l0_3) else none
theorem asked_true (l : List Line) : asked (fun _ => true) l = amounts l := by simp [asked, amounts]

theorem may_all_take {l : List Line} {k : Nat} (h : k < l.length) (hp : (l.take k).all mayB = true) (hx : mayB (rd_T113 l k) = true) : (l.take (k + 1)).all mayB = true := by
  rw [List.take_succ_eq_append_getElem h, List.all_append, hp]
  simp only [rd_T113, List.getD_eq_getElem?_getD, Int.toNat_natCast, List.getElem?_eq_getElem h, Option.getD_some] at hx
  simp [hx]
theorem may_not_all {l : List Line} {k : Nat} (h : k < l.length) (hx : mayB (rd_T113 l k) = false) : ¬ l.all mayB = true := by
  intro hp
  rw [List.all_eq_true] at hp
  simp only [rd_T113, List.getD_eq_getElem?_getD, Int.toNat_natCast, List.getElem?_eq_getElem h, Option.getD_some] at hx
  rw [hp _ (List.getElem_mem h)] at hx
  cases hx
theorem head_good {d k : Int} {n : Nat} (h1 : ¬ d < 1) (h2 : ¬ 3652059 < d) (h3 : ¬ k = 0) (h4 : ¬ n < 2) (h5 : ¬ 64 < n) : headBad d k n = false := by simp [headBad, h1, h2, h3, h4, h5]
theorem sumR_zero {s : Int} : ((sumR s).1 = 0 ∧ (sumR s).2 = true) ↔ s = 0 := by
  unfold sumR i64ok
  by_cases h : -9223372036854775808 ≤ s ∧ s ≤ 9223372036854775807
  · simp [h]
  · simp [h]
    intro h0; apply h; omega
theorem entry_cells {w w5 : World} {a b c d : Value} {e : TypeId} (h : Below (w.heap.size + 1) (w.alloc (.cells #[a, b, c, d] e)) w5) :
    w5.cell? ⟨w.heap.size, 0, none⟩ = some a ∧ w5.cell? ⟨w.heap.size, 1, none⟩ = some b ∧ w5.cell? ⟨w.heap.size, 2, none⟩ = some c ∧ w5.cell? ⟨w.heap.size, 3, none⟩ = some d := by
  refine ⟨?_, ?_, ?_, ?_⟩
  · exact (h.cell (p := ⟨w.heap.size, 0, none⟩) (by simp)).trans (by simp)
  · exact (h.cell (p := ⟨w.heap.size, 1, none⟩) (by simp)).trans (by simp)
  · exact (h.cell (p := ⟨w.heap.size, 2, none⟩) (by simp)).trans (by simp)
  · exact (h.cell (p := ⟨w.heap.size, 3, none⟩) (by simp)).trans (by simp)
theorem over_box {w w5 : World} {o : Obj} (h : Below (w.heap.size + 1) (w.alloc o) w5) : Below w.heap.size w w5 :=
  below_then (below_alloc (Below.refl _ _) o) (by simp) (by simpa using h)

set_option maxHeartbeats 2000000 in
set_option maxRecDepth 100000 in
theorem journal_Check.calls (a0_0 : Int) (a0_1 : Int) (a0_2 : Int) (A0_3 : Option Addr) (c0_3 : Nat) (l0_3 : List Line) (r1 : Int) (w : World) (hr0_3 : Kd.C k113 w A0_3 l0_3.length l0_3) (hc0_3 : l0_3.length ≤ c0_3) (h : journal_Check.f a0_0 a0_1 a0_2 l0_3 = some r1) :
    Calls Try.prog 17 #[.agg #[.int .i64 a0_0, .int .u8 a0_1, .int .u64 a0_2, .slice A0_3 l0_3.length c0_3]] w fun e w' => e = .returned (.int .i64 r1) ∧ Below w.heap.size w w' := by
  have hu := Try.underlying113
  have hue := Try.underlying32
  have HR := Aside0.mk hr0_3
  have HOK : Aside0 (l0_3.all okL = true) := by
    unfold journal_Check.f at h
    split at h
    · exact ⟨by assumption⟩
    · cases h
  have HRES : Aside0 (checkR a0_0 a0_1 l0_3 = r1) := by
    unfold journal_Check.f at h
    rw [if_pos HOK.out] at h
    exact ⟨Option.some.inj h⟩
  have hmax := Kd.C_max hr0_3
  clear h hr0_3
  by_cases c1 : a0_0 < 1
  · have HX : Aside0 (r1 = 2) := ⟨by rw [← HRES.out]; unfold checkR headBad; simp [c1]⟩
    have c1b : decide (a0_0 < 1) = true := decide_eq_true c1
    clear HRES
    go_enter Try.func17, Try.ntmps17
    go_wp2
    go_ret
    exact ⟨by rw [HX.out]; rfl, below_alloc (Below.refl _ _) _⟩
  by_cases c2 : 3652059 < a0_0
  · have HX : Aside0 (r1 = 2) := ⟨by rw [← HRES.out]; unfold checkR headBad; simp [c2]⟩
    have c2b : decide (3652059 < a0_0) = true := decide_eq_true c2
    clear HRES
    go_enter Try.func17, Try.ntmps17
    go_wp2
    go_ret
    exact ⟨by rw [HX.out]; rfl, below_alloc (Below.refl _ _) _⟩
  by_cases c3 : a0_1 = 0
  · have HX : Aside0 (r1 = 2) := ⟨by rw [← HRES.out]; unfold checkR headBad; simp [c3]⟩
    have c3b : (a0_1 == 0) = true := beq_iff_eq.mpr c3
    clear HRES
    go_enter Try.func17, Try.ntmps17
    go_wp2
    go_ret
    exact ⟨by rw [HX.out]; rfl, below_alloc (Below.refl _ _) _⟩
  by_cases c4 : l0_3.length < 2
  · have HX : Aside0 (r1 = 2) := ⟨by rw [← HRES.out]; unfold checkR headBad; simp [c4]⟩
    clear HRES
    go_enter Try.func17, Try.ntmps17
    go_wp2
    go_ret
    exact ⟨by rw [HX.out]; rfl, below_alloc (Below.refl _ _) _⟩
  by_cases c5 : 64 < l0_3.length
  · have HX : Aside0 (r1 = 2) := ⟨by rw [← HRES.out]; unfold checkR headBad; simp [c5]⟩
    clear HRES
    go_enter Try.func17, Try.ntmps17
    go_wp2
    go_ret
    exact ⟨by rw [HX.out]; rfl, below_alloc (Below.refl _ _) _⟩
  have HRES2 : Aside0 ((if l0_3.all mayB = true then (if (amounts l0_3).sum = 0 then (0 : Int) else 200) else 2) = r1) := ⟨by rw [← HRES.out]; unfold checkR; rw [head_good c1 c2 c3 c4 c5]; rfl⟩
  clear HRES
  have c3b : (a0_1 == 0) = false := beq_eq_false_iff_ne.mpr c3
  go_enter Try.func17, Try.ntmps17
  go_wp2
  obtain ⟨wa, hwa⟩ : ∃ wa, wa = w.alloc (.cells #[.int .i64 a0_0, .int .u8 a0_1, .int .u64 a0_2, .slice A0_3 l0_3.length c0_3] 32) := ⟨_, rfl⟩
  have HWA := Aside0.mk hwa
  rw [← hwa]
  clear hwa
  go_loopw [35] (fun i wr => ∃ (k : Nat), k ≤ l0_3.length ∧ i = .int .i64 k ∧ Aside0 ((l0_3.take k).all mayB = true) ∧ Below (w.heap.size + 1) wa wr)
    (fun i _ => l0_3.length - (intOf i).toNat)
  case atStart => exact ⟨0, Nat.zero_le _, rfl, ⟨rfl⟩, Below.refl _ _⟩
  case round =>
    obtain ⟨k, hk, rfl, HMAY, hb⟩ := hrel
    have hws : w.heap.size + 1 ≤ wr.heap.size := by have := hb.size; rw [HWA.out] at this; simpa using this
    have HBB := Aside0.mk (over_box (by rw [HWA.out] at hb; exact hb))
    by_cases hlt : k < l0_3.length
    · obtain ⟨ad, rfl, x0, x1, x2, x3⟩ := at_T113 (Kd.C_below HR.out HBB.out) k (by omega) (by omega)
      rw [Int.toNat_natCast] at x0 x1 x2 x3
      have HST := Aside0.mk (may_all_take hlt HMAY.out)
      have HNO := Aside0.mk (may_not_all (k := k) hlt)
      obtain ⟨x, hx⟩ : ∃ x, x = rd_T113 l0_3 k := ⟨_, rfl⟩
      rw [← hx] at x0 x1 x2 x3 HST HNO
      clear hx
      cases hm : mayB x with
      | true =>
        have HCM := Aside0.mk (fun W => journal_may.calls x.f0 x.f1 x.f2 x.f3 true W (by rw [may_f, hm]))
        have HM := Aside0.mk (HST.out hm)
        clear HST HNO hm
        go_wp2_with (go_at_call 72; refine (HCM.out _).mono ?_; rintro e w1 ⟨rfl, hb1⟩; have HB1 := Aside0.mk (below_then (hb.alloc hws _) (by simp; omega) hb1); clear hb1)
        exact ⟨⟨k + 1, by omega, rfl, HM, HB1.out⟩, by simp [intOf]; omega⟩
      | false =>
        have HCM := Aside0.mk (fun W => journal_may.calls x.f0 x.f1 x.f2 x.f3 false W (by rw [may_f, hm]))
        have HX : Aside0 (r1 = 2) := ⟨by have := HRES2.out; rw [if_neg (HNO.out hm)] at this; exact this.symm⟩
        clear HST HNO hm HRES2
        go_wp2_with (go_at_call 72; refine (HCM.out _).mono ?_; rintro e w1 ⟨rfl, hb1⟩; have HB1 := Aside0.mk (below_then (below_alloc HBB.out _) (below_alloc HBB.out _).size hb1); clear hb1)
        go_ret
        exact ⟨by rw [HX.out]; rfl, HB1.out⟩
    · obtain rfl : k = l0_3.length := by omega
      rw [List.take_length] at HMAY
      obtain ⟨e0, e1, e2, e3⟩ := entry_cells (by rw [HWA.out] at hb; exact hb)
      have HS := Aside0.mk (jsum_all A0_3 c0_3 l0_3 wr (Kd.C_below HR.out HBB.out) hc0_3 (by omega) HOK.out)
      rw [asked_true] at HS
      obtain ⟨s, hs⟩ : ∃ s, s = sumR (amounts l0_3).sum := ⟨_, rfl⟩
      have HZ := Aside0.mk (sumR_zero (s := (amounts l0_3).sum))
      rw [← hs] at HS HZ
      clear hs
      obtain ⟨s1, s2⟩ := s
      have H3 := HRES2.out
      rw [if_pos HMAY.out] at H3
      have HR3 := Aside0.mk H3
      clear H3 HRES2
      by_cases hz : s1 = 0
      · subst hz
        cases s2 with
        | true =>
          have HX : Aside0 (r1 = 0) := ⟨by have := HR3.out; rw [if_pos (HZ.out.1 ⟨rfl, rfl⟩)] at this; exact this.symm⟩
          clear HR3
          go_wp2_with (go_at_call 73; refine HS.out.mono ?_; rintro e w1 ⟨rfl, hb1⟩; have HB1 := Aside0.mk (below_then HBB.out HBB.out.size hb1); clear hb1)
          go_ret
          exact ⟨by rw [HX.out]; rfl, HB1.out⟩
        | false =>
          have HX : Aside0 (r1 = 200) := ⟨by have := HR3.out; rw [if_neg (fun h => by have := (HZ.out.2 h).2; cases this)] at this; exact this.symm⟩
          clear HR3
          go_wp2_with (go_at_call 73; refine HS.out.mono ?_; rintro e w1 ⟨rfl, hb1⟩; have HB1 := Aside0.mk (below_then HBB.out HBB.out.size hb1); clear hb1)
          go_ret
          exact ⟨by rw [HX.out]; rfl, HB1.out⟩
      · have HX : Aside0 (r1 = 200) := ⟨by have := HR3.out; rw [if_neg (fun h => hz (HZ.out.2 h).1)] at this; exact this.symm⟩
        have hzb : (s1 != 0) = true := bne_iff_ne.mpr hz
        clear HR3
        go_wp2_with (go_at_call 73; refine HS.out.mono ?_; rintro e w1 ⟨rfl, hb1⟩; have HB1 := Aside0.mk (below_then HBB.out HBB.out.size hb1); clear hb1)
        go_ret
        exact ⟨by rw [HX.out]; rfl, HB1.out⟩
end Go.Proofs.Ytaoejonkiikhmaa.G

/- journal.Totals: the sums of debits, and of credits. -/
namespace Go.Proofs.Ytaoejonkiikhmaa.G
open Go.RowKit Go.Proofs.YtaoejonkiikhmaaW.PrintWords Go.Proofs.YtaoejonkiikhmaaW.PrintLast Go.Proofs.YtaoejonkiikhmaaW.PrintMore
set_option linter.unusedVariables false
set_option linter.unusedSimpArgs false

def debits (l : List Line) : Int × Bool := sumR (asked (fun n => decide (0 < n)) l).sum
def credits (l : List Line) : Int × Bool := sumR (asked (fun n => decide (n < 0)) l).sum
def totalsR (d k : Int) (l : List Line) : Int × Int × Int := if checkR d k l = 0 then (if (debits l).2 = true then ((debits l).1, wrap64 (-(credits l).1), 0) else (0, 0, 2)) else (0, 0, checkR d k l)
def journal_Totals.f (a0_0 a0_1 a0_2 : Int) (l0_3 : List Line) : Option (Int × Int × Int) := if l0_3.all okL = true ∧ l0_3.length < 4398046511104 then some (totalsR a0_0 a0_1 l0_3) else none

set_option maxHeartbeats 2000000 in
set_option maxRecDepth 100000 in
theorem journal_Totals.calls (a0_0 : Int) (a0_1 : Int) (a0_2 : Int) (A0_3 : Option Addr) (c0_3 : Nat) (l0_3 : List Line) (r1 r2 r3 : Int) (w : World) (hr0_3 : Kd.C k113 w A0_3 l0_3.length l0_3) (hc0_3 : l0_3.length ≤ c0_3) (h : journal_Totals.f a0_0 a0_1 a0_2 l0_3 = some (r1, r2, r3)) :
    Calls Try.prog 62 #[.agg #[.int .i64 a0_0, .int .u8 a0_1, .int .u64 a0_2, .slice A0_3 l0_3.length c0_3]] w fun e w' => e = .returned (.tuple #[.int .i64 r1, .int .i64 r2, .int .i64 r3]) ∧ Below w.heap.size w w' := by
  have hu := Try.underlying113
  have hue := Try.underlying32
  have HR := Aside0.mk hr0_3
  have HC : Aside0 (l0_3.all okL = true ∧ l0_3.length < 4398046511104) := by
    unfold journal_Totals.f at h
    split at h
    · exact ⟨by assumption⟩
    · cases h
  have HRES : Aside0 (totalsR a0_0 a0_1 l0_3 = (r1, r2, r3)) := by
    unfold journal_Totals.f at h
    rw [if_pos HC.out] at h
    exact ⟨Option.some.inj h⟩
  clear h hr0_3
  obtain ⟨wa, hwa⟩ : ∃ wa, wa = w.alloc (.cells #[.int .i64 a0_0, .int .u8 a0_1, .int .u64 a0_2, .slice A0_3 l0_3.length c0_3] 32) := ⟨_, rfl⟩
  have HWA := Aside0.mk hwa
  have HCH := Aside0.mk (journal_Check.calls a0_0 a0_1 a0_2 A0_3 c0_3 l0_3 (checkR a0_0 a0_1 l0_3) wa (by rw [hwa]; exact Kd.C_alloc HR.out _) hc0_3 (by unfold journal_Check.f; rw [if_pos HC.out.1]))
  by_cases c1 : checkR a0_0 a0_1 l0_3 = 0
  · rw [c1] at HCH
    have HS1 := Aside0.mk (fun (W : World) (hW : Below w.heap.size w W) => jsum_pos A0_3 c0_3 l0_3 W (Kd.C_below HR.out hW) hc0_3 HC.out.2 HC.out.1)
    have HS2 := Aside0.mk (fun (W : World) (hW : Below w.heap.size w W) => jsum_neg A0_3 c0_3 l0_3 W (Kd.C_below HR.out hW) hc0_3 HC.out.2 HC.out.1)
    have HR2 : Aside0 ((if (debits l0_3).2 = true then ((debits l0_3).1, wrap64 (-(credits l0_3).1), (0 : Int)) else (0, 0, 2)) = (r1, r2, r3)) := ⟨by rw [← HRES.out]; unfold totalsR; rw [if_pos c1]⟩
    obtain ⟨a, ha⟩ : ∃ a, a = debits l0_3 := ⟨_, rfl⟩
    obtain ⟨b, hb⟩ : ∃ b, b = credits l0_3 := ⟨_, rfl⟩
    rw [← ha, ← hb] at HR2
    change Aside0 (∀ (W : World), Below w.heap.size w W → Calls _ _ _ _ fun e w' => e = .returned (.tuple #[.int .i64 (debits l0_3).1, .bool (debits l0_3).2]) ∧ _) at HS1
    change Aside0 (∀ (W : World), Below w.heap.size w W → Calls _ _ _ _ fun e w' => e = .returned (.tuple #[.int .i64 (credits l0_3).1, .bool (credits l0_3).2]) ∧ _) at HS2
    rw [← ha] at HS1
    rw [← hb] at HS2
    clear ha hb HRES c1
    obtain ⟨a1, a2⟩ := a
    obtain ⟨b1, b2⟩ := b
    cases a2 with
    | true =>
      go_enter Try.func62, Try.ntmps62
      go_wp2_with (first | (go_at_call 17; rw [← HWA.out]; refine HCH.out.mono ?_; rintro e w1 ⟨rfl, hb1⟩; obtain ⟨e0, e1, e2, e3⟩ := entry_cells (w := w) (by have := hb1; rw [HWA.out] at this; simpa using this); have HB1 := Aside0.mk (over_box (w := w) (by have := hb1; rw [HWA.out] at this; simpa using this)); clear hb1) | (go_at_call 73; refine (HS1.out _ HB1.out).mono ?_; rintro e w2 ⟨rfl, hb2⟩; clear HS1; have f3 := pw_cell_below hb2 e3; have HB2 := Aside0.mk (below_then HB1.out HB1.out.size hb2); clear hb2) | (go_at_call 73; refine (HS2.out _ HB2.out).mono ?_; rintro e w3 ⟨rfl, hb3⟩; have HB3 := Aside0.mk (below_then HB2.out HB2.out.size hb3); clear hb3))
      go_ret3
      have H := HR2.out
      simp only [if_true] at H
      obtain ⟨h1, h2⟩ := Prod.mk.inj H
      obtain ⟨h2, h3⟩ := Prod.mk.inj h2
      subst h1 h2 h3
      exact ⟨rfl, HB3.out⟩
    | false =>
      go_enter Try.func62, Try.ntmps62
      go_wp2_with (first | (go_at_call 17; rw [← HWA.out]; refine HCH.out.mono ?_; rintro e w1 ⟨rfl, hb1⟩; obtain ⟨e0, e1, e2, e3⟩ := entry_cells (w := w) (by have := hb1; rw [HWA.out] at this; simpa using this); have HB1 := Aside0.mk (over_box (w := w) (by have := hb1; rw [HWA.out] at this; simpa using this)); clear hb1) | (go_at_call 73; refine (HS1.out _ HB1.out).mono ?_; rintro e w2 ⟨rfl, hb2⟩; clear HS1; have f3 := pw_cell_below hb2 e3; have HB2 := Aside0.mk (below_then HB1.out HB1.out.size hb2); clear hb2))
      go_ret3
      have H := HR2.out
      simp only [Bool.false_eq_true, if_false] at H
      obtain ⟨h1, h2⟩ := Prod.mk.inj H
      obtain ⟨h2, h3⟩ := Prod.mk.inj h2
      subst h1 h2 h3
      exact ⟨rfl, HB2.out⟩
  · have H := HRES.out
    unfold totalsR at H
    rw [if_neg c1] at H
    obtain ⟨h1, h2⟩ := Prod.mk.inj H
    obtain ⟨h2, h3⟩ := Prod.mk.inj h2
    have HX := Aside0.mk (show (0 : Int) = r1 ∧ (0 : Int) = r2 ∧ checkR a0_0 a0_1 l0_3 = r3 from ⟨h1, h2, h3⟩)
    clear H h1 h2 h3 HRES
    have c1b : (checkR a0_0 a0_1 l0_3 != 0) = true := bne_iff_ne.mpr c1
    clear c1
    go_enter Try.func62, Try.ntmps62
    go_wp2_with (go_at_call 17; rw [← HWA.out]; refine HCH.out.mono ?_; rintro e w1 ⟨rfl, hb1⟩; obtain ⟨e0, e1, e2, e3⟩ := entry_cells (w := w) (by have := hb1; rw [HWA.out] at this; simpa using this); have HB1 := Aside0.mk (over_box (w := w) (by have := hb1; rw [HWA.out] at this; simpa using this)); clear hb1)
    go_ret3
    obtain ⟨h1, h2, h3⟩ := HX.out
    subst h1 h2 h3
    exact ⟨rfl, HB1.out⟩
end Go.Proofs.Ytaoejonkiikhmaa.G

-- Text by a program of this session (gprint.py), over the kit's print.
namespace Go.Proofs.Ytaoejonkiikhmaa.G
open Go.RowKit Go.Proofs.YtaoejonkiikhmaaW.PrintWords Go.Proofs.YtaoejonkiikhmaaW.PrintLast Go.Proofs.YtaoejonkiikhmaaW.PrintMore
attribute [local go_sem] max2_int min2_int max_two min_two max_three min_three max_four min_four   -- for this text's walks alone
set_option linter.unusedVariables false
set_option linter.unusedSimpArgs false

/-! ### journal_Put: function 63 -/
def journal_Put.l0 : Nat → ByteArray → List (S113) → Int → Int → Option (ByteArray × Int)
  | 0, _, _, _, _ => none
  | k + 1, x5, x33, x34, x35 => if x35 < x34 then (if 0 ≤ x35 then (if x35 < (x33.length : Int) then ((tally_Num.f k (IntKind.u64.wrap ((rd_T113 x33 x35).f0))).bind fun t1185 => ((tally_Num.f k ((rd_T113 x33 x35).f1)).bind fun t1186 => (if t1185.size + t1186.size ≤ 9223372036854775807 then ((tally_Num.f k ((rd_T113 x33 x35).f2)).bind fun t1187 => (if (t1185 ++ t1186).size + t1187.size ≤ 9223372036854775807 then ((tally_Int.f k ((rd_T113 x33 x35).f3)).bind fun t1188 => (if ((t1185 ++ t1186) ++ t1187).size + t1188.size ≤ 9223372036854775807 then (if x5.size + (((t1185 ++ t1186) ++ t1187) ++ t1188).size ≤ 9223372036854775807 then (journal_Put.l0 k (x5 ++ (((t1185 ++ t1186) ++ t1187) ++ t1188)) x33 x34 (wrap64 (x35 + 1))) else (none)) else (none))) else (none))) else (none)))) else (none)) else (none)) else (some (x5, 0))
def journal_Put.f (k : Nat) (a0_0 : Int) (a0_1 : Int) (a0_2 : Int) (l0_3 : List (S113)) : Option (ByteArray × Int) := (journal_Check.f a0_0 a0_1 a0_2 l0_3).bind fun t1178 => (if t1178 = 0 then ((tally_Num.f k (IntKind.u64.wrap (a0_0))).bind fun t1179 => ((tally_Num.f k (IntKind.u64.wrap (a0_1))).bind fun t1180 => (if t1179.size + t1180.size ≤ 9223372036854775807 then ((tally_Num.f k a0_2).bind fun t1181 => (if (t1179 ++ t1180).size + t1181.size ≤ 9223372036854775807 then ((tally_Num.f k (IntKind.u64.wrap ((l0_3.length : Int)))).bind fun t1182 => (if ((t1179 ++ t1180) ++ t1181).size + t1182.size ≤ 9223372036854775807 then (journal_Put.l0 k (((t1179 ++ t1180) ++ t1181) ++ t1182) l0_3 (l0_3.length : Int) 0) else (none))) else (none))) else (none)))) else (some ((⟨#[]⟩ : ByteArray), t1178)))
def journal_Put.T4 : Bool × List (List Nat × List Nat) := (true, [([], []), ([0], [0]), ([1], [1]), ([2], [2]), ([], []), ([4], [4]), ([5], [5]), ([6, 3], [6]), ([3, 7], [3, 7]), ([], []), ([9], [9]), ([10, 7], [10]), ([8, 11], [8, 11]), ([], []), ([13], [13]), ([14], [14]), ([15], [15]), ([16, 11], [16]), ([12, 17], [12, 17]), ([18, 17, 0, 1, 2, 3, 4, 5, 6, 7, 8, 9, 10, 11, 12, 13, 14, 15, 16, 17, 18], [18])])
def journal_Put.B4 : List Nat := [0, 1, 3, 7, 0, 16, 48, 127, 255, 0, 512, 1791, 4095, 0, 8192, 24576, 57344, 126719, 262143, 524287]
theorem journal_Put.tab4 : rtab .any (opsOf Try.f63 4) = journal_Put.T4 := by kernel_rfl
theorem journal_Put.bits4 : waitsOk journal_Put.T4.2 journal_Put.B4 = true := by kernel_rfl
def journal_Put.T8 : Bool × List (List Nat × List Nat) := (true, [([], []), ([], []), ([1], [1]), ([2], [2]), ([3], [3]), ([], []), ([5], [5]), ([6, 4], [6]), ([4, 7], [4, 7]), ([], []), ([9], [9]), ([10, 7], [10]), ([8, 11], [8, 11]), ([], []), ([13], [13]), ([14, 11], [14]), ([12, 15], [12, 15]), ([0, 16], [0, 16]), ([17, 15, 0, 1, 2, 3, 4, 5, 6, 7, 8, 9, 10, 11, 12, 13, 14, 15, 16, 17], [0, 17])])
def journal_Put.B8 : List Nat := [0, 0, 2, 6, 14, 0, 32, 126, 254, 0, 512, 1790, 4094, 0, 8192, 28414, 65534, 131071, 262143]
theorem journal_Put.tab8 : rtab .any (opsOf Try.f63 8) = journal_Put.T8 := by kernel_rfl
theorem journal_Put.bits8 : waitsOk journal_Put.T8.2 journal_Put.B8 = true := by kernel_rfl
set_option maxHeartbeats 8000000 in
set_option maxRecDepth 100000 in
theorem journal_Put.calls (k : Nat) (a0_0 : Int) (a0_1 : Int) (a0_2 : Int) (A0_3 : Option Addr) (c0_3 : Nat) (l0_3 : List (S113)) (r1 : ByteArray) (r2 : Int) (w : World) (hr0_3 : Kd.C k113 w A0_3 l0_3.length l0_3) (hc0_3 : l0_3.length ≤ c0_3) (h : journal_Put.f k a0_0 a0_1 a0_2 l0_3 = some (r1, r2)) :
    Calls Try.prog 63 #[.agg #[.int .i64 a0_0, .int .u8 a0_1, .int .u64 a0_2, .slice A0_3 l0_3.length c0_3]] w fun e w' => e = .returned (.tuple #[.string r1, .int .i64 r2]) ∧ Below w.heap.size w w' := by
  have hu32 := Try.underlying32
  have hu113 := Try.underlying113
  have HR0_3 := Aside0.mk hr0_3
  have HC0_3 := Aside0.mk hc0_3
  clear hr0_3 hc0_3
  have HB := Aside0.mk (Below.refl w.heap.size w)
  have H : ((journal_Check.f a0_0 a0_1 a0_2 l0_3).bind fun t1178 => (if t1178 = 0 then ((tally_Num.f k (IntKind.u64.wrap (a0_0))).bind fun t1179 => ((tally_Num.f k (IntKind.u64.wrap (a0_1))).bind fun t1180 => (if t1179.size + t1180.size ≤ 9223372036854775807 then ((tally_Num.f k a0_2).bind fun t1181 => (if (t1179 ++ t1180).size + t1181.size ≤ 9223372036854775807 then ((tally_Num.f k (IntKind.u64.wrap ((l0_3.length : Int)))).bind fun t1182 => (if ((t1179 ++ t1180) ++ t1181).size + t1182.size ≤ 9223372036854775807 then (journal_Put.l0 k (((t1179 ++ t1180) ++ t1181) ++ t1182) l0_3 (l0_3.length : Int) 0) else (none))) else (none))) else (none)))) else (some ((⟨#[]⟩ : ByteArray), t1178)))) = some (r1, r2) := h
  clear h
  replace H := Option.bind_eq_some_iff.mp H
  obtain ⟨t1178, A20, H⟩ := H
  replace H : (if t1178 = 0 then ((tally_Num.f k (IntKind.u64.wrap (a0_0))).bind fun t1179 => ((tally_Num.f k (IntKind.u64.wrap (a0_1))).bind fun t1180 => (if t1179.size + t1180.size ≤ 9223372036854775807 then ((tally_Num.f k a0_2).bind fun t1181 => (if (t1179 ++ t1180).size + t1181.size ≤ 9223372036854775807 then ((tally_Num.f k (IntKind.u64.wrap ((l0_3.length : Int)))).bind fun t1182 => (if ((t1179 ++ t1180) ++ t1181).size + t1182.size ≤ 9223372036854775807 then (journal_Put.l0 k (((t1179 ++ t1180) ++ t1181) ++ t1182) l0_3 (l0_3.length : Int) 0) else (none))) else (none))) else (none)))) else (some ((⟨#[]⟩ : ByteArray), t1178))) = some (r1, r2) := H
  have A2 := Aside0.mk A20
  clear A20
  by_cases c3 : t1178 = 0
  · rw [if_pos c3] at H
    have c3b0 : (t1178 == 0) = true := beq_iff_eq.mpr c3
    have c3b1 : (t1178 != 0) = false := bne_eq_false_iff_eq.mpr c3
    clear c3
    replace H := Option.bind_eq_some_iff.mp H
    obtain ⟨t1179, A40, H⟩ := H
    replace H : ((tally_Num.f k (IntKind.u64.wrap (a0_1))).bind fun t1180 => (if t1179.size + t1180.size ≤ 9223372036854775807 then ((tally_Num.f k a0_2).bind fun t1181 => (if (t1179 ++ t1180).size + t1181.size ≤ 9223372036854775807 then ((tally_Num.f k (IntKind.u64.wrap ((l0_3.length : Int)))).bind fun t1182 => (if ((t1179 ++ t1180) ++ t1181).size + t1182.size ≤ 9223372036854775807 then (journal_Put.l0 k (((t1179 ++ t1180) ++ t1181) ++ t1182) l0_3 (l0_3.length : Int) 0) else (none))) else (none))) else (none))) = some (r1, r2) := H
    have A4 := Aside0.mk A40
    clear A40
    replace H := Option.bind_eq_some_iff.mp H
    obtain ⟨t1180, A50, H⟩ := H
    replace H : (if t1179.size + t1180.size ≤ 9223372036854775807 then ((tally_Num.f k a0_2).bind fun t1181 => (if (t1179 ++ t1180).size + t1181.size ≤ 9223372036854775807 then ((tally_Num.f k (IntKind.u64.wrap ((l0_3.length : Int)))).bind fun t1182 => (if ((t1179 ++ t1180) ++ t1181).size + t1182.size ≤ 9223372036854775807 then (journal_Put.l0 k (((t1179 ++ t1180) ++ t1181) ++ t1182) l0_3 (l0_3.length : Int) 0) else (none))) else (none))) else (none)) = some (r1, r2) := H
    have A5 := Aside0.mk A50
    clear A50
    by_cases c6 : t1179.size + t1180.size ≤ 9223372036854775807
    · rw [if_pos c6] at H
      have c6b0 := eq_true c6
      have c6b1 : decide (t1179.size + t1180.size ≤ 9223372036854775807) = true := decide_eq_true c6
      try have c6b2 : (9223372036854775807 < t1179.size + t1180.size) = False := eq_false (Nat.not_lt.2 c6)
      replace H := Option.bind_eq_some_iff.mp H
      obtain ⟨t1181, A70, H⟩ := H
      replace H : (if (t1179 ++ t1180).size + t1181.size ≤ 9223372036854775807 then ((tally_Num.f k (IntKind.u64.wrap ((l0_3.length : Int)))).bind fun t1182 => (if ((t1179 ++ t1180) ++ t1181).size + t1182.size ≤ 9223372036854775807 then (journal_Put.l0 k (((t1179 ++ t1180) ++ t1181) ++ t1182) l0_3 (l0_3.length : Int) 0) else (none))) else (none)) = some (r1, r2) := H
      have A7 := Aside0.mk A70
      clear A70
      by_cases c8 : (t1179 ++ t1180).size + t1181.size ≤ 9223372036854775807
      · rw [if_pos c8] at H
        have c8b0 := eq_true c8
        have c8b1 : decide ((t1179 ++ t1180).size + t1181.size ≤ 9223372036854775807) = true := decide_eq_true c8
        try have c8b2 : (9223372036854775807 < (t1179 ++ t1180).size + t1181.size) = False := eq_false (Nat.not_lt.2 c8)
        try have c8b3 := c8b2
        try simp only [ByteArray.size_append] at c8b3
        replace H := Option.bind_eq_some_iff.mp H
        obtain ⟨t1182, A90, H⟩ := H
        replace H : (if ((t1179 ++ t1180) ++ t1181).size + t1182.size ≤ 9223372036854775807 then (journal_Put.l0 k (((t1179 ++ t1180) ++ t1181) ++ t1182) l0_3 (l0_3.length : Int) 0) else (none)) = some (r1, r2) := H
        have A9 := Aside0.mk A90
        clear A90
        by_cases c10 : ((t1179 ++ t1180) ++ t1181).size + t1182.size ≤ 9223372036854775807
        · rw [if_pos c10] at H
          have c10b0 := eq_true c10
          have c10b1 : decide (((t1179 ++ t1180) ++ t1181).size + t1182.size ≤ 9223372036854775807) = true := decide_eq_true c10
          try have c10b2 : (9223372036854775807 < ((t1179 ++ t1180) ++ t1181).size + t1182.size) = False := eq_false (Nat.not_lt.2 c10)
          try have c10b3 := c10b2
          try simp only [ByteArray.size_append] at c10b3
          have H' := Aside0.mk H
          clear H
          go_enter Try.func63, Try.ntmps63
          try go_wp2_with (first | ((with_reducible refine gate_dst (N := 1) rfl ?_); refine box_event ?hg (N := 1) ?hd (cs := #[.int .i64 a0_0, .int .u8 a0_1, .int .u64 a0_2, .slice A0_3 l0_3.length c0_3]) (t := 32) ?hr ?_; (case hd => rfl); (case hg => rfl); (case hr => first | (go_simp; done) | (go_simp; rfl)); intro gb1177 hg w11 hbox hb; have n0_ := Aside0.mk (below_step (by repeat (first | (with_reducible first | exact HB.out | apply below_alloc | apply pw_below_drewN | apply below_drew1) | exact HB.out)) hb); have n1_ := Aside0.mk (hbox); have n2_ := Aside0.mk ((by rw [hg]; exact (below_size (by repeat (first | (with_reducible first | exact HB.out | apply below_alloc | apply pw_below_drewN | apply below_drew1) | exact HB.out))) : w.heap.size ≤ gb1177)); have n3_ := Aside0.mk ((by rw [hg]; exact (below_size (by repeat (first | (with_reducible first | exact HB.out | apply below_alloc | apply pw_below_drewN | apply below_drew1) | exact HB.out))) : w.heap.size ≤ gb1177)); clear HB; have HB := n0_; have BK1177 := n1_; have GW1177 := n2_; have GE1177 := n3_; clear n0_ n1_ n2_ n3_; clear hb hbox hg; have hcz12_0 : w11.cell? ⟨gb1177, 0, none⟩ = some (.int .i64 a0_0) := (blk_cell BK1177.out 0).trans rfl; have hcz12_1 : w11.cell? ⟨gb1177, 1, none⟩ = some (.int .u8 a0_1) := (blk_cell BK1177.out 1).trans rfl; have hcz12_2 : w11.cell? ⟨gb1177, 2, none⟩ = some (.int .u64 a0_2) := (blk_cell BK1177.out 2).trans rfl; have hcz12_3 : w11.cell? ⟨gb1177, 3, none⟩ = some (.slice A0_3 l0_3.length c0_3) := (blk_cell BK1177.out 3).trans rfl; have hfz12_0 := blk_frozen BK1177.out 0; have hfz12_1 := blk_frozen BK1177.out 1; have hfz12_2 := blk_frozen BK1177.out 2; have hfz12_3 := blk_frozen BK1177.out 3) | ((with_reducible refine gate_callee (f := 17) rfl ?_); refine goesL_ (some 9) rfl rfl Try.func17 (by kernel_rfl) rfl #[.agg #[.int .i64 a0_0, .int .u8 a0_1, .int .u64 a0_2, .slice A0_3 l0_3.length c0_3]] rfl (by (try simp only [List.map_toArray, List.map_cons, List.map_nil]); first | done | rfl | (simp only [List.length_drop, List.length_take]; rfl)) ?_; (with_reducible refine (journal_Check.calls a0_0 a0_1 a0_2 _ _ l0_3 t1178 _ ?side1 ?side2 A2.out).mono ?_); (case side1 => repeat (first | exact (Kd.C_below HR0_3.out HB.out) | (with_reducible refine Kd.C_alloc ?_ _) | (with_reducible refine Kd.C_drewN ?_ _) | (with_reducible refine Kd.C_drew ?_))); (case side2 => exact HC0_3.out); rintro e w13 ⟨rfl, hb⟩; refine ⟨_, rfl, ?_⟩; have n0_ := Aside0.mk (blk_below (g := gb1177) (o := .cells #[.int .i64 a0_0, .int .u8 a0_1, .int .u64 a0_2, .slice A0_3 l0_3.length c0_3] 32 (0, 0)) (by (with_reducible repeat (first | refine blk_drewN ?_ _ | refine blk_drew ?_ | refine blk_alloc ?_ _)); exact BK1177.out) hb); have n1_ := Aside0.mk (below_step (by repeat (first | (with_reducible first | exact HB.out | apply below_alloc | apply pw_below_drewN | apply below_drew1 | refine below_set ?_ GE1177.out) | exact HB.out)) hb); clear BK1177; clear HB; have BK1177 := n0_; have HB := n1_; clear n0_ n1_; (try clear hb); (try clear hb2); (try clear hk); (try clear hi)))
          have n0_ := Aside0.mk (blk_drew BK1177.out)
          have n1_ := Aside0.mk (below_drew1 HB.out)
          clear BK1177
          clear HB
          have BK1177 := n0_
          have HB := n1_
          clear n0_ n1_
          refine start_ (n := 20) (S := fun w' => w'.cell? ⟨gb1177, 0, none⟩ = some (.int .i64 a0_0) ∧ w'.cell? ⟨gb1177, 1, none⟩ = some (.int .u8 a0_1) ∧ w'.cell? ⟨gb1177, 2, none⟩ = some (.int .u64 a0_2) ∧ w'.cell? ⟨gb1177, 3, none⟩ = some (.slice A0_3 l0_3.length c0_3)) (ds := []) #[false, false, false, false, false, false, false, false, false, false, false, false, false, false, false, false, false, false, false, false] (by kernel_rfl) rfl rfl ⟨(blk_cell BK1177.out 0).trans rfl, (blk_cell BK1177.out 1).trans rfl, (blk_cell BK1177.out 2).trans rfl, (blk_cell BK1177.out 3).trans rfl⟩ (fun hHeld => ?_); refine with_tabW journal_Put.tab4 journal_Put.bits4 (fun HT_ HW_ => ?_)
          generalize w13.drew = w14 at BK1177 HB hHeld ⊢
          refine pure_ (i := 0) (N := some 13) (v := ?_) (a' := ?_) #[true, false, false, false, false, false, false, false, false, false, false, false, false, false, false, false, false, false, false, false] rfl rfl (any_of HT_.out (by kernel_rfl)) (fun _ _ _ h => h) (Or.inl ⟨by rfl, ?_⟩) ?_ ?_
          rotate_left
          · intro w'
            go_simp
            with_reducible rfl
          rotate_left
          · simp only [Act.put, List.setIfInBounds_toArray, List.set_cons_zero, List.set_cons_succ, i64_w, i32_w]
            rfl
          refine pure_ (i := 4) (N := some 17) (v := ?_) (a' := ?_) #[true, false, false, false, true, false, false, false, false, false, false, false, false, false, false, false, false, false, false, false] rfl rfl (any_of HT_.out (by kernel_rfl)) (fun _ _ _ h => h) (Or.inl ⟨by rfl, ?_⟩) ?_ ?_
          rotate_left
          · intro w'
            go_simp
            with_reducible rfl
          rotate_left
          · simp only [Act.put, List.setIfInBounds_toArray, List.set_cons_zero, List.set_cons_succ, i64_w, i32_w]
            rfl
          refine pure_ (i := 9) (N := some 22) (v := ?_) (a' := ?_) #[true, false, false, false, true, false, false, false, false, true, false, false, false, false, false, false, false, false, false, false] rfl rfl (any_of HT_.out (by kernel_rfl)) (fun _ _ _ h => h) (Or.inl ⟨by rfl, ?_⟩) ?_ ?_
          rotate_left
          · intro w'
            go_simp
            with_reducible rfl
          rotate_left
          · simp only [Act.put, List.setIfInBounds_toArray, List.set_cons_zero, List.set_cons_succ, i64_w, i32_w]
            rfl
          refine pure_ (i := 13) (N := some 26) (v := ?_) (a' := ?_) #[true, false, false, false, true, false, false, false, false, true, false, false, false, true, false, false, false, false, false, false] rfl rfl (any_of HT_.out (by kernel_rfl)) (fun _ _ _ h => h) (Or.inl ⟨by rfl, ?_⟩) ?_ ?_
          rotate_left
          · intro w'
            go_simp
            with_reducible rfl
          rotate_left
          · simp only [Act.put, List.setIfInBounds_toArray, List.set_cons_zero, List.set_cons_succ, i64_w, i32_w]
            rfl
          refine take_ (i := 1) (N := some 14) (v := ?_) (a' := ?_) #[true, true, false, false, true, false, false, false, false, true, false, false, false, true, false, false, false, false, false, false] rfl rfl (take_ofW HT_.out HW_.out (by kernel_rfl)) (fun _ _ _ h => h) (Or.inl ⟨by rfl, ?_⟩) hHeld ?_ ?_
          rotate_left
          · rintro w' ⟨s0, s1, s2, s3⟩
            go_simp
            with_reducible rfl
          rotate_left
          · simp only [Act.put, List.setIfInBounds_toArray, List.set_cons_zero, List.set_cons_succ, i64_w, i32_w]
            rfl
          refine pure_ (i := 2) (N := some 15) (v := ?_) (a' := ?_) #[true, true, true, false, true, false, false, false, false, true, false, false, false, true, false, false, false, false, false, false] rfl rfl (any_of HT_.out (by kernel_rfl)) (fun _ _ _ h => h) (Or.inl ⟨by rfl, ?_⟩) ?_ ?_
          rotate_left
          · intro w'
            go_simp
            with_reducible rfl
          rotate_left
          · simp only [Act.put, List.setIfInBounds_toArray, List.set_cons_zero, List.set_cons_succ, i64_w, i32_w]
            rfl
          refine take_ (i := 5) (N := some 18) (v := ?_) (a' := ?_) #[true, true, true, false, true, true, false, false, false, true, false, false, false, true, false, false, false, false, false, false] rfl rfl (take_ofW HT_.out HW_.out (by kernel_rfl)) (fun _ _ _ h => h) (Or.inl ⟨by rfl, ?_⟩) hHeld ?_ ?_
          rotate_left
          · rintro w' ⟨s0, s1, s2, s3⟩
            go_simp
            with_reducible rfl
          rotate_left
          · simp only [Act.put, List.setIfInBounds_toArray, List.set_cons_zero, List.set_cons_succ, i64_w, i32_w]
            rfl
          refine pure_ (i := 6) (N := some 19) (v := ?_) (a' := ?_) #[true, true, true, false, true, true, true, false, false, true, false, false, false, true, false, false, false, false, false, false] rfl rfl (any_of HT_.out (by kernel_rfl)) (fun _ _ _ h => h) (Or.inl ⟨by rfl, ?_⟩) ?_ ?_
          rotate_left
          · intro w'
            go_simp
            with_reducible rfl
          rotate_left
          · simp only [Act.put, List.setIfInBounds_toArray, List.set_cons_zero, List.set_cons_succ, i64_w, i32_w]
            rfl
          refine take_ (i := 10) (N := some 23) (v := ?_) (a' := ?_) #[true, true, true, false, true, true, true, false, false, true, true, false, false, true, false, false, false, false, false, false] rfl rfl (take_ofW HT_.out HW_.out (by kernel_rfl)) (fun _ _ _ h => h) (Or.inl ⟨by rfl, ?_⟩) hHeld ?_ ?_
          rotate_left
          · rintro w' ⟨s0, s1, s2, s3⟩
            go_simp
            with_reducible rfl
          rotate_left
          · simp only [Act.put, List.setIfInBounds_toArray, List.set_cons_zero, List.set_cons_succ, i64_w, i32_w]
            rfl
          refine take_ (i := 14) (N := some 27) (v := ?_) (a' := ?_) #[true, true, true, false, true, true, true, false, false, true, true, false, false, true, true, false, false, false, false, false] rfl rfl (take_ofW HT_.out HW_.out (by kernel_rfl)) (fun _ _ _ h => h) (Or.inl ⟨by rfl, ?_⟩) hHeld ?_ ?_
          rotate_left
          · rintro w' ⟨s0, s1, s2, s3⟩
            go_simp
            with_reducible rfl
          rotate_left
          · simp only [Act.put, List.setIfInBounds_toArray, List.set_cons_zero, List.set_cons_succ, i64_w, i32_w]
            rfl
          refine pure_ (i := 15) (N := some 28) (v := ?_) (a' := ?_) #[true, true, true, false, true, true, true, false, false, true, true, false, false, true, true, true, false, false, false, false] rfl rfl (any_of HT_.out (by kernel_rfl)) (fun _ _ _ h => h) (Or.inl ⟨by rfl, ?_⟩) ?_ ?_
          rotate_left
          · intro w'
            go_simp
            with_reducible rfl
          rotate_left
          · simp only [Act.put, List.setIfInBounds_toArray, List.set_cons_zero, List.set_cons_succ, i64_w, i32_w]
            rfl
          refine pure_ (i := 16) (N := some 29) (v := ?_) (a' := ?_) #[true, true, true, false, true, true, true, false, false, true, true, false, false, true, true, true, true, false, false, false] rfl rfl (any_of HT_.out (by kernel_rfl)) (fun _ _ _ h => h) (Or.inl ⟨by rfl, ?_⟩) ?_ ?_
          rotate_left
          · intro w'
            go_simp
            with_reducible rfl
          rotate_left
          · simp only [Act.put, List.setIfInBounds_toArray, List.set_cons_zero, List.set_cons_succ, i64_w, i32_w]
            rfl
          refine one_ (i := 3) (N := some 16) #[true, true, true, true, true, true, true, false, false, true, true, false, false, true, true, true, true, false, false, false] rfl rfl (one_of HT_.out (by kernel_rfl)) (by decide) (fun K hK => ?_)
          refine goes_ Try.func122 (by kernel_rfl) rfl #[.int .u64 (IntKind.u64.wrap (a0_0))] (by rfl) rfl rfl (by (try simp only [List.map_toArray, List.map_cons, List.map_nil]); first | done | rfl | (simp only [List.length_drop, List.length_take]; rfl)) ?_
          with_reducible refine (tally_Num.calls k (IntKind.u64.wrap (a0_0)) t1179 _ A4.out).mono ?_
          rintro e w15 ⟨rfl, hb⟩
          refine ⟨_, rfl, ?_⟩
          have n0_ := Aside0.mk (blk_below (g := gb1177) (o := .cells #[.int .i64 a0_0, .int .u8 a0_1, .int .u64 a0_2, .slice A0_3 l0_3.length c0_3] 32 (0, 0)) (by (with_reducible repeat (first | refine blk_drewN ?_ _ | refine blk_drew ?_ | refine blk_alloc ?_ _)); exact BK1177.out) hb)
          have n1_ := Aside0.mk (below_step (by repeat (first | (with_reducible first | exact HB.out | apply below_alloc | apply pw_below_drewN | apply below_drew1 | refine below_set ?_ GE1177.out) | exact HB.out)) hb)
          clear BK1177
          clear HB
          have BK1177 := n0_
          have HB := n1_
          clear n0_ n1_
          (try clear hb)
          (try clear hb2)
          (try clear hk)
          (try clear hi)
          refine hK.out _ _ ⟨(blk_cell BK1177.out 0).trans rfl, (blk_cell BK1177.out 1).trans rfl, (blk_cell BK1177.out 2).trans rfl, (blk_cell BK1177.out 3).trans rfl⟩ (fun hHeld => ?_)
          clear hK K
          refine norm_ (a' := ?_) ?_ ?_
          rotate_left
          · show Act.put _ (some 16) _ = _
            simp only [Act.put, List.setIfInBounds_toArray, List.set_cons_zero, List.set_cons_succ, i64_w, i32_w]
            rfl
          refine one_ (i := 7) (N := some 20) #[true, true, true, true, true, true, true, true, false, true, true, false, false, true, true, true, true, false, false, false] rfl rfl (one_of HT_.out (by kernel_rfl)) (by decide) (fun K hK => ?_)
          refine goes_ Try.func122 (by kernel_rfl) rfl #[.int .u64 (IntKind.u64.wrap (a0_1))] (by rfl) rfl rfl (by (try simp only [List.map_toArray, List.map_cons, List.map_nil]); first | done | rfl | (simp only [List.length_drop, List.length_take]; rfl)) ?_
          with_reducible refine (tally_Num.calls k (IntKind.u64.wrap (a0_1)) t1180 _ A5.out).mono ?_
          rintro e w16 ⟨rfl, hb⟩
          refine ⟨_, rfl, ?_⟩
          have n0_ := Aside0.mk (blk_below (g := gb1177) (o := .cells #[.int .i64 a0_0, .int .u8 a0_1, .int .u64 a0_2, .slice A0_3 l0_3.length c0_3] 32 (0, 0)) (by (with_reducible repeat (first | refine blk_drewN ?_ _ | refine blk_drew ?_ | refine blk_alloc ?_ _)); exact BK1177.out) hb)
          have n1_ := Aside0.mk (below_step (by repeat (first | (with_reducible first | exact HB.out | apply below_alloc | apply pw_below_drewN | apply below_drew1 | refine below_set ?_ GE1177.out) | exact HB.out)) hb)
          clear BK1177
          clear HB
          have BK1177 := n0_
          have HB := n1_
          clear n0_ n1_
          (try clear hb)
          (try clear hb2)
          (try clear hk)
          (try clear hi)
          refine hK.out _ _ ⟨(blk_cell BK1177.out 0).trans rfl, (blk_cell BK1177.out 1).trans rfl, (blk_cell BK1177.out 2).trans rfl, (blk_cell BK1177.out 3).trans rfl⟩ (fun hHeld => ?_)
          clear hK K
          refine norm_ (a' := ?_) ?_ ?_
          rotate_left
          · show Act.put _ (some 20) _ = _
            simp only [Act.put, List.setIfInBounds_toArray, List.set_cons_zero, List.set_cons_succ, i64_w, i32_w]
            rfl
          refine pure_ (i := 8) (N := some 21) (v := ?_) (a' := ?_) #[true, true, true, true, true, true, true, true, true, true, true, false, false, true, true, true, true, false, false, false] rfl rfl (any_of HT_.out (by kernel_rfl)) (fun _ _ _ h => h) (Or.inl ⟨by rfl, ?_⟩) ?_ ?_
          rotate_left
          · intro w'
            go_simp
            with_reducible rfl
          rotate_left
          · simp only [Act.put, List.setIfInBounds_toArray, List.set_cons_zero, List.set_cons_succ, i64_w, i32_w]
            rfl
          refine one_ (i := 11) (N := some 24) #[true, true, true, true, true, true, true, true, true, true, true, true, false, true, true, true, true, false, false, false] rfl rfl (one_of HT_.out (by kernel_rfl)) (by decide) (fun K hK => ?_)
          refine goes_ Try.func122 (by kernel_rfl) rfl #[.int .u64 a0_2] (by rfl) rfl rfl (by (try simp only [List.map_toArray, List.map_cons, List.map_nil]); first | done | rfl | (simp only [List.length_drop, List.length_take]; rfl)) ?_
          with_reducible refine (tally_Num.calls k a0_2 t1181 _ A7.out).mono ?_
          rintro e w17 ⟨rfl, hb⟩
          refine ⟨_, rfl, ?_⟩
          have n0_ := Aside0.mk (blk_below (g := gb1177) (o := .cells #[.int .i64 a0_0, .int .u8 a0_1, .int .u64 a0_2, .slice A0_3 l0_3.length c0_3] 32 (0, 0)) (by (with_reducible repeat (first | refine blk_drewN ?_ _ | refine blk_drew ?_ | refine blk_alloc ?_ _)); exact BK1177.out) hb)
          have n1_ := Aside0.mk (below_step (by repeat (first | (with_reducible first | exact HB.out | apply below_alloc | apply pw_below_drewN | apply below_drew1 | refine below_set ?_ GE1177.out) | exact HB.out)) hb)
          clear BK1177
          clear HB
          have BK1177 := n0_
          have HB := n1_
          clear n0_ n1_
          (try clear hb)
          (try clear hb2)
          (try clear hk)
          (try clear hi)
          refine hK.out _ _ ⟨(blk_cell BK1177.out 0).trans rfl, (blk_cell BK1177.out 1).trans rfl, (blk_cell BK1177.out 2).trans rfl, (blk_cell BK1177.out 3).trans rfl⟩ (fun hHeld => ?_)
          clear hK K
          refine norm_ (a' := ?_) ?_ ?_
          rotate_left
          · show Act.put _ (some 24) _ = _
            simp only [Act.put, List.setIfInBounds_toArray, List.set_cons_zero, List.set_cons_succ, i64_w, i32_w]
            rfl
          refine pure_ (i := 12) (N := some 25) (v := ?_) (a' := ?_) #[true, true, true, true, true, true, true, true, true, true, true, true, true, true, true, true, true, false, false, false] rfl rfl (any_of HT_.out (by kernel_rfl)) (fun _ _ _ h => h) (Or.inl ⟨by rfl, ?_⟩) ?_ ?_
          rotate_left
          · intro w'
            go_simp
            with_reducible rfl
          rotate_left
          · simp only [Act.put, List.setIfInBounds_toArray, List.set_cons_zero, List.set_cons_succ, i64_w, i32_w]
            rfl
          refine one_ (i := 17) (N := some 30) #[true, true, true, true, true, true, true, true, true, true, true, true, true, true, true, true, true, true, false, false] rfl rfl (one_of HT_.out (by kernel_rfl)) (by decide) (fun K hK => ?_)
          refine goes_ Try.func122 (by kernel_rfl) rfl #[.int .u64 (IntKind.u64.wrap ((l0_3.length : Int)))] (by rfl) rfl rfl (by (try simp only [List.map_toArray, List.map_cons, List.map_nil]); first | done | rfl | (simp only [List.length_drop, List.length_take]; rfl)) ?_
          with_reducible refine (tally_Num.calls k (IntKind.u64.wrap ((l0_3.length : Int))) t1182 _ A9.out).mono ?_
          rintro e w18 ⟨rfl, hb⟩
          refine ⟨_, rfl, ?_⟩
          have n0_ := Aside0.mk (blk_below (g := gb1177) (o := .cells #[.int .i64 a0_0, .int .u8 a0_1, .int .u64 a0_2, .slice A0_3 l0_3.length c0_3] 32 (0, 0)) (by (with_reducible repeat (first | refine blk_drewN ?_ _ | refine blk_drew ?_ | refine blk_alloc ?_ _)); exact BK1177.out) hb)
          have n1_ := Aside0.mk (below_step (by repeat (first | (with_reducible first | exact HB.out | apply below_alloc | apply pw_below_drewN | apply below_drew1 | refine below_set ?_ GE1177.out) | exact HB.out)) hb)
          clear BK1177
          clear HB
          have BK1177 := n0_
          have HB := n1_
          clear n0_ n1_
          (try clear hb)
          (try clear hb2)
          (try clear hk)
          (try clear hi)
          refine hK.out _ _ ⟨(blk_cell BK1177.out 0).trans rfl, (blk_cell BK1177.out 1).trans rfl, (blk_cell BK1177.out 2).trans rfl, (blk_cell BK1177.out 3).trans rfl⟩ (fun hHeld => ?_)
          clear hK K
          refine norm_ (a' := ?_) ?_ ?_
          rotate_left
          · show Act.put _ (some 30) _ = _
            simp only [Act.put, List.setIfInBounds_toArray, List.set_cons_zero, List.set_cons_succ, i64_w, i32_w]
            rfl
          refine pure_ (i := 18) (N := some 31) (v := ?_) (a' := ?_) #[true, true, true, true, true, true, true, true, true, true, true, true, true, true, true, true, true, true, true, false] rfl rfl (any_of HT_.out (by kernel_rfl)) (fun _ _ _ h => h) (Or.inl ⟨by rfl, ?_⟩) ?_ ?_
          rotate_left
          · intro w'
            go_simp
            with_reducible rfl
          rotate_left
          · simp only [Act.put, List.setIfInBounds_toArray, List.set_cons_zero, List.set_cons_succ, i64_w, i32_w]
            rfl
          refine pure_ (i := 19) (N := some 5) (v := ?_) (a' := ?_) #[true, true, true, true, true, true, true, true, true, true, true, true, true, true, true, true, true, true, true, true] rfl rfl (any_of HT_.out (by kernel_rfl)) (fun _ _ _ h => h) (Or.inl ⟨by rfl, ?_⟩) ?_ ?_
          rotate_left
          · intro w'
            go_simp
            with_reducible rfl
          rotate_left
          · simp only [Act.put, List.setIfInBounds_toArray, List.set_cons_zero, List.set_cons_succ, i64_w, i32_w]
            rfl
          refine done_ (done_of HT_.out (by kernel_rfl)) ?_
          have hcz19_0 : w18.cell? ⟨gb1177, 0, none⟩ = some (.int .i64 a0_0) := (blk_cell BK1177.out 0).trans rfl
          have hcz19_1 : w18.cell? ⟨gb1177, 1, none⟩ = some (.int .u8 a0_1) := (blk_cell BK1177.out 1).trans rfl
          have hcz19_2 : w18.cell? ⟨gb1177, 2, none⟩ = some (.int .u64 a0_2) := (blk_cell BK1177.out 2).trans rfl
          have hcz19_3 : w18.cell? ⟨gb1177, 3, none⟩ = some (.slice A0_3 l0_3.length c0_3) := (blk_cell BK1177.out 3).trans rfl
          have hfz19_0 := blk_frozen BK1177.out 0
          have hfz19_1 := blk_frozen BK1177.out 1
          have hfz19_2 := blk_frozen BK1177.out 2
          have hfz19_3 := blk_frozen BK1177.out 3
          try go_wp2
          go_loopg [5, 35] k (fun kq v5 v35 w' => ∃ (x5_1 : ByteArray) (x35_1 : Int), v5 = .string x5_1 ∧ v35 = .int .i64 x35_1 ∧ Aside0 (journal_Put.l0 kq x5_1 l0_3 (l0_3.length : Int) x35_1 = some (r1, r2)) ∧ Aside0 (kq ≤ k) ∧ Aside0 (w'.heap[gb1177]? = some (.cells #[.int .i64 a0_0, .int .u8 a0_1, .int .u64 a0_2, (.slice A0_3 l0_3.length c0_3)] 32 (0, 0))) ∧ Aside0 (Below w.heap.size w w'))
          case atStart => exact ⟨(((t1179 ++ t1180) ++ t1181) ++ t1182), (0), (by first | rfl | (simp; done) | (simp [*]; done)), (by first | rfl | (simp; done) | (simp [*]; done)), H', ⟨Nat.le_refl _⟩, ⟨by (with_reducible repeat (first | refine blk_drewN ?_ _ | refine blk_drew ?_ | refine blk_alloc ?_ _)); exact BK1177.out⟩, ⟨by repeat (first | (with_reducible first | exact HB.out | apply below_alloc | apply pw_below_drewN | apply below_drew1 | refine below_set ?_ GE1177.out) | exact HB.out)⟩⟩
          case round =>
            clear H'
            try clear c1
            try clear p2
            try clear c3
            try clear c3b0
            try clear c3b1
            try clear c6
            try clear c6b0
            try clear c6b1
            try clear c6b2
            try clear c8
            try clear c8b0
            try clear c8b1
            try clear c8b2
            try clear c10
            try clear c10b0
            try clear c10b1
            try clear c10b2
            try clear c12
            try clear c17
            try clear hcz12_0
            try clear hcz12_1
            try clear hcz12_2
            try clear hcz12_3
            try clear hcz19_0
            try clear hcz19_1
            try clear hcz19_2
            try clear hcz19_3
            try clear hfz12_0
            try clear hfz12_1
            try clear hfz12_2
            try clear hfz12_3
            try clear hfz19_0
            try clear hfz19_1
            try clear hfz19_2
            try clear hfz19_3
            obtain ⟨x5_1, x35_1, rfl, rfl, HA, HK1, BK1177, HB⟩ := hrel
            cases gk with
            | zero => exact absurd HA.out (by simp [journal_Put.l0])
            | succ k1 =>
              have H := HA.out
              clear HA
              simp only [journal_Put.l0] at H
              by_cases c20 : x35_1 < (l0_3.length : Int)
              · rw [if_pos c20] at H
                have c20b0 : decide (x35_1 < (l0_3.length : Int)) = true := decide_eq_true c20
                clear c20
                by_cases c21 : 0 ≤ x35_1
                · rw [if_pos c21] at H
                  have c21b0 : decide (0 ≤ x35_1) = true := decide_eq_true c21
                  clear c21
                  by_cases c22 : x35_1 < (l0_3.length : Int)
                  · rw [if_pos c22] at H
                    have c22b0 : decide (x35_1 < (l0_3.length : Int)) = true := decide_eq_true c22
                    clear c22
                    replace H := Option.bind_eq_some_iff.mp H
                    obtain ⟨t1185, A230, H⟩ := H
                    replace H : ((tally_Num.f k1 ((rd_T113 l0_3 x35_1).f1)).bind fun t1186 => (if t1185.size + t1186.size ≤ 9223372036854775807 then ((tally_Num.f k1 ((rd_T113 l0_3 x35_1).f2)).bind fun t1187 => (if (t1185 ++ t1186).size + t1187.size ≤ 9223372036854775807 then ((tally_Int.f k1 ((rd_T113 l0_3 x35_1).f3)).bind fun t1188 => (if ((t1185 ++ t1186) ++ t1187).size + t1188.size ≤ 9223372036854775807 then (if x5_1.size + (((t1185 ++ t1186) ++ t1187) ++ t1188).size ≤ 9223372036854775807 then (journal_Put.l0 k1 (x5_1 ++ (((t1185 ++ t1186) ++ t1187) ++ t1188)) l0_3 (l0_3.length : Int) (wrap64 (x35_1 + 1))) else (none)) else (none))) else (none))) else (none))) = some (r1, r2) := H
                    have A23 := Aside0.mk A230
                    clear A230
                    replace H := Option.bind_eq_some_iff.mp H
                    obtain ⟨t1186, A240, H⟩ := H
                    replace H : (if t1185.size + t1186.size ≤ 9223372036854775807 then ((tally_Num.f k1 ((rd_T113 l0_3 x35_1).f2)).bind fun t1187 => (if (t1185 ++ t1186).size + t1187.size ≤ 9223372036854775807 then ((tally_Int.f k1 ((rd_T113 l0_3 x35_1).f3)).bind fun t1188 => (if ((t1185 ++ t1186) ++ t1187).size + t1188.size ≤ 9223372036854775807 then (if x5_1.size + (((t1185 ++ t1186) ++ t1187) ++ t1188).size ≤ 9223372036854775807 then (journal_Put.l0 k1 (x5_1 ++ (((t1185 ++ t1186) ++ t1187) ++ t1188)) l0_3 (l0_3.length : Int) (wrap64 (x35_1 + 1))) else (none)) else (none))) else (none))) else (none)) = some (r1, r2) := H
                    have A24 := Aside0.mk A240
                    clear A240
                    by_cases c25 : t1185.size + t1186.size ≤ 9223372036854775807
                    · rw [if_pos c25] at H
                      have c25b0 := eq_true c25
                      have c25b1 : decide (t1185.size + t1186.size ≤ 9223372036854775807) = true := decide_eq_true c25
                      try have c25b2 : (9223372036854775807 < t1185.size + t1186.size) = False := eq_false (Nat.not_lt.2 c25)
                      replace H := Option.bind_eq_some_iff.mp H
                      obtain ⟨t1187, A260, H⟩ := H
                      replace H : (if (t1185 ++ t1186).size + t1187.size ≤ 9223372036854775807 then ((tally_Int.f k1 ((rd_T113 l0_3 x35_1).f3)).bind fun t1188 => (if ((t1185 ++ t1186) ++ t1187).size + t1188.size ≤ 9223372036854775807 then (if x5_1.size + (((t1185 ++ t1186) ++ t1187) ++ t1188).size ≤ 9223372036854775807 then (journal_Put.l0 k1 (x5_1 ++ (((t1185 ++ t1186) ++ t1187) ++ t1188)) l0_3 (l0_3.length : Int) (wrap64 (x35_1 + 1))) else (none)) else (none))) else (none)) = some (r1, r2) := H
                      have A26 := Aside0.mk A260
                      clear A260
                      by_cases c27 : (t1185 ++ t1186).size + t1187.size ≤ 9223372036854775807
                      · rw [if_pos c27] at H
                        have c27b0 := eq_true c27
                        have c27b1 : decide ((t1185 ++ t1186).size + t1187.size ≤ 9223372036854775807) = true := decide_eq_true c27
                        try have c27b2 : (9223372036854775807 < (t1185 ++ t1186).size + t1187.size) = False := eq_false (Nat.not_lt.2 c27)
                        try have c27b3 := c27b2
                        try simp only [ByteArray.size_append] at c27b3
                        replace H := Option.bind_eq_some_iff.mp H
                        obtain ⟨t1188, A280, H⟩ := H
                        replace H : (if ((t1185 ++ t1186) ++ t1187).size + t1188.size ≤ 9223372036854775807 then (if x5_1.size + (((t1185 ++ t1186) ++ t1187) ++ t1188).size ≤ 9223372036854775807 then (journal_Put.l0 k1 (x5_1 ++ (((t1185 ++ t1186) ++ t1187) ++ t1188)) l0_3 (l0_3.length : Int) (wrap64 (x35_1 + 1))) else (none)) else (none)) = some (r1, r2) := H
                        have A28 := Aside0.mk A280
                        clear A280
                        by_cases c29 : ((t1185 ++ t1186) ++ t1187).size + t1188.size ≤ 9223372036854775807
                        · rw [if_pos c29] at H
                          have c29b0 := eq_true c29
                          have c29b1 : decide (((t1185 ++ t1186) ++ t1187).size + t1188.size ≤ 9223372036854775807) = true := decide_eq_true c29
                          try have c29b2 : (9223372036854775807 < ((t1185 ++ t1186) ++ t1187).size + t1188.size) = False := eq_false (Nat.not_lt.2 c29)
                          try have c29b3 := c29b2
                          try simp only [ByteArray.size_append] at c29b3
                          by_cases c30 : x5_1.size + (((t1185 ++ t1186) ++ t1187) ++ t1188).size ≤ 9223372036854775807
                          · rw [if_pos c30] at H
                            have c30b0 := eq_true c30
                            have c30b1 : decide (x5_1.size + (((t1185 ++ t1186) ++ t1187) ++ t1188).size ≤ 9223372036854775807) = true := decide_eq_true c30
                            try have c30b2 : (9223372036854775807 < x5_1.size + (((t1185 ++ t1186) ++ t1187) ++ t1188).size) = False := eq_false (Nat.not_lt.2 c30)
                            try have c30b3 := c30b2
                            try simp only [ByteArray.size_append] at c30b3
                            have H' := Aside0.mk H
                            clear H
                            have p1183 : 0 ≤ (x35_1 : Int) := of_decide_eq_true (by first | (with_reducible assumption) | assumption)
                            have q1183 : x35_1 < (l0_3.length : Int) := of_decide_eq_true (by first | (with_reducible assumption) | assumption)
                            obtain ⟨ad1183, e1183, hx1183_0, hx1183_1, hx1183_2, hx1183_3⟩ := at_T113 HR0_3.out x35_1 p1183 q1183
                            cases e1183
                            replace hx1183_0 := (HB.out.cell (World.block_lt_of_cell? w _ hx1183_0)).trans hx1183_0
                            replace hx1183_1 := (HB.out.cell (World.block_lt_of_cell? w _ hx1183_1)).trans hx1183_1
                            replace hx1183_2 := (HB.out.cell (World.block_lt_of_cell? w _ hx1183_2)).trans hx1183_2
                            replace hx1183_3 := (HB.out.cell (World.block_lt_of_cell? w _ hx1183_3)).trans hx1183_3
                            replace p1183 := eq_true p1183
                            replace q1183 := eq_true q1183
                            try go_wp2_with (first | ((with_reducible refine gate_dst (N := 7) rfl ?_); refine box_event ?hg (N := 7) ?hd (cs := #[.int .i64 0, .int .u64 0, .int .u64 0, .int .i64 0]) (t := 113) ?hr ?_; (case hd => rfl); (case hg => rfl); (case hr => first | (go_simp; done) | (go_simp; rfl)); intro gb1184 hg w31 hbox hb; have n0_ := Aside0.mk (blk_below (g := gb1177) (o := .cells #[.int .i64 a0_0, .int .u8 a0_1, .int .u64 a0_2, .slice (some ad1183) l0_3.length c0_3] 32 (0, 0)) (by (with_reducible repeat (first | refine blk_drewN ?_ _ | refine blk_drew ?_ | refine blk_alloc ?_ _)); exact BK1177.out) hb); have n1_ := Aside0.mk (below_step (by repeat (first | (with_reducible first | exact HB.out | apply below_alloc | apply pw_below_drewN | apply below_drew1 | refine below_set ?_ GE1177.out) | exact HB.out)) hb); have n2_ := Aside0.mk (hbox); have n3_ := Aside0.mk ((by rw [hg]; exact (below_size (by repeat (first | (with_reducible first | exact HB.out | apply below_alloc | apply pw_below_drewN | apply below_drew1 | refine below_set ?_ GE1177.out) | exact HB.out))) : w.heap.size ≤ gb1184)); have n4_ := Aside0.mk ((by rw [hg]; exact (below_size (by repeat (first | (with_reducible first | exact HB.out | apply below_alloc | apply pw_below_drewN | apply below_drew1 | refine below_set ?_ GE1177.out) | exact HB.out))) : w.heap.size ≤ gb1184)); have n5_ := Aside0.mk ((by rw [hg]; exact Nat.ne_of_lt (blk_lt (g := gb1177) (o := .cells #[.int .i64 a0_0, .int .u8 a0_1, .int .u64 a0_2, .slice (some ad1183) l0_3.length c0_3] 32 (0, 0)) (by (with_reducible repeat (first | refine blk_drewN ?_ _ | refine blk_drew ?_ | refine blk_alloc ?_ _)); exact BK1177.out)) : gb1177 ≠ gb1184)); have n6_ := Aside0.mk ((by rw [hg]; exact Nat.ne_of_gt (blk_lt (g := gb1177) (o := .cells #[.int .i64 a0_0, .int .u8 a0_1, .int .u64 a0_2, .slice (some ad1183) l0_3.length c0_3] 32 (0, 0)) (by (with_reducible repeat (first | refine blk_drewN ?_ _ | refine blk_drew ?_ | refine blk_alloc ?_ _)); exact BK1177.out)) : gb1184 ≠ gb1177)); clear BK1177; clear HB; have BK1177 := n0_; have HB := n1_; have BK1184 := n2_; have GW1184 := n3_; have GE1184 := n4_; have NB1177_1184 := n5_; have NB1184_1177 := n6_; clear n0_ n1_ n2_ n3_ n4_ n5_ n6_; clear hb hbox hg; have hnb32 := NB1184_1177.out; have hnc32 := NB1177_1184.out; have hcz33_0 : w31.cell? ⟨gb1184, 0, none⟩ = some (.int .i64 0) := (blk_cell BK1184.out 0).trans rfl; have hcz33_1 : w31.cell? ⟨gb1184, 1, none⟩ = some (.int .u64 0) := (blk_cell BK1184.out 1).trans rfl; have hcz33_2 : w31.cell? ⟨gb1184, 2, none⟩ = some (.int .u64 0) := (blk_cell BK1184.out 2).trans rfl; have hcz33_3 : w31.cell? ⟨gb1184, 3, none⟩ = some (.int .i64 0) := (blk_cell BK1184.out 3).trans rfl; have hfz33_0 := blk_frozen BK1184.out 0; have hfz33_1 := blk_frozen BK1184.out 1; have hfz33_2 := blk_frozen BK1184.out 2; have hfz33_3 := blk_frozen BK1184.out 3))
                            have n0_ : Aside0 (((((w31.setCell ⟨gb1184, 0, none⟩ (.int .i64 ((rd_T113 l0_3 x35_1).f0))).setCell ⟨gb1184, 1, none⟩ (.int .u64 ((rd_T113 l0_3 x35_1).f1))).setCell ⟨gb1184, 2, none⟩ (.int .u64 ((rd_T113 l0_3 x35_1).f2))).setCell ⟨gb1184, 3, none⟩ (.int .i64 ((rd_T113 l0_3 x35_1).f3))).heap[gb1177]? = some (.cells #[.int .i64 a0_0, .int .u8 a0_1, .int .u64 a0_2, .slice (some ad1183) l0_3.length c0_3] 32 (0, 0))) := ⟨by (with_reducible repeat (first | refine blk_drewN ?_ _ | refine blk_drew ?_ | refine blk_alloc ?_ _)); refine blk_far ?_ NB1177_1184.out _; (with_reducible repeat (first | refine blk_drewN ?_ _ | refine blk_drew ?_ | refine blk_alloc ?_ _)); refine blk_far ?_ NB1177_1184.out _; (with_reducible repeat (first | refine blk_drewN ?_ _ | refine blk_drew ?_ | refine blk_alloc ?_ _)); refine blk_far ?_ NB1177_1184.out _; (with_reducible repeat (first | refine blk_drewN ?_ _ | refine blk_drew ?_ | refine blk_alloc ?_ _)); refine blk_far ?_ NB1177_1184.out _; (with_reducible repeat (first | refine blk_drewN ?_ _ | refine blk_drew ?_ | refine blk_alloc ?_ _)); exact BK1177.out⟩
                            have n1_ : Aside0 (((((w31.setCell ⟨gb1184, 0, none⟩ (.int .i64 ((rd_T113 l0_3 x35_1).f0))).setCell ⟨gb1184, 1, none⟩ (.int .u64 ((rd_T113 l0_3 x35_1).f1))).setCell ⟨gb1184, 2, none⟩ (.int .u64 ((rd_T113 l0_3 x35_1).f2))).setCell ⟨gb1184, 3, none⟩ (.int .i64 ((rd_T113 l0_3 x35_1).f3))).heap[gb1184]? = some (.cells #[.int .i64 ((rd_T113 l0_3 x35_1).f0), .int .u64 ((rd_T113 l0_3 x35_1).f1), .int .u64 ((rd_T113 l0_3 x35_1).f2), .int .i64 ((rd_T113 l0_3 x35_1).f3)] 113 (0, 0))) := ⟨by (with_reducible repeat (first | refine blk_drewN ?_ _ | refine blk_drew ?_ | refine blk_alloc ?_ _)); refine blk_put (cs := #[.int .i64 ((rd_T113 l0_3 x35_1).f0), .int .u64 ((rd_T113 l0_3 x35_1).f1), .int .u64 ((rd_T113 l0_3 x35_1).f2), .int .i64 0]) ?_ 3 _ rfl; (with_reducible repeat (first | refine blk_drewN ?_ _ | refine blk_drew ?_ | refine blk_alloc ?_ _)); refine blk_put (cs := #[.int .i64 ((rd_T113 l0_3 x35_1).f0), .int .u64 ((rd_T113 l0_3 x35_1).f1), .int .u64 0, .int .i64 0]) ?_ 2 _ rfl; (with_reducible repeat (first | refine blk_drewN ?_ _ | refine blk_drew ?_ | refine blk_alloc ?_ _)); refine blk_put (cs := #[.int .i64 ((rd_T113 l0_3 x35_1).f0), .int .u64 0, .int .u64 0, .int .i64 0]) ?_ 1 _ rfl; (with_reducible repeat (first | refine blk_drewN ?_ _ | refine blk_drew ?_ | refine blk_alloc ?_ _)); refine blk_put (cs := #[.int .i64 0, .int .u64 0, .int .u64 0, .int .i64 0]) ?_ 0 _ rfl; (with_reducible repeat (first | refine blk_drewN ?_ _ | refine blk_drew ?_ | refine blk_alloc ?_ _)); exact BK1184.out⟩
                            have n2_ : Aside0 (Below w.heap.size w ((((w31.setCell ⟨gb1184, 0, none⟩ (.int .i64 ((rd_T113 l0_3 x35_1).f0))).setCell ⟨gb1184, 1, none⟩ (.int .u64 ((rd_T113 l0_3 x35_1).f1))).setCell ⟨gb1184, 2, none⟩ (.int .u64 ((rd_T113 l0_3 x35_1).f2))).setCell ⟨gb1184, 3, none⟩ (.int .i64 ((rd_T113 l0_3 x35_1).f3)))) := ⟨by repeat (first | (with_reducible first | exact HB.out | apply below_alloc | apply pw_below_drewN | apply below_drew1 | refine below_set ?_ GE1177.out | refine below_set ?_ GE1184.out) | exact HB.out)⟩
                            (try clear BK1177)
                            (try clear BK1184)
                            (try clear HB)
                            generalize ((((w31.setCell ⟨gb1184, 0, none⟩ (.int .i64 ((rd_T113 l0_3 x35_1).f0))).setCell ⟨gb1184, 1, none⟩ (.int .u64 ((rd_T113 l0_3 x35_1).f1))).setCell ⟨gb1184, 2, none⟩ (.int .u64 ((rd_T113 l0_3 x35_1).f2))).setCell ⟨gb1184, 3, none⟩ (.int .i64 ((rd_T113 l0_3 x35_1).f3))) = w34 at n0_ n1_ n2_ ⊢
                            have BK1177 := n0_
                            have BK1184 := n1_
                            have HB := n2_
                            clear n0_ n1_ n2_
                            have n0_ := Aside0.mk (blk_drew BK1177.out)
                            have n1_ := Aside0.mk (blk_drew BK1184.out)
                            have n2_ := Aside0.mk (below_drew1 HB.out)
                            clear BK1177
                            clear BK1184
                            clear HB
                            have BK1177 := n0_
                            have BK1184 := n1_
                            have HB := n2_
                            clear n0_ n1_ n2_
                            refine start_ (n := 19) (S := fun w' => w'.cell? ⟨gb1184, 0, none⟩ = some (.int .i64 ((rd_T113 l0_3 x35_1).f0)) ∧ w'.cell? ⟨gb1184, 1, none⟩ = some (.int .u64 ((rd_T113 l0_3 x35_1).f1)) ∧ w'.cell? ⟨gb1184, 2, none⟩ = some (.int .u64 ((rd_T113 l0_3 x35_1).f2)) ∧ w'.cell? ⟨gb1184, 3, none⟩ = some (.int .i64 ((rd_T113 l0_3 x35_1).f3))) (ds := []) #[false, false, false, false, false, false, false, false, false, false, false, false, false, false, false, false, false, false, false] (by kernel_rfl) rfl rfl ⟨(blk_cell BK1184.out 0).trans rfl, (blk_cell BK1184.out 1).trans rfl, (blk_cell BK1184.out 2).trans rfl, (blk_cell BK1184.out 3).trans rfl⟩ (fun hHeld => ?_); refine with_tabW journal_Put.tab8 journal_Put.bits8 (fun HT_ HW_ => ?_)
                            generalize w34.drew = w35 at BK1177 BK1184 HB hHeld ⊢
                            refine pure_ (i := 0) (N := some 39) (v := ?_) (a' := ?_) #[true, false, false, false, false, false, false, false, false, false, false, false, false, false, false, false, false, false, false] rfl rfl (any_of HT_.out (by kernel_rfl)) (fun _ _ _ h => h) (Or.inl ⟨by rfl, ?_⟩) ?_ ?_
                            rotate_left
                            · intro w'
                              go_simp
                              with_reducible rfl
                            rotate_left
                            · simp only [Act.put, List.setIfInBounds_toArray, List.set_cons_zero, List.set_cons_succ, i64_w, i32_w]
                              rfl
                            refine pure_ (i := 1) (N := some 40) (v := ?_) (a' := ?_) #[true, true, false, false, false, false, false, false, false, false, false, false, false, false, false, false, false, false, false] rfl rfl (any_of HT_.out (by kernel_rfl)) (fun _ _ _ h => h) (Or.inl ⟨by rfl, ?_⟩) ?_ ?_
                            rotate_left
                            · intro w'
                              go_simp
                              with_reducible rfl
                            rotate_left
                            · simp only [Act.put, List.setIfInBounds_toArray, List.set_cons_zero, List.set_cons_succ, i64_w, i32_w]
                              rfl
                            refine pure_ (i := 5) (N := some 44) (v := ?_) (a' := ?_) #[true, true, false, false, false, true, false, false, false, false, false, false, false, false, false, false, false, false, false] rfl rfl (any_of HT_.out (by kernel_rfl)) (fun _ _ _ h => h) (Or.inl ⟨by rfl, ?_⟩) ?_ ?_
                            rotate_left
                            · intro w'
                              go_simp
                              with_reducible rfl
                            rotate_left
                            · simp only [Act.put, List.setIfInBounds_toArray, List.set_cons_zero, List.set_cons_succ, i64_w, i32_w]
                              rfl
                            refine pure_ (i := 9) (N := some 48) (v := ?_) (a' := ?_) #[true, true, false, false, false, true, false, false, false, true, false, false, false, false, false, false, false, false, false] rfl rfl (any_of HT_.out (by kernel_rfl)) (fun _ _ _ h => h) (Or.inl ⟨by rfl, ?_⟩) ?_ ?_
                            rotate_left
                            · intro w'
                              go_simp
                              with_reducible rfl
                            rotate_left
                            · simp only [Act.put, List.setIfInBounds_toArray, List.set_cons_zero, List.set_cons_succ, i64_w, i32_w]
                              rfl
                            refine pure_ (i := 13) (N := some 52) (v := ?_) (a' := ?_) #[true, true, false, false, false, true, false, false, false, true, false, false, false, true, false, false, false, false, false] rfl rfl (any_of HT_.out (by kernel_rfl)) (fun _ _ _ h => h) (Or.inl ⟨by rfl, ?_⟩) ?_ ?_
                            rotate_left
                            · intro w'
                              go_simp
                              with_reducible rfl
                            rotate_left
                            · simp only [Act.put, List.setIfInBounds_toArray, List.set_cons_zero, List.set_cons_succ, i64_w, i32_w]
                              rfl
                            refine take_ (i := 2) (N := some 41) (v := ?_) (a' := ?_) #[true, true, true, false, false, true, false, false, false, true, false, false, false, true, false, false, false, false, false] rfl rfl (take_ofW HT_.out HW_.out (by kernel_rfl)) (fun _ _ _ h => h) (Or.inl ⟨by rfl, ?_⟩) hHeld ?_ ?_
                            rotate_left
                            · rintro w' ⟨s0, s1, s2, s3⟩
                              go_simp
                              with_reducible rfl
                            rotate_left
                            · simp only [Act.put, List.setIfInBounds_toArray, List.set_cons_zero, List.set_cons_succ, i64_w, i32_w]
                              rfl
                            refine pure_ (i := 3) (N := some 42) (v := ?_) (a' := ?_) #[true, true, true, true, false, true, false, false, false, true, false, false, false, true, false, false, false, false, false] rfl rfl (any_of HT_.out (by kernel_rfl)) (fun _ _ _ h => h) (Or.inl ⟨by rfl, ?_⟩) ?_ ?_
                            rotate_left
                            · intro w'
                              go_simp
                              with_reducible rfl
                            rotate_left
                            · simp only [Act.put, List.setIfInBounds_toArray, List.set_cons_zero, List.set_cons_succ, i64_w, i32_w]
                              rfl
                            refine take_ (i := 6) (N := some 45) (v := ?_) (a' := ?_) #[true, true, true, true, false, true, true, false, false, true, false, false, false, true, false, false, false, false, false] rfl rfl (take_ofW HT_.out HW_.out (by kernel_rfl)) (fun _ _ _ h => h) (Or.inl ⟨by rfl, ?_⟩) hHeld ?_ ?_
                            rotate_left
                            · rintro w' ⟨s0, s1, s2, s3⟩
                              go_simp
                              with_reducible rfl
                            rotate_left
                            · simp only [Act.put, List.setIfInBounds_toArray, List.set_cons_zero, List.set_cons_succ, i64_w, i32_w]
                              rfl
                            refine take_ (i := 10) (N := some 49) (v := ?_) (a' := ?_) #[true, true, true, true, false, true, true, false, false, true, true, false, false, true, false, false, false, false, false] rfl rfl (take_ofW HT_.out HW_.out (by kernel_rfl)) (fun _ _ _ h => h) (Or.inl ⟨by rfl, ?_⟩) hHeld ?_ ?_
                            rotate_left
                            · rintro w' ⟨s0, s1, s2, s3⟩
                              go_simp
                              with_reducible rfl
                            rotate_left
                            · simp only [Act.put, List.setIfInBounds_toArray, List.set_cons_zero, List.set_cons_succ, i64_w, i32_w]
                              rfl
                            refine take_ (i := 14) (N := some 53) (v := ?_) (a' := ?_) #[true, true, true, true, false, true, true, false, false, true, true, false, false, true, true, false, false, false, false] rfl rfl (take_ofW HT_.out HW_.out (by kernel_rfl)) (fun _ _ _ h => h) (Or.inl ⟨by rfl, ?_⟩) hHeld ?_ ?_
                            rotate_left
                            · rintro w' ⟨s0, s1, s2, s3⟩
                              go_simp
                              with_reducible rfl
                            rotate_left
                            · simp only [Act.put, List.setIfInBounds_toArray, List.set_cons_zero, List.set_cons_succ, i64_w, i32_w]
                              rfl
                            refine one_ (i := 4) (N := some 43) #[true, true, true, true, true, true, true, false, false, true, true, false, false, true, true, false, false, false, false] rfl rfl (one_of HT_.out (by kernel_rfl)) (by decide) (fun K hK => ?_)
                            refine goes_ Try.func122 (by kernel_rfl) rfl #[.int .u64 (IntKind.u64.wrap ((rd_T113 l0_3 x35_1).f0))] (by rfl) rfl rfl (by (try simp only [List.map_toArray, List.map_cons, List.map_nil]); first | done | rfl | (simp only [List.length_drop, List.length_take]; rfl)) ?_
                            with_reducible refine (tally_Num.calls k1 (IntKind.u64.wrap ((rd_T113 l0_3 x35_1).f0)) t1185 _ A23.out).mono ?_
                            rintro e w36 ⟨rfl, hb⟩
                            refine ⟨_, rfl, ?_⟩
                            have n0_ := Aside0.mk (blk_below (g := gb1177) (o := .cells #[.int .i64 a0_0, .int .u8 a0_1, .int .u64 a0_2, .slice (some ad1183) l0_3.length c0_3] 32 (0, 0)) (by (with_reducible repeat (first | refine blk_drewN ?_ _ | refine blk_drew ?_ | refine blk_alloc ?_ _)); exact BK1177.out) hb)
                            have n1_ := Aside0.mk (blk_below (g := gb1184) (o := .cells #[.int .i64 ((rd_T113 l0_3 x35_1).f0), .int .u64 ((rd_T113 l0_3 x35_1).f1), .int .u64 ((rd_T113 l0_3 x35_1).f2), .int .i64 ((rd_T113 l0_3 x35_1).f3)] 113 (0, 0)) (by (with_reducible repeat (first | refine blk_drewN ?_ _ | refine blk_drew ?_ | refine blk_alloc ?_ _)); exact BK1184.out) hb)
                            have n2_ := Aside0.mk (below_step (by repeat (first | (with_reducible first | exact HB.out | apply below_alloc | apply pw_below_drewN | apply below_drew1 | refine below_set ?_ GE1177.out | refine below_set ?_ GE1184.out) | exact HB.out)) hb)
                            clear BK1177
                            clear BK1184
                            clear HB
                            have BK1177 := n0_
                            have BK1184 := n1_
                            have HB := n2_
                            clear n0_ n1_ n2_
                            (try clear hb)
                            (try clear hb2)
                            (try clear hk)
                            (try clear hi)
                            refine hK.out _ _ ⟨(blk_cell BK1184.out 0).trans rfl, (blk_cell BK1184.out 1).trans rfl, (blk_cell BK1184.out 2).trans rfl, (blk_cell BK1184.out 3).trans rfl⟩ (fun hHeld => ?_)
                            clear hK K
                            refine norm_ (a' := ?_) ?_ ?_
                            rotate_left
                            · show Act.put _ (some 43) _ = _
                              simp only [Act.put, List.setIfInBounds_toArray, List.set_cons_zero, List.set_cons_succ, i64_w, i32_w]
                              rfl
                            refine one_ (i := 7) (N := some 46) #[true, true, true, true, true, true, true, true, false, true, true, false, false, true, true, false, false, false, false] rfl rfl (one_of HT_.out (by kernel_rfl)) (by decide) (fun K hK => ?_)
                            refine goes_ Try.func122 (by kernel_rfl) rfl #[.int .u64 ((rd_T113 l0_3 x35_1).f1)] (by rfl) rfl rfl (by (try simp only [List.map_toArray, List.map_cons, List.map_nil]); first | done | rfl | (simp only [List.length_drop, List.length_take]; rfl)) ?_
                            with_reducible refine (tally_Num.calls k1 ((rd_T113 l0_3 x35_1).f1) t1186 _ A24.out).mono ?_
                            rintro e w37 ⟨rfl, hb⟩
                            refine ⟨_, rfl, ?_⟩
                            have n0_ := Aside0.mk (blk_below (g := gb1177) (o := .cells #[.int .i64 a0_0, .int .u8 a0_1, .int .u64 a0_2, .slice (some ad1183) l0_3.length c0_3] 32 (0, 0)) (by (with_reducible repeat (first | refine blk_drewN ?_ _ | refine blk_drew ?_ | refine blk_alloc ?_ _)); exact BK1177.out) hb)
                            have n1_ := Aside0.mk (blk_below (g := gb1184) (o := .cells #[.int .i64 ((rd_T113 l0_3 x35_1).f0), .int .u64 ((rd_T113 l0_3 x35_1).f1), .int .u64 ((rd_T113 l0_3 x35_1).f2), .int .i64 ((rd_T113 l0_3 x35_1).f3)] 113 (0, 0)) (by (with_reducible repeat (first | refine blk_drewN ?_ _ | refine blk_drew ?_ | refine blk_alloc ?_ _)); exact BK1184.out) hb)
                            have n2_ := Aside0.mk (below_step (by repeat (first | (with_reducible first | exact HB.out | apply below_alloc | apply pw_below_drewN | apply below_drew1 | refine below_set ?_ GE1177.out | refine below_set ?_ GE1184.out) | exact HB.out)) hb)
                            clear BK1177
                            clear BK1184
                            clear HB
                            have BK1177 := n0_
                            have BK1184 := n1_
                            have HB := n2_
                            clear n0_ n1_ n2_
                            (try clear hb)
                            (try clear hb2)
                            (try clear hk)
                            (try clear hi)
                            refine hK.out _ _ ⟨(blk_cell BK1184.out 0).trans rfl, (blk_cell BK1184.out 1).trans rfl, (blk_cell BK1184.out 2).trans rfl, (blk_cell BK1184.out 3).trans rfl⟩ (fun hHeld => ?_)
                            clear hK K
                            refine norm_ (a' := ?_) ?_ ?_
                            rotate_left
                            · show Act.put _ (some 46) _ = _
                              simp only [Act.put, List.setIfInBounds_toArray, List.set_cons_zero, List.set_cons_succ, i64_w, i32_w]
                              rfl
                            refine pure_ (i := 8) (N := some 47) (v := ?_) (a' := ?_) #[true, true, true, true, true, true, true, true, true, true, true, false, false, true, true, false, false, false, false] rfl rfl (any_of HT_.out (by kernel_rfl)) (fun _ _ _ h => h) (Or.inl ⟨by rfl, ?_⟩) ?_ ?_
                            rotate_left
                            · intro w'
                              go_simp
                              with_reducible rfl
                            rotate_left
                            · simp only [Act.put, List.setIfInBounds_toArray, List.set_cons_zero, List.set_cons_succ, i64_w, i32_w]
                              rfl
                            refine one_ (i := 11) (N := some 50) #[true, true, true, true, true, true, true, true, true, true, true, true, false, true, true, false, false, false, false] rfl rfl (one_of HT_.out (by kernel_rfl)) (by decide) (fun K hK => ?_)
                            refine goes_ Try.func122 (by kernel_rfl) rfl #[.int .u64 ((rd_T113 l0_3 x35_1).f2)] (by rfl) rfl rfl (by (try simp only [List.map_toArray, List.map_cons, List.map_nil]); first | done | rfl | (simp only [List.length_drop, List.length_take]; rfl)) ?_
                            with_reducible refine (tally_Num.calls k1 ((rd_T113 l0_3 x35_1).f2) t1187 _ A26.out).mono ?_
                            rintro e w38 ⟨rfl, hb⟩
                            refine ⟨_, rfl, ?_⟩
                            have n0_ := Aside0.mk (blk_below (g := gb1177) (o := .cells #[.int .i64 a0_0, .int .u8 a0_1, .int .u64 a0_2, .slice (some ad1183) l0_3.length c0_3] 32 (0, 0)) (by (with_reducible repeat (first | refine blk_drewN ?_ _ | refine blk_drew ?_ | refine blk_alloc ?_ _)); exact BK1177.out) hb)
                            have n1_ := Aside0.mk (blk_below (g := gb1184) (o := .cells #[.int .i64 ((rd_T113 l0_3 x35_1).f0), .int .u64 ((rd_T113 l0_3 x35_1).f1), .int .u64 ((rd_T113 l0_3 x35_1).f2), .int .i64 ((rd_T113 l0_3 x35_1).f3)] 113 (0, 0)) (by (with_reducible repeat (first | refine blk_drewN ?_ _ | refine blk_drew ?_ | refine blk_alloc ?_ _)); exact BK1184.out) hb)
                            have n2_ := Aside0.mk (below_step (by repeat (first | (with_reducible first | exact HB.out | apply below_alloc | apply pw_below_drewN | apply below_drew1 | refine below_set ?_ GE1177.out | refine below_set ?_ GE1184.out) | exact HB.out)) hb)
                            clear BK1177
                            clear BK1184
                            clear HB
                            have BK1177 := n0_
                            have BK1184 := n1_
                            have HB := n2_
                            clear n0_ n1_ n2_
                            (try clear hb)
                            (try clear hb2)
                            (try clear hk)
                            (try clear hi)
                            refine hK.out _ _ ⟨(blk_cell BK1184.out 0).trans rfl, (blk_cell BK1184.out 1).trans rfl, (blk_cell BK1184.out 2).trans rfl, (blk_cell BK1184.out 3).trans rfl⟩ (fun hHeld => ?_)
                            clear hK K
                            refine norm_ (a' := ?_) ?_ ?_
                            rotate_left
                            · show Act.put _ (some 50) _ = _
                              simp only [Act.put, List.setIfInBounds_toArray, List.set_cons_zero, List.set_cons_succ, i64_w, i32_w]
                              rfl
                            refine pure_ (i := 12) (N := some 51) (v := ?_) (a' := ?_) #[true, true, true, true, true, true, true, true, true, true, true, true, true, true, true, false, false, false, false] rfl rfl (any_of HT_.out (by kernel_rfl)) (fun _ _ _ h => h) (Or.inl ⟨by rfl, ?_⟩) ?_ ?_
                            rotate_left
                            · intro w'
                              go_simp
                              with_reducible rfl
                            rotate_left
                            · simp only [Act.put, List.setIfInBounds_toArray, List.set_cons_zero, List.set_cons_succ, i64_w, i32_w]
                              rfl
                            refine one_ (i := 15) (N := some 54) #[true, true, true, true, true, true, true, true, true, true, true, true, true, true, true, true, false, false, false] rfl rfl (one_of HT_.out (by kernel_rfl)) (by decide) (fun K hK => ?_)
                            refine goes_ Try.func123 (by kernel_rfl) rfl #[.int .i64 ((rd_T113 l0_3 x35_1).f3)] (by rfl) rfl rfl (by (try simp only [List.map_toArray, List.map_cons, List.map_nil]); first | done | rfl | (simp only [List.length_drop, List.length_take]; rfl)) ?_
                            with_reducible refine (tally_Int.calls k1 ((rd_T113 l0_3 x35_1).f3) t1188 _ A28.out).mono ?_
                            rintro e w39 ⟨rfl, hb⟩
                            refine ⟨_, rfl, ?_⟩
                            have n0_ := Aside0.mk (blk_below (g := gb1177) (o := .cells #[.int .i64 a0_0, .int .u8 a0_1, .int .u64 a0_2, .slice (some ad1183) l0_3.length c0_3] 32 (0, 0)) (by (with_reducible repeat (first | refine blk_drewN ?_ _ | refine blk_drew ?_ | refine blk_alloc ?_ _)); exact BK1177.out) hb)
                            have n1_ := Aside0.mk (blk_below (g := gb1184) (o := .cells #[.int .i64 ((rd_T113 l0_3 x35_1).f0), .int .u64 ((rd_T113 l0_3 x35_1).f1), .int .u64 ((rd_T113 l0_3 x35_1).f2), .int .i64 ((rd_T113 l0_3 x35_1).f3)] 113 (0, 0)) (by (with_reducible repeat (first | refine blk_drewN ?_ _ | refine blk_drew ?_ | refine blk_alloc ?_ _)); exact BK1184.out) hb)
                            have n2_ := Aside0.mk (below_step (by repeat (first | (with_reducible first | exact HB.out | apply below_alloc | apply pw_below_drewN | apply below_drew1 | refine below_set ?_ GE1177.out | refine below_set ?_ GE1184.out) | exact HB.out)) hb)
                            clear BK1177
                            clear BK1184
                            clear HB
                            have BK1177 := n0_
                            have BK1184 := n1_
                            have HB := n2_
                            clear n0_ n1_ n2_
                            (try clear hb)
                            (try clear hb2)
                            (try clear hk)
                            (try clear hi)
                            refine hK.out _ _ ⟨(blk_cell BK1184.out 0).trans rfl, (blk_cell BK1184.out 1).trans rfl, (blk_cell BK1184.out 2).trans rfl, (blk_cell BK1184.out 3).trans rfl⟩ (fun hHeld => ?_)
                            clear hK K
                            refine norm_ (a' := ?_) ?_ ?_
                            rotate_left
                            · show Act.put _ (some 54) _ = _
                              simp only [Act.put, List.setIfInBounds_toArray, List.set_cons_zero, List.set_cons_succ, i64_w, i32_w]
                              rfl
                            refine pure_ (i := 16) (N := some 55) (v := ?_) (a' := ?_) #[true, true, true, true, true, true, true, true, true, true, true, true, true, true, true, true, true, false, false] rfl rfl (any_of HT_.out (by kernel_rfl)) (fun _ _ _ h => h) (Or.inl ⟨by rfl, ?_⟩) ?_ ?_
                            rotate_left
                            · intro w'
                              go_simp
                              with_reducible rfl
                            rotate_left
                            · simp only [Act.put, List.setIfInBounds_toArray, List.set_cons_zero, List.set_cons_succ, i64_w, i32_w]
                              rfl
                            refine pure_ (i := 17) (N := some 56) (v := ?_) (a' := ?_) #[true, true, true, true, true, true, true, true, true, true, true, true, true, true, true, true, true, true, false] rfl rfl (any_of HT_.out (by kernel_rfl)) (fun _ _ _ h => h) (Or.inl ⟨by rfl, ?_⟩) ?_ ?_
                            rotate_left
                            · intro w'
                              go_simp
                              with_reducible rfl
                            rotate_left
                            · simp only [Act.put, List.setIfInBounds_toArray, List.set_cons_zero, List.set_cons_succ, i64_w, i32_w]
                              rfl
                            refine pure_ (i := 18) (N := some 5) (v := ?_) (a' := ?_) #[true, true, true, true, true, true, true, true, true, true, true, true, true, true, true, true, true, true, true] rfl rfl (any_of HT_.out (by kernel_rfl)) (fun _ _ _ h => h) (Or.inl ⟨by rfl, ?_⟩) ?_ ?_
                            rotate_left
                            · intro w'
                              go_simp
                              with_reducible rfl
                            rotate_left
                            · simp only [Act.put, List.setIfInBounds_toArray, List.set_cons_zero, List.set_cons_succ, i64_w, i32_w]
                              rfl
                            refine done_ (done_of HT_.out (by kernel_rfl)) ?_
                            try go_wp2
                            go_roundg k1
                            case measure => have := HK1.out; omega
                            case rel => exact ⟨(x5_1 ++ (((t1185 ++ t1186) ++ t1187) ++ t1188)), (wrap64 (x35_1 + 1)), (by first | rfl | (simp; done) | (simp [*]; done)), (by first | rfl | (simp; done) | (simp [*]; done)), H', ⟨by have := HK1.out; omega⟩, ⟨by (with_reducible repeat (first | refine blk_drewN ?_ _ | refine blk_drew ?_ | refine blk_alloc ?_ _)); exact BK1177.out⟩, ⟨by repeat (first | (with_reducible first | exact HB.out | apply below_alloc | apply pw_below_drewN | apply below_drew1 | refine below_set ?_ GE1177.out | refine below_set ?_ GE1184.out) | exact HB.out)⟩⟩
                          · rw [if_neg c30] at H
                            exact absurd H (by simp)
                        · rw [if_neg c29] at H
                          exact absurd H (by simp)
                      · rw [if_neg c27] at H
                        exact absurd H (by simp)
                    · rw [if_neg c25] at H
                      exact absurd H (by simp)
                  · rw [if_neg c22] at H
                    exact absurd H (by simp)
                · rw [if_neg c21] at H
                  exact absurd H (by simp)
              · rw [if_neg c20] at H
                have c20b0 : decide (x35_1 < (l0_3.length : Int)) = false := decide_eq_false c20
                clear c20
                simp only [Option.some.injEq, Prod.mk.injEq] at H
                obtain ⟨rfl, rfl⟩ := H
                go_wp2
                go_ret2
                exact ⟨by first | rfl | (simp [errW_none, errW_some] <;> rfl) | (simp [*, errW_none, errW_some] <;> rfl), by repeat (first | (with_reducible first | exact HB.out | apply below_alloc | apply pw_below_drewN | apply below_drew1 | refine below_set ?_ GE1177.out) | exact HB.out)⟩
        · rw [if_neg c10] at H
          exact absurd H (by simp)
      · rw [if_neg c8] at H
        exact absurd H (by simp)
    · rw [if_neg c6] at H
      exact absurd H (by simp)
  · rw [if_neg c3] at H
    have c3b0 : (t1178 == 0) = false := beq_eq_false_iff_ne.mpr c3
    have c3b1 : (t1178 != 0) = true := bne_iff_ne.mpr c3
    simp only [Option.some.injEq, Prod.mk.injEq] at H
    obtain ⟨rfl, rfl⟩ := H
    go_enter Try.func63, Try.ntmps63
    go_wp2_with (first | ((with_reducible refine gate_dst (N := 1) rfl ?_); refine box_event ?hg (N := 1) ?hd (cs := #[.int .i64 a0_0, .int .u8 a0_1, .int .u64 a0_2, .slice A0_3 l0_3.length c0_3]) (t := 32) ?hr ?_; (case hd => rfl); (case hg => rfl); (case hr => first | (go_simp; done) | (go_simp; rfl)); intro gb1177 hg w40 hbox hb; have n0_ := Aside0.mk (below_step (by repeat (first | (with_reducible first | exact HB.out | apply below_alloc | apply pw_below_drewN | apply below_drew1) | exact HB.out)) hb); have n1_ := Aside0.mk (hbox); have n2_ := Aside0.mk ((by rw [hg]; exact (below_size (by repeat (first | (with_reducible first | exact HB.out | apply below_alloc | apply pw_below_drewN | apply below_drew1) | exact HB.out))) : w.heap.size ≤ gb1177)); have n3_ := Aside0.mk ((by rw [hg]; exact (below_size (by repeat (first | (with_reducible first | exact HB.out | apply below_alloc | apply pw_below_drewN | apply below_drew1) | exact HB.out))) : w.heap.size ≤ gb1177)); clear HB; have HB := n0_; have BK1177 := n1_; have GW1177 := n2_; have GE1177 := n3_; clear n0_ n1_ n2_ n3_; clear hb hbox hg; have hcz41_0 : w40.cell? ⟨gb1177, 0, none⟩ = some (.int .i64 a0_0) := (blk_cell BK1177.out 0).trans rfl; have hcz41_1 : w40.cell? ⟨gb1177, 1, none⟩ = some (.int .u8 a0_1) := (blk_cell BK1177.out 1).trans rfl; have hcz41_2 : w40.cell? ⟨gb1177, 2, none⟩ = some (.int .u64 a0_2) := (blk_cell BK1177.out 2).trans rfl; have hcz41_3 : w40.cell? ⟨gb1177, 3, none⟩ = some (.slice A0_3 l0_3.length c0_3) := (blk_cell BK1177.out 3).trans rfl; have hfz41_0 := blk_frozen BK1177.out 0; have hfz41_1 := blk_frozen BK1177.out 1; have hfz41_2 := blk_frozen BK1177.out 2; have hfz41_3 := blk_frozen BK1177.out 3) | ((with_reducible refine gate_callee (f := 17) rfl ?_); refine goesL_ (some 9) rfl rfl Try.func17 (by kernel_rfl) rfl #[.agg #[.int .i64 a0_0, .int .u8 a0_1, .int .u64 a0_2, .slice A0_3 l0_3.length c0_3]] rfl (by (try simp only [List.map_toArray, List.map_cons, List.map_nil]); first | done | rfl | (simp only [List.length_drop, List.length_take]; rfl)) ?_; (with_reducible refine (journal_Check.calls a0_0 a0_1 a0_2 _ _ l0_3 t1178 _ ?side1 ?side2 A2.out).mono ?_); (case side1 => repeat (first | exact (Kd.C_below HR0_3.out HB.out) | (with_reducible refine Kd.C_alloc ?_ _) | (with_reducible refine Kd.C_drewN ?_ _) | (with_reducible refine Kd.C_drew ?_))); (case side2 => exact HC0_3.out); rintro e w42 ⟨rfl, hb⟩; refine ⟨_, rfl, ?_⟩; have n0_ := Aside0.mk (blk_below (g := gb1177) (o := .cells #[.int .i64 a0_0, .int .u8 a0_1, .int .u64 a0_2, .slice A0_3 l0_3.length c0_3] 32 (0, 0)) (by (with_reducible repeat (first | refine blk_drewN ?_ _ | refine blk_drew ?_ | refine blk_alloc ?_ _)); exact BK1177.out) hb); have n1_ := Aside0.mk (below_step (by repeat (first | (with_reducible first | exact HB.out | apply below_alloc | apply pw_below_drewN | apply below_drew1 | refine below_set ?_ GE1177.out) | exact HB.out)) hb); clear BK1177; clear HB; have BK1177 := n0_; have HB := n1_; clear n0_ n1_; (try clear hb); (try clear hb2); (try clear hk); (try clear hi)))
    go_ret2
    exact ⟨by first | rfl | (simp [errW_none, errW_some] <;> rfl) | (simp [*, errW_none, errW_some] <;> rfl), by repeat (first | (with_reducible first | exact HB.out | apply below_alloc | apply pw_below_drewN | apply below_drew1 | refine below_set ?_ GE1177.out) | exact HB.out)⟩

end Go.Proofs.Ytaoejonkiikhmaa.G
