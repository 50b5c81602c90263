/- Texts of this claim put together: HReverse, GQuittancelaw20JournalTurns, LJournalTurns. -/
import Derived.Test.YtaoejonkiikhmaaMTUao
import Derived.Test.YtaoejonkiikhmaaMTUaj
import Derived.Test.YtaoejonkiikhmaaMTUaq
import Derived.Test.YtaoejonkiikhmaaMTUab
import Derived.Test.YtaoejonkiikhmaaMTUaa

/- journal.Reverse, journal.Check and journal.Totals as equations, in plain Lean. -/
namespace Go.Proofs.Ytaoejonkiikhmaa.G
open Go.RowKit Go.Proofs.YtaoejonkiikhmaaW.PrintWords Go.Proofs.YtaoejonkiikhmaaW.PrintLast Go.Proofs.YtaoejonkiikhmaaW.PrintMore
set_option linter.unusedVariables false
set_option linter.unusedSimpArgs false
--CUT
abbrev Ent := S32
def okE (e : Ent) : Bool := i64ok e.f0 && decide (0 ≤ e.f1 ∧ e.f1 ≤ 255) && u64ok e.f2 && e.f3.all okL
theorem okE_iff (e : Ent) : okE e = true ↔ ((-9223372036854775808 ≤ e.f0 ∧ e.f0 ≤ 9223372036854775807) ∧ (0 ≤ e.f1 ∧ e.f1 ≤ 255) ∧ (0 ≤ e.f2 ∧ e.f2 ≤ 18446744073709551615)) ∧ e.f3.all okL = true := by
  simp [okE, i64ok, u64ok, and_assoc]
theorem check_f {d k s : Int} {l : List Line} (hok : l.all okL = true) : journal_Check.f d k s l = some (checkR d k l) := by
  unfold journal_Check.f
  rw [if_pos hok]
theorem checkR_ok {d k : Int} {l : List Line} (h : checkR d k l = 0) : 1 ≤ d ∧ d ≤ 3652059 ∧ k ≠ 0 ∧ 2 ≤ l.length ∧ l.length ≤ 64 ∧ l.all mayB = true ∧ (amounts l).sum = 0 := by
  unfold checkR at h
  by_cases h1 : headBad d k l.length = true
  · rw [if_pos h1] at h; cases h
  · rw [if_neg h1] at h
    by_cases h2 : l.all mayB = true
    · rw [if_pos h2] at h
      by_cases h3 : (amounts l).sum = 0
      · simp [headBad] at h1
        refine ⟨by omega, by omega, h1.1.1.2, by omega, by omega, h2, h3⟩
      · rw [if_neg h3] at h; cases h
    · rw [if_neg h2] at h; cases h
theorem checkR_of {d k : Int} {l : List Line} (h1 : 1 ≤ d) (h2 : d ≤ 3652059) (h3 : k ≠ 0) (h4 : 2 ≤ l.length) (h5 : l.length ≤ 64) (h6 : l.all mayB = true) (h7 : (amounts l).sum = 0) : checkR d k l = 0 := by
  unfold checkR
  rw [head_good (by omega) (by omega) h3 (by omega) (by omega), if_neg (by simp), if_pos h6, if_pos h7]
theorem amounts_neg (l : List Line) : (amounts (l.map negL)).sum = - (amounts l).sum := by
  induction l with
  | nil => rfl
  | cons x r ih =>
    simp only [amounts, List.map_cons, List.sum_cons] at ih ⊢
    rw [ih]
    show -x.f3 + _ = _
    omega
theorem okL_neg {x : Line} (h : okL x = true) (hm : mayB x = true) : okL (negL x) = true := by
  rw [okL_iff] at *
  rw [mayB_iff, within62_iff] at hm
  simp only [negL]
  omega
theorem all_neg_ok {l : List Line} (h : l.all okL = true) (hm : l.all mayB = true) : (l.map negL).all okL = true := by
  rw [List.all_eq_true] at *
  intro y hy
  obtain ⟨x, hx, rfl⟩ := List.mem_map.1 hy
  exact okL_neg (h x hx) (hm x hx)
theorem all_neg_may {l : List Line} (hm : l.all mayB = true) : (l.map negL).all mayB = true := by
  rw [List.all_eq_true] at *
  intro y hy
  obtain ⟨x, hx, rfl⟩ := List.mem_map.1 hy
  exact may_neg (hm x hx)
theorem neg_neg_lines (l : List Line) : (l.map negL).map negL = l := by
  rw [List.map_map]
  have : negL ∘ negL = id := by
    funext x
    cases x
    simp [negL]
  rw [this, List.map_id]
/-- The loop that turns the lines. -/
theorem reverse_l0 (d k s : Int) (l : List Line) (hl : l.length ≤ 1000000) (hok : l.all okL = true) (hm : l.all mayB = true) : ∀ (r pre : List Line), pre ++ r = l →
    Ev (fun n => journal_Reverse.l0 n (l.length : Int) (pre.length : Int) d k s (pre.map negL ++ r)) (d, k, s, l.map negL, 0)
  | [], pre, h => by
    rw [List.append_nil] at h
    subst h
    refine Ev.step (f := fun _ => some (d, k, s, pre.map negL, 0)) (fun n => ?_) (Ev.now _)
    simp only [journal_Reverse.l0]
    rw [if_neg (not_lt_end _), List.append_nil]
  | x :: r, pre, h => by
    have ih := reverse_l0 d k s l hl hok hm r (pre ++ [x]) (by rw [← h]; simp)
    refine Ev.step (fun n => ?_) ih
    have hlt : (pre.length : Int) < (l.length : Int) := by rw [← h]; exact mid_lt pre x r
    have hnx : wrap64 ((pre.length : Int) + 1) = ((pre ++ [x]).length : Int) := mid_next pre x r (by rw [h]; exact hl)
    have hx : rd_T113 (pre.map negL ++ x :: r) (pre.length : Int) = x := by
      have := rdL_mid (pre.map negL) x r
      rwa [List.length_map] at this
    have hxm : x ∈ l := by rw [← h]; simp
    have hb := (mayB_iff x).1 (List.all_eq_true.1 hm x hxm)
    have hb2 := (within62_iff _).1 hb.2
    have hw : wrap64 (-x.f3) = -x.f3 := by unfold wrap64; omega
    have hlen : (pre.length : Int) < ((pre.map negL ++ x :: r).length : Int) := by simp; omega
    simp only [journal_Reverse.l0]
    rw [if_pos hlt, if_pos (by omega), if_pos hlen, hx, hw, hnx, Int.toNat_natCast]
    have hs : (pre.map negL ++ x :: r).set pre.length (⟨x.f0, x.f1, x.f2, -x.f3⟩ : Line) = (pre ++ [x]).map negL ++ r := by
      rw [List.set_append]
      simp [negL]
    rw [hs]
theorem reverse_ok (d k s : Int) (l : List Line) (day : Int) (hok : l.all okL = true) (hc : checkR d k l = 0) (h1 : 1 ≤ day) (h2 : day ≤ 3652059) :
    Ev (fun n => journal_Reverse.f n d k s l day) (day, k, s, l.map negL, 0) := by
  obtain ⟨q1, q2, q3, q4, q5, q6, q7⟩ := checkR_ok hc
  have h0 := reverse_l0 day k s l (by omega) hok q6 l [] rfl
  refine Ev.congr (f := fun n => journal_Reverse.j0 n day false d k s l) (fun n => ?_) (Ev.step (fun n => ?_) h0)
  · unfold journal_Reverse.f
    rw [check_f hok, Option.bind_some, if_pos hc, if_neg (by omega)]
    have : decide (day > 3652059) = false := decide_eq_false (by omega)
    rw [this]
  · simp only [journal_Reverse.j0]
    rw [if_neg (by simp)]
    unfold api_Line_119.f
    rw [if_pos (by omega)]
    rfl
theorem reverse_day (d k s : Int) (l : List Line) (day : Int) (hok : l.all okL = true) (hc : checkR d k l = 0) (h : ¬ (1 ≤ day ∧ day ≤ 3652059)) :
    Ev (fun n => journal_Reverse.f n d k s l day) (0, 0, 0, [], 2) := by
  refine Ev.congr (f := fun n => journal_Reverse.j0 n day true d k s l) (fun n => ?_) (Ev.step (f := fun _ => some (0, 0, 0, ([] : List Line), 2)) (fun n => ?_) (Ev.now _))
  · unfold journal_Reverse.f
    rw [check_f hok, Option.bind_some, if_pos hc]
    by_cases h1 : day < 1
    · rw [if_pos h1]
    · rw [if_neg h1]
      have : decide (day > 3652059) = true := decide_eq_true (by omega)
      rw [this]
  · simp only [journal_Reverse.j0]
    rw [if_pos trivial]
theorem reverse_bad (d k s : Int) (l : List Line) (day : Int) (hok : l.all okL = true) (hc : checkR d k l ≠ 0) :
    Ev (fun n => journal_Reverse.f n d k s l day) (0, 0, 0, [], checkR d k l) := by
  refine Ev.congr (f := fun _ => some (0, 0, 0, ([] : List Line), checkR d k l)) (fun n => ?_) (Ev.now _)
  unfold journal_Reverse.f
  rw [check_f hok, Option.bind_some, if_neg hc]
theorem same_entry_ev (d k s : Int) (l : List Line) (hl : l.length ≤ 1000000) : Ev (fun n => quittanceref20_Same.f n d k s l d k s l) true := by
  refine Ev.congr (f := fun n => (quittanceref20_SameLines.f n l l).bind fun t => some t) (fun n => ?_) (Ev.bind (same_ev l hl) (Ev.now _))
  unfold quittanceref20_Same.f
  rw [if_pos rfl, if_pos rfl, if_pos rfl]
end Go.Proofs.Ytaoejonkiikhmaa.G

-- Text by a program of this session (gprint.py), over the kit's print.
namespace Go.Proofs.Ytaoejonkiikhmaa.G
open Go.RowKit Go.Proofs.YtaoejonkiikhmaaW.PrintWords Go.Proofs.YtaoejonkiikhmaaW.PrintLast Go.Proofs.YtaoejonkiikhmaaW.PrintMore
attribute [local go_sem] max2_int min2_int max_two min_two max_three min_three max_four min_four   -- for this text's walks alone
set_option linter.unusedVariables false
set_option linter.unusedSimpArgs false

/-! ### quittancelaw20_JournalTurns: function 13 -/
def quittancelaw20_JournalTurns.j0 : Nat → Int → Bool → Int → Int → Int → List (S113) → Option (Bool)
  | 0, _, _, _, _, _, _ => none
  | k + 1, x1, x57, x1336000, x1336001, x1336002, x1336003 => if x57 = true then (some false) else ((journal_Reverse.f k x1336000 x1336001 x1336002 x1336003 x1).bind fun bt1350 => (if bt1350.2.2.2.2 = 0 then ((journal_Reverse.f k bt1350.1 bt1350.2.1 bt1350.2.2.1 bt1350.2.2.2.1 x1336000).bind fun bt1360 => ((some (([] : List (S113)) : List (S113))).bind fun y1368 => (if y1368.length + x1336003.length < 4398046511104 then ((some (y1368 ++ x1336003 : List (S113))).bind fun y1371 => (if y1371.length + bt1350.2.2.2.1.length < 4398046511104 then ((journal_Tidy.f (y1371 ++ bt1350.2.2.2.1)).bind fun bt1377 => (if bt1360.2.2.2.2 = 0 then ((quittanceref20_Same.f k bt1360.1 bt1360.2.1 bt1360.2.2.1 bt1360.2.2.2.1 x1336000 x1336001 x1336002 x1336003).bind fun t1381 => (if t1381 = true then (if bt1377.2 = 0 then (if (bt1377.1.length : Int) = 0 then ((journal_Check.f bt1350.1 bt1350.2.1 bt1350.2.2.1 bt1350.2.2.2.1).bind fun t1382 => (if t1382 = 0 then (if bt1350.1 = x1 then ((quittancelaw20_head.f).bind fun t1383 => (some t1383)) else (some false)) else (some false))) else (some false)) else (some false)) else (some false))) else (some false))) else (none))) else (none)))) else (if x1 < 1 then ((quittancelaw20_head.f).bind fun t1358 => (some t1358)) else (if x1 > 3652059 then ((quittancelaw20_head.f).bind fun t1359 => (some t1359)) else (some false)))))
def quittancelaw20_JournalTurns.f (k : Nat) (a0_0 : Int) (a0_1 : Int) (a0_2 : Int) (l0_3 : List (S113)) (a1 : Int) : Option (Bool) := if (l0_3.length : Int) > 100 then ((quittancelaw20_head.f).bind fun t1336 => (some t1336)) else ((journal_Check.f a0_0 a0_1 a0_2 l0_3).bind fun t1337 => (if t1337 = 0 then ((journal_Totals.f a0_0 a0_1 a0_2 l0_3).bind fun bt1347 => (if bt1347.2.2 = 0 then (if bt1347.1 = bt1347.2.1 then (quittancelaw20_JournalTurns.j0 k a1 (decide (bt1347.1 ≤ 0)) a0_0 a0_1 a0_2 l0_3) else (quittancelaw20_JournalTurns.j0 k a1 true a0_0 a0_1 a0_2 l0_3)) else (quittancelaw20_JournalTurns.j0 k a1 false a0_0 a0_1 a0_2 l0_3))) else ((journal_Reverse.f k a0_0 a0_1 a0_2 l0_3 a1).bind fun bt1338 => (if bt1338.2.2.2.2 = 0 then (some false) else (if (bt1338.2.2.2.1.length : Int) = 0 then ((quittancelaw20_head.f).bind fun t1346 => (some t1346)) else (some false))))))
theorem quittancelaw20_JournalTurns.mono_l : ∀ k, (∀ y0 y1 y2 y3 y4 y5, LeO (quittancelaw20_JournalTurns.j0 k y0 y1 y2 y3 y4 y5) (quittancelaw20_JournalTurns.j0 (k + 1) y0 y1 y2 y3 y4 y5))
  | 0 => fun _ _ _ _ _ _ r h => by simp [quittancelaw20_JournalTurns.j0] at h
  | k + 1 => by
    have ih0 := quittancelaw20_JournalTurns.mono_l k
    · intro y0 y1 y2 y3 y4 y5
      unfold quittancelaw20_JournalTurns.j0
      repeat' first
      | (with_reducible exact ih0 _ _ _ _ _ _)
      | (with_reducible exact journal_Reverse.mono _ _ _ _ _ _)
      | (with_reducible exact quittanceref20_Same.mono _ _ _ _ _ _ _ _ _)
      | (with_reducible exact LeO.refl _)
      | (with_reducible exact LeO.none _)
      | (with_reducible refine LeO.ite ?_ ?_)
      | (with_reducible refine LeO.bind ?_ (fun _ => ?_))
      | exact ih0 _ _ _ _ _ _
      | exact journal_Reverse.mono _ _ _ _ _ _
      | exact quittanceref20_Same.mono _ _ _ _ _ _ _ _ _
      | exact LeO.none _
      | refine LeO.ite ?_ ?_
      | refine LeO.bind ?_ (fun _ => ?_)
theorem quittancelaw20_JournalTurns.mono : ∀ a0 a1 a2 a3 a4 k, LeO (quittancelaw20_JournalTurns.f k a0 a1 a2 a3 a4) (quittancelaw20_JournalTurns.f (k + 1) a0 a1 a2 a3 a4) := by
  intro a0 a1 a2 a3 a4 k
  have ih0 := quittancelaw20_JournalTurns.mono_l k
  unfold quittancelaw20_JournalTurns.f
  repeat' first
      | (with_reducible exact ih0 _ _ _ _ _ _)
      | (with_reducible exact journal_Reverse.mono _ _ _ _ _ _)
      | (with_reducible exact quittanceref20_Same.mono _ _ _ _ _ _ _ _ _)
      | (with_reducible exact LeO.refl _)
      | (with_reducible exact LeO.none _)
      | (with_reducible refine LeO.ite ?_ ?_)
      | (with_reducible refine LeO.bind ?_ (fun _ => ?_))
      | exact ih0 _ _ _ _ _ _
      | exact journal_Reverse.mono _ _ _ _ _ _
      | exact quittanceref20_Same.mono _ _ _ _ _ _ _ _ _
      | exact LeO.none _
      | refine LeO.ite ?_ ?_
      | refine LeO.bind ?_ (fun _ => ?_)
def quittancelaw20_JournalTurns.T13 : Bool × List (List Nat × List Nat) := (true, [([], []), ([], []), ([1], [1]), ([0, 2], [0, 2]), ([], []), ([4], [4]), ([3, 5, 3], [3, 5]), ([6, 6], [6]), ([7], [7]), ([8], [8]), ([8], [8]), ([9, 7, 0, 1, 2, 3, 4, 5, 6, 7, 8, 9], [9]), ([10, 11, 0, 1, 2, 3, 4, 5, 6, 7, 8, 9, 10, 11], [10])])
def quittancelaw20_JournalTurns.B13 : List Nat := [0, 0, 2, 7, 0, 16, 63, 127, 255, 511, 511, 1023, 4095]
theorem quittancelaw20_JournalTurns.tab13 : rtab .any (opsOf Try.f13 13) = quittancelaw20_JournalTurns.T13 := by kernel_rfl
theorem quittancelaw20_JournalTurns.bits13 : waitsOk quittancelaw20_JournalTurns.T13.2 quittancelaw20_JournalTurns.B13 = true := by kernel_rfl
set_option maxHeartbeats 8000000 in
set_option maxRecDepth 100000 in
theorem quittancelaw20_JournalTurns.calls (k : Nat) (a0_0 : Int) (a0_1 : Int) (a0_2 : Int) (A0_3 : Option Addr) (c0_3 : Nat) (l0_3 : List (S113)) (a1 : Int) (r : Bool) (w : World) (hr0_3 : Kd.C k113 w A0_3 l0_3.length l0_3) (hc0_3 : l0_3.length ≤ c0_3) (h : quittancelaw20_JournalTurns.f k a0_0 a0_1 a0_2 l0_3 a1 = some r) (hr_ : Aside0 (r = true)) :
    Calls Try.prog 13 #[.agg #[.int .i64 a0_0, .int .u8 a0_1, .int .u64 a0_2, .slice A0_3 l0_3.length c0_3], .int .i64 a1] w fun e w' => e = .returned (.bool r) ∧ Below w.heap.size w w' := by
  have hu32 := Try.underlying32
  have HR0_3 := Aside0.mk hr0_3
  have HC0_3 := Aside0.mk hc0_3
  clear hr0_3 hc0_3
  have HB := Aside0.mk (Below.refl w.heap.size w)
  have H : (if (l0_3.length : Int) > 100 then ((quittancelaw20_head.f).bind fun t1336 => (some t1336)) else ((journal_Check.f a0_0 a0_1 a0_2 l0_3).bind fun t1337 => (if t1337 = 0 then ((journal_Totals.f a0_0 a0_1 a0_2 l0_3).bind fun bt1347 => (if bt1347.2.2 = 0 then (if bt1347.1 = bt1347.2.1 then (quittancelaw20_JournalTurns.j0 k a1 (decide (bt1347.1 ≤ 0)) a0_0 a0_1 a0_2 l0_3) else (quittancelaw20_JournalTurns.j0 k a1 true a0_0 a0_1 a0_2 l0_3)) else (quittancelaw20_JournalTurns.j0 k a1 false a0_0 a0_1 a0_2 l0_3))) else ((journal_Reverse.f k a0_0 a0_1 a0_2 l0_3 a1).bind fun bt1338 => (if bt1338.2.2.2.2 = 0 then (some false) else (if (bt1338.2.2.2.1.length : Int) = 0 then ((quittancelaw20_head.f).bind fun t1346 => (some t1346)) else (some false))))))) = some r := h
  clear h
  by_cases c3 : (l0_3.length : Int) > 100
  · rw [if_pos c3] at H
    have c3b0 : decide (100 < (l0_3.length : Int)) = true := decide_eq_true c3
    have c3b1 : decide (100 < l0_3.length) = true := decide_eq_true (by omega)
    clear c3
    replace H := Option.bind_eq_some_iff.mp H
    obtain ⟨t1336, A40, H⟩ := H
    replace H : (some t1336) = some r := H
    have A4 := Aside0.mk A40
    clear A40
    obtain rfl := Option.some.inj H
    go_enter Try.func13, Try.ntmps13
    go_wp2_with (first | ((with_reducible refine gate_dst (N := 2) rfl ?_); (try (refine gate_guard (by rfl) ?_; dsimp only)); refine box_event ?hg (N := 2) ?hd (cs := #[.int .i64 a0_0, .int .u8 a0_1, .int .u64 a0_2, .slice A0_3 l0_3.length c0_3]) (t := 32) ?hr ?_; (case hd => rfl); (case hg => rfl); (case hr => first | (go_simp; done) | (go_simp; rfl)); intro gb1335 hg w5 hbox hb; have n0_ := Aside0.mk (below_step (by repeat (first | (with_reducible first | exact HB.out | apply below_alloc | apply pw_below_drewN | apply below_drew1) | exact HB.out)) hb); have n1_ := Aside0.mk (hbox); have n2_ := Aside0.mk ((by rw [hg]; exact (below_size (by repeat (first | (with_reducible first | exact HB.out | apply below_alloc | apply pw_below_drewN | apply below_drew1) | exact HB.out))) : w.heap.size ≤ gb1335)); have n3_ := Aside0.mk ((by rw [hg]; exact (below_size (by repeat (first | (with_reducible first | exact HB.out | apply below_alloc | apply pw_below_drewN | apply below_drew1) | exact HB.out))) : w.heap.size ≤ gb1335)); clear HB; have HB := n0_; have BK1335 := n1_; have GW1335 := n2_; have GE1335 := n3_; clear n0_ n1_ n2_ n3_; clear hb hbox hg; have hcz6_0 : w5.cell? ⟨gb1335, 0, none⟩ = some (.int .i64 a0_0) := (blk_cell BK1335.out 0).trans rfl; have hcz6_1 : w5.cell? ⟨gb1335, 1, none⟩ = some (.int .u8 a0_1) := (blk_cell BK1335.out 1).trans rfl; have hcz6_2 : w5.cell? ⟨gb1335, 2, none⟩ = some (.int .u64 a0_2) := (blk_cell BK1335.out 2).trans rfl; have hcz6_3 : w5.cell? ⟨gb1335, 3, none⟩ = some (.slice A0_3 l0_3.length c0_3) := (blk_cell BK1335.out 3).trans rfl; have hfz6_0 := blk_frozen BK1335.out 0; have hfz6_1 := blk_frozen BK1335.out 1; have hfz6_2 := blk_frozen BK1335.out 2; have hfz6_3 := blk_frozen BK1335.out 3) | ((with_reducible refine gate_callee (f := 50) rfl ?_); refine goesL_ (some 20) rfl rfl Try.func50 (by kernel_rfl) rfl #[] rfl (by (try simp only [List.map_toArray, List.map_cons, List.map_nil]); first | done | rfl | (simp only [List.length_drop, List.length_take]; rfl)) ?_; (with_reducible refine (quittancelaw20_head.calls  t1336 _ A4.out).mono ?_); rintro e w7 ⟨rfl, hb⟩; refine ⟨_, rfl, ?_⟩; have n0_ := Aside0.mk (blk_below (g := gb1335) (o := .cells #[.int .i64 a0_0, .int .u8 a0_1, .int .u64 a0_2, .slice A0_3 l0_3.length c0_3] 32 (0, 0)) (by (with_reducible repeat (first | refine blk_drewN ?_ _ | refine blk_drew ?_ | refine blk_alloc ?_ _)); exact BK1335.out) hb); have n1_ := Aside0.mk (below_step (by repeat (first | (with_reducible first | exact HB.out | apply below_alloc | apply pw_below_drewN | apply below_drew1 | refine below_set ?_ GE1335.out) | exact HB.out)) hb); clear BK1335; clear HB; have BK1335 := n0_; have HB := n1_; clear n0_ n1_; (try clear hb); (try clear hb2); (try clear hk); (try clear hi)))
    go_ret
    exact ⟨by first | rfl | (simp [errW_none, errW_some] <;> rfl) | (simp [*, errW_none, errW_some] <;> rfl), by repeat (first | (with_reducible first | exact HB.out | apply below_alloc | apply pw_below_drewN | apply below_drew1 | refine below_set ?_ GE1335.out) | exact HB.out)⟩
  · rw [if_neg c3] at H
    have c3b0 : decide (100 < (l0_3.length : Int)) = false := decide_eq_false c3
    have c3b1 : decide (100 < l0_3.length) = false := decide_eq_false (by omega)
    clear c3
    replace H := Option.bind_eq_some_iff.mp H
    obtain ⟨t1337, A80, H⟩ := H
    replace H : (if t1337 = 0 then ((journal_Totals.f a0_0 a0_1 a0_2 l0_3).bind fun bt1347 => (if bt1347.2.2 = 0 then (if bt1347.1 = bt1347.2.1 then (quittancelaw20_JournalTurns.j0 k a1 (decide (bt1347.1 ≤ 0)) a0_0 a0_1 a0_2 l0_3) else (quittancelaw20_JournalTurns.j0 k a1 true a0_0 a0_1 a0_2 l0_3)) else (quittancelaw20_JournalTurns.j0 k a1 false a0_0 a0_1 a0_2 l0_3))) else ((journal_Reverse.f k a0_0 a0_1 a0_2 l0_3 a1).bind fun bt1338 => (if bt1338.2.2.2.2 = 0 then (some false) else (if (bt1338.2.2.2.1.length : Int) = 0 then ((quittancelaw20_head.f).bind fun t1346 => (some t1346)) else (some false))))) = some r := H
    have A8 := Aside0.mk A80
    clear A80
    by_cases c9 : t1337 = 0
    · rw [if_pos c9] at H
      have c9b0 : (t1337 == 0) = true := beq_iff_eq.mpr c9
      have c9b1 : (t1337 != 0) = false := bne_eq_false_iff_eq.mpr c9
      clear c9
      replace H := Option.bind_eq_some_iff.mp H
      obtain ⟨⟨t1347, t1348, t1349⟩, A100, H⟩ := H
      replace H : (if t1349 = 0 then (if t1347 = t1348 then (quittancelaw20_JournalTurns.j0 k a1 (decide (t1347 ≤ 0)) a0_0 a0_1 a0_2 l0_3) else (quittancelaw20_JournalTurns.j0 k a1 true a0_0 a0_1 a0_2 l0_3)) else (quittancelaw20_JournalTurns.j0 k a1 false a0_0 a0_1 a0_2 l0_3)) = some r := H
      have A10 := Aside0.mk A100
      clear A100
      have HC11 := Aside0.mk H
      clear H
      go_enter Try.func13, Try.ntmps13
      go_upto_region 7 with (first | ((with_reducible refine gate_dst (N := 2) rfl ?_); (try (refine gate_guard (by rfl) ?_; dsimp only)); refine box_event ?hg (N := 2) ?hd (cs := #[.int .i64 a0_0, .int .u8 a0_1, .int .u64 a0_2, .slice A0_3 l0_3.length c0_3]) (t := 32) ?hr ?_; (case hd => rfl); (case hg => rfl); (case hr => first | (go_simp; done) | (go_simp; rfl)); intro gb1335 hg w12 hbox hb; have n0_ := Aside0.mk (below_step (by repeat (first | (with_reducible first | exact HB.out | apply below_alloc | apply pw_below_drewN | apply below_drew1) | exact HB.out)) hb); have n1_ := Aside0.mk (hbox); have n2_ := Aside0.mk ((by rw [hg]; exact (below_size (by repeat (first | (with_reducible first | exact HB.out | apply below_alloc | apply pw_below_drewN | apply below_drew1) | exact HB.out))) : w.heap.size ≤ gb1335)); have n3_ := Aside0.mk ((by rw [hg]; exact (below_size (by repeat (first | (with_reducible first | exact HB.out | apply below_alloc | apply pw_below_drewN | apply below_drew1) | exact HB.out))) : w.heap.size ≤ gb1335)); clear HB; have HB := n0_; have BK1335 := n1_; have GW1335 := n2_; have GE1335 := n3_; clear n0_ n1_ n2_ n3_; clear hb hbox hg; have hcz13_0 : w12.cell? ⟨gb1335, 0, none⟩ = some (.int .i64 a0_0) := (blk_cell BK1335.out 0).trans rfl; have hcz13_1 : w12.cell? ⟨gb1335, 1, none⟩ = some (.int .u8 a0_1) := (blk_cell BK1335.out 1).trans rfl; have hcz13_2 : w12.cell? ⟨gb1335, 2, none⟩ = some (.int .u64 a0_2) := (blk_cell BK1335.out 2).trans rfl; have hcz13_3 : w12.cell? ⟨gb1335, 3, none⟩ = some (.slice A0_3 l0_3.length c0_3) := (blk_cell BK1335.out 3).trans rfl; have hfz13_0 := blk_frozen BK1335.out 0; have hfz13_1 := blk_frozen BK1335.out 1; have hfz13_2 := blk_frozen BK1335.out 2; have hfz13_3 := blk_frozen BK1335.out 3) | ((with_reducible refine gate_callee (f := 17) rfl ?_); refine goesL_ (some 22) rfl rfl Try.func17 (by kernel_rfl) rfl #[.agg #[.int .i64 a0_0, .int .u8 a0_1, .int .u64 a0_2, .slice A0_3 l0_3.length c0_3]] rfl (by (try simp only [List.map_toArray, List.map_cons, List.map_nil]); first | done | rfl | (simp only [List.length_drop, List.length_take]; rfl)) ?_; (with_reducible refine (journal_Check.calls a0_0 a0_1 a0_2 _ _ l0_3 t1337 _ ?side1 ?side2 A8.out).mono ?_); (case side1 => repeat (first | exact (Kd.C_below HR0_3.out HB.out) | (with_reducible refine Kd.C_alloc ?_ _) | (with_reducible refine Kd.C_drewN ?_ _) | (with_reducible refine Kd.C_drew ?_))); (case side2 => exact HC0_3.out); rintro e w14 ⟨rfl, hb⟩; refine ⟨_, rfl, ?_⟩; have n0_ := Aside0.mk (blk_below (g := gb1335) (o := .cells #[.int .i64 a0_0, .int .u8 a0_1, .int .u64 a0_2, .slice A0_3 l0_3.length c0_3] 32 (0, 0)) (by (with_reducible repeat (first | refine blk_drewN ?_ _ | refine blk_drew ?_ | refine blk_alloc ?_ _)); exact BK1335.out) hb); have n1_ := Aside0.mk (below_step (by repeat (first | (with_reducible first | exact HB.out | apply below_alloc | apply pw_below_drewN | apply below_drew1 | refine below_set ?_ GE1335.out) | exact HB.out)) hb); clear BK1335; clear HB; have BK1335 := n0_; have HB := n1_; clear n0_ n1_; (try clear hb); (try clear hb2); (try clear hk); (try clear hi); have hcz15_0 : w14.cell? ⟨gb1335, 0, none⟩ = some (.int .i64 a0_0) := (blk_cell BK1335.out 0).trans rfl; have hcz15_1 : w14.cell? ⟨gb1335, 1, none⟩ = some (.int .u8 a0_1) := (blk_cell BK1335.out 1).trans rfl; have hcz15_2 : w14.cell? ⟨gb1335, 2, none⟩ = some (.int .u64 a0_2) := (blk_cell BK1335.out 2).trans rfl; have hcz15_3 : w14.cell? ⟨gb1335, 3, none⟩ = some (.slice A0_3 l0_3.length c0_3) := (blk_cell BK1335.out 3).trans rfl; have hfz15_0 := blk_frozen BK1335.out 0; have hfz15_1 := blk_frozen BK1335.out 1; have hfz15_2 := blk_frozen BK1335.out 2; have hfz15_3 := blk_frozen BK1335.out 3) | ((with_reducible refine gate_callee (f := 62) rfl ?_); refine goesL_ (some 43) rfl rfl Try.func62 (by kernel_rfl) rfl #[.agg #[.int .i64 a0_0, .int .u8 a0_1, .int .u64 a0_2, .slice A0_3 l0_3.length c0_3]] rfl (by (try simp only [List.map_toArray, List.map_cons, List.map_nil]); first | done | rfl | (simp only [List.length_drop, List.length_take]; rfl)) ?_; (with_reducible refine (journal_Totals.calls a0_0 a0_1 a0_2 _ _ l0_3 t1347 t1348 t1349 _ ?side1 ?side2 A10.out).mono ?_); (case side1 => repeat (first | exact (Kd.C_below HR0_3.out HB.out) | (with_reducible refine Kd.C_alloc ?_ _) | (with_reducible refine Kd.C_drewN ?_ _) | (with_reducible refine Kd.C_drew ?_))); (case side2 => exact HC0_3.out); rintro e w16 ⟨rfl, hb⟩; refine ⟨_, rfl, ?_⟩; have n0_ := Aside0.mk (blk_below (g := gb1335) (o := .cells #[.int .i64 a0_0, .int .u8 a0_1, .int .u64 a0_2, .slice A0_3 l0_3.length c0_3] 32 (0, 0)) (by (with_reducible repeat (first | refine blk_drewN ?_ _ | refine blk_drew ?_ | refine blk_alloc ?_ _)); exact BK1335.out) hb); have n1_ := Aside0.mk (below_step (by repeat (first | (with_reducible first | exact HB.out | apply below_alloc | apply pw_below_drewN | apply below_drew1 | refine below_set ?_ GE1335.out) | exact HB.out)) hb); clear BK1335; clear HB; have BK1335 := n0_; have HB := n1_; clear n0_ n1_; (try clear hb); (try clear hb2); (try clear hk); (try clear hi)))
      (try simp only [Act.put, List.setIfInBounds_toArray, List.set_cons_zero, List.set_cons_succ])
      go_cut [57] (fun v57 wc => ∃ (kq : Nat) (x57_10 : Bool), v57 = .bool x57_10 ∧ Aside0 (quittancelaw20_JournalTurns.j0 kq a1 x57_10 a0_0 a0_1 a0_2 l0_3 = some r) ∧ Aside0 (kq ≤ k) ∧ Aside0 (wc.heap[gb1335]? = some (.cells #[.int .i64 a0_0, .int .u8 a0_1, .int .u64 a0_2, (.slice A0_3 l0_3.length c0_3)] 32 (0, 0))) ∧ Aside0 (Below w.heap.size w wc))
      case first =>
        have H := HC11.out
        clear HC11
        by_cases c17 : t1349 = 0
        · rw [if_pos c17] at H
          have c17b0 : (t1349 == 0) = true := beq_iff_eq.mpr c17
          have c17b1 : (t1349 != 0) = false := bne_eq_false_iff_eq.mpr c17
          clear c17
          (first | rw [c17b0] | (simp only [i64_w, i32_w]; rw [c17b0]) | skip)
          by_cases c18 : t1347 = t1348
          · rw [if_pos c18] at H
            have c18b0 : (t1347 == t1348) = true := beq_iff_eq.mpr c18
            have c18b1 : (t1347 != t1348) = false := bne_eq_false_iff_eq.mpr c18
            clear c18
            have H' := Aside0.mk H
            clear H
            go_wp2
            go_meet
            case rel => exact ⟨_, (decide (t1347 ≤ 0)), (by first | rfl | (simp; done) | (simp [*]; done)), H', ⟨by first | omega | exact Nat.le_refl _⟩, ⟨by (with_reducible repeat (first | refine blk_drewN ?_ _ | refine blk_drew ?_ | refine blk_alloc ?_ _)); exact BK1335.out⟩, ⟨by repeat (first | (with_reducible first | exact HB.out | apply below_alloc | apply pw_below_drewN | apply below_drew1 | refine below_set ?_ GE1335.out) | exact HB.out)⟩⟩
          · rw [if_neg c18] at H
            have c18b0 : (t1347 == t1348) = false := beq_eq_false_iff_ne.mpr c18
            have c18b1 : (t1347 != t1348) = true := bne_iff_ne.mpr c18
            have H' := Aside0.mk H
            clear H
            go_wp2
            go_meet
            case rel => exact ⟨_, (true), (by first | rfl | (simp; done) | (simp [*]; done)), H', ⟨by first | omega | exact Nat.le_refl _⟩, ⟨by (with_reducible repeat (first | refine blk_drewN ?_ _ | refine blk_drew ?_ | refine blk_alloc ?_ _)); exact BK1335.out⟩, ⟨by repeat (first | (with_reducible first | exact HB.out | apply below_alloc | apply pw_below_drewN | apply below_drew1 | refine below_set ?_ GE1335.out) | exact HB.out)⟩⟩
        · rw [if_neg c17] at H
          have c17b0 : (t1349 == 0) = false := beq_eq_false_iff_ne.mpr c17
          have c17b1 : (t1349 != 0) = true := bne_iff_ne.mpr c17
          (first | rw [c17b0] | (simp only [i64_w, i32_w]; rw [c17b0]) | skip)
          have H' := Aside0.mk H
          clear H
          go_wp2
          go_meet
          case rel => exact ⟨_, (false), (by first | rfl | (simp; done) | (simp [*]; done)), H', ⟨by first | omega | exact Nat.le_refl _⟩, ⟨by (with_reducible repeat (first | refine blk_drewN ?_ _ | refine blk_drew ?_ | refine blk_alloc ?_ _)); exact BK1335.out⟩, ⟨by repeat (first | (with_reducible first | exact HB.out | apply below_alloc | apply pw_below_drewN | apply below_drew1 | refine below_set ?_ GE1335.out) | exact HB.out)⟩⟩
      case rest =>
        clear HC11
        try clear c1
        try clear p2
        try clear c3
        try clear c3b0
        try clear c3b1
        try clear c5
        try clear c6
        try clear c9
        try clear c9b0
        try clear c9b1
        try clear c13
        try clear c17
        try clear c17b0
        try clear c17b1
        try clear c18
        try clear c18b0
        try clear c18b1
        try clear hcz13_0
        try clear hcz13_1
        try clear hcz13_2
        try clear hcz13_3
        try clear hcz15_0
        try clear hcz15_1
        try clear hcz15_2
        try clear hcz15_3
        try clear hcz6_0
        try clear hcz6_1
        try clear hcz6_2
        try clear hcz6_3
        try clear hfz13_0
        try clear hfz13_1
        try clear hfz13_2
        try clear hfz13_3
        try clear hfz15_0
        try clear hfz15_1
        try clear hfz15_2
        try clear hfz15_3
        try clear hfz6_0
        try clear hfz6_1
        try clear hfz6_2
        try clear hfz6_3
        obtain ⟨kq, x57_10, rfl, HA, HJ10, BK1335, HB⟩ := hcut
        cases kq with
        | zero => exact absurd HA.out (by simp [quittancelaw20_JournalTurns.j0])
        | succ kj10 =>
          have H := HA.out
          clear HA
          simp only [quittancelaw20_JournalTurns.j0] at H
          by_cases c19 : x57_10 = true
          · subst c19
            have H1 : (some false) = some r := by rw [if_pos rfl] at H; exact H
            clear H
            have H := H1
            clear H1
            obtain rfl := Option.some.inj H
            exact absurd hr_.out Bool.false_ne_true
          · replace c19 := Bool.eq_false_iff.mpr c19
            subst c19
            have H1 : ((journal_Reverse.f kj10 a0_0 a0_1 a0_2 l0_3 a1).bind fun bt1350 => (if bt1350.2.2.2.2 = 0 then ((journal_Reverse.f kj10 bt1350.1 bt1350.2.1 bt1350.2.2.1 bt1350.2.2.2.1 a0_0).bind fun bt1360 => ((some (([] : List (S113)) : List (S113))).bind fun y1368 => (if y1368.length + l0_3.length < 4398046511104 then ((some (y1368 ++ l0_3 : List (S113))).bind fun y1371 => (if y1371.length + bt1350.2.2.2.1.length < 4398046511104 then ((journal_Tidy.f (y1371 ++ bt1350.2.2.2.1)).bind fun bt1377 => (if bt1360.2.2.2.2 = 0 then ((quittanceref20_Same.f kj10 bt1360.1 bt1360.2.1 bt1360.2.2.1 bt1360.2.2.2.1 a0_0 a0_1 a0_2 l0_3).bind fun t1381 => (if t1381 = true then (if bt1377.2 = 0 then (if (bt1377.1.length : Int) = 0 then ((journal_Check.f bt1350.1 bt1350.2.1 bt1350.2.2.1 bt1350.2.2.2.1).bind fun t1382 => (if t1382 = 0 then (if bt1350.1 = a1 then ((quittancelaw20_head.f).bind fun t1383 => (some t1383)) else (some false)) else (some false))) else (some false)) else (some false)) else (some false))) else (some false))) else (none))) else (none)))) else (if a1 < 1 then ((quittancelaw20_head.f).bind fun t1358 => (some t1358)) else (if a1 > 3652059 then ((quittancelaw20_head.f).bind fun t1359 => (some t1359)) else (some false))))) = some r := by rw [if_neg (show ¬ (false = true) by decide)] at H; exact H
            clear H
            have H := H1
            clear H1
            replace H := Option.bind_eq_some_iff.mp H
            obtain ⟨⟨t1350, t1351, t1352, t1353, t1356⟩, A200, H⟩ := H
            replace H : (if t1356 = 0 then ((journal_Reverse.f kj10 t1350 t1351 t1352 t1353 a0_0).bind fun bt1360 => ((some (([] : List (S113)) : List (S113))).bind fun y1368 => (if y1368.length + l0_3.length < 4398046511104 then ((some (y1368 ++ l0_3 : List (S113))).bind fun y1371 => (if y1371.length + t1353.length < 4398046511104 then ((journal_Tidy.f (y1371 ++ t1353)).bind fun bt1377 => (if bt1360.2.2.2.2 = 0 then ((quittanceref20_Same.f kj10 bt1360.1 bt1360.2.1 bt1360.2.2.1 bt1360.2.2.2.1 a0_0 a0_1 a0_2 l0_3).bind fun t1381 => (if t1381 = true then (if bt1377.2 = 0 then (if (bt1377.1.length : Int) = 0 then ((journal_Check.f t1350 t1351 t1352 t1353).bind fun t1382 => (if t1382 = 0 then (if t1350 = a1 then ((quittancelaw20_head.f).bind fun t1383 => (some t1383)) else (some false)) else (some false))) else (some false)) else (some false)) else (some false))) else (some false))) else (none))) else (none)))) else (if a1 < 1 then ((quittancelaw20_head.f).bind fun t1358 => (some t1358)) else (if a1 > 3652059 then ((quittancelaw20_head.f).bind fun t1359 => (some t1359)) else (some false)))) = some r := H
            have A20 := Aside0.mk A200
            clear A200
            by_cases c21 : t1356 = 0
            · rw [if_pos c21] at H
              have c21b0 : (t1356 == 0) = true := beq_iff_eq.mpr c21
              have c21b1 : (t1356 != 0) = false := bne_eq_false_iff_eq.mpr c21
              clear c21
              replace H := Option.bind_eq_some_iff.mp H
              obtain ⟨⟨t1360, t1361, t1362, t1363, t1366⟩, A220, H⟩ := H
              replace H : ((some (([] : List (S113)) : List (S113))).bind fun y1368 => (if y1368.length + l0_3.length < 4398046511104 then ((some (y1368 ++ l0_3 : List (S113))).bind fun y1371 => (if y1371.length + t1353.length < 4398046511104 then ((journal_Tidy.f (y1371 ++ t1353)).bind fun bt1377 => (if t1366 = 0 then ((quittanceref20_Same.f kj10 t1360 t1361 t1362 t1363 a0_0 a0_1 a0_2 l0_3).bind fun t1381 => (if t1381 = true then (if bt1377.2 = 0 then (if (bt1377.1.length : Int) = 0 then ((journal_Check.f t1350 t1351 t1352 t1353).bind fun t1382 => (if t1382 = 0 then (if t1350 = a1 then ((quittancelaw20_head.f).bind fun t1383 => (some t1383)) else (some false)) else (some false))) else (some false)) else (some false)) else (some false))) else (some false))) else (none))) else (none))) = some r := H
              have A22 := Aside0.mk A220
              clear A220
              obtain ⟨y1368, hy1368⟩ : ∃ y_ : List (S113), y_ = (([] : List (S113))) := ⟨_, rfl⟩
              replace H : (if y1368.length + l0_3.length < 4398046511104 then ((some (y1368 ++ l0_3 : List (S113))).bind fun y1371 => (if y1371.length + t1353.length < 4398046511104 then ((journal_Tidy.f (y1371 ++ t1353)).bind fun bt1377 => (if t1366 = 0 then ((quittanceref20_Same.f kj10 t1360 t1361 t1362 t1363 a0_0 a0_1 a0_2 l0_3).bind fun t1381 => (if t1381 = true then (if bt1377.2 = 0 then (if (bt1377.1.length : Int) = 0 then ((journal_Check.f t1350 t1351 t1352 t1353).bind fun t1382 => (if t1382 = 0 then (if t1350 = a1 then ((quittancelaw20_head.f).bind fun t1383 => (some t1383)) else (some false)) else (some false))) else (some false)) else (some false)) else (some false))) else (some false))) else (none))) else (none)) = some r := by first | (rw [hy1368]; with_reducible exact H) | (have H2_ := (Option.bind_some _ _).symm.trans H; rw [hy1368]; with_reducible exact H2_) | (have H2_ := (Option.bind_some _ _).symm.trans H; with_reducible exact H2_) | with_reducible exact H | (rw [hy1368]; exact H) | exact H
              have Ny1368 := Aside0.mk hy1368
              clear hy1368
              by_cases c23 : y1368.length + l0_3.length < 4398046511104
              · rw [if_pos c23] at H
                have LMc23 := Aside0.mk c23
                clear c23
                obtain ⟨y1371, hy1371⟩ : ∃ y_ : List (S113), y_ = (y1368 ++ l0_3) := ⟨_, rfl⟩
                replace H : (if y1371.length + t1353.length < 4398046511104 then ((journal_Tidy.f (y1371 ++ t1353)).bind fun bt1377 => (if t1366 = 0 then ((quittanceref20_Same.f kj10 t1360 t1361 t1362 t1363 a0_0 a0_1 a0_2 l0_3).bind fun t1381 => (if t1381 = true then (if bt1377.2 = 0 then (if (bt1377.1.length : Int) = 0 then ((journal_Check.f t1350 t1351 t1352 t1353).bind fun t1382 => (if t1382 = 0 then (if t1350 = a1 then ((quittancelaw20_head.f).bind fun t1383 => (some t1383)) else (some false)) else (some false))) else (some false)) else (some false)) else (some false))) else (some false))) else (none)) = some r := by first | (rw [hy1371]; with_reducible exact H) | (have H2_ := (Option.bind_some _ _).symm.trans H; rw [hy1371]; with_reducible exact H2_) | (have H2_ := (Option.bind_some _ _).symm.trans H; with_reducible exact H2_) | with_reducible exact H | (rw [hy1371]; exact H) | exact H
                have Ny1371 := Aside0.mk hy1371
                clear hy1371
                by_cases c24 : y1371.length + t1353.length < 4398046511104
                · rw [if_pos c24] at H
                  have LMc24 := Aside0.mk c24
                  clear c24
                  obtain ⟨y1374, hy1374⟩ : ∃ y_ : List (S113), y_ = (y1371 ++ t1353) := ⟨_, rfl⟩
                  replace H : ((journal_Tidy.f y1374).bind fun bt1377 => (if t1366 = 0 then ((quittanceref20_Same.f kj10 t1360 t1361 t1362 t1363 a0_0 a0_1 a0_2 l0_3).bind fun t1381 => (if t1381 = true then (if bt1377.2 = 0 then (if (bt1377.1.length : Int) = 0 then ((journal_Check.f t1350 t1351 t1352 t1353).bind fun t1382 => (if t1382 = 0 then (if t1350 = a1 then ((quittancelaw20_head.f).bind fun t1383 => (some t1383)) else (some false)) else (some false))) else (some false)) else (some false)) else (some false))) else (some false))) = some r := by first | (rw [hy1374]; with_reducible exact H) | (have H2_ := (Option.bind_some _ _).symm.trans H; rw [hy1374]; with_reducible exact H2_) | (have H2_ := (Option.bind_some _ _).symm.trans H; with_reducible exact H2_) | with_reducible exact H | (rw [hy1374]; exact H) | exact H
                  have Ny1374 := Aside0.mk hy1374
                  clear hy1374
                  replace H := Option.bind_eq_some_iff.mp H
                  obtain ⟨⟨t1377, t1378⟩, A250, H⟩ := H
                  replace H : (if t1366 = 0 then ((quittanceref20_Same.f kj10 t1360 t1361 t1362 t1363 a0_0 a0_1 a0_2 l0_3).bind fun t1381 => (if t1381 = true then (if t1378 = 0 then (if (t1377.length : Int) = 0 then ((journal_Check.f t1350 t1351 t1352 t1353).bind fun t1382 => (if t1382 = 0 then (if t1350 = a1 then ((quittancelaw20_head.f).bind fun t1383 => (some t1383)) else (some false)) else (some false))) else (some false)) else (some false)) else (some false))) else (some false)) = some r := H
                  have A25 := Aside0.mk A250
                  clear A250
                  by_cases c26 : t1366 = 0
                  · rw [if_pos c26] at H
                    have c26b0 : (t1366 == 0) = true := beq_iff_eq.mpr c26
                    have c26b1 : (t1366 != 0) = false := bne_eq_false_iff_eq.mpr c26
                    clear c26
                    replace H := Option.bind_eq_some_iff.mp H
                    obtain ⟨t1381, A270, H⟩ := H
                    replace H : (if t1381 = true then (if t1378 = 0 then (if (t1377.length : Int) = 0 then ((journal_Check.f t1350 t1351 t1352 t1353).bind fun t1382 => (if t1382 = 0 then (if t1350 = a1 then ((quittancelaw20_head.f).bind fun t1383 => (some t1383)) else (some false)) else (some false))) else (some false)) else (some false)) else (some false)) = some r := H
                    have A27 := Aside0.mk A270
                    clear A270
                    by_cases c28 : t1381 = true
                    · subst c28
                      have H1 : (if t1378 = 0 then (if (t1377.length : Int) = 0 then ((journal_Check.f t1350 t1351 t1352 t1353).bind fun t1382 => (if t1382 = 0 then (if t1350 = a1 then ((quittancelaw20_head.f).bind fun t1383 => (some t1383)) else (some false)) else (some false))) else (some false)) else (some false)) = some r := by rw [if_pos rfl] at H; exact H
                      clear H
                      have H := H1
                      clear H1
                      by_cases c29 : t1378 = 0
                      · rw [if_pos c29] at H
                        have c29b0 : (t1378 == 0) = true := beq_iff_eq.mpr c29
                        have c29b1 : (t1378 != 0) = false := bne_eq_false_iff_eq.mpr c29
                        clear c29
                        by_cases c30 : (t1377.length : Int) = 0
                        · rw [if_pos c30] at H
                          have c30b0 : ((t1377.length : Int) == 0) = true := beq_iff_eq.mpr c30
                          have c30b1 : ((t1377.length : Int) != 0) = false := bne_eq_false_iff_eq.mpr c30
                          clear c30
                          replace H := Option.bind_eq_some_iff.mp H
                          obtain ⟨t1382, A310, H⟩ := H
                          replace H : (if t1382 = 0 then (if t1350 = a1 then ((quittancelaw20_head.f).bind fun t1383 => (some t1383)) else (some false)) else (some false)) = some r := H
                          have A31 := Aside0.mk A310
                          clear A310
                          by_cases c32 : t1382 = 0
                          · rw [if_pos c32] at H
                            have c32b0 : (t1382 == 0) = true := beq_iff_eq.mpr c32
                            have c32b1 : (t1382 != 0) = false := bne_eq_false_iff_eq.mpr c32
                            clear c32
                            by_cases c33 : t1350 = a1
                            · rw [if_pos c33] at H
                              have c33b0 : (t1350 == a1) = true := beq_iff_eq.mpr c33
                              have c33b1 : (t1350 != a1) = false := bne_eq_false_iff_eq.mpr c33
                              clear c33
                              replace H := Option.bind_eq_some_iff.mp H
                              obtain ⟨t1383, A340, H⟩ := H
                              replace H : (some t1383) = some r := H
                              have A34 := Aside0.mk A340
                              clear A340
                              obtain rfl := Option.some.inj H
                              have hcz35_0 : wc.cell? ⟨gb1335, 0, none⟩ = some (.int .i64 a0_0) := (blk_cell BK1335.out 0).trans rfl
                              have hcz35_1 : wc.cell? ⟨gb1335, 1, none⟩ = some (.int .u8 a0_1) := (blk_cell BK1335.out 1).trans rfl
                              have hcz35_2 : wc.cell? ⟨gb1335, 2, none⟩ = some (.int .u64 a0_2) := (blk_cell BK1335.out 2).trans rfl
                              have hcz35_3 : wc.cell? ⟨gb1335, 3, none⟩ = some (.slice A0_3 l0_3.length c0_3) := (blk_cell BK1335.out 3).trans rfl
                              have hfz35_0 := blk_frozen BK1335.out 0
                              have hfz35_1 := blk_frozen BK1335.out 1
                              have hfz35_2 := blk_frozen BK1335.out 2
                              have hfz35_3 := blk_frozen BK1335.out 3
                              try go_wp2_with (first | ((with_reducible refine gate_callee (f := 61) rfl ?_); refine goesL_ (some 61) rfl rfl Try.func61 (by kernel_rfl) rfl #[.agg #[.int .i64 a0_0, .int .u8 a0_1, .int .u64 a0_2, .slice A0_3 l0_3.length c0_3], .int .i64 a1] rfl (by (try simp only [List.map_toArray, List.map_cons, List.map_nil]); first | done | rfl | (simp only [List.length_drop, List.length_take]; rfl)) ?_; (with_reducible refine (journal_Reverse.calls kj10 a0_0 a0_1 a0_2 _ _ l0_3 a1 t1350 t1351 t1352 t1353 t1356 _ ?side1 ?side2 A20.out).mono ?_); (case side1 => repeat (first | exact (Kd.C_below HR0_3.out HB.out) | (with_reducible refine Kd.C_alloc ?_ _) | (with_reducible refine Kd.C_drewN ?_ _) | (with_reducible refine Kd.C_drew ?_))); (case side2 => exact HC0_3.out); rintro e w36 ⟨v1354, rfl, ho0, hb⟩; refine ⟨_, rfl, ?_⟩; have n0_ := Aside0.mk (Kd.R_lower ho0 (below_size (by repeat (first | (with_reducible first | exact HB.out | apply below_alloc | apply pw_below_drewN | apply below_drew1 | refine below_set ?_ GE1335.out) | exact HB.out)))); have n1_ := Aside0.mk (blk_below (g := gb1335) (o := .cells #[.int .i64 a0_0, .int .u8 a0_1, .int .u64 a0_2, .slice A0_3 l0_3.length c0_3] 32 (0, 0)) (by (with_reducible repeat (first | refine blk_drewN ?_ _ | refine blk_drew ?_ | refine blk_alloc ?_ _)); exact BK1335.out) hb); have n2_ := Aside0.mk (below_step (by repeat (first | (with_reducible first | exact HB.out | apply below_alloc | apply pw_below_drewN | apply below_drew1 | refine below_set ?_ GE1335.out) | exact HB.out)) hb); clear BK1335; clear HB; have HO1355 := n0_; have BK1335 := n1_; have HB := n2_; clear n0_ n1_ n2_; (try clear hb); (try clear hb2); (try clear hk); (try clear hi); (try clear ho0)) | ((with_reducible refine gate_dst (N := 10) rfl ?_); (try (refine gate_guard (by rfl) ?_; dsimp only)); refine box_event ?hg (N := 10) ?hd (cs := #[.int .i64 0, .int .u8 0, .int .u64 0, .slice none 0 0]) (t := 32) ?hr ?_; (case hd => rfl); (case hg => rfl); (case hr => first | (go_simp; done) | (go_simp; rfl)); intro gb1357 hg w37 hbox hb; have n0_ := Aside0.mk (Kd.R_below (by (with_reducible repeat (first | apply Kd.R_alloc | apply Kd.R_drewN | apply Kd.R_drew)); exact HO1355.out) hb); have n1_ := Aside0.mk (blk_below (g := gb1335) (o := .cells #[.int .i64 a0_0, .int .u8 a0_1, .int .u64 a0_2, .slice A0_3 l0_3.length c0_3] 32 (0, 0)) (by (with_reducible repeat (first | refine blk_drewN ?_ _ | refine blk_drew ?_ | refine blk_alloc ?_ _)); exact BK1335.out) hb); have n2_ := Aside0.mk (below_step (by repeat (first | (with_reducible first | exact HB.out | apply below_alloc | apply pw_below_drewN | apply below_drew1 | refine below_set ?_ GE1335.out) | exact HB.out)) hb); have n3_ := Aside0.mk (hbox); have n4_ := Aside0.mk ((by rw [hg]; exact (below_size (by repeat (first | (with_reducible first | exact HB.out | apply below_alloc | apply pw_below_drewN | apply below_drew1 | refine below_set ?_ GE1335.out) | exact HB.out))) : w.heap.size ≤ gb1357)); have n5_ := Aside0.mk ((by rw [hg]; exact (below_size (by repeat (first | (with_reducible first | exact HB.out | apply below_alloc | apply pw_below_drewN | apply below_drew1 | refine below_set ?_ GE1335.out) | exact HB.out))) : w.heap.size ≤ gb1357)); have n6_ := Aside0.mk ((by rw [hg]; exact Nat.ne_of_lt (blk_lt (g := gb1335) (o := .cells #[.int .i64 a0_0, .int .u8 a0_1, .int .u64 a0_2, .slice A0_3 l0_3.length c0_3] 32 (0, 0)) (by (with_reducible repeat (first | refine blk_drewN ?_ _ | refine blk_drew ?_ | refine blk_alloc ?_ _)); exact BK1335.out)) : gb1335 ≠ gb1357)); have n7_ := Aside0.mk ((by rw [hg]; exact Nat.ne_of_gt (blk_lt (g := gb1335) (o := .cells #[.int .i64 a0_0, .int .u8 a0_1, .int .u64 a0_2, .slice A0_3 l0_3.length c0_3] 32 (0, 0)) (by (with_reducible repeat (first | refine blk_drewN ?_ _ | refine blk_drew ?_ | refine blk_alloc ?_ _)); exact BK1335.out)) : gb1357 ≠ gb1335)); clear HO1355; clear BK1335; clear HB; have HO1355 := n0_; have BK1335 := n1_; have HB := n2_; have BK1357 := n3_; have GW1357 := n4_; have GE1357 := n5_; have NB1335_1357 := n6_; have NB1357_1335 := n7_; clear n0_ n1_ n2_ n3_ n4_ n5_ n6_ n7_; clear hb hbox hg; have hnb38 := NB1357_1335.out; have hnc38 := NB1335_1357.out; have hcz39_0 : w37.cell? ⟨gb1357, 0, none⟩ = some (.int .i64 0) := (blk_cell BK1357.out 0).trans rfl; have hcz39_1 : w37.cell? ⟨gb1357, 1, none⟩ = some (.int .u8 0) := (blk_cell BK1357.out 1).trans rfl; have hcz39_2 : w37.cell? ⟨gb1357, 2, none⟩ = some (.int .u64 0) := (blk_cell BK1357.out 2).trans rfl; have hcz39_3 : w37.cell? ⟨gb1357, 3, none⟩ = some (.slice none 0 0) := (blk_cell BK1357.out 3).trans rfl; have hfz39_0 := blk_frozen BK1357.out 0; have hfz39_1 := blk_frozen BK1357.out 1; have hfz39_2 := blk_frozen BK1357.out 2; have hfz39_3 := blk_frozen BK1357.out 3; obtain ⟨Ao40, co40, eo40⟩ := Kd.R_slice HO1355.out; subst eo40; have hcz41_0 : w37.cell? ⟨gb1335, 0, none⟩ = some (.int .i64 a0_0) := (blk_cell BK1335.out 0).trans rfl; have hcz41_1 : w37.cell? ⟨gb1335, 1, none⟩ = some (.int .u8 a0_1) := (blk_cell BK1335.out 1).trans rfl; have hcz41_2 : w37.cell? ⟨gb1335, 2, none⟩ = some (.int .u64 a0_2) := (blk_cell BK1335.out 2).trans rfl; have hcz41_3 : w37.cell? ⟨gb1335, 3, none⟩ = some (.slice A0_3 l0_3.length c0_3) := (blk_cell BK1335.out 3).trans rfl; have hfz41_0 := blk_frozen BK1335.out 0; have hfz41_1 := blk_frozen BK1335.out 1; have hfz41_2 := blk_frozen BK1335.out 2; have hfz41_3 := blk_frozen BK1335.out 3) | ((with_reducible refine gate_callee (f := 61) rfl ?_); refine goesL_ (some 79) rfl rfl Try.func61 (by kernel_rfl) rfl #[.agg #[.int .i64 t1350, .int .u8 t1351, .int .u64 t1352, .slice Ao40 t1353.length co40], .int .i64 a0_0] rfl (by (try simp only [List.map_toArray, List.map_cons, List.map_nil]); first | done | rfl | (simp only [List.length_drop, List.length_take]; rfl)) ?_; (with_reducible refine (journal_Reverse.calls kj10 t1350 t1351 t1352 _ _ t1353 a0_0 t1360 t1361 t1362 t1363 t1366 _ ?side1 ?side2 A22.out).mono ?_); (case side1 => refine (Kd.R_reads' (e := 113) (base := w.heap.size) (ok := fun k_ => True) (n := t1353.length) (c := co40) ?_).2.2; exact (by (with_reducible repeat (first | apply Kd.R_alloc | apply Kd.R_drewN | apply Kd.R_drew)); exact (Kd.R_mono (Kd.R_far (p := ⟨gb1357, 3, none⟩) (Kd.R_far (p := ⟨gb1357, 2, none⟩) (Kd.R_far (p := ⟨gb1357, 1, none⟩) (Kd.R_far (p := ⟨gb1357, 0, none⟩) (Kd.R_types HO1355.out BK1357.out (by decide)) (fun _ hk => hk.2) (.int .i64 t1350)) (fun _ hk => hk.2) (.int .u8 t1351)) (fun _ hk => hk.2) (.int .u64 t1352)) (fun _ hk => hk.2) (.slice Ao40 t1353.length co40)) (fun _ h_ => h_.1)))); (case side2 => exact (Kd.R_reads' HO1355.out).2.1); rintro e w42 ⟨v1364, rfl, ho0, hb⟩; refine ⟨_, rfl, ?_⟩; have n0_ := Aside0.mk (Kd.R_elder' (by (with_reducible repeat (first | apply Kd.R_alloc | apply Kd.R_drewN | apply Kd.R_drew)); exact (Kd.R_mono (Kd.R_far (p := ⟨gb1357, 3, none⟩) (Kd.R_far (p := ⟨gb1357, 2, none⟩) (Kd.R_far (p := ⟨gb1357, 1, none⟩) (Kd.R_far (p := ⟨gb1357, 0, none⟩) (Kd.R_types HO1355.out BK1357.out (by decide)) (fun _ hk => hk.2) (.int .i64 t1350)) (fun _ hk => hk.2) (.int .u8 t1351)) (fun _ hk => hk.2) (.int .u64 t1352)) (fun _ hk => hk.2) (.slice Ao40 t1353.length co40)) (fun _ h_ => h_.1))) (Kd.R_base ho0) hb); have n1_ := Aside0.mk (Kd.R_lower (Kd.R_new' ho0 (Kd.R_lt (by (with_reducible repeat (first | apply Kd.R_alloc | apply Kd.R_drewN | apply Kd.R_drew)); exact (Kd.R_mono (Kd.R_far (p := ⟨gb1357, 3, none⟩) (Kd.R_far (p := ⟨gb1357, 2, none⟩) (Kd.R_far (p := ⟨gb1357, 1, none⟩) (Kd.R_far (p := ⟨gb1357, 0, none⟩) (Kd.R_types HO1355.out BK1357.out (by decide)) (fun _ hk => hk.2) (.int .i64 t1350)) (fun _ hk => hk.2) (.int .u8 t1351)) (fun _ hk => hk.2) (.int .u64 t1352)) (fun _ hk => hk.2) (.slice Ao40 t1353.length co40)) (fun _ h_ => h_.1))))) (below_size (by repeat (first | (with_reducible first | exact HB.out | apply below_alloc | apply pw_below_drewN | apply below_drew1 | refine below_set ?_ GE1335.out | refine below_set ?_ GE1357.out) | exact HB.out)))); have n2_ := Aside0.mk (blk_below (g := gb1335) (o := .cells #[.int .i64 a0_0, .int .u8 a0_1, .int .u64 a0_2, .slice A0_3 l0_3.length c0_3] 32 (0, 0)) (by (with_reducible repeat (first | refine blk_drewN ?_ _ | refine blk_drew ?_ | refine blk_alloc ?_ _)); refine blk_far ?_ NB1335_1357.out _; (with_reducible repeat (first | refine blk_drewN ?_ _ | refine blk_drew ?_ | refine blk_alloc ?_ _)); refine blk_far ?_ NB1335_1357.out _; (with_reducible repeat (first | refine blk_drewN ?_ _ | refine blk_drew ?_ | refine blk_alloc ?_ _)); refine blk_far ?_ NB1335_1357.out _; (with_reducible repeat (first | refine blk_drewN ?_ _ | refine blk_drew ?_ | refine blk_alloc ?_ _)); refine blk_far ?_ NB1335_1357.out _; (with_reducible repeat (first | refine blk_drewN ?_ _ | refine blk_drew ?_ | refine blk_alloc ?_ _)); exact BK1335.out) hb); have n3_ := Aside0.mk (blk_below (g := gb1357) (o := .cells #[.int .i64 t1350, .int .u8 t1351, .int .u64 t1352, .slice Ao40 t1353.length co40] 32 (0, 0)) (by (with_reducible repeat (first | refine blk_drewN ?_ _ | refine blk_drew ?_ | refine blk_alloc ?_ _)); refine blk_put (cs := #[.int .i64 t1350, .int .u8 t1351, .int .u64 t1352, .slice none 0 0]) ?_ 3 _ rfl; (with_reducible repeat (first | refine blk_drewN ?_ _ | refine blk_drew ?_ | refine blk_alloc ?_ _)); refine blk_put (cs := #[.int .i64 t1350, .int .u8 t1351, .int .u64 0, .slice none 0 0]) ?_ 2 _ rfl; (with_reducible repeat (first | refine blk_drewN ?_ _ | refine blk_drew ?_ | refine blk_alloc ?_ _)); refine blk_put (cs := #[.int .i64 t1350, .int .u8 0, .int .u64 0, .slice none 0 0]) ?_ 1 _ rfl; (with_reducible repeat (first | refine blk_drewN ?_ _ | refine blk_drew ?_ | refine blk_alloc ?_ _)); refine blk_put (cs := #[.int .i64 0, .int .u8 0, .int .u64 0, .slice none 0 0]) ?_ 0 _ rfl; (with_reducible repeat (first | refine blk_drewN ?_ _ | refine blk_drew ?_ | refine blk_alloc ?_ _)); exact BK1357.out) hb); have n4_ := Aside0.mk (below_step (by repeat (first | (with_reducible first | exact HB.out | apply below_alloc | apply pw_below_drewN | apply below_drew1 | refine below_set ?_ GE1335.out | refine below_set ?_ GE1357.out) | exact HB.out)) hb); clear HO1355; clear BK1335; clear BK1357; clear HB; have HO1355 := n0_; have HO1365 := n1_; have BK1335 := n2_; have BK1357 := n3_; have HB := n4_; clear n0_ n1_ n2_ n3_ n4_; (try clear hb); (try clear hb2); (try clear hk); (try clear hi); (try clear ho0)) | ((with_reducible refine gate_dst (N := 12) rfl ?_); (try (refine gate_guard (by rfl) ?_; dsimp only)); refine box_event ?hg (N := 12) ?hd (cs := #[.int .i64 0, .int .u8 0, .int .u64 0, .slice none 0 0]) (t := 32) ?hr ?_; (case hd => rfl); (case hg => rfl); (case hr => first | (go_simp; done) | (go_simp; rfl)); intro gb1367 hg w43 hbox hb; have n0_ := Aside0.mk (Kd.R_below (by (with_reducible repeat (first | apply Kd.R_alloc | apply Kd.R_drewN | apply Kd.R_drew)); exact HO1355.out) hb); have n1_ := Aside0.mk (Kd.R_below (by (with_reducible repeat (first | apply Kd.R_alloc | apply Kd.R_drewN | apply Kd.R_drew)); exact HO1365.out) hb); have n2_ := Aside0.mk (blk_below (g := gb1335) (o := .cells #[.int .i64 a0_0, .int .u8 a0_1, .int .u64 a0_2, .slice A0_3 l0_3.length c0_3] 32 (0, 0)) (by (with_reducible repeat (first | refine blk_drewN ?_ _ | refine blk_drew ?_ | refine blk_alloc ?_ _)); exact BK1335.out) hb); have n3_ := Aside0.mk (blk_below (g := gb1357) (o := .cells #[.int .i64 t1350, .int .u8 t1351, .int .u64 t1352, .slice Ao40 t1353.length co40] 32 (0, 0)) (by (with_reducible repeat (first | refine blk_drewN ?_ _ | refine blk_drew ?_ | refine blk_alloc ?_ _)); exact BK1357.out) hb); have n4_ := Aside0.mk (below_step (by repeat (first | (with_reducible first | exact HB.out | apply below_alloc | apply pw_below_drewN | apply below_drew1 | refine below_set ?_ GE1335.out | refine below_set ?_ GE1357.out) | exact HB.out)) hb); have n5_ := Aside0.mk (hbox); have n6_ := Aside0.mk ((by rw [hg]; exact (below_size (by repeat (first | (with_reducible first | exact HB.out | apply below_alloc | apply pw_below_drewN | apply below_drew1 | refine below_set ?_ GE1335.out | refine below_set ?_ GE1357.out) | exact HB.out))) : w.heap.size ≤ gb1367)); have n7_ := Aside0.mk ((by rw [hg]; exact (below_size (by repeat (first | (with_reducible first | exact HB.out | apply below_alloc | apply pw_below_drewN | apply below_drew1 | refine below_set ?_ GE1335.out | refine below_set ?_ GE1357.out) | exact HB.out))) : w.heap.size ≤ gb1367)); have n8_ := Aside0.mk ((by rw [hg]; exact Nat.ne_of_lt (blk_lt (g := gb1335) (o := .cells #[.int .i64 a0_0, .int .u8 a0_1, .int .u64 a0_2, .slice A0_3 l0_3.length c0_3] 32 (0, 0)) (by (with_reducible repeat (first | refine blk_drewN ?_ _ | refine blk_drew ?_ | refine blk_alloc ?_ _)); exact BK1335.out)) : gb1335 ≠ gb1367)); have n9_ := Aside0.mk ((by rw [hg]; exact Nat.ne_of_gt (blk_lt (g := gb1335) (o := .cells #[.int .i64 a0_0, .int .u8 a0_1, .int .u64 a0_2, .slice A0_3 l0_3.length c0_3] 32 (0, 0)) (by (with_reducible repeat (first | refine blk_drewN ?_ _ | refine blk_drew ?_ | refine blk_alloc ?_ _)); exact BK1335.out)) : gb1367 ≠ gb1335)); have n10_ := Aside0.mk ((by rw [hg]; exact Nat.ne_of_lt (blk_lt (g := gb1357) (o := .cells #[.int .i64 t1350, .int .u8 t1351, .int .u64 t1352, .slice Ao40 t1353.length co40] 32 (0, 0)) (by (with_reducible repeat (first | refine blk_drewN ?_ _ | refine blk_drew ?_ | refine blk_alloc ?_ _)); exact BK1357.out)) : gb1357 ≠ gb1367)); have n11_ := Aside0.mk ((by rw [hg]; exact Nat.ne_of_gt (blk_lt (g := gb1357) (o := .cells #[.int .i64 t1350, .int .u8 t1351, .int .u64 t1352, .slice Ao40 t1353.length co40] 32 (0, 0)) (by (with_reducible repeat (first | refine blk_drewN ?_ _ | refine blk_drew ?_ | refine blk_alloc ?_ _)); exact BK1357.out)) : gb1367 ≠ gb1357)); clear HO1355; clear HO1365; clear BK1335; clear BK1357; clear HB; have HO1355 := n0_; have HO1365 := n1_; have BK1335 := n2_; have BK1357 := n3_; have HB := n4_; have BK1367 := n5_; have GW1367 := n6_; have GE1367 := n7_; have NB1335_1367 := n8_; have NB1367_1335 := n9_; have NB1357_1367 := n10_; have NB1367_1357 := n11_; clear n0_ n1_ n2_ n3_ n4_ n5_ n6_ n7_ n8_ n9_ n10_ n11_; clear hb hbox hg; have hnb44 := NB1367_1335.out; have hnc44 := NB1335_1367.out; have hnb45 := NB1367_1357.out; have hnc45 := NB1357_1367.out; have hcz46_0 : w43.cell? ⟨gb1367, 0, none⟩ = some (.int .i64 0) := (blk_cell BK1367.out 0).trans rfl; have hcz46_1 : w43.cell? ⟨gb1367, 1, none⟩ = some (.int .u8 0) := (blk_cell BK1367.out 1).trans rfl; have hcz46_2 : w43.cell? ⟨gb1367, 2, none⟩ = some (.int .u64 0) := (blk_cell BK1367.out 2).trans rfl; have hcz46_3 : w43.cell? ⟨gb1367, 3, none⟩ = some (.slice none 0 0) := (blk_cell BK1367.out 3).trans rfl; have hfz46_0 := blk_frozen BK1367.out 0; have hfz46_1 := blk_frozen BK1367.out 1; have hfz46_2 := blk_frozen BK1367.out 2; have hfz46_3 := blk_frozen BK1367.out 3; obtain ⟨Ao47, co47, eo47⟩ := Kd.R_slice HO1365.out; subst eo47))
                              have n0_ : Aside0 (Kd.R k113 113 ((((w43.setCell ⟨gb1367, 0, none⟩ (.int .i64 t1360)).setCell ⟨gb1367, 1, none⟩ (.int .u8 t1361)).setCell ⟨gb1367, 2, none⟩ (.int .u64 t1362)).setCell ⟨gb1367, 3, none⟩ (.slice Ao47 t1363.length co47)) w.heap.size (fun k_ => some k_ ≠ (.slice Ao47 t1363.length co47 : Value).ownBlock) (.slice Ao40 t1353.length co40) t1353) := ⟨by (with_reducible repeat (first | apply Kd.R_alloc | apply Kd.R_drewN | apply Kd.R_drew)); exact Kd.R_mono (Kd.R_far (p := ⟨gb1367, 3, none⟩) (Kd.R_far (p := ⟨gb1367, 2, none⟩) (Kd.R_far (p := ⟨gb1367, 1, none⟩) (Kd.R_far (p := ⟨gb1367, 0, none⟩) (Kd.R_types HO1355.out BK1367.out (by decide)) (fun _ hk => hk.2) (.int .i64 t1360)) (fun _ hk => hk.2) (.int .u8 t1361)) (fun _ hk => hk.2) (.int .u64 t1362)) (fun _ hk => hk.2) (.slice Ao47 t1363.length co47)) (fun _ hk => hk.1.2)⟩
                              have n1_ : Aside0 (Kd.R k113 113 ((((w43.setCell ⟨gb1367, 0, none⟩ (.int .i64 t1360)).setCell ⟨gb1367, 1, none⟩ (.int .u8 t1361)).setCell ⟨gb1367, 2, none⟩ (.int .u64 t1362)).setCell ⟨gb1367, 3, none⟩ (.slice Ao47 t1363.length co47)) w.heap.size (fun k_ => some k_ ≠ (.slice Ao40 t1353.length co40 : Value).ownBlock) (.slice Ao47 t1363.length co47) t1363) := ⟨by (with_reducible repeat (first | apply Kd.R_alloc | apply Kd.R_drewN | apply Kd.R_drew)); exact Kd.R_mono (Kd.R_far (p := ⟨gb1367, 3, none⟩) (Kd.R_far (p := ⟨gb1367, 2, none⟩) (Kd.R_far (p := ⟨gb1367, 1, none⟩) (Kd.R_far (p := ⟨gb1367, 0, none⟩) (Kd.R_types HO1365.out BK1367.out (by decide)) (fun _ hk => hk.2) (.int .i64 t1360)) (fun _ hk => hk.2) (.int .u8 t1361)) (fun _ hk => hk.2) (.int .u64 t1362)) (fun _ hk => hk.2) (.slice Ao47 t1363.length co47)) (fun _ hk => hk.1.2)⟩
                              have n2_ : Aside0 (((((w43.setCell ⟨gb1367, 0, none⟩ (.int .i64 t1360)).setCell ⟨gb1367, 1, none⟩ (.int .u8 t1361)).setCell ⟨gb1367, 2, none⟩ (.int .u64 t1362)).setCell ⟨gb1367, 3, none⟩ (.slice Ao47 t1363.length co47)).heap[gb1335]? = some (.cells #[.int .i64 a0_0, .int .u8 a0_1, .int .u64 a0_2, .slice A0_3 l0_3.length c0_3] 32 (0, 0))) := ⟨by (with_reducible repeat (first | refine blk_drewN ?_ _ | refine blk_drew ?_ | refine blk_alloc ?_ _)); refine blk_far ?_ NB1335_1367.out _; (with_reducible repeat (first | refine blk_drewN ?_ _ | refine blk_drew ?_ | refine blk_alloc ?_ _)); refine blk_far ?_ NB1335_1367.out _; (with_reducible repeat (first | refine blk_drewN ?_ _ | refine blk_drew ?_ | refine blk_alloc ?_ _)); refine blk_far ?_ NB1335_1367.out _; (with_reducible repeat (first | refine blk_drewN ?_ _ | refine blk_drew ?_ | refine blk_alloc ?_ _)); refine blk_far ?_ NB1335_1367.out _; (with_reducible repeat (first | refine blk_drewN ?_ _ | refine blk_drew ?_ | refine blk_alloc ?_ _)); exact BK1335.out⟩
                              have n3_ : Aside0 (((((w43.setCell ⟨gb1367, 0, none⟩ (.int .i64 t1360)).setCell ⟨gb1367, 1, none⟩ (.int .u8 t1361)).setCell ⟨gb1367, 2, none⟩ (.int .u64 t1362)).setCell ⟨gb1367, 3, none⟩ (.slice Ao47 t1363.length co47)).heap[gb1357]? = some (.cells #[.int .i64 t1350, .int .u8 t1351, .int .u64 t1352, .slice Ao40 t1353.length co40] 32 (0, 0))) := ⟨by (with_reducible repeat (first | refine blk_drewN ?_ _ | refine blk_drew ?_ | refine blk_alloc ?_ _)); refine blk_far ?_ NB1357_1367.out _; (with_reducible repeat (first | refine blk_drewN ?_ _ | refine blk_drew ?_ | refine blk_alloc ?_ _)); refine blk_far ?_ NB1357_1367.out _; (with_reducible repeat (first | refine blk_drewN ?_ _ | refine blk_drew ?_ | refine blk_alloc ?_ _)); refine blk_far ?_ NB1357_1367.out _; (with_reducible repeat (first | refine blk_drewN ?_ _ | refine blk_drew ?_ | refine blk_alloc ?_ _)); refine blk_far ?_ NB1357_1367.out _; (with_reducible repeat (first | refine blk_drewN ?_ _ | refine blk_drew ?_ | refine blk_alloc ?_ _)); exact BK1357.out⟩
                              have n4_ : Aside0 (((((w43.setCell ⟨gb1367, 0, none⟩ (.int .i64 t1360)).setCell ⟨gb1367, 1, none⟩ (.int .u8 t1361)).setCell ⟨gb1367, 2, none⟩ (.int .u64 t1362)).setCell ⟨gb1367, 3, none⟩ (.slice Ao47 t1363.length co47)).heap[gb1367]? = some (.cells #[.int .i64 t1360, .int .u8 t1361, .int .u64 t1362, .slice Ao47 t1363.length co47] 32 (0, 0))) := ⟨by (with_reducible repeat (first | refine blk_drewN ?_ _ | refine blk_drew ?_ | refine blk_alloc ?_ _)); refine blk_put (cs := #[.int .i64 t1360, .int .u8 t1361, .int .u64 t1362, .slice none 0 0]) ?_ 3 _ rfl; (with_reducible repeat (first | refine blk_drewN ?_ _ | refine blk_drew ?_ | refine blk_alloc ?_ _)); refine blk_put (cs := #[.int .i64 t1360, .int .u8 t1361, .int .u64 0, .slice none 0 0]) ?_ 2 _ rfl; (with_reducible repeat (first | refine blk_drewN ?_ _ | refine blk_drew ?_ | refine blk_alloc ?_ _)); refine blk_put (cs := #[.int .i64 t1360, .int .u8 0, .int .u64 0, .slice none 0 0]) ?_ 1 _ rfl; (with_reducible repeat (first | refine blk_drewN ?_ _ | refine blk_drew ?_ | refine blk_alloc ?_ _)); refine blk_put (cs := #[.int .i64 0, .int .u8 0, .int .u64 0, .slice none 0 0]) ?_ 0 _ rfl; (with_reducible repeat (first | refine blk_drewN ?_ _ | refine blk_drew ?_ | refine blk_alloc ?_ _)); exact BK1367.out⟩
                              have n5_ : Aside0 (Below w.heap.size w ((((w43.setCell ⟨gb1367, 0, none⟩ (.int .i64 t1360)).setCell ⟨gb1367, 1, none⟩ (.int .u8 t1361)).setCell ⟨gb1367, 2, none⟩ (.int .u64 t1362)).setCell ⟨gb1367, 3, none⟩ (.slice Ao47 t1363.length co47))) := ⟨by repeat (first | (with_reducible first | exact HB.out | apply below_alloc | apply pw_below_drewN | apply below_drew1 | refine below_set ?_ GE1335.out | refine below_set ?_ GE1357.out | refine below_set ?_ GE1367.out) | exact HB.out)⟩
                              (try clear HO1355)
                              (try clear HO1365)
                              (try clear BK1335)
                              (try clear BK1357)
                              (try clear BK1367)
                              (try clear HB)
                              generalize ((((w43.setCell ⟨gb1367, 0, none⟩ (.int .i64 t1360)).setCell ⟨gb1367, 1, none⟩ (.int .u8 t1361)).setCell ⟨gb1367, 2, none⟩ (.int .u64 t1362)).setCell ⟨gb1367, 3, none⟩ (.slice Ao47 t1363.length co47)) = w48 at n0_ n1_ n2_ n3_ n4_ n5_ ⊢
                              have HO1355 := n0_
                              have HO1365 := n1_
                              have BK1335 := n2_
                              have BK1357 := n3_
                              have BK1367 := n4_
                              have HB := n5_
                              clear n0_ n1_ n2_ n3_ n4_ n5_
                              have n0_ := Aside0.mk (Kd.R_drew HO1355.out)
                              have n1_ := Aside0.mk (Kd.R_drew HO1365.out)
                              have n2_ := Aside0.mk (blk_drew BK1335.out)
                              have n3_ := Aside0.mk (blk_drew BK1357.out)
                              have n4_ := Aside0.mk (blk_drew BK1367.out)
                              have n5_ := Aside0.mk (below_drew1 HB.out)
                              clear HO1355
                              clear HO1365
                              clear BK1335
                              clear BK1357
                              clear BK1367
                              clear HB
                              have HO1355 := n0_
                              have HO1365 := n1_
                              have BK1335 := n2_
                              have BK1357 := n3_
                              have BK1367 := n4_
                              have HB := n5_
                              clear n0_ n1_ n2_ n3_ n4_ n5_
                              refine start_ (n := 13) (S := fun w' => w'.cell? ⟨gb1335, 0, none⟩ = some (.int .i64 a0_0) ∧ w'.cell? ⟨gb1335, 1, none⟩ = some (.int .u8 a0_1) ∧ w'.cell? ⟨gb1335, 2, none⟩ = some (.int .u64 a0_2) ∧ w'.cell? ⟨gb1335, 3, none⟩ = some (.slice A0_3 l0_3.length c0_3) ∧ w'.cell? ⟨gb1357, 0, none⟩ = some (.int .i64 t1350) ∧ w'.cell? ⟨gb1357, 1, none⟩ = some (.int .u8 t1351) ∧ w'.cell? ⟨gb1357, 2, none⟩ = some (.int .u64 t1352) ∧ w'.cell? ⟨gb1357, 3, none⟩ = some (.slice Ao40 t1353.length co40)) (ds := []) #[false, false, false, false, false, false, false, false, false, false, false, false, false] (by kernel_rfl) rfl rfl ⟨(blk_cell BK1335.out 0).trans rfl, (blk_cell BK1335.out 1).trans rfl, (blk_cell BK1335.out 2).trans rfl, (blk_cell BK1335.out 3).trans rfl, (blk_cell BK1357.out 0).trans rfl, (blk_cell BK1357.out 1).trans rfl, (blk_cell BK1357.out 2).trans rfl, (blk_cell BK1357.out 3).trans rfl⟩ (fun hHeld => ?_); refine with_tabW quittancelaw20_JournalTurns.tab13 quittancelaw20_JournalTurns.bits13 (fun HT_ HW_ => ?_)
                              generalize w48.drew = w49 at HO1355 HO1365 BK1335 BK1357 BK1367 HB hHeld ⊢
                              refine pure_ (i := 1) (N := some 84) (v := ?_) (a' := ?_) #[false, true, false, false, false, false, false, false, false, false, false, false, false] rfl rfl (any_of HT_.out (by kernel_rfl)) (fun _ _ _ h => h) (Or.inl ⟨by rfl, ?_⟩) ?_ ?_
                              rotate_left
                              · intro w'
                                go_simp
                                with_reducible rfl
                              rotate_left
                              · simp only [Act.put, List.setIfInBounds_toArray, List.set_cons_zero, List.set_cons_succ, i64_w, i32_w]
                                rfl
                              refine pure_ (i := 4) (N := some 87) (v := ?_) (a' := ?_) #[false, true, false, false, true, false, false, false, false, false, false, false, false] rfl rfl (any_of HT_.out (by kernel_rfl)) (fun _ _ _ h => h) (Or.inl ⟨by rfl, ?_⟩) ?_ ?_
                              rotate_left
                              · intro w'
                                go_simp
                                with_reducible rfl
                              rotate_left
                              · simp only [Act.put, List.setIfInBounds_toArray, List.set_cons_zero, List.set_cons_succ, i64_w, i32_w]
                                rfl
                              refine take_ (i := 2) (N := some 85) (v := ?_) (a' := ?_) #[false, true, true, false, true, false, false, false, false, false, false, false, false] rfl rfl (take_ofW HT_.out HW_.out (by kernel_rfl)) (fun _ _ _ h => h) (Or.inl ⟨by rfl, ?_⟩) hHeld ?_ ?_
                              rotate_left
                              · rintro w' ⟨s0, s1, s2, s3, s4, s5, s6, s7⟩
                                go_simp
                                with_reducible rfl
                              rotate_left
                              · simp only [Act.put, List.setIfInBounds_toArray, List.set_cons_zero, List.set_cons_succ, i64_w, i32_w]
                                rfl
                              refine take_ (i := 5) (N := some 88) (v := ?_) (a' := ?_) #[false, true, true, false, true, true, false, false, false, false, false, false, false] rfl rfl (take_ofW HT_.out HW_.out (by kernel_rfl)) (fun _ _ _ h => h) (Or.inl ⟨by rfl, ?_⟩) hHeld ?_ ?_
                              rotate_left
                              · rintro w' ⟨s0, s1, s2, s3, s4, s5, s6, s7⟩
                                go_simp
                                with_reducible rfl
                              rotate_left
                              · simp only [Act.put, List.setIfInBounds_toArray, List.set_cons_zero, List.set_cons_succ, i64_w, i32_w]
                                rfl
                              refine one_ (i := 0) (N := some 83) #[true, true, true, false, true, true, false, false, false, false, false, false, false] rfl rfl (one_of HT_.out (by kernel_rfl)) (by decide) (fun K hK => ?_)
                              refine Kd.R_lit_step k113 _ 113 ?hg (N := 83) ?hd (xs := ([] : List (S113))) (inner := []) (ok := fun _ => True) (okp := fun _ => True) ?hr ?hp (fun _ hk => hk) trivial (Below.refl _ _) (Nat.le_refl _) (by simp) ?_; (case hd => rfl); (case hg => rfl); (case hr => first | (go_simp; done) | (go_simp; rfl)); (case hp => exact (Reps.none _ _))
                              intro v1369 w50 ho51 hb hg_ hnew_
                              clear hg_ hnew_
                              (first | rw [← Ny1368.out] at ho51 | (simp only [Int.reduceToNat] at ho51; rw [← Ny1368.out] at ho51))
                              have n0_ := Aside0.mk (Kd.R_elder' (by (with_reducible repeat (first | apply Kd.R_alloc | apply Kd.R_drewN | apply Kd.R_drew)); exact HO1355.out) (Kd.R_base ho51) hb)
                              have n1_ := Aside0.mk (Kd.R_elder' (by (with_reducible repeat (first | apply Kd.R_alloc | apply Kd.R_drewN | apply Kd.R_drew)); exact HO1365.out) (Kd.R_base ho51) hb)
                              have n2_ := Aside0.mk (Kd.R_lower (Kd.R_new' (Kd.R_new' ho51 (Kd.R_lt (by (with_reducible repeat (first | apply Kd.R_alloc | apply Kd.R_drewN | apply Kd.R_drew)); exact HO1355.out))) (Kd.R_lt (by (with_reducible repeat (first | apply Kd.R_alloc | apply Kd.R_drewN | apply Kd.R_drew)); exact HO1365.out))) (below_size (by repeat (first | (with_reducible first | exact HB.out | apply below_alloc | apply pw_below_drewN | apply below_drew1 | refine below_set ?_ GE1335.out | refine below_set ?_ GE1357.out | refine below_set ?_ GE1367.out) | exact HB.out))))
                              have n3_ := Aside0.mk (blk_below (g := gb1335) (o := .cells #[.int .i64 a0_0, .int .u8 a0_1, .int .u64 a0_2, .slice A0_3 l0_3.length c0_3] 32 (0, 0)) (by (with_reducible repeat (first | refine blk_drewN ?_ _ | refine blk_drew ?_ | refine blk_alloc ?_ _)); exact BK1335.out) hb)
                              have n4_ := Aside0.mk (blk_below (g := gb1357) (o := .cells #[.int .i64 t1350, .int .u8 t1351, .int .u64 t1352, .slice Ao40 t1353.length co40] 32 (0, 0)) (by (with_reducible repeat (first | refine blk_drewN ?_ _ | refine blk_drew ?_ | refine blk_alloc ?_ _)); exact BK1357.out) hb)
                              have n5_ := Aside0.mk (blk_below (g := gb1367) (o := .cells #[.int .i64 t1360, .int .u8 t1361, .int .u64 t1362, .slice Ao47 t1363.length co47] 32 (0, 0)) (by (with_reducible repeat (first | refine blk_drewN ?_ _ | refine blk_drew ?_ | refine blk_alloc ?_ _)); exact BK1367.out) hb)
                              have n6_ := Aside0.mk (below_step (by repeat (first | (with_reducible first | exact HB.out | apply below_alloc | apply pw_below_drewN | apply below_drew1 | refine below_set ?_ GE1335.out | refine below_set ?_ GE1357.out | refine below_set ?_ GE1367.out) | exact HB.out)) hb)
                              clear HO1355
                              clear HO1365
                              clear BK1335
                              clear BK1357
                              clear BK1367
                              clear HB
                              have HO1355 := n0_
                              have HO1365 := n1_
                              have HO1370 := n2_
                              have BK1335 := n3_
                              have BK1357 := n4_
                              have BK1367 := n5_
                              have HB := n6_
                              clear n0_ n1_ n2_ n3_ n4_ n5_ n6_
                              clear hb ho51
                              refine hK.out _ _ ⟨(blk_cell BK1335.out 0).trans rfl, (blk_cell BK1335.out 1).trans rfl, (blk_cell BK1335.out 2).trans rfl, (blk_cell BK1335.out 3).trans rfl, (blk_cell BK1357.out 0).trans rfl, (blk_cell BK1357.out 1).trans rfl, (blk_cell BK1357.out 2).trans rfl, (blk_cell BK1357.out 3).trans rfl⟩ (fun hHeld => ?_)
                              clear hK K
                              refine norm_ (a' := ?_) ?_ ?_
                              rotate_left
                              · show Act.put _ (some 83) _ = _
                                simp only [Act.put, List.setIfInBounds_toArray, List.set_cons_zero, List.set_cons_succ, i64_w, i32_w]
                                rfl
                              refine one_ (i := 3) (N := some 86) #[true, true, true, true, true, true, false, false, false, false, false, false, false] rfl rfl (one_of HT_.out (by kernel_rfl)) (by decide) (fun K hK => ?_)
                              refine Kd.R_append_rows_step k113 (w0 := w) w.heap.size (by rfl) (.tmp 83) (.tmp 85) 30 113 (.agg #[(.int .i64 0), (.int .u64 0), (.int .u64 0), (.int .i64 0)]) 32 rfl Try.underlying30 info113 rfl (by decide) (by omega) v1369 y1368 l0_3 _ _ _ (fun k_ => some k_ ≠ (.slice Ao40 t1353.length co40 : Value).ownBlock ∧ some k_ ≠ (.slice Ao47 t1363.length co47 : Value).ownBlock) (fun _ => False) rfl rfl ?aO ?aR (fun _ _ h => h) (fun _ h => h.elim) ?aF ?aB ?aS ?aL ?_
                              (case aR => repeat (first | exact (Kd.C_below HR0_3.out HB.out) | (with_reducible refine Kd.C_alloc ?_ _) | (with_reducible refine Kd.C_drewN ?_ _) | (with_reducible refine Kd.C_drew ?_)))
                              (case aB => exact (by repeat (first | (with_reducible first | exact HB.out | apply below_alloc | apply pw_below_drewN | apply below_drew1 | refine below_set ?_ GE1335.out | refine below_set ?_ GE1357.out | refine below_set ?_ GE1367.out) | exact HB.out)))
                              (case aF => exact (fun k_ hk => ⟨Kd.fresh' (Kd.R_lt (by (with_reducible repeat (first | apply Kd.R_alloc | apply Kd.R_drewN | apply Kd.R_drew)); exact HO1355.out)) k_ hk, Kd.fresh' (Kd.R_lt (by (with_reducible repeat (first | apply Kd.R_alloc | apply Kd.R_drewN | apply Kd.R_drew)); exact HO1365.out)) k_ hk⟩))
                              (case aO => exact (by (with_reducible repeat (first | apply Kd.R_alloc | apply Kd.R_drewN | apply Kd.R_drew)); exact Kd.R_mono HO1370.out (fun _ hk => ⟨hk.1.2, hk.2⟩)))
                              (case aS => exact (below_size (by repeat (first | (with_reducible first | exact HB.out | apply below_alloc | apply pw_below_drewN | apply below_drew1 | refine below_set ?_ GE1335.out | refine below_set ?_ GE1357.out | refine below_set ?_ GE1367.out) | exact HB.out))))
                              (case aL => have := LMc23.out; omega)
                              intro v1372 w52 ho hb hg hat
                              rw [← Ny1371.out] at ho
                              have n0_ := Aside0.mk (blk_grown (g := gb1335) (o := .cells #[.int .i64 a0_0, .int .u8 a0_1, .int .u64 a0_2, .slice A0_3 l0_3.length c0_3] 32 (0, 0)) (by (with_reducible repeat (first | refine blk_drewN ?_ _ | refine blk_drew ?_ | refine blk_alloc ?_ _)); exact BK1335.out) hg (Kd.R_ne HO1370.out BK1335.out (by decide)))
                              have n1_ := Aside0.mk (Kd.R_after (ok := (fun k_ => some k_ ≠ (.slice Ao47 t1363.length co47 : Value).ownBlock)) (by (with_reducible repeat (first | apply Kd.R_alloc | apply Kd.R_drewN | apply Kd.R_drew)); exact HO1355.out) hg hat)
                              have n2_ := Aside0.mk (blk_grown (g := gb1357) (o := .cells #[.int .i64 t1350, .int .u8 t1351, .int .u64 t1352, .slice Ao40 t1353.length co40] 32 (0, 0)) (by (with_reducible repeat (first | refine blk_drewN ?_ _ | refine blk_drew ?_ | refine blk_alloc ?_ _)); exact BK1357.out) hg (Kd.R_ne HO1370.out BK1357.out (by decide)))
                              have n3_ := Aside0.mk (Kd.R_after (ok := (fun k_ => some k_ ≠ (.slice Ao40 t1353.length co40 : Value).ownBlock)) (by (with_reducible repeat (first | apply Kd.R_alloc | apply Kd.R_drewN | apply Kd.R_drew)); exact HO1365.out) hg hat)
                              have n4_ := Aside0.mk (blk_grown (g := gb1367) (o := .cells #[.int .i64 t1360, .int .u8 t1361, .int .u64 t1362, .slice Ao47 t1363.length co47] 32 (0, 0)) (by (with_reducible repeat (first | refine blk_drewN ?_ _ | refine blk_drew ?_ | refine blk_alloc ?_ _)); exact BK1367.out) hg (Kd.R_ne HO1370.out BK1367.out (by decide)))
                              have n5_ := Aside0.mk (hb)
                              have n6_ := Aside0.mk (ho)
                              clear BK1335
                              clear HO1355
                              clear BK1357
                              clear HO1365
                              clear BK1367
                              clear HB
                              clear HO1370
                              have BK1335 := n0_
                              have HO1355 := n1_
                              have BK1357 := n2_
                              have HO1365 := n3_
                              have BK1367 := n4_
                              have HB := n5_
                              have HO1373 := n6_
                              clear n0_ n1_ n2_ n3_ n4_ n5_ n6_
                              clear ho hb hg hat
                              refine hK.out _ _ ⟨(blk_cell BK1335.out 0).trans rfl, (blk_cell BK1335.out 1).trans rfl, (blk_cell BK1335.out 2).trans rfl, (blk_cell BK1335.out 3).trans rfl, (blk_cell BK1357.out 0).trans rfl, (blk_cell BK1357.out 1).trans rfl, (blk_cell BK1357.out 2).trans rfl, (blk_cell BK1357.out 3).trans rfl⟩ (fun hHeld => ?_)
                              clear hK K
                              refine norm_ (a' := ?_) ?_ ?_
                              rotate_left
                              · show Act.put _ (some 86) _ = _
                                simp only [Act.put, List.setIfInBounds_toArray, List.set_cons_zero, List.set_cons_succ, i64_w, i32_w]
                                rfl
                              refine one_ (i := 6) (N := some 89) #[true, true, true, true, true, true, true, false, false, false, false, false, false] rfl rfl (one_of HT_.out (by kernel_rfl)) (by decide) (fun K hK => ?_)
                              refine Kd.R_append_rows_step k113 (w0 := w) w.heap.size (by rfl) (.tmp 86) (.tmp 88) 30 113 (.agg #[(.int .i64 0), (.int .u64 0), (.int .u64 0), (.int .i64 0)]) 32 rfl Try.underlying30 info113 rfl (by decide) (by omega) v1372 y1371 t1353 _ _ _ (fun k_ => some k_ ≠ (.slice Ao40 t1353.length co40 : Value).ownBlock ∧ some k_ ≠ (.slice Ao47 t1363.length co47 : Value).ownBlock) (fun _ => False) rfl rfl ?aO ?aR (fun _ _ h => h) (fun _ h => h.elim) ?aF ?aB ?aS ?aL ?_
                              (case aR => repeat (first | exact (Kd.R_reads' HO1355.out).2.2 | (with_reducible refine Kd.C_alloc ?_ _) | (with_reducible refine Kd.C_drewN ?_ _) | (with_reducible refine Kd.C_drew ?_)))
                              (case aB => exact (by repeat (first | (with_reducible first | exact HB.out | apply below_alloc | apply pw_below_drewN | apply below_drew1 | refine below_set ?_ GE1335.out | refine below_set ?_ GE1357.out | refine below_set ?_ GE1367.out) | exact HB.out)))
                              (case aF => exact (fun k_ hk => ⟨Kd.fresh' (Kd.R_lt (by (with_reducible repeat (first | apply Kd.R_alloc | apply Kd.R_drewN | apply Kd.R_drew)); exact HO1355.out)) k_ hk, Kd.fresh' (Kd.R_lt (by (with_reducible repeat (first | apply Kd.R_alloc | apply Kd.R_drewN | apply Kd.R_drew)); exact HO1365.out)) k_ hk⟩))
                              (case aO => exact (by (with_reducible repeat (first | apply Kd.R_alloc | apply Kd.R_drewN | apply Kd.R_drew)); exact HO1373.out))
                              (case aS => exact (below_size (by repeat (first | (with_reducible first | exact HB.out | apply below_alloc | apply pw_below_drewN | apply below_drew1 | refine below_set ?_ GE1335.out | refine below_set ?_ GE1357.out | refine below_set ?_ GE1367.out) | exact HB.out))))
                              (case aL => have := LMc24.out; omega)
                              intro v1375 w53 ho hb hg hat
                              rw [← Ny1374.out] at ho
                              have n0_ := Aside0.mk (blk_grown (g := gb1335) (o := .cells #[.int .i64 a0_0, .int .u8 a0_1, .int .u64 a0_2, .slice A0_3 l0_3.length c0_3] 32 (0, 0)) (by (with_reducible repeat (first | refine blk_drewN ?_ _ | refine blk_drew ?_ | refine blk_alloc ?_ _)); exact BK1335.out) hg (Kd.R_ne HO1373.out BK1335.out (by decide)))
                              have n1_ := Aside0.mk (Kd.R_after (ok := (fun k_ => some k_ ≠ (.slice Ao47 t1363.length co47 : Value).ownBlock)) (by (with_reducible repeat (first | apply Kd.R_alloc | apply Kd.R_drewN | apply Kd.R_drew)); exact HO1355.out) hg hat)
                              have n2_ := Aside0.mk (blk_grown (g := gb1357) (o := .cells #[.int .i64 t1350, .int .u8 t1351, .int .u64 t1352, .slice Ao40 t1353.length co40] 32 (0, 0)) (by (with_reducible repeat (first | refine blk_drewN ?_ _ | refine blk_drew ?_ | refine blk_alloc ?_ _)); exact BK1357.out) hg (Kd.R_ne HO1373.out BK1357.out (by decide)))
                              have n3_ := Aside0.mk (Kd.R_after (ok := (fun k_ => some k_ ≠ (.slice Ao40 t1353.length co40 : Value).ownBlock)) (by (with_reducible repeat (first | apply Kd.R_alloc | apply Kd.R_drewN | apply Kd.R_drew)); exact HO1365.out) hg hat)
                              have n4_ := Aside0.mk (blk_grown (g := gb1367) (o := .cells #[.int .i64 t1360, .int .u8 t1361, .int .u64 t1362, .slice Ao47 t1363.length co47] 32 (0, 0)) (by (with_reducible repeat (first | refine blk_drewN ?_ _ | refine blk_drew ?_ | refine blk_alloc ?_ _)); exact BK1367.out) hg (Kd.R_ne HO1373.out BK1367.out (by decide)))
                              have n5_ := Aside0.mk (hb)
                              have n6_ := Aside0.mk (ho)
                              clear BK1335
                              clear HO1355
                              clear BK1357
                              clear HO1365
                              clear BK1367
                              clear HB
                              clear HO1373
                              have BK1335 := n0_
                              have HO1355 := n1_
                              have BK1357 := n2_
                              have HO1365 := n3_
                              have BK1367 := n4_
                              have HB := n5_
                              have HO1376 := n6_
                              clear n0_ n1_ n2_ n3_ n4_ n5_ n6_
                              clear ho hb hg hat
                              obtain ⟨Ao54, co54, eo54⟩ := Kd.R_slice HO1376.out
                              (first | subst eo54 | (injection eo54 with f1_ f2_ f3_; have f4_ := f1_.symm; have f5_ := f3_.symm; clear f1_ f2_ f3_; subst f4_; subst f5_))
                              refine hK.out _ _ ⟨(blk_cell BK1335.out 0).trans rfl, (blk_cell BK1335.out 1).trans rfl, (blk_cell BK1335.out 2).trans rfl, (blk_cell BK1335.out 3).trans rfl, (blk_cell BK1357.out 0).trans rfl, (blk_cell BK1357.out 1).trans rfl, (blk_cell BK1357.out 2).trans rfl, (blk_cell BK1357.out 3).trans rfl⟩ (fun hHeld => ?_)
                              clear hK K
                              refine norm_ (a' := ?_) ?_ ?_
                              rotate_left
                              · show Act.put _ (some 89) _ = _
                                simp only [Act.put, List.setIfInBounds_toArray, List.set_cons_zero, List.set_cons_succ, i64_w, i32_w]
                                rfl
                              refine one_ (i := 7) (N := some 90) #[true, true, true, true, true, true, true, true, false, false, false, false, false] rfl rfl (one_of HT_.out (by kernel_rfl)) (by decide) (fun K hK => ?_)
                              refine goes_ Try.func51 (by kernel_rfl) rfl #[.slice Ao54 y1374.length co54] (by rfl) rfl rfl (by (try simp only [List.map_toArray, List.map_cons, List.map_nil]); first | done | rfl | (simp only [List.length_drop, List.length_take]; rfl)) ?_
                              with_reducible refine (journal_Tidy.calls _ _ y1374 t1377 t1378 _ ?side1 ?side2 A25.out).mono ?_
                              (case side1 => repeat (first | exact (Kd.R_reads' HO1376.out).2.2 | (with_reducible refine Kd.C_alloc ?_ _) | (with_reducible refine Kd.C_drewN ?_ _) | (with_reducible refine Kd.C_drew ?_)))
                              (case side2 => exact (Kd.R_reads' HO1376.out).2.1)
                              rintro e w55 ⟨v1379, rfl, ho0, hb⟩
                              refine ⟨_, rfl, ?_⟩
                              have n0_ := Aside0.mk (Kd.R_elder' (by (with_reducible repeat (first | apply Kd.R_alloc | apply Kd.R_drewN | apply Kd.R_drew)); exact HO1355.out) (Kd.R_base ho0) hb)
                              have n1_ := Aside0.mk (Kd.R_elder' (by (with_reducible repeat (first | apply Kd.R_alloc | apply Kd.R_drewN | apply Kd.R_drew)); exact HO1365.out) (Kd.R_base ho0) hb)
                              have n2_ := Aside0.mk (Kd.R_elder' (by (with_reducible repeat (first | apply Kd.R_alloc | apply Kd.R_drewN | apply Kd.R_drew)); exact HO1376.out) (Kd.R_base ho0) hb)
                              have n3_ := Aside0.mk (Kd.R_lower (Kd.R_new' (Kd.R_new' (Kd.R_new' ho0 (Kd.R_lt (by (with_reducible repeat (first | apply Kd.R_alloc | apply Kd.R_drewN | apply Kd.R_drew)); exact HO1355.out))) (Kd.R_lt (by (with_reducible repeat (first | apply Kd.R_alloc | apply Kd.R_drewN | apply Kd.R_drew)); exact HO1365.out))) (Kd.R_lt (by (with_reducible repeat (first | apply Kd.R_alloc | apply Kd.R_drewN | apply Kd.R_drew)); exact HO1376.out))) (below_size (by repeat (first | (with_reducible first | exact HB.out | apply below_alloc | apply pw_below_drewN | apply below_drew1 | refine below_set ?_ GE1335.out | refine below_set ?_ GE1357.out | refine below_set ?_ GE1367.out) | exact HB.out))))
                              have n4_ := Aside0.mk (blk_below (g := gb1335) (o := .cells #[.int .i64 a0_0, .int .u8 a0_1, .int .u64 a0_2, .slice A0_3 l0_3.length c0_3] 32 (0, 0)) (by (with_reducible repeat (first | refine blk_drewN ?_ _ | refine blk_drew ?_ | refine blk_alloc ?_ _)); exact BK1335.out) hb)
                              have n5_ := Aside0.mk (blk_below (g := gb1357) (o := .cells #[.int .i64 t1350, .int .u8 t1351, .int .u64 t1352, .slice Ao40 t1353.length co40] 32 (0, 0)) (by (with_reducible repeat (first | refine blk_drewN ?_ _ | refine blk_drew ?_ | refine blk_alloc ?_ _)); exact BK1357.out) hb)
                              have n6_ := Aside0.mk (blk_below (g := gb1367) (o := .cells #[.int .i64 t1360, .int .u8 t1361, .int .u64 t1362, .slice Ao47 t1363.length co47] 32 (0, 0)) (by (with_reducible repeat (first | refine blk_drewN ?_ _ | refine blk_drew ?_ | refine blk_alloc ?_ _)); exact BK1367.out) hb)
                              have n7_ := Aside0.mk (below_step (by repeat (first | (with_reducible first | exact HB.out | apply below_alloc | apply pw_below_drewN | apply below_drew1 | refine below_set ?_ GE1335.out | refine below_set ?_ GE1357.out | refine below_set ?_ GE1367.out) | exact HB.out)) hb)
                              clear HO1355
                              clear HO1365
                              clear HO1376
                              clear BK1335
                              clear BK1357
                              clear BK1367
                              clear HB
                              have HO1355 := n0_
                              have HO1365 := n1_
                              have HO1376 := n2_
                              have HO1380 := n3_
                              have BK1335 := n4_
                              have BK1357 := n5_
                              have BK1367 := n6_
                              have HB := n7_
                              clear n0_ n1_ n2_ n3_ n4_ n5_ n6_ n7_
                              (try clear hb)
                              (try clear hb2)
                              (try clear hk)
                              (try clear hi)
                              (try clear ho0)
                              refine hK.out _ _ ⟨(blk_cell BK1335.out 0).trans rfl, (blk_cell BK1335.out 1).trans rfl, (blk_cell BK1335.out 2).trans rfl, (blk_cell BK1335.out 3).trans rfl, (blk_cell BK1357.out 0).trans rfl, (blk_cell BK1357.out 1).trans rfl, (blk_cell BK1357.out 2).trans rfl, (blk_cell BK1357.out 3).trans rfl⟩ (fun hHeld => ?_)
                              clear hK K
                              refine norm_ (a' := ?_) ?_ ?_
                              rotate_left
                              · show Act.put _ (some 90) _ = _
                                simp only [Act.put, List.setIfInBounds_toArray, List.set_cons_zero, List.set_cons_succ, i64_w, i32_w]
                                rfl
                              refine pure_ (i := 8) (N := some 82) (v := ?_) (a' := ?_) #[true, true, true, true, true, true, true, true, true, false, false, false, false] rfl rfl (any_of HT_.out (by kernel_rfl)) (fun _ _ _ h => h) (Or.inl ⟨by rfl, ?_⟩) ?_ ?_
                              rotate_left
                              · intro w'
                                go_simp
                                with_reducible rfl
                              rotate_left
                              · simp only [Act.put, List.setIfInBounds_toArray, List.set_cons_zero, List.set_cons_succ, i64_w, i32_w]
                                rfl
                              refine pure_ (i := 9) (N := some 91) (v := ?_) (a' := ?_) #[true, true, true, true, true, true, true, true, true, true, false, false, false] rfl rfl (any_of HT_.out (by kernel_rfl)) (fun _ _ _ h => h) (Or.inl ⟨by rfl, ?_⟩) ?_ ?_
                              rotate_left
                              · intro w'
                                go_simp
                                with_reducible rfl
                              rotate_left
                              · simp only [Act.put, List.setIfInBounds_toArray, List.set_cons_zero, List.set_cons_succ, i64_w, i32_w]
                                rfl
                              refine pure_ (i := 10) (N := some 92) (v := ?_) (a' := ?_) #[true, true, true, true, true, true, true, true, true, true, true, false, false] rfl rfl (any_of HT_.out (by kernel_rfl)) (fun _ _ _ h => h) (Or.inl ⟨by rfl, ?_⟩) ?_ ?_
                              rotate_left
                              · intro w'
                                go_simp
                                with_reducible rfl
                              rotate_left
                              · simp only [Act.put, List.setIfInBounds_toArray, List.set_cons_zero, List.set_cons_succ, i64_w, i32_w]
                                rfl
                              refine pure_ (i := 11) (N := some 14) (v := ?_) (a' := ?_) #[true, true, true, true, true, true, true, true, true, true, true, true, false] rfl rfl (any_of HT_.out (by kernel_rfl)) (fun _ _ _ h => h) (Or.inl ⟨by rfl, ?_⟩) ?_ ?_
                              rotate_left
                              · intro w'
                                go_simp
                                with_reducible rfl
                              rotate_left
                              · simp only [Act.put, List.setIfInBounds_toArray, List.set_cons_zero, List.set_cons_succ, i64_w, i32_w]
                                rfl
                              refine pure_ (i := 12) (N := some 15) (v := ?_) (a' := ?_) #[true, true, true, true, true, true, true, true, true, true, true, true, true] rfl rfl (any_of HT_.out (by kernel_rfl)) (fun _ _ _ h => h) (Or.inl ⟨by rfl, ?_⟩) ?_ ?_
                              rotate_left
                              · intro w'
                                go_simp
                                with_reducible rfl
                              rotate_left
                              · simp only [Act.put, List.setIfInBounds_toArray, List.set_cons_zero, List.set_cons_succ, i64_w, i32_w]
                                rfl
                              refine done_ (done_of HT_.out (by kernel_rfl)) ?_
                              have hcz56_0 : w55.cell? ⟨gb1367, 0, none⟩ = some (.int .i64 t1360) := (blk_cell BK1367.out 0).trans rfl
                              have hcz56_1 : w55.cell? ⟨gb1367, 1, none⟩ = some (.int .u8 t1361) := (blk_cell BK1367.out 1).trans rfl
                              have hcz56_2 : w55.cell? ⟨gb1367, 2, none⟩ = some (.int .u64 t1362) := (blk_cell BK1367.out 2).trans rfl
                              have hcz56_3 : w55.cell? ⟨gb1367, 3, none⟩ = some (.slice Ao47 t1363.length co47) := (blk_cell BK1367.out 3).trans rfl
                              have hfz56_0 := blk_frozen BK1367.out 0
                              have hfz56_1 := blk_frozen BK1367.out 1
                              have hfz56_2 := blk_frozen BK1367.out 2
                              have hfz56_3 := blk_frozen BK1367.out 3
                              have hcz57_0 : w55.cell? ⟨gb1335, 0, none⟩ = some (.int .i64 a0_0) := (blk_cell BK1335.out 0).trans rfl
                              have hcz57_1 : w55.cell? ⟨gb1335, 1, none⟩ = some (.int .u8 a0_1) := (blk_cell BK1335.out 1).trans rfl
                              have hcz57_2 : w55.cell? ⟨gb1335, 2, none⟩ = some (.int .u64 a0_2) := (blk_cell BK1335.out 2).trans rfl
                              have hcz57_3 : w55.cell? ⟨gb1335, 3, none⟩ = some (.slice A0_3 l0_3.length c0_3) := (blk_cell BK1335.out 3).trans rfl
                              have hfz57_0 := blk_frozen BK1335.out 0
                              have hfz57_1 := blk_frozen BK1335.out 1
                              have hfz57_2 := blk_frozen BK1335.out 2
                              have hfz57_3 := blk_frozen BK1335.out 3
                              try go_wp2_with (first | (go_at_call 38; (with_reducible refine (quittanceref20_Same.calls kj10 t1360 t1361 t1362 _ _ t1363 a0_0 a0_1 a0_2 _ _ l0_3 true _ ?side1 ?side2 ?side3 ?side4 A27.out).mono ?_); (case side1 => repeat (first | exact (Kd.R_reads' HO1365.out).2.2 | (with_reducible refine Kd.C_alloc ?_ _) | (with_reducible refine Kd.C_drewN ?_ _) | (with_reducible refine Kd.C_drew ?_))); (case side2 => exact (Kd.R_reads' HO1365.out).2.1); (case side3 => repeat (first | exact (Kd.C_below HR0_3.out HB.out) | (with_reducible refine Kd.C_alloc ?_ _) | (with_reducible refine Kd.C_drewN ?_ _) | (with_reducible refine Kd.C_drew ?_))); (case side4 => exact HC0_3.out); rintro e w58 ⟨rfl, hb⟩; have n0_ := Aside0.mk (Kd.R_below (by (with_reducible repeat (first | apply Kd.R_alloc | apply Kd.R_drewN | apply Kd.R_drew)); exact HO1355.out) hb); have n1_ := Aside0.mk (Kd.R_below (by (with_reducible repeat (first | apply Kd.R_alloc | apply Kd.R_drewN | apply Kd.R_drew)); exact HO1365.out) hb); have n2_ := Aside0.mk (Kd.R_below (by (with_reducible repeat (first | apply Kd.R_alloc | apply Kd.R_drewN | apply Kd.R_drew)); exact HO1376.out) hb); have n3_ := Aside0.mk (Kd.R_below (by (with_reducible repeat (first | apply Kd.R_alloc | apply Kd.R_drewN | apply Kd.R_drew)); exact HO1380.out) hb); have n4_ := Aside0.mk (blk_below (g := gb1335) (o := .cells #[.int .i64 a0_0, .int .u8 a0_1, .int .u64 a0_2, .slice A0_3 l0_3.length c0_3] 32 (0, 0)) (by (with_reducible repeat (first | refine blk_drewN ?_ _ | refine blk_drew ?_ | refine blk_alloc ?_ _)); exact BK1335.out) hb); have n5_ := Aside0.mk (blk_below (g := gb1357) (o := .cells #[.int .i64 t1350, .int .u8 t1351, .int .u64 t1352, .slice Ao40 t1353.length co40] 32 (0, 0)) (by (with_reducible repeat (first | refine blk_drewN ?_ _ | refine blk_drew ?_ | refine blk_alloc ?_ _)); exact BK1357.out) hb); have n6_ := Aside0.mk (blk_below (g := gb1367) (o := .cells #[.int .i64 t1360, .int .u8 t1361, .int .u64 t1362, .slice Ao47 t1363.length co47] 32 (0, 0)) (by (with_reducible repeat (first | refine blk_drewN ?_ _ | refine blk_drew ?_ | refine blk_alloc ?_ _)); exact BK1367.out) hb); have n7_ := Aside0.mk (below_step (by repeat (first | (with_reducible first | exact HB.out | apply below_alloc | apply pw_below_drewN | apply below_drew1 | refine below_set ?_ GE1335.out | refine below_set ?_ GE1357.out | refine below_set ?_ GE1367.out) | exact HB.out)) hb); clear HO1355; clear HO1365; clear HO1376; clear HO1380; clear BK1335; clear BK1357; clear BK1367; clear HB; have HO1355 := n0_; have HO1365 := n1_; have HO1376 := n2_; have HO1380 := n3_; have BK1335 := n4_; have BK1357 := n5_; have BK1367 := n6_; have HB := n7_; clear n0_ n1_ n2_ n3_ n4_ n5_ n6_ n7_; (try clear hb); (try clear hb2); (try clear hk); (try clear hi); obtain ⟨Ao59, co59, eo59⟩ := Kd.R_slice HO1380.out; subst eo59; have hcz60_0 : w58.cell? ⟨gb1357, 0, none⟩ = some (.int .i64 t1350) := (blk_cell BK1357.out 0).trans rfl; have hcz60_1 : w58.cell? ⟨gb1357, 1, none⟩ = some (.int .u8 t1351) := (blk_cell BK1357.out 1).trans rfl; have hcz60_2 : w58.cell? ⟨gb1357, 2, none⟩ = some (.int .u64 t1352) := (blk_cell BK1357.out 2).trans rfl; have hcz60_3 : w58.cell? ⟨gb1357, 3, none⟩ = some (.slice Ao40 t1353.length co40) := (blk_cell BK1357.out 3).trans rfl; have hfz60_0 := blk_frozen BK1357.out 0; have hfz60_1 := blk_frozen BK1357.out 1; have hfz60_2 := blk_frozen BK1357.out 2; have hfz60_3 := blk_frozen BK1357.out 3) | (go_at_call 17; (with_reducible refine (journal_Check.calls t1350 t1351 t1352 _ _ t1353 t1382 _ ?side1 ?side2 A31.out).mono ?_); (case side1 => repeat (first | exact (Kd.R_reads' HO1355.out).2.2 | (with_reducible refine Kd.C_alloc ?_ _) | (with_reducible refine Kd.C_drewN ?_ _) | (with_reducible refine Kd.C_drew ?_))); (case side2 => exact (Kd.R_reads' HO1355.out).2.1); rintro e w61 ⟨rfl, hb⟩; have n0_ := Aside0.mk (Kd.R_below (by (with_reducible repeat (first | apply Kd.R_alloc | apply Kd.R_drewN | apply Kd.R_drew)); exact HO1355.out) hb); have n1_ := Aside0.mk (Kd.R_below (by (with_reducible repeat (first | apply Kd.R_alloc | apply Kd.R_drewN | apply Kd.R_drew)); exact HO1365.out) hb); have n2_ := Aside0.mk (Kd.R_below (by (with_reducible repeat (first | apply Kd.R_alloc | apply Kd.R_drewN | apply Kd.R_drew)); exact HO1376.out) hb); have n3_ := Aside0.mk (Kd.R_below (by (with_reducible repeat (first | apply Kd.R_alloc | apply Kd.R_drewN | apply Kd.R_drew)); exact HO1380.out) hb); have n4_ := Aside0.mk (blk_below (g := gb1335) (o := .cells #[.int .i64 a0_0, .int .u8 a0_1, .int .u64 a0_2, .slice A0_3 l0_3.length c0_3] 32 (0, 0)) (by (with_reducible repeat (first | refine blk_drewN ?_ _ | refine blk_drew ?_ | refine blk_alloc ?_ _)); exact BK1335.out) hb); have n5_ := Aside0.mk (blk_below (g := gb1357) (o := .cells #[.int .i64 t1350, .int .u8 t1351, .int .u64 t1352, .slice Ao40 t1353.length co40] 32 (0, 0)) (by (with_reducible repeat (first | refine blk_drewN ?_ _ | refine blk_drew ?_ | refine blk_alloc ?_ _)); exact BK1357.out) hb); have n6_ := Aside0.mk (blk_below (g := gb1367) (o := .cells #[.int .i64 t1360, .int .u8 t1361, .int .u64 t1362, .slice Ao47 t1363.length co47] 32 (0, 0)) (by (with_reducible repeat (first | refine blk_drewN ?_ _ | refine blk_drew ?_ | refine blk_alloc ?_ _)); exact BK1367.out) hb); have n7_ := Aside0.mk (below_step (by repeat (first | (with_reducible first | exact HB.out | apply below_alloc | apply pw_below_drewN | apply below_drew1 | refine below_set ?_ GE1335.out | refine below_set ?_ GE1357.out | refine below_set ?_ GE1367.out) | exact HB.out)) hb); clear HO1355; clear HO1365; clear HO1376; clear HO1380; clear BK1335; clear BK1357; clear BK1367; clear HB; have HO1355 := n0_; have HO1365 := n1_; have HO1376 := n2_; have HO1380 := n3_; have BK1335 := n4_; have BK1357 := n5_; have BK1367 := n6_; have HB := n7_; clear n0_ n1_ n2_ n3_ n4_ n5_ n6_ n7_; (try clear hb); (try clear hb2); (try clear hk); (try clear hi); have hcz62_0 : w61.cell? ⟨gb1357, 0, none⟩ = some (.int .i64 t1350) := (blk_cell BK1357.out 0).trans rfl; have hcz62_1 : w61.cell? ⟨gb1357, 1, none⟩ = some (.int .u8 t1351) := (blk_cell BK1357.out 1).trans rfl; have hcz62_2 : w61.cell? ⟨gb1357, 2, none⟩ = some (.int .u64 t1352) := (blk_cell BK1357.out 2).trans rfl; have hcz62_3 : w61.cell? ⟨gb1357, 3, none⟩ = some (.slice Ao40 t1353.length co40) := (blk_cell BK1357.out 3).trans rfl; have hfz62_0 := blk_frozen BK1357.out 0; have hfz62_1 := blk_frozen BK1357.out 1; have hfz62_2 := blk_frozen BK1357.out 2; have hfz62_3 := blk_frozen BK1357.out 3) | (go_at_call 50; (with_reducible refine (quittancelaw20_head.calls  t1383 _ A34.out).mono ?_); rintro e w63 ⟨rfl, hb⟩; have n0_ := Aside0.mk (Kd.R_below (by (with_reducible repeat (first | apply Kd.R_alloc | apply Kd.R_drewN | apply Kd.R_drew)); exact HO1355.out) hb); have n1_ := Aside0.mk (Kd.R_below (by (with_reducible repeat (first | apply Kd.R_alloc | apply Kd.R_drewN | apply Kd.R_drew)); exact HO1365.out) hb); have n2_ := Aside0.mk (Kd.R_below (by (with_reducible repeat (first | apply Kd.R_alloc | apply Kd.R_drewN | apply Kd.R_drew)); exact HO1376.out) hb); have n3_ := Aside0.mk (Kd.R_below (by (with_reducible repeat (first | apply Kd.R_alloc | apply Kd.R_drewN | apply Kd.R_drew)); exact HO1380.out) hb); have n4_ := Aside0.mk (blk_below (g := gb1335) (o := .cells #[.int .i64 a0_0, .int .u8 a0_1, .int .u64 a0_2, .slice A0_3 l0_3.length c0_3] 32 (0, 0)) (by (with_reducible repeat (first | refine blk_drewN ?_ _ | refine blk_drew ?_ | refine blk_alloc ?_ _)); exact BK1335.out) hb); have n5_ := Aside0.mk (blk_below (g := gb1357) (o := .cells #[.int .i64 t1350, .int .u8 t1351, .int .u64 t1352, .slice Ao40 t1353.length co40] 32 (0, 0)) (by (with_reducible repeat (first | refine blk_drewN ?_ _ | refine blk_drew ?_ | refine blk_alloc ?_ _)); exact BK1357.out) hb); have n6_ := Aside0.mk (blk_below (g := gb1367) (o := .cells #[.int .i64 t1360, .int .u8 t1361, .int .u64 t1362, .slice Ao47 t1363.length co47] 32 (0, 0)) (by (with_reducible repeat (first | refine blk_drewN ?_ _ | refine blk_drew ?_ | refine blk_alloc ?_ _)); exact BK1367.out) hb); have n7_ := Aside0.mk (below_step (by repeat (first | (with_reducible first | exact HB.out | apply below_alloc | apply pw_below_drewN | apply below_drew1 | refine below_set ?_ GE1335.out | refine below_set ?_ GE1357.out | refine below_set ?_ GE1367.out) | exact HB.out)) hb); clear HO1355; clear HO1365; clear HO1376; clear HO1380; clear BK1335; clear BK1357; clear BK1367; clear HB; have HO1355 := n0_; have HO1365 := n1_; have HO1376 := n2_; have HO1380 := n3_; have BK1335 := n4_; have BK1357 := n5_; have BK1367 := n6_; have HB := n7_; clear n0_ n1_ n2_ n3_ n4_ n5_ n6_ n7_; (try clear hb); (try clear hb2); (try clear hk); (try clear hi)))
                              go_ret
                              exact ⟨by first | rfl | (simp [errW_none, errW_some] <;> rfl) | (simp [*, errW_none, errW_some] <;> rfl), by repeat (first | (with_reducible first | exact HB.out | apply below_alloc | apply pw_below_drewN | apply below_drew1 | refine below_set ?_ GE1335.out | refine below_set ?_ GE1357.out | refine below_set ?_ GE1367.out) | exact HB.out)⟩
                            · rw [if_neg c33] at H
                              have c33b0 : (t1350 == a1) = false := beq_eq_false_iff_ne.mpr c33
                              have c33b1 : (t1350 != a1) = true := bne_iff_ne.mpr c33
                              obtain rfl := Option.some.inj H
                              exact absurd hr_.out Bool.false_ne_true
                          · rw [if_neg c32] at H
                            have c32b0 : (t1382 == 0) = false := beq_eq_false_iff_ne.mpr c32
                            have c32b1 : (t1382 != 0) = true := bne_iff_ne.mpr c32
                            obtain rfl := Option.some.inj H
                            exact absurd hr_.out Bool.false_ne_true
                        · rw [if_neg c30] at H
                          have c30b0 : ((t1377.length : Int) == 0) = false := beq_eq_false_iff_ne.mpr c30
                          have c30b1 : ((t1377.length : Int) != 0) = true := bne_iff_ne.mpr c30
                          have c30b2 : ¬ (t1377 = []) := fun h_ => c30 (by rw [h_]; rfl)
                          obtain rfl := Option.some.inj H
                          exact absurd hr_.out Bool.false_ne_true
                      · rw [if_neg c29] at H
                        have c29b0 : (t1378 == 0) = false := beq_eq_false_iff_ne.mpr c29
                        have c29b1 : (t1378 != 0) = true := bne_iff_ne.mpr c29
                        obtain rfl := Option.some.inj H
                        exact absurd hr_.out Bool.false_ne_true
                    · replace c28 := Bool.eq_false_iff.mpr c28
                      subst c28
                      have H1 : (some false) = some r := by rw [if_neg (show ¬ (false = true) by decide)] at H; exact H
                      clear H
                      have H := H1
                      clear H1
                      obtain rfl := Option.some.inj H
                      exact absurd hr_.out Bool.false_ne_true
                  · rw [if_neg c26] at H
                    have c26b0 : (t1366 == 0) = false := beq_eq_false_iff_ne.mpr c26
                    have c26b1 : (t1366 != 0) = true := bne_iff_ne.mpr c26
                    obtain rfl := Option.some.inj H
                    exact absurd hr_.out Bool.false_ne_true
                · rw [if_neg c24] at H
                  exact absurd H (by simp)
              · rw [if_neg c23] at H
                exact absurd H (by simp)
            · rw [if_neg c21] at H
              have c21b0 : (t1356 == 0) = false := beq_eq_false_iff_ne.mpr c21
              have c21b1 : (t1356 != 0) = true := bne_iff_ne.mpr c21
              by_cases c213 : a1 < 1
              · rw [if_pos c213] at H
                have c213b0 : decide (a1 < 1) = true := decide_eq_true c213
                clear c213
                replace H := Option.bind_eq_some_iff.mp H
                obtain ⟨t1358, A2140, H⟩ := H
                replace H : (some t1358) = some r := H
                have A214 := Aside0.mk A2140
                clear A2140
                obtain rfl := Option.some.inj H
                have hcz215_0 : wc.cell? ⟨gb1335, 0, none⟩ = some (.int .i64 a0_0) := (blk_cell BK1335.out 0).trans rfl
                have hcz215_1 : wc.cell? ⟨gb1335, 1, none⟩ = some (.int .u8 a0_1) := (blk_cell BK1335.out 1).trans rfl
                have hcz215_2 : wc.cell? ⟨gb1335, 2, none⟩ = some (.int .u64 a0_2) := (blk_cell BK1335.out 2).trans rfl
                have hcz215_3 : wc.cell? ⟨gb1335, 3, none⟩ = some (.slice A0_3 l0_3.length c0_3) := (blk_cell BK1335.out 3).trans rfl
                have hfz215_0 := blk_frozen BK1335.out 0
                have hfz215_1 := blk_frozen BK1335.out 1
                have hfz215_2 := blk_frozen BK1335.out 2
                have hfz215_3 := blk_frozen BK1335.out 3
                go_wp2_with (first | ((with_reducible refine gate_callee (f := 61) rfl ?_); refine goesL_ (some 61) rfl rfl Try.func61 (by kernel_rfl) rfl #[.agg #[.int .i64 a0_0, .int .u8 a0_1, .int .u64 a0_2, .slice A0_3 l0_3.length c0_3], .int .i64 a1] rfl (by (try simp only [List.map_toArray, List.map_cons, List.map_nil]); first | done | rfl | (simp only [List.length_drop, List.length_take]; rfl)) ?_; (with_reducible refine (journal_Reverse.calls kj10 a0_0 a0_1 a0_2 _ _ l0_3 a1 t1350 t1351 t1352 t1353 t1356 _ ?side1 ?side2 A20.out).mono ?_); (case side1 => repeat (first | exact (Kd.C_below HR0_3.out HB.out) | (with_reducible refine Kd.C_alloc ?_ _) | (with_reducible refine Kd.C_drewN ?_ _) | (with_reducible refine Kd.C_drew ?_))); (case side2 => exact HC0_3.out); rintro e w216 ⟨v1354, rfl, ho0, hb⟩; refine ⟨_, rfl, ?_⟩; have n0_ := Aside0.mk (Kd.R_lower ho0 (below_size (by repeat (first | (with_reducible first | exact HB.out | apply below_alloc | apply pw_below_drewN | apply below_drew1 | refine below_set ?_ GE1335.out) | exact HB.out)))); have n1_ := Aside0.mk (blk_below (g := gb1335) (o := .cells #[.int .i64 a0_0, .int .u8 a0_1, .int .u64 a0_2, .slice A0_3 l0_3.length c0_3] 32 (0, 0)) (by (with_reducible repeat (first | refine blk_drewN ?_ _ | refine blk_drew ?_ | refine blk_alloc ?_ _)); exact BK1335.out) hb); have n2_ := Aside0.mk (below_step (by repeat (first | (with_reducible first | exact HB.out | apply below_alloc | apply pw_below_drewN | apply below_drew1 | refine below_set ?_ GE1335.out) | exact HB.out)) hb); clear BK1335; clear HB; have HO1355 := n0_; have BK1335 := n1_; have HB := n2_; clear n0_ n1_ n2_; (try clear hb); (try clear hb2); (try clear hk); (try clear hi); (try clear ho0)) | ((with_reducible refine gate_dst (N := 10) rfl ?_); (try (refine gate_guard (by rfl) ?_; dsimp only)); refine box_event ?hg (N := 10) ?hd (cs := #[.int .i64 0, .int .u8 0, .int .u64 0, .slice none 0 0]) (t := 32) ?hr ?_; (case hd => rfl); (case hg => rfl); (case hr => first | (go_simp; done) | (go_simp; rfl)); intro gb1357 hg w217 hbox hb; have n0_ := Aside0.mk (Kd.R_below (by (with_reducible repeat (first | apply Kd.R_alloc | apply Kd.R_drewN | apply Kd.R_drew)); exact HO1355.out) hb); have n1_ := Aside0.mk (blk_below (g := gb1335) (o := .cells #[.int .i64 a0_0, .int .u8 a0_1, .int .u64 a0_2, .slice A0_3 l0_3.length c0_3] 32 (0, 0)) (by (with_reducible repeat (first | refine blk_drewN ?_ _ | refine blk_drew ?_ | refine blk_alloc ?_ _)); exact BK1335.out) hb); have n2_ := Aside0.mk (below_step (by repeat (first | (with_reducible first | exact HB.out | apply below_alloc | apply pw_below_drewN | apply below_drew1 | refine below_set ?_ GE1335.out) | exact HB.out)) hb); have n3_ := Aside0.mk (hbox); have n4_ := Aside0.mk ((by rw [hg]; exact (below_size (by repeat (first | (with_reducible first | exact HB.out | apply below_alloc | apply pw_below_drewN | apply below_drew1 | refine below_set ?_ GE1335.out) | exact HB.out))) : w.heap.size ≤ gb1357)); have n5_ := Aside0.mk ((by rw [hg]; exact (below_size (by repeat (first | (with_reducible first | exact HB.out | apply below_alloc | apply pw_below_drewN | apply below_drew1 | refine below_set ?_ GE1335.out) | exact HB.out))) : w.heap.size ≤ gb1357)); have n6_ := Aside0.mk ((by rw [hg]; exact Nat.ne_of_lt (blk_lt (g := gb1335) (o := .cells #[.int .i64 a0_0, .int .u8 a0_1, .int .u64 a0_2, .slice A0_3 l0_3.length c0_3] 32 (0, 0)) (by (with_reducible repeat (first | refine blk_drewN ?_ _ | refine blk_drew ?_ | refine blk_alloc ?_ _)); exact BK1335.out)) : gb1335 ≠ gb1357)); have n7_ := Aside0.mk ((by rw [hg]; exact Nat.ne_of_gt (blk_lt (g := gb1335) (o := .cells #[.int .i64 a0_0, .int .u8 a0_1, .int .u64 a0_2, .slice A0_3 l0_3.length c0_3] 32 (0, 0)) (by (with_reducible repeat (first | refine blk_drewN ?_ _ | refine blk_drew ?_ | refine blk_alloc ?_ _)); exact BK1335.out)) : gb1357 ≠ gb1335)); clear HO1355; clear BK1335; clear HB; have HO1355 := n0_; have BK1335 := n1_; have HB := n2_; have BK1357 := n3_; have GW1357 := n4_; have GE1357 := n5_; have NB1335_1357 := n6_; have NB1357_1335 := n7_; clear n0_ n1_ n2_ n3_ n4_ n5_ n6_ n7_; clear hb hbox hg; have hnb218 := NB1357_1335.out; have hnc218 := NB1335_1357.out; have hcz219_0 : w217.cell? ⟨gb1357, 0, none⟩ = some (.int .i64 0) := (blk_cell BK1357.out 0).trans rfl; have hcz219_1 : w217.cell? ⟨gb1357, 1, none⟩ = some (.int .u8 0) := (blk_cell BK1357.out 1).trans rfl; have hcz219_2 : w217.cell? ⟨gb1357, 2, none⟩ = some (.int .u64 0) := (blk_cell BK1357.out 2).trans rfl; have hcz219_3 : w217.cell? ⟨gb1357, 3, none⟩ = some (.slice none 0 0) := (blk_cell BK1357.out 3).trans rfl; have hfz219_0 := blk_frozen BK1357.out 0; have hfz219_1 := blk_frozen BK1357.out 1; have hfz219_2 := blk_frozen BK1357.out 2; have hfz219_3 := blk_frozen BK1357.out 3; obtain ⟨Ao220, co220, eo220⟩ := Kd.R_slice HO1355.out; subst eo220) | (go_at_call 50; (with_reducible refine (quittancelaw20_head.calls  t1358 _ A214.out).mono ?_); rintro e w221 ⟨rfl, hb⟩; have n0_ := Aside0.mk (Kd.R_below (by (with_reducible repeat (first | apply Kd.R_alloc | apply Kd.R_drewN | apply Kd.R_drew)); exact (Kd.R_mono (Kd.R_far (p := ⟨gb1357, 3, none⟩) (Kd.R_far (p := ⟨gb1357, 2, none⟩) (Kd.R_far (p := ⟨gb1357, 1, none⟩) (Kd.R_far (p := ⟨gb1357, 0, none⟩) (Kd.R_types HO1355.out BK1357.out (by decide)) (fun _ hk => hk.2) (.int .i64 t1350)) (fun _ hk => hk.2) (.int .u8 t1351)) (fun _ hk => hk.2) (.int .u64 t1352)) (fun _ hk => hk.2) (.slice Ao220 t1353.length co220)) (fun _ h_ => h_.1))) hb); have n1_ := Aside0.mk (blk_below (g := gb1335) (o := .cells #[.int .i64 a0_0, .int .u8 a0_1, .int .u64 a0_2, .slice A0_3 l0_3.length c0_3] 32 (0, 0)) (by (with_reducible repeat (first | refine blk_drewN ?_ _ | refine blk_drew ?_ | refine blk_alloc ?_ _)); refine blk_far ?_ NB1335_1357.out _; (with_reducible repeat (first | refine blk_drewN ?_ _ | refine blk_drew ?_ | refine blk_alloc ?_ _)); refine blk_far ?_ NB1335_1357.out _; (with_reducible repeat (first | refine blk_drewN ?_ _ | refine blk_drew ?_ | refine blk_alloc ?_ _)); refine blk_far ?_ NB1335_1357.out _; (with_reducible repeat (first | refine blk_drewN ?_ _ | refine blk_drew ?_ | refine blk_alloc ?_ _)); refine blk_far ?_ NB1335_1357.out _; (with_reducible repeat (first | refine blk_drewN ?_ _ | refine blk_drew ?_ | refine blk_alloc ?_ _)); exact BK1335.out) hb); have n2_ := Aside0.mk (blk_below (g := gb1357) (o := .cells #[.int .i64 t1350, .int .u8 t1351, .int .u64 t1352, .slice Ao220 t1353.length co220] 32 (0, 0)) (by (with_reducible repeat (first | refine blk_drewN ?_ _ | refine blk_drew ?_ | refine blk_alloc ?_ _)); refine blk_put (cs := #[.int .i64 t1350, .int .u8 t1351, .int .u64 t1352, .slice none 0 0]) ?_ 3 _ rfl; (with_reducible repeat (first | refine blk_drewN ?_ _ | refine blk_drew ?_ | refine blk_alloc ?_ _)); refine blk_put (cs := #[.int .i64 t1350, .int .u8 t1351, .int .u64 0, .slice none 0 0]) ?_ 2 _ rfl; (with_reducible repeat (first | refine blk_drewN ?_ _ | refine blk_drew ?_ | refine blk_alloc ?_ _)); refine blk_put (cs := #[.int .i64 t1350, .int .u8 0, .int .u64 0, .slice none 0 0]) ?_ 1 _ rfl; (with_reducible repeat (first | refine blk_drewN ?_ _ | refine blk_drew ?_ | refine blk_alloc ?_ _)); refine blk_put (cs := #[.int .i64 0, .int .u8 0, .int .u64 0, .slice none 0 0]) ?_ 0 _ rfl; (with_reducible repeat (first | refine blk_drewN ?_ _ | refine blk_drew ?_ | refine blk_alloc ?_ _)); exact BK1357.out) hb); have n3_ := Aside0.mk (below_step (by repeat (first | (with_reducible first | exact HB.out | apply below_alloc | apply pw_below_drewN | apply below_drew1 | refine below_set ?_ GE1335.out | refine below_set ?_ GE1357.out) | exact HB.out)) hb); clear HO1355; clear BK1335; clear BK1357; clear HB; have HO1355 := n0_; have BK1335 := n1_; have BK1357 := n2_; have HB := n3_; clear n0_ n1_ n2_ n3_; (try clear hb); (try clear hb2); (try clear hk); (try clear hi)))
                go_ret
                exact ⟨by first | rfl | (simp [errW_none, errW_some] <;> rfl) | (simp [*, errW_none, errW_some] <;> rfl), by repeat (first | (with_reducible first | exact HB.out | apply below_alloc | apply pw_below_drewN | apply below_drew1 | refine below_set ?_ GE1335.out | refine below_set ?_ GE1357.out) | exact HB.out)⟩
              · rw [if_neg c213] at H
                have c213b0 : decide (a1 < 1) = false := decide_eq_false c213
                clear c213
                by_cases c222 : a1 > 3652059
                · rw [if_pos c222] at H
                  have c222b0 : decide (3652059 < a1) = true := decide_eq_true c222
                  clear c222
                  replace H := Option.bind_eq_some_iff.mp H
                  obtain ⟨t1359, A2230, H⟩ := H
                  replace H : (some t1359) = some r := H
                  have A223 := Aside0.mk A2230
                  clear A2230
                  obtain rfl := Option.some.inj H
                  have hcz224_0 : wc.cell? ⟨gb1335, 0, none⟩ = some (.int .i64 a0_0) := (blk_cell BK1335.out 0).trans rfl
                  have hcz224_1 : wc.cell? ⟨gb1335, 1, none⟩ = some (.int .u8 a0_1) := (blk_cell BK1335.out 1).trans rfl
                  have hcz224_2 : wc.cell? ⟨gb1335, 2, none⟩ = some (.int .u64 a0_2) := (blk_cell BK1335.out 2).trans rfl
                  have hcz224_3 : wc.cell? ⟨gb1335, 3, none⟩ = some (.slice A0_3 l0_3.length c0_3) := (blk_cell BK1335.out 3).trans rfl
                  have hfz224_0 := blk_frozen BK1335.out 0
                  have hfz224_1 := blk_frozen BK1335.out 1
                  have hfz224_2 := blk_frozen BK1335.out 2
                  have hfz224_3 := blk_frozen BK1335.out 3
                  go_wp2_with (first | ((with_reducible refine gate_callee (f := 61) rfl ?_); refine goesL_ (some 61) rfl rfl Try.func61 (by kernel_rfl) rfl #[.agg #[.int .i64 a0_0, .int .u8 a0_1, .int .u64 a0_2, .slice A0_3 l0_3.length c0_3], .int .i64 a1] rfl (by (try simp only [List.map_toArray, List.map_cons, List.map_nil]); first | done | rfl | (simp only [List.length_drop, List.length_take]; rfl)) ?_; (with_reducible refine (journal_Reverse.calls kj10 a0_0 a0_1 a0_2 _ _ l0_3 a1 t1350 t1351 t1352 t1353 t1356 _ ?side1 ?side2 A20.out).mono ?_); (case side1 => repeat (first | exact (Kd.C_below HR0_3.out HB.out) | (with_reducible refine Kd.C_alloc ?_ _) | (with_reducible refine Kd.C_drewN ?_ _) | (with_reducible refine Kd.C_drew ?_))); (case side2 => exact HC0_3.out); rintro e w225 ⟨v1354, rfl, ho0, hb⟩; refine ⟨_, rfl, ?_⟩; have n0_ := Aside0.mk (Kd.R_lower ho0 (below_size (by repeat (first | (with_reducible first | exact HB.out | apply below_alloc | apply pw_below_drewN | apply below_drew1 | refine below_set ?_ GE1335.out) | exact HB.out)))); have n1_ := Aside0.mk (blk_below (g := gb1335) (o := .cells #[.int .i64 a0_0, .int .u8 a0_1, .int .u64 a0_2, .slice A0_3 l0_3.length c0_3] 32 (0, 0)) (by (with_reducible repeat (first | refine blk_drewN ?_ _ | refine blk_drew ?_ | refine blk_alloc ?_ _)); exact BK1335.out) hb); have n2_ := Aside0.mk (below_step (by repeat (first | (with_reducible first | exact HB.out | apply below_alloc | apply pw_below_drewN | apply below_drew1 | refine below_set ?_ GE1335.out) | exact HB.out)) hb); clear BK1335; clear HB; have HO1355 := n0_; have BK1335 := n1_; have HB := n2_; clear n0_ n1_ n2_; (try clear hb); (try clear hb2); (try clear hk); (try clear hi); (try clear ho0)) | ((with_reducible refine gate_dst (N := 10) rfl ?_); (try (refine gate_guard (by rfl) ?_; dsimp only)); refine box_event ?hg (N := 10) ?hd (cs := #[.int .i64 0, .int .u8 0, .int .u64 0, .slice none 0 0]) (t := 32) ?hr ?_; (case hd => rfl); (case hg => rfl); (case hr => first | (go_simp; done) | (go_simp; rfl)); intro gb1357 hg w226 hbox hb; have n0_ := Aside0.mk (Kd.R_below (by (with_reducible repeat (first | apply Kd.R_alloc | apply Kd.R_drewN | apply Kd.R_drew)); exact HO1355.out) hb); have n1_ := Aside0.mk (blk_below (g := gb1335) (o := .cells #[.int .i64 a0_0, .int .u8 a0_1, .int .u64 a0_2, .slice A0_3 l0_3.length c0_3] 32 (0, 0)) (by (with_reducible repeat (first | refine blk_drewN ?_ _ | refine blk_drew ?_ | refine blk_alloc ?_ _)); exact BK1335.out) hb); have n2_ := Aside0.mk (below_step (by repeat (first | (with_reducible first | exact HB.out | apply below_alloc | apply pw_below_drewN | apply below_drew1 | refine below_set ?_ GE1335.out) | exact HB.out)) hb); have n3_ := Aside0.mk (hbox); have n4_ := Aside0.mk ((by rw [hg]; exact (below_size (by repeat (first | (with_reducible first | exact HB.out | apply below_alloc | apply pw_below_drewN | apply below_drew1 | refine below_set ?_ GE1335.out) | exact HB.out))) : w.heap.size ≤ gb1357)); have n5_ := Aside0.mk ((by rw [hg]; exact (below_size (by repeat (first | (with_reducible first | exact HB.out | apply below_alloc | apply pw_below_drewN | apply below_drew1 | refine below_set ?_ GE1335.out) | exact HB.out))) : w.heap.size ≤ gb1357)); have n6_ := Aside0.mk ((by rw [hg]; exact Nat.ne_of_lt (blk_lt (g := gb1335) (o := .cells #[.int .i64 a0_0, .int .u8 a0_1, .int .u64 a0_2, .slice A0_3 l0_3.length c0_3] 32 (0, 0)) (by (with_reducible repeat (first | refine blk_drewN ?_ _ | refine blk_drew ?_ | refine blk_alloc ?_ _)); exact BK1335.out)) : gb1335 ≠ gb1357)); have n7_ := Aside0.mk ((by rw [hg]; exact Nat.ne_of_gt (blk_lt (g := gb1335) (o := .cells #[.int .i64 a0_0, .int .u8 a0_1, .int .u64 a0_2, .slice A0_3 l0_3.length c0_3] 32 (0, 0)) (by (with_reducible repeat (first | refine blk_drewN ?_ _ | refine blk_drew ?_ | refine blk_alloc ?_ _)); exact BK1335.out)) : gb1357 ≠ gb1335)); clear HO1355; clear BK1335; clear HB; have HO1355 := n0_; have BK1335 := n1_; have HB := n2_; have BK1357 := n3_; have GW1357 := n4_; have GE1357 := n5_; have NB1335_1357 := n6_; have NB1357_1335 := n7_; clear n0_ n1_ n2_ n3_ n4_ n5_ n6_ n7_; clear hb hbox hg; have hnb227 := NB1357_1335.out; have hnc227 := NB1335_1357.out; have hcz228_0 : w226.cell? ⟨gb1357, 0, none⟩ = some (.int .i64 0) := (blk_cell BK1357.out 0).trans rfl; have hcz228_1 : w226.cell? ⟨gb1357, 1, none⟩ = some (.int .u8 0) := (blk_cell BK1357.out 1).trans rfl; have hcz228_2 : w226.cell? ⟨gb1357, 2, none⟩ = some (.int .u64 0) := (blk_cell BK1357.out 2).trans rfl; have hcz228_3 : w226.cell? ⟨gb1357, 3, none⟩ = some (.slice none 0 0) := (blk_cell BK1357.out 3).trans rfl; have hfz228_0 := blk_frozen BK1357.out 0; have hfz228_1 := blk_frozen BK1357.out 1; have hfz228_2 := blk_frozen BK1357.out 2; have hfz228_3 := blk_frozen BK1357.out 3; obtain ⟨Ao229, co229, eo229⟩ := Kd.R_slice HO1355.out; subst eo229) | (go_at_call 50; (with_reducible refine (quittancelaw20_head.calls  t1359 _ A223.out).mono ?_); rintro e w230 ⟨rfl, hb⟩; have n0_ := Aside0.mk (Kd.R_below (by (with_reducible repeat (first | apply Kd.R_alloc | apply Kd.R_drewN | apply Kd.R_drew)); exact (Kd.R_mono (Kd.R_far (p := ⟨gb1357, 3, none⟩) (Kd.R_far (p := ⟨gb1357, 2, none⟩) (Kd.R_far (p := ⟨gb1357, 1, none⟩) (Kd.R_far (p := ⟨gb1357, 0, none⟩) (Kd.R_types HO1355.out BK1357.out (by decide)) (fun _ hk => hk.2) (.int .i64 t1350)) (fun _ hk => hk.2) (.int .u8 t1351)) (fun _ hk => hk.2) (.int .u64 t1352)) (fun _ hk => hk.2) (.slice Ao229 t1353.length co229)) (fun _ h_ => h_.1))) hb); have n1_ := Aside0.mk (blk_below (g := gb1335) (o := .cells #[.int .i64 a0_0, .int .u8 a0_1, .int .u64 a0_2, .slice A0_3 l0_3.length c0_3] 32 (0, 0)) (by (with_reducible repeat (first | refine blk_drewN ?_ _ | refine blk_drew ?_ | refine blk_alloc ?_ _)); refine blk_far ?_ NB1335_1357.out _; (with_reducible repeat (first | refine blk_drewN ?_ _ | refine blk_drew ?_ | refine blk_alloc ?_ _)); refine blk_far ?_ NB1335_1357.out _; (with_reducible repeat (first | refine blk_drewN ?_ _ | refine blk_drew ?_ | refine blk_alloc ?_ _)); refine blk_far ?_ NB1335_1357.out _; (with_reducible repeat (first | refine blk_drewN ?_ _ | refine blk_drew ?_ | refine blk_alloc ?_ _)); refine blk_far ?_ NB1335_1357.out _; (with_reducible repeat (first | refine blk_drewN ?_ _ | refine blk_drew ?_ | refine blk_alloc ?_ _)); exact BK1335.out) hb); have n2_ := Aside0.mk (blk_below (g := gb1357) (o := .cells #[.int .i64 t1350, .int .u8 t1351, .int .u64 t1352, .slice Ao229 t1353.length co229] 32 (0, 0)) (by (with_reducible repeat (first | refine blk_drewN ?_ _ | refine blk_drew ?_ | refine blk_alloc ?_ _)); refine blk_put (cs := #[.int .i64 t1350, .int .u8 t1351, .int .u64 t1352, .slice none 0 0]) ?_ 3 _ rfl; (with_reducible repeat (first | refine blk_drewN ?_ _ | refine blk_drew ?_ | refine blk_alloc ?_ _)); refine blk_put (cs := #[.int .i64 t1350, .int .u8 t1351, .int .u64 0, .slice none 0 0]) ?_ 2 _ rfl; (with_reducible repeat (first | refine blk_drewN ?_ _ | refine blk_drew ?_ | refine blk_alloc ?_ _)); refine blk_put (cs := #[.int .i64 t1350, .int .u8 0, .int .u64 0, .slice none 0 0]) ?_ 1 _ rfl; (with_reducible repeat (first | refine blk_drewN ?_ _ | refine blk_drew ?_ | refine blk_alloc ?_ _)); refine blk_put (cs := #[.int .i64 0, .int .u8 0, .int .u64 0, .slice none 0 0]) ?_ 0 _ rfl; (with_reducible repeat (first | refine blk_drewN ?_ _ | refine blk_drew ?_ | refine blk_alloc ?_ _)); exact BK1357.out) hb); have n3_ := Aside0.mk (below_step (by repeat (first | (with_reducible first | exact HB.out | apply below_alloc | apply pw_below_drewN | apply below_drew1 | refine below_set ?_ GE1335.out | refine below_set ?_ GE1357.out) | exact HB.out)) hb); clear HO1355; clear BK1335; clear BK1357; clear HB; have HO1355 := n0_; have BK1335 := n1_; have BK1357 := n2_; have HB := n3_; clear n0_ n1_ n2_ n3_; (try clear hb); (try clear hb2); (try clear hk); (try clear hi)))
                  go_ret
                  exact ⟨by first | rfl | (simp [errW_none, errW_some] <;> rfl) | (simp [*, errW_none, errW_some] <;> rfl), by repeat (first | (with_reducible first | exact HB.out | apply below_alloc | apply pw_below_drewN | apply below_drew1 | refine below_set ?_ GE1335.out | refine below_set ?_ GE1357.out) | exact HB.out)⟩
                · rw [if_neg c222] at H
                  have c222b0 : decide (3652059 < a1) = false := decide_eq_false c222
                  clear c222
                  obtain rfl := Option.some.inj H
                  exact absurd hr_.out Bool.false_ne_true
    · rw [if_neg c9] at H
      have c9b0 : (t1337 == 0) = false := beq_eq_false_iff_ne.mpr c9
      have c9b1 : (t1337 != 0) = true := bne_iff_ne.mpr c9
      replace H := Option.bind_eq_some_iff.mp H
      obtain ⟨⟨t1338, t1339, t1340, t1341, t1344⟩, A2370, H⟩ := H
      replace H : (if t1344 = 0 then (some false) else (if (t1341.length : Int) = 0 then ((quittancelaw20_head.f).bind fun t1346 => (some t1346)) else (some false))) = some r := H
      have A237 := Aside0.mk A2370
      clear A2370
      by_cases c238 : t1344 = 0
      · rw [if_pos c238] at H
        have c238b0 : (t1344 == 0) = true := beq_iff_eq.mpr c238
        have c238b1 : (t1344 != 0) = false := bne_eq_false_iff_eq.mpr c238
        clear c238
        obtain rfl := Option.some.inj H
        exact absurd hr_.out Bool.false_ne_true
      · rw [if_neg c238] at H
        have c238b0 : (t1344 == 0) = false := beq_eq_false_iff_ne.mpr c238
        have c238b1 : (t1344 != 0) = true := bne_iff_ne.mpr c238
        by_cases c248 : (t1341.length : Int) = 0
        · rw [if_pos c248] at H
          have c248b0 : ((t1341.length : Int) == 0) = true := beq_iff_eq.mpr c248
          have c248b1 : ((t1341.length : Int) != 0) = false := bne_eq_false_iff_eq.mpr c248
          clear c248
          replace H := Option.bind_eq_some_iff.mp H
          obtain ⟨t1346, A2490, H⟩ := H
          replace H : (some t1346) = some r := H
          have A249 := Aside0.mk A2490
          clear A2490
          obtain rfl := Option.some.inj H
          go_enter Try.func13, Try.ntmps13
          go_wp2_with (first | ((with_reducible refine gate_dst (N := 2) rfl ?_); (try (refine gate_guard (by rfl) ?_; dsimp only)); refine box_event ?hg (N := 2) ?hd (cs := #[.int .i64 a0_0, .int .u8 a0_1, .int .u64 a0_2, .slice A0_3 l0_3.length c0_3]) (t := 32) ?hr ?_; (case hd => rfl); (case hg => rfl); (case hr => first | (go_simp; done) | (go_simp; rfl)); intro gb1335 hg w250 hbox hb; have n0_ := Aside0.mk (below_step (by repeat (first | (with_reducible first | exact HB.out | apply below_alloc | apply pw_below_drewN | apply below_drew1) | exact HB.out)) hb); have n1_ := Aside0.mk (hbox); have n2_ := Aside0.mk ((by rw [hg]; exact (below_size (by repeat (first | (with_reducible first | exact HB.out | apply below_alloc | apply pw_below_drewN | apply below_drew1) | exact HB.out))) : w.heap.size ≤ gb1335)); have n3_ := Aside0.mk ((by rw [hg]; exact (below_size (by repeat (first | (with_reducible first | exact HB.out | apply below_alloc | apply pw_below_drewN | apply below_drew1) | exact HB.out))) : w.heap.size ≤ gb1335)); clear HB; have HB := n0_; have BK1335 := n1_; have GW1335 := n2_; have GE1335 := n3_; clear n0_ n1_ n2_ n3_; clear hb hbox hg; have hcz251_0 : w250.cell? ⟨gb1335, 0, none⟩ = some (.int .i64 a0_0) := (blk_cell BK1335.out 0).trans rfl; have hcz251_1 : w250.cell? ⟨gb1335, 1, none⟩ = some (.int .u8 a0_1) := (blk_cell BK1335.out 1).trans rfl; have hcz251_2 : w250.cell? ⟨gb1335, 2, none⟩ = some (.int .u64 a0_2) := (blk_cell BK1335.out 2).trans rfl; have hcz251_3 : w250.cell? ⟨gb1335, 3, none⟩ = some (.slice A0_3 l0_3.length c0_3) := (blk_cell BK1335.out 3).trans rfl; have hfz251_0 := blk_frozen BK1335.out 0; have hfz251_1 := blk_frozen BK1335.out 1; have hfz251_2 := blk_frozen BK1335.out 2; have hfz251_3 := blk_frozen BK1335.out 3) | ((with_reducible refine gate_callee (f := 17) rfl ?_); refine goesL_ (some 22) rfl rfl Try.func17 (by kernel_rfl) rfl #[.agg #[.int .i64 a0_0, .int .u8 a0_1, .int .u64 a0_2, .slice A0_3 l0_3.length c0_3]] rfl (by (try simp only [List.map_toArray, List.map_cons, List.map_nil]); first | done | rfl | (simp only [List.length_drop, List.length_take]; rfl)) ?_; (with_reducible refine (journal_Check.calls a0_0 a0_1 a0_2 _ _ l0_3 t1337 _ ?side1 ?side2 A8.out).mono ?_); (case side1 => repeat (first | exact (Kd.C_below HR0_3.out HB.out) | (with_reducible refine Kd.C_alloc ?_ _) | (with_reducible refine Kd.C_drewN ?_ _) | (with_reducible refine Kd.C_drew ?_))); (case side2 => exact HC0_3.out); rintro e w252 ⟨rfl, hb⟩; refine ⟨_, rfl, ?_⟩; have n0_ := Aside0.mk (blk_below (g := gb1335) (o := .cells #[.int .i64 a0_0, .int .u8 a0_1, .int .u64 a0_2, .slice A0_3 l0_3.length c0_3] 32 (0, 0)) (by (with_reducible repeat (first | refine blk_drewN ?_ _ | refine blk_drew ?_ | refine blk_alloc ?_ _)); exact BK1335.out) hb); have n1_ := Aside0.mk (below_step (by repeat (first | (with_reducible first | exact HB.out | apply below_alloc | apply pw_below_drewN | apply below_drew1 | refine below_set ?_ GE1335.out) | exact HB.out)) hb); clear BK1335; clear HB; have BK1335 := n0_; have HB := n1_; clear n0_ n1_; (try clear hb); (try clear hb2); (try clear hk); (try clear hi); have hcz253_0 : w252.cell? ⟨gb1335, 0, none⟩ = some (.int .i64 a0_0) := (blk_cell BK1335.out 0).trans rfl; have hcz253_1 : w252.cell? ⟨gb1335, 1, none⟩ = some (.int .u8 a0_1) := (blk_cell BK1335.out 1).trans rfl; have hcz253_2 : w252.cell? ⟨gb1335, 2, none⟩ = some (.int .u64 a0_2) := (blk_cell BK1335.out 2).trans rfl; have hcz253_3 : w252.cell? ⟨gb1335, 3, none⟩ = some (.slice A0_3 l0_3.length c0_3) := (blk_cell BK1335.out 3).trans rfl; have hfz253_0 := blk_frozen BK1335.out 0; have hfz253_1 := blk_frozen BK1335.out 1; have hfz253_2 := blk_frozen BK1335.out 2; have hfz253_3 := blk_frozen BK1335.out 3) | ((with_reducible refine gate_callee (f := 61) rfl ?_); refine goesL_ (some 27) rfl rfl Try.func61 (by kernel_rfl) rfl #[.agg #[.int .i64 a0_0, .int .u8 a0_1, .int .u64 a0_2, .slice A0_3 l0_3.length c0_3], .int .i64 a1] rfl (by (try simp only [List.map_toArray, List.map_cons, List.map_nil]); first | done | rfl | (simp only [List.length_drop, List.length_take]; rfl)) ?_; (with_reducible refine (journal_Reverse.calls k a0_0 a0_1 a0_2 _ _ l0_3 a1 t1338 t1339 t1340 t1341 t1344 _ ?side1 ?side2 A237.out).mono ?_); (case side1 => repeat (first | exact (Kd.C_below HR0_3.out HB.out) | (with_reducible refine Kd.C_alloc ?_ _) | (with_reducible refine Kd.C_drewN ?_ _) | (with_reducible refine Kd.C_drew ?_))); (case side2 => exact HC0_3.out); rintro e w254 ⟨v1342, rfl, ho0, hb⟩; refine ⟨_, rfl, ?_⟩; have n0_ := Aside0.mk (Kd.R_lower ho0 (below_size (by repeat (first | (with_reducible first | exact HB.out | apply below_alloc | apply pw_below_drewN | apply below_drew1 | refine below_set ?_ GE1335.out) | exact HB.out)))); have n1_ := Aside0.mk (blk_below (g := gb1335) (o := .cells #[.int .i64 a0_0, .int .u8 a0_1, .int .u64 a0_2, .slice A0_3 l0_3.length c0_3] 32 (0, 0)) (by (with_reducible repeat (first | refine blk_drewN ?_ _ | refine blk_drew ?_ | refine blk_alloc ?_ _)); exact BK1335.out) hb); have n2_ := Aside0.mk (below_step (by repeat (first | (with_reducible first | exact HB.out | apply below_alloc | apply pw_below_drewN | apply below_drew1 | refine below_set ?_ GE1335.out) | exact HB.out)) hb); clear BK1335; clear HB; have HO1343 := n0_; have BK1335 := n1_; have HB := n2_; clear n0_ n1_ n2_; (try clear hb); (try clear hb2); (try clear hk); (try clear hi); (try clear ho0)) | ((with_reducible refine gate_dst (N := 5) rfl ?_); (try (refine gate_guard (by rfl) ?_; dsimp only)); refine box_event ?hg (N := 5) ?hd (cs := #[.int .i64 0, .int .u8 0, .int .u64 0, .slice none 0 0]) (t := 32) ?hr ?_; (case hd => rfl); (case hg => rfl); (case hr => first | (go_simp; done) | (go_simp; rfl)); intro gb1345 hg w255 hbox hb; have n0_ := Aside0.mk (Kd.R_below (by (with_reducible repeat (first | apply Kd.R_alloc | apply Kd.R_drewN | apply Kd.R_drew)); exact HO1343.out) hb); have n1_ := Aside0.mk (blk_below (g := gb1335) (o := .cells #[.int .i64 a0_0, .int .u8 a0_1, .int .u64 a0_2, .slice A0_3 l0_3.length c0_3] 32 (0, 0)) (by (with_reducible repeat (first | refine blk_drewN ?_ _ | refine blk_drew ?_ | refine blk_alloc ?_ _)); exact BK1335.out) hb); have n2_ := Aside0.mk (below_step (by repeat (first | (with_reducible first | exact HB.out | apply below_alloc | apply pw_below_drewN | apply below_drew1 | refine below_set ?_ GE1335.out) | exact HB.out)) hb); have n3_ := Aside0.mk (hbox); have n4_ := Aside0.mk ((by rw [hg]; exact (below_size (by repeat (first | (with_reducible first | exact HB.out | apply below_alloc | apply pw_below_drewN | apply below_drew1 | refine below_set ?_ GE1335.out) | exact HB.out))) : w.heap.size ≤ gb1345)); have n5_ := Aside0.mk ((by rw [hg]; exact (below_size (by repeat (first | (with_reducible first | exact HB.out | apply below_alloc | apply pw_below_drewN | apply below_drew1 | refine below_set ?_ GE1335.out) | exact HB.out))) : w.heap.size ≤ gb1345)); have n6_ := Aside0.mk ((by rw [hg]; exact Nat.ne_of_lt (blk_lt (g := gb1335) (o := .cells #[.int .i64 a0_0, .int .u8 a0_1, .int .u64 a0_2, .slice A0_3 l0_3.length c0_3] 32 (0, 0)) (by (with_reducible repeat (first | refine blk_drewN ?_ _ | refine blk_drew ?_ | refine blk_alloc ?_ _)); exact BK1335.out)) : gb1335 ≠ gb1345)); have n7_ := Aside0.mk ((by rw [hg]; exact Nat.ne_of_gt (blk_lt (g := gb1335) (o := .cells #[.int .i64 a0_0, .int .u8 a0_1, .int .u64 a0_2, .slice A0_3 l0_3.length c0_3] 32 (0, 0)) (by (with_reducible repeat (first | refine blk_drewN ?_ _ | refine blk_drew ?_ | refine blk_alloc ?_ _)); exact BK1335.out)) : gb1345 ≠ gb1335)); clear HO1343; clear BK1335; clear HB; have HO1343 := n0_; have BK1335 := n1_; have HB := n2_; have BK1345 := n3_; have GW1345 := n4_; have GE1345 := n5_; have NB1335_1345 := n6_; have NB1345_1335 := n7_; clear n0_ n1_ n2_ n3_ n4_ n5_ n6_ n7_; clear hb hbox hg; have hnb256 := NB1345_1335.out; have hnc256 := NB1335_1345.out; have hcz257_0 : w255.cell? ⟨gb1345, 0, none⟩ = some (.int .i64 0) := (blk_cell BK1345.out 0).trans rfl; have hcz257_1 : w255.cell? ⟨gb1345, 1, none⟩ = some (.int .u8 0) := (blk_cell BK1345.out 1).trans rfl; have hcz257_2 : w255.cell? ⟨gb1345, 2, none⟩ = some (.int .u64 0) := (blk_cell BK1345.out 2).trans rfl; have hcz257_3 : w255.cell? ⟨gb1345, 3, none⟩ = some (.slice none 0 0) := (blk_cell BK1345.out 3).trans rfl; have hfz257_0 := blk_frozen BK1345.out 0; have hfz257_1 := blk_frozen BK1345.out 1; have hfz257_2 := blk_frozen BK1345.out 2; have hfz257_3 := blk_frozen BK1345.out 3; obtain ⟨Ao258, co258, eo258⟩ := Kd.R_slice HO1343.out; subst eo258) | (go_at_call 50; (with_reducible refine (quittancelaw20_head.calls  t1346 _ A249.out).mono ?_); rintro e w259 ⟨rfl, hb⟩; have n0_ := Aside0.mk (Kd.R_below (by (with_reducible repeat (first | apply Kd.R_alloc | apply Kd.R_drewN | apply Kd.R_drew)); exact (Kd.R_mono (Kd.R_far (p := ⟨gb1345, 3, none⟩) (Kd.R_far (p := ⟨gb1345, 2, none⟩) (Kd.R_far (p := ⟨gb1345, 1, none⟩) (Kd.R_far (p := ⟨gb1345, 0, none⟩) (Kd.R_types HO1343.out BK1345.out (by decide)) (fun _ hk => hk.2) (.int .i64 t1338)) (fun _ hk => hk.2) (.int .u8 t1339)) (fun _ hk => hk.2) (.int .u64 t1340)) (fun _ hk => hk.2) (.slice Ao258 t1341.length co258)) (fun _ h_ => h_.1))) hb); have n1_ := Aside0.mk (blk_below (g := gb1335) (o := .cells #[.int .i64 a0_0, .int .u8 a0_1, .int .u64 a0_2, .slice A0_3 l0_3.length c0_3] 32 (0, 0)) (by (with_reducible repeat (first | refine blk_drewN ?_ _ | refine blk_drew ?_ | refine blk_alloc ?_ _)); refine blk_far ?_ NB1335_1345.out _; (with_reducible repeat (first | refine blk_drewN ?_ _ | refine blk_drew ?_ | refine blk_alloc ?_ _)); refine blk_far ?_ NB1335_1345.out _; (with_reducible repeat (first | refine blk_drewN ?_ _ | refine blk_drew ?_ | refine blk_alloc ?_ _)); refine blk_far ?_ NB1335_1345.out _; (with_reducible repeat (first | refine blk_drewN ?_ _ | refine blk_drew ?_ | refine blk_alloc ?_ _)); refine blk_far ?_ NB1335_1345.out _; (with_reducible repeat (first | refine blk_drewN ?_ _ | refine blk_drew ?_ | refine blk_alloc ?_ _)); exact BK1335.out) hb); have n2_ := Aside0.mk (blk_below (g := gb1345) (o := .cells #[.int .i64 t1338, .int .u8 t1339, .int .u64 t1340, .slice Ao258 t1341.length co258] 32 (0, 0)) (by (with_reducible repeat (first | refine blk_drewN ?_ _ | refine blk_drew ?_ | refine blk_alloc ?_ _)); refine blk_put (cs := #[.int .i64 t1338, .int .u8 t1339, .int .u64 t1340, .slice none 0 0]) ?_ 3 _ rfl; (with_reducible repeat (first | refine blk_drewN ?_ _ | refine blk_drew ?_ | refine blk_alloc ?_ _)); refine blk_put (cs := #[.int .i64 t1338, .int .u8 t1339, .int .u64 0, .slice none 0 0]) ?_ 2 _ rfl; (with_reducible repeat (first | refine blk_drewN ?_ _ | refine blk_drew ?_ | refine blk_alloc ?_ _)); refine blk_put (cs := #[.int .i64 t1338, .int .u8 0, .int .u64 0, .slice none 0 0]) ?_ 1 _ rfl; (with_reducible repeat (first | refine blk_drewN ?_ _ | refine blk_drew ?_ | refine blk_alloc ?_ _)); refine blk_put (cs := #[.int .i64 0, .int .u8 0, .int .u64 0, .slice none 0 0]) ?_ 0 _ rfl; (with_reducible repeat (first | refine blk_drewN ?_ _ | refine blk_drew ?_ | refine blk_alloc ?_ _)); exact BK1345.out) hb); have n3_ := Aside0.mk (below_step (by repeat (first | (with_reducible first | exact HB.out | apply below_alloc | apply pw_below_drewN | apply below_drew1 | refine below_set ?_ GE1335.out | refine below_set ?_ GE1345.out) | exact HB.out)) hb); clear HO1343; clear BK1335; clear BK1345; clear HB; have HO1343 := n0_; have BK1335 := n1_; have BK1345 := n2_; have HB := n3_; clear n0_ n1_ n2_ n3_; (try clear hb); (try clear hb2); (try clear hk); (try clear hi)))
          go_ret
          exact ⟨by first | rfl | (simp [errW_none, errW_some] <;> rfl) | (simp [*, errW_none, errW_some] <;> rfl), by repeat (first | (with_reducible first | exact HB.out | apply below_alloc | apply pw_below_drewN | apply below_drew1 | refine below_set ?_ GE1335.out | refine below_set ?_ GE1345.out) | exact HB.out)⟩
        · rw [if_neg c248] at H
          have c248b0 : ((t1341.length : Int) == 0) = false := beq_eq_false_iff_ne.mpr c248
          have c248b1 : ((t1341.length : Int) != 0) = true := bne_iff_ne.mpr c248
          have c248b2 : ¬ (t1341 = []) := fun h_ => c248 (by rw [h_]; rfl)
          obtain rfl := Option.some.inj H
          exact absurd hr_.out Bool.false_ne_true
end Go.Proofs.Ytaoejonkiikhmaa.G

/- JournalTurns in plain Lean: the printed law answers true at any entry and any day. -/
namespace Go.Proofs.Ytaoejonkiikhmaa.G
open Go.RowKit Go.Proofs.YtaoejonkiikhmaaW.PrintWords Go.Proofs.YtaoejonkiikhmaaW.PrintLast Go.Proofs.YtaoejonkiikhmaaW.PrintMore
set_option linter.unusedVariables false
set_option linter.unusedSimpArgs false
--CUT
theorem asked_sums (l : List Line) : (asked (fun n => decide (0 < n)) l).sum + (asked (fun n => decide (n < 0)) l).sum = (amounts l).sum ∧ 0 ≤ (asked (fun n => decide (0 < n)) l).sum := by
  induction l with
  | nil => exact ⟨rfl, by decide⟩
  | cons x r ih =>
    simp only [asked, amounts, List.map_cons, List.filter_cons, List.sum_cons] at ih ⊢
    obtain ⟨h1, h2⟩ := ih
    by_cases hp : 0 < x.f3
    · have hn : ¬ x.f3 < 0 := by omega
      simp only [decide_eq_true hp, decide_eq_false hn, if_true, Bool.false_eq_true, if_false, List.map_cons, List.sum_cons]
      omega
    · by_cases hn : x.f3 < 0
      · simp only [decide_eq_false hp, decide_eq_true hn, if_true, Bool.false_eq_true, if_false, List.map_cons, List.sum_cons]
        omega
      · simp only [decide_eq_false hp, decide_eq_false hn, Bool.false_eq_true, if_false]
        omega
theorem asked_none (l : List Line) (hm : l.all mayB = true) (h : (asked (fun n => decide (0 < n)) l).sum = 0) : ∀ x ∈ l, x.f3 < 0 := by
  induction l with
  | nil => intro x hx; cases hx
  | cons y r ih =>
    rw [List.all_cons, Bool.and_eq_true] at hm
    have h0 := (asked_sums r).2
    have hy := ((mayB_iff y).1 hm.1).1.2.2
    simp only [asked, List.map_cons, List.filter_cons] at ih h h0
    by_cases hp : 0 < y.f3
    · simp only [decide_eq_true hp, if_true, List.map_cons, List.sum_cons] at h
      omega
    · simp only [decide_eq_false hp, Bool.false_eq_true, if_false] at h
      intro x hx
      rcases List.mem_cons.1 hx with rfl | hx
      · omega
      · exact ih hm.2 h x hx
theorem sum_neg (l : List Line) (hne : l ≠ []) (h : ∀ x ∈ l, x.f3 < 0) : (amounts l).sum < 0 := by
  induction l with
  | nil => exact absurd rfl hne
  | cons x r ih =>
    simp only [amounts, List.map_cons, List.sum_cons] at ih ⊢
    have hx := h x List.mem_cons_self
    cases r with
    | nil => simp; omega
    | cons y s =>
      have := ih (by simp) (fun z hz => h z (List.mem_cons_of_mem _ hz))
      omega
theorem totals_ok {d k : Int} {l : List Line} (hc : checkR d k l = 0) : (∃ a, 0 < a ∧ totalsR d k l = (a, a, 0)) ∨ totalsR d k l = (0, 0, 2) := by
  obtain ⟨q1, q2, q3, q4, q5, q6, q7⟩ := checkR_ok hc
  obtain ⟨hs, h0⟩ := asked_sums l
  rw [q7] at hs
  have hpos : 0 < (asked (fun n => decide (0 < n)) l).sum := by
    rcases Int.lt_or_eq_of_le h0 with h | h
    · exact h
    · have := sum_neg l (by intro e; rw [e] at q4; simp at q4) (asked_none l q6 h.symm)
      omega
  unfold totalsR
  rw [if_pos hc]
  unfold debits credits sumR
  by_cases hi : i64ok (asked (fun n => decide (0 < n)) l).sum = true
  · left
    have hi' := (i64ok_iff _).1 hi
    have hi2 : i64ok (asked (fun n => decide (n < 0)) l).sum = true := (i64ok_iff _).2 (by omega)
    rw [if_pos hi, if_pos hi2]
    refine ⟨(asked (fun n => decide (0 < n)) l).sum, hpos, ?_⟩
    have hw : wrap64 (-(asked (fun n => decide (n < 0)) l).sum) = (asked (fun n => decide (0 < n)) l).sum := by unfold wrap64; omega
    simp only [if_true, hw]
  · right
    rw [if_neg hi]
    simp
theorem journalTurns_ev (e : Ent) (day : Int) (hok : okE e = true) : Ev (fun k => quittancelaw20_JournalTurns.f k e.f0 e.f1 e.f2 e.f3 day) true := by
  have ho := ((okE_iff e).1 hok).2
  obtain ⟨d, kd, s, l⟩ := e
  simp only at ho ⊢
  clear hok
  by_cases h : (l.length : Int) > 100
  · refine Ev.congr (f := fun _ => some true) (fun k => ?_) (Ev.now _)
    unfold quittancelaw20_JournalTurns.f
    rw [if_pos h, head20_f]
    rfl
  · have hl : l.length ≤ 1000000 := by omega
    by_cases hc : checkR d kd l = 0
    · have hj : Ev (fun k => quittancelaw20_JournalTurns.j0 k day false d kd s l) true := by
        obtain ⟨q1, q2, q3, q4, q5, q6, q7⟩ := checkR_ok hc
        by_cases hd : 1 ≤ day ∧ day ≤ 3652059
        · have r1 := reverse_ok d kd s l day ho hc hd.1 hd.2
          have ho2 := all_neg_ok ho q6
          have hc2 : checkR day kd (l.map negL) = 0 := checkR_of hd.1 hd.2 q3 (by simpa using q4) (by simpa using q5) (all_neg_may q6) (by rw [amounts_neg, q7]; rfl)
          have r2 := reverse_ok day kd s (l.map negL) d ho2 hc2 q1 q2
          rw [neg_neg_lines] at r2
          have ho3 : (l ++ l.map negL).all okL = true := by rw [List.all_append, ho, ho2]; rfl
          have ht : journal_Tidy.f (l ++ l.map negL) = some ([], 0) := by rw [tidy_f ho3 (by simp; omega), tidyR_turned q6]
          have hs := same_entry_ev d kd s l hl
          refine Ev.step (f := fun k => (journal_Reverse.f k d kd s l day).bind fun bt1350 => (if bt1350.2.2.2.2 = 0 then ((journal_Reverse.f k bt1350.1 bt1350.2.1 bt1350.2.2.1 bt1350.2.2.2.1 d).bind fun bt1360 => ((some (([] : List (Line)) : List (Line))).bind fun y1368 => (if y1368.length + l.length < 4398046511104 then ((some (y1368 ++ l : List (Line))).bind fun y1371 => (if y1371.length + bt1350.2.2.2.1.length < 4398046511104 then ((journal_Tidy.f (y1371 ++ bt1350.2.2.2.1)).bind fun bt1377 => (if bt1360.2.2.2.2 = 0 then ((quittanceref20_Same.f k bt1360.1 bt1360.2.1 bt1360.2.2.1 bt1360.2.2.2.1 d kd s l).bind fun t1381 => (if t1381 = true then (if bt1377.2 = 0 then (if (bt1377.1.length : Int) = 0 then ((journal_Check.f bt1350.1 bt1350.2.1 bt1350.2.2.1 bt1350.2.2.2.1).bind fun t1382 => (if t1382 = 0 then (if bt1350.1 = day then ((quittancelaw20_head.f).bind fun t1383 => (some t1383)) else (some false)) else (some false))) else (some false)) else (some false)) else (some false))) else (some false))) else (none))) else (none)))) else (if day < 1 then ((quittancelaw20_head.f).bind fun t1358 => (some t1358)) else (if day > 3652059 then ((quittancelaw20_head.f).bind fun t1359 => (some t1359)) else (some false))))) (fun k => ?_) (Ev.bind r1 ?_)
          · simp only [quittancelaw20_JournalTurns.j0]
            rw [if_neg (by simp)]
          · simp only [if_true, Option.bind_some, List.nil_append]
            refine Ev.bind r2 ?_
            refine Ev.congr (f := fun k => (quittanceref20_Same.f k d kd s l d kd s l).bind fun t1381 => (if t1381 = true then some true else some false)) (fun k => ?_) (Ev.bind hs (Ev.now _))
            simp only [if_true]
            rw [if_pos (by simp; omega), if_pos (by simp; omega), ht]
            simp only [Option.bind_some, if_true]
            rw [check_f ho2, hc2, head20_f]
            simp
        · have r1 := reverse_day d kd s l day ho hc hd
          refine Ev.step (f := fun k => (journal_Reverse.f k d kd s l day).bind fun bt1350 => (if bt1350.2.2.2.2 = 0 then ((journal_Reverse.f k bt1350.1 bt1350.2.1 bt1350.2.2.1 bt1350.2.2.2.1 d).bind fun bt1360 => ((some (([] : List (Line)) : List (Line))).bind fun y1368 => (if y1368.length + l.length < 4398046511104 then ((some (y1368 ++ l : List (Line))).bind fun y1371 => (if y1371.length + bt1350.2.2.2.1.length < 4398046511104 then ((journal_Tidy.f (y1371 ++ bt1350.2.2.2.1)).bind fun bt1377 => (if bt1360.2.2.2.2 = 0 then ((quittanceref20_Same.f k bt1360.1 bt1360.2.1 bt1360.2.2.1 bt1360.2.2.2.1 d kd s l).bind fun t1381 => (if t1381 = true then (if bt1377.2 = 0 then (if (bt1377.1.length : Int) = 0 then ((journal_Check.f bt1350.1 bt1350.2.1 bt1350.2.2.1 bt1350.2.2.2.1).bind fun t1382 => (if t1382 = 0 then (if bt1350.1 = day then ((quittancelaw20_head.f).bind fun t1383 => (some t1383)) else (some false)) else (some false))) else (some false)) else (some false)) else (some false))) else (some false))) else (none))) else (none)))) else (if day < 1 then ((quittancelaw20_head.f).bind fun t1358 => (some t1358)) else (if day > 3652059 then ((quittancelaw20_head.f).bind fun t1359 => (some t1359)) else (some false))))) (fun k => ?_) (Ev.bind r1 ?_)
          · simp only [quittancelaw20_JournalTurns.j0]
            rw [if_neg (by simp)]
          · refine Ev.congr (f := fun _ => some true) (fun k => ?_) (Ev.now _)
            rw [if_neg (by decide), head20_f]
            by_cases h1 : day < 1
            · rw [if_pos h1]; rfl
            · rw [if_neg h1, if_pos (by omega)]; rfl
      have ht : journal_Totals.f d kd s l = some (totalsR d kd l) := by
        unfold journal_Totals.f
        rw [if_pos ⟨ho, by omega⟩]
      refine Ev.congr (f := fun k => quittancelaw20_JournalTurns.j0 k day false d kd s l) (fun k => ?_) hj
      unfold quittancelaw20_JournalTurns.f
      rw [if_neg h, check_f ho, Option.bind_some, if_pos hc, ht, Option.bind_some]
      rcases totals_ok hc with ⟨a, ha, e⟩ | e
      · rw [e]
        simp only [if_true]
        rw [decide_eq_false (by omega)]
      · rw [e, if_neg (by decide)]
    · have r1 := reverse_bad d kd s l day ho hc
      refine Ev.congr (f := fun k => (journal_Reverse.f k d kd s l day).bind fun bt1338 => (if bt1338.2.2.2.2 = 0 then (some false) else (if (bt1338.2.2.2.1.length : Int) = 0 then ((quittancelaw20_head.f).bind fun t1346 => (some t1346)) else (some false)))) (fun k => ?_) (Ev.bind r1 ?_)
      · unfold quittancelaw20_JournalTurns.f
        rw [if_neg h, check_f ho, Option.bind_some, if_neg hc]
      · refine Ev.congr (f := fun _ => some true) (fun k => ?_) (Ev.now _)
        rw [if_neg hc, if_pos (by simp), head20_f]
        rfl
end Go.Proofs.Ytaoejonkiikhmaa.G
