/- Texts of this claim put together: HReverse, LJournalLeaves. -/
import Derived.Test.YtaoejonkiikhmaaMLEaa
import Derived.Test.YtaoejonkiikhmaaMLEao
import Derived.Test.YtaoejonkiikhmaaMLEal
import Derived.WalkSpells

/- journal.Reverse, journal.Check and journal.Totals as equations, in plain Lean. -/
namespace Go.Proofs.Ytaoejonkiikhmaa.G
open Go.RowKit Go.Proofs.YtaoejonkiikhmaaW.PrintWords Go.Proofs.YtaoejonkiikhmaaW.PrintLast Go.Proofs.YtaoejonkiikhmaaW.PrintMore
set_option linter.unusedVariables false
set_option linter.unusedSimpArgs false
--CUT
abbrev Ent := S32
def okE (e : Ent) : Bool := i64ok e.f0 && decide (0 ≤ e.f1 ∧ e.f1 ≤ 255) && u64ok e.f2 && e.f3.all okL
theorem okE_iff (e : Ent) : okE e = true ↔ ((-9223372036854775808 ≤ e.f0 ∧ e.f0 ≤ 9223372036854775807) ∧ (0 ≤ e.f1 ∧ e.f1 ≤ 255) ∧ (0 ≤ e.f2 ∧ e.f2 ≤ 18446744073709551615)) ∧ e.f3.all okL = true := by
  simp [okE, i64ok, u64ok, and_assoc]
theorem check_f {d k s : Int} {l : List Line} (hok : l.all okL = true) : journal_Check.f d k s l = some (checkR d k l) := by
  unfold journal_Check.f
  rw [if_pos hok]
end Go.Proofs.Ytaoejonkiikhmaa.G

/- JournalLeaves: the law's walk. -/
namespace Go.Proofs.Ytaoejonkiikhmaa.G
open Go.RowKit Go.Proofs.YtaoejonkiikhmaaW.PrintWords Go.Proofs.YtaoejonkiikhmaaW.PrintLast Go.Proofs.YtaoejonkiikhmaaW.PrintMore
set_option linter.unusedVariables false
set_option linter.unusedSimpArgs false

theorem side19_f (n : Int) : quittanceref19_Side.f 8 n = some (sideV n) := by
  unfold quittanceref19_Side.f sideV
  by_cases h1 : n = 1
  · subst h1; rfl
  · by_cases h4 : n = 4
    · subst h4; rfl
    · by_cases h2 : n = 2
      · subst h2; rfl
      · by_cases h3 : n = 3
        · subst h3; rfl
        · by_cases h5 : n = 5
          · subst h5; rfl
          · simp [quittanceref19_Side.j0, quittanceref19_Side.j1, h1, h2, h3, h4, h5]
theorem all_take_succ {l : List Acc} {ls : List Line} {k : Nat} (h : k < ls.length) : (ls.take (k + 1)).all (lineOk l) = ((ls.take k).all (lineOk l) && lineOk l (rd_T113 ls k)) := by
  rw [List.take_succ_eq_append_getElem h, List.all_append]
  simp [rd_T113, List.getD_eq_getElem?_getD, List.getElem?_eq_getElem h]

set_option maxHeartbeats 4000000 in
set_option maxRecDepth 100000 in
theorem leaves_great (e : Ent) (A : Option Addr) (c : Nat) (more : List Acc) (A2 : Option Addr) (c2 : Nat) (w : World) (hgr : 100 < e.f3.length ∨ 10 < more.length) :
    Calls Try.prog 12 #[.agg #[.int .i64 e.f0, .int .u8 e.f1, .int .u64 e.f2, .slice A e.f3.length c], .slice A2 more.length c2] w fun e' w' => e' = .returned (.bool true) ∧ Below w.heap.size w w' := by
  have hue := Try.underlying32
  have HHEAD := Aside0.mk (fun W => quittancelaw20_head.calls true W rfl)
  by_cases h1 : (100 : Int) < (e.f3.length : Int)
  · clear hgr
    go_enter Try.func12, Try.ntmps12
    go_wp2_with (go_at_call 50; refine (HHEAD.out _).mono ?_; rintro e w1 ⟨rfl, hb1⟩; have HB1 := Aside0.mk hb1; clear hb1)
    go_ret
    exact ⟨rfl, over_box (w := w) (by simpa using HB1.out)⟩
  · have h2 : (10 : Int) < (more.length : Int) := by omega
    clear hgr
    go_enter Try.func12, Try.ntmps12
    go_wp2_with (go_at_call 50; refine (HHEAD.out _).mono ?_; rintro e w1 ⟨rfl, hb1⟩; have HB1 := Aside0.mk hb1; clear hb1)
    go_ret
    exact ⟨rfl, over_box (w := w) (by simpa using HB1.out)⟩

set_option maxHeartbeats 4000000 in
set_option maxRecDepth 100000 in
theorem leaves_small (e : Ent) (A : Option Addr) (c : Nat) (more : List Acc) (A2 : Option Addr) (c2 : Nat) (w : World) (hC : Kd.C k113 w A e.f3.length e.f3) (hc : e.f3.length ≤ c) (hC2 : Kd.C k121 w A2 more.length more) (hc2 : more.length ≤ c2)
    (hok : e.f3.all okL = true) (hok2 : more.all okAcc = true) (hsz : ∀ a ∈ more, a.f3.size ≤ 9223372036854775807) (h1 : ¬ (100 : Int) < (e.f3.length : Int)) (h2 : ¬ (10 : Int) < (more.length : Int)) :
    Calls Try.prog 12 #[.agg #[.int .i64 e.f0, .int .u8 e.f1, .int .u64 e.f2, .slice A e.f3.length c], .slice A2 more.length c2] w fun e' w' => e' = .returned (.bool true) ∧ Below w.heap.size w w' := by
  have hue := Try.underlying32
  have hua := Try.underlying121
  have hu := Try.underlying113
  have HHEAD := Aside0.mk (fun W => quittancelaw20_head.calls true W rfl)
  obtain ⟨d, kd, s, ls⟩ := e
  simp only at hC hc hok h1 ⊢
  have HC := Aside0.mk hC
  have HOK := Aside0.mk hok
  have HSTD := Aside0.mk (fun (W : World) (hW : Below w.heap.size w W) => standard_any W A2 c2 more (Kd.C_below hC2 hW) hc2 hok2 (by omega) hsz)
  obtain ⟨q, hq⟩ : ∃ q, q = checkR d kd ls := ⟨_, rfl⟩
  have HQ := Aside0.mk hq
  have HCHK := Aside0.mk (fun (W : World) (hW : Below w.heap.size w W) => journal_Check.calls d kd s A c ls q W (Kd.C_below hC hW) hc (by rw [check_f hok, hq]))
  have hmax := Kd.C_max hC
  clear hC hok hC2 hok2 hsz hq
  by_cases hz : q = 0
  · subst hz
    have HON := Aside0.mk (fun (W : World) (hW : Below w.heap.size w W) cb mb l (hch : ChartAt W cb mb l) (hf : FineC l) (hl : l.length ≤ 16) => journal_On.any W cb mb l hch (by omega) d kd s A c ls (Kd.C_below HC.out hW) hc HOK.out HQ.out.symm hf (by omega))
    go_enter Try.func12, Try.ntmps12
    go_wp2_with (first | (go_at_call 56; refine (HSTD.out _ (below_alloc (Below.refl _ _) _)).mono ?_; rintro e w1 ⟨cb, mb, l, rfl, hch, hf, hl, hb1⟩; obtain ⟨e0, e1, e2, e3⟩ := entry_cells (w := w) (w5 := w1) (by simpa using hb1); have HB1 := Aside0.mk (over_box (w := w) (by simpa using hb1)); have HCH := Aside0.mk hch; have HF := Aside0.mk hf; have HL := Aside0.mk hl; have HE1 := Aside0.mk (And.intro e0 (And.intro e1 (And.intro e2 e3))); clear hb1 hch hf hl) | (go_at_call 17; refine (HCHK.out _ HB1.out).mono ?_; rintro e w2 ⟨rfl, hb2⟩; clear e0 e1 e2 e3; have e0 := pw_cell_below hb2 HE1.out.1; have e1 := pw_cell_below hb2 HE1.out.2.1; have e2 := pw_cell_below hb2 HE1.out.2.2.1; have e3 := pw_cell_below hb2 HE1.out.2.2.2; have HB2 := Aside0.mk (below_then HB1.out HB1.out.size hb2); have HCH2 := Aside0.mk (HCH.out.below hb2); have HE2 := Aside0.mk e3; clear hb2) | (go_at_call 57; refine (HON.out _ HB2.out cb mb l HCH2.out HF.out HL.out).mono ?_; rintro e w3 ⟨⟨g, rfl, hg⟩, hb3⟩; have HG := Aside0.mk hg; have HB3 := Aside0.mk (below_then HB2.out HB2.out.size hb3); have HCH3 := Aside0.mk (HCH2.out.below hb3); have HE3 := Aside0.mk (pw_cell_below hb3 HE2.out); clear hb3 hg e0 e1 e2 e3))
    go_loopw [8, 9] (fun s8 s9 wr => ∃ (k : Nat) (b : Bool), k ≤ ls.length ∧ s9 = .int .i64 k ∧ s8 = .bool b ∧ Aside0 (b = (ls.take k).all (lineOk l)) ∧ Aside0 (Below w3.heap.size w3 wr))
      (fun _ s9 _ => ls.length - (intOf s9).toNat)
    case atStart => exact ⟨0, true, Nat.zero_le _, rfl, rfl, ⟨rfl⟩, ⟨Below.refl _ _⟩⟩
    case round =>
      obtain ⟨k, b, hk, rfl, rfl, HBB, HBW⟩ := hrel
      have e3 := pw_cell_below HBW.out HE3.out
      have HBT := Aside0.mk (below_then HB3.out HB3.out.size HBW.out)
      by_cases hlt : k < ls.length
      · obtain ⟨ad, rfl, x0, x1, x2, x3⟩ := at_T113 (Kd.C_below HC.out HBT.out) k (by omega) (by omega)
        rw [Int.toNat_natCast] at x0 x1 x2 x3
        have HTS := Aside0.mk (all_take_succ (l := l) hlt)
        obtain ⟨x, hx⟩ : ∃ x, x = rd_T113 ls k := ⟨_, rfl⟩
        have hmem : x ∈ ls := by
          rw [hx]
          simp [rd_T113, List.getD_eq_getElem?_getD, List.getElem?_eq_getElem hlt]
        rw [← hx] at x0 x1 x2 x3 HTS
        have hxo := List.all_eq_true.1 HOK.out x hmem
        have hwf : (Lit.int .i64 x.f0).wf = true := by
          simp only [okL, Bool.and_eq_true] at hxo
          exact wf_i64 hxo.1.1.1
        clear hx hmem hxo
        have HCW := Aside0.mk (HCH3.out.below HBW.out)
        have HGET := Aside0.mk (chart_Get.calls wr cb mb l HCW.out x.f0 hwf)
        cases hhas : hasC l x.f0 with
        | false =>
          have HNX : Aside0 (false = (ls.take (k + 1)).all (lineOk l)) := ⟨by rw [HTS.out]; unfold lineOk; rw [hhas]; simp⟩
          rw [hhas, if_neg (by simp), if_neg (by simp)] at HGET
          unfold accV at HGET
          clear hhas
          cases b with
          | false =>
            go_wp2_with (go_at_call 58; refine HGET.out.mono ?_; rintro e w4 ⟨rfl, hb4⟩; have HB4 := Aside0.mk (below_then HBW.out HBW.out.size hb4); clear hb4)
            go_roundw
            case rel => exact ⟨k + 1, false, by omega, by go_num, rfl, HNX, ⟨below_alloc HB4.out _⟩⟩
            case measure => simp [intOf]; omega
          | true =>
            go_wp2_with (go_at_call 58; refine HGET.out.mono ?_; rintro e w4 ⟨rfl, hb4⟩; have HB4 := Aside0.mk (below_then HBW.out HBW.out.size hb4); clear hb4)
            go_roundw
            case rel => exact ⟨k + 1, false, by omega, by go_num, rfl, HNX, ⟨below_alloc HB4.out _⟩⟩
            case measure => simp [intOf]; omega
        | true =>
          obtain ⟨hy4, hyS, hy0⟩ := HF.out.2 _ hhas
          have HLEAF := Aside0.mk (fun (W : World) (hW : Below wr.heap.size wr W) => chart_Leaf.calls W cb mb l (HCW.out.below hW) HF.out.1 (by have := HL.out; omega) x.f0 hwf hhas)
          obtain ⟨y, hy⟩ : ∃ y, y = lookC l x.f0 := ⟨_, rfl⟩
          rw [hhas, if_pos rfl, if_pos rfl, ← hy] at HGET
          unfold accV at HGET
          rw [← hy] at hy4 hyS hy0
          rw [hy4, hy0] at HGET
          have HNX : Aside0 ((b && leafC l x.f0) = (ls.take (k + 1)).all (lineOk l)) := ⟨by rw [HTS.out, HBB.out]; unfold lineOk; rw [hhas, Bool.true_and]⟩
          have HSD := Aside0.mk (fun W => quittanceref19_Side.calls 8 y.f2 (sideV y.f2) W (side19_f y.f2))
          have hsb : (sideV y.f2 != 0) = true := by
            rw [bne_iff_ne]
            intro e
            rw [(sideV_zero _).1 e] at hyS
            cases hyS
          obtain ⟨sv, hsv⟩ : ∃ sv, sv = sideV y.f2 := ⟨_, rfl⟩
          rw [← hsv] at HSD hsb
          clear hhas hy4 hyS hy0 hy hsv
          cases b with
          | false =>
            rw [Bool.false_and] at HNX
            go_wp2_with (go_at_call 58; refine HGET.out.mono ?_; rintro e w4 ⟨rfl, hb4⟩; have HB4 := Aside0.mk (below_then HBW.out HBW.out.size hb4); clear hb4)
            go_roundw
            case rel => exact ⟨k + 1, false, by omega, by go_num, rfl, HNX, ⟨below_alloc HB4.out _⟩⟩
            case measure => simp [intOf]; omega
          | true =>
            rw [Bool.true_and] at HNX
            obtain ⟨lf, hlf⟩ : ∃ lf, lf = leafC l x.f0 := ⟨_, rfl⟩
            rw [← hlf] at HNX HLEAF
            clear hlf
            go_wp2_with (first | (go_at_call 58; refine HGET.out.mono ?_; rintro e w4 ⟨rfl, hb4⟩; have HB4 := Aside0.mk hb4; clear hb4) | (go_at_call 59; refine (HSD.out _).mono ?_; rintro e w5 hw5; obtain ⟨rfl, hd5⟩ := hw5; have HD5 := Aside0.mk (Drawn0.below hd5); have y0 : w5.cell? ⟨w4.heap.size, 0, none⟩ = some (.int .i64 x.f0) := pw_cell_below (Drawn0.below hd5) (by simp); have HB5 := Aside0.mk (below_then (below_alloc HB4.out _) (below_alloc HB4.out _).size (Drawn0.below hd5)); clear hd5) | (go_at_call 60; refine (HLEAF.out _ HB5.out).mono ?_; rintro e w6 ⟨rfl, hb6⟩; have HB6 := Aside0.mk (below_then HBW.out HBW.out.size (below_then HB5.out HB5.out.size hb6)); clear hb6))
            go_roundw
            case rel => exact ⟨k + 1, lf, by omega, by go_num, rfl, HNX, HB6⟩
            case measure => simp [intOf]; omega
      · obtain rfl : k = ls.length := by omega
        have hb := HBB.out
        rw [List.take_length] at hb
        have HG2 := HG.out
        rw [← hb] at HG2
        clear hb
        have HBQ := Aside0.mk HBT.out
        rcases HG2 with ⟨rfl, rfl⟩ | ⟨rfl, rfl | rfl⟩
        · go_wp2_with (go_at_call 50; refine (HHEAD.out _).mono ?_; rintro e w9 ⟨rfl, hb9⟩; have HB9 := Aside0.mk (below_then HBQ.out HBQ.out.size hb9); clear hb9)
          go_ret
          exact ⟨rfl, HB9.out⟩
        · go_wp2_with (go_at_call 50; refine (HHEAD.out _).mono ?_; rintro e w9 ⟨rfl, hb9⟩; have HB9 := Aside0.mk (below_then HBQ.out HBQ.out.size hb9); clear hb9)
          go_ret
          exact ⟨rfl, HB9.out⟩
        · go_wp2_with (go_at_call 50; refine (HHEAD.out _).mono ?_; rintro e w9 ⟨rfl, hb9⟩; have HB9 := Aside0.mk (below_then HBQ.out HBQ.out.size hb9); clear hb9)
          go_ret
          exact ⟨rfl, HB9.out⟩
  · have hzb : (q != 0) = true := bne_iff_ne.mpr hz
    have hqq : (q == q) = true := beq_self_eq_true q
    have HON := Aside0.mk (fun (W : World) (hW : Below w.heap.size w W) cb mb l (hch : ChartAt W cb mb l) => journal_On.refused W cb mb l hch d kd s A c ls (Kd.C_below HC.out hW) hc HOK.out (by rw [← HQ.out]; exact hz))
    rw [← HQ.out] at HON
    clear hz
    go_enter Try.func12, Try.ntmps12
    go_wp2_with (first | (go_at_call 56; refine (HSTD.out _ (below_alloc (Below.refl _ _) _)).mono ?_; rintro e w1 ⟨cb, mb, l, rfl, hch, hf, hl, hb1⟩; obtain ⟨e0, e1, e2, e3⟩ := entry_cells (w := w) (w5 := w1) (by simpa using hb1); have HB1 := Aside0.mk (over_box (w := w) (by simpa using hb1)); have HCH := Aside0.mk hch; have HE1 := Aside0.mk (And.intro e0 (And.intro e1 (And.intro e2 e3))); clear hb1 hch hf hl) | (go_at_call 17; refine (HCHK.out _ HB1.out).mono ?_; rintro e w2 ⟨rfl, hb2⟩; clear e0 e1 e2 e3; have e0 := pw_cell_below hb2 HE1.out.1; have e1 := pw_cell_below hb2 HE1.out.2.1; have e2 := pw_cell_below hb2 HE1.out.2.2.1; have e3 := pw_cell_below hb2 HE1.out.2.2.2; have HB2 := Aside0.mk (below_then HB1.out HB1.out.size hb2); have HCH2 := Aside0.mk (HCH.out.below hb2); clear hb2) | (go_at_call 57; refine (HON.out _ HB2.out cb mb l HCH2.out).mono ?_; rintro e w3 ⟨rfl, hb3⟩; have HB3 := Aside0.mk (below_then HB2.out HB2.out.size hb3); clear hb3) | (go_at_call 50; refine (HHEAD.out _).mono ?_; rintro e w9 ⟨rfl, hb9⟩; have HB9 := Aside0.mk (below_then HB3.out HB3.out.size hb9); clear hb9))
    go_ret
    exact ⟨rfl, HB9.out⟩

theorem quittancelaw20_JournalLeaves.run (e : Ent) (A : Option Addr) (c : Nat) (more : List Acc) (A2 : Option Addr) (c2 : Nat) (w : World) (hC : Kd.C k113 w A e.f3.length e.f3) (hc : e.f3.length ≤ c) (hC2 : Kd.C k121 w A2 more.length more) (hc2 : more.length ≤ c2)
    (hok : okE e = true) (hok2 : more.all okAcc = true) (hsz : ∀ a ∈ more, a.f3.size ≤ 9223372036854775807) :
    Calls Try.prog 12 #[.agg #[.int .i64 e.f0, .int .u8 e.f1, .int .u64 e.f2, .slice A e.f3.length c], .slice A2 more.length c2] w fun e' w' => e' = .returned (.bool true) ∧ Below w.heap.size w w' := by
  by_cases h : 100 < e.f3.length ∨ 10 < more.length
  · exact leaves_great e A c more A2 c2 w h
  · exact leaves_small e A c more A2 c2 w hC hc hC2 hc2 ((okE_iff e).1 hok).2 hok2 hsz (by omega) (by omega)
end Go.Proofs.Ytaoejonkiikhmaa.G
