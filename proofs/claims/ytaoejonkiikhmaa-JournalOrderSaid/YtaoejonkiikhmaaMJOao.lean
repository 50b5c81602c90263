/- Texts of this claim put together: HOn, HStandard, HHead20, HTidyF, GQuittancelaw20JournalOrder, LJournalOrder. -/
import Derived.Test.YtaoejonkiikhmaaMJOan
import Derived.Test.YtaoejonkiikhmaaMJOaj
import Derived.Test.YtaoejonkiikhmaaMJOak
import Derived.Test.YtaoejonkiikhmaaMJOaa
import Derived.Test.YtaoejonkiikhmaaMJOab

/- journal.On, where an entry may be posted; and on no chart. -/
namespace Go.Proofs.Ytaoejonkiikhmaa.G
open Go.RowKit Go.Proofs.YtaoejonkiikhmaaW.PrintWords Go.Proofs.YtaoejonkiikhmaaW.PrintLast Go.Proofs.YtaoejonkiikhmaaW.PrintMore
set_option linter.unusedVariables false
set_option linter.unusedSimpArgs false

def postable (l : List Acc) (c : Int) : Prop := hasC l c = true ∧ (lookC l c).f4 = false ∧ ∀ k, (lookC l k).f1 ≠ c

set_option maxHeartbeats 2000000 in
set_option maxRecDepth 100000 in
theorem journal_On.fine (w : World) (cb mb : Nat) (l : List Acc) (h : ChartAt w cb mb l) (hl : l.length * 8 ≤ 140737488355328) (a0_0 a0_1 a0_2 : Int) (A0_3 : Option Addr) (c0_3 : Nat) (l0_3 : List Line) (hr0_3 : Kd.C k113 w A0_3 l0_3.length l0_3) (hc0_3 : l0_3.length ≤ c0_3)
    (hok : l0_3.all okL = true) (hcheck : checkR a0_0 a0_1 l0_3 = 0) (hpost : ∀ x ∈ l0_3, postable l x.f0) :
    Calls Try.prog 57 #[.pointer (some ⟨cb, 0, none⟩), .agg #[.int .i64 a0_0, .int .u8 a0_1, .int .u64 a0_2, .slice A0_3 l0_3.length c0_3]] w fun e w' => e = .returned (.int .i64 0) ∧ Below w.heap.size w w' := by
  have hu := Try.underlying113
  have hua := Try.underlying121
  have hue := Try.underlying32
  have HCH := Aside0.mk h
  have HR := Aside0.mk hr0_3
  have HOK := Aside0.mk hok
  have HPOST := Aside0.mk hpost
  have hmax := Kd.C_max hr0_3
  have HGET0 := Aside0.mk (fun W hW => chart_Get.calls W cb mb l (h.below hW) 0 (by decide))
  obtain ⟨g0, hg0⟩ : ∃ g : Acc, g = (if hasC l 0 = true then lookC l 0 else z121) := ⟨_, rfl⟩
  obtain ⟨f0, hf0⟩ : ∃ f : Int, f = (if hasC l 0 = true then 0 else 7) := ⟨_, rfl⟩
  rw [← hg0, ← hf0] at HGET0
  unfold accV at HGET0
  have hf0b : (f0 == 1) = false := by rw [hf0]; split <;> rfl
  clear hg0 hf0
  have HCHK := Aside0.mk (fun (W : World) (hW : Below w.heap.size w W) => journal_Check.calls a0_0 a0_1 a0_2 A0_3 c0_3 l0_3 0 W (Kd.C_below hr0_3 hW) hc0_3 (by unfold journal_Check.f; rw [if_pos hok, hcheck]))
  clear h hr0_3 hok hpost hcheck
  go_enter Try.func57, Try.ntmps57
  go_wp2_with (first | (go_at_call 58; refine (HGET0.out _ (below_alloc (Below.refl _ _) _)).mono ?_; rintro e w1 ⟨rfl, hb1⟩; obtain ⟨e0, e1, e2, e3⟩ := entry_cells (w := w) (w5 := w1.alloc (.cells #[.int .i64 g0.f0, .int .i64 g0.f1, .int .u8 g0.f2, .string g0.f3, .bool g0.f4] 121)) (by have h9 := below_alloc hb1 (.cells #[.int .i64 g0.f0, .int .i64 g0.f1, .int .u8 g0.f2, .string g0.f3, .bool g0.f4] 121); simpa using h9); have HB1 := Aside0.mk (over_box (w := w) (by simpa using hb1)); have HE1 := Aside0.mk (And.intro e0 (And.intro e1 (And.intro e2 e3))); clear hb1) | (go_at_call 17; refine (HCHK.out _ (below_alloc HB1.out _)).mono ?_; rintro e w2 ⟨rfl, hb2⟩; have f3 := pw_cell_below hb2 HE1.out.2.2.2; have HB2 := Aside0.mk (below_then (below_alloc HB1.out _) (below_alloc HB1.out _).size hb2); clear hb2))
  go_loopw [28] (fun i wr => ∃ (k : Nat), k ≤ l0_3.length ∧ i = .int .i64 k ∧ Aside0 (Below w.heap.size w wr))
    (fun i _ => l0_3.length - (intOf i).toNat)
  case atStart => exact ⟨0, Nat.zero_le _, rfl, HB2⟩
  case round =>
    obtain ⟨k, hk, rfl, HB⟩ := hrel
    by_cases hlt : k < l0_3.length
    · obtain ⟨ad, rfl, x0, x1, x2, x3⟩ := at_T113 (Kd.C_below HR.out HB.out) k (by omega) (by omega)
      rw [Int.toNat_natCast] at x0 x1 x2 x3
      obtain ⟨x, hx⟩ : ∃ x, x = rd_T113 l0_3 k := ⟨_, rfl⟩
      have hmem : x ∈ l0_3 := by
        rw [hx]
        simp [rd_T113, List.getD_eq_getElem?_getD, List.getElem?_eq_getElem hlt]
      rw [← hx] at x0 x1 x2 x3
      have HP := Aside0.mk (HPOST.out x hmem)
      have hxo := List.all_eq_true.1 HOK.out x hmem
      have hwf : (Lit.int .i64 x.f0).wf = true := by
        simp only [okL, Bool.and_eq_true] at hxo
        exact wf_i64 hxo.1.1.1
      clear hx hmem hxo
      have HGET := Aside0.mk (fun W hW => chart_Get.calls W cb mb l (HCH.out.below hW) x.f0 hwf)
      obtain ⟨y, hy⟩ : ∃ y, y = lookC l x.f0 := ⟨_, rfl⟩
      rw [HP.out.1, if_pos rfl, if_pos rfl, ← hy] at HGET
      unfold accV at HGET
      have hsh : y.f4 = false := by rw [hy]; exact HP.out.2.1
      rw [hsh] at HGET
      clear hsh hy
      have HLEAF := Aside0.mk (fun W hW => chart_Leaf.leaf W cb mb l (HCH.out.below hW) hl x.f0 hwf HP.out.1 HP.out.2.2)
      go_wp2_with (first | (go_at_call 58; refine (HGET.out _ (below_alloc HB.out _)).mono ?_; rintro e w3 ⟨rfl, hb3⟩; have HB3 := Aside0.mk (below_then (below_alloc HB.out _) (below_alloc HB.out _).size hb3); have hl0 : (w3.alloc (.cells #[.int .i64 y.f0, .int .i64 y.f1, .int .u8 y.f2, .string y.f3, .bool false] 121)).cell? ⟨wr.heap.size, 0, none⟩ = some (.int .i64 x.f0) := pw_cell_below (below_alloc (Below.refl w3.heap.size w3) _) (line_cells hb3).1; clear hb3) | (go_at_call 60; refine (HLEAF.out _ (below_alloc HB3.out _)).mono ?_; rintro e w4 ⟨rfl, hb4⟩; have HB4 := Aside0.mk (below_then (below_alloc HB3.out _) (below_alloc HB3.out _).size hb4); clear hb4))
      exact ⟨⟨k + 1, by omega, by go_num, HB4⟩, by simp [intOf]; omega⟩
    · obtain rfl : k = l0_3.length := by omega
      go_wp2
      go_ret
      exact ⟨rfl, HB.out⟩

set_option maxHeartbeats 1000000 in
set_option maxRecDepth 100000 in
theorem chart_Get.nils (w : World) (c : Int) : Calls Try.prog 58 #[.pointer none, .int .i64 c] w fun e w' => e = .returned (.tuple #[.agg #[.int .i64 0, .int .i64 0, .int .u8 0, .string ⟨#[]⟩, .bool false], .int .i64 1]) ∧ Below w.heap.size w w' := by
  have hu := Try.underlying213
  have hua := Try.underlying121
  go_enter Try.func58, Try.ntmps58
  go_wp2_with (go_at_call 117; refine (chart_none.nils _).mono ?_; rintro e w1 ⟨rfl, rfl⟩)
  refine bodyPost_ret (results_ct rfl _ _ w.heap.size 121 #[.int .i64 0, .int .i64 0, .int .u8 0, .string ⟨#[]⟩, .bool false] (0, 0) _ rfl (World.alloc_heap_new w _) Try.underlying121 rfl info_acc) rfl ?_
  exact ⟨rfl, below_alloc (Below.refl _ _) _⟩

set_option maxHeartbeats 1000000 in
set_option maxRecDepth 100000 in
theorem journal_On.nils (w : World) (a0_0 a0_1 a0_2 : Int) (A : Option Addr) (n c : Nat) :
    Calls Try.prog 57 #[.pointer none, .agg #[.int .i64 a0_0, .int .u8 a0_1, .int .u64 a0_2, .slice A n c]] w fun e w' => e = .returned (.int .i64 1) ∧ Below w.heap.size w w' := by
  have hua := Try.underlying121
  have hue := Try.underlying32
  go_enter Try.func57, Try.ntmps57
  go_wp2_with (go_at_call 58; refine (chart_Get.nils _ _).mono ?_; rintro e w1 ⟨rfl, hb1⟩; have HB1 := Aside0.mk (over_box (w := w) (by simpa using hb1)); clear hb1)
  go_ret
  exact ⟨rfl, below_alloc HB1.out _⟩
end Go.Proofs.Ytaoejonkiikhmaa.G

/- The law's chart: the standard accounts alone. -/
namespace Go.Proofs.Ytaoejonkiikhmaa.G
open Go.RowKit Go.Proofs.YtaoejonkiikhmaaW.PrintWords Go.Proofs.YtaoejonkiikhmaaW.PrintLast Go.Proofs.YtaoejonkiikhmaaW.PrintMore
set_option linter.unusedVariables false
set_option linter.unusedSimpArgs false

def std : List Acc := (chart_Standard.f).getD []
theorem std_some : chart_Standard.f = some std := rfl
theorem std_len : std.length = 6 := rfl
theorem std_fine : ∀ k : Fin 6, (Lit.int .i64 (rd_T121 std k.val).f0).wf = true ∧ chart_may.f 8 (rd_T121 std k.val).f0 (rd_T121 std k.val).f1 (rd_T121 std k.val).f2 (rd_T121 std k.val).f3 (rd_T121 std k.val).f4 = some true ∧ (rd_T121 std k.val).f1 = 0 ∧ hasC (std.take k.val) (rd_T121 std k.val).f0 = false ∧ hasC (std.take k.val) 0 = false := by
  decide
theorem std_ups : ∀ c, (lookC std c).f1 = 0 := by
  intro c
  unfold lookC
  cases h : std.reverse.find? (fun a => a.f0 == c) with
  | none => rfl
  | some a =>
    have hm := List.mem_of_find?_eq_some h
    have : ∀ a ∈ std.reverse, a.f1 = 0 := by decide
    exact this a hm
theorem no_cell {w : World} {mb : Nat} {l : List Acc} {cb : Nat} (h : ChartAt w cb mb l) {a : Addr} {v : Value} (hc : w.cell? a = some v) : some a.block ≠ some mb := by
  intro e
  have e := Option.some.inj e
  obtain ⟨es, cl, hm, _⟩ := h.2
  unfold World.cell? at hc
  rw [e, hm] at hc
  cases hc
theorem C_chart {w w' : World} {mb cb : Nat} {l : List Acc} (h : ChartAt w cb mb l) (hg : w.grownBy w' (some mb)) {A : Option Addr} {n : Nat} {xs : List Acc} (hC : Kd.C k121 w A n xs) : Kd.C k121 w' A n xs := by
  refine ⟨hC.1, hC.2.1, fun h0 => ?_⟩
  obtain ⟨ad, e, hq⟩ := hC.2.2 h0
  refine ⟨ad, e, fun j p hj => ?_⟩
  obtain ⟨c, hcl, hK, hcell⟩ := hq j p hj
  refine ⟨c, hcl, ?_, fun i u hu => hg.cell (hcell i u hu) (no_cell h (hcell i u hu))⟩
  have hK' : k121.K w p c := hK
  rw [k121_open hK']
  exact k121_mk w' p

set_option maxHeartbeats 2000000 in
set_option maxRecDepth 100000 in
theorem standard_none (w : World) : Calls Try.prog 56 #[.slice none 0 0] w fun e w' => ∃ cb mb, e = .returned (.pointer (some ⟨cb, 0, none⟩)) ∧ ChartAt w' cb mb std ∧ Below w.heap.size w w' := by
  have hua := Try.underlying121
  go_enter Try.func56, Try.ntmps56
  go_wp2_with (first | (go_at_call 114; refine (chart_New.calls _).mono ?_; rintro e w1 ⟨rfl, hc1, hb1⟩; have HC1 := Aside0.mk hc1; have HB1 := Aside0.mk hb1; clear hc1 hb1) | (go_at_call 115; refine (chart_Standard.calls std _ std_some).mono ?_; rintro e w2 ⟨v0, rfl, hR2, hb2⟩; obtain ⟨A2, c2, rfl, hc2, hC2⟩ := Kd.R_reads hR2; have HCH := Aside0.mk (HC1.out.below hb2); have HB2 := Aside0.mk (below_then HB1.out HB1.out.size hb2); have HC2 := Aside0.mk hC2; clear hb2 hR2 hC2))
  go_loopw [5] (fun i wr => ∃ (k : Nat), k ≤ 6 ∧ i = .int .i64 k ∧ Aside0 (ChartAt wr (w.heap.size + 1) w.heap.size (std.take k)) ∧ Aside0 (Kd.C k121 wr A2 std.length std) ∧ Aside0 (Below w.heap.size w wr))
    (fun i _ => 6 - (intOf i).toNat)
  case atStart => exact ⟨0, Nat.zero_le _, rfl, HCH, HC2, HB2⟩
  case round =>
    obtain ⟨k, hk, rfl, HC, HK, HB⟩ := hrel
    have h6 : std.length = 6 := rfl
    by_cases hlt : k < 6
    · obtain ⟨ad, rfl, x0, x1, x2, x3, x4⟩ := at_T121 HK.out k (by omega) (by omega)
      rw [Int.toNat_natCast] at x0 x1 x2 x3 x4
      obtain ⟨q1, q2, q3, q4, q5⟩ := std_fine ⟨k, hlt⟩
      simp only at q1 q2 q3 q4 q5
      have hsn : std.take k ++ [rd_T121 std k] = std.take (k + 1) := by
        rw [List.take_succ_eq_append_getElem (by omega)]
        simp [rd_T121, List.getElem?_eq_getElem (show k < std.length by omega)]
      have HSN := Aside0.mk hsn
      obtain ⟨x, hx⟩ : ∃ x, x = rd_T121 std k := ⟨_, rfl⟩
      rw [← hx] at x0 x1 x2 x3 x4 q1 q2 q3 q4 HSN
      have HADD := Aside0.mk (chart_Add.fine 8 wr _ _ _ HC.out x q1 q2 q3 q4 q5 (by rw [List.length_take]; unfold maxLen; omega))
      unfold accV at HADD
      clear hx q1 q2 q3 q4 q5 hsn h6
      go_wp2_with (go_at_call 116; refine HADD.out.mono ?_; rintro e w3 ⟨rfl, hc3, hg3⟩; have HC3 := Aside0.mk hc3; have HG3 := Aside0.mk hg3; clear hc3 hg3)
      rw [HSN.out] at HC3
      go_roundw
      case rel => exact ⟨k + 1, by omega, by go_num, HC3, ⟨C_chart HC.out HG3.out HK.out⟩, ⟨pw_below_grown HB.out _ HB.out.size HG3.out (fun j e => by cases e; exact Nat.le_refl _)⟩⟩
      case measure => simp [intOf]; omega
    · obtain rfl : k = 6 := by omega
      have hs6 : std.take 6 = std := rfl
      rw [hs6] at HC
      have H6 := Aside0.mk h6
      go_wp2
      obtain ⟨wo, hwo⟩ : ∃ wo, wo = wr := ⟨_, rfl⟩
      subst hwo
      go_loopw [6] (fun i w' => i = .int .i64 0 ∧ w' = wo) (fun _ _ => 0)
      case atStart => exact ⟨rfl, rfl⟩
      case round =>
        obtain ⟨rfl, hwr⟩ := hrel
        go_wp2
        go_ret
        skip
        exact ⟨_, _, rfl, HC.out, HB.out⟩
end Go.Proofs.Ytaoejonkiikhmaa.G

/- The known answers of the layer journal: they are so. -/
namespace Go.Proofs.Ytaoejonkiikhmaa.G
open Go.RowKit Go.Proofs.YtaoejonkiikhmaaW.PrintWords Go.Proofs.YtaoejonkiikhmaaW.PrintLast Go.Proofs.YtaoejonkiikhmaaW.PrintMore
set_option linter.unusedVariables false
set_option linter.unusedSimpArgs false

def quittancelaw20_head.f : Option Bool := some true
def lineV (x : Line) : List Value := [.int .i64 x.f0, .int .u64 x.f1, .int .u64 x.f2, .int .i64 x.f3]
theorem flat_at : ∀ (xs : List Line) (j i : Nat) (p : Line) (u : Value), xs[j]? = some p → (lineV p)[i]? = some u → (xs.flatMap lineV)[j * 4 + i]? = some u
  | [], j, i, p, u, h, _ => by simp at h
  | x :: r, 0, i, p, u, h, hu => by
    simp at h
    subst h
    have hi : i < 4 := (List.getElem?_eq_some_iff.1 hu).1
    rw [List.flatMap_cons, List.getElem?_append_left (by show 0 * 4 + i < 4; omega), Nat.zero_mul, Nat.zero_add]
    exact hu
  | x :: r, j + 1, i, p, u, h, hu => by
    rw [List.flatMap_cons, List.getElem?_append_right (by show 4 ≤ (j + 1) * 4 + i; omega)]
    have e : (j + 1) * 4 + i - (lineV x).length = j * 4 + i := by
      show (j + 1) * 4 + i - 4 = j * 4 + i
      omega
    rw [e]
    exact flat_at r j i p u (by simpa using h) hu
theorem C_lines (xs : List Line) (W : World) (g : Nat) (cs : Array Value) (hg : W.heap[g]? = some (.cells cs 113 (0, 0))) (hq : cs = (xs.flatMap lineV).toArray) (hlen : xs.length ≤ 1000) : Kd.C k113 W (some ⟨g, 0, none⟩) xs.length xs := by
  subst hq
  refine ⟨rfl, by omega, fun h0 => ⟨_, rfl, fun j p hj => ⟨lineV p, rfl, k113_mk W p, fun i u hu => ?_⟩⟩⟩
  have h1 : ((xs.flatMap lineV).toArray)[j * 4 + i]? = some u := by
    rw [List.getElem?_toArray]
    exact flat_at xs j i p u hj hu
  have e1 : (⟨g, 0, none⟩ : Addr).add (j * 4 + i) = ⟨g, j * 4 + i, none⟩ := by
    unfold Addr.add
    split
    · rename_i h0
      rw [h0]
    · simp
  rw [show k113.sz = 4 from rfl, e1]
  exact (blk_cell hg _).trans h1
theorem third_new (w : World) (a b c : Obj) : (((w.alloc a).alloc b).alloc c).heap[w.heap.size + 1 + 1]? = some c := by
  have := World.alloc_heap_new ((w.alloc a).alloc b) c
  simpa using this
def e2 : List Line := [⟨1100, 0, 0, 5⟩, ⟨1200, 0, 0, -5⟩]
def b2 : List Line := [⟨1100, 0, 0, 5⟩, ⟨1200, 0, 0, -4⟩]
def t3 : List Line := [⟨1200, 0, 0, 2⟩, ⟨1100, 0, 0, 3⟩, ⟨1200, 0, 0, -2⟩]
def o1 : List Line := [⟨1100, 0, 0, 3⟩]
theorem e2_ok : e2.all okL = true := by decide
theorem e2_totals : journal_Totals.f 1 1 0 e2 = some (5, 5, 0) := by kernel_rfl
theorem e2_check : journal_Check.f 1 1 0 e2 = some 0 := by kernel_rfl
theorem e2_checkR : checkR 1 1 e2 = 0 := by decide
theorem b2_check : journal_Check.f 1 1 0 b2 = some 200 := by kernel_rfl
theorem e2_put : journal_Put.f 12 1 1 0 e2 = some (⟨#[1, 1, 0, 2, 135, 76, 0, 0, 10, 136, 48, 0, 0, 9]⟩, 0) := by kernel_rfl
theorem t3_tidy : journal_Tidy.f t3 = some (o1, 0) := by kernel_rfl
theorem o1_same : quittanceref20_SameLines.f 12 o1 o1 = some true := by kernel_rfl
theorem e2_post : ∀ x ∈ e2, postable std x.f0 := by
  intro x hx
  refine ⟨?_, ?_, fun k => ?_⟩
  · have : ∀ x ∈ e2, hasC std x.f0 = true := by decide
    exact this x hx
  · have : ∀ x ∈ e2, (lookC std x.f0).f4 = false := by decide
    exact this x hx
  · rw [std_ups]
    have : ∀ x ∈ e2, (0 : Int) ≠ x.f0 := by decide
    exact this x hx

set_option maxHeartbeats 4000000 in
set_option maxRecDepth 100000 in
theorem quittancelaw20_head.calls (r : Bool) (w : World) (h : quittancelaw20_head.f = some r) :
    Calls Try.prog 50 #[] w fun e w' => e = .returned (.bool r) ∧ Below w.heap.size w w' := by
  obtain rfl := Option.some.inj h
  clear h
  have hu := Try.underlying113
  have hue := Try.underlying32
  go_enter Try.func50, Try.ntmps50
  obtain ⟨wa, hwa⟩ : ∃ wa, wa = (w.alloc (.cells #[.int .i64 1100, .int .u64 0, .int .u64 0, .int .i64 5, .int .i64 1200, .int .u64 0, .int .u64 0, .int .i64 (-5)] 113)).alloc (.cells #[.int .i64 1, .int .u8 1, .int .u64 0, .slice (some ⟨w.heap.size, 0, none⟩) 2 2] 32) := ⟨_, rfl⟩
  have HWA := Aside0.mk hwa
  have HA : Aside0 (∀ W, Below wa.heap.size wa W → W.cell? ⟨w.heap.size + 1, 0, none⟩ = some (.int .i64 1) ∧ W.cell? ⟨w.heap.size + 1, 1, none⟩ = some (.int .u8 1) ∧ W.cell? ⟨w.heap.size + 1, 2, none⟩ = some (.int .u64 0) ∧ W.cell? ⟨w.heap.size + 1, 3, none⟩ = some (.slice (some ⟨w.heap.size, 0, none⟩) 2 2) ∧ Kd.C k113 W (some ⟨w.heap.size, 0, none⟩) e2.length e2) := ⟨fun W hW => by
    have hk : wa.heap[w.heap.size + 1]? = some (.cells #[.int .i64 1, .int .u8 1, .int .u64 0, .slice (some ⟨w.heap.size, 0, none⟩) 2 2] 32) := by rw [hwa]; exact second_new w _ _
    have hl : wa.heap[w.heap.size]? = some (.cells #[.int .i64 1100, .int .u64 0, .int .u64 0, .int .i64 5, .int .i64 1200, .int .u64 0, .int .u64 0, .int .i64 (-5)] 113) := by rw [hwa]; exact first_new w _ _ _ _
    exact ⟨pw_cell_below hW (blk_cell hk 0), pw_cell_below hW (blk_cell hk 1), pw_cell_below hW (blk_cell hk 2), pw_cell_below hW (blk_cell hk 3), Kd.C_below (C_lines e2 wa w.heap.size _ hl rfl (by decide)) hW⟩⟩
  clear hwa
  go_wp2_with (first | (go_at_call 62; rw [← HWA.out]; refine (journal_Totals.calls 1 1 0 (some ⟨w.heap.size, 0, none⟩) 2 e2 5 5 0 _ (HA.out _ (Below.refl _ _)).2.2.2.2 (by decide) e2_totals).mono ?_; rintro e w1 ⟨rfl, hb1⟩; obtain ⟨e0, e1, e2', e3, _⟩ := HA.out w1 hb1; have HB1 := Aside0.mk hb1; clear hb1) | (go_at_call 63; refine (journal_Put.calls 12 1 1 0 (some ⟨w.heap.size, 0, none⟩) 2 e2 _ 0 _ (HA.out _ HB1.out).2.2.2.2 (by decide) e2_put).mono ?_; rintro e w2 ⟨rfl, hb2⟩; have HB2 := Aside0.mk (below_then HB1.out HB1.out.size hb2); clear hb2) | (go_at_call 51; go_loud (refine (journal_Tidy.calls (some ⟨w2.heap.size + 1 + 1, 0, none⟩) 3 t3 o1 0 _ (C_lines t3 _ _ _ (third_new w2 _ _ _) rfl (by decide)) (by decide) t3_tidy).mono ?_); rintro e w3 ⟨v0, rfl, hR3, hb3⟩; obtain ⟨A3, c3, rfl, hc3, hC3⟩ := Kd.R_reads hR3; have HR3 := Aside0.mk hC3; have HB3 := Aside0.mk hb3; clear hR3 hC3 hb3))
  obtain ⟨wb, hwb⟩ : ∃ wb, wb = ((w2.alloc (.cells #[.int .i64 1100, .int .u64 0, .int .u64 0, .int .i64 5, .int .i64 1200, .int .u64 0, .int .u64 0, .int .i64 (-4)] 113)).alloc (.cells #[.int .i64 1, .int .u8 1, .int .u64 0, .slice (some ⟨w2.heap.size, 0, none⟩) 2 2] 32)).alloc (.cells #[.int .i64 1200, .int .u64 0, .int .u64 0, .int .i64 2, .int .i64 1100, .int .u64 0, .int .u64 0, .int .i64 3, .int .i64 1200, .int .u64 0, .int .u64 0, .int .i64 (-2)] 113) := ⟨_, rfl⟩
  have HWB := Aside0.mk hwb
  have HB3' : Aside0 (Below wb.heap.size wb w3) := ⟨by rw [hwb]; exact HB3.out⟩
  have HB23 : Aside0 (Below w2.heap.size w2 w3) := ⟨below_then (below_alloc (below_alloc (below_alloc (Below.refl _ _) _) _) _) (by simp; omega) HB3.out⟩
  have HB13 : Aside0 (Below wa.heap.size wa w3) := ⟨below_then HB2.out HB2.out.size HB23.out⟩
  have HS : Aside0 (∀ W, Below w3.heap.size w3 W → W.cell? ⟨w.heap.size + 1, 0, none⟩ = some (.int .i64 1) ∧ W.cell? ⟨w.heap.size + 1, 1, none⟩ = some (.int .u8 1) ∧ W.cell? ⟨w.heap.size + 1, 2, none⟩ = some (.int .u64 0) ∧ W.cell? ⟨w.heap.size + 1, 3, none⟩ = some (.slice (some ⟨w.heap.size, 0, none⟩) 2 2) ∧ W.cell? ⟨w2.heap.size + 1, 0, none⟩ = some (.int .i64 1) ∧ W.cell? ⟨w2.heap.size + 1, 1, none⟩ = some (.int .u8 1) ∧ W.cell? ⟨w2.heap.size + 1, 2, none⟩ = some (.int .u64 0) ∧ W.cell? ⟨w2.heap.size + 1, 3, none⟩ = some (.slice (some ⟨w2.heap.size, 0, none⟩) 2 2) ∧ Below w3.heap.size w3 W) := ⟨fun W hW => by
    have hk : wb.heap[w2.heap.size + 1]? = some (.cells #[.int .i64 1, .int .u8 1, .int .u64 0, .slice (some ⟨w2.heap.size, 0, none⟩) 2 2] 32) := by rw [hwb]; exact (Below.heap_alloc _ _ _ (by simp)).trans (second_new w2 _ _)
    have ha := HA.out W (below_then HB13.out HB13.out.size hW)
    have hb (k : Nat) {v : Value} (hv : (#[.int .i64 1, .int .u8 1, .int .u64 0, .slice (some ⟨w2.heap.size, 0, none⟩) 2 2] : Array Value)[k]? = some v) : W.cell? ⟨w2.heap.size + 1, k, none⟩ = some v := pw_cell_below hW (pw_cell_below HB3'.out ((blk_cell hk k).trans hv))
    exact ⟨ha.1, ha.2.1, ha.2.2.1, ha.2.2.2.1, hb 0 rfl, hb 1 rfl, hb 2 rfl, hb 3 rfl, hW⟩⟩
  have HC : Aside0 ((∀ W, Below w3.heap.size w3 W → Kd.C k113 W (some ⟨w.heap.size, 0, none⟩) e2.length e2) ∧ (∀ W, Below w3.heap.size w3 W → Kd.C k113 W (some ⟨w2.heap.size, 0, none⟩) b2.length b2) ∧ (∀ W, Below w3.heap.size w3 W → Kd.C k113 W A3 o1.length o1)) := ⟨⟨fun W hW => (HA.out W (below_then HB13.out HB13.out.size hW)).2.2.2.2, fun W hW => by
    have hk : wb.heap[w2.heap.size]? = some (.cells #[.int .i64 1100, .int .u64 0, .int .u64 0, .int .i64 5, .int .i64 1200, .int .u64 0, .int .u64 0, .int .i64 (-4)] 113) := by rw [hwb]; exact (Below.heap_alloc _ _ _ (by simp; omega)).trans (first_new w2 _ _ _ _)
    exact Kd.C_below (Kd.C_below (C_lines b2 wb w2.heap.size _ hk rfl (by decide)) HB3'.out) hW, fun W hW => Kd.C_below HR3.out hW⟩⟩
  have HT : Aside0 (∀ W W' : World, Below w3.heap.size w3 W → Below W.heap.size W W' → Below w3.heap.size w3 W') := ⟨fun W W' h1 h2 => below_then h1 h1.size h2⟩
  have HK1 : Aside0 (∀ W, Below w3.heap.size w3 W → Calls Try.prog 17 #[.agg #[.int .i64 1, .int .u8 1, .int .u64 0, .slice (some ⟨w.heap.size, 0, none⟩) 2 2]] W fun e w' => e = .returned (.int .i64 0) ∧ Below W.heap.size W w') := ⟨fun W hW => journal_Check.calls 1 1 0 (some ⟨w.heap.size, 0, none⟩) 2 e2 0 W (HC.out.1 W hW) (by decide) e2_check⟩
  have HK2 : Aside0 (∀ W, Below w3.heap.size w3 W → Calls Try.prog 17 #[.agg #[.int .i64 1, .int .u8 1, .int .u64 0, .slice (some ⟨w2.heap.size, 0, none⟩) 2 2]] W fun e w' => e = .returned (.int .i64 200) ∧ Below W.heap.size W w') := ⟨fun W hW => journal_Check.calls 1 1 0 (some ⟨w2.heap.size, 0, none⟩) 2 b2 200 W (HC.out.2.1 W hW) (by decide) b2_check⟩
  have HK3 : Aside0 (∀ W, Below w3.heap.size w3 W → Calls Try.prog 53 #[.slice A3 o1.length c3, .slice (some ⟨W.heap.size, 0, none⟩) 1 1] (W.alloc (.cells #[.int .i64 1100, .int .u64 0, .int .u64 0, .int .i64 3] 113)) fun e w' => e = .returned (.bool true) ∧ Below (W.alloc (.cells #[.int .i64 1100, .int .u64 0, .int .u64 0, .int .i64 3] 113)).heap.size (W.alloc (.cells #[.int .i64 1100, .int .u64 0, .int .u64 0, .int .i64 3] 113)) w') := ⟨fun W hW => Calls.mono (quittanceref20_SameLines.calls 12 A3 c3 o1 (some ⟨W.heap.size, 0, none⟩) 1 o1 true _ (HC.out.2.2 _ (below_alloc hW _)) hc3 (C_lines o1 _ _ _ (World.alloc_heap_new W _) rfl (by decide)) (by decide) o1_same) (by rintro e w' ⟨rfl, ⟨⟨n, rfl⟩⟩⟩; exact ⟨rfl, pw_below_drewN (Below.refl _ _) n⟩)⟩
  have HK5 : Aside0 (∀ W cb mb, ChartAt W cb mb std → Below w3.heap.size w3 W → Calls Try.prog 57 #[.pointer (some ⟨cb, 0, none⟩), .agg #[.int .i64 1, .int .u8 1, .int .u64 0, .slice (some ⟨w.heap.size, 0, none⟩) 2 2]] W fun e w' => e = .returned (.int .i64 0) ∧ Below W.heap.size W w') := ⟨fun W cb mb hc hW => journal_On.fine W cb mb std hc (by decide) 1 1 0 (some ⟨w.heap.size, 0, none⟩) 2 e2 (HC.out.1 W hW) (by decide) e2_ok e2_checkR e2_post⟩
  have HK6 : Aside0 (∀ W, Calls Try.prog 57 #[.pointer none, .agg #[.int .i64 1, .int .u8 1, .int .u64 0, .slice (some ⟨w.heap.size, 0, none⟩) 2 2]] W fun e w' => e = .returned (.int .i64 1) ∧ Below W.heap.size W w') := ⟨fun W => journal_On.nils W 1 1 0 _ 2 2⟩
  have HW3 : Aside0 (∀ W, Below w3.heap.size w3 W → Below w.heap.size w W) := ⟨fun W hW => by
    have h0 : Below w.heap.size w wa := by rw [HWA.out]; exact below_alloc (below_alloc (Below.refl _ _) _) _
    have h1 := below_then h0 h0.size HB13.out
    exact below_then h1 h1.size hW⟩
  clear hwb
  obtain ⟨f0, f1, f2, f3, f4, f5, f6, f7, f8⟩ := HS.out w3 (Below.refl _ _)
  go_region_held3 (fun W => W.cell? ⟨w.heap.size + 1, 0, none⟩ = some (.int .i64 1) ∧ W.cell? ⟨w.heap.size + 1, 1, none⟩ = some (.int .u8 1) ∧ W.cell? ⟨w.heap.size + 1, 2, none⟩ = some (.int .u64 0) ∧ W.cell? ⟨w.heap.size + 1, 3, none⟩ = some (.slice (some ⟨w.heap.size, 0, none⟩) 2 2) ∧ W.cell? ⟨w2.heap.size + 1, 0, none⟩ = some (.int .i64 1) ∧ W.cell? ⟨w2.heap.size + 1, 1, none⟩ = some (.int .u8 1) ∧ W.cell? ⟨w2.heap.size + 1, 2, none⟩ = some (.int .u64 0) ∧ W.cell? ⟨w2.heap.size + 1, 3, none⟩ = some (.slice (some ⟨w2.heap.size, 0, none⟩) 2 2) ∧ Below w3.heap.size w3 W)
    (first | (go_split_ands; exact HS.out _ (by repeat (first | assumption | exact Below.refl _ _ | apply below_drew | apply below_alloc))))
    (first | (go_at_call 17; (with_reducible first | refine (HK1.out _ ?hb).mono ?_ | refine (HK2.out _ ?hb).mono ?_); (case hb => exact (by repeat (first | assumption | exact Below.refl _ _ | apply below_drew | apply below_alloc))); rintro e wx ⟨rfl, hbx⟩; have hqx := HT.out _ _ (by repeat (first | assumption | exact Below.refl _ _ | apply below_drew | apply below_alloc)) hbx; clear hbx) | (go_at_call 53; with_reducible refine (HK3.out _ ?hb).mono ?_; (case hb => exact (by repeat (first | assumption | exact Below.refl _ _ | apply below_drew | apply below_alloc))); rintro e wx ⟨rfl, hbx⟩; have hqx := HT.out _ _ (by repeat (first | assumption | exact Below.refl _ _ | apply below_drew | apply below_alloc)) hbx; clear hbx) | (go_at_call 56; refine (standard_none _).mono ?_; rintro e wx ⟨cb, mb, rfl, hcx, hbx⟩; have HCX := Aside0.mk hcx; have hqx := HT.out _ _ (by repeat (first | assumption | exact Below.refl _ _ | apply below_drew | apply below_alloc)) hbx; clear hbx hcx) | (go_at_call 57; (with_reducible first | refine (HK6.out _).mono ?_ | refine (HK5.out _ _ _ HCX.out ?hb).mono ?_); (try case hb => exact (by repeat (first | assumption | exact Below.refl _ _ | apply below_drew | apply below_alloc))); rintro e wx ⟨rfl, hbx⟩; have hqx := HT.out _ _ (by repeat (first | assumption | exact Below.refl _ _ | apply below_drew | apply below_alloc)) hbx; clear hbx))
  all_goals
    (go_wp2
     go_ret
     exact ⟨rfl, HW3.out _ (by repeat (first | assumption | apply below_drew | apply below_alloc))⟩)
end Go.Proofs.Ytaoejonkiikhmaa.G

/- journal.Tidy's contract and the known answers, as equations. -/
namespace Go.Proofs.Ytaoejonkiikhmaa.G
open Go.RowKit Go.Proofs.YtaoejonkiikhmaaW.PrintWords Go.Proofs.YtaoejonkiikhmaaW.PrintLast Go.Proofs.YtaoejonkiikhmaaW.PrintMore
set_option linter.unusedVariables false
set_option linter.unusedSimpArgs false

theorem tidy_f {l : List Line} (hok : l.all okL = true) (hl : l.length ≤ 1000000) : journal_Tidy.f l = some (tidyR l) := by
  unfold journal_Tidy.f
  rw [if_pos ⟨hok, by omega⟩]
theorem head20_f : quittancelaw20_head.f = some true := rfl
end Go.Proofs.Ytaoejonkiikhmaa.G

-- Text by a program of this session (gprint.py), over the kit's print.
namespace Go.Proofs.Ytaoejonkiikhmaa.G
open Go.RowKit Go.Proofs.YtaoejonkiikhmaaW.PrintWords Go.Proofs.YtaoejonkiikhmaaW.PrintLast Go.Proofs.YtaoejonkiikhmaaW.PrintMore
attribute [local go_sem] max2_int min2_int max_two min_two max_three min_three max_four min_four   -- for this text's walks alone
set_option linter.unusedVariables false
set_option linter.unusedSimpArgs false

/-! ### quittancelaw20_JournalOrder: function 11 -/
mutual
def quittancelaw20_JournalOrder.j0 : Nat → List (S113) → List (S113) → Int → Option (Bool)
  | 0, _, _, _ => none
  | k + 1, x0, x5, x7 => (some (([] : List (S113)) : List (S113))).bind fun y1288 => (if 0 ≤ x7 then (if x7 ≤ (x0.length : Int) then ((some (x0.drop (x7 : Int).toNat : List (S113))).bind fun y1291 => (if y1288.length + y1291.length < 4398046511104 then ((some (y1288 ++ y1291 : List (S113))).bind fun y1295 => ((some (x0.take (x7 : Int).toNat : List (S113))).bind fun y1298 => (if y1295.length + y1298.length < 4398046511104 then ((journal_Tidy.f (y1295 ++ y1298)).bind fun bt1305 => ((journal_Tidy.f x5).bind fun bt1309 => (if bt1305.2 = 0 then (if bt1309.2 = 0 then ((quittanceref20_SameLines.f k x5 bt1305.1).bind fun t1313 => (if t1313 = true then ((quittanceref20_SameLines.f k x5 bt1309.1).bind fun t1314 => (quittancelaw20_JournalOrder.j1 k x0 x5 (!t1314))) else (quittancelaw20_JournalOrder.j1 k x0 x5 true))) else (quittancelaw20_JournalOrder.j1 k x0 x5 true)) else (quittancelaw20_JournalOrder.j1 k x0 x5 true)))) else (none)))) else (none))) else (none)) else (none))
def quittancelaw20_JournalOrder.j1 : Nat → List (S113) → List (S113) → Bool → Option (Bool)
  | 0, _, _, _ => none
  | k + 1, x0, x5, x89 => if x89 = true then (some false) else (quittancelaw20_JournalOrder.l0 k x0 x5 1)
def quittancelaw20_JournalOrder.l0 : Nat → List (S113) → List (S113) → Int → Option (Bool)
  | 0, _, _, _ => none
  | k + 1, x0, x5, x12 => if x12 < (x5.length : Int) then (if 0 ≤ (wrap64 (x12 - 1)) then (if (wrap64 (x12 - 1)) < (x5.length : Int) then (if 0 ≤ x12 then ((quittanceref20_Less.f ((rd_T113 x5 (wrap64 (x12 - 1))).f0) ((rd_T113 x5 (wrap64 (x12 - 1))).f1) ((rd_T113 x5 (wrap64 (x12 - 1))).f2) ((rd_T113 x5 (wrap64 (x12 - 1))).f3) ((rd_T113 x5 x12).f0) ((rd_T113 x5 x12).f1) ((rd_T113 x5 x12).f2) ((rd_T113 x5 x12).f3)).bind fun t1317 => (if t1317 = true then (quittancelaw20_JournalOrder.l0 k x0 x5 (wrap64 (x12 + 1))) else (some false))) else (none)) else (none)) else (none)) else (quittancelaw20_JournalOrder.l1 k x0 x5 0)
def quittancelaw20_JournalOrder.l1 : Nat → List (S113) → List (S113) → Int → Option (Bool)
  | 0, _, _, _ => none
  | k + 1, x0, x5, x13 => if x13 < (x0.length : Int) then (if 0 ≤ x13 then ((quittancelaw20_of.f k x0 ((rd_T113 x0 x13).f0) ((rd_T113 x0 x13).f1) ((rd_T113 x0 x13).f2) ((rd_T113 x0 x13).f3)).bind fun bt1319 => ((quittancelaw20_of.f k x5 ((rd_T113 x0 x13).f0) ((rd_T113 x0 x13).f1) ((rd_T113 x0 x13).f2) ((rd_T113 x0 x13).f3)).bind fun bt1322 => (if bt1319.2 = true then (if bt1322.2 = true then (quittancelaw20_JournalOrder.j4 k x0 x5 x13 (bt1319.1 != bt1322.1)) else (quittancelaw20_JournalOrder.j4 k x0 x5 x13 true)) else (quittancelaw20_JournalOrder.j4 k x0 x5 x13 true)))) else (none)) else ((quittancelaw20_head.f).bind fun t1324 => (some t1324))
def quittancelaw20_JournalOrder.j4 : Nat → List (S113) → List (S113) → Int → Bool → Option (Bool)
  | 0, _, _, _, _ => none
  | k + 1, x0, x5, x13, x141 => if x141 = true then (some false) else (quittancelaw20_JournalOrder.l1 k x0 x5 (wrap64 (x13 + 1)))
end
def quittancelaw20_JournalOrder.f (k : Nat) (l0 : List (S113)) (a1 : Int) : Option (Bool) := if (l0.length : Int) > 60 then ((quittancelaw20_head.f).bind fun t1281 => (some t1281)) else ((journal_Tidy.f l0).bind fun bt1282 => (if bt1282.2 = 0 then (if (l0.length : Int) = 0 then (if (bt1282.1.length : Int) = 0 then ((quittancelaw20_head.f).bind fun t1287 => (some t1287)) else (some false)) else (if (Int.tmod a1 (l0.length : Int)) < 0 then (quittancelaw20_JournalOrder.j0 k l0 bt1282.1 (wrap64 ((Int.tmod a1 (l0.length : Int)) + (l0.length : Int)))) else (quittancelaw20_JournalOrder.j0 k l0 bt1282.1 (Int.tmod a1 (l0.length : Int))))) else (if (bt1282.1.length : Int) = 0 then ((quittancelaw20_head.f).bind fun t1286 => (some t1286)) else (some false))))
theorem quittancelaw20_JournalOrder.mono_l : ∀ k, (∀ y0 y1 y2, LeO (quittancelaw20_JournalOrder.j0 k y0 y1 y2) (quittancelaw20_JournalOrder.j0 (k + 1) y0 y1 y2)) ∧ (∀ y0 y1 y2, LeO (quittancelaw20_JournalOrder.j1 k y0 y1 y2) (quittancelaw20_JournalOrder.j1 (k + 1) y0 y1 y2)) ∧ (∀ y0 y1 y2, LeO (quittancelaw20_JournalOrder.l0 k y0 y1 y2) (quittancelaw20_JournalOrder.l0 (k + 1) y0 y1 y2)) ∧ (∀ y0 y1 y2, LeO (quittancelaw20_JournalOrder.l1 k y0 y1 y2) (quittancelaw20_JournalOrder.l1 (k + 1) y0 y1 y2)) ∧ (∀ y0 y1 y2 y3, LeO (quittancelaw20_JournalOrder.j4 k y0 y1 y2 y3) (quittancelaw20_JournalOrder.j4 (k + 1) y0 y1 y2 y3))
  | 0 => ⟨fun _ _ _ r h => by simp [quittancelaw20_JournalOrder.j0] at h, fun _ _ _ r h => by simp [quittancelaw20_JournalOrder.j1] at h, fun _ _ _ r h => by simp [quittancelaw20_JournalOrder.l0] at h, fun _ _ _ r h => by simp [quittancelaw20_JournalOrder.l1] at h, fun _ _ _ _ r h => by simp [quittancelaw20_JournalOrder.j4] at h⟩
  | k + 1 => by
    obtain ⟨ih0, ih1, ih2, ih3, ih4⟩ := quittancelaw20_JournalOrder.mono_l k
    refine ⟨?_, ?_, ?_, ?_, ?_⟩
    · intro y0 y1 y2
      unfold quittancelaw20_JournalOrder.j0
      repeat' first
      | (with_reducible exact ih0 _ _ _)
      | (with_reducible exact ih1 _ _ _)
      | (with_reducible exact ih2 _ _ _)
      | (with_reducible exact ih3 _ _ _)
      | (with_reducible exact ih4 _ _ _ _)
      | (with_reducible exact quittancelaw20_of.mono _ _ _ _ _ _)
      | (with_reducible exact quittanceref20_SameLines.mono _ _ _)
      | (with_reducible exact LeO.refl _)
      | (with_reducible exact LeO.none _)
      | (with_reducible refine LeO.ite ?_ ?_)
      | (with_reducible refine LeO.bind ?_ (fun _ => ?_))
      | exact ih0 _ _ _
      | exact ih1 _ _ _
      | exact ih2 _ _ _
      | exact ih3 _ _ _
      | exact ih4 _ _ _ _
      | exact quittancelaw20_of.mono _ _ _ _ _ _
      | exact quittanceref20_SameLines.mono _ _ _
      | exact LeO.none _
      | refine LeO.ite ?_ ?_
      | refine LeO.bind ?_ (fun _ => ?_)
    · intro y0 y1 y2
      unfold quittancelaw20_JournalOrder.j1
      repeat' first
      | (with_reducible exact ih0 _ _ _)
      | (with_reducible exact ih1 _ _ _)
      | (with_reducible exact ih2 _ _ _)
      | (with_reducible exact ih3 _ _ _)
      | (with_reducible exact ih4 _ _ _ _)
      | (with_reducible exact quittancelaw20_of.mono _ _ _ _ _ _)
      | (with_reducible exact quittanceref20_SameLines.mono _ _ _)
      | (with_reducible exact LeO.refl _)
      | (with_reducible exact LeO.none _)
      | (with_reducible refine LeO.ite ?_ ?_)
      | (with_reducible refine LeO.bind ?_ (fun _ => ?_))
      | exact ih0 _ _ _
      | exact ih1 _ _ _
      | exact ih2 _ _ _
      | exact ih3 _ _ _
      | exact ih4 _ _ _ _
      | exact quittancelaw20_of.mono _ _ _ _ _ _
      | exact quittanceref20_SameLines.mono _ _ _
      | exact LeO.none _
      | refine LeO.ite ?_ ?_
      | refine LeO.bind ?_ (fun _ => ?_)
    · intro y0 y1 y2
      unfold quittancelaw20_JournalOrder.l0
      repeat' first
      | (with_reducible exact ih0 _ _ _)
      | (with_reducible exact ih1 _ _ _)
      | (with_reducible exact ih2 _ _ _)
      | (with_reducible exact ih3 _ _ _)
      | (with_reducible exact ih4 _ _ _ _)
      | (with_reducible exact quittancelaw20_of.mono _ _ _ _ _ _)
      | (with_reducible exact quittanceref20_SameLines.mono _ _ _)
      | (with_reducible exact LeO.refl _)
      | (with_reducible exact LeO.none _)
      | (with_reducible refine LeO.ite ?_ ?_)
      | (with_reducible refine LeO.bind ?_ (fun _ => ?_))
      | exact ih0 _ _ _
      | exact ih1 _ _ _
      | exact ih2 _ _ _
      | exact ih3 _ _ _
      | exact ih4 _ _ _ _
      | exact quittancelaw20_of.mono _ _ _ _ _ _
      | exact quittanceref20_SameLines.mono _ _ _
      | exact LeO.none _
      | refine LeO.ite ?_ ?_
      | refine LeO.bind ?_ (fun _ => ?_)
    · intro y0 y1 y2
      unfold quittancelaw20_JournalOrder.l1
      repeat' first
      | (with_reducible exact ih0 _ _ _)
      | (with_reducible exact ih1 _ _ _)
      | (with_reducible exact ih2 _ _ _)
      | (with_reducible exact ih3 _ _ _)
      | (with_reducible exact ih4 _ _ _ _)
      | (with_reducible exact quittancelaw20_of.mono _ _ _ _ _ _)
      | (with_reducible exact quittanceref20_SameLines.mono _ _ _)
      | (with_reducible exact LeO.refl _)
      | (with_reducible exact LeO.none _)
      | (with_reducible refine LeO.ite ?_ ?_)
      | (with_reducible refine LeO.bind ?_ (fun _ => ?_))
      | exact ih0 _ _ _
      | exact ih1 _ _ _
      | exact ih2 _ _ _
      | exact ih3 _ _ _
      | exact ih4 _ _ _ _
      | exact quittancelaw20_of.mono _ _ _ _ _ _
      | exact quittanceref20_SameLines.mono _ _ _
      | exact LeO.none _
      | refine LeO.ite ?_ ?_
      | refine LeO.bind ?_ (fun _ => ?_)
    · intro y0 y1 y2 y3
      unfold quittancelaw20_JournalOrder.j4
      repeat' first
      | (with_reducible exact ih0 _ _ _)
      | (with_reducible exact ih1 _ _ _)
      | (with_reducible exact ih2 _ _ _)
      | (with_reducible exact ih3 _ _ _)
      | (with_reducible exact ih4 _ _ _ _)
      | (with_reducible exact quittancelaw20_of.mono _ _ _ _ _ _)
      | (with_reducible exact quittanceref20_SameLines.mono _ _ _)
      | (with_reducible exact LeO.refl _)
      | (with_reducible exact LeO.none _)
      | (with_reducible refine LeO.ite ?_ ?_)
      | (with_reducible refine LeO.bind ?_ (fun _ => ?_))
      | exact ih0 _ _ _
      | exact ih1 _ _ _
      | exact ih2 _ _ _
      | exact ih3 _ _ _
      | exact ih4 _ _ _ _
      | exact quittancelaw20_of.mono _ _ _ _ _ _
      | exact quittanceref20_SameLines.mono _ _ _
      | exact LeO.none _
      | refine LeO.ite ?_ ?_
      | refine LeO.bind ?_ (fun _ => ?_)
theorem quittancelaw20_JournalOrder.mono : ∀ a0 a1 k, LeO (quittancelaw20_JournalOrder.f k a0 a1) (quittancelaw20_JournalOrder.f (k + 1) a0 a1) := by
  intro a0 a1 k
  obtain ⟨ih0, ih1, ih2, ih3, ih4⟩ := quittancelaw20_JournalOrder.mono_l k
  unfold quittancelaw20_JournalOrder.f
  repeat' first
      | (with_reducible exact ih0 _ _ _)
      | (with_reducible exact ih1 _ _ _)
      | (with_reducible exact ih2 _ _ _)
      | (with_reducible exact ih3 _ _ _)
      | (with_reducible exact ih4 _ _ _ _)
      | (with_reducible exact quittancelaw20_of.mono _ _ _ _ _ _)
      | (with_reducible exact quittanceref20_SameLines.mono _ _ _)
      | (with_reducible exact LeO.refl _)
      | (with_reducible exact LeO.none _)
      | (with_reducible refine LeO.ite ?_ ?_)
      | (with_reducible refine LeO.bind ?_ (fun _ => ?_))
      | exact ih0 _ _ _
      | exact ih1 _ _ _
      | exact ih2 _ _ _
      | exact ih3 _ _ _
      | exact ih4 _ _ _ _
      | exact quittancelaw20_of.mono _ _ _ _ _ _
      | exact quittanceref20_SameLines.mono _ _ _
      | exact LeO.none _
      | refine LeO.ite ?_ ?_
      | refine LeO.bind ?_ (fun _ => ?_)
def quittancelaw20_JournalOrder.T11 : Bool × List (List Nat × List Nat) := (true, [([], []), ([], []), ([], []), ([1, 2], [1, 2]), ([0, 3], [0, 3]), ([], []), ([], []), ([5, 6], [5, 6]), ([4, 7, 4], [4, 7]), ([8, 8], [8]), ([9], [9]), ([10], [10]), ([10], [10]), ([11, 9, 0, 1, 2, 3, 4, 5, 6, 7, 8, 9, 10, 11], [11]), ([12, 13, 0, 1, 2, 3, 4, 5, 6, 7, 8, 9, 10, 11, 12, 13], [12])])
def quittancelaw20_JournalOrder.B11 : List Nat := [0, 0, 0, 6, 15, 0, 0, 96, 255, 511, 1023, 2047, 2047, 4095, 16383]
theorem quittancelaw20_JournalOrder.tab11 : rtab .any (opsOf Try.f11 11) = quittancelaw20_JournalOrder.T11 := by kernel_rfl
theorem quittancelaw20_JournalOrder.bits11 : waitsOk quittancelaw20_JournalOrder.T11.2 quittancelaw20_JournalOrder.B11 = true := by kernel_rfl
def quittancelaw20_JournalOrder.T18 : Bool × List (List Nat × List Nat) := (true, [([], []), ([], []), ([1], [1]), ([0, 2], [0, 2]), ([3], [3]), ([], []), ([], []), ([5, 6], [5, 6]), ([7], [7]), ([4, 8], [4, 8]), ([9], [9])])
def quittancelaw20_JournalOrder.B18 : List Nat := [0, 0, 2, 7, 15, 0, 0, 96, 224, 511, 1023]
theorem quittancelaw20_JournalOrder.tab18 : rtab .any (opsOf Try.f11 18) = quittancelaw20_JournalOrder.T18 := by kernel_rfl
theorem quittancelaw20_JournalOrder.bits18 : waitsOk quittancelaw20_JournalOrder.T18.2 quittancelaw20_JournalOrder.B18 = true := by kernel_rfl
set_option maxHeartbeats 8000000 in
set_option maxRecDepth 100000 in
theorem quittancelaw20_JournalOrder.calls (k : Nat) (A0 : Option Addr) (c0 : Nat) (l0 : List (S113)) (a1 : Int) (r : Bool) (w : World) (hr0 : Kd.C k113 w A0 l0.length l0) (hc0 : l0.length ≤ c0) (h : quittancelaw20_JournalOrder.f k l0 a1 = some r) :
    Calls Try.prog 11 #[.slice A0 l0.length c0, .int .i64 a1] w fun e w' => e = .returned (.bool r) ∧ Below w.heap.size w w' := by
  have hu113 := Try.underlying113
  have HR0 := Aside0.mk hr0
  have HC0 := Aside0.mk hc0
  clear hr0 hc0
  have HB := Aside0.mk (Below.refl w.heap.size w)
  have H : (if (l0.length : Int) > 60 then ((quittancelaw20_head.f).bind fun t1281 => (some t1281)) else ((journal_Tidy.f l0).bind fun bt1282 => (if bt1282.2 = 0 then (if (l0.length : Int) = 0 then (if (bt1282.1.length : Int) = 0 then ((quittancelaw20_head.f).bind fun t1287 => (some t1287)) else (some false)) else (if (Int.tmod a1 (l0.length : Int)) < 0 then (quittancelaw20_JournalOrder.j0 k l0 bt1282.1 (wrap64 ((Int.tmod a1 (l0.length : Int)) + (l0.length : Int)))) else (quittancelaw20_JournalOrder.j0 k l0 bt1282.1 (Int.tmod a1 (l0.length : Int))))) else (if (bt1282.1.length : Int) = 0 then ((quittancelaw20_head.f).bind fun t1286 => (some t1286)) else (some false))))) = some r := h
  clear h
  by_cases c3 : (l0.length : Int) > 60
  · rw [if_pos c3] at H
    have c3b0 : decide (60 < (l0.length : Int)) = true := decide_eq_true c3
    have c3b1 : decide (60 < l0.length) = true := decide_eq_true (by omega)
    clear c3
    replace H := Option.bind_eq_some_iff.mp H
    obtain ⟨t1281, A40, H⟩ := H
    replace H : (some t1281) = some r := H
    have A4 := Aside0.mk A40
    clear A40
    obtain rfl := Option.some.inj H
    go_enter Try.func11, Try.ntmps11
    go_wp2_with (first | ((with_reducible refine gate_callee (f := 50) rfl ?_); refine goesL_ (some 21) rfl rfl Try.func50 (by kernel_rfl) rfl #[] rfl (by (try simp only [List.map_toArray, List.map_cons, List.map_nil]); first | done | rfl | (simp only [List.length_drop, List.length_take]; rfl)) ?_; (with_reducible refine (quittancelaw20_head.calls  t1281 _ A4.out).mono ?_); rintro e w5 ⟨rfl, hb⟩; refine ⟨_, rfl, ?_⟩; have n0_ := Aside0.mk (below_step (by repeat (first | (with_reducible first | exact HB.out | apply below_alloc | apply pw_below_drewN | apply below_drew1) | exact HB.out)) hb); clear HB; have HB := n0_; clear n0_; (try clear hb); (try clear hb2); (try clear hk); (try clear hi)))
    go_ret
    exact ⟨by first | rfl | (simp [errW_none, errW_some] <;> rfl) | (simp [*, errW_none, errW_some] <;> rfl), by repeat (first | (with_reducible first | exact HB.out | apply below_alloc | apply pw_below_drewN | apply below_drew1) | exact HB.out)⟩
  · rw [if_neg c3] at H
    have c3b0 : decide (60 < (l0.length : Int)) = false := decide_eq_false c3
    have c3b1 : decide (60 < l0.length) = false := decide_eq_false (by omega)
    clear c3
    replace H := Option.bind_eq_some_iff.mp H
    obtain ⟨⟨t1282, t1283⟩, A60, H⟩ := H
    replace H : (if t1283 = 0 then (if (l0.length : Int) = 0 then (if (t1282.length : Int) = 0 then ((quittancelaw20_head.f).bind fun t1287 => (some t1287)) else (some false)) else (if (Int.tmod a1 (l0.length : Int)) < 0 then (quittancelaw20_JournalOrder.j0 k l0 t1282 (wrap64 ((Int.tmod a1 (l0.length : Int)) + (l0.length : Int)))) else (quittancelaw20_JournalOrder.j0 k l0 t1282 (Int.tmod a1 (l0.length : Int))))) else (if (t1282.length : Int) = 0 then ((quittancelaw20_head.f).bind fun t1286 => (some t1286)) else (some false))) = some r := H
    have A6 := Aside0.mk A60
    clear A60
    by_cases c7 : t1283 = 0
    · rw [if_pos c7] at H
      have c7b0 : (t1283 == 0) = true := beq_iff_eq.mpr c7
      have c7b1 : (t1283 != 0) = false := bne_eq_false_iff_eq.mpr c7
      clear c7
      by_cases c8 : (l0.length : Int) = 0
      · rw [if_pos c8] at H
        have c8b0 : ((l0.length : Int) == 0) = true := beq_iff_eq.mpr c8
        have c8b1 : ((l0.length : Int) != 0) = false := bne_eq_false_iff_eq.mpr c8
        clear c8
        by_cases c9 : (t1282.length : Int) = 0
        · rw [if_pos c9] at H
          have c9b0 : ((t1282.length : Int) == 0) = true := beq_iff_eq.mpr c9
          have c9b1 : ((t1282.length : Int) != 0) = false := bne_eq_false_iff_eq.mpr c9
          clear c9
          replace H := Option.bind_eq_some_iff.mp H
          obtain ⟨t1287, A100, H⟩ := H
          replace H : (some t1287) = some r := H
          have A10 := Aside0.mk A100
          clear A100
          obtain rfl := Option.some.inj H
          go_enter Try.func11, Try.ntmps11
          go_wp2_with (first | ((with_reducible refine gate_callee (f := 51) rfl ?_); refine goesL_ (some 24) rfl rfl Try.func51 (by kernel_rfl) rfl #[.slice A0 l0.length c0] rfl (by (try simp only [List.map_toArray, List.map_cons, List.map_nil]); first | done | rfl | (simp only [List.length_drop, List.length_take]; rfl)) ?_; (with_reducible refine (journal_Tidy.calls _ _ l0 t1282 t1283 _ ?side1 ?side2 A6.out).mono ?_); (case side1 => repeat (first | exact HR0.out | (with_reducible refine Kd.C_alloc ?_ _) | (with_reducible refine Kd.C_drewN ?_ _) | (with_reducible refine Kd.C_drew ?_))); (case side2 => exact HC0.out); rintro e w11 ⟨v1284, rfl, ho0, hb⟩; refine ⟨_, rfl, ?_⟩; have n0_ := Aside0.mk (Kd.R_lower ho0 (below_size (by repeat (first | (with_reducible first | exact HB.out | apply below_alloc | apply pw_below_drewN | apply below_drew1) | exact HB.out)))); have n1_ := Aside0.mk (below_step (by repeat (first | (with_reducible first | exact HB.out | apply below_alloc | apply pw_below_drewN | apply below_drew1) | exact HB.out)) hb); clear HB; have HO1285 := n0_; have HB := n1_; clear n0_ n1_; (try clear hb); (try clear hb2); (try clear hk); (try clear hi); (try clear ho0); obtain ⟨Ao12, co12, eo12⟩ := Kd.R_slice HO1285.out; subst eo12) | (go_at_call 50; (with_reducible refine (quittancelaw20_head.calls  t1287 _ A10.out).mono ?_); rintro e w13 ⟨rfl, hb⟩; have n0_ := Aside0.mk (Kd.R_below (by (with_reducible repeat (first | apply Kd.R_alloc | apply Kd.R_drewN | apply Kd.R_drew)); exact HO1285.out) hb); have n1_ := Aside0.mk (below_step (by repeat (first | (with_reducible first | exact HB.out | apply below_alloc | apply pw_below_drewN | apply below_drew1) | exact HB.out)) hb); clear HO1285; clear HB; have HO1285 := n0_; have HB := n1_; clear n0_ n1_; (try clear hb); (try clear hb2); (try clear hk); (try clear hi)))
          go_ret
          exact ⟨by first | rfl | (simp [errW_none, errW_some] <;> rfl) | (simp [*, errW_none, errW_some] <;> rfl), by repeat (first | (with_reducible first | exact HB.out | apply below_alloc | apply pw_below_drewN | apply below_drew1) | exact HB.out)⟩
        · rw [if_neg c9] at H
          have c9b0 : ((t1282.length : Int) == 0) = false := beq_eq_false_iff_ne.mpr c9
          have c9b1 : ((t1282.length : Int) != 0) = true := bne_iff_ne.mpr c9
          have c9b2 : ¬ (t1282 = []) := fun h_ => c9 (by rw [h_]; rfl)
          obtain rfl := Option.some.inj H
          go_enter Try.func11, Try.ntmps11
          go_wp2_with (first | ((with_reducible refine gate_callee (f := 51) rfl ?_); refine goesL_ (some 24) rfl rfl Try.func51 (by kernel_rfl) rfl #[.slice A0 l0.length c0] rfl (by (try simp only [List.map_toArray, List.map_cons, List.map_nil]); first | done | rfl | (simp only [List.length_drop, List.length_take]; rfl)) ?_; (with_reducible refine (journal_Tidy.calls _ _ l0 t1282 t1283 _ ?side1 ?side2 A6.out).mono ?_); (case side1 => repeat (first | exact HR0.out | (with_reducible refine Kd.C_alloc ?_ _) | (with_reducible refine Kd.C_drewN ?_ _) | (with_reducible refine Kd.C_drew ?_))); (case side2 => exact HC0.out); rintro e w14 ⟨v1284, rfl, ho0, hb⟩; refine ⟨_, rfl, ?_⟩; have n0_ := Aside0.mk (Kd.R_lower ho0 (below_size (by repeat (first | (with_reducible first | exact HB.out | apply below_alloc | apply pw_below_drewN | apply below_drew1) | exact HB.out)))); have n1_ := Aside0.mk (below_step (by repeat (first | (with_reducible first | exact HB.out | apply below_alloc | apply pw_below_drewN | apply below_drew1) | exact HB.out)) hb); clear HB; have HO1285 := n0_; have HB := n1_; clear n0_ n1_; (try clear hb); (try clear hb2); (try clear hk); (try clear hi); (try clear ho0); obtain ⟨Ao15, co15, eo15⟩ := Kd.R_slice HO1285.out; subst eo15))
          go_ret
          exact ⟨by first | rfl | (simp [errW_none, errW_some] <;> rfl) | (simp [*, errW_none, errW_some] <;> rfl), by repeat (first | (with_reducible first | exact HB.out | apply below_alloc | apply pw_below_drewN | apply below_drew1) | exact HB.out)⟩
      · rw [if_neg c8] at H
        have c8b0 : ((l0.length : Int) == 0) = false := beq_eq_false_iff_ne.mpr c8
        have c8b1 : ((l0.length : Int) != 0) = true := bne_iff_ne.mpr c8
        have c8b2 : ¬ (l0 = []) := fun h_ => c8 (by rw [h_]; rfl)
        have HC16 := Aside0.mk H
        clear H
        go_enter Try.func11, Try.ntmps11
        go_upto_if 49 with (first | ((with_reducible refine gate_callee (f := 51) rfl ?_); refine goesL_ (some 24) rfl rfl Try.func51 (by kernel_rfl) rfl #[.slice A0 l0.length c0] rfl (by (try simp only [List.map_toArray, List.map_cons, List.map_nil]); first | done | rfl | (simp only [List.length_drop, List.length_take]; rfl)) ?_; (with_reducible refine (journal_Tidy.calls _ _ l0 t1282 t1283 _ ?side1 ?side2 A6.out).mono ?_); (case side1 => repeat (first | exact HR0.out | (with_reducible refine Kd.C_alloc ?_ _) | (with_reducible refine Kd.C_drewN ?_ _) | (with_reducible refine Kd.C_drew ?_))); (case side2 => exact HC0.out); rintro e w17 ⟨v1284, rfl, ho0, hb⟩; refine ⟨_, rfl, ?_⟩; have n0_ := Aside0.mk (Kd.R_lower ho0 (below_size (by repeat (first | (with_reducible first | exact HB.out | apply below_alloc | apply pw_below_drewN | apply below_drew1) | exact HB.out)))); have n1_ := Aside0.mk (below_step (by repeat (first | (with_reducible first | exact HB.out | apply below_alloc | apply pw_below_drewN | apply below_drew1) | exact HB.out)) hb); clear HB; have HO1285 := n0_; have HB := n1_; clear n0_ n1_; (try clear hb); (try clear hb2); (try clear hk); (try clear hi); (try clear ho0)))
        (try simp only [Act.put, List.setIfInBounds_toArray, List.set_cons_zero, List.set_cons_succ])
        go_cut [7] (fun v7 wc => ∃ (kq : Nat) (x7_15 : Int), v7 = .int .i64 x7_15 ∧ Aside0 (quittancelaw20_JournalOrder.j0 kq l0 t1282 x7_15 = some r) ∧ Aside0 (kq ≤ k) ∧ Aside0 (Kd.R k113 113 wc w.heap.size (fun _ => True) v1284 t1282) ∧ Aside0 (Below w.heap.size w wc))
        case first =>
          have H := HC16.out
          clear HC16
          by_cases c18 : (Int.tmod a1 (l0.length : Int)) < 0
          · rw [if_pos c18] at H
            have c18b0 : decide ((Int.tmod a1 (l0.length : Int)) < 0) = true := decide_eq_true c18
            clear c18
            (first | rw [c18b0] | (simp only [i64_w, i32_w]; rw [c18b0]) | skip)
            have H' := Aside0.mk H
            clear H
            go_wp2
            go_meet
            case rel => exact ⟨_, (wrap64 ((Int.tmod a1 (l0.length : Int)) + (l0.length : Int))), (by first | rfl | (simp; done) | (simp [*]; done)), H', ⟨by first | omega | exact Nat.le_refl _⟩, ⟨by (with_reducible repeat (first | apply Kd.R_alloc | apply Kd.R_drewN | apply Kd.R_drew)); exact HO1285.out⟩, ⟨by repeat (first | (with_reducible first | exact HB.out | apply below_alloc | apply pw_below_drewN | apply below_drew1) | exact HB.out)⟩⟩
          · rw [if_neg c18] at H
            have c18b0 : decide ((Int.tmod a1 (l0.length : Int)) < 0) = false := decide_eq_false c18
            clear c18
            (first | rw [c18b0] | (simp only [i64_w, i32_w]; rw [c18b0]) | skip)
            have H' := Aside0.mk H
            clear H
            go_wp2
            go_meet
            case rel => exact ⟨_, (Int.tmod a1 (l0.length : Int)), (by first | rfl | (simp; done) | (simp [*]; done)), H', ⟨by first | omega | exact Nat.le_refl _⟩, ⟨by (with_reducible repeat (first | apply Kd.R_alloc | apply Kd.R_drewN | apply Kd.R_drew)); exact HO1285.out⟩, ⟨by repeat (first | (with_reducible first | exact HB.out | apply below_alloc | apply pw_below_drewN | apply below_drew1) | exact HB.out)⟩⟩
        case rest =>
          clear HC16
          try clear c1
          try clear p2
          try clear c3
          try clear c3b0
          try clear c3b1
          try clear c5
          try clear p6
          try clear c7
          try clear c7b0
          try clear c7b1
          try clear c8
          try clear c8b0
          try clear c8b1
          try clear c8b2
          try clear c9
          try clear c9b0
          try clear c9b1
          try clear c9b2
          try clear c11
          try clear c18
          try clear c18b0
          obtain ⟨kq, x7_15, rfl, HA, HJ15, HO_5, HB⟩ := hcut
          cases kq with
          | zero => exact absurd HA.out (by simp [quittancelaw20_JournalOrder.j0])
          | succ kj15 =>
            have H := HA.out
            clear HA
            simp only [quittancelaw20_JournalOrder.j0] at H
            obtain ⟨y1288, hy1288⟩ : ∃ y_ : List (S113), y_ = (([] : List (S113))) := ⟨_, rfl⟩
            replace H : (if 0 ≤ x7_15 then (if x7_15 ≤ (l0.length : Int) then ((some (l0.drop (x7_15 : Int).toNat : List (S113))).bind fun y1291 => (if y1288.length + y1291.length < 4398046511104 then ((some (y1288 ++ y1291 : List (S113))).bind fun y1295 => ((some (l0.take (x7_15 : Int).toNat : List (S113))).bind fun y1298 => (if y1295.length + y1298.length < 4398046511104 then ((journal_Tidy.f (y1295 ++ y1298)).bind fun bt1305 => ((journal_Tidy.f t1282).bind fun bt1309 => (if bt1305.2 = 0 then (if bt1309.2 = 0 then ((quittanceref20_SameLines.f kj15 t1282 bt1305.1).bind fun t1313 => (if t1313 = true then ((quittanceref20_SameLines.f kj15 t1282 bt1309.1).bind fun t1314 => (quittancelaw20_JournalOrder.j1 kj15 l0 t1282 (!t1314))) else (quittancelaw20_JournalOrder.j1 kj15 l0 t1282 true))) else (quittancelaw20_JournalOrder.j1 kj15 l0 t1282 true)) else (quittancelaw20_JournalOrder.j1 kj15 l0 t1282 true)))) else (none)))) else (none))) else (none)) else (none)) = some r := by first | (rw [hy1288]; with_reducible exact H) | (have H2_ := (Option.bind_some _ _).symm.trans H; rw [hy1288]; with_reducible exact H2_) | (have H2_ := (Option.bind_some _ _).symm.trans H; with_reducible exact H2_) | with_reducible exact H | (rw [hy1288]; exact H) | exact H
            have Ny1288 := Aside0.mk hy1288
            clear hy1288
            by_cases c19 : 0 ≤ x7_15
            · rw [if_pos c19] at H
              have c19b0 := eq_true c19
              have c19b1 : decide (0 ≤ x7_15) = true := decide_eq_true c19
              clear c19
              by_cases c20 : x7_15 ≤ (l0.length : Int)
              · rw [if_pos c20] at H
                have c20b0 := eq_true c20
                have c20b1 : decide (x7_15 ≤ (l0.length : Int)) = true := decide_eq_true c20
                clear c20
                obtain ⟨y1291, hy1291⟩ : ∃ y_ : List (S113), y_ = (l0.drop (x7_15 : Int).toNat) := ⟨_, rfl⟩
                replace H : (if y1288.length + y1291.length < 4398046511104 then ((some (y1288 ++ y1291 : List (S113))).bind fun y1295 => ((some (l0.take (x7_15 : Int).toNat : List (S113))).bind fun y1298 => (if y1295.length + y1298.length < 4398046511104 then ((journal_Tidy.f (y1295 ++ y1298)).bind fun bt1305 => ((journal_Tidy.f t1282).bind fun bt1309 => (if bt1305.2 = 0 then (if bt1309.2 = 0 then ((quittanceref20_SameLines.f kj15 t1282 bt1305.1).bind fun t1313 => (if t1313 = true then ((quittanceref20_SameLines.f kj15 t1282 bt1309.1).bind fun t1314 => (quittancelaw20_JournalOrder.j1 kj15 l0 t1282 (!t1314))) else (quittancelaw20_JournalOrder.j1 kj15 l0 t1282 true))) else (quittancelaw20_JournalOrder.j1 kj15 l0 t1282 true)) else (quittancelaw20_JournalOrder.j1 kj15 l0 t1282 true)))) else (none)))) else (none)) = some r := by first | (rw [hy1291]; with_reducible exact H) | (have H2_ := (Option.bind_some _ _).symm.trans H; rw [hy1291]; with_reducible exact H2_) | (have H2_ := (Option.bind_some _ _).symm.trans H; with_reducible exact H2_) | with_reducible exact H | (rw [hy1291]; exact H) | exact H
                have Ny1291 := Aside0.mk hy1291
                clear hy1291
                by_cases c21 : y1288.length + y1291.length < 4398046511104
                · rw [if_pos c21] at H
                  have LMc21 := Aside0.mk c21
                  clear c21
                  obtain ⟨y1295, hy1295⟩ : ∃ y_ : List (S113), y_ = (y1288 ++ y1291) := ⟨_, rfl⟩
                  replace H : ((some (l0.take (x7_15 : Int).toNat : List (S113))).bind fun y1298 => (if y1295.length + y1298.length < 4398046511104 then ((journal_Tidy.f (y1295 ++ y1298)).bind fun bt1305 => ((journal_Tidy.f t1282).bind fun bt1309 => (if bt1305.2 = 0 then (if bt1309.2 = 0 then ((quittanceref20_SameLines.f kj15 t1282 bt1305.1).bind fun t1313 => (if t1313 = true then ((quittanceref20_SameLines.f kj15 t1282 bt1309.1).bind fun t1314 => (quittancelaw20_JournalOrder.j1 kj15 l0 t1282 (!t1314))) else (quittancelaw20_JournalOrder.j1 kj15 l0 t1282 true))) else (quittancelaw20_JournalOrder.j1 kj15 l0 t1282 true)) else (quittancelaw20_JournalOrder.j1 kj15 l0 t1282 true)))) else (none))) = some r := by first | (rw [hy1295]; with_reducible exact H) | (have H2_ := (Option.bind_some _ _).symm.trans H; rw [hy1295]; with_reducible exact H2_) | (have H2_ := (Option.bind_some _ _).symm.trans H; with_reducible exact H2_) | with_reducible exact H | (rw [hy1295]; exact H) | exact H
                  have Ny1295 := Aside0.mk hy1295
                  clear hy1295
                  have c22b0 := eq_true (of_decide_eq_true (by first | (with_reducible assumption) | assumption) : 0 ≤ x7_15)
                  have c23b0 := eq_true (of_decide_eq_true (by first | (with_reducible assumption) | assumption) : x7_15 ≤ (l0.length : Int))
                  obtain ⟨y1298, hy1298⟩ : ∃ y_ : List (S113), y_ = (l0.take (x7_15 : Int).toNat) := ⟨_, rfl⟩
                  replace H : (if y1295.length + y1298.length < 4398046511104 then ((journal_Tidy.f (y1295 ++ y1298)).bind fun bt1305 => ((journal_Tidy.f t1282).bind fun bt1309 => (if bt1305.2 = 0 then (if bt1309.2 = 0 then ((quittanceref20_SameLines.f kj15 t1282 bt1305.1).bind fun t1313 => (if t1313 = true then ((quittanceref20_SameLines.f kj15 t1282 bt1309.1).bind fun t1314 => (quittancelaw20_JournalOrder.j1 kj15 l0 t1282 (!t1314))) else (quittancelaw20_JournalOrder.j1 kj15 l0 t1282 true))) else (quittancelaw20_JournalOrder.j1 kj15 l0 t1282 true)) else (quittancelaw20_JournalOrder.j1 kj15 l0 t1282 true)))) else (none)) = some r := by first | (rw [hy1298]; with_reducible exact H) | (have H2_ := (Option.bind_some _ _).symm.trans H; rw [hy1298]; with_reducible exact H2_) | (have H2_ := (Option.bind_some _ _).symm.trans H; with_reducible exact H2_) | with_reducible exact H | (rw [hy1298]; exact H) | exact H
                  have Ny1298 := Aside0.mk hy1298
                  clear hy1298
                  by_cases c24 : y1295.length + y1298.length < 4398046511104
                  · rw [if_pos c24] at H
                    have LMc24 := Aside0.mk c24
                    clear c24
                    obtain ⟨y1302, hy1302⟩ : ∃ y_ : List (S113), y_ = (y1295 ++ y1298) := ⟨_, rfl⟩
                    replace H : ((journal_Tidy.f y1302).bind fun bt1305 => ((journal_Tidy.f t1282).bind fun bt1309 => (if bt1305.2 = 0 then (if bt1309.2 = 0 then ((quittanceref20_SameLines.f kj15 t1282 bt1305.1).bind fun t1313 => (if t1313 = true then ((quittanceref20_SameLines.f kj15 t1282 bt1309.1).bind fun t1314 => (quittancelaw20_JournalOrder.j1 kj15 l0 t1282 (!t1314))) else (quittancelaw20_JournalOrder.j1 kj15 l0 t1282 true))) else (quittancelaw20_JournalOrder.j1 kj15 l0 t1282 true)) else (quittancelaw20_JournalOrder.j1 kj15 l0 t1282 true)))) = some r := by first | (rw [hy1302]; with_reducible exact H) | (have H2_ := (Option.bind_some _ _).symm.trans H; rw [hy1302]; with_reducible exact H2_) | (have H2_ := (Option.bind_some _ _).symm.trans H; with_reducible exact H2_) | with_reducible exact H | (rw [hy1302]; exact H) | exact H
                    have Ny1302 := Aside0.mk hy1302
                    clear hy1302
                    replace H := Option.bind_eq_some_iff.mp H
                    obtain ⟨⟨t1305, t1306⟩, A250, H⟩ := H
                    replace H : ((journal_Tidy.f t1282).bind fun bt1309 => (if t1306 = 0 then (if bt1309.2 = 0 then ((quittanceref20_SameLines.f kj15 t1282 t1305).bind fun t1313 => (if t1313 = true then ((quittanceref20_SameLines.f kj15 t1282 bt1309.1).bind fun t1314 => (quittancelaw20_JournalOrder.j1 kj15 l0 t1282 (!t1314))) else (quittancelaw20_JournalOrder.j1 kj15 l0 t1282 true))) else (quittancelaw20_JournalOrder.j1 kj15 l0 t1282 true)) else (quittancelaw20_JournalOrder.j1 kj15 l0 t1282 true))) = some r := H
                    have A25 := Aside0.mk A250
                    clear A250
                    replace H := Option.bind_eq_some_iff.mp H
                    obtain ⟨⟨t1309, t1310⟩, A260, H⟩ := H
                    replace H : (if t1306 = 0 then (if t1310 = 0 then ((quittanceref20_SameLines.f kj15 t1282 t1305).bind fun t1313 => (if t1313 = true then ((quittanceref20_SameLines.f kj15 t1282 t1309).bind fun t1314 => (quittancelaw20_JournalOrder.j1 kj15 l0 t1282 (!t1314))) else (quittancelaw20_JournalOrder.j1 kj15 l0 t1282 true))) else (quittancelaw20_JournalOrder.j1 kj15 l0 t1282 true)) else (quittancelaw20_JournalOrder.j1 kj15 l0 t1282 true)) = some r := H
                    have A26 := Aside0.mk A260
                    clear A260
                    have HC27 := Aside0.mk H
                    clear H
                    try go_wp2
                    have n0_ := Aside0.mk (Kd.R_drew HO_5.out)
                    have n1_ := Aside0.mk (below_drew1 HB.out)
                    clear HO_5
                    clear HB
                    have HO_5 := n0_
                    have HB := n1_
                    clear n0_ n1_
                    have q29 : (x7_15 : Int) ≤ ((l0.length : Int) : Int) := of_decide_eq_true (by first | (with_reducible assumption) | assumption)
                    obtain ⟨i029, hi029, _, hsz29, _⟩ := info_parts info113
                    have hroom29 : l0.length ≤ c0 := HC0.out
                    have hC29 : Kd.C k113 _ A0 l0.length l0 := HR0.out
                    have q029 : (0 : Int) ≤ (x7_15 : Int) := of_decide_eq_true (by first | (with_reducible assumption) | assumption)
                    have hcut29 := cut_from (P := Try.prog) 30 113 .i64 Try.underlying30 hi029 4 hsz29 A0 l0.length c0 x7_15 q029 q29
                    have hr29 := Kd.C_drop (m := (x7_15 : Int).toNat) (c := c0) hC29 (by omega) hroom29
                    obtain ⟨A29, hA29⟩ : ∃ A1, A1 = (if c0 = (x7_15 : Int).toNat then A0 else (A0 : Option Addr).map (·.add ((x7_15 : Int).toNat * 4))) := ⟨_, rfl⟩
                    obtain ⟨c29, hc29⟩ : ∃ c1, c1 = c0 - (x7_15 : Int).toNat := ⟨_, rfl⟩
                    have hy29 : y1291.length = l0.length - (x7_15 : Int).toNat := (by rw [Ny1291.out, List.length_drop] <;> omega)
                    rw [show (l0).drop (x7_15 : Int).toNat = y1291 from Ny1291.out.symm] at hr29
                    replace hr29 : Kd.C k113 _ A29 y1291.length y1291 := (by rw [hA29]; exact hr29)
                    rw [← hy29, ← hA29, ← hc29] at hcut29
                    have HR1294 := Aside0.mk hr29
                    have HC1294 := Aside0.mk (show y1291.length ≤ c29 from by rw [hy29, hc29]; exact Nat.sub_le_sub_right hroom29 _)
                    clear hr29 hC29 hroom29 hi029 hsz29 hc29
                    have KY29 := Aside0.mk hy29
                    have KA29 := Aside0.mk hA29
                    clear hy29 hA29
                    replace q29 := eq_true q29
                    have q30 : (x7_15 : Int) ≤ ((l0.length : Int) : Int) := of_decide_eq_true (by first | (with_reducible assumption) | assumption)
                    obtain ⟨i030, hi030, _, hsz30, _⟩ := info_parts info113
                    have hroom30 : l0.length ≤ c0 := HC0.out
                    have hC30 : Kd.C k113 _ A0 l0.length l0 := HR0.out
                    have hcut30 := cut_to (P := Try.prog) 30 113 .i64 Try.underlying30 hi030 A0 l0.length c0 x7_15 (of_decide_eq_true (by first | (with_reducible assumption) | assumption)) q30 hroom30
                    have hr30 := Kd.C_take (m := (x7_15 : Int).toNat) hC30 (by omega)
                    have hy30 : y1298.length = (x7_15 : Int).toNat := (by rw [Ny1298.out, List.length_take]; omega)
                    rw [← Ny1298.out] at hr30
                    rw [← hy30] at hcut30
                    have HR1301 := Aside0.mk hr30
                    have HC1301 := Aside0.mk (show y1298.length ≤ c0 from by omega)
                    clear hr30 hC30 hroom30 hi030 hsz30
                    have KY30 := Aside0.mk hy30
                    clear hy30
                    replace q30 := eq_true q30
                    refine start_ (n := 15) (S := fun w' => True) (ds := []) #[false, false, false, false, false, false, false, false, false, false, false, false, false, false, false] (by kernel_rfl) rfl rfl trivial (fun hHeld => ?_); refine with_tabW quittancelaw20_JournalOrder.tab11 quittancelaw20_JournalOrder.bits11 (fun HT_ HW_ => ?_)
                    generalize wc.drew = w28 at HO_5 HB HR1294 HR1301 hHeld ⊢
                    refine pure_ (i := 1) (N := some 56) (v := ?_) (a' := ?_) #[false, true, false, false, false, false, false, false, false, false, false, false, false, false, false] rfl rfl (any_of HT_.out (by kernel_rfl)) (fun _ _ _ h => h) (Or.inl ⟨by rfl, ?_⟩) ?_ ?_
                    rotate_left
                    · intro w'
                      go_simp
                      with_reducible rfl
                    rotate_left
                    · simp only [Act.put, List.setIfInBounds_toArray, List.set_cons_zero, List.set_cons_succ, i64_w, i32_w]
                      rfl
                    refine pure_ (i := 2) (N := some 57) (v := ?_) (a' := ?_) #[false, true, true, false, false, false, false, false, false, false, false, false, false, false, false] rfl rfl (any_of HT_.out (by kernel_rfl)) (fun _ _ _ h => h) (Or.inl ⟨by rfl, ?_⟩) ?_ ?_
                    rotate_left
                    · intro w'
                      go_simp
                      with_reducible rfl
                    rotate_left
                    · simp only [Act.put, List.setIfInBounds_toArray, List.set_cons_zero, List.set_cons_succ, i64_w, i32_w]
                      rfl
                    refine pure_ (i := 3) (N := some 58) (v := ?_) (a' := ?_) #[false, true, true, true, false, false, false, false, false, false, false, false, false, false, false] rfl rfl (any_of HT_.out (by kernel_rfl)) (fun _ _ _ h => h) (Or.inl ⟨by rfl, ?_⟩) ?_ ?_
                    rotate_left
                    · intro w'
                      go_simp
                      with_reducible rfl
                    rotate_left
                    · simp only [Act.put, List.setIfInBounds_toArray, List.set_cons_zero, List.set_cons_succ, i64_w, i32_w]
                      rfl
                    refine pure_ (i := 5) (N := some 60) (v := ?_) (a' := ?_) #[false, true, true, true, false, true, false, false, false, false, false, false, false, false, false] rfl rfl (any_of HT_.out (by kernel_rfl)) (fun _ _ _ h => h) (Or.inl ⟨by rfl, ?_⟩) ?_ ?_
                    rotate_left
                    · intro w'
                      go_simp
                      with_reducible rfl
                    rotate_left
                    · simp only [Act.put, List.setIfInBounds_toArray, List.set_cons_zero, List.set_cons_succ, i64_w, i32_w]
                      rfl
                    refine pure_ (i := 6) (N := some 61) (v := ?_) (a' := ?_) #[false, true, true, true, false, true, true, false, false, false, false, false, false, false, false] rfl rfl (any_of HT_.out (by kernel_rfl)) (fun _ _ _ h => h) (Or.inl ⟨by rfl, ?_⟩) ?_ ?_
                    rotate_left
                    · intro w'
                      go_simp
                      with_reducible rfl
                    rotate_left
                    · simp only [Act.put, List.setIfInBounds_toArray, List.set_cons_zero, List.set_cons_succ, i64_w, i32_w]
                      rfl
                    refine pure_ (i := 7) (N := some 62) (v := ?_) (a' := ?_) #[false, true, true, true, false, true, true, true, false, false, false, false, false, false, false] rfl rfl (any_of HT_.out (by kernel_rfl)) (fun _ _ _ h => h) (Or.inl ⟨by rfl, ?_⟩) ?_ ?_
                    rotate_left
                    · intro w'
                      go_simp
                      with_reducible rfl
                    rotate_left
                    · simp only [Act.put, List.setIfInBounds_toArray, List.set_cons_zero, List.set_cons_succ, i64_w, i32_w]
                      rfl
                    refine one_ (i := 0) (N := some 55) #[true, true, true, true, false, true, true, true, false, false, false, false, false, false, false] rfl rfl (one_of HT_.out (by kernel_rfl)) (by decide) (fun K hK => ?_)
                    refine Kd.R_lit_step k113 _ 113 ?hg (N := 55) ?hd (xs := ([] : List (S113))) (inner := []) (ok := fun _ => True) (okp := fun _ => True) ?hr ?hp (fun _ hk => hk) trivial (Below.refl _ _) (Nat.le_refl _) (by simp) ?_; (case hd => rfl); (case hg => rfl); (case hr => first | (go_simp; done) | (go_simp; rfl)); (case hp => exact (Reps.none _ _))
                    intro v1289 w31 ho32 hb hg_ hnew_
                    clear hg_ hnew_
                    (first | rw [← Ny1288.out] at ho32 | (simp only [Int.reduceToNat] at ho32; rw [← Ny1288.out] at ho32))
                    have n0_ := Aside0.mk (Kd.R_elder' (by (with_reducible repeat (first | apply Kd.R_alloc | apply Kd.R_drewN | apply Kd.R_drew)); exact HO_5.out) (Kd.R_base ho32) hb)
                    have n1_ := Aside0.mk (Kd.R_lower (Kd.R_new' ho32 (Kd.R_lt (by (with_reducible repeat (first | apply Kd.R_alloc | apply Kd.R_drewN | apply Kd.R_drew)); exact HO_5.out))) (below_size (by repeat (first | (with_reducible first | exact HB.out | apply below_alloc | apply pw_below_drewN | apply below_drew1) | exact HB.out))))
                    have n2_ := Aside0.mk (below_step (by repeat (first | (with_reducible first | exact HB.out | apply below_alloc | apply pw_below_drewN | apply below_drew1) | exact HB.out)) hb)
                    clear HO_5
                    clear HB
                    have HO_5 := n0_
                    have HO1290 := n1_
                    have HB := n2_
                    clear n0_ n1_ n2_
                    clear hb ho32
                    refine hK.out _ _ trivial (fun hHeld => ?_)
                    clear hK K
                    refine norm_ (a' := ?_) ?_ ?_
                    rotate_left
                    · show Act.put _ (some 55) _ = _
                      simp only [Act.put, List.setIfInBounds_toArray, List.set_cons_zero, List.set_cons_succ, i64_w, i32_w]
                      rfl
                    refine one_ (i := 4) (N := some 59) #[true, true, true, true, true, true, true, true, false, false, false, false, false, false, false] rfl rfl (one_of HT_.out (by kernel_rfl)) (by decide) (fun K hK => ?_)
                    refine Kd.R_append_rows_step k113 (w0 := w) w.heap.size (by rfl) (.tmp 55) (.tmp 58) 30 113 (.agg #[(.int .i64 0), (.int .u64 0), (.int .u64 0), (.int .i64 0)]) 32 rfl Try.underlying30 info113 rfl (by decide) (by omega) v1289 y1288 y1291 _ _ _ (fun k_ => some k_ ≠ (v1284 : Value).ownBlock) (fun _ => False) rfl rfl ?aO ?aR (fun _ _ h => h) (fun _ h => h.elim) ?aF ?aB ?aS ?aL ?_
                    (case aR => repeat (first | exact (Kd.C_below HR1294.out HB.out) | (with_reducible refine Kd.C_alloc ?_ _) | (with_reducible refine Kd.C_drewN ?_ _) | (with_reducible refine Kd.C_drew ?_)))
                    (case aB => exact (by repeat (first | (with_reducible first | exact HB.out | apply below_alloc | apply pw_below_drewN | apply below_drew1) | exact HB.out)))
                    (case aF => exact (fun k_ hk => Kd.fresh' (Kd.R_lt (by (with_reducible repeat (first | apply Kd.R_alloc | apply Kd.R_drewN | apply Kd.R_drew)); exact HO_5.out)) k_ hk))
                    (case aO => exact (by (with_reducible repeat (first | apply Kd.R_alloc | apply Kd.R_drewN | apply Kd.R_drew)); exact Kd.R_mono HO1290.out (fun _ hk => hk.2)))
                    (case aS => exact (below_size (by repeat (first | (with_reducible first | exact HB.out | apply below_alloc | apply pw_below_drewN | apply below_drew1) | exact HB.out))))
                    (case aL => have := LMc21.out; omega)
                    intro v1296 w33 ho hb hg hat
                    rw [← Ny1295.out] at ho
                    have n0_ := Aside0.mk (Kd.R_after (ok := (fun _ => True)) (by (with_reducible repeat (first | apply Kd.R_alloc | apply Kd.R_drewN | apply Kd.R_drew)); exact HO_5.out) hg hat)
                    have n1_ := Aside0.mk (hb)
                    have n2_ := Aside0.mk (ho)
                    clear HO_5
                    clear HB
                    clear HO1290
                    have HO_5 := n0_
                    have HB := n1_
                    have HO1297 := n2_
                    clear n0_ n1_ n2_
                    clear ho hb hg hat
                    refine hK.out _ _ trivial (fun hHeld => ?_)
                    clear hK K
                    refine norm_ (a' := ?_) ?_ ?_
                    rotate_left
                    · show Act.put _ (some 59) _ = _
                      simp only [Act.put, List.setIfInBounds_toArray, List.set_cons_zero, List.set_cons_succ, i64_w, i32_w]
                      rfl
                    refine one_ (i := 8) (N := some 63) #[true, true, true, true, true, true, true, true, true, false, false, false, false, false, false] rfl rfl (one_of HT_.out (by kernel_rfl)) (by decide) (fun K hK => ?_)
                    refine Kd.R_append_rows_step k113 (w0 := w) w.heap.size (by rfl) (.tmp 59) (.tmp 62) 30 113 (.agg #[(.int .i64 0), (.int .u64 0), (.int .u64 0), (.int .i64 0)]) 32 rfl Try.underlying30 info113 rfl (by decide) (by omega) v1296 y1295 y1298 _ _ _ (fun k_ => some k_ ≠ (v1284 : Value).ownBlock) (fun _ => False) rfl rfl ?aO ?aR (fun _ _ h => h) (fun _ h => h.elim) ?aF ?aB ?aS ?aL ?_
                    (case aR => repeat (first | exact (Kd.C_below HR1301.out HB.out) | (with_reducible refine Kd.C_alloc ?_ _) | (with_reducible refine Kd.C_drewN ?_ _) | (with_reducible refine Kd.C_drew ?_)))
                    (case aB => exact (by repeat (first | (with_reducible first | exact HB.out | apply below_alloc | apply pw_below_drewN | apply below_drew1) | exact HB.out)))
                    (case aF => exact (fun k_ hk => Kd.fresh' (Kd.R_lt (by (with_reducible repeat (first | apply Kd.R_alloc | apply Kd.R_drewN | apply Kd.R_drew)); exact HO_5.out)) k_ hk))
                    (case aO => exact (by (with_reducible repeat (first | apply Kd.R_alloc | apply Kd.R_drewN | apply Kd.R_drew)); exact HO1297.out))
                    (case aS => exact (below_size (by repeat (first | (with_reducible first | exact HB.out | apply below_alloc | apply pw_below_drewN | apply below_drew1) | exact HB.out))))
                    (case aL => have := LMc24.out; omega)
                    intro v1303 w34 ho hb hg hat
                    rw [← Ny1302.out] at ho
                    have n0_ := Aside0.mk (Kd.R_after (ok := (fun _ => True)) (by (with_reducible repeat (first | apply Kd.R_alloc | apply Kd.R_drewN | apply Kd.R_drew)); exact HO_5.out) hg hat)
                    have n1_ := Aside0.mk (hb)
                    have n2_ := Aside0.mk (ho)
                    clear HO_5
                    clear HB
                    clear HO1297
                    have HO_5 := n0_
                    have HB := n1_
                    have HO1304 := n2_
                    clear n0_ n1_ n2_
                    clear ho hb hg hat
                    obtain ⟨Ao35, co35, eo35⟩ := Kd.R_slice HO1304.out
                    (first | subst eo35 | (injection eo35 with f1_ f2_ f3_; have f4_ := f1_.symm; have f5_ := f3_.symm; clear f1_ f2_ f3_; subst f4_; subst f5_))
                    refine hK.out _ _ trivial (fun hHeld => ?_)
                    clear hK K
                    refine norm_ (a' := ?_) ?_ ?_
                    rotate_left
                    · show Act.put _ (some 63) _ = _
                      simp only [Act.put, List.setIfInBounds_toArray, List.set_cons_zero, List.set_cons_succ, i64_w, i32_w]
                      rfl
                    refine one_ (i := 9) (N := some 64) #[true, true, true, true, true, true, true, true, true, true, false, false, false, false, false] rfl rfl (one_of HT_.out (by kernel_rfl)) (by decide) (fun K hK => ?_)
                    refine goes_ Try.func51 (by kernel_rfl) rfl #[.slice Ao35 y1302.length co35] (by rfl) rfl rfl (by (try simp only [List.map_toArray, List.map_cons, List.map_nil]); first | done | rfl | (simp only [List.length_drop, List.length_take]; rfl)) ?_
                    with_reducible refine (journal_Tidy.calls _ _ y1302 t1305 t1306 _ ?side1 ?side2 A25.out).mono ?_
                    (case side1 => repeat (first | exact (Kd.R_reads' HO1304.out).2.2 | (with_reducible refine Kd.C_alloc ?_ _) | (with_reducible refine Kd.C_drewN ?_ _) | (with_reducible refine Kd.C_drew ?_)))
                    (case side2 => exact (Kd.R_reads' HO1304.out).2.1)
                    rintro e w36 ⟨v1307, rfl, ho0, hb⟩
                    refine ⟨_, rfl, ?_⟩
                    have n0_ := Aside0.mk (Kd.R_elder' (by (with_reducible repeat (first | apply Kd.R_alloc | apply Kd.R_drewN | apply Kd.R_drew)); exact HO_5.out) (Kd.R_base ho0) hb)
                    have n1_ := Aside0.mk (Kd.R_elder' (by (with_reducible repeat (first | apply Kd.R_alloc | apply Kd.R_drewN | apply Kd.R_drew)); exact HO1304.out) (Kd.R_base ho0) hb)
                    have n2_ := Aside0.mk (Kd.R_lower (Kd.R_new' (Kd.R_new' ho0 (Kd.R_lt (by (with_reducible repeat (first | apply Kd.R_alloc | apply Kd.R_drewN | apply Kd.R_drew)); exact HO_5.out))) (Kd.R_lt (by (with_reducible repeat (first | apply Kd.R_alloc | apply Kd.R_drewN | apply Kd.R_drew)); exact HO1304.out))) (below_size (by repeat (first | (with_reducible first | exact HB.out | apply below_alloc | apply pw_below_drewN | apply below_drew1) | exact HB.out))))
                    have n3_ := Aside0.mk (below_step (by repeat (first | (with_reducible first | exact HB.out | apply below_alloc | apply pw_below_drewN | apply below_drew1) | exact HB.out)) hb)
                    clear HO_5
                    clear HO1304
                    clear HB
                    have HO_5 := n0_
                    have HO1304 := n1_
                    have HO1308 := n2_
                    have HB := n3_
                    clear n0_ n1_ n2_ n3_
                    (try clear hb)
                    (try clear hb2)
                    (try clear hk)
                    (try clear hi)
                    (try clear ho0)
                    refine hK.out _ _ trivial (fun hHeld => ?_)
                    clear hK K
                    refine norm_ (a' := ?_) ?_ ?_
                    rotate_left
                    · show Act.put _ (some 64) _ = _
                      simp only [Act.put, List.setIfInBounds_toArray, List.set_cons_zero, List.set_cons_succ, i64_w, i32_w]
                      rfl
                    refine pure_ (i := 10) (N := some 54) (v := ?_) (a' := ?_) #[true, true, true, true, true, true, true, true, true, true, true, false, false, false, false] rfl rfl (any_of HT_.out (by kernel_rfl)) (fun _ _ _ h => h) (Or.inl ⟨by rfl, ?_⟩) ?_ ?_
                    rotate_left
                    · intro w'
                      go_simp
                      with_reducible rfl
                    rotate_left
                    · simp only [Act.put, List.setIfInBounds_toArray, List.set_cons_zero, List.set_cons_succ, i64_w, i32_w]
                      rfl
                    refine pure_ (i := 11) (N := some 65) (v := ?_) (a' := ?_) #[true, true, true, true, true, true, true, true, true, true, true, true, false, false, false] rfl rfl (any_of HT_.out (by kernel_rfl)) (fun _ _ _ h => h) (Or.inl ⟨by rfl, ?_⟩) ?_ ?_
                    rotate_left
                    · intro w'
                      go_simp
                      with_reducible rfl
                    rotate_left
                    · simp only [Act.put, List.setIfInBounds_toArray, List.set_cons_zero, List.set_cons_succ, i64_w, i32_w]
                      rfl
                    refine pure_ (i := 12) (N := some 66) (v := ?_) (a' := ?_) #[true, true, true, true, true, true, true, true, true, true, true, true, true, false, false] rfl rfl (any_of HT_.out (by kernel_rfl)) (fun _ _ _ h => h) (Or.inl ⟨by rfl, ?_⟩) ?_ ?_
                    rotate_left
                    · intro w'
                      go_simp
                      with_reducible rfl
                    rotate_left
                    · simp only [Act.put, List.setIfInBounds_toArray, List.set_cons_zero, List.set_cons_succ, i64_w, i32_w]
                      rfl
                    refine pure_ (i := 13) (N := some 8) (v := ?_) (a' := ?_) #[true, true, true, true, true, true, true, true, true, true, true, true, true, true, false] rfl rfl (any_of HT_.out (by kernel_rfl)) (fun _ _ _ h => h) (Or.inl ⟨by rfl, ?_⟩) ?_ ?_
                    rotate_left
                    · intro w'
                      go_simp
                      with_reducible rfl
                    rotate_left
                    · simp only [Act.put, List.setIfInBounds_toArray, List.set_cons_zero, List.set_cons_succ, i64_w, i32_w]
                      rfl
                    refine pure_ (i := 14) (N := some 9) (v := ?_) (a' := ?_) #[true, true, true, true, true, true, true, true, true, true, true, true, true, true, true] rfl rfl (any_of HT_.out (by kernel_rfl)) (fun _ _ _ h => h) (Or.inl ⟨by rfl, ?_⟩) ?_ ?_
                    rotate_left
                    · intro w'
                      go_simp
                      with_reducible rfl
                    rotate_left
                    · simp only [Act.put, List.setIfInBounds_toArray, List.set_cons_zero, List.set_cons_succ, i64_w, i32_w]
                      rfl
                    refine done_ (done_of HT_.out (by kernel_rfl)) ?_
                    obtain ⟨Ao37, co37, eo37⟩ := Kd.R_slice HO_5.out
                    subst eo37
                    go_upto_region 13 with (first | ((with_reducible refine gate_callee (f := 51) rfl ?_); refine goesL_ (some 69) rfl rfl Try.func51 (by kernel_rfl) rfl #[.slice Ao37 t1282.length co37] rfl (by (try simp only [List.map_toArray, List.map_cons, List.map_nil]); first | done | rfl | (simp only [List.length_drop, List.length_take]; rfl)) ?_; (with_reducible refine (journal_Tidy.calls _ _ t1282 t1309 t1310 _ ?side1 ?side2 A26.out).mono ?_); (case side1 => repeat (first | exact (Kd.R_reads' HO_5.out).2.2 | (with_reducible refine Kd.C_alloc ?_ _) | (with_reducible refine Kd.C_drewN ?_ _) | (with_reducible refine Kd.C_drew ?_))); (case side2 => exact (Kd.R_reads' HO_5.out).2.1); rintro e w38 ⟨v1311, rfl, ho0, hb⟩; refine ⟨_, rfl, ?_⟩; have n0_ := Aside0.mk (Kd.R_elder' (by (with_reducible repeat (first | apply Kd.R_alloc | apply Kd.R_drewN | apply Kd.R_drew)); exact HO_5.out) (Kd.R_base ho0) hb); have n1_ := Aside0.mk (Kd.R_elder' (by (with_reducible repeat (first | apply Kd.R_alloc | apply Kd.R_drewN | apply Kd.R_drew)); exact HO1304.out) (Kd.R_base ho0) hb); have n2_ := Aside0.mk (Kd.R_elder' (by (with_reducible repeat (first | apply Kd.R_alloc | apply Kd.R_drewN | apply Kd.R_drew)); exact HO1308.out) (Kd.R_base ho0) hb); have n3_ := Aside0.mk (Kd.R_lower (Kd.R_new' (Kd.R_new' (Kd.R_new' ho0 (Kd.R_lt (by (with_reducible repeat (first | apply Kd.R_alloc | apply Kd.R_drewN | apply Kd.R_drew)); exact HO_5.out))) (Kd.R_lt (by (with_reducible repeat (first | apply Kd.R_alloc | apply Kd.R_drewN | apply Kd.R_drew)); exact HO1304.out))) (Kd.R_lt (by (with_reducible repeat (first | apply Kd.R_alloc | apply Kd.R_drewN | apply Kd.R_drew)); exact HO1308.out))) (below_size (by repeat (first | (with_reducible first | exact HB.out | apply below_alloc | apply pw_below_drewN | apply below_drew1) | exact HB.out)))); have n4_ := Aside0.mk (below_step (by repeat (first | (with_reducible first | exact HB.out | apply below_alloc | apply pw_below_drewN | apply below_drew1) | exact HB.out)) hb); clear HO_5; clear HO1304; clear HO1308; clear HB; have HO_5 := n0_; have HO1304 := n1_; have HO1308 := n2_; have HO1312 := n3_; have HB := n4_; clear n0_ n1_ n2_ n3_ n4_; (try clear hb); (try clear hb2); (try clear hk); (try clear hi); (try clear ho0)))
                    (try simp only [Act.put, List.setIfInBounds_toArray, List.set_cons_zero, List.set_cons_succ])
                    go_cut [89] (fun v89 wc => ∃ (kq : Nat) (x89_26 : Bool), v89 = .bool x89_26 ∧ Aside0 (quittancelaw20_JournalOrder.j1 kq l0 t1282 x89_26 = some r) ∧ Aside0 (kq ≤ kj15) ∧ Aside0 (Kd.R k113 113 wc w.heap.size (fun _ => True) (.slice Ao37 t1282.length co37) t1282) ∧ Aside0 (Below w.heap.size w wc))
                    case first =>
                      have H := HC27.out
                      clear HC27
                      by_cases c39 : t1306 = 0
                      · rw [if_pos c39] at H
                        have c39b0 : (t1306 == 0) = true := beq_iff_eq.mpr c39
                        have c39b1 : (t1306 != 0) = false := bne_eq_false_iff_eq.mpr c39
                        clear c39
                        (first | rw [c39b0] | (simp only [i64_w, i32_w]; rw [c39b0]) | skip)
                        by_cases c40 : t1310 = 0
                        · rw [if_pos c40] at H
                          have c40b0 : (t1310 == 0) = true := beq_iff_eq.mpr c40
                          have c40b1 : (t1310 != 0) = false := bne_eq_false_iff_eq.mpr c40
                          clear c40
                          replace H := Option.bind_eq_some_iff.mp H
                          obtain ⟨t1313, A410, H⟩ := H
                          replace H : (if t1313 = true then ((quittanceref20_SameLines.f kj15 t1282 t1309).bind fun t1314 => (quittancelaw20_JournalOrder.j1 kj15 l0 t1282 (!t1314))) else (quittancelaw20_JournalOrder.j1 kj15 l0 t1282 true)) = some r := H
                          have A41 := Aside0.mk A410
                          clear A410
                          by_cases c42 : t1313 = true
                          · subst c42
                            have H1 : ((quittanceref20_SameLines.f kj15 t1282 t1309).bind fun t1314 => (quittancelaw20_JournalOrder.j1 kj15 l0 t1282 (!t1314))) = some r := by rw [if_pos rfl] at H; exact H
                            clear H
                            have H := H1
                            clear H1
                            replace H := Option.bind_eq_some_iff.mp H
                            obtain ⟨t1314, A430, H⟩ := H
                            replace H : (quittancelaw20_JournalOrder.j1 kj15 l0 t1282 (!t1314)) = some r := H
                            have A43 := Aside0.mk A430
                            clear A430
                            have H' := Aside0.mk H
                            clear H
                            obtain ⟨Ao44, co44, eo44⟩ := Kd.R_slice HO1308.out
                            subst eo44
                            go_wp2_with (first | (go_at_call 53; (with_reducible refine (quittanceref20_SameLines.calls kj15 _ _ t1282 _ _ t1305 true _ ?side1 ?side2 ?side3 ?side4 A41.out).mono ?_); (case side1 => repeat (first | exact (Kd.R_reads' HO_5.out).2.2 | (with_reducible refine Kd.C_alloc ?_ _) | (with_reducible refine Kd.C_drewN ?_ _) | (with_reducible refine Kd.C_drew ?_))); (case side2 => exact (Kd.R_reads' HO_5.out).2.1); (case side3 => repeat (first | exact (Kd.R_reads' HO1308.out).2.2 | (with_reducible refine Kd.C_alloc ?_ _) | (with_reducible refine Kd.C_drewN ?_ _) | (with_reducible refine Kd.C_drew ?_))); (case side4 => exact (Kd.R_reads' HO1308.out).2.1); rintro e w' ⟨rfl, ⟨nd, rfl⟩⟩; obtain ⟨Ao45, co45, eo45⟩ := Kd.R_slice HO1312.out; subst eo45) | (go_at_call 53; (with_reducible refine (quittanceref20_SameLines.calls kj15 _ _ t1282 _ _ t1309 t1314 _ ?side1 ?side2 ?side3 ?side4 A43.out).mono ?_); (case side1 => repeat (first | exact (Kd.R_reads' HO_5.out).2.2 | (with_reducible refine Kd.C_alloc ?_ _) | (with_reducible refine Kd.C_drewN ?_ _) | (with_reducible refine Kd.C_drew ?_))); (case side2 => exact (Kd.R_reads' HO_5.out).2.1); (case side3 => repeat (first | exact (Kd.R_reads' HO1312.out).2.2 | (with_reducible refine Kd.C_alloc ?_ _) | (with_reducible refine Kd.C_drewN ?_ _) | (with_reducible refine Kd.C_drew ?_))); (case side4 => exact (Kd.R_reads' HO1312.out).2.1); rintro e w' ⟨rfl, ⟨nd, rfl⟩⟩))
                            go_meet
                            case rel => exact ⟨_, (!t1314), (by first | rfl | (simp; done) | (simp [*]; done)), H', ⟨by have := HJ15.out; first | omega | exact Nat.le_refl _⟩, ⟨by (with_reducible repeat (first | apply Kd.R_alloc | apply Kd.R_drewN | apply Kd.R_drew)); exact Kd.R_mono HO_5.out (fun _ hk => trivial)⟩, ⟨by repeat (first | (with_reducible first | exact HB.out | apply below_alloc | apply pw_below_drewN | apply below_drew1) | exact HB.out)⟩⟩
                          · replace c42 := Bool.eq_false_iff.mpr c42
                            subst c42
                            have H1 : (quittancelaw20_JournalOrder.j1 kj15 l0 t1282 true) = some r := by rw [if_neg (show ¬ (false = true) by decide)] at H; exact H
                            clear H
                            have H := H1
                            clear H1
                            have H' := Aside0.mk H
                            clear H
                            obtain ⟨Ao46, co46, eo46⟩ := Kd.R_slice HO1308.out
                            subst eo46
                            go_wp2_with (first | (go_at_call 53; (with_reducible refine (quittanceref20_SameLines.calls kj15 _ _ t1282 _ _ t1305 false _ ?side1 ?side2 ?side3 ?side4 A41.out).mono ?_); (case side1 => repeat (first | exact (Kd.R_reads' HO_5.out).2.2 | (with_reducible refine Kd.C_alloc ?_ _) | (with_reducible refine Kd.C_drewN ?_ _) | (with_reducible refine Kd.C_drew ?_))); (case side2 => exact (Kd.R_reads' HO_5.out).2.1); (case side3 => repeat (first | exact (Kd.R_reads' HO1308.out).2.2 | (with_reducible refine Kd.C_alloc ?_ _) | (with_reducible refine Kd.C_drewN ?_ _) | (with_reducible refine Kd.C_drew ?_))); (case side4 => exact (Kd.R_reads' HO1308.out).2.1); rintro e w' ⟨rfl, ⟨nd, rfl⟩⟩))
                            go_meet
                            case rel => exact ⟨_, (true), (by first | rfl | (simp; done) | (simp [*]; done)), H', ⟨by have := HJ15.out; first | omega | exact Nat.le_refl _⟩, ⟨by (with_reducible repeat (first | apply Kd.R_alloc | apply Kd.R_drewN | apply Kd.R_drew)); exact Kd.R_mono HO_5.out (fun _ hk => trivial)⟩, ⟨by repeat (first | (with_reducible first | exact HB.out | apply below_alloc | apply pw_below_drewN | apply below_drew1) | exact HB.out)⟩⟩
                        · rw [if_neg c40] at H
                          have c40b0 : (t1310 == 0) = false := beq_eq_false_iff_ne.mpr c40
                          have c40b1 : (t1310 != 0) = true := bne_iff_ne.mpr c40
                          have H' := Aside0.mk H
                          clear H
                          go_wp2
                          go_meet
                          case rel => exact ⟨_, (true), (by first | rfl | (simp; done) | (simp [*]; done)), H', ⟨by have := HJ15.out; first | omega | exact Nat.le_refl _⟩, ⟨by (with_reducible repeat (first | apply Kd.R_alloc | apply Kd.R_drewN | apply Kd.R_drew)); exact Kd.R_mono HO_5.out (fun _ hk => trivial)⟩, ⟨by repeat (first | (with_reducible first | exact HB.out | apply below_alloc | apply pw_below_drewN | apply below_drew1) | exact HB.out)⟩⟩
                      · rw [if_neg c39] at H
                        have c39b0 : (t1306 == 0) = false := beq_eq_false_iff_ne.mpr c39
                        have c39b1 : (t1306 != 0) = true := bne_iff_ne.mpr c39
                        (first | rw [c39b0] | (simp only [i64_w, i32_w]; rw [c39b0]) | skip)
                        have H' := Aside0.mk H
                        clear H
                        go_wp2
                        go_meet
                        case rel => exact ⟨_, (true), (by first | rfl | (simp; done) | (simp [*]; done)), H', ⟨by have := HJ15.out; first | omega | exact Nat.le_refl _⟩, ⟨by (with_reducible repeat (first | apply Kd.R_alloc | apply Kd.R_drewN | apply Kd.R_drew)); exact Kd.R_mono HO_5.out (fun _ hk => trivial)⟩, ⟨by repeat (first | (with_reducible first | exact HB.out | apply below_alloc | apply pw_below_drewN | apply below_drew1) | exact HB.out)⟩⟩
                    case rest =>
                      clear HC27
                      try clear c1
                      try clear c2
                      try clear p2
                      try clear q2
                      try clear c3
                      try clear c3b0
                      try clear c3b1
                      try clear q3
                      try clear c4
                      try clear c5
                      try clear p6
                      try clear c7
                      try clear c7b0
                      try clear c7b1
                      try clear c8
                      try clear c8b0
                      try clear c8b1
                      try clear c8b2
                      try clear c9
                      try clear c9b0
                      try clear c9b1
                      try clear c9b2
                      try clear c11
                      try clear c18
                      try clear c18b0
                      try clear c19
                      try clear c19b0
                      try clear c19b1
                      try clear c20
                      try clear c20b0
                      try clear c20b1
                      try clear c21
                      try clear c22
                      try clear c22b0
                      try clear c23
                      try clear c23b0
                      try clear c24
                      try clear c29
                      try clear q29
                      try clear q30
                      try clear c39
                      try clear c39b0
                      try clear c39b1
                      try clear c40
                      try clear c40b0
                      try clear c40b1
                      try clear c42
                      try clear p2
                      try clear p6
                      try clear q029
                      try clear q29
                      try clear q30
                      obtain ⟨kq, x89_26, rfl, HA, HJ26, HO_5, HB⟩ := hcut
                      cases kq with
                      | zero => exact absurd HA.out (by simp [quittancelaw20_JournalOrder.j1])
                      | succ kj26 =>
                        have H := HA.out
                        clear HA
                        simp only [quittancelaw20_JournalOrder.j1] at H
                        by_cases c47 : x89_26 = true
                        · subst c47
                          have H1 : (some false) = some r := by rw [if_pos rfl] at H; exact H
                          clear H
                          have H := H1
                          clear H1
                          obtain rfl := Option.some.inj H
                          go_wp2
                          go_ret
                          exact ⟨by first | rfl | (simp [errW_none, errW_some] <;> rfl) | (simp [*, errW_none, errW_some] <;> rfl), by repeat (first | (with_reducible first | exact HB.out | apply below_alloc | apply pw_below_drewN | apply below_drew1) | exact HB.out)⟩
                        · replace c47 := Bool.eq_false_iff.mpr c47
                          subst c47
                          have H1 : (quittancelaw20_JournalOrder.l0 kj26 l0 t1282 1) = some r := by rw [if_neg (show ¬ (false = true) by decide)] at H; exact H
                          clear H
                          have H := H1
                          clear H1
                          have H' := Aside0.mk H
                          clear H
                          go_wp2
                          go_loopg [12] kj26 (fun kq v12 w' => ∃ (x12_3 : Int), v12 = .int .i64 x12_3 ∧ Aside0 (quittancelaw20_JournalOrder.l0 kq l0 t1282 x12_3 = some r) ∧ Aside0 (kq ≤ kj26) ∧ Aside0 (Kd.R k113 113 w' w.heap.size (fun _ => True) (.slice Ao37 t1282.length co37) t1282) ∧ Aside0 (Below w.heap.size w w'))
                          case atStart => exact ⟨(1), (by first | rfl | (simp; done) | (simp [*]; done)), H', ⟨Nat.le_refl _⟩, ⟨by (with_reducible repeat (first | apply Kd.R_alloc | apply Kd.R_drewN | apply Kd.R_drew)); exact HO_5.out⟩, ⟨by repeat (first | (with_reducible first | exact HB.out | apply below_alloc | apply pw_below_drewN | apply below_drew1) | exact HB.out)⟩⟩
                          case round =>
                            clear H'
                            try clear c1
                            try clear c2
                            try clear p2
                            try clear q2
                            try clear c3
                            try clear c3b0
                            try clear c3b1
                            try clear q3
                            try clear c4
                            try clear c5
                            try clear p6
                            try clear c7
                            try clear c7b0
                            try clear c7b1
                            try clear c8
                            try clear c8b0
                            try clear c8b1
                            try clear c8b2
                            try clear c9
                            try clear c9b0
                            try clear c9b1
                            try clear c9b2
                            try clear c11
                            try clear c18
                            try clear c18b0
                            try clear c19
                            try clear c19b0
                            try clear c19b1
                            try clear c20
                            try clear c20b0
                            try clear c20b1
                            try clear c21
                            try clear c22
                            try clear c22b0
                            try clear c23
                            try clear c23b0
                            try clear c24
                            try clear c29
                            try clear q29
                            try clear q30
                            try clear c39
                            try clear c39b0
                            try clear c39b1
                            try clear c40
                            try clear c40b0
                            try clear c40b1
                            try clear c42
                            try clear c47
                            try clear p2
                            try clear p6
                            try clear q029
                            try clear q2
                            try clear q29
                            try clear q3
                            try clear q30
                            obtain ⟨x12_3, rfl, HA, HK3, HO_5, HB⟩ := hrel
                            cases gk with
                            | zero => exact absurd HA.out (by simp [quittancelaw20_JournalOrder.l0])
                            | succ k3 =>
                              have H := HA.out
                              clear HA
                              simp only [quittancelaw20_JournalOrder.l0] at H
                              by_cases c48 : x12_3 < (t1282.length : Int)
                              · rw [if_pos c48] at H
                                have c48b0 : decide (x12_3 < (t1282.length : Int)) = true := decide_eq_true c48
                                clear c48
                                obtain ⟨ji49, hji49⟩ : ∃ j_ : Int, (wrap64 (x12_3 - 1)) = j_ := ⟨_, rfl⟩
                                replace H : (if 0 ≤ (ji49) then (if (ji49) < (t1282.length : Int) then (if 0 ≤ x12_3 then ((quittanceref20_Less.f ((rd_T113 t1282 (ji49)).f0) ((rd_T113 t1282 (ji49)).f1) ((rd_T113 t1282 (ji49)).f2) ((rd_T113 t1282 (ji49)).f3) ((rd_T113 t1282 x12_3).f0) ((rd_T113 t1282 x12_3).f1) ((rd_T113 t1282 x12_3).f2) ((rd_T113 t1282 x12_3).f3)).bind fun t1317 => (if t1317 = true then (quittancelaw20_JournalOrder.l0 k3 l0 t1282 (wrap64 (x12_3 + 1))) else (some false))) else (none)) else (none)) else (none)) = some r := by first | (rw [hji49] at H; exact H) | (simp only [hji49] at H ⊢; exact H)
                                have hji49w : (IntKind.i64.wrap (x12_3 - 1)) = ji49 := (i64_w _).trans hji49
                                by_cases c50 : 0 ≤ (ji49)
                                · rw [if_pos c50] at H
                                  have c50b0 : decide (0 ≤ (ji49)) = true := decide_eq_true c50
                                  clear c50
                                  by_cases c51 : (ji49) < (t1282.length : Int)
                                  · rw [if_pos c51] at H
                                    have c51b0 : decide ((ji49) < (t1282.length : Int)) = true := decide_eq_true c51
                                    clear c51
                                    by_cases c52 : 0 ≤ x12_3
                                    · rw [if_pos c52] at H
                                      have c52b0 : decide (0 ≤ x12_3) = true := decide_eq_true c52
                                      clear c52
                                      replace H := Option.bind_eq_some_iff.mp H
                                      obtain ⟨t1317, A530, H⟩ := H
                                      replace H : (if t1317 = true then (quittancelaw20_JournalOrder.l0 k3 l0 t1282 (wrap64 (x12_3 + 1))) else (some false)) = some r := H
                                      have A53 := Aside0.mk A530
                                      clear A530
                                      by_cases c54 : t1317 = true
                                      · subst c54
                                        have H1 : (quittancelaw20_JournalOrder.l0 k3 l0 t1282 (wrap64 (x12_3 + 1))) = some r := by rw [if_pos rfl] at H; exact H
                                        clear H
                                        have H := H1
                                        clear H1
                                        have H' := Aside0.mk H
                                        clear H
                                        try go_wp2
                                        have n0_ := Aside0.mk (Kd.R_drew HO_5.out)
                                        have n1_ := Aside0.mk (below_drew1 HB.out)
                                        clear HO_5
                                        clear HB
                                        have HO_5 := n0_
                                        have HB := n1_
                                        clear n0_ n1_
                                        have p1315 : 0 ≤ ((ji49) : Int) := of_decide_eq_true (by first | (with_reducible assumption) | assumption)
                                        have q1315 : (ji49) < (t1282.length : Int) := of_decide_eq_true (by first | (with_reducible assumption) | assumption)
                                        obtain ⟨ad1315, e1315, hx1315_0, hx1315_1, hx1315_2, hx1315_3⟩ := at_T113 (Kd.R_reads' HO_5.out).2.2 (ji49) p1315 q1315
                                        cases e1315
                                        replace p1315 := eq_true p1315
                                        replace q1315 := eq_true q1315
                                        have p1316 : 0 ≤ (x12_3 : Int) := of_decide_eq_true (by first | (with_reducible assumption) | assumption)
                                        have q1316 : x12_3 < (t1282.length : Int) := of_decide_eq_true (by first | (with_reducible assumption) | assumption)
                                        obtain ⟨ad1316, e1316, hx1316_0, hx1316_1, hx1316_2, hx1316_3⟩ := at_T113 (Kd.R_reads' HO_5.out).2.2 x12_3 p1316 q1316
                                        obtain rfl : ad1315 = ad1316 := (by injection e1316)
                                        replace p1316 := eq_true p1316
                                        replace q1316 := eq_true q1316
                                        refine start_ (n := 11) (S := fun w' => w'.cell? (ad1315.add (((ji49)).toNat * 4)) = some (.int .i64 ((rd_T113 t1282 (ji49)).f0)) ∧ w'.cell? ⟨(ad1315.add (((ji49)).toNat * 4)).block, (ad1315.add (((ji49)).toNat * 4)).off + 1, none⟩ = some (.int .u64 ((rd_T113 t1282 (ji49)).f1)) ∧ w'.cell? ⟨(ad1315.add (((ji49)).toNat * 4)).block, (ad1315.add (((ji49)).toNat * 4)).off + 2, none⟩ = some (.int .u64 ((rd_T113 t1282 (ji49)).f2)) ∧ w'.cell? ⟨(ad1315.add (((ji49)).toNat * 4)).block, (ad1315.add (((ji49)).toNat * 4)).off + 3, none⟩ = some (.int .i64 ((rd_T113 t1282 (ji49)).f3)) ∧ w'.cell? (ad1315.add ((x12_3).toNat * 4)) = some (.int .i64 ((rd_T113 t1282 x12_3).f0)) ∧ w'.cell? ⟨(ad1315.add ((x12_3).toNat * 4)).block, (ad1315.add ((x12_3).toNat * 4)).off + 1, none⟩ = some (.int .u64 ((rd_T113 t1282 x12_3).f1)) ∧ w'.cell? ⟨(ad1315.add ((x12_3).toNat * 4)).block, (ad1315.add ((x12_3).toNat * 4)).off + 2, none⟩ = some (.int .u64 ((rd_T113 t1282 x12_3).f2)) ∧ w'.cell? ⟨(ad1315.add ((x12_3).toNat * 4)).block, (ad1315.add ((x12_3).toNat * 4)).off + 3, none⟩ = some (.int .i64 ((rd_T113 t1282 x12_3).f3))) (ds := []) #[false, false, false, false, false, false, false, false, false, false, false] (by kernel_rfl) rfl rfl ⟨hx1315_0, hx1315_1, hx1315_2, hx1315_3, hx1316_0, hx1316_1, hx1316_2, hx1316_3⟩ (fun hHeld => ?_); refine with_tabW quittancelaw20_JournalOrder.tab18 quittancelaw20_JournalOrder.bits18 (fun HT_ HW_ => ?_)
                                        generalize wr.drew = w55 at HO_5 HB hx1315_0 hx1315_1 hx1315_2 hx1315_3 hx1316_0 hx1316_1 hx1316_2 hx1316_3 hHeld ⊢
                                        refine pure_ (i := 0) (N := some 96) (v := ?_) (a' := ?_) #[true, false, false, false, false, false, false, false, false, false, false] rfl rfl (any_of HT_.out (by kernel_rfl)) (fun _ _ _ h => h) (Or.inl ⟨by rfl, ?_⟩) ?_ ?_
                                        rotate_left
                                        · intro w'
                                          go_simp
                                          with_reducible rfl
                                        rotate_left
                                        · simp only [Act.put, List.setIfInBounds_toArray, List.set_cons_zero, List.set_cons_succ, i64_w, i32_w]
                                          rfl
                                        refine pure_ (i := 1) (N := some 97) (v := ?_) (a' := ?_) #[true, true, false, false, false, false, false, false, false, false, false] rfl rfl (any_of HT_.out (by kernel_rfl)) (fun _ _ _ h => h) (Or.inl ⟨by rfl, ?_⟩) ?_ ?_
                                        rotate_left
                                        · intro w'
                                          go_simp
                                          with_reducible rfl
                                        rotate_left
                                        · simp only [Act.put, List.setIfInBounds_toArray, List.set_cons_zero, List.set_cons_succ, i64_w, i32_w]
                                          rfl
                                        refine pure_ (i := 2) (N := some 98) (v := ?_) (a' := ?_) #[true, true, true, false, false, false, false, false, false, false, false] rfl rfl (any_of HT_.out (by kernel_rfl)) (fun _ _ _ h => h) (Or.inl ⟨by rfl, ?_⟩) ?_ ?_
                                        rotate_left
                                        · intro w'
                                          go_simp
                                          with_reducible rfl
                                        rotate_left
                                        · simp only [Act.put, List.setIfInBounds_toArray, List.set_cons_zero, List.set_cons_succ, i64_w, i32_w]
                                          rfl
                                        refine pure_ (i := 3) (N := some 99) (v := ?_) (a' := ?_) #[true, true, true, true, false, false, false, false, false, false, false] rfl rfl (any_of HT_.out (by kernel_rfl)) (fun _ _ _ h => h) (Or.inl ⟨by rfl, ?_⟩) ?_ ?_
                                        rotate_left
                                        · intro w'
                                          go_simp
                                          with_reducible rfl
                                        rotate_left
                                        · simp only [Act.put, List.setIfInBounds_toArray, List.set_cons_zero, List.set_cons_succ, i64_w, i32_w]
                                          rfl
                                        refine pure_ (i := 5) (N := some 101) (v := ?_) (a' := ?_) #[true, true, true, true, false, true, false, false, false, false, false] rfl rfl (any_of HT_.out (by kernel_rfl)) (fun _ _ _ h => h) (Or.inl ⟨by rfl, ?_⟩) ?_ ?_
                                        rotate_left
                                        · intro w'
                                          go_simp
                                          with_reducible rfl
                                        rotate_left
                                        · simp only [Act.put, List.setIfInBounds_toArray, List.set_cons_zero, List.set_cons_succ, i64_w, i32_w]
                                          rfl
                                        refine pure_ (i := 6) (N := some 102) (v := ?_) (a' := ?_) #[true, true, true, true, false, true, true, false, false, false, false] rfl rfl (any_of HT_.out (by kernel_rfl)) (fun _ _ _ h => h) (Or.inl ⟨by rfl, ?_⟩) ?_ ?_
                                        rotate_left
                                        · intro w'
                                          go_simp
                                          with_reducible rfl
                                        rotate_left
                                        · simp only [Act.put, List.setIfInBounds_toArray, List.set_cons_zero, List.set_cons_succ, i64_w, i32_w]
                                          rfl
                                        refine pure_ (i := 7) (N := some 103) (v := ?_) (a' := ?_) #[true, true, true, true, false, true, true, true, false, false, false] rfl rfl (any_of HT_.out (by kernel_rfl)) (fun _ _ _ h => h) (Or.inl ⟨by rfl, ?_⟩) ?_ ?_
                                        rotate_left
                                        · intro w'
                                          go_simp
                                          with_reducible rfl
                                        rotate_left
                                        · simp only [Act.put, List.setIfInBounds_toArray, List.set_cons_zero, List.set_cons_succ, i64_w, i32_w]
                                          rfl
                                        refine take_ (i := 4) (N := some 100) (v := ?_) (a' := ?_) #[true, true, true, true, true, true, true, true, false, false, false] rfl rfl (take_ofW HT_.out HW_.out (by kernel_rfl)) (fun _ _ _ h => h) (Or.inl ⟨by rfl, ?_⟩) hHeld ?_ ?_
                                        rotate_left
                                        · rintro w' ⟨s0, s1, s2, s3, s4, s5, s6, s7⟩
                                          go_simp
                                          with_reducible rfl
                                        rotate_left
                                        · simp only [Act.put, List.setIfInBounds_toArray, List.set_cons_zero, List.set_cons_succ, i64_w, i32_w]
                                          rfl
                                        refine take_ (i := 8) (N := some 104) (v := ?_) (a' := ?_) #[true, true, true, true, true, true, true, true, true, false, false] rfl rfl (take_ofW HT_.out HW_.out (by kernel_rfl)) (fun _ _ _ h => h) (Or.inl ⟨by rfl, ?_⟩) hHeld ?_ ?_
                                        rotate_left
                                        · rintro w' ⟨s0, s1, s2, s3, s4, s5, s6, s7⟩
                                          go_simp
                                          with_reducible rfl
                                        rotate_left
                                        · simp only [Act.put, List.setIfInBounds_toArray, List.set_cons_zero, List.set_cons_succ, i64_w, i32_w]
                                          rfl
                                        refine one_ (i := 9) (N := some 105) #[true, true, true, true, true, true, true, true, true, true, false] rfl rfl (one_of HT_.out (by kernel_rfl)) (by decide) (fun K hK => ?_)
                                        refine goes_ Try.func54 (by kernel_rfl) rfl #[.agg #[.int .i64 ((rd_T113 t1282 (ji49)).f0), .int .u64 ((rd_T113 t1282 (ji49)).f1), .int .u64 ((rd_T113 t1282 (ji49)).f2), .int .i64 ((rd_T113 t1282 (ji49)).f3)], .agg #[.int .i64 ((rd_T113 t1282 x12_3).f0), .int .u64 ((rd_T113 t1282 x12_3).f1), .int .u64 ((rd_T113 t1282 x12_3).f2), .int .i64 ((rd_T113 t1282 x12_3).f3)]] (by rfl) rfl rfl (by (try simp only [List.map_toArray, List.map_cons, List.map_nil]); first | done | (simp only [hji49]; rfl) | rfl | (simp only [List.length_drop, List.length_take]; rfl)) ?_
                                        with_reducible refine (quittanceref20_Less.calls ((rd_T113 t1282 (ji49)).f0) ((rd_T113 t1282 (ji49)).f1) ((rd_T113 t1282 (ji49)).f2) ((rd_T113 t1282 (ji49)).f3) ((rd_T113 t1282 x12_3).f0) ((rd_T113 t1282 x12_3).f1) ((rd_T113 t1282 x12_3).f2) ((rd_T113 t1282 x12_3).f3) true _ A53.out).mono ?_
                                        rintro e w56 ⟨rfl, hb⟩
                                        have HS0_ := (hb.cell (World.block_lt_of_cell? _ _ (hHeld.1))).trans (hHeld.1)
                                        have HS1_ := (hb.cell (World.block_lt_of_cell? _ _ (hHeld.2.1))).trans (hHeld.2.1)
                                        have HS2_ := (hb.cell (World.block_lt_of_cell? _ _ (hHeld.2.2.1))).trans (hHeld.2.2.1)
                                        have HS3_ := (hb.cell (World.block_lt_of_cell? _ _ (hHeld.2.2.2.1))).trans (hHeld.2.2.2.1)
                                        have HS4_ := (hb.cell (World.block_lt_of_cell? _ _ (hHeld.2.2.2.2.1))).trans (hHeld.2.2.2.2.1)
                                        have HS5_ := (hb.cell (World.block_lt_of_cell? _ _ (hHeld.2.2.2.2.2.1))).trans (hHeld.2.2.2.2.2.1)
                                        have HS6_ := (hb.cell (World.block_lt_of_cell? _ _ (hHeld.2.2.2.2.2.2.1))).trans (hHeld.2.2.2.2.2.2.1)
                                        have HS7_ := (hb.cell (World.block_lt_of_cell? _ _ (hHeld.2.2.2.2.2.2.2))).trans (hHeld.2.2.2.2.2.2.2)
                                        refine ⟨_, rfl, ?_⟩
                                        have n0_ := Aside0.mk (Kd.R_below (by (with_reducible repeat (first | apply Kd.R_alloc | apply Kd.R_drewN | apply Kd.R_drew)); exact HO_5.out) hb)
                                        have n1_ := Aside0.mk (below_step (by repeat (first | (with_reducible first | exact HB.out | apply below_alloc | apply pw_below_drewN | apply below_drew1) | exact HB.out)) hb)
                                        clear HO_5
                                        clear HB
                                        have HO_5 := n0_
                                        have HB := n1_
                                        clear n0_ n1_
                                        (try clear hb)
                                        (try clear hb2)
                                        (try clear hk)
                                        (try clear hi)
                                        refine hK.out _ _ ⟨HS0_, HS1_, HS2_, HS3_, HS4_, HS5_, HS6_, HS7_⟩ (fun hHeld => ?_)
                                        clear hK K
                                        refine norm_ (a' := ?_) ?_ ?_
                                        rotate_left
                                        · show Act.put _ (some 105) _ = _
                                          simp only [Act.put, List.setIfInBounds_toArray, List.set_cons_zero, List.set_cons_succ, i64_w, i32_w]
                                          rfl
                                        refine pure_ (i := 10) (N := some 106) (v := ?_) (a' := ?_) #[true, true, true, true, true, true, true, true, true, true, true] rfl rfl (any_of HT_.out (by kernel_rfl)) (fun _ _ _ h => h) (Or.inl ⟨by rfl, ?_⟩) ?_ ?_
                                        rotate_left
                                        · intro w'
                                          go_simp
                                          with_reducible rfl
                                        rotate_left
                                        · simp only [Act.put, List.setIfInBounds_toArray, List.set_cons_zero, List.set_cons_succ, i64_w, i32_w]
                                          rfl
                                        refine done_ (done_of HT_.out (by kernel_rfl)) ?_
                                        try go_wp2
                                        go_roundg k3
                                        case measure => have := HJ15.out; have := HJ26.out; have := HK3.out; omega
                                        case rel => exact ⟨(wrap64 (x12_3 + 1)), (by first | rfl | (simp; done) | (simp [*]; done)), H', ⟨by have := HJ15.out; have := HJ26.out; have := HK3.out; omega⟩, ⟨by (with_reducible repeat (first | apply Kd.R_alloc | apply Kd.R_drewN | apply Kd.R_drew)); exact HO_5.out⟩, ⟨by repeat (first | (with_reducible first | exact HB.out | apply below_alloc | apply pw_below_drewN | apply below_drew1) | exact HB.out)⟩⟩
                                      · replace c54 := Bool.eq_false_iff.mpr c54
                                        subst c54
                                        have H1 : (some false) = some r := by rw [if_neg (show ¬ (false = true) by decide)] at H; exact H
                                        clear H
                                        have H := H1
                                        clear H1
                                        obtain rfl := Option.some.inj H
                                        try go_wp2
                                        have n0_ := Aside0.mk (Kd.R_drew HO_5.out)
                                        have n1_ := Aside0.mk (below_drew1 HB.out)
                                        clear HO_5
                                        clear HB
                                        have HO_5 := n0_
                                        have HB := n1_
                                        clear n0_ n1_
                                        have p1315 : 0 ≤ ((ji49) : Int) := of_decide_eq_true (by first | (with_reducible assumption) | assumption)
                                        have q1315 : (ji49) < (t1282.length : Int) := of_decide_eq_true (by first | (with_reducible assumption) | assumption)
                                        obtain ⟨ad1315, e1315, hx1315_0, hx1315_1, hx1315_2, hx1315_3⟩ := at_T113 (Kd.R_reads' HO_5.out).2.2 (ji49) p1315 q1315
                                        cases e1315
                                        replace p1315 := eq_true p1315
                                        replace q1315 := eq_true q1315
                                        have p1316 : 0 ≤ (x12_3 : Int) := of_decide_eq_true (by first | (with_reducible assumption) | assumption)
                                        have q1316 : x12_3 < (t1282.length : Int) := of_decide_eq_true (by first | (with_reducible assumption) | assumption)
                                        obtain ⟨ad1316, e1316, hx1316_0, hx1316_1, hx1316_2, hx1316_3⟩ := at_T113 (Kd.R_reads' HO_5.out).2.2 x12_3 p1316 q1316
                                        obtain rfl : ad1315 = ad1316 := (by injection e1316)
                                        replace p1316 := eq_true p1316
                                        replace q1316 := eq_true q1316
                                        refine start_ (n := 11) (S := fun w' => w'.cell? (ad1315.add (((ji49)).toNat * 4)) = some (.int .i64 ((rd_T113 t1282 (ji49)).f0)) ∧ w'.cell? ⟨(ad1315.add (((ji49)).toNat * 4)).block, (ad1315.add (((ji49)).toNat * 4)).off + 1, none⟩ = some (.int .u64 ((rd_T113 t1282 (ji49)).f1)) ∧ w'.cell? ⟨(ad1315.add (((ji49)).toNat * 4)).block, (ad1315.add (((ji49)).toNat * 4)).off + 2, none⟩ = some (.int .u64 ((rd_T113 t1282 (ji49)).f2)) ∧ w'.cell? ⟨(ad1315.add (((ji49)).toNat * 4)).block, (ad1315.add (((ji49)).toNat * 4)).off + 3, none⟩ = some (.int .i64 ((rd_T113 t1282 (ji49)).f3)) ∧ w'.cell? (ad1315.add ((x12_3).toNat * 4)) = some (.int .i64 ((rd_T113 t1282 x12_3).f0)) ∧ w'.cell? ⟨(ad1315.add ((x12_3).toNat * 4)).block, (ad1315.add ((x12_3).toNat * 4)).off + 1, none⟩ = some (.int .u64 ((rd_T113 t1282 x12_3).f1)) ∧ w'.cell? ⟨(ad1315.add ((x12_3).toNat * 4)).block, (ad1315.add ((x12_3).toNat * 4)).off + 2, none⟩ = some (.int .u64 ((rd_T113 t1282 x12_3).f2)) ∧ w'.cell? ⟨(ad1315.add ((x12_3).toNat * 4)).block, (ad1315.add ((x12_3).toNat * 4)).off + 3, none⟩ = some (.int .i64 ((rd_T113 t1282 x12_3).f3))) (ds := []) #[false, false, false, false, false, false, false, false, false, false, false] (by kernel_rfl) rfl rfl ⟨hx1315_0, hx1315_1, hx1315_2, hx1315_3, hx1316_0, hx1316_1, hx1316_2, hx1316_3⟩ (fun hHeld => ?_); refine with_tabW quittancelaw20_JournalOrder.tab18 quittancelaw20_JournalOrder.bits18 (fun HT_ HW_ => ?_)
                                        generalize wr.drew = w57 at HO_5 HB hx1315_0 hx1315_1 hx1315_2 hx1315_3 hx1316_0 hx1316_1 hx1316_2 hx1316_3 hHeld ⊢
                                        refine pure_ (i := 0) (N := some 96) (v := ?_) (a' := ?_) #[true, false, false, false, false, false, false, false, false, false, false] rfl rfl (any_of HT_.out (by kernel_rfl)) (fun _ _ _ h => h) (Or.inl ⟨by rfl, ?_⟩) ?_ ?_
                                        rotate_left
                                        · intro w'
                                          go_simp
                                          with_reducible rfl
                                        rotate_left
                                        · simp only [Act.put, List.setIfInBounds_toArray, List.set_cons_zero, List.set_cons_succ, i64_w, i32_w]
                                          rfl
                                        refine pure_ (i := 1) (N := some 97) (v := ?_) (a' := ?_) #[true, true, false, false, false, false, false, false, false, false, false] rfl rfl (any_of HT_.out (by kernel_rfl)) (fun _ _ _ h => h) (Or.inl ⟨by rfl, ?_⟩) ?_ ?_
                                        rotate_left
                                        · intro w'
                                          go_simp
                                          with_reducible rfl
                                        rotate_left
                                        · simp only [Act.put, List.setIfInBounds_toArray, List.set_cons_zero, List.set_cons_succ, i64_w, i32_w]
                                          rfl
                                        refine pure_ (i := 2) (N := some 98) (v := ?_) (a' := ?_) #[true, true, true, false, false, false, false, false, false, false, false] rfl rfl (any_of HT_.out (by kernel_rfl)) (fun _ _ _ h => h) (Or.inl ⟨by rfl, ?_⟩) ?_ ?_
                                        rotate_left
                                        · intro w'
                                          go_simp
                                          with_reducible rfl
                                        rotate_left
                                        · simp only [Act.put, List.setIfInBounds_toArray, List.set_cons_zero, List.set_cons_succ, i64_w, i32_w]
                                          rfl
                                        refine pure_ (i := 3) (N := some 99) (v := ?_) (a' := ?_) #[true, true, true, true, false, false, false, false, false, false, false] rfl rfl (any_of HT_.out (by kernel_rfl)) (fun _ _ _ h => h) (Or.inl ⟨by rfl, ?_⟩) ?_ ?_
                                        rotate_left
                                        · intro w'
                                          go_simp
                                          with_reducible rfl
                                        rotate_left
                                        · simp only [Act.put, List.setIfInBounds_toArray, List.set_cons_zero, List.set_cons_succ, i64_w, i32_w]
                                          rfl
                                        refine pure_ (i := 5) (N := some 101) (v := ?_) (a' := ?_) #[true, true, true, true, false, true, false, false, false, false, false] rfl rfl (any_of HT_.out (by kernel_rfl)) (fun _ _ _ h => h) (Or.inl ⟨by rfl, ?_⟩) ?_ ?_
                                        rotate_left
                                        · intro w'
                                          go_simp
                                          with_reducible rfl
                                        rotate_left
                                        · simp only [Act.put, List.setIfInBounds_toArray, List.set_cons_zero, List.set_cons_succ, i64_w, i32_w]
                                          rfl
                                        refine pure_ (i := 6) (N := some 102) (v := ?_) (a' := ?_) #[true, true, true, true, false, true, true, false, false, false, false] rfl rfl (any_of HT_.out (by kernel_rfl)) (fun _ _ _ h => h) (Or.inl ⟨by rfl, ?_⟩) ?_ ?_
                                        rotate_left
                                        · intro w'
                                          go_simp
                                          with_reducible rfl
                                        rotate_left
                                        · simp only [Act.put, List.setIfInBounds_toArray, List.set_cons_zero, List.set_cons_succ, i64_w, i32_w]
                                          rfl
                                        refine pure_ (i := 7) (N := some 103) (v := ?_) (a' := ?_) #[true, true, true, true, false, true, true, true, false, false, false] rfl rfl (any_of HT_.out (by kernel_rfl)) (fun _ _ _ h => h) (Or.inl ⟨by rfl, ?_⟩) ?_ ?_
                                        rotate_left
                                        · intro w'
                                          go_simp
                                          with_reducible rfl
                                        rotate_left
                                        · simp only [Act.put, List.setIfInBounds_toArray, List.set_cons_zero, List.set_cons_succ, i64_w, i32_w]
                                          rfl
                                        refine take_ (i := 4) (N := some 100) (v := ?_) (a' := ?_) #[true, true, true, true, true, true, true, true, false, false, false] rfl rfl (take_ofW HT_.out HW_.out (by kernel_rfl)) (fun _ _ _ h => h) (Or.inl ⟨by rfl, ?_⟩) hHeld ?_ ?_
                                        rotate_left
                                        · rintro w' ⟨s0, s1, s2, s3, s4, s5, s6, s7⟩
                                          go_simp
                                          with_reducible rfl
                                        rotate_left
                                        · simp only [Act.put, List.setIfInBounds_toArray, List.set_cons_zero, List.set_cons_succ, i64_w, i32_w]
                                          rfl
                                        refine take_ (i := 8) (N := some 104) (v := ?_) (a' := ?_) #[true, true, true, true, true, true, true, true, true, false, false] rfl rfl (take_ofW HT_.out HW_.out (by kernel_rfl)) (fun _ _ _ h => h) (Or.inl ⟨by rfl, ?_⟩) hHeld ?_ ?_
                                        rotate_left
                                        · rintro w' ⟨s0, s1, s2, s3, s4, s5, s6, s7⟩
                                          go_simp
                                          with_reducible rfl
                                        rotate_left
                                        · simp only [Act.put, List.setIfInBounds_toArray, List.set_cons_zero, List.set_cons_succ, i64_w, i32_w]
                                          rfl
                                        refine one_ (i := 9) (N := some 105) #[true, true, true, true, true, true, true, true, true, true, false] rfl rfl (one_of HT_.out (by kernel_rfl)) (by decide) (fun K hK => ?_)
                                        refine goes_ Try.func54 (by kernel_rfl) rfl #[.agg #[.int .i64 ((rd_T113 t1282 (ji49)).f0), .int .u64 ((rd_T113 t1282 (ji49)).f1), .int .u64 ((rd_T113 t1282 (ji49)).f2), .int .i64 ((rd_T113 t1282 (ji49)).f3)], .agg #[.int .i64 ((rd_T113 t1282 x12_3).f0), .int .u64 ((rd_T113 t1282 x12_3).f1), .int .u64 ((rd_T113 t1282 x12_3).f2), .int .i64 ((rd_T113 t1282 x12_3).f3)]] (by rfl) rfl rfl (by (try simp only [List.map_toArray, List.map_cons, List.map_nil]); first | done | (simp only [hji49]; rfl) | rfl | (simp only [List.length_drop, List.length_take]; rfl)) ?_
                                        with_reducible refine (quittanceref20_Less.calls ((rd_T113 t1282 (ji49)).f0) ((rd_T113 t1282 (ji49)).f1) ((rd_T113 t1282 (ji49)).f2) ((rd_T113 t1282 (ji49)).f3) ((rd_T113 t1282 x12_3).f0) ((rd_T113 t1282 x12_3).f1) ((rd_T113 t1282 x12_3).f2) ((rd_T113 t1282 x12_3).f3) false _ A53.out).mono ?_
                                        rintro e w58 ⟨rfl, hb⟩
                                        have HS0_ := (hb.cell (World.block_lt_of_cell? _ _ (hHeld.1))).trans (hHeld.1)
                                        have HS1_ := (hb.cell (World.block_lt_of_cell? _ _ (hHeld.2.1))).trans (hHeld.2.1)
                                        have HS2_ := (hb.cell (World.block_lt_of_cell? _ _ (hHeld.2.2.1))).trans (hHeld.2.2.1)
                                        have HS3_ := (hb.cell (World.block_lt_of_cell? _ _ (hHeld.2.2.2.1))).trans (hHeld.2.2.2.1)
                                        have HS4_ := (hb.cell (World.block_lt_of_cell? _ _ (hHeld.2.2.2.2.1))).trans (hHeld.2.2.2.2.1)
                                        have HS5_ := (hb.cell (World.block_lt_of_cell? _ _ (hHeld.2.2.2.2.2.1))).trans (hHeld.2.2.2.2.2.1)
                                        have HS6_ := (hb.cell (World.block_lt_of_cell? _ _ (hHeld.2.2.2.2.2.2.1))).trans (hHeld.2.2.2.2.2.2.1)
                                        have HS7_ := (hb.cell (World.block_lt_of_cell? _ _ (hHeld.2.2.2.2.2.2.2))).trans (hHeld.2.2.2.2.2.2.2)
                                        refine ⟨_, rfl, ?_⟩
                                        have n0_ := Aside0.mk (Kd.R_below (by (with_reducible repeat (first | apply Kd.R_alloc | apply Kd.R_drewN | apply Kd.R_drew)); exact HO_5.out) hb)
                                        have n1_ := Aside0.mk (below_step (by repeat (first | (with_reducible first | exact HB.out | apply below_alloc | apply pw_below_drewN | apply below_drew1) | exact HB.out)) hb)
                                        clear HO_5
                                        clear HB
                                        have HO_5 := n0_
                                        have HB := n1_
                                        clear n0_ n1_
                                        (try clear hb)
                                        (try clear hb2)
                                        (try clear hk)
                                        (try clear hi)
                                        refine hK.out _ _ ⟨HS0_, HS1_, HS2_, HS3_, HS4_, HS5_, HS6_, HS7_⟩ (fun hHeld => ?_)
                                        clear hK K
                                        refine norm_ (a' := ?_) ?_ ?_
                                        rotate_left
                                        · show Act.put _ (some 105) _ = _
                                          simp only [Act.put, List.setIfInBounds_toArray, List.set_cons_zero, List.set_cons_succ, i64_w, i32_w]
                                          rfl
                                        refine pure_ (i := 10) (N := some 106) (v := ?_) (a' := ?_) #[true, true, true, true, true, true, true, true, true, true, true] rfl rfl (any_of HT_.out (by kernel_rfl)) (fun _ _ _ h => h) (Or.inl ⟨by rfl, ?_⟩) ?_ ?_
                                        rotate_left
                                        · intro w'
                                          go_simp
                                          with_reducible rfl
                                        rotate_left
                                        · simp only [Act.put, List.setIfInBounds_toArray, List.set_cons_zero, List.set_cons_succ, i64_w, i32_w]
                                          rfl
                                        refine done_ (done_of HT_.out (by kernel_rfl)) ?_
                                        try go_wp2
                                        go_ret
                                        exact ⟨by first | rfl | (simp [errW_none, errW_some] <;> rfl) | (simp only [← hji49]; first | rfl | (simp [errW_none, errW_some] <;> rfl)) | (simp [*, errW_none, errW_some] <;> rfl), by repeat (first | (with_reducible first | exact HB.out | apply below_alloc | apply pw_below_drewN | apply below_drew1) | exact HB.out)⟩
                                    · rw [if_neg c52] at H
                                      exact absurd H (by simp)
                                  · rw [if_neg c51] at H
                                    exact absurd H (by simp)
                                · rw [if_neg c50] at H
                                  exact absurd H (by simp)
                              · rw [if_neg c48] at H
                                have c48b0 : decide (x12_3 < (t1282.length : Int)) = false := decide_eq_false c48
                                clear c48
                                have H' := Aside0.mk H
                                clear H
                                go_wp2
                                go_loopg [13] k3 (fun kq v13 w' => ∃ (x13_4 : Int), v13 = .int .i64 x13_4 ∧ Aside0 (quittancelaw20_JournalOrder.l1 kq l0 t1282 x13_4 = some r) ∧ Aside0 (kq ≤ k3) ∧ Aside0 (Kd.R k113 113 w' w.heap.size (fun _ => True) (.slice Ao37 t1282.length co37) t1282) ∧ Aside0 (Below w.heap.size w w'))
                                case atStart => exact ⟨(0), (by first | rfl | (simp; done) | (simp [*]; done)), H', ⟨Nat.le_refl _⟩, ⟨by (with_reducible repeat (first | apply Kd.R_alloc | apply Kd.R_drewN | apply Kd.R_drew)); exact HO_5.out⟩, ⟨by repeat (first | (with_reducible first | exact HB.out | apply below_alloc | apply pw_below_drewN | apply below_drew1) | exact HB.out)⟩⟩
                                case round =>
                                  clear H'
                                  try clear c1
                                  try clear p1
                                  try clear q1
                                  try clear hx1
                                  try clear c2
                                  try clear p2
                                  try clear q2
                                  try clear c3
                                  try clear c3b0
                                  try clear c3b1
                                  try clear q3
                                  try clear c4
                                  try clear c5
                                  try clear p6
                                  try clear c7
                                  try clear c7b0
                                  try clear c7b1
                                  try clear c8
                                  try clear c8b0
                                  try clear c8b1
                                  try clear c8b2
                                  try clear c9
                                  try clear c9b0
                                  try clear c9b1
                                  try clear c9b2
                                  try clear c11
                                  try clear p13
                                  try clear q13
                                  try clear hx13
                                  try clear c18
                                  try clear c18b0
                                  try clear c19
                                  try clear c19b0
                                  try clear c19b1
                                  try clear c20
                                  try clear c20b0
                                  try clear c20b1
                                  try clear c21
                                  try clear c22
                                  try clear c22b0
                                  try clear c23
                                  try clear c23b0
                                  try clear c24
                                  try clear c29
                                  try clear q29
                                  try clear q30
                                  try clear c39
                                  try clear c39b0
                                  try clear c39b1
                                  try clear c40
                                  try clear c40b0
                                  try clear c40b1
                                  try clear c42
                                  try clear c47
                                  try clear c48
                                  try clear c48b0
                                  try clear c50
                                  try clear c50b0
                                  try clear c51
                                  try clear c51b0
                                  try clear c52
                                  try clear c52b0
                                  try clear c54
                                  try clear hx1315_0
                                  try clear hx1315_1
                                  try clear hx1315_2
                                  try clear hx1315_3
                                  try clear hx1316_0
                                  try clear hx1316_1
                                  try clear hx1316_2
                                  try clear hx1316_3
                                  try clear p1315
                                  try clear p1316
                                  try clear p2
                                  try clear p6
                                  try clear q029
                                  try clear q1315
                                  try clear q1316
                                  try clear q2
                                  try clear q29
                                  try clear q3
                                  try clear q30
                                  obtain ⟨x13_4, rfl, HA, HK4, HO_5, HB⟩ := hrel
                                  cases gk with
                                  | zero => exact absurd HA.out (by simp [quittancelaw20_JournalOrder.l1])
                                  | succ k4 =>
                                    have H := HA.out
                                    clear HA
                                    simp only [quittancelaw20_JournalOrder.l1] at H
                                    by_cases c59 : x13_4 < (l0.length : Int)
                                    · rw [if_pos c59] at H
                                      have c59b0 : decide (x13_4 < (l0.length : Int)) = true := decide_eq_true c59
                                      clear c59
                                      by_cases c60 : 0 ≤ x13_4
                                      · rw [if_pos c60] at H
                                        have c60b0 : decide (0 ≤ x13_4) = true := decide_eq_true c60
                                        clear c60
                                        replace H := Option.bind_eq_some_iff.mp H
                                        obtain ⟨⟨t1319, t1320⟩, A610, H⟩ := H
                                        replace H : ((quittancelaw20_of.f k4 t1282 ((rd_T113 l0 x13_4).f0) ((rd_T113 l0 x13_4).f1) ((rd_T113 l0 x13_4).f2) ((rd_T113 l0 x13_4).f3)).bind fun bt1322 => (if t1320 = true then (if bt1322.2 = true then (quittancelaw20_JournalOrder.j4 k4 l0 t1282 x13_4 (t1319 != bt1322.1)) else (quittancelaw20_JournalOrder.j4 k4 l0 t1282 x13_4 true)) else (quittancelaw20_JournalOrder.j4 k4 l0 t1282 x13_4 true))) = some r := H
                                        have A61 := Aside0.mk A610
                                        clear A610
                                        replace H := Option.bind_eq_some_iff.mp H
                                        obtain ⟨⟨t1322, t1323⟩, A620, H⟩ := H
                                        replace H : (if t1320 = true then (if t1323 = true then (quittancelaw20_JournalOrder.j4 k4 l0 t1282 x13_4 (t1319 != t1322)) else (quittancelaw20_JournalOrder.j4 k4 l0 t1282 x13_4 true)) else (quittancelaw20_JournalOrder.j4 k4 l0 t1282 x13_4 true)) = some r := H
                                        have A62 := Aside0.mk A620
                                        clear A620
                                        have HC63 := Aside0.mk H
                                        clear H
                                        have p1318 : 0 ≤ (x13_4 : Int) := of_decide_eq_true (by first | (with_reducible assumption) | assumption)
                                        have q1318 : x13_4 < (l0.length : Int) := of_decide_eq_true (by first | (with_reducible assumption) | assumption)
                                        obtain ⟨ad1318, e1318, hx1318_0, hx1318_1, hx1318_2, hx1318_3⟩ := at_T113 HR0.out x13_4 p1318 q1318
                                        cases e1318
                                        replace hx1318_0 := (HB.out.cell (World.block_lt_of_cell? w _ hx1318_0)).trans hx1318_0
                                        replace hx1318_1 := (HB.out.cell (World.block_lt_of_cell? w _ hx1318_1)).trans hx1318_1
                                        replace hx1318_2 := (HB.out.cell (World.block_lt_of_cell? w _ hx1318_2)).trans hx1318_2
                                        replace hx1318_3 := (HB.out.cell (World.block_lt_of_cell? w _ hx1318_3)).trans hx1318_3
                                        replace p1318 := eq_true p1318
                                        replace q1318 := eq_true q1318
                                        go_upto_region 25 with (first | ((with_reducible refine gate_callee (f := 55) rfl ?_); refine goesL_ (some 119) rfl rfl Try.func55 (by kernel_rfl) rfl #[.slice (some ad1318) l0.length c0, .agg #[.int .i64 ((rd_T113 l0 x13_4).f0), .int .u64 ((rd_T113 l0 x13_4).f1), .int .u64 ((rd_T113 l0 x13_4).f2), .int .i64 ((rd_T113 l0 x13_4).f3)]] rfl (by (try simp only [List.map_toArray, List.map_cons, List.map_nil]); first | done | rfl | (simp only [List.length_drop, List.length_take]; rfl)) ?_; (with_reducible refine (quittancelaw20_of.calls k4 _ _ l0 ((rd_T113 l0 x13_4).f0) ((rd_T113 l0 x13_4).f1) ((rd_T113 l0 x13_4).f2) ((rd_T113 l0 x13_4).f3) t1319 t1320 _ ?side1 ?side2 A61.out).mono ?_); (case side1 => repeat (first | exact (Kd.C_below HR0.out HB.out) | (with_reducible refine Kd.C_alloc ?_ _) | (with_reducible refine Kd.C_drewN ?_ _) | (with_reducible refine Kd.C_drew ?_))); (case side2 => exact HC0.out); rintro e w64 ⟨rfl, hb⟩; refine ⟨_, rfl, ?_⟩; have n0_ := Aside0.mk (Kd.R_below (by (with_reducible repeat (first | apply Kd.R_alloc | apply Kd.R_drewN | apply Kd.R_drew)); exact HO_5.out) hb); have n1_ := Aside0.mk (below_step (by repeat (first | (with_reducible first | exact HB.out | apply below_alloc | apply pw_below_drewN | apply below_drew1) | exact HB.out)) hb); clear HO_5; clear HB; have HO_5 := n0_; have HB := n1_; clear n0_ n1_; (try clear hb); (try clear hb2); (try clear hk); (try clear hi); have p1321 : 0 ≤ (x13_4 : Int) := of_decide_eq_true (by first | (with_reducible assumption) | assumption); have q1321 : x13_4 < (l0.length : Int) := of_decide_eq_true (by first | (with_reducible assumption) | assumption); obtain ⟨ad1321, e1321, hx1321_0, hx1321_1, hx1321_2, hx1321_3⟩ := at_T113 HR0.out x13_4 p1321 q1321; obtain rfl : ad1318 = ad1321 := (by injection e1321); replace hx1321_0 := (HB.out.cell (World.block_lt_of_cell? w _ hx1321_0)).trans hx1321_0; replace hx1321_1 := (HB.out.cell (World.block_lt_of_cell? w _ hx1321_1)).trans hx1321_1; replace hx1321_2 := (HB.out.cell (World.block_lt_of_cell? w _ hx1321_2)).trans hx1321_2; replace hx1321_3 := (HB.out.cell (World.block_lt_of_cell? w _ hx1321_3)).trans hx1321_3; replace p1321 := eq_true p1321; replace q1321 := eq_true q1321) | ((with_reducible refine gate_callee (f := 55) rfl ?_); refine goesL_ (some 128) rfl rfl Try.func55 (by kernel_rfl) rfl #[.slice Ao37 t1282.length co37, .agg #[.int .i64 ((rd_T113 l0 x13_4).f0), .int .u64 ((rd_T113 l0 x13_4).f1), .int .u64 ((rd_T113 l0 x13_4).f2), .int .i64 ((rd_T113 l0 x13_4).f3)]] rfl (by (try simp only [List.map_toArray, List.map_cons, List.map_nil]); first | done | rfl | (simp only [List.length_drop, List.length_take]; rfl)) ?_; (with_reducible refine (quittancelaw20_of.calls k4 _ _ t1282 ((rd_T113 l0 x13_4).f0) ((rd_T113 l0 x13_4).f1) ((rd_T113 l0 x13_4).f2) ((rd_T113 l0 x13_4).f3) t1322 t1323 _ ?side1 ?side2 A62.out).mono ?_); (case side1 => repeat (first | exact (Kd.R_reads' HO_5.out).2.2 | (with_reducible refine Kd.C_alloc ?_ _) | (with_reducible refine Kd.C_drewN ?_ _) | (with_reducible refine Kd.C_drew ?_))); (case side2 => exact (Kd.R_reads' HO_5.out).2.1); rintro e w65 ⟨rfl, hb⟩; refine ⟨_, rfl, ?_⟩; have n0_ := Aside0.mk (Kd.R_below (by (with_reducible repeat (first | apply Kd.R_alloc | apply Kd.R_drewN | apply Kd.R_drew)); exact HO_5.out) hb); have n1_ := Aside0.mk (below_step (by repeat (first | (with_reducible first | exact HB.out | apply below_alloc | apply pw_below_drewN | apply below_drew1) | exact HB.out)) hb); clear HO_5; clear HB; have HO_5 := n0_; have HB := n1_; clear n0_ n1_; (try clear hb); (try clear hb2); (try clear hk); (try clear hi)))
                                        (try simp only [Act.put, List.setIfInBounds_toArray, List.set_cons_zero, List.set_cons_succ])
                                        go_cut [141] (fun v141 wc => ∃ (kq : Nat) (x141_62 : Bool), v141 = .bool x141_62 ∧ Aside0 (quittancelaw20_JournalOrder.j4 kq l0 t1282 x13_4 x141_62 = some r) ∧ Aside0 (kq ≤ k4) ∧ Aside0 (Kd.R k113 113 wc w.heap.size (fun _ => True) (.slice Ao37 t1282.length co37) t1282) ∧ Aside0 (Below w.heap.size w wc))
                                        case first =>
                                          have H := HC63.out
                                          clear HC63
                                          by_cases c66 : t1320 = true
                                          · subst c66
                                            have H1 : (if t1323 = true then (quittancelaw20_JournalOrder.j4 k4 l0 t1282 x13_4 (t1319 != t1322)) else (quittancelaw20_JournalOrder.j4 k4 l0 t1282 x13_4 true)) = some r := by rw [if_pos rfl] at H; exact H
                                            clear H
                                            have H := H1
                                            clear H1
                                            by_cases c67 : t1323 = true
                                            · subst c67
                                              have H1 : (quittancelaw20_JournalOrder.j4 k4 l0 t1282 x13_4 (t1319 != t1322)) = some r := by rw [if_pos rfl] at H; exact H
                                              clear H
                                              have H := H1
                                              clear H1
                                              have H' := Aside0.mk H
                                              clear H
                                              go_wp2
                                              go_meet
                                              case rel => exact ⟨_, ((t1319 != t1322)), (by first | rfl | (simp; done) | (simp [*]; done)), H', ⟨by have := HJ15.out; have := HJ26.out; have := HK3.out; have := HK4.out; first | omega | exact Nat.le_refl _⟩, ⟨by (with_reducible repeat (first | apply Kd.R_alloc | apply Kd.R_drewN | apply Kd.R_drew)); exact HO_5.out⟩, ⟨by repeat (first | (with_reducible first | exact HB.out | apply below_alloc | apply pw_below_drewN | apply below_drew1) | exact HB.out)⟩⟩
                                            · replace c67 := Bool.eq_false_iff.mpr c67
                                              subst c67
                                              have H1 : (quittancelaw20_JournalOrder.j4 k4 l0 t1282 x13_4 true) = some r := by rw [if_neg (show ¬ (false = true) by decide)] at H; exact H
                                              clear H
                                              have H := H1
                                              clear H1
                                              have H' := Aside0.mk H
                                              clear H
                                              go_wp2
                                              go_meet
                                              case rel => exact ⟨_, (true), (by first | rfl | (simp; done) | (simp [*]; done)), H', ⟨by have := HJ15.out; have := HJ26.out; have := HK3.out; have := HK4.out; first | omega | exact Nat.le_refl _⟩, ⟨by (with_reducible repeat (first | apply Kd.R_alloc | apply Kd.R_drewN | apply Kd.R_drew)); exact HO_5.out⟩, ⟨by repeat (first | (with_reducible first | exact HB.out | apply below_alloc | apply pw_below_drewN | apply below_drew1) | exact HB.out)⟩⟩
                                          · replace c66 := Bool.eq_false_iff.mpr c66
                                            subst c66
                                            have H1 : (quittancelaw20_JournalOrder.j4 k4 l0 t1282 x13_4 true) = some r := by rw [if_neg (show ¬ (false = true) by decide)] at H; exact H
                                            clear H
                                            have H := H1
                                            clear H1
                                            have H' := Aside0.mk H
                                            clear H
                                            go_wp2
                                            go_meet
                                            case rel => exact ⟨_, (true), (by first | rfl | (simp; done) | (simp [*]; done)), H', ⟨by have := HJ15.out; have := HJ26.out; have := HK3.out; have := HK4.out; first | omega | exact Nat.le_refl _⟩, ⟨by (with_reducible repeat (first | apply Kd.R_alloc | apply Kd.R_drewN | apply Kd.R_drew)); exact HO_5.out⟩, ⟨by repeat (first | (with_reducible first | exact HB.out | apply below_alloc | apply pw_below_drewN | apply below_drew1) | exact HB.out)⟩⟩
                                        case rest =>
                                          clear HC63
                                          try clear c1
                                          try clear p1
                                          try clear q1
                                          try clear hx1
                                          try clear c2
                                          try clear p2
                                          try clear q2
                                          try clear c3
                                          try clear c3b0
                                          try clear c3b1
                                          try clear q3
                                          try clear c4
                                          try clear c5
                                          try clear c6
                                          try clear p6
                                          try clear c7
                                          try clear c7b0
                                          try clear c7b1
                                          try clear c8
                                          try clear c8b0
                                          try clear c8b1
                                          try clear c8b2
                                          try clear c9
                                          try clear c9b0
                                          try clear c9b1
                                          try clear c9b2
                                          try clear c11
                                          try clear p13
                                          try clear q13
                                          try clear hx13
                                          try clear c18
                                          try clear c18b0
                                          try clear c19
                                          try clear c19b0
                                          try clear c19b1
                                          try clear c20
                                          try clear c20b0
                                          try clear c20b1
                                          try clear c21
                                          try clear c22
                                          try clear c22b0
                                          try clear c23
                                          try clear c23b0
                                          try clear c24
                                          try clear c29
                                          try clear q29
                                          try clear q30
                                          try clear c39
                                          try clear c39b0
                                          try clear c39b1
                                          try clear c40
                                          try clear c40b0
                                          try clear c40b1
                                          try clear c42
                                          try clear c47
                                          try clear c48
                                          try clear c48b0
                                          try clear c50
                                          try clear c50b0
                                          try clear c51
                                          try clear c51b0
                                          try clear c52
                                          try clear c52b0
                                          try clear c54
                                          try clear c55
                                          try clear c59
                                          try clear c59b0
                                          try clear c60
                                          try clear c60b0
                                          try clear p64
                                          try clear c66
                                          try clear c67
                                          try clear hx1315_0
                                          try clear hx1315_1
                                          try clear hx1315_2
                                          try clear hx1315_3
                                          try clear hx1316_0
                                          try clear hx1316_1
                                          try clear hx1316_2
                                          try clear hx1316_3
                                          try clear hx1318_0
                                          try clear hx1318_1
                                          try clear hx1318_2
                                          try clear hx1318_3
                                          try clear hx1321_0
                                          try clear hx1321_1
                                          try clear hx1321_2
                                          try clear hx1321_3
                                          try clear p1
                                          try clear p13
                                          try clear p1315
                                          try clear p1316
                                          try clear p1318
                                          try clear p1321
                                          try clear p2
                                          try clear p6
                                          try clear q029
                                          try clear q1
                                          try clear q13
                                          try clear q1315
                                          try clear q1316
                                          try clear q1318
                                          try clear q1321
                                          try clear q2
                                          try clear q29
                                          try clear q3
                                          try clear q30
                                          obtain ⟨kq, x141_62, rfl, HA, HJ62, HO_5, HB⟩ := hcut
                                          cases kq with
                                          | zero => exact absurd HA.out (by simp [quittancelaw20_JournalOrder.j4])
                                          | succ kj62 =>
                                            have H := HA.out
                                            clear HA
                                            simp only [quittancelaw20_JournalOrder.j4] at H
                                            by_cases c68 : x141_62 = true
                                            · subst c68
                                              have H1 : (some false) = some r := by rw [if_pos rfl] at H; exact H
                                              clear H
                                              have H := H1
                                              clear H1
                                              obtain rfl := Option.some.inj H
                                              go_wp2
                                              go_ret
                                              exact ⟨by first | rfl | (simp [errW_none, errW_some] <;> rfl) | (simp [*, errW_none, errW_some] <;> rfl), by repeat (first | (with_reducible first | exact HB.out | apply below_alloc | apply pw_below_drewN | apply below_drew1) | exact HB.out)⟩
                                            · replace c68 := Bool.eq_false_iff.mpr c68
                                              subst c68
                                              have H1 : (quittancelaw20_JournalOrder.l1 kj62 l0 t1282 (wrap64 (x13_4 + 1))) = some r := by rw [if_neg (show ¬ (false = true) by decide)] at H; exact H
                                              clear H
                                              have H := H1
                                              clear H1
                                              have H' := Aside0.mk H
                                              clear H
                                              go_wp2
                                              go_roundg kj62
                                              case measure => have := HJ15.out; have := HJ26.out; have := HK3.out; have := HK4.out; have := HJ62.out; omega
                                              case rel => exact ⟨(wrap64 (x13_4 + 1)), (by first | rfl | (simp; done) | (simp [*]; done)), H', ⟨by have := HJ15.out; have := HJ26.out; have := HK3.out; have := HK4.out; have := HJ62.out; omega⟩, ⟨by (with_reducible repeat (first | apply Kd.R_alloc | apply Kd.R_drewN | apply Kd.R_drew)); exact HO_5.out⟩, ⟨by repeat (first | (with_reducible first | exact HB.out | apply below_alloc | apply pw_below_drewN | apply below_drew1) | exact HB.out)⟩⟩
                                      · rw [if_neg c60] at H
                                        exact absurd H (by simp)
                                    · rw [if_neg c59] at H
                                      have c59b0 : decide (x13_4 < (l0.length : Int)) = false := decide_eq_false c59
                                      clear c59
                                      replace H := Option.bind_eq_some_iff.mp H
                                      obtain ⟨t1324, A690, H⟩ := H
                                      replace H : (some t1324) = some r := H
                                      have A69 := Aside0.mk A690
                                      clear A690
                                      obtain rfl := Option.some.inj H
                                      go_wp2_with (first | ((with_reducible refine gate_callee (f := 50) rfl ?_); refine goesL_ (some 142) rfl rfl Try.func50 (by kernel_rfl) rfl #[] rfl (by (try simp only [List.map_toArray, List.map_cons, List.map_nil]); first | done | rfl | (simp only [List.length_drop, List.length_take]; rfl)) ?_; (with_reducible refine (quittancelaw20_head.calls  t1324 _ A69.out).mono ?_); rintro e w70 ⟨rfl, hb⟩; refine ⟨_, rfl, ?_⟩; have n0_ := Aside0.mk (Kd.R_below (by (with_reducible repeat (first | apply Kd.R_alloc | apply Kd.R_drewN | apply Kd.R_drew)); exact HO_5.out) hb); have n1_ := Aside0.mk (below_step (by repeat (first | (with_reducible first | exact HB.out | apply below_alloc | apply pw_below_drewN | apply below_drew1) | exact HB.out)) hb); clear HO_5; clear HB; have HO_5 := n0_; have HB := n1_; clear n0_ n1_; (try clear hb); (try clear hb2); (try clear hk); (try clear hi)))
                                      go_ret
                                      exact ⟨by first | rfl | (simp [errW_none, errW_some] <;> rfl) | (simp [*, errW_none, errW_some] <;> rfl), by repeat (first | (with_reducible first | exact HB.out | apply below_alloc | apply pw_below_drewN | apply below_drew1) | exact HB.out)⟩
                  · rw [if_neg c24] at H
                    exact absurd H (by simp)
                · rw [if_neg c21] at H
                  exact absurd H (by simp)
              · rw [if_neg c20] at H
                exact absurd H (by simp)
            · rw [if_neg c19] at H
              exact absurd H (by simp)
    · rw [if_neg c7] at H
      have c7b0 : (t1283 == 0) = false := beq_eq_false_iff_ne.mpr c7
      have c7b1 : (t1283 != 0) = true := bne_iff_ne.mpr c7
      by_cases c71 : (t1282.length : Int) = 0
      · rw [if_pos c71] at H
        have c71b0 : ((t1282.length : Int) == 0) = true := beq_iff_eq.mpr c71
        have c71b1 : ((t1282.length : Int) != 0) = false := bne_eq_false_iff_eq.mpr c71
        clear c71
        replace H := Option.bind_eq_some_iff.mp H
        obtain ⟨t1286, A720, H⟩ := H
        replace H : (some t1286) = some r := H
        have A72 := Aside0.mk A720
        clear A720
        obtain rfl := Option.some.inj H
        go_enter Try.func11, Try.ntmps11
        go_wp2_with (first | ((with_reducible refine gate_callee (f := 51) rfl ?_); refine goesL_ (some 24) rfl rfl Try.func51 (by kernel_rfl) rfl #[.slice A0 l0.length c0] rfl (by (try simp only [List.map_toArray, List.map_cons, List.map_nil]); first | done | rfl | (simp only [List.length_drop, List.length_take]; rfl)) ?_; (with_reducible refine (journal_Tidy.calls _ _ l0 t1282 t1283 _ ?side1 ?side2 A6.out).mono ?_); (case side1 => repeat (first | exact HR0.out | (with_reducible refine Kd.C_alloc ?_ _) | (with_reducible refine Kd.C_drewN ?_ _) | (with_reducible refine Kd.C_drew ?_))); (case side2 => exact HC0.out); rintro e w73 ⟨v1284, rfl, ho0, hb⟩; refine ⟨_, rfl, ?_⟩; have n0_ := Aside0.mk (Kd.R_lower ho0 (below_size (by repeat (first | (with_reducible first | exact HB.out | apply below_alloc | apply pw_below_drewN | apply below_drew1) | exact HB.out)))); have n1_ := Aside0.mk (below_step (by repeat (first | (with_reducible first | exact HB.out | apply below_alloc | apply pw_below_drewN | apply below_drew1) | exact HB.out)) hb); clear HB; have HO1285 := n0_; have HB := n1_; clear n0_ n1_; (try clear hb); (try clear hb2); (try clear hk); (try clear hi); (try clear ho0); obtain ⟨Ao74, co74, eo74⟩ := Kd.R_slice HO1285.out; subst eo74) | (go_at_call 50; (with_reducible refine (quittancelaw20_head.calls  t1286 _ A72.out).mono ?_); rintro e w75 ⟨rfl, hb⟩; have n0_ := Aside0.mk (Kd.R_below (by (with_reducible repeat (first | apply Kd.R_alloc | apply Kd.R_drewN | apply Kd.R_drew)); exact HO1285.out) hb); have n1_ := Aside0.mk (below_step (by repeat (first | (with_reducible first | exact HB.out | apply below_alloc | apply pw_below_drewN | apply below_drew1) | exact HB.out)) hb); clear HO1285; clear HB; have HO1285 := n0_; have HB := n1_; clear n0_ n1_; (try clear hb); (try clear hb2); (try clear hk); (try clear hi)))
        go_ret
        exact ⟨by first | rfl | (simp [errW_none, errW_some] <;> rfl) | (simp [*, errW_none, errW_some] <;> rfl), by repeat (first | (with_reducible first | exact HB.out | apply below_alloc | apply pw_below_drewN | apply below_drew1) | exact HB.out)⟩
      · rw [if_neg c71] at H
        have c71b0 : ((t1282.length : Int) == 0) = false := beq_eq_false_iff_ne.mpr c71
        have c71b1 : ((t1282.length : Int) != 0) = true := bne_iff_ne.mpr c71
        have c71b2 : ¬ (t1282 = []) := fun h_ => c71 (by rw [h_]; rfl)
        obtain rfl := Option.some.inj H
        go_enter Try.func11, Try.ntmps11
        go_wp2_with (first | ((with_reducible refine gate_callee (f := 51) rfl ?_); refine goesL_ (some 24) rfl rfl Try.func51 (by kernel_rfl) rfl #[.slice A0 l0.length c0] rfl (by (try simp only [List.map_toArray, List.map_cons, List.map_nil]); first | done | rfl | (simp only [List.length_drop, List.length_take]; rfl)) ?_; (with_reducible refine (journal_Tidy.calls _ _ l0 t1282 t1283 _ ?side1 ?side2 A6.out).mono ?_); (case side1 => repeat (first | exact HR0.out | (with_reducible refine Kd.C_alloc ?_ _) | (with_reducible refine Kd.C_drewN ?_ _) | (with_reducible refine Kd.C_drew ?_))); (case side2 => exact HC0.out); rintro e w76 ⟨v1284, rfl, ho0, hb⟩; refine ⟨_, rfl, ?_⟩; have n0_ := Aside0.mk (Kd.R_lower ho0 (below_size (by repeat (first | (with_reducible first | exact HB.out | apply below_alloc | apply pw_below_drewN | apply below_drew1) | exact HB.out)))); have n1_ := Aside0.mk (below_step (by repeat (first | (with_reducible first | exact HB.out | apply below_alloc | apply pw_below_drewN | apply below_drew1) | exact HB.out)) hb); clear HB; have HO1285 := n0_; have HB := n1_; clear n0_ n1_; (try clear hb); (try clear hb2); (try clear hk); (try clear hi); (try clear ho0); obtain ⟨Ao77, co77, eo77⟩ := Kd.R_slice HO1285.out; subst eo77))
        go_ret
        exact ⟨by first | rfl | (simp [errW_none, errW_some] <;> rfl) | (simp [*, errW_none, errW_some] <;> rfl), by repeat (first | (with_reducible first | exact HB.out | apply below_alloc | apply pw_below_drewN | apply below_drew1) | exact HB.out)⟩

end Go.Proofs.Ytaoejonkiikhmaa.G

/- JournalOrder in plain Lean: the printed law answers true at any lines and any turn. -/
namespace Go.Proofs.Ytaoejonkiikhmaa.G
open Go.RowKit Go.Proofs.YtaoejonkiikhmaaW.PrintWords Go.Proofs.YtaoejonkiikhmaaW.PrintLast Go.Proofs.YtaoejonkiikhmaaW.PrintMore
set_option linter.unusedVariables false
set_option linter.unusedSimpArgs false
--CUT
theorem of_l0 (l : List Line) (hl : l.length ≤ 1000000) (hok : l.all okL = true) (x : Line) : ∀ (r pre : List Line), pre ++ r = l →
    Ev (fun k => quittancelaw20_of.l0 k l (amts (pre.filter fun z => decide (keyT z = keyT x))) (pre.length : Int) x.f0 x.f1 x.f2 x.f3) (sumR (gsum l (keyT x)))
  | [], pre, h => by
    rw [List.append_nil] at h
    subst h
    refine Ev.step (f := fun _ => some (sumR (gsum pre (keyT x)))) (fun k => ?_) (Ev.now _)
    have hs : arith_Sum.f (amts (pre.filter fun z => decide (keyT z = keyT x))) = some (sumR (gsum pre (keyT x))) := by
      unfold arith_Sum.f
      rw [if_pos, own_sum]
      refine amts_ok ?_
      rw [List.all_eq_true]
      intro y hy
      exact List.all_eq_true.1 hok y (List.mem_filter.1 hy).1
    simp only [quittancelaw20_of.l0]
    rw [if_neg (not_lt_end _), hs]
    rfl
  | y :: r, pre, h => by
    have ih := of_l0 l hl hok x r (pre ++ [y]) (by rw [← h]; simp)
    have hy : rd_T113 l (pre.length : Int) = y := by rw [← h]; exact rdL_mid pre y r
    have hlt : (pre.length : Int) < (l.length : Int) := by rw [← h]; exact mid_lt pre y r
    have hnx : wrap64 ((pre.length : Int) + 1) = ((pre ++ [y]).length : Int) := mid_next pre y r (by rw [h]; exact hl)
    have hlen : (amts (pre.filter fun z => decide (keyT z = keyT x))).length < 17592186044416 := by
      have h1 := List.length_filter_le (fun z => decide (keyT z = keyT x)) pre
      have h2 : l.length = pre.length + (r.length + 1) := by rw [← h]; simp
      simp [amts]; omega
    by_cases he : keyT y = keyT x
    · rw [own_snoc_yes he] at ih
      have hk : y.f0 = x.f0 ∧ y.f1 = x.f1 ∧ y.f2 = x.f2 := by simpa [keyT] using he
      refine Ev.step (f := fun k => quittancelaw20_of.j1 k l (amts (pre.filter fun z => decide (keyT z = keyT x))) (pre.length : Int) true x.f0 x.f1 x.f2 x.f3) (fun k => ?_) (Ev.step (fun k => ?_) ih)
      · simp only [quittancelaw20_of.l0]
        rw [if_pos hlt, if_pos (by omega), hy, if_pos hk.1, if_pos hk.2.1, hk.2.2]
        simp
      · simp only [quittancelaw20_of.j1]
        rw [if_pos trivial, if_pos (by omega), if_pos hlt, if_pos hlen, hy, hnx]
        simp [amts]
    · rw [own_snoc_no he] at ih
      refine Ev.step (f := fun k => quittancelaw20_of.j1 k l (amts (pre.filter fun z => decide (keyT z = keyT x))) (pre.length : Int) false x.f0 x.f1 x.f2 x.f3) (fun k => ?_) (Ev.step (fun k => ?_) ih)
      · simp only [quittancelaw20_of.l0]
        rw [if_pos hlt, if_pos (by omega), hy]
        by_cases h0 : y.f0 = x.f0
        · rw [if_pos h0]
          by_cases h1 : y.f1 = x.f1
          · rw [if_pos h1]
            have h2 : (y.f2 == x.f2) = false := by
              rw [beq_eq_false_iff_ne]
              intro h2
              exact he (by simp [keyT, h0, h1, h2])
            rw [h2]
          · rw [if_neg h1]
        · rw [if_neg h0]
      · simp only [quittancelaw20_of.j1]
        rw [if_neg (by simp), hnx]
theorem of_ev (l : List Line) (hl : l.length ≤ 1000000) (hok : l.all okL = true) (x : Line) : Ev (fun k => quittancelaw20_of.f k l x.f0 x.f1 x.f2 x.f3) (sumR (gsum l (keyT x))) :=
  of_l0 l hl hok x l [] rfl

theorem order_l1 (l a : List Line) (hl : l.length ≤ 1000000) (hal : a.length ≤ 1000000) (hok : l.all okL = true) (hoa : a.all okL = true) (hs : ∀ x ∈ l, gsum a (keyT x) = gsum l (keyT x) ∧ i64ok (gsum l (keyT x)) = true) :
    ∀ (r pre : List Line), pre ++ r = l → Ev (fun k => quittancelaw20_JournalOrder.l1 k l a (pre.length : Int)) true
  | [], pre, h => by
    rw [List.append_nil] at h
    subst h
    refine Ev.step (f := fun _ => some true) (fun k => ?_) (Ev.now _)
    simp only [quittancelaw20_JournalOrder.l1]
    rw [if_neg (not_lt_end _), head20_f]
    rfl
  | x :: r, pre, h => by
    have ih := order_l1 l a hl hal hok hoa hs r (pre ++ [x]) (by rw [← h]; simp)
    have hx : rd_T113 l (pre.length : Int) = x := by rw [← h]; exact rdL_mid pre x r
    have hlt : (pre.length : Int) < (l.length : Int) := by rw [← h]; exact mid_lt pre x r
    have hnx : wrap64 ((pre.length : Int) + 1) = ((pre ++ [x]).length : Int) := mid_next pre x r (by rw [h]; exact hl)
    obtain ⟨h1, h2⟩ := hs x (by rw [← h]; simp)
    have hsr : sumR (gsum l (keyT x)) = (gsum l (keyT x), true) := by unfold sumR; rw [if_pos h2]
    have o1 := of_ev l hl hok x
    have o2 := of_ev a hal hoa x
    rw [h1] at o2
    rw [hsr] at o1 o2
    refine Ev.step (f := fun k => (quittancelaw20_of.f k l x.f0 x.f1 x.f2 x.f3).bind fun bt1319 => ((quittancelaw20_of.f k a x.f0 x.f1 x.f2 x.f3).bind fun bt1322 => (if bt1319.2 = true then (if bt1322.2 = true then (quittancelaw20_JournalOrder.j4 k l a (pre.length : Int) (bt1319.1 != bt1322.1)) else (quittancelaw20_JournalOrder.j4 k l a (pre.length : Int) true)) else (quittancelaw20_JournalOrder.j4 k l a (pre.length : Int) true)))) (fun k => ?_) (Ev.bind o1 (Ev.bind o2 ?_))
    · simp only [quittancelaw20_JournalOrder.l1]
      rw [if_pos hlt, if_pos (by omega), hx]
    · refine Ev.congr (f := fun k => quittancelaw20_JournalOrder.j4 k l a (pre.length : Int) false) (fun k => by simp) (Ev.step (fun k => ?_) ih)
      simp only [quittancelaw20_JournalOrder.j4]
      rw [if_neg (by simp), hnx]
theorem order_l0 (l a : List Line) (hl : l.length ≤ 1000000) (hal : a.length ≤ 1000000) (hok : l.all okL = true) (hoa : a.all okL = true) (hs : ∀ x ∈ l, gsum a (keyT x) = gsum l (keyT x) ∧ i64ok (gsum l (keyT x)) = true) (hord : Ordered a) :
    ∀ (r pre : List Line) (y : Line), pre ++ y :: r = a → Ev (fun k => quittancelaw20_JournalOrder.l0 k l a ((pre.length : Int) + 1)) true
  | [], pre, y, h => by
    refine Ev.step (f := fun k => quittancelaw20_JournalOrder.l1 k l a 0) (fun k => ?_) (order_l1 l a hl hal hok hoa hs l [] rfl)
    simp only [quittancelaw20_JournalOrder.l0]
    have hlen : a.length = pre.length + 1 := by rw [← h]; simp
    rw [if_neg (by omega)]
  | x :: r, pre, y, h => by
    have ih := order_l0 l a hl hal hok hoa hs hord r (pre ++ [y]) x (by rw [← h]; simp)
    have hy : rd_T113 a (pre.length : Int) = y := by rw [← h]; exact rdL_mid pre y (x :: r)
    have hx : rd_T113 a ((pre ++ [y]).length : Int) = x := by
      have := rdL_mid (pre ++ [y]) x r
      rw [← h]
      rwa [List.append_assoc] at this
    have hlen : a.length = pre.length + (r.length + 2) := by rw [← h]; simp
    have hw : wrap64 ((pre.length : Int) + 1 - 1) = (pre.length : Int) := by unfold wrap64; omega
    have hl2 : ((pre ++ [y]).length : Int) = (pre.length : Int) + 1 := by simp
    have hw2 : wrap64 ((pre.length : Int) + 1 + 1) = ((pre ++ [y]).length : Int) + 1 := by rw [hl2]; unfold wrap64; omega
    have hlt : ltT (keyT y) (keyT x) := by
      rw [← h] at hord
      have := (List.pairwise_append.1 hord).2.1
      exact (List.pairwise_cons.1 this).1 x List.mem_cons_self
    refine Ev.step (fun k => ?_) ih
    simp only [quittancelaw20_JournalOrder.l0]
    rw [if_pos (by omega), hw, if_pos (by omega), if_pos (by omega), if_pos (by omega), hy, ← hl2, hx, less_f, Option.bind_some, if_pos (by simpa using hlt), hl2, hw2, hl2]
theorem journalOrder_ev (l : List Line) (t : Int) (hok : l.all okL = true) : Ev (fun k => quittancelaw20_JournalOrder.f k l t) true := by
  by_cases h : (l.length : Int) > 60
  · refine Ev.congr (f := fun _ => some true) (fun k => ?_) (Ev.now _)
    unfold quittancelaw20_JournalOrder.f
    rw [if_pos h, head20_f]
    rfl
  · have hl : l.length ≤ 1000000 := by omega
    have hal := Nat.le_trans (tidyR_len l) hl
    by_cases he : (tidyR l).2 = 0
    · by_cases h0 : (l.length : Int) = 0
      · refine Ev.congr (f := fun _ => some true) (fun k => ?_) (Ev.now _)
        unfold quittancelaw20_JournalOrder.f
        have hl0 : l = [] := List.eq_nil_of_length_eq_zero (by omega)
        have : (tidyR l).1 = [] := by rw [hl0]; rfl
        rw [if_neg h, tidy_f hok hl, Option.bind_some, if_pos he, if_pos h0, this, if_pos (by simp), head20_f]
        rfl
      · have hoa := tidyR_okL hok
        have hs : ∀ x ∈ l, gsum (tidyR l).1 (keyT x) = gsum l (keyT x) ∧ i64ok (gsum l (keyT x)) = true := fun x hx =>
          ⟨tidyR_gsum he _, i64_of_within (List.all_eq_true.1 (tidyR_ok he).2.1 _ (grp_of hx))⟩
        have hl0 : Ev (fun k => quittancelaw20_JournalOrder.l0 k l (tidyR l).1 1) true := by
          cases ha : (tidyR l).1 with
          | nil =>
            rw [ha] at hs
            refine Ev.step (f := fun k => quittancelaw20_JournalOrder.l1 k l [] 0) (fun k => ?_) (order_l1 l [] hl (by simp) hok rfl hs l [] rfl)
            simp only [quittancelaw20_JournalOrder.l0]
            rw [if_neg (by simp)]
          | cons y r =>
            rw [ha] at hs hoa hal
            have := order_l0 l (y :: r) hl hal hok hoa hs (by rw [← ha]; exact tidyR_ordered l) r [] y rfl
            simpa using this
        have hj1 : Ev (fun k => quittancelaw20_JournalOrder.j1 k l (tidyR l).1 false) true := by
          refine Ev.step (fun k => ?_) hl0
          simp only [quittancelaw20_JournalOrder.j1]
          rw [if_neg (by simp)]
        have hj0 : ∀ m : Nat, m ≤ l.length → Ev (fun k => quittancelaw20_JournalOrder.j0 k l (tidyR l).1 (m : Int)) true := by
          intro m hm
          have hp : (l.drop m ++ l.take m).Perm l := (List.perm_append_comm).trans (by rw [List.take_append_drop])
          have hok2 : (l.drop m ++ l.take m).all okL = true := by rw [all_perm hp]; exact hok
          have hlen2 : (l.drop m ++ l.take m).length ≤ 1000000 := by rw [hp.length_eq]; exact hl
          have ht2 : journal_Tidy.f (l.drop m ++ l.take m) = some (tidyR l) := by rw [tidy_f hok2 hlen2, tidyR_perm hp]
          have ht3 : journal_Tidy.f (tidyR l).1 = some ((tidyR l).1, 0) := by rw [tidy_f hoa hal, tidyR_again]
          refine Ev.step (f := fun k => (quittanceref20_SameLines.f k (tidyR l).1 (tidyR l).1).bind fun t1313 => (if t1313 = true then ((quittanceref20_SameLines.f k (tidyR l).1 (tidyR l).1).bind fun t1314 => (quittancelaw20_JournalOrder.j1 k l (tidyR l).1 (!t1314))) else (quittancelaw20_JournalOrder.j1 k l (tidyR l).1 true))) (fun k => ?_) (Ev.bind (same_ev _ hal) ?_)
          · simp only [quittancelaw20_JournalOrder.j0, Option.bind_some, List.nil_append, Int.toNat_natCast]
            rw [if_pos (by omega), if_pos (by omega), if_pos (by simp; omega), if_pos (by simp; omega), ht2]
            simp only [Option.bind_some]
            rw [ht3]
            simp only [Option.bind_some, if_true]
            rw [if_pos he]
          · simp only [if_true]
            exact Ev.bind (same_ev _ hal) hj1
        have hpos : (0 : Int) < (l.length : Int) := by omega
        by_cases hneg : Int.tmod t (l.length : Int) < 0
        · have hb : -(l.length : Int) < Int.tmod t (l.length : Int) := by
            have := Int.lt_tmod_of_pos t hpos
            omega
          obtain ⟨m, hm⟩ : ∃ m : Nat, wrap64 (Int.tmod t (l.length : Int) + (l.length : Int)) = (m : Int) ∧ m ≤ l.length := ⟨(Int.tmod t (l.length : Int) + (l.length : Int)).toNat, by unfold wrap64; omega, by omega⟩
          refine Ev.congr (f := fun k => quittancelaw20_JournalOrder.j0 k l (tidyR l).1 (m : Int)) (fun k => ?_) (hj0 m hm.2)
          unfold quittancelaw20_JournalOrder.f
          rw [if_neg h, tidy_f hok hl, Option.bind_some, if_pos he, if_neg h0, if_pos hneg, hm.1]
        · have hb : Int.tmod t (l.length : Int) < (l.length : Int) := Int.tmod_lt_of_pos t hpos
          obtain ⟨m, hm⟩ : ∃ m : Nat, Int.tmod t (l.length : Int) = (m : Int) ∧ m ≤ l.length := ⟨(Int.tmod t (l.length : Int)).toNat, by omega, by omega⟩
          refine Ev.congr (f := fun k => quittancelaw20_JournalOrder.j0 k l (tidyR l).1 (m : Int)) (fun k => ?_) (hj0 m hm.2)
          unfold quittancelaw20_JournalOrder.f
          rw [if_neg h, tidy_f hok hl, Option.bind_some, if_pos he, if_neg h0, if_neg hneg, hm.1]
    · have hb := tidyR_err he
      refine Ev.congr (f := fun _ => some true) (fun k => ?_) (Ev.now _)
      unfold quittancelaw20_JournalOrder.f
      rw [if_neg h, tidy_f hok hl, Option.bind_some, if_neg he, hb, if_pos (by simp), head20_f]
      rfl
end Go.Proofs.Ytaoejonkiikhmaa.G
