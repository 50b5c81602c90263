/- Texts of this claim put together: HChartKeys. -/
import Derived.Test.YtaoejonkiikhmaaMLEab
import Derived.Test.YtaoejonkiikhmaaMLEad
import Derived.Shelf.SlIterI.Nil
import Derived.Shelf.SortM.Plain
import Derived.Shelf.SortM.SortNone

/- A chart's keys, rising: slices.Sorted over maps.Keys. -/
namespace Go.Proofs.Ytaoejonkiikhmaa.G
open Go.RowKit Go.Proofs.YtaoejonkiikhmaaW.PrintWords Go.Proofs.YtaoejonkiikhmaaW.PrintLast Go.Proofs.YtaoejonkiikhmaaW.PrintMore
open Go.Maps Go.Sort Go.Shelf
set_option linter.unusedVariables false
set_option linter.unusedSimpArgs false

/-- slices.Sort's two contracts at this dump, at the fence that asks nothing. -/
theorem sortsC (m : Nat) : AnyZI.SortsIn Try.prog Try.sortedC_ren Fence.wide m :=
  ⟨fun blk off cap ss W hH hblk hsz => callsIn_wide.2 (AnyM.slices_Sort_int Try.sortI blk off cap ss W hH hblk hsz),
   fun p cap W => callsIn_wide.2 (AnyM.slices_Sort_int_none Try.sortI p cap W)⟩

set_option maxHeartbeats 2000000 in
set_option maxRecDepth 100000 in
theorem book_keys {H : Type} (b nn : Nat) (D0 : DataW H) (R : Value → Option (DataW H × List MemPlace)) (w : World) (hown : w.ownsMap Try.prog 3 R b nn D0) (hmax : Maps.size D0 ≤ maxLen) (hbytes : Maps.size D0 * 8 ≤ 140737488355328) :
    Calls Try.prog 168 #[.map (some b)] w fun e w' => ∃ (v : Value) (ss : List Int), e = .returned v ∧ ss.Perm (intKeys D0) ∧
      w'.ownsRow w.heap.size 3 1 v ss.length ((ss.mergeSort (fun x y => decide (x ≤ y))).map encZ) ∧ (v = .slice none 0 0 ↔ ss = []) ∧ Below w.heap.size w w' := by
  refine (callsIn_wide (n := 6)).1 ?_
  have hbl := hown.lt
  have hseq : SeqGives Fence.wide 2 Try.prog 225 #[.pointer (some ⟨w.heap.size, 0, none⟩)] encZ (fun ss => ss.Perm (intKeys D0)) (Maps.size D0) (w.alloc (.cells #[.map (some b)] 211)) :=
    AnyZI.keys_gives (ρ := Try.keysC_ren) { Try.keysC with } Fence.wide _ trivial rfl (by omega) w.heap.size b nn D0 _ (by simp) (by simp) (by
      obtain ⟨es, clock, hb, Ft, hs, hD⟩ := hown
      exact ⟨es, clock, (Below.heap_alloc _ _ b hbl).trans hb, Ft, hs, hD⟩)
  have cK : ∀ mb W, CallsIn Fence.wide 5 Try.prog 203 #[.map mb] W fun e w' => e = .returned (.func (.func 225) #[] #[.pointer (some ⟨W.heap.size, 0, none⟩)]) ∧ w' = W.alloc (.cells #[.map mb] 211) := fun mb W => AnyZI.keys_in Try.keysC Fence.wide 5 trivial rfl mb W
  have cS := AnyZI.sorted_in Try.sortedC Fence.wide 5 trivial trivial trivial trivial rfl (by omega) (sortsC _) (enters_of Try.func170 (by kernel_rfl) rfl) 225 #[.pointer (some ⟨w.heap.size, 0, none⟩)] trivial (enters_of Try.func225 (by kernel_rfl) rfl) _ _ hmax hbytes _ hseq
  change CallsIn _ _ Try.prog 202 _ _ _ at cS
  have hfK : Fence.wide.fn 203 := trivial
  have hfS : Fence.wide.fn 202 := trivial
  refine callsIn_of_wp Try.func168 rfl trivial ?_ rfl
  simp only [Try.ntmps168, List.size_toArray, List.length_cons, List.length_nil, Nat.reduceAdd, Nat.reduceSub, Array.replicate_succ, Array.replicate_zero, List.push_toArray, List.append_toArray, List.nil_append, List.cons_append]
  gi_wp2_with (first
    | (gi_at_call 203; refine (cK _ _).mono ?_; rintro e w' ⟨rfl, rfl⟩)
    | (gi_at_call 202; refine cS.mono ?_; rintro e w' ⟨v, ss, rfl, hS, hrow, hnil, hb⟩))
  go_ret
  exact ⟨v, ss, rfl, hS, ownsRow_base_a hrow (by simp), hnil, ((Below.refl _ w).alloc (Nat.le_refl _) _).trans (hb.mono (by simp))⟩

/-- What is owned so can be read: the keys of a chart, each of them a wide number. -/
theorem chart_keys (w : World) (cb mb : Nat) (l : List Acc) (h : ChartAt w cb mb l) (hl : l.length * 8 ≤ 140737488355328) :
    Calls Try.prog 168 #[.map (some mb)] w fun e w' => ∃ (A : Option Addr) (c : Nat) (ks : List Int), e = .returned (.slice A ks.length c) ∧ ks.Perm (intKeys (chD l)) ∧ ks.length ≤ c ∧ Kd.C (Kd.int .i64) w' A ks.length ks ∧ (∀ k ∈ ks, (Lit.int .i64 k).wf = true) ∧ (∀ ad, A = some ad → w.heap.size ≤ ad.block) ∧ Below w.heap.size w w' := by
  have hs := h.2.size_le
  refine (book_keys mb l.length (chD l) RA w h.2 (by unfold maxLen; omega) (by omega)).mono ?_
  rintro e w' ⟨v, ss, rfl, hp, ⟨hrl, hrow⟩, hnil, hb⟩
  have hwf := intKeys_wf h.2 Try.underlying3
  obtain ⟨ks, hks⟩ : ∃ ks, ks = ss.mergeSort (fun x y => decide (x ≤ y)) := ⟨_, rfl⟩
  have hpk : ks.Perm ss := by rw [hks]; exact List.mergeSort_perm ss _
  rw [← hks] at hrl hrow
  have hlen := hpk.length_eq
  rw [← hlen] at hrl hrow
  have hw : ∀ k ∈ ks, (Lit.int .i64 k).wf = true := fun k hk => hwf k (hp.mem_iff.1 (hpk.mem_iff.1 hk))
  rcases hrow with ⟨rfl, h0⟩ | ⟨g, cap, cur, rfl, hg, hcell, hle, hcm, hcs, htk⟩
  · have hk0 : ks = [] := List.eq_nil_of_length_eq_zero h0
    refine ⟨none, 0, ks, by rw [hk0]; rfl, hpk.trans hp, by rw [hk0]; exact Nat.le_refl _, ?_, hw, (fun ad e => by cases e), hb⟩
    rw [hk0]
    exact ⟨rfl, by simp, fun h => by simp at h⟩
  · refine ⟨some ⟨g, 0, none⟩, cap, ks, rfl, hpk.trans hp, hle, ?_, hw, (fun ad e => by cases e; exact hg), hb⟩
    refine Kd.C_of_reads (enc := Value.int .i64) (d := (0 : Int)) (h1 := fun _ => rfl) ⟨rfl, by unfold maxLen at hcm; omega, fun _ => ⟨_, rfl, fun j hj => ?_⟩⟩
    have h1 : (ks.map encZ)[j]? = some (.int .i64 (ks.getD j 0)) := by
      rw [List.getElem?_map, List.getElem?_eq_getElem hj]
      simp [encZ, List.getD_eq_getElem?_getD, List.getElem?_eq_getElem hj]
    rw [← htk, List.getElem?_take] at h1
    have hjl : j < ks.length * 1 := by omega
    rw [if_pos hjl] at h1
    have h2 : cur[j]? = some (.int .i64 (ks.getD j 0)) := by simpa using h1
    have e1 : (⟨g, 0, none⟩ : Addr).add j = ⟨g, j, none⟩ := by
      unfold Addr.add
      split
      · rename_i h0
        rw [h0]
      · simp
    rw [e1]
    exact (blk_cell hcell j).trans h2
end Go.Proofs.Ytaoejonkiikhmaa.G
