/- Counts of records: there are never more than may be, plain. No program is named. -/
import Derived.Test.YtolpdgaomlhgdaaQuotaP
namespace Go.Proofs.Ytolpdgaomlhgdaa
namespace QuotaP
open BagP
/-- No more than may be. -/
def Hd (all tr : Int) (L : List (Int × Int)) : Prop := sumL L ≤ all ∧ ∀ t, cnt t L ≤ tr
theorem sum_dropM_le (l : List Int) : ∀ {L : List (Int × Int)}, Cs L → sumL (QuotaP.dropM l L) ≤ sumL L := by
  induction l with
  | nil => intro L _; exact Int.le_refl _
  | cons t l ih =>
    intro L h
    have h1 := ih (h.drop t)
    have h2 := sum_drop h t
    show sumL (QuotaP.dropM l (dropO t L)) ≤ _
    split at h2 <;> omega
theorem Hd.dropM {all tr : Int} {L : List (Int × Int)} (h : Hd all tr L) (hc : Cs L) (l : List Int) : Hd all tr (QuotaP.dropM l L) := by
  refine ⟨Int.le_trans (sum_dropM_le l hc) h.1, fun t => ?_⟩
  rw [cnt_dropM l t hc]
  have := h.2 t; have := (hc.pos.cnt t).1
  omega
theorem Hd.addM {all tr : Int} {L : List (Int × Int)} (h : Hd all tr L) (hc : Cs L) (l : List Int) (hok : okM all tr l L = true) : Hd all tr (QuotaP.addM l L) := by
  rcases (okM_iff all tr l hc).1 hok with rfl | ⟨h1, h2⟩
  · exact h
  · refine ⟨by rw [sum_addM l hc]; exact h1, fun t => ?_⟩
    rw [cnt_addM l t hc]
    by_cases ht : t ∈ l
    · exact h2 t ht
    · rw [List.count_eq_zero_of_not_mem ht]; have := h.2 t; omega
theorem Hd.nil {all tr : Int} (ha : 0 ≤ all) (ht : 0 ≤ tr) : Hd all tr [] := ⟨by simpa [sumL] using ha, fun t => by rw [cnt_nil]; exact ht⟩
theorem cnt_of_mem : ∀ {L : List (Int × Int)}, Srt L → ∀ p ∈ L, cnt p.1 L = p.2 := by
  intro L
  induction L with
  | nil => intro _ p hp; simp at hp
  | cons q t ih =>
    intro hs p hp
    have hs' := List.pairwise_cons.1 hs
    rw [cnt_cons]
    rcases List.mem_cons.1 hp with rfl | hp
    · rw [if_pos (sameK_refl _)]
    · have hl := hs'.1 p hp
      rw [sameK_ne (by rintro e; rw [← e, Ord.irr] at hl; cases hl), if_neg (by simp)]
      exact ih hs'.2 p hp
theorem sum_take {L : List (Int × Int)} (h : Cs L) {k : Nat} (hk : k < L.length) : sumL (L.take (k + 1)) = sumL (L.take k) + cnt L[k].1 L ∧ 1 ≤ cnt L[k].1 L := by
  rw [cnt_of_mem h.srt _ (List.getElem_mem hk)]
  refine ⟨?_, by have := h.pos _ (List.getElem_mem hk); omega⟩
  rw [List.take_succ_eq_append_getElem hk, sumL_append]
  simp [sumL]
theorem sum_take_le {L : List (Int × Int)} (h : Cs L) (k : Nat) : 0 ≤ sumL (L.take k) ∧ sumL (L.take k) ≤ sumL L := by
  have h1 : Pos (L.take k) := fun p hp => h.pos p (List.mem_of_mem_take hp)
  have h2 : Pos (L.drop k) := fun p hp => h.pos p (List.mem_of_mem_drop hp)
  have e : sumL L = sumL (L.take k) + sumL (L.drop k) := by rw [← sumL_append, List.take_append_drop]
  have := (h1.cnt 0).2.2; have := (h2.cnt 0).2.2
  omega
end QuotaP
end Go.Proofs.Ytolpdgaomlhgdaa
