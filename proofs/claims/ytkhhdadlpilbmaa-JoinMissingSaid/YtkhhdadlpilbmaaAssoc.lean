/- Lists in order of their keys: what is found of what was put and dropped. No program is named. -/
import Derived.Test.YtkhhdadlpilbmaaTree2
namespace Go.Proofs.Ytkhhdadlpilbmaa
section
variable {κ ν : Type} [Ord κ]
theorem sameK_refl (k : κ) : sameK k k = true := sameK_iff.2 rfl
theorem sameK_ne {k k' : κ} (h : k ≠ k') : sameK k k' = false := by
  cases hs : sameK k k' with
  | false => rfl
  | true => exact absurd (sameK_iff.1 hs) h
theorem sameK_lt {k k' : κ} (h : Ord.lt k k' = true) : sameK k k' = false := by simp [sameK, h]
theorem sameK_gt {k k' : κ} (h : Ord.lt k' k = true) : sameK k k' = false := by simp [sameK, h]
theorem sameK_comm (k k' : κ) : sameK k k' = sameK k' k := by simp [sameK, Bool.and_comm]
theorem getL_nil (k : κ) : getL k ([] : List (κ × ν)) = none := rfl
theorem getL_cons (k : κ) (p : κ × ν) (L : List (κ × ν)) : getL k (p :: L) = if sameK k p.1 then some p.2 else getL k L := by
  unfold getL
  rw [List.find?_cons]
  cases sameK k p.1 <;> simp
theorem getL_ins (k k' : κ) (v : ν) : ∀ L : List (κ × ν), getL k (insL k' v L) = if sameK k k' then some v else getL k L
  | [] => by simp [insL, getL_cons, getL_nil]
  | (a, b) :: t => by
    rw [insL]
    by_cases h1 : Ord.lt k' a = true
    · rw [if_pos h1, getL_cons]
    · rw [if_neg h1]
      by_cases h2 : Ord.lt a k' = true
      · rw [if_pos h2, getL_cons, getL_ins k k' v t, getL_cons]
        by_cases h3 : sameK k a = true
        · have := sameK_iff.1 h3; subst this
          rw [if_pos h3, sameK_lt h2, if_neg (by simp), if_pos h3]
        · simp [h3]
      · have := Ord.tri a k' (by simpa using h2) (by simpa using h1); subst this
        rw [if_neg h2, getL_cons, getL_cons]
        by_cases h3 : sameK k a = true
        · simp [h3]
        · simp [h3]
theorem getL_del (k k' : κ) : ∀ L : List (κ × ν), getL k (delL k' L) = if sameK k k' then none else getL k L
  | [] => by simp [delL, getL_nil]
  | (a, b) :: t => by
    rw [delL_cons]
    by_cases h1 : sameK k' a = true
    · have := sameK_iff.1 h1; subst this
      rw [if_pos h1, getL_del k k' t, getL_cons]
      by_cases h3 : sameK k k' = true <;> simp [h3]
    · rw [if_neg h1, getL_cons, getL_cons, getL_del k k' t]
      by_cases h3 : sameK k a = true
      · have := sameK_iff.1 h3; subst this
        rw [if_pos h3, sameK_comm k k', if_neg h1, if_pos h3]
      · simp [h3]
theorem hasL_get (k : κ) : ∀ L : List (κ × ν), hasL k L = (getL k L).isSome
  | [] => rfl
  | p :: t => by rw [hasL_cons, getL_cons, hasL_get k t]; cases sameK k p.1 <;> simp
theorem getL_mem {k : κ} {v : ν} : ∀ {L : List (κ × ν)}, getL k L = some v → (k, v) ∈ L
  | [], h => by simp [getL_nil] at h
  | p :: t, h => by
    rw [getL_cons] at h
    by_cases h1 : sameK k p.1 = true
    · rw [if_pos h1] at h; have := sameK_iff.1 h1; subst this; cases h; simp
    · rw [if_neg h1] at h; exact List.mem_cons_of_mem _ (getL_mem h)
theorem mem_getL {k : κ} {v : ν} : ∀ {L : List (κ × ν)}, Srt L → (k, v) ∈ L → getL k L = some v
  | [], _, h => by simp at h
  | p :: t, hs, h => by
    have hs' := List.pairwise_cons.1 hs
    rw [getL_cons]
    rcases List.mem_cons.1 h with rfl | h
    · rw [if_pos (sameK_refl _)]
    · have := hs'.1 _ h
      rw [sameK_gt this, if_neg (by simp)]
      exact mem_getL hs'.2 h
theorem getL_low' {k : κ} {L : List (κ × ν)} (h : ∀ p ∈ L, Ord.lt k p.1 = true) : getL k L = none := by
  cases hg : getL k L with
  | none => rfl
  | some v => have := h _ (getL_mem hg); rw [Ord.irr] at this; cases this
/-- What is found tells what is there. -/
theorem srt_ext : ∀ {L M : List (κ × ν)}, Srt L → Srt M → (∀ k, getL k L = getL k M) → L = M
  | [], [], _, _, _ => rfl
  | [], (k, v) :: M, _, _, h => by have := h k; simp [getL_nil, getL_cons, sameK_refl] at this
  | (k, v) :: L, [], _, _, h => by have := h k; simp [getL_nil, getL_cons, sameK_refl] at this
  | (k, v) :: L, (k', v') :: M, hL, hM, h => by
    have hL' := List.pairwise_cons.1 hL
    have hM' := List.pairwise_cons.1 hM
    have e : k = k' := by
      refine Ord.tri _ _ ?_ ?_
      · cases hc : Ord.lt k k' with
        | false => rfl
        | true =>
          have := h k
          rw [getL_cons, if_pos (sameK_refl _), getL_low' (L := (k', v') :: M) (fun p hp => by
            rcases List.mem_cons.1 hp with rfl | hp
            · exact hc
            · exact Ord.tr _ _ _ hc (hM'.1 p hp))] at this
          cases this
      · cases hc : Ord.lt k' k with
        | false => rfl
        | true =>
          have := h k'
          rw [getL_cons (p := (k', v')), if_pos (sameK_refl _), getL_low' (L := (k, v) :: L) (fun p hp => by
            rcases List.mem_cons.1 hp with rfl | hp
            · exact hc
            · exact Ord.tr _ _ _ hc (hL'.1 p hp))] at this
          cases this
    subst e
    have hv := h k
    rw [getL_cons, getL_cons, if_pos (sameK_refl _), if_pos (sameK_refl _)] at hv
    cases hv
    refine congrArg _ (srt_ext hL'.2 hM'.2 (fun x => ?_))
    by_cases hx : sameK x k = true
    · have := sameK_iff.1 hx; subst this
      rw [getL_low' hL'.1, getL_low' hM'.1]
    · have := h x
      rw [getL_cons, getL_cons, if_neg hx, if_neg hx] at this
      exact this
theorem insL_len' (k : κ) (v : ν) : ∀ L : List (κ × ν), (insL k v L).length ≤ L.length + 1
  | [] => by simp [insL]
  | (a, b) :: t => by
    rw [insL]
    split
    · simp
    · split
      · have := insL_len' k v t; simp; omega
      · simp
theorem delL_len' (k : κ) (L : List (κ × ν)) : (delL k L).length ≤ L.length := List.length_filter_le _ _
end
end Go.Proofs.Ytkhhdadlpilbmaa
