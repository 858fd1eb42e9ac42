/- Bags, plain: numbers with how often each is there. No program is named. -/
import Derived.Test.YtgfjpnpbkkadpaaGreatTrees
namespace Go.Proofs.YtgfjpnpbkkadpaaGreat
namespace BagP
def cnt (x : Int) (L : List (Int × Int)) : Int := (getL x L).getD 0
def sumL : List (Int × Int) → Int
  | [] => 0
  | p :: t => p.2 + sumL t
def setL (x many : Int) (L : List (Int × Int)) : List (Int × Int) := if many = 0 then delL x L else insL x many L
def Pos (L : List (Int × Int)) : Prop := ∀ p ∈ L, 1 ≤ p.2
theorem sumL_append (A B : List (Int × Int)) : sumL (A ++ B) = sumL A + sumL B := by
  induction A with
  | nil => simp [sumL]
  | cons p t ih => simp only [List.cons_append, sumL, ih]; omega
theorem cnt_nil (x : Int) : cnt x [] = 0 := rfl
theorem cnt_cons (x : Int) (p : Int × Int) (L : List (Int × Int)) : cnt x (p :: L) = if sameK x p.1 then p.2 else cnt x L := by
  unfold cnt; rw [getL_cons]; split <;> simp
theorem cnt_low {x : Int} {L : List (Int × Int)} (h : ∀ p ∈ L, Ord.lt x p.1 = true) : cnt x L = 0 := by unfold cnt; rw [getL_low' h]; rfl
theorem Pos.cnt {L : List (Int × Int)} (h : Pos L) (x : Int) : 0 ≤ cnt x L ∧ cnt x L ≤ sumL L ∧ 0 ≤ sumL L := by
  induction L with
  | nil => simp [cnt_nil, sumL]
  | cons p t ih =>
    have h1 := h p (by simp)
    have h2 := ih (fun q hq => h q (by simp [hq]))
    rw [cnt_cons, sumL]
    split <;> omega
theorem sumL_ins (x v : Int) : ∀ {L : List (Int × Int)}, Srt L → sumL (insL x v L) = sumL L - cnt x L + v
  | [], _ => by simp [insL, sumL, cnt_nil]
  | (a, b) :: t, hs => by
    have hs' := List.pairwise_cons.1 hs
    rw [insL, cnt_cons, sumL]
    by_cases h1 : Ord.lt x a = true
    · rw [if_pos h1, sumL, sumL, sameK_lt h1, if_neg (by simp), cnt_low (fun p hp => Ord.tr _ _ _ h1 (hs'.1 p hp))]
      dsimp only; omega
    · rw [if_neg h1]
      by_cases h2 : Ord.lt a x = true
      · rw [if_pos h2, sumL, sumL_ins x v hs'.2, sameK_gt h2, if_neg (by simp)]
        dsimp only; omega
      · have e := Ord.tri a x (by simpa using h2) (by simpa using h1); subst e
        rw [if_neg h2, sumL, if_pos (sameK_refl _)]
        dsimp only; omega
theorem sumL_del (x : Int) : ∀ {L : List (Int × Int)}, Srt L → sumL (delL x L) = sumL L - cnt x L
  | [], _ => by simp [delL, sumL, cnt_nil]
  | (a, b) :: t, hs => by
    have hs' := List.pairwise_cons.1 hs
    rw [delL_cons, cnt_cons, sumL]
    by_cases h1 : sameK x a = true
    · have e := sameK_iff.1 h1; subst e
      rw [if_pos h1, if_pos h1, sumL_del x hs'.2, cnt_low hs'.1]
      dsimp only; omega
    · rw [if_neg h1, if_neg h1, sumL, sumL_del x hs'.2]
      dsimp only; omega
theorem sumL_set (x v : Int) {L : List (Int × Int)} (hs : Srt L) : sumL (setL x v L) = sumL L - cnt x L + v := by
  unfold setL
  split
  · rename_i h; rw [sumL_del x hs, h]; omega
  · exact sumL_ins x v hs
theorem setL_srt (x v : Int) {L : List (Int × Int)} (hs : Srt L) : Srt (setL x v L) := by
  unfold setL
  split
  · exact srt_delL _ hs
  · exact (srt_insL _ hs).1
theorem insL_mem {κ ν : Type} [Ord κ] {k : κ} {v : ν} : ∀ {L : List (κ × ν)} {p : κ × ν}, p ∈ insL k v L → p = (k, v) ∨ p ∈ L
  | [], p, h => by simp [insL] at h; exact .inl h
  | (a, b) :: t, p, h => by
    rw [insL] at h
    by_cases h1 : Ord.lt k a = true
    · rw [if_pos h1] at h
      rcases List.mem_cons.1 h with h | h
      · exact .inl h
      · exact .inr h
    · rw [if_neg h1] at h
      by_cases h2 : Ord.lt a k = true
      · rw [if_pos h2] at h
        rcases List.mem_cons.1 h with h | h
        · exact .inr (by simp [h])
        · rcases insL_mem h with h | h
          · exact .inl h
          · exact .inr (by simp [h])
      · have e := Ord.tri a k (by simpa using h2) (by simpa using h1); subst e
        rw [if_neg h2] at h
        rcases List.mem_cons.1 h with h | h
        · exact .inl h
        · exact .inr (by simp [h])
theorem setL_pos {x v : Int} {L : List (Int × Int)} (hp : Pos L) (hv : 0 ≤ v) : Pos (setL x v L) := by
  unfold setL
  split
  · exact fun p h => hp p (List.mem_filter.1 h).1
  · intro p h
    rcases insL_mem h with rfl | h
    · dsimp only; omega
    · exact hp p h
theorem cnt_set (y x v : Int) (L : List (Int × Int)) : cnt y (setL x v L) = if sameK y x then v else cnt y L := by
  unfold setL cnt
  split
  · rename_i h; rw [getL_del]; split <;> simp [h]
  · rw [getL_ins]; split <;> simp
/-- What is found tells what is there. -/
theorem bag_ext {L M : List (Int × Int)} (hL : Srt L) (hM : Srt M) (pL : Pos L) (pM : Pos M) (h : ∀ x, cnt x L = cnt x M) : L = M := by
  refine srt_ext hL hM (fun k => ?_)
  have := h k
  unfold cnt at this
  cases h1 : getL k L with
  | none =>
    cases h2 : getL k M with
    | none => rfl
    | some b => rw [h1, h2] at this; have := pM _ (getL_mem h2); simp at *; omega
  | some a =>
    cases h2 : getL k M with
    | none => rw [h1, h2] at this; have := pL _ (getL_mem h1); simp at *; omega
    | some b => rw [h1, h2] at this; simpa using this
/-- May so many come? -/
def okA (many : Int) (L : List (Int × Int)) : Bool := decide (0 ≤ many ∧ many ≤ 4611686018427387904 - sumL L)
def addL (x many : Int) (L : List (Int × Int)) : List (Int × Int) := if okA many L then setL x (cnt x L + many) L else L
/-- May so many go? -/
def okT (x many : Int) (L : List (Int × Int)) : Bool := decide (0 ≤ many ∧ many ≤ cnt x L)
def takeL (x many : Int) (L : List (Int × Int)) : List (Int × Int) := if okT x many L then setL x (cnt x L - many) L else L
/-- What a bag is: in order, none below 1, not too many. -/
structure Ok (L : List (Int × Int)) : Prop where
  srt : Srt L
  pos : Pos L
  most : sumL L ≤ 4611686018427387904
theorem Ok.nil : Ok [] := ⟨List.Pairwise.nil, fun p h => by simp at h, by simp [sumL]⟩
theorem Ok.add {L : List (Int × Int)} (h : Ok L) (x many : Int) : Ok (addL x many L) := by
  unfold addL
  split
  · rename_i hk
    simp only [okA, decide_eq_true_eq] at hk
    have := h.pos.cnt x
    exact ⟨setL_srt _ _ h.srt, setL_pos h.pos (by omega), by rw [sumL_set _ _ h.srt]; omega⟩
  · exact h
theorem Ok.take {L : List (Int × Int)} (h : Ok L) (x many : Int) : Ok (takeL x many L) := by
  unfold takeL
  split
  · rename_i hk
    simp only [okT, decide_eq_true_eq] at hk
    have := h.pos.cnt x
    have := h.most
    exact ⟨setL_srt _ _ h.srt, setL_pos h.pos (by omega), by rw [sumL_set _ _ h.srt]; omega⟩
  · exact h
end BagP
end Go.Proofs.YtgfjpnpbkkadpaaGreat
