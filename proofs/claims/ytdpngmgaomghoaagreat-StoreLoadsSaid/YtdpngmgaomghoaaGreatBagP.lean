/- Bags, plain: numbers with how often each is there. No program is named. -/
import Derived.Test.YtdpngmgaomghoaaGreatTrees
namespace Go.Proofs.YtdpngmgaomghoaaGreat
namespace BagP
def cnt (x : Int) (L : List (Int × Int)) : Int := (getL x L).getD 0
def sumL : List (Int × Int) → Int
 | [] => 0
 | p :: t => p.2 + sumL t
def setL (x many : Int) (L : List (Int × Int)) : List (Int × Int) := if many = 0 then delL x L else insL x many L
def Pos (L : List (Int × Int)) : Prop := ∀ p ∈ L, 1 ≤ p.2
theorem cnt_nil (x : Int) : cnt x [] = 0 := rfl
theorem cnt_cons (x : Int) (p : Int × Int) (L : List (Int × Int)) : cnt x (p :: L) = if sameK x p.1 then p.2 else cnt x L := by
 unfold cnt; rw [getL_cons]; split <;> simp
theorem cnt_low {x : Int} {L : List (Int × Int)} (h : ∀ p ∈ L, Ord.lt x p.1 = true) : cnt x L = 0 := by unfold cnt; rw [getL_low' h]; rfl
theorem Pos.cnt {L : List (Int × Int)} (h : Pos L) (x : Int) : 0 ≤ cnt x L ∧ cnt x L ≤ sumL L ∧ 0 ≤ sumL L := by
 induction L with
 | nil => simp [cnt_nil, sumL]
 | cons p t ih =>
  have h1 := h p (by simp)
  have h2 := ih (fun q hq => h q (by simp [hq]))
  rw [cnt_cons, sumL]
  split <;> omega
theorem sumL_ins (x v : Int) : ∀ {L : List (Int × Int)}, Srt L → sumL (insL x v L) = sumL L - cnt x L + v
 | [], _ => by simp [insL, sumL, cnt_nil]
 | (a, b) :: t, hs => by
  have hs' := List.pairwise_cons.1 hs
  rw [insL, cnt_cons, sumL]
  by_cases h1 : Ord.lt x a = true
  ·rw [if_pos h1, sumL, sumL, sameK_lt h1, if_neg (by simp), cnt_low (fun p hp => Ord.tr _ _ _ h1 (hs'.1 p hp))]
   dsimp only; omega
  ·rw [if_neg h1]
   by_cases h2 : Ord.lt a x = true
   ·rw [if_pos h2, sumL, sumL_ins x v hs'.2, sameK_gt h2, if_neg (by simp)]
    dsimp only; omega
   ·have e := Ord.tri a x (by simpa using h2) (by simpa using h1); subst e
    rw [if_neg h2, sumL, if_pos (sameK_refl _)]
    dsimp only; omega
theorem sumL_del (x : Int) : ∀ {L : List (Int × Int)}, Srt L → sumL (delL x L) = sumL L - cnt x L
 | [], _ => by simp [delL, sumL, cnt_nil]
 | (a, b) :: t, hs => by
  have hs' := List.pairwise_cons.1 hs
  rw [delL_cons, cnt_cons, sumL]
  by_cases h1 : sameK x a = true
  ·have e := sameK_iff.1 h1; subst e
   rw [if_pos h1, if_pos h1, sumL_del x hs'.2, cnt_low hs'.1]
   dsimp only; omega
  ·rw [if_neg h1, if_neg h1, sumL, sumL_del x hs'.2]
   dsimp only; omega
theorem sumL_set (x v : Int) {L : List (Int × Int)} (hs : Srt L) : sumL (setL x v L) = sumL L - cnt x L + v := by
 unfold setL
 split
 ·rename_i h; rw [sumL_del x hs, h]; omega
 ·exact sumL_ins x v hs
theorem setL_srt (x v : Int) {L : List (Int × Int)} (hs : Srt L) : Srt (setL x v L) := by
 unfold setL
 split
 ·exact srt_delL _ hs
 ·exact (srt_insL _ hs).1
theorem insL_mem {κ ν : Type} [Ord κ] {k : κ} {v : ν} : ∀ {L : List (κ × ν)} {p : κ × ν}, p ∈ insL k v L → p = (k, v) ∨ p ∈ L
 | [], p, h => by simp [insL] at h; exact .inl h
 | (a, b) :: t, p, h => by
  rw [insL] at h
  by_cases h1 : Ord.lt k a = true
  ·rw [if_pos h1] at h
   rcases List.mem_cons.1 h with h | h
   ·exact .inl h
   ·exact .inr h
  ·rw [if_neg h1] at h
   by_cases h2 : Ord.lt a k = true
   ·rw [if_pos h2] at h
    rcases List.mem_cons.1 h with h | h
    ·exact .inr (by simp [h])
    ·rcases insL_mem h with h | h
     ·exact .inl h
     ·exact .inr (by simp [h])
   ·have e := Ord.tri a k (by simpa using h2) (by simpa using h1); subst e
    rw [if_neg h2] at h
    rcases List.mem_cons.1 h with h | h
    ·exact .inl h
    ·exact .inr (by simp [h])
theorem setL_pos {x v : Int} {L : List (Int × Int)} (hp : Pos L) (hv : 0 ≤ v) : Pos (setL x v L) := by
 unfold setL
 split
 ·exact fun p h => hp p (List.mem_filter.1 h).1
 ·intro p h
  rcases insL_mem h with rfl | h
  ·dsimp only; omega
  ·exact hp p h
theorem cnt_set (y x v : Int) (L : List (Int × Int)) : cnt y (setL x v L) = if sameK y x then v else cnt y L := by
 unfold setL cnt
 split
 ·rename_i h; rw [getL_del]; split <;> simp [h]
 ·rw [getL_ins]; split <;> simp
theorem bag_ext {L M : List (Int × Int)} (hL : Srt L) (hM : Srt M) (pL : Pos L) (pM : Pos M) (h : ∀ x, cnt x L = cnt x M) : L = M := by
 refine srt_ext hL hM (fun k => ?_)
 have := h k
 unfold cnt at this
 cases h1 : getL k L with
 | none =>
  cases h2 : getL k M with
  | none => rfl
  | some b => rw [h1, h2] at this; have := pM _ (getL_mem h2); simp at *; omega
 | some a =>
  cases h2 : getL k M with
  | none => rw [h1, h2] at this; have := pL _ (getL_mem h1); simp at *; omega
  | some b => rw [h1, h2] at this; simpa using this
end BagP
end Go.Proofs.YtdpngmgaomghoaaGreat
