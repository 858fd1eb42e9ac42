/- Counts of records by their traces, plain. No program is named. -/
import Derived.Test.YtdpngmgaomghoaaGreatBagP
namespace Go.Proofs.YtdpngmgaomghoaaGreat
namespace QuotaP
open BagP
/-- Is there room for one more? -/
def okO (all tr t : Int) (L : List (Int × Int)) : Bool := decide (sumL L < all ∧ cnt t L < tr)
def addO (t : Int) (L : List (Int × Int)) : List (Int × Int) := insL t (cnt t L + 1) L
def dropO (t : Int) (L : List (Int × Int)) : List (Int × Int) := if cnt t L = 0 then L else setL t (cnt t L - 1) L
/-- .. or it stays. -/
def oneL (all tr t : Int) (L : List (Int × Int)) : List (Int × Int) := if okO all tr t L then addO t L else L
def addM (l : List Int) (L : List (Int × Int)) : List (Int × Int) := l.foldl (fun L t => addO t L) L
def dropM (l : List Int) (L : List (Int × Int)) : List (Int × Int) := l.foldl (fun L t => dropO t L) L
/-- In order, none below 1. -/
structure Cs (L : List (Int × Int)) : Prop where
  srt : Srt L
  pos : Pos L
theorem len_sum : ∀ {L : List (Int × Int)}, Pos L → (L.length : Int) ≤ sumL L := by
  intro L
  induction L with
  | nil => intro _; simp [sumL]
  | cons p t ih => intro hp; have h1 := hp p (by simp); have h2 := ih (fun q hq => hp q (by simp [hq])); simp only [sumL, List.length_cons]; omega
theorem Cs.nil : Cs [] := ⟨List.Pairwise.nil, fun p h => by simp at h⟩
theorem addO_set {t : Int} {L : List (Int × Int)} (h : Cs L) : addO t L = setL t (cnt t L + 1) L := by
  have := (h.pos.cnt t).1
  unfold addO setL; rw [if_neg (by omega)]
theorem Cs.add {L : List (Int × Int)} (h : Cs L) (t : Int) : Cs (addO t L) := by
  rw [addO_set h]; exact ⟨setL_srt _ _ h.srt, setL_pos h.pos (by have := (h.pos.cnt t).1; omega)⟩
theorem Cs.drop {L : List (Int × Int)} (h : Cs L) (t : Int) : Cs (dropO t L) := by
  unfold dropO; split
  · exact h
  · exact ⟨setL_srt _ _ h.srt, setL_pos h.pos (by have := (h.pos.cnt t).1; omega)⟩
theorem cnt_add {L : List (Int × Int)} (h : Cs L) (t y : Int) : cnt y (addO t L) = cnt y L + (if y = t then 1 else 0) := by
  rw [addO_set h, cnt_set]
  by_cases e : y = t
  · subst e; simp [sameK_refl]
  · rw [sameK_ne e]; simp [e]
theorem cnt_drop {L : List (Int × Int)} (t y : Int) : cnt y (dropO t L) = if y = t ∧ cnt t L ≠ 0 then cnt y L - 1 else cnt y L := by
  unfold dropO
  by_cases h0 : cnt t L = 0
  · rw [if_pos h0, if_neg (by simp [h0])]
  · rw [if_neg h0, cnt_set]
    by_cases e : y = t
    · subst e; simp [sameK_refl, h0]
    · rw [sameK_ne e]; simp [e]
theorem sum_add {L : List (Int × Int)} (h : Cs L) (t : Int) : sumL (addO t L) = sumL L + 1 := by
  rw [addO_set h, sumL_set _ _ h.srt]; omega
theorem sum_drop {L : List (Int × Int)} (h : Cs L) (t : Int) : sumL (dropO t L) = if cnt t L = 0 then sumL L else sumL L - 1 := by
  unfold dropO; split
  · rfl
  · rw [sumL_set _ _ h.srt]; omega
theorem Cs.addM (l : List Int) : ∀ {L : List (Int × Int)}, Cs L → Cs (addM l L) := by
  induction l with
  | nil => intro L h; exact h
  | cons t l ih => intro L h; exact ih (h.add t)
theorem Cs.dropM (l : List Int) : ∀ {L : List (Int × Int)}, Cs L → Cs (dropM l L) := by
  induction l with
  | nil => intro L h; exact h
  | cons t l ih => intro L h; exact ih (h.drop t)
theorem cnt_addM (l : List Int) (y : Int) : ∀ {L : List (Int × Int)}, Cs L → cnt y (QuotaP.addM l L) = cnt y L + l.count y := by
  induction l with
  | nil => intro L h; simp [QuotaP.addM]
  | cons t l ih =>
    intro L h
    show cnt y (QuotaP.addM l (addO t L)) = _
    rw [ih (h.add t), cnt_add h, List.count_cons]
    by_cases e : y = t
    · subst e; simp; omega
    · have : (t == y) = false := by simp; exact fun h => e h.symm
      simp [e, this]
theorem cnt_dropM (l : List Int) (y : Int) : ∀ {L : List (Int × Int)}, Cs L → cnt y (QuotaP.dropM l L) = max 0 (cnt y L - l.count y) := by
  induction l with
  | nil => intro L h; have := (h.pos.cnt y).1; simp [QuotaP.dropM]; omega
  | cons t l ih =>
    intro L h
    have := (h.pos.cnt y).1
    show cnt y (QuotaP.dropM l (dropO t L)) = _
    rw [ih (h.drop t), cnt_drop, List.count_cons]
    by_cases e : y = t
    · subst e
      by_cases h0 : cnt y L = 0
      · simp [h0]; omega
      · simp [h0]; omega
    · have : (t == y) = false := by simp; exact fun h => e h.symm
      simp [e, this]
theorem dropM_addM (l : List Int) {L : List (Int × Int)} (h : Cs L) : QuotaP.dropM l (QuotaP.addM l L) = L := by
  refine bag_ext (Cs.dropM l (Cs.addM l h)).srt h.srt (Cs.dropM l (Cs.addM l h)).pos h.pos (fun y => ?_)
  rw [cnt_dropM l y (Cs.addM l h), cnt_addM l y h]
  have := (h.pos.cnt y).1
  omega
theorem sum_addM (l : List Int) : ∀ {L : List (Int × Int)}, Cs L → sumL (QuotaP.addM l L) = sumL L + l.length := by
  induction l with
  | nil => intro L h; simp [QuotaP.addM]
  | cons t l ih =>
    intro L h
    show sumL (QuotaP.addM l (addO t L)) = _
    rw [ih (h.add t), sum_add h, List.length_cons]; omega
/-- May all of them come? -/
def okM (all tr : Int) : List Int → List (Int × Int) → Bool
  | [], _ => true
  | t :: l, L => okO all tr t L && okM all tr l (addO t L)
theorem okM_append (all tr : Int) (a b : List Int) : ∀ L : List (Int × Int), okM all tr (a ++ b) L = (okM all tr a L && okM all tr b (QuotaP.addM a L)) := by
  induction a with
  | nil => intro L; simp [okM, QuotaP.addM]
  | cons t a ih => intro L; rw [List.cons_append, okM, okM, ih, Bool.and_assoc]; rfl
def addA (all tr : Int) (l : List Int) (L : List (Int × Int)) : List (Int × Int) := if okM all tr l L then QuotaP.addM l L else L
end QuotaP
end Go.Proofs.YtdpngmgaomghoaaGreat
namespace Go.Proofs.YtdpngmgaomghoaaGreat
namespace QuotaP
open BagP
end QuotaP
end Go.Proofs.YtdpngmgaomghoaaGreat
