/- Windows of moments, and how many moments are in each, plain. No program is named. -/
import Derived.Test.YtgfjpnpbkkadpaaGreatBagP
namespace Go.Proofs.YtgfjpnpbkkadpaaGreat
namespace Ser
open BagP
/-- In which window a moment is. -/
def slot (a w : Int) : Int := a / max w 1
theorem tdiv_neg {a w : Int} (ha : a < 0) (hw : 1 ≤ w) : a.tdiv w = -((-a) / w) := by
  have : a = -(-a) := by omega
  rw [this, Int.neg_tdiv, Int.tdiv_eq_ediv_of_nonneg (by omega), ← this]
theorem slot_code (a w : Int) : slot a w = if a.tmod (max w 1) < 0 then a.tdiv (max w 1) - 1 else a.tdiv (max w 1) := by
  unfold slot
  have hw : 1 ≤ max w 1 := by omega
  generalize max w 1 = m at *
  by_cases ha : 0 ≤ a
  · rw [Int.tdiv_eq_ediv_of_nonneg ha, Int.tmod_eq_emod_of_nonneg ha, if_neg (by have := Int.emod_nonneg a (b := m) (by omega); omega)]
  · have e := Int.tmod_add_mul_tdiv a m
    have h1 := tdiv_neg (by omega : a < 0) hw
    have h2 := Int.emod_add_mul_ediv a m
    have h3 := Int.emod_nonneg a (b := m) (by omega)
    have h4 := Int.emod_lt_of_pos a (b := m) (by omega)
    have h5 := Int.emod_add_mul_ediv (-a) m
    have h6 := Int.emod_nonneg (-a) (b := m) (by omega)
    have h7 := Int.emod_lt_of_pos (-a) (b := m) (by omega)
    have hz : m * (a / m + (-a) / m) = -(a % m + (-a) % m) := by rw [Int.mul_add]; omega
    have hu : -2 < a / m + (-a) / m := by
      refine Int.lt_of_mul_lt_mul_left (a := m) ?_ (by omega)
      rw [hz]; omega
    have hv : a / m + (-a) / m ≤ 0 := by
      have : a / m + (-a) / m < 1 := by
        refine Int.lt_of_mul_lt_mul_left (a := m) ?_ (by omega)
        rw [hz]; omega
      omega
    have e2 : a.tmod m = -((-a) % m) := by rw [h1, Int.mul_neg] at e; omega
    rw [e2, h1]
    split
    · rename_i hlt
      by_cases hs : a / m + (-a) / m = 0
      · rw [hs] at hz; omega
      · omega
    · rename_i hlt
      by_cases hs : a / m + (-a) / m = -1
      · rw [hs] at hz; omega
      · omega
theorem slot_ref (a w : Int) : slot a w = if 0 ≤ a then a.tdiv (max w 1) else -((-(a + 1)).tdiv (max w 1) + 1) := by
  unfold slot
  have hw : 1 ≤ max w 1 := by omega
  generalize max w 1 = m at *
  by_cases ha : 0 ≤ a
  · rw [if_pos ha, Int.tdiv_eq_ediv_of_nonneg ha]
  · rw [if_neg ha, Int.tdiv_eq_ediv_of_nonneg (by omega)]
    have h2 := Int.emod_add_mul_ediv a m
    have h3 := Int.emod_nonneg a (b := m) (by omega)
    have h4 := Int.emod_lt_of_pos a (b := m) (by omega)
    have h5 := Int.emod_add_mul_ediv (-(a + 1)) m
    have h6 := Int.emod_nonneg (-(a + 1)) (b := m) (by omega)
    have h7 := Int.emod_lt_of_pos (-(a + 1)) (b := m) (by omega)
    have hz : m * (a / m + (-(a + 1)) / m) = -1 - (a % m + (-(a + 1)) % m) := by rw [Int.mul_add]; omega
    have hu : -2 < a / m + (-(a + 1)) / m := by
      refine Int.lt_of_mul_lt_mul_left (a := m) ?_ (by omega)
      rw [hz]; omega
    have hv : a / m + (-(a + 1)) / m < 0 := by
      refine Int.lt_of_mul_lt_mul_left (a := m) ?_ (by omega)
      rw [hz]; omega
    omega
theorem slot_max (a w : Int) : slot a (max w 1) = slot a w := by unfold slot; rw [Int.max_eq_left (by omega : (1 : Int) ≤ max w 1)]
theorem slot_slot (a : Int) {w t : Int} (hw : 1 ≤ w) (ht : 1 ≤ t) : slot (slot a w) t = slot a (w * t) := by
  have : 1 ≤ w * t := by have := Int.mul_le_mul hw ht (by omega) (by omega); omega
  unfold slot
  rw [Int.max_eq_left hw, Int.max_eq_left ht, Int.max_eq_left this, Int.ediv_ediv_of_nonneg (by omega)]
theorem slot_in (a : Int) {w : Int} (hw : 1 ≤ w) : slot a w * w ≤ a ∧ a < (slot a w + 1) * w := by
  unfold slot
  rw [Int.max_eq_left hw]
  exact ⟨Int.ediv_mul_le _ (by omega), Int.lt_ediv_add_one_mul_self _ (by omega)⟩
theorem slot_range {a w n : Int} (h1 : -n ≤ a) (h2 : a < n) (hn : 0 ≤ n) : -n ≤ slot a w ∧ slot a w < n := by
  unfold slot
  have hw : 1 ≤ max w 1 := by omega
  generalize max w 1 = m at *
  by_cases ha : 0 ≤ a
  · have := Int.ediv_nonneg ha (by omega : 0 ≤ m)
    have := Int.ediv_le_self m ha
    omega
  · have h2 := Int.emod_add_mul_ediv a m
    have h4 := Int.emod_lt_of_pos a (b := m) (by omega)
    have h3 := Int.emod_nonneg a (b := m) (by omega)
    have hneg : a / m < 0 := Int.ediv_neg_of_neg_of_pos (by omega) (by omega)
    have : a ≤ a / m := by
      have h5 : (m - 1) * (a / m + 1) ≤ 0 := Int.mul_nonpos_of_nonneg_of_nonpos (by omega) (by omega)
      rw [Int.sub_mul, Int.mul_add, Int.one_mul, Int.mul_one] at h5
      omega
    omega
/-- The bag of numbers. -/
structure Bg (l : List Int) (L : List (Int × Int)) : Prop where
  ok : Ok L
  cnt : ∀ x, cnt x L = (l.count x : Nat)
  sum : sumL L = (l.length : Nat)
section
variable {l m : List Int} {L M : List (Int × Int)}
theorem Bg.nil : Bg [] [] := ⟨Ok.nil, fun _ => rfl, rfl⟩
theorem Bg.ext (h : Bg l L) (h' : Bg l M) : L = M := bag_ext h.ok.srt h'.ok.srt h.ok.pos h'.ok.pos (fun x => by rw [h.cnt, h'.cnt])
theorem Bg.extP (h : Bg l L) (h' : Bg m M) (hp : l.Perm m) : L = M := bag_ext h.ok.srt h'.ok.srt h.ok.pos h'.ok.pos (fun x => by rw [h.cnt, h'.cnt, hp.count_eq])
theorem Bg.len (h : Bg l L) : L.length ≤ l.length := by
  have : ∀ {L : List (Int × Int)}, Pos L → (L.length : Int) ≤ sumL L := by
    intro L hp
    induction L with
    | nil => simp [sumL]
    | cons p t ih => have h1 := hp p (by simp); have h2 := ih (fun q hq => hp q (by simp [hq])); simp only [sumL, List.length_cons]; omega
  have := this h.ok.pos; have := h.sum; omega
theorem Bg.add (h : Bg l L) (hl : l.length < 1000000) (k : Int) : Bg (l ++ [k]) (addL k 1 L) := by
  have hs := h.sum
  have hk : okA 1 L = true := by unfold okA; simp; omega
  refine ⟨h.ok.add _ _, fun x => ?_, ?_⟩
  · unfold addL; rw [hk, if_pos rfl, cnt_set, List.count_append, h.cnt]
    by_cases e : x = k
    · subst e; simp [sameK_refl]
    · rw [sameK_ne e, if_neg (by simp), List.count_singleton, if_neg (by simpa using fun q => e q.symm), h.cnt]; simp
  · unfold addL; rw [hk, if_pos rfl, sumL_set _ _ h.ok.srt, hs]; simp; omega
theorem Bg.okT (h : Bg l L) (k : Int) : okT k 1 L = decide (k ∈ l) := by
  unfold BagP.okT; rw [h.cnt, decide_eq_decide]
  rw [← List.count_pos_iff]; omega
theorem Bg.take (h : Bg l L) {k : Int} (hk : k ∈ l) : Bg (l.erase k) (takeL k 1 L) := by
  have ho := h.okT k
  rw [decide_eq_true hk] at ho
  have hp := List.count_pos_iff.2 hk
  refine ⟨h.ok.take _ _, fun x => ?_, ?_⟩
  · unfold takeL; rw [ho, if_pos rfl, cnt_set, h.cnt]
    by_cases e : x = k
    · subst e; rw [if_pos (sameK_refl _), List.count_erase_self]; omega
    · rw [sameK_ne e, if_neg (by simp), List.count_erase_of_ne (fun q => e q), h.cnt]
  · unfold takeL; rw [ho, if_pos rfl, sumL_set _ _ h.ok.srt, h.cnt, h.sum, List.length_erase_of_mem hk]
    have := List.length_pos_of_mem hk; omega
theorem Bg.nil_iff (h : Bg l L) : L = [] ↔ l = [] := by
  constructor
  · intro e; subst e; have := h.sum; simp only [sumL] at this; exact List.length_eq_zero_iff.1 (by omega)
  · intro e; subst e; have := h.len; exact List.length_eq_zero_iff.1 (by simpa using this)
/-- What is counted of numbers that are so. -/
def sumQ (q : Int → Bool) : List (Int × Int) → Int
  | [] => 0
  | p :: t => (if q p.1 then p.2 else 0) + sumQ q t
theorem sumQ_del (q : Int → Bool) (x : Int) : ∀ {L : List (Int × Int)}, Srt L → sumQ q (delL x L) = sumQ q L - if q x then BagP.cnt x L else 0
  | [], _ => by simp [delL, sumQ, cnt_nil]
  | (a, b) :: t, hs => by
    have hs' := List.pairwise_cons.1 hs
    rw [delL_cons, cnt_cons, sumQ]
    by_cases h1 : sameK x a = true
    · have e := sameK_iff.1 h1; subst e
      rw [if_pos h1, if_pos h1, sumQ_del q x hs'.2, cnt_low hs'.1]
      dsimp only; split <;> omega
    · rw [if_neg h1, if_neg h1, sumQ, sumQ_del q x hs'.2]
      dsimp only; omega
theorem sumQ_ins (q : Int → Bool) (x v : Int) : ∀ {L : List (Int × Int)}, Srt L → sumQ q (insL x v L) = sumQ q L + if q x then v - BagP.cnt x L else 0
  | [], _ => by simp [insL, sumQ, cnt_nil]
  | (a, b) :: t, hs => by
    have hs' := List.pairwise_cons.1 hs
    rw [insL, cnt_cons, sumQ]
    by_cases h1 : Ord.lt x a = true
    · rw [if_pos h1, sumQ, sumQ, sameK_lt h1, cnt_low (fun p hp => Ord.tr _ _ _ h1 (hs'.1 p hp))]
      simp only [Bool.false_eq_true, if_false, Int.sub_zero]; omega
    · rw [if_neg h1]
      by_cases h2 : Ord.lt a x = true
      · rw [if_pos h2, sumQ, sumQ_ins q x v hs'.2, sameK_gt h2]
        simp only [Bool.false_eq_true, if_false]; omega
      · have e := Ord.tri a x (by simpa using h2) (by simpa using h1); subst e
        rw [if_neg h2, sumQ, if_pos (sameK_refl _)]
        dsimp only; split <;> omega
theorem sumQ_set (q : Int → Bool) (x v : Int) {L : List (Int × Int)} (hs : Srt L) : sumQ q (setL x v L) = sumQ q L + if q x then v - BagP.cnt x L else 0 := by
  unfold setL
  split
  · rename_i h; rw [sumQ_del q x hs, h]; split <;> omega
  · exact sumQ_ins q x v hs
/-- All numbers, one behind the other. -/
def bagL (l : List Int) : List (Int × Int) := l.foldl (fun b x => addL x 1 b) []
theorem bagL_snoc (l : List Int) (x : Int) : bagL (l ++ [x]) = addL x 1 (bagL l) := by unfold bagL; rw [List.foldl_append]; rfl
theorem snoc_ind {P : List Int → Prop} (h0 : P []) (h1 : ∀ l x, P l → P (l ++ [x])) (l : List Int) : P l := by
  have : ∀ r : List Int, P r.reverse := by
    intro r
    induction r with
    | nil => exact h0
    | cons a r ih => rw [List.reverse_cons]; exact h1 _ _ ih
  have := this l.reverse
  rwa [List.reverse_reverse] at this
theorem bg_of (l : List Int) : l.length ≤ 1000000 → Bg l (bagL l) := by
  refine snoc_ind (P := fun l => l.length ≤ 1000000 → Bg l (bagL l)) (fun _ => Bg.nil) (fun l x ih h => ?_) l
  rw [List.length_append, List.length_singleton] at h
  rw [bagL_snoc]
  exact (ih (by omega)).add (by omega) x
theorem bagL_perm {l m : List Int} (h : l.Perm m) (hl : l.length ≤ 1000000) : bagL l = bagL m := (bg_of l hl).extP (bg_of m (by rw [← h.length_eq]; exact hl)) h
theorem bagL_take {l : List Int} (hl : l.length ≤ 1000000) {k : Int} (hk : k ∈ l) : takeL k 1 (bagL l) = bagL (l.erase k) :=
  ((bg_of l hl).take hk).ext (bg_of _ (Nat.le_trans List.length_erase_le hl))
theorem bagL_sumQ (q : Int → Bool) (l : List Int) : l.length ≤ 1000000 → sumQ q (bagL l) = (l.countP q : Nat) := by
  refine snoc_ind (P := fun l => l.length ≤ 1000000 → sumQ q (bagL l) = (l.countP q : Nat)) (fun _ => rfl) (fun l x ih h => ?_) l
  rw [List.length_append, List.length_singleton] at h
  have hb := bg_of l (by omega)
  have hk : okA 1 (bagL l) = true := by unfold okA; have := hb.sum; simp; omega
  rw [bagL_snoc, addL, hk, if_pos rfl, sumQ_set q x _ hb.ok.srt, ih (by omega), List.countP_append, List.countP_singleton]
  split <;> omega
/-- A wider window has what all of its narrower ones have. -/
theorem wider (f : Int → Int) (y : Int) {l : List Int} (hl : l.length ≤ 1000000) : sumQ (fun x => decide (f x = y)) (bagL l) = cnt y (bagL (l.map f)) := by
  rw [bagL_sumQ _ _ hl, (bg_of (l.map f) (by rw [List.length_map]; exact hl)).cnt, List.count_eq_countP, List.countP_map]
  congr 1
end
end Ser
end Go.Proofs.YtgfjpnpbkkadpaaGreat
