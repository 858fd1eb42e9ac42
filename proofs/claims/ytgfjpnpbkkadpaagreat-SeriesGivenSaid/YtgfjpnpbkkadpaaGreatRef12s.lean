/- The document's answer for layer 12: a map as a list of pairs. -/
import Derived.Test.YtgfjpnpbkkadpaaGreatRef01
import Derived.Test.YtgfjpnpbkkadpaaGreatTrees
namespace Go.Proofs.YtgfjpnpbkkadpaaGreat
open Go.RowKit
namespace Ref12

abbrev pc (p : Int × Int) : List Value := [.int .i64 p.1, .int .i64 p.2]
abbrev pcells (L : List (Int × Int)) : List Value := L.flatMap pc
theorem pc_len (p : Int × Int) : (pc p).length = 2 := rfl
theorem pcells_one (L : List (Int × Int)) : ∀ u ∈ pcells L, u.oneCell' = true := by
  intro u hu
  simp only [pcells, List.mem_flatMap, pc, List.mem_cons, List.not_mem_nil, or_false] at hu
  obtain ⟨p, -, rfl | rfl⟩ := hu <;> rfl
theorem ins_split (k v : Int) : ∀ (L : List (Int × Int)) (j : Nat) (_ : j ≤ L.length), (∀ i (_ : i < j) (h : i < L.length), L[i].1 < k) → (∀ (h : j < L.length), ¬ L[j].1 < k) →
    insL k v L = L.take j ++ (k, v) :: L.drop (if ∃ h : j < L.length, L[j].1 = k then j + 1 else j)
  | [], j, hj, _, _ => by
    obtain rfl : j = 0 := by simpa using hj
    simp [insL]
  | (k', v') :: t, 0, _, _, h2 => by
    have h := h2 (by simp)
    simp only [List.getElem_cons_zero] at h
    by_cases e : k' = k
    · subst e; rw [if_pos ⟨by simp, rfl⟩]; simp [insL, ltInt]
    · rw [if_neg (by rintro ⟨_, h'⟩; exact e h')]
      have : k < k' := by omega
      simp [insL, ltInt, this]
  | (k', v') :: t, j + 1, hj, h1, h2 => by
    have h := h1 0 (by omega) (by simp)
    simp only [List.getElem_cons_zero] at h
    have ih := ins_split k v t j (by simpa using hj) (fun i hi hl => by have := h1 (i + 1) (by omega) (by simpa using hl); simpa using this) (fun hl => by have := h2 (by simpa using hl); simpa using this)
    have e1 : Ord.lt k k' = false := by rw [ltInt]; simp; omega
    have e2 : Ord.lt k' k = true := by rw [ltInt]; simp; omega
    rw [insL, if_neg (by rw [e1]; simp), if_pos e2, ih]
    have : (∃ h : j + 1 < ((k', v') :: t).length, ((k', v') :: t)[j + 1].1 = k) ↔ ∃ h : j < t.length, t[j].1 = k := by
      constructor
      · rintro ⟨h, e⟩; exact ⟨by simpa using h, by simpa using e⟩
      · rintro ⟨h, e⟩; exact ⟨by simpa using h, by simpa using e⟩
    by_cases hx : ∃ h : j < t.length, t[j].1 = k
    · rw [if_pos hx, if_pos (this.2 hx)]; simp
    · rw [if_neg hx, if_neg (fun h => hx (this.1 h))]; simp
theorem has_split (k : Int) (L : List (Int × Int)) (hs : Srt L) (j : Nat) (h1 : ∀ i (_ : i < j) (h : i < L.length), L[i].1 < k) (h2 : ∀ (h : j < L.length), ¬ L[j].1 < k) (hj : j ≤ L.length) :
    hasL k L = decide (∃ h : j < L.length, L[j].1 = k) := by
  rw [Bool.eq_iff_iff, hasL, List.any_eq_true, decide_eq_true_iff]
  constructor
  · rintro ⟨p, hp, he⟩
    obtain ⟨i, hi, rfl⟩ := List.getElem_of_mem hp
    have e := sameK_iff.1 he
    have hij : ¬ i < j := fun h => by have := h1 i h hi; omega
    have hjl : j < L.length := by omega
    refine ⟨hjl, ?_⟩
    have := h2 hjl
    by_cases hij' : i = j
    · subst hij'; exact e.symm
    · have := (List.pairwise_iff_getElem.1 hs) j i hjl hi (by omega)
      rw [ltInt] at this; simp at this; omega
  · rintro ⟨h, e⟩
    exact ⟨L[j], List.getElem_mem h, sameK_iff.2 e.symm⟩

end Ref12
end Go.Proofs.YtgfjpnpbkkadpaaGreat
namespace Go.Proofs.YtgfjpnpbkkadpaaGreat
open Go.RowKit
namespace Ref12

theorem del_snoc {k : Int} {L : List (Int × Int)} {j : Nat} (h : j < L.length) : delL k (L.take (j + 1)) = if L[j].1 = k then delL k (L.take j) else delL k (L.take j) ++ [L[j]] := by
  rw [List.take_succ_eq_append_getElem h, delL_append, delL_cons]
  by_cases e : L[j].1 = k
  · rw [if_pos e, if_pos (sameK_iff.2 e.symm)]; simp [delL]
  · rw [if_neg e, if_neg (fun h => e (sameK_iff.1 h).symm)]; simp [delL]
theorem del_le (k : Int) (L : List (Int × Int)) : (delL k L).length ≤ L.length := List.length_filter_le _ _
theorem del_lt (k : Int) (L : List (Int × Int)) : decide ((delL k L).length < L.length) = hasL k L := by
  rw [Bool.eq_iff_iff, decide_eq_true_iff, hasL, List.any_eq_true]
  constructor
  · intro h
    refine Classical.byContradiction fun hn => ?_
    have : delL k L = L := delL_none (fun p hp => by
      cases hs : sameK k p.1 with
      | false => rfl
      | true => exact absurd ⟨p, hp, hs⟩ hn)
    rw [this] at h; omega
  · rintro ⟨p, hp, hs⟩
    have := List.length_filter_lt_length_iff_exists (p := fun p : Int × Int => !sameK k p.1) (l := L)
    exact this.2 ⟨p, hp, by simp [hs]⟩

end Ref12
end Go.Proofs.YtgfjpnpbkkadpaaGreat
namespace Go.Proofs.YtgfjpnpbkkadpaaGreat
open Go.RowKit
namespace Ref12

theorem get_take_none {k : Int} {L : List (Int × Int)} {j : Nat} (h : ∀ i (_ : i < j) (h : i < L.length), L[i].1 ≠ k) (hj : j < L.length) (e : L[j].1 = k) : getL k L = some L[j].2 := by
  have h1 : L = L.take j ++ L[j] :: L.drop (j + 1) := by rw [← List.drop_eq_getElem_cons hj, List.take_append_drop]
  have h2 : L.find? (fun p => sameK k p.1) = some L[j] := by
    rw [List.find?_eq_some_iff_append]
    refine ⟨sameK_iff.2 e.symm, L.take j, L.drop (j + 1), h1, fun p hp => ?_⟩
    obtain ⟨i, hi, rfl⟩ := List.getElem_of_mem hp
    rw [List.length_take] at hi
    rw [List.getElem_take, Bool.not_eq_true', Bool.eq_false_iff]
    exact fun hs => h i (by omega) (by omega) (sameK_iff.1 hs).symm
  unfold getL
  rw [h2]; rfl
theorem get_none {k : Int} {L : List (Int × Int)} (h : ∀ i (h : i < L.length), L[i].1 ≠ k) : getL k L = none := by
  unfold getL
  have : L.find? (fun p => sameK k p.1) = none := by
    rw [List.find?_eq_none]
    intro p hp hs
    obtain ⟨i, hi, rfl⟩ := List.getElem_of_mem hp
    exact h i hi (sameK_iff.1 hs).symm
  rw [this]; rfl

/-- What Get answers. -/
def GetPost (k : Int) (L : List (Int × Int)) (w : World) (e : Ending) (w' : World) : Prop :=
  e = .returned (.tuple #[.int .i64 ((getL k L).getD 0), .bool (getL k L).isSome]) ∧ w = w'

theorem infoI : (Tryz.prog.info? 3).map (fun i => (i.zero, i.size, i.bytes)) = some (some (.int .i64 0), 1, 8) := by kernel_rfl

end Ref12
end Go.Proofs.YtgfjpnpbkkadpaaGreat
