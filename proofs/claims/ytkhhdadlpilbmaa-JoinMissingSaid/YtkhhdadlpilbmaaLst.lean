/- How many keys a tree of a depth has: at least, and at most. -/
import Derived.Test.YtkhhdadlpilbmaaTree2
namespace Go.Proofs.Ytkhhdadlpilbmaa
/-- The least numbers of keys, two at a time. -/
def lst : Nat → Nat × Nat
  | 0 => (0, 1)
  | n + 1 => ((lst n).2, (lst n).1 + (lst n).2 + 1)
theorem lst_mono1 (n : Nat) : (lst n).1 ≤ (lst n).2 ∧ (lst n).1 ≤ (lst (n + 1)).1 ∧ (lst n).2 ≤ (lst (n + 1)).2 := by
  induction n with
  | zero => simp [lst]
  | succ n ih => simp only [lst] at *; omega
theorem lst_mono {m n : Nat} (h : m ≤ n) : (lst m).1 ≤ (lst n).1 ∧ (lst m).2 ≤ (lst n).2 := by
  induction h with
  | refl => exact ⟨Nat.le_refl _, Nat.le_refl _⟩
  | step _ ih => have := lst_mono1 (by assumption); exact ⟨Nat.le_trans ih.1 (lst_mono1 _).2.1, Nat.le_trans ih.2 (lst_mono1 _).2.2⟩
theorem lst_80 : (lst 80).2 ≤ 1152921504606846976 := by decide +kernel

theorem lst_size {κ ν : Type} : ∀ {t : AT κ ν}, t.wd → t.bal → (lst t.dep.toNat).1 ≤ t.size ∧ t.size < 2 ^ t.dep.toNat
  | .nil, _, _ => by simp [AT.dep, lst, AT.size]
  | .node b k v l r d, ⟨w1, w2, w3⟩, ⟨b1, b2, b3, b4⟩ => by
    obtain ⟨l1, l2⟩ := lst_size w1 b1
    obtain ⟨r1, r2⟩ := lst_size w2 b2
    have := w1.dep0
    have := w2.dep0
    simp only [AT.dep_node, AT.size]
    have key : ∀ m : Nat, (lst (m + 2)).1 = (lst m).1 + (lst (m + 1)).1 + 1 := fun m => by simp [lst]
    rcases Int.lt_trichotomy l.dep r.dep with h | h | h
    · have hd : d.toNat = l.dep.toNat + 2 := by omega
      have hr : r.dep.toNat = l.dep.toNat + 1 := by omega
      rw [hd, key, Nat.pow_succ]
      rw [hr] at r1 r2
      have := Nat.pow_lt_pow_right (a := 2) (by omega) (Nat.lt_succ_self l.dep.toNat)
      rw [Nat.succ_eq_add_one] at this
      omega
    · have hd : d.toNat = l.dep.toNat + 1 := by omega
      have hr : r.dep.toNat = l.dep.toNat := by omega
      rw [hr] at r1 r2
      have hm : (lst (l.dep.toNat + 1)).1 ≤ (lst l.dep.toNat).1 + (lst l.dep.toNat).1 + 1 := by
        cases hq : l.dep.toNat with
        | zero => simp [lst]
        | succ q => have := lst_mono1 q; rw [key]; omega
      rw [hd, Nat.pow_succ]
      omega
    · have hd : d.toNat = r.dep.toNat + 2 := by omega
      have hl : l.dep.toNat = r.dep.toNat + 1 := by omega
      rw [hd, key, Nat.pow_succ]
      rw [hl] at l1 l2
      have := Nat.pow_lt_pow_right (a := 2) (by omega) (Nat.lt_succ_self r.dep.toNat)
      rw [Nat.succ_eq_add_one] at this
      omega
end Go.Proofs.Ytkhhdadlpilbmaa
