/- Keys that are strings, in order. -/
import Derived.Test.YtkhhdadlpilbmaaTree
import Derived.Lib.Strings
namespace Go.Proofs.Ytkhhdadlpilbmaa
open Go.RowKit
namespace Bl
theorem irr : ∀ l : List UInt8, Op.bytesLess l l = false
  | [] => by simp [Op.bytesLess]
  | a :: x => by simp [Op.bytesLess, irr x]
theorem tr : ∀ a b c : List UInt8, Op.bytesLess a b = true → Op.bytesLess b c = true → Op.bytesLess a c = true
  | [], [], _, h, _ => by simp [Op.bytesLess] at h
  | [], _ :: _, [], _, h => by simp [Op.bytesLess] at h
  | [], _ :: _, _ :: _, _, _ => by simp [Op.bytesLess]
  | _ :: _, [], _, h, _ => by simp [Op.bytesLess] at h
  | _ :: _, _ :: _, [], _, h => by simp [Op.bytesLess] at h
  | a :: x, b :: y, c :: z, h1, h2 => by
    simp only [Op.bytesLess, Bool.or_eq_true, decide_eq_true_eq, Bool.and_eq_true, beq_iff_eq] at h1 h2 ⊢
    rcases h1 with h1 | ⟨rfl, h1⟩
    · rcases h2 with h2 | ⟨rfl, h2⟩
      · exact .inl (UInt8.lt_trans h1 h2)
      · exact .inl h1
    · rcases h2 with h2 | ⟨rfl, h2⟩
      · exact .inl h2
      · exact .inr ⟨rfl, tr x y z h1 h2⟩
theorem tri : ∀ a b : List UInt8, Op.bytesLess a b = false → Op.bytesLess b a = false → a = b
  | [], [], _, _ => rfl
  | [], _ :: _, h, _ => by simp [Op.bytesLess] at h
  | _ :: _, [], _, h => by simp [Op.bytesLess] at h
  | a :: x, b :: y, h1, h2 => by
    simp only [Op.bytesLess, Bool.or_eq_false_iff, decide_eq_false_iff_not, Bool.and_eq_false_iff, beq_eq_false_iff_ne, ne_eq] at h1 h2
    have e : a = b := by
      have := h1.1; have := h2.1
      exact UInt8.le_antisymm (UInt8.not_lt.1 h2.1) (UInt8.not_lt.1 h1.1)
    subst e
    simp only [not_true_eq_false, false_or] at h1 h2
    rw [tri x y h1.2 h2.2]
end Bl
theorem tl_data (s : ByteArray) : s.toList = s.data.toList := Lib.toList_data s
theorem str_ext {a b : ByteArray} (h : a.toList = b.toList) : a = b := by
  rw [tl_data, tl_data] at h
  exact ByteArray.ext (Array.ext' h)
instance : Ord ByteArray where
  lt a b := Op.bytesLess a.toList b.toList
  irr _a := Bl.irr _
  tr _a _b _c := Bl.tr _ _ _
  tri _a _b h1 h2 := str_ext (Bl.tri _ _ h1 h2)
theorem Bl.ne {a b : ByteArray} (h : Ord.lt a b = true) : (a.toList == b.toList) = false := by
  have hne : a.toList ≠ b.toList := fun e => by rw [str_ext e, Ord.irr] at h; cases h
  simpa using hne
theorem Bl.ne' {a b : ByteArray} (h : Ord.lt a b = true) : (b.toList == a.toList) = false := by
  have hne : b.toList ≠ a.toList := fun e => by rw [str_ext e, Ord.irr] at h; cases h
  simpa using hne
theorem ltStr (a b : ByteArray) : Ord.lt a b = Op.bytesLess a.toList b.toList := rfl
end Go.Proofs.Ytkhhdadlpilbmaa
