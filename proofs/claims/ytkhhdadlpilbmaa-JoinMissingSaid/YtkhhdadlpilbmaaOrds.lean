/- Keys of kind int in order; keys that are strings in order. -/
import Derived.Test.YtkhhdadlpilbmaaTree
namespace Go.Proofs.Ytkhhdadlpilbmaa
instance : Ord Int where
  lt a b := decide (a < b)
  irr a := by simp
  tr a b c := by simp; omega
  tri a b := by simp; omega
theorem ltInt (a b : Int) : Ord.lt a b = decide (a < b) := rfl
end Go.Proofs.Ytkhhdadlpilbmaa
