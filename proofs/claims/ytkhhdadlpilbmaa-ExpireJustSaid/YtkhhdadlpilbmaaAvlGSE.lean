/- The maps in order (avl) at one instance: getting; the last key. -/
import Derived.Test.YtkhhdadlpilbmaaAvlFSE
namespace Go.Proofs.Ytkhhdadlpilbmaa
open Go.RowKit
namespace AvlSE

/-- What Get answers. -/
def GetPost (k : ByteArray) (L : List (ByteArray × Unit)) (w : World) (e : Ending) (w' : World) : Prop :=
  e = .returned (.tuple #[.agg #[], .bool (getL k L).isSome]) ∧ w = w'

theorem lastL_node {A B : List (ByteArray × Unit)} {p : ByteArray × Unit} (h : B ≠ []) : (A ++ p :: B).getLast? = B.getLast? := by
  cases B with
  | nil => exact absurd rfl h
  | cons b B => simp [List.getLast?_append, List.getLast?_cons]

end AvlSE
end Go.Proofs.Ytkhhdadlpilbmaa
