/- Lists of numbers that came in. -/
import Derived.Test.YtolpdgaomlhgdaaOpenRow
import Derived.Test.YtolpdgaomlhgdaaOpen
import Derived.Test.YtolpdgaomlhgdaaRef01
namespace Go.Proofs.Ytolpdgaomlhgdaa
open Go.ChangeShapes Go.WideShapes Go.ChangeAt Go.RowKit Go.Deep
abbrev int1 (n : Int) : List Value := [.int .i64 n]
theorem int1_len (n : Int) : (int1 n).length = 1 := rfl
theorem open_int1 {H : Type} {enc : TypeId × Value → H} {w : World} {n : Nat} {cs : List Value} {y : DataW H × List MemPlace} (h : DataW.trod enc Try.prog w 0 (fun _ => true) true n 3 cs = some y) :
    ∃ a : Int, cs = int1 a ∧ True := by
  obtain ⟨z, h1, -, -⟩ := DataW.trod_int Try.underlying3 h
  exact ⟨z, h1, trivial⟩
theorem flat_ints (l : List Int) : l.flatMap int1 = ints l := by
  induction l with
  | nil => rfl
  | cons x l ih => rw [List.flatMap_cons, ih]; rfl
end Go.Proofs.Ytolpdgaomlhgdaa
