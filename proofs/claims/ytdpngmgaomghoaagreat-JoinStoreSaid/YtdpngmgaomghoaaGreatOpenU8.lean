/- Bytes that came in. -/
import Derived.Test.YtdpngmgaomghoaaGreatOpenSpan
import Derived.ProofKit
import Derived.OpenShut
namespace Go.Proofs.YtdpngmgaomghoaaGreat
open Go.ChangeShapes Go.WideShapes Go.ChangeAt Go.RowKit Go.Deep
abbrev u1 (x : Int) : List Value := [.int .u8 x]
theorem u1_len (x : Int) : (u1 x).length = 1 := rfl
theorem u8_of {n : Int} (h : (Lit.int .u8 n).wf = true) : 0 ≤ n ∧ n < 256 := by
  simp [Lit.wf, IntKind.min, IntKind.max, IntKind.signed, IntKind.bits] at h
  omega
theorem open_u1 {H : Type} {enc : TypeId × Value → H} {w : World} {n : Nat} {cs : List Value} {y : DataW H × List MemPlace} (h : DataW.trod enc Tryz.prog w 0 (fun _ => true) true n 5 cs = some y) : ∃ a : Int, cs = u1 a ∧ 0 ≤ a ∧ a < 256 := by
  obtain ⟨z, h1, -, h2⟩ := DataW.trod_int Tryz.underlying5 h
  exact ⟨z, h1, u8_of h2⟩
theorem flat_u1 (l : List Int) : l.flatMap u1 = l.map (Value.int .u8) := by
  induction l with
  | nil => rfl
  | cons x l ih => rw [List.flatMap_cons, ih]; rfl
end Go.Proofs.YtdpngmgaomghoaaGreat
