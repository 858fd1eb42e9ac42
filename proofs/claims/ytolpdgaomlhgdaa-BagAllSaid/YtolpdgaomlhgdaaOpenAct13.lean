/- Acts of layer 13 that came in. -/
import Derived.Test.YtolpdgaomlhgdaaOpenRow
import Derived.Test.YtolpdgaomlhgdaaLaw13ra
namespace Go.Proofs.Ytolpdgaomlhgdaa
open Go.ChangeShapes Go.WideShapes Go.ChangeAt Go.RowKit Go.Deep
theorem cellsA13 : Try.prog.cellsOf 83 = 3 := by kernel_rfl
theorem open_act13 {H : Type} {enc : TypeId × Value → H} {w : World} {n : Nat} {cs : List Value} {y : DataW H × List MemPlace} (h : DataW.trod enc Try.prog w 0 (fun _ => true) true n 83 cs = some y) :
    ∃ a : Int × Int × Int, cs = Law13.ac a ∧ True := by
  obtain ⟨xs, n', -, -, hl, hxl, hf⟩ := DataW.trod_struct Try.underlying83 h
  rw [cellsA13] at hl
  obtain ⟨c0, c1, c2, rfl⟩ := len3 hl
  have hx : xs.length = 3 := hxl
  have h0 := hf 0 _ rfl
  have h1 := hf 1 _ rfl
  have h2 := hf 2 _ rfl
  clear h hf
  change DataW.trod enc Try.prog w 0 (fun _ => true) true n' 3 (List.take (Try.prog.cellsOf 3) (List.drop 0 [c0, c1, c2])) = xs[0]? at h0
  change DataW.trod enc Try.prog w 0 (fun _ => true) true n' 3 (List.take (Try.prog.cellsOf 3) (List.drop 1 [c0, c1, c2])) = xs[1]? at h1
  change DataW.trod enc Try.prog w 0 (fun _ => true) true n' 3 (List.take (Try.prog.cellsOf 3) (List.drop 2 [c0, c1, c2])) = xs[2]? at h2
  rw [cellsI] at h0 h1 h2
  simp only [List.drop_zero, List.drop_succ_cons, List.take_succ_cons, List.take_zero] at h0 h1 h2
  obtain ⟨z0, rfl, -⟩ := field_int Try.underlying3 h0 (by simp [hx])
  obtain ⟨z1, rfl, -⟩ := field_int Try.underlying3 h1 (by simp [hx])
  obtain ⟨z2, rfl, -⟩ := field_int Try.underlying3 h2 (by simp [hx])
  exact ⟨(z0, z1, z2), rfl, trivial⟩
end Go.Proofs.Ytolpdgaomlhgdaa
