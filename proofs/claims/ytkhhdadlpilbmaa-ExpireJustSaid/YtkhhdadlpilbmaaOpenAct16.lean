/- Acts of layer 16 that came in. -/
import Derived.Test.YtkhhdadlpilbmaaOpenRow
import Derived.Test.YtkhhdadlpilbmaaOpenSpan
import Derived.Test.YtkhhdadlpilbmaaExp4
import Derived.ProofKit
namespace Go.Proofs.Ytkhhdadlpilbmaa
open Go.ChangeShapes Go.WideShapes Go.ChangeAt Go.RowKit Go.Deep
theorem cells_Act16 : Try.prog.cellsOf 72 = 3 := by kernel_rfl
theorem len_Act16 {α : Type} {l : List α} (h : l.length = 3) : ∃ c0 c1 c2, l = [c0, c1, c2] := by
  match l, h with
  | [c0, c1, c2], _ => exact ⟨c0, c1, c2, rfl⟩
theorem cells_Act16_0 : Try.prog.cellsOf 3 = 1 := by kernel_rfl
theorem cells_Act16_1 : Try.prog.cellsOf 9 = 1 := by kernel_rfl
theorem cells_Act16_2 : Try.prog.cellsOf 3 = 1 := by kernel_rfl
theorem open_Act16 {H : Type} {enc : TypeId × Value → H} {w : World} {n : Nat} {cs : List Value} {y : DataW H × List MemPlace} (h : DataW.trod enc Try.prog w 0 (fun _ => true) true n 72 cs = some y) :
    ∃ a : Law16.Ac, cs = Law16.ac a ∧ (a.key.size ≤ maxLen ∧ in64 a.e) := by
  obtain ⟨xs, n', -, -, hl, hxl, hf⟩ := DataW.trod_struct Try.underlying72 h
  rw [cells_Act16] at hl
  obtain ⟨c0, c1, c2, rfl⟩ := len_Act16 hl
  have hx : xs.length = 3 := hxl
  have h0 := hf 0 _ rfl
  have h1 := hf 1 _ rfl
  have h2 := hf 2 _ rfl
  clear h hf
  change DataW.trod enc Try.prog w 0 (fun _ => true) true n' 3 (List.take (Try.prog.cellsOf 3) (List.drop 0 [c0, c1, c2])) = xs[0]? at h0
  rw [cells_Act16_0] at h0
  change DataW.trod enc Try.prog w 0 (fun _ => true) true n' 9 (List.take (Try.prog.cellsOf 9) (List.drop 1 [c0, c1, c2])) = xs[1]? at h1
  rw [cells_Act16_1] at h1
  change DataW.trod enc Try.prog w 0 (fun _ => true) true n' 3 (List.take (Try.prog.cellsOf 3) (List.drop 2 [c0, c1, c2])) = xs[2]? at h2
  rw [cells_Act16_2] at h2
  simp only [List.drop_zero, List.drop_succ_cons, List.take_succ_cons, List.take_zero] at h0 h1 h2
  obtain ⟨z0, rfl, wf0⟩ := field_int Try.underlying3 h0 (by simp [hx])
  obtain ⟨z1, rfl, wf1⟩ := field_strl Try.underlying9 h1 (by simp [hx])
  obtain ⟨z2, rfl, wf2⟩ := field_int Try.underlying3 h2 (by simp [hx])
  exact ⟨⟨z0, z1, z2⟩, rfl, wf1, in64_of wf2⟩
end Go.Proofs.Ytkhhdadlpilbmaa
