/- Acts of layer 20 that came in. -/
import Derived.Test.YtkhhdadlpilbmaaOpenRow
import Derived.Test.YtkhhdadlpilbmaaOpenSpan
import Derived.Test.YtkhhdadlpilbmaaLaw20p
import Derived.ProofKit
namespace Go.Proofs.Ytkhhdadlpilbmaa
open Go.ChangeShapes Go.WideShapes Go.ChangeAt Go.RowKit Go.Deep
theorem cells_Act20 : Try.prog.cellsOf 40 = 10 := by kernel_rfl
theorem len_Act20 {α : Type} {l : List α} (h : l.length = 10) : ∃ c0 c1 c2 c3 c4 c5 c6 c7 c8 c9, l = [c0, c1, c2, c3, c4, c5, c6, c7, c8, c9] := by
  match l, h with
  | [c0, c1, c2, c3, c4, c5, c6, c7, c8, c9], _ => exact ⟨c0, c1, c2, c3, c4, c5, c6, c7, c8, c9, rfl⟩
theorem cells_Act20_0 : Try.prog.cellsOf 3 = 1 := by kernel_rfl
theorem cells_Act20_1 : Try.prog.cellsOf 38 = 9 := by kernel_rfl
theorem open_Act20 {H : Type} {enc : TypeId × Value → H} {w : World} {n : Nat} {cs : List Value} {y : DataW H × List MemPlace} (h : DataW.trod enc Try.prog w 0 (fun _ => true) true n 40 cs = some y) :
    ∃ a : Law20.Ac, cs = Law20.ac a ∧ a.s.ok := by
  obtain ⟨xs, n', -, -, hl, hxl, hf⟩ := DataW.trod_struct Try.underlying40 h
  rw [cells_Act20] at hl
  obtain ⟨c0, c1, c2, c3, c4, c5, c6, c7, c8, c9, rfl⟩ := len_Act20 hl
  have hx : xs.length = 2 := hxl
  have h0 := hf 0 _ rfl
  have h1 := hf 1 _ rfl
  clear h hf
  change DataW.trod enc Try.prog w 0 (fun _ => true) true n' 3 (List.take (Try.prog.cellsOf 3) (List.drop 0 [c0, c1, c2, c3, c4, c5, c6, c7, c8, c9])) = xs[0]? at h0
  rw [cells_Act20_0] at h0
  change DataW.trod enc Try.prog w 0 (fun _ => true) true n' 38 (List.take (Try.prog.cellsOf 38) (List.drop 1 [c0, c1, c2, c3, c4, c5, c6, c7, c8, c9])) = xs[1]? at h1
  rw [cells_Act20_1] at h1
  simp only [List.drop_zero, List.drop_succ_cons, List.take_succ_cons, List.take_zero] at h0 h1
  obtain ⟨z0, rfl, wf0⟩ := field_int Try.underlying3 h0 (by simp [hx])
  rw [List.getElem?_eq_getElem (by omega)] at h1
  obtain ⟨z1, hcs1, ok1⟩ := open_Span h1
  simp only [List.cons.injEq, and_true] at hcs1
  obtain ⟨rfl, rfl, rfl, rfl, rfl, rfl, rfl, rfl, rfl⟩ := hcs1
  exact ⟨⟨z0, z1⟩, rfl, ok1⟩
end Go.Proofs.Ytkhhdadlpilbmaa
