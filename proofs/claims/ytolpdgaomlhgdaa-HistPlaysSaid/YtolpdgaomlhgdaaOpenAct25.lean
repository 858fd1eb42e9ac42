/- Acts of layer 25 that came in. -/
import Derived.Test.YtolpdgaomlhgdaaOpenInts
import Derived.Test.YtolpdgaomlhgdaaLaw25s
namespace Go.Proofs.Ytolpdgaomlhgdaa
open Go.ChangeShapes Go.WideShapes Go.ChangeAt Go.RowKit Go.Deep
theorem cellsA25 : Try.prog.cellsOf 107 = 3 := by kernel_rfl
theorem cellsSl25 : Try.prog.cellsOf 40 = 1 := by kernel_rfl
theorem open_act25 {H : Type} {enc : TypeId × Value → H} {w : World} {n : Nat} {cs : List Value} {y : DataW H × List MemPlace} (h : DataW.trod enc Try.prog w 0 (fun _ => true) true n 107 cs = some y) :
    ∃ a : Law25.Ac, cs = Law25.ac a ∧ Law25.Rd w a := by
  obtain ⟨xs, n', -, -, hl, hxl, hf⟩ := DataW.trod_struct Try.underlying107 h
  rw [cellsA25] at hl
  obtain ⟨c0, c1, c2, rfl⟩ := len3 hl
  have hx : xs.length = 3 := hxl
  have h0 := hf 0 _ rfl
  have h1 := hf 1 _ rfl
  have h2 := hf 2 _ rfl
  clear h hf
  change DataW.trod enc Try.prog w 0 (fun _ => true) true n' 3 (List.take (Try.prog.cellsOf 3) (List.drop 0 [c0, c1, c2])) = xs[0]? at h0
  change DataW.trod enc Try.prog w 0 (fun _ => true) true n' 3 (List.take (Try.prog.cellsOf 3) (List.drop 1 [c0, c1, c2])) = xs[1]? at h1
  change DataW.trod enc Try.prog w 0 (fun _ => true) true n' 40 (List.take (Try.prog.cellsOf 40) (List.drop 2 [c0, c1, c2])) = xs[2]? at h2
  rw [cellsI] at h0 h1
  rw [cellsSl25] at h2
  simp only [List.drop_zero, List.drop_succ_cons, List.take_succ_cons, List.take_zero] at h0 h1 h2
  obtain ⟨z0, rfl, -⟩ := field_int Try.underlying3 h0 (by simp [hx])
  obtain ⟨z1, rfl, -⟩ := field_int Try.underlying3 h1 (by simp [hx])
  rw [List.getElem?_eq_getElem (by omega)] at h2
  obtain ⟨A, cap, l, hcs, hS, -⟩ := open_sl Try.underlying40 cellsI (by omega) int1 (fun _ => True) int1_len (fun n cs' y h => open_int1 h) h2
  simp at hcs
  subst hcs
  rw [flat_ints] at hS
  exact ⟨⟨z0, z1, A, cap, l⟩, rfl, hS⟩
end Go.Proofs.Ytolpdgaomlhgdaa
