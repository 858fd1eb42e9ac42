/- Two bytes that came in. -/
import Derived.Test.YtmcghchhegfilaaOpenU8
import Derived.ProofKit
import Derived.OpenShut
namespace Go.Proofs.Ytmcghchhegfilaa
open Go.ChangeShapes Go.WideShapes Go.ChangeAt Go.RowKit Go.Deep
theorem cells_a2 : Try.prog.cellsOf 48 = 2 := by kernel_rfl
theorem cells_a2i : Try.prog.cellsOf 5 = 1 := by kernel_rfl
set_option maxRecDepth 10000 in
theorem okWide_a2 {W : World} {r : Reach} {b0 : Nat} {v : Value} (h : Value.okWide Try.prog W r b0 48 v) : ∃ cs, v = .agg cs ∧ cs.size = 2 := by
  simp only [Value.okWide, Try.underlying48] at h
  obtain ⟨cs, h1, h2, _⟩ := h
  exact ⟨cs, h1, by rw [h2, cells_a2]⟩
theorem len_a2 {α : Type} {l : List α} (h : l.length = 2) : ∃ c0 c1, l = [c0, c1] := by
  match l, h with
  | [c0, c1], _ => exact ⟨c0, c1, rfl⟩
set_option maxRecDepth 10000 in
theorem open_a2 {H : Type} {enc : TypeId × Value → H} {w : World} {n : Nat} {cs : List Value} {y : DataW H × List MemPlace} (h : DataW.trod enc Try.prog w 0 (fun _ => true) true n 48 cs = some y) :
    ∃ a b : Int, cs = [.int .u8 a, .int .u8 b] ∧ (0 ≤ a ∧ a < 256) ∧ (0 ≤ b ∧ b < 256) := by
  obtain ⟨xs, m, -, -, hl, hxl, hf⟩ := DataW.trod_array Try.underlying48 h
  rw [cells_a2] at hl
  obtain ⟨c0, c1, rfl⟩ := len_a2 hl
  have h0 := hf 0 (by omega)
  have h1 := hf 1 (by omega)
  clear hf h hl
  rw [cells_a2i] at h0 h1
  change DataW.trod enc Try.prog w 0 (fun _ => true) true m 5 [c0] = xs[0]? at h0
  change DataW.trod enc Try.prog w 0 (fun _ => true) true m 5 [c1] = xs[1]? at h1
  obtain ⟨z0, rfl, w0⟩ := field_int Try.underlying5 h0 (by simp [hxl])
  obtain ⟨z1, rfl, w1⟩ := field_int Try.underlying5 h1 (by simp [hxl])
  exact ⟨z0, z1, rfl, u8_of w0, u8_of w1⟩
end Go.Proofs.Ytmcghchhegfilaa
