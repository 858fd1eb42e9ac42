/- Two numbers that came in. -/
import Derived.Test.YtgfjpnpbkkadpaaOpenSpan
import Derived.ProofKit
import Derived.OpenShut
namespace Go.Proofs.Ytgfjpnpbkkadpaa
open Go.ChangeShapes Go.WideShapes Go.ChangeAt Go.RowKit Go.Deep
theorem u32_of {z : Int} (h : (Lit.int .u32 z).wf = true) : 0 ≤ z ∧ z < 4294967296 := by
  simp [Lit.wf, IntKind.min, IntKind.max, IntKind.signed, IntKind.bits] at h
  omega
theorem cells_b2 : Try.prog.cellsOf 23 = 2 := by kernel_rfl
theorem cells_b2i : Try.prog.cellsOf 22 = 1 := by kernel_rfl
set_option maxRecDepth 10000 in
theorem okWide_b2 {W : World} {r : Reach} {b0 : Nat} {v : Value} (h : Value.okWide Try.prog W r b0 23 v) : ∃ cs, v = .agg cs ∧ cs.size = 2 := by
  simp only [Value.okWide, Try.underlying23] at h
  obtain ⟨cs, h1, h2, _⟩ := h
  exact ⟨cs, h1, by rw [h2, cells_b2]⟩
theorem len_b2 {α : Type} {l : List α} (h : l.length = 2) : ∃ c0 c1, l = [c0, c1] := by
  match l, h with
  | [c0, c1], _ => exact ⟨c0, c1, rfl⟩
set_option maxRecDepth 10000 in
theorem open_b2 {H : Type} {enc : TypeId × Value → H} {w : World} {n : Nat} {cs : List Value} {y : DataW H × List MemPlace} (h : DataW.trod enc Try.prog w 0 (fun _ => true) true n 23 cs = some y) :
    ∃ a b : Int, cs = [.int .u32 a, .int .u32 b] ∧ (0 ≤ a ∧ a < 4294967296) ∧ (0 ≤ b ∧ b < 4294967296) := by
  obtain ⟨xs, m, -, -, hl, hxl, hf⟩ := DataW.trod_array Try.underlying23 h
  rw [cells_b2] at hl
  obtain ⟨c0, c1, rfl⟩ := len_b2 hl
  have h0 := hf 0 (by omega)
  have h1 := hf 1 (by omega)
  clear hf h hl
  rw [cells_b2i] at h0 h1
  change DataW.trod enc Try.prog w 0 (fun _ => true) true m 22 [c0] = xs[0]? at h0
  change DataW.trod enc Try.prog w 0 (fun _ => true) true m 22 [c1] = xs[1]? at h1
  obtain ⟨z0, rfl, w0⟩ := field_int Try.underlying22 h0 (by simp [hxl])
  obtain ⟨z1, rfl, w1⟩ := field_int Try.underlying22 h1 (by simp [hxl])
  exact ⟨z0, z1, rfl, u32_of w0, u32_of w1⟩
end Go.Proofs.Ytgfjpnpbkkadpaa
