/- Three numbers that came in. -/
import Derived.Test.YtdpngmgaomghoaaGreatOpens
import Derived.Test.YtdpngmgaomghoaaGreatOpenSpan
import Derived.ProofKit
import Derived.OpenShut
namespace Go.Proofs.YtdpngmgaomghoaaGreat
open Go.ChangeShapes Go.WideShapes Go.ChangeAt Go.RowKit Go.Deep
theorem cells_arr3 : Tryz.prog.cellsOf 101 = 3 := by kernel_rfl
theorem cells_arr3i : Tryz.prog.cellsOf 3 = 1 := by kernel_rfl
set_option maxRecDepth 10000 in
theorem okWide_arr3 {W : World} {r : Reach} {b0 : Nat} {v : Value} (h : Value.okWide Tryz.prog W r b0 101 v) : ∃ cs, v = .agg cs ∧ cs.size = 3 := by
 simp only [Value.okWide, Tryz.underlying101] at h
 obtain ⟨cs, h1, h2, _⟩ := h
 exact ⟨cs, h1, by rw [h2, cells_arr3]⟩
theorem len_arr3 {α : Type} {l : List α} (h : l.length = 3) : ∃ c0 c1 c2, l = [c0, c1, c2] := by
 match l, h with
 | [c0, c1, c2], _ => exact ⟨c0, c1, c2, rfl⟩
set_option maxRecDepth 10000 in
theorem open_arr3 {H : Type} {enc : TypeId × Value → H} {w : World} {n : Nat} {cs : List Value} {y : DataW H × List MemPlace} (h : DataW.trod enc Tryz.prog w 0 (fun _ => true) true n 101 cs = some y) :
  ∃ a b c : Int, cs = [.int .i64 a, .int .i64 b, .int .i64 c] ∧ in64 a ∧ in64 b ∧ in64 c := by
 obtain ⟨xs, m, -, -, hl, hxl, hf⟩ := DataW.trod_array Tryz.underlying101 h
 rw [cells_arr3] at hl
 obtain ⟨c0, c1, c2, rfl⟩ := len_arr3 hl
 have h0 := hf 0 (by omega)
 have h1 := hf 1 (by omega)
 have h2 := hf 2 (by omega)
 clear hf h hl
 rw [cells_arr3i] at h0 h1 h2
 change DataW.trod enc Tryz.prog w 0 (fun _ => true) true m 3 [c0] = xs[0]? at h0
 change DataW.trod enc Tryz.prog w 0 (fun _ => true) true m 3 [c1] = xs[1]? at h1
 change DataW.trod enc Tryz.prog w 0 (fun _ => true) true m 3 [c2] = xs[2]? at h2
 obtain ⟨z0, rfl, w0⟩ := field_int Tryz.underlying3 h0 (by simp [hxl])
 obtain ⟨z1, rfl, w1⟩ := field_int Tryz.underlying3 h1 (by simp [hxl])
 obtain ⟨z2, rfl, w2⟩ := field_int Tryz.underlying3 h2 (by simp [hxl])
 exact ⟨z0, z1, z2, rfl, in64_of w0, in64_of w1, in64_of w2⟩
end Go.Proofs.YtdpngmgaomghoaaGreat
