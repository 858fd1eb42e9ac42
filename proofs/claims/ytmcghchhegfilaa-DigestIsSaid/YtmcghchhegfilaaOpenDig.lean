/- Two digests that came in. -/
import Derived.Test.YtmcghchhegfilaaOpenSpan
import Derived.Test.YtmcghchhegfilaaDigD
import Derived.ProofKit
import Derived.OpenShut
namespace Go.Proofs.Ytmcghchhegfilaa
open Go.ChangeShapes Go.WideShapes Go.ChangeAt Go.RowKit Go.Deep
theorem cells_dint : Try.prog.cellsOf 3 = 1 := by kernel_rfl
theorem cells_d16 : Try.prog.cellsOf 23 = 16 := by kernel_rfl
theorem cells_dg : Try.prog.cellsOf 25 = 16 := by kernel_rfl
theorem cells_dg2 : Try.prog.cellsOf 26 = 32 := by kernel_rfl
set_option maxRecDepth 100000 in
theorem open_d16 {H : Type} {enc : TypeId × Value → H} {w : World} {n : Nat} {cs : List Value} {y : DataW H × List MemPlace} (h : DataW.trod enc Try.prog w 0 (fun _ => true) true n 23 cs = some y) : ∃ f : Nat → Int, cs = DigW.dcs f := by
  obtain ⟨xs, m, -, -, hl, hxl, hf⟩ := DataW.trod_array Try.underlying23 h
  rw [cells_d16] at hl
  have h1 : ∀ i : Nat, ∃ z : Int, i < 16 → cs[i]? = some (.int .i64 z) := fun i => by
    by_cases hi : i < 16
    · have h2 := hf i hi
      rw [cells_dint, Nat.mul_one, List.drop_eq_getElem_cons (by omega), List.take_succ_cons, List.take_zero] at h2
      obtain ⟨z, hz, -⟩ := field_int Try.underlying3 h2 (by simp [hxl, hi])
      exact ⟨z, fun _ => by rw [List.getElem?_eq_getElem (by omega), hz]⟩
    · exact ⟨0, fun h => absurd h hi⟩
  obtain ⟨f, hf2⟩ := Classical.axiomOfChoice h1
  refine ⟨f, List.ext_getElem? (fun i => ?_)⟩
  by_cases hi : i < 16
  · rw [hf2 i hi]
    rcases DigW.c16 hi with rfl | rfl | rfl | rfl | rfl | rfl | rfl | rfl | rfl | rfl | rfl | rfl | rfl | rfl | rfl | rfl <;> rfl
  · rw [List.getElem?_eq_none (by omega), List.getElem?_eq_none (by show 16 ≤ i; omega)]
set_option maxRecDepth 100000 in
theorem open_dg {H : Type} {enc : TypeId × Value → H} {w : World} {n : Nat} {cs : List Value} {y : DataW H × List MemPlace} (h : DataW.trod enc Try.prog w 0 (fun _ => true) true n 25 cs = some y) : ∃ f : Nat → Int, cs = DigW.dcs f := by
  obtain ⟨xs, n', -, -, hl, hxl, hf⟩ := DataW.trod_struct Try.underlying25 h
  rw [cells_dg] at hl
  have hx : xs.length = 1 := hxl
  have h0 := hf 0 _ rfl
  change DataW.trod enc Try.prog w 0 (fun _ => true) true n' 23 (List.take (Try.prog.cellsOf 23) (List.drop 0 cs)) = xs[0]? at h0
  rw [cells_d16, List.drop_zero, List.take_of_length_le (by omega), List.getElem?_eq_getElem (by omega)] at h0
  exact open_d16 h0
set_option maxRecDepth 100000 in
theorem open_dg2 {H : Type} {enc : TypeId × Value → H} {w : World} {n : Nat} {cs : List Value} {y : DataW H × List MemPlace} (h : DataW.trod enc Try.prog w 0 (fun _ => true) true n 26 cs = some y) : ∃ f g : Nat → Int, cs = DigW.dcs f ++ DigW.dcs g ∧ True := by
  obtain ⟨xs, m, -, -, hl, hxl, hf⟩ := DataW.trod_array Try.underlying26 h
  rw [cells_dg2] at hl
  have h0 := hf 0 (by omega)
  have h1 := hf 1 (by omega)
  rw [cells_dg, List.getElem?_eq_getElem (by omega)] at h0 h1
  obtain ⟨f, e0⟩ := open_dg h0
  obtain ⟨g, e1⟩ := open_dg h1
  refine ⟨f, g, ?_, trivial⟩
  rw [← e0, ← e1, Nat.zero_mul, List.drop_zero, Nat.one_mul, List.take_of_length_le (l := cs.drop 16) (by rw [List.length_drop]; omega), List.take_append_drop]
set_option maxRecDepth 10000 in
theorem okWide_dg2 {W : World} {r : Reach} {b0 : Nat} {v : Value} (h : Value.okWide Try.prog W r b0 26 v) : ∃ cs, v = .agg cs ∧ cs.size = 32 := by
  simp only [Value.okWide, Try.underlying26] at h
  obtain ⟨cs, h1, h2, _⟩ := h
  exact ⟨cs, h1, by rw [h2, cells_dg2]⟩
abbrev n1 (x : Int) : List Value := [.int .i64 x]
theorem n1_len (x : Int) : (n1 x).length = 1 := rfl
theorem open_n1 {H : Type} {enc : TypeId × Value → H} {w : World} {n : Nat} {cs : List Value} {y : DataW H × List MemPlace} (h : DataW.trod enc Try.prog w 0 (fun _ => true) true n 3 cs = some y) : ∃ a : Int, cs = n1 a ∧ in64 a := by
  obtain ⟨z, h1, -, h2⟩ := DataW.trod_int Try.underlying3 h
  exact ⟨z, h1, in64_of h2⟩
theorem flat_n1 (l : List Int) : l.flatMap n1 = ints l := by
  induction l with
  | nil => rfl
  | cons x l ih => rw [List.flatMap_cons, ih]; rfl
end Go.Proofs.Ytmcghchhegfilaa
