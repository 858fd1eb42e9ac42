/- Places, shifts and shapes that came in. -/
import Derived.Test.YtolpdgaomlhgdaaOpenRow
import Derived.Test.YtolpdgaomlhgdaaOpen
import Derived.Test.YtolpdgaomlhgdaaLaw23
import Derived.ProofKit
namespace Go.Proofs.Ytolpdgaomlhgdaa
open Go.ChangeShapes Go.WideShapes Go.ChangeAt Go.RowKit Go.Deep
section
variable {H : Type} {enc : TypeId × Value → H} {P : Program} {w : World} {base : Nat} {held : Bool}
theorem field_strl {t : TypeId} {n : Nat} {v : Value} {y : Option (DataW H × List MemPlace)} {spare : Nat → Bool} (ht : P.underlying t = some .string) (h : DataW.trod enc P w base spare held n t [v] = y) (hy : y.isSome = true) : ∃ z : ByteArray, v = .string z ∧ z.size ≤ maxLen := by
  obtain ⟨x, hx⟩ := Option.isSome_iff_exists.1 hy
  rw [hx] at h
  obtain ⟨z, h1, -, h2⟩ := DataW.trod_string ht h
  simp at h1
  exact ⟨z, h1, h2⟩
theorem field_bool {t : TypeId} {n : Nat} {v : Value} {y : Option (DataW H × List MemPlace)} {spare : Nat → Bool} (ht : P.underlying t = some .bool) (h : DataW.trod enc P w base spare held n t [v] = y) (hy : y.isSome = true) : ∃ z, v = .bool z := by
  obtain ⟨x, hx⟩ := Option.isSome_iff_exists.1 hy
  rw [hx] at h
  obtain ⟨z, h1, -⟩ := DataW.trod_bool ht h
  simp at h1
  exact ⟨z, h1⟩
end
theorem cells_Place : Try.prog.cellsOf 156 = 6 := by kernel_rfl
theorem len_Place {α : Type} {l : List α} (h : l.length = 6) : ∃ c0 c1 c2 c3 c4 c5, l = [c0, c1, c2, c3, c4, c5] := by
  match l, h with
  | [c0, c1, c2, c3, c4, c5], _ => exact ⟨c0, c1, c2, c3, c4, c5, rfl⟩
theorem cells_Place_0 : Try.prog.cellsOf 3 = 1 := by kernel_rfl
theorem cells_Place_1 : Try.prog.cellsOf 3 = 1 := by kernel_rfl
theorem cells_Place_2 : Try.prog.cellsOf 3 = 1 := by kernel_rfl
theorem cells_Place_3 : Try.prog.cellsOf 3 = 1 := by kernel_rfl
theorem cells_Place_4 : Try.prog.cellsOf 3 = 1 := by kernel_rfl
theorem cells_Place_5 : Try.prog.cellsOf 3 = 1 := by kernel_rfl
theorem open_Place {H : Type} {enc : TypeId × Value → H} {w : World} {n : Nat} {cs : List Value} {y : DataW H × List MemPlace} (h : DataW.trod enc Try.prog w 0 (fun _ => true) true n 156 cs = some y) :
    ∃ a : ShapeP.Pl, cs = Shape.plc a ∧ Shape.okK a.k := by
  obtain ⟨xs, n', -, -, hl, hxl, hf⟩ := DataW.trod_struct Try.underlying156 h
  rw [cells_Place] at hl
  obtain ⟨c0, c1, c2, c3, c4, c5, rfl⟩ := len_Place hl
  have hx : xs.length = 6 := hxl
  have h0 := hf 0 _ rfl
  have h1 := hf 1 _ rfl
  have h2 := hf 2 _ rfl
  have h3 := hf 3 _ rfl
  have h4 := hf 4 _ rfl
  have h5 := hf 5 _ rfl
  clear h hf
  change DataW.trod enc Try.prog w 0 (fun _ => true) true n' 3 (List.take (Try.prog.cellsOf 3) (List.drop 0 [c0, c1, c2, c3, c4, c5])) = xs[0]? at h0
  rw [cells_Place_0] at h0
  change DataW.trod enc Try.prog w 0 (fun _ => true) true n' 3 (List.take (Try.prog.cellsOf 3) (List.drop 1 [c0, c1, c2, c3, c4, c5])) = xs[1]? at h1
  rw [cells_Place_1] at h1
  change DataW.trod enc Try.prog w 0 (fun _ => true) true n' 3 (List.take (Try.prog.cellsOf 3) (List.drop 2 [c0, c1, c2, c3, c4, c5])) = xs[2]? at h2
  rw [cells_Place_2] at h2
  change DataW.trod enc Try.prog w 0 (fun _ => true) true n' 3 (List.take (Try.prog.cellsOf 3) (List.drop 3 [c0, c1, c2, c3, c4, c5])) = xs[3]? at h3
  rw [cells_Place_3] at h3
  change DataW.trod enc Try.prog w 0 (fun _ => true) true n' 3 (List.take (Try.prog.cellsOf 3) (List.drop 4 [c0, c1, c2, c3, c4, c5])) = xs[4]? at h4
  rw [cells_Place_4] at h4
  change DataW.trod enc Try.prog w 0 (fun _ => true) true n' 3 (List.take (Try.prog.cellsOf 3) (List.drop 5 [c0, c1, c2, c3, c4, c5])) = xs[5]? at h5
  rw [cells_Place_5] at h5
  simp only [List.drop_zero, List.drop_succ_cons, List.take_succ_cons, List.take_zero] at h0 h1 h2 h3 h4 h5
  obtain ⟨z0, rfl, wf0⟩ := field_int Try.underlying3 h0 (by simp [hx])
  obtain ⟨z1, rfl, wf1⟩ := field_int Try.underlying3 h1 (by simp [hx])
  obtain ⟨z2, rfl, wf2⟩ := field_int Try.underlying3 h2 (by simp [hx])
  obtain ⟨z3, rfl, wf3⟩ := field_int Try.underlying3 h3 (by simp [hx])
  obtain ⟨z4, rfl, wf4⟩ := field_int Try.underlying3 h4 (by simp [hx])
  obtain ⟨z5, rfl, wf5⟩ := field_int Try.underlying3 h5 (by simp [hx])
  exact ⟨⟨z0, z1, z2, z3, z4, z5⟩, rfl, wf2, wf3, wf5⟩
theorem cells_Count : Try.prog.cellsOf 87 = 2 := by kernel_rfl
theorem len_Count {α : Type} {l : List α} (h : l.length = 2) : ∃ c0 c1, l = [c0, c1] := by
  match l, h with
  | [c0, c1], _ => exact ⟨c0, c1, rfl⟩
theorem cells_Count_0 : Try.prog.cellsOf 3 = 1 := by kernel_rfl
theorem cells_Count_1 : Try.prog.cellsOf 3 = 1 := by kernel_rfl
theorem open_Count {H : Type} {enc : TypeId × Value → H} {w : World} {n : Nat} {cs : List Value} {y : DataW H × List MemPlace} (h : DataW.trod enc Try.prog w 0 (fun _ => true) true n 87 cs = some y) :
    ∃ a : Int × Int, cs = Bag.pc a ∧ True := by
  obtain ⟨xs, n', -, -, hl, hxl, hf⟩ := DataW.trod_struct Try.underlying87 h
  rw [cells_Count] at hl
  obtain ⟨c0, c1, rfl⟩ := len_Count hl
  have hx : xs.length = 2 := hxl
  have h0 := hf 0 _ rfl
  have h1 := hf 1 _ rfl
  clear h hf
  change DataW.trod enc Try.prog w 0 (fun _ => true) true n' 3 (List.take (Try.prog.cellsOf 3) (List.drop 0 [c0, c1])) = xs[0]? at h0
  rw [cells_Count_0] at h0
  change DataW.trod enc Try.prog w 0 (fun _ => true) true n' 3 (List.take (Try.prog.cellsOf 3) (List.drop 1 [c0, c1])) = xs[1]? at h1
  rw [cells_Count_1] at h1
  simp only [List.drop_zero, List.drop_succ_cons, List.take_succ_cons, List.take_zero] at h0 h1
  obtain ⟨z0, rfl, wf0⟩ := field_int Try.underlying3 h0 (by simp [hx])
  obtain ⟨z1, rfl, wf1⟩ := field_int Try.underlying3 h1 (by simp [hx])
  exact ⟨(z0, z1), rfl, trivial⟩
theorem cells_Shift : Try.prog.cellsOf 133 = 2 := by kernel_rfl
theorem len_Shift {α : Type} {l : List α} (h : l.length = 2) : ∃ c0 c1, l = [c0, c1] := by
  match l, h with
  | [c0, c1], _ => exact ⟨c0, c1, rfl⟩
theorem cells_Shift_0 : Try.prog.cellsOf 115 = 1 := by kernel_rfl
theorem cells_Shift_1 : Try.prog.cellsOf 115 = 1 := by kernel_rfl
theorem open_Shift {H : Type} {enc : TypeId × Value → H} {w : World} {n : Nat} {cs : List Value} {y : DataW H × List MemPlace} (h : DataW.trod enc Try.prog w 0 (fun _ => true) true n 133 cs = some y) :
    ∃ a : Law23.Sh, cs = Law23.shc a ∧ Law23.Rd w a := by
  obtain ⟨xs, n', -, -, hl, hxl, hf⟩ := DataW.trod_struct Try.underlying133 h
  rw [cells_Shift] at hl
  obtain ⟨c0, c1, rfl⟩ := len_Shift hl
  have hx : xs.length = 2 := hxl
  have h0 := hf 0 _ rfl
  have h1 := hf 1 _ rfl
  clear h hf
  change DataW.trod enc Try.prog w 0 (fun _ => true) true n' 115 (List.take (Try.prog.cellsOf 115) (List.drop 0 [c0, c1])) = xs[0]? at h0
  rw [cells_Shift_0] at h0
  change DataW.trod enc Try.prog w 0 (fun _ => true) true n' 115 (List.take (Try.prog.cellsOf 115) (List.drop 1 [c0, c1])) = xs[1]? at h1
  rw [cells_Shift_1] at h1
  simp only [List.drop_zero, List.drop_succ_cons, List.take_succ_cons, List.take_zero] at h0 h1
  rw [List.getElem?_eq_getElem (by omega)] at h0
  obtain ⟨A0, c0_, l0, hcs0, hS0, hG0⟩ := open_sl Try.underlying115 cells_Place (by omega) (Shape.plc) (fun a => Shape.okK a.k) (Shape.plc_len) (fun n cs' y h => open_Place h) h0
  simp at hcs0
  subst hcs0
  rw [List.getElem?_eq_getElem (by omega)] at h1
  obtain ⟨A1, c1_, l1, hcs1, hS1, hG1⟩ := open_sl Try.underlying115 cells_Place (by omega) (Shape.plc) (fun a => Shape.okK a.k) (Shape.plc_len) (fun n cs' y h => open_Place h) h1
  simp at hcs1
  subst hcs1
  exact ⟨⟨A0, c0_, l0, A1, c1_, l1⟩, rfl, hS0, hS1, hG0, hG1⟩
theorem cells_Shape : Try.prog.cellsOf 117 = 6 := by kernel_rfl
theorem len_Shape {α : Type} {l : List α} (h : l.length = 6) : ∃ c0 c1 c2 c3 c4 c5, l = [c0, c1, c2, c3, c4, c5] := by
  match l, h with
  | [c0, c1, c2, c3, c4, c5], _ => exact ⟨c0, c1, c2, c3, c4, c5, rfl⟩
theorem cells_Shape_0 : Try.prog.cellsOf 3 = 1 := by kernel_rfl
theorem cells_Shape_1 : Try.prog.cellsOf 3 = 1 := by kernel_rfl
theorem cells_Shape_2 : Try.prog.cellsOf 3 = 1 := by kernel_rfl
theorem cells_Shape_3 : Try.prog.cellsOf 3 = 1 := by kernel_rfl
theorem cells_Shape_4 : Try.prog.cellsOf 79 = 1 := by kernel_rfl
theorem cells_Shape_5 : Try.prog.cellsOf 79 = 1 := by kernel_rfl
theorem open_Shape {H : Type} {enc : TypeId × Value → H} {w : World} {n : Nat} {cs : List Value} {y : DataW H × List MemPlace} (h : DataW.trod enc Try.prog w 0 (fun _ => true) true n 117 cs = some y) :
    ∃ (x : ShapeP.Shp) (A1 A2 : Option Addr) (c1 c2 : Nat), cs = (Shape.sha x A1 A2 c1 c2).toList ∧ Shape.Cs w A1 c1 x.D ∧ Shape.Cs w A2 c2 x.F := by
  obtain ⟨xs, n', -, -, hl, hxl, hf⟩ := DataW.trod_struct Try.underlying117 h
  rw [cells_Shape] at hl
  obtain ⟨c0, c1, c2, c3, c4, c5, rfl⟩ := len_Shape hl
  have hx : xs.length = 6 := hxl
  have h0 := hf 0 _ rfl
  have h1 := hf 1 _ rfl
  have h2 := hf 2 _ rfl
  have h3 := hf 3 _ rfl
  have h4 := hf 4 _ rfl
  have h5 := hf 5 _ rfl
  clear h hf
  change DataW.trod enc Try.prog w 0 (fun _ => true) true n' 3 (List.take (Try.prog.cellsOf 3) (List.drop 0 [c0, c1, c2, c3, c4, c5])) = xs[0]? at h0
  rw [cells_Shape_0] at h0
  change DataW.trod enc Try.prog w 0 (fun _ => true) true n' 3 (List.take (Try.prog.cellsOf 3) (List.drop 1 [c0, c1, c2, c3, c4, c5])) = xs[1]? at h1
  rw [cells_Shape_1] at h1
  change DataW.trod enc Try.prog w 0 (fun _ => true) true n' 3 (List.take (Try.prog.cellsOf 3) (List.drop 2 [c0, c1, c2, c3, c4, c5])) = xs[2]? at h2
  rw [cells_Shape_2] at h2
  change DataW.trod enc Try.prog w 0 (fun _ => true) true n' 3 (List.take (Try.prog.cellsOf 3) (List.drop 3 [c0, c1, c2, c3, c4, c5])) = xs[3]? at h3
  rw [cells_Shape_3] at h3
  change DataW.trod enc Try.prog w 0 (fun _ => true) true n' 79 (List.take (Try.prog.cellsOf 79) (List.drop 4 [c0, c1, c2, c3, c4, c5])) = xs[4]? at h4
  rw [cells_Shape_4] at h4
  change DataW.trod enc Try.prog w 0 (fun _ => true) true n' 79 (List.take (Try.prog.cellsOf 79) (List.drop 5 [c0, c1, c2, c3, c4, c5])) = xs[5]? at h5
  rw [cells_Shape_5] at h5
  simp only [List.drop_zero, List.drop_succ_cons, List.take_succ_cons, List.take_zero] at h0 h1 h2 h3 h4 h5
  obtain ⟨z0, rfl, wf0⟩ := field_int Try.underlying3 h0 (by simp [hx])
  obtain ⟨z1, rfl, wf1⟩ := field_int Try.underlying3 h1 (by simp [hx])
  obtain ⟨z2, rfl, wf2⟩ := field_int Try.underlying3 h2 (by simp [hx])
  obtain ⟨z3, rfl, wf3⟩ := field_int Try.underlying3 h3 (by simp [hx])
  rw [List.getElem?_eq_getElem (by omega)] at h4
  obtain ⟨A4, c4_, l4, hcs4, hS4, hG4⟩ := open_sl Try.underlying79 cells_Count (by omega) (Bag.pc) (fun _ => True) (Bag.pc_len) (fun n cs' y h => open_Count h) h4
  simp at hcs4
  subst hcs4
  rw [List.getElem?_eq_getElem (by omega)] at h5
  obtain ⟨A5, c5_, l5, hcs5, hS5, hG5⟩ := open_sl Try.underlying79 cells_Count (by omega) (Bag.pc) (fun _ => True) (Bag.pc_len) (fun n cs' y h => open_Count h) h5
  simp at hcs5
  subst hcs5
  exact ⟨⟨z0, z1, z2, z3, l4, l5⟩, A4, A5, c4_, c5_, rfl, hS4, hS5⟩
end Go.Proofs.Ytolpdgaomlhgdaa
