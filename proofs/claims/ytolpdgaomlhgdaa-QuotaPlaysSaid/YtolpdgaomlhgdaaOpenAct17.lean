/- Acts of layer 17 that came in. -/
import Derived.Test.YtolpdgaomlhgdaaOpenRow
import Derived.Test.YtolpdgaomlhgdaaLaw17
namespace Go.Proofs.Ytolpdgaomlhgdaa
open Go.ChangeShapes Go.WideShapes Go.ChangeAt Go.RowKit Go.Deep
open Quota
section
variable {H : Type} {enc : TypeId × Value → H} {P : Program} {w : World} {base : Nat} {held : Bool}
theorem field_str {t : TypeId} {n : Nat} {v : Value} {y : Option (DataW H × List MemPlace)} {spare : Nat → Bool} (ht : P.underlying t = some .string) (h : DataW.trod enc P w base spare held n t [v] = y) (hy : y.isSome = true) : ∃ z, v = .string z := by
  obtain ⟨x, hx⟩ := Option.isSome_iff_exists.1 hy
  rw [hx] at h
  obtain ⟨z, h1, -⟩ := DataW.trod_string ht h
  simp at h1
  exact ⟨z, h1⟩
theorem field_bool {t : TypeId} {n : Nat} {v : Value} {y : Option (DataW H × List MemPlace)} {spare : Nat → Bool} (ht : P.underlying t = some .bool) (h : DataW.trod enc P w base spare held n t [v] = y) (hy : y.isSome = true) : ∃ z, v = .bool z := by
  obtain ⟨x, hx⟩ := Option.isSome_iff_exists.1 hy
  rw [hx] at h
  obtain ⟨z, h1, -⟩ := DataW.trod_bool ht h
  simp at h1
  exact ⟨z, h1⟩
end
theorem len9 {α : Type} {l : List α} (h : l.length = 9) : ∃ a b c d e f g i j, l = [a, b, c, d, e, f, g, i, j] := by
  match l, h with
  | [a, b, c, d, e, f, g, i, j], _ => exact ⟨a, b, c, d, e, f, g, i, j, rfl⟩
theorem cellsSp : Try.prog.cellsOf 137 = 9 := by kernel_rfl
theorem cellsStr : Try.prog.cellsOf 9 = 1 := by kernel_rfl
theorem cellsBo : Try.prog.cellsOf 4 = 1 := by kernel_rfl
theorem open_sp {H : Type} {enc : TypeId × Value → H} {w : World} {n : Nat} {cs : List Value} {y : DataW H × List MemPlace} (h : DataW.trod enc Try.prog w 0 (fun _ => true) true n 137 cs = some y) :
    ∃ a : Sp, cs = a.cs ∧ wfI a.t := by
  obtain ⟨xs, n', -, -, hl, hxl, hf⟩ := DataW.trod_struct Try.underlying137 h
  rw [cellsSp] at hl
  obtain ⟨c0, c1, c2, c3, c4, c5, c6, c7, c8, rfl⟩ := len9 hl
  have hx : xs.length = 9 := hxl
  have h0 := hf 0 _ rfl
  have h1 := hf 1 _ rfl
  have h2 := hf 2 _ rfl
  have h3 := hf 3 _ rfl
  have h4 := hf 4 _ rfl
  have h5 := hf 5 _ rfl
  have h6 := hf 6 _ rfl
  have h7 := hf 7 _ rfl
  have h8 := hf 8 _ rfl
  clear h hf
  change DataW.trod enc Try.prog w 0 (fun _ => true) true n' 3 (List.take (Try.prog.cellsOf 3) (List.drop 0 [c0, c1, c2, c3, c4, c5, c6, c7, c8])) = xs[0]? at h0
  change DataW.trod enc Try.prog w 0 (fun _ => true) true n' 3 (List.take (Try.prog.cellsOf 3) (List.drop 1 [c0, c1, c2, c3, c4, c5, c6, c7, c8])) = xs[1]? at h1
  change DataW.trod enc Try.prog w 0 (fun _ => true) true n' 3 (List.take (Try.prog.cellsOf 3) (List.drop 2 [c0, c1, c2, c3, c4, c5, c6, c7, c8])) = xs[2]? at h2
  change DataW.trod enc Try.prog w 0 (fun _ => true) true n' 3 (List.take (Try.prog.cellsOf 3) (List.drop 3 [c0, c1, c2, c3, c4, c5, c6, c7, c8])) = xs[3]? at h3
  change DataW.trod enc Try.prog w 0 (fun _ => true) true n' 9 (List.take (Try.prog.cellsOf 9) (List.drop 4 [c0, c1, c2, c3, c4, c5, c6, c7, c8])) = xs[4]? at h4
  change DataW.trod enc Try.prog w 0 (fun _ => true) true n' 9 (List.take (Try.prog.cellsOf 9) (List.drop 5 [c0, c1, c2, c3, c4, c5, c6, c7, c8])) = xs[5]? at h5
  change DataW.trod enc Try.prog w 0 (fun _ => true) true n' 3 (List.take (Try.prog.cellsOf 3) (List.drop 6 [c0, c1, c2, c3, c4, c5, c6, c7, c8])) = xs[6]? at h6
  change DataW.trod enc Try.prog w 0 (fun _ => true) true n' 3 (List.take (Try.prog.cellsOf 3) (List.drop 7 [c0, c1, c2, c3, c4, c5, c6, c7, c8])) = xs[7]? at h7
  change DataW.trod enc Try.prog w 0 (fun _ => true) true n' 4 (List.take (Try.prog.cellsOf 4) (List.drop 8 [c0, c1, c2, c3, c4, c5, c6, c7, c8])) = xs[8]? at h8
  rw [cellsI] at h0 h1 h2 h3 h6 h7
  rw [cellsStr] at h4 h5
  rw [cellsBo] at h8
  simp only [List.drop_zero, List.drop_succ_cons, List.take_succ_cons, List.take_zero] at h0 h1 h2 h3 h4 h5 h6 h7 h8
  obtain ⟨z0, rfl, wf0⟩ := field_int Try.underlying3 h0 (by simp [hx])
  obtain ⟨z1, rfl, -⟩ := field_int Try.underlying3 h1 (by simp [hx])
  obtain ⟨z2, rfl, -⟩ := field_int Try.underlying3 h2 (by simp [hx])
  obtain ⟨z3, rfl, -⟩ := field_int Try.underlying3 h3 (by simp [hx])
  obtain ⟨z4, rfl⟩ := field_str Try.underlying9 h4 (by simp [hx])
  obtain ⟨z5, rfl⟩ := field_str Try.underlying9 h5 (by simp [hx])
  obtain ⟨z6, rfl, -⟩ := field_int Try.underlying3 h6 (by simp [hx])
  obtain ⟨z7, rfl, -⟩ := field_int Try.underlying3 h7 (by simp [hx])
  obtain ⟨z8, rfl⟩ := field_bool Try.underlying4 h8 (by simp [hx])
  exact ⟨⟨z0, z1, z2, z3, z4, z5, z6, z7, z8⟩, rfl, wf0⟩
theorem cellsA17 : Try.prog.cellsOf 35 = 2 := by kernel_rfl
theorem cellsSl17 : Try.prog.cellsOf 33 = 1 := by kernel_rfl
theorem open_act17 {H : Type} {enc : TypeId × Value → H} {w : World} {n : Nat} {cs : List Value} {y : DataW H × List MemPlace} (h : DataW.trod enc Try.prog w 0 (fun _ => true) true n 35 cs = some y) :
    ∃ a : Law17.Ac, cs = Law17.ac a ∧ Law17.Rd w a := by
  obtain ⟨xs, n', -, -, hl, hxl, hf⟩ := DataW.trod_struct Try.underlying35 h
  rw [cellsA17] at hl
  obtain ⟨c0, c1, rfl⟩ := len2 hl
  have hx : xs.length = 2 := hxl
  have h0 := hf 0 _ rfl
  have h1 := hf 1 _ rfl
  clear h hf
  change DataW.trod enc Try.prog w 0 (fun _ => true) true n' 3 (List.take (Try.prog.cellsOf 3) (List.drop 0 [c0, c1])) = xs[0]? at h0
  change DataW.trod enc Try.prog w 0 (fun _ => true) true n' 33 (List.take (Try.prog.cellsOf 33) (List.drop 1 [c0, c1])) = xs[1]? at h1
  rw [cellsI] at h0
  rw [cellsSl17] at h1
  simp only [List.drop_zero, List.drop_succ_cons, List.take_succ_cons, List.take_zero] at h0 h1
  obtain ⟨z0, rfl, -⟩ := field_int Try.underlying3 h0 (by simp [hx])
  rw [List.getElem?_eq_getElem (by omega)] at h1
  obtain ⟨A, cap, l, hcs, hS, hG⟩ := open_sl Try.underlying33 cellsSp (by omega) Sp.cs (fun x => wfI x.t) Sp.cs_len (fun n cs' y h => open_sp h) h1
  simp at hcs
  subst hcs
  exact ⟨⟨z0, A, cap, l⟩, rfl, hS, hG⟩
end Go.Proofs.Ytolpdgaomlhgdaa
