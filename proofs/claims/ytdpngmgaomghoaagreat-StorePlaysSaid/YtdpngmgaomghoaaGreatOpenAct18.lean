/- Acts of layer 18, and configurations, that came in. -/
import Derived.Test.YtdpngmgaomghoaaGreatOpenSpan
import Derived.Test.YtdpngmgaomghoaaGreatL18
namespace Go.Proofs.YtdpngmgaomghoaaGreat
open Tryz
open Go.ChangeShapes Go.WideShapes Go.ChangeAt Go.RowKit Go.Deep
theorem cells_Act18 : prog.cellsOf 93 = 3 := by kernel_rfl
theorem len_Act18 {α : Type} {l : List α} (h : l.length = 3) : ∃ c0 c1 c2, l = [c0, c1, c2] := by
 match l, h with
 | [c0, c1, c2], _ => exact ⟨c0, c1, c2, rfl⟩
theorem cells_Act18_0 : prog.cellsOf 3 = 1 := by kernel_rfl
theorem cells_Act18_1 : prog.cellsOf 22 = 1 := by kernel_rfl
theorem cells_Act18_2 : prog.cellsOf 3 = 1 := by kernel_rfl
theorem open_Act18 {H : Type} {enc : TypeId × Value → H} {w : World} {n : Nat} {cs : List Value} {y : DataW H × List MemPlace} (h : DataW.trod enc prog w 0 (fun _ => true) true n 93 cs = some y) :
  ∃ a : Law18.Ac, cs = Law18.acc a ∧ Law18.Rd w a := by
 obtain ⟨xs, n', -, -, hl, hxl, hf⟩ := DataW.trod_struct underlying93 h
 rw [cells_Act18] at hl
 obtain ⟨c0, c1, c2, rfl⟩ := len_Act18 hl
 have hx : xs.length = 3 := hxl
 have h0 := hf 0 _ rfl
 have h1 := hf 1 _ rfl
 have h2 := hf 2 _ rfl
 clear h hf
 change DataW.trod enc prog w 0 (fun _ => true) true n' 3 (List.take (prog.cellsOf 3) (List.drop 0 [c0, c1, c2])) = xs[0]? at h0
 rw [cells_Act18_0] at h0
 change DataW.trod enc prog w 0 (fun _ => true) true n' 22 (List.take (prog.cellsOf 22) (List.drop 1 [c0, c1, c2])) = xs[1]? at h1
 rw [cells_Act18_1] at h1
 change DataW.trod enc prog w 0 (fun _ => true) true n' 3 (List.take (prog.cellsOf 3) (List.drop 2 [c0, c1, c2])) = xs[2]? at h2
 rw [cells_Act18_2] at h2
 simp only [List.drop_zero, List.drop_succ_cons, List.take_succ_cons, List.take_zero] at h0 h1 h2
 obtain ⟨z0, rfl, wf0⟩ := field_int underlying3 h0 (by simp [hx])
 rw [List.getElem?_eq_getElem (by omega)] at h1
 obtain ⟨A1, c1_, l1, hcs1, hS1, hG1⟩ := open_sl underlying22 cells_Span (by omega) (SetW.scs) (Sn.ok) (SetW.scs_len) (fun n cs' y h => open_Span h) h1
 simp at hcs1
 subst hcs1
 obtain ⟨z2, rfl, wf2⟩ := field_int underlying3 h2 (by simp [hx])
 exact ⟨⟨z0, A1, c1_, l1, z2⟩, rfl, ⟨hS1, hG1⟩, in64_of wf2⟩
theorem cells_Config : prog.cellsOf 31 = 4 := by kernel_rfl
theorem len_Config {α : Type} {l : List α} (h : l.length = 4) : ∃ c0 c1 c2 c3, l = [c0, c1, c2, c3] := by
 match l, h with
 | [c0, c1, c2, c3], _ => exact ⟨c0, c1, c2, c3, rfl⟩
theorem cells_Config_0 : prog.cellsOf 3 = 1 := by kernel_rfl
theorem cells_Config_1 : prog.cellsOf 3 = 1 := by kernel_rfl
theorem cells_Config_2 : prog.cellsOf 3 = 1 := by kernel_rfl
theorem cells_Config_3 : prog.cellsOf 3 = 1 := by kernel_rfl
theorem open_Config {H : Type} {enc : TypeId × Value → H} {w : World} {n : Nat} {cs : List Value} {y : DataW H × List MemPlace} (h : DataW.trod enc prog w 0 (fun _ => true) true n 31 cs = some y) :
  ∃ f : Sto.Cf, cs = (Sto.cfc f).toList ∧ (in64 f.sp ∧ in64 f.tr ∧ in64 f.wi) := by
 obtain ⟨xs, n', -, -, hl, hxl, hf⟩ := DataW.trod_struct underlying31 h
 rw [cells_Config] at hl
 obtain ⟨c0, c1, c2, c3, rfl⟩ := len_Config hl
 have hx : xs.length = 4 := hxl
 have h0 := hf 0 _ rfl
 have h1 := hf 1 _ rfl
 have h2 := hf 2 _ rfl
 have h3 := hf 3 _ rfl
 clear h hf
 change DataW.trod enc prog w 0 (fun _ => true) true n' 3 (List.take (prog.cellsOf 3) (List.drop 0 [c0, c1, c2, c3])) = xs[0]? at h0
 rw [cells_Config_0] at h0
 change DataW.trod enc prog w 0 (fun _ => true) true n' 3 (List.take (prog.cellsOf 3) (List.drop 1 [c0, c1, c2, c3])) = xs[1]? at h1
 rw [cells_Config_1] at h1
 change DataW.trod enc prog w 0 (fun _ => true) true n' 3 (List.take (prog.cellsOf 3) (List.drop 2 [c0, c1, c2, c3])) = xs[2]? at h2
 rw [cells_Config_2] at h2
 change DataW.trod enc prog w 0 (fun _ => true) true n' 3 (List.take (prog.cellsOf 3) (List.drop 3 [c0, c1, c2, c3])) = xs[3]? at h3
 rw [cells_Config_3] at h3
 simp only [List.drop_zero, List.drop_succ_cons, List.take_succ_cons, List.take_zero] at h0 h1 h2 h3
 obtain ⟨z0, rfl, wf0⟩ := field_int underlying3 h0 (by simp [hx])
 obtain ⟨z1, rfl, wf1⟩ := field_int underlying3 h1 (by simp [hx])
 obtain ⟨z2, rfl, wf2⟩ := field_int underlying3 h2 (by simp [hx])
 obtain ⟨z3, rfl, wf3⟩ := field_int underlying3 h3 (by simp [hx])
 exact ⟨⟨z0, z1, z2, z3, 0⟩, rfl, in64_of wf0, in64_of wf1, in64_of wf2⟩
end Go.Proofs.YtdpngmgaomghoaaGreat
