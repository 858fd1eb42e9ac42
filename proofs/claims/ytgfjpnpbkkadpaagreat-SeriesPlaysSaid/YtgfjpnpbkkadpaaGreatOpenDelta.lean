/- Deltas that came in. -/
import Derived.Test.YtgfjpnpbkkadpaaGreatOpenRow
import Derived.Test.YtgfjpnpbkkadpaaGreatOpenSpan
import Derived.Test.YtgfjpnpbkkadpaaGreatDelta
import Derived.ProofKit
namespace Go.Proofs.YtgfjpnpbkkadpaaGreat
open Go.ChangeShapes Go.WideShapes Go.ChangeAt Go.RowKit Go.Deep
theorem cells_Delta : Tryz.prog.cellsOf 36 = 2 := by kernel_rfl
theorem len_Delta {α : Type} {l : List α} (h : l.length = 2) : ∃ c0 c1, l = [c0, c1] := by
  match l, h with
  | [c0, c1], _ => exact ⟨c0, c1, rfl⟩
theorem cells_Delta_0 : Tryz.prog.cellsOf 27 = 1 := by kernel_rfl
theorem cells_Delta_1 : Tryz.prog.cellsOf 27 = 1 := by kernel_rfl
theorem open_Delta {H : Type} {enc : TypeId × Value → H} {w : World} {n : Nat} {cs : List Value} {y : DataW H × List MemPlace} (h : DataW.trod enc Tryz.prog w 0 (fun _ => true) true n 36 cs = some y) :
    ∃ d : Delta.Dl, cs = d.cs ∧ Delta.RdD w d := by
  obtain ⟨xs, n', -, -, hl, hxl, hf⟩ := DataW.trod_struct Tryz.underlying36 h
  rw [cells_Delta] at hl
  obtain ⟨c0, c1, rfl⟩ := len_Delta hl
  have hx : xs.length = 2 := hxl
  have h0 := hf 0 _ rfl
  have h1 := hf 1 _ rfl
  clear h hf
  change DataW.trod enc Tryz.prog w 0 (fun _ => true) true n' 27 (List.take (Tryz.prog.cellsOf 27) (List.drop 0 [c0, c1])) = xs[0]? at h0
  rw [cells_Delta_0] at h0
  change DataW.trod enc Tryz.prog w 0 (fun _ => true) true n' 27 (List.take (Tryz.prog.cellsOf 27) (List.drop 1 [c0, c1])) = xs[1]? at h1
  rw [cells_Delta_1] at h1
  simp only [List.drop_zero, List.drop_succ_cons, List.take_succ_cons, List.take_zero] at h0 h1
  rw [List.getElem?_eq_getElem (by omega)] at h0
  obtain ⟨A0, c0_, l0, hcs0, hS0, hG0⟩ := open_sl Tryz.underlying27 cells_Span (by omega) (SetW.scs) (Sn.ok) (SetW.scs_len) (fun n cs' y h => open_Span h) h0
  simp at hcs0
  subst hcs0
  rw [List.getElem?_eq_getElem (by omega)] at h1
  obtain ⟨A1, c1_, l1, hcs1, hS1, hG1⟩ := open_sl Tryz.underlying27 cells_Span (by omega) (SetW.scs) (Sn.ok) (SetW.scs_len) (fun n cs' y h => open_Span h) h1
  simp at hcs1
  subst hcs1
  exact ⟨⟨A0, c0_, l0, A1, c1_, l1⟩, rfl, ⟨⟨hS0, hG0⟩, ⟨hS1, hG1⟩⟩⟩
end Go.Proofs.YtgfjpnpbkkadpaaGreat
