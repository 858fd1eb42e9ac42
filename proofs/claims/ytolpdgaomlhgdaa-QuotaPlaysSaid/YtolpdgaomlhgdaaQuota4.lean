/- Quotas that nobody made: nil, and the zero one. -/
import Derived.Test.YtolpdgaomlhgdaaQuota3
namespace Go.Proofs.Ytolpdgaomlhgdaa
open Go.RowKit
namespace Quota
open BagP QuotaP
attribute [local go_sem] Eng.ev Eng.getO_cons Eng.getO_nil
/-- The zero quota in block B. -/
abbrev QN (w : World) (B : Nat) : Prop := Bk w B #[.int .i64 0, .int .i64 0, .int .i64 0, .map none] TQ
theorem Of_zero (B : Nat) (t : Int) (w : World) (h : QN w B) (ht : wfI t) :
    Calls Try.prog 28 #[.pointer (some ⟨B, 0, none⟩), .int .i64 t] w fun e w' => e = .returned (.int .i64 0) ∧ w = w' := by
  have c3 : w.cell? ⟨B, 3, none⟩ = some (.map none) := h.cell 3
  have hl := look_none uM w ht
  clear h
  go_enter Try.func28, Try.ntmps28
  go_wp2
  go_ret
  exact ⟨rfl, rfl⟩
theorem Len_zero (B : Nat) (w : World) (h : QN w B) :
    Calls Try.prog 25 #[.pointer (some ⟨B, 0, none⟩)] w fun e w' => e = .returned (.int .i64 0) ∧ w = w' := by
  have c3 : w.cell? ⟨B, 2, none⟩ = some (.int .i64 0) := h.cell 2
  clear h
  go_enter Try.func25, Try.ntmps25
  go_wp2
  go_ret
  exact ⟨rfl, rfl⟩
theorem run_range_nil {P : Program} (w : World) {t k e : TypeId} (ht : P.underlying t = some (.map k e)) : (Instr.range t (.map none)).run P w = .ok (.pointer (some ⟨w.heap.size, 0, none⟩)) (w.alloc (.mapIter none 0 #[] 0)) := by
  simp [Instr.range, run_underlying ht, run_newObj_alloc, Result.andThen]
theorem run_next_nil {P : Program} (w : World) (r : Nat) (ty : TypeId) (h : w.heap[r]? = some (.mapIter none 0 #[] 0)) : (Instr.next (.pointer (some ⟨r, 0, none⟩)) false ty).run P w = .ok (.tuple #[.bool false]) w := by
  simp [Instr.next, getObj, Sem.run, h, Result.andThen]
/-- A quota that nobody made. -/
def Nob (w : World) (p : Option Addr) : Prop := p = none ∨ ∃ B, p = some ⟨B, 0, none⟩ ∧ QN w B
theorem Nob.fr {S : Nat → Prop} {w w' : World} {p : Option Addr} (h : Nob w p) (hf : Fr S w w') (hs : ∀ b ∈ ablk p, ¬ S b) : Nob w' p := by
  rcases h with h | ⟨B, rfl, h⟩
  · exact .inl h
  · exact .inr ⟨B, rfl, h.fr hf (fun b hb => hs b (by simp at hb; subst hb; exact mem_ablk.2 ⟨_, rfl, rfl⟩))⟩
theorem Of_nob (p : Option Addr) (t : Int) (w : World) (h : Nob w p) (ht : wfI t) : Calls Try.prog 28 #[.pointer p, .int .i64 t] w fun e w' => e = .returned (.int .i64 0) ∧ w = w' := by
  rcases h with rfl | ⟨B, rfl, h⟩
  · exact Of_none t w
  · exact Of_zero B t w h ht
theorem Len_nob (p : Option Addr) (w : World) (h : Nob w p) : Calls Try.prog 25 #[.pointer p] w fun e w' => e = .returned (.int .i64 0) ∧ w = w' := by
  rcases h with rfl | ⟨B, rfl, h⟩
  · exact Len_none w
  · exact Len_zero B w h
theorem Traces_none (w : World) : Calls Try.prog 27 #[.pointer none] w fun e w' => ∃ v, e = .returned v ∧ w'.ownsRow w.heap.size 3 1 v 0 [] ∧ Below w.heap.size w w' := by
  have HM := Lib.hid (AvlII.MapB.new w)
  have HK := Lib.hid (AvlII.KeysB w.heap.size [] [] _ HM.out (by simp))
  have HB := Lib.hid ((Below.refl w.heap.size w).alloc (Nat.le_refl _) (.cells #[.pointer none, .int .i64 0] 51))
  go_enter Try.func27, Try.ntmps27
  go_wp2_with fail
  refine HK.out.mono ?_
  rintro e w5 ⟨v, rfl, hown, hb5⟩
  have HO5 := Lib.hid (ownsRow_base hown (base' := w.heap.size) (by simp)); have HB5 := Lib.hid (HB.out.trans (hb5.mono (by simp)))
  clear hown hb5
  go_wp2_with fail
  go_ret
  exact ⟨v, rfl, HO5.out, HB5.out⟩
set_option maxRecDepth 100000 in
theorem Traces_zero (B : Nat) (w : World) (h : QN w B) : Calls Try.prog 27 #[.pointer (some ⟨B, 0, none⟩)] w fun e w' => ∃ v, e = .returned v ∧ w'.ownsRow w.heap.size 3 1 v 0 [] ∧ Below w.heap.size w w' := by
  have hlt := lt_of_heap h
  have c3 : (w.alloc (.cells #[.pointer none, .int .i64 0] 51)).cell? ⟨B, 3, none⟩ = some (.map none) := (h.fr (Fr.alloc (fun _ => False) w _) (fun _ _ h => h)).cell 3
  have hrn := fun w => run_range_nil (P := Try.prog) w uM
  have HM := Lib.hid ((AvlII.MapB.new w).fr (Fr.alloc (fun _ => False) _ (.mapIter none 0 #[] 0)) (fun h => h) (fun _ _ h => h))
  have HK := Lib.hid (AvlII.KeysB w.heap.size [] [] _ HM.out (by simp))
  have HB := Lib.hid (((Below.refl w.heap.size w).alloc (Nat.le_refl _) (.cells #[.pointer none, .int .i64 0] 51)).alloc (by simp) (.mapIter none 0 #[] 0))
  have hnx := fun ty => run_next_nil (P := Try.prog) ((w.alloc (.cells #[.pointer none, .int .i64 0] 51)).alloc (.mapIter none 0 #[] 0)) (w.heap.size + 1) ty (by have := heap_new (w.alloc (.cells #[.pointer none, .int .i64 0] 51)) (.mapIter none 0 #[] 0); rwa [World.size_alloc] at this)
  clear h
  go_enter Try.func27, Try.ntmps27
  go_wp2_with fail
  refine wp_loop_rounds 1 ?_
  rw [rounds_succ]
  go_wp2_with fail
  refine HK.out.mono ?_
  rintro e w5 ⟨v, rfl, hown, hb5⟩
  have HO5 := Lib.hid (ownsRow_base hown (base' := w.heap.size) (by simp; omega)); have HB5 := Lib.hid (HB.out.trans (hb5.mono (by simp; omega)))
  clear hown hb5 hnx hrn
  go_wp2_with fail
  go_ret
  exact ⟨v, rfl, HO5.out, HB5.out⟩
theorem Traces_nob (p : Option Addr) (w : World) (h : Nob w p) : Calls Try.prog 27 #[.pointer p] w fun e w' => ∃ v, e = .returned v ∧ w'.ownsRow w.heap.size 3 1 v 0 [] ∧ Below w.heap.size w w' := by
  rcases h with rfl | ⟨B, rfl, h⟩
  · exact Traces_none w
  · exact Traces_zero B w h
end Quota
end Go.Proofs.Ytolpdgaomlhgdaa
