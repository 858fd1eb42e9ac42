/- The maps in order (avl) at one instance: the nodes in memory, and what each method does to them. -/
import Derived.Test.YtkhhdadlpilbmaaProg
import Derived.Test.YtkhhdadlpilbmaaTree2
import Derived.Test.YtkhhdadlpilbmaaOrds
import Derived.Test.YtkhhdadlpilbmaaOrdS
import Derived.RegionTactic
import Derived.ChangeAlike
import Derived.StillTailTactics
import Derived.Outline
import Derived.Lib.Hide
import Derived.WalkSpells
import Derived.WalkLawsBesides
namespace Go.Proofs.Ytkhhdadlpilbmaa
open Go.RowKit
namespace AvlSI

abbrev blk (k : ByteArray) (v : Int) (l r : Option Addr) (d : Int) : Array Value := #[.string k, .int .i64 v, .pointer l, .pointer r, .int .i64 d]
/-- The tree lies in the heap. -/
def In (w : World) (t : AT ByteArray Int) : Prop := t.In blk 172 w
theorem In.fr {S : Nat → Prop} {w w' : World} {t : AT ByteArray Int} (h : In w t) (hf : Fr S w w') (hs : ∀ b ∈ t.fp, ¬ S b) : In w' t := AT.In.fr h hf hs
theorem In.lt {w : World} {t : AT ByteArray Int} (h : In w t) : ∀ b ∈ t.fp, b < w.heap.size := AT.In.lt h
theorem cells {w : World} {b : Nat} {k : ByteArray} {v : Int} {l r : Option Addr} {d : Int} (h : w.heap[b]? = some (.cells (blk k v l r d) 172 (0, 0))) :
    w.cell? ⟨b, 0, none⟩ = some (.string k) ∧ w.cell? ⟨b, 2, none⟩ = some (.pointer l) ∧ w.cell? ⟨b, 3, none⟩ = some (.pointer r) ∧ w.cell? ⟨b, 4, none⟩ = some (.int .i64 d) ∧ (∀ o, w.frozen? ⟨b, o, none⟩ = false) := by
  refine ⟨?_, ?_, ?_, ?_, free_of_block h⟩ <;> rw [cell_of_block h] <;> rfl

theorem deep (t : AT ByteArray Int) (w : World) (h : In w t) :
    Calls Try.prog 200 #[.pointer t.adr] w fun e w' => e = .returned (.int .i64 t.dep) ∧ w' = w := by
  cases t with
  | nil =>
    simp only [AT.adr, AT.dep]
    go_enter Try.func200, Try.ntmps200
    go_wp2
    go_ret
    exact ⟨rfl, rfl⟩
  | node b k v l r d =>
    obtain ⟨-, -, -, c4, -⟩ := cells h.1
    simp only [AT.adr, AT.dep]
    clear h
    go_enter Try.func200, Try.ntmps200
    go_wp2
    go_ret
    exact ⟨rfl, rfl⟩

set_option maxRecDepth 100000 in
theorem measure (b : Nat) (k : ByteArray) (v : Int) (l r : AT ByteArray Int) (d : Int) (w : World) (hb : w.heap[b]? = some (.cells (blk k v l.adr r.adr d) 172 (0, 0)))
    (hl : In w l) (hr : In w r) (l0 : 0 ≤ l.dep) (l1 : l.dep < 4611686018427387904) (r0 : 0 ≤ r.dep) (r1 : r.dep < 4611686018427387904) :
    Calls Try.prog 174 #[.pointer (some ⟨b, 0, none⟩)] w fun e w' => e = .returned (.tuple #[]) ∧
      w'.heap[b]? = some (.cells (blk k v l.adr r.adr (1 + max l.dep r.dep)) 172 (0, 0)) ∧ Fr (· = b) w w' := by
  obtain ⟨-, c2, c3, c4, cf⟩ := cells hb
  have HB := Lib.hid hb
  clear hb
  have e2 : w.drew.cell? ⟨b, 2, none⟩ = some (.pointer l.adr) := c2
  have e3 : w.drew.cell? ⟨b, 3, none⟩ = some (.pointer r.adr) := c3
  have el := deep l w.drew (hl.fr (Fr.drew (fun _ => False) w) (fun _ _ h => h))
  have er := deep r w.drew (hr.fr (Fr.drew (fun _ => False) w) (fun _ _ h => h))
  clear hl hr
  go_enter Try.func174, Try.ntmps174
  refine wp_region_still_tail 15 (by kernel_rfl) (by kernel_rfl) ?_
  simp only [List.take_succ_cons, List.take_zero, List.drop_succ_cons, List.drop_zero]
  change wpStill _ _ w.drew (fun a' => wpList _ _ _ _ a' w.drew) _ _
  iterate 5 still_step
  still_call el
  iterate 4 still_step
  still_call er
  iterate 4 still_step
  refine wpStill_nil ?_
  clear el er
  go_wp2
  all_goals
    go_end0
    refine ⟨rfl, ?_, ?_⟩
    · refine (heap_setCell_same HB.out _).trans ?_
      simp only [blk, List.setIfInBounds_toArray, List.set_cons_succ, List.set_cons_zero]
      first | rw [show max l.dep r.dep = r.dep by omega] | rw [show max l.dep r.dep = l.dep by omega]
    · exact (Fr.setCell w ⟨b, 4, none⟩ _ (S := (· = b)) rfl).trans (Fr.drew (fun _ => False) _) (fun _ _ h => h) (fun _ _ h => h.elim)

set_option maxRecDepth 100000 in
theorem lean (b : Nat) (k : ByteArray) (v : Int) (l r : AT ByteArray Int) (d : Int) (w : World) (h : In w (.node b k v l r d)) (l0 : 0 ≤ l.dep) (l1 : l.dep < 4611686018427387904) (r0 : 0 ≤ r.dep) (r1 : r.dep < 4611686018427387904) :
    Calls Try.prog 175 #[.pointer (some ⟨b, 0, none⟩)] w fun e w' => e = .returned (.int .i64 (r.dep - l.dep)) ∧ w.drew = w' := by
  obtain ⟨hb, hl, hr⟩ := h
  obtain ⟨-, c2, c3, c4, cf⟩ := cells hb
  clear hb
  have e2 : w.drew.cell? ⟨b, 2, none⟩ = some (.pointer l.adr) := c2
  have e3 : w.drew.cell? ⟨b, 3, none⟩ = some (.pointer r.adr) := c3
  have el := deep l w.drew (In.fr hl (Fr.drew (fun _ => False) w) (fun _ _ h => h))
  have er := deep r w.drew (In.fr hr (Fr.drew (fun _ => False) w) (fun _ _ h => h))
  have hw : IntKind.i64.wrap (r.dep - l.dep) = r.dep - l.dep := IntWalk.i64_in _ (by omega)
  clear hl hr
  go_enter Try.func175, Try.ntmps175
  go_wp2_with fail
  refine wp_region_still_lit (by kernel_rfl) (by kernel_rfl) ?_
  change wpStill _ _ w.drew (fun a' => _) _ _
  iterate 4 still_step
  still_call er
  iterate 4 still_step
  still_call el
  iterate 2 still_step
  refine wpStill_nil ?_
  clear el er
  go_wp2
  go_ret
  exact ⟨rfl, rfl⟩

end AvlSI
end Go.Proofs.Ytkhhdadlpilbmaa
