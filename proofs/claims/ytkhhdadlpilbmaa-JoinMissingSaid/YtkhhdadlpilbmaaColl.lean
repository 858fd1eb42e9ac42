/- What a loop over a function collects: a slice in a box. No program is named. -/
import Derived.Test.YtkhhdadlpilbmaaZone
import Derived.Maps.AppendAt
namespace Go.Proofs.Ytkhhdadlpilbmaa
open Go.RowKit

/-- The box Bo holds a slice of k elements, its cells cs, of the call's own; it lies outside the loop's blocks. -/
def Coll (n0 lo hi Bo : Nat) (TS E : TypeId) (sz : Nat) (w0 W : World) (k : Nat) (cs : List Value) : Prop :=
  ∃ v, Bk W Bo #[v] TS ∧ W.ownsRow n0 E sz v k cs ∧ Below n0 w0 W ∧ ∀ b, v.ownBlock = some b → ¬ Rg lo hi b
theorem Coll.abide {n0 lo hi Bo : Nat} {TS E : TypeId} {sz : Nat} {w0 A B : World} {k : Nat} {cs : List Value} (h : Coll n0 lo hi Bo TS E sz w0 A k cs) (hf : Fr (Rg lo hi) A B) (hn : n0 ≤ lo) (hb : ¬ Rg lo hi Bo) (hs : n0 ≤ A.heap.size) : Coll n0 lo hi Bo TS E sz w0 B k cs := by
  obtain ⟨v, h1, h2, h3, h4⟩ := h
  exact ⟨v, h1.fr hf (fun b hb' => by simp at hb'; subst hb'; exact hb), ownsRow_fr h2 hf h4, h3.trans (hf.below hs (fun k hk h => by have := h.1; omega)), h4⟩
theorem Coll.start {n0 lo hi Bo : Nat} {TS E : TypeId} {sz : Nat} {w0 W : World} (h1 : Bk W Bo #[.slice none 0 0] TS) (h3 : Below n0 w0 W) : Coll n0 lo hi Bo TS E sz w0 W 0 [] :=
  ⟨_, h1, World.ownsRow_nil _ _ _ _, h3, fun b hb => by simp [Value.ownBlock] at hb⟩
/-- A round has appended. -/
theorem Coll.step {n0 lo Bo : Nat} {TS E : TypeId} {sz : Nat} {w0 W w1 : World} {k k' : Nat} {cs cs' : List Value} {v v' : Value} {o : Obj} {r : Loop}
    (h1 : Bk W Bo #[v] TS) (h2 : W.ownsRow n0 E sz v k cs) (h3 : Below n0 w0 W) (h4 : ∀ b, v.ownBlock = some b → ¬ Rg lo (lo + 2 + 0) b) (hT : TS ≠ E) (hn : n0 ≤ W.heap.size) (hBo : n0 ≤ Bo) (hBr : ¬ Rg lo (lo + 2 + 0) Bo)
    (hl : W.heap[lo + 1]? = some (.loop r)) (hd : W.heap[lo]? = some (.deferred (some [])))
    (hown : w1.ownsRow n0 E sz v' k' cs') (hg : (W.alloc o).grownBy w1 v.ownBlock) :
    Bk w1 Bo #[v] TS ∧ Coll n0 lo (lo + 2 + 0) Bo TS E sz w0 (w1.setCell ⟨Bo, 0, none⟩ v') k' cs' ∧ Fr (fun b => b = Bo ∨ v.ownBlock = some b) W (w1.setCell ⟨Bo, 0, none⟩ v') := by
  have hne : ∀ b, v.ownBlock = some b → b ≠ Bo := fun b hb e => by
    obtain ⟨_, _, c, hc⟩ := ownsRow_blk h2 b hb
    rw [e, show W.heap[Bo]? = _ from h1] at hc
    cases hc; exact hT rfl
  have f1 : Fr (fun b => v.ownBlock = some b) W w1 := (Fr.alloc (fun _ => False) W o).trans (Fr.grown hg (S := fun b => v.ownBlock = some b) (fun k h => h)) (fun _ _ h => h.elim) (fun _ _ h => h)
  have hb1 : Bk w1 Bo #[v] TS := h1.fr f1 (fun b hb h => by simp at hb; exact hne b h hb)
  have hne' : ∀ b, v'.ownBlock = some b → b ≠ Bo := fun b hb e => by
    obtain ⟨_, _, c, hc⟩ := ownsRow_blk hown b hb
    rw [e, show w1.heap[Bo]? = _ from hb1] at hc
    cases hc; exact hT rfl
  have f2 := Fr.setCell w1 ⟨Bo, 0, none⟩ v' (S := (· = Bo)) rfl
  have f3 : Fr (fun b => b = Bo ∨ v.ownBlock = some b) W (w1.setCell ⟨Bo, 0, none⟩ v') := f1.trans f2 (fun _ _ h => .inr h) (fun _ _ h => .inl h)
  refine ⟨hb1, ⟨v', hb1.set 0 v', ownsRow_fr hown f2 hne', h3.trans (f3.below hn ?_), fun b hb hr => ?_⟩, f3⟩
  · rintro i hi (e | e)
    · omega
    · have := (ownsRow_blk h2 i e).1; omega
  · obtain ⟨_, _, c, hc⟩ := ownsRow_blk hown b hb
    have hr1 := hr.1
    have hr2 := hr.2
    have key : w1.heap[b]? = W.heap[b]? := f1.block b (by have := lt_of_heap hl; omega) (fun h => h4 b h hr)
    rw [key] at hc
    rcases Nat.lt_or_ge lo b with h | h
    · obtain rfl : b = lo + 1 := by omega
      rw [hl] at hc; cases hc
    · obtain rfl : b = lo := by omega
      rw [hd] at hc; cases hc
theorem new_cells (w : World) (t : TypeId) (cs : List Value) : ∀ j u, cs[j]? = some u → (w.alloc (.cells cs.toArray t)).cell? ((⟨w.heap.size, 0, none⟩ : Addr).add j) = some u := by
  intro j u hu
  have h := cell_of_block (heap_new w (.cells cs.toArray t)) j
  simp only [Addr.add]
  split
  · rename_i e; subst e; rw [h]; simpa using hu
  · show (w.alloc (.cells cs.toArray t)).cell? ⟨w.heap.size, 0 + j, none⟩ = some u
    rw [Nat.zero_add, h]; simpa using hu
end Go.Proofs.Ytkhhdadlpilbmaa
