/- Layer 12's statements: the map and the document's map, side by side. -/
import Derived.Test.YtolpdgaomlhgdaaLaw12
import Derived.Deep.RegionHeld
import Derived.Deep.DeepCutAuto
namespace Go.Proofs.Ytolpdgaomlhgdaa
open Go.RowKit
namespace Law12
open Ref12

/-- The map in block Bm, the document's in block Bx, side by side. -/
structure St (n0 Bm Bx : Nat) (Lm : List (Int × Int)) (F : List Nat) (Lx : List (Int × Int)) (A : Option Addr) (c : Nat) (w0 w : World) : Prop where
  map : AvlII.MapB w Bm Lm F
  box : w.heap[Bx]? = some (.cells #[.slice A Lx.length c] 56 (0, 0))
  row : Sl w 2 A Lx.length c (pcells Lx)
  bel : Below n0 w0 w
  fF : ∀ x ∈ F, n0 ≤ x ∧ x ≠ Bx
  fA : ∀ a, A = some a → n0 ≤ a.block ∧ a.block ∉ F ∧ a.block ≠ Bm ∧ a.block ≠ Bx ∧ a.block < w.heap.size
  hm : n0 ≤ Bm
  hx : n0 ≤ Bx
  hne : Bm ≠ Bx
  n0le : n0 ≤ w.heap.size
theorem St.fr {n0 Bm Bx : Nat} {Lm : List (Int × Int)} {F : List Nat} {Lx : List (Int × Int)} {A : Option Addr} {c : Nat} {w0 w w' : World} (h : St n0 Bm Bx Lm F Lx A c w0 w) (hf : Fr (fun _ => False) w w') : St n0 Bm Bx Lm F Lx A c w0 w' :=
  ⟨h.map.fr hf (fun h => h) (fun _ _ h => h), (hf.block Bx (lt_of_heap h.box) (fun h => h)).trans h.box, h.row.fr hf (fun _ _ h => h), h.bel.trans (hf.below h.n0le (fun _ _ h => h)), h.fF,
    fun a ha => have := h.fA a ha; ⟨this.1, this.2.1, this.2.2.1, this.2.2.2.1, Nat.lt_of_lt_of_le this.2.2.2.2 hf.size⟩, h.hm, h.hx, h.hne, Nat.le_trans h.n0le hf.size⟩
theorem St.below {n0 Bm Bx : Nat} {Lm : List (Int × Int)} {F : List Nat} {Lx : List (Int × Int)} {A : Option Addr} {c : Nat} {w0 w w' : World} (h : St n0 Bm Bx Lm F Lx A c w0 w) (hf : Below w.heap.size w w') : St n0 Bm Bx Lm F Lx A c w0 w' :=
  h.fr ((Fr.of_below hf).mono (fun i hi h => by omega))
theorem St.turn {n0 Bm Bx : Nat} {Lm : List (Int × Int)} {F : List Nat} {Lx : List (Int × Int)} {A : Option Addr} {c : Nat} {w0 w w' : World} {L' : List (Int × Int)} (h : St n0 Bm Bx Lm F Lx A c w0 w) (ht : AvlII.Turned Bm F L' w w') :
    ∃ F', St n0 Bm Bx L' F' Lx A c w0 w' ∧ (∀ x ∈ F', x ∈ F ∨ w.heap.size ≤ x) ∧ Fr (fun x => x = Bm ∨ x ∈ F) w w' := by
  obtain ⟨F', h1, h2, h3⟩ := ht
  refine ⟨F', ⟨h1, ?_, ?_, ?_, ?_, ?_, h.hm, h.hx, h.hne, Nat.le_trans h.n0le h3.size⟩, h2, h3⟩
  · refine (h3.block Bx (lt_of_heap h.box) ?_).trans h.box
    rintro (e | e)
    · exact h.hne e.symm
    · exact (h.fF Bx e).2 rfl
  · refine h.row.fr h3 ?_
    rintro a ha (e | e)
    · exact (h.fA a ha).2.2.1 e
    · exact (h.fA a ha).2.1 e
  · refine h.bel.trans (h3.below h.n0le ?_)
    rintro k hk (e | e)
    · have := h.hm; omega
    · have := (h.fF k e).1; omega
  · intro x hx
    rcases h2 x hx with e | e
    · exact h.fF x e
    · have := lt_of_heap h.box; have := h.n0le; omega
  · intro a ha
    have hq := h.fA a ha
    refine ⟨hq.1, fun hx => ?_, hq.2.2.1, hq.2.2.2.1, Nat.lt_of_lt_of_le hq.2.2.2.2 h3.size⟩
    rcases h2 _ hx with e | e
    · exact hq.2.1 e
    · omega
theorem St.ref {n0 Bm Bx : Nat} {Lm : List (Int × Int)} {F : List Nat} {Lx : List (Int × Int)} {A : Option Addr} {c : Nat} {w0 w w' : World} {L' : List (Int × Int)} {A' : Option Addr} {c' : Nat} (h : St n0 Bm Bx Lm F Lx A c w0 w)
    (h1 : w'.heap[Bx]? = some (.cells #[.slice A' L'.length c'] 56 (0, 0))) (h2 : Sl w' 2 A' L'.length c' (pcells L')) (h3 : ∀ a, A' = some a → w.heap.size ≤ a.block ∧ a.block < w'.heap.size) (hf : Fr (· = Bx) w w') :
    St n0 Bm Bx Lm F L' A' c' w0 w' := by
  have hl := h.map.lt
  refine ⟨h.map.fr hf h.hne (fun b hb e => (h.fF b hb).2 e), h1, h2, h.bel.trans (hf.below h.n0le (fun k hk e => by have := h.hx; omega)), h.fF, fun a ha => ?_, h.hm, h.hx, h.hne, Nat.le_trans h.n0le hf.size⟩
  have hq := (h3 a ha).1
  have h4 := (h3 a ha).2
  have hb := lt_of_heap h.box
  have hn := h.n0le
  refine ⟨by omega, fun hx => ?_, by omega, by omega, h4⟩
  have := hl.2 _ hx
  omega

abbrev ac (p : Int × Int × Int) : List Value := [.int .i64 p.1, .int .i64 p.2.1, .int .i64 p.2.2]
theorem ac_len (p : Int × Int × Int) : (ac p).length = 3 := rfl
/-- The act of this round lies in block Ba. -/
structure Ac (Ba Bm Bx : Nat) (F : List Nat) (x : Int × Int × Int) (w : World) : Prop where
  blk : w.heap[Ba]? = some (.cells #[.int .i64 x.1, .int .i64 x.2.1, .int .i64 x.2.2] 58 (0, 0))
  nm : Ba ≠ Bm
  nx : Ba ≠ Bx
  nF : Ba ∉ F
theorem Ac.fr {Ba Bm Bx : Nat} {F : List Nat} {x : Int × Int × Int} {w w' : World} (h : Ac Ba Bm Bx F x w) {S : Nat → Prop} (hf : Fr S w w') (hs : ¬ S Ba) : Ac Ba Bm Bx F x w' :=
  ⟨(hf.block Ba (lt_of_heap h.blk) hs).trans h.blk, h.nm, h.nx, h.nF⟩
theorem Ac.turn {Ba Bm Bx : Nat} {F F' : List Nat} {x : Int × Int × Int} {w w' : World} (h : Ac Ba Bm Bx F x w) (h2 : ∀ x ∈ F', x ∈ F ∨ w.heap.size ≤ x) (h3 : Fr (fun x => x = Bm ∨ x ∈ F) w w') : Ac Ba Bm Bx F' x w' := by
  refine ⟨(h3.block Ba (lt_of_heap h.blk) (fun e => e.elim h.nm h.nF)).trans h.blk, h.nm, h.nx, fun hx => ?_⟩
  rcases h2 _ hx with e | e
  · exact h.nF e
  · have := lt_of_heap h.blk; omega
theorem Ac.cells {Ba Bm Bx : Nat} {F : List Nat} {x : Int × Int × Int} {w : World} (h : Ac Ba Bm Bx F x w) : w.cell? ⟨Ba, 0, none⟩ = some (.int .i64 x.1) ∧ w.cell? ⟨Ba, 1, none⟩ = some (.int .i64 x.2.1) ∧ w.cell? ⟨Ba, 2, none⟩ = some (.int .i64 x.2.2) := by
  refine ⟨?_, ?_, ?_⟩ <;> rw [cell_of_block h.blk] <;> rfl
/-- What an act makes of a map. -/
def stepL (x : Int × Int × Int) (L : List (Int × Int)) : List (Int × Int) := if x.1 = 1 then insL x.2.1 x.2.2 L else if x.1 = 2 then delL x.2.1 L else L
theorem stepL_srt {x : Int × Int × Int} {L : List (Int × Int)} (h : Srt L) : Srt (stepL x L) := by
  unfold stepL
  split
  · exact (srt_insL _ h).1
  · split
    · exact srt_delL _ h
    · exact h
theorem insL_len (k v : Int) (L : List (Int × Int)) : (insL k v L).length ≤ L.length + 1 := by
  induction L with
  | nil => simp [insL]
  | cons p t ih => obtain ⟨k', v'⟩ := p; simp only [insL]; split; simp; split; simpa using ih; simp
theorem stepL_len (x : Int × Int × Int) (L : List (Int × Int)) : (stepL x L).length ≤ L.length + 1 := by
  unfold stepL
  split
  · exact insL_len _ _ _
  · split
    · exact Nat.le_trans (del_le _ _) (by omega)
    · omega

theorem St.new (w : World) : St w.heap.size w.heap.size (w.heap.size + 1) [] [] [] none 0 w ((w.alloc (.cells #[.pointer none, .int .i64 0] 51)).alloc (.cells #[.slice none 0 0] 56)) := by
  have hb : Below w.heap.size w ((w.alloc (.cells #[.pointer none, .int .i64 0] 51)).alloc (.cells #[.slice none 0 0] 56)) := ((Below.refl _ _).alloc (Nat.le_refl _) _).alloc (by simp) _
  refine ⟨(AvlII.MapB.new w).fr (Fr.alloc (fun _ => False) _ _) (fun h => h) (fun _ _ h => h), ?_, Sl.empty _ _, hb, by simp, by simp, Nat.le_refl _, by omega, by omega, hb.size⟩
  have := heap_new (w.alloc (.cells #[.pointer none, .int .i64 0] 51)) (.cells #[.slice none 0 0] 56)
  rwa [World.size_alloc] at this
theorem Ac.new {n0 Bm Bx : Nat} {Lm : List (Int × Int)} {F : List Nat} {Lx : List (Int × Int)} {A : Option Addr} {c : Nat} {w0 w : World} (h : St n0 Bm Bx Lm F Lx A c w0 w) (x : Int × Int × Int) :
    Ac w.heap.size Bm Bx F x (w.alloc (.cells #[.int .i64 x.1, .int .i64 x.2.1, .int .i64 x.2.2] 58)) := by
  have hl := h.map.lt
  have hb := lt_of_heap h.box
  exact ⟨heap_new _ _, by omega, by omega, fun hx => by have := hl.2 _ hx; omega⟩

end Law12
end Go.Proofs.Ytolpdgaomlhgdaa
