/- Zones: blocks of several objects, apart from one another. No program is named. -/
import Derived.Test.YtkhhdadlpilbmaaSl
import Derived.Test.YtkhhdadlpilbmaaRng
namespace Go.Proofs.Ytkhhdadlpilbmaa
open Go.RowKit

/-- Several objects, each in its own blocks, all made since n0; what lay below n0 lies as it lay in w0. -/
structure Zs (n0 : Nat) (w0 w : World) (Fs : List (List Nat)) : Prop where
  bel : Below n0 w0 w
  n0le : n0 ≤ w.heap.size
  rng : ∀ F ∈ Fs, ∀ x ∈ F, n0 ≤ x ∧ x < w.heap.size
  dis : Fs.Pairwise (fun F G => ∀ x ∈ F, x ∉ G)
/-- An object turns: it had the blocks F, it has the blocks F'. -/
structure Tn (F F' : List Nat) (w w' : World) : Prop where
  fr : Fr (· ∈ F) w w'
  sub : ∀ x ∈ F', (x ∈ F ∨ w.heap.size ≤ x) ∧ x < w'.heap.size

theorem Zs.start (w : World) : Zs w.heap.size w w [] := ⟨Below.refl _ _, Nat.le_refl _, by simp, List.Pairwise.nil⟩
theorem Tn.refl {F : List Nat} {w : World} (h : ∀ x ∈ F, x < w.heap.size) : Tn F F w w := ⟨Fr.refl _ _, fun x hx => ⟨.inl hx, h x hx⟩⟩
theorem Tn.trans {F G H : List Nat} {a b c : World} (h : Tn F G a b) (k : Tn G H b c) : Tn F H a c :=
  ⟨⟨k.fr.os.trans h.fr.os, k.fr.tape.trans h.fr.tape, k.fr.output.trans h.fr.output, Nat.le_trans h.fr.size k.fr.size, fun i hi hn =>
    (k.fr.block i (Nat.lt_of_lt_of_le hi h.fr.size) (fun hg => by rcases (h.sub i hg).1 with e | e; exact hn e; omega)).trans (h.fr.block i hi hn)⟩,
   fun x hx => ⟨by
      rcases (k.sub x hx).1 with e | e
      · exact (h.sub x e).1
      · have := h.fr.size; exact .inr (by omega), (k.sub x hx).2⟩⟩
theorem Tn.of_fr {F : List Nat} {w w' : World} (hf : Fr (fun _ => False) w w') (h : ∀ x ∈ F, x < w.heap.size) : Tn F F w w' :=
  ⟨hf.mono (fun _ _ h => h.elim), fun x hx => ⟨.inl hx, Nat.lt_of_lt_of_le (h x hx) hf.size⟩⟩
theorem Fr.of_below' {w w' : World} (h : Below w.heap.size w w') (S : Nat → Prop) : Fr S w w' := (Fr.of_below h).mono (fun i hi h => by omega)

section
variable {n0 : Nat} {w0 w w' : World} {Fs : List (List Nat)}
theorem Zs.mem {i : Nat} {F : List Nat} (h : Zs n0 w0 w Fs) (hi : Fs[i]? = some F) : ∀ x ∈ F, n0 ≤ x ∧ x < w.heap.size := h.rng F (List.mem_of_getElem? hi)
theorem Zs.ap (h : Zs n0 w0 w Fs) (i j : Nat) {F G : List Nat} (hi : Fs[i]? = some F) (hj : Fs[j]? = some G) (hne : i ≠ j) : ∀ b ∈ G, ¬ b ∈ F := by
  intro b hb hf
  have hI := List.getElem?_eq_some_iff.1 hi
  have hJ := List.getElem?_eq_some_iff.1 hj
  obtain ⟨hi1, rfl⟩ := hI
  obtain ⟨hj1, rfl⟩ := hJ
  rcases Nat.lt_or_gt_of_ne hne with hlt | hlt
  · exact (List.pairwise_iff_getElem.1 h.dis) i j hi1 hj1 hlt b hf hb
  · exact (List.pairwise_iff_getElem.1 h.dis) j i hj1 hi1 hlt b hb hf
theorem Zs.fr (h : Zs n0 w0 w Fs) (hf : Fr (fun _ => False) w w') : Zs n0 w0 w' Fs :=
  ⟨h.bel.trans (hf.below h.n0le (fun _ _ h => h)), Nat.le_trans h.n0le hf.size, fun F hF x hx => ⟨(h.rng F hF x hx).1, Nat.lt_of_lt_of_le (h.rng F hF x hx).2 hf.size⟩, h.dis⟩
theorem Zs.below (h : Zs n0 w0 w Fs) (hb : Below w.heap.size w w') : Zs n0 w0 w' Fs := h.fr (Fr.of_below' hb _)
/-- What is outside the zones turns. -/
theorem Zs.frS {S : Nat → Prop} (h : Zs n0 w0 w Fs) (hf : Fr S w w') (hn : ∀ k, k < n0 → ¬ S k) : Zs n0 w0 w' Fs :=
  ⟨h.bel.trans (hf.below h.n0le hn), Nat.le_trans h.n0le hf.size, fun F hF x hx => ⟨(h.rng F hF x hx).1, Nat.lt_of_lt_of_le (h.rng F hF x hx).2 hf.size⟩, h.dis⟩
/-- The object between A and B turns. -/
theorem Zs.turn (A B : List (List Nat)) {F F' : List Nat} (h : Zs n0 w0 w (A ++ F :: B)) (ht : Tn F F' w w') : Zs n0 w0 w' (A ++ F' :: B) := by
  have hm : F ∈ A ++ F :: B := by simp
  have hd := List.pairwise_append.1 h.dis
  have hd2 := List.pairwise_cons.1 hd.2.1
  have new : ∀ G, G ∈ A ++ F :: B → ∀ x ∈ F', x ∈ G → x ∈ F := fun G hG x hx hg => by
    rcases (ht.sub x hx).1 with e | e
    · exact e
    · have := (h.rng G hG x hg).2; omega
  refine ⟨h.bel.trans (ht.fr.below h.n0le (fun k hk hF => by have := (h.rng F hm k hF).1; omega)), Nat.le_trans h.n0le ht.fr.size, ?_, ?_⟩
  · intro G hG x hx
    rcases List.mem_append.1 hG with hG | hG
    · have := h.rng G (by simp [hG]) x hx; exact ⟨this.1, Nat.lt_of_lt_of_le this.2 ht.fr.size⟩
    · rcases List.mem_cons.1 hG with rfl | hG
      · refine ⟨?_, (ht.sub x hx).2⟩
        rcases (ht.sub x hx).1 with e | e
        · exact (h.rng F hm x e).1
        · have := h.n0le; omega
      · have := h.rng G (by simp [hG]) x hx; exact ⟨this.1, Nat.lt_of_lt_of_le this.2 ht.fr.size⟩
  · refine List.pairwise_append.2 ⟨hd.1, List.pairwise_cons.2 ⟨fun G hG x hx hg => ?_, hd2.2⟩, fun G hG K hK x hx hk => ?_⟩
    · exact hd2.1 G hG x (new G (by simp [hG]) x hx hg) hg
    · rcases List.mem_cons.1 hK with rfl | hK
      · exact hd.2.2 G hG F (by simp) x hx (new G (by simp [hG]) x hk hx)
      · exact hd.2.2 G hG K (by simp [hK]) x hx hk
/-- A new object, behind the others. -/
theorem Zs.snoc {F : List Nat} (h : Zs n0 w0 w Fs) (hf : Fr (fun _ => False) w w') (hF : ∀ x ∈ F, w.heap.size ≤ x ∧ x < w'.heap.size) : Zs n0 w0 w' (Fs ++ [F]) := by
  have h' := h.fr hf
  refine ⟨h'.bel, h'.n0le, ?_, List.pairwise_append.2 ⟨h'.dis, by simp, fun G hG K hK x hx hk => ?_⟩⟩
  · intro G hG x hx
    rcases List.mem_append.1 hG with hG | hG
    · exact h'.rng G hG x hx
    · obtain rfl := List.mem_singleton.1 hG
      have := h.n0le; have := hF x hx; exact ⟨by omega, this.2⟩
  · obtain rfl := List.mem_singleton.1 hK
    have := (h.rng G hG x hx).2; have := (hF x hk).1; omega
theorem Zs.alloc (h : Zs n0 w0 w Fs) (o : Obj) : Zs n0 w0 (w.alloc o) (Fs ++ [[w.heap.size]]) := h.snoc (Fr.alloc _ _ _) (by simp)
theorem Zs.less {Gs : List (List Nat)} (h : Zs n0 w0 w Fs) (hs : Gs.Sublist Fs) : Zs n0 w0 w Gs := ⟨h.bel, h.n0le, fun F hF => h.rng F (hs.mem hF), h.dis.sublist hs⟩
/-- Blocks of the loop's own: they come in as an object. -/
theorem Zs.with (h : Zs n0 w0 w Fs) (lo hi : Nat) (h0 : n0 ≤ lo) (h1 : hi ≤ w.heap.size) (ho : ∀ F ∈ Fs, ∀ x ∈ F, ¬ Rg lo hi x) : Zs n0 w0 w (Fs ++ [List.range' lo (hi - lo)]) := by
  refine ⟨h.bel, h.n0le, ?_, List.pairwise_append.2 ⟨h.dis, by simp, fun G hG K hK x hx hk => ?_⟩⟩
  · intro G hG x hx
    rcases List.mem_append.1 hG with hG | hG
    · exact h.rng G hG x hx
    · obtain rfl := List.mem_singleton.1 hG
      rw [List.mem_range'_1] at hx; omega
  · obtain rfl := List.mem_singleton.1 hK
    rw [List.mem_range'_1] at hk
    exact ho G hG x hx ⟨by omega, by omega⟩
end

/-- A function value is not nil. -/
theorem run_eql_func_nil {P : Program} (w : World) {t : TypeId} {x : Array TypeId} {y : Array TypeId} {z : Bool} (f : Fn) (a b : Array Value) (ht : P.underlying t = some (.func x y z)) : (binOp .eql t (.func f a b) .nilFunc).run P w = .ok (.bool false) w := by
  have h : ∀ d : Nat, (Op.equalIn (d + 1) t (.func f a b) .nilFunc).run P w = .ok false w := fun d => by simp [Op.equalIn, run_underlying ht]
  simp only [binOp]
  simp [Op.equal, Op.maxDepth, h 9999]

/-- A block known whole. -/
def Bk (w : World) (B : Nat) (c : Array Value) (t : TypeId) : Prop := w.heap[B]? = some (.cells c t (0, 0))
theorem Bk.fr {S : Nat → Prop} {w w' : World} {B : Nat} {c : Array Value} {t : TypeId} (h : Bk w B c t) (hf : Fr S w w') (hs : ∀ b ∈ [B], ¬ S b) : Bk w' B c t := (hf.block B (lt_of_heap h) (hs B (by simp))).trans h
theorem Bk.cell {w : World} {B : Nat} {c : Array Value} {t : TypeId} (h : Bk w B c t) (o : Nat) : w.cell? ⟨B, o, none⟩ = c[o]? := cell_of_block h o
theorem Bk.free {w : World} {B : Nat} {c : Array Value} {t : TypeId} (h : Bk w B c t) (o : Nat) : w.frozen? ⟨B, o, none⟩ = false := free_of_block h o
theorem Bk.new (w : World) (c : Array Value) (t : TypeId) : Bk (w.alloc (.cells c t)) w.heap.size c t := heap_new _ _
theorem Bk.set {w : World} {B : Nat} {c : Array Value} {t : TypeId} (h : Bk w B c t) (o : Nat) (u : Value) : Bk (w.setCell ⟨B, o, none⟩ u) B (c.setIfInBounds o u) t := heap_setCell_same h u
theorem Bk.tn {w : World} {B : Nat} {c : Array Value} {t : TypeId} (h : Bk w B c t) (o : Nat) (u : Value) : Tn [B] [B] w (w.setCell ⟨B, o, none⟩ u) :=
  ⟨Fr.setCell w ⟨B, o, none⟩ u (by simp), fun x hx => ⟨.inl hx, by simp at hx; subst hx; have := lt_of_heap h; simpa [World.setCell] using this⟩⟩
/-- Where a slice's cells lie. -/
def ablk (A : Option Addr) : List Nat := (A.map (·.block)).toList
theorem mem_ablk {A : Option Addr} {x : Nat} : x ∈ ablk A ↔ ∃ a, A = some a ∧ a.block = x := by cases A <;> simp [ablk, eq_comm]
/-- A struct of one slice, behind a pointer. -/
def SB {α : Type} (w : World) (B : Nat) (T : TypeId) (sz : Nat) (f : α → List Value) (L : List α) (F : List Nat) : Prop :=
  ∃ A c, Bk w B #[.slice A L.length c] T ∧ Sl w sz A L.length c (L.flatMap f) ∧ F = B :: ablk A ∧ ∀ a, A = some a → a.block ≠ B ∧ a.block < w.heap.size
theorem SB.fr {α : Type} {S : Nat → Prop} {w w' : World} {B : Nat} {T : TypeId} {sz : Nat} {f : α → List Value} {L : List α} {F : List Nat} (h : SB w B T sz f L F) (hf : Fr S w w') (hs : ∀ b ∈ F, ¬ S b) : SB w' B T sz f L F := by
  obtain ⟨A, c, h1, h2, rfl, h4⟩ := h
  exact ⟨A, c, h1.fr hf (fun b hb => hs b (by simp at hb; simp [hb])), h2.fr hf (fun a ha => hs _ (List.mem_cons_of_mem _ (mem_ablk.2 ⟨a, ha, rfl⟩))), rfl, fun a ha => ⟨(h4 a ha).1, Nat.lt_of_lt_of_le (h4 a ha).2 hf.size⟩⟩
theorem SB.lt {α : Type} {w : World} {B : Nat} {T : TypeId} {sz : Nat} {f : α → List Value} {L : List α} {F : List Nat} (h : SB w B T sz f L F) : ∀ x ∈ F, x < w.heap.size := by
  obtain ⟨A, c, h1, h2, rfl, h4⟩ := h
  intro x hx
  rcases List.mem_cons.1 hx with rfl | hx
  · exact lt_of_heap h1
  · obtain ⟨a, ha, rfl⟩ := mem_ablk.1 hx; exact (h4 a ha).2
/-- What was collected is stored into it. -/
theorem SB.store {α : Type} {w wr : World} {B : Nat} {T E : TypeId} {sz : Nat} {f : α → List Value} {L L' : List α} {F : List Nat} {v : Value} (h : SB w B T sz f L F) (hb : Below w.heap.size w wr) (hown : wr.ownsRow w.heap.size E sz v L'.length (L'.flatMap f)) :
    ∃ F', SB (wr.setCell ⟨B, 0, none⟩ v) B T sz f L' F' ∧ Tn F F' w (wr.setCell ⟨B, 0, none⟩ v) := by
  obtain ⟨A, c, h1, h2, rfl, h4⟩ := h
  have hlt := lt_of_heap h1
  have h1' : Bk wr B #[.slice A L.length c] T := (hb.block B hlt).trans h1
  obtain ⟨A', c', rfl, hS, hA⟩ := Sl.of_own hown
  have hfs := Fr.setCell wr ⟨B, 0, none⟩ (.slice A' L'.length c') (S := (· = B)) rfl
  have hne : ∀ a, A' = some a → a.block ≠ B := fun a ha e => by have := (hA a ha).1; omega
  have hsz : (wr.setCell ⟨B, 0, none⟩ (.slice A' L'.length c')).heap.size = wr.heap.size := by simp [World.setCell]
  have hfr : Fr (fun x => x ∈ B :: ablk A) w (wr.setCell ⟨B, 0, none⟩ (.slice A' L'.length c')) :=
    (Fr.of_below' hb (fun x => x ∈ B :: ablk A)).trans hfs (fun _ _ h => h) (fun _ _ h => by simp [h])
  refine ⟨B :: ablk A', ⟨A', c', h1'.set 0 _, hS.fr hfs (fun a ha e => hne a ha e), rfl, fun a ha => ⟨hne a ha, by rw [hsz]; exact (hA a ha).2.2⟩⟩, hfr, fun x hx => ?_⟩
  rw [hsz]
  rcases List.mem_cons.1 hx with rfl | hx
  · exact ⟨.inl (by simp), lt_of_heap h1'⟩
  · obtain ⟨a, ha, rfl⟩ := mem_ablk.1 hx
    exact ⟨.inr (hA a ha).1, (hA a ha).2.2⟩
end Go.Proofs.Ytkhhdadlpilbmaa
