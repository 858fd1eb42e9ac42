/- A store, and the document's store beside it. -/
import Derived.Test.YtdpngmgaomghoaaGreatR18
import Derived.Test.YtdpngmgaomghoaaGreatDeltas
import Derived.Test.YtdpngmgaomghoaaGreatSli
import Derived.Test.YtdpngmgaomghoaaGreatRngs
namespace Go.Proofs.YtdpngmgaomghoaaGreat
open Go.RowKit
namespace Ref18
open Name KeyP PackP SetP SetW SetF Delta Sto Law18
structure AR (w0 w : World) (B : Nat) (f : Cf) (L : List Sn) (F : List Nat) (R : Nat) (g : Cf) (M : List Sn) (A : Option Addr) (c : Nat) (D : List (Nat × Array Value × TypeId)) (K : List (Option Addr × Nat × List Sn)) : Prop where
 z : AZ w0 w B f L F D K
 r : RS w R g M A c
 n : R ∉ F
 m : M ≠ [] → ∀ a, A = some a → a.block ∉ F
 b : w0.heap.size ≤ R
 d : ∀ p ∈ D, p.1 ≠ R
section
variable {w0 w w' : World} {B : Nat} {f f' : Cf} {L L' : List Sn} {F F' : List Nat} {R : Nat} {g g' : Cf} {M M' : List Sn} {A A' : Option Addr} {c c' : Nat} {D : List (Nat × Array Value × TypeId)} {K : List (Option Addr × Nat × List Sn)}
theorem AR.below (h : AR w0 w B f L F R g M A c D K) (hb : Below w.heap.size w w') : AR w0 w' B f L F R g M A c D K := ⟨h.z.below hb, h.r.below hb, h.n, h.m, h.b, h.d⟩
theorem AR.fr (h : AR w0 w B f L F R g M A c D K) (hf : Fr (fun _ => False) w w') : AR w0 w' B f L F R g M A c D K := h.below (hf.below (Nat.le_refl _) (fun _ _ h => h))
theorem AR.turn (h : AR w0 w B f L F R g M A c D K) (hs : St w' B f' L' F') (ht : Tn F F' w w') : AR w0 w' B f' L' F' R g M A c D K := by
 have hno : ∀ {b : Nat}, b ∉ F → b < w.heap.size → b ∉ F' := fun hn hl hm => by
  rcases (ht.sub _ hm).1 with h1 | h1
  ·exact hn h1
  ·omega
 refine ⟨h.z.turn hs ht, ⟨h.r.b.fr ht.fr (fun b hb hm => by simp at hb; subst hb; exact h.n hm), Ls.frA h.r.l ht.fr (fun hne a ha => h.m hne a ha), h.r.i⟩, hno h.n h.r.lt, fun hne a ha => hno (h.m hne a ha) (h.r.l.s.lt (fun e => hne (by cases M with | nil => rfl | cons x t => simp [scs] at e)) a ha), h.b, h.d⟩
theorem AR.act {O I : List Sn} {A1 A2 : Option Addr} {c1 c2 : Nat} (h : AR w0 w B f L F R g M A c D K) (ho : ActOut B f' L' O I F w w' A1 c1 A2 c2 F') : AR w0 w' B f' L' F' R g M A c D ((A1, c1, O) :: (A2, c2, I) :: K) := by
 have h1 := h.turn ho.st ho.t
 exact ⟨h.z.act ho, h1.r, h1.n, h1.m, h.b, h.d⟩
theorem AR.ref (h : AR w0 w B f L F R g M A c D K) (hr : RS w' R g' M' A' c') (hf : Fr (· = R) w w') (hn : (A' = A ∧ M' = M) ∨ (M' ≠ [] → ∀ a, A' = some a → w.heap.size ≤ a.block)) : AR w0 w' B f L F R g' M' A' c' D K := by
 have hst : St w' B f L F := ⟨h.z.s.s.fr hf (fun x hx e => h.n (e ▸ hx)), h.z.s.o, h.z.s.k, h.z.s.f⟩
 refine ⟨⟨hst, h.z.l, h.z.b.trans (hf.below h.z.b.size (fun k hk e => by have := h.b; omega)), fun p hp => ⟨⟨(h.z.d p hp).1.1.fr hf (fun b hb e => by simp at hb; exact h.d p hp (hb ▸ e)), (h.z.d p hp).1.2⟩, (h.z.d p hp).2⟩, fun q hq => ⟨Ls.frA (h.z.k q hq).1 hf (fun hne a ha => not_small h.r.b (show (6 : Nat) < 9 by decide) (h.z.k q hq).1 hne a ha), (h.z.k q hq).2⟩⟩, hr, h.n, ?_, h.b, h.d⟩
 rcases hn with ⟨rfl, rfl⟩ | hn
 ·exact h.m
 ·exact fun hne a ha hm => by have := hn hne a ha; have := h.z.s.lt _ hm; omega
theorem AR.pickL {K' : List (Option Addr × Nat × List Sn)} (h : AR w0 w B f L F R g M A c D K) (hs : ∀ p ∈ K', p ∈ K) : AR w0 w B f L F R g M A c D K' := ⟨h.z.pickL hs, h.r, h.n, h.m, h.b, h.d⟩
theorem AR.pickD {D' : List (Nat × Array Value × TypeId)} (h : AR w0 w B f L F R g M A c D K) (hs : ∀ p ∈ D', p ∈ D) : AR w0 w B f L F R g M A c D' K := ⟨h.z.pickD hs, h.r, h.n, h.m, h.b, fun p hp => h.d p (hs p hp)⟩
theorem AR.alloc (h : AR w0 w B f L F R g M A c D K) (cs : Array Value) (T : TypeId) : AR w0 (w.alloc (.cells cs T)) B f L F R g M A c ((w.heap.size, cs, T) :: D) K := by
 have h1 := h.fr (Fr.alloc (fun _ => False) w (.cells cs T))
 refine ⟨h.z.alloc cs T, h1.r, h.n, h.m, h.b, fun p hp => ?_⟩
 rcases List.mem_cons.1 hp with rfl | hp
 ·have := h.r.lt; dsimp only; omega
 ·exact h.d p hp
theorem AR.new (h : AZ w0 w B f L F D K) (hr : RS w R g [] none 0) (hn : R ∉ F) (hb : w0.heap.size ≤ R) (hd : ∀ p ∈ D, p.1 ≠ R) : AR w0 w B f L F R g [] none 0 D K := ⟨h, hr, hn, fun h => absurd rfl h, hb, hd⟩
end
end Ref18
end Go.Proofs.YtdpngmgaomghoaaGreat
namespace Go.Proofs.YtdpngmgaomghoaaGreat
open Go.RowKit
namespace Law18
open Name KeyP PackP SetP SetW SetF Delta Sto BagP Ref18
attribute [local go_sem] Eng.ev Eng.getO_cons Eng.getO_nil
structure NS (w : World) (Bc : Nat) (f : Cf) (G : Prop) : Prop where
 b : Bk w Bc (cfc f) TCf
 g : G
section
variable {w0 w w' : World} {Bc B R : Nat} {f : Cf} {F : List Nat} {D : List (Nat × Array Value × TypeId)}
theorem NS.drew (h : NS w Bc f (Below w0.heap.size w0 w ∧ ∀ p ∈ D, Bk w p.1 p.2.1 p.2.2 ∧ w0.heap.size ≤ p.1)) : NS w.drew Bc f (Below w0.heap.size w0 w.drew ∧ ∀ p ∈ D, Bk w.drew p.1 p.2.1 p.2.2 ∧ w0.heap.size ≤ p.1) :=
 ⟨h.b.fr (Fr.drew (fun _ => False) w) (fun _ _ h => h), h.g.1.trans ((Fr.drew (fun _ => False) w).below h.g.1.size (fun _ _ h => h)), fun p hp => ⟨(h.g.2 p hp).1.fr (Fr.drew (fun _ => False) w) (fun _ _ h => h), (h.g.2 p hp).2⟩⟩
theorem NS.one (h : NS w Bc f (Below w0.heap.size w0 w ∧ ∀ p ∈ D, Bk w p.1 p.2.1 p.2.2 ∧ w0.heap.size ≤ p.1)) (hi : in64 f.sp ∧ in64 f.tr ∧ in64 f.wi) (hs : Sto.SB w' B (f.at mnI) [] [] [] F) (hF : ∀ k ∈ F, w.heap.size ≤ k) (hb : Below w.heap.size w w') : NS w' Bc f (AZ w0 w' B (f.at mnI) [] F D []) := by
 have hfr := Fr.of_below' hb (fun _ => False)
 refine ⟨h.b.fr hfr (fun _ _ h => h), St.new hs hi, fun k hk => Nat.le_trans h.g.1.size (hF k hk), h.g.1.trans (hb.mono h.g.1.size), fun p hp => ⟨⟨(h.g.2 p hp).1.fr hfr (fun _ _ h => h), fun hm => ?_⟩, (h.g.2 p hp).2⟩, by simp⟩
 have := hF _ hm; have := lt_of_heap (h.g.2 p hp).1; omega
theorem NS.two (h : NS w Bc f (AZ w0 w B (f.at mnI) [] F D [])) (hr : RS w' R (f.at mnI) [] none 0) (hR : w.heap.size ≤ R) (hf : Fr (fun _ => False) w w') : NS w' Bc f (AR w0 w' B (f.at mnI) [] F R (f.at mnI) [] none 0 D []) :=
 ⟨h.b.fr hf (fun _ _ h => h), AR.new (h.g.fr hf) hr (fun hm => by have := h.g.s.lt _ hm; omega) (Nat.le_trans h.g.b.size hR) (fun p hp e => by have := lt_of_heap (h.g.d p hp).1.1; omega)⟩
end
end Law18
end Go.Proofs.YtdpngmgaomghoaaGreat
namespace Go.Proofs.YtdpngmgaomghoaaGreat
open Go.RowKit
def Coll2 (n0 bs Bo : Nat) (TS E : TypeId) (sz : Nat) (w0 W : World) (k : Nat) (cs : List Value) : Prop :=
 ∃ v, Bk W Bo #[v] TS ∧ W.ownsRow bs E sz v k cs ∧ Below n0 w0 W
theorem Coll2.fr {n0 bs Bo : Nat} {TS E : TypeId} {sz : Nat} {w0 A B : World} {k : Nat} {cs : List Value} {S : Nat → Prop} (h : Coll2 n0 bs Bo TS E sz w0 A k cs) (hf : Fr S A B) (hn : ∀ b, b < n0 → ¬ S b) (hb : ¬ S Bo) (ho : ∀ b, bs ≤ b → b < A.heap.size → ¬ S b) (hs : n0 ≤ A.heap.size) : Coll2 n0 bs Bo TS E sz w0 B k cs := by
 obtain ⟨v, h1, h2, h3⟩ := h
 exact ⟨v, h1.fr hf (fun b hb' => by simp at hb'; subst hb'; exact hb), ownsRow_fr h2 hf (fun b hb' => by have := ownsRow_blk h2 b hb'; exact ho b this.1 this.2.1), h3.trans (hf.below hs hn)⟩
theorem Coll2.abide {n0 lo hi bs Bo : Nat} {TS E : TypeId} {sz : Nat} {w0 A B : World} {k : Nat} {cs : List Value} (h : Coll2 n0 bs Bo TS E sz w0 A k cs) (hf : Fr (Rg lo hi) A B) (hn : n0 ≤ lo) (hb : ¬ Rg lo hi Bo) (hbs : hi ≤ bs) (hs : n0 ≤ A.heap.size) : Coll2 n0 bs Bo TS E sz w0 B k cs :=
 h.fr hf (fun b hb h => by have := h.1; omega) hb (fun b hb _ h => by have := h.2; omega) hs
theorem Coll2.keep {n0 bs Bo : Nat} {TS E : TypeId} {sz : Nat} {w0 A B : World} {k : Nat} {cs : List Value} (h : Coll2 n0 bs Bo TS E sz w0 A k cs) (hf : Fr (fun _ => False) A B) (hs : n0 ≤ A.heap.size) : Coll2 n0 bs Bo TS E sz w0 B k cs :=
 h.fr hf (fun _ _ h => h) (fun h => h) (fun _ _ _ h => h) hs
theorem Coll2.start {n0 bs Bo : Nat} {TS E : TypeId} {sz : Nat} {w0 W : World} (h1 : Bk W Bo #[.slice none 0 0] TS) (h3 : Below n0 w0 W) : Coll2 n0 bs Bo TS E sz w0 W 0 [] := ⟨_, h1, World.ownsRow_nil _ _ _ _, h3⟩
theorem Coll2.step {n0 bs Bo : Nat} {TS E : TypeId} {sz : Nat} {w0 W w1 : World} {k k' : Nat} {cs cs' : List Value} {v v' : Value} {o : Obj}
  (h1 : Bk W Bo #[v] TS) (h2 : W.ownsRow bs E sz v k cs) (h3 : Below n0 w0 W) (hn : n0 ≤ W.heap.size) (hBo : n0 ≤ Bo) (hBs : Bo < bs) (hown : w1.ownsRow bs E sz v' k' cs') (hg : (W.alloc o).grownBy w1 v.ownBlock) :
  Bk w1 Bo #[v] TS ∧ Coll2 n0 bs Bo TS E sz w0 (w1.setCell ⟨Bo, 0, none⟩ v') k' cs' ∧ Fr (fun b => b = Bo ∨ (bs ≤ b)) W (w1.setCell ⟨Bo, 0, none⟩ v') := by
 have f1 : Fr (fun b => bs ≤ b) W w1 := (Fr.alloc (fun _ => False) W o).trans (Fr.grown hg (S := fun b => bs ≤ b) (fun k h => (ownsRow_blk h2 k h).1)) (fun _ _ h => h.elim) (fun _ _ h => h)
 have hb1 : Bk w1 Bo #[v] TS := h1.fr f1 (fun b hb h => by simp at hb; omega)
 have f2 := Fr.setCell w1 ⟨Bo, 0, none⟩ v' (S := (· = Bo)) rfl
 have f3 : Fr (fun b => b = Bo ∨ bs ≤ b) W (w1.setCell ⟨Bo, 0, none⟩ v') := f1.trans f2 (fun _ _ h => .inr h) (fun _ _ h => .inl h)
 exact ⟨hb1, ⟨v', hb1.set 0 v', ownsRow_fr hown f2 (fun b hb e => by have := (ownsRow_blk hown b hb).1; omega), h3.trans (f3.below hn (fun i hi e => by omega))⟩, f3⟩
end Go.Proofs.YtdpngmgaomghoaaGreat
