/- What a loop over a function collects, where the function lays blocks of its own: a slice in a box. No program is named. -/
import Derived.Test.YtdpngmgaomghoaaGreatDoorRngs
namespace Go.Proofs.YtdpngmgaomghoaaGreatDoor
open Go.RowKit
def Coll2 (n0 bs Bo:Nat) (TS E:TypeId) (sz:Nat) (w0 W:World) (k:Nat) (cs:List Value):Prop:=
 ∃v,Bk W Bo #[v] TS∧W.ownsRow bs E sz v k cs∧Below n0 w0 W
theorem Coll2.fr {n0 bs Bo:Nat} {TS E:TypeId} {sz:Nat} {w0 A B:World} {k:Nat} {cs:List Value} {S:Nat→Prop} (h:Coll2 n0 bs Bo TS E sz w0 A k cs) (hf:Fr S A B) (hn:∀b,b<n0→¬S b) (hb:¬S Bo) (ho:∀b,bs≤b→b<A.heap.size→¬S b) (hs:n0≤A.heap.size):Coll2 n0 bs Bo TS E sz w0 B k cs:=by
 obtain ⟨v,h1,h2,h3⟩:=h
 exact ⟨v,h1.fr hf (fun b hb'=>by simp at hb';subst hb';exact hb),ownsRow_fr h2 hf (fun b hb'=>by have:=ownsRow_blk h2 b hb';exact ho b this.1 this.2.1),h3.trans (hf.below hs hn)⟩
theorem Coll2.abide {n0 lo hi bs Bo:Nat} {TS E:TypeId} {sz:Nat} {w0 A B:World} {k:Nat} {cs:List Value} (h:Coll2 n0 bs Bo TS E sz w0 A k cs) (hf:Fr (Rg lo hi) A B) (hn:n0≤lo) (hb:¬Rg lo hi Bo) (hbs:hi≤bs) (hs:n0≤A.heap.size):Coll2 n0 bs Bo TS E sz w0 B k cs:=
 h.fr hf (fun b hb h=>by have:=h.1;omega) hb (fun b hb _ h=>by have:=h.2;omega) hs
theorem Coll2.start {n0 bs Bo:Nat} {TS E:TypeId} {sz:Nat} {w0 W:World} (h1:Bk W Bo #[.slice none 0 0] TS) (h3:Below n0 w0 W):Coll2 n0 bs Bo TS E sz w0 W 0 []:=⟨_,h1,World.ownsRow_nil _ _ _ _,h3⟩
theorem Coll2.step {n0 bs Bo:Nat} {TS E:TypeId} {sz:Nat} {w0 W w1:World} {k k':Nat} {cs cs':List Value} {v v':Value} {o:Obj}
  (h1:Bk W Bo #[v] TS) (h2:W.ownsRow bs E sz v k cs) (h3:Below n0 w0 W) (hn:n0≤W.heap.size) (hBo:n0≤Bo) (hBs:Bo<bs) (hown:w1.ownsRow bs E sz v' k' cs') (hg:(W.alloc o).grownBy w1 v.ownBlock):
  Bk w1 Bo #[v] TS∧Coll2 n0 bs Bo TS E sz w0 (w1.setCell ⟨Bo,0,none⟩ v') k' cs'∧Fr (fun b=>b=Bo∨(bs≤b)) W (w1.setCell ⟨Bo,0,none⟩ v'):=by
 have f1:Fr (fun b=>bs≤b) W w1:=(Fr.alloc (fun _=>False) W o).trans (Fr.grown hg (S:=fun b=>bs≤b) (fun k h=>(ownsRow_blk h2 k h).1)) (fun _ _ h=>h.elim) (fun _ _ h=>h)
 have hb1:Bk w1 Bo #[v] TS:=h1.fr f1 (fun b hb h=>by simp at hb;omega)
 have f2:=Fr.setCell w1 ⟨Bo,0,none⟩ v' (S:=(· =Bo)) rfl
 have f3:Fr (fun b=>b=Bo∨bs≤b) W (w1.setCell ⟨Bo,0,none⟩ v'):=f1.trans f2 (fun _ _ h=>.inr h) (fun _ _ h=>.inl h)
 exact ⟨hb1,⟨v',hb1.set 0 v',ownsRow_fr hown f2 (fun b hb e=>by have:=(ownsRow_blk hown b hb).1;omega),h3.trans (f3.below hn (fun i hi e=>by omega))⟩,f3⟩
end Go.Proofs.YtdpngmgaomghoaaGreatDoor
