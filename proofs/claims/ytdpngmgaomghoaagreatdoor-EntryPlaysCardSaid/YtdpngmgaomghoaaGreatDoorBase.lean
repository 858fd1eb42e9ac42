/- Plain words on worlds: frames by footprint, blocks known whole. No program is named. -/
import Derived.WalkKit
import Derived.Deep.Draws
import Derived.Laws.AppendOwnNone
namespace Go.Proofs.YtdpngmgaomghoaaGreatDoor
open Go.RowKit
structure Fr (S:Nat→Prop) (w w':World):Prop where
 os:w'.os=w.os
 tape:w'.tape=w.tape
 output:w'.output=w.output
 size:w.heap.size≤w'.heap.size
 block:∀k,k<w.heap.size→¬S k→w'.heap[k]? =w.heap[k]?
theorem Fr.refl (S:Nat→Prop) (w:World):Fr S w w:=⟨rfl,rfl,rfl,Nat.le_refl _,fun _ _ _=>rfl⟩
theorem Fr.trans {S S' T:Nat→Prop} {a b c:World} (h:Fr S a b) (k:Fr S' b c) (hs:∀i,i<a.heap.size→S i→T i) (hs':∀i,i<a.heap.size→S' i→T i):Fr T a c:=
 ⟨k.os.trans h.os,k.tape.trans h.tape,k.output.trans h.output,Nat.le_trans h.size k.size,fun i hi hn=>
  (k.block i (Nat.lt_of_lt_of_le hi h.size) (fun x=>hn (hs' i hi x))).trans (h.block i hi (fun x=>hn (hs i hi x)))⟩
theorem Fr.mono {S T:Nat→Prop} {a b:World} (h:Fr S a b) (hs:∀i,i<a.heap.size→S i→T i):Fr T a b:=
 ⟨h.os,h.tape,h.output,h.size,fun i hi hn=>h.block i hi (fun x=>hn (hs i hi x))⟩
theorem Fr.of_below {B:Nat} {w w':World} (h:Below B w w'):Fr (fun k=>B≤k) w w':=
 ⟨h.os,h.tape,h.output,h.size,fun k _ hn=>h.block k (by omega)⟩
theorem Fr.below {S:Nat→Prop} {w w':World} (h:Fr S w w') {B:Nat} (hB:B≤w.heap.size) (hs:∀k,k<B→¬S k):Below B w w':=
 ⟨h.os,h.tape,h.output,h.size,fun k hk=>h.block k (by omega) (hs k hk)⟩
theorem Fr.drew (S:Nat→Prop) (w:World):Fr S w w.drew:=⟨rfl,rfl,rfl,Nat.le_refl _,fun _ _ _=>rfl⟩
theorem Fr.drewN (S:Nat→Prop) (w:World) (n:Nat):Fr S w (w.drewN n):=⟨rfl,rfl,rfl,Nat.le_refl _,fun _ _ _=>rfl⟩
theorem Fr.alloc (S:Nat→Prop) (w:World) (o:Obj):Fr S w (w.alloc o):=
 ⟨rfl,rfl,rfl,by simp,fun k hk _=>Below.heap_alloc _ _ _ hk⟩
theorem Fr.setCell (w:World) (a:Addr) (u:Value) {S:Nat→Prop} (h:S a.block):Fr S w (w.setCell a u):=
 ⟨rfl,rfl,rfl,by simp [World.setCell],fun k _ hn=>Below.heap_setCell _ _ _ _ (fun e=>hn (e▸h))⟩
theorem Fr.grown {w w':World} {row:Option Nat} (hg:w.grownBy w' row) {S:Nat→Prop} (hr:∀k,row=some k→S k):Fr S w w':=
 ⟨hg.os,hg.tape,hg.output,hg.size,fun k hk hn=>hg.block k hk (fun e=>hn (hr k e.symm))⟩
theorem heap_setCell_same {w:World} {b o:Nat} {c:Array Value} {t:TypeId} {fz:Nat × Nat} (h:w.heap[b]? =some (.cells c t fz)) (u:Value):
  (w.setCell ⟨b,o,none⟩ u).heap[b]? =some (.cells (c.setIfInBounds o u) t fz):=by
 simp [World.setCell,Array.getElem?_modify,h]
theorem cell_of_block {w:World} {b:Nat} {c:Array Value} {t:TypeId} {fz:Nat × Nat} (h:w.heap[b]? =some (.cells c t fz)) (o:Nat):w.cell? ⟨b,o,none⟩=c[o]? :=by
 simp [World.cell?,h]
theorem free_of_block {w:World} {b:Nat} {c:Array Value} {t:TypeId} (h:w.heap[b]? =some (.cells c t (0,0))) (o:Nat):w.frozen? ⟨b,o,none⟩=false:=by
 simp [World.frozen?,h]
theorem heap_new (w:World) (o:Obj):(w.alloc o).heap[w.heap.size]? =some o:=by
 show (w.heap.push o)[w.heap.size]? =some o
 simp
theorem lt_of_heap {w:World} {b:Nat} {o:Obj} (h:w.heap[b]? =some o):b<w.heap.size:=lt_of_block h
def Sl (w:World) (sz:Nat) (A:Option Addr) (n c:Nat) (xs:List Value):Prop:=
 xs.length=n*sz∧n≤c∧c≤maxLen∧(A=none→c=0)∧(xs≠ []→∃b o,A=some ⟨b,o,none⟩∧∀i u,xs[i]? =some u→w.cell? ⟨b,o+i,none⟩=some u)
theorem Sl.empty (w:World) (sz:Nat):Sl w sz none 0 0 []:=⟨by simp,Nat.le_refl _,by simp [maxLen],fun _=>rfl,fun h=>absurd rfl h⟩
theorem Sl.keep {w w':World} {sz:Nat} {A:Option Addr} {n c:Nat} {xs:List Value} (h:Sl w sz A n c xs) (hk:∀a,A=some a→w'.heap[a.block]? =w.heap[a.block]?):Sl w' sz A n c xs:=by
 obtain ⟨h1,h2,h3,h4,h5⟩:=h
 refine ⟨h1,h2,h3,h4,fun hne=>?_⟩
 obtain ⟨b,o,rfl,hc⟩:=h5 hne
 exact ⟨b,o,rfl,fun i u hu=>(World.cell?_of_block (w:=w) (a:=⟨b,o+i,none⟩) (hk ⟨b,o,none⟩ rfl)).trans (hc i u hu)⟩
theorem Sl.lt {w:World} {sz:Nat} {A:Option Addr} {n c:Nat} {xs:List Value} (h:Sl w sz A n c xs) (hne:xs≠ []):∀a,A=some a→a.block<w.heap.size:=by
 obtain ⟨b,o,rfl,hc⟩:=h.2.2.2.2 hne
 intro a ha
 cases ha
 cases xs with
 |nil=>exact absurd rfl hne
 |cons x xs=>exact World.block_lt_of_cell? w ⟨b,o+0,none⟩ (hc 0 x rfl)
theorem Sl.fr {S:Nat→Prop} {w w':World} {sz:Nat} {A:Option Addr} {n c:Nat} {xs:List Value} (h:Sl w sz A n c xs) (hf:Fr S w w') (hs:∀a,A=some a→¬S a.block):Sl w' sz A n c xs:=by
 by_cases hne:xs= []
 ·obtain ⟨h1,h2,h3,h4,h5⟩:=h
  exact ⟨h1,h2,h3,h4,fun h=>absurd hne h⟩
 ·exact h.keep (fun a ha=>hf.block _ (h.lt hne a ha) (hs a ha))
theorem Sl.below {B:Nat} {w w':World} {sz:Nat} {A:Option Addr} {n c:Nat} {xs:List Value} (h:Sl w sz A n c xs) (hf:Below B w w') (hs:∀a,A=some a→a.block<B):Sl w' sz A n c xs:=
 h.keep (fun a ha=>hf.block _ (hs a ha))
theorem Sl.nil_iff {w:World} {sz:Nat} {A:Option Addr} {n c:Nat} {xs:List Value} (h:Sl w sz A n c xs) (hsz:0<sz):n=0↔xs= []:=by
 have:=h.1
 constructor
 ·rintro rfl;exact List.eq_nil_of_length_eq_zero (by simpa using this)
 ·intro e;rw [e,List.length_nil] at this;rcases Nat.mul_eq_zero.1 this.symm with h|h;exact h;omega
theorem Sl.at {w:World} {sz:Nat} {A:Option Addr} {n c:Nat} {xs:List Value} (h:Sl w sz A n c xs) {i:Nat} (hi:i<n) (hsz:0<sz):
  ∃b o,A=some ⟨b,o,none⟩∧b<w.heap.size∧∀j u,xs[j]? =some u→w.cell? ⟨b,o+j,none⟩=some u:=by
 have hne:xs≠ []:=fun e=>by have:=(h.nil_iff hsz).2 e;omega
 obtain ⟨b,o,rfl,hc⟩:=h.2.2.2.2 hne
 exact ⟨b,o,rfl,h.lt hne _ rfl,hc⟩
theorem Sl.of_own {w:World} {base:Nat} {e:TypeId} {sz n:Nat} {v:Value} {xs:List Value} (h:w.ownsRow base e sz v n xs):
  ∃A c,v=.slice A n c∧Sl w sz A n c xs∧(∀a,A=some a→base≤a.block∧v.ownBlock=some a.block∧a.block<w.heap.size):=by
 obtain ⟨hl,h⟩:=h
 rcases h with ⟨rfl,rfl⟩| ⟨g,cap,cur,rfl,hg,hh,hn,hc,hs,ht⟩
 ·obtain rfl:xs= []:=List.eq_nil_of_length_eq_zero (by simpa using hl)
  exact ⟨none,0,rfl,Sl.empty w sz,fun a ha=>by cases ha⟩
 ·refine ⟨_,_,rfl,⟨hl,hn,hc,(by simp),fun _=>⟨g,0,rfl,fun i u hu=>?_⟩⟩,fun a ha=>by cases ha;exact ⟨hg,rfl,lt_of_heap hh⟩⟩
  rw [Nat.zero_add,cell_of_block hh]
  rw [←ht] at hu
  rw [List.getElem?_take] at hu
  split at hu
  ·simpa using hu
  ·cases hu
theorem Sl.take {w:World} {sz:Nat} {A:Option Addr} {n c:Nat} {xs:List Value} (h:Sl w sz A n c xs) {k:Nat} (hk:k≤n):Sl w sz A k c (xs.take (k*sz)):=by
 obtain ⟨h1,h2,h3,h4,h5⟩:=h
 have hle:k*sz≤n*sz:=Nat.mul_le_mul_right _ hk
 refine ⟨by rw [List.length_take,h1];omega,by omega,h3,h4,fun hne=>?_⟩
 obtain ⟨b,o,rfl,hc⟩:=h5 (fun e=>hne (by rw [e];simp))
 refine ⟨b,o,rfl,fun i u hu=>hc i u ?_⟩
 rw [List.getElem?_take] at hu
 split at hu
 ·exact hu
 ·cases hu
theorem Sl.drop {w:World} {sz:Nat} {A:Option Addr} {n c:Nat} {xs:List Value} (h:Sl w sz A n c xs) {k:Nat} (hk:k≤n):Sl w sz (if c=k then A else A.map (·.add (k*sz))) (n-k) (c-k) (xs.drop (k*sz)):=by
 obtain ⟨h1,h2,h3,h4,h5⟩:=h
 refine ⟨by rw [List.length_drop,h1,Nat.sub_mul],by omega,by omega,?_,fun hne=>?_⟩
 ·intro e
  by_cases hc:c=k
  ·omega
  ·rw [if_neg hc] at e
   have:A=none:=by cases A with|none=>rfl|some a=>cases e
   have:=h4 this
   omega
 ·have hne':xs≠ []:=fun e=>hne (by rw [e];simp)
  obtain ⟨b,o,rfl,hc⟩:=h5 hne'
  have hck:c≠k:=by
   intro e
   have:n=k:=by omega
   subst this
   exact hne (by rw [List.drop_eq_nil_of_le (by rw [h1];exact Nat.le_refl _)])
  rw [if_neg hck]
  refine ⟨b,o+k*sz,?_,fun i u hu=>?_⟩
  ·simp only [Option.map_some,Addr.add];split<;>simp_all
  ·rw [Nat.add_assoc]
   exact hc _ u (by rw [←hu,List.getElem?_drop])
theorem Sl.one (w:World) (t:TypeId) (cs:List Value) (sz:Nat) (hs:cs.length=sz):Sl (w.alloc (.cells cs.toArray t)) sz (some ⟨w.heap.size,0,none⟩) 1 1 cs:=by
 refine ⟨by omega,Nat.le_refl _,by simp [maxLen],(by simp),fun _=>⟨_,0,rfl,fun i u hu=>?_⟩⟩
 rw [Nat.zero_add,cell_of_block (heap_new w _)]
 simpa using hu
theorem ownsRow_fr {S:Nat→Prop} {w w':World} {base:Nat} {e:TypeId} {sz n:Nat} {v:Value} {xs:List Value} (h:w.ownsRow base e sz v n xs) (hf:Fr S w w') (hs:∀b,v.ownBlock=some b→¬S b):w'.ownsRow base e sz v n xs:=by
 obtain ⟨hl,h⟩:=h
 refine ⟨hl,?_⟩
 rcases h with h| ⟨g,cap,cur,rfl,hg,hh,r⟩
 ·exact .inl h
 ·exact .inr ⟨g,cap,cur,rfl,hg,(hf.block g (lt_of_heap hh) (hs g rfl)).trans hh,r⟩
theorem ownsRow_base {w:World} {base base':Nat} {e:TypeId} {sz n:Nat} {v:Value} {xs:List Value} (h:w.ownsRow base e sz v n xs) (hb:base'≤base):w.ownsRow base' e sz v n xs:=by
 obtain ⟨hl,h⟩:=h
 refine ⟨hl,?_⟩
 rcases h with h| ⟨g,cap,cur,rfl,hg,r⟩
 ·exact .inl h
 ·exact .inr ⟨g,cap,cur,rfl,Nat.le_trans hb hg,r⟩
theorem ownsRow_blk {w:World} {base:Nat} {e:TypeId} {sz n:Nat} {v:Value} {xs:List Value} (h:w.ownsRow base e sz v n xs):∀b,v.ownBlock=some b→base≤b∧b<w.heap.size∧∃c,w.heap[b]? =some (.cells c e (0,0)):=by
 obtain ⟨hl,h⟩:=h
 intro b hb
 rcases h with ⟨rfl,-⟩| ⟨g,cap,cur,rfl,hg,hh,r⟩
 ·simp [Value.ownBlock] at hb
 ·simp only [Value.ownBlock,Option.some.injEq] at hb
  subst hb
  exact ⟨hg,lt_of_heap hh,_,hh⟩
theorem wpList_append_sl {P:Program} (w:World) {ops:Array Oper} {rest:List Oper} {o:Oper} {a:Act} {Q:Exit→Act→World→Prop} (hgd:o.guard=none) (s x:Operand) (t:TypeId)
  (ho:o.op=.call { callee:=.builtin .append,args:= #[s,x],argTypes:= #[t,t] })
  (base:Nat) (e:TypeId) (i:TypeInfo) (z:Value) (size bytes:Nat) (ht:P.underlying t=some (.slice e)) (hi:P.info? e=some i) (hz:i.zero=some z)
  (hsize:i.size=size) (hby:i.bytes=bytes) (hzs:z.cells.size=size) (hsz:0<size)
  (v:Value) (n:Nat) (xs:List Value) (hs:a.eval s=v) (hown:w.ownsRow base e size v n xs)
  (A:Option Addr) (m c:Nat) (news:List Value) (hx:a.eval x=.slice A m c) (hr:Sl w size A m c news) (h1:∀u∈news,u.oneCell'=true)
  (h63:n+m≤maxLen) (hbytes:(n+m)*bytes≤140737488355328) (hbase:base≤w.heap.size)
  (h:∀v' w',w'.ownsRow base e size v' (n+m) (xs++news)→w.grownBy w' v.ownBlock→wpList P ops Q rest (a.put o.dst v') w'):wpList P ops Q (o::rest) a w:=by
 cases A with
 |none=>
  obtain rfl:c=0:=hr.2.2.2.1 rfl
  obtain rfl:m=0:=by have:=hr.2.1;omega
  obtain rfl:news= []:=(hr.nil_iff hsz).1 rfl
  exact wpList_append_own_none hgd s x t ho base e i size ht hi v n xs hs hown hx (h v w (by simpa using hown) (World.grownBy.refl w _))
 |some ad=>
  refine wpList_append_own w hgd s x t ho base e i z size bytes ht hi hz hsize hby hzs hsz v n xs hs hown ad m c news hx hr.1 ?_ h1 h63 hbytes hbase (fun v' w' h2 h3 _=>h v' w' h2 h3)
  intro j u hu
  obtain ⟨b,o',hb,hc⟩:=hr.2.2.2.2 (fun e=>by rw [e] at hu;simp at hu)
  cases hb
  have:=hc j u hu
  simp only [Addr.add]
  split
  ·simpa [*] using this
  ·exact this
section flat
variable {α:Type} {f:α→List Value} {sz:Nat}
theorem flat_length (hf:∀x,(f x).length=sz) (L:List α):(L.flatMap f).length=L.length*sz:=by
 induction L with
 |nil=>simp
 |cons x L ih=>rw [List.flatMap_cons,List.length_append,ih,hf,List.length_cons,Nat.succ_mul];omega
theorem flat_take (hf:∀x,(f x).length=sz) (L:List α) (k:Nat):(L.flatMap f).take (k*sz)=(L.take k).flatMap f:=by
 induction L generalizing k with
 |nil=>simp
 |cons x L ih=>
  cases k with
  |zero=>simp
  |succ k=>
   rw [List.flatMap_cons,List.take_succ_cons,List.flatMap_cons,Nat.succ_mul,Nat.add_comm,←hf x,List.take_length_add_append,hf x,ih]
theorem flat_drop (hf:∀x,(f x).length=sz) (L:List α) (k:Nat):(L.flatMap f).drop (k*sz)=(L.drop k).flatMap f:=by
 induction L generalizing k with
 |nil=>simp
 |cons x L ih=>
  cases k with
  |zero=>simp
  |succ k=>
   rw [List.flatMap_cons,List.drop_succ_cons,Nat.succ_mul,Nat.add_comm,←hf x,List.drop_length_add_append,hf x,ih]
theorem flat_at (hf:∀x,(f x).length=sz) {L:List α} {k:Nat} (hk:k<L.length) {j:Nat} (hj:j<sz):(L.flatMap f)[k*sz+j]? =(f L[k])[j]? :=by
 rw [←List.getElem?_drop,flat_drop hf,List.drop_eq_getElem_cons hk,List.flatMap_cons,List.getElem?_append_left (by rw [hf];exact hj)]
end flat
end Go.Proofs.YtdpngmgaomghoaaGreatDoor
