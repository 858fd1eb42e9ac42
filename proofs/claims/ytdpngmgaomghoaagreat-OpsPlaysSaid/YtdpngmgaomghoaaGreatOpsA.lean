/- All operations of a view, as they are told. -/
import Derived.Test.YtdpngmgaomghoaaGreatOpsCX
import Derived.Sort.AtCallIn
import Derived.Maps.OwnIn
namespace Go.Proofs.YtdpngmgaomghoaaGreat
open Tryz
set_option maxRecDepth 100000
set_option maxHeartbeats 1000000
open Go.RowKit Go.Shelf
namespace Ops
open BagP HistP OpsP Hist KeyP SetP SetW
attribute [local go_sem] Eng.ev Eng.getO_cons Eng.getO_nil
abbrev TOs:TypeId:=57
theorem infoO:(prog.info? TO).map (fun i=>(i.zero,i.size,i.bytes))=some (some (.agg #[.string ByteArray.empty,.string ByteArray.empty,.int .i64 0,.int .i64 0,.int .i64 0,.slice none 0 0]),6,80):=by kernel_rfl
structure Tl where
 n:Nm
 x:HS
 A:Option Addr
 c:Nat
abbrev Tl.cs (e:Tl):List Value:=opc e.n e.x e.A e.c
abbrev Tl.v (e:Tl):Nm × HS:=(e.n,e.x)
theorem Tl.cs_len (e:Tl):e.cs.length=6:=rfl
structure OL (G:Nat→Prop) (w:World) (A:Option Addr) (c:Nat) (T:List Tl):Prop where
 s:Sl w 6 A T.length c (T.flatMap Tl.cs)
 b:∀e∈T,Sl w 2 e.A e.x.1.length e.c (e.x.1.flatMap Bag.pc)
 a:∀a,A=some a→G a.block∧a.block<w.heap.size
 g:∀e∈T,∀a,e.A=some a→G a.block∧a.block<w.heap.size
structure CO (n0 lo Bo:Nat) (w0 W:World) (T:List Tl) (v u:Value):Prop where
 b:Bk W Bo #[u] TOs
 o:W.ownsRow n0 TO 6 v T.length (T.flatMap Tl.cs)
 f:Below n0 w0 W
 n:n0≤W.heap.size
 bo:n0≤Bo
 r:∀b,v.ownBlock=some b→¬Rg lo (lo+2+0) b
 t:∀e∈T,Sl W 2 e.A e.x.1.length e.c (e.x.1.flatMap Bag.pc)
 g:∀e∈T,∀a,e.A=some a→n0≤a.block∧a.block<W.heap.size∧¬Rg lo (lo+2+0) a.block∧a.block≠Bo∧v.ownBlock≠some a.block
section
variable {n0 lo Bo:Nat} {w0 W W':World} {T:List Tl} {v u:Value}
theorem CO.fr {S:Nat→Prop} (H:CO n0 lo Bo w0 W T v u) (hf:Fr S W W') (h0:∀i,i<n0→¬S i) (h1:¬S Bo) (h2:∀b,v.ownBlock=some b→¬S b) (h3:∀e∈T,∀a,e.A=some a→¬S a.block):CO n0 lo Bo w0 W' T v u:=
 ⟨H.b.fr hf (fun b hb=>by simp at hb;subst hb;exact h1),ownsRow_fr H.o hf h2,H.f.trans (hf.below H.n h0),Nat.le_trans H.n hf.size,H.bo,H.r,fun e he=>(H.t e he).fr hf (h3 e he),fun e he a ha=>by
  obtain ⟨g1,g2,g3⟩:=H.g e he a ha
  exact ⟨g1,Nat.lt_of_lt_of_le g2 hf.size,g3⟩⟩
theorem CO.keep (H:CO n0 lo Bo w0 W T v u) (hf:Fr (fun _=>False) W W'):CO n0 lo Bo w0 W' T v u:=H.fr hf (fun _ _ h=>h) (fun h=>h) (fun _ _ h=>h) (fun _ _ _ _ h=>h)
theorem CO.abide (H:CO n0 lo Bo w0 W T v u) (hf:Fr (Rg lo (lo+2+0)) W W') (hn:n0≤lo) (hb:¬Rg lo (lo+2+0) Bo):CO n0 lo Bo w0 W' T v u:=
 H.fr hf (fun i hi h=>by have:=h.1;omega) hb H.r (fun e he a ha=>(H.g e he a ha).2.2.1)
theorem CO.start (h1:Bk W Bo #[.slice none 0 0] TOs) (h3:Below n0 w0 W) (hn:n0≤W.heap.size) (hb:n0≤Bo):CO n0 lo Bo w0 W [] (.slice none 0 0) (.slice none 0 0):=
 ⟨h1,World.ownsRow_nil _ _ _ _,h3,hn,hb,fun b hb=>by simp [Value.ownBlock] at hb,by simp,by simp⟩
structure R7 (n0 lo Bo:Nat) (w0 wr W:World) (T:List Tl) (v u vr:Value):Prop where
 c:CO n0 lo Bo w0 W T v u
 k:Fr (fun b=>b=Bo∨vr.ownBlock=some b) wr W
 l:lo+2≤W.heap.size
structure R7e (n0 lo Bo:Nat) (w0 wr W:World) (T:List Tl) (v u vr:Value) (e:Tl):Prop extends R7 n0 lo Bo w0 wr W T v u vr where
 s:Sl W 2 e.A e.x.1.length e.c (e.x.1.flatMap Bag.pc)
 g:∀a,e.A=some a→n0≤a.block∧a.block<W.heap.size∧¬Rg lo (lo+2+0) a.block∧a.block≠Bo∧v.ownBlock≠some a.block
variable {wr:World} {vr:Value} {e:Tl}
theorem R7.keep (H:R7 n0 lo Bo w0 wr W T v u vr) (hf:Fr (fun _=>False) W W'):R7 n0 lo Bo w0 wr W' T v u vr:=⟨H.c.keep hf,H.k.trans hf (fun _ _ h=>h) (fun _ _ h=>h.elim),Nat.le_trans H.l hf.size⟩
theorem R7.call (H:R7 n0 lo Bo w0 wr W T v u vr) {k:Nm} {x:HS} {A:Option Addr} {c:Nat} (hs:Sl W' 2 A x.1.length c (x.1.flatMap Bag.pc)) (ha:∀a,A=some a→W.heap.size≤a.block∧a.block<W'.heap.size) (hf:Fr (fun _=>False) W W'):R7e n0 lo Bo w0 wr W' T v u vr ⟨k,x,A,c⟩:=
 ⟨H.keep hf,hs,fun a e=>by
  obtain ⟨h1,h2⟩:=ha a e
  have h3:=lt_of_heap H.c.b;have h4:=H.c.n;have h5:=H.l
  exact ⟨by omega,h2,fun h=>by have:=h.2;omega,by omega,fun h=>by have:=(ownsRow_blk H.c.o _ h).2.1;omega⟩⟩
theorem R7e.keep (H:R7e n0 lo Bo w0 wr W T v u vr e) (hf:Fr (fun _=>False) W W'):R7e n0 lo Bo w0 wr W' T v u vr e:=
 ⟨H.toR7.keep hf,H.s.fr hf (fun _ _ h=>h),fun a ha=>by obtain ⟨g1,g2,g3⟩:=H.g a ha;exact ⟨g1,Nat.lt_of_lt_of_le g2 hf.size,g3⟩⟩
theorem R7e.app (H:R7e n0 lo Bo w0 wr W T v u v e) {v':Value} (hown:W'.ownsRow n0 TO 6 v' (T.length+1) (T.flatMap Tl.cs++e.cs)) (hg:W.grownBy W' v.ownBlock) (hv:v'.ownBlock=v.ownBlock∨v'.ownBlock=some W.heap.size):R7 n0 lo Bo w0 wr W' (T++ [e]) v' u v:=by
 have f1:Fr (fun b=>v.ownBlock=some b) W W':=Fr.grown hg (S:=fun b=>v.ownBlock=some b) (fun k h=>h)
 have hnb:∀b,v.ownBlock=some b→b≠Bo:=fun b hb e=>by
  obtain ⟨_,_,c,hc⟩:=ownsRow_blk H.c.o b hb
  rw [e,show W.heap[Bo]? =_ from H.c.b] at hc
  cases hc
 have hl:=H.l
 have hold:∀b,b<W.heap.size→v.ownBlock≠some b→v'.ownBlock≠some b:=fun b hb hn h=>by
  rcases hv with hv|hv
  ·exact hn (hv▸h)
  ·rw [h] at hv
   have:=Option.some.inj hv;omega
 have hg':∀e'∈T++ [e],∀a,e'.A=some a→n0≤a.block∧a.block<W.heap.size∧¬Rg lo (lo+2+0) a.block∧a.block≠Bo∧v.ownBlock≠some a.block:=fun e' he a ha=>by
  rcases List.mem_append.1 he with he|he
  ·exact H.c.g e' he a ha
  ·simp at he;subst he;exact H.g a ha
 refine ⟨⟨H.c.b.fr f1 (fun b hb h=>by simp at hb;exact hnb b h hb),?_,H.c.f.trans (f1.below H.c.n (fun i hi h=>by have:=(ownsRow_blk H.c.o i h).1;omega)),Nat.le_trans H.c.n f1.size,H.c.bo,fun b hb hr=>?_,fun e' he=>?_,fun e' he a ha=>?_⟩,H.k.trans f1 (fun _ _ h=>h) (fun _ _ h=>.inr h),Nat.le_trans hl f1.size⟩
 ·rw [List.length_append,List.length_singleton,List.flatMap_append]
  simpa using hown
 ·rcases hv with hv|hv
  ·exact H.c.r b (hv▸hb) hr
  ·rw [hb] at hv
   have:=Option.some.inj hv;have:=hr.2;omega
 ·have hS:Sl W 2 e'.A e'.x.1.length e'.c (e'.x.1.flatMap Bag.pc):=by
   rcases List.mem_append.1 he with he|he
   ·exact H.c.t e' he
   ·simp at he;subst he;exact H.s
  exact hS.fr f1 (fun a ha h=>(hg' e' he a ha).2.2.2.2 h)
 ·obtain ⟨g1,g2,g3,g4,g5⟩:=hg' e' he a ha
  exact ⟨g1,Nat.lt_of_lt_of_le g2 f1.size,g3,g4,hold _ g2 g5⟩
theorem R7.store (H:R7 n0 lo Bo w0 wr W T v u vr):R7 n0 lo Bo w0 wr (W.setCell ⟨Bo,0,none⟩ v) T v v vr:=by
 have f2:=Fr.setCell W ⟨Bo,0,none⟩ v (S:=(· =Bo)) rfl
 have hne:∀b,v.ownBlock=some b→b≠Bo:=fun b hb e=>by
  obtain ⟨_,_,c,hc⟩:=ownsRow_blk H.c.o b hb
  rw [e,show W.heap[Bo]? =_ from H.c.b] at hc
  cases hc
 refine ⟨⟨H.c.b.set 0 v,ownsRow_fr H.c.o f2 hne,H.c.f.trans (f2.below H.c.n (fun i hi e=>by have:=H.c.bo;omega)),Nat.le_trans H.c.n f2.size,H.c.bo,H.c.r,fun e he=>(H.c.t e he).fr f2 (fun a ha e'=>(H.c.g e he a ha).2.2.2.1 e'),fun e he a ha=>?_⟩,H.k.trans f2 (fun _ _ h=>h) (fun _ _ h=>.inl h),Nat.le_trans H.l f2.size⟩
 obtain ⟨g1,g2,g3⟩:=H.c.g e he a ha
 exact ⟨g1,Nat.lt_of_lt_of_le g2 f2.size,g3⟩
end
theorem al7 {ops:Array Oper} (hops:Eng.fnOps Tryz.f28 7=ops) (a0:Act) (Q:Exit→Act→World→Prop) (lr mr:Nat) (n0 lo Bo:Nat) (w0 w:World) (T:List Tl) (v:Value) (k:Nm) (hk:Sep.nz k.1.toList) (hl:k.1.size+k.2.size≤1000000) (bh:Nat) (xh:HS) (F:List Nat) (hbh:∀W,Below n0 w0 W→HB W bh xh F) (hx:Wf xh) (hT:T.length≤1000000000) (hst:R7 n0 lo Bo w0 w w T v v v)
  (hn:a0.tmps.size=22) (h_3:a0.tmps.getD 3 undef=.pointer (some ⟨Bo,0,none⟩)) (h_4:a0.tmps.getD 4 undef=.string (key k)) (h_5:a0.tmps.getD 5 undef=.pointer (some ⟨bh,0,none⟩))
  (hpost:∀ (x:Nat→Value) (w':World) (e:Tl) (v':Value),e.v=(k,xh)→R7 n0 lo Bo w0 w w' (T++ [e]) v' v' v→Q .normal (Eng.setAll a0 [15,16,17,18,19,20] x) w'):
  (Code.region 7 ops true).wpIn (Fence.wide.inRound lr) mr prog Q a0 w:=by
 simp only [Eng.fnOps,Eng.regOps,Tryz.f28,Option.bind_some,Option.getD_some,Nat.reduceEqDiff,↓reduceIte] at hops
 subst hops
 obtain ⟨i0,hi,hz0,hz1,hz2⟩:=info_parts infoO
 have HSt:=Lib.hid (hst.keep (Fr.drew _ _))
 refine Eng.regionTIn (.take 1 (.take 2 (.alt 0 (.alt 3 (.alt 4 (.alt 5 (.alt 6 (.done) (.stop)) (.stop)) (.stop)) (.stop)) (.alt 3 (.alt 0 (.alt 4 (.alt 5 (.alt 6 (.done) (.stop)) (.stop)) (.stop)) (.alt 4 (.alt 0 (.alt 5 (.alt 6 (.done) (.stop)) (.stop)) (.stop)) (.stop))) (.stop))))) (fun w'=>True) (by kernel_rfl) 22 hn (by kernel_rfl) (by kernel_rfl) (by kernel_rfl) (by kernel_rfl) (trivial) (fun a b ha hb=>?_)
 subst ha
 have hb3:b 3=.pointer (some ⟨Bo,0,none⟩):=(hb 3).symm.trans h_3
 have hb4:b 4=.string (key k):=(hb 4).symm.trans h_4
 have hb5:b 5=.pointer (some ⟨bh,0,none⟩):=(hb 5).symm.trans h_5
 clear hb h_3 h_4 h_5
 have HP:=Lib.hid hpost;have HN:=Lib.hid hn
 clear hpost hn
 refine Eng.TW.tk ?_
 refine Eng.TW.tk ?_
 refine Eng.TW.both ?_ ?_
 ·have cv:w.drew.cell? ⟨Bo,0,none⟩=some v:=HSt.out.c.b.cell 0
  refine Eng.TW.step rfl rfl (by decide) (by kernel_rfl) (by go_simp;first|done|with_reducible rfl|exact ⟨rfl,rfl⟩) (trivial) ?_
  have HSt2:=Lib.hid (HSt.out)
  have hSS:True:=trivial
  refine Eng.TW.call rfl rfl (by decide) (by kernel_rfl) ?_ (oper k hk hl bh xh F _ (hbh _ HSt2.out.c.f) hx) ?_
  ·go_simp
  rintro e w3 ⟨A,c,rfl,hs,ha,hf⟩
  have HSt3:=Lib.hid (HSt2.out.call (k:=k) hs ha hf)
  have hSS:True:=trivial
  clear hs ha hf
  refine ⟨_,rfl,hSS,?_⟩
  refine Eng.TW.step rfl rfl (by decide) (by kernel_rfl) (by go_simp;first|done|with_reducible rfl|exact ⟨rfl,rfl⟩) (trivial) ?_
  have HSt4:=Lib.hid (HSt3.out.keep (Fr.alloc _ _ (.cells #[.string k.1,.string k.2,.int .i64 (sumL xh.1),.int .i64 xh.2.1,.int .i64 xh.2.2,.slice A xh.1.length c] TO)))
  have hSS:True:=trivial
  refine Eng.TW.app rfl rfl (by decide) (by kernel_rfl) (.tmp 15) (.tmp 19) TOs rfl n0 TO i0 (.agg #[.string ByteArray.empty,.string ByteArray.empty,.int .i64 0,.int .i64 0,.int .i64 0,.slice none 0 0]) 6 80 underlying57 hi hz0 hz1 hz2 rfl (by decide) v _ _ ⟨w3.heap.size,0,none⟩ 1 1 ([.string k.1,.string k.2,.int .i64 (sumL xh.1),.int .i64 xh.2.1,.int .i64 xh.2.2,.slice A xh.1.length c]) (by go_simp;first|done|with_reducible rfl) (by go_simp;first|done|with_reducible rfl) (HSt4.out.c.o) rfl (new_cells w3 TO ([.string k.1,.string k.2,.int .i64 (sumL xh.1),.int .i64 xh.2.1,.int .i64 xh.2.2,.slice A xh.1.length c])) (by simp [Value.oneCell']) (by unfold maxLen;omega) (by omega) (by have:=HSt4.out.c.n;omega) ?_
  intro v5 w5 hown hg hv
  obtain ⟨A5,c5,rfl,-,-⟩:=Sl.of_own hown
  have HSt5:=Lib.hid (HSt4.out.app hown hg hv)
  have hSS:True:=trivial
  clear hown hg hv
  refine ⟨hSS,?_⟩
  have cv:w5.cell? ⟨Bo,0,none⟩=some v:=HSt5.out.c.b.cell 0
  have fv:w5.frozen? ⟨Bo,0,none⟩=false:=HSt5.out.c.b.free 0
  refine Eng.TW.step0 rfl rfl (by kernel_rfl) (by go_simp;first|done|with_reducible rfl|exact ⟨rfl,rfl⟩) (trivial) ?_
  have HSt6:=Lib.hid (HSt5.out.store)
  have hSS:True:=trivial
  refine Eng.TW.end_ [15,16,17,18,19,20] HN.out (by kernel_rfl) (by kernel_rfl) ?_
  exact HP.out _ _ _ _ rfl HSt6.out
 refine Eng.TW.call rfl rfl (by decide) (by kernel_rfl) ?_ (oper k hk hl bh xh F _ (hbh _ HSt.out.c.f) hx) ?_
 ·go_simp
 rintro e w2 ⟨A,c,rfl,hs,ha,hf⟩
 have HSt2:=Lib.hid (HSt.out.call (k:=k) hs ha hf)
 have hSS:True:=trivial
 clear hs ha hf
 refine ⟨_,rfl,hSS,?_⟩
 refine Eng.TW.both ?_ ?_
 ·have cv:w2.cell? ⟨Bo,0,none⟩=some v:=HSt2.out.c.b.cell 0
  refine Eng.TW.step rfl rfl (by decide) (by kernel_rfl) (by go_simp;first|done|with_reducible rfl|exact ⟨rfl,rfl⟩) (trivial) ?_
  have HSt3:=Lib.hid (HSt2.out)
  have hSS:True:=trivial
  refine Eng.TW.step rfl rfl (by decide) (by kernel_rfl) (by go_simp;first|done|with_reducible rfl|exact ⟨rfl,rfl⟩) (trivial) ?_
  have HSt4:=Lib.hid (HSt3.out.keep (Fr.alloc _ _ (.cells #[.string k.1,.string k.2,.int .i64 (sumL xh.1),.int .i64 xh.2.1,.int .i64 xh.2.2,.slice A xh.1.length c] TO)))
  have hSS:True:=trivial
  refine Eng.TW.app rfl rfl (by decide) (by kernel_rfl) (.tmp 15) (.tmp 19) TOs rfl n0 TO i0 (.agg #[.string ByteArray.empty,.string ByteArray.empty,.int .i64 0,.int .i64 0,.int .i64 0,.slice none 0 0]) 6 80 underlying57 hi hz0 hz1 hz2 rfl (by decide) v _ _ ⟨w2.heap.size,0,none⟩ 1 1 ([.string k.1,.string k.2,.int .i64 (sumL xh.1),.int .i64 xh.2.1,.int .i64 xh.2.2,.slice A xh.1.length c]) (by go_simp;first|done|with_reducible rfl) (by go_simp;first|done|with_reducible rfl) (HSt4.out.c.o) rfl (new_cells w2 TO ([.string k.1,.string k.2,.int .i64 (sumL xh.1),.int .i64 xh.2.1,.int .i64 xh.2.2,.slice A xh.1.length c])) (by simp [Value.oneCell']) (by unfold maxLen;omega) (by omega) (by have:=HSt4.out.c.n;omega) ?_
  intro v5 w5 hown hg hv
  obtain ⟨A5,c5,rfl,-,-⟩:=Sl.of_own hown
  have HSt5:=Lib.hid (HSt4.out.app hown hg hv)
  have hSS:True:=trivial
  clear hown hg hv
  refine ⟨hSS,?_⟩
  have cv:w5.cell? ⟨Bo,0,none⟩=some v:=HSt5.out.c.b.cell 0
  have fv:w5.frozen? ⟨Bo,0,none⟩=false:=HSt5.out.c.b.free 0
  refine Eng.TW.step0 rfl rfl (by kernel_rfl) (by go_simp;first|done|with_reducible rfl|exact ⟨rfl,rfl⟩) (trivial) ?_
  have HSt6:=Lib.hid (HSt5.out.store)
  have hSS:True:=trivial
  refine Eng.TW.end_ [15,16,17,18,19,20] HN.out (by kernel_rfl) (by kernel_rfl) ?_
  exact HP.out _ _ _ _ rfl HSt6.out
 refine Eng.TW.step rfl rfl (by decide) (by kernel_rfl) (by go_simp;first|done|with_reducible rfl|exact ⟨rfl,rfl⟩) (trivial) ?_
 have HSt3:=Lib.hid (HSt2.out.keep (Fr.alloc _ _ (.cells #[.string k.1,.string k.2,.int .i64 (sumL xh.1),.int .i64 xh.2.1,.int .i64 xh.2.2,.slice A xh.1.length c] TO)))
 have hSS:True:=trivial
 have cv:(w2.alloc (.cells #[.string k.1,.string k.2,.int .i64 (sumL xh.1),.int .i64 xh.2.1,.int .i64 xh.2.2,.slice A xh.1.length c] TO)).cell? ⟨Bo,0,none⟩=some v:=HSt3.out.c.b.cell 0
 refine Eng.TW.step rfl rfl (by decide) (by kernel_rfl) (by go_simp;first|done|with_reducible rfl|exact ⟨rfl,rfl⟩) (trivial) ?_
 have HSt4:=Lib.hid (HSt3.out)
 have hSS:True:=trivial
 refine Eng.TW.app rfl rfl (by decide) (by kernel_rfl) (.tmp 15) (.tmp 19) TOs rfl n0 TO i0 (.agg #[.string ByteArray.empty,.string ByteArray.empty,.int .i64 0,.int .i64 0,.int .i64 0,.slice none 0 0]) 6 80 underlying57 hi hz0 hz1 hz2 rfl (by decide) v _ _ ⟨w2.heap.size,0,none⟩ 1 1 ([.string k.1,.string k.2,.int .i64 (sumL xh.1),.int .i64 xh.2.1,.int .i64 xh.2.2,.slice A xh.1.length c]) (by go_simp;first|done|with_reducible rfl) (by go_simp;first|done|with_reducible rfl) (HSt4.out.c.o) rfl (new_cells w2 TO ([.string k.1,.string k.2,.int .i64 (sumL xh.1),.int .i64 xh.2.1,.int .i64 xh.2.2,.slice A xh.1.length c])) (by simp [Value.oneCell']) (by unfold maxLen;omega) (by omega) (by have:=HSt4.out.c.n;omega) ?_
 intro v5 w5 hown hg hv
 obtain ⟨A5,c5,rfl,-,-⟩:=Sl.of_own hown
 have HSt5:=Lib.hid (HSt4.out.app hown hg hv)
 have hSS:True:=trivial
 clear hown hg hv
 refine ⟨hSS,?_⟩
 have cv:w5.cell? ⟨Bo,0,none⟩=some v:=HSt5.out.c.b.cell 0
 have fv:w5.frozen? ⟨Bo,0,none⟩=false:=HSt5.out.c.b.free 0
 refine Eng.TW.step0 rfl rfl (by kernel_rfl) (by go_simp;first|done|with_reducible rfl|exact ⟨rfl,rfl⟩) (trivial) ?_
 have HSt6:=Lib.hid (HSt5.out.store)
 have hSS:True:=trivial
 refine Eng.TW.end_ [15,16,17,18,19,20] HN.out (by kernel_rfl) (by kernel_rfl) ?_
 exact HP.out _ _ _ _ rfl HSt6.out
def AllPost (V:Vw) (w:World) (e:Ending) (w':World):Prop:=∃T A c,e=.returned (.slice A T.length c)∧T.map Tl.v=V.map (·.2)∧OL (fun b=>w.heap.size≤b) w' A c T∧Below w.heap.size w w'
theorem All_any (B:Nat) (w:World):Calls prog 94 #[.pointer (some ⟨B,0,none⟩)] w fun e w'=>e=.returned (.func (.func 165) #[] #[.pointer (some ⟨w.heap.size,0,none⟩)])∧w.alloc (.cells #[.pointer (some ⟨B,0,none⟩)] 210 (0,0))=w':=AvlSH.All _ w
theorem take_snoc {α:Type} {l:List α} {k:Nat} (h:k<l.length):l.take (k+1)=l.take k++ [l[k]]:=List.take_succ_eq_append_getElem h
attribute [local go_sem] Oper.semAt_some
theorem All (B:Nat) (M:List Nat) (E:Es) (w:World) (H:OV w B M E) (hv:OpsP.Vok (vL E)) (hnm:∀p∈E,p.2.n.1.size+p.2.n.2.size≤1000000) (sz:E.length≤1000000):
  Calls prog 28 #[.pointer (some ⟨B,0,none⟩)] w (AllPost (vL E) w):=by
 have hMP:=H.m.mapP
 have HAll:=fun w=>Lib.hid (All_any B w)
 have HH:Hid (∀W,Below w.heap.size w W→∀p∈E,HB W p.2.b p.2.x p.2.F):=fun W hW p hp=>(H.h p hp).fr (Fr.of_below hW) (fun b hb h=>by have:=(H.h p hp).lt b hb;omega)
 have HLt:Hid (∀b∈B::M,b<w.heap.size):=Lib.hid H.m.lt
 have HV:=Lib.hid hv;have HNm:=Lib.hid hnm
 clear H hv hnm
 refine (callsIn_wide (n:=3)).1 ?_
 refine callsIn_of_wp_marks func28 rfl trivial ?_ rfl
 simp only [ntmps28,List.size_toArray,List.length_cons,List.length_nil,Nat.reduceAdd,Nat.reduceSub,Array.replicate_succ,Array.replicate_zero,List.push_toArray,List.append_toArray,List.nil_append,List.cons_append]
 refine wpIn_wide.2 ?_
 go_wp2_with fail
 refine (HAll _).out.mono ?_
 rintro e w1 ⟨rfl,rfl⟩
 go_wp2_with fail
 have fa:=fun (w:World) (o:Obj)=>Fr.alloc (fun _=>False) w o
 have hs0:(((w.alloc (.cells #[.slice none 0 0] TOs)).alloc (.cells #[.pointer (some ⟨B,0,none⟩)] 210))).heap.size=w.heap.size+2:=by simp
 have bo:Bk (((w.alloc (.cells #[.slice none 0 0] TOs)).alloc (.cells #[.pointer (some ⟨B,0,none⟩)] 210))) w.heap.size #[.slice none 0 0] TOs:=(Bk.new w _ _).fr (fa _ _) (fun _ _ h=>h)
 have hcc:(((w.alloc (.cells #[.slice none 0 0] TOs)).alloc (.cells #[.pointer (some ⟨B,0,none⟩)] 210))).cell? ⟨w.heap.size+1,0,none⟩=some (.pointer (some ⟨B,0,none⟩)):=by simp
 have hb0:Below w.heap.size w (((w.alloc (.cells #[.slice none 0 0] TOs)).alloc (.cells #[.pointer (some ⟨B,0,none⟩)] 210))):=((Below.refl _ w).alloc (Nat.le_refl _) _).alloc (by simp) _
 have hM0:=hMP.below hb0
 generalize (((w.alloc (.cells #[.slice none 0 0] TOs)).alloc (.cells #[.pointer (some ⟨B,0,none⟩)] 210)))=W0 at *
 have HS0:=Lib.hid hs0
 have HB0:=Lib.hid hb0
 have n0:w.heap.size+1<W0.heap.size:=by omega
 clear hs0 fa hMP HAll hb0
 refine (wpIn_wide (n:=3)).1 ?_
 refine range_P' (n:=3) (a₁:=?fr) (gf:=165) (lb:= #[.pointer (some ⟨w.heap.size+1,0,none⟩)]) rfl (enters_of func165 (by kernel_rfl) rfl)
  (AvlSH.All_seq M (w.heap.size+1) (some ⟨B,0,none⟩) (pL E) M W0 hcc n0 hM0 (fun _ h=>h)) (fun b hb=>by have:=HLt.out b (by simp [hb]);have:=HS0.out;omega) (fun _=>rfl)
  (fun (pre:List (ByteArray × Option Addr)) (W:World)=>(∃T v,CO w.heap.size W0.heap.size w.heap.size w W T v v∧T.map Tl.v=((vL E).take pre.length).map (·.2))∧W0.heap.size≤W.heap.size)
  (fun k (pre:List (ByteArray × Option Addr)) (W:World)=>False)
  (fun pre A C h hf=>⟨h.1.imp fun T h=>h.imp fun v h=>⟨h.1.abide hf (by omega) (fun h=>by have:=h.1;omega),h.2⟩,Nat.le_trans h.2 hf.size⟩)
  (fun k pre A C h hf=>h)
  ⟨⟨[],_,CO.start bo HB0.out (by have:=HS0.out;omega) (Nat.le_refl _),by simp⟩,Nat.le_refl _⟩ ?assign ?body ?done ?stop
 case assign=>
  intro l m x W K hK
  gi_wp2
  exact hK
 case body=>
  rintro l m pre x W ⟨⟨T,v,hI,hT⟩,hsz0⟩ hsz hpre rfl ⟨r,hl⟩ hd
  (try dsimp only)
  have hlt:pre.length<E.length:=by have:=hpre.length_le;rw [List.length_append,List.length_singleton,List.length_map] at this;omega
  have hx:x=(E[pre.length].1,E[pre.length].2.p):=by
   obtain ⟨t,ht⟩:=hpre
   have h1:(pL E)[pre.length]? =some x:=by rw [←ht];simp
   rw [List.getElem?_map,List.getElem?_eq_getElem hlt] at h1
   simpa using h1.symm
  subst hx
  have hm:=List.getElem_mem hlt
  have hk:=HV.out.key (E[pre.length].1,E[pre.length].2.v) (List.mem_map.2 ⟨_,hm,rfl⟩)
  have hw:=HV.out.wf (E[pre.length].1,E[pre.length].2.v) (List.mem_map.2 ⟨_,hm,rfl⟩)
  have HHb:Hid (∀W,Below w.heap.size w W→HB W E[pre.length].2.b E[pre.length].2.x E[pre.length].2.F):=fun W hW=>HH.out W hW _ hm
  have hnl:=HNm.out _ hm
  have HT:Hid (∀e:Tl,e.v=(E[pre.length].2.n,E[pre.length].2.x)→(T++ [e]).map Tl.v=((vL E).take (pre.length+1)).map (·.2)):=fun e he=>by
   rw [take_snoc (by simpa using hlt),List.map_append,List.map_append,hT,List.map_singleton,List.map_singleton,he]
   simp
  have hTl:T.length≤1000000000:=by
   have:=congrArg List.length hT
   rw [List.length_map,List.length_map,List.length_take] at this;omega
  have HI:=Lib.hid hI;have HL:=Lib.hid hl;have HD:=Lib.hid hd
  have HSz:=Lib.hid hsz0
  have hll:W0.heap.size+2≤W.heap.size:=by have:=lt_of_heap hl;omega
  have HR:Hid _:=Lib.hid (⟨hI,Fr.refl _ W,hll⟩:R7 w.heap.size W0.heap.size w.heap.size w W W T v v v)
  dsimp only at hk hw hnl HHb ⊢
  generalize E[pre.length].1=kk at *
  generalize E[pre.length].2=ee at *
  obtain ⟨en,ex,eb,eF⟩:=ee
  dsimp only at hk hw hnl HHb HT ⊢
  obtain ⟨rfl,hnz⟩:=hk
  clear hI hl hd hpre hM0 hcc bo hm hT
  gi_wp2_with fail
  refine al7 (by kernel_rfl) _ _ _ m w.heap.size W0.heap.size w.heap.size w W T v en hnz.1 hnl eb ex eF HHb.out hw.1 hTl HR.out rfl rfl rfl rfl ?_
  intro xx w2 e v' he hR
  simp only [Eng.setAll,Act.put,List.setIfInBounds_toArray,List.set_cons_succ,List.set_cons_zero]
  have HR2:=Lib.hid hR
  have hF3:Fr (fun b=>b=w.heap.size∨v.ownBlock=some b) W w2:=hR.k
  clear hR HR HHb
  gi_wp2_with fail
  refine ⟨KeptR.of_fr hF3 hsz ?_,hF3.size,KeptL.of_fr hF3 (fun b hb=>⟨by have:=HLt.out b (by simp [hb]);omega,?_⟩),⟨⟨_,_,HR2.out.c,by rw [List.length_append,List.length_singleton];exact HT.out e he⟩,by have:=hF3.size;omega⟩⟩
  ·rintro b hr (e|e)
   ·have:=hr.1;have:=HS0.out;omega
   ·exact HI.out.r b e hr
  ·rintro (e|e)
   ·have:=HLt.out b (by simp [hb]);omega
   ·have:=(ownsRow_blk HI.out.o b e).1;have:=HLt.out b (by simp [hb]);omega
 case done=>
  rintro W hsz ⟨⟨T,v,hI,hT⟩,hsz0⟩ hK
  rw [List.length_map,List.take_of_length_le (by simp)] at hT
  have cv:W.cell? ⟨w.heap.size,0,none⟩=some v:=hI.b.cell 0
  have HI:=Lib.hid hI;have HK:=Lib.hid hK;have HT:=Lib.hid hT
  clear hI hT hK hM0 hcc bo
  obtain ⟨A,cA,rfl,hSl,hA⟩:=Sl.of_own HI.out.o
  have HA:=Lib.hid hA;have HSl:=Lib.hid hSl
  clear hA hSl
  go_wp2_with fail
  try rw [Exit.noGoto_ret]
  refine ⟨by simp,.inl ⟨_,_,rfl,run_takeDeferred HK.out,?_⟩⟩
  have hs1:=HS0.out
  have hf:=Fr.putObj W W0.heap.size (.deferred none) (S:=(· =W0.heap.size)) rfl
  refine ⟨_,by simp [results,Tryz.results28,go_sem],T,A,cA,rfl,HT.out,?_,HI.out.f.trans (hf.below (by omega) (fun k hk e=>by omega))⟩
  have hin:∀b,b=W0.heap.size→Rg W0.heap.size (W0.heap.size+2+0) b:=fun b e=>⟨by omega,by omega⟩
  exact ⟨HSl.out.fr hf (fun a ha e=>HI.out.r _ (HA.out a ha).2.1 (hin _ e)),fun e he=>(HI.out.t e he).fr hf (fun a ha e'=>(HI.out.g e he a ha).2.2.1 (hin _ e')),fun a ha=>⟨(HA.out a ha).1,Nat.lt_of_lt_of_le (HA.out a ha).2.2 hf.size⟩,fun e he a ha=>⟨(HI.out.g e he a ha).1,Nat.lt_of_lt_of_le (HI.out.g e he a ha).2.1 hf.size⟩⟩
 case stop=>
  rintro k pre W hsz hpre h
  exact h.elim
end Ops
end Go.Proofs.YtdpngmgaomghoaaGreat
