/- All entries of a view: what is collected. -/
import Derived.Test.YtdpngmgaomghoaaGreatDoorEntX
import Derived.Test.YtdpngmgaomghoaaGreatDoorEntS
namespace Go.Proofs.YtdpngmgaomghoaaGreatDoor
open Tryz
set_option maxRecDepth 100000
set_option maxHeartbeats 1000000
open Go.RowKit Go.Shelf
namespace Ent
open BagP KeyP EntP OpsP SetP SetW
attribute [local go_sem] Eng.ev Eng.getO_cons Eng.getO_nil
abbrev TE:TypeId:=46
abbrev TEs:TypeId:=38
abbrev TI:TypeId:=3
abbrev TIs:TypeId:=44
abbrev ints (l:List Int):List Value:=l.map (Value.int .i64)
theorem infoE:(prog.info? TE).map (fun i=>(i.zero,i.size,i.bytes))=some (some (.agg #[.string ByteArray.empty,.string ByteArray.empty,.slice none 0 0]),3,56):=by kernel_rfl
theorem infoI:(prog.info? TI).map (fun i=>(i.zero,i.size,i.bytes))=some (some (.int .i64 0),1,8):=by kernel_rfl
theorem bldE (s o:ByteArray) (W:World):(Instr.build TE #[(0,.string s),(1,.string o)]).run prog W=.ok (.agg #[.string s,.string o,.slice none 0 0]) W:=by kernel_rfl
structure En where
 n:Nm
 l:List Int
 A:Option Addr
 c:Nat
abbrev En.cs (e:En):List Value:= [.string e.n.1,.string e.n.2,.slice e.A e.l.length e.c]
abbrev En.v (e:En):Nm × List Int:=(e.n,e.l)
abbrev En.sl (e:En):Value:=.slice e.A e.l.length e.c
theorem En.cs_len (e:En):e.cs.length=3:=rfl
abbrev En.new (n:Nm):En:=⟨n,[],none,0⟩
def Sr (lo Bo Bw:Nat) (b:Nat):Prop:=b=Bo∨b=Bw∨lo+2≤b
structure CE (lo Bo Bw:Nat) (w0 W:World) (T:List En) (v u:Value) (s:ByteArray):Prop where
 b:Bk W Bo #[u] TEs
 bw:Bk W Bw #[.string s] TSt
 o:W.ownsRow (lo+2) TE 3 v T.length (T.flatMap En.cs)
 t:∀e∈T,W.ownsRow (lo+2) TI 1 e.sl e.l.length (ints e.l)
 d:T.Pairwise (fun x y=>∀a b,x.A=some a→y.A=some b→a.block≠b.block)
 f:Below w0.heap.size w0 W
 p:w0.heap.size≤Bo∧w0.heap.size≤Bw∧Bo<lo∧Bw<lo∧Bo≠Bw
structure RE (lo Bo Bw:Nat) (w0 wr W:World) (T:List En) (v u:Value) (s:ByteArray):Prop extends CE lo Bo Bw w0 W T v u s where
 k:Fr (Sr lo Bo Bw) wr W
 l:lo+2≤W.heap.size
section
variable {lo Bo Bw:Nat} {w0 wr W W':World} {T:List En} {v u v':Value} {s:ByteArray}
theorem blk_t {base n:Nat} {xs ys:List Value} {sz sz' m:Nat} {v v':Value} (h:W.ownsRow base TE sz v n xs) (h':W.ownsRow base TI sz' v' m ys):∀b,v.ownBlock=some b→v'.ownBlock≠some b:=fun b hb hb'=>by
 obtain ⟨_,_,c,h1⟩:=ownsRow_blk h b hb
 obtain ⟨_,_,c',h2⟩:=ownsRow_blk h' b hb'
 rw [h1] at h2
 have h3:=Option.some.inj h2
 injection h3 with _ h4
 exact absurd h4 (by decide)
theorem CE.fr {S:Nat→Prop} (H:CE lo Bo Bw w0 W T v u s) (hf:Fr S W W') (h0:∀i,i<w0.heap.size→¬S i) (h1:¬S Bo) (h2:¬S Bw) (h3:∀b,lo+2≤b→¬S b):CE lo Bo Bw w0 W' T v u s:=
 ⟨H.b.fr hf (fun b hb=>by simp at hb;subst hb;exact h1),H.bw.fr hf (fun b hb=>by simp at hb;subst hb;exact h2),ownsRow_fr H.o hf (fun b hb=>h3 b (ownsRow_blk H.o b hb).1),fun e he=>ownsRow_fr (H.t e he) hf (fun b hb=>h3 b (ownsRow_blk (H.t e he) b hb).1),H.d,H.f.trans (hf.below H.f.size h0),H.p⟩
theorem CE.keep (H:CE lo Bo Bw w0 W T v u s) (hf:Fr (fun _=>False) W W'):CE lo Bo Bw w0 W' T v u s:=H.fr hf (fun _ _ h=>h) (fun h=>h) (fun h=>h) (fun _ _ h=>h)
theorem CE.abide (H:CE lo Bo Bw w0 W T v u s) (hf:Fr (Rg lo (lo+2+0)) W W'):CE lo Bo Bw w0 W' T v u s:=
 H.fr hf (fun i hi h=>by have:=h.1;have:=H.p;omega) (fun h=>by have:=h.1;have:=H.p;omega) (fun h=>by have:=h.1;have:=H.p;omega) (fun b hb h=>by have:=h.2;omega)
theorem CE.start (h1:Bk W Bo #[.slice none 0 0] TEs) (h2:Bk W Bw #[.string ByteArray.empty] TSt) (h3:Below w0.heap.size w0 W) (hp:w0.heap.size≤Bo∧w0.heap.size≤Bw∧Bo<lo∧Bw<lo∧Bo≠Bw):CE lo Bo Bw w0 W [] (.slice none 0 0) (.slice none 0 0) ByteArray.empty:=
 ⟨h1,h2,World.ownsRow_nil _ _ _ _,by simp,List.Pairwise.nil,h3,hp⟩
theorem RE.keep (H:RE lo Bo Bw w0 wr W T v u s) (hf:Fr (fun _=>False) W W'):RE lo Bo Bw w0 wr W' T v u s:=⟨H.toCE.keep hf,H.k.trans hf (fun _ _ h=>h) (fun _ _ h=>h.elim),Nat.le_trans H.l hf.size⟩
theorem RE.app (H:RE lo Bo Bw w0 wr W T v u s) {n:Nm} (hown:W'.ownsRow (lo+2) TE 3 v' (T.length+1) (T.flatMap En.cs++(En.new n).cs)) (hg:W.grownBy W' v.ownBlock):RE lo Bo Bw w0 wr W' (T++ [En.new n]) v' u s:=by
 have f1:Fr (fun b=>v.ownBlock=some b) W W':=Fr.grown hg (S:=fun b=>v.ownBlock=some b) (fun k h=>h)
 have hp:=H.p
 have hlo:∀b,v.ownBlock=some b→lo+2≤b:=fun b hb=>(ownsRow_blk H.o b hb).1
 refine ⟨⟨H.b.fr f1 (fun b hb h=>by simp at hb;have:=hlo _ h;omega),H.bw.fr f1 (fun b hb h=>by simp at hb;have:=hlo _ h;omega),?_,fun e he=>?_,?_,H.f.trans (f1.below H.f.size (fun i hi h=>by have:=hlo _ h;omega)),H.p⟩,H.k.trans f1 (fun _ _ h=>h) (fun _ _ h=>.inr (.inr (hlo _ h))),Nat.le_trans H.l f1.size⟩
 ·rw [List.length_append,List.length_singleton,List.flatMap_append]
  simpa using hown
 ·rcases List.mem_append.1 he with he|he
  ·exact ownsRow_fr (H.t e he) f1 (fun b hb h=>blk_t H.o (H.t e he) b h hb)
  ·simp at he;subst he;exact World.ownsRow_nil _ _ _ _
 ·exact List.pairwise_append.2 ⟨H.d,by simp,fun x hx y hy a b ha hb=>by simp at hy;subst hy;cases hb⟩
theorem RE.store (H:RE lo Bo Bw w0 wr W T v u s):RE lo Bo Bw w0 wr (W.setCell ⟨Bo,0,none⟩ v) T v v s:=by
 have f2:=Fr.setCell W ⟨Bo,0,none⟩ v (S:=(· =Bo)) rfl
 have hp:=H.p
 refine ⟨⟨H.b.set 0 v,H.bw.fr f2 (fun b hb h=>by simp at hb;omega),ownsRow_fr H.o f2 (fun b hb h=>by have:=(ownsRow_blk H.o b hb).1;omega),fun e he=>ownsRow_fr (H.t e he) f2 (fun b hb h=>by have:=(ownsRow_blk (H.t e he) b hb).1;omega),H.d,H.f.trans (f2.below H.f.size (fun i hi h=>by omega)),H.p⟩,H.k.trans f2 (fun _ _ h=>h) (fun _ _ h=>.inl h),Nat.le_trans H.l f2.size⟩
theorem RE.was (H:RE lo Bo Bw w0 wr W T v u s) (s':ByteArray):RE lo Bo Bw w0 wr (W.setCell ⟨Bw,0,none⟩ (.string s')) T v u s':=by
 have f2:=Fr.setCell W ⟨Bw,0,none⟩ (.string s') (S:=(· =Bw)) rfl
 have hp:=H.p
 refine ⟨⟨H.b.fr f2 (fun b hb h=>by simp at hb;omega),H.bw.set 0 _,ownsRow_fr H.o f2 (fun b hb h=>by have:=(ownsRow_blk H.o b hb).1;omega),fun e he=>ownsRow_fr (H.t e he) f2 (fun b hb h=>by have:=(ownsRow_blk (H.t e he) b hb).1;omega),H.d,H.f.trans (f2.below H.f.size (fun i hi h=>by omega)),H.p⟩,H.k.trans f2 (fun _ _ h=>h) (fun _ _ h=>.inr (.inl h)),Nat.le_trans H.l f2.size⟩
theorem ownsRow_set {base n sz cap g j:Nat} {e:TypeId} {xs:List Value} (h:W.ownsRow base e sz (.slice (some ⟨g,0,none⟩) n cap) n xs) (u:Value) (_hj:j<n*sz):(W.setCell ⟨g,j,none⟩ u).ownsRow base e sz (.slice (some ⟨g,0,none⟩) n cap) n (xs.set j u):=by
 obtain ⟨hl,h⟩:=h
 rcases h with ⟨h,-⟩| ⟨g',cap',cur,hv,hg,hh,h1,h2,h3,h4⟩
 ·cases h
 ·cases hv
  refine ⟨by rw [List.length_set];exact hl,.inr ⟨g,cap,cur.setIfInBounds j u,rfl,hg,heap_setCell_same hh u,h1,h2,by rw [Array.size_setIfInBounds];exact h3,?_⟩⟩
  rw [Array.toList_setIfInBounds,List.take_set,h4]
theorem set_last {P:List En} {e:En} (u:Value):(P.flatMap En.cs++e.cs).set (P.length*3+2) u=P.flatMap En.cs++ [.string e.n.1,.string e.n.2,u]:=by
 have hl:(P.flatMap En.cs).length=P.length*3:=flat_length En.cs_len P
 rw [List.set_append_right _ _ (by omega),hl,Nat.add_sub_cancel_left];rfl
theorem RE.tr {P:List En} {e:En} {t:Int} {A':Option Addr} {c' g c:Nat} {o:Obj} {W1:World} (H:RE lo Bo Bw w0 wr W (P++ [e]) (.slice (some ⟨g,0,none⟩) (P.length+1) c) (.slice (some ⟨g,0,none⟩) (P.length+1) c) s)
  (hown:W1.ownsRow (lo+2) TI 1 (.slice A' (e.l.length+1) c') (e.l.length+1) (ints e.l++ [.int .i64 t])) (hg:(W.alloc o).grownBy W1 e.sl.ownBlock) (hat:(Value.slice A' (e.l.length+1) c').ownBlock=e.sl.ownBlock∨(Value.slice A' (e.l.length+1) c').ownBlock=some (W.alloc o).heap.size):
  RE lo Bo Bw w0 wr (W1.setCell ⟨g,P.length*3+2,none⟩ (.slice A' (e.l.length+1) c')) (P++ [⟨e.n,e.l++ [t],A',c'⟩]) (.slice (some ⟨g,0,none⟩) (P.length+1) c) (.slice (some ⟨g,0,none⟩) (P.length+1) c) s:=by
 have H1:=H.keep (Fr.alloc (fun _=>False) W o)
 have f1:Fr (fun b=>e.sl.ownBlock=some b) (W.alloc o) W1:=Fr.grown hg (S:=fun b=>e.sl.ownBlock=some b) (fun k h=>h)
 have f2:=Fr.setCell W1 ⟨g,P.length*3+2,none⟩ (.slice A' (e.l.length+1) c') (S:=(· =g)) rfl
 have hp:=H1.p
 have he:e∈P++ [e]:=by simp
 have hlo:∀b,e.sl.ownBlock=some b→lo+2≤b∧b<(W.alloc o).heap.size:=fun b hb=>by
  have:=ownsRow_blk (H1.t e he) b hb;exact ⟨this.1,this.2.1⟩
 have hgl:=ownsRow_blk H1.o g rfl
 have hge:∀x∈P++ [e],∀b,x.sl.ownBlock=some b→b≠g:=fun x hx b hb h=>by
  subst h;exact blk_t H1.o (H1.t x hx) b rfl hb
 have hsp:∀ {a:Addr} {x:En},x.A=some a→x.sl.ownBlock=some a.block:=fun {a x} h=>by
  show Value.ownBlock (.slice x.A _ _)=_
  rw [h];rfl
 have hps:∀ {b:Nat} {x:En},x.sl.ownBlock=some b→∃a,x.A=some a∧a.block=b:=fun {b x} h=>by
  cases hA:x.A with
  |none=>rw [show x.sl=.slice none x.l.length x.c by rw [←hA]] at h;cases h
  |some a=>rw [hsp hA] at h;exact ⟨a,rfl,Option.some.inj h⟩
 have hd:=List.pairwise_append.1 H1.d
 have hPe:∀x∈P,∀b,x.sl.ownBlock=some b→e.sl.ownBlock≠some b:=fun x hx b hb hb'=>by
  obtain ⟨a,h1,h2⟩:=hps hb
  obtain ⟨a',h3,h4⟩:=hps hb'
  exact hd.2.2 x hx e (by simp) a a' h1 h3 (by omega)
 have o1:W1.ownsRow (lo+2) TE 3 (.slice (some ⟨g,0,none⟩) (P.length+1) c) (P.length+1) (P.flatMap En.cs++e.cs):=by
  have:=ownsRow_fr H1.o f1 (fun b hb h=>hge e he b h (by cases hb;rfl))
  rw [List.length_append,List.length_singleton,List.flatMap_append] at this
  simpa using this
 have hA':∀a,A'=some a→a.block≠g∧∀x∈P,∀b,x.A=some b→b.block≠a.block:=fun a ha=>by
  have h1:(Value.slice A' (e.l.length+1) c').ownBlock=some a.block:=by rw [ha];rfl
  refine ⟨fun h=>?_,fun x hx b hb h=>?_⟩
  ·rw [h] at h1;exact blk_t o1 hown g rfl h1
  ·rcases hat with h2|h2
   ·rw [h1] at h2;exact hPe x hx b.block (hsp hb) (by rw [←h2,h])
   ·rw [h1] at h2
    have h3:=Option.some.inj h2
    have:=(ownsRow_blk (H1.t x (by simp [hx])) b.block (hsp hb)).2.1
    omega
 have hF:Fr (fun b=>e.sl.ownBlock=some b∨b=g) (W.alloc o) (W1.setCell ⟨g,P.length*3+2,none⟩ (.slice A' (e.l.length+1) c')):=f1.trans f2 (fun _ _ h=>.inl h) (fun _ _ h=>.inr h)
 have hS:∀b,e.sl.ownBlock=some b∨b=g→lo+2≤b:=fun b hb=>by
  rcases hb with hb|rfl
  ·exact (hlo b hb).1
  ·exact hgl.1
 refine ⟨⟨H1.b.fr hF (fun b hb h=>by simp at hb;have:=hS _ h;omega),H1.bw.fr hF (fun b hb h=>by simp at hb;have:=hS _ h;omega),?_,fun x hx=>?_,?_,H1.f.trans (hF.below H1.f.size (fun i hi h=>by have:=hS _ h;omega)),H1.p⟩,H1.k.trans hF (fun _ _ h=>h) (fun _ _ h=>.inr (.inr (hS _ h))),Nat.le_trans H1.l hF.size⟩
 ·have:=ownsRow_set o1 (.slice A' (e.l.length+1) c') (j:=P.length*3+2) (by omega)
  rw [set_last] at this
  have hl:(e.l++ [t]).length=e.l.length+1:=by simp
  rw [List.length_append,List.length_singleton,List.flatMap_append,List.flatMap_cons,List.flatMap_nil,List.append_nil]
  show World.ownsRow _ _ _ _ _ _ (P.flatMap En.cs++ [.string e.n.1,.string e.n.2,.slice A' (e.l++ [t]).length c'])
  rw [hl];exact this
 ·rcases List.mem_append.1 hx with hx|hx
  ·refine ownsRow_fr (H1.t x (by simp [hx])) hF (fun b hb h=>?_)
   rcases h with h|rfl
   ·exact hPe x hx b hb h
   ·exact hge x (by simp [hx]) b hb rfl
  ·simp at hx;subst hx
   have h1:=ownsRow_fr hown f2 (fun b hb h=>by subst h;exact blk_t o1 hown b rfl hb)
   show World.ownsRow _ _ _ _ (.slice A' (e.l++ [t]).length c') (e.l++ [t]).length (ints (e.l++ [t]))
   rw [List.length_append,List.length_singleton]
   simpa using h1
 ·refine List.pairwise_append.2 ⟨hd.1,by simp,fun x hx y hy a b ha hb=>?_⟩
  simp at hy;subst hy
  exact (hA' b hb).2 x hx a ha
structure RX (lo Bo Bw:Nat) (w0 wr W:World) (T:List En) (v u:Value) (s:ByteArray) (ba:Nat) (n:Nm):Prop extends RE lo Bo Bw w0 wr W T v u s where
 sp:Bk W ba #[.string n.1,.string n.2,.string ByteArray.empty] TSt
 bn:Bo≠ba
variable {ba:Nat} {n:Nm}
theorem RX.keep (H:RX lo Bo Bw w0 wr W T v u s ba n) (hf:Fr (fun _=>False) W W'):RX lo Bo Bw w0 wr W' T v u s ba n:=⟨H.toRE.keep hf,H.sp.fr hf (fun _ _ h=>h),H.bn⟩
theorem sp_ne {base k sz:Nat} {xs:List Value} (h:W.ownsRow base TE sz v k xs) (hb:Bk W ba #[.string n.1,.string n.2,.string ByteArray.empty] TSt):v.ownBlock≠some ba:=fun h'=>by
 obtain ⟨_,_,c,h1⟩:=ownsRow_blk h ba h'
 rw [show W.heap[ba]? =_ from hb] at h1
 have h3:=Option.some.inj h1
 injection h3 with _ h4
 exact absurd h4 (by decide)
theorem RX.app (H:RX lo Bo Bw w0 wr W T v u s ba n) (hown:W'.ownsRow (lo+2) TE 3 v' (T.length+1) (T.flatMap En.cs++(En.new n).cs)) (hg:W.grownBy W' v.ownBlock):RX lo Bo Bw w0 wr W' (T++ [En.new n]) v' u s ba n:=
 ⟨H.toRE.app hown hg,H.sp.fr (Fr.grown hg (S:=fun b=>v.ownBlock=some b) (fun k h=>h)) (fun b hb h=>by simp at hb;subst hb;exact sp_ne H.o H.sp h),H.bn⟩
theorem RX.store (H:RX lo Bo Bw w0 wr W T v u s ba n):RX lo Bo Bw w0 wr (W.setCell ⟨Bo,0,none⟩ v) T v v s ba n:=
 ⟨H.toRE.store,H.sp.fr (Fr.setCell W ⟨Bo,0,none⟩ v (S:=(· =Bo)) rfl) (fun b hb h=>by simp at hb;subst hb;exact H.bn h.symm),H.bn⟩
end
theorem al8 {ops:Array Oper} (hops:Eng.fnOps Tryz.f12 8=ops) (a0:Act) (Q:Exit→Act→World→Prop) (lr mr:Nat) (lo Bo Bw:Nat) (w0 w:World) (T:List En) (v:Value) (s:ByteArray) (ba:Nat) (n:Nm) (hT:T.length≤1000000000) (hst:RX lo Bo Bw w0 w w T v v s ba n)
  (hn:a0.tmps.size=51) (h_3:a0.tmps.getD 3 undef=.pointer (some ⟨Bo,0,none⟩)) (h_8:a0.tmps.getD 8 undef=.slice (some ⟨ba,0,none⟩) 3 3)
  (hpost:∀ (x:Nat→Value) (w':World) (v':Value),RE lo Bo Bw w0 w w' (T++ [En.new n]) v' v' s→Q .normal (Eng.setAll a0 [24,25,26,27,28,29,30,31,32,33] x) w'):
  (Code.region 8 ops true).wpIn (Fence.wide.inRound lr) mr prog Q a0 w:=by
 simp only [Eng.fnOps,Eng.regOps,Tryz.f12,Option.bind_some,Option.getD_some,Nat.reduceEqDiff,↓reduceIte] at hops
 subst hops
 obtain ⟨i0,hi,hz0,hz1,hz2⟩:=info_parts infoE
 have kb:=fun W:World=>bldE n.1 n.2 W
 have cw:(w.alloc (.cells #[.string n.1,.string n.2,.slice none 0 0] TE)).cell? ⟨Bo,0,none⟩=some v:=(hst.keep (Fr.alloc _ _ (.cells #[.string n.1,.string n.2,.slice none 0 0] TE))).b.cell 0
 have HSt:=Lib.hid (hst.keep (Fr.drew _ _))
 refine Eng.regionTIn (.take 1 (.take 2 (.take 3 (.take 4 (.take 5 (.take 6 (.take 7 (.alt 0 (.alt 8 (.alt 9 (.alt 10 (.done) (.stop)) (.stop)) (.stop)) (.alt 8 (.alt 0 (.alt 9 (.alt 10 (.done) (.stop)) (.stop)) (.stop)) (.stop)))))))))) (fun w'=>w'.cell? ⟨ba,0,none⟩=some (.string n.1)∧w'.cell? ⟨ba,1,none⟩=some (.string n.2)) (by kernel_rfl) 51 hn (by kernel_rfl) (by kernel_rfl) (by kernel_rfl) (by kernel_rfl) (⟨HSt.out.sp.cell 0,HSt.out.sp.cell 1⟩) (fun a b ha hb=>?_)
 subst ha
 have hb3:b 3=.pointer (some ⟨Bo,0,none⟩):=(hb 3).symm.trans h_3
 have hb8:b 8=.slice (some ⟨ba,0,none⟩) 3 3:=(hb 8).symm.trans h_8
 clear hb h_3 h_8
 have HP:=Lib.hid hpost;have HN:=Lib.hid hn
 clear hpost hn
 iterate 7 (refine Eng.TW.tk ?_)
 refine Eng.TW.both ?_ ?_
 ·have cv:w.drew.cell? ⟨Bo,0,none⟩=some v:=HSt.out.b.cell 0
  refine Eng.TW.step rfl rfl (by decide) (by kernel_rfl) (by go_simp;first|done|with_reducible rfl|exact ⟨rfl,rfl⟩) (⟨(HSt.out).sp.cell 0,(HSt.out).sp.cell 1⟩) ?_
  have HSt2:=Lib.hid (HSt.out)
  have hSS:w.drew.cell? ⟨ba,0,none⟩=some (.string n.1)∧w.drew.cell? ⟨ba,1,none⟩=some (.string n.2):=⟨HSt2.out.sp.cell 0,HSt2.out.sp.cell 1⟩
  have HSt3:=Lib.hid (HSt2.out.keep (Fr.alloc _ _ (.cells #[.string n.1,.string n.2,.slice none 0 0] TE)))
  refine Eng.TW.step rfl rfl (by decide) (by kernel_rfl) (by go_simp;first|done|with_reducible rfl|exact ⟨rfl,rfl⟩) (⟨HSt3.out.sp.cell 0,HSt3.out.sp.cell 1⟩) ?_
  have hSS:(w.drew.alloc (.cells #[.string n.1,.string n.2,.slice none 0 0] TE)).cell? ⟨ba,0,none⟩=some (.string n.1)∧(w.drew.alloc (.cells #[.string n.1,.string n.2,.slice none 0 0] TE)).cell? ⟨ba,1,none⟩=some (.string n.2):=⟨HSt3.out.sp.cell 0,HSt3.out.sp.cell 1⟩
  refine Eng.TW.app rfl rfl (by decide) (by kernel_rfl) (.tmp 24) (.tmp 32) TEs rfl (lo+2) TE i0 (.agg #[.string ByteArray.empty,.string ByteArray.empty,.slice none 0 0]) 3 56 underlying38 hi hz0 hz1 hz2 rfl (by decide) v _ _ ⟨w.drew.heap.size,0,none⟩ 1 1 ([.string n.1,.string n.2,.slice none 0 0]) (by go_simp;first|done|with_reducible rfl) (by go_simp;first|done|with_reducible rfl) (HSt3.out.o) rfl (new_cells w.drew TE ([.string n.1,.string n.2,.slice none 0 0])) (by simp [Value.oneCell']) (by unfold maxLen;omega) (by omega) (by have:=HSt3.out.l;omega) ?_
  intro v4 w4 hown hg hv
  obtain ⟨A4,c4,rfl,-,-⟩:=Sl.of_own hown
  have HSt4:=Lib.hid (HSt3.out.app hown hg)
  have hSS:w4.cell? ⟨ba,0,none⟩=some (.string n.1)∧w4.cell? ⟨ba,1,none⟩=some (.string n.2):=⟨HSt4.out.sp.cell 0,HSt4.out.sp.cell 1⟩
  clear hown hg hv
  refine ⟨hSS,?_⟩
  have cv:w4.cell? ⟨Bo,0,none⟩=some v:=HSt4.out.b.cell 0
  have fv:w4.frozen? ⟨Bo,0,none⟩=false:=HSt4.out.b.free 0
  refine Eng.TW.step0 rfl rfl (by kernel_rfl) (by go_simp;first|done|with_reducible rfl|exact ⟨rfl,rfl⟩) (⟨(HSt4.out.store).sp.cell 0,(HSt4.out.store).sp.cell 1⟩) ?_
  have HSt5:=Lib.hid (HSt4.out.store)
  have hSS:(w4.setCell ⟨Bo,0,none⟩ (.slice A4 (T.length+1) c4)).cell? ⟨ba,0,none⟩=some (.string n.1)∧(w4.setCell ⟨Bo,0,none⟩ (.slice A4 (T.length+1) c4)).cell? ⟨ba,1,none⟩=some (.string n.2):=⟨HSt5.out.sp.cell 0,HSt5.out.sp.cell 1⟩
  refine Eng.TW.end_ [24,25,26,27,28,29,30,31,32,33] HN.out (by kernel_rfl) (by kernel_rfl) ?_
  exact HP.out _ _ _ HSt5.out.toRE
 have HSt2:=Lib.hid (HSt.out.keep (Fr.alloc _ _ (.cells #[.string n.1,.string n.2,.slice none 0 0] TE)))
 refine Eng.TW.step rfl rfl (by decide) (by kernel_rfl) (by go_simp;first|done|with_reducible rfl|exact ⟨rfl,rfl⟩) (⟨HSt2.out.sp.cell 0,HSt2.out.sp.cell 1⟩) ?_
 have hSS:(w.drew.alloc (.cells #[.string n.1,.string n.2,.slice none 0 0] TE)).cell? ⟨ba,0,none⟩=some (.string n.1)∧(w.drew.alloc (.cells #[.string n.1,.string n.2,.slice none 0 0] TE)).cell? ⟨ba,1,none⟩=some (.string n.2):=⟨HSt2.out.sp.cell 0,HSt2.out.sp.cell 1⟩
 have cv:(w.drew.alloc (.cells #[.string n.1,.string n.2,.slice none 0 0] TE)).cell? ⟨Bo,0,none⟩=some v:=HSt2.out.b.cell 0
 refine Eng.TW.step rfl rfl (by decide) (by kernel_rfl) (by go_simp;first|done|with_reducible rfl|exact ⟨rfl,rfl⟩) (⟨(HSt2.out).sp.cell 0,(HSt2.out).sp.cell 1⟩) ?_
 have HSt3:=Lib.hid (HSt2.out)
 have hSS:(w.drew.alloc (.cells #[.string n.1,.string n.2,.slice none 0 0] TE)).cell? ⟨ba,0,none⟩=some (.string n.1)∧(w.drew.alloc (.cells #[.string n.1,.string n.2,.slice none 0 0] TE)).cell? ⟨ba,1,none⟩=some (.string n.2):=⟨HSt3.out.sp.cell 0,HSt3.out.sp.cell 1⟩
 refine Eng.TW.app rfl rfl (by decide) (by kernel_rfl) (.tmp 24) (.tmp 32) TEs rfl (lo+2) TE i0 (.agg #[.string ByteArray.empty,.string ByteArray.empty,.slice none 0 0]) 3 56 underlying38 hi hz0 hz1 hz2 rfl (by decide) v _ _ ⟨w.drew.heap.size,0,none⟩ 1 1 ([.string n.1,.string n.2,.slice none 0 0]) (by go_simp;first|done|with_reducible rfl) (by go_simp;first|done|with_reducible rfl) (HSt3.out.o) rfl (new_cells w.drew TE ([.string n.1,.string n.2,.slice none 0 0])) (by simp [Value.oneCell']) (by unfold maxLen;omega) (by omega) (by have:=HSt3.out.l;omega) ?_
 intro v4 w4 hown hg hv
 obtain ⟨A4,c4,rfl,-,-⟩:=Sl.of_own hown
 have HSt4:=Lib.hid (HSt3.out.app hown hg)
 have hSS:w4.cell? ⟨ba,0,none⟩=some (.string n.1)∧w4.cell? ⟨ba,1,none⟩=some (.string n.2):=⟨HSt4.out.sp.cell 0,HSt4.out.sp.cell 1⟩
 clear hown hg hv
 refine ⟨hSS,?_⟩
 have cv:w4.cell? ⟨Bo,0,none⟩=some v:=HSt4.out.b.cell 0
 have fv:w4.frozen? ⟨Bo,0,none⟩=false:=HSt4.out.b.free 0
 refine Eng.TW.step0 rfl rfl (by kernel_rfl) (by go_simp;first|done|with_reducible rfl|exact ⟨rfl,rfl⟩) (⟨(HSt4.out.store).sp.cell 0,(HSt4.out.store).sp.cell 1⟩) ?_
 have HSt5:=Lib.hid (HSt4.out.store)
 have hSS:(w4.setCell ⟨Bo,0,none⟩ (.slice A4 (T.length+1) c4)).cell? ⟨ba,0,none⟩=some (.string n.1)∧(w4.setCell ⟨Bo,0,none⟩ (.slice A4 (T.length+1) c4)).cell? ⟨ba,1,none⟩=some (.string n.2):=⟨HSt5.out.sp.cell 0,HSt5.out.sp.cell 1⟩
 refine Eng.TW.end_ [24,25,26,27,28,29,30,31,32,33] HN.out (by kernel_rfl) (by kernel_rfl) ?_
 exact HP.out _ _ _ HSt5.out.toRE
end Ent
end Go.Proofs.YtdpngmgaomghoaaGreatDoor
