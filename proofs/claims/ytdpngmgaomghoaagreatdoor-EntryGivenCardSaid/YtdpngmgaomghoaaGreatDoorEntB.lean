/- All entries of a view: the walk. -/
import Derived.Test.YtdpngmgaomghoaaGreatDoorEntA
namespace Go.Proofs.YtdpngmgaomghoaaGreatDoor
open Tryz
set_option maxRecDepth 100000
set_option maxHeartbeats 2000000
open Go.RowKit Go.Shelf
namespace Ent
open BagP KeyP EntP OpsP SetP SetW
attribute [local go_sem] Eng.ev Eng.getO_cons Eng.getO_nil
theorem wpListIn_append_at {F:Fence} {n:Nat} {P:Program} (w:World) {ops:Array Oper} {rest:List Oper} {o:Oper} {a:Act} {Q:Exit→Act→World→Prop}
  (hg:o.guard=none) (s x:Operand) (t:TypeId) (hop:o.op=Op.call { callee:=Callee.builtin Builtin.append,args:= #[s,x],argTypes:= #[t,t] })
  (base:Nat) (e:TypeId) (i:TypeInfo) (z:Value) (size bytes:Nat) (h1:P.underlying t=some (.slice e)) (h2:P.info? e=some i) (h3:i.zero=some z) (h4:i.size=size) (h5:i.bytes=bytes) (h6:z.cells.size=size) (h7:0<size)
  (v:Value) (k:Nat) (xs:List Value) (hs:a.eval s=v) (hown:w.ownsRow base e size v k xs) (ad:Addr) (m c:Nat) (news:List Value) (hx:a.eval x=.slice (some ad) m c) (hn:news.length=m*size)
  (hc:∀j u,news[j]? =some u→w.cell? (ad.add j)=some u) (h1c:∀u∈news,u.oneCell'=true) (b1:k+m≤maxLen) (b2:(k+m)*bytes≤140737488355328) (b3:base≤w.heap.size)
  (hK:∀v' w',w'.ownsRow base e size v' (k+m) (xs++news)→w.grownBy w' v.ownBlock→(v'.ownBlock=v.ownBlock∨v'.ownBlock=some w.heap.size)→wpListIn F n P ops Q rest (a.put o.dst v') w'):
  wpListIn F n P ops Q (o::rest) a w:=by
 refine wpListIn_plain hg fun K hK'=>?_
 obtain ⟨v',w',hrun,r1,r2,-,r3⟩:=run_append_own_at (P:=P) w base t o.type e i z size bytes h1 h2 h3 h4 h5 h6 h7 v k xs hown ad m c news hn hc h1c b1 b2 b3
 unfold Oper.wpIn
 refine ⟨?_,?_⟩
 ·simp [Oper.about,hop,resolve,Target.leads,Sem.run_pure]
 ·rw [Oper.semAt_plain F _ _ (by rw [hop];intro c hc';cases hc')]
  simp [execOp,hop,resolve,invoke,builtin,hs,hx,hrun,Result.andThen]
  exact hK' _ _ (hK v' w' r1 r2 r3)
theorem from_ (B:Nat) (k:ByteArray) (w:World):Calls prog 27 #[.pointer (some ⟨B,0,none⟩),.string k] w fun e w'=>e=.returned (.func (.func 72) #[] #[.pointer (some ⟨w.heap.size,0,none⟩),.pointer (some ⟨w.heap.size+1,0,none⟩)])∧w'=(w.alloc (.cells #[.pointer (some ⟨B,0,none⟩)] 88)).alloc (.cells #[.string k] TSt):=by
 have HA:=Lib.hid (AvlSI.From (some ⟨B,0,none⟩) k w)
 go_enter func27,ntmps27
 go_wp2_with fail
 refine HA.out.mono ?_
 rintro e w1 ⟨rfl,rfl⟩
 clear HA
 go_wp2_with fail
 go_ret
 exact ⟨rfl,rfl⟩
theorem bl_eq (a b:ByteArray):(a.toList==b.toList)=decide (a=b):=by
 by_cases h:a=b
 ·subst h;simp
 ·have:a.toList≠b.toList:=fun e=>h (str_ext e)
  simp [h,this]
theorem lt_empty (a:ByteArray):Ord.lt a ByteArray.empty=false:=by
 rw [ltStr,tl_data,tl_data]
 show Op.bytesLess _ []=false
 cases a.data.toList<;>rfl
theorem geL_empty (V:Cv):geL ByteArray.empty V=V:=by
 unfold geL
 exact List.filter_eq_self.2 (fun p _=>by rw [lt_empty];rfl)
def Last (T:List En) (s:ByteArray):Prop:=(T= []∧s=ByteArray.empty)∨∃P e,T=P++ [e]∧s=fst e.n
theorem fst_ne (n:Nm):fst n≠ByteArray.empty:=fun h=>by
 have h1:=fst_size n
 rw [h] at h1
 have h0:ByteArray.empty.size=0:=rfl
 omega
section
variable {K:List Tk} {k:Tk} {T P:List En} {e:En}
theorem T_new (h:IsAll (fun n t=>(n,t)∈K) (T.map En.v)) (hk:∀x∈K,ltT x k=true) (hs:T= []∨∃P e,T=P++ [e]∧e.n≠k.1) (A':Option Addr) (c':Nat):IsAll (fun n t=>(n,t)∈K++ [k]) ((T++ [(⟨k.1,[]++ [k.2],A',c'⟩:En)]).map En.v):=by
 rcases hs with rfl| ⟨P,e,rfl,hn⟩
 ·have hK:K= []:=by
   cases K with
   |nil=>rfl
   |cons x t=>
    have:=(h.iff x.1 x.2).1 (by simp)
    simp at this
  subst hK
  exact IsAll.one
 ·have h':IsAll (fun n t=>(n,t)∈K) (P.map En.v++ [(e.n,e.l)]):=by simpa using h
  have:=h'.next hk hn
  simpa using this
theorem T_same (h:IsAll (fun n t=>(n,t)∈K) ((P++ [e]).map En.v)) (hk:∀x∈K,ltT x k=true) (hn:e.n=k.1) (A':Option Addr) (c':Nat):IsAll (fun n t=>(n,t)∈K++ [k]) ((P++ [(⟨e.n,e.l++ [k.2],A',c'⟩:En)]).map En.v):=by
 have h':IsAll (fun n t=>(n,t)∈K) (P.map En.v++ [(k.1,e.l)]):=by rw [←hn];simpa using h
 have:=h'.same hk
 rw [←hn] at this
 simpa using this
end
def JA (lo Bo Bw:Nat) (w0:World) (K:List Tk) (m:Nat) (W:World):Prop:=
 (∃T v s,CE lo Bo Bw w0 W T v v s∧IsAll (fun n t=>(n,t)∈K.take m) (T.map En.v)∧Last T s∧T.length≤m∧∀e∈T,e.l.length≤m)∧lo≤W.heap.size
theorem JA.post {lo Bo Bw:Nat} {w0 W W':World} {K:List Tk} {m:Nat} {T:List En} {v:Value} {s:ByteArray} {FP:List Nat} (H:RE lo Bo Bw w0 W W' T v v s) (h1:IsAll (fun n t=>(n,t)∈K.take (m+1)) (T.map En.v)) (h2:Last T s) (h3:T.length≤m+1) (h4:∀e∈T,e.l.length≤m+1) (hW:lo+2≤W.heap.size) (hF:∀b∈FP,b<lo∧b≠Bo∧b≠Bw):
  KeptR lo (lo+2+0) W W'∧W.heap.size≤W'.heap.size∧KeptL FP W W'∧JA lo Bo Bw w0 K (m+1) W':=by
 have hp:=H.p
 refine ⟨KeptR.of_fr H.k (by omega) ?_,H.k.size,KeptL.of_fr H.k (fun b hb=>⟨by have:=(hF b hb).1;omega,?_⟩),⟨T,v,s,H.toCE,h1,h2,h3,h4⟩,by have:=H.l;omega⟩
 ·rintro b hr (h|h|h)
  ·have:=hr.1;omega
  ·have:=hr.1;omega
  ·have:=hr.2;omega
 ·have:=hF b hb
  rintro (h|h|h)<;>omega
theorem flat_last (P:List En) (e:En):((P++ [e]).flatMap En.cs)[P.length*3+2]? =some e.sl:=by
 have hk:P.length<(P++ [e]).length:=by simp
 have h0:=flat_at (f:=En.cs) (sz:=3) (fun _=>rfl) hk (j:=2) (by omega)
 rw [h0];simp
theorem RE.mid {lo Bo Bw:Nat} {w0 wr W W1:World} {P:List En} {e:En} {g c:Nat} {o:Obj} {s:ByteArray} (H:RE lo Bo Bw w0 wr W (P++ [e]) (.slice (some ⟨g,0,none⟩) (P.length+1) c) (.slice (some ⟨g,0,none⟩) (P.length+1) c) s) (hg:(W.alloc o).grownBy W1 e.sl.ownBlock):
  W1.cell? ⟨g,P.length*3+2,none⟩=some e.sl∧W1.frozen? ⟨g,P.length*3+2,none⟩=false:=by
 have H1:=H.keep (Fr.alloc (fun _=>False) W o)
 have f1:Fr (fun b=>e.sl.ownBlock=some b) (W.alloc o) W1:=Fr.grown hg (S:=fun b=>e.sl.ownBlock=some b) (fun k h=>h)
 have o1:=ownsRow_fr H1.o f1 (fun b hb h=>blk_t H1.o (H1.t e (by simp)) b hb h)
 refine ⟨?_,?_⟩
 ·have h:=World.ownsRow.cells o1 (g:=g) rfl (P.length*3+2) e.sl (flat_last P e)
  have hadd:(⟨g,0,none⟩:Addr).add (P.length*3+2)=⟨g,P.length*3+2,none⟩:=by unfold Addr.add;split<;>simp_all
  rw [hadd] at h;exact h
 ·obtain ⟨_,_,cc,hb⟩:=ownsRow_blk o1 g rfl
  exact free_of_block hb _
theorem RE.lastc {lo Bo Bw:Nat} {w0 wr W:World} {P:List En} {e:En} {g c:Nat} {s:ByteArray} (H:RE lo Bo Bw w0 wr W (P++ [e]) (.slice (some ⟨g,0,none⟩) (P.length+1) c) (.slice (some ⟨g,0,none⟩) (P.length+1) c) s):W.cell? ⟨g,P.length*3+2,none⟩=some e.sl:=by
 have h:=World.ownsRow.cells H.o (g:=g) rfl (P.length*3+2) e.sl (flat_last P e)
 have hadd:(⟨g,0,none⟩:Addr).add (P.length*3+2)=⟨g,P.length*3+2,none⟩:=by unfold Addr.add;split<;>simp_all
 rw [hadd] at h;exact h
theorem own_last {w:World} {base:Nat} {P:List En} {e:En} {v:Value} {xs:List Value} (h:w.ownsRow base TE 3 v (P++ [e]).length xs):∃g c,v=.slice (some ⟨g,0,none⟩) (P.length+1) c:=by
 rw [List.length_append,List.length_singleton] at h
 obtain ⟨g,c,rfl⟩:=ownsRow_succ h
 exact ⟨g,c,rfl⟩
structure EL (w:World) (A:Option Addr) (c:Nat) (T:List En):Prop where
 s:Sl w 3 A T.length c (T.flatMap En.cs)
 b:∀e∈T,Sl w 1 e.A e.l.length e.c (ints e.l)
theorem EL.fr {w w':World} {A:Option Addr} {c:Nat} {T:List En} (H:EL w A c T) (hf:Fr (fun _=>False) w w'):EL w' A c T:=⟨H.s.fr hf (fun _ _ h=>h),fun e he=>(H.b e he).fr hf (fun _ _ h=>h)⟩
def AllPost (q:List Tk) (w:World) (e:Ending) (w':World):Prop:=∃T A c,e=.returned (.slice A T.length c)∧IsAll (fun n t=>(n,t)∈q) (T.map En.v)∧EL w' A c T∧Below w.heap.size w w'
attribute [local go_sem] Oper.semAt_some
theorem All (B:Nat) (q:List Tk) (M:List Nat) (w:World) (H:EV w B q M) (sz:q.length≤1000000):
  Calls prog 12 #[.pointer (some ⟨B,0,none⟩)] w (AllPost q w):=by
 obtain ⟨i0,hi,hz0,hz1_,hz2⟩:=info_parts infoI
 have HLt:Hid (∀b∈B::M,b<w.heap.size):=Lib.hid H.lt
 obtain ⟨V,hvm,hvg⟩:=H
 obtain ⟨K,hVK,hKs,hKz,hKq⟩:=hvg.keys
 have hKl:K.length=V.length:=by have:=congrArg List.length hVK;rw [List.length_map,List.length_map] at this;exact this.symm
 have hVl:=hvg.len
 have hMP:=hvm.mapP
 have HVK:=Lib.hid hVK;have HKs:=Lib.hid hKs;have HKz:=Lib.hid hKz;have HKq:=Lib.hid hKq
 have HFr:=fun w=>Lib.hid (from_ B ByteArray.empty w)
 clear hVK hKs hKz hKq hvm hvg
 refine (callsIn_wide (n:=3)).1 ?_
 refine callsIn_of_wp_marks func12 rfl trivial ?_ rfl
 simp only [ntmps12,List.size_toArray,List.length_cons,List.length_nil,Nat.reduceAdd,Nat.reduceSub,Array.replicate_succ,Array.replicate_zero,List.push_toArray,List.append_toArray,List.nil_append,List.cons_append]
 refine wpIn_wide.2 ?_
 go_wp2_with fail
 refine (HFr _).out.mono ?_
 rintro e w1 ⟨rfl,rfl⟩
 go_wp2_with fail
 have fa:=fun (w:World) (o:Obj)=>Fr.alloc (fun _=>False) w o
 have hs0:((((w.alloc (.cells #[.slice none 0 0] TEs)).alloc (.cells #[.string ⟨#[]⟩] TSt)).alloc (.cells #[.pointer (some ⟨B,0,none⟩)] 88)).alloc (.cells #[.string ByteArray.empty] TSt)).heap.size=w.heap.size+4:=by simp
 have bo:Bk ((((w.alloc (.cells #[.slice none 0 0] TEs)).alloc (.cells #[.string ⟨#[]⟩] TSt)).alloc (.cells #[.pointer (some ⟨B,0,none⟩)] 88)).alloc (.cells #[.string ByteArray.empty] TSt)) w.heap.size #[.slice none 0 0] TEs:=(((Bk.new w _ _).fr (fa _ _) (fun _ _ h=>h)).fr (fa _ _) (fun _ _ h=>h)).fr (fa _ _) (fun _ _ h=>h)
 have bw:Bk ((((w.alloc (.cells #[.slice none 0 0] TEs)).alloc (.cells #[.string ⟨#[]⟩] TSt)).alloc (.cells #[.pointer (some ⟨B,0,none⟩)] 88)).alloc (.cells #[.string ByteArray.empty] TSt)) (w.heap.size+1) #[.string ByteArray.empty] TSt:=by
  have:=Bk.new (w.alloc (.cells #[.slice none 0 0] TEs)) #[.string ⟨#[]⟩] TSt
  rw [World.size_alloc] at this
  exact (this.fr (fa _ _) (fun _ _ h=>h)).fr (fa _ _) (fun _ _ h=>h)
 have bm:Bk ((((w.alloc (.cells #[.slice none 0 0] TEs)).alloc (.cells #[.string ⟨#[]⟩] TSt)).alloc (.cells #[.pointer (some ⟨B,0,none⟩)] 88)).alloc (.cells #[.string ByteArray.empty] TSt)) (w.heap.size+2) #[.pointer (some ⟨B,0,none⟩)] 88:=by
  have:=Bk.new ((w.alloc (.cells #[.slice none 0 0] TEs)).alloc (.cells #[.string ⟨#[]⟩] TSt)) #[.pointer (some ⟨B,0,none⟩)] 88
  rw [World.size_alloc,World.size_alloc] at this
  exact this.fr (fa _ _) (fun _ _ h=>h)
 have bf:Bk ((((w.alloc (.cells #[.slice none 0 0] TEs)).alloc (.cells #[.string ⟨#[]⟩] TSt)).alloc (.cells #[.pointer (some ⟨B,0,none⟩)] 88)).alloc (.cells #[.string ByteArray.empty] TSt)) (w.heap.size+3) #[.string ByteArray.empty] TSt:=by
  have:=Bk.new (((w.alloc (.cells #[.slice none 0 0] TEs)).alloc (.cells #[.string ⟨#[]⟩] TSt)).alloc (.cells #[.pointer (some ⟨B,0,none⟩)] 88)) #[.string ByteArray.empty] TSt
  rw [World.size_alloc,World.size_alloc,World.size_alloc] at this
  exact this
 have hb0:Below w.heap.size w ((((w.alloc (.cells #[.slice none 0 0] TEs)).alloc (.cells #[.string ⟨#[]⟩] TSt)).alloc (.cells #[.pointer (some ⟨B,0,none⟩)] 88)).alloc (.cells #[.string ByteArray.empty] TSt)):=((((Below.refl _ w).alloc (Nat.le_refl _) _).alloc (by simp) _).alloc (by simp;omega) _).alloc (by simp;omega) _
 have hM0:=hMP.below hb0
 generalize ((((w.alloc (.cells #[.slice none 0 0] TEs)).alloc (.cells #[.string ⟨#[]⟩] TSt)).alloc (.cells #[.pointer (some ⟨B,0,none⟩)] 88)).alloc (.cells #[.string ByteArray.empty] TSt))=W0 at *
 have HS0:=Lib.hid hs0
 have HB0:=Lib.hid hb0
 have hseq:=AvlSI.From_seq ((w.heap.size+3)::M) (w.heap.size+2) (w.heap.size+3) ByteArray.empty (some ⟨B,0,none⟩) V M W0 (bm.cell 0) (by omega) (bf.cell 0) (by omega) (by simp) hM0 (fun b hb=>by simp [hb])
 rw [geL_empty] at hseq
 have HFP:Hid (∀b∈(w.heap.size+3)::M,b<W0.heap.size∧b≠w.heap.size∧b≠w.heap.size+1):=fun b hb=>by
  have:=HS0.out
  rcases List.mem_cons.1 hb with rfl|hb
  ·omega
  ·have:=HLt.out b (by simp [hb]);omega
 have HST:=Lib.hid (CE.start (w0:=w) bo bw HB0.out (lo:=W0.heap.size) (by omega))
 clear hs0 fa hMP HFr hb0 bm bf bo bw hM0
 simp only [Nat.add_assoc,Nat.reduceAdd]
 refine (wpIn_wide (n:=3)).1 ?_
 refine range_P' (n:=3) (a₁:=?fr) (gf:=72) (lb:= #[.pointer (some ⟨w.heap.size+2,0,none⟩),.pointer (some ⟨w.heap.size+3,0,none⟩)]) rfl (enters_of func72 (by kernel_rfl) rfl)
  hseq (fun b hb=>(HFP.out b hb).1) (fun _=>rfl)
  (fun (pre:Cv) (W:World)=>JA W0.heap.size w.heap.size (w.heap.size+1) w K pre.length W)
  (fun k (pre:Cv) (W:World)=>False)
  (fun pre A C h hf=>by
   obtain ⟨⟨T,v,s,h1,h2⟩,h3⟩:=h
   exact ⟨⟨T,v,s,h1.abide hf,h2⟩,Nat.le_trans h3 hf.size⟩)
  (fun k pre A C h hf=>h)
  ⟨⟨[],_,_,HST.out,by rw [List.length_nil,List.take_zero];exact IsAll.nil,.inl ⟨rfl,rfl⟩,Nat.le_refl _,by simp⟩,Nat.le_refl _⟩ ?assign ?body ?done ?stop
 case assign=>
  intro l m x W K hK
  gi_wp2
  exact hK
 case body=>
  rintro l m pre x W ⟨⟨T,v,s,hI,hT,hLa,hTl,hTe⟩,hsz0⟩ hsz hpre rfl ⟨r,hl⟩ hd
  (try dsimp only)
  have hlt:pre.length<V.length:=by have:=hpre.length_le;rw [List.length_append,List.length_singleton] at this;omega
  have hltK:pre.length<K.length:=by omega
  have hx:x.1=ek K[pre.length]:=by
   obtain ⟨t,ht⟩:=hpre
   have h1:V[pre.length]? =some x:=by rw [←ht];simp
   have h2:=congrArg (fun l=>l[pre.length]?) HVK.out
   simp only [List.getElem?_map,h1,List.getElem?_eq_getElem hltK,Option.map_some,Option.some.injEq] at h2
   exact h2
  have hKt:=List.take_succ_eq_append_getElem hltK
  have hlk:∀y∈K.take pre.length,ltT y K[pre.length]=true:=fun y hy=>by
   obtain ⟨j,hj,rfl⟩:=List.mem_iff_getElem.1 hy
   rw [List.getElem_take]
   rw [List.length_take] at hj
   exact List.pairwise_iff_getElem.1 HKs.out j pre.length (by omega) hltK (by omega)
  have hz:=HKz.out _ (List.getElem_mem hltK)
  have hsz2:W0.heap.size+2≤W.heap.size:=by have:=lt_of_heap hl;omega
  have hm:pre.length≤1000000:=by omega
  have HPost:Hid (∀ (W':World) (T':List En) (v':Value) (s':ByteArray),RE W0.heap.size w.heap.size (w.heap.size+1) w W W' T' v' v' s'→IsAll (fun n t=>(n,t)∈K.take pre.length++ [K[pre.length]]) (T'.map En.v)→Last T' s'→T'.length≤pre.length+1→(∀e∈T',e.l.length≤pre.length+1)→KeptR W0.heap.size (W0.heap.size+2+0) W W'∧W.heap.size≤W'.heap.size∧KeptL ((w.heap.size+3)::M) W W'∧JA W0.heap.size w.heap.size (w.heap.size+1) w K (pre++ [x]).length W'):=fun W' T' v' s' h1 h2 h3 h4 h5=>by
   rw [List.length_append,List.length_singleton]
   exact JA.post h1 (by rw [hKt];exact h2) h3 h4 h5 hsz2 HFP.out
  have HR:=Lib.hid (⟨hI,Fr.refl _ W,hsz2⟩:RE W0.heap.size w.heap.size (w.heap.size+1) w W W T v v s)
  have HT:=Lib.hid hT;have HTe:=Lib.hid hTe;have HLk:=Lib.hid hlk;have HL:=Lib.hid hl;have HD:=Lib.hid hd;have HLa:=Lib.hid hLa
  clear hI hT hTe hlk hl hd hpre hKt hseq HST hLa
  obtain ⟨xk,xm⟩:=x
  dsimp only at hx
  subst hx
  generalize K.take pre.length=Kp at *
  generalize K[pre.length]=k at *
  have HSp:=Lib.hid (fun W=>split_ k W hz.1.2.2 hz.2)
  have HS3:=Lib.hid (fun W=>Split_ k.1 hz.1 W)
  have HZ:=Lib.hid hz
  clear hz
  dsimp only
  gi_wp2_with fail
  refine ⟨trivial,fun h=>(by cases h),CallsIn.inRound _ (callsIn_wide.2 ?_)⟩
  refine (HSp.out _).mono ?_
  rintro e w2 ⟨rfl,hf⟩
  have HR2:=Lib.hid (HR.out.keep hf)
  clear hf HR HSp
  have cw:w2.cell? ⟨w.heap.size+1,0,none⟩=some (.string s):=HR2.out.bw.cell 0
  have e1:=bl_eq (fst k.1) s
  by_cases hs:fst k.1=s
  ·rw [decide_eq_true hs] at e1
   have HQ:Hid (∃P e,T=P++ [e]∧e.n=k.1):=by
    rcases HLa.out with ⟨-,h⟩| ⟨P,e,h1,h2⟩
    ·exact absurd (hs.trans h) (fst_ne _)
    ·exact ⟨P,e,h1,fst_inj HZ.out.1 (h2.symm.trans hs.symm)⟩
   have HSe:Hid (s=fst k.1):=hs.symm
   clear hs
   obtain ⟨P,e,hTP,hen⟩:=HQ.out
   have HEn:=Lib.hid hen
   subst hTP
   clear hen HQ HLa
   obtain ⟨g,cg,rfl⟩:=own_last HR2.out.o
   have cv:w2.cell? ⟨w.heap.size,0,none⟩=some (.slice (some ⟨g,0,none⟩) (P.length+1) cg):=HR2.out.b.cell 0
   have ct:=RE.lastc HR2.out
   have hsz2:=HR2.out.l
   have ho:=(HR2.out.t e (by simp)).alloc (.cells #[.int .i64 k.2] TI)
   have q1:(0:Int)≤(P.length:Int):=by omega
   have q2:(P.length:Int)<((P.length+1:Nat):Int):=by omega
   have q3:((P.length+1:Nat):Int)-1=(P.length:Int):=by omega
   have hel:e.l.length≤100000000:=by have:=HTe.out e (by simp);omega
   have hPl:P.length≤1000000:=by rw [List.length_append,List.length_singleton] at hTl;omega
   gi_wp2_with (gi_at_builtin;refine wpListIn_append_at _ rfl (.tmp 44) (.tmp 46) TIs rfl (W0.heap.size+2) TI i0 (.int .i64 0) 1 8 underlying44 hi hz0 hz1_ hz2 rfl (by decide) e.sl _ _ rfl ho ⟨w2.heap.size,0,none⟩ 1 1 [.int .i64 k.2] rfl rfl (new_cells w2 TI [.int .i64 k.2]) (by simp [Value.oneCell']) (by unfold maxLen;omega) (by omega) (by simp;omega) ?_)
   intro v' w9 hown hgrow hat
   obtain ⟨g',cap',rfl⟩:=ownsRow_succ hown
   obtain ⟨d1,d2⟩:=RE.mid HR2.out hgrow
   have HRz:=Lib.hid (RE.tr HR2.out hown hgrow (by rw [World.size_alloc];exact hat))
   clear hown hgrow hat ho cv ct
   gi_wp2_with fail
   refine HPost.out _ _ _ _ HRz.out (T_same HT.out HLk.out HEn.out _ _) (.inr ⟨P,_,rfl,by rw [HSe.out,←HEn.out]⟩) (by rw [List.length_append,List.length_singleton] at *;omega) (fun x hx=>?_)
   rcases List.mem_append.1 hx with hx|hx
   ·have:=HTe.out x (by simp [hx]);omega
   ·simp at hx;subst hx
    have:=HTe.out e (by simp)
    simp;omega
  ·rw [decide_eq_false hs] at e1
   have HQ:Hid (T= []∨∃P e,T=P++ [e]∧e.n≠k.1):=by
    rcases HLa.out with ⟨h,-⟩| ⟨P,e,h1,h2⟩
    ·exact .inl h
    ·exact .inr ⟨P,e,h1,fun h=>hs (by rw [h2,h])⟩
   clear hs HLa
   gi_wp2_with fail
   refine ⟨trivial,fun h=>(by cases h),CallsIn.inRound _ (callsIn_wide.2 ?_)⟩
   refine (HS3.out _).mono ?_
   rintro e w3 ⟨rfl,hb3,hf⟩
   have HX:Hid (RX W0.heap.size w.heap.size (w.heap.size+1) w W w3 T v v s w2.heap.size k.1):=⟨HR2.out.keep hf,hb3,by have:=HR2.out.l;have:=HS0.out;omega⟩
   generalize w2.heap.size=ba at HX ⊢
   clear hf hb3 HR2 HS3 cw
   gi_wp2_with fail
   refine al8 (by kernel_rfl) _ _ _ m W0.heap.size w.heap.size (w.heap.size+1) w w3 T v s ba k.1 (by omega) ⟨⟨HX.out.toCE,Fr.refl _ _,HX.out.l⟩,HX.out.sp,HX.out.bn⟩ rfl rfl rfl ?_
   intro xx w4 v4 hR
   simp only [Eng.setAll,Act.put,List.setIfInBounds_toArray,List.set_cons_succ,List.set_cons_zero]
   have HR4:=Lib.hid (⟨hR.toCE,HX.out.k.trans hR.k (fun _ _ h=>h) (fun _ _ h=>h),hR.l⟩:RE W0.heap.size w.heap.size (w.heap.size+1) w W w4 (T++ [En.new k.1]) v4 v4 s)
   clear hR HX
   have cw4:w4.cell? ⟨w.heap.size+1,0,none⟩=some (.string s):=HR4.out.bw.cell 0
   have fw4:w4.frozen? ⟨w.heap.size+1,0,none⟩=false:=HR4.out.bw.free 0
   have HR5:=Lib.hid (HR4.out.was (fst k.1))
   have cv4:w4.cell? ⟨w.heap.size,0,none⟩=some v4:=HR4.out.b.cell 0
   gi_upto_region 10 with (fail)
   clear cw4 fw4 cv4 HR4
   generalize (w4.setCell ⟨w.heap.size+1,0,none⟩ (.string (fst k.1)))=W5 at *
   have hlk2:(T++ [En.new k.1]).length≤pre.length+1:=by rw [List.length_append,List.length_singleton];omega
   obtain ⟨g,cg,rfl⟩:=own_last HR5.out.o
   have cv:W5.cell? ⟨w.heap.size,0,none⟩=some (.slice (some ⟨g,0,none⟩) (T.length+1) cg):=HR5.out.b.cell 0
   have ct:=RE.lastc HR5.out
   have hsz2:=HR5.out.l
   have ho:=(HR5.out.t (En.new k.1) (by simp)).alloc (.cells #[.int .i64 k.2] TI)
   have q1:(0:Int)≤(T.length:Int):=by omega
   have q2:(T.length:Int)<((T.length+1:Nat):Int):=by omega
   have q3:((T.length+1:Nat):Int)-1=(T.length:Int):=by omega
   have hel:(En.new k.1).l.length≤100000000:=by show (0:Nat)≤_;omega
   have hPl:T.length≤1000000:=by omega
   gi_wp2_with (gi_at_builtin;refine wpListIn_append_at _ rfl (.tmp 44) (.tmp 46) TIs rfl (W0.heap.size+2) TI i0 (.int .i64 0) 1 8 underlying44 hi hz0 hz1_ hz2 rfl (by decide) (En.new k.1).sl _ _ rfl ho ⟨W5.heap.size,0,none⟩ 1 1 [.int .i64 k.2] rfl rfl (new_cells W5 TI [.int .i64 k.2]) (by simp [Value.oneCell']) (by unfold maxLen;omega) (by omega) (by simp;omega) ?_)
   intro v' w9 hown hgrow hat
   obtain ⟨g',cap',rfl⟩:=ownsRow_succ hown
   obtain ⟨d1,d2⟩:=RE.mid HR5.out hgrow
   have HRz:=Lib.hid (RE.tr HR5.out hown hgrow (by rw [World.size_alloc];exact hat))
   clear hown hgrow hat ho cv ct
   gi_wp2_with fail
   refine HPost.out _ _ _ _ HRz.out (T_new HT.out HLk.out HQ.out _ _) (.inr ⟨T,_,rfl,rfl⟩) (by rw [List.length_append,List.length_singleton];omega) (fun x hx=>?_)
   rcases List.mem_append.1 hx with hx|hx
   ·have:=HTe.out x hx;omega
   ·simp at hx;subst hx;simp
 case done=>
  rintro W hsz ⟨⟨T,v,s,hI,hT,hLa,hTl,hTe⟩,hsz0⟩ hK
  rw [List.take_of_length_le (by omega)] at hT
  have cv:W.cell? ⟨w.heap.size,0,none⟩=some v:=hI.b.cell 0
  have HI:=Lib.hid hI;have HK:=Lib.hid hK;have HT:=Lib.hid hT
  clear hI hT hK hseq HST hLa hTe
  obtain ⟨A,cA,rfl,hSl,hA⟩:=Sl.of_own HI.out.o
  have HA:=Lib.hid hA;have HSl:=Lib.hid hSl
  clear hA hSl
  go_wp2_with fail
  try rw [Exit.noGoto_ret]
  refine ⟨by simp,.inl ⟨_,_,rfl,run_takeDeferred HK.out,?_⟩⟩
  have hs1:=HS0.out
  have hf:=Fr.putObj W W0.heap.size (.deferred none) (S:=(· =W0.heap.size)) rfl
  refine ⟨_,by simp [results,Tryz.results12,go_sem],T,A,cA,rfl,⟨HT.out.srt,HT.out.tr,fun n t=>by rw [←HKq.out (n,t)];exact HT.out.iff n t⟩,⟨HSl.out.fr hf (fun a ha e=>?_),fun e he=>?_⟩,HI.out.f.trans (hf.below HI.out.f.size (fun k hk e=>by omega))⟩
  ·have:=(HA.out a ha).1;omega
  ·obtain ⟨A',c',h1,h2,h3⟩:=Sl.of_own (HI.out.t e he)
   have hE:=h1
   injection hE with e1 e2 e3
   rw [e1,e3]
   exact h2.fr hf (fun a ha e'=>by have:=(h3 a ha).1;omega)
 case stop=>
  rintro k pre W hsz hpre h
  exact h.elim
end Ent
end Go.Proofs.YtdpngmgaomghoaaGreatDoor
