/- Numbers given from the last one to the first: the library's Backward. -/
import Derived.Test.YtgfjpnpbkkadpaaGreatQues
import Derived.Test.YtgfjpnpbkkadpaaGreatDrd1
import Derived.LoopIn
namespace Go.Proofs.YtgfjpnpbkkadpaaGreat
open Tryz
set_option maxRecDepth 100000
set_option maxHeartbeats 2000000
open Go.RowKit
namespace Wrk
attribute [local go_sem] Oper.semAt_some
def bw (l:List Int):List (Int × Int):=(l.zipIdx.map (fun p=>((p.2:Int),p.1))).reverse
theorem bw_len (l:List Int):(bw l).length=l.length:=by simp [bw]
theorem bw_at {l:List Int} {k:Nat} (hk:k<l.length):(bw l)[l.length-1-k]? =some ((k:Int),l[k]):=by
 unfold bw
 rw [List.getElem?_reverse (by simp;omega)]
 have e:(l.zipIdx.map (fun p=>((p.2:Int),p.1))).length-1-(l.length-1-k)=k:=by simp;omega
 rw [e,List.getElem?_map,List.getElem?_zipIdx]
 simp [hk]
theorem Backward_ (A:Option Addr) (n c:Nat) (w:World):Calls prog 146 #[.slice A n c] w fun e w'=>e=.returned (.func (.func 196) #[] #[.pointer (some ⟨w.heap.size,0,none⟩)])∧w'=w.alloc (.cells #[.slice A n c] TIs):=by
 go_enter func146,ntmps146
 go_wp2_with fail
 go_ret
 exact ⟨rfl,rfl⟩
theorem Backward_seq (l:List Int) (A:Option Addr) (c Bs:Nat) (FP:List Nat) (w:World) (hb:Bk w Bs #[.slice A l.length c] TIs) (hS:Sl w 1 A l.length c (ints l)) (hBs:Bs∈FP) (hA:∀a,A=some a→a.block∈FP) (hAl:∀a,A=some a→a.block<w.heap.size):
  SeqP prog 196 #[.pointer (some ⟨Bs,0,none⟩)] (fun p:Int × Int=> #[.int .i64 p.1,.int .i64 p.2]) FP 0 (bw l) w:=by
 intro n l0 J Jx W hW hJ hJx hY h0
 have hfw:=Fr.of_below' hW (fun _=>False)
 have HB:=Lib.hid (hb.fr hfw (fun _ _ h=>h));have HS:=Lib.hid (hS.fr hfw (fun _ _ h=>h));have HY:=Lib.hid hY;have H0:=Lib.hid h0;have HA:=Lib.hid hA
 have hl9:l.length≤9223372036854775807:=by have:=hS.2.1;have:=hS.2.2.1;unfold maxLen at this;omega
 have HL9:=Lib.hid hl9
 have cb:=HB.out.cell 0
 simp only [List.getElem?_toArray,List.getElem?_cons_zero] at cb
 clear hb hS hY h0 hA hAl hfw hW hJ hJx
 refine callsIn_of_wp func196 rfl trivial ?_ rfl
 simp only [ntmps196,List.size_toArray,List.length_cons,List.length_nil,Nat.reduceAdd,Nat.reduceSub,Array.replicate_succ,Array.replicate_zero,List.push_toArray,List.append_toArray,List.nil_append,List.cons_append]
 have q0:IntKind.i64.wrap ((l.length:Int)-1)=(l.length:Int)-1:=by rw [IntKind.wrap_i64];omega
 gi_wp2_with fail
 clear q0 cb
 gi_loopw [3] (fun i wr=>∃k:Nat,k≤l.length∧i=.int .i64 ((k:Int)-1)∧J ((bw l).take (l.length-k)) wr∧KeptL FP W wr∧W.heap.size≤wr.heap.size) (fun i _=>(intOf i+1).toNat)
 case atStart=>exact ⟨l.length,Nat.le_refl _,rfl,by simpa using H0.out,KeptL.refl _ _,Nat.le_refl _⟩
 case round=>
  obtain ⟨k,hk,rfl,hJs,hkl,hsz⟩:=hrel
  have HJs:=Lib.hid hJs;have HKl:=Lib.hid hkl;have HSz:=Lib.hid hsz
  clear hJs hkl hsz
  cases k with
  |zero=>
   have q1:decide (((0:Nat):Int)-1≥0)=false:=by decide
   gi_wp2_with fail
   go_end0
   exact ⟨⟨_,rfl⟩,HSz.out,.inl (by have:=HJs.out;rw [Nat.sub_zero,List.take_of_length_le (by rw [bw_len];omega)] at this;exact this)⟩
  |succ k=>
   have hlt:k<l.length:=by omega
   rw [show ((k+1:Nat):Int)-1=(k:Int) by omega]
   have HBr:Hid (wr.heap[Bs]? =W.heap[Bs]?):=HKl.out Bs hBs
   have hcb:wr.cell? ⟨Bs,0,none⟩=some (.slice A l.length c):=by
    have:Bk wr Bs #[.slice A l.length c] TIs:=HBr.out.trans HB.out
    exact this.cell 0
   have hS2:Sl wr 1 A l.length c (ints l):=HS.out.keep (fun a ha=>HKl.out _ (HA.out a ha))
   obtain ⟨b1,o1,rfl,-,c1⟩:=hS2.at hlt (by omega)
   have d1:wr.cell? ⟨b1,o1+k,none⟩=some (.int .i64 l[k]):=c1 k _ (ints_at hlt)
   clear hS2 c1
   have hat:=bw_at hlt
   have hpre:(bw l).take (l.length-(k+1))++ [((k:Int),l[k])]<+:bw l:=by
    have e:(bw l).take (l.length-(k+1))++ [((k:Int),l[k])]=(bw l).take (l.length-k):=by
     rw [show l.length-k=(l.length-1-k)+1 by omega,List.take_add_one,hat,show l.length-(k+1)=l.length-1-k by omega];rfl
    rw [e];exact List.take_prefix _ _
   have HE:Hid ((bw l).take (l.length-(k+1))++ [((k:Int),l[k])]=(bw l).take (l.length-k)):=by
    show _=_
    rw [show l.length-k=(l.length-1-k)+1 by omega,List.take_add_one,hat,show l.length-(k+1)=l.length-1-k by omega];rfl
   have hyy:=fun m=>HY.out m _ _ wr HJs.out (by have:=HSz.out;omega) hpre
   have q1:decide ((k:Int)≥0)=true:=by simp
   have q2:(0:Int)≤(k:Int):=by omega
   have q3:(k:Int)<(l.length:Int):=by omega
   have q4:IntKind.i64.wrap ((k:Int)-1)=(k:Int)-1:=by rw [IntKind.wrap_i64];have:=HL9.out;omega
   generalize l[k]=x at *
   have HYy:=Lib.hid hyy
   clear hyy hat hpre
   obtain ⟨fn,tmps,assign,body,hy,hR⟩:=HYy.out (n-1)
   gi_wp2_with fail
   refine ⟨fun h=>(by cases h),?_⟩
   refine hR.mono ?_
   rintro e W3 (⟨rfl,hJ3,hk3,-,hs3⟩| ⟨rfl,hJx3,-,hs3⟩)
   ·have HJ3:=Lib.hid hJ3;have HK3:=Lib.hid (HKl.out.trans hk3);have HS3:Hid (W.heap.size≤W3.heap.size):=Nat.le_trans HSz.out hs3
    clear hJ3 hk3 hs3 hR hy d1 hcb
    gi_wp2_with fail
    go_roundw
    case rel=>exact ⟨k,by omega,rfl,by have:=HJ3.out;rwa [HE.out] at this,HK3.out,HS3.out⟩
    case measure=>first| (simp [intOf];done)| (simp [intOf];omega)
   ·have HJx3:Hid (∃pre,pre<+:bw l∧Jx pre W3):=⟨_,by rw [HE.out];exact List.take_prefix _ _,hJx3⟩
    have HS3:Hid (W.heap.size≤W3.heap.size):=Nat.le_trans HSz.out hs3
    clear hJx3 hs3 hR hy d1 hcb
    gi_wp2_with fail
    refine bodyPost_ret (results_none rfl _ _ _) rfl ?_
    exact ⟨⟨_,rfl⟩,HS3.out,.inr HJx3.out⟩
end Wrk
namespace Wrk
open KeyP SetP KidsP Cls KdO Fst Drd
attribute [local go_sem] Eng.ev Eng.getO_cons Eng.getO_nil
abbrev TSh:TypeId:=80
abbrev TPls:TypeId:=78
abbrev pcs (l:List Pq):List Value:=l.flatMap Pq.cs
abbrev zP:Value:=.agg #[.int .i64 0,.int .i64 0,.int .i64 0,.int .i64 0,.int .i64 0,.int .i64 0]
theorem infoP:(prog.info? TPl).map (fun i=>(i.zero,i.size,i.bytes))=some (some zP,6,48):=by kernel_rfl
theorem wpListIn_append_at {F:Fence} {n:Nat} {P:Program} (w:World) {ops:Array Oper} {rest:List Oper} {o:Oper} {a:Act} {Q:Exit→Act→World→Prop}
  (hg:o.guard=none) (s x:Operand) (t:TypeId) (hop:o.op=Op.call { callee:=Callee.builtin Builtin.append,args:= #[s,x],argTypes:= #[t,t] })
  (base:Nat) (e:TypeId) (i:TypeInfo) (z:Value) (size bytes:Nat) (h1:P.underlying t=some (.slice e)) (h2:P.info? e=some i) (h3:i.zero=some z) (h4:i.size=size) (h5:i.bytes=bytes) (h6:z.cells.size=size) (h7:0<size)
  (v:Value) (k:Nat) (xs:List Value) (hs:a.eval s=v) (hown:w.ownsRow base e size v k xs) (ad:Addr) (m c:Nat) (news:List Value) (hx:a.eval x=.slice (some ad) m c) (hn:news.length=m*size)
  (hc:∀j u,news[j]? =some u→w.cell? (ad.add j)=some u) (h1c:∀u∈news,u.oneCell'=true) (b1:k+m≤maxLen) (b2:(k+m)*bytes≤140737488355328) (b3:base≤w.heap.size)
  (hK:∀v' w',w'.ownsRow base e size v' (k+m) (xs++news)→w.grownBy w' v.ownBlock→(v'.ownBlock=v.ownBlock∨v'.ownBlock=some w.heap.size)→wpListIn F n P ops Q rest (a.put o.dst v') w'):
  wpListIn F n P ops Q (o::rest) a w:=by
 refine wpListIn_plain hg fun K hK'=>?_
 obtain ⟨v',w',hrun,r1,r2,-,r3⟩:=run_append_own_at (P:=P) w base t o.type e i z size bytes h1 h2 h3 h4 h5 h6 h7 v k xs hown ad m c news hn hc h1c b1 b2 b3
 unfold Oper.wpIn
 refine ⟨?_,?_⟩
 ·simp [Oper.about,hop,resolve,Target.leads,Sem.run_pure]
 ·rw [Oper.semAt_plain F _ _ (by rw [hop];intro c hc';cases hc')]
  simp [execOp,hop,resolve,invoke,builtin,hs,hx,hrun,Result.andThen]
  exact hK' _ _ (hK v' w' r1 r2 r3)
theorem new_cs (w:World) (p:Pq):∀j u,p.cs[j]? =some u→(w.alloc (.cells p.arr TPl)).cell? ((⟨w.heap.size,0,none⟩:Addr).add j)=some u:=by
 intro j u hj
 have:=(Sl.one w TPl p.cs 6 rfl).at (i:=0) (by omega) (by omega)
 obtain ⟨b,o,hb,-,hc⟩:=this
 cases hb
 have h:=hc j u (by simpa using hj)
 have hadd:(⟨w.heap.size,0,none⟩:Addr).add j=⟨w.heap.size,0+j,none⟩:=by unfold Addr.add;split<;>simp_all
 rw [hadd];exact h
def eqP (a b:Pq):Bool:=decide (a.t=b.t∧a.i=b.i∧a.c=b.c∧a.d=b.d∧a.p=b.p∧a.f=b.f)
theorem eqP_iff {a b:Pq}:eqP a b=true↔a=b:=by
 cases a;cases b;simp [eqP]
theorem eql_pc (t i c d p f t' i' c' d' p' f':Int) (w:World):(binOp .eql TPl (.agg #[.int .i64 t,.int .i64 i,.int .i64 c,.int .i64 d,.int .i64 p,.int .i64 f]) (.agg #[.int .i64 t',.int .i64 i',.int .i64 c',.int .i64 d',.int .i64 p',.int .i64 f'])).run prog w=.ok (.bool (eqP ⟨t,i,c,d,p,f⟩ ⟨t',i',c',d',p',f'⟩)) w:=by
 unfold eqP
 have hS:prog.underlying TPl=some (.struct (prog.fieldsOf TPl)):=by kernel_rfl
 have hp:prog.stoodInHeld TPl=false:=by kernel_rfl
 rw [run_eql_struct,show (10000:Nat)=9999+1 from rfl,run_equalIn_agg w 9999 TPl _ _ hS hp]
 simp only [Program.fieldsOf,underlying91]
 go_simp
 clear hS hp
 (repeat' split)<;>simp_all
structure C2p (n0 lo Bd:Nat) (w0 W:World) (P Q:List Pq) (v1 v2:Value):Prop where
 b:Bk W Bd #[v1,v2] TSh
 o1:W.ownsRow n0 TPl 6 v1 P.length (P.flatMap Pq.cs)
 o2:W.ownsRow n0 TPl 6 v2 Q.length (Q.flatMap Pq.cs)
 ne:∀b,v1.ownBlock=some b→v2.ownBlock≠some b
 bel:Below n0 w0 W
 out1:∀b,v1.ownBlock=some b→b<lo∨lo+2≤b
 out2:∀b,v2.ownBlock=some b→b<lo∨lo+2≤b
theorem C2p.abide {n0 lo Bd:Nat} {w0 A B:World} {P Q:List Pq} {v1 v2:Value} (h:C2p n0 lo Bd w0 A P Q v1 v2) (hf:Fr (Rg lo (lo+2)) A B) (hn:n0≤lo) (hd:Bd<lo) (hs:n0≤A.heap.size):C2p n0 lo Bd w0 B P Q v1 v2:=
 ⟨h.b.fr hf (fun k hk e=>by simp at hk;subst hk;have:=e.1;omega),ownsRow_fr h.o1 hf (fun b hb e=>by have:=h.out1 b hb;have:=e.1;have:=e.2;omega),ownsRow_fr h.o2 hf (fun b hb e=>by have:=h.out2 b hb;have:=e.1;have:=e.2;omega),h.ne,
  h.bel.trans (hf.below hs (fun k hk e=>by have:=e.1;omega)),h.out1,h.out2⟩
theorem C2p.keep {n0 lo Bd:Nat} {w0 A B:World} {P Q:List Pq} {v1 v2:Value} (h:C2p n0 lo Bd w0 A P Q v1 v2) (hf:Fr (fun _=>False) A B) (hs:n0≤A.heap.size):C2p n0 lo Bd w0 B P Q v1 v2:=
 ⟨h.b.fr hf (fun _ _ h=>h),ownsRow_fr h.o1 hf (fun _ _ h=>h),ownsRow_fr h.o2 hf (fun _ _ h=>h),h.ne,h.bel.trans (hf.below hs (fun _ _ h=>h)),h.out1,h.out2⟩
theorem C2p.ne1 {n0 lo Bd:Nat} {w0 A:World} {P Q:List Pq} {v1 v2:Value} (h:C2p n0 lo Bd w0 A P Q v1 v2):∀b,v1.ownBlock=some b→b≠Bd:=fun b hb e=>by
 obtain ⟨_,_,c,hc⟩:=ownsRow_blk h.o1 b hb
 rw [e,show A.heap[Bd]? =_ from h.b] at hc
 cases hc
theorem C2p.ne2 {n0 lo Bd:Nat} {w0 A:World} {P Q:List Pq} {v1 v2:Value} (h:C2p n0 lo Bd w0 A P Q v1 v2):∀b,v2.ownBlock=some b→b≠Bd:=fun b hb e=>by
 obtain ⟨_,_,c,hc⟩:=ownsRow_blk h.o2 b hb
 rw [e,show A.heap[Bd]? =_ from h.b] at hc
 cases hc
theorem C2p.step1 {n0 lo Bd:Nat} {w0 W w1:World} {P Q:List Pq} {v1 v2 v':Value} {o:Obj} {y:Pq} (h:C2p n0 lo Bd w0 W P Q v1 v2) (hn:n0≤W.heap.size) (hlo:lo+2≤W.heap.size) (hBd:n0≤Bd)
  (hown:w1.ownsRow n0 TPl 6 v' (P.length+1) (P.flatMap Pq.cs++Pq.cs y)) (hg:(W.alloc o).grownBy w1 v1.ownBlock) (hv:v'.ownBlock=v1.ownBlock∨v'.ownBlock=some (W.alloc o).heap.size):
  C2p n0 lo Bd w0 (w1.setCell ⟨Bd,0,none⟩ v') (P++ [y]) Q v' v2∧Fr (fun b=>b=Bd∨v1.ownBlock=some b) W (w1.setCell ⟨Bd,0,none⟩ v')∧Bk w1 Bd #[v1,v2] TSh:=by
 have f1:Fr (fun b=>v1.ownBlock=some b) W w1:=(Fr.alloc (fun _=>False) W o).trans (Fr.grown hg (S:=fun b=>v1.ownBlock=some b) (fun k h=>h)) (fun _ _ h=>h.elim) (fun _ _ h=>h)
 have hb1:Bk w1 Bd #[v1,v2] TSh:=h.b.fr f1 (fun b hb e=>by simp at hb;subst hb;exact h.ne1 b e rfl)
 have ne':∀b,v'.ownBlock=some b→b≠Bd:=fun b hb e=>by
  obtain ⟨_,_,c,hc⟩:=ownsRow_blk hown b hb
  rw [e,show w1.heap[Bd]? =_ from hb1] at hc
  cases hc
 have f2:=Fr.setCell w1 ⟨Bd,0,none⟩ v' (S:=(· =Bd)) rfl
 have f3:Fr (fun b=>b=Bd∨v1.ownBlock=some b) W (w1.setCell ⟨Bd,0,none⟩ v'):=f1.trans f2 (fun _ _ h=>.inr h) (fun _ _ h=>.inl h)
 have sz:(W.alloc o).heap.size=W.heap.size+1:=by simp
 have other:∀b,v2.ownBlock=some b→v'.ownBlock≠some b:=fun b hb e=>by
  rcases hv with hv|hv
  ·rw [hv] at e;exact h.ne b e hb
  ·rw [e] at hv;have:=(ownsRow_blk h.o2 b hb).2.1;have:=Option.some.inj hv;omega
 have hc:=hb1.set 0 v'
 refine ⟨⟨by simpa using hc,by rw [List.length_append,List.length_singleton,List.flatMap_append];simpa using ownsRow_fr hown f2 ne',ownsRow_fr h.o2 f3 (fun b hb e=>by rcases e with e|e;exact h.ne2 b hb e;exact h.ne b e hb),fun b hb e=>other b e hb,h.bel.trans (f3.below hn ?_),fun b hb=>by rcases hv with hv|hv;exact h.out1 b (hv▸hb);rw [hb] at hv;have:=Option.some.inj hv;omega,h.out2⟩,f3,hb1⟩
 rintro i hi (e|e)
 ·omega
 ·have:=(ownsRow_blk h.o1 i e).1;omega
theorem C2p.step2 {n0 lo Bd:Nat} {w0 W w1:World} {P Q:List Pq} {v1 v2 v':Value} {o:Obj} {y:Pq} (h:C2p n0 lo Bd w0 W P Q v1 v2) (hn:n0≤W.heap.size) (hlo:lo+2≤W.heap.size) (hBd:n0≤Bd)
  (hown:w1.ownsRow n0 TPl 6 v' (Q.length+1) (Q.flatMap Pq.cs++Pq.cs y)) (hg:(W.alloc o).grownBy w1 v2.ownBlock) (hv:v'.ownBlock=v2.ownBlock∨v'.ownBlock=some (W.alloc o).heap.size):
  C2p n0 lo Bd w0 (w1.setCell ⟨Bd,1,none⟩ v') P (Q++ [y]) v1 v'∧Fr (fun b=>b=Bd∨v2.ownBlock=some b) W (w1.setCell ⟨Bd,1,none⟩ v')∧Bk w1 Bd #[v1,v2] TSh:=by
 have f1:Fr (fun b=>v2.ownBlock=some b) W w1:=(Fr.alloc (fun _=>False) W o).trans (Fr.grown hg (S:=fun b=>v2.ownBlock=some b) (fun k h=>h)) (fun _ _ h=>h.elim) (fun _ _ h=>h)
 have hb1:Bk w1 Bd #[v1,v2] TSh:=h.b.fr f1 (fun b hb e=>by simp at hb;subst hb;exact h.ne2 b e rfl)
 have ne':∀b,v'.ownBlock=some b→b≠Bd:=fun b hb e=>by
  obtain ⟨_,_,c,hc⟩:=ownsRow_blk hown b hb
  rw [e,show w1.heap[Bd]? =_ from hb1] at hc
  cases hc
 have f2:=Fr.setCell w1 ⟨Bd,1,none⟩ v' (S:=(· =Bd)) rfl
 have f3:Fr (fun b=>b=Bd∨v2.ownBlock=some b) W (w1.setCell ⟨Bd,1,none⟩ v'):=f1.trans f2 (fun _ _ h=>.inr h) (fun _ _ h=>.inl h)
 have sz:(W.alloc o).heap.size=W.heap.size+1:=by simp
 have other:∀b,v1.ownBlock=some b→v'.ownBlock≠some b:=fun b hb e=>by
  rcases hv with hv|hv
  ·rw [hv] at e;exact h.ne b hb e
  ·rw [e] at hv;have:=(ownsRow_blk h.o1 b hb).2.1;have:=Option.some.inj hv;omega
 have hc:=hb1.set 1 v'
 refine ⟨⟨by simpa using hc,ownsRow_fr h.o1 f3 (fun b hb e=>by rcases e with e|e;exact h.ne1 b hb e;exact h.ne b hb e),by rw [List.length_append,List.length_singleton,List.flatMap_append];simpa using ownsRow_fr hown f2 ne',fun b hb=>other b hb,h.bel.trans (f3.below hn ?_),h.out1,fun b hb=>by rcases hv with hv|hv;exact h.out2 b (hv▸hb);rw [hb] at hv;have:=Option.some.inj hv;omega⟩,f3,hb1⟩
 rintro i hi (e|e)
 ·omega
 ·have:=(ownsRow_blk h.o2 i e).1;omega
end Wrk
end Go.Proofs.YtgfjpnpbkkadpaaGreat
