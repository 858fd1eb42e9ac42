/- The document's operations: Of, One, Same. -/
import Derived.Test.YtdpngmgaomghoaaGreatRef26s
namespace Go.Proofs.YtdpngmgaomghoaaGreat
open Tryz
set_option maxRecDepth 100000
set_option maxHeartbeats 1000000
open Go.RowKit
namespace Rf26
open BagP HistP OpsP KeyP PackP SetP SetW SetF Sli Name Pack Delta ClsW
open Ops (TO TOs infoO Tl OL opc AllPost rc mays applyR)
attribute [local go_sem] Eng.ev Eng.getO_cons Eng.getO_nil
theorem One (e f:Tl) (w:World) (he:Sl w 2 e.A e.x.1.length e.c (e.x.1.flatMap Bag.pc)) (hf:Sl w 2 f.A f.x.1.length f.c (f.x.1.flatMap Bag.pc)) (hv:e.v=f.v):
  Calls prog 38 #[.agg #[.string e.n.1,.string e.n.2,.int .i64 (sumL e.x.1),.int .i64 e.x.2.1,.int .i64 e.x.2.2,.slice e.A e.x.1.length e.c],.agg #[.string f.n.1,.string f.n.2,.int .i64 (sumL f.x.1),.int .i64 f.x.2.1,.int .i64 f.x.2.2,.slice f.A f.x.1.length f.c]] w fun r w'=>r=.returned (.bool true)∧Fr (fun _=>False) w w':=by
 obtain ⟨n,x,A,c⟩:=e
 obtain ⟨n',x',B,d⟩:=f
 obtain ⟨rfl,rfl⟩:n=n'∧x=x':=Prod.mk.inj hv
 obtain ⟨s,o⟩:=n
 obtain ⟨l,t,m⟩:=x
 dsimp only at he hf ⊢
 have f1:=(Fr.alloc (fun _=>False) w (.cells #[.string s,.string o,.int .i64 (sumL l),.int .i64 t,.int .i64 m,.slice A l.length c] TO)).to (Fr.alloc (fun _=>False) (w.alloc (.cells #[.string s,.string o,.int .i64 (sumL l),.int .i64 t,.int .i64 m,.slice A l.length c] TO)) (.cells #[.string s,.string o,.int .i64 (sumL l),.int .i64 t,.int .i64 m,.slice B l.length d] TO))
 have HS:=Lib.hid (Ref13.Same A B c d l l _ _ _ rfl rfl (he.fr f1 (fun _ _ h=>h)) (hf.fr f1 (fun _ _ h=>h)) rfl)
 have HF:=Lib.hid f1
 clear he hf f1 hv
 go_enter func38,ntmps38
 go_wp2_with fail
 refine HS.out.mono ?_
 rintro r w2 ⟨rfl,hf2⟩
 go_wp2_with fail
 go_ret
 exact ⟨rfl,HF.out.to hf2⟩
theorem cellK {w w':World} {b o:Nat} {v:Value} (h:w.cell? ⟨b,o,none⟩=some v) (hf:Fr (fun _=>False) w w'):w'.cell? ⟨b,o,none⟩=some v:=
 (World.cell?_of_block (w:=w) (a:=⟨b,o,none⟩) (hf.block b (World.block_lt_of_cell? w ⟨b,o,none⟩ h) (fun h=>h))).trans h
structure S2 (w0 w:World) (b1 p1 b2 p2:Nat) (e f:Tl):Prop where
 a:∀j u,e.cs[j]? =some u→w.cell? ⟨b1,p1+j,none⟩=some u
 b:∀j u,f.cs[j]? =some u→w.cell? ⟨b2,p2+j,none⟩=some u
 s:Sl w 2 e.A e.x.1.length e.c (e.x.1.flatMap Bag.pc)
 t:Sl w 2 f.A f.x.1.length f.c (f.x.1.flatMap Bag.pc)
 f:Fr (fun _=>False) w0 w
theorem S2.fr {w0 w w':World} {b1 p1 b2 p2:Nat} {e f:Tl} (H:S2 w0 w b1 p1 b2 p2 e f) (hf:Fr (fun _=>False) w w'):S2 w0 w' b1 p1 b2 p2 e f:=
 ⟨fun j u hu=>cellK (H.a j u hu) hf,fun j u hu=>cellK (H.b j u hu) hf,H.s.fr hf (fun _ _ h=>h),H.t.fr hf (fun _ _ h=>h),H.f.to hf⟩
theorem sm6 {ops:Array Oper} (hops:Eng.fnOps Tryz.f27 6=ops) (a0:Act) (Q:Exit→Act→World→Prop) (w0 w:World) (b1 o1 c1 b2 o2 c2 len k:Nat) (e f:Tl) (hv:e.v=f.v) (hk:k<len) (hst:S2 w0 w b1 (o1+k*6) b2 (o2+k*6) e f)
  (hn:a0.tmps.size=33) (h_0:a0.tmps.getD 0 undef=.slice (some ⟨b1,o1,none⟩) len c1) (h_1:a0.tmps.getD 1 undef=.slice (some ⟨b2,o2,none⟩) len c2) (h_5:a0.tmps.getD 5 undef=.int .i64 (k:Int))
  (hpost:∀ (x:Nat→Value) (w':World),x 32=.bool false→Fr (fun _=>False) w0 w'→Q .normal (Eng.setAll a0 [23,24,25,26,27,28,29,30,31,32] x) w'):
  (Code.region 6 ops true).wp prog Q a0 w:=by
 simp only [Eng.fnOps,Eng.regOps,Tryz.f27,Option.bind_some,Option.getD_some,Nat.reduceEqDiff,↓reduceIte] at hops
 subst hops
 have q1:(0:Int)≤(k:Int):=by omega
 have q2:(k:Int)<(len:Int):=by omega
 have HSt:=Lib.hid (hst.fr (Fr.drew _ _))
 refine Eng.regionT (.take 0 (.take 1 (.take 2 (.take 3 (.take 4 (.take 5 (.take 6 (.take 7 (.alt 8 (.take 9 (.done)) (.stop)))))))))) (fun w'=>w'.cell? ⟨b1,o1+k*6,none⟩=some (.string e.n.1)∧w'.cell? ⟨b1,o1+k*6+1,none⟩=some (.string e.n.2)∧w'.cell? ⟨b1,o1+k*6+1+1,none⟩=some (.int .i64 (sumL e.x.1))∧w'.cell? ⟨b1,o1+k*6+1+1+1,none⟩=some (.int .i64 e.x.2.1)∧w'.cell? ⟨b1,o1+k*6+1+1+1+1,none⟩=some (.int .i64 e.x.2.2)∧w'.cell? ⟨b1,o1+k*6+1+1+1+1+1,none⟩=some (.slice e.A e.x.1.length e.c)∧w'.cell? ⟨b2,o2+k*6,none⟩=some (.string f.n.1)∧w'.cell? ⟨b2,o2+k*6+1,none⟩=some (.string f.n.2)∧w'.cell? ⟨b2,o2+k*6+1+1,none⟩=some (.int .i64 (sumL f.x.1))∧w'.cell? ⟨b2,o2+k*6+1+1+1,none⟩=some (.int .i64 f.x.2.1)∧w'.cell? ⟨b2,o2+k*6+1+1+1+1,none⟩=some (.int .i64 f.x.2.2)∧w'.cell? ⟨b2,o2+k*6+1+1+1+1+1,none⟩=some (.slice f.A f.x.1.length f.c)) (by kernel_rfl) 33 hn (by kernel_rfl) (by kernel_rfl) (by kernel_rfl) (⟨HSt.out.a 0 _ rfl,HSt.out.a 1 _ rfl,HSt.out.a 2 _ rfl,HSt.out.a 3 _ rfl,HSt.out.a 4 _ rfl,HSt.out.a 5 _ rfl,HSt.out.b 0 _ rfl,HSt.out.b 1 _ rfl,HSt.out.b 2 _ rfl,HSt.out.b 3 _ rfl,HSt.out.b 4 _ rfl,HSt.out.b 5 _ rfl⟩) (fun a b ha hb=>?_)
 subst ha
 have hb0:b 0=.slice (some ⟨b1,o1,none⟩) len c1:=(hb 0).symm.trans h_0
 have hb1:b 1=.slice (some ⟨b2,o2,none⟩) len c2:=(hb 1).symm.trans h_1
 have hb5:b 5=.int .i64 (k:Int):=(hb 5).symm.trans h_5
 clear hb h_0 h_1 h_5
 have HP:=Lib.hid hpost;have HN:=Lib.hid hn
 clear hpost hn
 iterate 8 (refine Eng.TW.tk ?_)
 refine Eng.TW.call rfl rfl (by decide) (by kernel_rfl) ?_ (One e f _ HSt.out.s HSt.out.t hv) ?_
 ·go_simp
 rintro e w2 ⟨rfl,hf⟩
 have HSt2:=Lib.hid (HSt.out.fr hf)
 clear hf
 refine ⟨_,rfl,⟨HSt2.out.a 0 _ rfl,HSt2.out.a 1 _ rfl,HSt2.out.a 2 _ rfl,HSt2.out.a 3 _ rfl,HSt2.out.a 4 _ rfl,HSt2.out.a 5 _ rfl,HSt2.out.b 0 _ rfl,HSt2.out.b 1 _ rfl,HSt2.out.b 2 _ rfl,HSt2.out.b 3 _ rfl,HSt2.out.b 4 _ rfl,HSt2.out.b 5 _ rfl⟩,?_⟩
 refine Eng.TW.tk ?_
 refine Eng.TW.end_ [23,24,25,26,27,28,29,30,31,32] HN.out (by kernel_rfl) (by kernel_rfl) ?_
 exact HP.out _ _ rfl HSt2.out.f
theorem Same {A B:Option Addr} {c d:Nat} {T U:List Tl} {w:World} (h1:Sl w 6 A T.length c (T.flatMap Tl.cs)) (h2:Sl w 6 B U.length d (U.flatMap Tl.cs)) (b1:∀e∈T,Sl w 2 e.A e.x.1.length e.c (e.x.1.flatMap Bag.pc)) (b2:∀e∈U,Sl w 2 e.A e.x.1.length e.c (e.x.1.flatMap Bag.pc)) (hv:T.map Tl.v=U.map Tl.v) (lT:T.length≤1000000000):
  Calls prog 27 #[.slice A T.length c,.slice B U.length d] w fun e w'=>e=.returned (.bool true)∧Fr (fun _=>False) w w':=by
 have hl:U.length=T.length:=by have:=congrArg List.length hv;simpa using this.symm
 have HV:Hid (∀ (k:Nat) (h:k<T.length) (h':k<U.length),T[k].v=U[k].v):=fun k h h'=>by
  have h3:(T.map Tl.v)[k]? =(U.map Tl.v)[k]? :=by rw [hv]
  rw [List.getElem?_map,List.getElem?_map,List.getElem?_eq_getElem h,List.getElem?_eq_getElem h'] at h3
  simpa using h3
 have H1:=Lib.hid h1;have H2:=Lib.hid h2;have HB1:=Lib.hid b1;have HB2:=Lib.hid b2;have HL:=Lib.hid hl
 rw [hl]
 clear h1 h2 b1 b2 hv hl
 have t1:((T.length:Int) != (T.length:Int))=false:=by simp
 go_enter func27,ntmps27
 go_wp2_with fail
 go_loopg [5] T.length (fun gk i wr=>∃k:Nat,i=.int .i64 k∧k≤T.length∧gk=T.length-k∧Fr (fun _=>False) w wr)
 case atStart=>exact ⟨0,rfl,Nat.zero_le _,rfl,Fr.refl _ _⟩
 case round=>
  obtain ⟨k,rfl,hk,hg,hf⟩:=hrel
  have HG:=Lib.hid hg;have HF:=Lib.hid hf
  clear hg hf
  by_cases hlt:k<T.length
  ·have hlt':k<U.length:=by have:=HL.out;omega
   obtain ⟨a1,o1,rfl,-,c1'⟩:=H1.out.at hlt (by omega)
   obtain ⟨a2,o2,rfl,-,c2'⟩:=H2.out.at hlt' (by omega)
   have rows:∀ (X:List Tl) (b o:Nat) (hx:k<X.length),(∀i u,(X.flatMap Tl.cs)[i]? =some u→w.cell? ⟨b,o+i,none⟩=some u)→∀j u,(X[k].cs)[j]? =some u→wr.cell? ⟨b,o+k*6+j,none⟩=some u:=fun X b o hx hc j u hu=>by
    have hj:j<6:=by have:=(List.getElem?_eq_some_iff.1 hu).1;simpa using this
    have h1:=hc (k*6+j) u (by rw [flat_at Tl.cs_len hx hj];exact hu)
    rw [←Nat.add_assoc] at h1;exact cellK h1 HF.out
   have HS2:Hid (S2 w wr a1 (o1+k*6) a2 (o2+k*6) T[k] U[k]):=Lib.hid ⟨rows T a1 o1 hlt c1',rows U a2 o2 hlt' c2',(HB1.out _ (List.getElem_mem hlt)).fr HF.out (fun _ _ h=>h),(HB2.out _ (List.getElem_mem hlt')).fr HF.out (fun _ _ h=>h),HF.out⟩
   have HVk:=Lib.hid (HV.out k hlt hlt')
   clear c1' c2' rows
   generalize T[k]=e at *
   generalize U[k]=f at *
   have q2:decide ((k:Int)<((T.length:Nat):Int))=true:=by simp;omega
   go_upto_region 6 with (fail)
   refine sm6 (by kernel_rfl) _ _ w wr a1 o1 c a2 o2 d T.length k e f HVk.out hlt HS2.out rfl rfl rfl rfl ?_
   intro xx w2 hx hf2
   simp only [Eng.setAll,Act.put,List.setIfInBounds_toArray,List.set_cons_succ,List.set_cons_zero]
   have HF2:=Lib.hid hf2
   rw [hx]
   clear hf2 HS2 HF
   go_wp2_with fail
   go_roundg (T.length-(k+1))
   case rel=>exact ⟨k+1,by go_num,by omega,rfl,HF2.out⟩
   case measure=>have:=HG.out;omega
  ·obtain rfl:k=T.length:=by omega
   have q2:decide (((T.length:Nat):Int)<((T.length:Nat):Int))=false:=by simp
   go_wp2_with fail
   go_ret
   exact ⟨rfl,HF.out⟩
end Rf26
set_option maxRecDepth 100000
set_option maxHeartbeats 1000000
namespace Rf26
open BagP HistP OpsP KeyP PackP SetP SetW SetF Sli Name Pack Delta
open Ops (TO TOs infoO Tl OL opc strs infoStr TSt TStrs)
attribute [local go_sem] Eng.ev Eng.getO_cons Eng.getO_nil
def SvcPost (L:List ByteArray) (w:World) (e:Ending) (w':World):Prop:=∃A c,e=.returned (.slice A L.length c)∧Sl w' 1 A L.length c (strs L)∧(∀a,A=some a→w.heap.size≤a.block∧a.block<w'.heap.size)∧Below w.heap.size w w'
theorem svcs_it (D:List It):svcs (itV D)=D.map (·.n.1):=by simp [svcs,It.v]
theorem getD_at {l:List ByteArray} {m:Nat} (h:m<l.length):l.getD m ByteArray.empty=l[m]:=by simp [List.getD_eq_getElem?_getD,h]
theorem svU_new {l:List ByteArray} {m:Nat} (hm:m<l.length) (h:m=0∨∃j,∃hj:j<l.length,j+1=m∧l[m]≠l[j]):svU l (m+1)=svU l m++ [l[m]]:=by
 rw [svU,if_pos,getD_at hm]
 rcases h with h| ⟨j,hj,rfl,h⟩
 ·exact .inl h
 ·right
  rw [getD_at hm,Nat.add_sub_cancel,getD_at hj];exact h
theorem svU_old {l:List ByteArray} {m:Nat} (hm:m+1<l.length) (h:l[m+1]=l[m]):svU l (m+1+1)=svU l (m+1):=by
 rw [svU,if_neg,List.append_nil]
 rintro (e|e)
 ·omega
 ·rw [getD_at hm,Nat.add_sub_cancel,getD_at (by omega:m<l.length)] at e;exact e h
theorem Services (h:Nat) (D:List It) (R:List Nat) (w:World) (H:DV w h D R) (hl:D.length≤1000000):
  Calls prog 32 #[.pointer (some ⟨h,0,none⟩)] w (SvcPost (svc (itV D)) w):=by
 obtain ⟨i0,hi,hz0,hz1,hz2⟩:=info_parts infoStr
 obtain ⟨A,c,hb,hS,-⟩:=H.s
 have c0:w.cell? ⟨h,0,none⟩=some (.slice A D.length c):=hb.cell 0
 have HB:=Lib.hid hb;have HS:=Lib.hid hS
 have hhl:=H.r.2 _ H.r.1
 have HSv:Hid (svc (itV D)=svU (D.map (·.n.1)) D.length):=by show _=_;unfold svc;rw [svcs_it];simp
 generalize svc (itV D)=L at *
 clear H hb hS
 go_enter func32,ntmps32
 go_wp2_with fail
 clear c0
 go_loopg [3,4] D.length (fun gk v i wr=>∃k:Nat,i=.int .i64 k∧k≤D.length∧gk=D.length-k∧wr.ownsRow w.heap.size TSt 1 v (svU (D.map (·.n.1)) k).length (strs (svU (D.map (·.n.1)) k))∧Below w.heap.size w wr)
 case atStart=>exact ⟨0,rfl,Nat.zero_le _,rfl,World.ownsRow_nil _ _ _ _,Below.refl _ _⟩
 case round=>
  obtain ⟨k,rfl,hk,hg,hown,hbl⟩:=hrel
  have HG:=Lib.hid hg;have HO:=Lib.hid hown;have HFb:=Lib.hid hbl
  clear hg hown hbl
  have hsu:=svU_len (D.map (·.n.1)) k
  have c0:wr.cell? ⟨h,0,none⟩=some (.slice A D.length c):=(HFb.out.cell hhl).trans (HB.out.cell 0)
  by_cases hlt:k<D.length
  ·obtain ⟨b1,o1,rfl,hb1,c1'⟩:=HS.out.at hlt (by omega)
   have HCl:Hid (∀j (hj:j<D.length),wr.cell? ⟨b1,o1+j*5,none⟩=some (.string D[j].n.1)):=fun j hj=>by
    have h1:=c1' (j*5+0) (.string D[j].n.1) (by rw [flat_at It.cs_len hj (by omega)];rfl)
    exact (HFb.out.cell (by omega)).trans h1
   have ic0:=HCl.out k hlt
   have hcap:=HS.out.2.1
   have q1:(0:Int)≤(k:Int):=by omega
   have q2:decide ((k:Int)<((D.length:Nat):Int))=true:=by simp;omega
   have q3:(k:Int)<((D.length:Nat):Int):=by omega
   clear c1'
   have hlm:k<(D.map (·.n.1)).length:=by simpa using hlt
   by_cases h0:k=0
   ·subst h0
    have HNw:=Lib.hid (svU_new hlm (.inl rfl))
    rw [List.getElem_map] at HNw
    generalize D[0].n.1=sv at *
    clear HCl
    rw [Nat.zero_mul,Nat.add_zero] at ic0
    go_upto_region 5 with (fail)
    go_quiet (fail)
    have fq:=Fr.drewN (fun _=>False) wr nq
    have hO2:=ownsRow_fr HO.out fq (fun _ _ h=>h)
    have HB2:=Lib.hid (HFb.out.trans (fq.below HFb.out.size (fun _ _ h=>h)))
    have HO2:=Lib.hid hO2
    have c0q:(wr.drewN nq).cell? ⟨h,0,none⟩=some (.slice (some ⟨b1,o1,none⟩) D.length c):=c0
    have ic0q:(wr.drewN nq).cell? ⟨b1,o1,none⟩=some (.string sv):=ic0
    clear fq hO2 c0 ic0 HO HFb
    generalize wr.drewN nq=w4 at *
    have hown':=HO2.out.alloc (.cells #[.string sv] TSt)
    have hszw:=HB2.out.size
    go_wp2_with (at_builtin;refine wpList_append_own _ rfl (.tmp 36) (.tmp 45) TStrs rfl w.heap.size TSt i0 (.string ByteArray.empty) 1 16 underlying60 hi hz0 hz1 hz2 rfl (by decide) _ _ _ rfl hown' ⟨w4.heap.size,0,none⟩ 1 1 [.string sv] rfl rfl (new_cells w4 TSt [.string sv]) (by simp [Value.oneCell']) (by unfold maxLen;omega) (by omega) (by simp;omega) ?_)
    intro v1 w5 hown1 hgrow1 _
    have hf5:Below w.heap.size w4 w5:=by
     have h1:=(Fr.alloc (fun _=>False) w4 (.cells #[.string sv] TSt)).trans (Fr.grown hgrow1 (S:=fun b=>w.heap.size≤b) (fun b h=>(ownsRow_blk HO2.out b h).1)) (T:=fun b=>w.heap.size≤b) (fun _ _ h=>h.elim) (fun _ _ h=>h)
     exact h1.below hszw (fun i hi h=>by omega)
    have HO5:Hid (w5.ownsRow w.heap.size TSt 1 v1 (svU (D.map (·.n.1)) (0+1)).length (strs (svU (D.map (·.n.1)) (0+1)))):=by
     show World.ownsRow _ _ _ _ _ _ _
     rw [HNw.out,List.length_append];simpa [strs] using hown1
    have HB5:=Lib.hid (HB2.out.trans hf5)
    clear hown1 hgrow1 hown' hf5 HO2 HB2 c0q ic0q
    go_wp2_with fail
    go_roundg (D.length-(0+1))
    case rel=>exact ⟨0+1,by go_num,by omega,rfl,HO5.out,HB5.out⟩
    case measure=>have:=HG.out;omega
   ·obtain ⟨m,hm⟩:∃m,m+1=k:=⟨k-1,by omega⟩
    have hmD:m<D.length:=by omega
    have jc0:=HCl.out m hmD
    have e0:((k:Int)==0)=false:=by simp;omega
    have q5:(0:Int)≤(k:Int)-1:=by omega
    have q6:(k:Int)-1<((D.length:Nat):Int):=by omega
    have q7:(k:Int)-1=(m:Int):=by omega
    have eD:=bl_eq D[k].n.1 D[m].n.1
    by_cases hd:D[k].n.1=D[m].n.1
    ·rw [decide_eq_true hd] at eD
     go_upto_region 5 with (fail)
     go_quiet (fail)
     have fq:=Fr.drewN (fun _=>False) wr nq
     have hO2:=ownsRow_fr HO.out fq (fun _ _ h=>h)
     have HB2:=Lib.hid (HFb.out.trans (fq.below HFb.out.size (fun _ _ h=>h)))
     have HSo:Hid (svU (D.map (·.n.1)) (k+1)=svU (D.map (·.n.1)) k):=by
      show _=_
      subst hm
      exact svU_old (by simpa using hlt) (by simpa using hd)
     have HO2:=Lib.hid hO2
     clear fq hO2 c0 ic0 jc0 HO HFb hd eD
     generalize wr.drewN nq=w4 at *
     go_wp2_with fail
     go_roundg (D.length-(k+1))
     case rel=>exact ⟨k+1,by go_num,by omega,rfl,by rw [HSo.out];exact HO2.out,HB2.out⟩
     case measure=>have:=HG.out;omega
    ·rw [decide_eq_false hd] at eD
     have HNw:Hid (svU (D.map (·.n.1)) (k+1)=svU (D.map (·.n.1)) k++ [D[k].n.1]):=by
      have h1:=svU_new hlm (.inr ⟨m,by simpa using hmD,hm,by simpa using hd⟩)
      rw [List.getElem_map] at h1;exact h1
     clear HCl hd
     go_upto_region 5 with (fail)
     go_quiet (fail)
     clear eD jc0 q7 q5 q6 e0
     generalize D[k].n.1=sv at *
     have fq:=Fr.drewN (fun _=>False) wr nq
     have hO2:=ownsRow_fr HO.out fq (fun _ _ h=>h)
     have HB2:=Lib.hid (HFb.out.trans (fq.below HFb.out.size (fun _ _ h=>h)))
     have HO2:=Lib.hid hO2
     have c0q:(wr.drewN nq).cell? ⟨h,0,none⟩=some (.slice (some ⟨b1,o1,none⟩) D.length c):=c0
     have ic0q:(wr.drewN nq).cell? ⟨b1,o1+k*5,none⟩=some (.string sv):=ic0
     clear fq hO2 c0 ic0 HO HFb
     generalize wr.drewN nq=w4 at *
     have hown':=HO2.out.alloc (.cells #[.string sv] TSt)
     have hszw:=HB2.out.size
     go_wp2_with (at_builtin;refine wpList_append_own _ rfl (.tmp 36) (.tmp 45) TStrs rfl w.heap.size TSt i0 (.string ByteArray.empty) 1 16 underlying60 hi hz0 hz1 hz2 rfl (by decide) _ _ _ rfl hown' ⟨w4.heap.size,0,none⟩ 1 1 [.string sv] rfl rfl (new_cells w4 TSt [.string sv]) (by simp [Value.oneCell']) (by unfold maxLen;omega) (by omega) (by simp;omega) ?_)
     intro v1 w5 hown1 hgrow1 _
     have hf5:Below w.heap.size w4 w5:=by
      have h1:=(Fr.alloc (fun _=>False) w4 (.cells #[.string sv] TSt)).trans (Fr.grown hgrow1 (S:=fun b=>w.heap.size≤b) (fun b h=>(ownsRow_blk HO2.out b h).1)) (T:=fun b=>w.heap.size≤b) (fun _ _ h=>h.elim) (fun _ _ h=>h)
      exact h1.below hszw (fun i hi h=>by omega)
     have HO5:Hid (w5.ownsRow w.heap.size TSt 1 v1 (svU (D.map (·.n.1)) (k+1)).length (strs (svU (D.map (·.n.1)) (k+1)))):=by
      show World.ownsRow _ _ _ _ _ _ _
      rw [HNw.out,List.length_append];simpa [strs] using hown1
     have HB5:=Lib.hid (HB2.out.trans hf5)
     clear hown1 hgrow1 hown' hf5 HO2 HB2 c0q ic0q
     go_wp2_with fail
     go_roundg (D.length-(k+1))
     case rel=>exact ⟨k+1,by go_num,by omega,rfl,HO5.out,HB5.out⟩
     case measure=>have:=HG.out;omega
  ·obtain rfl:k=D.length:=by omega
   have q2:decide (((D.length:Nat):Int)<((D.length:Nat):Int))=false:=by simp
   have hO:=HO.out
   rw [←HSv.out] at hO
   obtain ⟨A',c',rfl,hs,ha⟩:=Sl.of_own hO
   have HP:Hid (SvcPost L w (.returned (.slice A' L.length c')) wr):=Lib.hid ⟨A',c',rfl,hs,fun a h1=>⟨(ha a h1).1,(ha a h1).2.2⟩,HFb.out⟩
   clear hO hs ha HO
   go_wp2_with fail
   go_ret
   exact HP.out
end Rf26
end Go.Proofs.YtdpngmgaomghoaaGreat
