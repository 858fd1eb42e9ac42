/- The document's operations: Of, One, Same. -/
import Derived.Test.YtdpngmgaomghoaaGreatRef26s
namespace Go.Proofs.YtdpngmgaomghoaaGreat
open Tryz
set_option maxRecDepth 100000
set_option maxHeartbeats 1000000
open Go.RowKit
namespace Rf26
open BagP HistP OpsP KeyP PackP SetP SetW SetF Sli Name Pack Delta ClsW
open Ops (TO TOs infoO Tl OL opc AllPost rc mays applyR)
attribute [local go_sem] Eng.ev Eng.getO_cons Eng.getO_nil
theorem Of (A:Option Addr) (c:Nat) (L:List Sn) (w:World) (hS:Ls w A c L) (hlen:L.length≤1000):
  Calls prog 42 #[.slice A L.length c] w (AllPost (ofV ((spn L).map rc)) w):=by
 have f1:=Fr.alloc (fun _=>False) w (.cells #[.slice none 0 0] TDv)
 have HSp:=Lib.hid (RefSpans A c L _ (hS.keep f1) (by omega))
 have HV:=Lib.hid (DV.new w)
 have HB:=Lib.hid (f1.below (Nat.le_refl _) (fun _ _ h=>h))
 have hyl:(spn L).length≤1000:=Nat.le_trans (Nat.le_trans (alive_len _) (setOf_len L)) hlen
 have HNm:=Lib.hid (Ops.ok_nm (Ops.spn_okL L));have HMy:=Lib.hid (Ops.ok_mays (Ops.spn_okL L))
 generalize spn L=Y at *
 have kb0:∀W:World,(Instr.build TDv #[]).run prog W=.ok (.agg #[.slice none 0 0]) W:=fun W=>by kernel_rfl
 clear hS f1
 go_enter func42,ntmps42
 go_wp2_with fail
 generalize w.alloc (.cells #[.slice none 0 0] TDv)=w1 at *
 refine HSp.out.mono ?_
 rintro e w2 ⟨A2,c2,rfl,hls,hown,hb⟩
 have fb:=Fr.of_below' hb (fun _=>False)
 have HV2:=Lib.hid (HV.out.keep fb)
 have HB2:=Lib.hid (HB.out.trans (hb.mono HB.out.size))
 have kb:∀W:World,(Instr.build TDl #[(1,.slice A2 Y.length c2)]).run prog W=.ok (.agg #[.slice none 0 0,.slice A2 Y.length c2]) W:=fun W=>by kernel_rfl
 have HA:=Lib.hid (Apply w.heap.size [] [w.heap.size] ⟨none,0,[],A2,c2,Y⟩ w2 HV2.out OpsP.Vok.nil ⟨Ls.nil w2,hls⟩ (by simp) (by simp) (by show Y.length≤_;omega))
 clear hls hown hb HSp HV HB fb kb0
 go_wp2_with fail
 refine HA.out.mono ?_
 rintro e w3 ⟨b,D',R',rfl,hda,hr⟩
 have HE:Hid (itV D'=ofV (Y.map rc)):=by
  have h1:applyR [] Y (itV [])=some (ofV (Y.map rc)):=by unfold applyR;rw [HMy.out];rfl
  rcases hr with ⟨-,h2⟩| ⟨-,h2,-⟩
  ·rw [h1] at h2;exact (Option.some.inj h2).symm
  ·rw [h1] at h2;cases h2
 have HVk:Hid (OpsP.Vok (itV D')):=by
  show OpsP.Vok _
  rw [HE.out];exact OpsP.Vok.nil.adds (Ops.rc_nz HNm.out)
 have HDl:Hid (D'.length≤1000):=by
  have h1:=congrArg List.length HE.out
  have h2:=Ops.adds_len (Y.map rc) []
  rw [itlen] at h1
  unfold ofV at h1
  simp only [List.length_map,List.length_nil] at h2
  show _≤_;omega
 have HR':Hid (∀b∈R',w.heap.size≤b):=fun b hb=>by
  rcases hda.r b hb with h|h
  ·simp at h;omega
  ·exact Nat.le_trans HB2.out.size h
 have HB3:=Lib.hid (HB2.out.trans (hda.f.below HB2.out.size (fun k hk e=>by omega)))
 have HAl:=Lib.hid (All w.heap.size D' R' w3 hda.v HVk.out (by have:=HDl.out;omega))
 clear hda hr HA kb
 go_wp2_with fail
 refine HAl.out.mono ?_
 rintro e w4 ⟨A4,c4,rfl,ho,hb⟩
 have HP:Hid (AllPost (ofV (Y.map rc)) w (.returned (.slice A4 (D'.map tl).length c4)) w4):=Lib.hid ⟨D'.map tl,A4,c4,rfl,by rw [←HE.out];simp [It.v],⟨ho.s,ho.b,fun a h=>⟨?_,(ho.a a h).2⟩,fun e he a h=>⟨?_,(ho.g e he a h).2⟩⟩,HB3.out.trans (hb.mono HB3.out.size)⟩
 ·clear ho hb HAl
  go_wp2_with fail
  go_ret
  have h9:=HP.out
  rw [List.length_map] at h9
  exact h9
 ·rcases (ho.a a h).1 with h1|h1
  ·exact Nat.le_trans HB3.out.size h1
  ·exact HR'.out _ h1.1
 ·rcases (ho.g e he a h).1 with h1|h1
  ·exact Nat.le_trans HB3.out.size h1
  ·exact HR'.out _ h1.1
theorem One (e f:Tl) (w:World) (he:Sl w 2 e.A e.x.1.length e.c (e.x.1.flatMap Bag.pc)) (hf:Sl w 2 f.A f.x.1.length f.c (f.x.1.flatMap Bag.pc)) (hv:e.v=f.v):
  Calls prog 38 #[.agg #[.string e.n.1,.string e.n.2,.int .i64 (sumL e.x.1),.int .i64 e.x.2.1,.int .i64 e.x.2.2,.slice e.A e.x.1.length e.c],.agg #[.string f.n.1,.string f.n.2,.int .i64 (sumL f.x.1),.int .i64 f.x.2.1,.int .i64 f.x.2.2,.slice f.A f.x.1.length f.c]] w fun r w'=>r=.returned (.bool true)∧Fr (fun _=>False) w w':=by
 obtain ⟨n,x,A,c⟩:=e
 obtain ⟨n',x',B,d⟩:=f
 obtain ⟨rfl,rfl⟩:n=n'∧x=x':=Prod.mk.inj hv
 obtain ⟨s,o⟩:=n
 obtain ⟨l,t,m⟩:=x
 dsimp only at he hf ⊢
 have f1:=(Fr.alloc (fun _=>False) w (.cells #[.string s,.string o,.int .i64 (sumL l),.int .i64 t,.int .i64 m,.slice A l.length c] TO)).to (Fr.alloc (fun _=>False) (w.alloc (.cells #[.string s,.string o,.int .i64 (sumL l),.int .i64 t,.int .i64 m,.slice A l.length c] TO)) (.cells #[.string s,.string o,.int .i64 (sumL l),.int .i64 t,.int .i64 m,.slice B l.length d] TO))
 have HS:=Lib.hid (Ref13.Same A B c d l l _ _ _ rfl rfl (he.fr f1 (fun _ _ h=>h)) (hf.fr f1 (fun _ _ h=>h)) rfl)
 have HF:=Lib.hid f1
 clear he hf f1 hv
 go_enter func38,ntmps38
 go_wp2_with fail
 refine HS.out.mono ?_
 rintro r w2 ⟨rfl,hf2⟩
 go_wp2_with fail
 go_ret
 exact ⟨rfl,HF.out.to hf2⟩
theorem cellK {w w':World} {b o:Nat} {v:Value} (h:w.cell? ⟨b,o,none⟩=some v) (hf:Fr (fun _=>False) w w'):w'.cell? ⟨b,o,none⟩=some v:=
 (World.cell?_of_block (w:=w) (a:=⟨b,o,none⟩) (hf.block b (World.block_lt_of_cell? w ⟨b,o,none⟩ h) (fun h=>h))).trans h
structure S2 (w0 w:World) (b1 p1 b2 p2:Nat) (e f:Tl):Prop where
 a:∀j u,e.cs[j]? =some u→w.cell? ⟨b1,p1+j,none⟩=some u
 b:∀j u,f.cs[j]? =some u→w.cell? ⟨b2,p2+j,none⟩=some u
 s:Sl w 2 e.A e.x.1.length e.c (e.x.1.flatMap Bag.pc)
 t:Sl w 2 f.A f.x.1.length f.c (f.x.1.flatMap Bag.pc)
 f:Fr (fun _=>False) w0 w
theorem S2.fr {w0 w w':World} {b1 p1 b2 p2:Nat} {e f:Tl} (H:S2 w0 w b1 p1 b2 p2 e f) (hf:Fr (fun _=>False) w w'):S2 w0 w' b1 p1 b2 p2 e f:=
 ⟨fun j u hu=>cellK (H.a j u hu) hf,fun j u hu=>cellK (H.b j u hu) hf,H.s.fr hf (fun _ _ h=>h),H.t.fr hf (fun _ _ h=>h),H.f.to hf⟩
theorem sm6 {ops:Array Oper} (hops:Eng.fnOps Tryz.f27 6=ops) (a0:Act) (Q:Exit→Act→World→Prop) (w0 w:World) (b1 o1 c1 b2 o2 c2 len k:Nat) (e f:Tl) (hv:e.v=f.v) (hk:k<len) (hst:S2 w0 w b1 (o1+k*6) b2 (o2+k*6) e f)
  (hn:a0.tmps.size=33) (h_0:a0.tmps.getD 0 undef=.slice (some ⟨b1,o1,none⟩) len c1) (h_1:a0.tmps.getD 1 undef=.slice (some ⟨b2,o2,none⟩) len c2) (h_5:a0.tmps.getD 5 undef=.int .i64 (k:Int))
  (hpost:∀ (x:Nat→Value) (w':World),x 32=.bool false→Fr (fun _=>False) w0 w'→Q .normal (Eng.setAll a0 [23,24,25,26,27,28,29,30,31,32] x) w'):
  (Code.region 6 ops true).wp prog Q a0 w:=by
 simp only [Eng.fnOps,Eng.regOps,Tryz.f27,Option.bind_some,Option.getD_some,Nat.reduceEqDiff,↓reduceIte] at hops
 subst hops
 have q1:(0:Int)≤(k:Int):=by omega
 have q2:(k:Int)<(len:Int):=by omega
 have HSt:=Lib.hid (hst.fr (Fr.drew _ _))
 refine Eng.regionT (.take 0 (.take 1 (.take 2 (.take 3 (.take 4 (.take 5 (.take 6 (.take 7 (.alt 8 (.take 9 (.done)) (.stop)))))))))) (fun w'=>w'.cell? ⟨b1,o1+k*6,none⟩=some (.string e.n.1)∧w'.cell? ⟨b1,o1+k*6+1,none⟩=some (.string e.n.2)∧w'.cell? ⟨b1,o1+k*6+1+1,none⟩=some (.int .i64 (sumL e.x.1))∧w'.cell? ⟨b1,o1+k*6+1+1+1,none⟩=some (.int .i64 e.x.2.1)∧w'.cell? ⟨b1,o1+k*6+1+1+1+1,none⟩=some (.int .i64 e.x.2.2)∧w'.cell? ⟨b1,o1+k*6+1+1+1+1+1,none⟩=some (.slice e.A e.x.1.length e.c)∧w'.cell? ⟨b2,o2+k*6,none⟩=some (.string f.n.1)∧w'.cell? ⟨b2,o2+k*6+1,none⟩=some (.string f.n.2)∧w'.cell? ⟨b2,o2+k*6+1+1,none⟩=some (.int .i64 (sumL f.x.1))∧w'.cell? ⟨b2,o2+k*6+1+1+1,none⟩=some (.int .i64 f.x.2.1)∧w'.cell? ⟨b2,o2+k*6+1+1+1+1,none⟩=some (.int .i64 f.x.2.2)∧w'.cell? ⟨b2,o2+k*6+1+1+1+1+1,none⟩=some (.slice f.A f.x.1.length f.c)) (by kernel_rfl) 33 hn (by kernel_rfl) (by kernel_rfl) (by kernel_rfl) (⟨HSt.out.a 0 _ rfl,HSt.out.a 1 _ rfl,HSt.out.a 2 _ rfl,HSt.out.a 3 _ rfl,HSt.out.a 4 _ rfl,HSt.out.a 5 _ rfl,HSt.out.b 0 _ rfl,HSt.out.b 1 _ rfl,HSt.out.b 2 _ rfl,HSt.out.b 3 _ rfl,HSt.out.b 4 _ rfl,HSt.out.b 5 _ rfl⟩) (fun a b ha hb=>?_)
 subst ha
 have hb0:b 0=.slice (some ⟨b1,o1,none⟩) len c1:=(hb 0).symm.trans h_0
 have hb1:b 1=.slice (some ⟨b2,o2,none⟩) len c2:=(hb 1).symm.trans h_1
 have hb5:b 5=.int .i64 (k:Int):=(hb 5).symm.trans h_5
 clear hb h_0 h_1 h_5
 have HP:=Lib.hid hpost;have HN:=Lib.hid hn
 clear hpost hn
 iterate 8 (refine Eng.TW.tk ?_)
 refine Eng.TW.call rfl rfl (by decide) (by kernel_rfl) ?_ (One e f _ HSt.out.s HSt.out.t hv) ?_
 ·go_simp
 rintro e w2 ⟨rfl,hf⟩
 have HSt2:=Lib.hid (HSt.out.fr hf)
 clear hf
 refine ⟨_,rfl,⟨HSt2.out.a 0 _ rfl,HSt2.out.a 1 _ rfl,HSt2.out.a 2 _ rfl,HSt2.out.a 3 _ rfl,HSt2.out.a 4 _ rfl,HSt2.out.a 5 _ rfl,HSt2.out.b 0 _ rfl,HSt2.out.b 1 _ rfl,HSt2.out.b 2 _ rfl,HSt2.out.b 3 _ rfl,HSt2.out.b 4 _ rfl,HSt2.out.b 5 _ rfl⟩,?_⟩
 refine Eng.TW.tk ?_
 refine Eng.TW.end_ [23,24,25,26,27,28,29,30,31,32] HN.out (by kernel_rfl) (by kernel_rfl) ?_
 exact HP.out _ _ rfl HSt2.out.f
theorem Same {A B:Option Addr} {c d:Nat} {T U:List Tl} {w:World} (h1:Sl w 6 A T.length c (T.flatMap Tl.cs)) (h2:Sl w 6 B U.length d (U.flatMap Tl.cs)) (b1:∀e∈T,Sl w 2 e.A e.x.1.length e.c (e.x.1.flatMap Bag.pc)) (b2:∀e∈U,Sl w 2 e.A e.x.1.length e.c (e.x.1.flatMap Bag.pc)) (hv:T.map Tl.v=U.map Tl.v) (lT:T.length≤1000000000):
  Calls prog 27 #[.slice A T.length c,.slice B U.length d] w fun e w'=>e=.returned (.bool true)∧Fr (fun _=>False) w w':=by
 have hl:U.length=T.length:=by have:=congrArg List.length hv;simpa using this.symm
 have HV:Hid (∀ (k:Nat) (h:k<T.length) (h':k<U.length),T[k].v=U[k].v):=fun k h h'=>by
  have h3:(T.map Tl.v)[k]? =(U.map Tl.v)[k]? :=by rw [hv]
  rw [List.getElem?_map,List.getElem?_map,List.getElem?_eq_getElem h,List.getElem?_eq_getElem h'] at h3
  simpa using h3
 have H1:=Lib.hid h1;have H2:=Lib.hid h2;have HB1:=Lib.hid b1;have HB2:=Lib.hid b2;have HL:=Lib.hid hl
 rw [hl]
 clear h1 h2 b1 b2 hv hl
 have t1:((T.length:Int) != (T.length:Int))=false:=by simp
 go_enter func27,ntmps27
 go_wp2_with fail
 go_loopg [5] T.length (fun gk i wr=>∃k:Nat,i=.int .i64 k∧k≤T.length∧gk=T.length-k∧Fr (fun _=>False) w wr)
 case atStart=>exact ⟨0,rfl,Nat.zero_le _,rfl,Fr.refl _ _⟩
 case round=>
  obtain ⟨k,rfl,hk,hg,hf⟩:=hrel
  have HG:=Lib.hid hg;have HF:=Lib.hid hf
  clear hg hf
  by_cases hlt:k<T.length
  ·have hlt':k<U.length:=by have:=HL.out;omega
   obtain ⟨a1,o1,rfl,-,c1'⟩:=H1.out.at hlt (by omega)
   obtain ⟨a2,o2,rfl,-,c2'⟩:=H2.out.at hlt' (by omega)
   have rows:∀ (X:List Tl) (b o:Nat) (hx:k<X.length),(∀i u,(X.flatMap Tl.cs)[i]? =some u→w.cell? ⟨b,o+i,none⟩=some u)→∀j u,(X[k].cs)[j]? =some u→wr.cell? ⟨b,o+k*6+j,none⟩=some u:=fun X b o hx hc j u hu=>by
    have hj:j<6:=by have:=(List.getElem?_eq_some_iff.1 hu).1;simpa using this
    have h1:=hc (k*6+j) u (by rw [flat_at Tl.cs_len hx hj];exact hu)
    rw [←Nat.add_assoc] at h1;exact cellK h1 HF.out
   have HS2:Hid (S2 w wr a1 (o1+k*6) a2 (o2+k*6) T[k] U[k]):=Lib.hid ⟨rows T a1 o1 hlt c1',rows U a2 o2 hlt' c2',(HB1.out _ (List.getElem_mem hlt)).fr HF.out (fun _ _ h=>h),(HB2.out _ (List.getElem_mem hlt')).fr HF.out (fun _ _ h=>h),HF.out⟩
   have HVk:=Lib.hid (HV.out k hlt hlt')
   clear c1' c2' rows
   generalize T[k]=e at *
   generalize U[k]=f at *
   have q2:decide ((k:Int)<((T.length:Nat):Int))=true:=by simp;omega
   go_upto_region 6 with (fail)
   refine sm6 (by kernel_rfl) _ _ w wr a1 o1 c a2 o2 d T.length k e f HVk.out hlt HS2.out rfl rfl rfl rfl ?_
   intro xx w2 hx hf2
   simp only [Eng.setAll,Act.put,List.setIfInBounds_toArray,List.set_cons_succ,List.set_cons_zero]
   have HF2:=Lib.hid hf2
   rw [hx]
   clear hf2 HS2 HF
   go_wp2_with fail
   go_roundg (T.length-(k+1))
   case rel=>exact ⟨k+1,by go_num,by omega,rfl,HF2.out⟩
   case measure=>have:=HG.out;omega
  ·obtain rfl:k=T.length:=by omega
   have q2:decide (((T.length:Nat):Int)<((T.length:Nat):Int))=false:=by simp
   go_wp2_with fail
   go_ret
   exact ⟨rfl,HF.out⟩
end Rf26
end Go.Proofs.YtdpngmgaomghoaaGreat
