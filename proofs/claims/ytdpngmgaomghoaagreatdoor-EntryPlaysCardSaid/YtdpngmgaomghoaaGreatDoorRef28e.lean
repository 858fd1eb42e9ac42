/- The document's entries: Of, Same. -/
import Derived.Test.YtdpngmgaomghoaaGreatDoorRef28b
import Derived.Test.YtdpngmgaomghoaaGreatDoorRef28d
import Derived.Test.YtdpngmgaomghoaaGreatDoorEntC
import Derived.Test.YtdpngmgaomghoaaGreatDoorRef01
namespace Go.Proofs.YtdpngmgaomghoaaGreatDoor
open Tryz
set_option maxRecDepth 100000
set_option maxHeartbeats 1000000
open Go.RowKit
namespace Rf28
open BagP KeyP EntP OpsP PackP SetP SetW SetF Sli Name Pack Delta ClsW
open Ent (bg mays apE TI TIs ints infoI TE TEs En EL infoE AllPost)
attribute [local go_sem] Eng.ev Eng.getO_cons Eng.getO_nil
theorem SameE (e f:En) (w:World) (hs:Sl w 1 e.A e.l.length e.c (ints e.l)) (ht:Sl w 1 f.A f.l.length f.c (ints f.l)) (hv:e.v=f.v):
  Calls prog 21 #[.slice e.A e.l.length e.c,.slice f.A f.l.length f.c] w fun r w'=>r=.returned (.bool true)∧Fr (fun _=>False) w w':=by
 have hl:e.l=f.l:=congrArg Prod.snd hv
 refine (SameInts e.A f.A e.c f.c e.l f.l w hs ht).mono ?_
 rintro r w' ⟨rfl,hf⟩
 exact ⟨by simp [hl],hf⟩
structure S2 (w0 w:World) (b1 p1 b2 p2:Nat) (e f:En):Prop where
 a:∀j u,e.cs[j]? =some u→w.cell? ⟨b1,p1+j,none⟩=some u
 b:∀j u,f.cs[j]? =some u→w.cell? ⟨b2,p2+j,none⟩=some u
 s:Sl w 1 e.A e.l.length e.c (ints e.l)
 t:Sl w 1 f.A f.l.length f.c (ints f.l)
 f:Fr (fun _=>False) w0 w
theorem S2.fr {w0 w w':World} {b1 p1 b2 p2:Nat} {e f:En} (H:S2 w0 w b1 p1 b2 p2 e f) (hf:Fr (fun _=>False) w w'):S2 w0 w' b1 p1 b2 p2 e f:=
 ⟨fun j u hu=>cellK (H.a j u hu) hf,fun j u hu=>cellK (H.b j u hu) hf,H.s.fr hf (fun _ _ h=>h),H.t.fr hf (fun _ _ h=>h),H.f.trans hf (fun _ _ h=>h) (fun _ _ h=>h)⟩
theorem sm6 {ops:Array Oper} (hops:Eng.fnOps Tryz.f11 6=ops) (a0:Act) (Q:Exit→Act→World→Prop) (w0 w:World) (b1 o1 c1 b2 o2 c2 len k:Nat) (e f:En) (hv:e.v=f.v) (hk:k<len) (_hlen:len≤9223372036854775807) (hst:S2 w0 w b1 (o1+k*3) b2 (o2+k*3) e f)
  (hn:a0.tmps.size=61) (h_0:a0.tmps.getD 0 undef=.slice (some ⟨b1,o1,none⟩) len c1) (h_1:a0.tmps.getD 1 undef=.slice (some ⟨b2,o2,none⟩) len c2) (h_5:a0.tmps.getD 5 undef=.int .i64 (k:Int))
  (hpost:∀ (x:Nat→Value) (w':World),x 60=.bool false→Fr (fun _=>False) w0 w'→Q .normal (Eng.setAll a0 [23,24,25,26,27,28,29,30,31,32,33,34,35,36,37,38,39,40,41,42,43,44,45,46,47,48,49,50,51,52,53,54,55,56,57,58,59,60] x) w'):
  (Code.region 6 ops true).wp prog Q a0 w:=by
 simp only [Eng.fnOps,Eng.regOps,Tryz.f11,Option.bind_some,Option.getD_some,Nat.reduceEqDiff,↓reduceIte] at hops
 subst hops
 have q1:(0:Int)≤(k:Int):=by omega
 have q2:(k:Int)<(len:Int):=by omega
 have hnm:e.n=f.n:=congrArg Prod.fst hv
 have n1:(e.n.1.toList==f.n.1.toList)=true:=by rw [hnm];simp
 have n2:(e.n.2.toList==f.n.2.toList)=true:=by rw [hnm];simp
 have HSt:=Lib.hid (hst.fr (Fr.drew _ _))
 refine Eng.regionN [(0,true),(1,true),(2,true),(3,true),(4,true),(5,true),(6,true),(7,true),(8,true),(9,true),(10,true),(11,true),(12,true),(13,true),(14,true),(15,true),(16,true),(17,true),(18,true),(19,true),(20,true),(21,true),(22,true),(23,true),(24,true),(25,true),(26,true),(27,true),(28,true),(29,true),(30,true),(31,true),(32,true),(33,true),(34,true),(35,false),(36,true),(37,true)] (fun w'=>w'.cell? ⟨b1,o1+k*3,none⟩=some (.string e.n.1)∧w'.cell? ⟨b1,o1+k*3+1,none⟩=some (.string e.n.2)∧w'.cell? ⟨b1,o1+k*3+2,none⟩=some (.slice e.A e.l.length e.c)∧w'.cell? ⟨b2,o2+k*3,none⟩=some (.string f.n.1)∧w'.cell? ⟨b2,o2+k*3+1,none⟩=some (.string f.n.2)∧w'.cell? ⟨b2,o2+k*3+2,none⟩=some (.slice f.A f.l.length f.c)) (by kernel_rfl) 61 hn (by kernel_rfl) rfl (by kernel_rfl) (⟨HSt.out.a 0 _ rfl,HSt.out.a 1 _ rfl,HSt.out.a 2 _ rfl,HSt.out.b 0 _ rfl,HSt.out.b 1 _ rfl,HSt.out.b 2 _ rfl⟩) (fun a b ha hb=>?_)
 subst ha
 have hb0:b 0=.slice (some ⟨b1,o1,none⟩) len c1:=(hb 0).symm.trans h_0
 have hb1:b 1=.slice (some ⟨b2,o2,none⟩) len c2:=(hb 1).symm.trans h_1
 have hb5:b 5=.int .i64 (k:Int):=(hb 5).symm.trans h_5
 clear hb h_0 h_1 h_5
 have HP:=Lib.hid hpost;have HN:=Lib.hid hn
 clear hpost hn
 iterate 35 (refine Eng.Sch.tk ?_)
 refine Eng.Sch.call rfl rfl (by decide) (by kernel_rfl) ?_ (SameE e f _ HSt.out.s HSt.out.t hv) ?_
 ·go_simp
 rintro e w2 ⟨rfl,hf⟩
 have HSt1:=Lib.hid (HSt.out.fr hf)
 clear hf
 refine ⟨_,rfl,⟨HSt1.out.a 0 _ rfl,HSt1.out.a 1 _ rfl,HSt1.out.a 2 _ rfl,HSt1.out.b 0 _ rfl,HSt1.out.b 1 _ rfl,HSt1.out.b 2 _ rfl⟩,?_⟩
 refine Eng.Sch.tk ?_
 refine Eng.Sch.tk ?_
 refine Eng.Sch.end_ [23,24,25,26,27,28,29,30,31,32,33,34,35,36,37,38,39,40,41,42,43,44,45,46,47,48,49,50,51,52,53,54,55,56,57,58,59,60] HN.out (by kernel_rfl) (by kernel_rfl) ?_
 exact HP.out _ _ rfl HSt1.out.f
theorem Same {A B:Option Addr} {c d:Nat} {T U:List En} {w:World} (h1:EL w A c T) (h2:EL w B d U) (hv:T.map En.v=U.map En.v):
  Calls prog 11 #[.slice A T.length c,.slice B U.length d] w fun e w'=>e=.returned (.bool true)∧Fr (fun _=>False) w w':=by
 have hl:U.length=T.length:=by have:=congrArg List.length hv;simpa using this.symm
 have HV:Hid (∀ (k:Nat) (h:k<T.length) (h':k<U.length),T[k].v=U[k].v):=fun k h h'=>by
  have h3:(T.map En.v)[k]? =(U.map En.v)[k]? :=by rw [hv]
  rw [List.getElem?_map,List.getElem?_map,List.getElem?_eq_getElem h,List.getElem?_eq_getElem h'] at h3
  simpa using h3
 have lT:T.length≤9223372036854775807:=by have:=h1.s.2.1;have:=h1.s.2.2.1;unfold maxLen at this;omega
 have H1:=Lib.hid h1;have H2:=Lib.hid h2;have HL:=Lib.hid hl
 rw [hl]
 clear h1 h2 hv hl
 have t1:((T.length:Int) != (T.length:Int))=false:=by simp
 go_enter func11,ntmps11
 go_wp2_with fail
 go_loopg [5] T.length (fun gk i wr=>∃k:Nat,i=.int .i64 k∧k≤T.length∧gk=T.length-k∧Fr (fun _=>False) w wr)
 case atStart=>exact ⟨0,rfl,Nat.zero_le _,rfl,Fr.refl _ _⟩
 case round=>
  obtain ⟨k,rfl,hk,hg,hf⟩:=hrel
  have HG:=Lib.hid hg;have HF:=Lib.hid hf
  clear hg hf
  by_cases hlt:k<T.length
  ·have hlt':k<U.length:=by have:=HL.out;omega
   obtain ⟨a1,o1,rfl,-,c1'⟩:=H1.out.s.at hlt (by omega)
   obtain ⟨a2,o2,rfl,-,c2'⟩:=H2.out.s.at hlt' (by omega)
   have rows:∀ (X:List En) (b o:Nat) (hx:k<X.length),(∀i u,(X.flatMap En.cs)[i]? =some u→w.cell? ⟨b,o+i,none⟩=some u)→∀j u,(X[k].cs)[j]? =some u→wr.cell? ⟨b,o+k*3+j,none⟩=some u:=fun X b o hx hc j u hu=>by
    have hj:j<3:=by have:=(List.getElem?_eq_some_iff.1 hu).1;simpa using this
    have h1:=hc (k*3+j) u (by rw [flat_at En.cs_len hx hj];exact hu)
    rw [←Nat.add_assoc] at h1;exact cellK h1 HF.out
   have HS2:=Lib.hid (⟨rows T a1 o1 hlt c1',rows U a2 o2 hlt' c2',(H1.out.b _ (List.getElem_mem hlt)).fr HF.out (fun _ _ h=>h),(H2.out.b _ (List.getElem_mem hlt')).fr HF.out (fun _ _ h=>h),HF.out⟩:S2 w wr a1 (o1+k*3) a2 (o2+k*3) T[k] U[k])
   have HVk:=Lib.hid (HV.out k hlt hlt')
   clear c1' c2' rows
   generalize T[k]=e at *
   generalize U[k]=f at *
   have q2:decide ((k:Int)<((T.length:Nat):Int))=true:=by simp;omega
   go_upto_region 6 with (fail)
   refine sm6 (by kernel_rfl) _ _ w wr a1 o1 c a2 o2 d T.length k e f HVk.out hlt lT HS2.out rfl rfl rfl rfl ?_
   intro xx w2 hx hf2
   simp only [Eng.setAll,Act.put,List.setIfInBounds_toArray,List.set_cons_succ,List.set_cons_zero]
   have HF2:=Lib.hid hf2
   rw [hx]
   clear hf2 HS2 HF
   go_wp2_with fail
   go_roundg (T.length-(k+1))
   case rel=>exact ⟨k+1,by go_num,by omega,rfl,HF2.out⟩
   case measure=>have:=HG.out;omega
  ·obtain rfl:k=T.length:=by omega
   have q2:decide (((T.length:Nat):Int)<((T.length:Nat):Int))=false:=by simp
   go_wp2_with fail
   go_ret
   exact ⟨rfl,HF.out⟩
end Rf28
end Go.Proofs.YtdpngmgaomghoaaGreatDoor
