/- Layer 22's statements: DredFinds: for every input the answer is true. -/
import Derived.Test.YtgfjpnpbkkadpaaGreatLaw22s
import Derived.Test.YtgfjpnpbkkadpaaGreatClsZs
namespace Go.Proofs.YtgfjpnpbkkadpaaGreat
open Tryz
set_option maxRecDepth 100000
set_option maxHeartbeats 4000000
open Go.RowKit
namespace Law22
open KeyP PackP SetP SetW SetF Sli Delta KidsP Cls KdO Fst Drd Wrk
attribute [local go_sem] Eng.ev Eng.getO_cons Eng.getO_nil
theorem ClassF {X:World} {A:Option Addr} {c:Nat} {L:List Sn} (h:Ls X A c L) (hs:As L) (sl:L.length≤900) (P:List Pq) (hP:L.map (plq L)=P) (n:Nat) (hn:P.length=n):Calls prog 46 #[.slice A L.length c] X fun e w'=>∃A1 c1,e=.returned (.slice A1 n c1)∧Sl w' 6 A1 n c1 (pcs P)∧Fr (fun _=>False) X w':=by
 refine (ClsF.Of A c L X h sl).mono ?_
 rintro e w' ⟨A1,c1,rfl,h1,h2⟩
 rw [hs.fix] at h1 ⊢
 have e1:ClsF.plcs L=P:=hP
 rw [e1] at h1
 have e2:L.length=n:=by rw [←hn,←hP,List.length_map]
 rw [e2] at h1 ⊢
 exact ⟨A1,c1,rfl,h1,Fr.of_below' h2 _⟩
structure RQ (A X:World) (b1 o1 k:Nat) (x:Lv) (P:List Pq) (n:Nat) (a b:Option (Option Addr × Nat)):Prop where
 r:Fr (fun _=>False) A X
 e:X.cell? ⟨b1,o1+k,none⟩=some (.slice x.A x.L.length x.c)
 a:∀A1 c1,a=some (A1,c1)→Sl X 6 A1 n c1 (pcs P)
 b:∀A1 c1,b=some (A1,c1)→Sl X 6 A1 n c1 (pcs P)
section
variable {A X Y:World} {b1 o1 k:Nat} {x:Lv} {P:List Pq} {n:Nat} {a b:Option (Option Addr × Nat)}
theorem RQ.fr (h:RQ A X b1 o1 k x P n a b) (hf:Fr (fun _=>False) X Y):RQ A Y b1 o1 k x P n a b:=
 ⟨h.r.trans hf (fun _ _ h=>h) (fun _ _ h=>h),(World.cell?_of_block (w:=X) (a:=⟨b1,o1+k,none⟩) (hf.block b1 (World.block_lt_of_cell? X ⟨b1,o1+k,none⟩ h.e) (fun h=>h))).trans h.e,fun A1 c1 e=>(h.a A1 c1 e).fr hf (fun _ _ h=>h),fun A1 c1 e=>(h.b A1 c1 e).fr hf (fun _ _ h=>h)⟩
theorem RQ.ta (h:RQ A X b1 o1 k x P n none b) (hf:Fr (fun _=>False) X Y) {A1:Option Addr} {c1:Nat} (hs:Sl Y 6 A1 n c1 (pcs P)):RQ A Y b1 o1 k x P n (some (A1,c1)) b:=
 ⟨(h.fr hf).r,(h.fr hf).e,fun A2 c2 e=>by cases e;exact hs,(h.fr hf).b⟩
theorem RQ.tb (h:RQ A X b1 o1 k x P n a none) (hf:Fr (fun _=>False) X Y) {A1:Option Addr} {c1:Nat} (hs:Sl Y 6 A1 n c1 (pcs P)):RQ A Y b1 o1 k x P n a (some (A1,c1)):=
 ⟨(h.fr hf).r,(h.fr hf).e,(h.fr hf).a,fun A2 c2 e=>by cases e;exact hs⟩
end
theorem SameF {X:World} {A1 A2:Option Addr} {c1 c2 n:Nat} {P:List Pq} (hn:P.length=n) (h1:Sl X 6 A1 n c1 (pcs P)) (h2:Sl X 6 A2 n c2 (pcs P)):Calls prog 35 #[.slice A1 n c1,.slice A2 n c2] X fun e w'=>e=.returned (.bool true)∧Fr (fun _=>False) X w':=by
 have:=ClsF.SameP A1 A2 c1 c2 P P X n n hn hn h1 h2
 rwa [decide_eq_true rfl] at this
theorem df10 {ops:Array Oper} (hops:Eng.fnOps Tryz.f10 10=ops) (a0:Act) (Q:Exit→Act→World→Prop) (w0 w:World) (B:Nat) (b1 o1 len c k:Nat) (x:Lv) (F:List Nat) (P:List Pq) (n:Nat) (hk:k<len) (_hlen:len≤1000) (hF:FB w0 B (x.L.map br) (pm (x.L.map br)) F) (hx:Ls w0 x.A x.c x.L) (hs:As x.L) (hl:x.L.length≤900) (hP:x.L.map (plq x.L)=P) (hn:P.length=n) (hst:RQ w0 w b1 o1 k x P n none none)
  (hn:a0.tmps.size=50) (h_3:a0.tmps.getD 3 undef=.pointer (some ⟨B,0,none⟩)) (h_4:a0.tmps.getD 4 undef=.slice (some ⟨b1,o1,none⟩) len c) (h_6:a0.tmps.getD 6 undef=.int .i64 (k:Int)) (h_9:a0.tmps.getD 9 undef=.int .i64 0)
  (hpost:∀ (x_:Nat→Value) (w':World),x_ 44=.bool false→Fr (fun _=>False) w0 w'→Q .normal (Eng.setAll a0 [33,34,35,36,37,38,39,40,41,42,43,44] x_) w'):
  (Code.region 10 ops true).wp prog Q a0 w:=by
 simp only [Eng.fnOps,Eng.regOps,Tryz.f10,Option.bind_some,Option.getD_some,Nat.reduceEqDiff,↓reduceIte] at hops
 subst hops
 have q1:(0:Int)≤(k:Int):=by omega
 have q2:(k:Int)<(len:Int):=by omega
 have HSt:=Lib.hid (hst.fr (Fr.drew _ _))
 refine Eng.regionT (.take 0 (.take 1 (.take 2 (.take 4 (.take 5 (.take 6 (.take 7 (.alt 3 (.alt 8 (.alt 9 (.take 10 (.take 11 (.done))) (.stop)) (.stop)) (.stop))))))))) (fun w'=>w'.cell? ⟨b1,o1+k,none⟩=some (.slice x.A x.L.length x.c)) (by kernel_rfl) 50 hn (by kernel_rfl) (by kernel_rfl) (by kernel_rfl) (HSt.out.e) (fun a b ha hb=>?_)
 subst ha
 have hb3:b 3=.pointer (some ⟨B,0,none⟩):=(hb 3).symm.trans h_3
 have hb4:b 4=.slice (some ⟨b1,o1,none⟩) len c:=(hb 4).symm.trans h_4
 have hb6:b 6=.int .i64 (k:Int):=(hb 6).symm.trans h_6
 have hb9:b 9=.int .i64 0:=(hb 9).symm.trans h_9
 clear hb h_3 h_4 h_6 h_9
 have HP:=Lib.hid hpost;have HN:=Lib.hid hn
 clear hpost hn
 iterate 7 (refine Eng.TW.tk ?_)
 refine Eng.TW.call rfl rfl (by decide) (by kernel_rfl) ?_ (PlacesF (hF.fr HSt.out.r (fun _ _ h=>h)) (by omega) P hP n hn) ?_
 ·go_simp
 rintro e w2 ⟨P1,p1,rfl,hs1,hf1⟩
 have HSt2:=Lib.hid (HSt.out.ta hf1 hs1)
 clear hf1 hs1
 refine ⟨_,rfl,HSt2.out.e,?_⟩
 refine Eng.TW.call rfl rfl (by decide) (by kernel_rfl) ?_ (ClassF (hx.keep HSt2.out.r) hs (by omega) P hP n hn) ?_
 ·go_simp
 rintro e w3 ⟨P2,p2,rfl,hs1,hf1⟩
 have HSt3:=Lib.hid (HSt2.out.tb hf1 hs1)
 clear hf1 hs1
 refine ⟨_,rfl,HSt3.out.e,?_⟩
 refine Eng.TW.call rfl rfl (by decide) (by kernel_rfl) ?_ (SameF hn (HSt3.out.a _ _ rfl) (HSt3.out.b _ _ rfl)) ?_
 ·go_simp
 rintro e w4 ⟨rfl,hf1⟩
 have HSt4:=Lib.hid (HSt3.out.fr hf1)
 clear hf1
 refine ⟨_,rfl,HSt4.out.e,?_⟩
 refine Eng.TW.tk ?_
 refine Eng.TW.tk ?_
 refine Eng.TW.end_ [33,34,35,36,37,38,39,40,41,42,43,44] HN.out (by kernel_rfl) (by kernel_rfl) ?_
 exact HP.out _ _ rfl HSt4.out.r
theorem finds (A0:Option Addr) (c0:Nat) (l:List Lv) (w:World) (h:LL w A0 c0 l):Calls prog 10 #[.slice A0 l.length c0] w fun e w'=>e=.returned (.bool true)∧Below w.heap.size w w':=by
 have HL:=Lib.hid h
 clear h
 go_enter func10,ntmps10
 go_wp2_with fail
 refine (few A0 c0 l w HL.out).mono ?_
 rintro e w1 ⟨rfl,hf⟩
 have HB:=Lib.hid (hf.below (Nat.le_refl _) (fun _ _ h=>h))
 have HL1:=Lib.hid (HL.out.keep hf)
 clear hf HL
 cases hq:fewL l with
 |false=>
  clear hq
  go_wp2_with fail
  refine (awake w1).mono ?_
  rintro e w2 ⟨rfl,hb⟩
  replace HB:=Lib.hid (HB.out.trans (hb.mono HB.out.size))
  clear hb
  go_wp2_with fail
  go_ret
  exact ⟨rfl,HB.out⟩
 |true=>
  obtain ⟨hl8,hl20⟩:=fewL_len hq
  have HL20:=Lib.hid hl20
  clear hq hl20
  go_upto_region 4 with (fail)
  have hfv:=Fv.new w1
  have HB2:=Lib.hid (HB.out.trans (hfv.b.mono HB.out.size))
  have HF2:=Lib.hid hfv.f
  have HL2:=Lib.hid (HL1.out.below (hfv.b))
  have hz2:(w1.alloc (.cells #[.pointer none,.int .i64 0,.pointer none,.int .i64 0,.pointer none,.int .i64 0] KdO.TX)).heap.size=w1.heap.size+1:=by simp
  have HZ1:=Lib.hid HB.out.size
  clear hfv HB HL1
  generalize (w1.alloc (.cells #[.pointer none,.int .i64 0,.pointer none,.int .i64 0,.pointer none,.int .i64 0] KdO.TX))=w2 at *
  obtain ⟨B,hB⟩:∃B,w1.heap.size=B:=⟨_,rfl⟩
  rw [hB] at HF2 hz2 HZ1 ⊢
  have HZ2:=Lib.hid hz2
  clear hB hz2
  go_wp2_with fail
  refine (sets A0 c0 l w2 HL2.out (by omega) (fun x hx=>Nat.le_trans (HL20.out x hx) (by omega))).mono ?_
  rintro e w3 ⟨A1,c1,m,rfl,h1,h2,h3,h4,h5⟩
  have hml:m.length=l.length:=by have:=congrArg List.length h2;simpa using this
  have HM:=Lib.hid (LB.of (B:=B) h1 h2 HL20.out h3 h4 (by have:=HZ2.out;omega))
  have HB3:=Lib.hid (HB2.out.trans (h5.mono HB2.out.size))
  have HF3:Hid (FL_ w3 w3 B ⟨none,0,[]⟩ [B]):=⟨⟨HF2.out.fr (Fr.of_below' h5 (fun _=>False)) (fun _ _ h=>h),Fr.refl _ _,by simp⟩,Ls.nil _,by simp,As.nil,by simp⟩
  have HBw:Hid (w.heap.size≤B):=HZ1.out
  have hm8:m.length≤8:=by rw [hml];exact hl8
  clear hml h1 h2 h3 h4 h5 HB2 HF2 HL2 HZ1 HZ2 HL20
  have HW3:Hid (B<w3.heap.size):=HF3.out.f.f.lt B (by simp)
  go_wp2_with fail
  go_loopg [5,6] m.length (fun gk v i wr=>∃ (k:Nat) (p:Lv) (F:List Nat),i=.int .i64 k∧k≤m.length∧gk=m.length-k∧v=.slice p.A p.L.length p.c∧FL_ w3 wr B p F)
  case atStart=>exact ⟨0,⟨none,0,[]⟩,[B],rfl,Nat.zero_le _,rfl,rfl,HF3.out⟩
  case round=>
   clear HF3
   obtain ⟨k,p,F,rfl,hk,hg,rfl,hfl⟩:=hrel
   have HG:=Lib.hid hg;have HFL:=Lib.hid hfl
   clear hg hfl
   by_cases hlt:k<m.length
   ·have q1:decide ((k:Int)<(m.length:Int))=true:=by simp;omega
    obtain ⟨b1,o1,rfl,hb1,c1'⟩:=HM.out.s.at hlt (by omega)
    have HE3:Hid (w3.cell? ⟨b1,o1+k,none⟩=some (.slice m[k].A m[k].L.length m[k].c)):=c1' k _ (lv_at hlt)
    have hbB:b1≠B:=HM.out.n ⟨b1,o1,none⟩ rfl
    have HX3:=Lib.hid (HM.out.r _ (List.getElem_mem hlt))
    have HXn:=Lib.hid (HM.out.k _ (List.getElem_mem hlt))
    have HXa:=Lib.hid (HM.out.a _ (List.getElem_mem hlt))
    have HCl:Hid (∀ {X:World},Fr (fun b=>b=B) w3 X→X.cell? ⟨b1,o1+k,none⟩=some (.slice m[k].A m[k].L.length m[k].c)):=fun hf=>(World.cell?_of_block (w:=w3) (a:=⟨b1,o1+k,none⟩) (hf.block b1 hb1 (fun e=>hbB e))).trans HE3.out
    clear c1' hb1 hbB HE3
    generalize m[k]=x at *
    have e0:=HCl.out HFL.out.f.r
    have HX:=Lib.hid (HX3.out.fr HFL.out.f.r (fun a ha e=>HXn.out a ha e))
    have HP:=Lib.hid HFL.out.ls
    have q2:(0:Int)≤(k:Int):=by omega
    have q3:(k:Int)<(m.length:Int):=by omega
    have hpl:=HFL.out.l
    have hxl:=HXa.out.2
    go_wp2_with fail
    refine (BetweenN p.A x.A p.c x.c p.L x.L wr HP.out HX.out (by omega) (by omega)).mono ?_
    rw [HFL.out.s.ok.set,HXa.out.1.ok.set]
    rintro e w4 ⟨D1,d1,D2,d2,rfl,hd,hb,hn1,hn2⟩
    have hFO:=HFL.out.f
    have hap:ApD ⟨D1,d1,wout x.L p.L,D2,d2,wout p.L x.L⟩ F:=apD_new (lo:=wr.heap.size) (fun b hb=>hFO.f.lt b hb) (fun _ a ha=>hn1 a ha) (fun _ a ha=>hn2 a ha)
    have HAp:=Lib.hid (ApplyF (hFO.keep (Fr.of_below' hb _)) HFL.out.s HXa.out.1 (Ls.gd HFL.out.q) (Ls.gd HX3.out) (by omega) (by omega) hd hap)
    clear hd hb hn1 hn2 hFO hap e0 HX HP
    go_wp2_with fail
    refine HAp.out.mono ?_
    rintro e w5 ⟨A3,c3,A4,c4,n,F',rfl,g1,-,-,-,-,-,-,-⟩
    have HF5:=Lib.hid (g1.keep (Fr.alloc (fun _=>False) w5 (.cells #[.slice A3 (mvd p.L x.L).length c3,.slice A4 (mvd x.L p.L).length c4] TSh)))
    clear g1 HAp HFL
    go_upto_region 10 with (fail)
    generalize (w5.alloc (.cells #[.slice A3 (mvd p.L x.L).length c3,.slice A4 (mvd x.L p.L).length c4] TSh))=w6 at *
    refine df10 (by kernel_rfl) _ _ w6 w6 B b1 o1 m.length c1 k x F' _ _ hlt (by omega) HF5.out.f (HX3.out.fr HF5.out.r (fun a ha e=>HXn.out a ha e)) HXa.out.1 hxl rfl rfl ⟨Fr.refl _ _,HCl.out HF5.out.r,by simp,by simp⟩ rfl rfl rfl rfl rfl ?_
    intro x_ w7 hx44 hf7
    simp only [Eng.setAll,Act.put,List.setIfInBounds_toArray,List.set_cons_succ,List.set_cons_zero,hx44]
    have HF7:Hid (FL_ w3 w7 B x F'):=⟨HF5.out.keep hf7,HX3.out,HXn.out,HXa.out.1,hxl⟩
    have e7:=HCl.out HF7.out.f.r
    have qk:IntKind.i64.wrap ((k:Int)+1)=(k:Int)+1:=by rw [IntKind.wrap_i64];omega
    clear hf7 hx44 HF5
    go_wp2_with fail
    go_roundg (m.length-(k+1))
    case rel=>exact ⟨k+1,x,F',by go_num,by omega,rfl,rfl,HF7.out⟩
    case measure=>have:=HG.out;omega
   ·have hke:k=m.length:=by omega
    subst hke
    have q1:decide ((m.length:Int)<(m.length:Int))=false:=by simp
    have HBr:Hid (Below w.heap.size w wr):=HB3.out.trans (HFL.out.f.r.below HB3.out.size (fun b hb e=>by have:=HBw.out;omega))
    clear HFL
    go_wp2_with fail
    refine (awake wr).mono ?_
    rintro e w9 ⟨rfl,hb⟩
    have HBz:=Lib.hid (HBr.out.trans (hb.mono HBr.out.size))
    clear hb
    go_wp2_with fail
    go_ret
    exact ⟨rfl,HBz.out⟩
end Law22
end Go.Proofs.YtgfjpnpbkkadpaaGreat
