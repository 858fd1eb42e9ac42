/- Layer 28's statements: EntryPlays: for every input the answer is true. -/
import Derived.Test.YtdpngmgaomghoaaGreatDoorLaw28f
import Derived.Test.YtdpngmgaomghoaaGreatDoorFewD
namespace Go.Proofs.YtdpngmgaomghoaaGreatDoor
open Tryz
set_option maxRecDepth 100000
set_option maxHeartbeats 8000000
open Go.RowKit
namespace Law28
open BagP KeyP EntP OpsP PackP SetP SetW SetF Sli Name Pack Delta ClsW
open Ent (EV TV bg mays apE TI TIs ints infoI TE TEs En EL AllPost)
open Rf28 (DR TRv)
attribute [local go_sem] Eng.ev Eng.getO_cons Eng.getO_nil
theorem ls_lt {w:World} {A:Option Addr} {c:Nat} {L:List Sn} (hL:Ls w A c L):∀a,A=some a→L≠ []→a.block<w.heap.size:=by
 intro a ha hne
 have hlt:0<L.length:=List.length_pos_iff.2 hne
 obtain ⟨b,o,rfl,hb,-⟩:=hL.s.at hlt (by omega)
 cases ha;exact hb
theorem apE_same {O I:List Sn} {q q':List Tk} (h:q.Perm q'):(apE O I q=none∧apE O I q'=none)∨∃r r',apE O I q=some r∧apE O I q'=some r'∧r.Perm r':=by
 unfold apE
 split
 ·rcases outK_same (A:=bg O) h with ⟨h1,h2⟩| ⟨r,r',h1,h2,h3⟩
  ·left;rw [h1,h2];exact ⟨rfl,rfl⟩
  ·right;rw [h1,h2];exact ⟨_,_,rfl,rfl,h3.append_left _⟩
 ·exact .inl ⟨rfl,rfl⟩
def nx (O I:List Sn) (q:List Tk):List Tk:=(apE O I q).getD q
def bx (O I:List Sn) (q:List Tk):Bool:=(apE O I q).isSome
theorem nx_is (O I:List Sn) (q:List Tk):if bx O I q then (∃r,apE O I q=some r∧(nx O I q).Perm r) else (apE O I q=none∧nx O I q=q):=by
 unfold nx bx
 cases apE O I q with
 |none=>exact ⟨rfl,rfl⟩
 |some r=>exact ⟨r,rfl,List.Perm.refl _⟩
theorem nx_len (O I:List Sn) (q:List Tk):(nx O I q).length≤q.length+I.length:=by
 unfold nx apE
 split
 ·cases h:outK (bg O) q with
  |none=>simp
  |some r=>
   have h1:=(outK_perm h).length_eq
   have h2:=bg_len I
   simp at h1 ⊢;omega
 ·simp
structure PV (w0 w:World) (B:Nat) (q:List Tk) (F:List Nat) (h:Nat) (L:List Sn) (R:List Nat):Prop where
 v:VE w0 w B q F
 d:DR w h L R
 g:∀b∈R,w0.heap.size≤b
 s:∀b∈R,b∉F
section
variable {w0 w w':World} {B:Nat} {q q2:List Tk} {F:List Nat} {h:Nat} {L:List Sn} {R:List Nat}
theorem PV.keep (H:PV w0 w B q F h L R) (hf:Fr (fun _=>False) w w'):PV w0 w' B q F h L R:=⟨H.v.keep hf,H.d.keep hf,H.g,H.s⟩
theorem PV.below (H:PV w0 w B q F h L R) (hb:Below w.heap.size w w'):PV w0 w' B q F h L R:=H.keep (Fr.of_below' hb _)
theorem PV.apply (H:PV w0 w B q F h L R) (d:Dl) (hd0:RdD w0 d) (b:Bool) (hr:if b then (∃r,apE d.O d.I q=some r∧q2.Perm r) else (apE d.O d.I q=none∧q2=q)) (lq:q.length≤100000) (lO:d.O.length≤100000) (lI:d.I.length≤100000):
  Calls prog 9 #[.pointer (some ⟨B,0,none⟩),d.v] w fun e w'=>e=.returned (.bool b)∧∃F',PV w0 w' B q2 F' h L R:=by
 have nin:∀ {A:Option Addr} {c:Nat} {L:List Sn},Ls w0 A c L→∀a,A=some a→L≠ []→a.block∉F:=fun hL a ha hne hm=>by
  have:=ls_lt hL a ha hne;have:=H.v.g _ hm;omega
 refine (H.v.apply d (hd0.below H.v.b) (nin hd0.o) (nin hd0.i) lq lO lI b hr).mono ?_
 rintro e w' ⟨rfl,F',hv,ht⟩
 refine ⟨rfl,F',hv,H.d.fr ht.fr H.s,H.g,fun x hx hm=>?_⟩
 rcases (ht.sub x hm).1 with h|h
 ·exact H.s x hx h
 ·have:=H.d.r.2 x hx;omega
theorem PV.applyX (H:PV w0 w B q2 F h L R) (d:Dl) (hd0:RdD w0 d) (hD:q.Perm (L.map Ent.kk)) (b:Bool) (hr:if b then (∃r,apE d.O d.I q=some r∧q2.Perm r) else (apE d.O d.I q=none∧q2=q)) (lD:L.length≤100000) (lO:d.O.length≤100000) (lI:d.I.length≤100000):
  Calls prog 10 #[.pointer (some ⟨h,0,none⟩),d.v] w fun e w'=>e=.returned (.bool b)∧∃L' R',PV w0 w' B q2 F h L' R'∧q2.Perm (L'.map Ent.kk):=by
 refine (Rf28.Apply h L R d w H.d (hd0.below H.v.b) lD lO lI).mono ?_
 rintro e w' ⟨b',L',R',rfl,hd,hf,hsub,-,ho⟩
 have hp:PV w0 w' B q2 F h L' R':=by
  refine ⟨H.v.fr hf (fun i hi e=>by have:=H.g _ H.d.r.1;omega) (fun x hx e=>H.s h H.d.r.1 (e▸hx)),hd,fun x hx=>?_,fun x hx hm=>?_⟩
  ·rcases hsub x hx with h1|h1
   ·exact H.g x h1
   ·exact Nat.le_trans H.v.b.size h1
  ·rcases hsub x hx with h1|h1
   ·exact H.s x h1 hm
   ·have:=H.v.lt x hm;omega
 have hsame:=apE_same (O:=d.O) (I:=d.I) hD
 cases b with
 |true=>
  rw [if_pos rfl] at hr
  obtain ⟨r,hr,hpr⟩:=hr
  rcases hsame with ⟨h1,-⟩| ⟨r1,r2,h1,h2,h3⟩
  ·rw [hr] at h1;cases h1
  ·rw [hr] at h1
   obtain rfl:r=r1:=Option.some.inj h1
   rcases ho with ⟨rfl,r',h4,h5⟩| ⟨-,h4,-⟩
   ·rw [h2] at h4
    obtain rfl:r2=r':=Option.some.inj h4
    exact ⟨rfl,L',R',hp,hpr.trans (h3.trans h5.symm)⟩
   ·rw [h2] at h4;cases h4
 |false=>
  rw [if_neg Bool.false_ne_true] at hr
  obtain ⟨hr,rfl⟩:=hr
  rcases hsame with ⟨-,h1⟩| ⟨r1,r2,h1,-⟩
  ·rcases ho with ⟨-,r',h4,-⟩| ⟨rfl,-,rfl⟩
   ·rw [h1] at h4;cases h4
   ·exact ⟨rfl,L',R',hp,hD⟩
  ·rw [hr] at h1;cases h1
structure P3 (w0 w:World) (B:Nat) (q:List Tk) (F:List Nat) (h:Nat) (L:List Sn) (R:List Nat) (A:Option Addr) (c:Nat) (T:List En):Prop extends PV w0 w B q F h L R where
 t:EL w A c T
structure P4 (w0 w:World) (B:Nat) (q:List Tk) (F:List Nat) (h:Nat) (L:List Sn) (R:List Nat) (A:Option Addr) (c:Nat) (T:List En) (A':Option Addr) (c':Nat) (U:List En):Prop extends P3 w0 w B q F h L R A c T where
 u:EL w A' c' U
theorem PV.all (H:PV w0 w B q F h L R) (lq:q.length≤1000000):Calls prog 12 #[.pointer (some ⟨B,0,none⟩)] w fun e w'=>∃T A c,e=.returned (.slice A T.length c)∧IsAll (fun n t=>(n,t)∈q) (T.map En.v)∧P3 w0 w' B q F h L R A c T:=
 (H.v.all lq).mono (fun _e _w' ⟨T,A,c,h1,h2,h3,h4⟩=>⟨T,A,c,h1,h2,H.below h4,h3⟩)
variable {A A':Option Addr} {c c':Nat} {T U:List En}
theorem P3.allX (H:P3 w0 w B q F h L R A c T) (_hD:q.Perm (L.map Ent.kk)) (lL:L.length≤1000000):Calls prog 13 #[.pointer (some ⟨h,0,none⟩)] w fun e w'=>∃U A' c',e=.returned (.slice A' U.length c')∧IsAll (fun n t=>(n,t)∈L.map Ent.kk) (U.map En.v)∧P4 w0 w' B q F h L R A c T A' c' U:=
 (Rf28.All h L R w H.d lL).mono (fun _e _w' ⟨U,A',c',h1,h2,h3,h4⟩=>⟨U,A',c',h1,h2,⟨H.toPV.below h4,H.t.below h4⟩,h3⟩)
theorem P4.same (H:P4 w0 w B q F h L R A c T A' c' U) (hD:q.Perm (L.map Ent.kk)) (e1:IsAll (fun n t=>(n,t)∈q) (T.map En.v)) (e2:IsAll (fun n t=>(n,t)∈L.map Ent.kk) (U.map En.v)):Calls prog 11 #[.slice A T.length c,.slice A' U.length c'] w fun e w'=>e=.returned (.bool true)∧PV w0 w' B q F h L R:=
 (Rf28.Same H.t H.u (e1.ext e2 (fun _n _t=>hD.mem_iff))).mono (fun _e _w' h=>⟨h.1,H.toPV.keep h.2⟩)
end
theorem dl_at {l:List Dl} {k:Nat} (hk:k<l.length):(l.flatMap Dl.cs)[k*2]? =some (.slice l[k].A1 l[k].O.length l[k].c1)∧(l.flatMap Dl.cs)[k*2+1]? =some (.slice l[k].A2 l[k].I.length l[k].c2):=by
 have h0:=flat_at (f:=Dl.cs) (sz:=2) (fun _=>rfl) hk (j:=0) (by omega)
 have h1:=flat_at (f:=Dl.cs) (sz:=2) (fun _=>rfl) hk (j:=1) (by omega)
 rw [Nat.add_zero] at h0
 exact ⟨h0,h1⟩
theorem pl11 {ops:Array Oper} (hops:Eng.fnOps Tryz.f3 11=ops) (a0:Act) (Q:Exit→Act→World→Prop) (w0 w:World) (B:Nat) (q q2:List Tk) (F:List Nat) (h:Nat) (L:List Sn) (R:List Nat) (b1 o1 len c i:Nat) (A1 A2:Option Addr) (c1 c2:Nat) (O I:List Sn) (hin:∀W':World,Below w0.heap.size w0 W'→W'.cell? ⟨b1,o1+i*2,none⟩=some (.slice A1 O.length c1)∧W'.cell? ⟨b1,o1+i*2+1,none⟩=some (.slice A2 I.length c2)) (hd0:RdD w0 ⟨A1,c1,O,A2,c2,I⟩) (hlo:O.length≤12) (hli:I.length≤12) (bb:Bool) (hr:if bb then (∃r,apE O I q=some r∧q2.Perm r) else (apE O I q=none∧q2=q)) (hst:PV w0 w B q F h L R) (hD:Hid (q.Perm (L.map Ent.kk))) (lq:q.length≤1000) (lq2:q2.length≤1000) (hk:i<len) (_hlen:len≤9223372036854775807)
  (hn:a0.tmps.size=73) (h_0:a0.tmps.getD 0 undef=.slice (some ⟨b1,o1,none⟩) len c) (h_3:a0.tmps.getD 3 undef=.pointer (some ⟨B,0,none⟩)) (h_5:a0.tmps.getD 5 undef=.pointer (some ⟨h,0,none⟩)) (h_6:a0.tmps.getD 6 undef=.int .i64 (i:Int))
  (hpost:∀ (x:Nat→Value) (w':World) (F':List Nat) (L':List Sn) (R':List Nat),x 44=.bool false→PV w0 w' B q2 F' h L' R'→q2.Perm (L'.map Ent.kk)→Q .normal (Eng.setAll a0 [26,27,28,29,30,31,32,33,34,35,36,37,38,39,40,41,42,43,44] x) w'):
  (Code.region 11 ops true).wp prog Q a0 w:=by
 simp only [Eng.fnOps,Eng.regOps,Tryz.f3,Option.bind_some,Option.getD_some,Nat.reduceEqDiff,↓reduceIte] at hops
 subst hops
 have q1:(0:Int)≤(i:Int):=by omega
 have q2':(i:Int)<(len:Int):=by omega
 have q5:(bb != bb)=false:=by simp
 have HR2:=Lib.hid hr
 have lL:L.length≤1000:=by have:=hD.out.length_eq;rw [List.length_map] at this;omega
 have HSt:=Lib.hid (hst.keep (Fr.drew _ _))
 refine Eng.regionN [(0,true),(1,true),(2,true),(3,true),(5,true),(6,true),(7,true),(8,true),(9,true),(4,false),(10,false),(11,true),(12,true),(14,true),(13,false),(15,false),(16,false),(17,true),(18,true)] (fun w'=>w'.cell? ⟨b1,o1+i*2,none⟩=some (.slice A1 O.length c1)∧w'.cell? ⟨b1,o1+i*2+1,none⟩=some (.slice A2 I.length c2)) (by kernel_rfl) 73 hn (by kernel_rfl) rfl (by kernel_rfl) (⟨(hin _ HSt.out.v.b).1,(hin _ HSt.out.v.b).2⟩) (fun a b ha hb=>?_)
 subst ha
 have hb0:b 0=.slice (some ⟨b1,o1,none⟩) len c:=(hb 0).symm.trans h_0
 have hb3:b 3=.pointer (some ⟨B,0,none⟩):=(hb 3).symm.trans h_3
 have hb5:b 5=.pointer (some ⟨h,0,none⟩):=(hb 5).symm.trans h_5
 have hb6:b 6=.int .i64 (i:Int):=(hb 6).symm.trans h_6
 clear hb h_0 h_3 h_5 h_6
 have HP:=Lib.hid hpost;have HN:=Lib.hid hn
 clear hpost hn
 iterate 9 (refine Eng.Sch.tk ?_)
 refine Eng.Sch.call rfl rfl (by decide) (by kernel_rfl) ?_ (HSt.out.apply ⟨A1,c1,O,A2,c2,I⟩ hd0 bb hr (by omega) (by show O.length≤_;omega) (by show I.length≤_;omega)) ?_
 ·go_simp
 rintro e w2 ⟨rfl,F2,hP1⟩
 have HSt1:=Lib.hid (hP1)
 refine ⟨_,rfl,⟨(hin _ HSt1.out.v.b).1,(hin _ HSt1.out.v.b).2⟩,?_⟩
 refine Eng.Sch.call rfl rfl (by decide) (by kernel_rfl) ?_ (HSt1.out.applyX ⟨A1,c1,O,A2,c2,I⟩ hd0 hD.out bb HR2.out (by omega) (by show O.length≤_;omega) (by show I.length≤_;omega)) ?_
 ·go_simp
 rintro e w3 ⟨rfl,L2,R2,hP2,hd2⟩
 have HSt2:=Lib.hid (hP2)
 have HD2:=Lib.hid hd2
 have lL2:L2.length≤1000:=by have:=hd2.length_eq;rw [List.length_map] at this;omega
 clear hd2
 refine ⟨_,rfl,⟨(hin _ HSt2.out.v.b).1,(hin _ HSt2.out.v.b).2⟩,?_⟩
 iterate 3 (refine Eng.Sch.tk ?_)
 refine Eng.Sch.call rfl rfl (by decide) (by kernel_rfl) ?_ (HSt2.out.all (by omega)) ?_
 ·go_simp
 rintro e w4 ⟨T1,A8,c8,rfl,ht1,hP3⟩
 have HSt3:=Lib.hid (hP3)
 have HT1:=Lib.hid ht1
 clear ht1
 refine ⟨_,rfl,⟨(hin _ HSt3.out.v.b).1,(hin _ HSt3.out.v.b).2⟩,?_⟩
 refine Eng.Sch.call rfl rfl (by decide) (by kernel_rfl) ?_ (HSt3.out.allX HD2.out (by omega)) ?_
 ·go_simp
 rintro e w5 ⟨U1,A9,c9,rfl,hu1,hP4⟩
 have HSt4:=Lib.hid (hP4)
 have HU1:=Lib.hid hu1
 clear hu1
 refine ⟨_,rfl,⟨(hin _ HSt4.out.v.b).1,(hin _ HSt4.out.v.b).2⟩,?_⟩
 refine Eng.Sch.call rfl rfl (by decide) (by kernel_rfl) ?_ (HSt4.out.same HD2.out HT1.out HU1.out) ?_
 ·go_simp
 rintro e w6 ⟨rfl,hP5⟩
 have HSt5:=Lib.hid (hP5)
 refine ⟨_,rfl,⟨(hin _ HSt5.out.v.b).1,(hin _ HSt5.out.v.b).2⟩,?_⟩
 refine Eng.Sch.tk ?_
 refine Eng.Sch.tk ?_
 refine Eng.Sch.end_ [26,27,28,29,30,31,32,33,34,35,36,37,38,39,40,41,42,43,44] HN.out (by kernel_rfl) (by kernel_rfl) ?_
 exact HP.out _ _ _ _ _ rfl HSt5.out HD2.out
theorem pl13 {ops:Array Oper} (hops:Eng.fnOps Tryz.f3 13=ops) (a0:Act) (Q:Exit→Act→World→Prop) (w0 w:World) (B:Nat) (q q2:List Tk) (F:List Nat) (h:Nat) (L:List Sn) (R:List Nat) (b1 o1 len c i:Nat) (A1 A2:Option Addr) (c1 c2:Nat) (O I:List Sn) (hin:∀W':World,Below w0.heap.size w0 W'→W'.cell? ⟨b1,o1+i*2,none⟩=some (.slice A1 O.length c1)∧W'.cell? ⟨b1,o1+i*2+1,none⟩=some (.slice A2 I.length c2)) (_hd0:RdD w0 ⟨A1,c1,O,A2,c2,I⟩) (hlo:O.length≤12) (hli:I.length≤12) (bz:Bool) (hbz:(((O.length+I.length:Nat):Int)==0)=bz) (hst:PV w0 w B q F h L R) (hk:i<len) (_hlen:len≤9223372036854775807)
  (hn:a0.tmps.size=73) (h_0:a0.tmps.getD 0 undef=.slice (some ⟨b1,o1,none⟩) len c) (h_4:a0.tmps.getD 4 undef=.pointer none) (h_6:a0.tmps.getD 6 undef=.int .i64 (i:Int))
  (hpost:∀ (x:Nat→Value) (w':World),x 71=.bool false→PV w0 w' B q F h L R→Q .normal (Eng.setAll a0 [45,46,47,48,49,50,51,52,53,54,55,56,57,58,59,60,61,62,63,64,65,66,67,68,69,70,71] x) w'):
  (Code.region 13 ops true).wp prog Q a0 w:=by
 simp only [Eng.fnOps,Eng.regOps,Tryz.f3,Option.bind_some,Option.getD_some,Nat.reduceEqDiff,↓reduceIte] at hops
 subst hops
 have q1:(0:Int)≤(i:Int):=by omega
 have q2':(i:Int)<(len:Int):=by omega
 have q5:(bz != bz)=false:=by simp
 have q6:((O.length:Int)+(I.length:Int)==0)=bz:=by rw [←hbz,Int.natCast_add]
 have q7:IntKind.i64.wrap ((O.length:Int)+(I.length:Int))=(O.length:Int)+(I.length:Int):=by rw [IntKind.wrap_i64];omega
 have HSt:=Lib.hid (hst.keep (Fr.drew _ _))
 refine Eng.regionN [(0,true),(1,true),(2,true),(3,true),(4,true),(6,true),(7,true),(8,true),(9,true),(10,true),(11,true),(12,true),(13,true),(14,true),(15,true),(16,true),(17,true),(18,true),(19,true),(5,false),(20,true),(21,true),(22,true),(23,false),(24,true),(25,true),(26,true)] (fun w'=>w'.cell? ⟨b1,o1+i*2,none⟩=some (.slice A1 O.length c1)∧w'.cell? ⟨b1,o1+i*2+1,none⟩=some (.slice A2 I.length c2)) (by kernel_rfl) 73 hn (by kernel_rfl) rfl (by kernel_rfl) (⟨(hin _ HSt.out.v.b).1,(hin _ HSt.out.v.b).2⟩) (fun a b ha hb=>?_)
 subst ha
 have hb0:b 0=.slice (some ⟨b1,o1,none⟩) len c:=(hb 0).symm.trans h_0
 have hb4:b 4=.pointer none:=(hb 4).symm.trans h_4
 have hb6:b 6=.int .i64 (i:Int):=(hb 6).symm.trans h_6
 clear hb h_0 h_4 h_6
 have HP:=Lib.hid hpost;have HN:=Lib.hid hn
 clear hpost hn
 iterate 19 (refine Eng.Sch.tk ?_)
 refine Eng.Sch.call rfl rfl (by decide) (by kernel_rfl) ?_ (Ent.Apply_nil ⟨A1,c1,O,A2,c2,I⟩ _ (by show O.length≤_;omega) (by show I.length≤_;omega) bz hbz) ?_
 ·go_simp
 rintro e w2 ⟨rfl,hf1⟩
 have HSt1:=Lib.hid (HSt.out.keep hf1)
 refine ⟨_,rfl,⟨(hin _ HSt1.out.v.b).1,(hin _ HSt1.out.v.b).2⟩,?_⟩
 iterate 3 (refine Eng.Sch.tk ?_)
 refine Eng.Sch.call rfl rfl (by decide) (by kernel_rfl) ?_ (Ent.All_nil _) ?_
 ·go_simp
 rintro e w3 ⟨A9,c9,rfl,hf2⟩
 have HSt2:=Lib.hid (HSt1.out.below hf2)
 refine ⟨_,rfl,⟨(hin _ HSt2.out.v.b).1,(hin _ HSt2.out.v.b).2⟩,?_⟩
 iterate 3 (refine Eng.Sch.tk ?_)
 refine Eng.Sch.end_ [45,46,47,48,49,50,51,52,53,54,55,56,57,58,59,60,61,62,63,64,65,66,67,68,69,70,71] HN.out (by kernel_rfl) (by kernel_rfl) ?_
 exact HP.out _ _ rfl HSt2.out
theorem PV.start (w:World):PV w ((w.alloc (.cells #[.pointer none,.int .i64 0] TV)).alloc (.cells #[.slice none 0 0] TRv)) w.heap.size [] [w.heap.size] (w.heap.size+1) [] [w.heap.size+1]:=by
 have hv:VE w (w.alloc (.cells #[.pointer none,.int .i64 0] TV)) w.heap.size [] [w.heap.size]:=VE.new (Below.refl w.heap.size w)
 have hd:=DR.new (w.alloc (.cells #[.pointer none,.int .i64 0] TV))
 rw [World.size_alloc] at hd
 refine ⟨hv.keep (Fr.alloc _ _ _),hd,fun b hb=>?_,fun b hb=>?_⟩
 ·simp at hb;omega
 ·simp at hb;subst hb;simp
theorem plays (A0:Option Addr) (c0:Nat) (l:List Dl) (w:World) (hS:Sl w 2 A0 l.length c0 (l.flatMap Dl.cs)∧∀x∈l,RdD w x):
  Calls prog 3 #[.slice A0 l.length c0] w fun e w'=>e=.returned (.bool true)∧Below w.heap.size w w':=by
 have HSl:=Lib.hid hS.1;have HR:=Lib.hid hS.2
 have HB:=Lib.hid (Below.refl w.heap.size w)
 have hl64:l.length≤9223372036854775807:=by have:=hS.1.2.1;have:=hS.1.2.2.1;unfold maxLen at this;omega
 clear hS
 go_enter func3,ntmps3
 by_cases h8:l.length>8
 ·have q0:decide ((l.length:Int)>8)=true:=by simp;omega
  have q0':decide ((8:Int)<(l.length:Int))=true:=by simp;omega
  clear h8
  go_wp2_with fail
  refine (awake w).mono ?_
  rintro e w1 ⟨rfl,hb⟩
  replace HB:=Lib.hid (HB.out.trans (hb.mono HB.out.size))
  clear hb
  go_wp2_with fail
  go_ret
  exact ⟨rfl,HB.out⟩
 ·have q0:decide ((l.length:Int)>8)=false:=by simp;omega
  have q0':decide ((8:Int)<(l.length:Int))=false:=by simp;omega
  have h8':l.length≤8:=by omega
  clear h8
  go_upto_region 6 with (fail)
  have HP:=Lib.hid (PV.start w)
  clear HB
  generalize ((w.alloc (.cells #[.pointer none,.int .i64 0] TV)).alloc (.cells #[.slice none 0 0] TRv))=w1 at *
  generalize hBv:w.heap.size=B at HP ⊢
  obtain ⟨h,hh⟩:∃h,B+1=h:=⟨_,rfl⟩
  rw [hh] at HP
  rw [hh]
  clear hh
  go_wp2_with fail
  go_loopg [6] l.length (fun gk i wr=>∃ (k:Nat) (q:List Tk) (F:List Nat) (L:List Sn) (R:List Nat),i=.int .i64 k∧k≤l.length∧gk=l.length-k∧PV w wr B q F h L R∧q.Perm (L.map Ent.kk)∧q.length≤12*k)
  case atStart=>exact ⟨0,[],_,[],_,rfl,Nat.zero_le _,rfl,HP.out,List.Perm.refl _,by simp⟩
  case round=>
   clear HP
   obtain ⟨k,q,F,L,R,rfl,hk,hg,hps,hde,hvl⟩:=hrel
   obtain ⟨wo,hwo⟩:∃wo,wo=wr:=⟨_,rfl⟩
   subst hwo
   have HG:=Lib.hid hg;have HP:=Lib.hid hps;have HB:=Lib.hid hps.v.b;have HDe:=Lib.hid hde
   clear hg hps hde
   by_cases hlt:k<l.length
   ·obtain ⟨b1,o1,rfl,hb1,c1⟩:=HSl.out.at hlt (by omega)
    have e0:=c1 (k*2) _ (dl_at hlt).1
    have e1:=c1 (k*2+1) _ (dl_at hlt).2
    have HR1:=Lib.hid (HR.out _ (List.getElem_mem hlt))
    clear c1
    generalize l[k]=xd at *
    obtain ⟨A1,c1,O,A2,c2,I⟩:=xd
    dsimp only at *
    have HE:Hid (∀W':World,Below w.heap.size w W'→W'.cell? ⟨b1,o1+k*2,none⟩=some (.slice A1 O.length c1)∧W'.cell? ⟨b1,o1+k*2+1,none⟩=some (.slice A2 I.length c2)):=fun W' hW=>⟨(hW.cell (p:=⟨b1,_,none⟩) hb1).trans e0,(hW.cell (p:=⟨b1,_,none⟩) hb1).trans e1⟩
    have HD:=Lib.hid (HR1.out.below HB.out)
    clear e0 e1
    have q1:(0:Int)≤(k:Int):=by omega
    have q2:decide ((k:Int)<(l.length:Int))=true:=by simp;omega
    have q3:(k:Int)<(l.length:Int):=by omega
    have e0:=(HE.out _ HB.out).1
    have e1:=(HE.out _ HB.out).2
    go_wp2_with fail
    refine (FewD.FewD ⟨A1,c1,O,A2,c2,I⟩ wo HD.out).mono ?_
    rintro e wf1 ⟨rfl,hf⟩
    have hb:=hf.below (Nat.le_refl _) (fun _ _ h=>h)
    clear hf
    replace HP:=Lib.hid (HP.out.below hb)
    replace HD:=Lib.hid (HD.out.below hb)
    replace HB:=Lib.hid (HB.out.trans (hb.mono HB.out.size))
    clear hb
    clear e0 e1
    dsimp only
    cases hq:(fewB O 12&&fewB I 12)
    case false=>
     go_wp2_with fail
     refine (awake wf1).mono ?_
     rintro e wf2 ⟨rfl,hb⟩
     replace HP:=Lib.hid (HP.out.below hb)
     replace HD:=Lib.hid (HD.out.below hb)
     replace HB:=Lib.hid (HB.out.trans (hb.mono HB.out.size))
     clear hb
     go_wp2_with fail
     go_ret
     exact ⟨rfl,HB.out⟩
    case true=>
     have hqs:fewB O 12=true∧fewB I 12=true:=by simpa using hq
     have hlo:=few_len' hqs.1
     have hli:=few_len' hqs.2
     clear hqs hq
     have hnx:=nx_is O I q
     have hok:=nx_len O I q
     generalize nx O I q=q' at *
     generalize bx O I q=bb at *
     have HR2:=Lib.hid hnx
     have hv2:q'.length≤12*(k+1):=by omega
     clear hnx hok
     go_upto_region 11 with (fail)
     refine pl11 (by kernel_rfl) _ _ w wf1 B q q' F h L R b1 o1 l.length c0 k A1 A2 c1 c2 O I HE.out HR1.out hlo hli bb HR2.out HP.out HDe (by omega) (by omega) hlt hl64 rfl rfl rfl rfl rfl ?_
     intro x wf2 F2 L2 R2 h65 hst hd2
     simp only [Eng.setAll,Act.put,List.setIfInBounds_toArray,List.set_cons_succ,List.set_cons_zero]
     rw [h65]
     clear HDe HR2
     replace HP:=Lib.hid hst;replace HB:=Lib.hid hst.v.b;have HDe:=Lib.hid hd2
     clear h65 hst hd2
     go_upto_region 13 with (fail)
     obtain ⟨bz,hbz⟩:∃b,(((O.length+I.length:Nat):Int)==0)=b:=⟨_,rfl⟩
     refine pl13 (by kernel_rfl) _ _ w wf2 B q' q' F2 h L2 R2 b1 o1 l.length c0 k A1 A2 c1 c2 O I HE.out HR1.out hlo hli bz hbz HP.out hlt hl64 rfl rfl rfl rfl ?_
     intro xx wf3 h184 hst
     simp only [Eng.setAll,Act.put,List.setIfInBounds_toArray,List.set_cons_succ,List.set_cons_zero]
     rw [h184]
     have HPz:=Lib.hid hst
     clear h184 hst HP HB HD hbz
     go_wp2_with fail
     go_roundg (l.length-(k+1))
     case rel=>exact ⟨k+1,q',F2,L2,R2,by go_num,by omega,rfl,HPz.out,HDe.out,hv2⟩
     case measure=>have:=HG.out;omega
   ·obtain rfl:k=l.length:=by omega
    have q2:decide ((l.length:Int)<(l.length:Int))=false:=by simp
    go_wp2_with fail
    refine (awake wo).mono ?_
    rintro e wq1 ⟨rfl,hb⟩
    replace HB:=Lib.hid (HB.out.trans (hb.mono HB.out.size))
    clear hb
    go_wp2_with fail
    go_ret
    exact ⟨rfl,HB.out⟩
end Law28
end Go.Proofs.YtdpngmgaomghoaaGreatDoor
