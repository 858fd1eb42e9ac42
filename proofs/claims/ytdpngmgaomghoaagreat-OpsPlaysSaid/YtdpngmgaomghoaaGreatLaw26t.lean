/- Layer 26's statements: OpsFinds: for every input the answer is true. -/
import Derived.Test.YtdpngmgaomghoaaGreatL26
import Derived.Test.YtdpngmgaomghoaaGreatOpsR
import Derived.Test.YtdpngmgaomghoaaGreatFewD
import Derived.Sort.CutIn
namespace Go.Proofs.YtdpngmgaomghoaaGreat
open Tryz
open Go.RowKit
namespace Law26
open BagP HistP OpsP KeyP PackP SetP SetW SetF Sli Name Pack Delta ClsW
open Ops (OV vL fl Es applyR mays rc nmN Tl AllPost OL strs opc opZ TO TOs TSt TStrs)
attribute [local go_sem] Eng.ev Eng.getO_cons Eng.getO_nil
theorem few_len' {L:List Sn} {n:Nat} (h:fewB L n=true):L.length≤n:=by unfold fewB at h;simp at h;exact h.2
theorem ApplyT {w0 w:World} {B:Nat} {V V2:Vw} {F:List Nat} (H:VS w0 w B V F) (d:Dl) (hd:RdD w d) (ha1:∀a,d.A1=some a→d.O≠ []→a.block∉F) (ha2:∀a,d.A2=some a→d.I≠ []→a.block∉F) (lV:V.length≤1000000) (lO:d.O.length≤100000) (lI:d.I.length≤100000) (b:Bool) (hr:if b then applyR d.O d.I V=some V2 else (applyR d.O d.I V=none∧V2=V)):
  Calls prog 25 #[.pointer (some ⟨B,0,none⟩),d.v] w fun e w'=>e=.returned (.bool b)∧∃F',VS w0 w' B V2 F'∧Tn F F' w w':=by
 obtain ⟨M,E,h,rfl,rfl⟩:=H.v
 refine (Ops.Apply B M E d w h H.k hd ha1 ha2 (by rwa [Ops.vlen] at lV) lO lI).mono ?_
 rintro e w' ⟨b',M',E',rfl,h1,h2,h3⟩
 have hg:∀x∈fl B M' E',w0.heap.size≤x:=fun x hx=>by
  rcases (h2.sub x hx).1 with h|h
  ·exact H.g x h
  ·exact Nat.le_trans H.b.size h
 have hb:=H.b.trans (h2.fr.below H.b.size (fun i hi hm=>by have:=H.g i hm;omega))
 cases b with
 |true=>
  rw [if_pos rfl] at hr
  rcases h3 with ⟨rfl,h3⟩| ⟨-,h3,-⟩
  ·have e2:V2=vL E':=Option.some.inj (hr.symm.trans h3)
   refine ⟨rfl,fl B M' E',⟨⟨M',E',h1,e2.symm,rfl⟩,hg,hb,?_⟩,h2⟩
   have hm:=h3
   unfold applyR at hm
   split at hm
   ·rename_i hx
    simp only [Bool.and_eq_true] at hx
    rw [e2]
    exact H.k.apply (Ops.rc_nz (Ops.mays_nm hx.1)) (Ops.rc_nz (Ops.mays_nm hx.2)) hm
   ·cases hm
  ·rw [hr] at h3;cases h3
 |false=>
  rw [if_neg Bool.false_ne_true] at hr
  obtain ⟨hr,rfl⟩:=hr
  rcases h3 with ⟨-,h3⟩| ⟨rfl,-,h3⟩
  ·rw [hr] at h3;cases h3
  ·exact ⟨rfl,fl B M' E',⟨⟨M',E',h1,h3,rfl⟩,hg,hb,H.k⟩,h2⟩
structure TL (w:World) (A:Option Addr) (c:Nat) (T:List Tl):Prop where
 s:Sl w 6 A T.length c (T.flatMap Tl.cs)
 b:∀e∈T,Sl w 2 e.A e.x.1.length e.c (e.x.1.flatMap Bag.pc)
theorem TL.fr {w w':World} {A:Option Addr} {c:Nat} {T:List Tl} (H:TL w A c T) (hf:Fr (fun _=>False) w w'):TL w' A c T:=⟨H.s.fr hf (fun _ _ h=>h),fun e he=>(H.b e he).fr hf (fun _ _ h=>h)⟩
theorem TL.below {w w':World} {A:Option Addr} {c:Nat} {T:List Tl} (H:TL w A c T) (hb:Below w.heap.size w w'):TL w' A c T:=H.fr (Fr.of_below' hb _)
section
variable {w0 w w':World} {B:Nat} {V:Vw} {F:List Nat} {xl:Lv} {An:Option Addr} {cn:Nat} {N:List Sn} {b1 o:Nat}
end
section
variable {w0 w w':World} {B:Nat} {V:Vw} {F:List Nat} {xl:Lv} {An:Option Addr} {cn:Nat} {N:List Sn} {b1 o:Nat} {Ap:Option Addr} {cp:Nat} {P:List Sn}
variable {A:Option Addr} {c:Nat} {T:List Tl} {A':Option Addr} {c':Nat} {U:List Tl}
end
end Law26
set_option maxRecDepth 100000
set_option maxHeartbeats 8000000
namespace Law26
open BagP HistP OpsP KeyP PackP SetP SetW SetF Sli Name Pack Delta ClsW
open Ops (OV vL fl Es applyR mays rc nmN Tl AllPost OL strs opc opZ TO TOs TSt TStrs)
open Rf26 (DV DA It itV tl HV TRh TDv)
attribute [local go_sem] Eng.ev Eng.getO_cons Eng.getO_nil
theorem ls_lt {w:World} {A:Option Addr} {c:Nat} {L:List Sn} (hL:Ls w A c L):∀a,A=some a→L≠ []→a.block<w.heap.size:=by
 intro a ha hne
 have hlt:0<L.length:=List.length_pos_iff.2 hne
 obtain ⟨b,o,rfl,hb,-⟩:=hL.s.at hlt (by omega)
 cases ha;exact hb
def nx (O I:List Sn) (V:Vw):Vw:=(applyR O I V).getD V
def bx (O I:List Sn) (V:Vw):Bool:=(applyR O I V).isSome
theorem nx_is (O I:List Sn) (V:Vw):if bx O I V then applyR O I V=some (nx O I V) else (applyR O I V=none∧nx O I V=V):=by
 unfold nx bx
 cases applyR O I V with
 |none=>exact ⟨rfl,rfl⟩
 |some V2=>rfl
theorem nx_ok {O I:List Sn} {V:Vw} {n:Nat} (hv:OpsP.Vok V) (hc:Cap n V):Cap (n+I.length) (nx O I V)∧(nx O I V).length≤V.length+I.length:=by
 have h:=nx_is O I V
 generalize nx O I V=V2 at *
 generalize bx O I V=b at *
 cases b with
 |false=>obtain ⟨-,rfl⟩:=h;exact ⟨hc.mono (by omega),by omega⟩
 |true=>
  replace h:applyR O I V=some V2:=h
  unfold applyR at h
  split at h
  ·rename_i hm
   simp only [Bool.and_eq_true] at hm
   have:=hc.apply hv (Ops.rc_nz (Ops.mays_nm hm.1)) (Ops.rc_nz (Ops.mays_nm hm.2)) h
   rwa [List.length_map] at this
  ·cases h
structure PV (w0 w:World) (B:Nat) (V:Vw) (F:List Nat) (h:Nat) (D:List It) (R:List Nat):Prop where
 v:VS w0 w B V F
 d:DV w h D R
 g:∀b∈R,w0.heap.size≤b
 s:∀b∈R,b∉F
section
variable {w0 w w':World} {B:Nat} {V V2:Vw} {F:List Nat} {h:Nat} {D:List It} {R:List Nat}
theorem PV.keep (H:PV w0 w B V F h D R) (hf:Fr (fun _=>False) w w'):PV w0 w' B V F h D R:=⟨H.v.keep hf,H.d.keep hf,H.g,H.s⟩
theorem PV.below (H:PV w0 w B V F h D R) (hb:Below w.heap.size w w'):PV w0 w' B V F h D R:=H.keep (Fr.of_below' hb _)
theorem PV.apply (H:PV w0 w B V F h D R) (d:Dl) (hd0:RdD w0 d) (b:Bool) (hr:if b then applyR d.O d.I V=some V2 else (applyR d.O d.I V=none∧V2=V)) (lV:V.length≤1000000) (lO:d.O.length≤100000) (lI:d.I.length≤100000):
  Calls prog 25 #[.pointer (some ⟨B,0,none⟩),d.v] w fun e w'=>e=.returned (.bool b)∧∃F',PV w0 w' B V2 F' h D R:=by
 have nin:∀ {A:Option Addr} {c:Nat} {L:List Sn},Ls w0 A c L→∀a,A=some a→L≠ []→a.block∉F:=fun hL a ha hne hm=>by
  have:=ls_lt hL a ha hne;have:=H.v.g _ hm;omega
 refine (ApplyT H.v d (hd0.below H.v.b) (nin hd0.o) (nin hd0.i) lV lO lI b hr).mono ?_
 rintro e w' ⟨rfl,F',hv,ht⟩
 refine ⟨rfl,F',hv,H.d.fr ht.fr H.s,H.g,fun x hx hm=>?_⟩
 rcases (ht.sub x hm).1 with h|h
 ·exact H.s x hx h
 ·have:=H.d.r.2 x hx;omega
theorem PV.applyX (H:PV w0 w B V2 F h D R) (d:Dl) (hd0:RdD w0 d) (hv:OpsP.Vok (itV D)) (b:Bool) (hr:if b then applyR d.O d.I (itV D)=some V2 else (applyR d.O d.I (itV D)=none∧V2=itV D)) (lD:D.length≤900000) (lO:d.O.length≤100000) (lI:d.I.length≤100000):
  Calls prog 26 #[.pointer (some ⟨h,0,none⟩),d.v] w fun e w'=>e=.returned (.bool b)∧∃D' R',PV w0 w' B V2 F h D' R'∧itV D'=V2:=by
 refine (Rf26.Apply h D R d w H.d hv (hd0.below H.v.b) lD lO lI).mono ?_
 rintro e w' ⟨b',D',R',rfl,ha,ho⟩
 have hp:PV w0 w' B V2 F h D' R':=by
  refine ⟨H.v.fr ha.f (fun i hi e=>by have:=H.g _ H.d.r.1;omega) (fun x hx e=>H.s h H.d.r.1 (e▸hx)),ha.v,fun x hx=>?_,fun x hx hm=>?_⟩
  ·rcases ha.r x hx with h1|h1
   ·exact H.g x h1
   ·exact Nat.le_trans H.v.b.size h1
  ·rcases ha.r x hx with h1|h1
   ·exact H.s x h1 hm
   ·have:=H.v.lt x hm;omega
 cases b with
 |true=>
  replace hr:applyR d.O d.I (itV D)=some V2:=hr
  rcases ho with ⟨rfl,h3⟩| ⟨-,h3,-⟩
  ·exact ⟨rfl,D',R',hp,Option.some.inj (h3.symm.trans hr)⟩
  ·rw [hr] at h3;cases h3
 |false=>
  replace hr:applyR d.O d.I (itV D)=none∧V2=itV D:=hr
  rcases ho with ⟨-,h3⟩| ⟨rfl,-,h3⟩
  ·rw [hr.1] at h3;cases h3
  ·exact ⟨rfl,D',R',hp,by rw [h3,hr.2]⟩
structure P3 (w0 w:World) (B:Nat) (V:Vw) (F:List Nat) (h:Nat) (D:List It) (R:List Nat) (A:Option Addr) (c:Nat) (T:List Tl):Prop extends PV w0 w B V F h D R where
 t:TL w A c T
structure P4 (w0 w:World) (B:Nat) (V:Vw) (F:List Nat) (h:Nat) (D:List It) (R:List Nat) (A:Option Addr) (c:Nat) (T:List Tl) (A':Option Addr) (c':Nat) (U:List Tl):Prop extends P3 w0 w B V F h D R A c T where
 u:TL w A' c' U
structure P5 (w0 w:World) (B:Nat) (V:Vw) (F:List Nat) (h:Nat) (D:List It) (R:List Nat) (A:Option Addr) (c:Nat) (L:List ByteArray):Prop extends PV w0 w B V F h D R where
 t:Sl w 1 A L.length c (strs L)
structure P6 (w0 w:World) (B:Nat) (V:Vw) (F:List Nat) (h:Nat) (D:List It) (R:List Nat) (A:Option Addr) (c:Nat) (L:List ByteArray) (A':Option Addr) (c':Nat):Prop extends P5 w0 w B V F h D R A c L where
 u:Sl w 1 A' L.length c' (strs L)
theorem PV.all (H:PV w0 w B V F h D R) (lV:V.length≤1000000):Calls prog 28 #[.pointer (some ⟨B,0,none⟩)] w fun e w'=>∃T A c,e=.returned (.slice A T.length c)∧T.map Tl.v=V.map (·.2)∧P3 w0 w' B V F h D R A c T:=
 (Law26.All H.v lV).mono (fun _e _w' ⟨T,A,c,h1,h2,h3,h4⟩=>⟨T,A,c,h1,h2,H.below h4,h3.s,h3.b⟩)
theorem PV.allX' (H:PV w0 w B V F h D R) (hD:itV D=V) (lV:V.length≤1000000):Calls prog 29 #[.pointer (some ⟨h,0,none⟩)] w fun e w'=>∃A c,e=.returned (.slice A (D.map tl).length c)∧TL w' A c (D.map tl)∧Below w.heap.size w w':=by
 subst hD
 exact (Rf26.All h D R w H.d H.v.k (by rwa [Rf26.itlen] at lV)).mono (fun e w' ⟨A,c,h1,h3,h4⟩=>⟨A,c,h1,⟨h3.s,h3.b⟩,h4⟩)
variable {A A':Option Addr} {c c':Nat} {T U:List Tl} {L:List ByteArray}
theorem P3.allX (H:P3 w0 w B V F h D R A c T) (hD:itV D=V) (lV:V.length≤1000000):Calls prog 29 #[.pointer (some ⟨h,0,none⟩)] w fun e w'=>∃U A' c',e=.returned (.slice A' U.length c')∧U.map Tl.v=V.map (·.2)∧P4 w0 w' B V F h D R A c T A' c' U:=
 (H.toPV.allX' hD lV).mono (fun e w' ⟨A',c',h1,h2,h4⟩=>⟨D.map tl,A',c',h1,by subst hD;simp [itV],⟨H.toPV.below h4,H.t.below h4⟩,h2⟩)
theorem P4.same (H:P4 w0 w B V F h D R A c T A' c' U) (e1:T.map Tl.v=V.map (·.2)) (e2:U.map Tl.v=V.map (·.2)) (lV:V.length≤1000000):Calls prog 27 #[.slice A T.length c,.slice A' U.length c'] w fun e w'=>e=.returned (.bool true)∧PV w0 w' B V F h D R:=
 (Rf26.Same H.t.s H.u.s H.t.b H.u.b (e1.trans e2.symm) (by have:=congrArg List.length e1;rw [List.length_map,List.length_map] at this;omega)).mono (fun e w' h=>⟨h.1,H.toPV.keep h.2⟩)
theorem PV.svc (H:PV w0 w B V F h D R) (lV:V.length≤1000000):Calls prog 31 #[.pointer (some ⟨B,0,none⟩)] w fun e w'=>∃A c,e=.returned (.slice A (svc V).length c)∧P5 w0 w' B V F h D R A c (svc V):=
 (Law26.Services H.v lV).mono (fun _e _w' ⟨A,c,h1,h2,_,h4⟩=>⟨A,c,h1,H.below h4,h2⟩)
theorem P5.svcX (H:P5 w0 w B V F h D R A c L) (hD:itV D=V) (hL:svc V=L) (lV:V.length≤1000000):Calls prog 32 #[.pointer (some ⟨h,0,none⟩)] w fun e w'=>∃A' c',e=.returned (.slice A' L.length c')∧P6 w0 w' B V F h D R A c L A' c':=by
 subst hD;subst hL
 exact (Rf26.Services h D R w H.d (by rwa [Rf26.itlen] at lV)).mono (fun e w' ⟨A',c',h1,h2,_,h4⟩=>⟨A',c',h1,⟨H.toPV.below h4,H.t.fr (Fr.of_below' h4 (fun _=>False)) (fun _ _ h=>h)⟩,h2⟩)
theorem P6.same (H:P6 w0 w B V F h D R A c L A' c'):Calls prog 30 #[.slice A L.length c,.slice A' L.length c'] w fun e w'=>e=.returned (.bool true)∧PV w0 w' B V F h D R:=
 (SmT.SameTexts A A' c c' L L w H.t H.u).mono (fun e w' h=>⟨by rw [h.1];simp,H.toPV.keep h.2⟩)
end
theorem few_short {L:List Sn} {n:Nat} (h:fewB L n=true) {x:Sn} (hx:x∈L):x.s.size+x.o.size≤1000000:=by
 unfold fewB at h
 simp only [Bool.and_eq_true,decide_eq_true_eq] at h
 rw [List.take_of_length_le h.2] at h
 have:=List.all_eq_true.1 h.1 x hx
 unfold shortB at this
 simp at this
 omega
theorem dl_at {l:List Dl} {k:Nat} (hk:k<l.length):(l.flatMap Dl.cs)[k*2]? =some (.slice l[k].A1 l[k].O.length l[k].c1)∧(l.flatMap Dl.cs)[k*2+1]? =some (.slice l[k].A2 l[k].I.length l[k].c2):=by
 have h0:=flat_at (f:=Dl.cs) (sz:=2) (fun _=>rfl) hk (j:=0) (by omega)
 have h1:=flat_at (f:=Dl.cs) (sz:=2) (fun _=>rfl) hk (j:=1) (by omega)
 rw [Nat.add_zero] at h0
 exact ⟨h0,h1⟩
theorem toB {w w':World} (hf:Fr (fun _=>False) w w'):Below w.heap.size w w':=hf.below (Nat.le_refl _) (fun _ _ h=>h)
structure YB (w:World) (b:Nat) (y:Sn):Prop where
 h:Bk w b y.arr TSn
theorem YB.below {w w':World} {b:Nat} {y:Sn} (H:YB w b y) (hb:Below w.heap.size w w'):YB w' b y:=⟨H.h.fr (Fr.of_below' hb (fun _=>False)) (fun _ _ h=>h)⟩
structure EB (w:World) (b:Nat) (e:Tl):Prop where
 h:Bk w b #[.string e.n.1,.string e.n.2,.int .i64 (sumL e.x.1),.int .i64 e.x.2.1,.int .i64 e.x.2.2,.slice e.A e.x.1.length e.c] TO
 s:Sl w 2 e.A e.x.1.length e.c (e.x.1.flatMap Bag.pc)
theorem EB.below {w w':World} {b:Nat} {e:Tl} (H:EB w b e) (hb:Below w.heap.size w w'):EB w' b e:=⟨H.h.fr (Fr.of_below' hb (fun _=>False)) (fun _ _ h=>h),H.s.fr (Fr.of_below' hb (fun _=>False)) (fun _ _ h=>h)⟩
structure HB5 (w:World) (b:Nat) (x:HS):Prop where
 h:∃F,Ref25.RH w b x F
structure P7 (w0 w:World) (B:Nat) (V:Vw) (F:List Nat) (h:Nat) (D:List It) (R:List Nat) (Ba:Nat) (e:Tl):Prop extends PV w0 w B V F h D R where
 e:EB w Ba e
structure P8 (w0 w:World) (B:Nat) (V:Vw) (F:List Nat) (h:Nat) (D:List It) (R:List Nat) (Ba:Nat) (e:Tl) (b p:Nat) (f:Tl):Prop extends P7 w0 w B V F h D R Ba e where
 r:∀j u,f.cs[j]? =some u→w.cell? ⟨b,p+j,none⟩=some u
 s2:Sl w 2 f.A f.x.1.length f.c (f.x.1.flatMap Bag.pc)
section
variable {w0 w w':World} {B:Nat} {V V2:Vw} {F:List Nat} {h:Nat} {D:List It} {R:List Nat} {Ba:Nat} {e f:Tl}
theorem P7.below (H:P7 w0 w B V F h D R Ba e) (hb:Below w.heap.size w w'):P7 w0 w' B V F h D R Ba e:=⟨H.toPV.below hb,H.e.below hb⟩
theorem P7.allAt (H:P7 w0 w B V F h D R Ba e) (hD:itV D=V) (lV:V.length≤1000000) {i:Nat} (hi:i<D.length) (hf:tl D[i]=f):Calls prog 29 #[.pointer (some ⟨h,0,none⟩)] w fun r w'=>∃b o c,r=.returned (.slice (some ⟨b,o,none⟩) D.length c)∧P8 w0 w' B V F h D R Ba e b (o+i*6) f:=by
 refine (H.toPV.allX' hD lV).mono ?_
 rintro r w' ⟨A,c,rfl,ht,hb⟩
 have hi':i<(D.map tl).length:=by rw [List.length_map];exact hi
 obtain ⟨b,o,rfl,-,hc⟩:=ht.s.at hi' (by omega)
 have hf':(D.map tl)[i]=f:=by rw [List.getElem_map];exact hf
 refine ⟨b,o,c,by rw [List.length_map],H.below hb,fun j u hu=>?_,?_⟩
 ·have hj:j<6:=by have:=(List.getElem?_eq_some_iff.1 hu).1;simpa using this
  have h1:=hc (i*6+j) u (by rw [flat_at Tl.cs_len hi' hj,hf'];exact hu)
  rw [←Nat.add_assoc] at h1;exact h1
 ·rw [←hf'];exact ht.b _ (List.getElem_mem hi')
theorem P8.one {b p:Nat} (H:P8 w0 w B V F h D R Ba e b p f) (hv:e.v=f.v):Calls prog 38 #[.agg #[.string e.n.1,.string e.n.2,.int .i64 (sumL e.x.1),.int .i64 e.x.2.1,.int .i64 e.x.2.2,.slice e.A e.x.1.length e.c],.agg #[.string f.n.1,.string f.n.2,.int .i64 (sumL f.x.1),.int .i64 f.x.2.1,.int .i64 f.x.2.2,.slice f.A f.x.1.length f.c]] w fun r w'=>r=.returned (.bool true)∧P7 w0 w' B V F h D R Ba e:=
 (Rf26.One e f w H.e.s H.s2 hv).mono (fun _r _w' h=>⟨h.1,H.toP7.below (toB h.2)⟩)
theorem PV.findN (H:PV w0 w B V F h D R) (hD:itV D=V) (lV:V.length≤1000000) (s o:ByteArray) (hg:getL (key (s,o)) V=none):Calls prog 34 #[.pointer (some ⟨h,0,none⟩),.string s,.string o] w fun r w'=>r=.returned (.int .i64 (-1))∧Below w.heap.size w w':=by
 subst hD
 refine (Rf26.Find h D R s o w H.d (by rwa [Rf26.itlen] at lV)).mono ?_
 rintro r w' ⟨hr,rfl⟩
 rcases hr with ⟨i,hi,hn,rfl⟩| ⟨-,rfl⟩
 ·have hm:(key (s,o),(D[i].n,D[i].x))∈itV D:=List.mem_map.2 ⟨D[i],List.getElem_mem hi,Prod.ext (congrArg key hn) rfl⟩
  rw [mem_getL H.v.k.srt hm] at hg;cases hg
 ·exact ⟨rfl,Below.refl _ _⟩
theorem PV.findS (H:PV w0 w B V F h D R) (hD:itV D=V) (lV:V.length≤1000000) (s o:ByteArray) {q:Nm × HS} (hg:getL (key (s,o)) V=some q):Calls prog 34 #[.pointer (some ⟨h,0,none⟩),.string s,.string o] w fun r w'=>∃i:Nat,r=.returned (.int .i64 (i:Int))∧(∃hi:i<D.length,(tl D[i]).v=((s,o),q.2))∧Below w.heap.size w w':=by
 subst hD
 refine (Rf26.Find h D R s o w H.d (by rwa [Rf26.itlen] at lV)).mono ?_
 rintro r w' ⟨hr,rfl⟩
 rcases hr with ⟨i,hi,hn,rfl⟩| ⟨hno,rfl⟩
 ·have h1:=Rf26.itV_get H.v.k hi hn
  rw [hget_some hg] at h1
  exact ⟨i,rfl,⟨hi,Prod.ext hn h1.symm⟩,Below.refl _ _⟩
 ·rw [Rf26.itV_none H.v.k hno] at hg;cases hg
theorem PV.quant (H:PV w0 w B V F h D R) (s o:ByteArray) (p:Int) (hl:s.size+o.size≤1000000) {X:HS} (hX:hget (s,o) V=X) {lo hi:Int} {is:Bool} (hq:quant X p=(lo,hi,is)):Calls prog 35 #[.pointer (some ⟨B,0,none⟩),.string s,.string o,.int .i64 p] w fun r w'=>r=.returned (.tuple #[.int .i64 lo,.int .i64 hi,.bool is])∧Below w.heap.size w w':=
 (Quantile H.v s o p hl).mono (fun r w' h=>⟨by rw [h.1,hX,hq],toB h.2⟩)
theorem PV.hist (H:PV w0 w B V F h D R) (hD:itV D=V) (lV:V.length≤1000000) (s o:ByteArray) {X:HS} (hX:hget (s,o) V=X):Calls prog 36 #[.pointer (some ⟨h,0,none⟩),.string s,.string o] w fun r w'=>∃A c,r=.returned (.agg #[.slice A X.1.length c,.int .i64 X.2.1,.int .i64 X.2.2])∧HB5 (w'.alloc (.cells #[.slice A X.1.length c,.int .i64 X.2.1,.int .i64 X.2.2] TRh)) w'.heap.size X∧Below w.heap.size w w':=by
 subst hD
 subst hX
 refine (Rf26.Hist h D R s o w H.d H.v.k (by rwa [Rf26.itlen] at lV)).mono ?_
 rintro r w' ⟨A,c,rfl,h1,h2,h3⟩
 exact ⟨A,c,rfl,⟨_,Rf26.boxed h1 (H.v.k.wfget (s,o)) h2 (H.d.keep h3)⟩,toB h3⟩
theorem HB5.quant {b:Nat} {X:HS} (H:HB5 w b X) (hn:sumL X.1≤1000000) (p:Int) {lo hi:Int} {is:Bool} (hq:quant X p=(lo,hi,is)):Calls prog 37 #[.pointer (some ⟨b,0,none⟩),.int .i64 p] w fun r w'=>r=.returned (.tuple #[.int .i64 lo,.int .i64 hi,.bool is])∧Below w.heap.size w w':=by
 obtain ⟨F,h⟩:=H.h
 exact (Ref25.Quantile b p X F w h hn).mono (fun r w' h=>⟨by rw [h.1,hq],toB h.2⟩)
theorem PV.getN (H:PV w0 w B V F h D R) (s o:ByteArray) (hl:s.size+o.size≤1000000) (hg:getL (key (s,o)) V=none):Calls prog 33 #[.pointer (some ⟨B,0,none⟩),.string s,.string o] w fun r w'=>r=.returned (.tuple #[.agg #[.string ⟨#[]⟩,.string ⟨#[]⟩,.int .i64 0,.int .i64 0,.int .i64 0,.slice none 0 0],.bool false])∧Below w.heap.size w w':=
 (Get_none H.v s o hl hg).mono (fun _r _w' h=>⟨h.1,toB h.2⟩)
theorem PV.getS (H:PV w0 w B V F h D R) (s o:ByteArray) (hl:s.size+o.size≤1000000) {q:Nm × HS} (hg:getL (key (s,o)) V=some q):Calls prog 33 #[.pointer (some ⟨B,0,none⟩),.string s,.string o] w fun r w'=>∃e:Tl,r=.returned (.tuple #[.agg #[.string e.n.1,.string e.n.2,.int .i64 (sumL e.x.1),.int .i64 e.x.2.1,.int .i64 e.x.2.2,.slice e.A e.x.1.length e.c],.bool true])∧e.v=((s,o),q.2)∧EB (w'.alloc (.cells #[.string e.n.1,.string e.n.2,.int .i64 (sumL e.x.1),.int .i64 e.x.2.1,.int .i64 e.x.2.2,.slice e.A e.x.1.length e.c] TO)) w'.heap.size e∧Below w.heap.size w w':=by
 refine (Get_some H.v s o hl hg).mono ?_
 rintro r w' ⟨A,c,rfl,h1,-,h3⟩
 exact ⟨⟨(s,o),q.2,A,c⟩,rfl,rfl,⟨Bk.new _ _ _,h1.fr (Fr.alloc (fun _=>False) _ _) (fun _ _ h=>h)⟩,toB h3⟩
end
theorem Services_nil (w:World):Calls prog 31 #[.pointer none] w fun e w'=>e=.returned (.slice none 0 0)∧Fr (fun _=>False) w w':=by
 go_enter func31,ntmps31
 go_wp2_with fail
 refine (Ops.All_nil w).mono ?_
 rintro e w1 ⟨rfl,hf⟩
 have HF:=Lib.hid hf
 clear hf
 go_wp2_with fail
 go_loopg [3,9] 0 (fun gk v i wr=>v=.slice none 0 0∧i=.int .i64 0∧gk=0∧wr=w1)
 case atStart=>exact ⟨rfl,rfl,rfl,rfl⟩
 case round=>
  obtain ⟨rfl,rfl,rfl,rfl⟩:=hrel
  go_wp2_with fail
  refine (Ops.Compact_empty wr).mono ?_
  rintro e w2 ⟨rfl,rfl⟩
  go_wp2_with fail
  go_ret
  exact ⟨rfl,HF.out⟩
theorem pl11 {ops:Array Oper} (hops:Eng.fnOps Tryz.f4 11=ops) (a0:Act) (Q:Exit→Act→World→Prop) (w0 w:World) (B:Nat) (V V2:Vw) (F:List Nat) (h:Nat) (D:List It) (R:List Nat) (b1 o1 len c i:Nat) (A1 A2:Option Addr) (c1 c2:Nat) (O I:List Sn) (hin:∀W':World,Below w0.heap.size w0 W'→W'.cell? ⟨b1,o1+i*2,none⟩=some (.slice A1 O.length c1)∧W'.cell? ⟨b1,o1+i*2+1,none⟩=some (.slice A2 I.length c2)) (hd0:RdD w0 ⟨A1,c1,O,A2,c2,I⟩) (hlo:O.length≤12) (hli:I.length≤12) (bb:Bool) (hr:if bb then applyR O I V=some V2 else (applyR O I V=none∧V2=V)) (hst:PV w0 w B V F h D R) (hD:Hid (itV D=V)) (lV:V.length≤1000) (lV2:V2.length≤1000) (hk:i<len) (_hlen:len≤9223372036854775807)
  (hn:a0.tmps.size=186) (h_0:a0.tmps.getD 0 undef=.slice (some ⟨b1,o1,none⟩) len c) (h_5:a0.tmps.getD 5 undef=.pointer (some ⟨B,0,none⟩)) (h_7:a0.tmps.getD 7 undef=.pointer (some ⟨h,0,none⟩)) (h_8:a0.tmps.getD 8 undef=.int .i64 (i:Int))
  (hpost:∀ (x:Nat→Value) (w':World) (F':List Nat) (D':List It) (R':List Nat),x 65=.bool false→PV w0 w' B V2 F' h D' R'→itV D'=V2→Q .normal (Eng.setAll a0 [40,41,42,43,44,45,46,47,48,49,50,51,52,53,54,55,56,57,58,59,60,61,62,63,64,65] x) w'):
  (Code.region 11 ops true).wp prog Q a0 w:=by
 simp only [Eng.fnOps,Eng.regOps,Tryz.f4,Option.bind_some,Option.getD_some,Nat.reduceEqDiff,↓reduceIte] at hops
 subst hops
 have q1:(0:Int)≤(i:Int):=by omega
 have q2':(i:Int)<(len:Int):=by omega
 have q5:(bb != bb)=false:=by simp
 have HVk:Hid (OpsP.Vok (itV D)):=by show OpsP.Vok _;rw [hD.out];exact hst.v.k
 have HR2:Hid (if bb then applyR O I (itV D)=some V2 else (applyR O I (itV D)=none∧V2=itV D)):=by show ite _ _ _;rw [hD.out];exact hr
 have lD:D.length≤900000:=by have:=congrArg List.length hD.out;rw [Rf26.itlen] at this;omega
 have HSt:=Lib.hid (hst.keep (Fr.drew _ _))
 refine Eng.regionN [(0,true),(1,true),(2,true),(3,true),(5,true),(6,true),(7,true),(8,true),(9,true),(4,false),(10,false),(11,true),(12,true),(14,true),(13,false),(15,false),(16,false),(17,true),(18,true),(19,true),(21,true),(20,false),(22,false),(23,false),(24,true),(25,true)] (fun w'=>w'.cell? ⟨b1,o1+i*2,none⟩=some (.slice A1 O.length c1)∧w'.cell? ⟨b1,o1+i*2+1,none⟩=some (.slice A2 I.length c2)) (by kernel_rfl) 186 hn (by kernel_rfl) rfl (by kernel_rfl) (⟨(hin _ HSt.out.v.b).1,(hin _ HSt.out.v.b).2⟩) (fun a b ha hb=>?_)
 subst ha
 have hb0:b 0=.slice (some ⟨b1,o1,none⟩) len c:=(hb 0).symm.trans h_0
 have hb5:b 5=.pointer (some ⟨B,0,none⟩):=(hb 5).symm.trans h_5
 have hb7:b 7=.pointer (some ⟨h,0,none⟩):=(hb 7).symm.trans h_7
 have hb8:b 8=.int .i64 (i:Int):=(hb 8).symm.trans h_8
 clear hb h_0 h_5 h_7 h_8
 have HP:=Lib.hid hpost;have HN:=Lib.hid hn
 clear hpost hn
 iterate 9 (refine Eng.Sch.tk ?_)
 refine Eng.Sch.call rfl rfl (by decide) (by kernel_rfl) ?_ (HSt.out.apply ⟨A1,c1,O,A2,c2,I⟩ hd0 bb hr (by omega) (by show O.length≤_;omega) (by show I.length≤_;omega)) ?_
 ·go_simp
 rintro e w2 ⟨rfl,F2,hP1⟩
 have HSt1:=Lib.hid (hP1)
 refine ⟨_,rfl,⟨(hin _ HSt1.out.v.b).1,(hin _ HSt1.out.v.b).2⟩,?_⟩
 refine Eng.Sch.call rfl rfl (by decide) (by kernel_rfl) ?_ (HSt1.out.applyX ⟨A1,c1,O,A2,c2,I⟩ hd0 HVk.out bb HR2.out lD (by show O.length≤_;omega) (by show I.length≤_;omega)) ?_
 ·go_simp
 rintro e w3 ⟨rfl,D2,R2,hP2,hd2⟩
 have HSt2:=Lib.hid (hP2)
 have HD2:=Lib.hid hd2
 clear hd2
 refine ⟨_,rfl,⟨(hin _ HSt2.out.v.b).1,(hin _ HSt2.out.v.b).2⟩,?_⟩
 iterate 3 (refine Eng.Sch.tk ?_)
 refine Eng.Sch.call rfl rfl (by decide) (by kernel_rfl) ?_ (HSt2.out.all (by omega)) ?_
 ·go_simp
 rintro e w4 ⟨T1,A8,c8,rfl,ht1,hP3⟩
 have HSt3:=Lib.hid (hP3)
 have HT1:=Lib.hid ht1
 clear ht1
 refine ⟨_,rfl,⟨(hin _ HSt3.out.v.b).1,(hin _ HSt3.out.v.b).2⟩,?_⟩
 refine Eng.Sch.call rfl rfl (by decide) (by kernel_rfl) ?_ (HSt3.out.allX HD2.out (by omega)) ?_
 ·go_simp
 rintro e w5 ⟨U1,A9,c9,rfl,hu1,hP4⟩
 have HSt4:=Lib.hid (hP4)
 have HU1:=Lib.hid hu1
 clear hu1
 refine ⟨_,rfl,⟨(hin _ HSt4.out.v.b).1,(hin _ HSt4.out.v.b).2⟩,?_⟩
 refine Eng.Sch.call rfl rfl (by decide) (by kernel_rfl) ?_ (HSt4.out.same HT1.out HU1.out (by omega)) ?_
 ·go_simp
 rintro e w6 ⟨rfl,hP5⟩
 have HSt5:=Lib.hid (hP5)
 refine ⟨_,rfl,⟨(hin _ HSt5.out.v.b).1,(hin _ HSt5.out.v.b).2⟩,?_⟩
 iterate 4 (refine Eng.Sch.tk ?_)
 refine Eng.Sch.call rfl rfl (by decide) (by kernel_rfl) ?_ (HSt5.out.svc (by omega)) ?_
 ·go_simp
 rintro e w7 ⟨A10,c10,rfl,hP6⟩
 have HSt6:=Lib.hid (hP6)
 refine ⟨_,rfl,⟨(hin _ HSt6.out.v.b).1,(hin _ HSt6.out.v.b).2⟩,?_⟩
 refine Eng.Sch.call rfl rfl (by decide) (by kernel_rfl) ?_ (HSt6.out.svcX HD2.out rfl (by omega)) ?_
 ·go_simp
 rintro e w8 ⟨A11,c11,rfl,hP7⟩
 have HSt7:=Lib.hid (hP7)
 refine ⟨_,rfl,⟨(hin _ HSt7.out.v.b).1,(hin _ HSt7.out.v.b).2⟩,?_⟩
 refine Eng.Sch.call rfl rfl (by decide) (by kernel_rfl) ?_ (HSt7.out.same) ?_
 ·go_simp
 rintro e w9 ⟨rfl,hP8⟩
 have HSt8:=Lib.hid (hP8)
 refine ⟨_,rfl,⟨(hin _ HSt8.out.v.b).1,(hin _ HSt8.out.v.b).2⟩,?_⟩
 refine Eng.Sch.tk ?_
 refine Eng.Sch.tk ?_
 refine Eng.Sch.end_ [40,41,42,43,44,45,46,47,48,49,50,51,52,53,54,55,56,57,58,59,60,61,62,63,64,65] HN.out (by kernel_rfl) (by kernel_rfl) ?_
 exact HP.out _ _ _ _ _ rfl HSt8.out HD2.out
theorem pl22n {ops:Array Oper} (hops:Eng.fnOps Tryz.f4 22=ops) (a0:Act) (Q:Exit→Act→World→Prop) (w0 w:World) (B:Nat) (V:Vw) (F:List Nat) (h:Nat) (D:List It) (R:List Nat) (ql qh:Int) (qi:Bool) (hst:PV w0 w B V F h D R)
  (hn:a0.tmps.size=186) (h_12:a0.tmps.getD 12 undef=.bool false) (h_13:a0.tmps.getD 13 undef=.int .i64 (-1)) (h_14:a0.tmps.getD 14 undef=.int .i64 ql) (h_15:a0.tmps.getD 15 undef=.int .i64 qh) (h_16:a0.tmps.getD 16 undef=.bool qi) (h_18:a0.tmps.getD 18 undef=.int .i64 ql) (h_19:a0.tmps.getD 19 undef=.int .i64 qh) (h_20:a0.tmps.getD 20 undef=.bool qi)
  (hpost:∀ (x:Nat→Value) (w':World),x 151=.bool false→PV w0 w' B V F h D R→Q .normal (Eng.setAll a0 [120,121,122,123,124,125,126,127,128,129,130,131,132,133,134,135,136,137,138,139,140,141,142,143,144,145,146,147,148,149,150,151] x) w'):
  (Code.region 22 ops true).wp prog Q a0 w:=by
 simp only [Eng.fnOps,Eng.regOps,Tryz.f4,Option.bind_some,Option.getD_some,Nat.reduceEqDiff,↓reduceIte] at hops
 subst hops
 have q5:(qi != qi)=false:=by simp
 have q6:(ql != ql)=false:=by simp
 have q7:(qh != qh)=false:=by simp
 have q8:decide ((-1:Int)≥0)=false:=by decide
 have q9:decide ((0:Int)≤ -1)=false:=by decide
 have HSt:=Lib.hid (hst.keep (Fr.drew _ _))
 refine Eng.regionN [(0,true),(1,true),(2,true),(3,true),(4,true),(5,true),(6,true),(7,true),(8,true),(9,true),(10,true),(11,true),(12,true),(13,true),(14,true),(15,true),(16,true),(17,true),(18,true),(19,true),(20,true),(21,true),(22,true),(23,true),(24,true),(25,true),(26,true),(27,true),(28,true),(29,true),(30,true),(31,true)] (fun w'=>True) (by kernel_rfl) 186 hn (by kernel_rfl) rfl (by kernel_rfl) (trivial) (fun a b ha hb=>?_)
 subst ha
 have hb12:b 12=.bool false:=(hb 12).symm.trans h_12
 have hb13:b 13=.int .i64 (-1):=(hb 13).symm.trans h_13
 have hb14:b 14=.int .i64 ql:=(hb 14).symm.trans h_14
 have hb15:b 15=.int .i64 qh:=(hb 15).symm.trans h_15
 have hb16:b 16=.bool qi:=(hb 16).symm.trans h_16
 have hb18:b 18=.int .i64 ql:=(hb 18).symm.trans h_18
 have hb19:b 19=.int .i64 qh:=(hb 19).symm.trans h_19
 have hb20:b 20=.bool qi:=(hb 20).symm.trans h_20
 clear hb h_12 h_13 h_14 h_15 h_16 h_18 h_19 h_20
 have HP:=Lib.hid hpost;have HN:=Lib.hid hn
 clear hpost hn
 iterate 7 (refine Eng.Sch.tk ?_)
 iterate 8 (refine Eng.Sch.skip rfl rfl (by decide) (by kernel_rfl) ?_)
 iterate 17 (refine Eng.Sch.tk ?_)
 refine Eng.Sch.end_ [120,121,122,123,124,125,126,127,128,129,130,131,132,133,134,135,136,137,138,139,140,141,142,143,144,145,146,147,148,149,150,151] HN.out (by kernel_rfl) (by kernel_rfl) ?_
 exact HP.out _ _ rfl HSt.out
theorem pl22s {ops:Array Oper} (hops:Eng.fnOps Tryz.f4 22=ops) (a0:Act) (Q:Exit→Act→World→Prop) (w0 w:World) (B:Nat) (V:Vw) (F:List Nat) (h:Nat) (D:List It) (R:List Nat) (Ba i:Nat) (e f:Tl) (hD:Hid (itV D=V)) (lV:V.length≤1000) (hi':i<D.length) (hf:tl D[i]=f) (hv:e.v=f.v) (ql qh:Int) (qi:Bool) (hst:P7 w0 w B V F h D R Ba e)
  (hn:a0.tmps.size=186) (h_7:a0.tmps.getD 7 undef=.pointer (some ⟨h,0,none⟩)) (h_11:a0.tmps.getD 11 undef=.pointer (some ⟨Ba,0,none⟩)) (h_12:a0.tmps.getD 12 undef=.bool true) (h_13:a0.tmps.getD 13 undef=.int .i64 (i:Int)) (h_14:a0.tmps.getD 14 undef=.int .i64 ql) (h_15:a0.tmps.getD 15 undef=.int .i64 qh) (h_16:a0.tmps.getD 16 undef=.bool qi) (h_18:a0.tmps.getD 18 undef=.int .i64 ql) (h_19:a0.tmps.getD 19 undef=.int .i64 qh) (h_20:a0.tmps.getD 20 undef=.bool qi)
  (hpost:∀ (x:Nat→Value) (w':World),x 151=.bool false→PV w0 w' B V F h D R→Q .normal (Eng.setAll a0 [120,121,122,123,124,125,126,127,128,129,130,131,132,133,134,135,136,137,138,139,140,141,142,143,144,145,146,147,148,149,150,151] x) w'):
  (Code.region 22 ops true).wp prog Q a0 w:=by
 simp only [Eng.fnOps,Eng.regOps,Tryz.f4,Option.bind_some,Option.getD_some,Nat.reduceEqDiff,↓reduceIte] at hops
 subst hops
 have q5:(qi != qi)=false:=by simp
 have q6:(ql != ql)=false:=by simp
 have q7:(qh != qh)=false:=by simp
 have q1:(0:Int)≤(i:Int):=by omega
 have q2:(i:Int)<(D.length:Int):=by omega
 have q8:decide ((i:Int)≥0)=true:=by simp
 have q9:decide ((0:Int)≤(i:Int))=true:=by simp
 have HSt:=Lib.hid (hst.below (toB (Fr.drew _ _)))
 refine Eng.regionT (.take 0 (.take 1 (.take 2 (.take 3 (.take 4 (.take 5 (.take 6 (.take 7 (.take 8 (.take 10 (.alt 9 (.take 11 (.alt 12 (.alt 13 (.take 14 (.take 15 (.take 16 (.take 17 (.take 18 (.take 19 (.take 20 (.take 21 (.take 22 (.take 23 (.take 24 (.take 25 (.take 26 (.take 27 (.take 28 (.take 29 (.take 30 (.take 31 (.done))))))))))))))))))) (.stop)) (.stop))) (.stop)))))))))))) (fun w'=>w'.cell? ⟨Ba,0,none⟩=some (.string e.n.1)∧w'.cell? ⟨Ba,1,none⟩=some (.string e.n.2)∧w'.cell? ⟨Ba,2,none⟩=some (.int .i64 (sumL e.x.1))∧w'.cell? ⟨Ba,3,none⟩=some (.int .i64 e.x.2.1)∧w'.cell? ⟨Ba,4,none⟩=some (.int .i64 e.x.2.2)∧w'.cell? ⟨Ba,5,none⟩=some (.slice e.A e.x.1.length e.c)) (by kernel_rfl) 186 hn (by kernel_rfl) (by kernel_rfl) (by kernel_rfl) (⟨HSt.out.e.h.cell 0,HSt.out.e.h.cell 1,HSt.out.e.h.cell 2,HSt.out.e.h.cell 3,HSt.out.e.h.cell 4,HSt.out.e.h.cell 5⟩) (fun a b ha hb=>?_)
 subst ha
 have hb7:b 7=.pointer (some ⟨h,0,none⟩):=(hb 7).symm.trans h_7
 have hb11:b 11=.pointer (some ⟨Ba,0,none⟩):=(hb 11).symm.trans h_11
 have hb12:b 12=.bool true:=(hb 12).symm.trans h_12
 have hb13:b 13=.int .i64 (i:Int):=(hb 13).symm.trans h_13
 have hb14:b 14=.int .i64 ql:=(hb 14).symm.trans h_14
 have hb15:b 15=.int .i64 qh:=(hb 15).symm.trans h_15
 have hb16:b 16=.bool qi:=(hb 16).symm.trans h_16
 have hb18:b 18=.int .i64 ql:=(hb 18).symm.trans h_18
 have hb19:b 19=.int .i64 qh:=(hb 19).symm.trans h_19
 have hb20:b 20=.bool qi:=(hb 20).symm.trans h_20
 clear hb h_7 h_11 h_12 h_13 h_14 h_15 h_16 h_18 h_19 h_20
 have HP:=Lib.hid hpost;have HN:=Lib.hid hn
 clear hpost hn
 iterate 10 (refine Eng.TW.tk ?_)
 refine Eng.TW.call rfl rfl (by decide) (by kernel_rfl) ?_ (HSt.out.allAt hD.out (by omega) hi' hf) ?_
 ·go_simp
 rintro e w2 ⟨bU,oU,cU,rfl,hP1⟩
 have HSt2:=Lib.hid (hP1)
 have hSS:w2.cell? ⟨Ba,0,none⟩=some (.string e.n.1)∧w2.cell? ⟨Ba,1,none⟩=some (.string e.n.2)∧w2.cell? ⟨Ba,2,none⟩=some (.int .i64 (sumL e.x.1))∧w2.cell? ⟨Ba,3,none⟩=some (.int .i64 e.x.2.1)∧w2.cell? ⟨Ba,4,none⟩=some (.int .i64 e.x.2.2)∧w2.cell? ⟨Ba,5,none⟩=some (.slice e.A e.x.1.length e.c):=⟨HSt2.out.e.h.cell 0,HSt2.out.e.h.cell 1,HSt2.out.e.h.cell 2,HSt2.out.e.h.cell 3,HSt2.out.e.h.cell 4,HSt2.out.e.h.cell 5⟩
 refine ⟨_,rfl,hSS,?_⟩
 refine Eng.TW.tk ?_
 have r0:w2.cell? ⟨bU,oU+i*6,none⟩=some (.string f.n.1):=HSt2.out.r 0 _ rfl
 have r1:w2.cell? ⟨bU,oU+i*6+1,none⟩=some (.string f.n.2):=HSt2.out.r 1 _ rfl
 have r2:w2.cell? ⟨bU,oU+i*6+1+1,none⟩=some (.int .i64 (sumL f.x.1)):=HSt2.out.r 2 _ rfl
 have r3:w2.cell? ⟨bU,oU+i*6+1+1+1,none⟩=some (.int .i64 f.x.2.1):=HSt2.out.r 3 _ rfl
 have r4:w2.cell? ⟨bU,oU+i*6+1+1+1+1,none⟩=some (.int .i64 f.x.2.2):=HSt2.out.r 4 _ rfl
 have r5:w2.cell? ⟨bU,oU+i*6+1+1+1+1+1,none⟩=some (.slice f.A f.x.1.length f.c):=HSt2.out.r 5 _ rfl
 refine Eng.TW.step rfl rfl (by decide) (by kernel_rfl) (by go_simp;first|done|with_reducible rfl|exact ⟨rfl,rfl⟩) (⟨(HSt2.out).e.h.cell 0,(HSt2.out).e.h.cell 1,(HSt2.out).e.h.cell 2,(HSt2.out).e.h.cell 3,(HSt2.out).e.h.cell 4,(HSt2.out).e.h.cell 5⟩) ?_
 have HSt3:=Lib.hid (HSt2.out)
 have hSS:w2.cell? ⟨Ba,0,none⟩=some (.string e.n.1)∧w2.cell? ⟨Ba,1,none⟩=some (.string e.n.2)∧w2.cell? ⟨Ba,2,none⟩=some (.int .i64 (sumL e.x.1))∧w2.cell? ⟨Ba,3,none⟩=some (.int .i64 e.x.2.1)∧w2.cell? ⟨Ba,4,none⟩=some (.int .i64 e.x.2.2)∧w2.cell? ⟨Ba,5,none⟩=some (.slice e.A e.x.1.length e.c):=⟨HSt3.out.e.h.cell 0,HSt3.out.e.h.cell 1,HSt3.out.e.h.cell 2,HSt3.out.e.h.cell 3,HSt3.out.e.h.cell 4,HSt3.out.e.h.cell 5⟩
 refine Eng.TW.call rfl rfl (by decide) (by kernel_rfl) ?_ (HSt3.out.one hv) ?_
 ·go_simp
 rintro e w4 ⟨rfl,hP2⟩
 have HSt4:=Lib.hid (hP2)
 refine ⟨_,rfl,⟨HSt4.out.e.h.cell 0,HSt4.out.e.h.cell 1,HSt4.out.e.h.cell 2,HSt4.out.e.h.cell 3,HSt4.out.e.h.cell 4,HSt4.out.e.h.cell 5⟩,?_⟩
 iterate 18 (refine Eng.TW.tk ?_)
 refine Eng.TW.end_ [120,121,122,123,124,125,126,127,128,129,130,131,132,133,134,135,136,137,138,139,140,141,142,143,144,145,146,147,148,149,150,151] HN.out (by kernel_rfl) (by kernel_rfl) ?_
 exact HP.out _ _ rfl HSt4.out.toPV
theorem pl24 {ops:Array Oper} (hops:Eng.fnOps Tryz.f4 24=ops) (a0:Act) (Q:Exit→Act→World→Prop) (w0 w:World) (B:Nat) (V _V2:Vw) (F:List Nat) (h:Nat) (D:List It) (R:List Nat) (b1 o1 len c i:Nat) (A1 A2:Option Addr) (c1 c2:Nat) (O I:List Sn) (hin:∀W':World,Below w0.heap.size w0 W'→W'.cell? ⟨b1,o1+i*2,none⟩=some (.slice A1 O.length c1)∧W'.cell? ⟨b1,o1+i*2+1,none⟩=some (.slice A2 I.length c2)) (_hd0:RdD w0 ⟨A1,c1,O,A2,c2,I⟩) (hlo:O.length≤12) (hli:I.length≤12) (bz:Bool) (hbz:(((O.length+I.length:Nat):Int)==0)=bz) (hst:PV w0 w B V F h D R) (hk:i<len) (_hlen:len≤9223372036854775807)
  (hn:a0.tmps.size=186) (h_0:a0.tmps.getD 0 undef=.slice (some ⟨b1,o1,none⟩) len c) (h_6:a0.tmps.getD 6 undef=.pointer none) (h_8:a0.tmps.getD 8 undef=.int .i64 (i:Int))
  (hpost:∀ (x:Nat→Value) (w':World),x 184=.bool false→PV w0 w' B V F h D R→Q .normal (Eng.setAll a0 [152,153,154,155,156,157,158,159,160,161,162,163,164,165,166,167,168,169,170,171,172,173,174,175,176,177,178,179,180,181,182,183,184] x) w'):
  (Code.region 24 ops true).wp prog Q a0 w:=by
 simp only [Eng.fnOps,Eng.regOps,Tryz.f4,Option.bind_some,Option.getD_some,Nat.reduceEqDiff,↓reduceIte] at hops
 subst hops
 have q1:(0:Int)≤(i:Int):=by omega
 have q2':(i:Int)<(len:Int):=by omega
 have q5:(bz != bz)=false:=by simp
 have q6:((O.length:Int)+(I.length:Int)==0)=bz:=by rw [←hbz,Int.natCast_add]
 have q7:IntKind.i64.wrap ((O.length:Int)+(I.length:Int))=(O.length:Int)+(I.length:Int):=by rw [IntKind.wrap_i64];omega
 have HSt:=Lib.hid (hst.keep (Fr.drew _ _))
 refine Eng.regionN [(0,true),(1,true),(2,true),(3,true),(4,true),(6,true),(7,true),(8,true),(9,true),(10,true),(11,true),(12,true),(13,true),(14,true),(15,true),(16,true),(17,true),(18,true),(19,true),(5,false),(20,true),(21,true),(22,true),(23,false),(24,true),(25,true),(26,true),(27,true),(28,true),(29,false),(30,true),(31,true),(32,true)] (fun w'=>w'.cell? ⟨b1,o1+i*2,none⟩=some (.slice A1 O.length c1)∧w'.cell? ⟨b1,o1+i*2+1,none⟩=some (.slice A2 I.length c2)) (by kernel_rfl) 186 hn (by kernel_rfl) rfl (by kernel_rfl) (⟨(hin _ HSt.out.v.b).1,(hin _ HSt.out.v.b).2⟩) (fun a b ha hb=>?_)
 subst ha
 have hb0:b 0=.slice (some ⟨b1,o1,none⟩) len c:=(hb 0).symm.trans h_0
 have hb6:b 6=.pointer none:=(hb 6).symm.trans h_6
 have hb8:b 8=.int .i64 (i:Int):=(hb 8).symm.trans h_8
 clear hb h_0 h_6 h_8
 have HP:=Lib.hid hpost;have HN:=Lib.hid hn
 clear hpost hn
 iterate 19 (refine Eng.Sch.tk ?_)
 refine Eng.Sch.call rfl rfl (by decide) (by kernel_rfl) ?_ (Ops.Apply_nil ⟨A1,c1,O,A2,c2,I⟩ _ (by show O.length≤_;omega) (by show I.length≤_;omega) bz hbz) ?_
 ·go_simp
 rintro e w2 ⟨rfl,hf1⟩
 have HSt1:=Lib.hid (HSt.out.keep hf1)
 refine ⟨_,rfl,⟨(hin _ HSt1.out.v.b).1,(hin _ HSt1.out.v.b).2⟩,?_⟩
 iterate 3 (refine Eng.Sch.tk ?_)
 refine Eng.Sch.call rfl rfl (by decide) (by kernel_rfl) ?_ (Ops.All_nil _) ?_
 ·go_simp
 rintro e w3 ⟨rfl,hf2⟩
 have HSt2:=Lib.hid (HSt1.out.keep hf2)
 refine ⟨_,rfl,⟨(hin _ HSt2.out.v.b).1,(hin _ HSt2.out.v.b).2⟩,?_⟩
 iterate 5 (refine Eng.Sch.tk ?_)
 refine Eng.Sch.call rfl rfl (by decide) (by kernel_rfl) ?_ (Services_nil _) ?_
 ·go_simp
 rintro e w4 ⟨rfl,hf3⟩
 have HSt3:=Lib.hid (HSt2.out.keep hf3)
 refine ⟨_,rfl,⟨(hin _ HSt3.out.v.b).1,(hin _ HSt3.out.v.b).2⟩,?_⟩
 iterate 3 (refine Eng.Sch.tk ?_)
 refine Eng.Sch.end_ [152,153,154,155,156,157,158,159,160,161,162,163,164,165,166,167,168,169,170,171,172,173,174,175,176,177,178,179,180,181,182,183,184] HN.out (by kernel_rfl) (by kernel_rfl) ?_
 exact HP.out _ _ rfl HSt3.out
theorem PV.start (w:World):PV w ((w.alloc (.cells #[.pointer none,.int .i64 0] Ops.TV)).alloc (.cells #[.slice none 0 0] TDv)) w.heap.size [] (fl w.heap.size [] []) (w.heap.size+1) [] [w.heap.size+1]:=by
 have hv:VS w (w.alloc (.cells #[.pointer none,.int .i64 0] Ops.TV)) w.heap.size [] (fl w.heap.size [] []):=VS.new (Below.refl w.heap.size w)
 have hd:=DV.new (w.alloc (.cells #[.pointer none,.int .i64 0] Ops.TV))
 rw [World.size_alloc] at hd
 refine ⟨hv.keep (Fr.alloc _ _ _),hd,fun b hb=>?_,fun b hb=>?_⟩
 ·simp at hb;omega
 ·simp at hb;subst hb;simp [fl]
theorem plays (A0:Option Addr) (c0:Nat) (l:List Dl) (p:Int) (w:World) (hS:Sl w 2 A0 l.length c0 (l.flatMap Dl.cs)∧∀x∈l,RdD w x):
  Calls prog 4 #[.slice A0 l.length c0,.int .i64 p] w fun e w'=>e=.returned (.bool true)∧Below w.heap.size w w':=by
 have HSl:=Lib.hid hS.1;have HR:=Lib.hid hS.2
 have HB:=Lib.hid (Below.refl w.heap.size w)
 have hl64:l.length≤9223372036854775807:=by have:=hS.1.2.1;have:=hS.1.2.2.1;unfold maxLen at this;omega
 clear hS
 go_enter func4,ntmps4
 by_cases h8:l.length>8
 ·have q0:decide ((l.length:Int)>8)=true:=by simp;omega
  have q0':decide ((8:Int)<(l.length:Int))=true:=by simp;omega
  clear h8
  go_wp2_with fail
  refine (awake w).mono ?_
  rintro e w1 ⟨rfl,hb⟩
  replace HB:=Lib.hid (HB.out.trans (hb.mono HB.out.size))
  clear hb
  go_wp2_with fail
  go_ret
  exact ⟨rfl,HB.out⟩
 ·have q0:decide ((l.length:Int)>8)=false:=by simp;omega
  have q0':decide ((8:Int)<(l.length:Int))=false:=by simp;omega
  have h8':l.length≤8:=by omega
  clear h8
  go_upto_region 6 with (fail)
  have HP:=Lib.hid (PV.start w)
  clear HB
  generalize ((w.alloc (.cells #[.pointer none,.int .i64 0] Ops.TV)).alloc (.cells #[.slice none 0 0] TDv))=w1 at *
  generalize hBv:w.heap.size=B at HP ⊢
  obtain ⟨h,hh⟩:∃h,B+1=h:=⟨_,rfl⟩
  rw [hh] at HP
  (try rw [hh])
  clear hh
  go_wp2_with fail
  go_loopg [8] l.length (fun gk i wr=>∃ (k:Nat) (V:Vw) (F:List Nat) (D:List It) (R:List Nat),i=.int .i64 k∧k≤l.length∧gk=l.length-k∧PV w wr B V F h D R∧itV D=V∧Cap (12*k) V∧V.length≤12*k)
  case atStart=>exact ⟨0,[],_,[],_,rfl,Nat.zero_le _,rfl,HP.out,rfl,Cap.nil,by simp⟩
  case round=>
   clear HP
   obtain ⟨k,V,F,D,R,rfl,hk,hg,hps,hde,hcp,hvl⟩:=hrel
   obtain ⟨wo,hwo⟩:∃wo,wo=wr:=⟨_,rfl⟩
   subst hwo
   have HG:=Lib.hid hg;have HP:=Lib.hid hps;have HB:=Lib.hid hps.v.b;have HDe:=Lib.hid hde;have HCp:=Lib.hid hcp
   clear hg hps hde hcp
   by_cases hlt:k<l.length
   ·obtain ⟨b1,o1,rfl,hb1,c1⟩:=HSl.out.at hlt (by omega)
    have e0:=c1 (k*2) _ (dl_at hlt).1
    have e1:=c1 (k*2+1) _ (dl_at hlt).2
    have HR1:=Lib.hid (HR.out _ (List.getElem_mem hlt))
    clear c1
    generalize l[k]=xd at *
    obtain ⟨A1,c1,O,A2,c2,I⟩:=xd
    dsimp only at *
    have HE:Hid (∀W':World,Below w.heap.size w W'→W'.cell? ⟨b1,o1+k*2,none⟩=some (.slice A1 O.length c1)∧W'.cell? ⟨b1,o1+k*2+1,none⟩=some (.slice A2 I.length c2)):=fun W' hW=>⟨(hW.cell (p:=⟨b1,_,none⟩) hb1).trans e0,(hW.cell (p:=⟨b1,_,none⟩) hb1).trans e1⟩
    have HD:=Lib.hid (HR1.out.below HB.out)
    clear e0 e1
    have q1:(0:Int)≤(k:Int):=by omega
    have q2:decide ((k:Int)<(l.length:Int))=true:=by simp;omega
    have q3:(k:Int)<(l.length:Int):=by omega
    have e0:=(HE.out _ HB.out).1
    have e1:=(HE.out _ HB.out).2
    go_wp2_with fail
    refine (FewD.FewD ⟨A1,c1,O,A2,c2,I⟩ wo HD.out).mono ?_
    rintro e wf1 ⟨rfl,hf⟩
    have hb:=hf.below (Nat.le_refl _) (fun _ _ h=>h)
    clear hf
    replace HP:=Lib.hid (HP.out.below hb)
    replace HD:=Lib.hid (HD.out.below hb)
    replace HB:=Lib.hid (HB.out.trans (hb.mono HB.out.size))
    clear hb
    clear e0 e1
    dsimp only
    cases hq:(fewB O 12&&fewB I 12)
    case false=>
     go_wp2_with fail
     refine (awake wf1).mono ?_
     rintro e wf2 ⟨rfl,hb⟩
     replace HP:=Lib.hid (HP.out.below hb)
     replace HD:=Lib.hid (HD.out.below hb)
     replace HB:=Lib.hid (HB.out.trans (hb.mono HB.out.size))
     clear hb
     go_wp2_with fail
     go_ret
     exact ⟨rfl,HB.out⟩
    case true=>
     have hqs:fewB O 12=true∧fewB I 12=true:=by simpa using hq
     have hlo:=few_len' hqs.1
     have hli:=few_len' hqs.2
     have HSh:=Lib.hid (fun x (hx:x∈O)=>few_short hqs.1 hx)
     clear hqs hq
     have hnx:=nx_is O I V
     have hok:=nx_ok (O:=O) (I:=I) HP.out.v.k HCp.out
     generalize nx O I V=V2 at *
     generalize bx O I V=bb at *
     have HR2:=Lib.hid hnx
     have HCp2:=Lib.hid (hok.1.mono (show 12*k+I.length≤12*(k+1) by omega))
     have hv2:V2.length≤12*(k+1):=by have:=hok.2;omega
     clear hnx hok
     go_upto_region 11 with (fail)
     refine pl11 (by kernel_rfl) _ _ w wf1 B V V2 F h D R b1 o1 l.length c0 k A1 A2 c1 c2 O I HE.out HR1.out hlo hli bb HR2.out HP.out HDe (by omega) (by omega) hlt hl64 rfl rfl rfl rfl rfl ?_
     intro x wf2 F2 D2 R2 h65 hst hd2
     simp only [Eng.setAll,Act.put,List.setIfInBounds_toArray,List.set_cons_succ,List.set_cons_zero]
     rw [h65]
     clear HDe HCp HR2
     replace HP:=Lib.hid hst;replace HB:=Lib.hid hst.v.b;replace HD:=Lib.hid (HR1.out.below HB.out);have HDe:=Lib.hid hd2
     have hlv:V2.length≤1000:=by omega
     clear h65 hst hd2
     have e0:=(HE.out _ HB.out).1
     go_wp2_with fail
     clear e0
     go_loopg [9] O.length (fun gk i wr=>∃k2:Nat,i=.int .i64 k2∧k2≤O.length∧gk=O.length-k2∧PV w wr B V2 F2 h D2 R2)
     case atStart=>exact ⟨0,rfl,Nat.zero_le _,rfl,HP.out⟩
     case round=>
      clear HP HB HD
      obtain ⟨k2,rfl,hk2,hg2,hps⟩:=hrel
      obtain ⟨wi,hwi⟩:∃wi,wi=wr:=⟨_,rfl⟩
      subst hwi
      have HG2:=Lib.hid hg2;have HP:=Lib.hid hps;have HB:=Lib.hid hps.v.b
      have HD:=Lib.hid (HR1.out.below HB.out)
      clear hg2 hps
      have e0:=(HE.out _ HB.out).1
      by_cases hlt2:k2<O.length
      ·obtain ⟨bn,on,rfl,hbn,c2'⟩:=HD.out.o.s.at hlt2 (by omega)
       have HRow:=Lib.hid (At.row c2' hlt2)
       have hnm:=HSh.out _ (List.getElem_mem hlt2)
       have q4:decide ((k2:Int)<(O.length:Int))=true:=by simp;omega
       have q5:(0:Int)≤(k2:Int):=by omega
       have q6:(k2:Int)<(O.length:Int):=by omega
       clear c2' hbn
       generalize O[k2]=y at *
       obtain ⟨yc0,yc1,yc2,yc3,yc4,yc5,yc6,yc7,yc8⟩:=SetW.at9 HRow.out
       go_upto_region 17 with (fail)
       have hb:=(Below.refl wi.heap.size wi).alloc (Nat.le_refl _) (.cells y.arr TSn)
       have HY:Hid (YB (wi.alloc (.cells y.arr TSn)) wi.heap.size y):=⟨Bk.new _ _ _⟩
       clear yc0 yc1 yc2 yc3 yc4 yc5 yc6 yc7 yc8 e0 HRow HD
       generalize hBy:wi.heap.size=By at HY ⊢
       generalize (wi.alloc (.cells y.arr TSn))=wy at *
       replace HP:=Lib.hid (HP.out.below hb)
       replace HB:=Lib.hid (HB.out.trans (hb.mono HB.out.size))
       clear hb
       clear hBy
       obtain ⟨X,hX⟩:∃X,hget (y.s,y.o) V2=X:=⟨_,rfl⟩
       obtain ⟨⟨ql,qh,qi⟩,hQ⟩:∃q,quant X p=q:=⟨_,rfl⟩
       have hXn:sumL X.1≤1000000:=by have:=HCp2.out (y.s,y.o);rw [hX] at this;omega
       have HX:=Lib.hid hX;have HQ:=Lib.hid hQ
       clear hX hQ
       cases hg:getL (key (y.s,y.o)) V2
       case none=>
        have HGs:=Lib.hid hg
        clear hg
        have y4:wy.cell? ⟨By,4,none⟩=some (.string y.s):=HY.out.h.cell 4
        have y5:wy.cell? ⟨By,5,none⟩=some (.string y.o):=HY.out.h.cell 5
        go_wp2_with fail
        refine (HP.out.getN y.s y.o hnm HGs.out).mono ?_
        rintro e wk3 ⟨rfl,hb⟩
        clear y4 y5
        replace HP:=Lib.hid (HP.out.below hb)
        replace HY:=Lib.hid (HY.out.below hb)
        replace HB:=Lib.hid (HB.out.trans (hb.mono HB.out.size))
        clear hb
        go_upto_region 18 with (fail)
        have hb:=(Below.refl wk3.heap.size wk3).alloc (Nat.le_refl _) (.cells #[.string ⟨#[]⟩,.string ⟨#[]⟩,.int .i64 0,.int .i64 0,.int .i64 0,.slice none 0 0] TO)
        generalize hBa:wk3.heap.size=Ba at ⊢
        generalize (wk3.alloc (.cells #[.string ⟨#[]⟩,.string ⟨#[]⟩,.int .i64 0,.int .i64 0,.int .i64 0,.slice none 0 0] TO))=wk4 at *
        replace HP:=Lib.hid (HP.out.below hb)
        replace HY:=Lib.hid (HY.out.below hb)
        replace HB:=Lib.hid (HB.out.trans (hb.mono HB.out.size))
        clear hb
        clear hBa
        have y4:wk4.cell? ⟨By,4,none⟩=some (.string y.s):=HY.out.h.cell 4
        have y5:wk4.cell? ⟨By,5,none⟩=some (.string y.o):=HY.out.h.cell 5
        go_wp2_with fail
        refine (HP.out.findN HDe.out (by omega) y.s y.o HGs.out).mono ?_
        rintro e wk5 ⟨rfl,hb⟩
        clear y4 y5
        replace HP:=Lib.hid (HP.out.below hb)
        replace HY:=Lib.hid (HY.out.below hb)
        replace HB:=Lib.hid (HB.out.trans (hb.mono HB.out.size))
        clear hb
        have y4:wk5.cell? ⟨By,4,none⟩=some (.string y.s):=HY.out.h.cell 4
        have y5:wk5.cell? ⟨By,5,none⟩=some (.string y.o):=HY.out.h.cell 5
        go_wp2_with fail
        refine (HP.out.quant y.s y.o p hnm HX.out HQ.out).mono ?_
        rintro e wk6 ⟨rfl,hb⟩
        clear y4 y5
        replace HP:=Lib.hid (HP.out.below hb)
        replace HY:=Lib.hid (HY.out.below hb)
        replace HB:=Lib.hid (HB.out.trans (hb.mono HB.out.size))
        clear hb
        have y4:wk6.cell? ⟨By,4,none⟩=some (.string y.s):=HY.out.h.cell 4
        have y5:wk6.cell? ⟨By,5,none⟩=some (.string y.o):=HY.out.h.cell 5
        go_wp2_with fail
        refine (HP.out.hist HDe.out (by omega) y.s y.o HX.out).mono ?_
        rintro e wk7 ⟨Ah,ch,rfl,hhb,hb⟩
        clear y4 y5
        replace HP:=Lib.hid (HP.out.below hb)
        replace HY:=Lib.hid (HY.out.below hb)
        replace HB:=Lib.hid (HB.out.trans (hb.mono HB.out.size))
        clear hb
        go_upto_region 21 with (fail)
        have hb:=(Below.refl wk7.heap.size wk7).alloc (Nat.le_refl _) (.cells #[.slice Ah X.1.length ch,.int .i64 X.2.1,.int .i64 X.2.2] TRh)
        generalize hBh:wk7.heap.size=Bh at hhb ⊢
        generalize (wk7.alloc (.cells #[.slice Ah X.1.length ch,.int .i64 X.2.1,.int .i64 X.2.2] TRh))=wk8 at *
        replace HP:=Lib.hid (HP.out.below hb)
        replace HY:=Lib.hid (HY.out.below hb)
        replace HB:=Lib.hid (HB.out.trans (hb.mono HB.out.size))
        clear hb
        clear hBh
        have HHb:=Lib.hid hhb
        clear hhb
        go_wp2_with fail
        refine (HHb.out.quant hXn p HQ.out).mono ?_
        rintro e wk9 ⟨rfl,hb⟩
        replace HP:=Lib.hid (HP.out.below hb)
        replace HY:=Lib.hid (HY.out.below hb)
        replace HB:=Lib.hid (HB.out.trans (hb.mono HB.out.size))
        clear hb
        clear HHb
        go_upto_region 22 with (fail)
        refine pl22n (by kernel_rfl) _ _ w wk9 B V2 F2 h D2 R2 ql qh qi HP.out rfl rfl rfl rfl rfl rfl rfl rfl rfl ?_
        intro xx wk10 h151 hst
        simp only [Eng.setAll,Act.put,List.setIfInBounds_toArray,List.set_cons_succ,List.set_cons_zero]
        rw [h151]
        have HPz:=Lib.hid hst
        clear h151 hst HP HY
        go_wp2_with fail
        go_roundg (O.length-(k2+1))
        case rel=>exact ⟨k2+1,by go_num,by omega,rfl,HPz.out⟩
        case measure=>have:=HG2.out;omega
       case some q=>
        have HGs:=Lib.hid hg
        clear hg
        have y4:wy.cell? ⟨By,4,none⟩=some (.string y.s):=HY.out.h.cell 4
        have y5:wy.cell? ⟨By,5,none⟩=some (.string y.o):=HY.out.h.cell 5
        go_wp2_with fail
        refine (HP.out.getS y.s y.o hnm HGs.out).mono ?_
        rintro e wk3 ⟨e,rfl,hev,heb,hb⟩
        have HEv:=Lib.hid hev
        clear hev
        clear y4 y5
        replace HP:=Lib.hid (HP.out.below hb);replace HY:=Lib.hid (HY.out.below hb)
        replace HB:=Lib.hid (HB.out.trans (hb.mono HB.out.size))
        clear hb
        go_upto_region 18 with (fail)
        have hb:=(Below.refl wk3.heap.size wk3).alloc (Nat.le_refl _) (.cells #[.string e.n.1,.string e.n.2,.int .i64 (sumL e.x.1),.int .i64 e.x.2.1,.int .i64 e.x.2.2,.slice e.A e.x.1.length e.c] TO)
        generalize hBa:wk3.heap.size=Ba at heb ⊢
        generalize (wk3.alloc (.cells #[.string e.n.1,.string e.n.2,.int .i64 (sumL e.x.1),.int .i64 e.x.2.1,.int .i64 e.x.2.2,.slice e.A e.x.1.length e.c] TO))=wk4 at *
        replace HP:=Lib.hid (HP.out.below hb)
        replace HY:=Lib.hid (HY.out.below hb)
        replace HB:=Lib.hid (HB.out.trans (hb.mono HB.out.size))
        clear hb
        clear hBa
        have HEb:=Lib.hid heb
        clear heb
        have y4:wk4.cell? ⟨By,4,none⟩=some (.string y.s):=HY.out.h.cell 4
        have y5:wk4.cell? ⟨By,5,none⟩=some (.string y.o):=HY.out.h.cell 5
        go_wp2_with fail
        refine (HP.out.findS HDe.out (by omega) y.s y.o HGs.out).mono ?_
        rintro e wk5 ⟨at_,rfl,hat,hb⟩
        have HAt:=Lib.hid hat
        clear hat y4 y5
        replace HP:=Lib.hid (HP.out.below hb)
        replace HY:=Lib.hid (HY.out.below hb)
        replace HEb:=Lib.hid (HEb.out.below hb)
        replace HB:=Lib.hid (HB.out.trans (hb.mono HB.out.size))
        clear hb
        have y4:wk5.cell? ⟨By,4,none⟩=some (.string y.s):=HY.out.h.cell 4
        have y5:wk5.cell? ⟨By,5,none⟩=some (.string y.o):=HY.out.h.cell 5
        go_wp2_with fail
        refine (HP.out.quant y.s y.o p hnm HX.out HQ.out).mono ?_
        rintro e wk6 ⟨rfl,hb⟩
        clear y4 y5
        replace HP:=Lib.hid (HP.out.below hb)
        replace HY:=Lib.hid (HY.out.below hb)
        replace HEb:=Lib.hid (HEb.out.below hb)
        replace HB:=Lib.hid (HB.out.trans (hb.mono HB.out.size))
        clear hb
        have y4:wk6.cell? ⟨By,4,none⟩=some (.string y.s):=HY.out.h.cell 4
        have y5:wk6.cell? ⟨By,5,none⟩=some (.string y.o):=HY.out.h.cell 5
        go_wp2_with fail
        refine (HP.out.hist HDe.out (by omega) y.s y.o HX.out).mono ?_
        rintro e wk7 ⟨Ah,ch,rfl,hhb,hb⟩
        clear y4 y5
        replace HP:=Lib.hid (HP.out.below hb)
        replace HY:=Lib.hid (HY.out.below hb)
        replace HEb:=Lib.hid (HEb.out.below hb)
        replace HB:=Lib.hid (HB.out.trans (hb.mono HB.out.size))
        clear hb
        go_upto_region 21 with (fail)
        have hb:=(Below.refl wk7.heap.size wk7).alloc (Nat.le_refl _) (.cells #[.slice Ah X.1.length ch,.int .i64 X.2.1,.int .i64 X.2.2] TRh)
        generalize hBh:wk7.heap.size=Bh at hhb ⊢
        generalize (wk7.alloc (.cells #[.slice Ah X.1.length ch,.int .i64 X.2.1,.int .i64 X.2.2] TRh))=wk8 at *
        replace HP:=Lib.hid (HP.out.below hb)
        replace HY:=Lib.hid (HY.out.below hb)
        replace HEb:=Lib.hid (HEb.out.below hb)
        replace HB:=Lib.hid (HB.out.trans (hb.mono HB.out.size))
        clear hb
        clear hBh
        have HHb:=Lib.hid hhb
        clear hhb
        go_wp2_with fail
        refine (HHb.out.quant hXn p HQ.out).mono ?_
        rintro e wk9 ⟨rfl,hb⟩
        replace HP:=Lib.hid (HP.out.below hb)
        replace HY:=Lib.hid (HY.out.below hb)
        replace HEb:=Lib.hid (HEb.out.below hb)
        replace HB:=Lib.hid (HB.out.trans (hb.mono HB.out.size))
        clear hb
        clear HHb
        go_upto_region 22 with (fail)
        obtain ⟨hai,hav⟩:=HAt.out
        refine pl22s (by kernel_rfl) _ _ w wk9 B V2 F2 h D2 R2 Ba at_ e _ HDe hlv hai rfl (HEv.out.trans hav.symm) ql qh qi ⟨HP.out,HEb.out⟩ rfl rfl rfl rfl rfl rfl rfl rfl rfl rfl rfl ?_
        intro xx wk10 h151 hst
        simp only [Eng.setAll,Act.put,List.setIfInBounds_toArray,List.set_cons_succ,List.set_cons_zero]
        rw [h151]
        have HPz:=Lib.hid hst
        clear h151 hst HP HY
        go_wp2_with fail
        go_roundg (O.length-(k2+1))
        case rel=>exact ⟨k2+1,by go_num,by omega,rfl,HPz.out⟩
        case measure=>have:=HG2.out;omega
      ·obtain rfl:k2=O.length:=by omega
       have q4:decide ((O.length:Int)<(O.length:Int))=false:=by simp
       go_wp2_with fail
       clear e0
       go_upto_region 24 with (fail)
       obtain ⟨bz,hbz⟩:∃b,(((O.length+I.length:Nat):Int)==0)=b:=⟨_,rfl⟩
       refine pl24 (by kernel_rfl) _ _ w wi B V2 V2 F2 h D2 R2 b1 o1 l.length c0 k A1 A2 c1 c2 O I HE.out HR1.out hlo hli bz hbz HP.out hlt hl64 rfl rfl rfl rfl ?_
       intro xx wz h184 hst
       simp only [Eng.setAll,Act.put,List.setIfInBounds_toArray,List.set_cons_succ,List.set_cons_zero]
       rw [h184]
       have HPz:=Lib.hid hst
       clear h184 hst HP HB HD hbz
       go_wp2_with fail
       go_roundg (l.length-(k+1))
       case rel=>exact ⟨k+1,V2,F2,D2,R2,by go_num,by omega,rfl,HPz.out,HDe.out,HCp2.out,hv2⟩
       case measure=>have:=HG.out;omega
   ·obtain rfl:k=l.length:=by omega
    have q2:decide ((l.length:Int)<(l.length:Int))=false:=by simp
    go_wp2_with fail
    refine (awake wo).mono ?_
    rintro e wq1 ⟨rfl,hb⟩
    replace HB:=Lib.hid (HB.out.trans (hb.mono HB.out.size))
    clear hb
    go_wp2_with fail
    go_ret
    exact ⟨rfl,HB.out⟩
end Law26
end Go.Proofs.YtdpngmgaomghoaaGreat
