/- Layer 22's statements: a forest and the document's, side by side. -/
import Derived.Test.YtgfjpnpbkkadpaaGreatApls
import Derived.Test.YtgfjpnpbkkadpaaGreatFewD
namespace Go.Proofs.YtgfjpnpbkkadpaaGreat
open Tryz
open Go.RowKit
namespace Law22
open KeyP PackP SetP SetW SetF Sli Delta KidsP Cls KdO Fst Drd Wrk
attribute [local go_sem] Eng.ev Eng.getO_cons Eng.getO_nil
open Ref22 (wo TRf bk_ne no1 no2)
open ClsF (AtP fdI)
def lq2 (L O I:List Sn):List Sn:=if dmay (L.map br) O I=0 then rnext L O I else L
theorem wo_self (P:List Pq):wo P P= []:=List.filter_eq_nil_iff.2 (fun x hx=>by simp [hx])
theorem dt_of {L O I:List Sn} (hA:As L) (gL:∀x∈L,gd x) (gO:∀x∈O,gd x) (gI:∀x∈I,gd x) (h:dmay (L.map br) O I=0):Dt (L.map br) O I∧rightB O I=true∧I.any (fun x=>x.g)=false:=by
 unfold dmay at h
 split at h
 ·cases h
 ·rename_i h0
  split at h
  ·cases h
  ·rename_i h1
   split at h
   ·cases h
   ·rename_i h2
    rw [Bool.not_eq_true,Bool.or_eq_false_iff,Bool.or_eq_false_iff,Bool.not_eq_false'] at h0
    obtain ⟨hr,-,hg⟩:=h0
    have hr2:=hr
    unfold rightB at hr2
    rw [Bool.and_eq_true,Bool.and_eq_true] at hr2
    exact ⟨mays_dt (srs_br hA.ok.srs) (gd_br gL) (bare_br L) (RefD.isB_iff.1 hr2.1).srs (RefD.isB_iff.1 hr2.2.1).srs gO gI (by simpa using h1) (by simpa using h2),hr,hg⟩
theorem l2_as {L O I:List Sn} (hA:As L) (gL:∀x∈L,gd x) (gO:∀x∈O,gd x) (gI:∀x∈I,gd x):As (lq2 L O I):=by
 unfold lq2
 split
 ·rename_i h
  obtain ⟨-,hr,hg⟩:=dt_of hA gL gO gI h
  exact Ref22.as_rnext hA hr hg
 ·exact hA
theorem l2_len {L O I:List Sn} (hA:As L):(lq2 L O I).length≤L.length+I.length:=by
 unfold lq2
 split
 ·exact rnext_len hA.ok.srs
 ·omega
theorem ApplyU {w1 A:World} {B k1 k2:Nat} {L O I:List Sn} {F:List Nat} {A1 A2:Option Addr} (h:FoS w1 A B (L.map br) F) (hA:As L) (gL:∀x∈L,gd x) (gO:∀x∈O,gd x) (gI:∀x∈I,gd x) (hd:RdD A ⟨A1,k1,O,A2,k2,I⟩) (ha:ApD ⟨A1,k1,O,A2,k2,I⟩ F) (sl:L.length≤900) (so:O.length≤1000) (si:I.length≤1000) (m:Int) (hm:dmay (L.map br) O I=m) (L2:List Sn) (hL2:lq2 L O I=L2) (PL P2:List Pq) (hPL:L.map (plq L)=PL) (hP2:L2.map (plq L2)=P2):
  Calls prog 31 #[.pointer (some ⟨B,0,none⟩),.agg #[.slice A1 O.length k1,.slice A2 I.length k2]] A fun e w'=>∃s1 c1 s2 c2 n F',e=.returned (.tuple #[.agg #[.slice s1 (wo PL P2).length c1,.slice s2 (wo P2 PL).length c2],.int .i64 n,.int .i64 m])∧
   FoS w1 w' B (L2.map br) F'∧Tn F F' A w'∧Sl w' 6 s1 (wo PL P2).length c1 (pcs (wo PL P2))∧Sl w' 6 s2 (wo P2 PL).length c2 (pcs (wo P2 PL))∧(m≠0→n=0):=by
 have hA2:=l2_as hA gL gO gI
 subst hm;subst hL2
 refine (Apply A h.f hd ha (by rw [List.length_map];omega) (by omega) (by omega)).mono ?_
 rintro e w' ⟨hx,hy⟩
 by_cases h0:dmay (L.map br) O I=0
 ·obtain ⟨A3,c3,A4,c4,n,F',rfl,g1,g2,g3,g4,-,-,-,-⟩:=hx h0
  obtain ⟨hDt,-,-⟩:=dt_of hA gL gO gI h0
  have el:lq2 L O I=rnext L O I:=if_pos h0
  rw [←rnext_br hA.ok.srs hDt,←el] at g1 g2 g3
  rw [←rnext_br hA.ok.srs hDt,←el]
  rw [mvd_br,Ref22.mvd_wo hA.ok.srs hA2.ok.srs,hPL,hP2] at g1
  rw [mvd_br,Ref22.mvd_wo hA2.ok.srs hA.ok.srs,hPL,hP2] at g2
  rw [mvd_br,mvd_br,Ref22.mvd_wo hA.ok.srs hA2.ok.srs,Ref22.mvd_wo hA2.ok.srs hA.ok.srs,hPL,hP2,h0]
  obtain ⟨A',c',he,h3,-⟩:=Sl.of_own g1
  cases he
  obtain ⟨A',c',he,h4,-⟩:=Sl.of_own g2
  cases he
  exact ⟨A3,c3,A4,c4,n,F',rfl,h.turn g3 g4,g4,h3,h4,fun h=>absurd rfl h⟩
 ·obtain ⟨rfl,hb⟩:=hy h0
  have el:lq2 L O I=L:=if_neg h0
  rw [el] at hP2 ⊢
  rw [hPL] at hP2
  subst hP2
  rw [wo_self]
  have hf:=Fr.of_below' hb (fun _=>False)
  exact ⟨none,0,none,0,0,F,rfl,h.keep hf,Tn.of_fr hf (fun b hb=>h.f.lt b hb),Sl.empty _ _,Sl.empty _ _,fun _=>rfl⟩
theorem ApplyRU {A:World} {Bx c k1 k2:Nat} {a A1 A2:Option Addr} {L O I:List Sn} (hb:Bk A Bx #[.slice a L.length c] TRf) (hl:Ls A a c L) (hA:As L) (hd:RdD A ⟨A1,k1,O,A2,k2,I⟩) (so:O.length≤1000) (si:L.length+I.length≤900) (m:Int) (hm:dmay (L.map br) O I=m) (L2:List Sn) (hL2:lq2 L O I=L2) (PL P2:List Pq) (hPL:L.map (plq L)=PL) (hP2:L2.map (plq L2)=P2):
  Calls prog 32 #[.pointer (some ⟨Bx,0,none⟩),.agg #[.slice A1 O.length k1,.slice A2 I.length k2]] A fun e w'=>∃s1 c1 s2 c2 a2 c3,e=.returned (.tuple #[.agg #[.slice s1 (wo PL P2).length c1,.slice s2 (wo P2 PL).length c2],.int .i64 m])∧
   Sl w' 6 s1 (wo PL P2).length c1 (pcs (wo PL P2))∧Sl w' 6 s2 (wo P2 PL).length c2 (pcs (wo P2 PL))∧Bk w' Bx #[.slice a2 L2.length c3] TRf∧Ls w' a2 c3 L2∧(∀q,a2=some q→a=some q∨(A.heap.size≤q.block∧q.block<w'.heap.size))∧Fr (fun b=>b=Bx) A w':=by
 subst hm;subst hL2
 refine (Ref22.Apply A hb hl hA hd so si).mono ?_
 rintro e w' ⟨hx,hy⟩
 by_cases h0:dmay (L.map br) O I=0
 ·obtain ⟨A3,c3,A4,c4,A5,c5,rfl,g1,g2,g3,g4,-,g6,g7⟩:=hx h0
  have el:lq2 L O I=rnext L O I:=if_pos h0
  rw [←el,hP2,hPL] at g1 g2
  rw [←el] at g3 g4
  rw [←el,hPL,hP2,h0]
  exact ⟨A3,c3,A4,c4,A5,c5,rfl,g1,g2,g3,g4,fun q hq=>.inr (g6 q hq),g7⟩
 ·obtain ⟨rfl,hf⟩:=hy h0
  have el:lq2 L O I=L:=if_neg h0
  rw [el] at hP2 ⊢
  rw [hPL] at hP2
  subst hP2
  rw [wo_self]
  exact ⟨none,0,none,0,a,c,rfl,Sl.empty _ _,Sl.empty _ _,hb.fr hf (fun _ _ h=>h),hl.keep hf,fun q hq=>.inl hq,hf.mono (fun _ _ h=>h.elim)⟩
structure PS (w1 A:World) (B Bx:Nat) (L:List Sn) (F:List Nat) (a:Option Addr) (c:Nat):Prop where
 f:FoS w1 A B (L.map br) F
 x:Bk A Bx #[.slice a L.length c] TRf
 l:Ls A a c L
 s:As L
 nx:Bx∉F
 na:∀q,a=some q→q.block∉F∧q.block<A.heap.size
 bx:w1.heap.size≤Bx
section
variable {w1 A C D:World} {B Bx c c2:Nat} {L L2:List Sn} {F F':List Nat} {a a2:Option Addr}
theorem PS.keep (h:PS w1 A B Bx L F a c) (hf:Fr (fun _=>False) A C):PS w1 C B Bx L F a c:=
 ⟨h.f.keep hf,h.x.fr hf (fun _ _ h=>h),h.l.keep hf,h.s,h.nx,fun q hq=>⟨(h.na q hq).1,Nat.lt_of_lt_of_le (h.na q hq).2 hf.size⟩,h.bx⟩
theorem FoS.px (h:FoS w1 C B L F) (hf:Fr (fun b=>b=Bx) C D) (hn:Bx∉F) (hb:w1.heap.size≤Bx):FoS w1 D B L F:=
 ⟨h.f.fr hf (fun b hb e=>hn (e▸hb)),h.r.trans hf (fun _ _ h=>h) (fun i hi e=>by omega),h.lo⟩
theorem PS.mid (h:PS w1 A B Bx L F a c) (ht:Tn F F' A C):Bk C Bx #[.slice a L.length c] TRf∧Ls C a c L∧Bx∉F'∧∀q,a=some q→q.block∉F'∧q.block<C.heap.size:=
 ⟨h.x.fr ht.fr (fun _b hb e=>h.nx (List.mem_singleton.1 hb▸e)),h.l.fr ht.fr (fun q hq=>(h.na q hq).1),not_new ht h.nx (lt_of_heap h.x),fun q hq=>⟨not_new ht (h.na q hq).1 (h.na q hq).2,Nat.lt_of_lt_of_le (h.na q hq).2 ht.fr.size⟩⟩
theorem PS.step (h:PS w1 A B Bx L F a c) (hf:FoS w1 C B (L2.map br) F') (ht:Tn F F' A C) (hD:Fr (fun b=>b=Bx) C D) (hx:Bk D Bx #[.slice a2 L2.length c2] TRf) (hl:Ls D a2 c2 L2) (hs:As L2) (hn:∀q,a2=some q→a=some q∨(C.heap.size≤q.block∧q.block<D.heap.size)):PS w1 D B Bx L2 F' a2 c2:=by
 obtain ⟨-,-,h3,h4⟩:=h.mid ht
 refine ⟨hf.px hD h3 h.bx,hx,hl,hs,h3,fun q hq=>?_,h.bx⟩
 rcases hn q hq with e| ⟨e1,e2⟩
 ·exact ⟨(h4 q e).1,Nat.lt_of_lt_of_le (h4 q e).2 hD.size⟩
 ·exact ⟨fun hm=>by have:=hf.f.lt _ hm;omega,e2⟩
end
theorem RdD.frB {S:Nat→Prop} {w w':World} {d:Dl} (h:RdD w d) (hf:Fr S w w') (h1:d.O≠ []→∀q,d.A1=some q→¬S q.block) (h2:d.I≠ []→∀q,d.A2=some q→¬S q.block):RdD w' d:=⟨h.o.frB hf h1,h.i.frB hf h2⟩
theorem Ls.ltB {w:World} {A:Option Addr} {c:Nat} {L:List Sn} (h:Ls w A c L):L≠ []→∀q,A=some q→q.block<w.heap.size:=fun hne q hq=>h.s.lt (fun e=>by
 have h1:=congrArg List.length e
 rw [flat_length scs_len] at h1
 have h2:=List.length_pos_iff.2 hne
 simp at h1;omega) q hq
end Law22
set_option maxRecDepth 100000
set_option maxHeartbeats 16000000
namespace Law22
open KeyP PackP SetP SetW SetF Sli Delta KidsP Cls KdO Fst Drd Wrk
attribute [local go_sem] Eng.ev Eng.getO_cons Eng.getO_nil
open Ref22 (wo TRf bk_ne no1 no2)
open ClsF (AtP fdI)
theorem ck {w w':World} {a:Addr} {v:Value} (h:w.cell? a=some v) (hf:Fr (fun _=>False) w w'):w'.cell? a=some v:=(World.cell?_of_block (w:=w) (a:=a) (hf.block a.block (World.block_lt_of_cell? w a h) (fun h=>h))).trans h
theorem PlN (w:World):Calls prog 36 #[.pointer none] w fun e w'=>∃A c,e=.returned (.slice A 0 c)∧Fr (fun _=>False) w w':=
 (Places_nil w).mono (fun _e _w' ⟨A,c,h1,_,h3⟩=>⟨A,c,h1,Fr.of_below' h3 _⟩)
theorem ShN (w:World):Calls prog 34 #[.agg #[.slice none 0 0,.slice none 0 0],.agg #[.slice none 0 0,.slice none 0 0]] w fun e w'=>e=.returned (.bool true)∧Fr (fun _=>False) w w':=
 Ref22.SameShift (P:= []) (Q:= []) w rfl rfl (Sl.empty _ _) (Sl.empty _ _) (Sl.empty _ _) (Sl.empty _ _)
structure SR (w0 w:World) (Bc:Nat):Prop where
 r:Fr (fun _=>False) w0 w
 b:Bk w Bc #[.slice none 0 0,.slice none 0 0] TSh
theorem SR.fr {w0 w w':World} {Bc:Nat} (h:SR w0 w Bc) (hf:Fr (fun _=>False) w w'):SR w0 w' Bc:=⟨h.r.trans hf (fun _ _ h=>h) (fun _ _ h=>h),h.b.fr hf (fun _ _ h=>h)⟩
theorem dq19 {ops:Array Oper} (hops:Eng.fnOps Tryz.f6 19=ops) (a0:Act) (Q:Exit→Act→World→Prop) (w0 w:World) (B:Nat) (L:List Sn) (M:Pl) (F:List Nat) (b0 o0 n0 c0 i b1 o1 n1 c1 k:Nat) (y:Sn) (hi0:i<n0) (_hn0:n0≤1000000) (hk:k<n1) (_hn1:n1≤1000000) (hl:w0.cell? ⟨b0,o0+i*2,none⟩=some (.slice (some ⟨b1,o1,none⟩) n1 c1)) (hy0:w0.cell? ⟨b1,o1+k*9,none⟩=some (.int .i64 y.t)) (hy1:w0.cell? ⟨b1,o1+k*9+1,none⟩=some (.int .i64 y.i)) (v:Pq) (vb:Bool) (ht:wf64 y.t) (hi:wf64 y.i) (hv:(getL (key2 y.t y.i) M).getD z6=v) (hvb:(getL (key2 y.t y.i) M).isSome=vb) (hF:FB w0 B L M F) (hst:BX w0 w [] z6)
  (hn:a0.tmps.size=205) (h_0:a0.tmps.getD 0 undef=.slice (some ⟨b0,o0,none⟩) n0 c0) (h_3:a0.tmps.getD 3 undef=.pointer (some ⟨B,0,none⟩)) (h_6:a0.tmps.getD 6 undef=.int .i64 (i:Int)) (h_13:a0.tmps.getD 13 undef=.int .i64 (k:Int))
  (hpost:∀ (x_:Nat→Value) (w':World) (Bp:Nat),x_ 14=.pointer (some ⟨Bp,0,none⟩)→x_ 15=.bool vb→BX w0 w' [Bp] v→Q .normal (Eng.setAll a0 [14,15,98,99,100,101,102,103,104,105,106,107,108,109,110,111,112,113,114,115,116,117,118,119] x_) w'):
  (Code.region 19 ops true).wp prog Q a0 w:=by
 simp only [Eng.fnOps,Eng.regOps,Tryz.f6,Option.bind_some,Option.getD_some,Nat.reduceEqDiff,↓reduceIte] at hops
 subst hops
 have q1:(0:Int)≤(i:Int):=by omega
 have q2:(i:Int)<(n0:Int):=by omega
 have q3:(0:Int)≤(k:Int):=by omega
 have q4:(k:Int)<(n1:Int):=by omega
 have HSt:=Lib.hid (hst.fr (Fr.drew _ _))
 refine Eng.regionT (.take 0 (.take 1 (.take 2 (.take 3 (.take 4 (.take 5 (.take 6 (.take 7 (.take 8 (.take 9 (.take 10 (.take 11 (.take 12 (.take 13 (.take 14 (.take 15 (.take 16 (.take 17 (.alt 18 (.take 19 (.take 20 (.take 21 (.alt 22 (.alt 23 (.take 24 (.done)) (.stop)) (.stop))))) (.alt 22 (.alt 18 (.take 19 (.take 20 (.take 21 (.alt 23 (.take 24 (.done)) (.stop))))) (.stop)) (.stop))))))))))))))))))))) (fun w'=>w'.cell? ⟨b0,o0+i*2,none⟩=some (.slice (some ⟨b1,o1,none⟩) n1 c1)∧w'.cell? ⟨b1,o1+k*9,none⟩=some (.int .i64 y.t)∧w'.cell? ⟨b1,o1+k*9+1,none⟩=some (.int .i64 y.i)) (by kernel_rfl) 205 hn (by kernel_rfl) (by kernel_rfl) (by kernel_rfl) (⟨ck hl HSt.out.f,ck hy0 HSt.out.f,ck hy1 HSt.out.f⟩) (fun a b ha hb=>?_)
 subst ha
 have hb0:b 0=.slice (some ⟨b0,o0,none⟩) n0 c0:=(hb 0).symm.trans h_0
 have hb3:b 3=.pointer (some ⟨B,0,none⟩):=(hb 3).symm.trans h_3
 have hb6:b 6=.int .i64 (i:Int):=(hb 6).symm.trans h_6
 have hb13:b 13=.int .i64 (k:Int):=(hb 13).symm.trans h_13
 clear hb h_0 h_3 h_6 h_13
 have HP:=Lib.hid hpost;have HN:=Lib.hid hn
 clear hpost hn
 iterate 18 (refine Eng.TW.tk ?_)
 refine Eng.TW.both ?_ ?_
 ·refine Eng.TW.call rfl rfl (by decide) (by kernel_rfl) ?_ (Wrk.Place y.t y.i w.drew (hF.fr HSt.out.f (fun _ _ h=>h)) ht hi) ?_
  ·go_simp
  rintro e w2 ⟨rfl,hf1⟩
  rw [show (getL (key2 y.t y.i) M).getD (⟨0,0,0,0,0,0⟩:Pq)=v from hv,hvb]
  have HSt2:=Lib.hid (HSt.out.fr hf1)
  clear hf1
  refine ⟨_,rfl,⟨ck hl HSt2.out.f,ck hy0 HSt2.out.f,ck hy1 HSt2.out.f⟩,?_⟩
  iterate 3 (refine Eng.TW.tk ?_)
  refine Eng.TW.step rfl rfl (by decide) (by kernel_rfl) (by go_simp;first|done|with_reducible rfl|exact ⟨rfl,rfl⟩) (⟨ck hl (HSt2.out.alloc).f,ck hy0 (HSt2.out.alloc).f,ck hy1 (HSt2.out.alloc).f⟩) ?_
  have HSt3:=Lib.hid (HSt2.out.alloc)
  have hSS:(w2.alloc (.cells #[.int .i64 0,.int .i64 0,.int .i64 0,.int .i64 0,.int .i64 0,.int .i64 0] TPl)).cell? ⟨b0,o0+i*2,none⟩=some (.slice (some ⟨b1,o1,none⟩) n1 c1)∧(w2.alloc (.cells #[.int .i64 0,.int .i64 0,.int .i64 0,.int .i64 0,.int .i64 0,.int .i64 0] TPl)).cell? ⟨b1,o1+k*9,none⟩=some (.int .i64 y.t)∧(w2.alloc (.cells #[.int .i64 0,.int .i64 0,.int .i64 0,.int .i64 0,.int .i64 0,.int .i64 0] TPl)).cell? ⟨b1,o1+k*9+1,none⟩=some (.int .i64 y.i):=⟨ck hl HSt3.out.f,ck hy0 HSt3.out.f,ck hy1 HSt3.out.f⟩
  have u0:=(HSt3.out.p _ (List.mem_cons_self ..)).1.cell 0
  have v0:=(HSt3.out.p _ (List.mem_cons_self ..)).1.free 0
  have u1:=(HSt3.out.p _ (List.mem_cons_self ..)).1.cell 1
  have v1:=(HSt3.out.p _ (List.mem_cons_self ..)).1.free 1
  have u2:=(HSt3.out.p _ (List.mem_cons_self ..)).1.cell 2
  have v2:=(HSt3.out.p _ (List.mem_cons_self ..)).1.free 2
  have u3:=(HSt3.out.p _ (List.mem_cons_self ..)).1.cell 3
  have v3:=(HSt3.out.p _ (List.mem_cons_self ..)).1.free 3
  have u4:=(HSt3.out.p _ (List.mem_cons_self ..)).1.cell 4
  have v4:=(HSt3.out.p _ (List.mem_cons_self ..)).1.free 4
  have u5:=(HSt3.out.p _ (List.mem_cons_self ..)).1.cell 5
  have v5:=(HSt3.out.p _ (List.mem_cons_self ..)).1.free 5
  simp only [List.getElem?_toArray,List.getElem?_cons_zero,List.getElem?_cons_succ] at u0 u1 u2 u3 u4 u5
  have HSt4:=Lib.hid (HSt2.out.allocP v)
  refine Eng.TW.step0 rfl rfl (by kernel_rfl) (by go_simp;first|done|with_reducible rfl) (⟨ck hl HSt4.out.f,ck hy0 HSt4.out.f,ck hy1 HSt4.out.f⟩) ?_
  refine Eng.TW.tk ?_
  refine Eng.TW.end_ [14,15,98,99,100,101,102,103,104,105,106,107,108,109,110,111,112,113,114,115,116,117,118,119] HN.out (by kernel_rfl) (by kernel_rfl) ?_
  exact HP.out _ _ _ rfl rfl HSt4.out
 refine Eng.TW.step rfl rfl (by decide) (by kernel_rfl) (by go_simp;first|done|with_reducible rfl|exact ⟨rfl,rfl⟩) (⟨ck hl (HSt.out.alloc).f,ck hy0 (HSt.out.alloc).f,ck hy1 (HSt.out.alloc).f⟩) ?_
 have HSt2:=Lib.hid (show BX w0 _ [w.heap.size] z6 from HSt.out.alloc)
 have hSS:(w.drew.alloc (.cells #[.int .i64 0,.int .i64 0,.int .i64 0,.int .i64 0,.int .i64 0,.int .i64 0] TPl)).cell? ⟨b0,o0+i*2,none⟩=some (.slice (some ⟨b1,o1,none⟩) n1 c1)∧(w.drew.alloc (.cells #[.int .i64 0,.int .i64 0,.int .i64 0,.int .i64 0,.int .i64 0,.int .i64 0] TPl)).cell? ⟨b1,o1+k*9,none⟩=some (.int .i64 y.t)∧(w.drew.alloc (.cells #[.int .i64 0,.int .i64 0,.int .i64 0,.int .i64 0,.int .i64 0,.int .i64 0] TPl)).cell? ⟨b1,o1+k*9+1,none⟩=some (.int .i64 y.i):=⟨ck hl HSt2.out.f,ck hy0 HSt2.out.f,ck hy1 HSt2.out.f⟩
 refine Eng.TW.call rfl rfl (by decide) (by kernel_rfl) ?_ (Wrk.Place y.t y.i (w.drew.alloc (.cells #[.int .i64 0,.int .i64 0,.int .i64 0,.int .i64 0,.int .i64 0,.int .i64 0] TPl)) (hF.fr HSt2.out.f (fun _ _ h=>h)) ht hi) ?_
 ·go_simp
 rintro e w3 ⟨rfl,hf1⟩
 rw [show (getL (key2 y.t y.i) M).getD (⟨0,0,0,0,0,0⟩:Pq)=v from hv,hvb]
 have HSt3:=Lib.hid (HSt2.out.fr hf1)
 clear hf1
 refine ⟨_,rfl,⟨ck hl HSt3.out.f,ck hy0 HSt3.out.f,ck hy1 HSt3.out.f⟩,?_⟩
 iterate 3 (refine Eng.TW.tk ?_)
 have u0:=(HSt3.out.p _ (List.mem_cons_self ..)).1.cell 0
 have v0:=(HSt3.out.p _ (List.mem_cons_self ..)).1.free 0
 have u1:=(HSt3.out.p _ (List.mem_cons_self ..)).1.cell 1
 have v1:=(HSt3.out.p _ (List.mem_cons_self ..)).1.free 1
 have u2:=(HSt3.out.p _ (List.mem_cons_self ..)).1.cell 2
 have v2:=(HSt3.out.p _ (List.mem_cons_self ..)).1.free 2
 have u3:=(HSt3.out.p _ (List.mem_cons_self ..)).1.cell 3
 have v3:=(HSt3.out.p _ (List.mem_cons_self ..)).1.free 3
 have u4:=(HSt3.out.p _ (List.mem_cons_self ..)).1.cell 4
 have v4:=(HSt3.out.p _ (List.mem_cons_self ..)).1.free 4
 have u5:=(HSt3.out.p _ (List.mem_cons_self ..)).1.cell 5
 have v5:=(HSt3.out.p _ (List.mem_cons_self ..)).1.free 5
 simp only [List.getElem?_toArray,List.getElem?_cons_zero,List.getElem?_cons_succ] at u0 u1 u2 u3 u4 u5
 have HSt4:=Lib.hid (HSt3.out.store v)
 refine Eng.TW.step0 rfl rfl (by kernel_rfl) (by go_simp;first|done|with_reducible rfl) (⟨ck hl HSt4.out.f,ck hy0 HSt4.out.f,ck hy1 HSt4.out.f⟩) ?_
 refine Eng.TW.tk ?_
 refine Eng.TW.end_ [14,15,98,99,100,101,102,103,104,105,106,107,108,109,110,111,112,113,114,115,116,117,118,119] HN.out (by kernel_rfl) (by kernel_rfl) ?_
 exact HP.out _ _ _ rfl rfl HSt4.out
theorem dq20 {ops:Array Oper} (hops:Eng.fnOps Tryz.f6 20=ops) (a0:Act) (Q:Exit→Act→World→Prop) (w0 w:World) (A8:Option Addr) (c8:Nat) (P:List Pq) (b0 o0 n0 c0 i b1 o1 n1 c1 k:Nat) (y:Sn) (hi0:i<n0) (_hn0:n0≤1000000) (hk:k<n1) (_hn1:n1≤1000000) (hl:w0.cell? ⟨b0,o0+i*2,none⟩=some (.slice (some ⟨b1,o1,none⟩) n1 c1)) (hy0:w0.cell? ⟨b1,o1+k*9,none⟩=some (.int .i64 y.t)) (hy1:w0.cell? ⟨b1,o1+k*9+1,none⟩=some (.int .i64 y.i)) (j:Int) (hP:Sl w0 6 A8 P.length c8 (pcs P)) (hj:fdI P y.t y.i=j) (hst:Fr (fun _=>False) w0 w)
  (hn:a0.tmps.size=205) (h_0:a0.tmps.getD 0 undef=.slice (some ⟨b0,o0,none⟩) n0 c0) (h_6:a0.tmps.getD 6 undef=.int .i64 (i:Int)) (h_12:a0.tmps.getD 12 undef=.slice A8 P.length c8) (h_13:a0.tmps.getD 13 undef=.int .i64 (k:Int))
  (hpost:∀ (x_:Nat→Value) (w':World),x_ 16=.int .i64 j→Fr (fun _=>False) w0 w'→Q .normal (Eng.setAll a0 [16,120,121,122,123,124,125,126,127,128,129,130,131,132,133,134,135,136,137,138,139] x_) w'):
  (Code.region 20 ops true).wp prog Q a0 w:=by
 simp only [Eng.fnOps,Eng.regOps,Tryz.f6,Option.bind_some,Option.getD_some,Nat.reduceEqDiff,↓reduceIte] at hops
 subst hops
 have q1:(0:Int)≤(i:Int):=by omega
 have q2:(i:Int)<(n0:Int):=by omega
 have q3:(0:Int)≤(k:Int):=by omega
 have q4:(k:Int)<(n1:Int):=by omega
 have HSt:=Lib.hid (hst.trans (Fr.drew (fun _=>False) _) (T:=fun _=>False) (fun _ _ h=>h) (fun _ _ h=>h))
 refine Eng.regionT (.take 0 (.take 1 (.take 2 (.take 3 (.take 4 (.take 5 (.take 6 (.take 7 (.take 8 (.take 9 (.take 10 (.take 11 (.take 12 (.take 13 (.take 14 (.take 15 (.take 16 (.take 17 (.take 18 (.alt 19 (.take 20 (.done)) (.stop))))))))))))))))))))) (fun w'=>w'.cell? ⟨b0,o0+i*2,none⟩=some (.slice (some ⟨b1,o1,none⟩) n1 c1)∧w'.cell? ⟨b1,o1+k*9,none⟩=some (.int .i64 y.t)∧w'.cell? ⟨b1,o1+k*9+1,none⟩=some (.int .i64 y.i)) (by kernel_rfl) 205 hn (by kernel_rfl) (by kernel_rfl) (by kernel_rfl) (⟨ck hl HSt.out,ck hy0 HSt.out,ck hy1 HSt.out⟩) (fun a b ha hb=>?_)
 subst ha
 have hb0:b 0=.slice (some ⟨b0,o0,none⟩) n0 c0:=(hb 0).symm.trans h_0
 have hb6:b 6=.int .i64 (i:Int):=(hb 6).symm.trans h_6
 have hb12:b 12=.slice A8 P.length c8:=(hb 12).symm.trans h_12
 have hb13:b 13=.int .i64 (k:Int):=(hb 13).symm.trans h_13
 clear hb h_0 h_6 h_12 h_13
 have HP:=Lib.hid hpost;have HN:=Lib.hid hn
 clear hpost hn
 iterate 19 (refine Eng.TW.tk ?_)
 refine Eng.TW.call rfl rfl (by decide) (by kernel_rfl) ?_ (ClsF.FindP A8 c8 P y.t y.i w.drew (hP.fr HSt.out (fun _ _ h=>h))) ?_
 ·go_simp
 rintro e w2 ⟨rfl,hf1⟩
 rw [hj]
 have HSt2:=Lib.hid (HSt.out.trans hf1 (T:=fun _=>False) (fun _ _ h=>h) (fun _ _ h=>h))
 clear hf1
 refine ⟨_,rfl,⟨ck hl HSt2.out,ck hy0 HSt2.out,ck hy1 HSt2.out⟩,?_⟩
 refine Eng.TW.tk ?_
 refine Eng.TW.end_ [16,120,121,122,123,124,125,126,127,128,129,130,131,132,133,134,135,136,137,138,139] HN.out (by kernel_rfl) (by kernel_rfl) ?_
 exact HP.out _ _ rfl HSt2.out
theorem dq21 {ops:Array Oper} (hops:Eng.fnOps Tryz.f6 21=ops) (a0:Act) (Q:Exit→Act→World→Prop) (w:World) (Bp b2 o2 n c8 j:Nat) (v:Pq) (hj:j<n) (_hn9:n≤1000000) (hb:Bk w Bp v.arr TPl) (hz:AtP w b2 (o2+j*6) v)
  (hn:a0.tmps.size=205) (h_12:a0.tmps.getD 12 undef=.slice (some ⟨b2,o2,none⟩) n c8) (h_14:a0.tmps.getD 14 undef=.pointer (some ⟨Bp,0,none⟩)) (h_15:a0.tmps.getD 15 undef=.bool true) (h_16:a0.tmps.getD 16 undef=.int .i64 (j:Int))
  (hpost:∀ (x_:Nat→Value) (w':World),x_ 154=.bool (!eqP v v)→Fr (fun _=>False) w w'→Q .normal (Eng.setAll a0 [140,141,142,143,144,145,146,147,148,149,150,151,152,153,154] x_) w'):
  (Code.region 21 ops true).wp prog Q a0 w:=by
 simp only [Eng.fnOps,Eng.regOps,Tryz.f6,Option.bind_some,Option.getD_some,Nat.reduceEqDiff,↓reduceIte] at hops
 subst hops
 have q1:(0:Int)≤(j:Int):=by omega
 have q2:(j:Int)<(n:Int):=by omega
 have q3:decide ((j:Int)≥0)=true:=decide_eq_true q1
 have q4:decide ((0:Int)≤(j:Int))=true:=decide_eq_true q1
 have hq:=fun W:World=>neq_pc v.t v.i v.c v.d v.p v.f v.t v.i v.c v.d v.p v.f W
 have HSt:=Lib.hid (Fr.drew (fun _=>False) w)
 refine Eng.regionN [(0,true),(1,true),(2,true),(3,true),(4,true),(5,true),(6,true),(7,true),(8,true),(9,true),(10,true),(11,true),(12,true),(13,true),(14,true)] (fun w'=>w'.cell? ⟨Bp,0,none⟩=some (.int .i64 v.t)∧w'.cell? ⟨Bp,1,none⟩=some (.int .i64 v.i)∧w'.cell? ⟨Bp,2,none⟩=some (.int .i64 v.c)∧w'.cell? ⟨Bp,3,none⟩=some (.int .i64 v.d)∧w'.cell? ⟨Bp,4,none⟩=some (.int .i64 v.p)∧w'.cell? ⟨Bp,5,none⟩=some (.int .i64 v.f)∧w'.cell? ⟨b2,o2+j*6,none⟩=some (.int .i64 v.t)∧w'.cell? ⟨b2,o2+j*6+1,none⟩=some (.int .i64 v.i)∧w'.cell? ⟨b2,o2+j*6+1+1,none⟩=some (.int .i64 v.c)∧w'.cell? ⟨b2,o2+j*6+1+1+1,none⟩=some (.int .i64 v.d)∧w'.cell? ⟨b2,o2+j*6+1+1+1+1,none⟩=some (.int .i64 v.p)∧w'.cell? ⟨b2,o2+j*6+1+1+1+1+1,none⟩=some (.int .i64 v.f)) (by kernel_rfl) 205 hn (by kernel_rfl) rfl (by kernel_rfl) (⟨(hb.fr HSt.out (fun _ _ h=>h)).cell 0,(hb.fr HSt.out (fun _ _ h=>h)).cell 1,(hb.fr HSt.out (fun _ _ h=>h)).cell 2,(hb.fr HSt.out (fun _ _ h=>h)).cell 3,(hb.fr HSt.out (fun _ _ h=>h)).cell 4,(hb.fr HSt.out (fun _ _ h=>h)).cell 5,(hz.keep HSt.out) 0 _ rfl,(hz.keep HSt.out) 1 _ rfl,(hz.keep HSt.out) 2 _ rfl,(hz.keep HSt.out) 3 _ rfl,(hz.keep HSt.out) 4 _ rfl,(hz.keep HSt.out) 5 _ rfl⟩) (fun a b ha hb=>?_)
 subst ha
 have hb12:b 12=.slice (some ⟨b2,o2,none⟩) n c8:=(hb 12).symm.trans h_12
 have hb14:b 14=.pointer (some ⟨Bp,0,none⟩):=(hb 14).symm.trans h_14
 have hb15:b 15=.bool true:=(hb 15).symm.trans h_15
 have hb16:b 16=.int .i64 (j:Int):=(hb 16).symm.trans h_16
 clear hb h_12 h_14 h_15 h_16
 have HP:=Lib.hid hpost;have HN:=Lib.hid hn
 clear hpost hn
 iterate 15 (refine Eng.Sch.tk ?_)
 refine Eng.Sch.end_ [140,141,142,143,144,145,146,147,148,149,150,151,152,153,154] HN.out (by kernel_rfl) (by kernel_rfl) ?_
 exact HP.out _ _ rfl HSt.out
theorem dq21f {ops:Array Oper} (hops:Eng.fnOps Tryz.f6 21=ops) (a0:Act) (Q:Exit→Act→World→Prop) (w:World)
  (hn:a0.tmps.size=205) (h_15:a0.tmps.getD 15 undef=.bool false) (h_16:a0.tmps.getD 16 undef=.int .i64 (-1))
  (hpost:∀ (x_:Nat→Value) (w':World),x_ 154=.bool false→Fr (fun _=>False) w w'→Q .normal (Eng.setAll a0 [140,141,142,143,144,145,146,147,148,149,150,151,152,153,154] x_) w'):
  (Code.region 21 ops true).wp prog Q a0 w:=by
 simp only [Eng.fnOps,Eng.regOps,Tryz.f6,Option.bind_some,Option.getD_some,Nat.reduceEqDiff,↓reduceIte] at hops
 subst hops
 have HSt:=Lib.hid (Fr.drew (fun _=>False) w)
 refine Eng.regionN [(0,true),(1,true),(2,true),(3,true),(4,true),(5,true),(6,true),(7,true),(8,true),(9,true),(10,true),(11,true),(12,true),(13,true),(14,true)] (fun w'=>True) (by kernel_rfl) 205 hn (by kernel_rfl) rfl (by kernel_rfl) (trivial) (fun a b ha hb=>?_)
 subst ha
 have hb15:b 15=.bool false:=(hb 15).symm.trans h_15
 have hb16:b 16=.int .i64 (-1):=(hb 16).symm.trans h_16
 clear hb h_15 h_16
 have HP:=Lib.hid hpost;have HN:=Lib.hid hn
 clear hpost hn
 iterate 7 (refine Eng.Sch.tk ?_)
 iterate 6 (refine Eng.Sch.skip rfl rfl (by decide) (by kernel_rfl) ?_)
 refine Eng.Sch.tk ?_
 refine Eng.Sch.tk ?_
 refine Eng.Sch.end_ [140,141,142,143,144,145,146,147,148,149,150,151,152,153,154] HN.out (by kernel_rfl) (by kernel_rfl) ?_
 exact HP.out _ _ rfl HSt.out
theorem dq24a {ops:Array Oper} (hops:Eng.fnOps Tryz.f6 24=ops) (a0:Act) (Q:Exit→Act→World→Prop) (w0 w:World) (Bc b0 o0 n0 c0 i c1 c2:Nat) (A1 A2:Option Addr) (hi0:i<n0) (_hn0:n0≤1000000) (hl:w0.cell? ⟨b0,o0+i*2,none⟩=some (.slice A1 0 c1)) (hl2:w0.cell? ⟨b0,o0+i*2+1,none⟩=some (.slice A2 0 c2)) (hst:SR w0 w Bc)
  (hn:a0.tmps.size=205) (h_0:a0.tmps.getD 0 undef=.slice (some ⟨b0,o0,none⟩) n0 c0) (h_4:a0.tmps.getD 4 undef=.pointer none) (h_6:a0.tmps.getD 6 undef=.int .i64 (i:Int)) (h_17:a0.tmps.getD 17 undef=.pointer (some ⟨Bc,0,none⟩)) (h_18:a0.tmps.getD 18 undef=.int .i64 0) (h_19:a0.tmps.getD 19 undef=.int .i64 0)
  (hpost:∀ (x_:Nat→Value) (w':World),x_ 203=.bool false→Fr (fun _=>False) w0 w'→Q .normal (Eng.setAll a0 [165,166,167,168,169,170,171,172,173,174,175,176,177,178,179,180,181,182,183,184,185,186,187,188,189,190,191,192,193,194,195,196,197,198,199,200,201,202,203] x_) w'):
  (Code.region 24 ops true).wp prog Q a0 w:=by
 simp only [Eng.fnOps,Eng.regOps,Tryz.f6,Option.bind_some,Option.getD_some,Nat.reduceEqDiff,↓reduceIte] at hops
 subst hops
 have kb:=buildSh
 have q1:(0:Int)≤(i:Int):=by omega
 have q2:(i:Int)<(n0:Int):=by omega
 have HSt:=Lib.hid (hst.fr (Fr.drew _ _))
 refine Eng.regionT (.take 0 (.take 1 (.alt 2 (.take 3 (.take 4 (.take 5 (.take 6 (.take 7 (.take 8 (.take 9 (.take 10 (.take 11 (.take 12 (.take 13 (.take 14 (.take 15 (.take 16 (.take 17 (.take 18 (.take 19 (.take 20 (.take 21 (.take 22 (.take 23 (.take 24 (.take 25 (.take 26 (.take 27 (.take 28 (.take 29 (.alt 30 (.take 31 (.take 32 (.take 33 (.take 34 (.alt 35 (.take 36 (.take 37 (.take 38 (.done)))) (.stop)))))) (.stop))))))))))))))))))))))))))))) (.stop)))) (fun w'=>w'.cell? ⟨Bc,0,none⟩=some (.slice none 0 0)∧w'.cell? ⟨Bc,1,none⟩=some (.slice none 0 0)∧w'.cell? ⟨b0,o0+i*2,none⟩=some (.slice A1 0 c1)∧w'.cell? ⟨b0,o0+i*2+1,none⟩=some (.slice A2 0 c2)) (by kernel_rfl) 205 hn (by kernel_rfl) (by kernel_rfl) (by kernel_rfl) (⟨HSt.out.b.cell 0,HSt.out.b.cell 1,ck hl HSt.out.r,ck hl2 HSt.out.r⟩) (fun a b ha hb=>?_)
 subst ha
 have hb0:b 0=.slice (some ⟨b0,o0,none⟩) n0 c0:=(hb 0).symm.trans h_0
 have hb4:b 4=.pointer none:=(hb 4).symm.trans h_4
 have hb6:b 6=.int .i64 (i:Int):=(hb 6).symm.trans h_6
 have hb17:b 17=.pointer (some ⟨Bc,0,none⟩):=(hb 17).symm.trans h_17
 have hb18:b 18=.int .i64 0:=(hb 18).symm.trans h_18
 have hb19:b 19=.int .i64 0:=(hb 19).symm.trans h_19
 clear hb h_0 h_4 h_6 h_17 h_18 h_19
 have HP:=Lib.hid hpost;have HN:=Lib.hid hn
 clear hpost hn
 refine Eng.TW.tk ?_
 refine Eng.TW.tk ?_
 refine Eng.TW.call rfl rfl (by decide) (by kernel_rfl) ?_ (ShN w.drew) ?_
 ·go_simp
 rintro e w2 ⟨rfl,hf1⟩
 have HSt2:=Lib.hid (HSt.out.fr hf1)
 have hSS:w2.cell? ⟨Bc,0,none⟩=some (.slice none 0 0)∧w2.cell? ⟨Bc,1,none⟩=some (.slice none 0 0)∧w2.cell? ⟨b0,o0+i*2,none⟩=some (.slice A1 0 c1)∧w2.cell? ⟨b0,o0+i*2+1,none⟩=some (.slice A2 0 c2):=⟨HSt2.out.b.cell 0,HSt2.out.b.cell 1,ck hl HSt2.out.r,ck hl2 HSt2.out.r⟩
 clear hf1
 refine ⟨_,rfl,hSS,?_⟩
 iterate 27 (refine Eng.TW.tk ?_)
 refine Eng.TW.call rfl rfl (by decide) (by kernel_rfl) ?_ (Len_nil w2) ?_
 ·go_simp
 rintro e w_3 ⟨rfl,rfl⟩
 refine ⟨_,rfl,hSS,?_⟩
 iterate 4 (refine Eng.TW.tk ?_)
 refine Eng.TW.call rfl rfl (by decide) (by kernel_rfl) ?_ (PlN w2) ?_
 ·go_simp
 rintro e w4 ⟨A5,c5,rfl,hf1⟩
 have HSt4:=Lib.hid (HSt2.out.fr hf1)
 clear hf1
 refine ⟨_,rfl,⟨HSt4.out.b.cell 0,HSt4.out.b.cell 1,ck hl HSt4.out.r,ck hl2 HSt4.out.r⟩,?_⟩
 iterate 3 (refine Eng.TW.tk ?_)
 refine Eng.TW.end_ [165,166,167,168,169,170,171,172,173,174,175,176,177,178,179,180,181,182,183,184,185,186,187,188,189,190,191,192,193,194,195,196,197,198,199,200,201,202,203] HN.out (by kernel_rfl) (by kernel_rfl) ?_
 exact HP.out _ _ rfl HSt4.out.r
theorem dq24b {ops:Array Oper} (hops:Eng.fnOps Tryz.f6 24=ops) (a0:Act) (Q:Exit→Act→World→Prop) (w0 w:World) (Bc:Nat) (h:Int) (hh:h≠0) (hst:SR w0 w Bc)
  (hn:a0.tmps.size=205) (h_4:a0.tmps.getD 4 undef=.pointer none) (h_17:a0.tmps.getD 17 undef=.pointer (some ⟨Bc,0,none⟩)) (h_18:a0.tmps.getD 18 undef=.int .i64 0) (h_19:a0.tmps.getD 19 undef=.int .i64 h)
  (hpost:∀ (x_:Nat→Value) (w':World),x_ 203=.bool false→Fr (fun _=>False) w0 w'→Q .normal (Eng.setAll a0 [165,166,167,168,169,170,171,172,173,174,175,176,177,178,179,180,181,182,183,184,185,186,187,188,189,190,191,192,193,194,195,196,197,198,199,200,201,202,203] x_) w'):
  (Code.region 24 ops true).wp prog Q a0 w:=by
 simp only [Eng.fnOps,Eng.regOps,Tryz.f6,Option.bind_some,Option.getD_some,Nat.reduceEqDiff,↓reduceIte] at hops
 subst hops
 have kb:=buildSh
 have q1:(h==0)=false:=by simp [hh]
 have HSt:=Lib.hid (hst.fr (Fr.drew _ _))
 refine Eng.regionT (.take 0 (.take 1 (.alt 2 (.take 3 (.take 4 (.take 5 (.take 6 (.take 7 (.take 8 (.take 9 (.take 10 (.take 11 (.take 12 (.take 13 (.take 14 (.take 15 (.take 16 (.take 17 (.take 18 (.take 19 (.take 20 (.take 21 (.take 22 (.take 23 (.take 24 (.take 25 (.take 26 (.take 27 (.take 28 (.take 29 (.alt 30 (.take 31 (.take 32 (.take 33 (.take 34 (.alt 35 (.take 36 (.take 37 (.take 38 (.done)))) (.stop)))))) (.stop))))))))))))))))))))))))))))) (.stop)))) (fun w'=>w'.cell? ⟨Bc,0,none⟩=some (.slice none 0 0)∧w'.cell? ⟨Bc,1,none⟩=some (.slice none 0 0)) (by kernel_rfl) 205 hn (by kernel_rfl) (by kernel_rfl) (by kernel_rfl) (⟨HSt.out.b.cell 0,HSt.out.b.cell 1⟩) (fun a b ha hb=>?_)
 subst ha
 have hb4:b 4=.pointer none:=(hb 4).symm.trans h_4
 have hb17:b 17=.pointer (some ⟨Bc,0,none⟩):=(hb 17).symm.trans h_17
 have hb18:b 18=.int .i64 0:=(hb 18).symm.trans h_18
 have hb19:b 19=.int .i64 h:=(hb 19).symm.trans h_19
 clear hb h_4 h_17 h_18 h_19
 have HP:=Lib.hid hpost;have HN:=Lib.hid hn
 clear hpost hn
 refine Eng.TW.tk ?_
 refine Eng.TW.tk ?_
 refine Eng.TW.call rfl rfl (by decide) (by kernel_rfl) ?_ (ShN w.drew) ?_
 ·go_simp
 rintro e w2 ⟨rfl,hf1⟩
 have HSt2:=Lib.hid (HSt.out.fr hf1)
 have hSS:w2.cell? ⟨Bc,0,none⟩=some (.slice none 0 0)∧w2.cell? ⟨Bc,1,none⟩=some (.slice none 0 0):=⟨HSt2.out.b.cell 0,HSt2.out.b.cell 1⟩
 clear hf1
 refine ⟨_,rfl,hSS,?_⟩
 iterate 9 (refine Eng.TW.tk ?_)
 iterate 14 (refine Eng.TW.skip rfl rfl (by decide) (by kernel_rfl) ?_)
 iterate 4 (refine Eng.TW.tk ?_)
 refine Eng.TW.call rfl rfl (by decide) (by kernel_rfl) ?_ (Len_nil w2) ?_
 ·go_simp
 rintro e w_3 ⟨rfl,rfl⟩
 refine ⟨_,rfl,hSS,?_⟩
 iterate 4 (refine Eng.TW.tk ?_)
 refine Eng.TW.call rfl rfl (by decide) (by kernel_rfl) ?_ (PlN w2) ?_
 ·go_simp
 rintro e w4 ⟨A5,c5,rfl,hf1⟩
 have HSt4:=Lib.hid (HSt2.out.fr hf1)
 clear hf1
 refine ⟨_,rfl,⟨HSt4.out.b.cell 0,HSt4.out.b.cell 1⟩,?_⟩
 iterate 3 (refine Eng.TW.tk ?_)
 refine Eng.TW.end_ [165,166,167,168,169,170,171,172,173,174,175,176,177,178,179,180,181,182,183,184,185,186,187,188,189,190,191,192,193,194,195,196,197,198,199,200,201,202,203] HN.out (by kernel_rfl) (by kernel_rfl) ?_
 exact HP.out _ _ rfl HSt4.out.r
theorem LenF {X:World} {B:Nat} {L:List Sn} {F:List Nat} (h:FB X B (L.map br) (pm (L.map br)) F) (P:List Pq) (hP:L.map (plq L)=P):Calls prog 37 #[.pointer (some ⟨B,0,none⟩)] X fun e w'=>e=.returned (.int .i64 (P.length:Nat))∧X=w':=by
 have:=Len X h
 rwa [show (pm (L.map br)).length=P.length by unfold pm mp;rw [List.length_map,List.length_map,←hP,List.length_map]] at this
theorem get_br {L:List Sn} (hg:∀x∈L,gd x) {t i:Int} (ht:wf64 t) (hi:wf64 i):getL (key2 t i) (pm (L.map br))=(nx L t i).map (plq L):=by
 rw [get_pm (gd_br hg) ht hi]
 rw [nx_br,Option.map_map]
 congr 1
 exact funext (fun x=>plq_br L x)
theorem place_spec {L:List Sn} (hs:Srs L) (P:List Pq) (hP:L.map (plq L)=P) (t i:Int):(nx L t i=none∧fdI P t i= -1)∨∃z j,∃hj:j<P.length,nx L t i=some z∧fdI P t i=(j:Int)∧P[j]=plq L z:=by
 subst hP
 rcases Ref22.fdw (L.map (plq L)) ⟨t,i,0,0,0,0⟩ with ⟨e,hk⟩| ⟨j,hj,e,ho⟩
 ·refine .inl ⟨?_,e⟩
  cases hn:nx L t i with
  |none=>rfl
  |some z=>
   obtain ⟨h1,h2,h3⟩:=nx_some hn
   rw [kq_iff.2 ⟨plq L z,List.mem_map.2 ⟨z,h1,rfl⟩,(show oP (plq L z) ⟨t,i,0,0,0,0⟩=true from oP_iff.2 ⟨h2,h3⟩)⟩] at hk
   cases hk
 ·refine .inr ?_
  obtain ⟨z,hz,ez⟩:=List.mem_map.1 (List.getElem_mem hj)
  rw [←ez] at ho
  obtain ⟨h1,h2⟩:=oP_iff.1 ho
  have hn:=nx_mem hs hz
  rw [show z.t=t from h1,show z.i=i from h2] at hn
  exact ⟨z,j,hj,hn,e,ez.symm⟩
theorem an_zero {O I:List Sn} (h:(if dmay [] O I≠0∨I= [] then dmay [] O I else 7)=0):O= []∧I= []:=by
 split at h
 ·rename_i hc
  exact ⟨may_nil O I h,hc.elim (fun e=>absurd h e) id⟩
 ·cases h
structure DL0 (w:World) (A:Option Addr) (c:Nat) (l:List Dl):Prop where
 s:Sl w 2 A l.length c (l.flatMap Dl.cs)
 r:∀d∈l,RdD w d
theorem rest {p:Prop} (h:p:=by
 go_wp2_with fail
 refine (PlacesF HPS9.out.f.f (by omega) P2 HP2.out _ rfl).mono ?_
 rintro e w10 ⟨A9,c9,rfl,hs9,hf10⟩
 have HPS10:=Lib.hid (HPS9.out.keep hf10)
 have HS10:=Lib.hid (HS9.out.fr hf10 (fun _ _ h=>h))
 have HSm:=Lib.hid (Ref22.SameS rfl hs9 HS10.out)
 clear hs9 hf10 HPS9 HS9
 go_wp2_with fail
 refine HSm.out.mono ?_
 rintro e w11 ⟨rfl,hf11⟩
 have HPS11:=Lib.hid (HPS10.out.keep hf11)
 have HS11:=Lib.hid (HS10.out.fr hf11 (fun _ _ h=>h))
 clear hf11 HPS10 HS10 HSm
 go_wp2_with fail
 refine (LenF HPS11.out.f.f P2 HP2.out).mono ?_
 rintro e w12 ⟨rfl,rfl⟩
 have qp:((P2.length:Int) != (P2.length:Int))=false:=by simp
 have f0:=HC0.out HPS11.out.f.r
 go_wp2_with fail
 clear qp qd qm f0 q1
 go_loopg [13] O.length (fun gk i wq=>∃q:Nat,i=.int .i64 q∧q≤O.length∧gk=O.length-q∧Fr (fun _=>False) w11 wq)
 case atStart=>exact ⟨0,rfl,Nat.zero_le _,rfl,Fr.refl _ _⟩
 case round=>
  obtain ⟨q,rfl,hq,hgq,hf⟩:=hrel
  have HGq:=Lib.hid hgq;have HFq:=Lib.hid hf
  have HPSq:=Lib.hid (HPS11.out.keep hf)
  have HSq:=Lib.hid (HS11.out.fr hf (fun _ _ h=>h))
  have f0:=HC0.out HPSq.out.f.r
  clear hgq hf
  by_cases hlq:q<O.length
  ·have q5:decide ((q:Int)<(O.length:Int))=true:=by simp;omega
   obtain ⟨b1,o1,rfl,-,cc⟩:=(HRd.out HPSq.out.f.r).o.s.at hlq (by omega)
   have y0:wr.cell? ⟨b1,o1+q*9,none⟩=some (.int .i64 O[q].t):=(SetW.At.row cc hlq) 0 _ rfl
   have y1:wr.cell? ⟨b1,o1+q*9+1,none⟩=some (.int .i64 O[q].i):=(SetW.At.row cc hlq) 1 _ rfl
   have HW:=Lib.hid (HGo.out _ (List.getElem_mem hlq))
   clear cc
   generalize O[q]=y at *
   have HSp:=Lib.hid (place_spec HA2.out.ok.srs P2 HP2.out y.t y.i)
   have HGt:=Lib.hid (get_br (Ls.gd HPSq.out.l) HW.out.1 HW.out.2.1)
   obtain ⟨v,hv⟩:∃v,(getL (key2 y.t y.i) (pm (L2.map br))).getD z6=v:=⟨_,rfl⟩
   obtain ⟨vb,hvb⟩:∃b,(getL (key2 y.t y.i) (pm (L2.map br))).isSome=b:=⟨_,rfl⟩
   have HV:=Lib.hid hv;have HVb:=Lib.hid hvb
   have Y0:=Lib.hid y0;have Y1:=Lib.hid y1;have F0:=Lib.hid f0
   go_upto_region 19 with (fail)
   refine dq19 (by kernel_rfl) _ _ wr wr B (L2.map br) (pm (L2.map br)) F' b0 o0 l.length c0 k b1 o1 O.length k1 q y hlt (by omega) hlq (by omega) F0.out Y0.out Y1.out v vb HW.out.1 HW.out.2.1 hv hvb HPSq.out.f.f ⟨Fr.refl _ _,by simp⟩ rfl rfl rfl rfl rfl ?_
   intro x_ w13 Bp hx14 hx15 hbx
   simp only [Eng.setAll,Act.put,List.setIfInBounds_toArray,List.set_cons_succ,List.set_cons_zero,hx14,hx15]
   have hf13:=hbx.f
   have HB13:=Lib.hid (hbx.p Bp (by simp)).1
   have HF13:=Lib.hid (HFq.out.trans hf13 (T:=fun _=>False) (fun _ _ h=>h) (fun _ _ h=>h))
   have HS13:=Lib.hid (HSq.out.fr hf13 (fun _ _ h=>h))
   have Z0:=Lib.hid (ck Y0.out hf13);have Z1:=Lib.hid (ck Y1.out hf13);have G0:=Lib.hid (ck F0.out hf13)
   clear hx14 hx15 hbx hf13 Y0 Y1 F0 HSq HPSq HFq y0 y1 f0 hv hvb
   go_upto_region 20 with (fail)
   refine dq20 (by kernel_rfl) _ _ w13 w13 A8 c8 P2 b0 o0 l.length c0 k b1 o1 O.length k1 q y hlt (by omega) hlq (by omega) G0.out Z0.out Z1.out _ HS13.out rfl (Fr.refl _ _) rfl rfl rfl rfl rfl ?_
   intro x_ w14 hx16 hf14
   simp only [Eng.setAll,Act.put,List.setIfInBounds_toArray,List.set_cons_succ,List.set_cons_zero,hx16]
   have HB14:=Lib.hid (HB13.out.fr hf14 (fun _ _ h=>h))
   have HF14:=Lib.hid (HF13.out.trans hf14 (T:=fun _=>False) (fun _ _ h=>h) (fun _ _ h=>h))
   have HS14:=Lib.hid (HS13.out.fr hf14 (fun _ _ h=>h))
   have qk:IntKind.i64.wrap ((q:Int)+1)=(q:Int)+1:=by rw [IntKind.wrap_i64];omega
   clear hx16 hf14 HB13 HF13 HS13 Z0 Z1 G0
   go_upto_region 21 with (fail)
   rcases HSp.out with ⟨hn0,hj⟩| ⟨z,j,hj,hn0,hje,hpj⟩
   ·have e1:vb=false:=by rw [←HVb.out,HGt.out,hn0];rfl
    subst e1
    rw [hj]
    refine dq21f (by kernel_rfl) _ _ w14 rfl rfl rfl ?_
    intro x_ w15 hx154 hf15
    simp only [Eng.setAll,Act.put,List.setIfInBounds_toArray,List.set_cons_succ,List.set_cons_zero,hx154]
    have HF15:=Lib.hid (HF14.out.trans hf15 (T:=fun _=>False) (fun _ _ h=>h) (fun _ _ h=>h))
    clear hx154 hf15 HF14 HB14 HS14 hn0 hj
    go_wp2_with fail
    go_roundg (O.length-(q+1))
    case rel=>exact ⟨q+1,by go_num,by omega,rfl,HF15.out⟩
    case measure=>have:=HGq.out;omega
   ·have e1:vb=true:=by rw [←HVb.out,HGt.out,hn0];rfl
    have e2:P2[j]=v:=by rw [hpj,←HV.out,HGt.out,hn0];rfl
    subst e1
    rw [hje]
    obtain ⟨b2,o2,rfl,-,cc2⟩:=HS14.out.at hj (by omega)
    have hat:=AtP.row cc2 hj
    rw [e2] at hat
    have hpl:P2.length≤1000000:=by rw [←HP2.out,List.length_map];omega
    refine dq21 (by kernel_rfl) _ _ w14 Bp b2 o2 P2.length c8 j v hj hpl HB14.out hat rfl rfl rfl rfl rfl ?_
    intro x_ w15 hx154 hf15
    rw [eqP_self] at hx154
    simp only [Eng.setAll,Act.put,List.setIfInBounds_toArray,List.set_cons_succ,List.set_cons_zero,hx154]
    have HF15:=Lib.hid (HF14.out.trans hf15 (T:=fun _=>False) (fun _ _ h=>h) (fun _ _ h=>h))
    clear hx154 hf15 HF14 HB14 hn0 hje hpj e2 cc2 hat
    go_wp2_with fail
    go_roundg (O.length-(q+1))
    case rel=>exact ⟨q+1,by go_num,by omega,rfl,HF15.out⟩
    case measure=>have:=HGq.out;omega
  ·have hqe:q=O.length:=by omega
   subst hqe
   have q5:decide ((O.length:Int)<(O.length:Int))=false:=by simp
   have f1:=HC1.out HPSq.out.f.r
   have HAn:=Lib.hid (Apply_nil wr (HRd.out HPSq.out.f.r) (by omega) (by omega))
   unfold AnPost at HAn
   obtain ⟨hh,hhe⟩:∃hh,(if dmay [] O I≠0∨I= [] then dmay [] O I else 7)=hh:=⟨_,rfl⟩
   rw [hhe] at HAn
   have HHe:=Lib.hid hhe
   clear hhe
   go_wp2_with fail
   refine HAn.out.mono ?_
   rintro e w16 ⟨rfl,hb⟩
   have hfa:=(Fr.of_below' hb (fun _=>False)).trans (Fr.alloc (fun _=>False) w16 (.cells zSh TSh)) (T:=fun _=>False) (fun _ _ h=>h) (fun _ _ h=>h)
   have HPS17:=Lib.hid (HPSq.out.keep hfa)
   have HB17:=Lib.hid (Bk.new w16 zSh TSh)
   clear hb hfa HAn HPSq f0 f1
   go_upto_region 24 with (fail)
   generalize (w16.alloc (.cells #[.slice none 0 0,.slice none 0 0] TSh))=w17 at *
   have qk:IntKind.i64.wrap ((k:Int)+1)=(k:Int)+1:=by rw [IntKind.wrap_i64];omega
   by_cases hz:hh=0
   ·obtain ⟨eO,eI⟩:=an_zero (HHe.out.trans hz)
    have f0:=HC0.out HPS17.out.f.r;have f1:=HC1.out HPS17.out.f.r
    rw [eO,List.length_nil] at f0
    rw [eI,List.length_nil] at f1
    subst hz
    refine dq24a (by kernel_rfl) _ _ w17 w17 w16.heap.size b0 o0 l.length c0 k k1 k2 A1 A2 hlt (by omega) f0 f1 ⟨Fr.refl _ _,HB17.out⟩ rfl rfl rfl rfl rfl rfl rfl ?_
    intro x_ w18 hx203 hf18
    simp only [Eng.setAll,Act.put,List.setIfInBounds_toArray,List.set_cons_succ,List.set_cons_zero,hx203]
    have HPS18:=Lib.hid (HPS17.out.keep hf18)
    clear hx203 hf18 f0 f1 HPS17 HB17 eO eI
    go_wp2_with fail
    go_roundg (l.length-(k+1))
    case rel=>exact ⟨k+1,L2,F',a2,c5,by go_num,by omega,rfl,HPS18.out,by omega⟩
    case measure=>have:=HG.out;omega
   ·refine dq24b (by kernel_rfl) _ _ w17 w17 w16.heap.size hh hz ⟨Fr.refl _ _,HB17.out⟩ rfl rfl rfl rfl rfl ?_
    intro x_ w18 hx203 hf18
    simp only [Eng.setAll,Act.put,List.setIfInBounds_toArray,List.set_cons_succ,List.set_cons_zero,hx203]
    have HPS18:=Lib.hid (HPS17.out.keep hf18)
    clear hx203 hf18 HPS17 HB17 hz
    go_wp2_with fail
    go_roundg (l.length-(k+1))
    case rel=>exact ⟨k+1,L2,F',a2,c5,by go_num,by omega,rfl,HPS18.out,by omega⟩
    case measure=>have:=HG.out;omega):p:=h
theorem plays (A0:Option Addr) (c0:Nat) (l:List Dl) (w:World) (h:DL0 w A0 c0 l):Calls prog 6 #[.slice A0 l.length c0] w fun e w'=>e=.returned (.bool true)∧Below w.heap.size w w':=by
 have HL:=Lib.hid h
 have hlm:l.length≤9223372036854775807:=by have:=h.s.2.1;have:=h.s.2.2.1;unfold maxLen at this;omega
 clear h
 go_enter func6,ntmps6
 by_cases h8:l.length>8
 ·have q1:decide ((l.length:Int)>8)=true:=decide_eq_true (by omega)
  have q2:decide ((8:Int)<(l.length:Int))=true:=decide_eq_true (by omega)
  go_wp2_with fail
  refine (awake w).mono ?_
  rintro e w2 ⟨rfl,hb⟩
  have HB:=Lib.hid hb
  clear hb
  go_wp2_with fail
  go_ret
  exact ⟨rfl,HB.out⟩
 ·have q1:decide ((l.length:Int)>8)=false:=decide_eq_false (by omega)
  have q2:decide ((8:Int)<(l.length:Int))=false:=decide_eq_false (by omega)
  go_upto_region 4 with (fail)
  have hfv:=Fv.new w
  have HF1:=Lib.hid hfv.f
  have hb1:=hfv.b
  have hz1:(w.alloc (.cells #[.pointer none,.int .i64 0,.pointer none,.int .i64 0,.pointer none,.int .i64 0] KdO.TX)).heap.size=w.heap.size+1:=by simp
  have HFa:=Lib.hid (Fr.alloc (fun _=>False) w (.cells #[.pointer none,.int .i64 0,.pointer none,.int .i64 0,.pointer none,.int .i64 0] KdO.TX))
  obtain ⟨B,hB⟩:∃B,w.heap.size=B:=⟨_,rfl⟩
  generalize (w.alloc (.cells #[.pointer none,.int .i64 0,.pointer none,.int .i64 0,.pointer none,.int .i64 0] KdO.TX))=w1 at *
  rw [hB] at HF1 hz1 ⊢
  have HB1:=Lib.hid hb1;have HZ1:=Lib.hid hz1;have HBw:=Lib.hid hB
  clear hfv hb1 hz1 hB q1 q2
  have kb2:∀W:World,(Instr.build TRf #[]).run prog W=.ok (.agg #[.slice none 0 0]) W:=fun W=>by kernel_rfl
  obtain ⟨Bx,hBx⟩:∃B,w1.heap.size=B:=⟨_,rfl⟩
  have hf2:=Fr.alloc (fun _=>False) w1 (.cells #[.slice none 0 0] TRf)
  have HP0:Hid (PS w1 (w1.alloc (.cells #[.slice none 0 0] TRf)) B Bx [] [B] none 0):=by
   refine ⟨⟨HF1.out.fr hf2 (fun _ _ h=>h),hf2.mono (fun _ _ h=>h.elim),by simp⟩,by rw [←hBx];exact Bk.new w1 #[.slice none 0 0] TRf,Ls.nil _,As.nil,?_,by simp,by omega⟩
   intro hm
   have:=List.mem_singleton.1 hm;have:=HZ1.out;omega
  have HBx:=Lib.hid hBx
  clear HF1 hf2
  go_wp2_with fail
  clear kb2 hBx
  generalize (w1.alloc (.cells #[.slice none 0 0] TRf))=w2 at *
  go_loopg [6] l.length (fun gk i wr=>∃ (k:Nat) (L:List Sn) (F:List Nat) (a:Option Addr) (c:Nat),i=.int .i64 k∧k≤l.length∧gk=l.length-k∧PS w1 wr B Bx L F a c∧L.length≤12*k)
  case atStart=>exact ⟨0,[],[B],none,0,rfl,Nat.zero_le _,rfl,HP0.out,Nat.le_refl _⟩
  case round=>
   clear HP0
   obtain ⟨k,L,F,a,c,rfl,hk,hg,hps,hll⟩:=hrel
   have HG:=Lib.hid hg;have HPS:=Lib.hid hps
   clear hg hps
   by_cases hlt:k<l.length
   ·have q1:decide ((k:Int)<(l.length:Int))=true:=by simp;omega
    obtain ⟨b0,o0,rfl,hb0,cc⟩:=HL.out.s.at hlt (by omega)
    have hbB:b0≠B:=by have:=HBw.out;omega
    have hfl:∀ {X:World},Fr (fun b=>b=B) w1 X→Fr (fun b=>b=B) w X:=fun hf=>HFa.out.trans hf (T:=fun b=>b=B) (fun _ _ h=>h.elim) (fun _ _ h=>h)
    have e0:w.cell? ⟨b0,o0+k*2,none⟩=some (.slice l[k].A1 l[k].O.length l[k].c1):=cc (k*2) _ (by have:=flat_at (f:=Dl.cs) (sz:=2) (fun _=>rfl) hlt (j:=0) (by omega);exact this)
    have e1:w.cell? ⟨b0,o0+k*2+1,none⟩=some (.slice l[k].A2 l[k].I.length l[k].c2):=cc (k*2+1) _ (by have:=flat_at (f:=Dl.cs) (sz:=2) (fun _=>rfl) hlt (j:=1) (by omega);exact this)
    have hrd:=HL.out.r _ (List.getElem_mem hlt)
    clear cc
    generalize l[k]=d at *
    obtain ⟨A1,k1,O,A2,k2,I⟩:=d
    dsimp only at e0 e1
    have HC0:Hid (∀ {X:World},Fr (fun b=>b=B) w1 X→X.cell? ⟨b0,o0+k*2,none⟩=some (.slice A1 O.length k1)):=fun hf=>(World.cell?_of_block (w:=w) (a:=⟨b0,o0+k*2,none⟩) ((hfl hf).block b0 hb0 hbB)).trans e0
    have HC1:Hid (∀ {X:World},Fr (fun b=>b=B) w1 X→X.cell? ⟨b0,o0+k*2+1,none⟩=some (.slice A2 I.length k2)):=fun hf=>(World.cell?_of_block (w:=w) (a:=⟨b0,o0+k*2+1,none⟩) ((hfl hf).block b0 hb0 hbB)).trans e1
    have HRd:Hid (∀ {X:World},Fr (fun b=>b=B) w1 X→RdD X ⟨A1,k1,O,A2,k2,I⟩):=fun hf=>RdD.frB hrd (hfl hf) (fun hne q hq e=>by have:=Ls.ltB hrd.o hne q hq;have:=HBw.out;omega) (fun hne q hq e=>by have:=Ls.ltB hrd.i hne q hq;have:=HBw.out;omega)
    have HAp:Hid (ApD ⟨A1,k1,O,A2,k2,I⟩ F):=⟨fun hne q hq hm=>by
      have h1:=Ls.ltB hrd.o hne q hq;have h2:=HBw.out;have h3:=HZ1.out
      rcases HPS.out.f.lo _ hm with e|e
      ·omega
      ·omega,fun hne q hq hm=>by
      have h1:=Ls.ltB hrd.i hne q hq;have h2:=HBw.out;have h3:=HZ1.out
      rcases HPS.out.f.lo _ hm with e|e
      ·omega
      ·omega⟩
    have HGo:=Lib.hid (Ls.gd hrd.o);have HGi:=Lib.hid (Ls.gd hrd.i)
    have q2:(0:Int)≤(k:Int):=by omega
    have q3:(k:Int)<(l.length:Int):=by omega
    have f0:=HC0.out HPS.out.f.r;have f1:=HC1.out HPS.out.f.r
    clear e0 e1 hrd hfl hbB hb0
    go_wp2_with fail
    refine (FewD.FewD ⟨A1,k1,O,A2,k2,I⟩ wr (HRd.out HPS.out.f.r)).mono ?_
    rintro e w3 ⟨rfl,hf3⟩
    have HPS3:=Lib.hid (HPS.out.keep hf3)
    clear hf3 HPS f0 f1
    cases hq:(fewB O 12&&fewB I 12) with
    |false=>
     have HBr:Hid (Below w.heap.size w w3):=HB1.out.trans ((HPS3.out.f.r).below HB1.out.size (fun b hb e=>by have:=HBw.out;omega))
     go_wp2_with fail
     refine (awake w3).mono ?_
     rintro e w4 ⟨rfl,hb⟩
     have HBz:=Lib.hid (HBr.out.trans (hb.mono HBr.out.size))
     clear hb
     go_wp2_with fail
     go_ret
     exact ⟨rfl,HBz.out⟩
    |true=>
     rw [Bool.and_eq_true] at hq
     have hO:=few_len hq.1;have hI:=few_len hq.2
     have hL:L.length≤100:=by omega
     have f0:=HC0.out HPS3.out.f.r;have f1:=HC1.out HPS3.out.f.r
     obtain ⟨m,hm⟩:∃m,dmay (L.map br) O I=m:=⟨_,rfl⟩
     obtain ⟨L2,hL2⟩:∃x,lq2 L O I=x:=⟨_,rfl⟩
     obtain ⟨PL,hPL⟩:∃x,L.map (plq L)=x:=⟨_,rfl⟩
     obtain ⟨P2,hP2⟩:∃x,L2.map (plq L2)=x:=⟨_,rfl⟩
     have HgL:=Lib.hid (Ls.gd HPS3.out.l)
     have hA2:As L2:=by rw [←hL2];exact l2_as HPS3.out.s HgL.out HGo.out HGi.out
     have hLl:L2.length≤L.length+I.length:=by rw [←hL2];exact l2_len HPS3.out.s
     have HA2:=Lib.hid hA2
     have HU:=Lib.hid (ApplyU HPS3.out.f HPS3.out.s HgL.out HGo.out HGi.out (HRd.out HPS3.out.f.r) HAp.out (by omega) (by omega) (by omega) m hm L2 hL2 PL P2 hPL hP2)
     have HRu:=Lib.hid (fun (X:World) (h1:Bk X Bx #[.slice a L.length c] TRf) (h2:Ls X a c L) (h3:RdD X ⟨A1,k1,O,A2,k2,I⟩)=>ApplyRU h1 h2 HPS3.out.s h3 (by omega) (by omega) m hm L2 hL2 PL P2 hPL hP2)
     have HP2:=Lib.hid hP2
     clear hq hm hL2 hPL hP2 hA2
     go_wp2_with fail
     refine HU.out.mono ?_
     rintro e w4 ⟨s1,z1,s2,z2,n,F',rfl,g1,ht,gs1,gs2,hn⟩
     have hfa:=Fr.alloc (fun _=>False) w4 (.cells #[.slice s1 (wo PL P2).length z1,.slice s2 (wo P2 PL).length z2] TSh)
     have HG5:=Lib.hid (g1.keep hfa)
     have HT5:=Lib.hid (ht.trans (Tn.of_fr hfa (fun b hb=>g1.f.lt b hb)))
     have HS1:=Lib.hid (gs1.fr hfa (fun _ _ h=>h));have HS2:=Lib.hid (gs2.fr hfa (fun _ _ h=>h))
     have HBa:=Lib.hid (Bk.new w4 #[.slice s1 (wo PL P2).length z1,.slice s2 (wo P2 PL).length z2] TSh)
     have HNa:Hid (w4.heap.size≠Bx):=by show _≠_;have h1:=lt_of_heap HPS3.out.x;have h2:=ht.fr.size;omega
     have HN:=Lib.hid hn
     clear g1 ht gs1 gs2 hn hfa HU f0 f1
     go_upto_region 12 with (fail)
     generalize (w4.alloc (.cells #[.slice s1 (wo PL P2).length z1,.slice s2 (wo P2 PL).length z2] TSh))=w5 at *
     generalize w4.heap.size=Ba at *
     have f0:=HC0.out HG5.out.r;have f1:=HC1.out HG5.out.r
     have HMd:=Lib.hid (HPS3.out.mid HT5.out)
     have HRu5:=Lib.hid (HRu.out w5 HMd.out.1 HMd.out.2.1 (HRd.out HG5.out.r))
     clear HRu
     go_wp2_with fail
     refine HRu5.out.mono ?_
     rintro e w6 ⟨s3,z3,s4,z4,a2,c5,rfl,gs3,gs4,gx,gl,gn,gf⟩
     have hps:=HPS3.out.step HG5.out HT5.out gf gx gl HA2.out gn
     have hfb:=Fr.alloc (fun _=>False) w6 (.cells #[.slice s3 (wo PL P2).length z3,.slice s4 (wo P2 PL).length z4] TSh)
     have HPS7:=Lib.hid (hps.keep hfb)
     have HS1:=Lib.hid ((Sl.fr' HS1.out gf (bk_ne HMd.out.1 (no1 _ (fun t h=>by cases h)) HS1.out rfl)).fr hfb (fun _ _ h=>h))
     have HS2:=Lib.hid ((Sl.fr' HS2.out gf (bk_ne HMd.out.1 (no1 _ (fun t h=>by cases h)) HS2.out rfl)).fr hfb (fun _ _ h=>h))
     have HS3:=Lib.hid (gs3.fr hfb (fun _ _ h=>h));have HS4:=Lib.hid (gs4.fr hfb (fun _ _ h=>h))
     have HBa:=Lib.hid ((HBa.out.fr gf (fun b hb e=>HNa.out (List.mem_singleton.1 hb▸e))).fr hfb (fun _ _ h=>h))
     have HBb:=Lib.hid (Bk.new w6 #[.slice s3 (wo PL P2).length z3,.slice s4 (wo P2 PL).length z4] TSh)
     clear hps gs3 gs4 gx gl gn gf hfb HMd HRu5 HPS3 HG5 HT5 f0 f1
     go_upto_region 13 with (fail)
     generalize (w6.alloc (.cells #[.slice s3 (wo PL P2).length z3,.slice s4 (wo P2 PL).length z4] TSh))=w7 at *
     generalize w6.heap.size=Bb at *
     go_wp2_with fail
     refine (Ref22.PlacesR HPS7.out.x HPS7.out.l HA2.out (by omega) P2 HP2.out _ rfl).mono ?_
     rintro e w8 ⟨A8,c8,rfl,hs8,hf8⟩
     have HPS8:=Lib.hid (HPS7.out.keep hf8)
     have ba:=HBa.out.fr hf8 (fun _ _ h=>h);have bb:=HBb.out.fr hf8 (fun _ _ h=>h)
     have HSh:=Lib.hid (Ref22.SameShift w8 rfl rfl (HS1.out.fr hf8 (fun _ _ h=>h)) (HS2.out.fr hf8 (fun _ _ h=>h)) (HS3.out.fr hf8 (fun _ _ h=>h)) (HS4.out.fr hf8 (fun _ _ h=>h)))
     have HS8:=Lib.hid hs8
     have ca0:=ba.cell 0;have ca1:=ba.cell 1;have cb0:=bb.cell 0;have cb1:=bb.cell 1
     simp only [List.getElem?_toArray,List.getElem?_cons_zero,List.getElem?_cons_succ] at ca0 ca1 cb0 cb1
     clear hs8 hf8 HS1 HS2 HS3 HS4 HBa HBb HPS7 ba bb
     go_wp2_with fail
     refine HSh.out.mono ?_
     rintro e w9 ⟨rfl,hf9⟩
     have HPS9:=Lib.hid (HPS8.out.keep hf9)
     have HS9:=Lib.hid (HS8.out.fr hf9 (fun _ _ h=>h))
     clear hf9 HPS8 HS8 HSh ca0 ca1 cb0 cb1
     have qm:(m != m)=false:=by simp
     by_cases hm0:m=0
     ·have qd:(m != 0)=false:=by simp [hm0]
      clear hm0 HN
      exact rest
     ·have qd:(m != 0)=true:=by simp [hm0]
      obtain rfl:=HN.out hm0
      clear hm0 HN
      exact rest
   ·have hke:k=l.length:=by omega
    subst hke
    have q1:decide ((l.length:Int)<(l.length:Int))=false:=by simp
    have HBr:Hid (Below w.heap.size w wr):=HB1.out.trans (HPS.out.f.r.below HB1.out.size (fun b hb e=>by have:=HBw.out;omega))
    clear HPS
    go_wp2_with fail
    refine (awake wr).mono ?_
    rintro e w9 ⟨rfl,hb⟩
    have HBz:=Lib.hid (HBr.out.trans (hb.mono HBr.out.size))
    clear hb
    go_wp2_with fail
    go_ret
    exact ⟨rfl,HBz.out⟩
end Law22
end Go.Proofs.YtgfjpnpbkkadpaaGreat
