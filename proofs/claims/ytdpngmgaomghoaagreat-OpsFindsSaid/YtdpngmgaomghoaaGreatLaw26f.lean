/- Layer 26's statements: OpsFinds: for every input the answer is true. -/
import Derived.Test.YtdpngmgaomghoaaGreatL26
import Derived.Test.YtdpngmgaomghoaaGreatDelta3n
namespace Go.Proofs.YtdpngmgaomghoaaGreat
open Tryz
set_option maxRecDepth 100000
set_option maxHeartbeats 4000000
open Go.RowKit
namespace Law26
open BagP HistP OpsP KeyP PackP SetP SetW SetF Sli Name Pack Delta ClsW
open Ops (OV vL fl Es applyR mays rc nmN Tl AllPost OL strs opc opZ TO TOs TSt TStrs)
attribute [local go_sem] Eng.ev Eng.getO_cons Eng.getO_nil
theorem few_len' {L:List Sn} {n:Nat} (h:fewB L n=true):L.length≤n:=by unfold fewB at h;simp at h;exact h.2
theorem lv_at {l:List Lv} {k:Nat} (hk:k<l.length):(l.flatMap lvc)[k]? =some (.slice l[k].A l[k].L.length l[k].c):=by
 have:=flat_at lvc_len hk (j:=0) (by omega)
 rw [Nat.mul_one,Nat.add_zero] at this
 rw [this];rfl
theorem wout_perm (A B:List Sn):(A.filter (fun x=>decide (x∈B))++wout B A).Perm A:=List.filter_append_perm (fun x=>decide (x∈B)) A
theorem both_perm {A B:List Sn} (hA:Srs A) (hB:Srs B):(A.filter (fun x=>decide (x∈B))).Perm (B.filter (fun x=>decide (x∈A))):=by
 refine (List.perm_ext_iff_of_nodup ((srs_nodup hA).filter _) ((srs_nodup hB).filter _)).2 (fun x=>?_)
 simp [List.mem_filter,and_comm]
theorem apply_bet {P N:List Sn} (hP:PackP.Ok P) (hN:PackP.Ok N) (lP:P.length≤1000) (lN:N.length≤1000):applyR (wout N P) (wout P N) (ofV (P.map rc))=some (ofV (N.map rc)):=by
 have hO:PackP.Ok (wout N P):=hP.filter _
 have hI:PackP.Ok (wout P N):=hN.filter _
 unfold applyR
 rw [Ops.ok_mays hO,Ops.ok_mays hI]
 have z1:=Ops.rc_nz (Ops.ok_nm hO);have z2:=Ops.rc_nz (Ops.ok_nm hI)
 have vP:=VG.of (Ops.rc_nz (Ops.ok_nm hP)) (by rw [List.length_map];omega)
 have vN:=VG.of (Ops.rc_nz (Ops.ok_nm hN)) (by rw [List.length_map];omega)
 have p1:(P.map rc).Perm ((wout N P).map rc++(P.filter (fun x=>decide (x∈N))).map rc):=by
  rw [←List.map_append];exact (((wout_perm P N).symm).trans List.perm_append_comm).map _
 have l1:(P.filter (fun x=>decide (x∈N))).length≤P.length:=List.length_filter_le _ _
 have l2:(wout P N).length≤N.length:=List.length_filter_le _ _
 obtain ⟨V',e,hv⟩:=vP.apply z1 z2 p1 (by rw [List.length_map,List.length_map];omega)
 have p2:((P.filter (fun x=>decide (x∈N))).map rc++(wout P N).map rc).Perm (N.map rc):=by
  rw [←List.map_append]
  exact (((both_perm hP.srs hN.srs).append_right _).trans (wout_perm N P)).map _
 show applyV _ _ _=_
 rw [e,hv.ext vN p2]
theorem ApplyT {w0 w:World} {B:Nat} {V V2:Vw} {F:List Nat} (H:VS w0 w B V F) (d:Dl) (hd:RdD w d) (ha1:∀a,d.A1=some a→d.O≠ []→a.block∉F) (ha2:∀a,d.A2=some a→d.I≠ []→a.block∉F) (lV:V.length≤1000000) (lO:d.O.length≤100000) (lI:d.I.length≤100000) (b:Bool) (hr:if b then applyR d.O d.I V=some V2 else (applyR d.O d.I V=none∧V2=V)):
  Calls prog 25 #[.pointer (some ⟨B,0,none⟩),d.v] w fun e w'=>e=.returned (.bool b)∧∃F',VS w0 w' B V2 F'∧Tn F F' w w':=by
 obtain ⟨M,E,h,rfl,rfl⟩:=H.v
 refine (Ops.Apply B M E d w h H.k hd ha1 ha2 (by rwa [Ops.vlen] at lV) lO lI).mono ?_
 rintro e w' ⟨b',M',E',rfl,h1,h2,h3⟩
 have hg:∀x∈fl B M' E',w0.heap.size≤x:=fun x hx=>by
  rcases (h2.sub x hx).1 with h|h
  ·exact H.g x h
  ·exact Nat.le_trans H.b.size h
 have hb:=H.b.trans (h2.fr.below H.b.size (fun i hi hm=>by have:=H.g i hm;omega))
 cases b with
 |true=>
  rw [if_pos rfl] at hr
  rcases h3 with ⟨rfl,h3⟩| ⟨-,h3,-⟩
  ·have e2:V2=vL E':=Option.some.inj (hr.symm.trans h3)
   refine ⟨rfl,fl B M' E',⟨⟨M',E',h1,e2.symm,rfl⟩,hg,hb,?_⟩,h2⟩
   have hm:=h3
   unfold applyR at hm
   split at hm
   ·rename_i hx
    simp only [Bool.and_eq_true] at hx
    rw [e2]
    exact H.k.apply (Ops.rc_nz (Ops.mays_nm hx.1)) (Ops.rc_nz (Ops.mays_nm hx.2)) hm
   ·cases hm
  ·rw [hr] at h3;cases h3
 |false=>
  rw [if_neg Bool.false_ne_true] at hr
  obtain ⟨hr,rfl⟩:=hr
  rcases h3 with ⟨-,h3⟩| ⟨rfl,-,h3⟩
  ·rw [hr] at h3;cases h3
  ·exact ⟨rfl,fl B M' E',⟨⟨M',E',h1,h3,rfl⟩,hg,hb,H.k⟩,h2⟩
structure TL (w:World) (A:Option Addr) (c:Nat) (T:List Tl):Prop where
 s:Sl w 6 A T.length c (T.flatMap Tl.cs)
 b:∀e∈T,Sl w 2 e.A e.x.1.length e.c (e.x.1.flatMap Bag.pc)
theorem TL.fr {w w':World} {A:Option Addr} {c:Nat} {T:List Tl} (H:TL w A c T) (hf:Fr (fun _=>False) w w'):TL w' A c T:=⟨H.s.fr hf (fun _ _ h=>h),fun e he=>(H.b e he).fr hf (fun _ _ h=>h)⟩
theorem TL.below {w w':World} {A:Option Addr} {c:Nat} {T:List Tl} (H:TL w A c T) (hb:Below w.heap.size w w'):TL w' A c T:=H.fr (Fr.of_below' hb _)
structure FB (w0 w:World) (B:Nat) (V:Vw) (F:List Nat) (xl:Lv) (An:Option Addr) (cn:Nat) (N:List Sn) (b1 o:Nat):Prop where
 v:VS w0 w B V F
 x:∀W,Below w0.heap.size w0 W→Ls W xl.A xl.c xl.L
 e:∀W,Below w0.heap.size w0 W→W.cell? ⟨b1,o,none⟩=some (.slice xl.A xl.L.length xl.c)
 n:Ls w An cn N
 m:∀a,An=some a→N≠ []→a.block<w.heap.size∧a.block∉F
section
variable {w0 w w':World} {B:Nat} {V:Vw} {F:List Nat} {xl:Lv} {An:Option Addr} {cn:Nat} {N:List Sn} {b1 o:Nat}
theorem FB.below (H:FB w0 w B V F xl An cn N b1 o) (hb:Below w.heap.size w w'):FB w0 w' B V F xl An cn N b1 o:=⟨H.v.below hb,H.x,H.e,H.n.keep (Fr.of_below' hb _),fun a ha hne=>⟨Nat.lt_of_lt_of_le (H.m a ha hne).1 hb.size,(H.m a ha hne).2⟩⟩
theorem FB.keep (H:FB w0 w B V F xl An cn N b1 o) (hf:Fr (fun _=>False) w w'):FB w0 w' B V F xl An cn N b1 o:=H.below (hf.below (Nat.le_refl _) (fun _ _ h=>h))
end
structure F1 (w0 w:World) (B:Nat) (V:Vw) (F:List Nat) (xl:Lv) (An:Option Addr) (cn:Nat) (N:List Sn) (b1 o:Nat) (y:Dl):Prop extends FB w0 w B V F xl An cn N b1 o where
 d:RdD w y
 d1:∀a,y.A1=some a→a.block∉F
 d2:∀a,y.A2=some a→a.block∉F
structure F3 (w0 w:World) (B:Nat) (V:Vw) (F:List Nat) (xl:Lv) (An:Option Addr) (cn:Nat) (N:List Sn) (b1 o:Nat) (A:Option Addr) (c:Nat) (T:List Tl):Prop extends FB w0 w B V F xl An cn N b1 o where
 t:TL w A c T
structure F4 (w0 w:World) (B:Nat) (V:Vw) (F:List Nat) (xl:Lv) (An:Option Addr) (cn:Nat) (N:List Sn) (b1 o:Nat) (A:Option Addr) (c:Nat) (T:List Tl) (A':Option Addr) (c':Nat) (U:List Tl):Prop extends F3 w0 w B V F xl An cn N b1 o A c T where
 u:TL w A' c' U
structure F0 (w0 w:World) (B:Nat) (V:Vw) (F:List Nat) (xl:Lv) (An:Option Addr) (cn:Nat) (N:List Sn) (b1 o:Nat) (Ap:Option Addr) (cp:Nat) (P:List Sn):Prop extends FB w0 w B V F xl An cn N b1 o where
 p:Ls w Ap cp P
section
variable {w0 w w':World} {B:Nat} {V:Vw} {F:List Nat} {xl:Lv} {An:Option Addr} {cn:Nat} {N:List Sn} {b1 o:Nat} {Ap:Option Addr} {cp:Nat} {P:List Sn}
theorem F0.keep (H:F0 w0 w B V F xl An cn N b1 o Ap cp P) (hf:Fr (fun _=>False) w w'):F0 w0 w' B V F xl An cn N b1 o Ap cp P:=⟨H.toFB.keep hf,H.p.keep hf⟩
theorem F0.bet (H:F0 w0 w B V F xl An cn N b1 o Ap cp P) (hP:PackP.Ok P) (hN:PackP.Ok N) (lP:P.length≤1000) (lN:N.length≤1000):Calls prog 41 #[.slice Ap P.length cp,.slice An N.length cn] w fun e w'=>∃A1 c1 A2 c2,e=.returned (Dl.mk A1 c1 (wout N P) A2 c2 (wout P N)).v∧F1 w0 w' B V F xl An cn N b1 o ⟨A1,c1,wout N P,A2,c2,wout P N⟩:=by
 have h:=BetweenN Ap An cp cn P N w H.p H.n (by omega) (by omega)
 rw [hP.set,hN.set] at h
 refine h.mono ?_
 rintro e w' ⟨A1,c1,A2,c2,rfl,hd,hb,g1,g2⟩
 exact ⟨A1,c1,A2,c2,rfl,H.toFB.below hb,hd,fun a ha hm=>by have:=g1 a ha;have:=H.v.lt _ hm;omega,fun a ha hm=>by have:=g2 a ha;have:=H.v.lt _ hm;omega⟩
theorem F1.apply {A1 A2:Option Addr} {c1 c2:Nat} (H:F1 w0 w B (ofV (P.map rc)) F xl An cn N b1 o ⟨A1,c1,wout N P,A2,c2,wout P N⟩) (hP:PackP.Ok P) (hN:PackP.Ok N) (lP:P.length≤1000) (lN:N.length≤1000):Calls prog 25 #[.pointer (some ⟨B,0,none⟩),(Dl.mk A1 c1 (wout N P) A2 c2 (wout P N)).v] w fun e w'=>e=.returned (.bool true)∧∃F',FB w0 w' B (ofV (N.map rc)) F' xl An cn N b1 o:=by
 have l0:=Ops.adds_len (P.map rc) []
 have l1:(wout N P).length≤P.length:=List.length_filter_le _ _
 have l2:(wout P N).length≤N.length:=List.length_filter_le _ _
 refine (ApplyT H.v ⟨A1,c1,wout N P,A2,c2,wout P N⟩ H.d (fun a ha _=>H.d1 a ha) (fun a ha _=>H.d2 a ha) (by unfold ofV;rw [List.length_map,List.length_nil] at l0;omega) (by show (wout N P).length≤_;omega) (by show (wout P N).length≤_;omega) true (apply_bet hP hN lP lN)).mono ?_
 rintro e w' ⟨rfl,F',hv,ht⟩
 refine ⟨rfl,F',hv,H.x,H.e,Ops.keepV H.n ht.fr (fun a ha hne=>(H.m a ha hne).2),fun a ha hne=>⟨Nat.lt_of_lt_of_le (H.m a ha hne).1 ht.fr.size,fun hm=>?_⟩⟩
 rcases (ht.sub _ hm).1 with h|h
 ·exact (H.m a ha hne).2 h
 ·have:=(H.m a ha hne).1;omega
theorem FB.all (H:FB w0 w B V F xl An cn N b1 o) (lV:V.length≤1000000):Calls prog 28 #[.pointer (some ⟨B,0,none⟩)] w fun e w'=>∃T A c,e=.returned (.slice A T.length c)∧T.map Tl.v=V.map (·.2)∧F3 w0 w' B V F xl An cn N b1 o A c T:=
 (Law26.All H.v lV).mono (fun _e _w' ⟨T,A,c,h1,h2,h3,h4⟩=>⟨T,A,c,h1,h2,H.below h4,h3.s,h3.b⟩)
variable {A:Option Addr} {c:Nat} {T:List Tl} {A':Option Addr} {c':Nat} {U:List Tl}
theorem F3.of (H:F3 w0 w B V F xl An cn N b1 o A c T) (hN:spn xl.L=N) (hx:xl.L.length≤1000):Calls prog 39 #[.slice xl.A xl.L.length xl.c] w fun e w'=>∃U A' c',e=.returned (.slice A' U.length c')∧U.map Tl.v=(ofV (N.map rc)).map (·.2)∧F4 w0 w' B V F xl An cn N b1 o A c T A' c' U:=by
 refine (Ops.Of xl.A xl.c xl.L w (H.x w H.v.b) hx).mono ?_
 rintro e w' ⟨U,A',c',h1,h2,h3,h4⟩
 exact ⟨U,A',c',h1,by rw [←hN];exact h2,⟨H.toFB.below h4,H.t.below h4⟩,h3.s,h3.b⟩
theorem F3.ofR (H:F3 w0 w B V F xl An cn N b1 o A c T) (hN:spn xl.L=N) (hx:xl.L.length≤1000):Calls prog 42 #[.slice xl.A xl.L.length xl.c] w fun e w'=>∃U A' c',e=.returned (.slice A' U.length c')∧U.map Tl.v=(ofV (N.map rc)).map (·.2)∧F4 w0 w' B V F xl An cn N b1 o A c T A' c' U:=by
 refine (Rf26.Of xl.A xl.c xl.L w (H.x w H.v.b) hx).mono ?_
 rintro e w' ⟨U,A',c',h1,h2,h3,h4⟩
 exact ⟨U,A',c',h1,by rw [←hN];exact h2,⟨H.toFB.below h4,H.t.below h4⟩,h3.s,h3.b⟩
theorem F4.same (H:F4 w0 w B V F xl An cn N b1 o A c T A' c' U) (h:T.map Tl.v=U.map Tl.v) (lT:T.length≤1000000000):Calls prog 27 #[.slice A T.length c,.slice A' U.length c'] w fun e w'=>e=.returned (.bool true)∧FB w0 w' B V F xl An cn N b1 o:=
 (Rf26.Same H.t.s H.u.s H.t.b H.u.b h lT).mono (fun _e _w' h=>⟨h.1,H.toFB.keep h.2⟩)
end
theorem of11 {ops:Array Oper} (hops:Eng.fnOps Tryz.f6 11=ops) (a0:Act) (Q:Exit→Act→World→Prop) (w0 w:World) (B:Nat) (F:List Nat) (xl:Lv) (An:Option Addr) (cn:Nat) (N:List Sn) (b1 o1 k len c0:Nat) (Ap:Option Addr) (cp:Nat) (P:List Sn) (hst:F0 w0 w B (ofV (P.map rc)) F xl An cn N b1 (o1+k) Ap cp P) (hP:PackP.Ok P) (hN:PackP.Ok N) (lP:P.length≤20) (lN:N.length≤20) (hx:spn xl.L=N) (lX:xl.L.length≤1000) (hk:k<len)
  (hn:a0.tmps.size=56) (h_0:a0.tmps.getD 0 undef=.slice (some ⟨b1,o1,none⟩) len c0) (h_3:a0.tmps.getD 3 undef=.pointer (some ⟨B,0,none⟩)) (h_4:a0.tmps.getD 4 undef=.slice Ap P.length cp) (h_5:a0.tmps.getD 5 undef=.int .i64 (k:Int)) (h_6:a0.tmps.getD 6 undef=.slice An N.length cn)
  (hpost:∀ (x:Nat→Value) (w':World) (F':List Nat),x 53=.bool false→FB w0 w' B (ofV (N.map rc)) F' xl An cn N b1 (o1+k)→Q .normal (Eng.setAll a0 [29,30,31,32,33,34,35,36,37,38,39,40,41,42,43,44,45,46,47,48,49,50,51,52,53] x) w'):
  (Code.region 11 ops true).wp prog Q a0 w:=by
 simp only [Eng.fnOps,Eng.regOps,Tryz.f6,Option.bind_some,Option.getD_some,Nat.reduceEqDiff,↓reduceIte] at hops
 subst hops
 have q1:(0:Int)≤(k:Int):=by omega
 have q2:(k:Int)<(len:Int):=by omega
 have lV:(ofV (N.map rc)).length≤1000000:=by
  have h:=Ops.adds_len (N.map rc) []
  unfold ofV;rw [List.length_map,List.length_nil] at h;omega
 have lT:∀T:List Tl,T.map Tl.v=(ofV (N.map rc)).map (·.2)→T.length≤1000000000:=fun T h=>by
  have:=congrArg List.length h
  rw [List.length_map,List.length_map] at this;omega
 have HSt:=Lib.hid (hst.keep (Fr.drew _ _))
 refine Eng.regionN [(0,true),(1,true),(2,false),(3,false),(4,true),(5,true),(7,true),(8,true),(9,true),(10,true),(6,false),(11,false),(12,false),(13,true),(14,true),(15,true),(17,true),(18,true),(19,true),(20,true),(16,false),(21,false),(22,false),(23,true),(24,true)] (fun w'=>w'.cell? ⟨b1,o1+k,none⟩=some (.slice xl.A xl.L.length xl.c)) (by kernel_rfl) 56 hn (by kernel_rfl) rfl (by kernel_rfl) (HSt.out.e _ HSt.out.v.b) (fun a b ha hb=>?_)
 subst ha
 have hb0:b 0=.slice (some ⟨b1,o1,none⟩) len c0:=(hb 0).symm.trans h_0
 have hb3:b 3=.pointer (some ⟨B,0,none⟩):=(hb 3).symm.trans h_3
 have hb4:b 4=.slice Ap P.length cp:=(hb 4).symm.trans h_4
 have hb5:b 5=.int .i64 (k:Int):=(hb 5).symm.trans h_5
 have hb6:b 6=.slice An N.length cn:=(hb 6).symm.trans h_6
 clear hb h_0 h_3 h_4 h_5 h_6
 have HP:=Lib.hid hpost;have HN:=Lib.hid hn
 clear hpost hn
 refine Eng.Sch.tk ?_
 refine Eng.Sch.tk ?_
 refine Eng.Sch.call rfl rfl (by decide) (by kernel_rfl) ?_ (HSt.out.bet hP hN (by omega) (by omega)) ?_
 ·go_simp
 rintro e w2 ⟨A6,c6,A7,c7,rfl,hF1⟩
 have HSt1:=Lib.hid (hF1)
 refine ⟨_,rfl,HSt1.out.e _ HSt1.out.v.b,?_⟩
 refine Eng.Sch.call rfl rfl (by decide) (by kernel_rfl) ?_ (HSt1.out.apply hP hN (by omega) (by omega)) ?_
 ·go_simp
 rintro e w3 ⟨rfl,F2,hF2⟩
 have HSt2:=Lib.hid (hF2)
 refine ⟨_,rfl,HSt2.out.e _ HSt2.out.v.b,?_⟩
 iterate 6 (refine Eng.Sch.tk ?_)
 refine Eng.Sch.call rfl rfl (by decide) (by kernel_rfl) ?_ (HSt2.out.all lV) ?_
 ·go_simp
 rintro e w4 ⟨T1,A8,c8,rfl,ht1,hF3⟩
 have HSt3:=Lib.hid (hF3)
 refine ⟨_,rfl,HSt3.out.e _ HSt3.out.v.b,?_⟩
 refine Eng.Sch.call rfl rfl (by decide) (by kernel_rfl) ?_ (HSt3.out.of hx lX) ?_
 ·go_simp
 rintro e w5 ⟨U1,A9,c9,rfl,hu1,hF4⟩
 have HSt4:=Lib.hid (hF4)
 refine ⟨_,rfl,HSt4.out.e _ HSt4.out.v.b,?_⟩
 refine Eng.Sch.call rfl rfl (by decide) (by kernel_rfl) ?_ (HSt4.out.same (ht1.trans hu1.symm) (lT T1 ht1)) ?_
 ·go_simp
 rintro e w6 ⟨rfl,hF5⟩
 have HSt5:=Lib.hid (hF5)
 refine ⟨_,rfl,HSt5.out.e _ HSt5.out.v.b,?_⟩
 iterate 7 (refine Eng.Sch.tk ?_)
 refine Eng.Sch.call rfl rfl (by decide) (by kernel_rfl) ?_ (HSt5.out.all lV) ?_
 ·go_simp
 rintro e w7 ⟨T2,A10,c10,rfl,ht2,hF6⟩
 have HSt6:=Lib.hid (hF6)
 refine ⟨_,rfl,HSt6.out.e _ HSt6.out.v.b,?_⟩
 refine Eng.Sch.call rfl rfl (by decide) (by kernel_rfl) ?_ (HSt6.out.ofR hx lX) ?_
 ·go_simp
 rintro e w8 ⟨U2,A11,c11,rfl,hu2,hF7⟩
 have HSt7:=Lib.hid (hF7)
 refine ⟨_,rfl,HSt7.out.e _ HSt7.out.v.b,?_⟩
 refine Eng.Sch.call rfl rfl (by decide) (by kernel_rfl) ?_ (HSt7.out.same (ht2.trans hu2.symm) (lT T2 ht2)) ?_
 ·go_simp
 rintro e w9 ⟨rfl,hF8⟩
 have HSt8:=Lib.hid (hF8)
 refine ⟨_,rfl,HSt8.out.e _ HSt8.out.v.b,?_⟩
 refine Eng.Sch.tk ?_
 refine Eng.Sch.tk ?_
 refine Eng.Sch.end_ [29,30,31,32,33,34,35,36,37,38,39,40,41,42,43,44,45,46,47,48,49,50,51,52,53] HN.out (by kernel_rfl) (by kernel_rfl) ?_
 exact HP.out _ _ _ rfl HSt8.out
theorem finds (A0:Option Addr) (c0:Nat) (l:List Lv) (w:World) (hS:Sl w 1 A0 l.length c0 (l.flatMap lvc)∧∀x∈l,Rd w x):
  Calls prog 6 #[.slice A0 l.length c0] w fun e w'=>e=.returned (.bool true)∧Below w.heap.size w w':=by
 have HSl:=Lib.hid hS.1;have HR:=Lib.hid hS.2
 have HB:=Lib.hid (Below.refl w.heap.size w)
 have hl64:l.length≤9223372036854775807:=by have:=hS.1.2.1;have:=hS.1.2.2.1;unfold maxLen at this;omega
 clear hS
 go_enter func6,ntmps6
 by_cases h8:l.length>8
 ·have q0:decide ((l.length:Int)>8)=true:=by simp;omega
  have q0':decide ((8:Int)<(l.length:Int))=true:=by simp;omega
  clear h8
  go_wp2_with fail
  refine (awake w).mono ?_
  rintro e w2 ⟨rfl,hb⟩
  have HB2:=Lib.hid hb
  clear hb
  go_wp2_with fail
  go_ret
  exact ⟨rfl,HB2.out⟩
 ·have q0:decide ((l.length:Int)>8)=false:=by simp;omega
  have q0':decide ((8:Int)<(l.length:Int))=false:=by simp;omega
  clear h8
  go_upto_region 4 with (fail)
  have HV:Hid (VS w (w.alloc (.cells #[.pointer none,.int .i64 0] Ops.TV)) w.heap.size [] (fl w.heap.size [] [])):=Lib.hid (VS.new HB.out)
  clear HB
  generalize w.alloc (.cells #[.pointer none,.int .i64 0] Ops.TV)=w1 at *
  generalize hBv:w.heap.size=B at HV ⊢
  go_wp2_with fail
  go_loopg [4,5] l.length (fun gk v i wr=>∃ (k:Nat) (P:List Sn) (Ap:Option Addr) (cp:Nat) (F:List Nat),i=.int .i64 k∧v=.slice Ap P.length cp∧k≤l.length∧gk=l.length-k∧VS w wr B (ofV (P.map rc)) F∧Ls wr Ap cp P∧PackP.Ok P∧P.length≤20∧∀a,Ap=some a→P≠ []→a.block∉F)
  case atStart=>exact ⟨0,[],none,0,_,rfl,rfl,Nat.zero_le _,rfl,HV.out,Ls.nil _,⟨List.Pairwise.nil,by simp,by simp⟩,by simp,by simp⟩
  case round=>
   clear HV
   obtain ⟨k,P,Ap,cp,F,rfl,rfl,hk,hg,hv,hls,hok,hpl,hap⟩:=hrel
   have HG:=Lib.hid hg;have HP:=Lib.hid hls;have HOk:=Lib.hid hok;have HV:=Lib.hid hv;have HAp:=Lib.hid hap
   clear hg hls hok hv hap
   by_cases hlt:k<l.length
   ·obtain ⟨b1,o1,rfl,hb1,c1⟩:=HSl.out.at hlt (by omega)
    have e0:=c1 k _ (lv_at hlt)
    have HR1:=Lib.hid (HR.out _ (List.getElem_mem hlt))
    clear c1
    generalize l[k]=xl at *
    have HE:Hid (∀W',Below w.heap.size w W'→W'.cell? ⟨b1,o1+k,none⟩=some (.slice xl.A xl.L.length xl.c)):=fun W' hW=>(hW.cell (p:=⟨b1,_,none⟩) hb1).trans e0
    have HX:Hid (∀W',Below w.heap.size w W'→Ls W' xl.A xl.c xl.L):=fun W' hW=>HR1.out.below hW
    clear e0 HR1
    have q1:(0:Int)≤(k:Int):=by omega
    have q2:decide ((k:Int)<(l.length:Int))=true:=by simp;omega
    have q3:(k:Int)<(l.length:Int):=by omega
    have e0:=HE.out _ HV.out.b
    go_wp2_with fail
    refine (SetF.Few _ _ 20 xl.L wr (HX.out wr HV.out.b).s).mono ?_
    rintro e w2 ⟨rfl,hf⟩
    have HV2:=Lib.hid (HV.out.keep hf);have HP2:=Lib.hid (HP.out.keep hf)
    clear hf HV HP e0
    cases hq:fewB xl.L 20 with
    |false=>
     go_wp2_with fail
     refine (awake w2).mono ?_
     rintro e w3 ⟨rfl,hb⟩
     have HB3:=Lib.hid (HV2.out.b.trans (hb.mono HV2.out.b.size))
     clear hb
     go_wp2_with fail
     go_ret
     exact ⟨rfl,HB3.out⟩
    |true=>
     have hq_x:=few_len' hq
     clear hq
     have hsl:(spn xl.L).length≤20:=Nat.le_trans (Nat.le_trans (alive_len _) (setOf_len xl.L)) hq_x
     have e0:=HE.out _ HV2.out.b
     have HSp:=Lib.hid (RefSpans xl.A xl.c xl.L w2 (HX.out w2 HV2.out.b) (by omega))
     have HOkN:=Lib.hid (Ops.spn_okL xl.L)
     obtain ⟨N,hN⟩:∃N,spn xl.L=N:=⟨_,rfl⟩
     rw [hN] at HSp hsl HOkN
     have HNe:=Lib.hid hN
     clear hN
     go_wp2_with fail
     refine HSp.out.mono ?_
     rintro e w3 ⟨An,cn,rfl,hls,hown,hb⟩
     have HF0:Hid (F0 w w3 B (ofV (P.map rc)) F xl An cn N b1 (o1+k) Ap cp P):=Lib.hid ⟨⟨HV2.out.below hb,HX.out,HE.out,hls,fun a ha _=>by
      obtain ⟨A',c',he,-,h3⟩:=Sl.of_own hown
      cases he
      obtain ⟨h4,-,h5⟩:=h3 a ha
      exact ⟨h5,fun hm=>by have:=HV2.out.lt _ hm;omega⟩⟩,HP2.out.keep (Fr.of_below' hb _)⟩
     clear hls hown hb HSp HV2 HP2 e0
     go_upto_region 11 with (fail)
     refine of11 (by kernel_rfl) _ _ w w3 B F xl An cn N b1 o1 k l.length c0 Ap cp P HF0.out HOk.out HOkN.out hpl hsl HNe.out (by omega) hlt rfl rfl rfl rfl rfl rfl ?_
     intro x w4 F' h53 hst
     simp only [Eng.setAll,Act.put,List.setIfInBounds_toArray,List.set_cons_succ,List.set_cons_zero]
     rw [h53]
     have HFB:=Lib.hid hst
     clear hst h53 HF0
     go_wp2_with fail
     go_roundg (l.length-(k+1))
     case rel=>exact ⟨k+1,N,An,cn,F',by go_num,rfl,by omega,rfl,HFB.out.v,HFB.out.n,HOkN.out,hsl,fun a ha hne=>(HFB.out.m a ha hne).2⟩
     case measure=>have:=HG.out;omega
   ·obtain rfl:k=l.length:=by omega
    have q2:decide ((l.length:Int)<(l.length:Int))=false:=by simp
    go_wp2_with fail
    refine (awake wr).mono ?_
    rintro e w3 ⟨rfl,hb⟩
    have HB3:=Lib.hid (HV.out.b.trans (hb.mono HV.out.b.size))
    clear hb
    go_wp2_with fail
    go_ret
    exact ⟨rfl,HB3.out⟩
end Law26
end Go.Proofs.YtdpngmgaomghoaaGreat
