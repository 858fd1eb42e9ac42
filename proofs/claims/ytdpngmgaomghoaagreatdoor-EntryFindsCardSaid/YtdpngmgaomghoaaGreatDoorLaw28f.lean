/- Layer 28's statements: EntryFinds: for every input the answer is true. -/
import Derived.Test.YtdpngmgaomghoaaGreatDoorLaw28a
import Derived.Test.YtdpngmgaomghoaaGreatDoorDelta3n
namespace Go.Proofs.YtdpngmgaomghoaaGreatDoor
open Tryz
set_option maxRecDepth 100000
set_option maxHeartbeats 4000000
open Go.RowKit
namespace Law28
open BagP KeyP EntP OpsP PackP SetP SetW SetF Sli Name Pack Delta ClsW
open Ent (EV TV bg mays apE TI TIs ints infoI TE TEs En EL AllPost)
attribute [local go_sem] Eng.ev Eng.getO_cons Eng.getO_nil
theorem few_len' {L:List Sn} {n:Nat} (h:fewB L n=true):L.length≤n:=by unfold fewB at h;simp at h;exact h.2
theorem lv_at {l:List Lv} {k:Nat} (hk:k<l.length):(l.flatMap lvc)[k]? =some (.slice l[k].A l[k].L.length l[k].c):=by
 have:=flat_at lvc_len hk (j:=0) (by omega)
 rw [Nat.mul_one,Nat.add_zero] at this
 rw [this];rfl
theorem wout_perm (A B:List Sn):(A.filter (fun x=>decide (x∈B))++wout B A).Perm A:=List.filter_append_perm (fun x=>decide (x∈B)) A
theorem both_perm {A B:List Sn} (hA:Srs A) (hB:Srs B):(A.filter (fun x=>decide (x∈B))).Perm (B.filter (fun x=>decide (x∈A))):=by
 refine (List.perm_ext_iff_of_nodup ((srs_nodup hA).filter _) ((srs_nodup hB).filter _)).2 (fun x=>?_)
 simp [List.mem_filter,and_comm]
theorem bg_perm {A B:List Sn} (h:A.Perm B):(bg A).Perm (bg B):=(h.filter _).map _
theorem bg_len (A:List Sn):(bg A).length≤A.length:=by unfold bg;rw [List.length_map];exact List.length_filter_le _ _
theorem apply_bet {P N:List Sn} (hP:PackP.Ok P) (hN:PackP.Ok N):∃r,apE (wout N P) (wout P N) (bg P)=some r∧(bg N).Perm r:=by
 have hO:PackP.Ok (wout N P):=hP.filter _
 have hI:PackP.Ok (wout P N):=hN.filter _
 unfold apE
 rw [Ent.ok_mays hO,Ent.ok_mays hI]
 have p1:(bg P).Perm (bg (wout N P)++bg (P.filter (fun x=>decide (x∈N)))):=by
  rw [←Ent.bg_app];exact bg_perm (((wout_perm P N).symm).trans List.perm_append_comm)
 obtain ⟨r',e,hr⟩:=outK_of p1
 have p2:(bg (P.filter (fun x=>decide (x∈N)))++bg (wout P N)).Perm (bg N):=by
  rw [←Ent.bg_app]
  exact bg_perm (((both_perm hP.srs hN.srs).append_right _).trans (wout_perm N P))
 refine ⟨bg (wout P N)++r',?_,p2.symm.trans (List.perm_append_comm.trans (hr.symm.append_left _))⟩
 rw [e];rfl
theorem all_same {q:List Tk} {T U:List En} (h1:IsAll (fun n t=>(n,t)∈q) (T.map En.v)) (h2:IsAll (fun n t=>(n,t)∈q) (U.map En.v)):T.map En.v=U.map En.v:=h1.ext h2 (fun _ _=>Iff.rfl)
structure FB (w0 w:World) (B:Nat) (q:List Tk) (F:List Nat) (xl:Lv) (An:Option Addr) (cn:Nat) (N:List Sn) (b1 o:Nat):Prop where
 v:VE w0 w B q F
 x:∀W,Below w0.heap.size w0 W→Ls W xl.A xl.c xl.L
 e:∀W,Below w0.heap.size w0 W→W.cell? ⟨b1,o,none⟩=some (.slice xl.A xl.L.length xl.c)
 n:Ls w An cn N
 m:∀a,An=some a→N≠ []→a.block<w.heap.size∧a.block∉F
section
variable {w0 w w':World} {B:Nat} {q:List Tk} {F:List Nat} {xl:Lv} {An:Option Addr} {cn:Nat} {N:List Sn} {b1 o:Nat}
theorem FB.below (H:FB w0 w B q F xl An cn N b1 o) (hb:Below w.heap.size w w'):FB w0 w' B q F xl An cn N b1 o:=⟨H.v.below hb,H.x,H.e,H.n.keep (Fr.of_below' hb _),fun a ha hne=>⟨Nat.lt_of_lt_of_le (H.m a ha hne).1 hb.size,(H.m a ha hne).2⟩⟩
theorem FB.keep (H:FB w0 w B q F xl An cn N b1 o) (hf:Fr (fun _=>False) w w'):FB w0 w' B q F xl An cn N b1 o:=H.below (hf.below (Nat.le_refl _) (fun _ _ h=>h))
end
structure F1 (w0 w:World) (B:Nat) (q:List Tk) (F:List Nat) (xl:Lv) (An:Option Addr) (cn:Nat) (N:List Sn) (b1 o:Nat) (y:Dl):Prop extends FB w0 w B q F xl An cn N b1 o where
 d:RdD w y
 d1:∀a,y.A1=some a→a.block∉F
 d2:∀a,y.A2=some a→a.block∉F
structure F3 (w0 w:World) (B:Nat) (q:List Tk) (F:List Nat) (xl:Lv) (An:Option Addr) (cn:Nat) (N:List Sn) (b1 o:Nat) (A:Option Addr) (c:Nat) (T:List En):Prop extends FB w0 w B q F xl An cn N b1 o where
 t:EL w A c T
structure F4 (w0 w:World) (B:Nat) (q:List Tk) (F:List Nat) (xl:Lv) (An:Option Addr) (cn:Nat) (N:List Sn) (b1 o:Nat) (A:Option Addr) (c:Nat) (T:List En) (A':Option Addr) (c':Nat) (U:List En):Prop extends F3 w0 w B q F xl An cn N b1 o A c T where
 u:EL w A' c' U
structure F0 (w0 w:World) (B:Nat) (q:List Tk) (F:List Nat) (xl:Lv) (An:Option Addr) (cn:Nat) (N:List Sn) (b1 o:Nat) (Ap:Option Addr) (cp:Nat) (P:List Sn):Prop extends FB w0 w B q F xl An cn N b1 o where
 p:Ls w Ap cp P
section
variable {w0 w w':World} {B:Nat} {q:List Tk} {F:List Nat} {xl:Lv} {An:Option Addr} {cn:Nat} {N:List Sn} {b1 o:Nat} {Ap:Option Addr} {cp:Nat} {P:List Sn}
theorem F0.keep (H:F0 w0 w B q F xl An cn N b1 o Ap cp P) (hf:Fr (fun _=>False) w w'):F0 w0 w' B q F xl An cn N b1 o Ap cp P:=⟨H.toFB.keep hf,H.p.keep hf⟩
theorem F0.bet (H:F0 w0 w B q F xl An cn N b1 o Ap cp P) (hP:PackP.Ok P) (hN:PackP.Ok N) (lP:P.length≤1000) (lN:N.length≤1000):Calls prog 17 #[.slice Ap P.length cp,.slice An N.length cn] w fun e w'=>∃A1 c1 A2 c2,e=.returned (Dl.mk A1 c1 (wout N P) A2 c2 (wout P N)).v∧F1 w0 w' B q F xl An cn N b1 o ⟨A1,c1,wout N P,A2,c2,wout P N⟩:=by
 have h:=BetweenN Ap An cp cn P N w H.p H.n (by omega) (by omega)
 rw [hP.set,hN.set] at h
 refine h.mono ?_
 rintro e w' ⟨A1,c1,A2,c2,rfl,hd,hb,g1,g2⟩
 exact ⟨A1,c1,A2,c2,rfl,H.toFB.below hb,hd,fun a ha hm=>by have:=g1 a ha;have:=H.v.lt _ hm;omega,fun a ha hm=>by have:=g2 a ha;have:=H.v.lt _ hm;omega⟩
theorem F1.apply {A1 A2:Option Addr} {c1 c2:Nat} (H:F1 w0 w B (bg P) F xl An cn N b1 o ⟨A1,c1,wout N P,A2,c2,wout P N⟩) (hP:PackP.Ok P) (hN:PackP.Ok N) (lP:P.length≤1000) (lN:N.length≤1000):Calls prog 9 #[.pointer (some ⟨B,0,none⟩),(Dl.mk A1 c1 (wout N P) A2 c2 (wout P N)).v] w fun e w'=>e=.returned (.bool true)∧∃F',FB w0 w' B (bg N) F' xl An cn N b1 o:=by
 have l0:=bg_len P
 have l1:(wout N P).length≤P.length:=List.length_filter_le _ _
 have l2:(wout P N).length≤N.length:=List.length_filter_le _ _
 refine (H.v.apply (q2:=bg N) ⟨A1,c1,wout N P,A2,c2,wout P N⟩ H.d (fun a ha _=>H.d1 a ha) (fun a ha _=>H.d2 a ha) (by omega) (by show (wout N P).length≤_;omega) (by show (wout P N).length≤_;omega) true (apply_bet hP hN)).mono ?_
 rintro e w' ⟨rfl,F',hv,ht⟩
 refine ⟨rfl,F',hv,H.x,H.e,Ent.keepV H.n ht.fr (fun a ha hne=>(H.m a ha hne).2),fun a ha hne=>⟨Nat.lt_of_lt_of_le (H.m a ha hne).1 ht.fr.size,fun hm=>?_⟩⟩
 rcases (ht.sub _ hm).1 with h|h
 ·exact (H.m a ha hne).2 h
 ·have:=(H.m a ha hne).1;omega
theorem FB.all (H:FB w0 w B q F xl An cn N b1 o) (lq:q.length≤1000000):Calls prog 12 #[.pointer (some ⟨B,0,none⟩)] w fun e w'=>∃T A c,e=.returned (.slice A T.length c)∧IsAll (fun n t=>(n,t)∈q) (T.map En.v)∧F3 w0 w' B q F xl An cn N b1 o A c T:=
 (H.v.all lq).mono (fun _e _w' ⟨T,A,c,h1,h2,h3,h4⟩=>⟨T,A,c,h1,h2,H.below h4,h3⟩)
variable {A:Option Addr} {c:Nat} {T:List En} {A':Option Addr} {c':Nat} {U:List En}
theorem F3.of (H:F3 w0 w B q F xl An cn N b1 o A c T) (hN:spn xl.L=N) (hx:xl.L.length≤1000):Calls prog 15 #[.slice xl.A xl.L.length xl.c] w fun e w'=>∃U A' c',e=.returned (.slice A' U.length c')∧IsAll (fun n t=>(n,t)∈bg N) (U.map En.v)∧F4 w0 w' B q F xl An cn N b1 o A c T A' c' U:=by
 refine (Ent.Of xl.A xl.c xl.L w (H.x w H.v.b) hx).mono ?_
 rintro e w' ⟨U,A',c',h1,h2,h3,h4⟩
 exact ⟨U,A',c',h1,by rw [←hN];exact h2,⟨H.toFB.below h4,H.t.below h4⟩,h3⟩
theorem F3.ofR (H:F3 w0 w B q F xl An cn N b1 o A c T) (hN:spn xl.L=N) (hx:xl.L.length≤1000):Calls prog 18 #[.slice xl.A xl.L.length xl.c] w fun e w'=>∃U A' c',e=.returned (.slice A' U.length c')∧IsAll (fun n t=>(n,t)∈bg N) (U.map En.v)∧F4 w0 w' B q F xl An cn N b1 o A c T A' c' U:=by
 refine (Rf28.Of xl.A xl.c xl.L w (H.x w H.v.b) hx).mono ?_
 rintro e w' ⟨U,A',c',h1,h2,h3,h4⟩
 exact ⟨U,A',c',h1,by rw [←hN];exact h2,⟨H.toFB.below h4,H.t.below h4⟩,h3⟩
theorem F4.same (H:F4 w0 w B q F xl An cn N b1 o A c T A' c' U) (h:T.map En.v=U.map En.v):Calls prog 11 #[.slice A T.length c,.slice A' U.length c'] w fun e w'=>e=.returned (.bool true)∧FB w0 w' B q F xl An cn N b1 o:=
 (Rf28.Same H.t H.u h).mono (fun _e _w' h=>⟨h.1,H.toFB.keep h.2⟩)
end
theorem of11 {ops:Array Oper} (hops:Eng.fnOps Tryz.f5 11=ops) (a0:Act) (Q:Exit→Act→World→Prop) (w0 w:World) (B:Nat) (F:List Nat) (xl:Lv) (An:Option Addr) (cn:Nat) (N:List Sn) (b1 o1 k len c0:Nat) (Ap:Option Addr) (cp:Nat) (P:List Sn) (hst:F0 w0 w B (bg P) F xl An cn N b1 (o1+k) Ap cp P) (hP:PackP.Ok P) (hN:PackP.Ok N) (lP:P.length≤20) (lN:N.length≤20) (hx:spn xl.L=N) (lX:xl.L.length≤1000) (hk:k<len)
  (hn:a0.tmps.size=56) (h_0:a0.tmps.getD 0 undef=.slice (some ⟨b1,o1,none⟩) len c0) (h_3:a0.tmps.getD 3 undef=.pointer (some ⟨B,0,none⟩)) (h_4:a0.tmps.getD 4 undef=.slice Ap P.length cp) (h_5:a0.tmps.getD 5 undef=.int .i64 (k:Int)) (h_6:a0.tmps.getD 6 undef=.slice An N.length cn)
  (hpost:∀ (x:Nat→Value) (w':World) (F':List Nat),x 53=.bool false→FB w0 w' B (bg N) F' xl An cn N b1 (o1+k)→Q .normal (Eng.setAll a0 [29,30,31,32,33,34,35,36,37,38,39,40,41,42,43,44,45,46,47,48,49,50,51,52,53] x) w'):
  (Code.region 11 ops true).wp prog Q a0 w:=by
 simp only [Eng.fnOps,Eng.regOps,Tryz.f5,Option.bind_some,Option.getD_some,Nat.reduceEqDiff,↓reduceIte] at hops
 subst hops
 have q1:(0:Int)≤(k:Int):=by omega
 have q2:(k:Int)<(len:Int):=by omega
 have lV:(bg N).length≤1000000:=by have h:=bg_len N;omega
 have HSt:=Lib.hid (hst.keep (Fr.drew _ _))
 refine Eng.regionN [(0,true),(1,true),(2,false),(3,false),(4,true),(5,true),(7,true),(8,true),(9,true),(10,true),(6,false),(11,false),(12,false),(13,true),(14,true),(15,true),(17,true),(18,true),(19,true),(20,true),(16,false),(21,false),(22,false),(23,true),(24,true)] (fun w'=>w'.cell? ⟨b1,o1+k,none⟩=some (.slice xl.A xl.L.length xl.c)) (by kernel_rfl) 56 hn (by kernel_rfl) rfl (by kernel_rfl) (HSt.out.e _ HSt.out.v.b) (fun a b ha hb=>?_)
 subst ha
 have hb0:b 0=.slice (some ⟨b1,o1,none⟩) len c0:=(hb 0).symm.trans h_0
 have hb3:b 3=.pointer (some ⟨B,0,none⟩):=(hb 3).symm.trans h_3
 have hb4:b 4=.slice Ap P.length cp:=(hb 4).symm.trans h_4
 have hb5:b 5=.int .i64 (k:Int):=(hb 5).symm.trans h_5
 have hb6:b 6=.slice An N.length cn:=(hb 6).symm.trans h_6
 clear hb h_0 h_3 h_4 h_5 h_6
 have HP:=Lib.hid hpost;have HN:=Lib.hid hn
 clear hpost hn
 refine Eng.Sch.tk ?_
 refine Eng.Sch.tk ?_
 refine Eng.Sch.call rfl rfl (by decide) (by kernel_rfl) ?_ (HSt.out.bet hP hN (by omega) (by omega)) ?_
 ·go_simp
 rintro e w2 ⟨A6,c6,A7,c7,rfl,hF1⟩
 have HSt1:=Lib.hid (hF1)
 refine ⟨_,rfl,HSt1.out.e _ HSt1.out.v.b,?_⟩
 refine Eng.Sch.call rfl rfl (by decide) (by kernel_rfl) ?_ (HSt1.out.apply hP hN (by omega) (by omega)) ?_
 ·go_simp
 rintro e w3 ⟨rfl,F2,hF2⟩
 have HSt2:=Lib.hid (hF2)
 refine ⟨_,rfl,HSt2.out.e _ HSt2.out.v.b,?_⟩
 iterate 6 (refine Eng.Sch.tk ?_)
 refine Eng.Sch.call rfl rfl (by decide) (by kernel_rfl) ?_ (HSt2.out.all lV) ?_
 ·go_simp
 rintro e w4 ⟨T1,A8,c8,rfl,ht1,hF3⟩
 have HSt3:=Lib.hid (hF3)
 refine ⟨_,rfl,HSt3.out.e _ HSt3.out.v.b,?_⟩
 refine Eng.Sch.call rfl rfl (by decide) (by kernel_rfl) ?_ (HSt3.out.of hx lX) ?_
 ·go_simp
 rintro e w5 ⟨U1,A9,c9,rfl,hu1,hF4⟩
 have HSt4:=Lib.hid (hF4)
 refine ⟨_,rfl,HSt4.out.e _ HSt4.out.v.b,?_⟩
 refine Eng.Sch.call rfl rfl (by decide) (by kernel_rfl) ?_ (HSt4.out.same (all_same ht1 hu1)) ?_
 ·go_simp
 rintro e w6 ⟨rfl,hF5⟩
 have HSt5:=Lib.hid (hF5)
 refine ⟨_,rfl,HSt5.out.e _ HSt5.out.v.b,?_⟩
 iterate 7 (refine Eng.Sch.tk ?_)
 refine Eng.Sch.call rfl rfl (by decide) (by kernel_rfl) ?_ (HSt5.out.all lV) ?_
 ·go_simp
 rintro e w7 ⟨T2,A10,c10,rfl,ht2,hF6⟩
 have HSt6:=Lib.hid (hF6)
 refine ⟨_,rfl,HSt6.out.e _ HSt6.out.v.b,?_⟩
 refine Eng.Sch.call rfl rfl (by decide) (by kernel_rfl) ?_ (HSt6.out.ofR hx lX) ?_
 ·go_simp
 rintro e w8 ⟨U2,A11,c11,rfl,hu2,hF7⟩
 have HSt7:=Lib.hid (hF7)
 refine ⟨_,rfl,HSt7.out.e _ HSt7.out.v.b,?_⟩
 refine Eng.Sch.call rfl rfl (by decide) (by kernel_rfl) ?_ (HSt7.out.same (all_same ht2 hu2)) ?_
 ·go_simp
 rintro e w9 ⟨rfl,hF8⟩
 have HSt8:=Lib.hid (hF8)
 refine ⟨_,rfl,HSt8.out.e _ HSt8.out.v.b,?_⟩
 refine Eng.Sch.tk ?_
 refine Eng.Sch.tk ?_
 refine Eng.Sch.end_ [29,30,31,32,33,34,35,36,37,38,39,40,41,42,43,44,45,46,47,48,49,50,51,52,53] HN.out (by kernel_rfl) (by kernel_rfl) ?_
 exact HP.out _ _ _ rfl HSt8.out
theorem finds (A0:Option Addr) (c0:Nat) (l:List Lv) (w:World) (hS:Sl w 1 A0 l.length c0 (l.flatMap lvc)∧∀x∈l,Rd w x):
  Calls prog 5 #[.slice A0 l.length c0] w fun e w'=>e=.returned (.bool true)∧Below w.heap.size w w':=by
 have HSl:=Lib.hid hS.1;have HR:=Lib.hid hS.2
 have HB:=Lib.hid (Below.refl w.heap.size w)
 have hl64:l.length≤9223372036854775807:=by have:=hS.1.2.1;have:=hS.1.2.2.1;unfold maxLen at this;omega
 clear hS
 go_enter func5,ntmps5
 by_cases h8:l.length>8
 ·have q0:decide ((l.length:Int)>8)=true:=by simp;omega
  have q0':decide ((8:Int)<(l.length:Int))=true:=by simp;omega
  clear h8
  go_wp2_with fail
  refine (awake w).mono ?_
  rintro e w2 ⟨rfl,hb⟩
  have HB2:=Lib.hid hb
  clear hb
  go_wp2_with fail
  go_ret
  exact ⟨rfl,HB2.out⟩
 ·have q0:decide ((l.length:Int)>8)=false:=by simp;omega
  have q0':decide ((8:Int)<(l.length:Int))=false:=by simp;omega
  clear h8
  go_upto_region 4 with (fail)
  have HV:Hid (VE w (w.alloc (.cells #[.pointer none,.int .i64 0] TV)) w.heap.size [] [w.heap.size]):=Lib.hid (VE.new HB.out)
  clear HB
  generalize w.alloc (.cells #[.pointer none,.int .i64 0] TV)=w1 at *
  generalize hBv:w.heap.size=B at HV ⊢
  go_wp2_with fail
  go_loopg [4,5] l.length (fun gk v i wr=>∃ (k:Nat) (P:List Sn) (Ap:Option Addr) (cp:Nat) (F:List Nat),i=.int .i64 k∧v=.slice Ap P.length cp∧k≤l.length∧gk=l.length-k∧VE w wr B (bg P) F∧Ls wr Ap cp P∧PackP.Ok P∧P.length≤20∧∀a,Ap=some a→P≠ []→a.block∉F)
  case atStart=>exact ⟨0,[],none,0,_,rfl,rfl,Nat.zero_le _,rfl,HV.out,Ls.nil _,⟨List.Pairwise.nil,by simp,by simp⟩,by simp,by simp⟩
  case round=>
   clear HV
   obtain ⟨k,P,Ap,cp,F,rfl,rfl,hk,hg,hv,hls,hok,hpl,hap⟩:=hrel
   have HG:=Lib.hid hg;have HP:=Lib.hid hls;have HOk:=Lib.hid hok;have HV:=Lib.hid hv;have HAp:=Lib.hid hap
   clear hg hls hok hv hap
   by_cases hlt:k<l.length
   ·obtain ⟨b1,o1,rfl,hb1,c1⟩:=HSl.out.at hlt (by omega)
    have e0:=c1 k _ (lv_at hlt)
    have HR1:=Lib.hid (HR.out _ (List.getElem_mem hlt))
    clear c1
    generalize l[k]=xl at *
    have HE:Hid (∀W',Below w.heap.size w W'→W'.cell? ⟨b1,o1+k,none⟩=some (.slice xl.A xl.L.length xl.c)):=fun W' hW=>(hW.cell (p:=⟨b1,_,none⟩) hb1).trans e0
    have HX:Hid (∀W',Below w.heap.size w W'→Ls W' xl.A xl.c xl.L):=fun W' hW=>HR1.out.below hW
    clear e0 HR1
    have q1:(0:Int)≤(k:Int):=by omega
    have q2:decide ((k:Int)<(l.length:Int))=true:=by simp;omega
    have q3:(k:Int)<(l.length:Int):=by omega
    have e0:=HE.out _ HV.out.b
    go_wp2_with fail
    refine (SetF.Few _ _ 20 xl.L wr (HX.out wr HV.out.b).s).mono ?_
    rintro e w2 ⟨rfl,hf⟩
    have HV2:=Lib.hid (HV.out.keep hf);have HP2:=Lib.hid (HP.out.keep hf)
    clear hf HV HP e0
    cases hq:fewB xl.L 20 with
    |false=>
     go_wp2_with fail
     refine (awake w2).mono ?_
     rintro e w3 ⟨rfl,hb⟩
     have HB3:=Lib.hid (HV2.out.b.trans (hb.mono HV2.out.b.size))
     clear hb
     go_wp2_with fail
     go_ret
     exact ⟨rfl,HB3.out⟩
    |true=>
     have hq_x:=few_len' hq
     clear hq
     have hsl:(spn xl.L).length≤20:=Nat.le_trans (Nat.le_trans (alive_len _) (setOf_len xl.L)) hq_x
     have e0:=HE.out _ HV2.out.b
     have HSp:=Lib.hid (RefSpans xl.A xl.c xl.L w2 (HX.out w2 HV2.out.b) (by omega))
     have HOkN:=Lib.hid (Ent.spn_okL xl.L)
     obtain ⟨N,hN⟩:∃N,spn xl.L=N:=⟨_,rfl⟩
     rw [hN] at HSp hsl HOkN
     have HNe:=Lib.hid hN
     clear hN
     go_wp2_with fail
     refine HSp.out.mono ?_
     rintro e w3 ⟨An,cn,rfl,hls,hown,hb⟩
     have HF0:Hid (F0 w w3 B (bg P) F xl An cn N b1 (o1+k) Ap cp P):=Lib.hid ⟨⟨HV2.out.below hb,HX.out,HE.out,hls,fun a ha _=>by
      obtain ⟨A',c',he,-,h3⟩:=Sl.of_own hown
      cases he
      obtain ⟨h4,-,h5⟩:=h3 a ha
      exact ⟨h5,fun hm=>by have:=HV2.out.lt _ hm;omega⟩⟩,HP2.out.keep (Fr.of_below' hb _)⟩
     clear hls hown hb HSp HV2 HP2 e0
     go_upto_region 11 with (fail)
     refine of11 (by kernel_rfl) _ _ w w3 B F xl An cn N b1 o1 k l.length c0 Ap cp P HF0.out HOk.out HOkN.out hpl hsl HNe.out (by omega) hlt rfl rfl rfl rfl rfl rfl ?_
     intro x w4 F' h53 hst
     simp only [Eng.setAll,Act.put,List.setIfInBounds_toArray,List.set_cons_succ,List.set_cons_zero]
     rw [h53]
     have HFB:=Lib.hid hst
     clear hst h53 HF0
     go_wp2_with fail
     go_roundg (l.length-(k+1))
     case rel=>exact ⟨k+1,N,An,cn,F',by go_num,rfl,by omega,rfl,HFB.out.v,HFB.out.n,HOkN.out,hsl,fun a ha hne=>(HFB.out.m a ha hne).2⟩
     case measure=>have:=HG.out;omega
   ·obtain rfl:k=l.length:=by omega
    have q2:decide ((l.length:Int)<(l.length:Int))=false:=by simp
    go_wp2_with fail
    refine (awake wr).mono ?_
    rintro e w3 ⟨rfl,hb⟩
    have HB3:=Lib.hid (HV.out.b.trans (hb.mono HV.out.b.size))
    clear hb
    go_wp2_with fail
    go_ret
    exact ⟨rfl,HB3.out⟩
end Law28
end Go.Proofs.YtdpngmgaomghoaaGreatDoor
