/- Views of entries: keys, counting, may: the walks. -/
import Derived.Test.YtdpngmgaomghoaaGreatDoorEntV
import Derived.Test.YtdpngmgaomghoaaGreatDoorSli
namespace Go.Proofs.YtdpngmgaomghoaaGreatDoor
open Tryz
set_option maxRecDepth 100000
set_option maxHeartbeats 1000000
open Go.RowKit
namespace Ent
open BagP KeyP EntP OpsP SetP SetW SetF Sli Name
attribute [local go_sem] Eng.ev Eng.getO_cons Eng.getO_nil
theorem first_ (s o:ByteArray) (w:World) (hl:s.size+o.size≤1000000):Calls prog 38 #[.string s,.string o] w fun e w'=>e=.returned (.string (fst (s,o)))∧w'=w:=by
 have h1:¬9223372036854775807<s.size+1:=by omega
 have h2:¬9223372036854775807<s.size+1+o.size:=by omega
 have h3:¬9223372036854775807<s.size+1+o.size+1:=by omega
 clear hl
 go_enter func38,ntmps38
 go_wp2
 go_ret
 exact ⟨rfl,rfl⟩
def kk (x:Sn):Tk:=((x.s,x.o),x.t)
structure KB (w0 w:World) (b:Nat) (y:Sn):Prop where
 b:Bk w b y.arr TSn
 f:Fr (fun _=>False) w0 w
theorem KB.keep {w0 w w':World} {b:Nat} {y:Sn} (H:KB w0 w b y) (hf:Fr (fun _=>False) w w'):KB w0 w' b y:=⟨H.b.fr hf (fun _ _ h=>h),H.f.trans hf (fun _ _ h=>h) (fun _ _ h=>h)⟩
theorem ky1 {ops:Array Oper} (hops:Eng.fnOps Tryz.f43 1=ops) (a0:Act) (Q:Exit→Act→World→Prop) (w0 w:World) (Bx:Nat) (y:Sn) (K1 K2:ByteArray) (h1:∀W,Calls prog 38 #[.string y.s,.string y.o] W fun e w'=>e=.returned (.string K1)∧w'=W) (h2:∀W,Calls prog 66 #[.int .i64 y.t,.int .i64 0] W fun e w'=>e=.returned (.string K2)∧Fr (fun _=>False) W w') (hsz:¬9223372036854775807<K1.size+K2.size) (hst:KB w0 w Bx y)
  (hn:a0.tmps.size=12) (h_1:a0.tmps.getD 1 undef=.pointer (some ⟨Bx,0,none⟩))
  (hpost:∀ (x:Nat→Value) (w':World),x 2=.string (K1++K2)→Fr (fun _=>False) w0 w'→Q .normal (Eng.setAll a0 [2,3,4,5,6,7,8,9,10,11] x) w'):
  (Code.region 1 ops true).wp prog Q a0 w:=by
 simp only [Eng.fnOps,Eng.regOps,Tryz.f43,Option.bind_some,Option.getD_some,Nat.reduceEqDiff,↓reduceIte] at hops
 subst hops
 have HSt:=Lib.hid (hst.keep (Fr.drew _ _))
 have hSS:w.drew.cell? ⟨Bx,0,none⟩=some (.int .i64 y.t)∧w.drew.cell? ⟨Bx,4,none⟩=some (.string y.s)∧w.drew.cell? ⟨Bx,5,none⟩=some (.string y.o):=⟨HSt.out.b.cell 0,HSt.out.b.cell 4,HSt.out.b.cell 5⟩
 refine Eng.regionT (.take 0 (.take 1 (.take 2 (.take 3 (.take 5 (.take 6 (.alt 4 (.alt 7 (.take 8 (.take 9 (.done))) (.stop)) (.stop)))))))) (fun w'=>w'.cell? ⟨Bx,0,none⟩=some (.int .i64 y.t)∧w'.cell? ⟨Bx,4,none⟩=some (.string y.s)∧w'.cell? ⟨Bx,5,none⟩=some (.string y.o)) (by kernel_rfl) 12 hn (by kernel_rfl) (by kernel_rfl) (by kernel_rfl) (hSS) (fun a b ha hb=>?_)
 subst ha
 have hb1:b 1=.pointer (some ⟨Bx,0,none⟩):=(hb 1).symm.trans h_1
 clear hb h_1
 have HP:=Lib.hid hpost;have HN:=Lib.hid hn
 clear hpost hn
 iterate 6 (refine Eng.TW.tk ?_)
 refine Eng.TW.call rfl rfl (by decide) (by kernel_rfl) ?_ (h1 _) ?_
 ·go_simp
 rintro e w_2 ⟨rfl,rfl⟩
 refine ⟨_,rfl,hSS,?_⟩
 refine Eng.TW.call rfl rfl (by decide) (by kernel_rfl) ?_ (h2 _) ?_
 ·go_simp
 rintro e w3 ⟨rfl,hf⟩
 have HSt3:=Lib.hid (HSt.out.keep hf)
 clear hf
 refine ⟨_,rfl,⟨HSt3.out.b.cell 0,HSt3.out.b.cell 4,HSt3.out.b.cell 5⟩,?_⟩
 refine Eng.TW.tk ?_
 refine Eng.TW.tk ?_
 refine Eng.TW.end_ [2,3,4,5,6,7,8,9,10,11] HN.out (by kernel_rfl) (by kernel_rfl) ?_
 exact HP.out _ _ rfl HSt3.out.f
theorem nz0:wf64 0:=by unfold wf64;omega
theorem key_ (y:Sn) (w:World) (hl:y.s.size+y.o.size≤1000000) (ht:wf64 y.t):Calls prog 43 #[y.v] w fun e w'=>e=.returned (.string (ek (kk y)))∧Fr (fun _=>False) w w':=by
 have HK:Hid (KB w (w.alloc (.cells y.arr TSn)) w.heap.size y):=⟨Bk.new _ _ _,Fr.alloc _ _ _⟩
 have H1:=Lib.hid (fun W=>first_ y.s y.o W hl)
 have H2:Hid (∀W,Calls prog 66 #[.int .i64 y.t,.int .i64 0] W fun e w'=>e=.returned (.string (key2 y.t 0))∧Fr (fun _=>False) W w'):=fun W=>(Key.Of ht nz0 W).mono (fun e w' h=>⟨h.1,Fr.of_below' h.2 _⟩)
 have hs1:=fst_size (y.s,y.o)
 have hs2:(key2 y.t 0).size=16:=by unfold key2;rw [ks_size];simp [kb_len]
 have HE:Hid (ek (kk y)=fst (y.s,y.o)++key2 y.t 0):=rfl
 generalize ek (kk y)=K at *
 generalize fst (y.s,y.o)=K1 at *
 generalize key2 y.t 0=K2 at *
 have hsz:¬9223372036854775807<K1.size+K2.size:=by dsimp only at hs1;omega
 clear hl ht hs1 hs2
 go_enter func43,ntmps43
 go_upto_region 1 with (fail)
 refine ky1 (by kernel_rfl) _ _ w _ _ y K1 K2 H1.out H2.out hsz HK.out rfl rfl ?_
 intro x w2 h2 hf
 simp only [Eng.setAll,Act.put,List.setIfInBounds_toArray,List.set_cons_succ,List.set_cons_zero]
 rw [h2]
 have HF:=Lib.hid hf
 clear h2 hf
 go_wp2_with fail
 go_ret
 exact ⟨by rw [HE.out];rfl,HF.out⟩
theorem ext_app (a b:ByteArray):(a++b).extract 0 a.size=a∧(a++b).extract a.size (a.size+b.size)=b:=by
 have h1:=Key.ks_ext1 a.data.toList b.data.toList
 have h2:=Key.ks_ext2 a.data.toList b.data.toList
 have e1:a.data.toList.length=a.size:=Array.length_toList
 have e2:b.data.toList.length=b.size:=Array.length_toList
 rw [←ks_app,ks_of,ks_of,e1] at h1
 rw [←ks_app,ks_of,ks_of,e1,e2] at h2
 exact ⟨h1,h2⟩
def SplitPost (k:Tk) (w:World) (e:Ending) (w':World):Prop:=e=.returned (.tuple #[.string (fst k.1),.int .i64 k.2])∧Fr (fun _=>False) w w'
theorem split_ (k:Tk) (w:World) (hl:k.1.1.size+k.1.2.size≤1000000) (ht:wf64 k.2):Calls prog 28 #[.string (ek k)] w (SplitPost k w):=by
 have hs1:=fst_size k.1
 have hs2:(key2 k.2 0).size=16:=by unfold key2;rw [ks_size];simp [kb_len]
 have hs:=ek_size k
 have hx:=ext_app (fst k.1) (key2 k.2 0)
 rw [hs2] at hx
 have he:fst k.1++key2 k.2 0=ek k:=rfl
 rw [he] at hx
 have HS:=Lib.hid (Key.Split ht nz0 w)
 unfold SplitPost
 obtain ⟨n,t⟩:=k
 dsimp only at *
 generalize ek (n,t)=K at *
 generalize fst n=K1 at *
 generalize key2 t 0=K2 at *
 obtain ⟨N,hN⟩:∃N,K1.size=N:=⟨_,rfl⟩
 rw [hN] at hx hs hs1
 obtain ⟨hx1,hx2⟩:=hx
 have hs3:(K.size:Int)-16=(N:Int):=by omega
 have hN2:N≤1000002:=by omega
 have q1:(0:Int)≤(N:Int):=by omega
 have q2:(N:Int)≤(K.size:Int):=by omega
 clear hl ht he hs1 hs2 hN
 go_enter func28,ntmps28
 go_upto_region 2 with (fail)
 go_wp2_with fail
 refine HS.out.mono ?_
 rintro e w2 ⟨rfl,hf⟩
 have HF:=Lib.hid hf
 clear hf HS
 go_wp2_with fail
 go_ret2
 exact ⟨rfl,HF.out⟩
structure CS (w0:World) (M0:List Nat) (w:World) (B:Nat) (V:Cv) (M:List Nat) (Bx:Nat) (y:Sn):Prop where
 v:VM w B V M
 t:Tn (B::M0) (B::M) w0 w
 b:Bk w Bx y.arr TSn
 n:Bx∉B::M
section
variable {w0 w w':World} {M0 M M':List Nat} {B Bx:Nat} {V V':Cv} {y:Sn}
theorem CS.keep (H:CS w0 M0 w B V M Bx y) (hf:Fr (fun _=>False) w w'):CS w0 M0 w' B V M Bx y:=⟨H.v.fr hf (fun _ _ h=>h),H.t.trans (Tn.of_fr hf H.v.lt),H.b.fr hf (fun _ _ h=>h),H.n⟩
theorem CS.turn (H:CS w0 M0 w B V M Bx y) (hv:VM w' B V' M') (ht:Tn (B::M) (B::M') w w'):CS w0 M0 w' B V' M' Bx y:=by
 refine ⟨hv,H.t.trans ht,H.b.fr ht.fr (fun b hb h=>by simp at hb;subst hb;exact H.n h),fun h=>?_⟩
 rcases (ht.sub _ h).1 with h|h
 ·exact H.n h
 ·have:=lt_of_heap H.b;omega
theorem CS.start (H:VM w B V M):CS w M (w.alloc (.cells y.arr TSn)) B V M w.heap.size y:=
 ⟨H.fr (Fr.alloc (fun _=>False) _ _) (fun _ _ h=>h),Tn.of_fr (Fr.alloc _ _ _) H.lt,Bk.new _ _ _,fun h=>by have:=H.lt _ h;omega⟩
end
theorem ch3 {ops:Array Oper} (hops:Eng.fnOps Tryz.f24 3=ops) (a0:Act) (Q:Exit→Act→World→Prop) (w0 w:World) (M0:List Nat) (B:Nat) (V:Cv) (M:List Nat) (Bx:Nat) (y:Sn) (K:ByteArray) (hk:∀W,Calls prog 43 #[y.v] W fun e w'=>e=.returned (.string K)∧Fr (fun _=>False) W w') (hst:CS w0 M0 w B V M Bx y)
  (hn:a0.tmps.size=43) (h_0:a0.tmps.getD 0 undef=.pointer (some ⟨B,0,none⟩)) (h_4:a0.tmps.getD 4 undef=.pointer (some ⟨Bx,0,none⟩))
  (hpost:∀ (x:Nat→Value) (w':World),x 7=.int .i64 ((getL K V).getD 0)→CS w0 M0 w' B V M Bx y→Q .normal (Eng.setAll a0 [7,8,12,13,14,15,16,17,18,19,20] x) w'):
  (Code.region 3 ops true).wp prog Q a0 w:=by
 simp only [Eng.fnOps,Eng.regOps,Tryz.f24,Option.bind_some,Option.getD_some,Nat.reduceEqDiff,↓reduceIte] at hops
 subst hops
 have HSt:=Lib.hid (hst.keep (Fr.drew _ _))
 refine Eng.regionN [(0,true),(1,true),(2,true),(3,true),(4,false),(5,false),(6,true),(7,true),(8,true),(9,true),(10,true)] (fun w'=>w'.cell? ⟨Bx,0,none⟩=some (.int .i64 y.t)∧w'.cell? ⟨Bx,1,none⟩=some (.int .i64 y.i)∧w'.cell? ⟨Bx,2,none⟩=some (.int .i64 y.p)∧w'.cell? ⟨Bx,3,none⟩=some (.int .i64 y.r)∧w'.cell? ⟨Bx,4,none⟩=some (.string y.s)∧w'.cell? ⟨Bx,5,none⟩=some (.string y.o)∧w'.cell? ⟨Bx,6,none⟩=some (.int .i64 y.b)∧w'.cell? ⟨Bx,7,none⟩=some (.int .i64 y.d)∧w'.cell? ⟨Bx,8,none⟩=some (.bool y.g)) (by kernel_rfl) 43 hn (by kernel_rfl) rfl (by kernel_rfl) (⟨HSt.out.b.cell 0,HSt.out.b.cell 1,HSt.out.b.cell 2,HSt.out.b.cell 3,HSt.out.b.cell 4,HSt.out.b.cell 5,HSt.out.b.cell 6,HSt.out.b.cell 7,HSt.out.b.cell 8⟩) (fun a b ha hb=>?_)
 subst ha
 have hb0:b 0=.pointer (some ⟨B,0,none⟩):=(hb 0).symm.trans h_0
 have hb4:b 4=.pointer (some ⟨Bx,0,none⟩):=(hb 4).symm.trans h_4
 clear hb h_0 h_4
 have HP:=Lib.hid hpost;have HN:=Lib.hid hn
 clear hpost hn
 iterate 4 (refine Eng.Sch.tk ?_)
 refine Eng.Sch.call rfl rfl (by decide) (by kernel_rfl) ?_ (hk _) ?_
 ·go_simp
 rintro e w2 ⟨rfl,hf⟩
 have HSt1:=Lib.hid (HSt.out.keep hf)
 have hSS:w2.cell? ⟨Bx,0,none⟩=some (.int .i64 y.t)∧w2.cell? ⟨Bx,1,none⟩=some (.int .i64 y.i)∧w2.cell? ⟨Bx,2,none⟩=some (.int .i64 y.p)∧w2.cell? ⟨Bx,3,none⟩=some (.int .i64 y.r)∧w2.cell? ⟨Bx,4,none⟩=some (.string y.s)∧w2.cell? ⟨Bx,5,none⟩=some (.string y.o)∧w2.cell? ⟨Bx,6,none⟩=some (.int .i64 y.b)∧w2.cell? ⟨Bx,7,none⟩=some (.int .i64 y.d)∧w2.cell? ⟨Bx,8,none⟩=some (.bool y.g):=⟨HSt1.out.b.cell 0,HSt1.out.b.cell 1,HSt1.out.b.cell 2,HSt1.out.b.cell 3,HSt1.out.b.cell 4,HSt1.out.b.cell 5,HSt1.out.b.cell 6,HSt1.out.b.cell 7,HSt1.out.b.cell 8⟩
 clear hf
 refine ⟨_,rfl,hSS,?_⟩
 refine Eng.Sch.call rfl rfl (by decide) (by kernel_rfl) ?_ (HSt1.out.v.get K) ?_
 ·go_simp
 rintro e w_2 ⟨rfl,rfl⟩
 refine ⟨_,rfl,hSS,?_⟩
 iterate 5 (refine Eng.Sch.tk ?_)
 refine Eng.Sch.end_ [7,8,12,13,14,15,16,17,18,19,20] HN.out (by kernel_rfl) (by kernel_rfl) ?_
 exact HP.out _ _ rfl HSt1.out
theorem ch9 {ops:Array Oper} (hops:Eng.fnOps Tryz.f24 9=ops) (a0:Act) (Q:Exit→Act→World→Prop) (w0 w:World) (M0:List Nat) (B:Nat) (V:Cv) (M:List Nat) (Bx:Nat) (y:Sn) (K:ByteArray) (hk:∀W,Calls prog 43 #[y.v] W fun e w'=>e=.returned (.string K)∧Fr (fun _=>False) W w') (hst:CS w0 M0 w B V M Bx y) (sz:V.length≤1000000000)
  (hn:a0.tmps.size=43) (h_0:a0.tmps.getD 0 undef=.pointer (some ⟨B,0,none⟩)) (h_4:a0.tmps.getD 4 undef=.pointer (some ⟨Bx,0,none⟩))
  (hpost:∀ (x:Nat→Value) (w':World) (M':List Nat),CS w0 M0 w' B (delL K V) M' Bx y→Q .normal (Eng.setAll a0 [37,38,39,40,41,42] x) w'):
  (Code.region 9 ops true).wp prog Q a0 w:=by
 simp only [Eng.fnOps,Eng.regOps,Tryz.f24,Option.bind_some,Option.getD_some,Nat.reduceEqDiff,↓reduceIte] at hops
 subst hops
 have HSt:=Lib.hid (hst.keep (Fr.drew _ _))
 refine Eng.regionN [(0,true),(1,true),(2,true),(3,true),(4,false),(5,false)] (fun w'=>w'.cell? ⟨Bx,0,none⟩=some (.int .i64 y.t)∧w'.cell? ⟨Bx,1,none⟩=some (.int .i64 y.i)∧w'.cell? ⟨Bx,2,none⟩=some (.int .i64 y.p)∧w'.cell? ⟨Bx,3,none⟩=some (.int .i64 y.r)∧w'.cell? ⟨Bx,4,none⟩=some (.string y.s)∧w'.cell? ⟨Bx,5,none⟩=some (.string y.o)∧w'.cell? ⟨Bx,6,none⟩=some (.int .i64 y.b)∧w'.cell? ⟨Bx,7,none⟩=some (.int .i64 y.d)∧w'.cell? ⟨Bx,8,none⟩=some (.bool y.g)) (by kernel_rfl) 43 hn (by kernel_rfl) rfl (by kernel_rfl) (⟨HSt.out.b.cell 0,HSt.out.b.cell 1,HSt.out.b.cell 2,HSt.out.b.cell 3,HSt.out.b.cell 4,HSt.out.b.cell 5,HSt.out.b.cell 6,HSt.out.b.cell 7,HSt.out.b.cell 8⟩) (fun a b ha hb=>?_)
 subst ha
 have hb0:b 0=.pointer (some ⟨B,0,none⟩):=(hb 0).symm.trans h_0
 have hb4:b 4=.pointer (some ⟨Bx,0,none⟩):=(hb 4).symm.trans h_4
 clear hb h_0 h_4
 have HP:=Lib.hid hpost;have HN:=Lib.hid hn
 clear hpost hn
 iterate 4 (refine Eng.Sch.tk ?_)
 refine Eng.Sch.call rfl rfl (by decide) (by kernel_rfl) ?_ (hk _) ?_
 ·go_simp
 rintro e w2 ⟨rfl,hf⟩
 have HSt1:=Lib.hid (HSt.out.keep hf)
 clear hf
 refine ⟨_,rfl,⟨HSt1.out.b.cell 0,HSt1.out.b.cell 1,HSt1.out.b.cell 2,HSt1.out.b.cell 3,HSt1.out.b.cell 4,HSt1.out.b.cell 5,HSt1.out.b.cell 6,HSt1.out.b.cell 7,HSt1.out.b.cell 8⟩,?_⟩
 refine Eng.Sch.call rfl rfl (by decide) (by kernel_rfl) ?_ (HSt1.out.v.drop K (by omega)) ?_
 ·go_simp
 rintro e w3 ⟨rfl,M',hv,ht⟩
 have HSt2:=Lib.hid (HSt1.out.turn hv ht)
 refine ⟨_,rfl,⟨HSt2.out.b.cell 0,HSt2.out.b.cell 1,HSt2.out.b.cell 2,HSt2.out.b.cell 3,HSt2.out.b.cell 4,HSt2.out.b.cell 5,HSt2.out.b.cell 6,HSt2.out.b.cell 7,HSt2.out.b.cell 8⟩,?_⟩
 refine Eng.Sch.end_ [37,38,39,40,41,42] HN.out (by kernel_rfl) (by kernel_rfl) ?_
 exact HP.out _ _ M' HSt2.out
theorem ch5 {ops:Array Oper} (hops:Eng.fnOps Tryz.f24 5=ops) (a0:Act) (Q:Exit→Act→World→Prop) (w0 w:World) (M0:List Nat) (B:Nat) (V:Cv) (M:List Nat) (Bx:Nat) (y:Sn) (K:ByteArray) (hk:∀W,Calls prog 43 #[y.v] W fun e w'=>e=.returned (.string K)∧Fr (fun _=>False) W w') (m:Int) (hst:CS w0 M0 w B V M Bx y) (sz:V.length≤1000000000)
  (hn:a0.tmps.size=43) (h_0:a0.tmps.getD 0 undef=.pointer (some ⟨B,0,none⟩)) (h_4:a0.tmps.getD 4 undef=.pointer (some ⟨Bx,0,none⟩)) (h_7:a0.tmps.getD 7 undef=.int .i64 m)
  (hpost:∀ (x:Nat→Value) (w':World) (M':List Nat),CS w0 M0 w' B (insL K m V) M' Bx y→Q .normal (Eng.setAll a0 [24,25,26,27,28,29,30] x) w'):
  (Code.region 5 ops true).wp prog Q a0 w:=by
 simp only [Eng.fnOps,Eng.regOps,Tryz.f24,Option.bind_some,Option.getD_some,Nat.reduceEqDiff,↓reduceIte] at hops
 subst hops
 have HSt:=Lib.hid (hst.keep (Fr.drew _ _))
 refine Eng.regionN [(0,true),(1,true),(2,true),(3,true),(5,true),(4,false),(6,false)] (fun w'=>w'.cell? ⟨Bx,0,none⟩=some (.int .i64 y.t)∧w'.cell? ⟨Bx,1,none⟩=some (.int .i64 y.i)∧w'.cell? ⟨Bx,2,none⟩=some (.int .i64 y.p)∧w'.cell? ⟨Bx,3,none⟩=some (.int .i64 y.r)∧w'.cell? ⟨Bx,4,none⟩=some (.string y.s)∧w'.cell? ⟨Bx,5,none⟩=some (.string y.o)∧w'.cell? ⟨Bx,6,none⟩=some (.int .i64 y.b)∧w'.cell? ⟨Bx,7,none⟩=some (.int .i64 y.d)∧w'.cell? ⟨Bx,8,none⟩=some (.bool y.g)) (by kernel_rfl) 43 hn (by kernel_rfl) rfl (by kernel_rfl) (⟨HSt.out.b.cell 0,HSt.out.b.cell 1,HSt.out.b.cell 2,HSt.out.b.cell 3,HSt.out.b.cell 4,HSt.out.b.cell 5,HSt.out.b.cell 6,HSt.out.b.cell 7,HSt.out.b.cell 8⟩) (fun a b ha hb=>?_)
 subst ha
 have hb0:b 0=.pointer (some ⟨B,0,none⟩):=(hb 0).symm.trans h_0
 have hb4:b 4=.pointer (some ⟨Bx,0,none⟩):=(hb 4).symm.trans h_4
 have hb7:b 7=.int .i64 m:=(hb 7).symm.trans h_7
 clear hb h_0 h_4 h_7
 have HP:=Lib.hid hpost;have HN:=Lib.hid hn
 clear hpost hn
 iterate 5 (refine Eng.Sch.tk ?_)
 refine Eng.Sch.call rfl rfl (by decide) (by kernel_rfl) ?_ (hk _) ?_
 ·go_simp
 rintro e w2 ⟨rfl,hf⟩
 have HSt1:=Lib.hid (HSt.out.keep hf)
 clear hf
 refine ⟨_,rfl,⟨HSt1.out.b.cell 0,HSt1.out.b.cell 1,HSt1.out.b.cell 2,HSt1.out.b.cell 3,HSt1.out.b.cell 4,HSt1.out.b.cell 5,HSt1.out.b.cell 6,HSt1.out.b.cell 7,HSt1.out.b.cell 8⟩,?_⟩
 refine Eng.Sch.call rfl rfl (by decide) (by kernel_rfl) ?_ (HSt1.out.v.put K m (by omega)) ?_
 ·go_simp
 rintro e w3 ⟨rfl,M',hv,ht⟩
 have HSt2:=Lib.hid (HSt1.out.turn hv ht)
 refine ⟨_,rfl,⟨HSt2.out.b.cell 0,HSt2.out.b.cell 1,HSt2.out.b.cell 2,HSt2.out.b.cell 3,HSt2.out.b.cell 4,HSt2.out.b.cell 5,HSt2.out.b.cell 6,HSt2.out.b.cell 7,HSt2.out.b.cell 8⟩,?_⟩
 refine Eng.Sch.end_ [24,25,26,27,28,29,30] HN.out (by kernel_rfl) (by kernel_rfl) ?_
 exact HP.out _ _ M' HSt2.out
theorem change_skip (B:Nat) (V:Cv) (M:List Nat) (y:Sn) (d:Int) (w:World) (H:VM w B V M) (hp:(y.p != 0)=true):
  Calls prog 24 #[.pointer (some ⟨B,0,none⟩),y.v,.int .i64 d] w fun e w'=>e=.returned (.bool true)∧Fr (fun _=>False) w w':=by
 have HF:=Lib.hid (Fr.alloc (fun _=>False) w (.cells y.arr TSn))
 have HX:=Lib.hid (Bk.new w y.arr TSn)
 have c2:(w.alloc (.cells y.arr TSn)).cell? ⟨w.heap.size,2,none⟩=some (.int .i64 y.p):=HX.out.cell 2
 clear H
 go_enter func24,ntmps24
 go_wp2_with fail
 go_ret
 exact ⟨rfl,HF.out⟩
def ChV (K:ByteArray) (m:Int) (V V':Cv) (b:Bool):Prop:=(m<0∧b=false∧V'=V)∨(m=0∧b=true∧V'=delL K V)∨(0<m∧b=true∧V'=insL K m V)
def ChPost (B:Nat) (V:Cv) (M:List Nat) (K:ByteArray) (m:Int) (w:World) (e:Ending) (w':World):Prop:=∃b V' M',e=.returned (.bool b)∧VM w' B V' M'∧Tn (B::M) (B::M') w w'∧ChV K m V V' b
theorem change_ (B:Nat) (V:Cv) (M:List Nat) (y:Sn) (d:Int) (w:World) (H:VM w B V M) (hp:(y.p != 0)=false) (hl:y.s.size+y.o.size≤1000000) (ht:wf64 y.t) (hd: -1≤d∧d≤1) (hm:0≤(getL (ek (kk y)) V).getD 0∧(getL (ek (kk y)) V).getD 0≤1000000000) (sz:V.length≤1000000000):
  Calls prog 24 #[.pointer (some ⟨B,0,none⟩),y.v,.int .i64 d] w (ChPost B V M (ek (kk y)) ((getL (ek (kk y)) V).getD 0+d) w):=by
 have HC:=Lib.hid (CS.start (y:=y) H)
 have HK:=Lib.hid (fun W=>key_ y W hl ht)
 generalize ek (kk y)=K at *
 have c2:(w.alloc (.cells y.arr TSn)).cell? ⟨w.heap.size,2,none⟩=some (.int .i64 y.p):=HC.out.b.cell 2
 clear hl ht H
 go_enter func24,ntmps24
 go_upto_region 3 with (fail)
 refine ch3 (by kernel_rfl) _ _ w _ M B V M _ y K HK.out HC.out rfl rfl rfl ?_
 intro x w2 h7 hst
 simp only [Eng.setAll,Act.put,List.setIfInBounds_toArray,List.set_cons_succ,List.set_cons_zero]
 rw [h7]
 have HC2:=Lib.hid hst
 clear hst h7 HC c2
 obtain ⟨g,hg⟩:∃g,(getL K V).getD 0=g:=⟨_,rfl⟩
 rw [hg] at hm
 rw [hg]
 obtain ⟨m,hmm⟩:∃m,g+d=m:=⟨_,rfl⟩
 have HM:Hid ((getL K V).getD 0+d=m):=by show _=_;rw [hg];exact hmm
 clear hg
 go_upto_region 6 with (fail)
 (try rw [hmm])
 have hr: -1≤m∧m≤1000000001:=by omega
 clear hmm
 by_cases h1:m<0
 ·have q1:decide (m<0)=true:=decide_eq_true h1
  go_wp2_with fail
  go_ret
  exact ⟨false,V,M,rfl,HC2.out.v,HC2.out.t,.inl ⟨by rw [HM.out];exact h1,rfl,rfl⟩⟩
 ·have q1:decide (m<0)=false:=decide_eq_false h1
  by_cases h2:m=0
  ·have q2:(m==0)=true:=by simp [h2]
   have HO:=Lib.hid h2
   clear h2
   go_upto_region 9 with (fail)
   refine ch9 (by kernel_rfl) _ _ w w2 M B V M _ y K HK.out HC2.out sz rfl rfl rfl ?_
   intro x w3 M' hst
   simp only [Eng.setAll,Act.put,List.setIfInBounds_toArray,List.set_cons_succ,List.set_cons_zero]
   have HC3:=Lib.hid hst
   clear hst HC2
   go_wp2_with fail
   go_ret
   exact ⟨true,_,M',rfl,HC3.out.v,HC3.out.t,.inr (.inl ⟨by rw [HM.out];exact HO.out,rfl,rfl⟩)⟩
  ·have q2:(m==0)=false:=by simp [h2]
   go_upto_region 5 with (fail)
   refine ch5 (by kernel_rfl) _ _ w w2 M B V M _ y K HK.out m HC2.out sz rfl rfl rfl rfl ?_
   intro x w3 M' hst
   simp only [Eng.setAll,Act.put,List.setIfInBounds_toArray,List.set_cons_succ,List.set_cons_zero]
   have HC3:=Lib.hid hst
   clear hst HC2
   go_wp2_with fail
   go_ret
   exact ⟨true,_,M',rfl,HC3.out.v,HC3.out.t,.inr (.inr ⟨by rw [HM.out];omega,rfl,by rw [HM.out]⟩)⟩
end Ent
end Go.Proofs.YtdpngmgaomghoaaGreatDoor
