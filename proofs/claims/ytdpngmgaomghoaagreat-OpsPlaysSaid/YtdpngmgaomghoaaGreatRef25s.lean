/- The document's histograms: the walks. -/
import Derived.Test.YtdpngmgaomghoaaGreatHists
import Derived.Test.YtdpngmgaomghoaaGreatRef04
import Derived.Test.YtdpngmgaomghoaaGreatRef24
import Derived.Test.YtdpngmgaomghoaaGreatRef13h
namespace Go.Proofs.YtdpngmgaomghoaaGreat
open Tryz
set_option maxRecDepth 100000
set_option maxHeartbeats 400000
open Go.RowKit
namespace Ref25
open HistP BagP Bag Wide Bucket
attribute [local go_sem] Eng.ev Eng.getO_cons Eng.getO_nil
abbrev TR:TypeId:=75
abbrev TI:TypeId:=3
structure RH (w:World) (B:Nat) (x:HS) (F:List Nat):Prop where
 b:Ref13h.RB TR [.int .i64 x.2.1,.int .i64 x.2.2] w B x.1 F
 ok:Ok x.1
 may:HistP.May x.2
section
variable {w w' w0:World} {B:Nat} {x y:HS} {F F0:List Nat}
theorem RH.fr {S:Nat→Prop} (h:RH w B x F) (hf:Fr S w w') (hs:∀b∈F,¬S b):RH w' B x F:=⟨h.b.fr hf hs,h.ok,h.may⟩
theorem RH.lt (h:RH w B x F):∀b∈F,b<w.heap.size:=h.b.lt
theorem RH.mem (h:RH w B x F):B∈F:=by obtain ⟨A,c,-,-,rfl,-⟩:=h.b;simp
theorem RH.cells (h:RH w B x F):w.cell? ⟨B,1,none⟩=some (.int .i64 x.2.1)∧w.cell? ⟨B,2,none⟩=some (.int .i64 x.2.2)∧w.frozen? ⟨B,1,none⟩=false∧w.frozen? ⟨B,2,none⟩=false:=by
 obtain ⟨A,c,h1,-,-,-⟩:=h.b
 exact ⟨(h1.cell 1).trans (by simp),(h1.cell 2).trans (by simp),h1.free 1,h1.free 2⟩
theorem RH.setS (h:RH w B x F) {s:Int × Int} (hs:HistP.May s):RH ((w.setCell ⟨B,1,none⟩ (.int .i64 s.1)).setCell ⟨B,2,none⟩ (.int .i64 s.2)) B (x.1,s) F∧Tn F F w ((w.setCell ⟨B,1,none⟩ (.int .i64 s.1)).setCell ⟨B,2,none⟩ (.int .i64 s.2)):=by
 have hlt:=h.lt
 have hB:=h.mem
 obtain ⟨⟨A,c,h1,h2,rfl,h4⟩,ok,may⟩:=h
 have f1:=(Fr.setCell w ⟨B,1,none⟩ (.int .i64 s.1) (S:=(· =B)) rfl).trans (Fr.setCell (w.setCell ⟨B,1,none⟩ (.int .i64 s.1)) ⟨B,2,none⟩ (.int .i64 s.2) (S:=(· =B)) rfl) (T:=(· =B)) (fun _ _ h=>h) (fun _ _ h=>h)
 exact ⟨⟨⟨A,c,(h1.set 1 _).set 2 _,h2.fr f1 (fun a ha e=>(h4 a ha).1 e),rfl,fun a ha=>⟨(h4 a ha).1,Nat.lt_of_lt_of_le (h4 a ha).2 f1.size⟩⟩,ok,hs⟩,f1.mono (fun i _ e=>by simp [e]),fun y hy=>⟨.inl hy,Nat.lt_of_lt_of_le (hlt y hy) f1.size⟩⟩
structure RT (w0:World) (F0:List Nat) (w:World) (B:Nat) (x:HS) (F:List Nat):Prop where
 h:RH w B x F
 t:Tn F0 F w0 w
 f:Fr (· =B) w0 w
theorem RH.rt (h:RH w B x F):RT w F w B x F:=⟨h,Tn.refl h.lt,Fr.refl _ _⟩
theorem RT.fr (h:RT w0 F0 w B x F) (hf:Fr (fun _=>False) w w'):RT w0 F0 w' B x F:=⟨h.h.fr hf (fun _ _ h=>h),h.t.trans (Tn.of_fr hf h.h.lt),h.f.trans hf (fun _ _ h=>h) (fun _ _ h=>h.elim)⟩
theorem RT.to {F':List Nat} (h:RT w0 F0 w B x F) (k:RH w' B y F') (t:Tn F F' w w') (f:Fr (· =B) w w'):RT w0 F0 w' B y F':=⟨k,h.t.trans t,h.f.trans f (fun _ _ h=>h) (fun _ _ h=>h)⟩
theorem RT.setS (h:RT w0 F0 w B x F) {s:Int × Int} (hs:HistP.May s):RT w0 F0 ((w.setCell ⟨B,1,none⟩ (.int .i64 s.1)).setCell ⟨B,2,none⟩ (.int .i64 s.2)) B (x.1,s) F:=h.to (h.h.setS hs).1 (h.h.setS hs).2 ((Fr.setCell w ⟨B,1,none⟩ (.int .i64 s.1) (S:=(· =B)) rfl).trans (Fr.setCell (w.setCell ⟨B,1,none⟩ (.int .i64 s.1)) ⟨B,2,none⟩ (.int .i64 s.2) (S:=(· =B)) rfl) (fun _ _ h=>h) (fun _ _ h=>h))
theorem RT.bagAdd (h:RT w0 F0 w B x F) (k m:Int) (sz:x.1.length≤1000000):
  Calls prog 163 #[.pointer (some ⟨B,0,none⟩),.int .i64 k,.int .i64 m] w fun e w'=>e=.returned (.bool (okA m x.1))∧∃F',RT w0 F0 w' B (addL k m x.1,x.2) F'∧Fr (· =B) w w':=by
 refine (Ref13h.Add B k m x.1 F w h.h.b h.h.ok sz).mono ?_
 rintro e w' ⟨he,F',hb,ht,hf⟩
 exact ⟨he,F',h.to ⟨hb,h.h.ok.add k m,h.h.may⟩ ht hf,hf⟩
theorem RT.bagTake (h:RT w0 F0 w B x F) (k m:Int) (sz:x.1.length≤1000000):
  Calls prog 161 #[.pointer (some ⟨B,0,none⟩),.int .i64 k,.int .i64 m] w fun e w'=>e=.returned (.bool (okT k m x.1))∧∃F',RT w0 F0 w' B (takeL k m x.1,x.2) F':=by
 refine (Ref13h.Take B k m x.1 F w h.h.b h.h.ok sz).mono ?_
 rintro e w' ⟨he,F',hb,ht,hf⟩
 exact ⟨he,F',h.to ⟨hb,h.h.ok.take k m,h.h.may⟩ ht hf⟩
theorem RH.bagLen (h:RH w B x F):Calls prog 96 #[.pointer (some ⟨B,0,none⟩)] w fun e w'=>e=.returned (.int .i64 (sumL x.1))∧w=w':=Ref13h.Len B x.1 F w h.b h.ok
theorem RT.countB (h:RT w0 F0 w B x F) (k:Int) {n:Int} (hn:Hid (cnt k x.1=n)):Calls prog 157 #[.pointer (some ⟨B,0,none⟩),.int .i64 k] w fun e w'=>e=.returned (.int .i64 n)∧w=w':=
 (Ref13h.Count B k x.1 F w h.h.b).mono (fun _ _ q=>⟨by rw [q.1,hn.out],q.2⟩)
end
theorem LessB (a b:Int × Int) (ha:HistP.May a) (hb:HistP.May b) (bb:Bool) (h:Hid (lessS a b=bb)) (w:World):Calls prog 159 #[sv a,sv b] w fun e w'=>e=.returned (.bool bb)∧Fr (fun _=>False) w w':=
 (Ref04.Less a b ha hb w).mono (fun _ _ k=>⟨by rw [k.1,h.out],k.2⟩)
theorem a0 {ops:Array Oper} (hops:Eng.fnOps Tryz.f93 0=ops) (a0:Act) (Q:Exit→Act→World→Prop) (w0:World) (F0:List Nat) (w:World) (B:Nat) (x_:HS) (F:List Nat) (d:Int) (hst:RT w0 F0 w B x_ F) (hlen:x_.1.length≤1000000)
  (hn:a0.tmps.size=19) (h_0:a0.tmps.getD 0 undef=.pointer (some ⟨B,0,none⟩)) (h_1:a0.tmps.getD 1 undef=.int .i64 d)
  (hpost:∀ (x:Nat→Value) (w':World) (F':List Nat),RT w0 F0 w' B (addL (bk d) 1 x_.1,x_.2) F'→Q .normal (Eng.setAll a0 [4,5,6,7,8,9] x) w'):
  (Code.region 0 ops true).wp prog Q a0 w:=by
 simp only [Eng.fnOps,Eng.regOps,Tryz.f93,Option.bind_some,Option.getD_some,↓reduceIte] at hops
 subst hops
 have HSt:=Lib.hid (hst.fr (Fr.drew _ _))
 refine Eng.regionN [(0,true),(1,true),(2,true),(3,true),(4,false),(5,false)] (fun w'=>True) (by kernel_rfl) 19 hn (by kernel_rfl) rfl (by kernel_rfl) (trivial) (fun a b ha hb=>?_)
 subst ha
 have hb0:b 0=.pointer (some ⟨B,0,none⟩):=(hb 0).symm.trans h_0
 have hb1:b 1=.int .i64 d:=(hb 1).symm.trans h_1
 clear hb h_0 h_1
 have HP:=Lib.hid hpost;have HN:=Lib.hid hn
 clear hpost hn
 iterate 4 (refine Eng.Sch.tk ?_)
 refine Eng.Sch.call rfl rfl (by decide) (by kernel_rfl) ?_ (Ref24.Of d _) ?_
 ·go_simp
 rintro e w2 ⟨rfl,hf⟩
 have HSt1:=Lib.hid (HSt.out.fr hf)
 clear hf
 refine ⟨_,rfl,trivial,?_⟩
 refine Eng.Sch.call rfl rfl (by decide) (by kernel_rfl) ?_ (HSt1.out.bagAdd (bk d) 1 hlen) ?_
 ·go_simp
 rintro e w3 ⟨rfl,F2,hT,-⟩
 have HSt2:=Lib.hid (hT)
 clear hT
 refine ⟨_,rfl,trivial,?_⟩
 refine Eng.Sch.end_ [4,5,6,7,8,9] HN.out (by kernel_rfl) (by kernel_rfl) ?_
 exact HP.out _ _ _ HSt2.out
theorem AddF (B:Nat) (d:Int) (x:HS) (F:List Nat) (w:World) (h:RH w B x F) (hlen:x.1.length≤1000000):Calls prog 93 #[.pointer (some ⟨B,0,none⟩),.int .i64 d] w fun e w'=>e=.returned (.tuple #[])∧∃F',RH w' B (addH d x) F'∧Tn F F' w w'∧Fr (· =B) w w':=by
 have HH:=Lib.hid h.rt
 have HAd:=fun w=>Lib.hid (Ref04.Add x.2 d h.may w)
 have hm:=h.may.add d
 have HM:=Lib.hid hm
 have HE:Hid (addH d x=(addL (bk d) 1 x.1,addS x.2 d)):=rfl
 clear h hm
 go_enter func93,ntmps93
 go_upto_region 0 with (fail)
 refine a0 (by kernel_rfl) _ _ w F w B x F d HH.out hlen rfl rfl rfl ?_
 intro y w1 F1 hst
 simp only [Eng.setAll,Act.put,List.setIfInBounds_toArray,List.set_cons_succ,List.set_cons_zero]
 have H1:=Lib.hid hst
 obtain ⟨c3,c4,f3,f4⟩:=hst.h.cells
 dsimp only at c3 c4
 generalize addL (bk d) 1 x.1=L' at *
 clear hst HH
 obtain ⟨L,s,t⟩:=x
 dsimp only at c3 c4 HAd HM HE H1
 go_wp2_with fail
 refine (HAd _).out.mono ?_
 rintro e w2 ⟨rfl,hf⟩
 have H2:=Lib.hid (H1.out.fr hf)
 clear c3 c4 f3 f4 hf H1 HAd
 have H3:=Lib.hid (H2.out.setS HM.out)
 obtain ⟨c3,c4,f3,f4⟩:=H2.out.h.cells
 dsimp only at c3 c4 H3
 generalize addS (s,t) d=s' at *
 obtain ⟨s1,t1⟩:=s'
 dsimp only at H3
 go_wp2_with fail
 go_end0
 exact ⟨rfl,F1,by rw [HE.out];exact H3.out.h,H3.out.t,H3.out.f⟩
theorem d1a {ops:Array Oper} (hops:Eng.fnOps Tryz.f91 1=ops) (a0:Act) (Q:Exit→Act→World→Prop) (w0:World) (F0:List Nat) (w:World) (B:Nat) (L:List (Int × Int)) (s t:Int) (F:List Nat) (d:Int) (hst:RT w0 F0 w B (L,(s,t)) F) (_hlen:L.length≤1000000) (h2:Hid (cnt (bk d) (L,(s,t)).1=0))
  (hn:a0.tmps.size=37) (h_0:a0.tmps.getD 0 undef=.pointer (some ⟨B,0,none⟩)) (h_1:a0.tmps.getD 1 undef=.int .i64 d)
  (hpost:∀ (x:Nat→Value) (w':World),x 21=.bool true→RT w0 F0 w' B (L,(s,t)) F→Q .normal (Eng.setAll a0 [5,6,7,8,9,10,11,12,13,14,15,16,17,18,19,20,21] x) w'):
  (Code.region 1 ops true).wp prog Q a0 w:=by
 simp only [Eng.fnOps,Eng.regOps,Tryz.f91,Option.bind_some,Option.getD_some,Nat.reduceEqDiff,↓reduceIte] at hops
 subst hops
 have HSt:=Lib.hid (hst.fr (Fr.drew _ _))
 refine Eng.regionN [(0,true),(1,true),(2,true),(3,true),(4,false),(5,false),(6,true),(7,true),(8,true),(9,true),(10,true),(11,true),(12,true),(13,true),(14,true),(15,true),(16,true)] (fun w'=>w'.cell? ⟨B,1,none⟩=some (.int .i64 s)∧w'.cell? ⟨B,2,none⟩=some (.int .i64 t)) (by kernel_rfl) 37 hn (by kernel_rfl) rfl (by kernel_rfl) (⟨HSt.out.h.cells.1,HSt.out.h.cells.2.1⟩) (fun a b ha hb=>?_)
 subst ha
 have hb0:b 0=.pointer (some ⟨B,0,none⟩):=(hb 0).symm.trans h_0
 have hb1:b 1=.int .i64 d:=(hb 1).symm.trans h_1
 clear hb h_0 h_1
 have HP:=Lib.hid hpost;have HN:=Lib.hid hn
 clear hpost hn
 iterate 4 (refine Eng.Sch.tk ?_)
 refine Eng.Sch.call rfl rfl (by decide) (by kernel_rfl) ?_ (Ref24.Of d _) ?_
 ·go_simp
 rintro e w2 ⟨rfl,hf⟩
 have HSt1:=Lib.hid (HSt.out.fr hf)
 have hSS:w2.cell? ⟨B,1,none⟩=some (.int .i64 s)∧w2.cell? ⟨B,2,none⟩=some (.int .i64 t):=⟨HSt1.out.h.cells.1,HSt1.out.h.cells.2.1⟩
 clear hf
 refine ⟨_,rfl,hSS,?_⟩
 refine Eng.Sch.call rfl rfl (by decide) (by kernel_rfl) ?_ (HSt1.out.countB (bk d) h2) ?_
 ·go_simp
 rintro e w_2 ⟨rfl,rfl⟩
 refine ⟨_,rfl,hSS,?_⟩
 refine Eng.Sch.tk ?_
 refine Eng.Sch.tk ?_
 iterate 8 (refine Eng.Sch.skip rfl rfl (by decide) (by kernel_rfl) ?_)
 refine Eng.Sch.tk ?_
 refine Eng.Sch.end_ [5,6,7,8,9,10,11,12,13,14,15,16,17,18,19,20,21] HN.out (by kernel_rfl) (by kernel_rfl) ?_
 exact HP.out _ _ rfl HSt1.out
theorem d1b {ops:Array Oper} (hops:Eng.fnOps Tryz.f91 1=ops) (a0:Act) (Q:Exit→Act→World→Prop) (w0:World) (F0:List Nat) (w:World) (B:Nat) (L:List (Int × Int)) (s t:Int) (F:List Nat) (d:Int) (hst:RT w0 F0 w B (L,(s,t)) F) (_hlen:L.length≤1000000) (n:Int) (bb:Bool) (hn:(n==0)=false) (h1:Hid (lessS (s,t) (sumS [d])=bb)) (h2:Hid (cnt (bk d) (L,(s,t)).1=n))
  (hn:a0.tmps.size=37) (h_0:a0.tmps.getD 0 undef=.pointer (some ⟨B,0,none⟩)) (h_1:a0.tmps.getD 1 undef=.int .i64 d)
  (hpost:∀ (x:Nat→Value) (w':World),x 21=.bool bb→RT w0 F0 w' B (L,(s,t)) F→Q .normal (Eng.setAll a0 [5,6,7,8,9,10,11,12,13,14,15,16,17,18,19,20,21] x) w'):
  (Code.region 1 ops true).wp prog Q a0 w:=by
 simp only [Eng.fnOps,Eng.regOps,Tryz.f91,Option.bind_some,Option.getD_some,Nat.reduceEqDiff,↓reduceIte] at hops
 subst hops
 have HSt:=Lib.hid (hst.fr (Fr.drew _ _))
 refine Eng.regionN [(0,true),(1,true),(2,true),(3,true),(4,false),(5,false),(6,true),(7,true),(8,true),(9,true),(10,true),(11,true),(12,true),(13,false),(14,false),(15,false),(16,true)] (fun w'=>w'.cell? ⟨B,1,none⟩=some (.int .i64 s)∧w'.cell? ⟨B,2,none⟩=some (.int .i64 t)) (by kernel_rfl) 37 hn (by kernel_rfl) rfl (by kernel_rfl) (⟨HSt.out.h.cells.1,HSt.out.h.cells.2.1⟩) (fun a b ha hb=>?_)
 subst ha
 have hb0:b 0=.pointer (some ⟨B,0,none⟩):=(hb 0).symm.trans h_0
 have hb1:b 1=.int .i64 d:=(hb 1).symm.trans h_1
 clear hb h_0 h_1
 have HP:=Lib.hid hpost;have HN:=Lib.hid hn
 clear hpost hn
 iterate 4 (refine Eng.Sch.tk ?_)
 refine Eng.Sch.call rfl rfl (by decide) (by kernel_rfl) ?_ (Ref24.Of d _) ?_
 ·go_simp
 rintro e w2 ⟨rfl,hf⟩
 have HSt1:=Lib.hid (HSt.out.fr hf)
 have hSS:w2.cell? ⟨B,1,none⟩=some (.int .i64 s)∧w2.cell? ⟨B,2,none⟩=some (.int .i64 t):=⟨HSt1.out.h.cells.1,HSt1.out.h.cells.2.1⟩
 clear hf
 refine ⟨_,rfl,hSS,?_⟩
 refine Eng.Sch.call rfl rfl (by decide) (by kernel_rfl) ?_ (HSt1.out.countB (bk d) h2) ?_
 ·go_simp
 rintro e w_2 ⟨rfl,rfl⟩
 refine ⟨_,rfl,hSS,?_⟩
 iterate 7 (refine Eng.Sch.tk ?_)
 have HSt2:=Lib.hid (HSt1.out.fr (Fr.alloc _ _ (.cells #[.int .i64 d] TI)))
 refine Eng.Sch.step rfl rfl (by decide) (by kernel_rfl) (by go_simp;first|done|with_reducible rfl) (⟨HSt2.out.h.cells.1,HSt2.out.h.cells.2.1⟩) ?_
 have hSS:(w2.alloc (.cells #[.int .i64 d] TI)).cell? ⟨B,1,none⟩=some (.int .i64 s)∧(w2.alloc (.cells #[.int .i64 d] TI)).cell? ⟨B,2,none⟩=some (.int .i64 t):=⟨HSt2.out.h.cells.1,HSt2.out.h.cells.2.1⟩
 refine Eng.Sch.call rfl rfl (by decide) (by kernel_rfl) ?_ (Ref04.Of _ 1 [d] _ (Sl.one _ TI [.int .i64 d] 1 rfl)) ?_
 ·go_simp
 rintro e w4 ⟨rfl,hf⟩
 have HSt3:=Lib.hid (HSt2.out.fr hf)
 clear hf
 refine ⟨_,rfl,⟨HSt3.out.h.cells.1,HSt3.out.h.cells.2.1⟩,?_⟩
 refine Eng.Sch.call rfl rfl (by decide) (by kernel_rfl) ?_ (LessB (s,t) (sumS [d]) hst.h.may (May.sum _ May.zero) bb h1 _) ?_
 ·go_simp
 rintro e w5 ⟨rfl,hf⟩
 have HSt4:=Lib.hid (HSt3.out.fr hf)
 clear hf
 refine ⟨_,rfl,⟨HSt4.out.h.cells.1,HSt4.out.h.cells.2.1⟩,?_⟩
 refine Eng.Sch.tk ?_
 refine Eng.Sch.end_ [5,6,7,8,9,10,11,12,13,14,15,16,17,18,19,20,21] HN.out (by kernel_rfl) (by kernel_rfl) ?_
 exact HP.out _ _ rfl HSt4.out
theorem d3 {ops:Array Oper} (hops:Eng.fnOps Tryz.f91 3=ops) (a0:Act) (Q:Exit→Act→World→Prop) (w0:World) (F0:List Nat) (w:World) (B:Nat) (L:List (Int × Int)) (s t:Int) (F:List Nat) (d:Int) (hst:RT w0 F0 w B (L,(s,t)) F) (hlen:L.length≤1000000)
  (hn:a0.tmps.size=37) (h_0:a0.tmps.getD 0 undef=.pointer (some ⟨B,0,none⟩)) (h_1:a0.tmps.getD 1 undef=.int .i64 d)
  (hpost:∀ (x:Nat→Value) (w':World) (F':List Nat),RT w0 F0 w' B (takeL (bk d) 1 L,(s,t)) F'→Q .normal (Eng.setAll a0 [22,23,24,25,26,27] x) w'):
  (Code.region 3 ops true).wp prog Q a0 w:=by
 simp only [Eng.fnOps,Eng.regOps,Tryz.f91,Option.bind_some,Option.getD_some,Nat.reduceEqDiff,↓reduceIte] at hops
 subst hops
 have HSt:=Lib.hid (hst.fr (Fr.drew _ _))
 refine Eng.regionN [(0,true),(1,true),(2,true),(3,true),(4,false),(5,false)] (fun w'=>w'.cell? ⟨B,1,none⟩=some (.int .i64 s)∧w'.cell? ⟨B,2,none⟩=some (.int .i64 t)) (by kernel_rfl) 37 hn (by kernel_rfl) rfl (by kernel_rfl) (⟨HSt.out.h.cells.1,HSt.out.h.cells.2.1⟩) (fun a b ha hb=>?_)
 subst ha
 have hb0:b 0=.pointer (some ⟨B,0,none⟩):=(hb 0).symm.trans h_0
 have hb1:b 1=.int .i64 d:=(hb 1).symm.trans h_1
 clear hb h_0 h_1
 have HP:=Lib.hid hpost;have HN:=Lib.hid hn
 clear hpost hn
 iterate 4 (refine Eng.Sch.tk ?_)
 refine Eng.Sch.call rfl rfl (by decide) (by kernel_rfl) ?_ (Ref24.Of d _) ?_
 ·go_simp
 rintro e w2 ⟨rfl,hf⟩
 have HSt1:=Lib.hid (HSt.out.fr hf)
 clear hf
 refine ⟨_,rfl,⟨HSt1.out.h.cells.1,HSt1.out.h.cells.2.1⟩,?_⟩
 refine Eng.Sch.call rfl rfl (by decide) (by kernel_rfl) ?_ (HSt1.out.bagTake (bk d) 1 hlen) ?_
 ·go_simp
 rintro e w3 ⟨rfl,F2,hT⟩
 have HSt2:=Lib.hid (hT)
 clear hT
 refine ⟨_,rfl,⟨HSt2.out.h.cells.1,HSt2.out.h.cells.2.1⟩,?_⟩
 refine Eng.Sch.end_ [22,23,24,25,26,27] HN.out (by kernel_rfl) (by kernel_rfl) ?_
 exact HP.out _ _ _ HSt2.out
theorem okT_cnt {k:Int} {L:List (Int × Int)} (h:Ok L):okT k 1 L= !(cnt k L==0):=by
 have:=(h.pos.cnt k).1
 unfold okT
 rw [Bool.eq_iff_iff];simp;omega
theorem DropF (B:Nat) (d:Int) (x:HS) (F:List Nat) (w:World) (h:RH w B x F) (hlen:x.1.length≤1000000):Calls prog 91 #[.pointer (some ⟨B,0,none⟩),.int .i64 d] w fun e w'=>e=.returned (.bool (okD d x))∧∃F',RH w' B (dropH d x) F'∧Tn F F' w w'∧Fr (· =B) w w':=by
 have HH:=Lib.hid h.rt
 have HSu:=fun w=>Lib.hid (Ref04.Sub x.2 d h.may w)
 have HM:=Lib.hid (h.may.sub d)
 have HE:Hid (okD d x=(!lessS x.2 (sumS [d])&&okT (bk d) 1 x.1)):=rfl
 have HD:Hid (dropH d x=if okD d x then (takeL (bk d) 1 x.1,subS x.2 d) else x):=rfl
 have hot:=okT_cnt (k:=bk d) h.ok
 clear h
 obtain ⟨L,s,t⟩:=x
 dsimp only at hlen HE HSu HM hot
 by_cases hz:cnt (bk d) L=0
 ·have HO:Hid (okD d (L,s,t)=false):=by show _=_;rw [HE.out,hot,hz];simp
  have H2:=Lib.hid hz
  clear hz hot HSu HM
  go_enter func91,ntmps91
  go_upto_region 1 with (fail)
  refine d1a (by kernel_rfl) _ _ w F w B L s t F d HH.out hlen H2 rfl rfl rfl ?_
  intro y w1 hx hst
  simp only [Eng.setAll,Act.put,List.setIfInBounds_toArray,List.set_cons_succ,List.set_cons_zero]
  rw [hx]
  have H3:=Lib.hid hst
  clear hst hx
  go_wp2_with fail
  go_ret
  exact ⟨by rw [HO.out];rfl,F,by rw [HD.out,HO.out];exact H3.out.h,H3.out.t,H3.out.f⟩
 ·have hnz:(cnt (bk d) L==0)=false:=by simpa using hz
  rw [hnz] at hot
  have HOt:=Lib.hid hot
  cases hl:lessS (s,t) (sumS [d]) with
  |true=>
   have H1:=Lib.hid hl
   have HO:Hid (okD d (L,s,t)=false):=by show _=_;rw [HE.out,hl];rfl
   clear hl HSu HM hz hot
   go_enter func91,ntmps91
   go_upto_region 1 with (fail)
   refine d1b (by kernel_rfl) _ _ w F w B L s t F d HH.out hlen _ true hnz H1 (Lib.hid rfl) rfl rfl rfl ?_
   intro y w1 hx hst
   simp only [Eng.setAll,Act.put,List.setIfInBounds_toArray,List.set_cons_succ,List.set_cons_zero]
   rw [hx]
   have H3:=Lib.hid hst
   clear hst hx
   go_wp2_with fail
   go_ret
   exact ⟨by rw [HO.out];rfl,F,by rw [HD.out,HO.out];exact H3.out.h,H3.out.t,H3.out.f⟩
  |false=>
   have H1:=Lib.hid hl
   have HO:Hid (okD d (L,s,t)=true):=by show _=_;rw [HE.out,hl,HOt.out];rfl
   clear hl hz hot
   go_enter func91,ntmps91
   go_upto_region 1 with (fail)
   refine d1b (by kernel_rfl) _ _ w F w B L s t F d HH.out hlen _ false hnz H1 (Lib.hid rfl) rfl rfl rfl ?_
   intro y w1 hx hst
   simp only [Eng.setAll,Act.put,List.setIfInBounds_toArray,List.set_cons_succ,List.set_cons_zero]
   rw [hx]
   have H3:=Lib.hid hst
   clear hst hx HH hnz
   go_upto_region 3 with (fail)
   refine d3 (by kernel_rfl) _ _ w F w1 B L s t F d H3.out hlen rfl rfl rfl ?_
   intro y2 w2 F2 hst
   simp only [Eng.setAll,Act.put,List.setIfInBounds_toArray,List.set_cons_succ,List.set_cons_zero]
   have H4:=Lib.hid hst
   obtain ⟨c3,c4,f3,f4⟩:=hst.h.cells
   dsimp only at c3 c4
   clear hst H3
   go_wp2_with fail
   refine (HSu _).out.mono ?_
   rintro e w3 ⟨rfl,hf⟩
   have H5:=Lib.hid (H4.out.fr hf)
   clear c3 c4 f3 f4 hf H4 HSu
   have H6:=Lib.hid (H5.out.setS HM.out)
   obtain ⟨c3,c4,f3,f4⟩:=H5.out.h.cells
   dsimp only at c3 c4 H6
   rw [HO.out,if_pos rfl] at HD
   generalize subS (s,t) d=s' at *
   obtain ⟨s1,t1⟩:=s'
   dsimp only at H6
   go_wp2_with fail
   go_ret
   exact ⟨by rw [HO.out];rfl,F2,by rw [HD.out];exact H6.out.h,H6.out.t,H6.out.f⟩
end Ref25
set_option maxRecDepth 100000
set_option maxHeartbeats 400000
namespace Ref25
open HistP BagP Bag Wide Bucket
attribute [local go_sem] Eng.ev Eng.getO_cons Eng.getO_nil
theorem Quantile (B:Nat) (p:Int) (x:HS) (F:List Nat) (w:World) (h:RH w B x F) (hn:sumL x.1≤1000000):Calls prog 37 #[.pointer (some ⟨B,0,none⟩),.int .i64 p] w fun e w'=>e=.returned (bv (quant x p))∧Fr (fun _=>False) w w':=by
 have HL:=Lib.hid h.bagLen
 have hn0:=(h.ok.pos.cnt 0).2.2
 have HPos:=Lib.hid h.ok.pos
 obtain ⟨A,c,hb,hS,-,-⟩:=h.b
 have c0:w.cell? ⟨B,0,none⟩=some (.slice A x.1.length c):=hb.c0
 have HC:=Lib.hid (Ref03.Clamp p 0 1000 w)
 have hc:0≤clamp p 0 1000∧clamp p 0 1000≤1000:=by unfold clamp;omega
 have hlen:x.1.length≤9223372036854775807:=by have:=hS.2.1;have:=hS.2.2.1;unfold maxLen at this;omega
 have HS:=Lib.hid hS
 have hq0:0≤sumL x.1*clamp p 0 1000:=Int.mul_nonneg hn0 hc.1
 have hq1:sumL x.1*clamp p 0 1000≤sumL x.1*1000:=Int.mul_le_mul_of_nonneg_left hc.2 hn0
 have HR:Hid (∀r,1≤r→r≤max 1 (sumL x.1)→(r=1∨(r-1)*1000<sumL x.1*clamp p 0 1000)→¬ (r<sumL x.1∧r*1000<sumL x.1*clamp p 0 1000)→r=rank (sumL x.1) p):=fun r h1 h2 h3 h4=>rank_is hn0 h1 h2 h3 h4
 have HQ:Hid (quant x p=match findQ (rank (sumL x.1) p) x.1 with|some k=>bnd k|none=>(0,0,false)):=rfl
 generalize quant x p=qq at *
 generalize clamp p 0 1000=cc at *
 clear h hb hS
 obtain ⟨L,s⟩:=x
 dsimp only at *
 generalize hnn:sumL L=n at *
 have HNN:=Lib.hid hnn
 clear hnn
 generalize hrr:rank n p=rk at *
 clear hrr
 go_enter func37,ntmps37
 go_wp2_with fail
 refine HL.out.mono ?_
 rintro e w1 ⟨rfl,rfl⟩
 go_wp2_with fail
 refine HC.out.mono ?_
 rintro e w1 ⟨rfl,rfl⟩
 clear HL HC
 go_wp2_with fail
 go_loopg [9] (n-1).toNat (fun gk i wr=>∃r:Int,i=.int .i64 r∧1≤r∧r≤max 1 n∧gk=(n-r).toNat∧(r=1∨(r-1)*1000<n*cc)∧w=wr)
 case atStart=>exact ⟨1,rfl,by omega,by omega,rfl,.inl rfl,rfl⟩
 case round=>
  obtain ⟨r,rfl,hr1,hr2,hg,hlo,rfl⟩:=hrel
  have HG:=Lib.hid hg;have HLo:=Lib.hid hlo
  clear hg hlo
  have hrm:r≤1000001:=by omega
  by_cases h1:r<n∧r*1000<n*cc
  ·obtain ⟨h1a,h1b⟩:=h1
   go_wp2_with fail
   go_roundg (n-(r+1)).toNat
   case rel=>exact ⟨r+1,rfl,by omega,by omega,rfl,.inr (by rw [Int.add_sub_cancel];exact h1b),rfl⟩
   case measure=>have:=HG.out;omega
  ·obtain rfl:=HR.out r hr1 hr2 HLo.out h1
   have h1':¬r<n∨(r<n∧¬r*1000<n*cc):=by
    by_cases h:r<n
    ·exact .inr ⟨h,fun h2=>h1 ⟨h,h2⟩⟩
    ·exact .inl h
   clear h1 HLo HR
   rcases h1' with h1a| ⟨h1a,h1b⟩
   all_goals
    go_wp2_with fail
    go_loopg [9,10] L.length (fun gk r' i wr=>∃k:Nat,i=.int .i64 k∧k≤L.length∧gk=L.length-k∧r'=.int .i64 (r-sumL (L.take k))∧findQ r (L.take k)=none∧w=wr)
    case atStart=>exact ⟨0,rfl,Nat.zero_le _,rfl,by simp [sumL],rfl,rfl⟩
    case round=>
     obtain ⟨k,rfl,hk,hg2,rfl,hno,rfl⟩:=hrel
     have HG2:=Lib.hid hg2;have HNo:=Lib.hid hno
     clear hg2 hno
     by_cases hlt:k<L.length
     ·obtain ⟨b1,o1,rfl,hb1,hc1⟩:=HS.out.at hlt (by omega)
      have e0:w.cell? ⟨b1,o1+k*2,none⟩=some (.int .i64 L[k].1):=hc1 (k*2) _ (by rw [←Nat.add_zero (k*2),flat_at pc_len hlt (by omega)];rfl)
      have e1:w.cell? ⟨b1,o1+k*2+1,none⟩=some (.int .i64 L[k].2):=hc1 (k*2+1) _ (by rw [flat_at pc_len hlt (by omega)];rfl)
      have HT:=Lib.hid (List.take_succ_eq_append_getElem hlt)
      have HF:=Lib.hid (Hist.findQ_app r (L.take k) [L[k]] HNo.out)
      have hs:=Hist.sum_pre (List.take_prefix k L) HPos.out
      have hs2:=Hist.sum_pre (List.take_prefix (k+1) L) HPos.out
      have hsn:sumL (L.take (k+1))=sumL (L.take k)+L[k].2:=by rw [HT.out,sumL_append];simp [sumL]
      rw [hsn] at hs2
      rw [HNN.out] at hs hs2
      have HSn:=Lib.hid hsn
      have HPr:=Lib.hid (show L.take k++ [L[k]]<+:L by rw [←HT.out];exact List.take_prefix _ _)
      have HBo:=Lib.hid (Ref24.Bounds L[k].1 w)
      generalize hp:L[k]=q at *
      clear hp hc1 hsn
      obtain ⟨qk,qm⟩:=q
      dsimp only at e0 e1 hs2 HBo HSn
      generalize sumL (L.take k)=sp at *
      by_cases hle:r-sp≤qm
      ·have HFd:Hid (findQ r L=some qk):=by
        refine Hist.findQ_pre ?_ HPr.out
        rw [HF.out];unfold findQ;rw [if_pos hle]
       rw [HFd.out] at HQ
       dsimp only at HQ
       go_wp2_with fail
       refine HBo.out.mono ?_
       rintro e w1 ⟨rfl,hf⟩
       have HFr:=Lib.hid hf
       clear hf
       generalize bnd qk=bb at *
       obtain ⟨x1,x2,x3⟩:=bb
       go_wp2_with fail
       go_ret3
       exact ⟨by rw [HQ.out];rfl,HFr.out⟩
      ·have HFd:Hid (findQ r (L.take (k+1))=none):=by
        show _=_
        rw [HT.out,HF.out];unfold findQ;rw [if_neg hle];rfl
       go_wp2_with fail
       go_roundg (L.length-(k+1))
       case rel=>exact ⟨k+1,by go_num,by omega,rfl,by rw [HSn.out,←Int.sub_sub],HFd.out,rfl⟩
       case measure=>have:=HG2.out;omega
     ·obtain rfl:k=L.length:=by omega
      rw [List.take_length] at HNo
      rw [HNo.out] at HQ
      dsimp only at HQ
      go_wp2_with fail
      go_ret3
      exact ⟨by rw [HQ.out];rfl,Fr.refl _ _⟩
end Ref25
end Go.Proofs.YtdpngmgaomghoaaGreat
