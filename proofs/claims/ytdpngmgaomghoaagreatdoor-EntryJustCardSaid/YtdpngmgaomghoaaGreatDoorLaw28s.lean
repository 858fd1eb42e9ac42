/- Layer 28's statements: EntryJust: for every input the answer is true. -/
import Derived.Test.YtdpngmgaomghoaaGreatDoorLaw28f
namespace Go.Proofs.YtdpngmgaomghoaaGreatDoor
open Tryz
set_option maxRecDepth 100000
set_option maxHeartbeats 8000000
open Go.RowKit
namespace Law28
open BagP KeyP EntP OpsP PackP SetP SetW SetF Sli Name Pack Delta ClsW
open Ent (EV TV bg mays apE TI TIs ints infoI TE TEs En EL AllPost bl_eq)
attribute [local go_sem] Eng.ev Eng.getO_cons Eng.getO_nil
def hitB (y:Sn) (n:Nm) (l:List Int):Bool:=decide (n.1=y.s)&&decide (n.2=y.o)&&l.any (fun t=>t==y.t)
def hit2 (n:Nm) (t:Int) (y:Sn):Bool:=(y.p==0)&&(decide (n.1=y.s)&&(decide (n.2=y.o)&&(t==y.t)))
theorem any_take {α:Type} (f:α→Bool) {l:List α} {k:Nat} (h:k<l.length):(l.take (k+1)).any f=((l.take k).any f||f l[k]):=by
 rw [List.take_succ_eq_append_getElem h,List.any_append];simp
theorem hit_take (y:Sn) (n:Nm) {l:List Int} {j:Nat} (h:j<l.length):hitB y n (l.take (j+1))=(hitB y n (l.take j)||(decide (n.1=y.s)&&(decide (n.2=y.o)&&(l[j]==y.t)))):=by
 unfold hitB
 rw [any_take _ h]
 cases decide (n.1=y.s)<;>cases decide (n.2=y.o)<;>simp
structure Js (N:List Sn) (T:List En):Prop where
 one:∀y∈N,y.p=0→T.any (fun e=>hitB y e.n e.l)=true
 ne:∀e∈T,e.l≠ []
 srt:∀ (j:Nat) (h:j+1<T.length),ltN T[j].n T[j+1].n=true
 two:∀e∈T,∀t∈e.l,N.any (hit2 e.n t)=true
 up:∀e∈T,∀ (j:Nat) (h:j+1<e.l.length),e.l[j]<e.l[j+1]
theorem js {N:List Sn} {T:List En} (h:IsAll (fun n t=>(n,t)∈bg N) (T.map En.v)):Js N T:=by
 have hm:∀e∈T,e.v∈T.map En.v:=fun e he=>List.mem_map.2 ⟨e,he,rfl⟩
 have hbg:∀n t,(n,t)∈bg N↔ ∃y∈N,y.p=0∧n=(y.s,y.o)∧t=y.t:=fun n t=>by
  unfold bg Ent.kk
  rw [List.mem_map]
  constructor
  ·rintro ⟨y,hy,he⟩
   rw [List.mem_filter] at hy
   cases he
   exact ⟨y,hy.1,by simpa using hy.2,rfl,rfl⟩
  ·rintro ⟨y,hy,hp,rfl,rfl⟩
   exact ⟨y,List.mem_filter.2 ⟨hy,by simpa using hp⟩,rfl⟩
 obtain ⟨h1,h2,h3⟩:=h
 refine ⟨fun y hy hp=>?_,fun e he=>(h2 _ (hm e he)).1,fun j hj=>?_,fun e he t ht=>?_,fun e he j hj=>?_⟩
 ·obtain ⟨e',he',hn,ht⟩:=(h3 (y.s,y.o) y.t).1 ((hbg _ _).2 ⟨y,hy,hp,rfl,rfl⟩)
  obtain ⟨e,he,rfl⟩:=List.mem_map.1 he'
  refine List.any_eq_true.2 ⟨e,he,?_⟩
  have hn':e.n=(y.s,y.o):=hn
  unfold hitB
  rw [hn']
  simp only [decide_true,Bool.true_and,List.any_eq_true]
  exact ⟨y.t,ht,by simp⟩
 ·have:=List.pairwise_iff_getElem.1 h1 j (j+1) (by rw [List.length_map];omega) (by rw [List.length_map];omega) (by omega)
  rw [List.getElem_map,List.getElem_map] at this
  exact this
 ·obtain ⟨y,hy,hp,hn,rfl⟩:=(hbg e.n t).1 ((h3 e.n t).2 ⟨e.v,hm e he,rfl,ht⟩)
  refine List.any_eq_true.2 ⟨y,hy,?_⟩
  unfold hit2
  rw [hn]
  simp [hp]
 ·exact List.pairwise_iff_getElem.1 (h2 _ (hm e he)).2 j (j+1) (by show j<e.l.length;omega) hj (by omega)
theorem js14a {ops:Array Oper} (hops:Eng.fnOps Tryz.f4 14=ops) (a0:Act) (Q:Exit→Act→World→Prop) (w0 w:World) (hst:Fr (fun _=>False) w0 w)
  (hn:a0.tmps.size=249) (h_6:a0.tmps.getD 6 undef=.bool true)
  (hpost:∀ (x:Nat→Value) (w':World),x 6=.bool true→Fr (fun _=>False) w0 w'→Q .normal (Eng.setAll a0 [6,43,44,45,46,47,48,49,50,51,52,53,54,55,56,57,58,59,60,61,62,63,64,65,66,67,68,69,70,71,72,73,74,75,76,77,78,79,80,81,82,83,84,85] x) w'):
  (Code.region 14 ops true).wp prog Q a0 w:=by
 simp only [Eng.fnOps,Eng.regOps,Tryz.f4,Option.bind_some,Option.getD_some,Nat.reduceEqDiff,↓reduceIte] at hops
 subst hops
 have HSt:=Lib.hid (hst.trans (Fr.drew _ _) (fun _ _ h=>h) (fun _ _ h=>h))
 refine Eng.regionN [(0,true),(1,true),(2,true),(3,true),(4,true),(5,true),(6,true),(7,true),(8,true),(9,true),(10,true),(11,true),(12,true),(13,true),(14,true),(15,true),(16,true),(17,true),(18,true),(19,true),(20,true),(21,true),(22,true),(23,true),(24,true),(25,true),(26,true),(27,true),(28,true),(29,true),(30,true),(31,true),(32,true),(33,true),(34,true),(35,true),(36,true),(37,true),(38,true),(39,true),(40,true),(41,true),(42,true),(43,true)] (fun w'=>True) (by kernel_rfl) 249 hn (by kernel_rfl) rfl (by kernel_rfl) (trivial) (fun a b ha hb=>?_)
 subst ha
 have hb6:b 6=.bool true:=(hb 6).symm.trans h_6
 clear hb h_6
 have HP:=Lib.hid hpost;have HN:=Lib.hid hn
 clear hpost hn
 refine Eng.Sch.tk ?_
 refine Eng.Sch.tk ?_
 iterate 40 (refine Eng.Sch.skip rfl rfl (by decide) (by kernel_rfl) ?_)
 refine Eng.Sch.tk ?_
 refine Eng.Sch.tk ?_
 refine Eng.Sch.end_ [6,43,44,45,46,47,48,49,50,51,52,53,54,55,56,57,58,59,60,61,62,63,64,65,66,67,68,69,70,71,72,73,74,75,76,77,78,79,80,81,82,83,84,85] HN.out (by kernel_rfl) (by kernel_rfl) ?_
 exact HP.out _ _ rfl HSt.out
theorem js14b {ops:Array Oper} (hops:Eng.fnOps Tryz.f4 14=ops) (a0:Act) (Q:Exit→Act→World→Prop) (w0 w:World) (hst:Fr (fun _=>False) w0 w) (b1 o1 c1 lenN i b2 o2 c2 lenT k b3 o3 lt ct j:Nat) (y:Sn) (n:Nm) (t:Int) (hY:∀W:World,Fr (fun _=>False) w0 W→At W b1 (o1+i*9) y) (hA:∀W:World,Fr (fun _=>False) w0 W→W.cell? ⟨b2,o2+k*3,none⟩=some (.string n.1)∧W.cell? ⟨b2,o2+k*3+1,none⟩=some (.string n.2)∧W.cell? ⟨b2,o2+k*3+1+1,none⟩=some (.slice (some ⟨b3,o3,none⟩) lt ct)) (_hI:∀W:World,Fr (fun _=>False) w0 W→W.cell? ⟨b3,o3+j,none⟩=some (.int .i64 t)) (h1:i<lenN) (h2:k<lenT) (h3:j<lt) (hs:¬n.1=y.s)
  (hn:a0.tmps.size=249) (h_3:a0.tmps.getD 3 undef=.slice (some ⟨b2,o2,none⟩) lenT c2) (h_4:a0.tmps.getD 4 undef=.slice (some ⟨b1,o1,none⟩) lenN c1) (h_5:a0.tmps.getD 5 undef=.int .i64 (i:Int)) (h_6:a0.tmps.getD 6 undef=.bool false) (h_7:a0.tmps.getD 7 undef=.int .i64 (k:Int))
  (hpost:∀ (x:Nat→Value) (w':World),x 6=.bool false→Fr (fun _=>False) w0 w'→Q .normal (Eng.setAll a0 [6,43,44,45,46,47,48,49,50,51,52,53,54,55,56,57,58,59,60,61,62,63,64,65,66,67,68,69,70,71,72,73,74,75,76,77,78,79,80,81,82,83,84,85] x) w'):
  (Code.region 14 ops true).wp prog Q a0 w:=by
 simp only [Eng.fnOps,Eng.regOps,Tryz.f4,Option.bind_some,Option.getD_some,Nat.reduceEqDiff,↓reduceIte] at hops
 subst hops
 have qi1:(0:Int)≤(i:Int):=by omega
 have qi2:(i:Int)<(lenN:Int):=by omega
 have qk1:(0:Int)≤(k:Int):=by omega
 have qk2:(k:Int)<(lenT:Int):=by omega
 have qj1:(0:Int)≤(j:Int):=by omega
 have qj2:(j:Int)<(lt:Int):=by omega
 have s1:(n.1.toList==y.s.toList)=false:=by rw [bl_eq];simpa using hs
 have HSt:=Lib.hid (hst.trans (Fr.drew _ _) (fun _ _ h=>h) (fun _ _ h=>h))
 refine Eng.regionN [(0,true),(1,true),(2,true),(3,true),(4,true),(5,true),(6,true),(7,true),(8,true),(9,true),(10,true),(11,true),(12,true),(13,true),(14,true),(15,true),(16,true),(17,true),(18,true),(19,true),(20,true),(21,true),(22,true),(23,true),(24,true),(25,true),(26,true),(27,true),(28,true),(29,true),(30,true),(31,true),(32,true),(33,true),(34,true),(35,true),(36,true),(37,true),(38,true),(39,true),(40,true),(41,true),(42,true),(43,true)] (fun w'=>w'.cell? ⟨b2,o2+k*3,none⟩=some (.string n.1)∧w'.cell? ⟨b1,o1+i*9+1+1+1+1,none⟩=some (.string y.s)) (by kernel_rfl) 249 hn (by kernel_rfl) rfl (by kernel_rfl) (⟨(hA _ HSt.out).1,hY _ HSt.out 4 _ rfl⟩) (fun a b ha hb=>?_)
 subst ha
 have hb3:b 3=.slice (some ⟨b2,o2,none⟩) lenT c2:=(hb 3).symm.trans h_3
 have hb4:b 4=.slice (some ⟨b1,o1,none⟩) lenN c1:=(hb 4).symm.trans h_4
 have hb5:b 5=.int .i64 (i:Int):=(hb 5).symm.trans h_5
 have hb6:b 6=.bool false:=(hb 6).symm.trans h_6
 have hb7:b 7=.int .i64 (k:Int):=(hb 7).symm.trans h_7
 clear hb h_3 h_4 h_5 h_6 h_7
 have HP:=Lib.hid hpost;have HN:=Lib.hid hn
 clear hpost hn
 iterate 14 (refine Eng.Sch.tk ?_)
 iterate 11 (refine Eng.Sch.skip rfl rfl (by decide) (by kernel_rfl) ?_)
 refine Eng.Sch.tk ?_
 refine Eng.Sch.tk ?_
 iterate 14 (refine Eng.Sch.skip rfl rfl (by decide) (by kernel_rfl) ?_)
 iterate 3 (refine Eng.Sch.tk ?_)
 refine Eng.Sch.end_ [6,43,44,45,46,47,48,49,50,51,52,53,54,55,56,57,58,59,60,61,62,63,64,65,66,67,68,69,70,71,72,73,74,75,76,77,78,79,80,81,82,83,84,85] HN.out (by kernel_rfl) (by kernel_rfl) ?_
 exact HP.out _ _ rfl HSt.out
theorem js14c {ops:Array Oper} (hops:Eng.fnOps Tryz.f4 14=ops) (a0:Act) (Q:Exit→Act→World→Prop) (w0 w:World) (hst:Fr (fun _=>False) w0 w) (b1 o1 c1 lenN i b2 o2 c2 lenT k b3 o3 lt ct j:Nat) (y:Sn) (n:Nm) (t:Int) (hY:∀W:World,Fr (fun _=>False) w0 W→At W b1 (o1+i*9) y) (hA:∀W:World,Fr (fun _=>False) w0 W→W.cell? ⟨b2,o2+k*3,none⟩=some (.string n.1)∧W.cell? ⟨b2,o2+k*3+1,none⟩=some (.string n.2)∧W.cell? ⟨b2,o2+k*3+1+1,none⟩=some (.slice (some ⟨b3,o3,none⟩) lt ct)) (_hI:∀W:World,Fr (fun _=>False) w0 W→W.cell? ⟨b3,o3+j,none⟩=some (.int .i64 t)) (h1:i<lenN) (h2:k<lenT) (h3:j<lt) (hs:n.1=y.s) (ho:¬n.2=y.o)
  (hn:a0.tmps.size=249) (h_3:a0.tmps.getD 3 undef=.slice (some ⟨b2,o2,none⟩) lenT c2) (h_4:a0.tmps.getD 4 undef=.slice (some ⟨b1,o1,none⟩) lenN c1) (h_5:a0.tmps.getD 5 undef=.int .i64 (i:Int)) (h_6:a0.tmps.getD 6 undef=.bool false) (h_7:a0.tmps.getD 7 undef=.int .i64 (k:Int))
  (hpost:∀ (x:Nat→Value) (w':World),x 6=.bool false→Fr (fun _=>False) w0 w'→Q .normal (Eng.setAll a0 [6,43,44,45,46,47,48,49,50,51,52,53,54,55,56,57,58,59,60,61,62,63,64,65,66,67,68,69,70,71,72,73,74,75,76,77,78,79,80,81,82,83,84,85] x) w'):
  (Code.region 14 ops true).wp prog Q a0 w:=by
 simp only [Eng.fnOps,Eng.regOps,Tryz.f4,Option.bind_some,Option.getD_some,Nat.reduceEqDiff,↓reduceIte] at hops
 subst hops
 have qi1:(0:Int)≤(i:Int):=by omega
 have qi2:(i:Int)<(lenN:Int):=by omega
 have qk1:(0:Int)≤(k:Int):=by omega
 have qk2:(k:Int)<(lenT:Int):=by omega
 have qj1:(0:Int)≤(j:Int):=by omega
 have qj2:(j:Int)<(lt:Int):=by omega
 have s1:(n.1.toList==y.s.toList)=true:=by rw [bl_eq];simpa using hs
 have s2:(n.2.toList==y.o.toList)=false:=by rw [bl_eq];simpa using ho
 have HSt:=Lib.hid (hst.trans (Fr.drew _ _) (fun _ _ h=>h) (fun _ _ h=>h))
 refine Eng.regionN [(0,true),(1,true),(2,true),(3,true),(4,true),(5,true),(6,true),(7,true),(8,true),(9,true),(10,true),(11,true),(12,true),(13,true),(14,true),(15,true),(16,true),(17,true),(18,true),(19,true),(20,true),(21,true),(22,true),(23,true),(24,true),(25,true),(26,true),(27,true),(28,true),(29,true),(30,true),(31,true),(32,true),(33,true),(34,true),(35,true),(36,true),(37,true),(38,true),(39,true),(40,true),(41,true),(42,true),(43,true)] (fun w'=>w'.cell? ⟨b2,o2+k*3,none⟩=some (.string n.1)∧w'.cell? ⟨b2,o2+k*3+1,none⟩=some (.string n.2)∧w'.cell? ⟨b1,o1+i*9+1+1+1+1,none⟩=some (.string y.s)∧w'.cell? ⟨b1,o1+i*9+1+1+1+1+1,none⟩=some (.string y.o)) (by kernel_rfl) 249 hn (by kernel_rfl) rfl (by kernel_rfl) (⟨(hA _ HSt.out).1,(hA _ HSt.out).2.1,hY _ HSt.out 4 _ rfl,hY _ HSt.out 5 _ rfl⟩) (fun a b ha hb=>?_)
 subst ha
 have hb3:b 3=.slice (some ⟨b2,o2,none⟩) lenT c2:=(hb 3).symm.trans h_3
 have hb4:b 4=.slice (some ⟨b1,o1,none⟩) lenN c1:=(hb 4).symm.trans h_4
 have hb5:b 5=.int .i64 (i:Int):=(hb 5).symm.trans h_5
 have hb6:b 6=.bool false:=(hb 6).symm.trans h_6
 have hb7:b 7=.int .i64 (k:Int):=(hb 7).symm.trans h_7
 clear hb h_3 h_4 h_5 h_6 h_7
 have HP:=Lib.hid hpost;have HN:=Lib.hid hn
 clear hpost hn
 iterate 27 (refine Eng.Sch.tk ?_)
 iterate 14 (refine Eng.Sch.skip rfl rfl (by decide) (by kernel_rfl) ?_)
 iterate 3 (refine Eng.Sch.tk ?_)
 refine Eng.Sch.end_ [6,43,44,45,46,47,48,49,50,51,52,53,54,55,56,57,58,59,60,61,62,63,64,65,66,67,68,69,70,71,72,73,74,75,76,77,78,79,80,81,82,83,84,85] HN.out (by kernel_rfl) (by kernel_rfl) ?_
 exact HP.out _ _ rfl HSt.out
theorem js14d {ops:Array Oper} (hops:Eng.fnOps Tryz.f4 14=ops) (a0:Act) (Q:Exit→Act→World→Prop) (w0 w:World) (hst:Fr (fun _=>False) w0 w) (b1 o1 c1 lenN i b2 o2 c2 lenT k b3 o3 lt ct j:Nat) (y:Sn) (n:Nm) (t:Int) (hY:∀W:World,Fr (fun _=>False) w0 W→At W b1 (o1+i*9) y) (hA:∀W:World,Fr (fun _=>False) w0 W→W.cell? ⟨b2,o2+k*3,none⟩=some (.string n.1)∧W.cell? ⟨b2,o2+k*3+1,none⟩=some (.string n.2)∧W.cell? ⟨b2,o2+k*3+1+1,none⟩=some (.slice (some ⟨b3,o3,none⟩) lt ct)) (hI:∀W:World,Fr (fun _=>False) w0 W→W.cell? ⟨b3,o3+j,none⟩=some (.int .i64 t)) (h1:i<lenN) (h2:k<lenT) (h3:j<lt) (hs:n.1=y.s) (ho:n.2=y.o)
  (hn:a0.tmps.size=249) (h_3:a0.tmps.getD 3 undef=.slice (some ⟨b2,o2,none⟩) lenT c2) (h_4:a0.tmps.getD 4 undef=.slice (some ⟨b1,o1,none⟩) lenN c1) (h_5:a0.tmps.getD 5 undef=.int .i64 (i:Int)) (h_6:a0.tmps.getD 6 undef=.bool false) (h_7:a0.tmps.getD 7 undef=.int .i64 (k:Int)) (h_8:a0.tmps.getD 8 undef=.int .i64 (j:Int))
  (hpost:∀ (x:Nat→Value) (w':World),x 6=.bool (t==y.t)→Fr (fun _=>False) w0 w'→Q .normal (Eng.setAll a0 [6,43,44,45,46,47,48,49,50,51,52,53,54,55,56,57,58,59,60,61,62,63,64,65,66,67,68,69,70,71,72,73,74,75,76,77,78,79,80,81,82,83,84,85] x) w'):
  (Code.region 14 ops true).wp prog Q a0 w:=by
 simp only [Eng.fnOps,Eng.regOps,Tryz.f4,Option.bind_some,Option.getD_some,Nat.reduceEqDiff,↓reduceIte] at hops
 subst hops
 have qi1:(0:Int)≤(i:Int):=by omega
 have qi2:(i:Int)<(lenN:Int):=by omega
 have qk1:(0:Int)≤(k:Int):=by omega
 have qk2:(k:Int)<(lenT:Int):=by omega
 have qj1:(0:Int)≤(j:Int):=by omega
 have qj2:(j:Int)<(lt:Int):=by omega
 have s1:(n.1.toList==y.s.toList)=true:=by rw [bl_eq];simpa using hs
 have s2:(n.2.toList==y.o.toList)=true:=by rw [bl_eq];simpa using ho
 have HSt:=Lib.hid (hst.trans (Fr.drew _ _) (fun _ _ h=>h) (fun _ _ h=>h))
 refine Eng.regionN [(0,true),(1,true),(2,true),(3,true),(4,true),(5,true),(6,true),(7,true),(8,true),(9,true),(10,true),(11,true),(12,true),(13,true),(14,true),(15,true),(16,true),(17,true),(18,true),(19,true),(20,true),(21,true),(22,true),(23,true),(24,true),(25,true),(26,true),(27,true),(28,true),(29,true),(30,true),(31,true),(32,true),(33,true),(34,true),(35,true),(36,true),(37,true),(38,true),(39,true),(40,true),(41,true),(42,true),(43,true)] (fun w'=>w'.cell? ⟨b2,o2+k*3,none⟩=some (.string n.1)∧w'.cell? ⟨b2,o2+k*3+1,none⟩=some (.string n.2)∧w'.cell? ⟨b2,o2+k*3+1+1,none⟩=some (.slice (some ⟨b3,o3,none⟩) lt ct)∧w'.cell? ⟨b1,o1+i*9+1+1+1+1,none⟩=some (.string y.s)∧w'.cell? ⟨b1,o1+i*9+1+1+1+1+1,none⟩=some (.string y.o)∧w'.cell? ⟨b1,o1+i*9,none⟩=some (.int .i64 y.t)∧w'.cell? ⟨b3,o3+j,none⟩=some (.int .i64 t)) (by kernel_rfl) 249 hn (by kernel_rfl) rfl (by kernel_rfl) (⟨(hA _ HSt.out).1,(hA _ HSt.out).2.1,(hA _ HSt.out).2.2,hY _ HSt.out 4 _ rfl,hY _ HSt.out 5 _ rfl,hY _ HSt.out 0 _ rfl,hI _ HSt.out⟩) (fun a b ha hb=>?_)
 subst ha
 have hb3:b 3=.slice (some ⟨b2,o2,none⟩) lenT c2:=(hb 3).symm.trans h_3
 have hb4:b 4=.slice (some ⟨b1,o1,none⟩) lenN c1:=(hb 4).symm.trans h_4
 have hb5:b 5=.int .i64 (i:Int):=(hb 5).symm.trans h_5
 have hb6:b 6=.bool false:=(hb 6).symm.trans h_6
 have hb7:b 7=.int .i64 (k:Int):=(hb 7).symm.trans h_7
 have hb8:b 8=.int .i64 (j:Int):=(hb 8).symm.trans h_8
 clear hb h_3 h_4 h_5 h_6 h_7 h_8
 have HP:=Lib.hid hpost;have HN:=Lib.hid hn
 clear hpost hn
 iterate 44 (refine Eng.Sch.tk ?_)
 refine Eng.Sch.end_ [6,43,44,45,46,47,48,49,50,51,52,53,54,55,56,57,58,59,60,61,62,63,64,65,66,67,68,69,70,71,72,73,74,75,76,77,78,79,80,81,82,83,84,85] HN.out (by kernel_rfl) (by kernel_rfl) ?_
 exact HP.out _ _ rfl HSt.out
theorem js14 {ops:Array Oper} (hops:Eng.fnOps Tryz.f4 14=ops) (a0:Act) (Q:Exit→Act→World→Prop) (w0 w:World) (hst:Fr (fun _=>False) w0 w) (b1 o1 c1 lenN i b2 o2 c2 lenT k b3 o3 lt ct j:Nat) (y:Sn) (n:Nm) (t:Int) (hY:∀W:World,Fr (fun _=>False) w0 W→At W b1 (o1+i*9) y) (hA:∀W:World,Fr (fun _=>False) w0 W→W.cell? ⟨b2,o2+k*3,none⟩=some (.string n.1)∧W.cell? ⟨b2,o2+k*3+1,none⟩=some (.string n.2)∧W.cell? ⟨b2,o2+k*3+1+1,none⟩=some (.slice (some ⟨b3,o3,none⟩) lt ct)) (hI:∀W:World,Fr (fun _=>False) w0 W→W.cell? ⟨b3,o3+j,none⟩=some (.int .i64 t)) (h1:i<lenN) (h2:k<lenT) (h3:j<lt) (bb:Bool)
  (hn:a0.tmps.size=249) (h_3:a0.tmps.getD 3 undef=.slice (some ⟨b2,o2,none⟩) lenT c2) (h_4:a0.tmps.getD 4 undef=.slice (some ⟨b1,o1,none⟩) lenN c1) (h_5:a0.tmps.getD 5 undef=.int .i64 (i:Int)) (h_6:a0.tmps.getD 6 undef=.bool bb) (h_7:a0.tmps.getD 7 undef=.int .i64 (k:Int)) (h_8:a0.tmps.getD 8 undef=.int .i64 (j:Int))
  (hpost:∀ (x:Nat→Value) (w':World),x 6=.bool (bb||(decide (n.1=y.s)&&(decide (n.2=y.o)&&(t==y.t))))→Fr (fun _=>False) w0 w'→Q .normal (Eng.setAll a0 [6,43,44,45,46,47,48,49,50,51,52,53,54,55,56,57,58,59,60,61,62,63,64,65,66,67,68,69,70,71,72,73,74,75,76,77,78,79,80,81,82,83,84,85] x) w'):
  (Code.region 14 ops true).wp prog Q a0 w:=by
 cases bb with
 |true=>exact js14a hops a0 Q w0 w hst hn h_6 (fun x w' h hf=>hpost x w' (by rw [h];simp) hf)
 |false=>
  by_cases hs:n.1=y.s
  ·by_cases ho:n.2=y.o
   ·exact js14d hops a0 Q w0 w hst b1 o1 c1 lenN i b2 o2 c2 lenT k b3 o3 lt ct j y n t hY hA hI h1 h2 h3 hs ho hn h_3 h_4 h_5 h_6 h_7 h_8 (fun x w' h hf=>hpost x w' (by rw [h];simp [hs,ho]) hf)
   ·exact js14c hops a0 Q w0 w hst b1 o1 c1 lenN i b2 o2 c2 lenT k b3 o3 lt ct j y n t hY hA hI h1 h2 h3 hs ho hn h_3 h_4 h_5 h_6 h_7 (fun x w' h hf=>hpost x w' (by rw [h];simp [hs,ho]) hf)
  ·exact js14b hops a0 Q w0 w hst b1 o1 c1 lenN i b2 o2 c2 lenT k b3 o3 lt ct j y n t hY hA hI h1 h2 h3 hs hn h_3 h_4 h_5 h_6 h_7 (fun x w' h hf=>hpost x w' (by rw [h];simp [hs]) hf)
theorem js29a {ops:Array Oper} (hops:Eng.fnOps Tryz.f4 29=ops) (a0:Act) (Q:Exit→Act→World→Prop) (w0 w:World) (hst:Fr (fun _=>False) w0 w)
  (hn:a0.tmps.size=249) (h_11:a0.tmps.getD 11 undef=.bool true)
  (hpost:∀ (x:Nat→Value) (w':World),x 11=.bool true→Fr (fun _=>False) w0 w'→Q .normal (Eng.setAll a0 [11,171,172,173,174,175,176,177,178,179,180,181,182,183,184,185,186,187,188,189,190,191,192,193,194,195,196,197,198,199,200,201,202,203,204,205,206,207,208,209,210,211,212,213,214,215,216,217,218,219,220,221] x) w'):
  (Code.region 29 ops true).wp prog Q a0 w:=by
 simp only [Eng.fnOps,Eng.regOps,Tryz.f4,Option.bind_some,Option.getD_some,Nat.reduceEqDiff,↓reduceIte] at hops
 subst hops
 have HSt:=Lib.hid (hst.trans (Fr.drew _ _) (fun _ _ h=>h) (fun _ _ h=>h))
 refine Eng.regionN [(0,true),(1,true),(2,true),(3,true),(4,true),(5,true),(6,true),(7,true),(8,true),(9,true),(10,true),(11,true),(12,true),(13,true),(14,true),(15,true),(16,true),(17,true),(18,true),(19,true),(20,true),(21,true),(22,true),(23,true),(24,true),(25,true),(26,true),(27,true),(28,true),(29,true),(30,true),(31,true),(32,true),(33,true),(34,true),(35,true),(36,true),(37,true),(38,true),(39,true),(40,true),(41,true),(42,true),(43,true),(44,true),(45,true),(46,true),(47,true),(48,true),(49,true),(50,true),(51,true)] (fun w'=>True) (by kernel_rfl) 249 hn (by kernel_rfl) rfl (by kernel_rfl) (trivial) (fun a b ha hb=>?_)
 subst ha
 have hb11:b 11=.bool true:=(hb 11).symm.trans h_11
 clear hb h_11
 have HP:=Lib.hid hpost;have HN:=Lib.hid hn
 clear hpost hn
 refine Eng.Sch.tk ?_
 refine Eng.Sch.tk ?_
 iterate 48 (refine Eng.Sch.skip rfl rfl (by decide) (by kernel_rfl) ?_)
 refine Eng.Sch.tk ?_
 refine Eng.Sch.tk ?_
 refine Eng.Sch.end_ [11,171,172,173,174,175,176,177,178,179,180,181,182,183,184,185,186,187,188,189,190,191,192,193,194,195,196,197,198,199,200,201,202,203,204,205,206,207,208,209,210,211,212,213,214,215,216,217,218,219,220,221] HN.out (by kernel_rfl) (by kernel_rfl) ?_
 exact HP.out _ _ rfl HSt.out
theorem js29b {ops:Array Oper} (hops:Eng.fnOps Tryz.f4 29=ops) (a0:Act) (Q:Exit→Act→World→Prop) (w0 w:World) (hst:Fr (fun _=>False) w0 w) (b1 o1 c1 lenN i b2 o2 _c2 lenT k b3 o3 lt ct j:Nat) (y:Sn) (n:Nm) (t:Int) (hY:∀W:World,Fr (fun _=>False) w0 W→At W b1 (o1+i*9) y) (_hA:∀W:World,Fr (fun _=>False) w0 W→W.cell? ⟨b2,o2+k*3,none⟩=some (.string n.1)∧W.cell? ⟨b2,o2+k*3+1,none⟩=some (.string n.2)∧W.cell? ⟨b2,o2+k*3+1+1,none⟩=some (.slice (some ⟨b3,o3,none⟩) lt ct)) (_hI:∀W:World,Fr (fun _=>False) w0 W→W.cell? ⟨b3,o3+j,none⟩=some (.int .i64 t)) (h1:i<lenN) (h2:k<lenT) (h3:j<lt) (hp:(y.p==0)=false)
  (hn:a0.tmps.size=249) (h_4:a0.tmps.getD 4 undef=.slice (some ⟨b1,o1,none⟩) lenN c1) (h_11:a0.tmps.getD 11 undef=.bool false) (h_12:a0.tmps.getD 12 undef=.int .i64 (i:Int))
  (hpost:∀ (x:Nat→Value) (w':World),x 11=.bool false→Fr (fun _=>False) w0 w'→Q .normal (Eng.setAll a0 [11,171,172,173,174,175,176,177,178,179,180,181,182,183,184,185,186,187,188,189,190,191,192,193,194,195,196,197,198,199,200,201,202,203,204,205,206,207,208,209,210,211,212,213,214,215,216,217,218,219,220,221] x) w'):
  (Code.region 29 ops true).wp prog Q a0 w:=by
 simp only [Eng.fnOps,Eng.regOps,Tryz.f4,Option.bind_some,Option.getD_some,Nat.reduceEqDiff,↓reduceIte] at hops
 subst hops
 have qi1:(0:Int)≤(i:Int):=by omega
 have qi2:(i:Int)<(lenN:Int):=by omega
 have qk1:(0:Int)≤(k:Int):=by omega
 have qk2:(k:Int)<(lenT:Int):=by omega
 have qj1:(0:Int)≤(j:Int):=by omega
 have qj2:(j:Int)<(lt:Int):=by omega
 have HSt:=Lib.hid (hst.trans (Fr.drew _ _) (fun _ _ h=>h) (fun _ _ h=>h))
 refine Eng.regionN [(0,true),(1,true),(2,true),(3,true),(4,true),(5,true),(6,true),(7,true),(8,true),(9,true),(10,true),(11,true),(12,true),(13,true),(14,true),(15,true),(16,true),(17,true),(18,true),(19,true),(20,true),(21,true),(22,true),(23,true),(24,true),(25,true),(26,true),(27,true),(28,true),(29,true),(30,true),(31,true),(32,true),(33,true),(34,true),(35,true),(36,true),(37,true),(38,true),(39,true),(40,true),(41,true),(42,true),(43,true),(44,true),(45,true),(46,true),(47,true),(48,true),(49,true),(50,true),(51,true)] (fun w'=>w'.cell? ⟨b1,o1+i*9+1+1,none⟩=some (.int .i64 y.p)) (by kernel_rfl) 249 hn (by kernel_rfl) rfl (by kernel_rfl) (hY _ HSt.out 2 _ rfl) (fun a b ha hb=>?_)
 subst ha
 have hb4:b 4=.slice (some ⟨b1,o1,none⟩) lenN c1:=(hb 4).symm.trans h_4
 have hb11:b 11=.bool false:=(hb 11).symm.trans h_11
 have hb12:b 12=.int .i64 (i:Int):=(hb 12).symm.trans h_12
 clear hb h_4 h_11 h_12
 have HP:=Lib.hid hpost;have HN:=Lib.hid hn
 clear hpost hn
 iterate 9 (refine Eng.Sch.tk ?_)
 iterate 11 (refine Eng.Sch.skip rfl rfl (by decide) (by kernel_rfl) ?_)
 refine Eng.Sch.tk ?_
 refine Eng.Sch.tk ?_
 iterate 11 (refine Eng.Sch.skip rfl rfl (by decide) (by kernel_rfl) ?_)
 refine Eng.Sch.tk ?_
 refine Eng.Sch.tk ?_
 iterate 14 (refine Eng.Sch.skip rfl rfl (by decide) (by kernel_rfl) ?_)
 iterate 3 (refine Eng.Sch.tk ?_)
 refine Eng.Sch.end_ [11,171,172,173,174,175,176,177,178,179,180,181,182,183,184,185,186,187,188,189,190,191,192,193,194,195,196,197,198,199,200,201,202,203,204,205,206,207,208,209,210,211,212,213,214,215,216,217,218,219,220,221] HN.out (by kernel_rfl) (by kernel_rfl) ?_
 exact HP.out _ _ rfl HSt.out
theorem js29c {ops:Array Oper} (hops:Eng.fnOps Tryz.f4 29=ops) (a0:Act) (Q:Exit→Act→World→Prop) (w0 w:World) (hst:Fr (fun _=>False) w0 w) (b1 o1 c1 lenN i b2 o2 c2 lenT k b3 o3 lt ct j:Nat) (y:Sn) (n:Nm) (t:Int) (hY:∀W:World,Fr (fun _=>False) w0 W→At W b1 (o1+i*9) y) (hA:∀W:World,Fr (fun _=>False) w0 W→W.cell? ⟨b2,o2+k*3,none⟩=some (.string n.1)∧W.cell? ⟨b2,o2+k*3+1,none⟩=some (.string n.2)∧W.cell? ⟨b2,o2+k*3+1+1,none⟩=some (.slice (some ⟨b3,o3,none⟩) lt ct)) (_hI:∀W:World,Fr (fun _=>False) w0 W→W.cell? ⟨b3,o3+j,none⟩=some (.int .i64 t)) (h1:i<lenN) (h2:k<lenT) (h3:j<lt) (hp:(y.p==0)=true) (hs:¬n.1=y.s)
  (hn:a0.tmps.size=249) (h_3:a0.tmps.getD 3 undef=.slice (some ⟨b2,o2,none⟩) lenT c2) (h_4:a0.tmps.getD 4 undef=.slice (some ⟨b1,o1,none⟩) lenN c1) (h_9:a0.tmps.getD 9 undef=.int .i64 (k:Int)) (h_11:a0.tmps.getD 11 undef=.bool false) (h_12:a0.tmps.getD 12 undef=.int .i64 (i:Int))
  (hpost:∀ (x:Nat→Value) (w':World),x 11=.bool false→Fr (fun _=>False) w0 w'→Q .normal (Eng.setAll a0 [11,171,172,173,174,175,176,177,178,179,180,181,182,183,184,185,186,187,188,189,190,191,192,193,194,195,196,197,198,199,200,201,202,203,204,205,206,207,208,209,210,211,212,213,214,215,216,217,218,219,220,221] x) w'):
  (Code.region 29 ops true).wp prog Q a0 w:=by
 simp only [Eng.fnOps,Eng.regOps,Tryz.f4,Option.bind_some,Option.getD_some,Nat.reduceEqDiff,↓reduceIte] at hops
 subst hops
 have qi1:(0:Int)≤(i:Int):=by omega
 have qi2:(i:Int)<(lenN:Int):=by omega
 have qk1:(0:Int)≤(k:Int):=by omega
 have qk2:(k:Int)<(lenT:Int):=by omega
 have qj1:(0:Int)≤(j:Int):=by omega
 have qj2:(j:Int)<(lt:Int):=by omega
 have s1:(n.1.toList==y.s.toList)=false:=by rw [bl_eq];simpa using hs
 have HSt:=Lib.hid (hst.trans (Fr.drew _ _) (fun _ _ h=>h) (fun _ _ h=>h))
 refine Eng.regionN [(0,true),(1,true),(2,true),(3,true),(4,true),(5,true),(6,true),(7,true),(8,true),(9,true),(10,true),(11,true),(12,true),(13,true),(14,true),(15,true),(16,true),(17,true),(18,true),(19,true),(20,true),(21,true),(22,true),(23,true),(24,true),(25,true),(26,true),(27,true),(28,true),(29,true),(30,true),(31,true),(32,true),(33,true),(34,true),(35,true),(36,true),(37,true),(38,true),(39,true),(40,true),(41,true),(42,true),(43,true),(44,true),(45,true),(46,true),(47,true),(48,true),(49,true),(50,true),(51,true)] (fun w'=>w'.cell? ⟨b2,o2+k*3,none⟩=some (.string n.1)∧w'.cell? ⟨b1,o1+i*9+1+1+1+1,none⟩=some (.string y.s)∧w'.cell? ⟨b1,o1+i*9+1+1,none⟩=some (.int .i64 y.p)) (by kernel_rfl) 249 hn (by kernel_rfl) rfl (by kernel_rfl) (⟨(hA _ HSt.out).1,hY _ HSt.out 4 _ rfl,hY _ HSt.out 2 _ rfl⟩) (fun a b ha hb=>?_)
 subst ha
 have hb3:b 3=.slice (some ⟨b2,o2,none⟩) lenT c2:=(hb 3).symm.trans h_3
 have hb4:b 4=.slice (some ⟨b1,o1,none⟩) lenN c1:=(hb 4).symm.trans h_4
 have hb9:b 9=.int .i64 (k:Int):=(hb 9).symm.trans h_9
 have hb11:b 11=.bool false:=(hb 11).symm.trans h_11
 have hb12:b 12=.int .i64 (i:Int):=(hb 12).symm.trans h_12
 clear hb h_3 h_4 h_9 h_11 h_12
 have HP:=Lib.hid hpost;have HN:=Lib.hid hn
 clear hpost hn
 iterate 22 (refine Eng.Sch.tk ?_)
 iterate 11 (refine Eng.Sch.skip rfl rfl (by decide) (by kernel_rfl) ?_)
 refine Eng.Sch.tk ?_
 refine Eng.Sch.tk ?_
 iterate 14 (refine Eng.Sch.skip rfl rfl (by decide) (by kernel_rfl) ?_)
 iterate 3 (refine Eng.Sch.tk ?_)
 refine Eng.Sch.end_ [11,171,172,173,174,175,176,177,178,179,180,181,182,183,184,185,186,187,188,189,190,191,192,193,194,195,196,197,198,199,200,201,202,203,204,205,206,207,208,209,210,211,212,213,214,215,216,217,218,219,220,221] HN.out (by kernel_rfl) (by kernel_rfl) ?_
 exact HP.out _ _ rfl HSt.out
theorem js29d {ops:Array Oper} (hops:Eng.fnOps Tryz.f4 29=ops) (a0:Act) (Q:Exit→Act→World→Prop) (w0 w:World) (hst:Fr (fun _=>False) w0 w) (b1 o1 c1 lenN i b2 o2 c2 lenT k b3 o3 lt ct j:Nat) (y:Sn) (n:Nm) (t:Int) (hY:∀W:World,Fr (fun _=>False) w0 W→At W b1 (o1+i*9) y) (hA:∀W:World,Fr (fun _=>False) w0 W→W.cell? ⟨b2,o2+k*3,none⟩=some (.string n.1)∧W.cell? ⟨b2,o2+k*3+1,none⟩=some (.string n.2)∧W.cell? ⟨b2,o2+k*3+1+1,none⟩=some (.slice (some ⟨b3,o3,none⟩) lt ct)) (_hI:∀W:World,Fr (fun _=>False) w0 W→W.cell? ⟨b3,o3+j,none⟩=some (.int .i64 t)) (h1:i<lenN) (h2:k<lenT) (h3:j<lt) (hp:(y.p==0)=true) (hs:n.1=y.s) (ho:¬n.2=y.o)
  (hn:a0.tmps.size=249) (h_3:a0.tmps.getD 3 undef=.slice (some ⟨b2,o2,none⟩) lenT c2) (h_4:a0.tmps.getD 4 undef=.slice (some ⟨b1,o1,none⟩) lenN c1) (h_9:a0.tmps.getD 9 undef=.int .i64 (k:Int)) (h_11:a0.tmps.getD 11 undef=.bool false) (h_12:a0.tmps.getD 12 undef=.int .i64 (i:Int))
  (hpost:∀ (x:Nat→Value) (w':World),x 11=.bool false→Fr (fun _=>False) w0 w'→Q .normal (Eng.setAll a0 [11,171,172,173,174,175,176,177,178,179,180,181,182,183,184,185,186,187,188,189,190,191,192,193,194,195,196,197,198,199,200,201,202,203,204,205,206,207,208,209,210,211,212,213,214,215,216,217,218,219,220,221] x) w'):
  (Code.region 29 ops true).wp prog Q a0 w:=by
 simp only [Eng.fnOps,Eng.regOps,Tryz.f4,Option.bind_some,Option.getD_some,Nat.reduceEqDiff,↓reduceIte] at hops
 subst hops
 have qi1:(0:Int)≤(i:Int):=by omega
 have qi2:(i:Int)<(lenN:Int):=by omega
 have qk1:(0:Int)≤(k:Int):=by omega
 have qk2:(k:Int)<(lenT:Int):=by omega
 have qj1:(0:Int)≤(j:Int):=by omega
 have qj2:(j:Int)<(lt:Int):=by omega
 have s1:(n.1.toList==y.s.toList)=true:=by rw [bl_eq];simpa using hs
 have s2:(n.2.toList==y.o.toList)=false:=by rw [bl_eq];simpa using ho
 have HSt:=Lib.hid (hst.trans (Fr.drew _ _) (fun _ _ h=>h) (fun _ _ h=>h))
 refine Eng.regionN [(0,true),(1,true),(2,true),(3,true),(4,true),(5,true),(6,true),(7,true),(8,true),(9,true),(10,true),(11,true),(12,true),(13,true),(14,true),(15,true),(16,true),(17,true),(18,true),(19,true),(20,true),(21,true),(22,true),(23,true),(24,true),(25,true),(26,true),(27,true),(28,true),(29,true),(30,true),(31,true),(32,true),(33,true),(34,true),(35,true),(36,true),(37,true),(38,true),(39,true),(40,true),(41,true),(42,true),(43,true),(44,true),(45,true),(46,true),(47,true),(48,true),(49,true),(50,true),(51,true)] (fun w'=>w'.cell? ⟨b2,o2+k*3,none⟩=some (.string n.1)∧w'.cell? ⟨b2,o2+k*3+1,none⟩=some (.string n.2)∧w'.cell? ⟨b1,o1+i*9+1+1+1+1,none⟩=some (.string y.s)∧w'.cell? ⟨b1,o1+i*9+1+1+1+1+1,none⟩=some (.string y.o)∧w'.cell? ⟨b1,o1+i*9+1+1,none⟩=some (.int .i64 y.p)) (by kernel_rfl) 249 hn (by kernel_rfl) rfl (by kernel_rfl) (⟨(hA _ HSt.out).1,(hA _ HSt.out).2.1,hY _ HSt.out 4 _ rfl,hY _ HSt.out 5 _ rfl,hY _ HSt.out 2 _ rfl⟩) (fun a b ha hb=>?_)
 subst ha
 have hb3:b 3=.slice (some ⟨b2,o2,none⟩) lenT c2:=(hb 3).symm.trans h_3
 have hb4:b 4=.slice (some ⟨b1,o1,none⟩) lenN c1:=(hb 4).symm.trans h_4
 have hb9:b 9=.int .i64 (k:Int):=(hb 9).symm.trans h_9
 have hb11:b 11=.bool false:=(hb 11).symm.trans h_11
 have hb12:b 12=.int .i64 (i:Int):=(hb 12).symm.trans h_12
 clear hb h_3 h_4 h_9 h_11 h_12
 have HP:=Lib.hid hpost;have HN:=Lib.hid hn
 clear hpost hn
 iterate 35 (refine Eng.Sch.tk ?_)
 iterate 14 (refine Eng.Sch.skip rfl rfl (by decide) (by kernel_rfl) ?_)
 iterate 3 (refine Eng.Sch.tk ?_)
 refine Eng.Sch.end_ [11,171,172,173,174,175,176,177,178,179,180,181,182,183,184,185,186,187,188,189,190,191,192,193,194,195,196,197,198,199,200,201,202,203,204,205,206,207,208,209,210,211,212,213,214,215,216,217,218,219,220,221] HN.out (by kernel_rfl) (by kernel_rfl) ?_
 exact HP.out _ _ rfl HSt.out
theorem js29e {ops:Array Oper} (hops:Eng.fnOps Tryz.f4 29=ops) (a0:Act) (Q:Exit→Act→World→Prop) (w0 w:World) (hst:Fr (fun _=>False) w0 w) (b1 o1 c1 lenN i b2 o2 c2 lenT k b3 o3 lt ct j:Nat) (y:Sn) (n:Nm) (t:Int) (hY:∀W:World,Fr (fun _=>False) w0 W→At W b1 (o1+i*9) y) (hA:∀W:World,Fr (fun _=>False) w0 W→W.cell? ⟨b2,o2+k*3,none⟩=some (.string n.1)∧W.cell? ⟨b2,o2+k*3+1,none⟩=some (.string n.2)∧W.cell? ⟨b2,o2+k*3+1+1,none⟩=some (.slice (some ⟨b3,o3,none⟩) lt ct)) (hI:∀W:World,Fr (fun _=>False) w0 W→W.cell? ⟨b3,o3+j,none⟩=some (.int .i64 t)) (h1:i<lenN) (h2:k<lenT) (h3:j<lt) (hp:(y.p==0)=true) (hs:n.1=y.s) (ho:n.2=y.o)
  (hn:a0.tmps.size=249) (h_3:a0.tmps.getD 3 undef=.slice (some ⟨b2,o2,none⟩) lenT c2) (h_4:a0.tmps.getD 4 undef=.slice (some ⟨b1,o1,none⟩) lenN c1) (h_9:a0.tmps.getD 9 undef=.int .i64 (k:Int)) (h_10:a0.tmps.getD 10 undef=.int .i64 (j:Int)) (h_11:a0.tmps.getD 11 undef=.bool false) (h_12:a0.tmps.getD 12 undef=.int .i64 (i:Int))
  (hpost:∀ (x:Nat→Value) (w':World),x 11=.bool (t==y.t)→Fr (fun _=>False) w0 w'→Q .normal (Eng.setAll a0 [11,171,172,173,174,175,176,177,178,179,180,181,182,183,184,185,186,187,188,189,190,191,192,193,194,195,196,197,198,199,200,201,202,203,204,205,206,207,208,209,210,211,212,213,214,215,216,217,218,219,220,221] x) w'):
  (Code.region 29 ops true).wp prog Q a0 w:=by
 simp only [Eng.fnOps,Eng.regOps,Tryz.f4,Option.bind_some,Option.getD_some,Nat.reduceEqDiff,↓reduceIte] at hops
 subst hops
 have qi1:(0:Int)≤(i:Int):=by omega
 have qi2:(i:Int)<(lenN:Int):=by omega
 have qk1:(0:Int)≤(k:Int):=by omega
 have qk2:(k:Int)<(lenT:Int):=by omega
 have qj1:(0:Int)≤(j:Int):=by omega
 have qj2:(j:Int)<(lt:Int):=by omega
 have s1:(n.1.toList==y.s.toList)=true:=by rw [bl_eq];simpa using hs
 have s2:(n.2.toList==y.o.toList)=true:=by rw [bl_eq];simpa using ho
 have HSt:=Lib.hid (hst.trans (Fr.drew _ _) (fun _ _ h=>h) (fun _ _ h=>h))
 refine Eng.regionN [(0,true),(1,true),(2,true),(3,true),(4,true),(5,true),(6,true),(7,true),(8,true),(9,true),(10,true),(11,true),(12,true),(13,true),(14,true),(15,true),(16,true),(17,true),(18,true),(19,true),(20,true),(21,true),(22,true),(23,true),(24,true),(25,true),(26,true),(27,true),(28,true),(29,true),(30,true),(31,true),(32,true),(33,true),(34,true),(35,true),(36,true),(37,true),(38,true),(39,true),(40,true),(41,true),(42,true),(43,true),(44,true),(45,true),(46,true),(47,true),(48,true),(49,true),(50,true),(51,true)] (fun w'=>w'.cell? ⟨b2,o2+k*3,none⟩=some (.string n.1)∧w'.cell? ⟨b2,o2+k*3+1,none⟩=some (.string n.2)∧w'.cell? ⟨b2,o2+k*3+1+1,none⟩=some (.slice (some ⟨b3,o3,none⟩) lt ct)∧w'.cell? ⟨b1,o1+i*9+1+1+1+1,none⟩=some (.string y.s)∧w'.cell? ⟨b1,o1+i*9+1+1+1+1+1,none⟩=some (.string y.o)∧w'.cell? ⟨b1,o1+i*9+1+1,none⟩=some (.int .i64 y.p)∧w'.cell? ⟨b1,o1+i*9,none⟩=some (.int .i64 y.t)∧w'.cell? ⟨b3,o3+j,none⟩=some (.int .i64 t)) (by kernel_rfl) 249 hn (by kernel_rfl) rfl (by kernel_rfl) (⟨(hA _ HSt.out).1,(hA _ HSt.out).2.1,(hA _ HSt.out).2.2,hY _ HSt.out 4 _ rfl,hY _ HSt.out 5 _ rfl,hY _ HSt.out 2 _ rfl,hY _ HSt.out 0 _ rfl,hI _ HSt.out⟩) (fun a b ha hb=>?_)
 subst ha
 have hb3:b 3=.slice (some ⟨b2,o2,none⟩) lenT c2:=(hb 3).symm.trans h_3
 have hb4:b 4=.slice (some ⟨b1,o1,none⟩) lenN c1:=(hb 4).symm.trans h_4
 have hb9:b 9=.int .i64 (k:Int):=(hb 9).symm.trans h_9
 have hb10:b 10=.int .i64 (j:Int):=(hb 10).symm.trans h_10
 have hb11:b 11=.bool false:=(hb 11).symm.trans h_11
 have hb12:b 12=.int .i64 (i:Int):=(hb 12).symm.trans h_12
 clear hb h_3 h_4 h_9 h_10 h_11 h_12
 have HP:=Lib.hid hpost;have HN:=Lib.hid hn
 clear hpost hn
 iterate 52 (refine Eng.Sch.tk ?_)
 refine Eng.Sch.end_ [11,171,172,173,174,175,176,177,178,179,180,181,182,183,184,185,186,187,188,189,190,191,192,193,194,195,196,197,198,199,200,201,202,203,204,205,206,207,208,209,210,211,212,213,214,215,216,217,218,219,220,221] HN.out (by kernel_rfl) (by kernel_rfl) ?_
 exact HP.out _ _ rfl HSt.out
theorem js29 {ops:Array Oper} (hops:Eng.fnOps Tryz.f4 29=ops) (a0:Act) (Q:Exit→Act→World→Prop) (w0 w:World) (hst:Fr (fun _=>False) w0 w) (b1 o1 c1 lenN i b2 o2 c2 lenT k b3 o3 lt ct j:Nat) (y:Sn) (n:Nm) (t:Int) (hY:∀W:World,Fr (fun _=>False) w0 W→At W b1 (o1+i*9) y) (hA:∀W:World,Fr (fun _=>False) w0 W→W.cell? ⟨b2,o2+k*3,none⟩=some (.string n.1)∧W.cell? ⟨b2,o2+k*3+1,none⟩=some (.string n.2)∧W.cell? ⟨b2,o2+k*3+1+1,none⟩=some (.slice (some ⟨b3,o3,none⟩) lt ct)) (hI:∀W:World,Fr (fun _=>False) w0 W→W.cell? ⟨b3,o3+j,none⟩=some (.int .i64 t)) (h1:i<lenN) (h2:k<lenT) (h3:j<lt) (bb:Bool)
  (hn:a0.tmps.size=249) (h_3:a0.tmps.getD 3 undef=.slice (some ⟨b2,o2,none⟩) lenT c2) (h_4:a0.tmps.getD 4 undef=.slice (some ⟨b1,o1,none⟩) lenN c1) (h_9:a0.tmps.getD 9 undef=.int .i64 (k:Int)) (h_10:a0.tmps.getD 10 undef=.int .i64 (j:Int)) (h_11:a0.tmps.getD 11 undef=.bool bb) (h_12:a0.tmps.getD 12 undef=.int .i64 (i:Int))
  (hpost:∀ (x:Nat→Value) (w':World),x 11=.bool (bb||hit2 n t y)→Fr (fun _=>False) w0 w'→Q .normal (Eng.setAll a0 [11,171,172,173,174,175,176,177,178,179,180,181,182,183,184,185,186,187,188,189,190,191,192,193,194,195,196,197,198,199,200,201,202,203,204,205,206,207,208,209,210,211,212,213,214,215,216,217,218,219,220,221] x) w'):
  (Code.region 29 ops true).wp prog Q a0 w:=by
 cases bb with
 |true=>exact js29a hops a0 Q w0 w hst hn h_11 (fun x w' h hf=>hpost x w' (by rw [h];simp) hf)
 |false=>
  cases hp:(y.p==0) with
  |false=>exact js29b hops a0 Q w0 w hst b1 o1 c1 lenN i b2 o2 c2 lenT k b3 o3 lt ct j y n t hY hA hI h1 h2 h3 hp hn h_4 h_11 h_12 (fun x w' h hf=>hpost x w' (by rw [h];simp [hit2,hp]) hf)
  |true=>
   by_cases hs:n.1=y.s
   ·by_cases ho:n.2=y.o
    ·exact js29e hops a0 Q w0 w hst b1 o1 c1 lenN i b2 o2 c2 lenT k b3 o3 lt ct j y n t hY hA hI h1 h2 h3 hp hs ho hn h_3 h_4 h_9 h_10 h_11 h_12 (fun x w' h hf=>hpost x w' (by rw [h];simp [hit2,hp,hs,ho]) hf)
    ·exact js29d hops a0 Q w0 w hst b1 o1 c1 lenN i b2 o2 c2 lenT k b3 o3 lt ct j y n t hY hA hI h1 h2 h3 hp hs ho hn h_3 h_4 h_9 h_11 h_12 (fun x w' h hf=>hpost x w' (by rw [h];simp [hit2,hp,hs,ho]) hf)
   ·exact js29c hops a0 Q w0 w hst b1 o1 c1 lenN i b2 o2 c2 lenT k b3 o3 lt ct j y n t hY hA hI h1 h2 h3 hp hs hn h_3 h_4 h_9 h_11 h_12 (fun x w' h hf=>hpost x w' (by rw [h];simp [hit2,hp,hs]) hf)
theorem js20a {ops:Array Oper} (hops:Eng.fnOps Tryz.f4 20=ops) (a0:Act) (Q:Exit→Act→World→Prop) (w0 w:World) (hst:Fr (fun _=>False) w0 w) (b2 o2 c2 lenT k lt ct:Nat) (Ae:Option Addr) (n:Nm) (hA:∀W:World,Fr (fun _=>False) w0 W→W.cell? ⟨b2,o2+k*3,none⟩=some (.string n.1)∧W.cell? ⟨b2,o2+k*3+1,none⟩=some (.string n.2)∧W.cell? ⟨b2,o2+k*3+1+1,none⟩=some (.slice Ae lt ct)) (h2:k<lenT) (h3:0<lt) (h0:k=0)
  (hn:a0.tmps.size=249) (h_3:a0.tmps.getD 3 undef=.slice (some ⟨b2,o2,none⟩) lenT c2) (h_9:a0.tmps.getD 9 undef=.int .i64 (k:Int))
  (hpost:∀ (x:Nat→Value) (w':World),x 154=.bool false→Fr (fun _=>False) w0 w'→Q .normal (Eng.setAll a0 [102,103,104,105,106,107,108,109,110,111,112,113,114,115,116,117,118,119,120,121,122,123,124,125,126,127,128,129,130,131,132,133,134,135,136,137,138,139,140,141,142,143,144,145,146,147,148,149,150,151,152,153,154] x) w'):
  (Code.region 20 ops true).wp prog Q a0 w:=by
 simp only [Eng.fnOps,Eng.regOps,Tryz.f4,Option.bind_some,Option.getD_some,Nat.reduceEqDiff,↓reduceIte] at hops
 subst hops
 have q1:(0:Int)≤(k:Int):=by omega
 have q2:(k:Int)<(lenT:Int):=by omega
 have z0:(((lt:Nat):Int)==0)=false:=by simp;omega
 have e0:decide ((k:Int)>0)=false:=by simp;omega
 have e0':decide ((0:Int)<(k:Int))=false:=by simp;omega
 have e0'':decide (0<k)=false:=by simp;omega
 clear h0
 have HSt:=Lib.hid (hst.trans (Fr.drew _ _) (fun _ _ h=>h) (fun _ _ h=>h))
 refine Eng.regionN [(0,true),(1,true),(2,true),(3,true),(4,true),(5,true),(6,true),(7,true),(8,true),(9,true),(10,true),(11,true),(12,true),(13,true),(14,true),(15,true),(16,true),(17,true),(18,true),(19,true),(20,true),(21,true),(22,true),(23,true),(24,true),(25,true),(26,true),(27,true),(28,true),(29,true),(30,true),(31,true),(32,true),(33,true),(34,true),(35,true),(36,true),(37,true),(38,true),(39,true),(40,true),(41,true),(42,true),(43,true),(44,true),(45,true),(46,true),(47,true),(48,true),(49,true),(50,true),(51,true),(52,true)] (fun w'=>w'.cell? ⟨b2,o2+k*3+1+1,none⟩=some (.slice Ae lt ct)) (by kernel_rfl) 249 hn (by kernel_rfl) rfl (by kernel_rfl) ((hA _ HSt.out).2.2) (fun a b ha hb=>?_)
 subst ha
 have hb3:b 3=.slice (some ⟨b2,o2,none⟩) lenT c2:=(hb 3).symm.trans h_3
 have hb9:b 9=.int .i64 (k:Int):=(hb 9).symm.trans h_9
 clear hb h_3 h_9
 have HP:=Lib.hid hpost;have HN:=Lib.hid hn
 clear hpost hn
 iterate 11 (refine Eng.Sch.tk ?_)
 iterate 40 (refine Eng.Sch.skip rfl rfl (by decide) (by kernel_rfl) ?_)
 refine Eng.Sch.tk ?_
 refine Eng.Sch.tk ?_
 refine Eng.Sch.end_ [102,103,104,105,106,107,108,109,110,111,112,113,114,115,116,117,118,119,120,121,122,123,124,125,126,127,128,129,130,131,132,133,134,135,136,137,138,139,140,141,142,143,144,145,146,147,148,149,150,151,152,153,154] HN.out (by kernel_rfl) (by kernel_rfl) ?_
 exact HP.out _ _ rfl HSt.out
theorem js20b {ops:Array Oper} (hops:Eng.fnOps Tryz.f4 20=ops) (a0:Act) (Q:Exit→Act→World→Prop) (w0 w:World) (hst:Fr (fun _=>False) w0 w) (b2 o2 c2 lenT k m lt ct:Nat) (Ae:Option Addr) (n pn:Nm) (hA:∀W:World,Fr (fun _=>False) w0 W→W.cell? ⟨b2,o2+k*3,none⟩=some (.string n.1)∧W.cell? ⟨b2,o2+k*3+1,none⟩=some (.string n.2)∧W.cell? ⟨b2,o2+k*3+1+1,none⟩=some (.slice Ae lt ct)) (h2:k<lenT) (h3:0<lt) (hlm:lenT≤9223372036854775807) (hM:∀W:World,Fr (fun _=>False) w0 W→W.cell? ⟨b2,o2+m*3,none⟩=some (.string pn.1)∧W.cell? ⟨b2,o2+m*3+1,none⟩=some (.string pn.2)) (hm:m+1=k) (l1:Op.bytesLess pn.1.toList n.1.toList=true)
  (hn:a0.tmps.size=249) (h_3:a0.tmps.getD 3 undef=.slice (some ⟨b2,o2,none⟩) lenT c2) (h_9:a0.tmps.getD 9 undef=.int .i64 (k:Int))
  (hpost:∀ (x:Nat→Value) (w':World),x 154=.bool false→Fr (fun _=>False) w0 w'→Q .normal (Eng.setAll a0 [102,103,104,105,106,107,108,109,110,111,112,113,114,115,116,117,118,119,120,121,122,123,124,125,126,127,128,129,130,131,132,133,134,135,136,137,138,139,140,141,142,143,144,145,146,147,148,149,150,151,152,153,154] x) w'):
  (Code.region 20 ops true).wp prog Q a0 w:=by
 simp only [Eng.fnOps,Eng.regOps,Tryz.f4,Option.bind_some,Option.getD_some,Nat.reduceEqDiff,↓reduceIte] at hops
 subst hops
 have q1:(0:Int)≤(k:Int):=by omega
 have q2:(k:Int)<(lenT:Int):=by omega
 have z0:(((lt:Nat):Int)==0)=false:=by simp;omega
 have e0:decide ((k:Int)>0)=true:=by simp;omega
 have e0':decide ((0:Int)<(k:Int))=true:=by simp;omega
 have e0'':decide (0<k)=true:=by simp;omega
 have r5:(0:Int)≤(k:Int)-1:=by omega
 have r6:(k:Int)-1<((lenT:Nat):Int):=by omega
 have r7:(k:Int)-1=(m:Int):=by omega
 have r8w:IntKind.i64.wrap (m:Int)=(m:Int):=by rw [IntKind.wrap_i64];omega
 have r5m:(0:Int)≤(m:Int):=by omega
 have r6m:(m:Int)<((lenT:Nat):Int):=by omega
 have l1':Op.bytesLess n.1.toList pn.1.toList=false:=Ord.asymm (show Ord.lt pn.1 n.1=true from l1)
 have s1:(pn.1.toList==n.1.toList)=false:=by rw [bl_eq,decide_eq_false];exact fun e=>by rw [e,Bl.irr] at l1;cases l1
 have HSt:=Lib.hid (hst.trans (Fr.drew _ _) (fun _ _ h=>h) (fun _ _ h=>h))
 refine Eng.regionN [(0,true),(1,true),(2,true),(3,true),(4,true),(5,true),(6,true),(7,true),(8,true),(9,true),(10,true),(11,true),(12,true),(13,true),(14,true),(15,true),(16,true),(17,true),(18,true),(19,true),(20,true),(21,true),(22,true),(23,true),(24,true),(25,true),(26,true),(27,true),(28,true),(29,true),(30,true),(31,true),(32,true),(33,true),(34,true),(35,true),(36,true),(37,true),(38,true),(39,true),(40,true),(41,true),(42,true),(43,true),(44,true),(45,true),(46,true),(47,true),(48,true),(49,true),(50,true),(51,true),(52,true)] (fun w'=>w'.cell? ⟨b2,o2+k*3+1+1,none⟩=some (.slice Ae lt ct)∧w'.cell? ⟨b2,o2+k*3,none⟩=some (.string n.1)∧w'.cell? ⟨b2,o2+m*3,none⟩=some (.string pn.1)) (by kernel_rfl) 249 hn (by kernel_rfl) rfl (by kernel_rfl) (⟨(hA _ HSt.out).2.2,(hA _ HSt.out).1,(hM _ HSt.out).1⟩) (fun a b ha hb=>?_)
 subst ha
 have hb3:b 3=.slice (some ⟨b2,o2,none⟩) lenT c2:=(hb 3).symm.trans h_3
 have hb9:b 9=.int .i64 (k:Int):=(hb 9).symm.trans h_9
 clear hb h_3 h_9
 have HP:=Lib.hid hpost;have HN:=Lib.hid hn
 clear hpost hn
 iterate 37 (refine Eng.Sch.tk ?_)
 iterate 12 (refine Eng.Sch.skip rfl rfl (by decide) (by kernel_rfl) ?_)
 iterate 4 (refine Eng.Sch.tk ?_)
 refine Eng.Sch.end_ [102,103,104,105,106,107,108,109,110,111,112,113,114,115,116,117,118,119,120,121,122,123,124,125,126,127,128,129,130,131,132,133,134,135,136,137,138,139,140,141,142,143,144,145,146,147,148,149,150,151,152,153,154] HN.out (by kernel_rfl) (by kernel_rfl) ?_
 exact HP.out _ _ rfl HSt.out
theorem js20c {ops:Array Oper} (hops:Eng.fnOps Tryz.f4 20=ops) (a0:Act) (Q:Exit→Act→World→Prop) (w0 w:World) (hst:Fr (fun _=>False) w0 w) (b2 o2 c2 lenT k m lt ct:Nat) (Ae:Option Addr) (n pn:Nm) (hA:∀W:World,Fr (fun _=>False) w0 W→W.cell? ⟨b2,o2+k*3,none⟩=some (.string n.1)∧W.cell? ⟨b2,o2+k*3+1,none⟩=some (.string n.2)∧W.cell? ⟨b2,o2+k*3+1+1,none⟩=some (.slice Ae lt ct)) (h2:k<lenT) (h3:0<lt) (hlm:lenT≤9223372036854775807) (hM:∀W:World,Fr (fun _=>False) w0 W→W.cell? ⟨b2,o2+m*3,none⟩=some (.string pn.1)∧W.cell? ⟨b2,o2+m*3+1,none⟩=some (.string pn.2)) (hm:m+1=k) (hpe:pn.1=n.1) (l2:Op.bytesLess pn.2.toList n.2.toList=true)
  (hn:a0.tmps.size=249) (h_3:a0.tmps.getD 3 undef=.slice (some ⟨b2,o2,none⟩) lenT c2) (h_9:a0.tmps.getD 9 undef=.int .i64 (k:Int))
  (hpost:∀ (x:Nat→Value) (w':World),x 154=.bool false→Fr (fun _=>False) w0 w'→Q .normal (Eng.setAll a0 [102,103,104,105,106,107,108,109,110,111,112,113,114,115,116,117,118,119,120,121,122,123,124,125,126,127,128,129,130,131,132,133,134,135,136,137,138,139,140,141,142,143,144,145,146,147,148,149,150,151,152,153,154] x) w'):
  (Code.region 20 ops true).wp prog Q a0 w:=by
 simp only [Eng.fnOps,Eng.regOps,Tryz.f4,Option.bind_some,Option.getD_some,Nat.reduceEqDiff,↓reduceIte] at hops
 subst hops
 have q1:(0:Int)≤(k:Int):=by omega
 have q2:(k:Int)<(lenT:Int):=by omega
 have z0:(((lt:Nat):Int)==0)=false:=by simp;omega
 have e0:decide ((k:Int)>0)=true:=by simp;omega
 have e0':decide ((0:Int)<(k:Int))=true:=by simp;omega
 have e0'':decide (0<k)=true:=by simp;omega
 have r5:(0:Int)≤(k:Int)-1:=by omega
 have r6:(k:Int)-1<((lenT:Nat):Int):=by omega
 have r7:(k:Int)-1=(m:Int):=by omega
 have r8w:IntKind.i64.wrap (m:Int)=(m:Int):=by rw [IntKind.wrap_i64];omega
 have r5m:(0:Int)≤(m:Int):=by omega
 have r6m:(m:Int)<((lenT:Nat):Int):=by omega
 have l2':Op.bytesLess n.2.toList pn.2.toList=false:=Ord.asymm (show Ord.lt pn.2 n.2=true from l2)
 have l1:Op.bytesLess pn.1.toList n.1.toList=false:=by rw [hpe];exact Bl.irr _
 have l1':Op.bytesLess n.1.toList pn.1.toList=false:=by rw [hpe];exact Bl.irr _
 have s1:(pn.1.toList==n.1.toList)=true:=by rw [bl_eq];exact decide_eq_true hpe
 have s2:(pn.2.toList==n.2.toList)=false:=by rw [bl_eq,decide_eq_false];exact fun e=>by rw [e,Bl.irr] at l2;cases l2
 have HSt:=Lib.hid (hst.trans (Fr.drew _ _) (fun _ _ h=>h) (fun _ _ h=>h))
 refine Eng.regionN [(0,true),(1,true),(2,true),(3,true),(4,true),(5,true),(6,true),(7,true),(8,true),(9,true),(10,true),(11,true),(12,true),(13,true),(14,true),(15,true),(16,true),(17,true),(18,true),(19,true),(20,true),(21,true),(22,true),(23,true),(24,true),(25,true),(26,true),(27,true),(28,true),(29,true),(30,true),(31,true),(32,true),(33,true),(34,true),(35,true),(36,true),(37,true),(38,true),(39,true),(40,true),(41,true),(42,true),(43,true),(44,true),(45,true),(46,true),(47,true),(48,true),(49,true),(50,true),(51,true),(52,true)] (fun w'=>w'.cell? ⟨b2,o2+k*3,none⟩=some (.string n.1)∧w'.cell? ⟨b2,o2+k*3+1,none⟩=some (.string n.2)∧w'.cell? ⟨b2,o2+k*3+1+1,none⟩=some (.slice Ae lt ct)∧w'.cell? ⟨b2,o2+m*3,none⟩=some (.string pn.1)∧w'.cell? ⟨b2,o2+m*3+1,none⟩=some (.string pn.2)) (by kernel_rfl) 249 hn (by kernel_rfl) rfl (by kernel_rfl) (⟨(hA _ HSt.out).1,(hA _ HSt.out).2.1,(hA _ HSt.out).2.2,(hM _ HSt.out).1,(hM _ HSt.out).2⟩) (fun a b ha hb=>?_)
 subst ha
 have hb3:b 3=.slice (some ⟨b2,o2,none⟩) lenT c2:=(hb 3).symm.trans h_3
 have hb9:b 9=.int .i64 (k:Int):=(hb 9).symm.trans h_9
 clear hb h_3 h_9
 have HP:=Lib.hid hpost;have HN:=Lib.hid hn
 clear hpost hn
 iterate 53 (refine Eng.Sch.tk ?_)
 refine Eng.Sch.end_ [102,103,104,105,106,107,108,109,110,111,112,113,114,115,116,117,118,119,120,121,122,123,124,125,126,127,128,129,130,131,132,133,134,135,136,137,138,139,140,141,142,143,144,145,146,147,148,149,150,151,152,153,154] HN.out (by kernel_rfl) (by kernel_rfl) ?_
 exact HP.out _ _ rfl HSt.out
theorem js20 {ops:Array Oper} (hops:Eng.fnOps Tryz.f4 20=ops) (a0:Act) (Q:Exit→Act→World→Prop) (w0 w:World) (hst:Fr (fun _=>False) w0 w) (b2 o2 c2 lenT k lt ct:Nat) (Ae:Option Addr) (n:Nm) (hA:∀W:World,Fr (fun _=>False) w0 W→W.cell? ⟨b2,o2+k*3,none⟩=some (.string n.1)∧W.cell? ⟨b2,o2+k*3+1,none⟩=some (.string n.2)∧W.cell? ⟨b2,o2+k*3+1+1,none⟩=some (.slice Ae lt ct)) (h2:k<lenT) (h3:0<lt) (hlm:lenT≤9223372036854775807) (hM:∀m,m+1=k→∃pn:Nm,(∀W:World,Fr (fun _=>False) w0 W→W.cell? ⟨b2,o2+m*3,none⟩=some (.string pn.1)∧W.cell? ⟨b2,o2+m*3+1,none⟩=some (.string pn.2))∧ltN pn n=true)
  (hn:a0.tmps.size=249) (h_3:a0.tmps.getD 3 undef=.slice (some ⟨b2,o2,none⟩) lenT c2) (h_9:a0.tmps.getD 9 undef=.int .i64 (k:Int))
  (hpost:∀ (x:Nat→Value) (w':World),x 154=.bool false→Fr (fun _=>False) w0 w'→Q .normal (Eng.setAll a0 [102,103,104,105,106,107,108,109,110,111,112,113,114,115,116,117,118,119,120,121,122,123,124,125,126,127,128,129,130,131,132,133,134,135,136,137,138,139,140,141,142,143,144,145,146,147,148,149,150,151,152,153,154] x) w'):
  (Code.region 20 ops true).wp prog Q a0 w:=by
 rcases Nat.eq_zero_or_pos k with h0|h0
 ·exact js20a hops a0 Q w0 w hst b2 o2 c2 lenT k lt ct Ae n hA h2 h3 h0 hn h_3 h_9 hpost
 ·obtain ⟨pn,hm,hord⟩:=hM (k-1) (by omega)
  cases l1:Op.bytesLess pn.1.toList n.1.toList with
  |true=>exact js20b hops a0 Q w0 w hst b2 o2 c2 lenT k (k-1) lt ct Ae n pn hA h2 h3 hlm hm (by omega) l1 hn h_3 h_9 hpost
  |false=>
   unfold ltN at hord
   have h1:Ord.lt pn.1 n.1=false:=l1
   rw [h1] at hord
   simp only [Bool.false_or,Bool.and_eq_true,decide_eq_true_eq] at hord
   exact js20c hops a0 Q w0 w hst b2 o2 c2 lenT k (k-1) lt ct Ae n pn hA h2 h3 hlm hm (by omega) hord.1 hord.2 hn h_3 h_9 hpost
theorem js30a {ops:Array Oper} (hops:Eng.fnOps Tryz.f4 30=ops) (a0:Act) (Q:Exit→Act→World→Prop) (w0 w:World) (hst:Fr (fun _=>False) w0 w) (j:Nat) (h0:j=0)
  (hn:a0.tmps.size=249) (h_10:a0.tmps.getD 10 undef=.int .i64 (j:Int)) (h_11:a0.tmps.getD 11 undef=.bool true)
  (hpost:∀ (x:Nat→Value) (w':World),x 247=.bool false→Fr (fun _=>False) w0 w'→Q .normal (Eng.setAll a0 [222,223,224,225,226,227,228,229,230,231,232,233,234,235,236,237,238,239,240,241,242,243,244,245,246,247] x) w'):
  (Code.region 30 ops true).wp prog Q a0 w:=by
 simp only [Eng.fnOps,Eng.regOps,Tryz.f4,Option.bind_some,Option.getD_some,Nat.reduceEqDiff,↓reduceIte] at hops
 subst hops
 have e0:decide ((j:Int)>0)=false:=by simp;omega
 have e0':decide ((0:Int)<(j:Int))=false:=by simp;omega
 have e0'':decide (0<j)=false:=by simp;omega
 have HSt:=Lib.hid (hst.trans (Fr.drew _ _) (fun _ _ h=>h) (fun _ _ h=>h))
 refine Eng.regionN [(0,true),(1,true),(2,true),(3,true),(4,true),(5,true),(6,true),(7,true),(8,true),(9,true),(10,true),(11,true),(12,true),(13,true),(14,true),(15,true),(16,true),(17,true),(18,true),(19,true),(20,true),(21,true),(22,true),(23,true),(24,true),(25,true)] (fun w'=>True) (by kernel_rfl) 249 hn (by kernel_rfl) rfl (by kernel_rfl) (trivial) (fun a b ha hb=>?_)
 subst ha
 have hb10:b 10=.int .i64 (j:Int):=(hb 10).symm.trans h_10
 have hb11:b 11=.bool true:=(hb 11).symm.trans h_11
 clear hb h_10 h_11
 have HP:=Lib.hid hpost;have HN:=Lib.hid hn
 clear hpost hn
 iterate 6 (refine Eng.Sch.tk ?_)
 iterate 18 (refine Eng.Sch.skip rfl rfl (by decide) (by kernel_rfl) ?_)
 refine Eng.Sch.tk ?_
 refine Eng.Sch.tk ?_
 refine Eng.Sch.end_ [222,223,224,225,226,227,228,229,230,231,232,233,234,235,236,237,238,239,240,241,242,243,244,245,246,247] HN.out (by kernel_rfl) (by kernel_rfl) ?_
 exact HP.out _ _ rfl HSt.out
theorem js30b {ops:Array Oper} (hops:Eng.fnOps Tryz.f4 30=ops) (a0:Act) (Q:Exit→Act→World→Prop) (w0 w:World) (hst:Fr (fun _=>False) w0 w) (b2 o2 c2 lenT k b3 o3 lt ct j m:Nat) (n:Nm) (t t':Int) (hA:∀W:World,Fr (fun _=>False) w0 W→W.cell? ⟨b2,o2+k*3,none⟩=some (.string n.1)∧W.cell? ⟨b2,o2+k*3+1,none⟩=some (.string n.2)∧W.cell? ⟨b2,o2+k*3+1+1,none⟩=some (.slice (some ⟨b3,o3,none⟩) lt ct)) (hI:∀W:World,Fr (fun _=>False) w0 W→W.cell? ⟨b3,o3+j,none⟩=some (.int .i64 t)) (hM:∀W:World,Fr (fun _=>False) w0 W→W.cell? ⟨b3,o3+m,none⟩=some (.int .i64 t')) (hm:m+1=j) (htt:t'<t) (h2:k<lenT) (h3:j<lt) (hlm:lt≤9223372036854775807)
  (hn:a0.tmps.size=249) (h_3:a0.tmps.getD 3 undef=.slice (some ⟨b2,o2,none⟩) lenT c2) (h_9:a0.tmps.getD 9 undef=.int .i64 (k:Int)) (h_10:a0.tmps.getD 10 undef=.int .i64 (j:Int)) (h_11:a0.tmps.getD 11 undef=.bool true)
  (hpost:∀ (x:Nat→Value) (w':World),x 247=.bool false→Fr (fun _=>False) w0 w'→Q .normal (Eng.setAll a0 [222,223,224,225,226,227,228,229,230,231,232,233,234,235,236,237,238,239,240,241,242,243,244,245,246,247] x) w'):
  (Code.region 30 ops true).wp prog Q a0 w:=by
 simp only [Eng.fnOps,Eng.regOps,Tryz.f4,Option.bind_some,Option.getD_some,Nat.reduceEqDiff,↓reduceIte] at hops
 subst hops
 have q1:(0:Int)≤(k:Int):=by omega
 have q2:(k:Int)<(lenT:Int):=by omega
 have q3:(0:Int)≤(j:Int):=by omega
 have q4:(j:Int)<(lt:Int):=by omega
 have r8:decide (t≤t')=false:=by simp;omega
 have e0:decide ((j:Int)>0)=true:=by simp;omega
 have e0':decide ((0:Int)<(j:Int))=true:=by simp;omega
 have e0'':decide (0<j)=true:=by simp;omega
 have r5:(0:Int)≤(j:Int)-1:=by omega
 have r6:(j:Int)-1<((lt:Nat):Int):=by omega
 have r7:(j:Int)-1=(m:Int):=by omega
 have r8w:IntKind.i64.wrap (m:Int)=(m:Int):=by rw [IntKind.wrap_i64];omega
 have r5m:(0:Int)≤(m:Int):=by omega
 have r6m:(m:Int)<((lt:Nat):Int):=by omega
 have HSt:=Lib.hid (hst.trans (Fr.drew _ _) (fun _ _ h=>h) (fun _ _ h=>h))
 refine Eng.regionN [(0,true),(1,true),(2,true),(3,true),(4,true),(5,true),(6,true),(7,true),(8,true),(9,true),(10,true),(11,true),(12,true),(13,true),(14,true),(15,true),(16,true),(17,true),(18,true),(19,true),(20,true),(21,true),(22,true),(23,true),(24,true),(25,true)] (fun w'=>w'.cell? ⟨b2,o2+k*3+1+1,none⟩=some (.slice (some ⟨b3,o3,none⟩) lt ct)∧w'.cell? ⟨b3,o3+j,none⟩=some (.int .i64 t)∧w'.cell? ⟨b3,o3+m,none⟩=some (.int .i64 t')) (by kernel_rfl) 249 hn (by kernel_rfl) rfl (by kernel_rfl) (⟨(hA _ HSt.out).2.2,hI _ HSt.out,hM _ HSt.out⟩) (fun a b ha hb=>?_)
 subst ha
 have hb3:b 3=.slice (some ⟨b2,o2,none⟩) lenT c2:=(hb 3).symm.trans h_3
 have hb9:b 9=.int .i64 (k:Int):=(hb 9).symm.trans h_9
 have hb10:b 10=.int .i64 (j:Int):=(hb 10).symm.trans h_10
 have hb11:b 11=.bool true:=(hb 11).symm.trans h_11
 clear hb h_3 h_9 h_10 h_11
 have HP:=Lib.hid hpost;have HN:=Lib.hid hn
 clear hpost hn
 iterate 26 (refine Eng.Sch.tk ?_)
 refine Eng.Sch.end_ [222,223,224,225,226,227,228,229,230,231,232,233,234,235,236,237,238,239,240,241,242,243,244,245,246,247] HN.out (by kernel_rfl) (by kernel_rfl) ?_
 exact HP.out _ _ rfl HSt.out
theorem js30 {ops:Array Oper} (hops:Eng.fnOps Tryz.f4 30=ops) (a0:Act) (Q:Exit→Act→World→Prop) (w0 w:World) (hst:Fr (fun _=>False) w0 w) (b2 o2 c2 lenT k b3 o3 lt ct j:Nat) (n:Nm) (t:Int) (hA:∀W:World,Fr (fun _=>False) w0 W→W.cell? ⟨b2,o2+k*3,none⟩=some (.string n.1)∧W.cell? ⟨b2,o2+k*3+1,none⟩=some (.string n.2)∧W.cell? ⟨b2,o2+k*3+1+1,none⟩=some (.slice (some ⟨b3,o3,none⟩) lt ct)) (hI:∀W:World,Fr (fun _=>False) w0 W→W.cell? ⟨b3,o3+j,none⟩=some (.int .i64 t)) (hM:∀m,m+1=j→∃t',t'<t∧∀W:World,Fr (fun _=>False) w0 W→W.cell? ⟨b3,o3+m,none⟩=some (.int .i64 t')) (h2:k<lenT) (h3:j<lt) (hlm:lt≤9223372036854775807)
  (hn:a0.tmps.size=249) (h_3:a0.tmps.getD 3 undef=.slice (some ⟨b2,o2,none⟩) lenT c2) (h_9:a0.tmps.getD 9 undef=.int .i64 (k:Int)) (h_10:a0.tmps.getD 10 undef=.int .i64 (j:Int)) (h_11:a0.tmps.getD 11 undef=.bool true)
  (hpost:∀ (x:Nat→Value) (w':World),x 247=.bool false→Fr (fun _=>False) w0 w'→Q .normal (Eng.setAll a0 [222,223,224,225,226,227,228,229,230,231,232,233,234,235,236,237,238,239,240,241,242,243,244,245,246,247] x) w'):
  (Code.region 30 ops true).wp prog Q a0 w:=by
 rcases Nat.eq_zero_or_pos j with h0|h0
 ·exact js30a hops a0 Q w0 w hst j h0 hn h_10 h_11 hpost
 ·obtain ⟨t',htt,hm⟩:=hM (j-1) (by omega)
  exact js30b hops a0 Q w0 w hst b2 o2 c2 lenT k b3 o3 lt ct j (j-1) n t t' hA hI hm (by omega) htt h2 h3 hlm hn h_3 h_9 h_10 h_11 hpost
theorem just (A:Option Addr) (c:Nat) (L:List Sn) (w:World) (hS:Ls w A c L):
  Calls prog 4 #[.slice A L.length c] w fun e w'=>e=.returned (.bool true)∧Below w.heap.size w w':=by
 have HFew:=Lib.hid (SetF.Few A c 20 L w hS.s)
 have HS:=Lib.hid hS
 clear hS
 go_enter func4,ntmps4
 go_wp2_with fail
 refine HFew.out.mono ?_
 rintro e w1 ⟨rfl,hf⟩
 have HS1:=Lib.hid (HS.out.keep hf);have HB1:=Lib.hid (hf.below (Nat.le_refl _) (fun _ _ h=>h))
 clear hf HS HFew
 cases hfew:fewB L 20 with
 |false=>
  go_wp2_with fail
  refine (awake w1).mono ?_
  rintro e w2 ⟨rfl,hb⟩
  have HB2:=Lib.hid (HB1.out.trans (hb.mono HB1.out.size))
  clear hb
  go_wp2_with fail
  go_ret
  exact ⟨rfl,HB2.out⟩
 |true=>
  have hLl:=few_len' hfew
  have HOf:=Lib.hid (Ent.Of A c L w1 HS1.out (by omega))
  have hpl:(spn L).length≤20:=Nat.le_trans (Nat.le_trans (alive_len _) (setOf_len L)) hLl
  clear hfew
  go_wp2_with fail
  refine HOf.out.mono ?_
  rintro e w2 ⟨T,A2,c2,rfl,hT,hO,hb⟩
  have HS2:=Lib.hid (HS1.out.keep (Fr.of_below' hb (fun _=>False)));have HB2:=Lib.hid (HB1.out.trans (hb.mono HB1.out.size))
  have HO2:=Lib.hid hO
  have HJ:=Lib.hid (js hT)
  clear hT hO hb HOf HS1 HB1
  have HSp0:=Lib.hid (RefSpans A c L w2 HS2.out (by omega))
  obtain ⟨N,hN⟩:∃N,spn L=N:=⟨_,rfl⟩
  rw [hN] at HSp0 hpl HJ
  clear hN
  go_wp2_with fail
  refine HSp0.out.mono ?_
  rintro e w3 ⟨An,cn,rfl,hls,-,hb⟩
  have HB3:=Lib.hid (HB2.out.trans (hb.mono HB2.out.size))
  have HO:=Lib.hid (HO2.out.below hb)
  have HSp:=Lib.hid hls
  have hTc:=HO.out.s.2.1
  clear hls hb HSp0 HS2 HB2 HO2
  go_wp2_with fail
  go_loopg [5] N.length (fun gk i wr=>∃k:Nat,i=.int .i64 k∧k≤N.length∧gk=N.length-k∧Fr (fun _=>False) w3 wr)
  case atStart=>exact ⟨0,rfl,Nat.zero_le _,rfl,Fr.refl _ _⟩
  case round=>
   have hTm:T.length≤9223372036854775807:=by have:=HO.out.s.2.1;have:=HO.out.s.2.2.1;unfold maxLen at this;omega
   obtain ⟨i,rfl,hia,hg,hf⟩:=hrel
   have HGa:=Lib.hid hg;have HFa:=Lib.hid hf
   clear hg hf
   obtain ⟨wa,hwa⟩:∃W,W=wr:=⟨_,rfl⟩
   subst hwa
   by_cases hlt:i<N.length
   ·obtain ⟨b1,o1,rfl,hb1,hc1⟩:=HSp.out.s.at hlt (by omega)
    have HRow:=Lib.hid (At.row hc1 hlt)
    have HJ1:=Lib.hid (HJ.out.one N[i] (List.getElem_mem hlt))
    clear hc1 hb1
    generalize N[i]=y at *
    have qa1:(0:Int)≤(i:Int):=by omega
    have qa2:decide ((i:Int)<((N.length:Nat):Int))=true:=by simp;omega
    have qa3:(i:Int)<((N.length:Nat):Int):=by omega
    go_wp2_with fail
    go_loopg [6,7] T.length (fun gk s i2 wr=>∃k:Nat,i2=.int .i64 k∧k≤T.length∧gk=T.length-k∧s=.bool ((T.take k).any (fun e=>hitB y e.n e.l))∧Fr (fun _=>False) w3 wr)
    case atStart=>exact ⟨0,rfl,Nat.zero_le _,rfl,rfl,HFa.out⟩
    case round=>
     obtain ⟨k,rfl,hib,hg,rfl,hf⟩:=hrel
     have HGb:=Lib.hid hg;have HFb:=Lib.hid hf
     clear hg hf
     obtain ⟨wb,hwb⟩:∃W,W=wr:=⟨_,rfl⟩
     subst hwb
     by_cases hlt2:k<T.length
     ·obtain ⟨b2,o2,rfl,-,hc2⟩:=HO.out.s.at hlt2 (by omega)
      have HRow2:Hid (∀W:World,Fr (fun _=>False) w3 W→W.cell? ⟨b2,o2+k*3,none⟩=some (.string T[k].n.1)∧W.cell? ⟨b2,o2+k*3+1,none⟩=some (.string T[k].n.2)∧W.cell? ⟨b2,o2+k*3+1+1,none⟩=some (.slice T[k].A T[k].l.length T[k].c)):=fun W hW=>by
       have h0:=hc2 (k*3) _ (by have:=flat_at En.cs_len hlt2 (j:=0) (by omega);rw [Nat.add_zero] at this;rw [this];rfl)
       have h1:=hc2 (k*3+1) _ (by rw [flat_at En.cs_len hlt2 (by omega)];rfl)
       have h2:=hc2 (k*3+2) _ (by rw [flat_at En.cs_len hlt2 (by omega)];rfl)
       exact ⟨Rf28.cellK h0 hW,Rf28.cellK h1 hW,Rf28.cellK h2 hW⟩
      have HBk:=Lib.hid (HO.out.b _ (List.getElem_mem hlt2))
      have HNx:=Lib.hid (any_take (fun e:En=>hitB y e.n e.l) hlt2)
      clear hc2
      (try dsimp only at HNx)
      generalize (T.take k).any (fun e=>hitB y e.n e.l)=isk at *
      generalize T[k]=e at *
      obtain ⟨⟨n1,n2⟩,el,Ae,ce⟩:=e
      dsimp only at *
      have hEm:el.length≤9223372036854775807:=by have:=HBk.out.2.1;have:=HBk.out.2.2.1;unfold maxLen at this;omega
      have qb1:(0:Int)≤(k:Int):=by omega
      have qb2:decide ((k:Int)<((T.length:Nat):Int))=true:=by simp;omega
      have qb3:(k:Int)<((T.length:Nat):Int):=by omega
      go_wp2_with fail
      go_loopg [6,8] el.length (fun gk s i2 wr=>∃j:Nat,i2=.int .i64 j∧j≤el.length∧gk=el.length-j∧s=.bool (isk||hitB y (n1,n2) (el.take j))∧Fr (fun _=>False) w3 wr)
      case atStart=>exact ⟨0,rfl,Nat.zero_le _,rfl,by simp [hitB],HFb.out⟩
      case round=>
       obtain ⟨j,rfl,hic,hg,rfl,hf⟩:=hrel
       have HGc:=Lib.hid hg;have HFc:=Lib.hid hf
       clear hg hf
       obtain ⟨wc,hwc⟩:∃W,W=wr:=⟨_,rfl⟩
       subst hwc
       have tc2:wc.cell? ⟨b2,o2+k*3+1+1,none⟩=some (.slice Ae el.length ce):=(HRow2.out wc HFc.out).2.2
       by_cases hlt3:j<el.length
       ·obtain ⟨b3,o3,rfl,-,hc3⟩:=HBk.out.at hlt3 (by omega)
        have HT3:Hid (∀ (W:World),Fr (fun _=>False) w3 W→W.cell? ⟨b3,o3+j,none⟩=some (.int .i64 el[j])):=fun W hW=>Rf28.cellK (hc3 j _ (Rf28.ints_at hlt3)) hW
        have HNj:=Lib.hid (hit_take y (n1,n2) hlt3)
        clear hc3
        (try dsimp only at HNj)
        generalize el[j]=t at *
        generalize hbb:(isk||hitB y (n1,n2) (el.take j))=bb at *
        have HBb:=Lib.hid hbb
        clear hbb
        have qc1:(0:Int)≤(j:Int):=by omega
        have qc2:decide ((j:Int)<((el.length:Nat):Int))=true:=by simp;omega
        have qc3:(j:Int)<((el.length:Nat):Int):=by omega
        go_upto_region 14 with (fail)
        refine js14 (by kernel_rfl) _ _ w3 wc HFc.out b1 o1 cn N.length i b2 o2 c2 T.length k b3 o3 el.length ce j y (n1,n2) t (fun W hW=>HRow.out.keep hW) (fun W hW=>HRow2.out W hW) (fun W hW=>HT3.out W hW) hlt hlt2 hlt3 bb rfl rfl rfl rfl rfl rfl rfl ?_
        intro x w9 hx hf
        simp only [Eng.setAll,Act.put,List.setIfInBounds_toArray,List.set_cons_succ,List.set_cons_zero]
        rw [hx]
        have HF9:=Lib.hid hf
        clear hx hf
        go_wp2_with fail
        go_roundg (el.length-(j+1))
        case rel=>exact ⟨j+1,by go_num,by omega,rfl,by show _=Value.bool _;rw [HNj.out,←Bool.or_assoc,HBb.out],HF9.out⟩
        case measure=>have:=HGc.out;omega
       ·obtain rfl:j=el.length:=by omega
        have qc2:decide (((el.length:Nat):Int)<((el.length:Nat):Int))=false:=by simp
        rw [List.take_length]
        go_wp2_with fail
        go_roundg (T.length-(k+1))
        case rel=>exact ⟨k+1,by go_num,by omega,rfl,by rw [HNx.out],HFc.out⟩
        case measure=>have:=HGb.out;omega
     ·obtain rfl:k=T.length:=by omega
      have qb2:decide (((T.length:Nat):Int)<((T.length:Nat):Int))=false:=by simp
      rw [List.take_length]
      have yc2:wb.cell? ⟨b1,o1+i*9+1+1,none⟩=some (.int .i64 y.p):=(HRow.out.keep HFb.out) 2 _ rfl
      cases hp:(y.p==0) with
      |true=>
       have hany:T.any (fun e=>hitB y e.n e.l)=true:=HJ1.out (by simpa using hp)
       rw [hany]
       go_wp2_with fail
       go_roundg (N.length-(i+1))
       case rel=>exact ⟨i+1,by go_num,by omega,rfl,HFb.out⟩
       case measure=>have:=HGa.out;omega
      |false=>
       go_wp2_with fail
       go_roundg (N.length-(i+1))
       case rel=>exact ⟨i+1,by go_num,by omega,rfl,HFb.out⟩
       case measure=>have:=HGa.out;omega
   ·obtain rfl:i=N.length:=by omega
    have qa2:decide (((N.length:Nat):Int)<((N.length:Nat):Int))=false:=by simp
    go_wp2_with fail
    go_loopg [9] T.length (fun gk i wr=>∃k:Nat,i=.int .i64 k∧k≤T.length∧gk=T.length-k∧Fr (fun _=>False) w3 wr)
    case atStart=>exact ⟨0,rfl,Nat.zero_le _,rfl,HFa.out⟩
    case round=>
     obtain ⟨k,rfl,hid,hg,hf⟩:=hrel
     have HGd:=Lib.hid hg;have HFd:=Lib.hid hf
     clear hg hf
     obtain ⟨wd,hwd⟩:∃W,W=wr:=⟨_,rfl⟩
     subst hwd
     by_cases hlt2:k<T.length
     ·obtain ⟨b2,o2,rfl,-,hc2⟩:=HO.out.s.at hlt2 (by omega)
      have HRow2:Hid (∀W:World,Fr (fun _=>False) w3 W→W.cell? ⟨b2,o2+k*3,none⟩=some (.string T[k].n.1)∧W.cell? ⟨b2,o2+k*3+1,none⟩=some (.string T[k].n.2)∧W.cell? ⟨b2,o2+k*3+1+1,none⟩=some (.slice T[k].A T[k].l.length T[k].c)):=fun W hW=>by
       have h0:=hc2 (k*3) _ (by have:=flat_at En.cs_len hlt2 (j:=0) (by omega);rw [Nat.add_zero] at this;rw [this];rfl)
       have h1:=hc2 (k*3+1) _ (by rw [flat_at En.cs_len hlt2 (by omega)];rfl)
       have h2:=hc2 (k*3+2) _ (by rw [flat_at En.cs_len hlt2 (by omega)];rfl)
       exact ⟨Rf28.cellK h0 hW,Rf28.cellK h1 hW,Rf28.cellK h2 hW⟩
      have HBk:=Lib.hid (HO.out.b _ (List.getElem_mem hlt2))
      have HCm:Hid (∀m,m+1=k→∃pn:Nm,(∀W:World,Fr (fun _=>False) w3 W→W.cell? ⟨b2,o2+m*3,none⟩=some (.string pn.1)∧W.cell? ⟨b2,o2+m*3+1,none⟩=some (.string pn.2))∧ltN pn T[k].n=true):=fun m hm'=>by
       have hm:m<T.length:=by omega
       have h0:=hc2 (m*3) _ (by have:=flat_at En.cs_len hm (j:=0) (by omega);rw [Nat.add_zero] at this;rw [this];rfl)
       have h1:=hc2 (m*3+1) _ (by rw [flat_at En.cs_len hm (by omega)];rfl)
       refine ⟨T[m].n,fun W hW=>⟨Rf28.cellK h0 hW,Rf28.cellK h1 hW⟩,?_⟩
       subst hm'
       exact HJ.out.srt m hlt2
      clear hc2
      have hne:=HJ.out.ne _ (List.getElem_mem hlt2)
      have HTw:=Lib.hid (HJ.out.two _ (List.getElem_mem hlt2));have HUp:=Lib.hid (HJ.out.up _ (List.getElem_mem hlt2))
      generalize T[k]=e at *
      obtain ⟨⟨n1,n2⟩,el,Ae,ce⟩:=e
      dsimp only at *
      have hpos:0<el.length:=List.length_pos_iff.2 hne
      clear hne
      have hEm:el.length≤9223372036854775807:=by have:=HBk.out.2.1;have:=HBk.out.2.2.1;unfold maxLen at this;omega
      have qb1:(0:Int)≤(k:Int):=by omega
      have qb2:decide ((k:Int)<((T.length:Nat):Int))=true:=by simp;omega
      have qb3:(k:Int)<((T.length:Nat):Int):=by omega
      go_upto_region 20 with (fail)
      refine js20 (by kernel_rfl) _ _ w3 wd HFd.out b2 o2 c2 T.length k el.length ce Ae (n1,n2) HRow2.out hlt2 hpos hTm HCm.out rfl rfl rfl ?_
      intro x we hx hf
      simp only [Eng.setAll,Act.put,List.setIfInBounds_toArray,List.set_cons_succ,List.set_cons_zero]
      rw [hx]
      have HFe:=Lib.hid hf
      clear hx hf HCm
      go_wp2_with fail
      go_loopg [10] el.length (fun gk i2 wr=>∃j:Nat,i2=.int .i64 j∧j≤el.length∧gk=el.length-j∧Fr (fun _=>False) w3 wr)
      case atStart=>exact ⟨0,rfl,Nat.zero_le _,rfl,HFe.out⟩
      case round=>
       obtain ⟨j,rfl,hif,hg,hf⟩:=hrel
       have HGf:=Lib.hid hg;have HFf:=Lib.hid hf
       clear hg hf
       obtain ⟨wf,hwf⟩:∃W,W=wr:=⟨_,rfl⟩
       subst hwf
       have tc2:wf.cell? ⟨b2,o2+k*3+1+1,none⟩=some (.slice Ae el.length ce):=(HRow2.out wf HFf.out).2.2
       by_cases hlt3:j<el.length
       ·obtain ⟨b3,o3,rfl,-,hc3⟩:=HBk.out.at hlt3 (by omega)
        have HT3:Hid (∀ (W:World),Fr (fun _=>False) w3 W→W.cell? ⟨b3,o3+j,none⟩=some (.int .i64 el[j])):=fun W hW=>Rf28.cellK (hc3 j _ (Rf28.ints_at hlt3)) hW
        have HT4:Hid (∀m,m+1=j→∃t',t'<el[j]∧∀ (W:World),Fr (fun _=>False) w3 W→W.cell? ⟨b3,o3+m,none⟩=some (.int .i64 t')):=fun m hm=>by
         have hm':m<el.length:=by omega
         refine ⟨el[m],?_,fun W hW=>Rf28.cellK (hc3 m _ (Rf28.ints_at hm')) hW⟩
         subst hm;exact HUp.out m hlt3
        have HTt:=Lib.hid (HTw.out _ (List.getElem_mem hlt3))
        clear hc3
        generalize el[j]=t at *
        have qc1:(0:Int)≤(j:Int):=by omega
        have qc2:decide ((j:Int)<((el.length:Nat):Int))=true:=by simp;omega
        have qc3:(j:Int)<((el.length:Nat):Int):=by omega
        go_wp2_with fail
        clear tc2
        go_loopg [11,12] N.length (fun gk s i2 wr=>∃i:Nat,i2=.int .i64 i∧i≤N.length∧gk=N.length-i∧s=.bool ((N.take i).any (hit2 (n1,n2) t))∧Fr (fun _=>False) w3 wr)
        case atStart=>exact ⟨0,rfl,Nat.zero_le _,rfl,rfl,HFf.out⟩
        case round=>
         obtain ⟨i,rfl,hig,hg,rfl,hf⟩:=hrel
         have HGg:=Lib.hid hg;have HFg:=Lib.hid hf
         clear hg hf
         obtain ⟨wg,hwg⟩:∃W,W=wr:=⟨_,rfl⟩
         subst hwg
         by_cases hlt4:i<N.length
         ·obtain ⟨b1,o1,rfl,-,hc1⟩:=HSp.out.s.at hlt4 (by omega)
          have HRow:=Lib.hid (At.row hc1 hlt4)
          have HNj:=Lib.hid (any_take (hit2 (n1,n2) t) hlt4)
          clear hc1
          (try dsimp only at HNj)
          generalize N[i]=y at *
          generalize (N.take i).any (hit2 (n1,n2) t)=bb at *
          have qg1:(0:Int)≤(i:Int):=by omega
          have qg2:decide ((i:Int)<((N.length:Nat):Int))=true:=by simp;omega
          have qg3:(i:Int)<((N.length:Nat):Int):=by omega
          go_upto_region 29 with (fail)
          refine js29 (by kernel_rfl) _ _ w3 wg HFg.out b1 o1 cn N.length i b2 o2 c2 T.length k b3 o3 el.length ce j y (n1,n2) t (fun W hW=>HRow.out.keep hW) (fun W hW=>HRow2.out W hW) (fun W hW=>HT3.out W hW) hlt4 hlt2 hlt3 bb rfl rfl rfl rfl rfl rfl rfl ?_
          intro x w9 hx hf
          simp only [Eng.setAll,Act.put,List.setIfInBounds_toArray,List.set_cons_succ,List.set_cons_zero]
          rw [hx]
          have HF9:=Lib.hid hf
          clear hx hf
          go_wp2_with fail
          go_roundg (N.length-(i+1))
          case rel=>exact ⟨i+1,by go_num,by omega,rfl,by show _=Value.bool _;rw [HNj.out],HF9.out⟩
          case measure=>have:=HGg.out;omega
         ·obtain rfl:i=N.length:=by omega
          have qg2:decide (((N.length:Nat):Int)<((N.length:Nat):Int))=false:=by simp
          rw [List.take_length,HTt.out]
          go_upto_region 30 with (fail)
          refine js30 (by kernel_rfl) _ _ w3 wg HFg.out b2 o2 c2 T.length k b3 o3 el.length ce j (n1,n2) t (fun W hW=>HRow2.out W hW) (fun W hW=>HT3.out W hW) HT4.out hlt2 hlt3 hEm rfl rfl rfl rfl rfl ?_
          intro x w9 hx hf
          simp only [Eng.setAll,Act.put,List.setIfInBounds_toArray,List.set_cons_succ,List.set_cons_zero]
          rw [hx]
          have HF9:=Lib.hid hf
          clear hx hf
          go_wp2_with fail
          go_roundg (el.length-(j+1))
          case rel=>exact ⟨j+1,by go_num,by omega,rfl,HF9.out⟩
          case measure=>have:=HGf.out;omega
       ·obtain rfl:j=el.length:=by omega
        have qc2:decide (((el.length:Nat):Int)<((el.length:Nat):Int))=false:=by simp
        go_wp2_with fail
        go_roundg (T.length-(k+1))
        case rel=>exact ⟨k+1,by go_num,by omega,rfl,HFf.out⟩
        case measure=>have:=HGd.out;omega
     ·obtain rfl:k=T.length:=by omega
      have qb2:decide (((T.length:Nat):Int)<((T.length:Nat):Int))=false:=by simp
      go_wp2_with fail
      refine (awake wd).mono ?_
      rintro e w9 ⟨rfl,hb⟩
      have HB9:=Lib.hid (HB3.out.trans ((HFd.out.below HB3.out.size (fun _ _ h=>h)).trans (hb.mono (Nat.le_trans HB3.out.size HFd.out.size))))
      clear hb
      go_wp2_with fail
      go_ret
      exact ⟨rfl,HB9.out⟩
end Law28
end Go.Proofs.YtdpngmgaomghoaaGreatDoor
