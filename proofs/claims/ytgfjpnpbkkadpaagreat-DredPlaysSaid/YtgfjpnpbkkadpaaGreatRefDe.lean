/- Deltas: the document's: is it a set, may it be; one more record in a list. -/
import Derived.Test.YtgfjpnpbkkadpaaGreatDelta
namespace Go.Proofs.YtgfjpnpbkkadpaaGreat
open Tryz
set_option maxRecDepth 100000
set_option maxHeartbeats 2000000
open Go.RowKit
namespace RefD
open KeyP PackP SetP SetW SetF Delta
attribute [local go_sem] Eng.ev Eng.getO_cons Eng.getO_nil
theorem _root_.Go.Proofs.YtgfjpnpbkkadpaaGreat.Bk.below {w w':World} {B:Nat} {c:Array Value} {t:TypeId} (h:Bk w B c t) (hb:Below w.heap.size w w'):Bk w' B c t:=h.fr (Fr.of_below' hb (fun _=>False)) (fun _ _ h=>h)
theorem isB_iff {L:List Sn}:isB L=true↔Ok L:=by unfold isB;rw [decide_eq_true_eq,ok_iff]
theorem ok_step {L:List Sn} {k:Nat} (h:Ok (L.take k)) (hk:k<L.length) (h1:mayB L[k]=true) (h2:kp L[k]=L[k]) (h3:∀hj:0<k,bef (L[k-1]'(by omega)) L[k]=true):Ok (L.take (k+1)):=by
 rw [List.take_succ_eq_append_getElem hk]
 refine ⟨?_,fun x hx=>?_,fun x hx=>?_⟩
 ·show List.Pairwise _ _
  rw [List.pairwise_append]
  refine ⟨h.srs,List.pairwise_singleton _ _,fun x hx y hy=>?_⟩
  simp at hy;subst hy
  obtain ⟨i,hi,rfl⟩:=List.mem_iff_getElem.1 hx
  rw [List.length_take] at hi
  have hk0:0<k:=by omega
  rw [List.getElem_take]
  by_cases e:i=k-1
  ·subst e;exact h3 hk0
  ·have:=List.pairwise_iff_getElem.1 h.srs i (k-1) (by rw [List.length_take];omega) (by rw [List.length_take];omega) (by omega)
   rw [List.getElem_take,List.getElem_take] at this
   exact bef_tr this (h3 hk0)
 ·rcases List.mem_append.1 hx with hx|hx
  ·exact h.may x hx
  ·simp at hx;subst hx;exact h1
 ·rcases List.mem_append.1 hx with hx|hx
  ·exact h.kept x hx
  ·simp at hx;subst hx;exact h2
theorem ok_at {L:List Sn} (h:Ok L) {k:Nat} (hk:k<L.length):mayB L[k]=true∧kp L[k]=L[k]∧∀hj:0<k,bef (L[k-1]'(by omega)) L[k]=true:=
 ⟨h.may _ (List.getElem_mem hk),h.kept _ (List.getElem_mem hk),fun hj=>List.pairwise_iff_getElem.1 h.srs (k-1) k (by omega) hk (by omega)⟩
theorem is4a {ops:Array Oper} (hops:Eng.fnOps Tryz.f150 4=ops) (a0:Act) (Q:Exit→Act→World→Prop) (w0 w:World) (b1 o1 len c k:Nat) (y:Sn) (hy:y.ok) (hst:At2 w0 w b1 (o1+k*9) b1 (o1+k*9) y y) (hk:k<len) (_hlen:len≤9223372036854775807) (hm:mayB y=false)
  (hn:a0.tmps.size=45) (h_0:a0.tmps.getD 0 undef=.slice (some ⟨b1,o1,none⟩) len c) (h_3:a0.tmps.getD 3 undef=.int .i64 (k:Int))
  (hpost:∀ (x:Nat→Value) (w':World),x 44=.bool true→Fr (fun _=>False) w0 w'→Q .normal (Eng.setAll a0 [10,11,12,13,14,15,16,17,18,19,20,21,22,23,24,25,26,27,28,29,30,31,32,33,34,35,36,37,38,39,40,41,42,43,44] x) w'):
  (Code.region 4 ops true).wp prog Q a0 w:=by
 simp only [Eng.fnOps,Eng.regOps,Tryz.f150,Option.bind_some,Option.getD_some,Nat.reduceEqDiff,↓reduceIte] at hops
 subst hops
 have q1:(0:Int)≤(k:Int):=by omega
 have q2:(k:Int)<(len:Int):=by omega
 have hmy:Name.mayN y=1:=by unfold Name.mayN;rw [hm];rfl
 have HSt:=Lib.hid (hst.fr (Fr.drew _ _))
 refine Eng.regionT (.take 0 (.take 1 (.take 2 (.take 3 (.alt 4 (.take 5 (.take 6 (.take 7 (.take 8 (.take 9 (.take 10 (.take 11 (.take 12 (.take 13 (.take 14 (.take 15 (.take 16 (.take 17 (.take 18 (.take 19 (.take 20 (.take 21 (.take 22 (.take 23 (.take 24 (.take 25 (.take 26 (.take 27 (.take 28 (.take 29 (.take 30 (.take 31 (.take 32 (.take 33 (.take 34 (.done))))))))))))))))))))))))))))))) (.stop)))))) (fun w'=>w'.cell? ⟨b1,o1+k*9,none⟩=some (.int .i64 y.t)∧w'.cell? ⟨b1,o1+k*9+1,none⟩=some (.int .i64 y.i)∧w'.cell? ⟨b1,o1+k*9+1+1,none⟩=some (.int .i64 y.p)∧w'.cell? ⟨b1,o1+k*9+1+1+1,none⟩=some (.int .i64 y.r)∧w'.cell? ⟨b1,o1+k*9+1+1+1+1,none⟩=some (.string y.s)∧w'.cell? ⟨b1,o1+k*9+1+1+1+1+1,none⟩=some (.string y.o)∧w'.cell? ⟨b1,o1+k*9+1+1+1+1+1+1,none⟩=some (.int .i64 y.b)∧w'.cell? ⟨b1,o1+k*9+1+1+1+1+1+1+1,none⟩=some (.int .i64 y.d)∧w'.cell? ⟨b1,o1+k*9+1+1+1+1+1+1+1+1,none⟩=some (.bool y.g)) (by kernel_rfl) 45 hn (by kernel_rfl) (by kernel_rfl) (by kernel_rfl) (⟨HSt.out.a 0 _ rfl,HSt.out.a 1 _ rfl,HSt.out.a 2 _ rfl,HSt.out.a 3 _ rfl,HSt.out.a 4 _ rfl,HSt.out.a 5 _ rfl,HSt.out.a 6 _ rfl,HSt.out.a 7 _ rfl,HSt.out.a 8 _ rfl⟩) (fun a b ha hb=>?_)
 subst ha
 have hb0:b 0=.slice (some ⟨b1,o1,none⟩) len c:=(hb 0).symm.trans h_0
 have hb3:b 3=.int .i64 (k:Int):=(hb 3).symm.trans h_3
 clear hb h_0 h_3
 have HP:=Lib.hid hpost;have HN:=Lib.hid hn
 clear hpost hn
 iterate 4 (refine Eng.TW.tk ?_)
 refine Eng.TW.call rfl rfl (by decide) (by kernel_rfl) ?_ (Name.RefMay y hy _) ?_
 ·go_simp
 rintro e w2 ⟨rfl,hf⟩
 have HSt2:=Lib.hid (HSt.out.fr hf)
 clear hf
 rw [hmy]
 refine ⟨_,rfl,⟨HSt2.out.a 0 _ rfl,HSt2.out.a 1 _ rfl,HSt2.out.a 2 _ rfl,HSt2.out.a 3 _ rfl,HSt2.out.a 4 _ rfl,HSt2.out.a 5 _ rfl,HSt2.out.a 6 _ rfl,HSt2.out.a 7 _ rfl,HSt2.out.a 8 _ rfl⟩,?_⟩
 refine Eng.TW.tk ?_
 refine Eng.TW.tk ?_
 iterate 10 (refine Eng.TW.skip rfl rfl (by decide) (by kernel_rfl) ?_)
 refine Eng.TW.tk ?_
 refine Eng.TW.tk ?_
 iterate 15 (refine Eng.TW.skip rfl rfl (by decide) (by kernel_rfl) ?_)
 refine Eng.TW.tk ?_
 refine Eng.TW.end_ [10,11,12,13,14,15,16,17,18,19,20,21,22,23,24,25,26,27,28,29,30,31,32,33,34,35,36,37,38,39,40,41,42,43,44] HN.out (by kernel_rfl) (by kernel_rfl) ?_
 exact HP.out _ _ rfl HSt2.out.f
theorem is4b {ops:Array Oper} (hops:Eng.fnOps Tryz.f150 4=ops) (a0:Act) (Q:Exit→Act→World→Prop) (w0 w:World) (b1 o1 len c k:Nat) (y:Sn) (hy:y.ok) (hst:At2 w0 w b1 (o1+k*9) b1 (o1+k*9) y y) (hk:k<len) (_hlen:len≤9223372036854775807) (q:Sn) (hq:Sat2.keptS y=q) (hm:mayB y=true) (hne:eqS q y=false)
  (hn:a0.tmps.size=45) (h_0:a0.tmps.getD 0 undef=.slice (some ⟨b1,o1,none⟩) len c) (h_3:a0.tmps.getD 3 undef=.int .i64 (k:Int))
  (hpost:∀ (x:Nat→Value) (w':World),x 44=.bool true→Fr (fun _=>False) w0 w'→Q .normal (Eng.setAll a0 [10,11,12,13,14,15,16,17,18,19,20,21,22,23,24,25,26,27,28,29,30,31,32,33,34,35,36,37,38,39,40,41,42,43,44] x) w'):
  (Code.region 4 ops true).wp prog Q a0 w:=by
 simp only [Eng.fnOps,Eng.regOps,Tryz.f150,Option.bind_some,Option.getD_some,Nat.reduceEqDiff,↓reduceIte] at hops
 subst hops
 have q1:(0:Int)≤(k:Int):=by omega
 have q2:(k:Int)<(len:Int):=by omega
 have hmy:Name.mayN y=0:=by unfold Name.mayN;rw [hm];rfl
 have hq0:=fun W:World=>neq_parts q.t q.i q.p q.r q.b q.d y.t y.i y.p y.r y.b y.d q.s q.o y.s y.o q.g y.g W
 have hqe:eqS ⟨q.t,q.i,q.p,q.r,q.s,q.o,q.b,q.d,q.g⟩ ⟨y.t,y.i,y.p,y.r,y.s,y.o,y.b,y.d,y.g⟩=false:=hne
 rw [hqe] at hq0
 have HSt:=Lib.hid (hst.fr (Fr.drew _ _))
 refine Eng.regionT (.take 0 (.take 1 (.take 2 (.take 3 (.alt 4 (.take 5 (.take 6 (.take 7 (.take 8 (.take 9 (.take 10 (.take 12 (.take 13 (.take 14 (.take 15 (.alt 11 (.take 16 (.take 17 (.take 18 (.take 19 (.take 20 (.take 21 (.take 22 (.take 23 (.take 24 (.take 25 (.take 26 (.take 27 (.take 28 (.take 29 (.take 30 (.take 31 (.take 32 (.take 33 (.take 34 (.done)))))))))))))))))))) (.stop)))))))))))) (.stop)))))) (fun w'=>w'.cell? ⟨b1,o1+k*9,none⟩=some (.int .i64 y.t)∧w'.cell? ⟨b1,o1+k*9+1,none⟩=some (.int .i64 y.i)∧w'.cell? ⟨b1,o1+k*9+1+1,none⟩=some (.int .i64 y.p)∧w'.cell? ⟨b1,o1+k*9+1+1+1,none⟩=some (.int .i64 y.r)∧w'.cell? ⟨b1,o1+k*9+1+1+1+1,none⟩=some (.string y.s)∧w'.cell? ⟨b1,o1+k*9+1+1+1+1+1,none⟩=some (.string y.o)∧w'.cell? ⟨b1,o1+k*9+1+1+1+1+1+1,none⟩=some (.int .i64 y.b)∧w'.cell? ⟨b1,o1+k*9+1+1+1+1+1+1+1,none⟩=some (.int .i64 y.d)∧w'.cell? ⟨b1,o1+k*9+1+1+1+1+1+1+1+1,none⟩=some (.bool y.g)) (by kernel_rfl) 45 hn (by kernel_rfl) (by kernel_rfl) (by kernel_rfl) (⟨HSt.out.a 0 _ rfl,HSt.out.a 1 _ rfl,HSt.out.a 2 _ rfl,HSt.out.a 3 _ rfl,HSt.out.a 4 _ rfl,HSt.out.a 5 _ rfl,HSt.out.a 6 _ rfl,HSt.out.a 7 _ rfl,HSt.out.a 8 _ rfl⟩) (fun a b ha hb=>?_)
 subst ha
 have hb0:b 0=.slice (some ⟨b1,o1,none⟩) len c:=(hb 0).symm.trans h_0
 have hb3:b 3=.int .i64 (k:Int):=(hb 3).symm.trans h_3
 clear hb h_0 h_3
 have HP:=Lib.hid hpost;have HN:=Lib.hid hn
 clear hpost hn
 iterate 4 (refine Eng.TW.tk ?_)
 refine Eng.TW.call rfl rfl (by decide) (by kernel_rfl) ?_ (Name.RefMay y hy _) ?_
 ·go_simp
 rintro e w2 ⟨rfl,hf⟩
 have HSt2:=Lib.hid (HSt.out.fr hf)
 clear hf
 rw [hmy]
 refine ⟨_,rfl,⟨HSt2.out.a 0 _ rfl,HSt2.out.a 1 _ rfl,HSt2.out.a 2 _ rfl,HSt2.out.a 3 _ rfl,HSt2.out.a 4 _ rfl,HSt2.out.a 5 _ rfl,HSt2.out.a 6 _ rfl,HSt2.out.a 7 _ rfl,HSt2.out.a 8 _ rfl⟩,?_⟩
 iterate 10 (refine Eng.TW.tk ?_)
 refine Eng.TW.call rfl rfl (by decide) (by kernel_rfl) ?_ (Ref10.Kept y _) ?_
 ·go_simp
 rintro e w3 ⟨rfl,hf⟩
 have HSt3:=Lib.hid (HSt2.out.fr hf)
 clear hf
 rw [hq]
 refine ⟨_,rfl,⟨HSt3.out.a 0 _ rfl,HSt3.out.a 1 _ rfl,HSt3.out.a 2 _ rfl,HSt3.out.a 3 _ rfl,HSt3.out.a 4 _ rfl,HSt3.out.a 5 _ rfl,HSt3.out.a 6 _ rfl,HSt3.out.a 7 _ rfl,HSt3.out.a 8 _ rfl⟩,?_⟩
 iterate 3 (refine Eng.TW.tk ?_)
 iterate 15 (refine Eng.TW.skip rfl rfl (by decide) (by kernel_rfl) ?_)
 refine Eng.TW.tk ?_
 refine Eng.TW.end_ [10,11,12,13,14,15,16,17,18,19,20,21,22,23,24,25,26,27,28,29,30,31,32,33,34,35,36,37,38,39,40,41,42,43,44] HN.out (by kernel_rfl) (by kernel_rfl) ?_
 exact HP.out _ _ rfl HSt3.out.f
theorem is4c {ops:Array Oper} (hops:Eng.fnOps Tryz.f150 4=ops) (a0:Act) (Q:Exit→Act→World→Prop) (w0 w:World) (b1 o1 len c:Nat) (y:Sn) (hy:y.ok) (hst:At2 w0 w b1 (o1+0*9) b1 (o1+0*9) y y) (hk:0<len) (hlen:len≤9223372036854775807) (q:Sn) (hq:Sat2.keptS y=q) (hm:mayB y=true) (hne:eqS q y=true)
  (hn:a0.tmps.size=45) (h_0:a0.tmps.getD 0 undef=.slice (some ⟨b1,o1,none⟩) len c) (h_3:a0.tmps.getD 3 undef=.int .i64 0)
  (hpost:∀ (x:Nat→Value) (w':World),x 44=.bool false→Fr (fun _=>False) w0 w'→Q .normal (Eng.setAll a0 [10,11,12,13,14,15,16,17,18,19,20,21,22,23,24,25,26,27,28,29,30,31,32,33,34,35,36,37,38,39,40,41,42,43,44] x) w'):
  (Code.region 4 ops true).wp prog Q a0 w:=by
 simp only [Eng.fnOps,Eng.regOps,Tryz.f150,Option.bind_some,Option.getD_some,Nat.reduceEqDiff,↓reduceIte] at hops
 subst hops
 have q2:(0:Int)<(len:Int):=by omega
 have hmy:Name.mayN y=0:=by unfold Name.mayN;rw [hm];rfl
 have hq0:=fun W:World=>neq_parts q.t q.i q.p q.r q.b q.d y.t y.i y.p y.r y.b y.d q.s q.o y.s y.o q.g y.g W
 have hqe:eqS ⟨q.t,q.i,q.p,q.r,q.s,q.o,q.b,q.d,q.g⟩ ⟨y.t,y.i,y.p,y.r,y.s,y.o,y.b,y.d,y.g⟩=true:=hne
 rw [hqe] at hq0
 have HSt:=Lib.hid (hst.fr (Fr.drew _ _))
 refine Eng.regionT (.take 0 (.take 1 (.take 2 (.take 3 (.alt 4 (.take 5 (.take 6 (.take 7 (.take 8 (.take 9 (.take 10 (.take 12 (.take 13 (.take 14 (.take 15 (.alt 11 (.take 16 (.take 17 (.take 18 (.take 19 (.take 20 (.take 21 (.take 22 (.take 23 (.take 24 (.take 25 (.take 26 (.take 27 (.take 28 (.take 29 (.take 30 (.take 31 (.take 32 (.take 33 (.take 34 (.done)))))))))))))))))))) (.stop)))))))))))) (.stop)))))) (fun w'=>w'.cell? ⟨b1,o1,none⟩=some (.int .i64 y.t)∧w'.cell? ⟨b1,o1+1,none⟩=some (.int .i64 y.i)∧w'.cell? ⟨b1,o1+1+1,none⟩=some (.int .i64 y.p)∧w'.cell? ⟨b1,o1+1+1+1,none⟩=some (.int .i64 y.r)∧w'.cell? ⟨b1,o1+1+1+1+1,none⟩=some (.string y.s)∧w'.cell? ⟨b1,o1+1+1+1+1+1,none⟩=some (.string y.o)∧w'.cell? ⟨b1,o1+1+1+1+1+1+1,none⟩=some (.int .i64 y.b)∧w'.cell? ⟨b1,o1+1+1+1+1+1+1+1,none⟩=some (.int .i64 y.d)∧w'.cell? ⟨b1,o1+1+1+1+1+1+1+1+1,none⟩=some (.bool y.g)) (by kernel_rfl) 45 hn (by kernel_rfl) (by kernel_rfl) (by kernel_rfl) (⟨(by have:=HSt.out.a 0 _ rfl;simpa using this),(by have:=HSt.out.a 1 _ rfl;simpa using this),(by have:=HSt.out.a 2 _ rfl;simpa using this),(by have:=HSt.out.a 3 _ rfl;simpa using this),(by have:=HSt.out.a 4 _ rfl;simpa using this),(by have:=HSt.out.a 5 _ rfl;simpa using this),(by have:=HSt.out.a 6 _ rfl;simpa using this),(by have:=HSt.out.a 7 _ rfl;simpa using this),(by have:=HSt.out.a 8 _ rfl;simpa using this)⟩) (fun a b ha hb=>?_)
 subst ha
 have hb0:b 0=.slice (some ⟨b1,o1,none⟩) len c:=(hb 0).symm.trans h_0
 have hb3:b 3=.int .i64 0:=(hb 3).symm.trans h_3
 clear hb h_0 h_3
 have HP:=Lib.hid hpost;have HN:=Lib.hid hn
 clear hpost hn
 iterate 4 (refine Eng.TW.tk ?_)
 refine Eng.TW.call rfl rfl (by decide) (by kernel_rfl) ?_ (Name.RefMay y hy _) ?_
 ·go_simp
 rintro e w2 ⟨rfl,hf⟩
 have HSt2:=Lib.hid (HSt.out.fr hf)
 clear hf
 rw [hmy]
 refine ⟨_,rfl,⟨(by have:=HSt2.out.a 0 _ rfl;simpa using this),(by have:=HSt2.out.a 1 _ rfl;simpa using this),(by have:=HSt2.out.a 2 _ rfl;simpa using this),(by have:=HSt2.out.a 3 _ rfl;simpa using this),(by have:=HSt2.out.a 4 _ rfl;simpa using this),(by have:=HSt2.out.a 5 _ rfl;simpa using this),(by have:=HSt2.out.a 6 _ rfl;simpa using this),(by have:=HSt2.out.a 7 _ rfl;simpa using this),(by have:=HSt2.out.a 8 _ rfl;simpa using this)⟩,?_⟩
 iterate 10 (refine Eng.TW.tk ?_)
 refine Eng.TW.call rfl rfl (by decide) (by kernel_rfl) ?_ (Ref10.Kept y _) ?_
 ·go_simp
 rintro e w3 ⟨rfl,hf⟩
 have HSt3:=Lib.hid (HSt2.out.fr hf)
 clear hf
 rw [hq]
 refine ⟨_,rfl,⟨(by have:=HSt3.out.a 0 _ rfl;simpa using this),(by have:=HSt3.out.a 1 _ rfl;simpa using this),(by have:=HSt3.out.a 2 _ rfl;simpa using this),(by have:=HSt3.out.a 3 _ rfl;simpa using this),(by have:=HSt3.out.a 4 _ rfl;simpa using this),(by have:=HSt3.out.a 5 _ rfl;simpa using this),(by have:=HSt3.out.a 6 _ rfl;simpa using this),(by have:=HSt3.out.a 7 _ rfl;simpa using this),(by have:=HSt3.out.a 8 _ rfl;simpa using this)⟩,?_⟩
 iterate 6 (refine Eng.TW.tk ?_)
 iterate 11 (refine Eng.TW.skip rfl rfl (by decide) (by kernel_rfl) ?_)
 refine Eng.TW.tk ?_
 refine Eng.TW.tk ?_
 refine Eng.TW.end_ [10,11,12,13,14,15,16,17,18,19,20,21,22,23,24,25,26,27,28,29,30,31,32,33,34,35,36,37,38,39,40,41,42,43,44] HN.out (by kernel_rfl) (by kernel_rfl) ?_
 exact HP.out _ _ rfl HSt3.out.f
theorem is4d {ops:Array Oper} (hops:Eng.fnOps Tryz.f150 4=ops) (a0:Act) (Q:Exit→Act→World→Prop) (w0 w:World) (b1 o1 len c j:Nat) (y z:Sn) (hy:y.ok) (hst:At2 w0 w b1 (o1+(j+1)*9) b1 (o1+j*9) y z) (hk:j+1<len) (hlen:len≤9223372036854775807) (q:Sn) (hq:Sat2.keptS y=q) (hm:mayB y=true) (hne:eqS q y=true)
  (hn:a0.tmps.size=45) (h_0:a0.tmps.getD 0 undef=.slice (some ⟨b1,o1,none⟩) len c) (h_3:a0.tmps.getD 3 undef=.int .i64 ((j+1:Nat):Int))
  (hpost:∀ (x:Nat→Value) (w':World),x 44=.bool (!bef z y)→Fr (fun _=>False) w0 w'→Q .normal (Eng.setAll a0 [10,11,12,13,14,15,16,17,18,19,20,21,22,23,24,25,26,27,28,29,30,31,32,33,34,35,36,37,38,39,40,41,42,43,44] x) w'):
  (Code.region 4 ops true).wp prog Q a0 w:=by
 simp only [Eng.fnOps,Eng.regOps,Tryz.f150,Option.bind_some,Option.getD_some,Nat.reduceEqDiff,↓reduceIte] at hops
 subst hops
 have q1:IntKind.i64.wrap (j:Int)=(j:Int):=by rw [IntKind.wrap_i64];omega
 have q2:(0:Int)≤(j:Int):=by omega
 have q3:(j:Int)<(len:Int):=by omega
 have q4:(0:Int)≤(j:Int)+1:=by omega
 have q5:(j:Int)+1<(len:Int):=by omega
 have q6:(0:Int)<(j:Int)+1:=by omega
 have hmy:Name.mayN y=0:=by unfold Name.mayN;rw [hm];rfl
 have hq0:=fun W:World=>neq_parts q.t q.i q.p q.r q.b q.d y.t y.i y.p y.r y.b y.d q.s q.o y.s y.o q.g y.g W
 have hqe:eqS ⟨q.t,q.i,q.p,q.r,q.s,q.o,q.b,q.d,q.g⟩ ⟨y.t,y.i,y.p,y.r,y.s,y.o,y.b,y.d,y.g⟩=true:=hne
 rw [hqe] at hq0
 have HSt:=Lib.hid (hst.fr (Fr.drew _ _))
 refine Eng.regionT (.take 0 (.take 1 (.take 2 (.take 3 (.alt 4 (.take 5 (.take 6 (.take 7 (.take 8 (.take 9 (.take 10 (.take 12 (.take 13 (.take 14 (.take 15 (.alt 11 (.take 16 (.take 17 (.take 18 (.take 19 (.take 20 (.take 21 (.take 22 (.take 23 (.take 24 (.take 25 (.take 26 (.take 27 (.take 28 (.take 29 (.take 30 (.alt 31 (.take 32 (.take 33 (.take 34 (.done)))) (.stop))))))))))))))))) (.stop)))))))))))) (.stop)))))) (fun w'=>w'.cell? ⟨b1,o1+(j+1)*9,none⟩=some (.int .i64 y.t)∧w'.cell? ⟨b1,o1+(j+1)*9+1,none⟩=some (.int .i64 y.i)∧w'.cell? ⟨b1,o1+(j+1)*9+1+1,none⟩=some (.int .i64 y.p)∧w'.cell? ⟨b1,o1+(j+1)*9+1+1+1,none⟩=some (.int .i64 y.r)∧w'.cell? ⟨b1,o1+(j+1)*9+1+1+1+1,none⟩=some (.string y.s)∧w'.cell? ⟨b1,o1+(j+1)*9+1+1+1+1+1,none⟩=some (.string y.o)∧w'.cell? ⟨b1,o1+(j+1)*9+1+1+1+1+1+1,none⟩=some (.int .i64 y.b)∧w'.cell? ⟨b1,o1+(j+1)*9+1+1+1+1+1+1+1,none⟩=some (.int .i64 y.d)∧w'.cell? ⟨b1,o1+(j+1)*9+1+1+1+1+1+1+1+1,none⟩=some (.bool y.g)∧w'.cell? ⟨b1,o1+j*9,none⟩=some (.int .i64 z.t)∧w'.cell? ⟨b1,o1+j*9+1,none⟩=some (.int .i64 z.i)∧w'.cell? ⟨b1,o1+j*9+1+1,none⟩=some (.int .i64 z.p)∧w'.cell? ⟨b1,o1+j*9+1+1+1,none⟩=some (.int .i64 z.r)∧w'.cell? ⟨b1,o1+j*9+1+1+1+1,none⟩=some (.string z.s)∧w'.cell? ⟨b1,o1+j*9+1+1+1+1+1,none⟩=some (.string z.o)∧w'.cell? ⟨b1,o1+j*9+1+1+1+1+1+1,none⟩=some (.int .i64 z.b)∧w'.cell? ⟨b1,o1+j*9+1+1+1+1+1+1+1,none⟩=some (.int .i64 z.d)∧w'.cell? ⟨b1,o1+j*9+1+1+1+1+1+1+1+1,none⟩=some (.bool z.g)) (by kernel_rfl) 45 hn (by kernel_rfl) (by kernel_rfl) (by kernel_rfl) (⟨HSt.out.a 0 _ rfl,HSt.out.a 1 _ rfl,HSt.out.a 2 _ rfl,HSt.out.a 3 _ rfl,HSt.out.a 4 _ rfl,HSt.out.a 5 _ rfl,HSt.out.a 6 _ rfl,HSt.out.a 7 _ rfl,HSt.out.a 8 _ rfl,HSt.out.b 0 _ rfl,HSt.out.b 1 _ rfl,HSt.out.b 2 _ rfl,HSt.out.b 3 _ rfl,HSt.out.b 4 _ rfl,HSt.out.b 5 _ rfl,HSt.out.b 6 _ rfl,HSt.out.b 7 _ rfl,HSt.out.b 8 _ rfl⟩) (fun a b ha hb=>?_)
 subst ha
 have hb0:b 0=.slice (some ⟨b1,o1,none⟩) len c:=(hb 0).symm.trans h_0
 have hb3:b 3=.int .i64 ((j+1:Nat):Int):=(hb 3).symm.trans h_3
 clear hb h_0 h_3
 have HP:=Lib.hid hpost;have HN:=Lib.hid hn
 clear hpost hn
 iterate 4 (refine Eng.TW.tk ?_)
 refine Eng.TW.call rfl rfl (by decide) (by kernel_rfl) ?_ (Name.RefMay y hy _) ?_
 ·go_simp
 rintro e w2 ⟨rfl,hf⟩
 have HSt2:=Lib.hid (HSt.out.fr hf)
 clear hf
 rw [hmy]
 refine ⟨_,rfl,⟨HSt2.out.a 0 _ rfl,HSt2.out.a 1 _ rfl,HSt2.out.a 2 _ rfl,HSt2.out.a 3 _ rfl,HSt2.out.a 4 _ rfl,HSt2.out.a 5 _ rfl,HSt2.out.a 6 _ rfl,HSt2.out.a 7 _ rfl,HSt2.out.a 8 _ rfl,HSt2.out.b 0 _ rfl,HSt2.out.b 1 _ rfl,HSt2.out.b 2 _ rfl,HSt2.out.b 3 _ rfl,HSt2.out.b 4 _ rfl,HSt2.out.b 5 _ rfl,HSt2.out.b 6 _ rfl,HSt2.out.b 7 _ rfl,HSt2.out.b 8 _ rfl⟩,?_⟩
 iterate 10 (refine Eng.TW.tk ?_)
 refine Eng.TW.call rfl rfl (by decide) (by kernel_rfl) ?_ (Ref10.Kept y _) ?_
 ·go_simp
 rintro e w3 ⟨rfl,hf⟩
 have HSt3:=Lib.hid (HSt2.out.fr hf)
 clear hf
 rw [hq]
 refine ⟨_,rfl,⟨HSt3.out.a 0 _ rfl,HSt3.out.a 1 _ rfl,HSt3.out.a 2 _ rfl,HSt3.out.a 3 _ rfl,HSt3.out.a 4 _ rfl,HSt3.out.a 5 _ rfl,HSt3.out.a 6 _ rfl,HSt3.out.a 7 _ rfl,HSt3.out.a 8 _ rfl,HSt3.out.b 0 _ rfl,HSt3.out.b 1 _ rfl,HSt3.out.b 2 _ rfl,HSt3.out.b 3 _ rfl,HSt3.out.b 4 _ rfl,HSt3.out.b 5 _ rfl,HSt3.out.b 6 _ rfl,HSt3.out.b 7 _ rfl,HSt3.out.b 8 _ rfl⟩,?_⟩
 iterate 15 (refine Eng.TW.tk ?_)
 refine Eng.TW.call rfl rfl (by decide) (by kernel_rfl) ?_ (SetW.Before z y _) ?_
 ·go_simp
 rintro e w4 ⟨rfl,hf⟩
 have HSt4:=Lib.hid (HSt3.out.fr hf)
 clear hf
 refine ⟨_,rfl,⟨HSt4.out.a 0 _ rfl,HSt4.out.a 1 _ rfl,HSt4.out.a 2 _ rfl,HSt4.out.a 3 _ rfl,HSt4.out.a 4 _ rfl,HSt4.out.a 5 _ rfl,HSt4.out.a 6 _ rfl,HSt4.out.a 7 _ rfl,HSt4.out.a 8 _ rfl,HSt4.out.b 0 _ rfl,HSt4.out.b 1 _ rfl,HSt4.out.b 2 _ rfl,HSt4.out.b 3 _ rfl,HSt4.out.b 4 _ rfl,HSt4.out.b 5 _ rfl,HSt4.out.b 6 _ rfl,HSt4.out.b 7 _ rfl,HSt4.out.b 8 _ rfl⟩,?_⟩
 iterate 3 (refine Eng.TW.tk ?_)
 refine Eng.TW.end_ [10,11,12,13,14,15,16,17,18,19,20,21,22,23,24,25,26,27,28,29,30,31,32,33,34,35,36,37,38,39,40,41,42,43,44] HN.out (by kernel_rfl) (by kernel_rfl) ?_
 exact HP.out _ _ rfl HSt4.out.f
theorem Is (A:Option Addr) (c:Nat) (L:List Sn) (w:World) (hS:Ls w A c L) (hlen:L.length≤1000000):
  Calls prog 150 #[.slice A L.length c] w fun e w'=>e=.returned (.bool (isB L))∧Fr (fun _=>False) w w':=by
 have HS:=Lib.hid hS
 have HNo:Hid (∀k (h:k<L.length),¬ (mayB L[k]=true∧kp L[k]=L[k]∧∀hj:0<k,bef (L[k-1]'(by omega)) L[k]=true)→isB L=false):=fun k h hn=>by
  cases hb:isB L with
  |false=>rfl
  |true=>exact absurd (ok_at (isB_iff.1 hb) h) hn
 have HYes:Hid (Ok (L.take L.length)→isB L=true):=fun h=>by rw [List.take_length] at h;exact isB_iff.2 h
 have HSt:Hid (∀k (h:k<L.length),Ok (L.take k)→mayB L[k]=true→kp L[k]=L[k]→(∀hj:0<k,bef (L[k-1]'(by omega)) L[k]=true)→Ok (L.take (k+1))):=fun k h ho h1 h2 h3=>ok_step ho h h1 h2 h3
 obtain ⟨res,hres⟩:∃r,isB L=r:=⟨_,rfl⟩
 rw [hres] at HNo HYes ⊢
 clear hS hres
 go_enter func150,ntmps150
 go_wp2_with fail
 go_loopg [3] L.length (fun gk i wr=>∃k:Nat,i=.int .i64 ((k:Nat):Int)∧k≤L.length∧gk=L.length-k∧Ok (L.take k)∧Fr (fun _=>False) w wr)
 case atStart=>exact ⟨0,rfl,Nat.zero_le _,rfl,by rw [List.take_zero];exact Ok.nil,Fr.refl _ _⟩
 case round=>
  obtain ⟨k,rfl,hk,hg,hok,hf⟩:=hrel
  have HG:=Lib.hid hg;have HO:=Lib.hid hok;have HF:=Lib.hid hf
  clear hg hok hf
  by_cases hlt:k<L.length
  ·obtain ⟨b1,o1,rfl,hb1,c1⟩:=HS.out.s.at hlt (by omega)
   have HA:=Lib.hid ((At.row c1 hlt).fr HF.out (fun h=>h))
   have HYo:=Lib.hid (HS.out.ok _ (List.getElem_mem hlt))
   have q1:(0:Int)≤(k:Int):=by omega
   have q2:decide ((k:Int)<(L.length:Int))=true:=by simp;omega
   have hl64:L.length≤9223372036854775807:=by omega
   obtain ⟨n1,hn1⟩:∃q,Sat2.keptS L[k]=q:=⟨_,rfl⟩
   have hkp:kp L[k]=n1:=hn1
   go_upto_region 4 with (fail)
   cases hm:mayB L[k] with
   |false=>
    have HE:=Lib.hid (HNo.out k hlt (fun h=>by rw [hm] at h;exact absurd h.1 (by simp)))
    refine is4a (by kernel_rfl) _ _ wr wr b1 o1 L.length c k L[k] HYo.out ⟨HA.out,HA.out,Fr.refl _ _⟩ hlt hl64 hm rfl rfl rfl ?_
    intro x w2 x44 hf2
    simp only [Eng.setAll,Act.put,List.setIfInBounds_toArray,List.set_cons_succ,List.set_cons_zero]
    rw [x44]
    have HF2:=Lib.hid (HF.out.trans hf2 (T:=fun _=>False) (fun _ _ h=>h) (fun _ _ h=>h))
    clear x44 hf2
    go_wp2_with fail
    go_ret
    exact ⟨by rw [HE.out];rfl,HF2.out⟩
   |true=>
    cases he:eqS n1 L[k] with
    |false=>
     have HE:=Lib.hid (HNo.out k hlt (fun h=>by have h2:=h.2.1;rw [hkp] at h2;rw [eqS_iff.2 h2] at he;cases he))
     refine is4b (by kernel_rfl) _ _ wr wr b1 o1 L.length c k L[k] HYo.out ⟨HA.out,HA.out,Fr.refl _ _⟩ hlt hl64 n1 hn1 hm he rfl rfl rfl ?_
     intro x w2 x44 hf2
     simp only [Eng.setAll,Act.put,List.setIfInBounds_toArray,List.set_cons_succ,List.set_cons_zero]
     rw [x44]
     have HF2:=Lib.hid (HF.out.trans hf2 (T:=fun _=>False) (fun _ _ h=>h) (fun _ _ h=>h))
     clear x44 hf2
     go_wp2_with fail
     go_ret
     exact ⟨by rw [HE.out];rfl,HF2.out⟩
    |true=>
     have e2:kp L[k]=L[k]:=by rw [hkp];exact eqS_iff.1 he
     cases k with
     |zero=>
      have HN:=Lib.hid (HSt.out 0 hlt HO.out hm e2 (fun hj=>by omega))
      refine is4c (by kernel_rfl) _ _ wr wr b1 o1 L.length c L[0] HYo.out ⟨HA.out,HA.out,Fr.refl _ _⟩ hlt hl64 n1 hn1 hm he rfl rfl rfl ?_
      intro x w2 x44 hf2
      simp only [Eng.setAll,Act.put,List.setIfInBounds_toArray,List.set_cons_succ,List.set_cons_zero]
      rw [x44]
      have HF2:=Lib.hid (HF.out.trans hf2 (T:=fun _=>False) (fun _ _ h=>h) (fun _ _ h=>h))
      clear x44 hf2
      go_wp2_with fail
      go_roundg (L.length-1)
      case rel=>exact ⟨1,rfl,by omega,rfl,HN.out,HF2.out⟩
      case measure=>have:=HG.out;omega
     |succ j=>
      have hj:j<L.length:=by omega
      have HZ:=Lib.hid ((At.row c1 hj).fr HF.out (fun h=>h))
      have HN:=Lib.hid (HSt.out (j+1) hlt HO.out hm e2)
      have HNn:=Lib.hid (HNo.out (j+1) hlt)
      refine is4d (by kernel_rfl) _ _ wr wr b1 o1 L.length c j L[j+1] L[j] HYo.out ⟨HA.out,HZ.out,Fr.refl _ _⟩ hlt hl64 n1 hn1 hm he rfl rfl rfl ?_
      intro x w2 x44 hf2
      simp only [Eng.setAll,Act.put,List.setIfInBounds_toArray,List.set_cons_succ,List.set_cons_zero]
      rw [x44]
      have HF2:=Lib.hid (HF.out.trans hf2 (T:=fun _=>False) (fun _ _ h=>h) (fun _ _ h=>h))
      clear x44 hf2
      cases hbf:bef L[j] L[j+1] with
      |false=>
       have HE:=Lib.hid (HNn.out (fun h=>by have h2:=h.2.2 (by omega);have h3:bef L[j] L[j+1]=true:=h2;rw [hbf] at h3;cases h3))
       go_wp2_with fail
       go_ret
       exact ⟨by rw [HE.out];rfl,HF2.out⟩
      |true=>
       have HN2:=Lib.hid (HN.out (fun _=>hbf))
       clear q1
       have q1:wrap64 (((j+1:Nat):Int)+1)=((j+1:Nat):Int)+1:=by unfold wrap64;omega
       go_wp2_with fail
       go_roundg (L.length-(j+2))
       case rel=>exact ⟨j+2,by go_num,by omega,rfl,HN2.out,HF2.out⟩
       case measure=>have:=HG.out;omega
  ·obtain rfl:k=L.length:=by omega
   have q2:decide ((L.length:Int)<(L.length:Int))=false:=by simp
   have HE:=Lib.hid (HYes.out HO.out)
   go_wp2_with fail
   go_ret
   exact ⟨by rw [HE.out];rfl,HF.out⟩
structure RX (w0 w:World) (Bd:Nat) (d:Dl):Prop where
 rd:RdD w d
 x:Bk w Bd d.arr TDl
 b:Below w0.heap.size w0 w
theorem RX.below {w0 w w':World} {Bd:Nat} {d:Dl} (h:RX w0 w Bd d) (hb:Below w.heap.size w w'):RX w0 w' Bd d:=⟨h.rd.below hb,Bk.below h.x hb,h.b.trans (hb.mono h.b.size)⟩
theorem RX.keep {w0 w w':World} {Bd:Nat} {d:Dl} (h:RX w0 w Bd d) (hf:Fr (fun _=>False) w w'):RX w0 w' Bd d:=h.below (hf.below (Nat.le_refl _) (fun _ _ h=>h))
theorem right_len (O I:List Sn):(((wout I O).length:Int)==(O.length:Int))= !O.any (fun x=>decide (x∈I)):=by
 unfold wout
 rw [Bool.eq_iff_iff,Bool.not_eq_true',List.any_eq_false]
 constructor
 ·intro h x hx
  have h1:(O.filter (fun y=> !decide (y∈I))).length=O.length:=by have:=eq_of_beq h;omega
  have:=List.length_filter_eq_length_iff.1 h1 x hx
  simpa using this
 ·intro h
  have h1:(O.filter (fun y=> !decide (y∈I))).length=O.length:=List.length_filter_eq_length_iff.2 (fun x hx=>by have:=h x hx;simpa using this)
  rw [h1];simp
theorem rt1a {ops:Array Oper} (hops:Eng.fnOps Tryz.f85 1=ops) (a0:Act) (Q:Exit→Act→World→Prop) (w0 w:World) (Bd:Nat) (d:Dl) (h1:d.O.length≤1000000) (_h2:d.I.length≤1000000) (hst:RX w0 w Bd d) (e1:isB d.O=false)
  (hn:a0.tmps.size=23) (h_1:a0.tmps.getD 1 undef=.pointer (some ⟨Bd,0,none⟩))
  (hpost:∀ (x:Nat→Value) (w':World),x 2=.bool false→RX w0 w' Bd d→Q .normal (Eng.setAll a0 [2,3,4,5,6,7,8,9,10,11,12,13,14,15,16,17,18,19,20,21,22] x) w'):
  (Code.region 1 ops true).wp prog Q a0 w:=by
 simp only [Eng.fnOps,Eng.regOps,Tryz.f85,Option.bind_some,Option.getD_some,Nat.reduceEqDiff,↓reduceIte] at hops
 subst hops
 have HSt:=Lib.hid (hst.keep (Fr.drew _ _))
 refine Eng.regionT (.take 0 (.take 1 (.alt 2 (.take 3 (.take 4 (.take 5 (.take 6 (.take 7 (.take 8 (.take 9 (.take 10 (.take 11 (.take 12 (.take 13 (.take 14 (.take 15 (.take 16 (.take 17 (.take 18 (.take 19 (.take 20 (.done))))))))))))))))))) (.stop)))) (fun w'=>w'.cell? ⟨Bd,0,none⟩=some (.slice d.A1 d.O.length d.c1)∧w'.cell? ⟨Bd,1,none⟩=some (.slice d.A2 d.I.length d.c2)) (by kernel_rfl) 23 hn (by kernel_rfl) (by kernel_rfl) (by kernel_rfl) (⟨HSt.out.x.cell 0,HSt.out.x.cell 1⟩) (fun a b ha hb=>?_)
 subst ha
 have hb1:b 1=.pointer (some ⟨Bd,0,none⟩):=(hb 1).symm.trans h_1
 clear hb h_1
 have HP:=Lib.hid hpost;have HN:=Lib.hid hn
 clear hpost hn
 refine Eng.TW.tk ?_
 refine Eng.TW.tk ?_
 refine Eng.TW.call rfl rfl (by decide) (by kernel_rfl) ?_ (Is d.A1 d.c1 d.O _ HSt.out.rd.o h1) ?_
 ·go_simp
 rintro e w2 ⟨rfl,hf⟩
 have HSt2:=Lib.hid (HSt.out.keep hf)
 clear hf
 rw [e1]
 refine ⟨_,rfl,⟨HSt2.out.x.cell 0,HSt2.out.x.cell 1⟩,?_⟩
 refine Eng.TW.tk ?_
 iterate 3 (refine Eng.TW.skip rfl rfl (by decide) (by kernel_rfl) ?_)
 refine Eng.TW.tk ?_
 refine Eng.TW.tk ?_
 iterate 10 (refine Eng.TW.skip rfl rfl (by decide) (by kernel_rfl) ?_)
 refine Eng.TW.tk ?_
 refine Eng.TW.tk ?_
 refine Eng.TW.end_ [2,3,4,5,6,7,8,9,10,11,12,13,14,15,16,17,18,19,20,21,22] HN.out (by kernel_rfl) (by kernel_rfl) ?_
 exact HP.out _ _ rfl HSt2.out
theorem rt1b {ops:Array Oper} (hops:Eng.fnOps Tryz.f85 1=ops) (a0:Act) (Q:Exit→Act→World→Prop) (w0 w:World) (Bd:Nat) (d:Dl) (h1:d.O.length≤1000000) (h2:d.I.length≤1000000) (hst:RX w0 w Bd d) (e1:isB d.O=true) (e2:isB d.I=false)
  (hn:a0.tmps.size=23) (h_1:a0.tmps.getD 1 undef=.pointer (some ⟨Bd,0,none⟩))
  (hpost:∀ (x:Nat→Value) (w':World),x 2=.bool false→RX w0 w' Bd d→Q .normal (Eng.setAll a0 [2,3,4,5,6,7,8,9,10,11,12,13,14,15,16,17,18,19,20,21,22] x) w'):
  (Code.region 1 ops true).wp prog Q a0 w:=by
 simp only [Eng.fnOps,Eng.regOps,Tryz.f85,Option.bind_some,Option.getD_some,Nat.reduceEqDiff,↓reduceIte] at hops
 subst hops
 have HSt:=Lib.hid (hst.keep (Fr.drew _ _))
 refine Eng.regionT (.take 0 (.take 1 (.alt 2 (.take 3 (.take 4 (.take 5 (.alt 6 (.take 7 (.take 8 (.take 9 (.take 10 (.take 11 (.take 12 (.take 13 (.take 14 (.take 15 (.take 16 (.take 17 (.take 18 (.take 19 (.take 20 (.done))))))))))))))) (.stop))))) (.stop)))) (fun w'=>w'.cell? ⟨Bd,0,none⟩=some (.slice d.A1 d.O.length d.c1)∧w'.cell? ⟨Bd,1,none⟩=some (.slice d.A2 d.I.length d.c2)) (by kernel_rfl) 23 hn (by kernel_rfl) (by kernel_rfl) (by kernel_rfl) (⟨HSt.out.x.cell 0,HSt.out.x.cell 1⟩) (fun a b ha hb=>?_)
 subst ha
 have hb1:b 1=.pointer (some ⟨Bd,0,none⟩):=(hb 1).symm.trans h_1
 clear hb h_1
 have HP:=Lib.hid hpost;have HN:=Lib.hid hn
 clear hpost hn
 refine Eng.TW.tk ?_
 refine Eng.TW.tk ?_
 refine Eng.TW.call rfl rfl (by decide) (by kernel_rfl) ?_ (Is d.A1 d.c1 d.O _ HSt.out.rd.o h1) ?_
 ·go_simp
 rintro e w2 ⟨rfl,hf⟩
 have HSt2:=Lib.hid (HSt.out.keep hf)
 clear hf
 rw [e1]
 refine ⟨_,rfl,⟨HSt2.out.x.cell 0,HSt2.out.x.cell 1⟩,?_⟩
 iterate 3 (refine Eng.TW.tk ?_)
 refine Eng.TW.call rfl rfl (by decide) (by kernel_rfl) ?_ (Is d.A2 d.c2 d.I _ HSt2.out.rd.i h2) ?_
 ·go_simp
 rintro e w3 ⟨rfl,hf⟩
 have HSt3:=Lib.hid (HSt2.out.keep hf)
 clear hf
 rw [e2]
 refine ⟨_,rfl,⟨HSt3.out.x.cell 0,HSt3.out.x.cell 1⟩,?_⟩
 refine Eng.TW.tk ?_
 refine Eng.TW.tk ?_
 iterate 10 (refine Eng.TW.skip rfl rfl (by decide) (by kernel_rfl) ?_)
 refine Eng.TW.tk ?_
 refine Eng.TW.tk ?_
 refine Eng.TW.end_ [2,3,4,5,6,7,8,9,10,11,12,13,14,15,16,17,18,19,20,21,22] HN.out (by kernel_rfl) (by kernel_rfl) ?_
 exact HP.out _ _ rfl HSt3.out
theorem rt1c {ops:Array Oper} (hops:Eng.fnOps Tryz.f85 1=ops) (a0:Act) (Q:Exit→Act→World→Prop) (w0 w:World) (Bd:Nat) (d:Dl) (h1:d.O.length≤1000000) (h2:d.I.length≤1000000) (hst:RX w0 w Bd d) (e1:isB d.O=true) (e2:isB d.I=true)
  (hn:a0.tmps.size=23) (h_1:a0.tmps.getD 1 undef=.pointer (some ⟨Bd,0,none⟩))
  (hpost:∀ (x:Nat→Value) (w':World),x 2=.bool (((wout d.I d.O).length:Int)==(d.O.length:Int))→RX w0 w' Bd d→Q .normal (Eng.setAll a0 [2,3,4,5,6,7,8,9,10,11,12,13,14,15,16,17,18,19,20,21,22] x) w'):
  (Code.region 1 ops true).wp prog Q a0 w:=by
 simp only [Eng.fnOps,Eng.regOps,Tryz.f85,Option.bind_some,Option.getD_some,Nat.reduceEqDiff,↓reduceIte] at hops
 subst hops
 have HSt:=Lib.hid (hst.keep (Fr.drew _ _))
 refine Eng.regionT (.take 0 (.take 1 (.alt 2 (.take 3 (.take 4 (.take 5 (.alt 6 (.take 7 (.take 8 (.take 9 (.take 10 (.take 11 (.take 12 (.take 15 (.take 16 (.take 17 (.alt 13 (.take 14 (.take 18 (.take 19 (.take 20 (.done))))) (.stop))))))))))) (.stop))))) (.stop)))) (fun w'=>w'.cell? ⟨Bd,0,none⟩=some (.slice d.A1 d.O.length d.c1)∧w'.cell? ⟨Bd,1,none⟩=some (.slice d.A2 d.I.length d.c2)) (by kernel_rfl) 23 hn (by kernel_rfl) (by kernel_rfl) (by kernel_rfl) (⟨HSt.out.x.cell 0,HSt.out.x.cell 1⟩) (fun a b ha hb=>?_)
 subst ha
 have hb1:b 1=.pointer (some ⟨Bd,0,none⟩):=(hb 1).symm.trans h_1
 clear hb h_1
 have HP:=Lib.hid hpost;have HN:=Lib.hid hn
 clear hpost hn
 refine Eng.TW.tk ?_
 refine Eng.TW.tk ?_
 refine Eng.TW.call rfl rfl (by decide) (by kernel_rfl) ?_ (Is d.A1 d.c1 d.O _ HSt.out.rd.o h1) ?_
 ·go_simp
 rintro e w2 ⟨rfl,hf⟩
 have HSt2:=Lib.hid (HSt.out.keep hf)
 clear hf
 rw [e1]
 refine ⟨_,rfl,⟨HSt2.out.x.cell 0,HSt2.out.x.cell 1⟩,?_⟩
 iterate 3 (refine Eng.TW.tk ?_)
 refine Eng.TW.call rfl rfl (by decide) (by kernel_rfl) ?_ (Is d.A2 d.c2 d.I _ HSt2.out.rd.i h2) ?_
 ·go_simp
 rintro e w3 ⟨rfl,hf⟩
 have HSt3:=Lib.hid (HSt2.out.keep hf)
 clear hf
 rw [e2]
 refine ⟨_,rfl,⟨HSt3.out.x.cell 0,HSt3.out.x.cell 1⟩,?_⟩
 iterate 9 (refine Eng.TW.tk ?_)
 refine Eng.TW.call rfl rfl (by decide) (by kernel_rfl) ?_ (Without d.A1 d.A2 d.c1 d.c2 d.O d.I _ HSt3.out.rd.o.s HSt3.out.rd.i.s h1) ?_
 ·go_simp
 rintro e w4 ⟨v,rfl,hown,hb⟩
 have HSt4:=Lib.hid (HSt3.out.below hb)
 obtain ⟨A5,c5,rfl,-,-⟩:=Sl.of_own hown
 clear hb hown
 refine ⟨_,rfl,⟨HSt4.out.x.cell 0,HSt4.out.x.cell 1⟩,?_⟩
 iterate 4 (refine Eng.TW.tk ?_)
 refine Eng.TW.end_ [2,3,4,5,6,7,8,9,10,11,12,13,14,15,16,17,18,19,20,21,22] HN.out (by kernel_rfl) (by kernel_rfl) ?_
 exact HP.out _ _ rfl HSt4.out
theorem Right (d:Dl) (w:World) (hd:RdD w d) (h1:d.O.length≤1000000) (h2:d.I.length≤1000000):
  Calls prog 85 #[d.v] w fun e w'=>e=.returned (.bool (rightB d.O d.I))∧Below w.heap.size w w':=by
 have hb:Below w.heap.size w (w.alloc (.cells d.arr TDl)):=(Below.refl _ w).alloc (Nat.le_refl _) _
 have HX:=Lib.hid (show RX w (w.alloc (.cells d.arr TDl)) w.heap.size d from ⟨hd.keep (Fr.alloc _ _ _),Bk.new _ _ _,hb⟩)
 have HQ:Hid (rightB d.O d.I=(isB d.O&&(isB d.I&& !d.O.any (fun x=>decide (x∈d.I))))):=rfl
 have HR:=Lib.hid (right_len d.O d.I)
 clear hd hb
 go_enter func85,ntmps85
 go_upto_region 1 with (fail)
 generalize (w.alloc (.cells d.arr TDl))=w1 at *
 cases e1:isB d.O with
 |false=>
  refine rt1a (by kernel_rfl) _ _ w w1 w.heap.size d h1 h2 HX.out e1 rfl rfl ?_
  intro x w2 x2 hx
  simp only [Eng.setAll,Act.put,List.setIfInBounds_toArray,List.set_cons_succ,List.set_cons_zero]
  rw [x2]
  have HX2:=Lib.hid hx
  clear x2 hx
  go_wp2_with fail
  go_ret
  exact ⟨by rw [HQ.out,e1];rfl,HX2.out.b⟩
 |true=>
  cases e2:isB d.I with
  |false=>
   refine rt1b (by kernel_rfl) _ _ w w1 w.heap.size d h1 h2 HX.out e1 e2 rfl rfl ?_
   intro x w2 x2 hx
   simp only [Eng.setAll,Act.put,List.setIfInBounds_toArray,List.set_cons_succ,List.set_cons_zero]
   rw [x2]
   have HX2:=Lib.hid hx
   clear x2 hx
   go_wp2_with fail
   go_ret
   exact ⟨by rw [HQ.out,e1,e2];rfl,HX2.out.b⟩
  |true=>
   refine rt1c (by kernel_rfl) _ _ w w1 w.heap.size d h1 h2 HX.out e1 e2 rfl rfl ?_
   intro x w2 x2 hx
   simp only [Eng.setAll,Act.put,List.setIfInBounds_toArray,List.set_cons_succ,List.set_cons_zero]
   rw [x2,HR.out]
   have HX2:=Lib.hid hx
   clear x2 hx
   go_wp2_with fail
   go_ret
   exact ⟨by rw [HQ.out,e1,e2];rfl,HX2.out.b⟩
theorem ins_ok {z:Sn} {L:List Sn} (hz:z.ok) (hL:∀x∈L,x.ok):∀x∈ins z L,x.ok:=fun x hx=>by
 unfold ins at hx
 rcases List.mem_append.1 hx with h|h
 ·exact hL x ((List.takeWhile_sublist _).subset h)
 ·rcases List.mem_cons.1 h with rfl|h
  ·exact hz
  ·exact hL x (List.mem_filter.1 h).1
theorem InsertL {A:Option Addr} {c:Nat} {L:List Sn} {z:Sn} {w:World} (h:Ls w A c L) (hz:z.ok) (hl:L.length≤1000000):
  Calls prog 87 #[.slice A L.length c,z.v] w (LsPost (ins z L) w):=
 (Insert A c L z w h.s hl).mono (fun _ _ hp=>LsPost.of hp (ins_ok hz h.ok))
end RefD
end Go.Proofs.YtgfjpnpbkkadpaaGreat
