/- The document's kept record; which record goes ahead. -/
import Derived.Test.YtdpngmgaomghoaaGreatDoorRank
namespace Go.Proofs.YtdpngmgaomghoaaGreatDoor
open Tryz
set_option maxRecDepth 100000
set_option maxHeartbeats 2000000
open Go.RowKit
namespace Ref10
open KeyP PackP Vari SetW Name Code_ Rank
attribute [local go_sem] Eng.ev Eng.getO_cons Eng.getO_nil
structure RS (w0 w:World) (B R:Nat) (x:Sn) (c:Array Value):Prop where
 a:At w B 0 x
 r:Bk w R c TSn
 f:Fr (fun _=>False) w0 w
 n:w0.heap.size≤R
 nb:B≠R
theorem RS.fr {w0 w w':World} {B R:Nat} {x:Sn} {c:Array Value} (h:RS w0 w B R x c) (hf:Fr (fun _=>False) w w'):RS w0 w' B R x c:=⟨h.a.keep hf,h.r.fr hf (fun _ _ h=>h),h.f.trans hf (fun _ _ h=>h) (fun _ _ h=>h),h.n,h.nb⟩
structure RT (w0 w:World) (B R:Nat) (x:Sn):Prop where
 a:At w B 0 x
 r:Bk w R (Sat2.keptS x).arr TSn
 f:Fr (fun _=>False) w0 w
theorem frs {w W:World} {R k:Nat} {u:Value} (h:Fr (fun b=>b=R) w W):Fr (fun b=>b=R) w (W.setCell ⟨R,k,none⟩ u):=h.trans (Fr.setCell W ⟨R,k,none⟩ u (S:=fun b=>b=R) rfl) (fun _ _ h=>h) (fun _ _ h=>h)
theorem bks {w:World} {R:Nat} {v0 v1 v2 v3 v4 v5 v6 v7 v8 u0 u1 u2 u3 u4 u5 u6 u7 u8:Value} (h:Bk w R #[v0,v1,v2,v3,v4,v5,v6,v7,v8] TSn):Bk (((((((((w.setCell ⟨R,0,none⟩ u0).setCell ⟨R,1,none⟩ u1).setCell ⟨R,2,none⟩ u2).setCell ⟨R,3,none⟩ u3).setCell ⟨R,4,none⟩ u4).setCell ⟨R,5,none⟩ u5).setCell ⟨R,6,none⟩ u6).setCell ⟨R,7,none⟩ u7).setCell ⟨R,8,none⟩ u8) R #[u0,u1,u2,u3,u4,u5,u6,u7,u8] TSn:=by
 have:=((((((((h.set 0 u0).set 1 u1).set 2 u2).set 3 u3).set 4 u4).set 5 u5).set 6 u6).set 7 u7).set 8 u8
 simp only [List.setIfInBounds_toArray,List.set_cons_succ,List.set_cons_zero] at this
 exact this
theorem RS.store {w0 w:World} {B R:Nat} {x:Sn} {v0 v1 v2 v3 v4 v5 v6 v7 v8:Value} (h:RS w0 w B R x #[v0,v1,v2,v3,v4,v5,v6,v7,v8]):RT w0 ((((((((((w).setCell ⟨R,0,none⟩ (.int .i64 x.t)).setCell ⟨R,1,none⟩ (.int .i64 x.i)).setCell ⟨R,2,none⟩ (.int .i64 x.p)).setCell ⟨R,3,none⟩ (.int .i64 x.r)).setCell ⟨R,4,none⟩ (.string x.s)).setCell ⟨R,5,none⟩ (.string x.o)).setCell ⟨R,6,none⟩ (.int .i64 x.b)).setCell ⟨R,7,none⟩ (.int .i64 (Sat2.kd x.d))).setCell ⟨R,8,none⟩ (.bool x.g)) B R x:=
 have hf:=frs (frs (frs (frs (frs (frs (frs (frs (frs (Fr.refl (fun b=>b=R) w)))))))))
 ⟨h.a.fr hf h.nb,bks h.r,h.f.trans hf (fun _ _ h=>h) (fun k hk e=>by have:=h.n;omega)⟩
theorem k1 {ops:Array Oper} (hops:Eng.fnOps Tryz.f53 1=ops) (a0:Act) (Q:Exit→Act→World→Prop) (w0 w:World) (B R:Nat) (x:Sn) (v0 v1 v2 v3 v4 v5 v6 v7 v8:Value) (hst:RS w0 w B R x #[v0,v1,v2,v3,v4,v5,v6,v7,v8])
  (hn:a0.tmps.size=23) (h_1:a0.tmps.getD 1 undef=.pointer (some ⟨B,0,none⟩)) (h_2:a0.tmps.getD 2 undef=.pointer (some ⟨R,0,none⟩))
  (hpost:∀ (x_:Nat→Value) (w':World),RT w0 w' B R x→Q .normal (Eng.setAll a0 [3,4,5,6,7,8,9,10,11,12,13,14,15,16,17,18,19,20,21,22] x_) w'):
  (Code.region 1 ops true).wp prog Q a0 w:=by
 simp only [Eng.fnOps,Eng.regOps,Tryz.f53,Option.bind_some,Option.getD_some,Nat.reduceEqDiff,↓reduceIte] at hops
 subst hops
 have q0:w.frozen? ⟨R,0,none⟩=false:=hst.r.free 0
 have q1:w.frozen? ⟨R,1,none⟩=false:=hst.r.free 1
 have q2:w.frozen? ⟨R,2,none⟩=false:=hst.r.free 2
 have q3:w.frozen? ⟨R,3,none⟩=false:=hst.r.free 3
 have q4:w.frozen? ⟨R,4,none⟩=false:=hst.r.free 4
 have q5:w.frozen? ⟨R,5,none⟩=false:=hst.r.free 5
 have q6:w.frozen? ⟨R,6,none⟩=false:=hst.r.free 6
 have q7:w.frozen? ⟨R,7,none⟩=false:=hst.r.free 7
 have q8:w.frozen? ⟨R,8,none⟩=false:=hst.r.free 8
 have r0:w.cell? ⟨R,0,none⟩=some v0:=hst.r.cell 0
 have r1:w.cell? ⟨R,1,none⟩=some v1:=hst.r.cell 1
 have r2:w.cell? ⟨R,2,none⟩=some v2:=hst.r.cell 2
 have r3:w.cell? ⟨R,3,none⟩=some v3:=hst.r.cell 3
 have r4:w.cell? ⟨R,4,none⟩=some v4:=hst.r.cell 4
 have r5:w.cell? ⟨R,5,none⟩=some v5:=hst.r.cell 5
 have r6:w.cell? ⟨R,6,none⟩=some v6:=hst.r.cell 6
 have r7:w.cell? ⟨R,7,none⟩=some v7:=hst.r.cell 7
 have r8:w.cell? ⟨R,8,none⟩=some v8:=hst.r.cell 8
 have HSt:=Lib.hid (hst.fr (Fr.drew _ _))
 have hSS:=SetW.at0 HSt.out.a
 refine Eng.regionT (.take 0 (.take 1 (.take 2 (.take 3 (.take 4 (.take 5 (.take 6 (.take 7 (.take 8 (.take 9 (.take 10 (.take 11 (.take 12 (.take 13 (.take 14 (.take 15 (.take 17 (.take 18 (.alt 16 (.take 19 (.alt 20 (.done) (.stop))) (.stop)))))))))))))))))))) (fun w'=>w'.cell? ⟨B,0,none⟩=some (.int .i64 x.t)∧w'.cell? ⟨B,1,none⟩=some (.int .i64 x.i)∧w'.cell? ⟨B,2,none⟩=some (.int .i64 x.p)∧w'.cell? ⟨B,3,none⟩=some (.int .i64 x.r)∧w'.cell? ⟨B,4,none⟩=some (.string x.s)∧w'.cell? ⟨B,5,none⟩=some (.string x.o)∧w'.cell? ⟨B,6,none⟩=some (.int .i64 x.b)∧w'.cell? ⟨B,7,none⟩=some (.int .i64 x.d)∧w'.cell? ⟨B,8,none⟩=some (.bool x.g)) (by kernel_rfl) 23 hn (by kernel_rfl) (by kernel_rfl) (by kernel_rfl) (hSS) (fun a b ha hb=>?_)
 subst ha
 have hb1:b 1=.pointer (some ⟨B,0,none⟩):=(hb 1).symm.trans h_1
 have hb2:b 2=.pointer (some ⟨R,0,none⟩):=(hb 2).symm.trans h_2
 clear hb h_1 h_2
 have HP:=Lib.hid hpost;have HN:=Lib.hid hn
 clear hpost hn
 iterate 18 (refine Eng.TW.tk ?_)
 refine Eng.TW.call rfl rfl (by decide) (by kernel_rfl) ?_ (Sat2.RefClamp x.d _) ?_
 ·go_simp
 rintro e w_2 ⟨rfl,rfl⟩
 refine ⟨_,rfl,hSS,?_⟩
 refine Eng.TW.tk ?_
 refine Eng.TW.step0 rfl rfl (by kernel_rfl) (by go_simp;first|done|with_reducible rfl) (⟨(HSt.out.store).a 0 _ rfl,(HSt.out.store).a 1 _ rfl,(HSt.out.store).a 2 _ rfl,(HSt.out.store).a 3 _ rfl,(HSt.out.store).a 4 _ rfl,(HSt.out.store).a 5 _ rfl,(HSt.out.store).a 6 _ rfl,(HSt.out.store).a 7 _ rfl,(HSt.out.store).a 8 _ rfl⟩) ?_
 have HSt3:=Lib.hid (HSt.out.store)
 have hSS:=SetW.at0 HSt3.out.a
 refine Eng.TW.end_ [3,4,5,6,7,8,9,10,11,12,13,14,15,16,17,18,19,20,21,22] HN.out (by kernel_rfl) (by kernel_rfl) ?_
 exact HP.out _ _ HSt3.out
theorem Kept (x:Sn) (w:World):Calls prog 53 #[x.v] w fun e w'=>e=.returned (Sat2.keptS x).v∧Fr (fun _=>False) w w':=by
 have HP:Hid (RS w ((w.alloc (.cells x.arr TSn)).alloc (.cells #[.int .i64 0,.int .i64 0,.int .i64 0,.int .i64 0,.string ⟨#[]⟩,.string ⟨#[]⟩,.int .i64 0,.int .i64 0,.bool false] TSn)) w.heap.size (w.heap.size+1) x #[.int .i64 0,.int .i64 0,.int .i64 0,.int .i64 0,.string ⟨#[]⟩,.string ⟨#[]⟩,.int .i64 0,.int .i64 0,.bool false]):=by
  refine ⟨(At.box (Bk.new w x.arr TSn)).keep (Fr.alloc _ _ _),?_,(Fr.alloc (fun _=>False) w _).trans (Fr.alloc (fun _=>False) _ _) (fun _ _ h=>h) (fun _ _ h=>h),by omega,by omega⟩
  have:=Bk.new (w.alloc (.cells x.arr TSn)) #[.int .i64 0,.int .i64 0,.int .i64 0,.int .i64 0,.string ⟨#[]⟩,.string ⟨#[]⟩,.int .i64 0,.int .i64 0,.bool false] TSn
  rwa [World.size_alloc] at this
 go_enter func53,ntmps53
 go_upto_region 1 with (fail)
 refine k1 (by kernel_rfl) _ _ w _ w.heap.size (w.heap.size+1) x _ _ _ _ _ _ _ _ _ HP.out rfl rfl rfl ?_
 intro x_ w1 hst
 simp only [Eng.setAll,Act.put,List.setIfInBounds_toArray,List.set_cons_succ,List.set_cons_zero]
 have HR:=Lib.hid hst.r;have HF:=Lib.hid hst.f
 clear hst
 go_wp2_with fail
 exact bodyPost_ret (results_cell_row rfl _ _ (w.heap.size+1) TSn _ (0,0) _ rfl HR.out underlying48 rfl (by kernel_rfl)) rfl ⟨rfl,HF.out⟩
theorem less_drop {l m:List UInt8}:∀ (k:Nat),l.take k=m.take k→k≤l.length→k≤m.length→Op.bytesLess l m=Op.bytesLess (l.drop k) (m.drop k)
 |0,_,_,_=>rfl
 |k+1,h,h1,h2=>by
  cases l with
  |nil=>simp at h1
  |cons a l=>
   cases m with
   |nil=>simp at h2
   |cons b m=>
    rw [List.take_succ_cons,List.take_succ_cons,List.cons.injEq] at h
    obtain ⟨rfl,h⟩:=h
    rw [List.drop_succ_cons,List.drop_succ_cons,←less_drop k h (by simpa using h1) (by simpa using h2)]
    simp [Op.bytesLess]
theorem less_at {l m:List UInt8} {k:Nat} (h:l.take k=m.take k) (h1:k<l.length) (h2:k<m.length):Op.bytesLess l m=(decide (l[k]<m[k])||(l[k]==m[k]&&Op.bytesLess (l.drop (k+1)) (m.drop (k+1)))):=by
 rw [less_drop k h (by omega) (by omega),List.drop_eq_getElem_cons h1,List.drop_eq_getElem_cons h2];rfl
theorem bh4 {ops:Array Oper} (hops:Eng.fnOps Tryz.f83 4=ops) (a0:Act) (Q:Exit→Act→World→Prop) (w:World) (u v:ByteArray) (k:Nat) (_hk:k≤9223372036854775807) (ha:k<u.size) (hb:k<v.size)
  (hn:a0.tmps.size=32) (h_0:a0.tmps.getD 0 undef=.string u) (h_1:a0.tmps.getD 1 undef=.string v) (h_5:a0.tmps.getD 5 undef=.int .i64 (k:Int))
  (hpost:∀ (x:Nat→Value) (w':World),x 24=.bool (decide (v[k].toNat<u[k].toNat))→Fr (fun _=>False) w w'→Q .normal (Eng.setAll a0 [12,13,14,15,16,17,18,19,20,21,22,23,24] x) w'):
  (Code.region 4 ops true).wp prog Q a0 w:=by
 simp only [Eng.fnOps,Eng.regOps,Tryz.f83,Option.bind_some,Option.getD_some,Nat.reduceEqDiff,↓reduceIte] at hops
 subst hops
 have t1:decide (v.size≤k)=false:=by simp;omega
 have HSt:=Lib.hid (Fr.drew (fun _=>False) w)
 refine Eng.regionT (.take 0 (.take 1 (.take 2 (.take 3 (.take 4 (.take 5 (.take 6 (.take 7 (.take 8 (.take 9 (.take 10 (.take 11 (.take 12 (.done)))))))))))))) (fun w'=>True) (by kernel_rfl) 32 hn (by kernel_rfl) (by kernel_rfl) (by kernel_rfl) (trivial) (fun a b ha hb=>?_)
 subst ha
 have hb0:b 0=.string u:=(hb 0).symm.trans h_0
 have hb1:b 1=.string v:=(hb 1).symm.trans h_1
 have hb5:b 5=.int .i64 (k:Int):=(hb 5).symm.trans h_5
 clear hb h_0 h_1 h_5
 have HP:=Lib.hid hpost;have HN:=Lib.hid hn
 clear hpost hn
 iterate 13 (refine Eng.TW.tk ?_)
 refine Eng.TW.end_ [12,13,14,15,16,17,18,19,20,21,22,23,24] HN.out (by kernel_rfl) (by kernel_rfl) ?_
 exact HP.out _ _ rfl HSt.out
theorem bh4e {ops:Array Oper} (hops:Eng.fnOps Tryz.f83 4=ops) (a0:Act) (Q:Exit→Act→World→Prop) (w:World) (_u v:ByteArray) (k:Nat) (_hk:k≤9223372036854775807) (hb:v.size≤k)
  (hn:a0.tmps.size=32) (h_1:a0.tmps.getD 1 undef=.string v) (h_5:a0.tmps.getD 5 undef=.int .i64 (k:Int))
  (hpost:∀ (x:Nat→Value) (w':World),x 24=.bool true→Fr (fun _=>False) w w'→Q .normal (Eng.setAll a0 [12,13,14,15,16,17,18,19,20,21,22,23,24] x) w'):
  (Code.region 4 ops true).wp prog Q a0 w:=by
 simp only [Eng.fnOps,Eng.regOps,Tryz.f83,Option.bind_some,Option.getD_some,Nat.reduceEqDiff,↓reduceIte] at hops
 subst hops
 have t1:decide (v.size≤k)=true:=by simp;omega
 have HSt:=Lib.hid (Fr.drew (fun _=>False) w)
 refine Eng.regionT (.take 0 (.take 1 (.take 2 (.take 3 (.take 4 (.take 5 (.take 6 (.take 7 (.take 8 (.take 9 (.take 10 (.take 11 (.take 12 (.done)))))))))))))) (fun w'=>True) (by kernel_rfl) 32 hn (by kernel_rfl) (by kernel_rfl) (by kernel_rfl) (trivial) (fun a b ha hb=>?_)
 subst ha
 have hb1:b 1=.string v:=(hb 1).symm.trans h_1
 have hb5:b 5=.int .i64 (k:Int):=(hb 5).symm.trans h_5
 clear hb h_1 h_5
 have HP:=Lib.hid hpost;have HN:=Lib.hid hn
 clear hpost hn
 iterate 5 (refine Eng.TW.tk ?_)
 iterate 7 (refine Eng.TW.skip rfl rfl (by decide) (by kernel_rfl) ?_)
 refine Eng.TW.tk ?_
 refine Eng.TW.end_ [12,13,14,15,16,17,18,19,20,21,22,23,24] HN.out (by kernel_rfl) (by kernel_rfl) ?_
 exact HP.out _ _ rfl HSt.out
theorem bh6 {ops:Array Oper} (hops:Eng.fnOps Tryz.f83 6=ops) (a0:Act) (Q:Exit→Act→World→Prop) (w:World) (u v:ByteArray) (k:Nat) (_hk:k≤9223372036854775807) (ha:k<u.size) (hb:k<v.size)
  (hn:a0.tmps.size=32) (h_0:a0.tmps.getD 0 undef=.string u) (h_1:a0.tmps.getD 1 undef=.string v) (h_5:a0.tmps.getD 5 undef=.int .i64 (k:Int))
  (hpost:∀ (x:Nat→Value) (w':World),x 31=.bool (decide (u[k].toNat<v[k].toNat))→Fr (fun _=>False) w w'→Q .normal (Eng.setAll a0 [25,26,27,28,29,30,31] x) w'):
  (Code.region 6 ops true).wp prog Q a0 w:=by
 simp only [Eng.fnOps,Eng.regOps,Tryz.f83,Option.bind_some,Option.getD_some,Nat.reduceEqDiff,↓reduceIte] at hops
 subst hops
 have HSt:=Lib.hid (Fr.drew (fun _=>False) w)
 refine Eng.regionT (.take 0 (.take 1 (.take 2 (.take 3 (.take 4 (.take 5 (.take 6 (.done)))))))) (fun w'=>True) (by kernel_rfl) 32 hn (by kernel_rfl) (by kernel_rfl) (by kernel_rfl) (trivial) (fun a b ha hb=>?_)
 subst ha
 have hb0:b 0=.string u:=(hb 0).symm.trans h_0
 have hb1:b 1=.string v:=(hb 1).symm.trans h_1
 have hb5:b 5=.int .i64 (k:Int):=(hb 5).symm.trans h_5
 clear hb h_0 h_1 h_5
 have HP:=Lib.hid hpost;have HN:=Lib.hid hn
 clear hpost hn
 iterate 7 (refine Eng.TW.tk ?_)
 refine Eng.TW.end_ [25,26,27,28,29,30,31] HN.out (by kernel_rfl) (by kernel_rfl) ?_
 exact HP.out _ _ rfl HSt.out
theorem behind (a b:ByteArray) (ha:a.size≤9223372036854775807) (w:World):Calls prog 83 #[.string a,.string b] w fun e w'=>e=.returned (.bool (Op.bytesLess b.data.toList a.data.toList))∧Fr (fun _=>False) w w':=by
 obtain ⟨l,hL⟩:∃l,l=a.data.toList:=⟨_,rfl⟩
 obtain ⟨m,hM⟩:∃m,m=b.data.toList:=⟨_,rfl⟩
 obtain ⟨N,hN⟩:∃N,a.size=N:=⟨_,rfl⟩
 obtain ⟨M,hMs⟩:∃M,b.size=M:=⟨_,rfl⟩
 have HLa:Hid (∀k,∀ (h:k<a.size) (h':k<l.length),a[k]=l[k]):=fun k h h'=>by subst hL;rfl
 have HLb:Hid (∀k,∀ (h:k<b.size) (h':k<m.length),b[k]=m[k]):=fun k h h'=>by subst hM;rfl
 have HNl:Hid (l.length=N):=by show _=_;rw [hL,←hN];simp
 have HMl:Hid (m.length=M):=by show _=_;rw [hM,←hMs];simp
 rw [←hL,←hM]
 rw [hN] at ha
 clear hL hM
 go_enter func83,ntmps83
 go_wp2_with fail
 go_loopg [5] N (fun gk i wr=>∃k:Nat,i=.int .i64 k∧k≤N∧k≤M∧gk=N-k∧l.take k=m.take k∧Fr (fun _=>False) w wr)
 case atStart=>exact ⟨0,rfl,Nat.zero_le _,Nat.zero_le _,rfl,by simp,Fr.refl _ _⟩
 case round=>
  obtain ⟨k,rfl,hk,hkm,hg,heq,hf⟩:=hrel
  have HG:=Lib.hid hg;have HEq:=Lib.hid heq;have HF:=Lib.hid hf
  clear hg heq hf
  by_cases hlt:k<N
  ·have hka:k<a.size:=by rw [hN];exact hlt
   have hkl:k<l.length:=by rw [HNl.out];exact hlt
   by_cases hltm:k<M
   ·have hkb:k<b.size:=by rw [hMs];exact hltm
    have hkml:k<m.length:=by rw [HMl.out];exact hltm
    have HXa:=Lib.hid (HLa.out k hka hkl);have HXb:=Lib.hid (HLb.out k hkb hkml)
    have HAt:=Lib.hid (less_at HEq.out.symm hkml hkl)
    go_upto_region 4 with (fail)
    refine bh4 (by kernel_rfl) _ _ wr a b k (by omega) hka hkb rfl rfl rfl rfl ?_
    intro x w1 e2 hf
    simp only [Eng.setAll,Act.put,List.setIfInBounds_toArray,List.set_cons_succ,List.set_cons_zero]
    rw [e2]
    have HF1:=Lib.hid (HF.out.trans hf (T:=fun _=>False) (fun _ _ h=>h) (fun _ _ h=>h))
    clear e2 hf
    rw [←HXa.out,←HXb.out] at HAt
    have HNat:=Lib.hid (List.take_succ_eq_append_getElem hkl);have HNbt:=Lib.hid (List.take_succ_eq_append_getElem hkml)
    by_cases h1:b[k].toNat<a[k].toNat
    ·have t1:decide (b[k].toNat<a[k].toNat)=true:=by simpa using h1
     rw [t1]
     have HE:Hid (Op.bytesLess m l=true):=by show _=_;rw [HAt.out];simp [UInt8.lt_iff_toNat_lt,h1]
     clear h1
     go_wp2_with fail
     go_ret
     exact ⟨by rw [HE.out];rfl,HF1.out⟩
    ·have t1:decide (b[k].toNat<a[k].toNat)=false:=by simpa using h1
     rw [t1]
     go_upto_region 6 with (fail)
     refine bh6 (by kernel_rfl) _ _ w1 a b k (by omega) hka hkb rfl rfl rfl rfl ?_
     intro x w2 e2 hf
     simp only [Eng.setAll,Act.put,List.setIfInBounds_toArray,List.set_cons_succ,List.set_cons_zero]
     rw [e2]
     have HF2:=Lib.hid (HF1.out.trans hf (T:=fun _=>False) (fun _ _ h=>h) (fun _ _ h=>h))
     clear e2 hf
     by_cases h2:a[k].toNat<b[k].toNat
     ·have t2:decide (a[k].toNat<b[k].toNat)=true:=by simpa using h2
      rw [t2]
      have HE:Hid (Op.bytesLess m l=false):=by
       show _=_;rw [HAt.out]
       have:¬b[k]=a[k]:=fun e=>by rw [e] at h2;omega
       simp [UInt8.lt_iff_toNat_lt,h1,this]
      clear h1 h2
      go_wp2_with fail
      go_ret
      exact ⟨by rw [HE.out];rfl,HF2.out⟩
     ·have t2:decide (a[k].toNat<b[k].toNat)=false:=by simpa using h2
      rw [t2]
      have HE:Hid (a[k]=b[k]):=by show _=_;exact UInt8.toNat_inj.1 (by omega)
      clear h1 h2
      go_wp2_with fail
      go_roundg (N-(k+1))
      case rel=>exact ⟨k+1,by go_num,by omega,by omega,rfl,by rw [HNat.out,HNbt.out,HEq.out,←HXa.out,←HXb.out,HE.out],HF2.out⟩
      case measure=>have:=HG.out;omega
   ·go_upto_region 4 with (fail)
    refine bh4e (by kernel_rfl) _ _ wr a b k (by omega) (by omega) rfl rfl rfl ?_
    intro x w1 e2 hf
    simp only [Eng.setAll,Act.put,List.setIfInBounds_toArray,List.set_cons_succ,List.set_cons_zero]
    rw [e2]
    have HF1:=Lib.hid (HF.out.trans hf (T:=fun _=>False) (fun _ _ h=>h) (fun _ _ h=>h))
    clear e2 hf
    have HE:Hid (Op.bytesLess m l=true):=by
     show _=_
     rw [less_drop k HEq.out.symm (by rw [HMl.out];omega) (by omega),List.drop_eq_nil_of_le (by rw [HMl.out];omega),List.drop_eq_getElem_cons hkl];rfl
    go_wp2_with fail
    go_ret
    exact ⟨by rw [HE.out];rfl,HF1.out⟩
  ·obtain rfl:k=N:=by omega
   have HE:Hid (Op.bytesLess m l=false):=by
    show _=_
    rw [less_drop k HEq.out.symm (by rw [HMl.out];omega) (by rw [HNl.out];omega),show l.drop k= [] from List.drop_eq_nil_of_le (by rw [HNl.out];omega)]
    cases m.drop k<;>rfl
   go_wp2_with fail
   go_ret
   exact ⟨by rw [HE.out];rfl,HF.out⟩
theorem PutK (x:Sn) (hx:x.ok) (w:World):Calls prog 82 #[(Sat2.keptS x).v] w fun e w'=>e=.returned (.tuple #[.string (ks (bts x)),.int .i64 (mayN (Sat2.keptS x))])∧Fr (fun _=>False) w w':=Ref09.Put (Sat2.keptS x) (kept_ok hx) w
theorem bts_len {x:Sn} (hx:x.ok):(bts x).length≤111:=by
 unfold bts
 split
 ·rename_i h
  exact enc_len (may_iff.1 (by rw [kp_may];exact h)) (kp_ok hx)
 ·simp
theorem Newer (a b:Sn) (ha:a.ok) (hb:b.ok) (w:World):Calls prog 55 #[a.v,b.v] w fun e w'=>e=.returned (.bool (nwr a b))∧Fr (fun _=>False) w w':=by
 have HKa:=Lib.hid (fun W:World=>Kept a W)
 have HKb:=Lib.hid (fun W:World=>Kept b W)
 have HPa:=Lib.hid (fun W:World=>PutK a ha W)
 have HPb:=Lib.hid (fun W:World=>PutK b hb W)
 have hl:=bts_len ha
 have HS:=Lib.hid (fun W:World=>behind (ks (bts a)) (ks (bts b)) (by rw [ks_size];omega) W)
 have HF0:=Lib.hid ((Fr.alloc (fun _=>False) w (.cells a.arr TSn)).trans (Fr.alloc (fun _=>False) (w.alloc (.cells a.arr TSn)) (.cells b.arr TSn)) (T:=fun _=>False) (fun _ _ h=>h) (fun _ _ h=>h))
 have HA:=Lib.hid ((At.box (Bk.new w a.arr TSn)).keep (Fr.alloc (fun _=>False) (w.alloc (.cells a.arr TSn)) (.cells b.arr TSn)))
 have HB:Hid (At ((w.alloc (.cells a.arr TSn)).alloc (.cells b.arr TSn)) (w.heap.size+1) 0 b):=by
  have:=At.box (Bk.new (w.alloc (.cells a.arr TSn)) b.arr TSn)
  rwa [World.size_alloc] at this
 by_cases hc:a.r=b.r
 ·have HE:Hid (nwr a b=Op.bytesLess (bts b) (bts a)):=by show _=_;unfold nwr;rw [show decide (b.r<a.r)=false by simp;omega,show decide (a.r=b.r)=true by simpa using hc];rfl
  have hq:(a.r==b.r)=true:=by simpa using hc
  rw [ks_data,ks_data] at HS
  clear hc ha hb hl
  generalize ks (bts a)=Va at *
  generalize ks (bts b)=Vb at *
  obtain ⟨t,i,p,r,s,o,u,d,g⟩:=a
  obtain ⟨t',i',p',r',s',o',u',d',g'⟩:=b
  dsimp only at hq
  go_enter func55,ntmps55
  go_upto_region 3 with (fail)
  generalize (w.alloc (.cells (Sn.arr ⟨t,i,p,r,s,o,u,d,g⟩) TSn)).alloc (.cells (Sn.arr ⟨t',i',p',r',s',o',u',d',g'⟩) TSn)=w1 at *
  have c0:w1.cell? ⟨w.heap.size,0,none⟩=some (.int .i64 t):=HA.out 0 _ rfl
  have c1:w1.cell? ⟨w.heap.size,1,none⟩=some (.int .i64 i):=HA.out 1 _ rfl
  have c2:w1.cell? ⟨w.heap.size,2,none⟩=some (.int .i64 p):=HA.out 2 _ rfl
  have c3:w1.cell? ⟨w.heap.size,3,none⟩=some (.int .i64 r):=HA.out 3 _ rfl
  have c4:w1.cell? ⟨w.heap.size,4,none⟩=some (.string s):=HA.out 4 _ rfl
  have c5:w1.cell? ⟨w.heap.size,5,none⟩=some (.string o):=HA.out 5 _ rfl
  have c6:w1.cell? ⟨w.heap.size,6,none⟩=some (.int .i64 u):=HA.out 6 _ rfl
  have c7:w1.cell? ⟨w.heap.size,7,none⟩=some (.int .i64 d):=HA.out 7 _ rfl
  have c8:w1.cell? ⟨w.heap.size,8,none⟩=some (.bool g):=HA.out 8 _ rfl
  go_wp2_with fail
  refine (HKa.out _).mono ?_
  rintro e w2 ⟨rfl,hf⟩
  have HB2:=Lib.hid (HB.out.keep hf)
  have HF2:=Lib.hid (HF0.out.trans hf (T:=fun _=>False) (fun _ _ h=>h) (fun _ _ h=>h))
  clear hf c0 c1 c2 c3 c4 c5 c6 c7 c8
  go_wp2_with fail
  refine (HPa.out _).mono ?_
  rintro e w3 ⟨rfl,hf⟩
  have HB3:=Lib.hid (HB2.out.keep hf)
  have HF3:=Lib.hid (HF2.out.trans hf (T:=fun _=>False) (fun _ _ h=>h) (fun _ _ h=>h))
  clear hf
  have c0:w3.cell? ⟨w.heap.size+1,0,none⟩=some (.int .i64 t'):=HB3.out 0 _ rfl
  have c1:w3.cell? ⟨w.heap.size+1,1,none⟩=some (.int .i64 i'):=HB3.out 1 _ rfl
  have c2:w3.cell? ⟨w.heap.size+1,2,none⟩=some (.int .i64 p'):=HB3.out 2 _ rfl
  have c3:w3.cell? ⟨w.heap.size+1,3,none⟩=some (.int .i64 r'):=HB3.out 3 _ rfl
  have c4:w3.cell? ⟨w.heap.size+1,4,none⟩=some (.string s'):=HB3.out 4 _ rfl
  have c5:w3.cell? ⟨w.heap.size+1,5,none⟩=some (.string o'):=HB3.out 5 _ rfl
  have c6:w3.cell? ⟨w.heap.size+1,6,none⟩=some (.int .i64 u'):=HB3.out 6 _ rfl
  have c7:w3.cell? ⟨w.heap.size+1,7,none⟩=some (.int .i64 d'):=HB3.out 7 _ rfl
  have c8:w3.cell? ⟨w.heap.size+1,8,none⟩=some (.bool g'):=HB3.out 8 _ rfl
  go_wp2_with fail
  refine (HKb.out _).mono ?_
  rintro e w4 ⟨rfl,hf⟩
  have HF4:=Lib.hid (HF3.out.trans hf (T:=fun _=>False) (fun _ _ h=>h) (fun _ _ h=>h))
  clear hf c0 c1 c2 c3 c4 c5 c6 c7 c8
  go_wp2_with fail
  refine (HPb.out _).mono ?_
  rintro e w5 ⟨rfl,hf⟩
  have HF5:=Lib.hid (HF4.out.trans hf (T:=fun _=>False) (fun _ _ h=>h) (fun _ _ h=>h))
  clear hf
  go_wp2_with fail
  refine (HS.out _).mono ?_
  rintro e w6 ⟨rfl,hf⟩
  have HF6:=Lib.hid (HF5.out.trans hf (T:=fun _=>False) (fun _ _ h=>h) (fun _ _ h=>h))
  clear hf
  go_wp2_with fail
  go_ret
  exact ⟨by rw [HE.out];rfl,HF6.out⟩
 ·have HE:Hid (nwr a b=decide (b.r<a.r)):=by show _=_;unfold nwr;rw [show decide (a.r=b.r)=false by simpa using hc];simp
  have hq:(a.r==b.r)=false:=by simpa using hc
  clear hc ha hb hl
  obtain ⟨t,i,p,r,s,o,u,d,g⟩:=a
  obtain ⟨t',i',p',r',s',o',u',d',g'⟩:=b
  dsimp only at hq
  go_enter func55,ntmps55
  go_wp2_with fail
  go_ret
  exact ⟨by rw [HE.out];rfl,HF0.out⟩
end Ref10
end Go.Proofs.YtdpngmgaomghoaaGreatDoor
