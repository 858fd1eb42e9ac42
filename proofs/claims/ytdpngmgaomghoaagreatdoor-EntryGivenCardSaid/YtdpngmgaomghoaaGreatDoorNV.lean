/- The newest of records, as a map by their keys: the program's. -/
import Derived.Test.YtdpngmgaomghoaaGreatDoorAvlSS2
import Derived.Test.YtdpngmgaomghoaaGreatDoorRef10
import Derived.Sort.AtCallIn
import Derived.Maps.OwnIn
namespace Go.Proofs.YtdpngmgaomghoaaGreatDoor
open Tryz
set_option maxRecDepth 100000
set_option maxHeartbeats 4000000
open Go.RowKit
namespace Key
open KeyP
theorem Of' {a b:Int} (ha:wf64 a) (hb:wf64 b) (w:World):Calls prog 66 #[.int .i64 a,.int .i64 b] w fun e w'=>e=.returned (.string (key2 a b))∧Fr (fun _=>False) w w':=
 (Key.Of ha hb w).mono (fun _ _ ⟨h,hb⟩=>⟨h,(Fr.of_below hb).mono (fun i hi h=>by omega)⟩)
theorem Span' (x:Sn) (ha:wf64 x.t) (hb:wf64 x.i) (w:World):Calls prog 59 #[x.v] w fun e w'=>e=.returned (.string (key2 x.t x.i))∧Fr (fun _=>False) w w':=
 (Key.Span x ha hb w).mono (fun _ _ ⟨h,hb⟩=>⟨h,(Fr.of_below hb).mono (fun i hi h=>by omega)⟩)
end Key
namespace Newest
open KeyP PackP SetP SetW Name Code_ Rank
attribute [local go_sem] Eng.ev Eng.getO_cons Eng.getO_nil
abbrev TM:TypeId:=99
structure NS (w0 w:World) (L:List Sn):Prop where
 m:∃Fp,AvlSS.MapB w w0.heap.size (mp id L) Fp∧∀b∈Fp,w0.heap.size≤b
 b:Below w0.heap.size w0 w
 z:w0.heap.size<w.heap.size
theorem NS.fr {w0 w w':World} {L:List Sn} (h:NS w0 w L) (hf:Fr (fun _=>False) w w'):NS w0 w' L:=by
 obtain ⟨⟨Fp,h1,h2⟩,h3,h4⟩:=h
 exact ⟨⟨Fp,h1.fr hf (fun h=>h) (fun _ _ h=>h),h2⟩,h3.trans (hf.below (Nat.le_of_lt h4) (fun _ _ h=>h)),Nat.lt_of_lt_of_le h4 hf.size⟩
theorem NS.start (w:World):NS w (w.alloc (.cells #[.pointer none,.int .i64 0] TM)) []:=
 ⟨⟨[],AvlSS.MapB.new w,by simp⟩,(Below.refl _ _).alloc (Nat.le_refl _) _,by simp⟩
theorem NS.turn {w0 w w':World} {L L':List Sn} {Fp:List Nat} (_hm:AvlSS.MapB w w0.heap.size (mp id L) Fp) (hF:∀b∈Fp,w0.heap.size≤b) (hb:Below w0.heap.size w0 w) (hz:w0.heap.size<w.heap.size) (ht:AvlSS.Turned w0.heap.size Fp (mp id L') w w'):NS w0 w' L':=by
 obtain ⟨F',h1,h2,h3⟩:=ht
 exact ⟨⟨F',h1,fun b hb'=>by rcases h2 b hb' with h|h;exact hF b h;omega⟩,hb.trans (h3.below (Nat.le_of_lt hz) (fun k hk e=>by rcases e with e|e;omega;have:=hF k e;omega)),Nat.lt_of_lt_of_le hz h3.size⟩
structure N9 (w0 w:World) (Bv:Nat) (y:Sn) (L:List Sn) (Fp:List Nat):Prop where
 m:AvlSS.MapB w w0.heap.size (mp id L) Fp
 l:∀b∈Fp,w0.heap.size≤b
 b:Below w0.heap.size w0 w
 z:w0.heap.size<w.heap.size
 a:At w Bv 0 y
 n1:Bv≠w0.heap.size
 n2:Bv∉Fp
theorem N9.fr {w0 w w':World} {Bv:Nat} {y:Sn} {L:List Sn} {Fp:List Nat} (h:N9 w0 w Bv y L Fp) (hf:Fr (fun _=>False) w w'):N9 w0 w' Bv y L Fp:=
 ⟨h.m.fr hf (fun h=>h) (fun _ _ h=>h),h.l,h.b.trans (hf.below (Nat.le_of_lt h.z) (fun _ _ h=>h)),Nat.lt_of_lt_of_le h.z hf.size,h.a.keep hf,h.n1,h.n2⟩
structure N10 (w0 w:World) (Bv:Nat) (y:Sn) (L:List Sn):Prop where
 n:NS w0 w L
 a:At w Bv 0 y
theorem N9.turn {w0 w w':World} {Bv:Nat} {y:Sn} {L L':List Sn} {Fp:List Nat} (h:N9 w0 w Bv y L Fp) (hi:insL (kk y) y (mp id L)=mp id L') (ht:AvlSS.Turned w0.heap.size Fp (insL (kk y) y (mp id L)) w w'):N10 w0 w' Bv y L':=by
 rw [hi] at ht
 have hN:=NS.turn h.m h.l h.b h.z ht
 obtain ⟨F',h1,h2,h3⟩:=ht
 exact ⟨hN,h.a.fr h3 (fun e=>by rcases e with e|e;exact h.n1 e;exact h.n2 e)⟩
theorem nw9 {ops:Array Oper} (hops:Eng.fnOps Tryz.f35 9=ops) (a0:Act) (Q:Exit→Act→World→Prop) (w0 w:World) (Bv:Nat) (y:Sn) (L:List Sn) (Fp:List Nat) (hst:N9 w0 w Bv y L Fp) (ha:wf64 y.t) (hb:wf64 y.i) (sz:(mp id L).length<144115188075855872) (hi:insL (kk y) y (mp id L)=mp id (ins y L))
  (hn:a0.tmps.size=37) (h_3:a0.tmps.getD 3 undef=.pointer (some ⟨w0.heap.size,0,none⟩)) (h_5:a0.tmps.getD 5 undef=.pointer (some ⟨Bv,0,none⟩))
  (hpost:∀ (x:Nat→Value) (w':World),NS w0 w' (ins y L)→Q .normal (Eng.setAll a0 [32,33,34,35] x) w'):
  (Code.region 9 ops true).wp prog Q a0 w:=by
 simp only [Eng.fnOps,Eng.regOps,Tryz.f35,Option.bind_some,Option.getD_some,Nat.reduceEqDiff,↓reduceIte] at hops
 subst hops
 have HSt:=Lib.hid (hst.fr (Fr.drew _ _))
 refine Eng.regionT (.take 0 (.take 2 (.alt 1 (.alt 3 (.done) (.stop)) (.stop)))) (fun w'=>w'.cell? ⟨Bv,0,none⟩=some (.int .i64 y.t)∧w'.cell? ⟨Bv,1,none⟩=some (.int .i64 y.i)∧w'.cell? ⟨Bv,2,none⟩=some (.int .i64 y.p)∧w'.cell? ⟨Bv,3,none⟩=some (.int .i64 y.r)∧w'.cell? ⟨Bv,4,none⟩=some (.string y.s)∧w'.cell? ⟨Bv,5,none⟩=some (.string y.o)∧w'.cell? ⟨Bv,6,none⟩=some (.int .i64 y.b)∧w'.cell? ⟨Bv,7,none⟩=some (.int .i64 y.d)∧w'.cell? ⟨Bv,8,none⟩=some (.bool y.g)) (by kernel_rfl) 37 hn (by kernel_rfl) (by kernel_rfl) (by kernel_rfl) (⟨HSt.out.a 0 _ rfl,HSt.out.a 1 _ rfl,HSt.out.a 2 _ rfl,HSt.out.a 3 _ rfl,HSt.out.a 4 _ rfl,HSt.out.a 5 _ rfl,HSt.out.a 6 _ rfl,HSt.out.a 7 _ rfl,HSt.out.a 8 _ rfl⟩) (fun a b ha hb=>?_)
 subst ha
 have hb3:b 3=.pointer (some ⟨w0.heap.size,0,none⟩):=(hb 3).symm.trans h_3
 have hb5:b 5=.pointer (some ⟨Bv,0,none⟩):=(hb 5).symm.trans h_5
 clear hb h_3 h_5
 have HP:=Lib.hid hpost;have HN:=Lib.hid hn
 clear hpost hn
 refine Eng.TW.tk ?_
 refine Eng.TW.tk ?_
 refine Eng.TW.call rfl rfl (by decide) (by kernel_rfl) ?_ (Key.Span' y ha hb _) ?_
 ·go_simp
 rintro e w2 ⟨rfl,hf⟩
 have HSt2:=Lib.hid (HSt.out.fr hf)
 clear hf
 refine ⟨_,rfl,⟨HSt2.out.a 0 _ rfl,HSt2.out.a 1 _ rfl,HSt2.out.a 2 _ rfl,HSt2.out.a 3 _ rfl,HSt2.out.a 4 _ rfl,HSt2.out.a 5 _ rfl,HSt2.out.a 6 _ rfl,HSt2.out.a 7 _ rfl,HSt2.out.a 8 _ rfl⟩,?_⟩
 refine Eng.TW.call rfl rfl (by decide) (by kernel_rfl) ?_ (AvlSS.PutB w0.heap.size (kk y) y (mp id L) Fp _ HSt2.out.m sz) ?_
 ·go_simp
 rintro e w3 ⟨rfl,ht⟩
 have HSt3:=Lib.hid (HSt2.out.turn hi ht)
 clear ht
 refine ⟨_,rfl,⟨HSt3.out.a 0 _ rfl,HSt3.out.a 1 _ rfl,HSt3.out.a 2 _ rfl,HSt3.out.a 3 _ rfl,HSt3.out.a 4 _ rfl,HSt3.out.a 5 _ rfl,HSt3.out.a 6 _ rfl,HSt3.out.a 7 _ rfl,HSt3.out.a 8 _ rfl⟩,?_⟩
 refine Eng.TW.end_ [32,33,34,35] HN.out (by kernel_rfl) (by kernel_rfl) ?_
 exact HP.out _ _ HSt3.out.n
theorem restored {w:World} {R:Nat} {x q:Sn} (h:Bk w R x.arr TSn):Bk ((((((((((w.setCell ⟨R,0,none⟩ (.int .i64 q.t)).setCell ⟨R,1,none⟩ (.int .i64 q.i)).setCell ⟨R,2,none⟩ (.int .i64 q.p)).setCell ⟨R,3,none⟩ (.int .i64 q.r)).setCell ⟨R,4,none⟩ (.string q.s)).setCell ⟨R,5,none⟩ (.string q.o)).setCell ⟨R,6,none⟩ (.int .i64 q.b)).setCell ⟨R,7,none⟩ (.int .i64 q.d)).setCell ⟨R,8,none⟩ (.bool q.g))) R q.arr TSn∧Fr (fun b=>b=R) w ((((((((((w.setCell ⟨R,0,none⟩ (.int .i64 q.t)).setCell ⟨R,1,none⟩ (.int .i64 q.i)).setCell ⟨R,2,none⟩ (.int .i64 q.p)).setCell ⟨R,3,none⟩ (.int .i64 q.r)).setCell ⟨R,4,none⟩ (.string q.s)).setCell ⟨R,5,none⟩ (.string q.o)).setCell ⟨R,6,none⟩ (.int .i64 q.b)).setCell ⟨R,7,none⟩ (.int .i64 q.d)).setCell ⟨R,8,none⟩ (.bool q.g))):=
 ⟨Ref10.bks h,Ref10.frs (Ref10.frs (Ref10.frs (Ref10.frs (Ref10.frs (Ref10.frs (Ref10.frs (Ref10.frs (Ref10.frs (Fr.refl (fun b=>b=R) w)))))))))⟩
theorem N9.of {w0 wr w:World} {R:Nat} {q:Sn} {L:List Sn} (h:NS w0 wr L) (hR:R=wr.heap.size) (hf:Fr (fun b=>b=R) wr w) (ha:At w R 0 q):∃Fp,N9 w0 w R q L Fp:=by
 obtain ⟨⟨Fp,m1,m2⟩,m3,m4⟩:=h
 have hl:=m1.lt
 exact ⟨Fp,m1.fr hf (fun e=>by omega) (fun b hb e=>by have:=hl.2 b hb;omega),m2,m3.trans (hf.below (Nat.le_of_lt m4) (fun k hk e=>by omega)),Nat.lt_of_lt_of_le m4 hf.size,ha,by omega,fun hb=>by have:=hl.2 R hb;omega⟩
theorem put_no {L:List Sn} {x:Sn} (h:mayB x=false):PackP.put L x=L:=by unfold PackP.put;rw [h];rfl
theorem put_none {L:List Sn} {y q:Sn} (hq:kp y=q) (hm:mayB y=true) (hf:fnd q L=none):PackP.put L y=ins q L:=by
 subst hq
 unfold PackP.put;rw [hm,if_pos rfl,show fnd y L=none from hf]
theorem put_new {L:List Sn} {y q z:Sn} (hq:kp y=q) (hm:mayB y=true) (hf:fnd q L=some z) (hn:nwr q z=true):PackP.put L y=ins q L:=by
 subst hq
 unfold PackP.put;rw [hm,if_pos rfl,show fnd y L=some z from hf]
 show (if nwr (kp y) z=true then _ else _)=_
 rw [if_pos hn]
theorem put_old {L:List Sn} {y q z:Sn} (hq:kp y=q) (hm:mayB y=true) (hf:fnd q L=some z) (hn:nwr q z=false):PackP.put L y=L:=by
 subst hq
 unfold PackP.put;rw [hm,if_pos rfl,show fnd y L=some z from hf]
 show (if nwr (kp y) z=true then _ else _)=_
 rw [hn];rfl
theorem set_gk {l:List Sn} (hok:∀x∈l,x.ok):∀y∈setOf l,y.ok∧gk y:=fun y hy=>by
 obtain ⟨x,hx,-,rfl⟩:=(isSet l).of y hy
 have h:=kp_ok (hok x hx)
 exact ⟨h,h.t,h.i⟩
theorem newest (A:Option Addr) (c:Nat) (L:List Sn) (w:World) (hS:Sl w 9 A L.length c (L.flatMap scs)) (hlen:L.length≤1000000) (hok:∀x∈L,x.ok):
  Calls prog 35 #[.slice A L.length c] w fun e w'=>e=.returned (.pointer (some ⟨w.heap.size,0,none⟩))∧NS w w' (setOf L):=by
 have HS:=Lib.hid hS
 have HOk:=Lib.hid hok
 have HN0:=Lib.hid (NS.start w)
 clear hS hok
 go_enter func35,ntmps35
 go_wp2_with fail
 go_loopg [10] L.length (fun gk i wr=>∃k:Nat,i=.int .i64 k∧k≤L.length∧gk=L.length-k∧NS w wr (setOf (L.take k)))
 case atStart=>exact ⟨0,rfl,Nat.zero_le _,rfl,HN0.out⟩
 case round=>
  clear HN0
  obtain ⟨k,rfl,hk,hg,hns⟩:=hrel
  have HG:=Lib.hid hg;have HN:=Lib.hid hns
  clear hg hns
  by_cases hlt:k<L.length
  ·obtain ⟨b1,o1,rfl,hb1,c1⟩:=HS.out.at hlt (by omega)
   have HA:=Lib.hid ((At.row c1 hlt).fr (Fr.of_below' HN.out.b (fun _=>False)) (fun h=>h))
   have HSn:Hid (setOf (L.take (k+1))=PackP.put (setOf (L.take k)) L[k]):=by show _=_;rw [List.take_succ_eq_append_getElem hlt,setOf_snoc]
   have HY:=Lib.hid (HOk.out _ (List.getElem_mem hlt))
   clear c1 hb1
   generalize L[k]=y at *
   have HM:=Lib.hid (fun W:World=>May_ y HY.out W)
   have HKp:=Lib.hid (fun W:World=>Sat2.Kept y W)
   obtain ⟨d0,d1,d2,d3,d4,d5,d6,d7,d8⟩:=SetW.at9 HA.out
   go_upto_region 5 with (fail)
   have s2:=Bk.new wr y.arr TSn
   have s1:=At.box s2
   have s3:=Fr.alloc (fun _=>False) wr (.cells y.arr TSn)
   generalize (wr.alloc (.cells y.arr TSn))=w1 at *
   have HA1:=Lib.hid s1;have HB1:=Lib.hid s2;have HN1:=Lib.hid (HN.out.fr s3)
   have HF1:=Lib.hid s3
   clear s1 s2 s3 d0 d1 d2 d3 d4 d5 d6 d7 d8
   have c0:w1.cell? ⟨wr.heap.size,0,none⟩=some (.int .i64 y.t):=HA1.out 0 _ rfl
   have c1:w1.cell? ⟨wr.heap.size,1,none⟩=some (.int .i64 y.i):=HA1.out 1 _ rfl
   have c2:w1.cell? ⟨wr.heap.size,2,none⟩=some (.int .i64 y.p):=HA1.out 2 _ rfl
   have c3:w1.cell? ⟨wr.heap.size,3,none⟩=some (.int .i64 y.r):=HA1.out 3 _ rfl
   have c4:w1.cell? ⟨wr.heap.size,4,none⟩=some (.string y.s):=HA1.out 4 _ rfl
   have c5:w1.cell? ⟨wr.heap.size,5,none⟩=some (.string y.o):=HA1.out 5 _ rfl
   have c6:w1.cell? ⟨wr.heap.size,6,none⟩=some (.int .i64 y.b):=HA1.out 6 _ rfl
   have c7:w1.cell? ⟨wr.heap.size,7,none⟩=some (.int .i64 y.d):=HA1.out 7 _ rfl
   have c8:w1.cell? ⟨wr.heap.size,8,none⟩=some (.bool y.g):=HA1.out 8 _ rfl
   go_wp2_with fail
   refine (HM.out _).mono ?_
   rintro e w2 ⟨rfl,hf⟩
   have HA2:=Lib.hid (HA1.out.keep hf);have HB2:=Lib.hid (HB1.out.fr hf (fun _ _ h=>h));have HN2:=Lib.hid (HN1.out.fr hf);have HF12:=Lib.hid hf
   clear hf c0 c1 c2 c3 c4 c5 c6 c7 c8
   cases hm:mayB y with
   |false=>
    have e0:mayN y=1:=by unfold mayN;rw [hm];rfl
    have HE:Hid (setOf (L.take (k+1))=setOf (L.take k)):=by show _=_;rw [HSn.out,put_no hm]
    rw [e0]
    go_wp2_with fail
    go_roundg (L.length-(k+1))
    case rel=>exact ⟨k+1,by go_num,by omega,rfl,by rw [HE.out];exact HN2.out⟩
    case measure=>have:=HG.out;omega
   |true=>
    have e0:mayN y=0:=by unfold mayN;rw [hm];rfl
    rw [e0]
    obtain ⟨q,hq⟩:∃q,Sat2.keptS y=q:=⟨_,rfl⟩
    rw [hq] at HKp
    have HQ:Hid (kp y=q):=hq
    have HT:Hid (wf64 q.t∧wf64 q.i∧q.ok):=by
     have h:=kp_ok HY.out
     rw [HQ.out] at h
     exact ⟨h.t,h.i,h⟩
    clear hq
    have c0:w2.cell? ⟨wr.heap.size,0,none⟩=some (.int .i64 y.t):=HA2.out 0 _ rfl
    have c1:w2.cell? ⟨wr.heap.size,1,none⟩=some (.int .i64 y.i):=HA2.out 1 _ rfl
    have c2:w2.cell? ⟨wr.heap.size,2,none⟩=some (.int .i64 y.p):=HA2.out 2 _ rfl
    have c3:w2.cell? ⟨wr.heap.size,3,none⟩=some (.int .i64 y.r):=HA2.out 3 _ rfl
    have c4:w2.cell? ⟨wr.heap.size,4,none⟩=some (.string y.s):=HA2.out 4 _ rfl
    have c5:w2.cell? ⟨wr.heap.size,5,none⟩=some (.string y.o):=HA2.out 5 _ rfl
    have c6:w2.cell? ⟨wr.heap.size,6,none⟩=some (.int .i64 y.b):=HA2.out 6 _ rfl
    have c7:w2.cell? ⟨wr.heap.size,7,none⟩=some (.int .i64 y.d):=HA2.out 7 _ rfl
    have c8:w2.cell? ⟨wr.heap.size,8,none⟩=some (.bool y.g):=HA2.out 8 _ rfl
    go_wp2_with fail
    refine (HKp.out _).mono ?_
    rintro e w3 ⟨rfl,hf⟩
    have HB3:=Lib.hid (HB2.out.fr hf (fun _ _ h=>h))
    have HF13:=Lib.hid (HF12.out.trans hf (T:=fun _=>False) (fun _ _ h=>h) (fun _ _ h=>h))
    clear hf c0 c1 c2 c3 c4 c5 c6 c7 c8
    have r0:w3.cell? ⟨wr.heap.size,0,none⟩=some (.int .i64 y.t):=HB3.out.cell 0
    have q0:w3.frozen? ⟨wr.heap.size,0,none⟩=false:=HB3.out.free 0
    have r1:w3.cell? ⟨wr.heap.size,1,none⟩=some (.int .i64 y.i):=HB3.out.cell 1
    have q1:w3.frozen? ⟨wr.heap.size,1,none⟩=false:=HB3.out.free 1
    have r2:w3.cell? ⟨wr.heap.size,2,none⟩=some (.int .i64 y.p):=HB3.out.cell 2
    have q2:w3.frozen? ⟨wr.heap.size,2,none⟩=false:=HB3.out.free 2
    have r3:w3.cell? ⟨wr.heap.size,3,none⟩=some (.int .i64 y.r):=HB3.out.cell 3
    have q3:w3.frozen? ⟨wr.heap.size,3,none⟩=false:=HB3.out.free 3
    have r4:w3.cell? ⟨wr.heap.size,4,none⟩=some (.string y.s):=HB3.out.cell 4
    have q4:w3.frozen? ⟨wr.heap.size,4,none⟩=false:=HB3.out.free 4
    have r5:w3.cell? ⟨wr.heap.size,5,none⟩=some (.string y.o):=HB3.out.cell 5
    have q5:w3.frozen? ⟨wr.heap.size,5,none⟩=false:=HB3.out.free 5
    have r6:w3.cell? ⟨wr.heap.size,6,none⟩=some (.int .i64 y.b):=HB3.out.cell 6
    have q6:w3.frozen? ⟨wr.heap.size,6,none⟩=false:=HB3.out.free 6
    have r7:w3.cell? ⟨wr.heap.size,7,none⟩=some (.int .i64 y.d):=HB3.out.cell 7
    have q7:w3.frozen? ⟨wr.heap.size,7,none⟩=false:=HB3.out.free 7
    have r8:w3.cell? ⟨wr.heap.size,8,none⟩=some (.bool y.g):=HB3.out.cell 8
    have q8:w3.frozen? ⟨wr.heap.size,8,none⟩=false:=HB3.out.free 8
    go_upto_region 7 with (fail)
    obtain ⟨s1,s2⟩:=restored (q:=q) HB3.out
    generalize (((((((((w3.setCell ⟨wr.heap.size,0,none⟩ (.int .i64 q.t)).setCell ⟨wr.heap.size,1,none⟩ (.int .i64 q.i)).setCell ⟨wr.heap.size,2,none⟩ (.int .i64 q.p)).setCell ⟨wr.heap.size,3,none⟩ (.int .i64 q.r)).setCell ⟨wr.heap.size,4,none⟩ (.string q.s)).setCell ⟨wr.heap.size,5,none⟩ (.string q.o)).setCell ⟨wr.heap.size,6,none⟩ (.int .i64 q.b)).setCell ⟨wr.heap.size,7,none⟩ (.int .i64 q.d)).setCell ⟨wr.heap.size,8,none⟩ (.bool q.g))=w4 at *
    clear r0 r1 r2 r3 r4 r5 r6 r7 r8 q0 q1 q2 q3 q4 q5 q6 q7 q8
    have hF4:Fr (fun b=>b=wr.heap.size) wr w4:=(HF1.out.trans (HF13.out) (T:=fun _=>False) (fun _ _ h=>h) (fun _ _ h=>h)).trans s2 (fun _ _ h=>h.elim) (fun _ _ h=>h)
    obtain ⟨Fp,h9⟩:=N9.of HN.out rfl hF4 (At.box s1)
    have H9:=Lib.hid h9
    clear s1 s2 hF4 h9
    have c0:w4.cell? ⟨wr.heap.size,0,none⟩=some (.int .i64 q.t):=H9.out.a 0 _ rfl
    have c1:w4.cell? ⟨wr.heap.size,1,none⟩=some (.int .i64 q.i):=H9.out.a 1 _ rfl
    have c2:w4.cell? ⟨wr.heap.size,2,none⟩=some (.int .i64 q.p):=H9.out.a 2 _ rfl
    have c3:w4.cell? ⟨wr.heap.size,3,none⟩=some (.int .i64 q.r):=H9.out.a 3 _ rfl
    have c4:w4.cell? ⟨wr.heap.size,4,none⟩=some (.string q.s):=H9.out.a 4 _ rfl
    have c5:w4.cell? ⟨wr.heap.size,5,none⟩=some (.string q.o):=H9.out.a 5 _ rfl
    have c6:w4.cell? ⟨wr.heap.size,6,none⟩=some (.int .i64 q.b):=H9.out.a 6 _ rfl
    have c7:w4.cell? ⟨wr.heap.size,7,none⟩=some (.int .i64 q.d):=H9.out.a 7 _ rfl
    have c8:w4.cell? ⟨wr.heap.size,8,none⟩=some (.bool q.g):=H9.out.a 8 _ rfl
    go_wp2_with fail
    refine (Key.Span' q HT.out.1 HT.out.2.1 _).mono ?_
    rintro e w5 ⟨rfl,hf⟩
    have H5:=Lib.hid (H9.out.fr hf)
    clear hf c0 c1 c2 c3 c4 c5 c6 c7 c8
    go_wp2_with fail
    refine (AvlSS.GetB w.heap.size (key2 q.t q.i) _ Fp _ H5.out.m).mono ?_
    rintro e w6 ⟨rfl,hf⟩
    have H6:=Lib.hid (H5.out.fr hf)
    clear hf
    have hgk:=set_gk (l:=L.take k) (fun x hx=>HOk.out x (List.mem_of_mem_take hx))
    have hget:getL (key2 q.t q.i) (mp id (setOf (L.take k)))=(fnd q (setOf (L.take k))).map id:=get_mp (f:=id) ⟨HT.out.1,HT.out.2.1⟩ (fun y hy=>(hgk y hy).2)
    have HI:Hid (insL (kk q) q (mp id (setOf (L.take k)))=mp id (ins q (setOf (L.take k)))):=ins_mp (f:=id) (setOf_ok _).srs ⟨HT.out.1,HT.out.2.1⟩ (fun y hy=>(hgk y hy).2)
    have HLen:Hid ((mp id (setOf (L.take k))).length<144115188075855872):=by
     show _<_
     have h1:=setOf_len (L.take k)
     rw [List.length_map]
     rw [List.length_take] at h1;omega
    cases hfn:fnd q (setOf (L.take k)) with
    |none=>
     have HE:Hid (setOf (L.take (k+1))=ins q (setOf (L.take k))):=by show _=_;rw [HSn.out,put_none HQ.out hm hfn]
     rw [hget,hfn]
     clear hget hgk hfn
     go_upto_region 9 with (fail)
     have H7:=Lib.hid (H6.out.fr (Fr.alloc (fun _=>False) w6 (.cells (AvlSS.varr (⟨0,0,0,0,ByteArray.empty,ByteArray.empty,0,0,false⟩:Sn)) TSn)))
     refine nw9 (by kernel_rfl) _ _ w _ wr.heap.size q (setOf (L.take k)) Fp H7.out HT.out.1 HT.out.2.1 HLen.out HI.out rfl rfl rfl ?_
     intro x w8 hn8
     simp only [Eng.setAll,Act.put,List.setIfInBounds_toArray,List.set_cons_succ,List.set_cons_zero]
     have H8:=Lib.hid hn8
     clear hn8
     go_wp2_with fail
     go_roundg (L.length-(k+1))
     case rel=>exact ⟨k+1,by go_num,by omega,rfl,by rw [HE.out];exact H8.out⟩
     case measure=>have:=HG.out;omega
    |some z=>
     have hz:=hgk z (fnd_some hfn).1
     have HNw:=Lib.hid (fun W:World=>Newer q z HT.out.2.2 hz.1 W)
     rw [hget,hfn]
     have HFn:=Lib.hid hfn
     clear hget hgk hfn hz
     go_upto_region 8 with (fail)
     have H7:=Lib.hid (H6.out.fr (Fr.alloc (fun _=>False) w6 (.cells z.arr TSn)))
     have HZ:=Lib.hid (At.box (Bk.new w6 z.arr TSn))
     generalize (w6.alloc (.cells z.arr TSn))=w7 at *
     have c0:w7.cell? ⟨wr.heap.size,0,none⟩=some (.int .i64 q.t):=H7.out.a 0 _ rfl
     have c1:w7.cell? ⟨wr.heap.size,1,none⟩=some (.int .i64 q.i):=H7.out.a 1 _ rfl
     have c2:w7.cell? ⟨wr.heap.size,2,none⟩=some (.int .i64 q.p):=H7.out.a 2 _ rfl
     have c3:w7.cell? ⟨wr.heap.size,3,none⟩=some (.int .i64 q.r):=H7.out.a 3 _ rfl
     have c4:w7.cell? ⟨wr.heap.size,4,none⟩=some (.string q.s):=H7.out.a 4 _ rfl
     have c5:w7.cell? ⟨wr.heap.size,5,none⟩=some (.string q.o):=H7.out.a 5 _ rfl
     have c6:w7.cell? ⟨wr.heap.size,6,none⟩=some (.int .i64 q.b):=H7.out.a 6 _ rfl
     have c7:w7.cell? ⟨wr.heap.size,7,none⟩=some (.int .i64 q.d):=H7.out.a 7 _ rfl
     have c8:w7.cell? ⟨wr.heap.size,8,none⟩=some (.bool q.g):=H7.out.a 8 _ rfl
     have e0:w7.cell? ⟨w6.heap.size,0,none⟩=some (.int .i64 z.t):=HZ.out 0 _ rfl
     have e1:w7.cell? ⟨w6.heap.size,1,none⟩=some (.int .i64 z.i):=HZ.out 1 _ rfl
     have e2:w7.cell? ⟨w6.heap.size,2,none⟩=some (.int .i64 z.p):=HZ.out 2 _ rfl
     have e3:w7.cell? ⟨w6.heap.size,3,none⟩=some (.int .i64 z.r):=HZ.out 3 _ rfl
     have e4:w7.cell? ⟨w6.heap.size,4,none⟩=some (.string z.s):=HZ.out 4 _ rfl
     have e5:w7.cell? ⟨w6.heap.size,5,none⟩=some (.string z.o):=HZ.out 5 _ rfl
     have e6:w7.cell? ⟨w6.heap.size,6,none⟩=some (.int .i64 z.b):=HZ.out 6 _ rfl
     have e7:w7.cell? ⟨w6.heap.size,7,none⟩=some (.int .i64 z.d):=HZ.out 7 _ rfl
     have e8:w7.cell? ⟨w6.heap.size,8,none⟩=some (.bool z.g):=HZ.out 8 _ rfl
     go_wp2_with fail
     refine (HNw.out _).mono ?_
     rintro e w8 ⟨rfl,hf⟩
     have H8:=Lib.hid (H7.out.fr hf)
     clear hf c0 c1 c2 c3 c4 c5 c6 c7 c8 e0 e1 e2 e3 e4 e5 e6 e7 e8
     cases hnw:nwr q z with
     |true=>
      have HE:Hid (setOf (L.take (k+1))=ins q (setOf (L.take k))):=by show _=_;rw [HSn.out,put_new HQ.out hm HFn.out hnw]
      go_upto_region 9 with (fail)
      refine nw9 (by kernel_rfl) _ _ w _ wr.heap.size q (setOf (L.take k)) Fp H8.out HT.out.1 HT.out.2.1 HLen.out HI.out rfl rfl rfl ?_
      intro x w9 hn8
      simp only [Eng.setAll,Act.put,List.setIfInBounds_toArray,List.set_cons_succ,List.set_cons_zero]
      have H9':=Lib.hid hn8
      clear hn8
      go_wp2_with fail
      go_roundg (L.length-(k+1))
      case rel=>exact ⟨k+1,by go_num,by omega,rfl,by rw [HE.out];exact H9'.out⟩
      case measure=>have:=HG.out;omega
     |false=>
      have HE:Hid (setOf (L.take (k+1))=setOf (L.take k)):=by show _=_;rw [HSn.out,put_old HQ.out hm HFn.out hnw]
      go_wp2_with fail
      go_roundg (L.length-(k+1))
      case rel=>exact ⟨k+1,by go_num,by omega,rfl,by rw [HE.out];exact ⟨⟨Fp,H8.out.m,H8.out.l⟩,H8.out.b,H8.out.z⟩⟩
      case measure=>have:=HG.out;omega
  ·obtain rfl:k=L.length:=by omega
   rw [List.take_length] at HN
   go_wp2_with fail
   go_ret
   exact ⟨rfl,HN.out⟩
end Newest
set_option maxRecDepth 100000
set_option maxHeartbeats 1000000
open Go.RowKit Go.Shelf
attribute [local go_sem] Oper.semAt_some
namespace Values
open KeyP PackP SetP SetW
theorem All_any (B off:Nat) (w:World):Calls prog 62 #[.pointer (some ⟨B,off,none⟩)] w fun e w'=>e=.returned (.func (.func 89) #[] #[.pointer (some ⟨w.heap.size,0,none⟩)])∧w.alloc (.cells #[.pointer (some ⟨B,off,none⟩)] 75)=w':=AvlSS.All _ w
theorem values (B:Nat) (L:List Sn) (F:List Nat) (w:World) (h:AvlSS.MapB w B (mp id L) F) (sz:L.length≤1000000):
  Calls prog 52 #[.pointer (some ⟨B,0,none⟩)] w (OwnPost L w):=by
 obtain ⟨i0,hi,hz0,hz1_,hz2⟩:=info_parts infoS
 have hFlt:=h.lt
 have hMP:=h.mapP
 have HAll:=fun w=>Lib.hid (All_any B 0 w)
 have hBl:=hFlt.1
 clear h
 refine (callsIn_wide (n:=3)).1 ?_
 refine callsIn_of_wp_marks func52 rfl trivial ?_ rfl
 simp only [ntmps52,List.size_toArray,List.length_cons,List.length_nil,Nat.reduceAdd,Nat.reduceSub,Array.replicate_succ,Array.replicate_zero,List.push_toArray,List.append_toArray,List.nil_append,List.cons_append]
 refine wpIn_wide.2 ?_
 go_wp2_with fail
 refine (HAll _).out.mono ?_
 rintro e w1 ⟨rfl,rfl⟩
 go_wp2_with fail
 have fa:=fun (w:World) (o:Obj)=>Fr.alloc (fun _=>False) w o
 have nn:∀G:List Nat,∀b∈G,¬False:=fun _ _ _ h=>h
 have hs0:((w.alloc (.cells #[.slice none 0 0] TSs)).alloc (.cells #[.pointer (some ⟨B,0,none⟩)] 75)).heap.size=w.heap.size+2:=by simp
 have bo:Bk ((w.alloc (.cells #[.slice none 0 0] TSs)).alloc (.cells #[.pointer (some ⟨B,0,none⟩)] 75)) w.heap.size #[.slice none 0 0] TSs:=(Bk.new w _ _).fr (fa _ _) (nn _)
 have hcc:((w.alloc (.cells #[.slice none 0 0] TSs)).alloc (.cells #[.pointer (some ⟨B,0,none⟩)] 75)).cell? ⟨w.heap.size+1,0,none⟩=some (.pointer (some ⟨B,0,none⟩)):=by
  have:=(Bk.new (w.alloc (.cells #[.slice none 0 0] TSs)) #[.pointer (some ⟨B,0,none⟩)] 75).cell 0
  rw [World.size_alloc] at this
  exact this
 have hb0:Below w.heap.size w ((w.alloc (.cells #[.slice none 0 0] TSs)).alloc (.cells #[.pointer (some ⟨B,0,none⟩)] 75)):=((Below.refl _ w).alloc (Nat.le_refl _) _).alloc (by simp) _
 have hM0:=hMP.below hb0
 generalize ((w.alloc (.cells #[.slice none 0 0] TSs)).alloc (.cells #[.pointer (some ⟨B,0,none⟩)] 75))=W0 at *
 have HS0:=Lib.hid hs0
 have HB0:=Lib.hid hb0
 have n0:w.heap.size+1<W0.heap.size:=by omega
 clear hs0 fa hMP HAll hb0
 refine (wpIn_wide (n:=3)).1 ?_
 refine range_B (n:=3) (a₁:=?fr) (gf:=89) (lb:= #[.pointer (some ⟨w.heap.size+1,0,none⟩)]) rfl (enters_of func89 (by kernel_rfl) rfl)
  (AvlSS.All_seq F (w.heap.size+1) (some ⟨B,0,none⟩) (mp id L) F W0 hcc n0 hM0 (fun _ h=>h)) (fun b hb=>by have:=hFlt.2 b hb;have:=HS0.out;omega) (fun _=>rfl)
  (fun (pre:List (ByteArray × Sn)) (W:World)=>Coll w.heap.size W0.heap.size (W0.heap.size+2+0) w.heap.size TSs TSn 9 w W pre.length ((L.take pre.length).flatMap scs)∧W0.heap.size≤W.heap.size)
  (fun k (pre:List (ByteArray × Sn)) (W:World)=>False)
  (fun pre A C h hf=>⟨h.1.abide hf (by omega) (fun h=>by have:=h.1;omega) (by have:=h.2;omega),Nat.le_trans h.2 hf.size⟩)
  (fun k pre A C h hf=>h)
  ⟨Coll.start bo HB0.out,Nat.le_refl _⟩ (fun x=>x.2.arr) TSn (fun pre W o h hsz=>⟨h.1.alloc o (by have:=h.2;omega),by simp;omega⟩) ?assign ?body ?done ?stop
 case assign=>
  intro l m x W b K hb hK
  gi_wp2_with fail
  exact hK
 case body=>
  rintro l m pre x b W ⟨hI,hsz0⟩ hbk hbb hsz hpre rfl ⟨r,hl⟩ hd
  (try dsimp only)
  have hlt:pre.length<L.length:=by have:=hpre.length_le;rw [List.length_append,List.length_singleton,List.length_map] at this;omega
  have hx:x=(kk L[pre.length],L[pre.length]):=by
   obtain ⟨t,ht⟩:=hpre
   have h1:(mp id L)[pre.length]? =some x:=by rw [←ht];simp
   rw [List.getElem?_map,List.getElem?_eq_getElem hlt] at h1
   simpa using h1.symm
  subst hx
  have HTk:=Lib.hid (List.take_succ_eq_append_getElem hlt)
  generalize L[pre.length]=y at *
  obtain ⟨v,hv,hown,hbel,hout⟩:=hI
  have cv:W.cell? ⟨w.heap.size,0,none⟩=some v:=hv.cell 0
  have fv:=hv.free 0
  have hn1:w.heap.size≤W.heap.size:=by omega
  have HV:=Lib.hid hv;have HO:=Lib.hid hown;have HBe:=Lib.hid hbel;have HOut:=Lib.hid hout
  have HL:=Lib.hid hl;have HD:=Lib.hid hd;have HSz:=Lib.hid hsz;have HSz0:=Lib.hid hsz0
  have hown':=hown.alloc (.cells y.arr TSn)
  have c0:W.cell? ⟨b,0,none⟩=some (.int .i64 y.t):=hbk.cell 0
  have c1:W.cell? ⟨b,1,none⟩=some (.int .i64 y.i):=hbk.cell 1
  have c2:W.cell? ⟨b,2,none⟩=some (.int .i64 y.p):=hbk.cell 2
  have c3:W.cell? ⟨b,3,none⟩=some (.int .i64 y.r):=hbk.cell 3
  have c4:W.cell? ⟨b,4,none⟩=some (.string y.s):=hbk.cell 4
  have c5:W.cell? ⟨b,5,none⟩=some (.string y.o):=hbk.cell 5
  have c6:W.cell? ⟨b,6,none⟩=some (.int .i64 y.b):=hbk.cell 6
  have c7:W.cell? ⟨b,7,none⟩=some (.int .i64 y.d):=hbk.cell 7
  have c8:W.cell? ⟨b,8,none⟩=some (.bool y.g):=hbk.cell 8
  clear hv hown hbel hout hl hd hpre hbk
  gi_wp2_with (gi_at_builtin;refine wpListIn_append_own _ rfl (.tmp 10) (.tmp 12) TSs rfl w.heap.size TSn i0 (.agg #[.int .i64 0,.int .i64 0,.int .i64 0,.int .i64 0,.string ByteArray.empty,.string ByteArray.empty,.int .i64 0,.int .i64 0,.bool false]) 9 88 underlying31 hi hz0 hz1_ hz2 rfl (by decide) _ _ _ rfl hown' ⟨W.heap.size,0,none⟩ 1 1 y.cs rfl rfl (new_cells W TSn y.cs) (by simp [Value.oneCell']) (by unfold maxLen;omega) (by omega) (by simp;omega) ?_)
  intro v' w2 hown1 hgrow _
  obtain ⟨g',cap',rfl⟩:=ownsRow_succ hown1
  have hb:¬Rg W0.heap.size (W0.heap.size+2+0) w.heap.size:=fun h=>by have:=h.1;have:=HS0.out;omega
  obtain ⟨k1,k2,k3⟩:=Coll.step HV.out HO.out HBe.out HOut.out (by decide) hn1 (by omega) hb HL.out HD.out hown1 hgrow
  have cv1:w2.cell? ⟨w.heap.size,0,none⟩=some v:=k1.cell 0
  have fv1:=k1.free 0
  have K2:=Lib.hid k2;have K3:=Lib.hid k3;have KO:=Lib.hid (ownsRow_blk HO.out)
  clear k1 k2 k3 hown1 hgrow hown' cv fv c0 c1 c2 c3 c4 c5 c6 c7 c8
  gi_wp2_with fail
  have hs1:=HS0.out
  have hF3:=K3.out
  refine ⟨KeptR.of_fr hF3 hsz ?_,hF3.size,KeptL.of_fr hF3 (fun b hb=>⟨by have:=hFlt.2 b hb;omega,?_⟩),⟨?_,by have:=hF3.size;omega⟩⟩
  ·rintro b hr (e|e)
   ·exact hb (e▸hr)
   ·exact HOut.out b e hr
  ·rintro (e|e)
   ·have:=hFlt.2 b hb;omega
   ·have:=(KO.out b e).1;have:=hFlt.2 b hb;omega
  ·rw [List.length_append,List.length_singleton,HTk.out]
   simpa using K2.out
 case done=>
  rintro W hsz ⟨hI,hsz0⟩ hK
  rw [List.length_map] at hI
  obtain ⟨v,hv,hown,hbel,hout⟩:=hI
  rw [List.take_length] at hown
  have cv:W.cell? ⟨w.heap.size,0,none⟩=some v:=hv.cell 0
  have HO:=Lib.hid hown;have HBe:=Lib.hid hbel;have HOut:=Lib.hid hout;have HK:=Lib.hid hK
  clear hv hown hbel hout hK hM0 hcc bo
  obtain ⟨A,cA,rfl,-,-⟩:=Sl.of_own HO.out
  go_wp2_with fail
  try rw [Exit.noGoto_ret]
  refine ⟨by simp,.inl ⟨_,_,rfl,run_takeDeferred HK.out,?_⟩⟩
  have hs1:=HS0.out
  have hf:=Fr.putObj W W0.heap.size (.deferred none) (S:=(· =W0.heap.size)) rfl
  refine ⟨_,by simp [results,Tryz.results52,go_sem],.slice A L.length cA,rfl,?_,HBe.out.trans (hf.below (by omega) (fun k hk e=>by omega))⟩
  exact ownsRow_fr HO.out hf (fun b hb e=>HOut.out b hb ⟨by omega,by omega⟩)
 case stop=>
  rintro k pre W hsz hpre hF hK
  exact hF.elim
end Values
end Go.Proofs.YtdpngmgaomghoaaGreatDoor
