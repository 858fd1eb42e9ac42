/- The library's slices.Equal, Index, Contains, IndexFunc, ContainsFunc and Clone at lists of records. -/
import Derived.Test.YtdpngmgaomghoaaGreatSetFs
namespace Go.Proofs.YtdpngmgaomghoaaGreat
open Tryz
set_option maxRecDepth 100000
set_option maxHeartbeats 1000000
open Go.RowKit
namespace Sli
open KeyP PackP SetP SetW SetF
attribute [local go_sem] Eng.ev Eng.getO_cons Eng.getO_nil
theorem eq6 {ops:Array Oper} (hops:Eng.fnOps Tryz.f123 6=ops) (a0:Act) (Q:Exit→Act→World→Prop) (w0 w:World) (b1 o1 b2 o2 len c c2 k:Nat) (y z:Sn) (hst:At2 w0 w b1 (o1+k*9) b2 (o2+k*9) y z) (hk:k<len) (_hlen:len≤9223372036854775807)
  (hn:a0.tmps.size=26) (h_0:a0.tmps.getD 0 undef=.slice (some ⟨b1,o1,none⟩) len c) (h_1:a0.tmps.getD 1 undef=.slice (some ⟨b2,o2,none⟩) len c2) (h_5:a0.tmps.getD 5 undef=.int .i64 (k:Int))
  (hpost:∀ (x:Nat→Value) (w':World),x 24=.bool (!eqS y z)→At2 w0 w' b1 (o1+k*9) b2 (o2+k*9) y z→Q .normal (Eng.setAll a0 [16,17,18,19,20,21,22,23,24] x) w'):
  (Code.region 6 ops true).wp prog Q a0 w:=by
 simp only [Eng.fnOps,Eng.regOps,Tryz.f123,Option.bind_some,Option.getD_some,Nat.reduceEqDiff,↓reduceIte] at hops
 subst hops
 have q1:(0:Int)≤(k:Int):=by omega
 have q2:(k:Int)<(len:Int):=by omega
 have hq:=fun W:World=>neq_parts y.t y.i y.p y.r y.b y.d z.t z.i z.p z.r z.b z.d y.s y.o z.s z.o y.g z.g W
 have HSt:=Lib.hid (hst.fr (Fr.drew _ _))
 refine Eng.regionN [(0,true),(1,true),(2,true),(3,true),(4,true),(5,true),(6,true),(7,true),(8,true)] (fun w'=>w'.cell? ⟨b1,o1+k*9,none⟩=some (.int .i64 y.t)∧w'.cell? ⟨b1,o1+k*9+1,none⟩=some (.int .i64 y.i)∧w'.cell? ⟨b1,o1+k*9+1+1,none⟩=some (.int .i64 y.p)∧w'.cell? ⟨b1,o1+k*9+1+1+1,none⟩=some (.int .i64 y.r)∧w'.cell? ⟨b1,o1+k*9+1+1+1+1,none⟩=some (.string y.s)∧w'.cell? ⟨b1,o1+k*9+1+1+1+1+1,none⟩=some (.string y.o)∧w'.cell? ⟨b1,o1+k*9+1+1+1+1+1+1,none⟩=some (.int .i64 y.b)∧w'.cell? ⟨b1,o1+k*9+1+1+1+1+1+1+1,none⟩=some (.int .i64 y.d)∧w'.cell? ⟨b1,o1+k*9+1+1+1+1+1+1+1+1,none⟩=some (.bool y.g)∧w'.cell? ⟨b2,o2+k*9,none⟩=some (.int .i64 z.t)∧w'.cell? ⟨b2,o2+k*9+1,none⟩=some (.int .i64 z.i)∧w'.cell? ⟨b2,o2+k*9+1+1,none⟩=some (.int .i64 z.p)∧w'.cell? ⟨b2,o2+k*9+1+1+1,none⟩=some (.int .i64 z.r)∧w'.cell? ⟨b2,o2+k*9+1+1+1+1,none⟩=some (.string z.s)∧w'.cell? ⟨b2,o2+k*9+1+1+1+1+1,none⟩=some (.string z.o)∧w'.cell? ⟨b2,o2+k*9+1+1+1+1+1+1,none⟩=some (.int .i64 z.b)∧w'.cell? ⟨b2,o2+k*9+1+1+1+1+1+1+1,none⟩=some (.int .i64 z.d)∧w'.cell? ⟨b2,o2+k*9+1+1+1+1+1+1+1+1,none⟩=some (.bool z.g)) (by kernel_rfl) 26 hn (by kernel_rfl) rfl (by kernel_rfl) (⟨HSt.out.a 0 _ rfl,HSt.out.a 1 _ rfl,HSt.out.a 2 _ rfl,HSt.out.a 3 _ rfl,HSt.out.a 4 _ rfl,HSt.out.a 5 _ rfl,HSt.out.a 6 _ rfl,HSt.out.a 7 _ rfl,HSt.out.a 8 _ rfl,HSt.out.b 0 _ rfl,HSt.out.b 1 _ rfl,HSt.out.b 2 _ rfl,HSt.out.b 3 _ rfl,HSt.out.b 4 _ rfl,HSt.out.b 5 _ rfl,HSt.out.b 6 _ rfl,HSt.out.b 7 _ rfl,HSt.out.b 8 _ rfl⟩) (fun a b ha hb=>?_)
 subst ha
 have hb0:b 0=.slice (some ⟨b1,o1,none⟩) len c:=(hb 0).symm.trans h_0
 have hb1:b 1=.slice (some ⟨b2,o2,none⟩) len c2:=(hb 1).symm.trans h_1
 have hb5:b 5=.int .i64 (k:Int):=(hb 5).symm.trans h_5
 clear hb h_0 h_1 h_5
 have HP:=Lib.hid hpost;have HN:=Lib.hid hn
 clear hpost hn
 iterate 9 (refine Eng.Sch.tk ?_)
 refine Eng.Sch.end_ [16,17,18,19,20,21,22,23,24] HN.out (by kernel_rfl) (by kernel_rfl) ?_
 exact HP.out _ _ rfl HSt.out
theorem Equal (A A2:Option Addr) (c c2:Nat) (L M:List Sn) (w:World) (hS:Sl w 9 A L.length c (L.flatMap scs)) (hS2:Sl w 9 A2 M.length c2 (M.flatMap scs)):
  Calls prog 123 #[.slice A L.length c,.slice A2 M.length c2] w fun e w'=>e=.returned (.bool (decide (L=M)))∧Fr (fun _=>False) w w':=by
 have hlen:L.length≤9223372036854775807:=by have:=hS.2.1;have:=hS.2.2.1;unfold maxLen at this;omega
 have HS:=Lib.hid hS;have HS2:=Lib.hid hS2
 clear hS hS2
 go_enter func123,ntmps123
 by_cases hl:L.length=M.length
 ·have q1:((L.length:Int) != (M.length:Int))=false:=by simp [hl]
  rw [←hl] at HS2 ⊢
  have HLn:=Lib.hid hl
  clear hl
  go_wp2_with fail
  go_loopg [5,13] L.length (fun gk _ i wr=>∃k:Nat,i=.int .i64 k∧k≤L.length∧gk=L.length-k∧L.take k=M.take k∧Fr (fun _=>False) w wr)
  case atStart=>exact ⟨0,rfl,Nat.zero_le _,rfl,by simp,Fr.refl _ _⟩
  case round=>
   obtain ⟨k,rfl,hk,hg,htk,hf⟩:=hrel
   have HG:=Lib.hid hg;have HTk:=Lib.hid htk;have HF:=Lib.hid hf
   clear hg htk hf q1
   by_cases hlt:k<L.length
   ·have hlt2:k<M.length:=by rw [←HLn.out];exact hlt
    obtain ⟨b1,o1,rfl,hb1,c1⟩:=HS.out.at hlt (by omega)
    obtain ⟨b2,o2,rfl,hb2,c3⟩:=HS2.out.at hlt (by omega)
    have HA:=Lib.hid (show At2 wr wr b1 (o1+k*9) b2 (o2+k*9) L[k] M[k] from ⟨(At.row c1 hlt).fr HF.out (fun h=>h),(At.row c3 hlt2).fr HF.out (fun h=>h),Fr.refl _ _⟩)
    have HE:Hid (L[k]=M[k]→L.take (k+1)=M.take (k+1)):=fun h=>by rw [List.take_succ_eq_append_getElem hlt,List.take_succ_eq_append_getElem hlt2,HTk.out,h]
    have HNe:=Lib.hid (take_ne hlt hlt2)
    clear c1 c3 hb1 hb2
    generalize L[k]=y at *
    generalize M[k]=z at *
    have q1:(0:Int)≤(k:Int):=by omega
    have q2:decide ((k:Int)<(L.length:Int))=true:=by simp;omega
    go_upto_region 6 with (fail)
    refine eq6 (by kernel_rfl) _ _ wr wr b1 o1 b2 o2 _ c c2 k y z HA.out hlt hlen rfl rfl rfl rfl ?_
    intro x w2 h31 hst
    simp only [Eng.setAll,Act.put,List.setIfInBounds_toArray,List.set_cons_succ,List.set_cons_zero]
    rw [h31]
    have HSt:=Lib.hid hst
    clear h31 hst
    by_cases h1:y=z
    ·have HE2:=Lib.hid (HE.out h1)
     rw [eqS_iff.2 h1]
     clear h1
     go_wp2_with fail
     go_roundg (L.length-(k+1))
     case rel=>exact ⟨k+1,by go_num,by omega,rfl,HE2.out,HF.out.trans HSt.out.f (fun _ _ h=>h) (fun _ _ h=>h)⟩
     case measure=>have:=HG.out;omega
    ·have HE2:=Lib.hid (HNe.out h1)
     rw [eqS_ne h1]
     clear h1
     go_wp2_with fail
     go_ret
     exact ⟨by rw [HE2.out];rfl,HF.out.trans HSt.out.f (fun _ _ h=>h) (fun _ _ h=>h)⟩
   ·obtain rfl:k=L.length:=by omega
    have q2:decide ((L.length:Int)<(L.length:Int))=false:=by simp
    have HE:Hid (decide (L=M)=true):=by
     have h:=HTk.out
     rw [List.take_length,HLn.out,List.take_length] at h
     show _=_
     simpa using h
    go_wp2_with fail
    go_ret
    exact ⟨by rw [HE.out];rfl,HF.out⟩
 ·have q1:((L.length:Int) != (M.length:Int))=true:=by simp;omega
  have HE:Hid (decide (L=M)=false):=by show _=_;simp only [decide_eq_false_iff_not];rintro rfl;exact hl rfl
  clear hl
  go_wp2_with fail
  go_ret
  exact ⟨by rw [HE.out];rfl,Fr.refl _ _⟩
theorem ix4 {ops:Array Oper} (hops:Eng.fnOps Tryz.f249 4=ops) (a0:Act) (Q:Exit→Act→World→Prop) (w0 w:World) (b1 o1 len c k Bx:Nat) (y z:Sn) (hst:At2 w0 w b1 (o1+k*9) Bx 0 y z) (hk:k<len) (_hlen:len≤9223372036854775807)
  (hn:a0.tmps.size=19) (h_0:a0.tmps.getD 0 undef=.slice (some ⟨b1,o1,none⟩) len c) (h_3:a0.tmps.getD 3 undef=.pointer (some ⟨Bx,0,none⟩)) (h_5:a0.tmps.getD 5 undef=.int .i64 (k:Int))
  (hpost:∀ (x:Nat→Value) (w':World),x 16=.bool (eqS z y)→At2 w0 w' b1 (o1+k*9) Bx 0 y z→Q .normal (Eng.setAll a0 [11,12,13,14,15,16] x) w'):
  (Code.region 4 ops true).wp prog Q a0 w:=by
 simp only [Eng.fnOps,Eng.regOps,Tryz.f249,Option.bind_some,Option.getD_some,Nat.reduceEqDiff,↓reduceIte] at hops
 subst hops
 have q1:(0:Int)≤(k:Int):=by omega
 have q2:(k:Int)<(len:Int):=by omega
 have hq:=fun W:World=>eq_parts z.t z.i z.p z.r z.b z.d y.t y.i y.p y.r y.b y.d z.s z.o y.s y.o z.g y.g W
 have HSt:=Lib.hid (hst.fr (Fr.drew _ _))
 refine Eng.regionN [(0,true),(1,true),(2,true),(3,true),(4,true),(5,true)] (fun w'=>w'.cell? ⟨b1,o1+k*9,none⟩=some (.int .i64 y.t)∧w'.cell? ⟨b1,o1+k*9+1,none⟩=some (.int .i64 y.i)∧w'.cell? ⟨b1,o1+k*9+1+1,none⟩=some (.int .i64 y.p)∧w'.cell? ⟨b1,o1+k*9+1+1+1,none⟩=some (.int .i64 y.r)∧w'.cell? ⟨b1,o1+k*9+1+1+1+1,none⟩=some (.string y.s)∧w'.cell? ⟨b1,o1+k*9+1+1+1+1+1,none⟩=some (.string y.o)∧w'.cell? ⟨b1,o1+k*9+1+1+1+1+1+1,none⟩=some (.int .i64 y.b)∧w'.cell? ⟨b1,o1+k*9+1+1+1+1+1+1+1,none⟩=some (.int .i64 y.d)∧w'.cell? ⟨b1,o1+k*9+1+1+1+1+1+1+1+1,none⟩=some (.bool y.g)∧w'.cell? ⟨Bx,0,none⟩=some (.int .i64 z.t)∧w'.cell? ⟨Bx,1,none⟩=some (.int .i64 z.i)∧w'.cell? ⟨Bx,2,none⟩=some (.int .i64 z.p)∧w'.cell? ⟨Bx,3,none⟩=some (.int .i64 z.r)∧w'.cell? ⟨Bx,4,none⟩=some (.string z.s)∧w'.cell? ⟨Bx,5,none⟩=some (.string z.o)∧w'.cell? ⟨Bx,6,none⟩=some (.int .i64 z.b)∧w'.cell? ⟨Bx,7,none⟩=some (.int .i64 z.d)∧w'.cell? ⟨Bx,8,none⟩=some (.bool z.g)) (by kernel_rfl) 19 hn (by kernel_rfl) rfl (by kernel_rfl) (⟨HSt.out.a 0 _ rfl,HSt.out.a 1 _ rfl,HSt.out.a 2 _ rfl,HSt.out.a 3 _ rfl,HSt.out.a 4 _ rfl,HSt.out.a 5 _ rfl,HSt.out.a 6 _ rfl,HSt.out.a 7 _ rfl,HSt.out.a 8 _ rfl,HSt.out.b 0 _ rfl,HSt.out.b 1 _ rfl,HSt.out.b 2 _ rfl,HSt.out.b 3 _ rfl,HSt.out.b 4 _ rfl,HSt.out.b 5 _ rfl,HSt.out.b 6 _ rfl,HSt.out.b 7 _ rfl,HSt.out.b 8 _ rfl⟩) (fun a b ha hb=>?_)
 subst ha
 have hb0:b 0=.slice (some ⟨b1,o1,none⟩) len c:=(hb 0).symm.trans h_0
 have hb3:b 3=.pointer (some ⟨Bx,0,none⟩):=(hb 3).symm.trans h_3
 have hb5:b 5=.int .i64 (k:Int):=(hb 5).symm.trans h_5
 clear hb h_0 h_3 h_5
 have HP:=Lib.hid hpost;have HN:=Lib.hid hn
 clear hpost hn
 iterate 6 (refine Eng.Sch.tk ?_)
 refine Eng.Sch.end_ [11,12,13,14,15,16] HN.out (by kernel_rfl) (by kernel_rfl) ?_
 exact HP.out _ _ rfl HSt.out
def idx (p:Sn→Bool) (L:List Sn):Int:=match L.findIdx? p with
 |some k=>k
 |none=> -1
theorem idx_at {p:Sn→Bool}:∀ {L:List Sn} {k:Nat},(∀y∈L.take k,p y=false)→(h:k<L.length)→p L[k]=true→L.findIdx? p=some k
 | [],k,_,h,_=>by simp at h
 |a::L,0,_,_,h1=>by rw [List.findIdx?_cons,show p a=true from h1];rfl
 |a::L,k+1,h0,h,h1=>by
  have ha:p a=false:=h0 a (by simp)
  have ih:=idx_at (p:=p) (L:=L) (k:=k) (fun y hy=>h0 y (by simp [hy])) (by simpa using h) (by simpa using h1)
  rw [List.findIdx?_cons,ha,ih];rfl
theorem idx_hit {p:Sn→Bool} {L:List Sn} {k:Nat} (h0:∀y∈L.take k,p y=false) (h:k<L.length) (h1:p L[k]=true):idx p L=k:=by unfold idx;rw [idx_at h0 h h1]
theorem idx_none {p:Sn→Bool} {L:List Sn} (h:∀y∈L,p y=false):idx p L= -1:=by
 have:L.findIdx? p=none:=by rw [List.findIdx?_eq_none_iff];exact h
 unfold idx;rw [this]
theorem idx_any {p:Sn→Bool} {L:List Sn}:decide (0≤idx p L)=L.any p:=by
 unfold idx
 cases h:L.findIdx? p with
 |none=>
  rw [List.findIdx?_eq_none_iff] at h
  show decide ((0:Int)≤ -1)=_
  rw [show decide ((0:Int)≤ -1)=false from rfl,eq_comm,List.any_eq_false]
  exact fun x hx=>by rw [h x hx];simp
 |some k=>
  obtain ⟨hk,h1,-⟩:=List.findIdx?_eq_some_iff_getElem.1 h
  show decide ((0:Int)≤(k:Int))=_
  rw [decide_eq_true (by omega),eq_comm,List.any_eq_true]
  exact ⟨_,List.getElem_mem hk,h1⟩
theorem take_snoc_all {p:Sn→Bool} {L:List Sn} {k:Nat} (h0:∀y∈L.take k,p y=false) (hlt:k<L.length) (h1:p L[k]=false):∀y∈L.take (k+1),p y=false:=fun y hy=>by
 rw [List.take_succ_eq_append_getElem hlt,List.mem_append] at hy
 rcases hy with hy|hy
 ·exact h0 y hy
 ·simp at hy;rw [hy];exact h1
theorem Index (A:Option Addr) (c:Nat) (L:List Sn) (z:Sn) (w:World) (hS:Sl w 9 A L.length c (L.flatMap scs)):
  Calls prog 249 #[.slice A L.length c,z.v] w fun e w'=>e=.returned (.int .i64 (idx (eqS z) L))∧Fr (fun _=>False) w w':=by
 have hlen:L.length≤9223372036854775807:=by have:=hS.2.1;have:=hS.2.2.1;unfold maxLen at this;omega
 have HS:=Lib.hid hS
 have HB:=Lib.hid (Bk.new w z.arr TSn)
 clear hS
 go_enter func249,ntmps249
 go_wp2_with fail
 go_loopg [5,8] L.length (fun gk _ i wr=>∃k:Nat,i=.int .i64 k∧k≤L.length∧gk=L.length-k∧(∀y∈L.take k,eqS z y=false)∧Fr (fun _=>False) (w.alloc (.cells z.arr TSn)) wr)
 case atStart=>exact ⟨0,rfl,Nat.zero_le _,rfl,by simp,Fr.refl _ _⟩
 case round=>
  obtain ⟨k,rfl,hk,hg,hno,hf⟩:=hrel
  have HG:=Lib.hid hg;have HNo:=Lib.hid hno;have HF:=Lib.hid hf
  clear hg hno hf
  by_cases hlt:k<L.length
  ·obtain ⟨b1,o1,rfl,hb1,c1⟩:=HS.out.at hlt (by omega)
   have HA:=Lib.hid ((At.row c1 hlt).fr ((Fr.alloc (fun _=>False) w (.cells z.arr TSn)).trans HF.out (T:=fun _=>False) (fun _ _ h=>h) (fun _ _ h=>h)) (fun h=>h))
   have HX:=Lib.hid ((At.box HB.out).keep HF.out)
   clear c1 hb1
   have HP:Hid (eqS z L[k]=true→idx (eqS z) L=k):=fun h=>idx_hit HNo.out hlt h
   have HT:Hid (eqS z L[k]=false→∀y∈L.take (k+1),eqS z y=false):=fun h=>take_snoc_all HNo.out hlt h
   generalize L[k]=y at *
   have q1:(0:Int)≤(k:Int):=by omega
   have q2:decide ((k:Int)<(L.length:Int))=true:=by simp;omega
   go_upto_region 4 with (fail)
   refine ix4 (by kernel_rfl) _ _ wr wr b1 o1 _ c k _ y z ⟨HA.out,HX.out,Fr.refl _ _⟩ hlt hlen rfl rfl rfl rfl ?_
   intro x w2 h17 hst
   simp only [Eng.setAll,Act.put,List.setIfInBounds_toArray,List.set_cons_succ,List.set_cons_zero]
   rw [h17]
   have HSt:=Lib.hid hst
   clear h17 hst
   cases h1:eqS z y with
   |true=>
    have HE:=Lib.hid (HP.out h1)
    clear h1
    go_wp2_with fail
    go_ret
    exact ⟨by rw [HE.out];rfl,(Fr.alloc (fun _=>False) w _).trans (HF.out.trans HSt.out.f (T:=fun _=>False) (fun _ _ h=>h) (fun _ _ h=>h)) (fun _ _ h=>h) (fun _ _ h=>h)⟩
   |false=>
    have HE:=Lib.hid (HT.out h1)
    clear h1
    go_wp2_with fail
    go_roundg (L.length-(k+1))
    case rel=>exact ⟨k+1,by go_num,by omega,rfl,HE.out,HF.out.trans HSt.out.f (fun _ _ h=>h) (fun _ _ h=>h)⟩
    case measure=>have:=HG.out;omega
  ·obtain rfl:k=L.length:=by omega
   have q2:decide ((L.length:Int)<(L.length:Int))=false:=by simp
   have h:=HNo.out
   rw [List.take_length] at h
   have HE:=Lib.hid (idx_none h)
   clear h
   go_wp2_with fail
   go_ret
   exact ⟨by rw [HE.out];rfl,(Fr.alloc (fun _=>False) w _).trans HF.out (fun _ _ h=>h) (fun _ _ h=>h)⟩
def Pred (g:Nat) (lb:Array Value) (p:Sn→Bool) (L:List Sn) (w:World):Prop:=∀W,Fr (fun _=>False) w W→∀x∈L,Calls prog g (#[x.v]++lb) W fun e w'=>e=.returned (.bool (p x))∧Fr (fun _=>False) W w'
theorem IndexFunc (A:Option Addr) (c g:Nat) (lb:Array Value) (p:Sn→Bool) (L:List Sn) (w:World) (eg:∀args w,(callFunc g args).run prog w=.ok (.enter g args) w) (hS:Sl w 9 A L.length c (L.flatMap scs)) (hp:Pred g lb p L w):
  Calls prog 192 #[.slice A L.length c,.func (.func g) #[] lb] w fun e w'=>e=.returned (.int .i64 (idx p L))∧Fr (fun _=>False) w w':=by
 have hlen:L.length≤9223372036854775807:=by have:=hS.2.1;have:=hS.2.2.1;unfold maxLen at this;omega
 have HS:=Lib.hid hS
 have HP:=Lib.hid hp
 clear hS hp
 go_enter func192,ntmps192
 go_wp2_with fail
 go_loopg [5,8] L.length (fun gk _ i wr=>∃k:Nat,i=.int .i64 k∧k≤L.length∧gk=L.length-k∧(∀y∈L.take k,p y=false)∧Fr (fun _=>False) w wr)
 case atStart=>exact ⟨0,rfl,Nat.zero_le _,rfl,by simp,Fr.refl _ _⟩
 case round=>
  obtain ⟨k,rfl,hk,hg,hno,hf⟩:=hrel
  have HG:=Lib.hid hg;have HNo:=Lib.hid hno;have HF:=Lib.hid hf
  clear hg hno hf
  by_cases hlt:k<L.length
  ·obtain ⟨b1,o1,rfl,hb1,c1⟩:=HS.out.at hlt (by omega)
   have HA:=Lib.hid ((At.row c1 hlt).fr HF.out (fun h=>h))
   have HC:=Lib.hid (HP.out wr HF.out _ (List.getElem_mem hlt))
   clear c1 hb1
   have HY:Hid (p L[k]=true→idx p L=k):=fun h=>idx_hit HNo.out hlt h
   have HT:Hid (p L[k]=false→∀y∈L.take (k+1),p y=false):=fun h=>take_snoc_all HNo.out hlt h
   generalize L[k]=y at *
   have q1:(0:Int)≤(k:Int):=by omega
   have q2:decide ((k:Int)<(L.length:Int))=true:=by simp;omega
   obtain ⟨yc0,yc1,yc2,yc3,yc4,yc5,yc6,yc7,yc8⟩:=SetW.at9 HA.out
   cases h1:p y with
   |true=>
    have HE:=Lib.hid (HY.out h1)
    rw [h1] at HC
    clear h1
    go_wp2_with (go_at_fn g;refine HC.out.mono ?_;rintro e w2 ⟨rfl,hf⟩)
    go_ret
    exact ⟨by rw [HE.out];rfl,HF.out.trans hf (fun _ _ h=>h) (fun _ _ h=>h)⟩
   |false=>
    have HE:=Lib.hid (HT.out h1)
    rw [h1] at HC
    clear h1
    go_wp2_with (go_at_fn g;refine HC.out.mono ?_;rintro e w2 ⟨rfl,hf⟩)
    go_roundg (L.length-(k+1))
    case rel=>exact ⟨k+1,by go_num,by omega,rfl,HE.out,HF.out.trans hf (fun _ _ h=>h) (fun _ _ h=>h)⟩
    case measure=>have:=HG.out;omega
  ·obtain rfl:k=L.length:=by omega
   have q2:decide ((L.length:Int)<(L.length:Int))=false:=by simp
   have h:=HNo.out
   rw [List.take_length] at h
   have HE:=Lib.hid (idx_none h)
   clear h
   go_wp2_with fail
   go_ret
   exact ⟨by rw [HE.out];rfl,HF.out⟩
theorem ContainsFunc (A:Option Addr) (c g:Nat) (lb:Array Value) (p:Sn→Bool) (L:List Sn) (w:World) (eg:∀args w,(callFunc g args).run prog w=.ok (.enter g args) w) (hS:Sl w 9 A L.length c (L.flatMap scs)) (hp:Pred g lb p L w):
  Calls prog 124 #[.slice A L.length c,.func (.func g) #[] lb] w fun e w'=>e=.returned (.bool (L.any p))∧Fr (fun _=>False) w w':=by
 have HI:=Lib.hid (IndexFunc A c g lb p L w eg hS hp)
 have q1:=idx_any (p:=p) (L:=L)
 clear hS hp
 go_enter func124,ntmps124
 go_wp2_with fail
 refine HI.out.mono ?_
 rintro e w2 ⟨rfl,hf⟩
 have HF2:=Lib.hid hf
 clear hf HI
 have q2:decide (idx p L≥0)=L.any p:=q1
 go_wp2_with fail
 go_ret
 exact ⟨by rw [←q2];rfl,HF2.out⟩
end Sli
end Go.Proofs.YtdpngmgaomghoaaGreat
