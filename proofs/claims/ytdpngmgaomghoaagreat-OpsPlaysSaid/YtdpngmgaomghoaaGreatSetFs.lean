/- Sets of lists of records: the program's and the document's; are lists the same; are there few records; lists joined. -/
import Derived.Test.YtdpngmgaomghoaaGreatNV
import Derived.Lib.AppendZerosOnto
namespace Go.Proofs.YtdpngmgaomghoaaGreat
open Tryz
set_option maxRecDepth 100000
set_option maxHeartbeats 1000000
open Go.RowKit
namespace SetF
open KeyP PackP SetP SetW Code_ Rank
attribute [local go_sem] Eng.ev Eng.getO_cons Eng.getO_nil
structure Ls (w:World) (A:Option Addr) (c:Nat) (L:List Sn):Prop where
 s:Sl w 9 A L.length c (L.flatMap scs)
 ok:∀x∈L,x.ok
theorem Ls.fr {S:Nat→Prop} {w w':World} {A:Option Addr} {c:Nat} {L:List Sn} (h:Ls w A c L) (hf:Fr S w w') (hs:∀a,A=some a→¬S a.block):Ls w' A c L:=⟨h.s.fr hf hs,h.ok⟩
theorem Ls.keep {w w':World} {A:Option Addr} {c:Nat} {L:List Sn} (h:Ls w A c L) (hf:Fr (fun _=>False) w w'):Ls w' A c L:=h.fr hf (fun _ _ h=>h)
theorem Ls.below {w w':World} {A:Option Addr} {c:Nat} {L:List Sn} (h:Ls w A c L) (hb:Below w.heap.size w w'):Ls w' A c L:=h.keep (Fr.of_below' hb _)
theorem Ls.nil (w:World):Ls w none 0 []:=⟨Sl.empty _ _,fun _ h=>by simp at h⟩
def LsPost (M:List Sn) (w:World) (e:Ending) (w':World):Prop:=∃A c,e=.returned (.slice A M.length c)∧Ls w' A c M∧w'.ownsRow w.heap.size TSn 9 (.slice A M.length c) M.length (M.flatMap scs)∧Below w.heap.size w w'
theorem LsPost.of {M:List Sn} {w w':World} {e:Ending} (h:OwnPost M w e w') (hok:∀x∈M,x.ok):LsPost M w e w':=by
 obtain ⟨v,rfl,h1,h2⟩:=h
 obtain ⟨A,c,rfl,h3,-⟩:=Sl.of_own h1
 exact ⟨A,c,rfl,⟨h3,hok⟩,h1,h2⟩
theorem set_ok {L:List Sn} (hok:∀x∈L,x.ok):∀x∈setOf L,x.ok:=fun y hy=>(Newest.set_gk hok y hy).1
theorem Set (A:Option Addr) (c:Nat) (L:List Sn) (w:World) (hS:Ls w A c L) (hlen:L.length≤1000000):
  Calls prog 22 #[.slice A L.length c] w (LsPost (setOf L) w):=by
 have HN:=Lib.hid (Newest.newest A c L w hS.s hlen hS.ok)
 have HOk:=Lib.hid (set_ok hS.ok)
 have HLn:Hid ((setOf L).length≤1000000):=Nat.le_trans (setOf_len L) hlen
 clear hS
 go_enter func22,ntmps22
 go_wp2_with fail
 refine HN.out.mono ?_
 rintro e w1 ⟨rfl,⟨Fp,hm,hF⟩,hb,hz⟩
 have HV:=Lib.hid (Values.values _ _ Fp w1 hm HLn.out)
 have HB:=Lib.hid hb
 clear hm hF hb HN
 go_wp2_with fail
 refine HV.out.mono ?_
 intro e w2 hv
 obtain ⟨A2,c2,rfl,h1,h2,h3⟩:=LsPost.of hv HOk.out
 have H1:=Lib.hid h1;have H2:=Lib.hid (ownsRow_base h2 (Nat.le_of_lt hz));have H3:=Lib.hid (HB.out.trans (h3.mono (Nat.le_of_lt hz)))
 clear hv h1 h2 h3
 go_wp2_with fail
 go_ret
 exact ⟨A2,c2,rfl,H1.out,H2.out,H3.out⟩
theorem sm6 {ops:Array Oper} (hops:Eng.fnOps Tryz.f19 6=ops) (a0:Act) (Q:Exit→Act→World→Prop) (w0 w:World) (b1 o1 b2 o2 len c c2 k:Nat) (y z:Sn) (hst:At2 w0 w b1 (o1+k*9) b2 (o2+k*9) y z) (hk:k<len) (_hlen:len≤9223372036854775807)
  (hn:a0.tmps.size=32) (h_0:a0.tmps.getD 0 undef=.slice (some ⟨b1,o1,none⟩) len c) (h_1:a0.tmps.getD 1 undef=.slice (some ⟨b2,o2,none⟩) len c2) (h_5:a0.tmps.getD 5 undef=.int .i64 (k:Int))
  (hpost:∀ (x:Nat→Value) (w':World),x 31=.bool (!eqS y z)→At2 w0 w' b1 (o1+k*9) b2 (o2+k*9) y z→Q .normal (Eng.setAll a0 [23,24,25,26,27,28,29,30,31] x) w'):
  (Code.region 6 ops true).wp prog Q a0 w:=by
 simp only [Eng.fnOps,Eng.regOps,Tryz.f19,Option.bind_some,Option.getD_some,Nat.reduceEqDiff,↓reduceIte] at hops
 subst hops
 have q1:(0:Int)≤(k:Int):=by omega
 have q2:(k:Int)<(len:Int):=by omega
 have hq:=fun W:World=>neq_parts y.t y.i y.p y.r y.b y.d z.t z.i z.p z.r z.b z.d y.s y.o z.s z.o y.g z.g W
 have HSt:=Lib.hid (hst.fr (Fr.drew _ _))
 refine Eng.regionN [(0,true),(1,true),(2,true),(3,true),(4,true),(5,true),(6,true),(7,true),(8,true)] (fun w'=>w'.cell? ⟨b1,o1+k*9,none⟩=some (.int .i64 y.t)∧w'.cell? ⟨b1,o1+k*9+1,none⟩=some (.int .i64 y.i)∧w'.cell? ⟨b1,o1+k*9+1+1,none⟩=some (.int .i64 y.p)∧w'.cell? ⟨b1,o1+k*9+1+1+1,none⟩=some (.int .i64 y.r)∧w'.cell? ⟨b1,o1+k*9+1+1+1+1,none⟩=some (.string y.s)∧w'.cell? ⟨b1,o1+k*9+1+1+1+1+1,none⟩=some (.string y.o)∧w'.cell? ⟨b1,o1+k*9+1+1+1+1+1+1,none⟩=some (.int .i64 y.b)∧w'.cell? ⟨b1,o1+k*9+1+1+1+1+1+1+1,none⟩=some (.int .i64 y.d)∧w'.cell? ⟨b1,o1+k*9+1+1+1+1+1+1+1+1,none⟩=some (.bool y.g)∧w'.cell? ⟨b2,o2+k*9,none⟩=some (.int .i64 z.t)∧w'.cell? ⟨b2,o2+k*9+1,none⟩=some (.int .i64 z.i)∧w'.cell? ⟨b2,o2+k*9+1+1,none⟩=some (.int .i64 z.p)∧w'.cell? ⟨b2,o2+k*9+1+1+1,none⟩=some (.int .i64 z.r)∧w'.cell? ⟨b2,o2+k*9+1+1+1+1,none⟩=some (.string z.s)∧w'.cell? ⟨b2,o2+k*9+1+1+1+1+1,none⟩=some (.string z.o)∧w'.cell? ⟨b2,o2+k*9+1+1+1+1+1+1,none⟩=some (.int .i64 z.b)∧w'.cell? ⟨b2,o2+k*9+1+1+1+1+1+1+1,none⟩=some (.int .i64 z.d)∧w'.cell? ⟨b2,o2+k*9+1+1+1+1+1+1+1+1,none⟩=some (.bool z.g)) (by kernel_rfl) 32 hn (by kernel_rfl) rfl (by kernel_rfl) (⟨HSt.out.a 0 _ rfl,HSt.out.a 1 _ rfl,HSt.out.a 2 _ rfl,HSt.out.a 3 _ rfl,HSt.out.a 4 _ rfl,HSt.out.a 5 _ rfl,HSt.out.a 6 _ rfl,HSt.out.a 7 _ rfl,HSt.out.a 8 _ rfl,HSt.out.b 0 _ rfl,HSt.out.b 1 _ rfl,HSt.out.b 2 _ rfl,HSt.out.b 3 _ rfl,HSt.out.b 4 _ rfl,HSt.out.b 5 _ rfl,HSt.out.b 6 _ rfl,HSt.out.b 7 _ rfl,HSt.out.b 8 _ rfl⟩) (fun a b ha hb=>?_)
 subst ha
 have hb0:b 0=.slice (some ⟨b1,o1,none⟩) len c:=(hb 0).symm.trans h_0
 have hb1:b 1=.slice (some ⟨b2,o2,none⟩) len c2:=(hb 1).symm.trans h_1
 have hb5:b 5=.int .i64 (k:Int):=(hb 5).symm.trans h_5
 clear hb h_0 h_1 h_5
 have HP:=Lib.hid hpost;have HN:=Lib.hid hn
 clear hpost hn
 iterate 9 (refine Eng.Sch.tk ?_)
 refine Eng.Sch.end_ [23,24,25,26,27,28,29,30,31] HN.out (by kernel_rfl) (by kernel_rfl) ?_
 exact HP.out _ _ rfl HSt.out
theorem take_ne {L M:List Sn} {k:Nat} (h:k<L.length) (h2:k<M.length) (hne:L[k]≠M[k]):decide (L=M)=false:=by
 simp only [decide_eq_false_iff_not];rintro rfl;exact hne rfl
theorem Same (A A2:Option Addr) (c c2:Nat) (L M:List Sn) (w:World) (hS:Sl w 9 A L.length c (L.flatMap scs)) (hS2:Sl w 9 A2 M.length c2 (M.flatMap scs)):
  Calls prog 19 #[.slice A L.length c,.slice A2 M.length c2] w fun e w'=>e=.returned (.bool (decide (L=M)))∧Fr (fun _=>False) w w':=by
 have hlen:L.length≤9223372036854775807:=by have:=hS.2.1;have:=hS.2.2.1;unfold maxLen at this;omega
 have HS:=Lib.hid hS;have HS2:=Lib.hid hS2
 clear hS hS2
 go_enter func19,ntmps19
 by_cases hl:L.length=M.length
 ·have q1:((L.length:Int) != (M.length:Int))=false:=by simp [hl]
  rw [←hl] at HS2 ⊢
  have HLn:=Lib.hid hl
  clear hl
  go_wp2_with fail
  go_loopg [5] L.length (fun gk i wr=>∃k:Nat,i=.int .i64 k∧k≤L.length∧gk=L.length-k∧L.take k=M.take k∧Fr (fun _=>False) w wr)
  case atStart=>exact ⟨0,rfl,Nat.zero_le _,rfl,by simp,Fr.refl _ _⟩
  case round=>
   obtain ⟨k,rfl,hk,hg,htk,hf⟩:=hrel
   have HG:=Lib.hid hg;have HTk:=Lib.hid htk;have HF:=Lib.hid hf
   clear hg htk hf q1
   by_cases hlt:k<L.length
   ·have hlt2:k<M.length:=by rw [←HLn.out];exact hlt
    obtain ⟨b1,o1,rfl,hb1,c1⟩:=HS.out.at hlt (by omega)
    obtain ⟨b2,o2,rfl,hb2,c3⟩:=HS2.out.at hlt (by omega)
    have HA:=Lib.hid (show At2 wr wr b1 (o1+k*9) b2 (o2+k*9) L[k] M[k] from ⟨(At.row c1 hlt).fr HF.out (fun h=>h),(At.row c3 hlt2).fr HF.out (fun h=>h),Fr.refl _ _⟩)
    have HE:Hid (L[k]=M[k]→L.take (k+1)=M.take (k+1)):=fun h=>by rw [List.take_succ_eq_append_getElem hlt,List.take_succ_eq_append_getElem hlt2,HTk.out,h]
    have HNe:=Lib.hid (take_ne hlt hlt2)
    clear c1 c3 hb1 hb2
    generalize L[k]=y at *
    generalize M[k]=z at *
    have q1:(0:Int)≤(k:Int):=by omega
    have q2:decide ((k:Int)<(L.length:Int))=true:=by simp;omega
    go_upto_region 6 with (fail)
    refine sm6 (by kernel_rfl) _ _ wr wr b1 o1 b2 o2 _ c c2 k y z HA.out hlt hlen rfl rfl rfl rfl ?_
    intro x w2 h31 hst
    simp only [Eng.setAll,Act.put,List.setIfInBounds_toArray,List.set_cons_succ,List.set_cons_zero]
    rw [h31]
    have HSt:=Lib.hid hst
    clear h31 hst
    by_cases h1:y=z
    ·have HE2:=Lib.hid (HE.out h1)
     rw [eqS_iff.2 h1]
     clear h1
     go_wp2_with fail
     go_roundg (L.length-(k+1))
     case rel=>exact ⟨k+1,by go_num,by omega,rfl,HE2.out,HF.out.trans HSt.out.f (fun _ _ h=>h) (fun _ _ h=>h)⟩
     case measure=>have:=HG.out;omega
    ·have HE2:=Lib.hid (HNe.out h1)
     rw [eqS_ne h1]
     clear h1
     go_wp2_with fail
     go_ret
     exact ⟨by rw [HE2.out];rfl,HF.out.trans HSt.out.f (fun _ _ h=>h) (fun _ _ h=>h)⟩
   ·obtain rfl:k=L.length:=by omega
    have HE:Hid (decide (L=M)=true):=by
     have h:=HTk.out
     rw [List.take_length,HLn.out,List.take_length] at h
     show _=_
     simpa using h
    go_wp2_with fail
    go_ret
    exact ⟨by rw [HE.out];rfl,HF.out⟩
 ·have q1:((L.length:Int) != (M.length:Int))=true:=by simp;omega
  have HE:Hid (decide (L=M)=false):=by show _=_;simp only [decide_eq_false_iff_not];rintro rfl;exact hl rfl
  clear hl
  go_wp2_with fail
  go_ret
  exact ⟨by rw [HE.out];rfl,Fr.refl _ _⟩
def shortB (x:Sn):Bool:=decide (x.s.size≤100)&&decide (x.o.size≤100)
def fewB (L:List Sn) (most:Nat):Bool:=(L.take most).all shortB&&decide (L.length≤most)
theorem Short (x:Sn) (w:World):Calls prog 73 #[x.v] w fun e w'=>e=.returned (.bool (shortB x))∧Fr (fun _=>False) w w':=by
 unfold shortB
 have hf:=Fr.alloc (fun _=>False) w (.cells x.arr TSn)
 have h:=At.box (Bk.new w x.arr TSn)
 have e4:(w.alloc (.cells x.arr TSn)).cell? ⟨w.heap.size,4,none⟩=some (.string x.s):=h 4 _ rfl
 have e5:(w.alloc (.cells x.arr TSn)).cell? ⟨w.heap.size,5,none⟩=some (.string x.o):=h 5 _ rfl
 have HF:=Lib.hid hf
 clear hf h
 by_cases h1:x.s.size≤100
 ·have q1:decide ((x.s.size:Int)≤100)=true:=by simp;omega
  by_cases h2:x.o.size≤100
  ·have q2:decide ((x.o.size:Int)≤100)=true:=by simp;omega
   rw [decide_eq_true h1,decide_eq_true h2]
   clear h1 h2
   go_enter func73,ntmps73
   go_wp2_with fail
   go_ret
   exact ⟨rfl,HF.out⟩
  ·have q2:decide ((x.o.size:Int)≤100)=false:=by simp;omega
   rw [decide_eq_true h1,decide_eq_false h2]
   clear h1 h2
   go_enter func73,ntmps73
   go_wp2_with fail
   go_ret
   exact ⟨rfl,HF.out⟩
 ·have q1:decide ((x.s.size:Int)≤100)=false:=by simp;omega
  rw [decide_eq_false h1]
  clear h1
  go_enter func73,ntmps73
  go_wp2_with fail
  go_ret
  exact ⟨rfl,HF.out⟩
theorem Few (A:Option Addr) (c most:Nat) (L:List Sn) (w:World) (hS:Sl w 9 A L.length c (L.flatMap scs)):
  Calls prog 13 #[.slice A L.length c,.int .i64 most] w fun e w'=>e=.returned (.bool (fewB L most))∧Fr (fun _=>False) w w':=by
 have hlen:L.length≤9223372036854775807:=by have:=hS.2.1;have:=hS.2.2.1;unfold maxLen at this;omega
 have HS:=Lib.hid hS
 clear hS
 go_enter func13,ntmps13
 go_wp2_with fail
 go_loopg [5] L.length (fun gk i wr=>∃k:Nat,i=.int .i64 k∧k≤L.length∧k≤most∧gk=L.length-k∧(L.take k).all shortB=true∧Fr (fun _=>False) w wr)
 case atStart=>exact ⟨0,rfl,Nat.zero_le _,Nat.zero_le _,rfl,by simp,Fr.refl _ _⟩
 case round=>
  obtain ⟨k,rfl,hk,hkm,hg,hal,hf⟩:=hrel
  have HG:=Lib.hid hg;have HAl:=Lib.hid hal;have HF:=Lib.hid hf
  clear hg hal hf
  by_cases hlt:k<L.length∧k<most
  ·obtain ⟨hlt,hltm⟩:=hlt
   obtain ⟨b1,o1,rfl,hb1,c1⟩:=HS.out.at hlt (by omega)
   have HA:=Lib.hid ((At.row c1 hlt).fr HF.out (fun h=>h))
   have HT:Hid (shortB L[k]=true→(L.take (k+1)).all shortB=true):=fun h=>by rw [List.take_succ_eq_append_getElem hlt,List.all_append,HAl.out];simpa using h
   have HNo:Hid (shortB L[k]=false→fewB L most=false):=fun h=>by
    unfold fewB
    rw [Bool.and_eq_false_iff]
    refine .inl (List.all_eq_false.2 ⟨L[k],?_,by rw [h];simp⟩)
    exact List.mem_take_iff_getElem.2 ⟨k,by omega,rfl⟩
   have HSh:=Lib.hid (fun W:World=>Short L[k] W)
   clear c1 hb1
   generalize L[k]=y at *
   have q1:(0:Int)≤(k:Int):=by omega
   have q2:decide ((k:Int)<(L.length:Int))=true:=by simp;omega
   have q3:decide ((k:Int)<(most:Int))=true:=by simp;omega
   obtain ⟨yc0,yc1,yc2,yc3,yc4,yc5,yc6,yc7,yc8⟩:=SetW.at9 HA.out
   go_wp2_with fail
   refine (HSh.out _).mono ?_
   rintro e w2 ⟨rfl,hf⟩
   have HF2:=Lib.hid hf
   clear hf HA HSh yc0 yc1 yc2 yc3 yc4 yc5 yc6 yc7 yc8
   cases h1:shortB y with
   |true=>
    have HE:=Lib.hid (HT.out h1)
    clear h1
    go_wp2_with fail
    go_roundg (L.length-(k+1))
    case rel=>exact ⟨k+1,by go_num,by omega,by omega,rfl,HE.out,HF.out.trans HF2.out (fun _ _ h=>h) (fun _ _ h=>h)⟩
    case measure=>have:=HG.out;omega
   |false=>
    have HE:=Lib.hid (HNo.out h1)
    clear h1
    go_wp2_with fail
    go_ret
    exact ⟨by rw [HE.out];rfl,HF.out.trans HF2.out (fun _ _ h=>h) (fun _ _ h=>h)⟩
  ·by_cases hlm:L.length≤most
   ·have HE:Hid (fewB L most=true):=by
     show _=_
     unfold fewB
     rw [decide_eq_true hlm,Bool.and_true,List.take_of_length_le hlm]
     have h:=HAl.out
     rwa [List.take_of_length_le (by omega)] at h
    have hkl:k=L.length:=by omega
    have q2:decide ((k:Int)<(L.length:Int))=false:=by simp;omega
    have q3:decide ((L.length:Int)≤(most:Int))=true:=by simp;omega
    have z1:¬k<L.length:=by omega
    clear hlt hkl
    go_wp2_with fail
    go_ret
    exact ⟨by rw [HE.out];rfl,HF.out⟩
   ·have HE:Hid (fewB L most=false):=by
     show _=_
     unfold fewB
     rw [decide_eq_false hlm,Bool.and_false]
    have q2:decide ((k:Int)<(L.length:Int))=true:=by simp;omega
    have q3:decide ((L.length:Int)≤(most:Int))=false:=by simp;omega
    have q4:decide ((k:Int)<(most:Int))=false:=by simp;omega
    have z1:k<L.length:=by omega
    have z2:¬k<most:=by omega
    clear hlt
    go_wp2_with fail
    go_ret
    exact ⟨by rw [HE.out];rfl,HF.out⟩
end SetF
namespace SetF
open KeyP PackP SetP SetW Code_ Rank
attribute [local go_sem] Eng.ev Eng.getO_cons Eng.getO_nil
structure Lv where
 A:Option Addr
 c:Nat
 L:List Sn
def Rd (w:World) (x:Lv):Prop:=Ls w x.A x.c x.L
theorem cells_one (L:List Sn):∀u∈L.flatMap scs,u.oneCell'=true:=by
 intro u hu
 obtain ⟨x,-,hx⟩:=List.mem_flatMap.1 hu
 simp at hx
 rcases hx with rfl|rfl|rfl|rfl|rfl|rfl|rfl|rfl|rfl<;>rfl
end SetF
end Go.Proofs.YtdpngmgaomghoaaGreat
