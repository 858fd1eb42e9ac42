/- Sets of lists of records: the program's and the document's; are lists the same; are there few records; lists joined. -/
import Derived.Test.YtdpngmgaomghoaaGreatDoorNV
import Derived.Lib.AppendZerosOnto
namespace Go.Proofs.YtdpngmgaomghoaaGreatDoor
open Tryz
set_option maxRecDepth 100000
set_option maxHeartbeats 1000000
open Go.RowKit
namespace SetF
open KeyP PackP SetP SetW Code_ Rank
attribute [local go_sem] Eng.ev Eng.getO_cons Eng.getO_nil
structure Ls (w:World) (A:Option Addr) (c:Nat) (L:List Sn):Prop where
 s:Sl w 9 A L.length c (L.flatMap scs)
 ok:∀x∈L,x.ok
theorem Ls.fr {S:Nat→Prop} {w w':World} {A:Option Addr} {c:Nat} {L:List Sn} (h:Ls w A c L) (hf:Fr S w w') (hs:∀a,A=some a→¬S a.block):Ls w' A c L:=⟨h.s.fr hf hs,h.ok⟩
theorem Ls.keep {w w':World} {A:Option Addr} {c:Nat} {L:List Sn} (h:Ls w A c L) (hf:Fr (fun _=>False) w w'):Ls w' A c L:=h.fr hf (fun _ _ h=>h)
theorem Ls.below {w w':World} {A:Option Addr} {c:Nat} {L:List Sn} (h:Ls w A c L) (hb:Below w.heap.size w w'):Ls w' A c L:=h.keep (Fr.of_below' hb _)
theorem Ls.nil (w:World):Ls w none 0 []:=⟨Sl.empty _ _,fun _ h=>by simp at h⟩
def LsPost (M:List Sn) (w:World) (e:Ending) (w':World):Prop:=∃A c,e=.returned (.slice A M.length c)∧Ls w' A c M∧w'.ownsRow w.heap.size TSn 9 (.slice A M.length c) M.length (M.flatMap scs)∧Below w.heap.size w w'
theorem LsPost.of {M:List Sn} {w w':World} {e:Ending} (h:OwnPost M w e w') (hok:∀x∈M,x.ok):LsPost M w e w':=by
 obtain ⟨v,rfl,h1,h2⟩:=h
 obtain ⟨A,c,rfl,h3,-⟩:=Sl.of_own h1
 exact ⟨A,c,rfl,⟨h3,hok⟩,h1,h2⟩
theorem set_ok {L:List Sn} (hok:∀x∈L,x.ok):∀x∈setOf L,x.ok:=fun y hy=>(Newest.set_gk hok y hy).1
theorem Set (A:Option Addr) (c:Nat) (L:List Sn) (w:World) (hS:Ls w A c L) (hlen:L.length≤1000000):
  Calls prog 32 #[.slice A L.length c] w (LsPost (setOf L) w):=by
 have HN:=Lib.hid (Newest.newest A c L w hS.s hlen hS.ok)
 have HOk:=Lib.hid (set_ok hS.ok)
 have HLn:Hid ((setOf L).length≤1000000):=Nat.le_trans (setOf_len L) hlen
 clear hS
 go_enter func32,ntmps32
 go_wp2_with fail
 refine HN.out.mono ?_
 rintro e w1 ⟨rfl,⟨Fp,hm,hF⟩,hb,hz⟩
 have HV:=Lib.hid (Values.values _ _ Fp w1 hm HLn.out)
 have HB:=Lib.hid hb
 clear hm hF hb HN
 go_wp2_with fail
 refine HV.out.mono ?_
 intro e w2 hv
 obtain ⟨A2,c2,rfl,h1,h2,h3⟩:=LsPost.of hv HOk.out
 have H1:=Lib.hid h1;have H2:=Lib.hid (ownsRow_base h2 (Nat.le_of_lt hz));have H3:=Lib.hid (HB.out.trans (h3.mono (Nat.le_of_lt hz)))
 clear hv h1 h2 h3
 go_wp2_with fail
 go_ret
 exact ⟨A2,c2,rfl,H1.out,H2.out,H3.out⟩
def shortB (x:Sn):Bool:=decide (x.s.size≤100)&&decide (x.o.size≤100)
def fewB (L:List Sn) (most:Nat):Bool:=(L.take most).all shortB&&decide (L.length≤most)
theorem Short (x:Sn) (w:World):Calls prog 30 #[x.v] w fun e w'=>e=.returned (.bool (shortB x))∧Fr (fun _=>False) w w':=by
 unfold shortB
 have hf:=Fr.alloc (fun _=>False) w (.cells x.arr TSn)
 have h:=At.box (Bk.new w x.arr TSn)
 have e4:(w.alloc (.cells x.arr TSn)).cell? ⟨w.heap.size,4,none⟩=some (.string x.s):=h 4 _ rfl
 have e5:(w.alloc (.cells x.arr TSn)).cell? ⟨w.heap.size,5,none⟩=some (.string x.o):=h 5 _ rfl
 have HF:=Lib.hid hf
 clear hf h
 by_cases h1:x.s.size≤100
 ·have q1:decide ((x.s.size:Int)≤100)=true:=by simp;omega
  by_cases h2:x.o.size≤100
  ·have q2:decide ((x.o.size:Int)≤100)=true:=by simp;omega
   rw [decide_eq_true h1,decide_eq_true h2]
   clear h1 h2
   go_enter func30,ntmps30
   go_wp2_with fail
   go_ret
   exact ⟨rfl,HF.out⟩
  ·have q2:decide ((x.o.size:Int)≤100)=false:=by simp;omega
   rw [decide_eq_true h1,decide_eq_false h2]
   clear h1 h2
   go_enter func30,ntmps30
   go_wp2_with fail
   go_ret
   exact ⟨rfl,HF.out⟩
 ·have q1:decide ((x.s.size:Int)≤100)=false:=by simp;omega
  rw [decide_eq_false h1]
  clear h1
  go_enter func30,ntmps30
  go_wp2_with fail
  go_ret
  exact ⟨rfl,HF.out⟩
theorem Few (A:Option Addr) (c most:Nat) (L:List Sn) (w:World) (hS:Sl w 9 A L.length c (L.flatMap scs)):
  Calls prog 14 #[.slice A L.length c,.int .i64 most] w fun e w'=>e=.returned (.bool (fewB L most))∧Fr (fun _=>False) w w':=by
 have hlen:L.length≤9223372036854775807:=by have:=hS.2.1;have:=hS.2.2.1;unfold maxLen at this;omega
 have HS:=Lib.hid hS
 clear hS
 go_enter func14,ntmps14
 go_wp2_with fail
 go_loopg [5] L.length (fun gk i wr=>∃k:Nat,i=.int .i64 k∧k≤L.length∧k≤most∧gk=L.length-k∧(L.take k).all shortB=true∧Fr (fun _=>False) w wr)
 case atStart=>exact ⟨0,rfl,Nat.zero_le _,Nat.zero_le _,rfl,by simp,Fr.refl _ _⟩
 case round=>
  obtain ⟨k,rfl,hk,hkm,hg,hal,hf⟩:=hrel
  have HG:=Lib.hid hg;have HAl:=Lib.hid hal;have HF:=Lib.hid hf
  clear hg hal hf
  by_cases hlt:k<L.length∧k<most
  ·obtain ⟨hlt,hltm⟩:=hlt
   obtain ⟨b1,o1,rfl,hb1,c1⟩:=HS.out.at hlt (by omega)
   have HA:=Lib.hid ((At.row c1 hlt).fr HF.out (fun h=>h))
   have HT:Hid (shortB L[k]=true→(L.take (k+1)).all shortB=true):=fun h=>by rw [List.take_succ_eq_append_getElem hlt,List.all_append,HAl.out];simpa using h
   have HNo:Hid (shortB L[k]=false→fewB L most=false):=fun h=>by
    unfold fewB
    rw [Bool.and_eq_false_iff]
    refine .inl (List.all_eq_false.2 ⟨L[k],?_,by rw [h];simp⟩)
    exact List.mem_take_iff_getElem.2 ⟨k,by omega,rfl⟩
   have HSh:=Lib.hid (fun W:World=>Short L[k] W)
   clear c1 hb1
   generalize L[k]=y at *
   have q1:(0:Int)≤(k:Int):=by omega
   have q2:decide ((k:Int)<(L.length:Int))=true:=by simp;omega
   have q3:decide ((k:Int)<(most:Int))=true:=by simp;omega
   obtain ⟨yc0,yc1,yc2,yc3,yc4,yc5,yc6,yc7,yc8⟩:=SetW.at9 HA.out
   go_wp2_with fail
   refine (HSh.out _).mono ?_
   rintro e w2 ⟨rfl,hf⟩
   have HF2:=Lib.hid hf
   clear hf HA HSh yc0 yc1 yc2 yc3 yc4 yc5 yc6 yc7 yc8
   cases h1:shortB y with
   |true=>
    have HE:=Lib.hid (HT.out h1)
    clear h1
    go_wp2_with fail
    go_roundg (L.length-(k+1))
    case rel=>exact ⟨k+1,by go_num,by omega,by omega,rfl,HE.out,HF.out.trans HF2.out (fun _ _ h=>h) (fun _ _ h=>h)⟩
    case measure=>have:=HG.out;omega
   |false=>
    have HE:=Lib.hid (HNo.out h1)
    clear h1
    go_wp2_with fail
    go_ret
    exact ⟨by rw [HE.out];rfl,HF.out.trans HF2.out (fun _ _ h=>h) (fun _ _ h=>h)⟩
  ·by_cases hlm:L.length≤most
   ·have HE:Hid (fewB L most=true):=by
     show _=_
     unfold fewB
     rw [decide_eq_true hlm,Bool.and_true,List.take_of_length_le hlm]
     have h:=HAl.out
     rwa [List.take_of_length_le (by omega)] at h
    have hkl:k=L.length:=by omega
    have q2:decide ((k:Int)<(L.length:Int))=false:=by simp;omega
    have q3:decide ((L.length:Int)≤(most:Int))=true:=by simp;omega
    have z1:¬k<L.length:=by omega
    clear hlt hkl
    go_wp2_with fail
    go_ret
    exact ⟨by rw [HE.out];rfl,HF.out⟩
   ·have HE:Hid (fewB L most=false):=by
     show _=_
     unfold fewB
     rw [decide_eq_false hlm,Bool.and_false]
    have q2:decide ((k:Int)<(L.length:Int))=true:=by simp;omega
    have q3:decide ((L.length:Int)≤(most:Int))=false:=by simp;omega
    have q4:decide ((k:Int)<(most:Int))=false:=by simp;omega
    have z1:k<L.length:=by omega
    have z2:¬k<most:=by omega
    clear hlt
    go_wp2_with fail
    go_ret
    exact ⟨by rw [HE.out];rfl,HF.out⟩
end SetF
namespace SetF
open KeyP PackP SetP SetW Code_ Rank
attribute [local go_sem] Eng.ev Eng.getO_cons Eng.getO_nil
structure Lv where
 A:Option Addr
 c:Nat
 L:List Sn
def Rd (w:World) (x:Lv):Prop:=Ls w x.A x.c x.L
theorem cells_one (L:List Sn):∀u∈L.flatMap scs,u.oneCell'=true:=by
 intro u hu
 obtain ⟨x,-,hx⟩:=List.mem_flatMap.1 hu
 simp at hx
 rcases hx with rfl|rfl|rfl|rfl|rfl|rfl|rfl|rfl|rfl<;>rfl
end SetF
set_option maxRecDepth 100000
set_option maxHeartbeats 2000000
namespace SetF
open KeyP PackP SetP SetW Code_ Rank
attribute [local go_sem] Eng.ev Eng.getO_cons Eng.getO_nil
theorem posI_none {x:Sn} {L:List Sn} (h:fnd x L=none):posI x L= -1:=by
 rcases pos_fnd (x:=x) (L:=L) with ⟨k,hk,h1,h2⟩| ⟨h1,h2⟩
 ·rw [h] at h2;cases h2
 ·unfold posI;rw [h1]
theorem posI_some {x z:Sn} {L:List Sn} (h:fnd x L=some z):∃k,∃h:k<L.length,posI x L=(k:Int)∧L[k]=z:=by
 rcases pos_fnd (x:=x) (L:=L) with ⟨k,hk,h1,h2⟩| ⟨h1,h2⟩
 ·rw [h] at h2;cases h2;exact ⟨k,hk,by unfold posI;rw [h1],rfl⟩
 ·rw [h] at h2;cases h2
theorem rs8 {ops:Array Oper} (hops:Eng.fnOps Tryz.f34 8=ops) (a0:Act) (Q:Exit→Act→World→Prop) (w0 w:World) (b1 o1 len c k Bx:Nat) (q z:Sn) (hq:q.ok) (hz:z.ok) (hst:At2 w0 w b1 (o1+k*9) Bx 0 z q) (hk:k<len) (_hlen:len≤9223372036854775807)
  (hn:a0.tmps.size=41) (h_3:a0.tmps.getD 3 undef=.slice (some ⟨b1,o1,none⟩) len c) (h_5:a0.tmps.getD 5 undef=.pointer (some ⟨Bx,0,none⟩)) (h_6:a0.tmps.getD 6 undef=.int .i64 (k:Int))
  (hpost:∀ (x:Nat→Value) (w':World),x 36=.bool (nwr q z)→At2 w0 w' b1 (o1+k*9) Bx 0 z q→Q .normal (Eng.setAll a0 [27,28,29,30,31,32,33,34,35,36] x) w'):
  (Code.region 8 ops true).wp prog Q a0 w:=by
 simp only [Eng.fnOps,Eng.regOps,Tryz.f34,Option.bind_some,Option.getD_some,Nat.reduceEqDiff,↓reduceIte] at hops
 subst hops
 have q1:(0:Int)≤(k:Int):=by omega
 have q2:(k:Int)<(len:Int):=by omega
 have q3:((k:Int)<0)=False:=by simp
 have HSt:=Lib.hid (hst.fr (Fr.drew _ _))
 refine Eng.regionT (.take 0 (.take 1 (.take 2 (.take 3 (.take 4 (.take 5 (.take 6 (.take 7 (.alt 8 (.take 9 (.done)) (.stop)))))))))) (fun w'=>w'.cell? ⟨Bx,0,none⟩=some (.int .i64 q.t)∧w'.cell? ⟨Bx,1,none⟩=some (.int .i64 q.i)∧w'.cell? ⟨Bx,2,none⟩=some (.int .i64 q.p)∧w'.cell? ⟨Bx,3,none⟩=some (.int .i64 q.r)∧w'.cell? ⟨Bx,4,none⟩=some (.string q.s)∧w'.cell? ⟨Bx,5,none⟩=some (.string q.o)∧w'.cell? ⟨Bx,6,none⟩=some (.int .i64 q.b)∧w'.cell? ⟨Bx,7,none⟩=some (.int .i64 q.d)∧w'.cell? ⟨Bx,8,none⟩=some (.bool q.g)∧w'.cell? ⟨b1,o1+k*9,none⟩=some (.int .i64 z.t)∧w'.cell? ⟨b1,o1+k*9+1,none⟩=some (.int .i64 z.i)∧w'.cell? ⟨b1,o1+k*9+1+1,none⟩=some (.int .i64 z.p)∧w'.cell? ⟨b1,o1+k*9+1+1+1,none⟩=some (.int .i64 z.r)∧w'.cell? ⟨b1,o1+k*9+1+1+1+1,none⟩=some (.string z.s)∧w'.cell? ⟨b1,o1+k*9+1+1+1+1+1,none⟩=some (.string z.o)∧w'.cell? ⟨b1,o1+k*9+1+1+1+1+1+1,none⟩=some (.int .i64 z.b)∧w'.cell? ⟨b1,o1+k*9+1+1+1+1+1+1+1,none⟩=some (.int .i64 z.d)∧w'.cell? ⟨b1,o1+k*9+1+1+1+1+1+1+1+1,none⟩=some (.bool z.g)) (by kernel_rfl) 41 hn (by kernel_rfl) (by kernel_rfl) (by kernel_rfl) (⟨HSt.out.b 0 _ rfl,HSt.out.b 1 _ rfl,HSt.out.b 2 _ rfl,HSt.out.b 3 _ rfl,HSt.out.b 4 _ rfl,HSt.out.b 5 _ rfl,HSt.out.b 6 _ rfl,HSt.out.b 7 _ rfl,HSt.out.b 8 _ rfl,HSt.out.a 0 _ rfl,HSt.out.a 1 _ rfl,HSt.out.a 2 _ rfl,HSt.out.a 3 _ rfl,HSt.out.a 4 _ rfl,HSt.out.a 5 _ rfl,HSt.out.a 6 _ rfl,HSt.out.a 7 _ rfl,HSt.out.a 8 _ rfl⟩) (fun a b ha hb=>?_)
 subst ha
 have hb3:b 3=.slice (some ⟨b1,o1,none⟩) len c:=(hb 3).symm.trans h_3
 have hb5:b 5=.pointer (some ⟨Bx,0,none⟩):=(hb 5).symm.trans h_5
 have hb6:b 6=.int .i64 (k:Int):=(hb 6).symm.trans h_6
 clear hb h_3 h_5 h_6
 have HP:=Lib.hid hpost;have HN:=Lib.hid hn
 clear hpost hn
 iterate 8 (refine Eng.TW.tk ?_)
 refine Eng.TW.call rfl rfl (by decide) (by kernel_rfl) ?_ (Ref10.Newer q z hq hz _) ?_
 ·go_simp
 rintro e w2 ⟨rfl,hf⟩
 have HSt2:=Lib.hid (HSt.out.fr hf)
 clear hf
 refine ⟨_,rfl,⟨HSt2.out.b 0 _ rfl,HSt2.out.b 1 _ rfl,HSt2.out.b 2 _ rfl,HSt2.out.b 3 _ rfl,HSt2.out.b 4 _ rfl,HSt2.out.b 5 _ rfl,HSt2.out.b 6 _ rfl,HSt2.out.b 7 _ rfl,HSt2.out.b 8 _ rfl,HSt2.out.a 0 _ rfl,HSt2.out.a 1 _ rfl,HSt2.out.a 2 _ rfl,HSt2.out.a 3 _ rfl,HSt2.out.a 4 _ rfl,HSt2.out.a 5 _ rfl,HSt2.out.a 6 _ rfl,HSt2.out.a 7 _ rfl,HSt2.out.a 8 _ rfl⟩,?_⟩
 refine Eng.TW.tk ?_
 refine Eng.TW.end_ [27,28,29,30,31,32,33,34,35,36] HN.out (by kernel_rfl) (by kernel_rfl) ?_
 exact HP.out _ _ rfl HSt2.out
theorem rs8n {ops:Array Oper} (hops:Eng.fnOps Tryz.f34 8=ops) (a0:Act) (Q:Exit→Act→World→Prop) (w0 w:World) (hst:Fr (fun _=>False) w0 w)
  (hn:a0.tmps.size=41) (h_6:a0.tmps.getD 6 undef=.int .i64 (-1))
  (hpost:∀ (x:Nat→Value) (w':World),x 36=.bool true→Fr (fun _=>False) w0 w'→Q .normal (Eng.setAll a0 [27,28,29,30,31,32,33,34,35,36] x) w'):
  (Code.region 8 ops true).wp prog Q a0 w:=by
 simp only [Eng.fnOps,Eng.regOps,Tryz.f34,Option.bind_some,Option.getD_some,Nat.reduceEqDiff,↓reduceIte] at hops
 subst hops
 have HSt:=Lib.hid (hst.trans (Fr.drew (fun _=>False) _) (T:=fun _=>False) (fun _ _ h=>h) (fun _ _ h=>h))
 refine Eng.regionT (.take 0 (.take 1 (.take 2 (.take 3 (.take 4 (.take 5 (.take 6 (.take 7 (.take 8 (.take 9 (.done))))))))))) (fun w'=>True) (by kernel_rfl) 41 hn (by kernel_rfl) (by kernel_rfl) (by kernel_rfl) (trivial) (fun a b ha hb=>?_)
 subst ha
 have hb6:b 6=.int .i64 (-1):=(hb 6).symm.trans h_6
 clear hb h_6
 have HP:=Lib.hid hpost;have HN:=Lib.hid hn
 clear hpost hn
 iterate 3 (refine Eng.TW.tk ?_)
 iterate 6 (refine Eng.TW.skip rfl rfl (by decide) (by kernel_rfl) ?_)
 refine Eng.TW.tk ?_
 refine Eng.TW.end_ [27,28,29,30,31,32,33,34,35,36] HN.out (by kernel_rfl) (by kernel_rfl) ?_
 exact HP.out _ _ rfl HSt.out
theorem RefSet (A:Option Addr) (c:Nat) (L:List Sn) (w:World) (hS:Ls w A c L) (hlen:L.length≤1000000):
  Calls prog 34 #[.slice A L.length c] w (LsPost (setOf L) w):=by
 have HOk:=Lib.hid (set_ok hS.ok)
 have HS:=Lib.hid hS
 clear hS
 go_enter func34,ntmps34
 go_wp2_with fail
 go_loopg [3,4] L.length (fun gk v i wr=>∃k:Nat,i=.int .i64 k∧k≤L.length∧gk=L.length-k∧wr.ownsRow w.heap.size TSn 9 v (setOf (L.take k)).length ((setOf (L.take k)).flatMap scs)∧Below w.heap.size w wr)
 case atStart=>exact ⟨0,rfl,Nat.zero_le _,rfl,World.ownsRow_nil _ _ _ _,Below.refl _ _⟩
 case round=>
  obtain ⟨k,rfl,hk,hg,hown,hbel⟩:=hrel
  have HG:=Lib.hid hg;have HO:=Lib.hid hown;have HB:=Lib.hid hbel
  have hszw:w.heap.size≤wr.heap.size:=hbel.size
  clear hg hown hbel
  by_cases hlt:k<L.length
  ·obtain ⟨b1,o1,rfl,hb1,c1⟩:=HS.out.s.at hlt (by omega)
   have HA:=Lib.hid ((At.row c1 hlt).fr (Fr.of_below' HB.out (fun _=>False)) (fun h=>h))
   have HSn:Hid (setOf (L.take (k+1))=PackP.put (setOf (L.take k)) L[k]):=by show _=_;rw [List.take_succ_eq_append_getElem hlt,setOf_snoc]
   have HY:=Lib.hid (HS.out.ok _ (List.getElem_mem hlt))
   have HMk:=Lib.hid (set_ok (L:=L.take k) (fun x hx=>HS.out.ok x (List.mem_of_mem_take hx)))
   have HMl:Hid ((setOf (L.take k)).length≤1000000):=by show _≤_;have:=setOf_len (L.take k);rw [List.length_take] at this;omega
   clear c1 hb1
   generalize L[k]=y at *
   generalize setOf (L.take k)=M at *
   have HM:=Lib.hid (fun W:World=>Name.RefMay y HY.out W)
   have HKp:=Lib.hid (fun W:World=>Ref10.Kept y W)
   have q1:(0:Int)≤(k:Int):=by omega
   have q2:decide ((k:Int)<(L.length:Int))=true:=by simp;omega
   obtain ⟨yc0,yc1,yc2,yc3,yc4,yc5,yc6,yc7,yc8⟩:=SetW.at9 HA.out
   go_wp2_with fail
   refine (HM.out _).mono ?_
   rintro e w2 ⟨rfl,hf⟩
   have HF2:=Lib.hid hf
   have HA2:=Lib.hid (HA.out.keep hf)
   clear hf HA HM yc0 yc1 yc2 yc3 yc4 yc5 yc6 yc7 yc8
   cases hm:mayB y with
   |false=>
    have e0:Name.mayN y=1:=by unfold Name.mayN;rw [hm];rfl
    have HE:Hid (setOf (L.take (k+1))=M):=by show _=_;rw [HSn.out,Newest.put_no hm]
    rw [e0]
    clear hm e0
    go_wp2_with fail
    go_roundg (L.length-(k+1))
    case rel=>exact ⟨k+1,by go_num,by omega,rfl,by rw [HE.out];exact ownsRow_fr HO.out HF2.out (fun _ _ h=>h),HB.out.trans (HF2.out.below hszw (fun _ _ h=>h))⟩
    case measure=>have:=HG.out;omega
   |true=>
    have e0:Name.mayN y=0:=by unfold Name.mayN;rw [hm];rfl
    rw [e0]
    have HMb:=Lib.hid hm
    clear e0 hm
    obtain ⟨q,hq⟩:∃q,Sat2.keptS y=q:=⟨_,rfl⟩
    rw [hq] at HKp
    have HQ:Hid (kp y=q):=hq
    have HT:Hid q.ok:=by have h:=kp_ok HY.out;rw [HQ.out] at h;exact h
    clear hq
    obtain ⟨yc0,yc1,yc2,yc3,yc4,yc5,yc6,yc7,yc8⟩:=SetW.at9 HA2.out
    go_wp2_with fail
    refine (HKp.out _).mono ?_
    rintro e w3 ⟨rfl,hf⟩
    have HF3:=Lib.hid (HF2.out.trans hf (T:=fun _=>False) (fun _ _ h=>h) (fun _ _ h=>h))
    clear hf HA2 HF2 yc0 yc1 yc2 yc3 yc4 yc5 yc6 yc7 yc8
    go_upto_region 7 with (fail)
    have hbx:=Bk.new w3 q.arr TSn
    have hfa:=HF3.out.trans (Fr.alloc (fun _=>False) w3 (.cells q.arr TSn)) (T:=fun _=>False) (fun _ _ h=>h) (fun _ _ h=>h)
    generalize (w3.alloc (.cells q.arr TSn))=w4 at *
    generalize w3.heap.size=Bx at *
    have HBx:=Lib.hid (At.box hbx);have HF4:=Lib.hid hfa
    clear hbx hfa HF3 HKp
    have HO4:=Lib.hid (ownsRow_fr HO.out HF4.out (fun _ _ h=>h))
    have HB4:=Lib.hid (HB.out.trans (HF4.out.below hszw (fun _ _ h=>h)))
    clear HO HB
    obtain ⟨A2,c2,rfl,hs4,ha4⟩:=Sl.of_own HO4.out
    have HS4:=Lib.hid hs4
    clear hs4 ha4
    have qc0:w4.cell? ⟨Bx,0,none⟩=some (.int .i64 q.t):=HBx.out 0 _ rfl
    have qc1:w4.cell? ⟨Bx,1,none⟩=some (.int .i64 q.i):=HBx.out 1 _ rfl
    have qc2:w4.cell? ⟨Bx,2,none⟩=some (.int .i64 q.p):=HBx.out 2 _ rfl
    have qc3:w4.cell? ⟨Bx,3,none⟩=some (.int .i64 q.r):=HBx.out 3 _ rfl
    have qc4:w4.cell? ⟨Bx,4,none⟩=some (.string q.s):=HBx.out 4 _ rfl
    have qc5:w4.cell? ⟨Bx,5,none⟩=some (.string q.o):=HBx.out 5 _ rfl
    have qc6:w4.cell? ⟨Bx,6,none⟩=some (.int .i64 q.b):=HBx.out 6 _ rfl
    have qc7:w4.cell? ⟨Bx,7,none⟩=some (.int .i64 q.d):=HBx.out 7 _ rfl
    have qc8:w4.cell? ⟨Bx,8,none⟩=some (.bool q.g):=HBx.out 8 _ rfl
    go_wp2_with fail
    refine (Find A2 c2 M q w4 HS4.out).mono ?_
    rintro e w5 ⟨rfl,hf⟩
    have HF5:=Lib.hid hf
    have HBx5:=Lib.hid (HBx.out.keep hf)
    have HO5:=Lib.hid (ownsRow_fr HO4.out hf (fun _ _ h=>h))
    have HS5:=Lib.hid (HS4.out.fr hf (fun _ _ h=>h))
    have HB5:=Lib.hid (HB4.out.trans (hf.below HB4.out.size (fun _ _ h=>h)))
    clear hf HBx HO4 HS4 HB4 HF4 HF5 qc0 qc1 qc2 qc3 qc4 qc5 qc6 qc7 qc8
    cases hfn:fnd q M with
    |none=>
     have HE:Hid (setOf (L.take (k+1))=ins q M):=by show _=_;rw [HSn.out,Newest.put_none HQ.out HMb.out hfn]
     rw [posI_none hfn]
     clear hfn
     go_upto_region 8 with (fail)
     refine rs8n (by kernel_rfl) _ _ w5 w5 (Fr.refl _ _) rfl rfl ?_
     intro x w6 h36 hf
     simp only [Eng.setAll,Act.put,List.setIfInBounds_toArray,List.set_cons_succ,List.set_cons_zero]
     rw [h36]
     have HO6:=Lib.hid (ownsRow_fr HO5.out hf (fun _ _ h=>h))
     have HS6:=Lib.hid (HS5.out.fr hf (fun _ _ h=>h))
     have HB6:=Lib.hid (HB5.out.trans (hf.below HB5.out.size (fun _ _ h=>h)))
     have HBx6:=Lib.hid (HBx5.out.keep hf)
     have hsz6:w.heap.size≤w6.heap.size:=HB6.out.size
     clear hf h36
     have qc0:w6.cell? ⟨Bx,0,none⟩=some (.int .i64 q.t):=HBx6.out 0 _ rfl
     have qc1:w6.cell? ⟨Bx,1,none⟩=some (.int .i64 q.i):=HBx6.out 1 _ rfl
     have qc2:w6.cell? ⟨Bx,2,none⟩=some (.int .i64 q.p):=HBx6.out 2 _ rfl
     have qc3:w6.cell? ⟨Bx,3,none⟩=some (.int .i64 q.r):=HBx6.out 3 _ rfl
     have qc4:w6.cell? ⟨Bx,4,none⟩=some (.string q.s):=HBx6.out 4 _ rfl
     have qc5:w6.cell? ⟨Bx,5,none⟩=some (.string q.o):=HBx6.out 5 _ rfl
     have qc6:w6.cell? ⟨Bx,6,none⟩=some (.int .i64 q.b):=HBx6.out 6 _ rfl
     have qc7:w6.cell? ⟨Bx,7,none⟩=some (.int .i64 q.d):=HBx6.out 7 _ rfl
     have qc8:w6.cell? ⟨Bx,8,none⟩=some (.bool q.g):=HBx6.out 8 _ rfl
     go_wp2_with fail
     refine (Insert _ c2 M q w6 HS6.out HMl.out).mono ?_
     rintro e w7 ⟨v,rfl,hown,hbel⟩
     have HO7:=Lib.hid (ownsRow_base hown hsz6);have HB7:=Lib.hid (HB6.out.trans (hbel.mono hsz6))
     clear hown hbel qc0 qc1 qc2 qc3 qc4 qc5 qc6 qc7 qc8
     go_wp2_with fail
     go_roundg (L.length-(k+1))
     case rel=>exact ⟨k+1,by go_num,by omega,rfl,by rw [HE.out];exact HO7.out,HB7.out⟩
     case measure=>have:=HG.out;omega
    |some z=>
     have HNo:Hid (nwr q z=false→setOf (L.take (k+1))=M):=fun h=>by rw [HSn.out,Newest.put_old HQ.out HMb.out hfn h]
     have HYe:Hid (nwr q z=true→setOf (L.take (k+1))=ins q M):=fun h=>by rw [HSn.out,Newest.put_new HQ.out HMb.out hfn h]
     obtain ⟨j,hj,hp,hz⟩:=posI_some hfn
     have HZ:=Lib.hid (HMk.out z (fnd_some hfn).1)
     rw [hp]
     clear hfn hp
     obtain ⟨b2,o2,rfl,hb2,c3⟩:=HS5.out.at hj (by omega)
     have HA5:=Lib.hid (At.row c3 hj)
     rw [hz] at HA5
     clear c3 hz hb2
     have hml:M.length≤9223372036854775807:=by have:=HMl.out;omega
     go_upto_region 8 with (fail)
     refine rs8 (by kernel_rfl) _ _ w5 w5 b2 o2 _ c2 j Bx q z HT.out HZ.out ⟨HA5.out,HBx5.out,Fr.refl _ _⟩ hj hml rfl rfl rfl rfl ?_
     intro x w6 h36 hst
     simp only [Eng.setAll,Act.put,List.setIfInBounds_toArray,List.set_cons_succ,List.set_cons_zero]
     rw [h36]
     have hf:=hst.f
     clear hst
     cases hn:nwr q z with
     |true=>
      have HE:=Lib.hid (HYe.out hn)
      clear hn
      have HO6:=Lib.hid (ownsRow_fr HO5.out hf (fun _ _ h=>h))
      have HS6:=Lib.hid (HS5.out.fr hf (fun _ _ h=>h))
      have HB6:=Lib.hid (HB5.out.trans (hf.below HB5.out.size (fun _ _ h=>h)))
      have HBx6:=Lib.hid (HBx5.out.keep hf)
      have hsz6:w.heap.size≤w6.heap.size:=HB6.out.size
      clear hf h36
      have qc0:w6.cell? ⟨Bx,0,none⟩=some (.int .i64 q.t):=HBx6.out 0 _ rfl
      have qc1:w6.cell? ⟨Bx,1,none⟩=some (.int .i64 q.i):=HBx6.out 1 _ rfl
      have qc2:w6.cell? ⟨Bx,2,none⟩=some (.int .i64 q.p):=HBx6.out 2 _ rfl
      have qc3:w6.cell? ⟨Bx,3,none⟩=some (.int .i64 q.r):=HBx6.out 3 _ rfl
      have qc4:w6.cell? ⟨Bx,4,none⟩=some (.string q.s):=HBx6.out 4 _ rfl
      have qc5:w6.cell? ⟨Bx,5,none⟩=some (.string q.o):=HBx6.out 5 _ rfl
      have qc6:w6.cell? ⟨Bx,6,none⟩=some (.int .i64 q.b):=HBx6.out 6 _ rfl
      have qc7:w6.cell? ⟨Bx,7,none⟩=some (.int .i64 q.d):=HBx6.out 7 _ rfl
      have qc8:w6.cell? ⟨Bx,8,none⟩=some (.bool q.g):=HBx6.out 8 _ rfl
      go_wp2_with fail
      refine (Insert _ c2 M q w6 HS6.out HMl.out).mono ?_
      rintro e w7 ⟨v,rfl,hown,hbel⟩
      have HO7:=Lib.hid (ownsRow_base hown hsz6);have HB7:=Lib.hid (HB6.out.trans (hbel.mono hsz6))
      clear hown hbel qc0 qc1 qc2 qc3 qc4 qc5 qc6 qc7 qc8
      go_wp2_with fail
      go_roundg (L.length-(k+1))
      case rel=>exact ⟨k+1,by go_num,by omega,rfl,by rw [HE.out];exact HO7.out,HB7.out⟩
      case measure=>have:=HG.out;omega
     |false=>
      have HE:=Lib.hid (HNo.out hn)
      clear hn
      have HO6:=Lib.hid (ownsRow_fr HO5.out hf (fun _ _ h=>h))
      have HB6:=Lib.hid (HB5.out.trans (hf.below HB5.out.size (fun _ _ h=>h)))
      clear hf
      go_wp2_with fail
      go_roundg (L.length-(k+1))
      case rel=>exact ⟨k+1,by go_num,by omega,rfl,by rw [HE.out];exact HO6.out,HB6.out⟩
      case measure=>have:=HG.out;omega
  ·obtain rfl:k=L.length:=by omega
   have q2:decide ((L.length:Int)<(L.length:Int))=false:=by simp
   rw [List.take_length] at HO
   obtain ⟨A2,c2,rfl,hs2,-⟩:=Sl.of_own HO.out
   have HS2:=Lib.hid hs2
   clear hs2
   go_wp2_with fail
   go_ret
   exact ⟨A2,c2,rfl,⟨HS2.out,HOk.out⟩,HO.out,HB.out⟩
end SetF
end Go.Proofs.YtdpngmgaomghoaaGreatDoor
