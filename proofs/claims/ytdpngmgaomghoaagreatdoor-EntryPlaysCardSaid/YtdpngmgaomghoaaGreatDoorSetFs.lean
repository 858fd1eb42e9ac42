/- Sets of lists of records: the program's and the document's; are lists the same; are there few records; lists joined. -/
import Derived.Test.YtdpngmgaomghoaaGreatDoorNV
import Derived.Lib.AppendZerosOnto
namespace Go.Proofs.YtdpngmgaomghoaaGreatDoor
open Tryz
set_option maxRecDepth 100000
set_option maxHeartbeats 1000000
open Go.RowKit
namespace SetF
open KeyP PackP SetP SetW Code_ Rank
attribute [local go_sem] Eng.ev Eng.getO_cons Eng.getO_nil
structure Ls (w:World) (A:Option Addr) (c:Nat) (L:List Sn):Prop where
 s:Sl w 9 A L.length c (L.flatMap scs)
 ok:∀x∈L,x.ok
theorem Ls.fr {S:Nat→Prop} {w w':World} {A:Option Addr} {c:Nat} {L:List Sn} (h:Ls w A c L) (hf:Fr S w w') (hs:∀a,A=some a→¬S a.block):Ls w' A c L:=⟨h.s.fr hf hs,h.ok⟩
theorem Ls.keep {w w':World} {A:Option Addr} {c:Nat} {L:List Sn} (h:Ls w A c L) (hf:Fr (fun _=>False) w w'):Ls w' A c L:=h.fr hf (fun _ _ h=>h)
theorem Ls.below {w w':World} {A:Option Addr} {c:Nat} {L:List Sn} (h:Ls w A c L) (hb:Below w.heap.size w w'):Ls w' A c L:=h.keep (Fr.of_below' hb _)
theorem Ls.nil (w:World):Ls w none 0 []:=⟨Sl.empty _ _,fun _ h=>by simp at h⟩
def LsPost (M:List Sn) (w:World) (e:Ending) (w':World):Prop:=∃A c,e=.returned (.slice A M.length c)∧Ls w' A c M∧w'.ownsRow w.heap.size TSn 9 (.slice A M.length c) M.length (M.flatMap scs)∧Below w.heap.size w w'
theorem LsPost.of {M:List Sn} {w w':World} {e:Ending} (h:OwnPost M w e w') (hok:∀x∈M,x.ok):LsPost M w e w':=by
 obtain ⟨v,rfl,h1,h2⟩:=h
 obtain ⟨A,c,rfl,h3,-⟩:=Sl.of_own h1
 exact ⟨A,c,rfl,⟨h3,hok⟩,h1,h2⟩
theorem set_ok {L:List Sn} (hok:∀x∈L,x.ok):∀x∈setOf L,x.ok:=fun y hy=>(Newest.set_gk hok y hy).1
theorem Set (A:Option Addr) (c:Nat) (L:List Sn) (w:World) (hS:Ls w A c L) (hlen:L.length≤1000000):
  Calls prog 32 #[.slice A L.length c] w (LsPost (setOf L) w):=by
 have HN:=Lib.hid (Newest.newest A c L w hS.s hlen hS.ok)
 have HOk:=Lib.hid (set_ok hS.ok)
 have HLn:Hid ((setOf L).length≤1000000):=Nat.le_trans (setOf_len L) hlen
 clear hS
 go_enter func32,ntmps32
 go_wp2_with fail
 refine HN.out.mono ?_
 rintro e w1 ⟨rfl,⟨Fp,hm,hF⟩,hb,hz⟩
 have HV:=Lib.hid (Values.values _ _ Fp w1 hm HLn.out)
 have HB:=Lib.hid hb
 clear hm hF hb HN
 go_wp2_with fail
 refine HV.out.mono ?_
 intro e w2 hv
 obtain ⟨A2,c2,rfl,h1,h2,h3⟩:=LsPost.of hv HOk.out
 have H1:=Lib.hid h1;have H2:=Lib.hid (ownsRow_base h2 (Nat.le_of_lt hz));have H3:=Lib.hid (HB.out.trans (h3.mono (Nat.le_of_lt hz)))
 clear hv h1 h2 h3
 go_wp2_with fail
 go_ret
 exact ⟨A2,c2,rfl,H1.out,H2.out,H3.out⟩
def shortB (x:Sn):Bool:=decide (x.s.size≤100)&&decide (x.o.size≤100)
def fewB (L:List Sn) (most:Nat):Bool:=(L.take most).all shortB&&decide (L.length≤most)
theorem Short (x:Sn) (w:World):Calls prog 30 #[x.v] w fun e w'=>e=.returned (.bool (shortB x))∧Fr (fun _=>False) w w':=by
 unfold shortB
 have hf:=Fr.alloc (fun _=>False) w (.cells x.arr TSn)
 have h:=At.box (Bk.new w x.arr TSn)
 have e4:(w.alloc (.cells x.arr TSn)).cell? ⟨w.heap.size,4,none⟩=some (.string x.s):=h 4 _ rfl
 have e5:(w.alloc (.cells x.arr TSn)).cell? ⟨w.heap.size,5,none⟩=some (.string x.o):=h 5 _ rfl
 have HF:=Lib.hid hf
 clear hf h
 by_cases h1:x.s.size≤100
 ·have q1:decide ((x.s.size:Int)≤100)=true:=by simp;omega
  by_cases h2:x.o.size≤100
  ·have q2:decide ((x.o.size:Int)≤100)=true:=by simp;omega
   rw [decide_eq_true h1,decide_eq_true h2]
   clear h1 h2
   go_enter func30,ntmps30
   go_wp2_with fail
   go_ret
   exact ⟨rfl,HF.out⟩
  ·have q2:decide ((x.o.size:Int)≤100)=false:=by simp;omega
   rw [decide_eq_true h1,decide_eq_false h2]
   clear h1 h2
   go_enter func30,ntmps30
   go_wp2_with fail
   go_ret
   exact ⟨rfl,HF.out⟩
 ·have q1:decide ((x.s.size:Int)≤100)=false:=by simp;omega
  rw [decide_eq_false h1]
  clear h1
  go_enter func30,ntmps30
  go_wp2_with fail
  go_ret
  exact ⟨rfl,HF.out⟩
theorem Few (A:Option Addr) (c most:Nat) (L:List Sn) (w:World) (hS:Sl w 9 A L.length c (L.flatMap scs)):
  Calls prog 14 #[.slice A L.length c,.int .i64 most] w fun e w'=>e=.returned (.bool (fewB L most))∧Fr (fun _=>False) w w':=by
 have hlen:L.length≤9223372036854775807:=by have:=hS.2.1;have:=hS.2.2.1;unfold maxLen at this;omega
 have HS:=Lib.hid hS
 clear hS
 go_enter func14,ntmps14
 go_wp2_with fail
 go_loopg [5] L.length (fun gk i wr=>∃k:Nat,i=.int .i64 k∧k≤L.length∧k≤most∧gk=L.length-k∧(L.take k).all shortB=true∧Fr (fun _=>False) w wr)
 case atStart=>exact ⟨0,rfl,Nat.zero_le _,Nat.zero_le _,rfl,by simp,Fr.refl _ _⟩
 case round=>
  obtain ⟨k,rfl,hk,hkm,hg,hal,hf⟩:=hrel
  have HG:=Lib.hid hg;have HAl:=Lib.hid hal;have HF:=Lib.hid hf
  clear hg hal hf
  by_cases hlt:k<L.length∧k<most
  ·obtain ⟨hlt,hltm⟩:=hlt
   obtain ⟨b1,o1,rfl,hb1,c1⟩:=HS.out.at hlt (by omega)
   have HA:=Lib.hid ((At.row c1 hlt).fr HF.out (fun h=>h))
   have HT:Hid (shortB L[k]=true→(L.take (k+1)).all shortB=true):=fun h=>by rw [List.take_succ_eq_append_getElem hlt,List.all_append,HAl.out];simpa using h
   have HNo:Hid (shortB L[k]=false→fewB L most=false):=fun h=>by
    unfold fewB
    rw [Bool.and_eq_false_iff]
    refine .inl (List.all_eq_false.2 ⟨L[k],?_,by rw [h];simp⟩)
    exact List.mem_take_iff_getElem.2 ⟨k,by omega,rfl⟩
   have HSh:=Lib.hid (fun W:World=>Short L[k] W)
   clear c1 hb1
   generalize L[k]=y at *
   have q1:(0:Int)≤(k:Int):=by omega
   have q2:decide ((k:Int)<(L.length:Int))=true:=by simp;omega
   have q3:decide ((k:Int)<(most:Int))=true:=by simp;omega
   obtain ⟨yc0,yc1,yc2,yc3,yc4,yc5,yc6,yc7,yc8⟩:=SetW.at9 HA.out
   go_wp2_with fail
   refine (HSh.out _).mono ?_
   rintro e w2 ⟨rfl,hf⟩
   have HF2:=Lib.hid hf
   clear hf HA HSh yc0 yc1 yc2 yc3 yc4 yc5 yc6 yc7 yc8
   cases h1:shortB y with
   |true=>
    have HE:=Lib.hid (HT.out h1)
    clear h1
    go_wp2_with fail
    go_roundg (L.length-(k+1))
    case rel=>exact ⟨k+1,by go_num,by omega,by omega,rfl,HE.out,HF.out.trans HF2.out (fun _ _ h=>h) (fun _ _ h=>h)⟩
    case measure=>have:=HG.out;omega
   |false=>
    have HE:=Lib.hid (HNo.out h1)
    clear h1
    go_wp2_with fail
    go_ret
    exact ⟨by rw [HE.out];rfl,HF.out.trans HF2.out (fun _ _ h=>h) (fun _ _ h=>h)⟩
  ·by_cases hlm:L.length≤most
   ·have HE:Hid (fewB L most=true):=by
     show _=_
     unfold fewB
     rw [decide_eq_true hlm,Bool.and_true,List.take_of_length_le hlm]
     have h:=HAl.out
     rwa [List.take_of_length_le (by omega)] at h
    have hkl:k=L.length:=by omega
    have q2:decide ((k:Int)<(L.length:Int))=false:=by simp;omega
    have q3:decide ((L.length:Int)≤(most:Int))=true:=by simp;omega
    have z1:¬k<L.length:=by omega
    clear hlt hkl
    go_wp2_with fail
    go_ret
    exact ⟨by rw [HE.out];rfl,HF.out⟩
   ·have HE:Hid (fewB L most=false):=by
     show _=_
     unfold fewB
     rw [decide_eq_false hlm,Bool.and_false]
    have q2:decide ((k:Int)<(L.length:Int))=true:=by simp;omega
    have q3:decide ((L.length:Int)≤(most:Int))=false:=by simp;omega
    have q4:decide ((k:Int)<(most:Int))=false:=by simp;omega
    have z1:k<L.length:=by omega
    have z2:¬k<most:=by omega
    clear hlt
    go_wp2_with fail
    go_ret
    exact ⟨by rw [HE.out];rfl,HF.out⟩
end SetF
namespace SetF
open KeyP PackP SetP SetW Code_ Rank
attribute [local go_sem] Eng.ev Eng.getO_cons Eng.getO_nil
structure Lv where
 A:Option Addr
 c:Nat
 L:List Sn
def Rd (w:World) (x:Lv):Prop:=Ls w x.A x.c x.L
theorem cells_one (L:List Sn):∀u∈L.flatMap scs,u.oneCell'=true:=by
 intro u hu
 obtain ⟨x,-,hx⟩:=List.mem_flatMap.1 hu
 simp at hx
 rcases hx with rfl|rfl|rfl|rfl|rfl|rfl|rfl|rfl|rfl<;>rfl
end SetF
end Go.Proofs.YtdpngmgaomghoaaGreatDoor
