/- The library's slices.Equal, Index, Contains, IndexFunc, ContainsFunc and Clone at lists of records. -/
import Derived.Test.YtdpngmgaomghoaaGreatDoorSetFs
namespace Go.Proofs.YtdpngmgaomghoaaGreatDoor
open Tryz
set_option maxRecDepth 100000
set_option maxHeartbeats 1000000
open Go.RowKit
namespace Sli
open KeyP PackP SetP SetW SetF
attribute [local go_sem] Eng.ev Eng.getO_cons Eng.getO_nil
def idx (p:Sn→Bool) (L:List Sn):Int:=match L.findIdx? p with
 |some k=>k
 |none=> -1
theorem idx_at {p:Sn→Bool}:∀ {L:List Sn} {k:Nat},(∀y∈L.take k,p y=false)→(h:k<L.length)→p L[k]=true→L.findIdx? p=some k
 | [],k,_,h,_=>by simp at h
 |a::L,0,_,_,h1=>by rw [List.findIdx?_cons,show p a=true from h1];rfl
 |a::L,k+1,h0,h,h1=>by
  have ha:p a=false:=h0 a (by simp)
  have ih:=idx_at (p:=p) (L:=L) (k:=k) (fun y hy=>h0 y (by simp [hy])) (by simpa using h) (by simpa using h1)
  rw [List.findIdx?_cons,ha,ih];rfl
theorem idx_hit {p:Sn→Bool} {L:List Sn} {k:Nat} (h0:∀y∈L.take k,p y=false) (h:k<L.length) (h1:p L[k]=true):idx p L=k:=by unfold idx;rw [idx_at h0 h h1]
theorem idx_none {p:Sn→Bool} {L:List Sn} (h:∀y∈L,p y=false):idx p L= -1:=by
 have:L.findIdx? p=none:=by rw [List.findIdx?_eq_none_iff];exact h
 unfold idx;rw [this]
theorem idx_any {p:Sn→Bool} {L:List Sn}:decide (0≤idx p L)=L.any p:=by
 unfold idx
 cases h:L.findIdx? p with
 |none=>
  rw [List.findIdx?_eq_none_iff] at h
  show decide ((0:Int)≤ -1)=_
  rw [show decide ((0:Int)≤ -1)=false from rfl,eq_comm,List.any_eq_false]
  exact fun x hx=>by rw [h x hx];simp
 |some k=>
  obtain ⟨hk,h1,-⟩:=List.findIdx?_eq_some_iff_getElem.1 h
  show decide ((0:Int)≤(k:Int))=_
  rw [decide_eq_true (by omega),eq_comm,List.any_eq_true]
  exact ⟨_,List.getElem_mem hk,h1⟩
theorem take_snoc_all {p:Sn→Bool} {L:List Sn} {k:Nat} (h0:∀y∈L.take k,p y=false) (hlt:k<L.length) (h1:p L[k]=false):∀y∈L.take (k+1),p y=false:=fun y hy=>by
 rw [List.take_succ_eq_append_getElem hlt,List.mem_append] at hy
 rcases hy with hy|hy
 ·exact h0 y hy
 ·simp at hy;rw [hy];exact h1
def Pred (g:Nat) (lb:Array Value) (p:Sn→Bool) (L:List Sn) (w:World):Prop:=∀W,Fr (fun _=>False) w W→∀x∈L,Calls prog g (#[x.v]++lb) W fun e w'=>e=.returned (.bool (p x))∧Fr (fun _=>False) W w'
theorem IndexFunc (A:Option Addr) (c g:Nat) (lb:Array Value) (p:Sn→Bool) (L:List Sn) (w:World) (eg:∀args w,(callFunc g args).run prog w=.ok (.enter g args) w) (hS:Sl w 9 A L.length c (L.flatMap scs)) (hp:Pred g lb p L w):
  Calls prog 63 #[.slice A L.length c,.func (.func g) #[] lb] w fun e w'=>e=.returned (.int .i64 (idx p L))∧Fr (fun _=>False) w w':=by
 have hlen:L.length≤9223372036854775807:=by have:=hS.2.1;have:=hS.2.2.1;unfold maxLen at this;omega
 have HS:=Lib.hid hS
 have HP:=Lib.hid hp
 clear hS hp
 go_enter func63,ntmps63
 go_wp2_with fail
 go_loopg [5,8] L.length (fun gk _ i wr=>∃k:Nat,i=.int .i64 k∧k≤L.length∧gk=L.length-k∧(∀y∈L.take k,p y=false)∧Fr (fun _=>False) w wr)
 case atStart=>exact ⟨0,rfl,Nat.zero_le _,rfl,by simp,Fr.refl _ _⟩
 case round=>
  obtain ⟨k,rfl,hk,hg,hno,hf⟩:=hrel
  have HG:=Lib.hid hg;have HNo:=Lib.hid hno;have HF:=Lib.hid hf
  clear hg hno hf
  by_cases hlt:k<L.length
  ·obtain ⟨b1,o1,rfl,hb1,c1⟩:=HS.out.at hlt (by omega)
   have HA:=Lib.hid ((At.row c1 hlt).fr HF.out (fun h=>h))
   have HC:=Lib.hid (HP.out wr HF.out _ (List.getElem_mem hlt))
   clear c1 hb1
   have HY:Hid (p L[k]=true→idx p L=k):=fun h=>idx_hit HNo.out hlt h
   have HT:Hid (p L[k]=false→∀y∈L.take (k+1),p y=false):=fun h=>take_snoc_all HNo.out hlt h
   generalize L[k]=y at *
   have q1:(0:Int)≤(k:Int):=by omega
   have q2:decide ((k:Int)<(L.length:Int))=true:=by simp;omega
   obtain ⟨yc0,yc1,yc2,yc3,yc4,yc5,yc6,yc7,yc8⟩:=SetW.at9 HA.out
   cases h1:p y with
   |true=>
    have HE:=Lib.hid (HY.out h1)
    rw [h1] at HC
    clear h1
    go_wp2_with (go_at_fn g;refine HC.out.mono ?_;rintro e w2 ⟨rfl,hf⟩)
    go_ret
    exact ⟨by rw [HE.out];rfl,HF.out.trans hf (fun _ _ h=>h) (fun _ _ h=>h)⟩
   |false=>
    have HE:=Lib.hid (HT.out h1)
    rw [h1] at HC
    clear h1
    go_wp2_with (go_at_fn g;refine HC.out.mono ?_;rintro e w2 ⟨rfl,hf⟩)
    go_roundg (L.length-(k+1))
    case rel=>exact ⟨k+1,by go_num,by omega,rfl,HE.out,HF.out.trans hf (fun _ _ h=>h) (fun _ _ h=>h)⟩
    case measure=>have:=HG.out;omega
  ·obtain rfl:k=L.length:=by omega
   have q2:decide ((L.length:Int)<(L.length:Int))=false:=by simp
   have h:=HNo.out
   rw [List.take_length] at h
   have HE:=Lib.hid (idx_none h)
   clear h
   go_wp2_with fail
   go_ret
   exact ⟨by rw [HE.out];rfl,HF.out⟩
theorem ContainsFunc (A:Option Addr) (c g:Nat) (lb:Array Value) (p:Sn→Bool) (L:List Sn) (w:World) (eg:∀args w,(callFunc g args).run prog w=.ok (.enter g args) w) (hS:Sl w 9 A L.length c (L.flatMap scs)) (hp:Pred g lb p L w):
  Calls prog 39 #[.slice A L.length c,.func (.func g) #[] lb] w fun e w'=>e=.returned (.bool (L.any p))∧Fr (fun _=>False) w w':=by
 have HI:=Lib.hid (IndexFunc A c g lb p L w eg hS hp)
 have q1:=idx_any (p:=p) (L:=L)
 clear hS hp
 go_enter func39,ntmps39
 go_wp2_with fail
 refine HI.out.mono ?_
 rintro e w2 ⟨rfl,hf⟩
 have HF2:=Lib.hid hf
 clear hf HI
 have q2:decide (idx p L≥0)=L.any p:=q1
 go_wp2_with fail
 go_ret
 exact ⟨by rw [←q2];rfl,HF2.out⟩
end Sli
end Go.Proofs.YtdpngmgaomghoaaGreatDoor
