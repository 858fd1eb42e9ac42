/- The document's answer for layer 1, as far as it is used: lists that are the same. -/
import Derived.Test.YtdpngmgaomghoaaGreatDoorBase
import Derived.Test.YtdpngmgaomghoaaGreatDoorProg
import Derived.Deep.LoopGhost
import Derived.BigQuiet
import Derived.Lib.Hide
import Derived.WalkSpells
import Derived.WalkLawsBesides
namespace Go.Proofs.YtdpngmgaomghoaaGreatDoor
open Tryz
set_option maxRecDepth 100000
open Go.RowKit
abbrev ints (l:List Int):List Value:=l.map (Value.int .i64)
theorem ints_at {l:List Int} {k:Nat} (h:k<l.length):(ints l)[k]? =some (.int .i64 l[k]):=by simp [h]
theorem SameInts (A B:Option Addr) (ca cb:Nat) (a b:List Int) (w:World) (ha:Sl w 1 A a.length ca (ints a)) (hb:Sl w 1 B b.length cb (ints b)):
  Calls prog 21 #[.slice A a.length ca,.slice B b.length cb] w fun e w'=>e=.returned (.bool (decide (a=b)))∧Fr (fun _=>False) w w':=by
 have la:a.length≤9223372036854775807:=by have:=ha.2.1;have:=ha.2.2.1;unfold maxLen at this;omega
 have lb:b.length≤9223372036854775807:=by have:=hb.2.1;have:=hb.2.2.1;unfold maxLen at this;omega
 by_cases hl:a.length=b.length
 ·have t1:((a.length:Int) != (b.length:Int))=false:=by simp [hl]
  have HL:=Lib.hid hl
  clear hl
  go_enter func21,ntmps21
  go_wp2_with fail
  go_loopg [5] a.length (fun gk i wr=>∃k:Nat,i=.int .i64 k∧k≤a.length∧gk=a.length-k∧a.take k=b.take k∧∃m,wr=w.drewN m)
  case atStart=>exact ⟨0,rfl,Nat.zero_le _,rfl,by simp,0,rfl⟩
  case round=>
   obtain ⟨k,rfl,hk,hg,htk,m,rfl⟩:=hrel
   have HT:=Lib.hid htk;have HG:=Lib.hid hg
   clear htk hg
   by_cases hlt:k<a.length
   ·have hlt':k<b.length:=by have:=HL.out;omega
    obtain ⟨b1,o1,rfl,-,c1⟩:=ha.at hlt (by omega)
    obtain ⟨b2,o2,rfl,-,c2⟩:=hb.at hlt' (by omega)
    have d1:w.cell? ⟨b1,o1+k,none⟩=some (.int .i64 a[k]):=c1 k _ (ints_at hlt)
    have d2:w.cell? ⟨b2,o2+k,none⟩=some (.int .i64 b[k]):=c2 k _ (ints_at hlt')
    have g1:(w.drewN m).cell? ⟨b1,o1+k,none⟩=some (.int .i64 a[k]):=d1
    have g2:(w.drewN m).cell? ⟨b2,o2+k,none⟩=some (.int .i64 b[k]):=d2
    have HA:=Lib.hid ha;have HB:=Lib.hid hb
    clear c1 c2 ha hb d1 d2
    have i1:(k:Int)<(a.length:Int):=by omega
    have i2:(k:Int)<(b.length:Int):=by omega
    have hta:=List.take_succ_eq_append_getElem hlt
    have htb:=List.take_succ_eq_append_getElem hlt'
    have HTA:=Lib.hid hta;have HTB:=Lib.hid htb
    clear hta htb
    generalize hwm:w.drewN m=wm at *
    have HW:=Lib.hid hwm
    clear hwm
    generalize hak:a[k]=x at *
    generalize hbk:b[k]=y at *
    have HAK:=Lib.hid hak;have HBK:=Lib.hid hbk
    clear hak hbk
    by_cases hxy:x=y
    ·have t2:(x != y)=false:=by simp [hxy]
     have HX:=Lib.hid hxy
     clear hxy
     go_wp2_with fail
     go_quiet (fail)
     go_wp2_with fail
     go_roundg (a.length-(k+1))
     case rel=>exact ⟨k+1,by go_num,by omega,rfl,by rw [HTA.out,HTB.out,HT.out,HX.out],m+nq,by rw [←HW.out];simp [World.drewN,Nat.add_assoc]⟩
     case measure=>have:=HG.out;omega
    ·have t2:(x != y)=true:=by simp [hxy]
     have HX:=Lib.hid hxy
     clear hxy
     go_wp2_with fail
     go_quiet (fail)
     go_wp2_with fail
     go_ret
     refine ⟨?_,?_⟩
     ·have:decide (a=b)=false:=by
       rw [decide_eq_false_iff_not]
       rintro rfl
       exact HX.out (HAK.out.symm.trans HBK.out)
      rw [this];rfl
     ·rw [←HW.out];exact (Fr.drewN _ w m).trans (Fr.drewN (fun _=>False) _ nq) (fun _ _ h=>h) (fun _ _ h=>h)
   ·obtain rfl:k=a.length:=by omega
    go_wp2_with fail
    go_ret
    refine ⟨?_,Fr.drewN _ _ _⟩
    have h1:=HT.out
    rw [List.take_of_length_le (Nat.le_refl _),HL.out,List.take_of_length_le (Nat.le_refl _)] at h1
    rw [h1];simp
 ·have t1:((a.length:Int) != (b.length:Int))=true:=by simp;omega
  have hne:a≠b:=fun e=>hl (by rw [e])
  have HN:=Lib.hid hne
  clear hl hne
  go_enter func21,ntmps21
  go_wp2_with fail
  go_ret
  exact ⟨by have:=HN.out;simp [this],Fr.refl _ _⟩
theorem SameInts' (A B:Option Addr) (ca cb:Nat) (a b:List Int) (w:World) (na nb:Nat) (hna:na=a.length) (hnb:nb=b.length) (ha:Sl w 1 A a.length ca (ints a)) (hb:Sl w 1 B b.length cb (ints b)):
  Calls prog 21 #[.slice A na ca,.slice B nb cb] w fun e w'=>e=.returned (.bool (decide (a=b)))∧Fr (fun _=>False) w w':=by
 subst hna hnb
 exact SameInts A B ca cb a b w ha hb
end Go.Proofs.YtdpngmgaomghoaaGreatDoor
