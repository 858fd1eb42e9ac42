/- Bags, plain: numbers with how often each is there. No program is named. -/
import Derived.Test.YtdpngmgaomghoaaGreatDoorTrees
namespace Go.Proofs.YtdpngmgaomghoaaGreatDoor
namespace BagP
theorem insL_mem {κ ν:Type} [Ord κ] {k:κ} {v:ν}:∀ {L:List (κ × ν)} {p:κ × ν},p∈insL k v L→p=(k,v)∨p∈L
 | [],p,h=>by simp [insL] at h;exact .inl h
 | (a,b)::t,p,h=>by
  rw [insL] at h
  by_cases h1:Ord.lt k a=true
  ·rw [if_pos h1] at h
   rcases List.mem_cons.1 h with h|h
   ·exact .inl h
   ·exact .inr h
  ·rw [if_neg h1] at h
   by_cases h2:Ord.lt a k=true
   ·rw [if_pos h2] at h
    rcases List.mem_cons.1 h with h|h
    ·exact .inr (by simp [h])
    ·rcases insL_mem h with h|h
     ·exact .inl h
     ·exact .inr (by simp [h])
   ·have e:=Ord.tri a k (by simpa using h2) (by simpa using h1);subst e
    rw [if_neg h2] at h
    rcases List.mem_cons.1 h with h|h
    ·exact .inl h
    ·exact .inr (by simp [h])
end BagP
open Go.RowKit
namespace KeyP
def un (n:Int):Nat:=(n+9223372036854775808).toNat
def kb (n:Int):List UInt8:= [UInt8.ofNat (un n / 72057594037927936),UInt8.ofNat (un n / 281474976710656),UInt8.ofNat (un n / 1099511627776),UInt8.ofNat (un n / 4294967296),UInt8.ofNat (un n / 16777216),UInt8.ofNat (un n / 65536),UInt8.ofNat (un n / 256),UInt8.ofNat (un n)]
theorem kb_len (n:Int):(kb n).length=8:=rfl
def val:List UInt8→Nat:=fun l=>l.foldl (fun u c=>u*256+c.toNat) 0
theorem val_go:∀ (l:List UInt8) (a:Nat),l.foldl (fun u c=>u*256+c.toNat) a=a*256 ^ l.length+val l
 | [],a=>by simp [val]
 |c::t,a=>by
  have h:val (c::t)=(0*256+c.toNat)*256 ^ t.length+val t:=val_go t (0*256+c.toNat)
  rw [List.foldl_cons,val_go t,h,List.length_cons,Nat.pow_succ,Nat.add_mul,Nat.add_mul,Nat.mul_assoc,Nat.mul_comm 256];omega
theorem val_cons (c:UInt8) (t:List UInt8):val (c::t)=c.toNat*256 ^ t.length+val t:=by
 unfold val;rw [List.foldl_cons,val_go];simp [val]
theorem val_snoc (l:List UInt8) (c:UInt8):val (l++ [c])=val l*256+c.toNat:=by simp [val]
theorem val_lt:∀l:List UInt8,val l<256 ^ l.length
 | []=>by simp [val]
 |c::t=>by
  have h:=val_lt t;have hc:=c.toNat_lt
  rw [val_cons,List.length_cons,Nat.pow_succ]
  have:c.toNat*256 ^ t.length≤255*256 ^ t.length:=Nat.mul_le_mul_right _ (by omega)
  omega
theorem less_val:∀ (x y s t:List UInt8),x.length=y.length→Op.bytesLess (x++s) (y++t)=(decide (val x<val y)||(decide (val x=val y)&&Op.bytesLess s t))
 | [],[],s,t,_=>by simp [val]
 | [],_::_,_,_,h=>by simp at h
 |_::_,[],_,_,h=>by simp at h
 |a::x,b::y,s,t,h=>by
  have hl:x.length=y.length:=by simpa using h
  have ih:=less_val x y s t hl
  have h1:=val_lt x;have h2:=val_lt y
  rw [List.cons_append,List.cons_append,Op.bytesLess,ih,val_cons,val_cons,hl]
  rw [hl] at h1
  generalize 256 ^ y.length=P at *
  generalize val x=X at *
  generalize val y=Y at *
  rcases Nat.lt_trichotomy a.toNat b.toNat with hab|hab|hab
  ·have e1:decide (a<b)=true:=by simpa [UInt8.lt_iff_toNat_lt] using hab
   have e2:a.toNat*P+X<b.toNat*P+Y:=by
    have:(a.toNat+1)*P≤b.toNat*P:=Nat.mul_le_mul_right _ (by omega)
    rw [Nat.add_mul] at this;omega
   rw [e1];simp [e2]
  ·have e:a=b:=UInt8.toNat_inj.1 hab
   subst e
   have e1:decide (a<a)=false:=by simp
   rw [e1]
   have e3:(a==a)=true:=by simp
   rw [e3]
   have e4:decide (a.toNat*P+X<a.toNat*P+Y)=decide (X<Y):=by rw [decide_eq_decide];omega
   have e5:decide (a.toNat*P+X=a.toNat*P+Y)=decide (X=Y):=by rw [decide_eq_decide];omega
   rw [e4,e5];simp
  ·have e1:decide (a<b)=false:=by simp [UInt8.lt_iff_toNat_lt];omega
   have e2:b.toNat*P+Y<a.toNat*P+X:=by
    have:(b.toNat+1)*P≤a.toNat*P:=Nat.mul_le_mul_right _ (by omega)
    rw [Nat.add_mul] at this;omega
   have e3:(a==b)=false:=by
    have:a≠b:=fun e=>by subst e;omega
    simpa using this
   rw [e1,e3]
   have e4:decide (a.toNat*P+X<b.toNat*P+Y)=false:=by simp;omega
   have e5:decide (a.toNat*P+X=b.toNat*P+Y)=false:=by simp;omega
   rw [e4,e5];rfl
def wf64 (n:Int):Prop:= -9223372036854775808≤n∧n≤9223372036854775807
theorem un_lt {n:Int} (h:wf64 n):un n<18446744073709551616:=by unfold un;unfold wf64 at h;omega
theorem val_kb {n:Int} (h:wf64 n):val (kb n)=un n:=by
 have:=un_lt h
 unfold kb val
 generalize un n=X at *
 simp only [List.foldl_cons,List.foldl_nil,UInt8.toNat_ofNat']
 omega
theorem un_inj {a b:Int} (ha:wf64 a) (hb:wf64 b):(un a=un b↔a=b)∧(un a<un b↔a<b):=by unfold un;unfold wf64 at ha hb;omega
theorem less_kb {a b:Int} (ha:wf64 a) (hb:wf64 b) (s t:List UInt8):Op.bytesLess (kb a++s) (kb b++t)=(decide (a<b)||(decide (a=b)&&Op.bytesLess s t)):=by
 rw [less_val (kb a) (kb b) s t rfl,val_kb ha,val_kb hb,decide_eq_decide.2 (un_inj ha hb).1,decide_eq_decide.2 (un_inj ha hb).2]
theorem kb_inj {a b:Int} (ha:wf64 a) (hb:wf64 b) (h:kb a=kb b):a=b:=by
 have:=congrArg val h
 rw [val_kb ha,val_kb hb] at this
 exact (un_inj ha hb).1.1 this
def ks (l:List UInt8):ByteArray:=⟨l.toArray⟩
theorem ks_tl (l:List UInt8):(ks l).toList=l:=by rw [tl_data];rfl
theorem ks_data (l:List UInt8):(ks l).data.toList=l:=rfl
theorem ks_size (l:List UInt8):(ks l).size=l.length:=by show l.toArray.size=_;simp
theorem ks_app (a b:List UInt8):ks a++ks b=ks (a++b):=by
 apply ByteArray.ext
 rw [ByteArray.data_append]
 simp [ks]
theorem ks_of (s:ByteArray):ks s.data.toList=s:=by apply ByteArray.ext;simp [ks]
theorem lt_ks (a b:List UInt8):Ord.lt (ks a) (ks b)=Op.bytesLess a b:=by rw [ltStr,ks_tl,ks_tl]
def key2 (a b:Int):ByteArray:=ks (kb a++kb b)
theorem lt_key2 {a b c d:Int} (ha:wf64 a) (hb:wf64 b) (hc:wf64 c) (hd:wf64 d):Ord.lt (key2 a b) (key2 c d)=(decide (a<c)||(decide (a=c)&&decide (b<d))):=by
 have e:=less_kb hb hd [] []
 rw [List.append_nil,List.append_nil] at e
 have e0:Op.bytesLess [] []=false:=by simp [Op.bytesLess]
 rw [e0,Bool.and_false,Bool.or_false] at e
 rw [key2,key2,lt_ks,less_kb ha hc,e]
theorem app_inj {a b c d:List UInt8} (h:a++b=c++d) (hl:a.length=c.length):a=c∧b=d:=List.append_inj h hl
theorem ks_inj {a b:List UInt8} (h:ks a=ks b):a=b:=by have:=congrArg ByteArray.toList h;rwa [ks_tl,ks_tl] at this
theorem key2_inj {a b c d:Int} (ha:wf64 a) (hb:wf64 b) (hc:wf64 c) (hd:wf64 d) (h:key2 a b=key2 c d):a=c∧b=d:=by
 obtain ⟨h1,h2⟩:=app_inj (ks_inj h) rfl
 exact ⟨kb_inj ha hc h1,kb_inj hb hd h2⟩
end KeyP
end Go.Proofs.YtdpngmgaomghoaaGreatDoor
