/- Bags, plain: numbers with how often each is there. No program is named. -/
import Derived.Test.YtdpngmgaomghoaaGreatTrees
namespace Go.Proofs.YtdpngmgaomghoaaGreat
namespace BagP
def cnt (x:Int) (L:List (Int × Int)):Int:=(getL x L).getD 0
def sumL:List (Int × Int)→Int
 | []=>0
 |p::t=>p.2+sumL t
def setL (x many:Int) (L:List (Int × Int)):List (Int × Int):=if many=0 then delL x L else insL x many L
def Pos (L:List (Int × Int)):Prop:=∀p∈L,1≤p.2
theorem sumL_append (A B:List (Int × Int)):sumL (A++B)=sumL A+sumL B:=by
 induction A with
 |nil=>simp [sumL]
 |cons p t ih=>simp only [List.cons_append,sumL,ih];omega
theorem cnt_nil (x:Int):cnt x []=0:=rfl
theorem cnt_cons (x:Int) (p:Int × Int) (L:List (Int × Int)):cnt x (p::L)=if sameK x p.1 then p.2 else cnt x L:=by
 unfold cnt;rw [getL_cons];split<;>simp
theorem cnt_low {x:Int} {L:List (Int × Int)} (h:∀p∈L,Ord.lt x p.1=true):cnt x L=0:=by unfold cnt;rw [getL_low' h];rfl
theorem Pos.cnt {L:List (Int × Int)} (h:Pos L) (x:Int):0≤cnt x L∧cnt x L≤sumL L∧0≤sumL L:=by
 induction L with
 |nil=>simp [cnt_nil,sumL]
 |cons p t ih=>
  have h1:=h p (by simp)
  have h2:=ih (fun q hq=>h q (by simp [hq]))
  rw [cnt_cons,sumL]
  split<;>omega
theorem sumL_ins (x v:Int):∀ {L:List (Int × Int)},Srt L→sumL (insL x v L)=sumL L-cnt x L+v
 | [],_=>by simp [insL,sumL,cnt_nil]
 | (a,b)::t,hs=>by
  have hs':=List.pairwise_cons.1 hs
  rw [insL,cnt_cons,sumL]
  by_cases h1:Ord.lt x a=true
  ·rw [if_pos h1,sumL,sumL,sameK_lt h1,if_neg (by simp),cnt_low (fun p hp=>Ord.tr _ _ _ h1 (hs'.1 p hp))]
   dsimp only;omega
  ·rw [if_neg h1]
   by_cases h2:Ord.lt a x=true
   ·rw [if_pos h2,sumL,sumL_ins x v hs'.2,sameK_gt h2,if_neg (by simp)]
    dsimp only;omega
   ·have e:=Ord.tri a x (by simpa using h2) (by simpa using h1);subst e
    rw [if_neg h2,sumL,if_pos (sameK_refl _)]
    dsimp only;omega
theorem sumL_del (x:Int):∀ {L:List (Int × Int)},Srt L→sumL (delL x L)=sumL L-cnt x L
 | [],_=>by simp [delL,sumL,cnt_nil]
 | (a,b)::t,hs=>by
  have hs':=List.pairwise_cons.1 hs
  rw [delL_cons,cnt_cons,sumL]
  by_cases h1:sameK x a=true
  ·have e:=sameK_iff.1 h1;subst e
   rw [if_pos h1,if_pos h1,sumL_del x hs'.2,cnt_low hs'.1]
   dsimp only;omega
  ·rw [if_neg h1,if_neg h1,sumL,sumL_del x hs'.2]
   dsimp only;omega
theorem sumL_set (x v:Int) {L:List (Int × Int)} (hs:Srt L):sumL (setL x v L)=sumL L-cnt x L+v:=by
 unfold setL
 split
 ·rename_i h;rw [sumL_del x hs,h];omega
 ·exact sumL_ins x v hs
theorem setL_srt (x v:Int) {L:List (Int × Int)} (hs:Srt L):Srt (setL x v L):=by
 unfold setL
 split
 ·exact srt_delL _ hs
 ·exact (srt_insL _ hs).1
theorem insL_mem {κ ν:Type} [Ord κ] {k:κ} {v:ν}:∀ {L:List (κ × ν)} {p:κ × ν},p∈insL k v L→p=(k,v)∨p∈L
 | [],p,h=>by simp [insL] at h;exact .inl h
 | (a,b)::t,p,h=>by
  rw [insL] at h
  by_cases h1:Ord.lt k a=true
  ·rw [if_pos h1] at h
   rcases List.mem_cons.1 h with h|h
   ·exact .inl h
   ·exact .inr h
  ·rw [if_neg h1] at h
   by_cases h2:Ord.lt a k=true
   ·rw [if_pos h2] at h
    rcases List.mem_cons.1 h with h|h
    ·exact .inr (by simp [h])
    ·rcases insL_mem h with h|h
     ·exact .inl h
     ·exact .inr (by simp [h])
   ·have e:=Ord.tri a k (by simpa using h2) (by simpa using h1);subst e
    rw [if_neg h2] at h
    rcases List.mem_cons.1 h with h|h
    ·exact .inl h
    ·exact .inr (by simp [h])
theorem setL_pos {x v:Int} {L:List (Int × Int)} (hp:Pos L) (hv:0≤v):Pos (setL x v L):=by
 unfold setL
 split
 ·exact fun p h=>hp p (List.mem_filter.1 h).1
 ·intro p h
  rcases insL_mem h with rfl|h
  ·dsimp only;omega
  ·exact hp p h
theorem setL_len (x v:Int) (L:List (Int × Int)):(setL x v L).length≤L.length+1:=by
 unfold setL
 split
 ·exact Nat.le_trans (delL_len' _ _) (by omega)
 ·exact insL_len' _ _ _
def okA (many:Int) (L:List (Int × Int)):Bool:=decide (0≤many∧many≤4611686018427387904-sumL L)
def addL (x many:Int) (L:List (Int × Int)):List (Int × Int):=if okA many L then setL x (cnt x L+many) L else L
def okT (x many:Int) (L:List (Int × Int)):Bool:=decide (0≤many∧many≤cnt x L)
def takeL (x many:Int) (L:List (Int × Int)):List (Int × Int):=if okT x many L then setL x (cnt x L-many) L else L
structure Ok (L:List (Int × Int)):Prop where
 srt:Srt L
 pos:Pos L
 most:sumL L≤4611686018427387904
theorem Ok.nil:Ok []:=⟨List.Pairwise.nil,fun p h=>by simp at h,by simp [sumL]⟩
theorem Ok.add {L:List (Int × Int)} (h:Ok L) (x many:Int):Ok (addL x many L):=by
 unfold addL
 split
 ·rename_i hk
  simp only [okA,decide_eq_true_eq] at hk
  have:=h.pos.cnt x
  exact ⟨setL_srt _ _ h.srt,setL_pos h.pos (by omega),by rw [sumL_set _ _ h.srt];omega⟩
 ·exact h
theorem Ok.take {L:List (Int × Int)} (h:Ok L) (x many:Int):Ok (takeL x many L):=by
 unfold takeL
 split
 ·rename_i hk
  simp only [okT,decide_eq_true_eq] at hk
  have:=h.pos.cnt x
  have:=h.most
  exact ⟨setL_srt _ _ h.srt,setL_pos h.pos (by omega),by rw [sumL_set _ _ h.srt];omega⟩
 ·exact h
theorem addL_len (x many:Int) (L:List (Int × Int)):(addL x many L).length≤L.length+1:=by
 unfold addL;split
 ·exact setL_len _ _ _
 ·omega
end BagP
open Go.RowKit
namespace KeyP
def un (n:Int):Nat:=(n+9223372036854775808).toNat
def kb (n:Int):List UInt8:= [UInt8.ofNat (un n / 72057594037927936),UInt8.ofNat (un n / 281474976710656),UInt8.ofNat (un n / 1099511627776),UInt8.ofNat (un n / 4294967296),UInt8.ofNat (un n / 16777216),UInt8.ofNat (un n / 65536),UInt8.ofNat (un n / 256),UInt8.ofNat (un n)]
theorem kb_len (n:Int):(kb n).length=8:=rfl
def val:List UInt8→Nat:=fun l=>l.foldl (fun u c=>u*256+c.toNat) 0
theorem val_go:∀ (l:List UInt8) (a:Nat),l.foldl (fun u c=>u*256+c.toNat) a=a*256 ^ l.length+val l
 | [],a=>by simp [val]
 |c::t,a=>by
  have h:val (c::t)=(0*256+c.toNat)*256 ^ t.length+val t:=val_go t (0*256+c.toNat)
  rw [List.foldl_cons,val_go t,h,List.length_cons,Nat.pow_succ,Nat.add_mul,Nat.add_mul,Nat.mul_assoc,Nat.mul_comm 256];omega
theorem val_cons (c:UInt8) (t:List UInt8):val (c::t)=c.toNat*256 ^ t.length+val t:=by
 unfold val;rw [List.foldl_cons,val_go];simp [val]
theorem val_lt:∀l:List UInt8,val l<256 ^ l.length
 | []=>by simp [val]
 |c::t=>by
  have h:=val_lt t;have hc:=c.toNat_lt
  rw [val_cons,List.length_cons,Nat.pow_succ]
  have:c.toNat*256 ^ t.length≤255*256 ^ t.length:=Nat.mul_le_mul_right _ (by omega)
  omega
theorem less_val:∀ (x y s t:List UInt8),x.length=y.length→Op.bytesLess (x++s) (y++t)=(decide (val x<val y)||(decide (val x=val y)&&Op.bytesLess s t))
 | [],[],s,t,_=>by simp [val]
 | [],_::_,_,_,h=>by simp at h
 |_::_,[],_,_,h=>by simp at h
 |a::x,b::y,s,t,h=>by
  have hl:x.length=y.length:=by simpa using h
  have ih:=less_val x y s t hl
  have h1:=val_lt x;have h2:=val_lt y
  rw [List.cons_append,List.cons_append,Op.bytesLess,ih,val_cons,val_cons,hl]
  rw [hl] at h1
  generalize 256 ^ y.length=P at *
  generalize val x=X at *
  generalize val y=Y at *
  rcases Nat.lt_trichotomy a.toNat b.toNat with hab|hab|hab
  ·have e1:decide (a<b)=true:=by simpa [UInt8.lt_iff_toNat_lt] using hab
   have e2:a.toNat*P+X<b.toNat*P+Y:=by
    have:(a.toNat+1)*P≤b.toNat*P:=Nat.mul_le_mul_right _ (by omega)
    rw [Nat.add_mul] at this;omega
   rw [e1];simp [e2]
  ·have e:a=b:=UInt8.toNat_inj.1 hab
   subst e
   have e1:decide (a<a)=false:=by simp
   rw [e1]
   have e3:(a==a)=true:=by simp
   rw [e3]
   have e4:decide (a.toNat*P+X<a.toNat*P+Y)=decide (X<Y):=by rw [decide_eq_decide];omega
   have e5:decide (a.toNat*P+X=a.toNat*P+Y)=decide (X=Y):=by rw [decide_eq_decide];omega
   rw [e4,e5];simp
  ·have e1:decide (a<b)=false:=by simp [UInt8.lt_iff_toNat_lt];omega
   have e2:b.toNat*P+Y<a.toNat*P+X:=by
    have:(b.toNat+1)*P≤a.toNat*P:=Nat.mul_le_mul_right _ (by omega)
    rw [Nat.add_mul] at this;omega
   have e3:(a==b)=false:=by
    have:a≠b:=fun e=>by subst e;omega
    simpa using this
   rw [e1,e3]
   have e4:decide (a.toNat*P+X<b.toNat*P+Y)=false:=by simp;omega
   have e5:decide (a.toNat*P+X=b.toNat*P+Y)=false:=by simp;omega
   rw [e4,e5];rfl
def wf64 (n:Int):Prop:= -9223372036854775808≤n∧n≤9223372036854775807
theorem un_lt {n:Int} (h:wf64 n):un n<18446744073709551616:=by unfold un;unfold wf64 at h;omega
theorem val_kb {n:Int} (h:wf64 n):val (kb n)=un n:=by
 have:=un_lt h
 unfold kb val
 generalize un n=X at *
 simp only [List.foldl_cons,List.foldl_nil,UInt8.toNat_ofNat']
 omega
theorem un_inj {a b:Int} (ha:wf64 a) (hb:wf64 b):(un a=un b↔a=b)∧(un a<un b↔a<b):=by unfold un;unfold wf64 at ha hb;omega
theorem less_kb {a b:Int} (ha:wf64 a) (hb:wf64 b) (s t:List UInt8):Op.bytesLess (kb a++s) (kb b++t)=(decide (a<b)||(decide (a=b)&&Op.bytesLess s t)):=by
 rw [less_val (kb a) (kb b) s t rfl,val_kb ha,val_kb hb,decide_eq_decide.2 (un_inj ha hb).1,decide_eq_decide.2 (un_inj ha hb).2]
theorem kb_inj {a b:Int} (ha:wf64 a) (hb:wf64 b) (h:kb a=kb b):a=b:=by
 have:=congrArg val h
 rw [val_kb ha,val_kb hb] at this
 exact (un_inj ha hb).1.1 this
def ks (l:List UInt8):ByteArray:=⟨l.toArray⟩
theorem ks_tl (l:List UInt8):(ks l).toList=l:=by rw [tl_data];rfl
theorem ks_data (l:List UInt8):(ks l).data.toList=l:=rfl
theorem ks_size (l:List UInt8):(ks l).size=l.length:=by show l.toArray.size=_;simp
theorem ks_app (a b:List UInt8):ks a++ks b=ks (a++b):=by
 apply ByteArray.ext
 rw [ByteArray.data_append]
 simp [ks]
theorem lt_ks (a b:List UInt8):Ord.lt (ks a) (ks b)=Op.bytesLess a b:=by rw [ltStr,ks_tl,ks_tl]
def key2 (a b:Int):ByteArray:=ks (kb a++kb b)
theorem lt_key2 {a b c d:Int} (ha:wf64 a) (hb:wf64 b) (hc:wf64 c) (hd:wf64 d):Ord.lt (key2 a b) (key2 c d)=(decide (a<c)||(decide (a=c)&&decide (b<d))):=by
 have e:=less_kb hb hd [] []
 rw [List.append_nil,List.append_nil] at e
 have e0:Op.bytesLess [] []=false:=by simp [Op.bytesLess]
 rw [e0,Bool.and_false,Bool.or_false] at e
 rw [key2,key2,lt_ks,less_kb ha hc,e]
theorem app_inj {a b c d:List UInt8} (h:a++b=c++d) (hl:a.length=c.length):a=c∧b=d:=List.append_inj h hl
theorem ks_inj {a b:List UInt8} (h:ks a=ks b):a=b:=by have:=congrArg ByteArray.toList h;rwa [ks_tl,ks_tl] at this
theorem key2_inj {a b c d:Int} (ha:wf64 a) (hb:wf64 b) (hc:wf64 c) (hd:wf64 d) (h:key2 a b=key2 c d):a=c∧b=d:=by
 obtain ⟨h1,h2⟩:=app_inj (ks_inj h) rfl
 exact ⟨kb_inj ha hc h1,kb_inj hb hd h2⟩
end KeyP
end Go.Proofs.YtdpngmgaomghoaaGreat
