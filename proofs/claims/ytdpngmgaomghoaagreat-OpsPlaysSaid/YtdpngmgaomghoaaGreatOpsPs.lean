/- Texts with a zero byte between their parts, plain: their order is that of the parts. No program is named. -/
import Derived.Test.YtdpngmgaomghoaaGreatHistPQ
import Derived.Lib.SlicesCompact
namespace Go.Proofs.YtdpngmgaomghoaaGreat
open Go.RowKit
namespace Sep
def nz (l:List UInt8):Prop:=∀x∈l,0<x
theorem nz_cons {x:UInt8} {l:List UInt8} (h:nz (x::l)):0<x∧nz l:=⟨h x (by simp),fun y hy=>h y (by simp [hy])⟩
theorem less_sep:∀ {a c:List UInt8} (b d:List UInt8),nz a→nz c→Op.bytesLess (a++0::b) (c++0::d)=(Op.bytesLess a c||(decide (a=c)&&Op.bytesLess b d))
 | [],[],b,d,_,_=>by simp [Op.bytesLess]
 | [],y::c,b,d,_,h=>by
  have:=(nz_cons h).1
  simp [Op.bytesLess,this]
 |x::a,[],b,d,h,_=>by
  have h1:=(nz_cons h).1
  have h2:¬x<0:=UInt8.not_lt.2 (UInt8.le_of_lt h1)
  have h3:x≠0:=fun e=>by rw [e] at h1;exact absurd h1 (UInt8.lt_irrefl _)
  simp [Op.bytesLess,h2,h3]
 |x::a,y::c,b,d,h,k=>by
  simp only [List.cons_append,Op.bytesLess,less_sep b d (nz_cons h).2 (nz_cons k).2,List.cons.injEq]
  by_cases e:x=y
  ·subst e
   have:=UInt8.lt_irrefl x
   simp [this]
  ·have e2:(x==y)=false:=by simpa using e
   simp [e,e2]
theorem inj_sep1:∀ {a c b d:List UInt8},nz c→nz d→a++0::b=c++0::d→a=c∧b=d
 | [],[],b,d,_,_,h=>⟨rfl,by simpa using h⟩
 | [],y::c,b,d,h,_,e=>by
  have h1:=(nz_cons h).1
  simp only [List.nil_append,List.cons_append,List.cons.injEq] at e
  rw [←e.1] at h1;exact absurd h1 (UInt8.lt_irrefl _)
 |x::a,[],b,d,_,h,e=>by
  simp only [List.nil_append,List.cons_append,List.cons.injEq] at e
  have h1:=h 0 (by rw [←e.2];simp)
  exact absurd h1 (UInt8.lt_irrefl _)
 |x::a,y::c,b,d,h,k,e=>by
  simp only [List.cons_append,List.cons.injEq] at e
  obtain ⟨e1,e2⟩:=inj_sep1 (nz_cons h).2 k e.2
  exact ⟨by rw [e.1,e1],e2⟩
end Sep
namespace OpsP
open BagP HistP
abbrev Nm:=ByteArray × ByteArray
def key (k:Nm):ByteArray:=k.1++(⟨#[0]⟩:ByteArray)++k.2
theorem key_list (k:Nm):(key k).toList=k.1.toList++0::k.2.toList:=by
 rw [tl_data,tl_data,tl_data];simp [key]
theorem key_size (k:Nm):(key k).size=k.1.size+1+k.2.size:=by
 simp only [key,ByteArray.size_append];rfl
def nzN (k:Nm):Prop:=Sep.nz k.1.toList∧Sep.nz k.2.toList∧k.1.size+k.2.size≤1000000
theorem key_inj {a b:Nm} (hb:nzN b) (h:key a=key b):a=b:=by
 have h':(key a).toList=(key b).toList:=by rw [h]
 rw [key_list,key_list] at h'
 obtain ⟨e1,e2⟩:=Sep.inj_sep1 hb.1 hb.2.1 h'
 exact Prod.ext (str_ext e1) (str_ext e2)
def ltN (a b:Nm):Bool:=Ord.lt a.1 b.1||(decide (a.1=b.1)&&Ord.lt a.2 b.2)
theorem lt_key {a b:Nm} (ha:nzN a) (hb:nzN b):Ord.lt (key a) (key b)=ltN a b:=by
 unfold ltN
 rw [ltStr,ltStr,ltStr,key_list,key_list,Sep.less_sep _ _ ha.1 hb.1]
 congr 2
 exact decide_eq_decide.2 ⟨fun h=>str_ext h,fun h=>by rw [h]⟩
structure Wf (x:HS):Prop where
 ok:Ok x.1
 may:May x.2
 rng:∀p∈x.1,0≤p.1∧p.1≤63
theorem Wf.zero:Wf ([],(0,0)):=⟨Ok.nil,May.zero,by simp⟩
theorem srt_len:∀ {L:List (Int × Int)} (a:Int),a≤64→Srt L→(∀p∈L,a≤p.1∧p.1≤63)→(L.length:Int)≤64-a
 | [],a,ha,_,_=>by simp;omega
 |p::t,a,ha,hs,h=>by
  have h1:=List.pairwise_cons.1 hs
  have hp:=h p (by simp)
  have:=srt_len (p.1+1) (by omega) h1.2 (fun q hq=>⟨by have:=h1.1 q hq;rw [ltInt] at this;simp at this;omega,(h q (by simp [hq])).2⟩)
  simp only [List.length_cons];omega
theorem Wf.len {x:HS} (h:Wf x):x.1.length≤64:=by
 have:=srt_len 0 (by omega) h.ok.srt h.rng;omega
theorem setL_rng {k v:Int} {L:List (Int × Int)} (h:∀p∈L,0≤p.1∧p.1≤63) (hk:0≤k∧k≤63):∀p∈setL k v L,0≤p.1∧p.1≤63:=by
 intro p hp
 unfold setL at hp
 split at hp
 ·exact h p (List.mem_filter.1 hp).1
 ·rcases insL_mem hp with rfl|hp
  ·exact hk
  ·exact h p hp
theorem Wf.add {x:HS} (h:Wf x) (d:Int):Wf (addH d x):=by
 refine ⟨h.ok.add _ _,h.may.add d,?_⟩
 show ∀p∈addL (bk d) 1 x.1,_
 unfold addL
 split
 ·exact setL_rng h.rng (bk_rng d)
 ·exact h.rng
theorem Wf.drop {x:HS} (h:Wf x) (d:Int):Wf (dropH d x):=by
 unfold dropH
 split
 ·refine ⟨h.ok.take _ _,h.may.sub d,?_⟩
  show ∀p∈takeL (bk d) 1 x.1,_
  unfold takeL
  split
  ·exact setL_rng h.rng (bk_rng d)
  ·exact h.rng
 ·exact h
theorem add_ne {x:HS} (h:Wf x) (d:Int):sumL (addH d x).1≠0:=by
 show sumL (addL (bk d) 1 x.1)≠0
 have h0:=(h.ok.pos.cnt 0).2.2
 unfold addL
 split
 ·rw [sumL_set _ _ h.ok.srt];omega
 ·rename_i hk
  unfold okA at hk
  simp at hk
  omega
theorem okD_nil (d:Int):okD d ([],(0,0))=false:=by
 unfold okD okT;simp [BagP.cnt_nil]
abbrev Vw:=List (ByteArray × (Nm × HS))
def hget (k:Nm) (V:Vw):HS:=((getL (key k) V).map (·.2)).getD ([],(0,0))
def setV (k:Nm) (x:HS) (V:Vw):Vw:=if sumL x.1=0 then delL (key k) V else insL (key k) (k,x) V
structure Vok (V:Vw):Prop where
 srt:Srt V
 key:∀p∈V,p.1=key p.2.1∧nzN p.2.1
 wf:∀p∈V,Wf p.2.2∧sumL p.2.2.1≠0
theorem Vok.nil:Vok []:=⟨List.Pairwise.nil,by simp,by simp⟩
section
variable {V:Vw} {k:Nm} {x:HS}
theorem Vok.get (h:Vok V) {q:Nm × HS} (hg:getL (OpsP.key k) V=some q):q.1=k:=by
 have:=h.key _ (getL_mem hg)
 exact (key_inj this.2 this.1).symm
theorem Vok.wfget (h:Vok V) (k:Nm):Wf (hget k V):=by
 unfold hget
 cases hg:getL (OpsP.key k) V with
 |none=>exact Wf.zero
 |some q=>exact (h.wf _ (getL_mem hg)).1
theorem hget_some {q:Nm × HS} (hg:getL (key k) V=some q):hget k V=q.2:=by unfold hget;rw [hg];rfl
theorem hget_none (hg:getL (key k) V=none):hget k V=([],(0,0)):=by unfold hget;rw [hg];rfl
theorem Vok.none_iff (h:Vok V) (k:Nm):sumL (hget k V).1=0↔getL (OpsP.key k) V=none:=by
 cases hg:getL (OpsP.key k) V with
 |none=>rw [hget_none hg];simp [sumL]
 |some q=>rw [hget_some hg];simpa using (h.wf _ (getL_mem hg)).2
theorem Vok.ins (h:Vok V) (hk:nzN k) (hx:Wf x) (h0:sumL x.1≠0):Vok (insL (OpsP.key k) (k,x) V):=by
 refine ⟨(srt_insL _ h.srt).1,fun p hp=>?_,fun p hp=>?_⟩
 ·rcases insL_mem hp with rfl|hp
  ·exact ⟨rfl,hk⟩
  ·exact h.key p hp
 ·rcases insL_mem hp with rfl|hp
  ·exact ⟨hx,h0⟩
  ·exact h.wf p hp
theorem Vok.del (h:Vok V) (t:ByteArray):Vok (delL t V):=
 ⟨srt_delL _ h.srt,fun p hp=>h.key p (List.mem_filter.1 hp).1,fun p hp=>h.wf p (List.mem_filter.1 hp).1⟩
theorem Vok.set (h:Vok V) (hk:nzN k) (hx:Wf x):Vok (setV k x V):=by
 unfold setV
 split
 ·exact h.del _
 ·rename_i h0;exact h.ins hk hx h0
theorem get_set (t:ByteArray):getL t (setV k x V)=if sameK t (key k) then (if sumL x.1=0 then none else some (k,x)) else getL t V:=by
 unfold setV
 by_cases h0:sumL x.1=0
 ·rw [if_pos h0,getL_del];split<;>simp
 ·rw [if_neg h0,getL_ins];split<;>simp
def setF (k:Nm) (x:HS):Bool→Vw→Vw
 |put,[]=>if put then [] else [(key k,(k,x))]
 |put,p::t=>if p.2.1=k then setF k x put t else if !put&&ltN k p.2.1 then (key k,(k,x))::p::setF k x true t else p::setF k x put t
theorem setF_true (hk:nzN k):∀ {V:Vw},(∀p∈V,p.1=key p.2.1∧nzN p.2.1)→setF k x true V=delL (key k) V
 | [],_=>rfl
 |p::t,h=>by
  have hp:=h p (by simp)
  have ih:setF k x true t=delL (key k) t:=setF_true hk (fun q hq=>h q (by simp [hq]))
  unfold setF
  rw [delL_cons]
  by_cases e:p.2.1=k
  ·rw [if_pos e,if_pos (by rw [hp.1,e];exact sameK_refl _),ih]
  ·have hs:sameK (key k) p.1=false:=by rw [hp.1];exact sameK_ne (fun e'=>e (key_inj hp.2 e').symm)
   rw [if_neg e,hs];simp [ih]
theorem del_low {V:Vw} (h:∀p∈V,Ord.lt (key k) p.1=true):delL (key k) V=V:=by
 refine delL_none (fun p hp=>sameK_lt (h p hp))
theorem setF_low (hk:nzN k) {V:Vw} (h:∀p∈V,p.1=key p.2.1∧nzN p.2.1) (hl:∀p∈V,Ord.lt (key k) p.1=true):setF k x false V=(key k,(k,x))::V:=by
 cases V with
 |nil=>rfl
 |cons p t=>
  have hp:=h p (by simp)
  have hlp:=hl p (by simp)
  have e:p.2.1≠k:=fun e=>by rw [hp.1,e,Ord.irr] at hlp;cases hlp
  rw [hp.1,lt_key hk hp.2] at hlp
  unfold setF
  rw [if_neg e,hlp,if_pos (by rfl),setF_true hk (fun q hq=>h q (by simp [hq])),del_low (fun q hq=>hl q (by simp [hq]))]
theorem setF_false (hk:nzN k):∀ {V:Vw},(∀p∈V,p.1=key p.2.1∧nzN p.2.1)→Srt V→setF k x false V=insL (key k) (k,x) V
 | [],_,_=>rfl
 |p::t,h,hs=>by
  have hp:=h p (by simp)
  have hs':=List.pairwise_cons.1 hs
  have ht:∀q∈t,q.1=key q.2.1∧nzN q.2.1:=fun q hq=>h q (by simp [hq])
  obtain ⟨a,b⟩:=p
  dsimp only at hp
  by_cases e:b.1=k
  ·have ea:a=key k:=by rw [hp.1,e]
   unfold setF
   dsimp only
   rw [if_pos e,setF_low hk ht (fun q hq=>by rw [←ea];exact hs'.1 q hq),insL,ea,Ord.irr]
   simp
  ·unfold setF
   dsimp only
   rw [if_neg e,insL,hp.1,lt_key hk hp.2,lt_key hp.2 hk]
   by_cases h1:ltN k b.1=true
   ·have hlow:∀q∈t,Ord.lt (key k) q.1=true:=fun q hq=>Ord.tr _ _ _ (by rw [←lt_key hk hp.2,←hp.1] at h1;exact h1) (hs'.1 q hq)
    rw [h1,if_pos (by rfl),if_pos rfl,setF_true hk ht,del_low hlow]
   ·have h1':ltN k b.1=false:=by simpa using h1
    have h2:ltN b.1 k=true:=by
     cases h2:ltN b.1 k with
     |true=>rfl
     |false=>
      rw [←lt_key hk hp.2] at h1';rw [←lt_key hp.2 hk] at h2
      exact absurd (key_inj hk (Ord.tri _ _ h2 h1')) e
    rw [h1',h2,setF_false hk ht hs'.2]
    simp
theorem setF_set (h:Vok V) (hk:nzN k):setF k x (decide (sumL x.1=0)) V=setV k x V:=by
 unfold setV
 by_cases h0:sumL x.1=0
 ·rw [if_pos h0,decide_eq_true h0,setF_true hk h.key]
 ·rw [if_neg h0,decide_eq_false h0,setF_false hk h.key h.srt]
end
def addV (V:Vw) (r:Nm × Int):Vw:=insL (key r.1) (r.1,addH r.2 (hget r.1 V)) V
def dropV (V:Vw) (r:Nm × Int):Vw:=setV r.1 (dropH r.2 (hget r.1 V)) V
def leaveV:List (Nm × Int)→Vw→Option Vw
 | [],V=>some V
 |r::t,V=>if okD r.2 (hget r.1 V) then leaveV t (dropV V r) else none
def applyV (O I:List (Nm × Int)) (V:Vw):Option Vw:=(leaveV O V).map (fun V=>I.foldl addV V)
theorem leaveV_app:∀ (A B:List (Nm × Int)) (V:Vw),leaveV (A++B) V=(leaveV A V).bind (leaveV B)
 | [],B,V=>rfl
 |r::A,B,V=>by
  rw [List.cons_append,leaveV,leaveV]
  split
  ·exact leaveV_app A B _
  ·rfl
theorem leaveV_snoc {l:List (Nm × Int)} {V V1:Vw} {k:Nat} (hk:k<l.length) (h:leaveV (l.take k) V=some V1):leaveV (l.take (k+1)) V=if okD l[k].2 (hget l[k].1 V1) then some (dropV V1 l[k]) else none:=by
 rw [List.take_add_one,List.getElem?_eq_getElem hk,leaveV_app,h]
 show leaveV [l[k]] V1=_
 rw [leaveV];rfl
theorem leaveV_no {l:List (Nm × Int)} {V V1:Vw} {k:Nat} (hk:k<l.length) (h:leaveV (l.take k) V=some V1) (hn:okD l[k].2 (hget l[k].1 V1)=false):leaveV l V=none:=by
 have h1:=leaveV_snoc hk h
 rw [hn] at h1
 have e:l=l.take (k+1)++l.drop (k+1):=(List.take_append_drop _ _).symm
 rw [e,leaveV_app,h1];rfl
theorem Vok.addV {V:Vw} (h:Vok V) {r:Nm × Int} (hr:nzN r.1):Vok (OpsP.addV V r):=h.ins hr ((h.wfget r.1).add r.2) (add_ne (h.wfget r.1) r.2)
theorem addV_set {V:Vw} (h:Vok V) (r:Nm × Int):addV V r=setV r.1 (addH r.2 (hget r.1 V)) V:=by
 unfold addV setV;rw [if_neg (add_ne (h.wfget r.1) r.2)]
theorem Vok.dropV {V:Vw} (h:Vok V) {r:Nm × Int} (hr:nzN r.1):Vok (OpsP.dropV V r):=h.set hr ((h.wfget r.1).drop r.2)
theorem Vok.adds:∀ {l:List (Nm × Int)} {V:Vw},Vok V→(∀r∈l,nzN r.1)→Vok (l.foldl OpsP.addV V)
 | [],_,h,_=>h
 |r::l,V,h,hn=>Vok.adds (l:=l) (V:=OpsP.addV V r) (h.addV (hn r (by simp))) (fun q hq=>hn q (by simp [hq]))
theorem Vok.leave:∀ {l:List (Nm × Int)} {V V':Vw},Vok V→(∀r∈l,nzN r.1)→leaveV l V=some V'→Vok V'
 | [],V,V',h,_,e=>by simp [leaveV] at e;exact e▸h
 |r::l,V,V',h,hn,e=>by
  rw [leaveV] at e
  split at e
  ·exact Vok.leave (h.dropV (hn r (by simp))) (fun q hq=>hn q (by simp [hq])) e
  ·cases e
theorem Vok.apply {O I:List (Nm × Int)} {V V':Vw} (h:Vok V) (hO:∀r∈O,nzN r.1) (hI:∀r∈I,nzN r.1) (e:applyV O I V=some V'):Vok V':=by
 unfold applyV at e
 cases hl:leaveV O V with
 |none=>rw [hl] at e;cases e
 |some V1=>rw [hl] at e;cases e;exact (h.leave hO hl).adds hI
theorem ins_len_has {κ ν:Type} [Ord κ] {k:κ} {q:ν} (v:ν):∀ {L:List (κ × ν)},Srt L→getL k L=some q→(insL k v L).length≤L.length
 | [],_,h=>by simp [getL_nil] at h
 | (a,b)::t,hs,h=>by
  have hs':=List.pairwise_cons.1 hs
  rw [insL]
  by_cases h1:Ord.lt k a=true
  ·rw [getL_low' (fun p hp=>by
    rcases List.mem_cons.1 hp with rfl|hp
    ·exact h1
    ·exact Ord.tr _ _ _ h1 (hs'.1 p hp))] at h
   cases h
  ·rw [if_neg h1]
   by_cases h2:Ord.lt a k=true
   ·rw [if_pos h2]
    rw [getL_cons,if_neg (by rw [sameK_gt h2];simp)] at h
    have:=ins_len_has v hs'.2 h
    simp only [List.length_cons];omega
   ·rw [if_neg h2];simp
theorem insL_lenV (V:Vw) (r:Nm × Int):(addV V r).length≤V.length+1:=insL_len' _ _ _
theorem dropV_len {V:Vw} (hV:Vok V) {r:Nm × Int} (h:okD r.2 (hget r.1 V)=true):(dropV V r).length≤V.length:=by
 unfold dropV setV
 split
 ·exact delL_len' _ _
 ·cases hg:getL (key r.1) V with
  |none=>rw [hget_none hg,okD_nil] at h;cases h
  |some q=>exact ins_len_has _ hV.srt hg
theorem get_dropV {V:Vw} {r:Nm × Int} (h:okD r.2 (hget r.1 V)=true) {t:ByteArray} (hg:getL t V=none):getL t (dropV V r)=none:=by
 unfold dropV
 rw [get_set]
 by_cases e:sameK t (key r.1)=true
 ·rw [sameK_iff.1 e] at hg
  rw [hget_none hg,okD_nil] at h;cases h
 ·rw [if_neg e];exact hg
end OpsP
namespace OpsP
open BagP HistP
section
variable {q q':List (Nm × Int)} {V V':Vw}
theorem Vok.get_of (h:Vok V) {k:Nm} (h0:sumL (hget k V).1≠0):getL (OpsP.key k) V=some (k,hget k V):=by
 cases hg:getL (OpsP.key k) V with
 |none=>exact absurd ((h.none_iff k).2 hg) h0
 |some p=>
  rw [hget_some hg]
  have:=h.get hg
  obtain ⟨a,b⟩:=p
  dsimp only at this ⊢
  rw [this]
theorem hget_ins {k:Nm} (hk:nzN k) (x:HS) (j:Nm):hget j (insL (key k) (k,x) V)=if j=k then x else hget j V:=by
 unfold hget
 rw [getL_ins]
 by_cases e:j=k
 ·subst e;simp [sameK_refl]
 ·rw [sameK_ne (fun e'=>e (key_inj hk e')),if_neg e];simp
theorem hget_set {k:Nm} (hk:nzN k) (x:HS) (j:Nm):hget j (setV k x V)=if j=k then (if sumL x.1=0 then ([],(0,0)) else x) else hget j V:=by
 unfold setV
 by_cases h0:sumL x.1=0
 ·rw [if_pos h0,if_pos h0]
  unfold hget
  rw [getL_del]
  by_cases e:j=k
  ·subst e;simp [sameK_refl]
  ·rw [sameK_ne (fun e'=>e (key_inj hk e')),if_neg e];simp
 ·rw [if_neg h0,if_neg h0];exact hget_ins hk x j
end
def ofV (l:List (Nm × Int)):Vw:=l.foldl addV []
end OpsP
namespace OpsP
open BagP HistP
section
variable {κ ν:Type} [Ord κ]
theorem ins_ins {k:κ} (v v':ν) {L:List (κ × ν)} (hs:Srt L):insL k v (insL k v' L)=insL k v L:=
 srt_ext (srt_insL _ (srt_insL _ hs).1).1 (srt_insL _ hs).1 (fun j=>by rw [getL_ins,getL_ins,getL_ins];split<;>rfl)
theorem del_ins {k:κ} (v:ν) {L:List (κ × ν)} (hs:Srt L):delL k (insL k v L)=delL k L:=
 srt_ext (srt_delL _ (srt_insL _ hs).1) (srt_delL _ hs) (fun j=>by rw [getL_del,getL_ins,getL_del];split<;>rfl)
end
theorem addAll_app:∀ (t A:List (Int × Int)),Srt (A++t)→Pos (A++t)→sumL (A++t)≤4611686018427387904→addAll t A=A++t
 | [],A,_,_,_=>by simp [addAll]
 | (k,m)::t,A,hs,hp,hm=>by
  have hA:∀p∈A,Ord.lt p.1 k=true:=fun p hpA=>(List.pairwise_append.1 hs).2.2 p hpA (k,m) (by simp)
  have hc:BagP.cnt k A=0:=by
   unfold BagP.cnt
   rw [show getL k A=none by
    unfold getL
    rw [List.find?_eq_none.2 (fun p hpA=>by rw [sameK_gt (hA p hpA)];simp)];rfl]
   rfl
  have h1:=hp (k,m) (by simp)
  have h2:0≤sumL t:=(Pos.cnt (L:=t) (fun p hq=>hp p (by simp [hq])) 0).2.2
  rw [sumL_append] at hm
  have hm2:sumL ((k,m)::t)=m+sumL t:=by simp [sumL]
  dsimp only at h1
  have hk:okA m A=true:=by unfold okA;rw [decide_eq_true_iff];omega
  have e:addL k m A=A++ [(k,m)]:=by
   unfold addL setL
   rw [hk,if_pos rfl,hc,if_neg (by omega)]
   have:=insL_skip (k:=k) (0+m) [] A hA
   rw [List.append_nil] at this
   rw [this,Int.zero_add];rfl
  show addAll t (addL k m A)=_
  have e2:A++(k,m)::t=(A++ [(k,m)])++t:=by simp
  rw [e2] at hs hp ⊢
  rw [e,addAll_app t _ hs hp (by rw [←e2,sumL_append];omega)]
theorem both_zero {s:Int × Int} (h:May s):bothS (0,0) s=s:=by
 obtain ⟨h1,h2,h3,h4⟩:=h
 obtain ⟨a,b⟩:=s
 dsimp only at h1 h2 h3 h4
 have hc:cl b=b:=by unfold cl clamp;omega
 have ha:addS (0,0) b=(0,b):=by
  unfold addS
  rw [hc]
  dsimp only
  rw [if_neg (by omega)]
  ext<;>dsimp only<;>omega
 unfold bothS
 dsimp only
 rw [ha,if_neg (by dsimp only;omega)]
 ext<;>dsimp only<;>omega
theorem merge_zero {x:HS} (h:Wf x):mergeH x ([],(0,0))=x:=by
 unfold mergeH
 rw [both_zero h.may,addAll_app x.1 [] (by simpa using h.ok.srt) (by simpa using h.ok.pos) (by simpa using h.ok.most)]
 rfl
def svU (l:List ByteArray):Nat→List ByteArray
 |0=> []
 |m+1=>svU l m++(if m=0∨l.getD m ByteArray.empty≠l.getD (m-1) ByteArray.empty then [l.getD m ByteArray.empty] else [])
def svcs (V:Vw):List ByteArray:=V.map (·.2.1.1)
def svc (V:Vw):List ByteArray:=svU (svcs V) V.length
theorem arr_get {l:List ByteArray} {m:Nat} (h:m<l.length):(l.map (fun s=>s.data.toList)).toArray[m]! =(l.getD m ByteArray.empty).data.toList:=by
 rw [getElem!_pos _ m (by simpa using h)]
 simp [List.getD_eq_getElem?_getD,h]
theorem data_ext {a b:ByteArray} (h:a.data.toList=b.data.toList):a=b:=ByteArray.ext (Array.ext' h)
theorem compact_sv (l:List ByteArray):∀m,m≤l.length→Lib.compactUpTo (l.map (fun s=>s.data.toList)).toArray m=(svU l m).map (fun s=>s.data.toList)
 |0,_=>rfl
 |m+1,h=>by
  rw [Lib.compactUpTo_succ,compact_sv l m (by omega),svU,List.map_append]
  congr 1
  unfold Lib.keeps
  by_cases h0:m=0
  ·subst h0
   rw [if_pos (by simp),if_pos (.inl rfl),List.map_singleton,arr_get h]
  ·rw [arr_get (by omega),arr_get (by omega)]
   by_cases e:l.getD m ByteArray.empty=l.getD (m-1) ByteArray.empty
   ·rw [if_neg (by simp only [decide_eq_true_eq];rintro (q|q);exact h0 q;exact q (by rw [e])),if_neg (by rintro (q|q);exact h0 q;exact q e)];rfl
   ·have e':¬ (l.getD m ByteArray.empty).data.toList=(l.getD (m-1) ByteArray.empty).data.toList:=fun q=>e (data_ext q)
    rw [if_pos (by simp only [decide_eq_true_eq];exact .inr e'),if_pos (.inr e)];rfl
theorem compact_svc (V:Vw):Lib.compact ((svcs V).map (fun s=>s.data.toList))=(svc V).map (fun s=>s.data.toList):=by
 unfold Lib.compact svc
 rw [List.length_map,compact_sv _ _ (Nat.le_refl _)]
 congr 2
 simp [svcs]
theorem svU_len (l:List ByteArray):∀m,(svU l m).length≤m
 |0=>Nat.le_refl _
 |m+1=>by
  rw [svU,List.length_append]
  have:=svU_len l m
  split<;>simp<;>omega
end OpsP
end Go.Proofs.YtdpngmgaomghoaaGreat
