/- Entries, plain: keys of what begins a trace; what is told of them. No program is named. -/
import Derived.Test.YtdpngmgaomghoaaGreatDoorOpsPs
namespace Go.Proofs.YtdpngmgaomghoaaGreatDoor
open Go.RowKit
namespace EntP
open KeyP
open OpsP (Nm ltN nzN)
theorem ext_of {α:Type} {R:α→α→Prop} (asym:∀a b,R a b→¬R b a):∀ {A B:List α},A.Pairwise R→B.Pairwise R→(∀p,p∈A↔p∈B)→A=B
 | [],[],_,_,_=>rfl
 | [],b::B,_,_,h=>absurd ((h b).2 (by simp)) (by simp)
 |a::A,[],_,_,h=>absurd ((h a).1 (by simp)) (by simp)
 |a::A,b::B,h1,h2,h=>by
  obtain ⟨a1,a2⟩:=List.pairwise_cons.1 h1
  obtain ⟨b1,b2⟩:=List.pairwise_cons.1 h2
  have hab:a=b:=by
   rcases List.mem_cons.1 ((h a).1 (by simp)) with e|e
   ·exact e
   ·rcases List.mem_cons.1 ((h b).2 (by simp)) with e'|e'
    ·exact e'.symm
    ·exact absurd (a1 b e') (asym _ _ (b1 a e))
  subst hab
  congr 1
  refine ext_of asym a2 b2 (fun p=>?_)
  have hp:=h p
  simp only [List.mem_cons] at hp
  constructor
  ·intro hA
   rcases hp.1 (.inr hA) with rfl|hB
   ·exact absurd (a1 p hA) (fun h=>asym _ _ h h)
   ·exact hB
  ·intro hB
   rcases hp.2 (.inr hB) with rfl|hA
   ·exact absurd (b1 p hB) (fun h=>asym _ _ h h)
   ·exact hA
abbrev Tk:=Nm × Int
def z1:ByteArray:=⟨#[0]⟩
def fst (n:Nm):ByteArray:=n.1++z1++n.2++z1
def ek (k:Tk):ByteArray:=fst k.1++key2 k.2 0
def nzK (k:Tk):Prop:=nzN k.1∧wf64 k.2
theorem fst_list (n:Nm):(fst n).toList=n.1.toList++0::(n.2.toList++ [0]):=by
 rw [tl_data,tl_data,tl_data];simp [fst,z1]
theorem ek_list (k:Tk):(ek k).toList=k.1.1.toList++0::(k.1.2.toList++0::(kb k.2++kb 0)):=by
 have:(ek k).toList=(fst k.1).toList++(kb k.2++kb 0):=by
  rw [tl_data,tl_data];simp [ek,key2,ks]
 rw [this,fst_list];simp
theorem fst_size (n:Nm):(fst n).size=n.1.size+n.2.size+2:=by
 have h1:z1.size=1:=rfl
 simp only [fst,ByteArray.size_append,h1];omega
theorem ek_size (k:Tk):(ek k).size=(fst k.1).size+16:=by
 simp only [ek,ByteArray.size_append]
 have:(key2 k.2 0).size=16:=by unfold key2;rw [ks_size];simp [kb_len]
 omega
theorem fst_inj {a b:Nm} (hb:nzN b) (h:fst a=fst b):a=b:=by
 have h':(fst a).toList=(fst b).toList:=by rw [h]
 rw [fst_list,fst_list] at h'
 have h2:(a.1.toList++0::a.2.toList)++ [0]=(b.1.toList++0::b.2.toList)++ [0]:=by simpa using h'
 obtain ⟨e1,e2⟩:=Sep.inj_sep1 hb.1 hb.2.1 (List.append_cancel_right h2)
 exact Prod.ext (str_ext e1) (str_ext e2)
theorem ek_inj {a b:Tk} (ha:nzK a) (hb:nzK b) (h:ek a=ek b):a=b:=by
 have h':(ek a).toList=(ek b).toList:=by rw [h]
 rw [ek_list,ek_list] at h'
 obtain ⟨e1,e2⟩:=Sep.inj_sep ha.1.1 hb.1.1 h'
 obtain ⟨e3,e4⟩:=Sep.inj_sep ha.1.2.1 hb.1.2.1 e2
 have e5:=(List.append_inj e4 rfl).1
 exact Prod.ext (Prod.ext (str_ext e1) (str_ext e3)) (kb_inj ha.2 hb.2 e5)
def ltT (a b:Tk):Bool:=ltN a.1 b.1||(decide (a.1=b.1)&&decide (a.2<b.2))
theorem dec_str {a b:ByteArray}:decide (a.toList=b.toList)=decide (a=b):=decide_eq_decide.2 ⟨fun h=>str_ext h,fun h=>by rw [h]⟩
theorem bl_irr:∀l:List UInt8,Op.bytesLess l l=false
 | []=>rfl
 |x::l=>by simp [Op.bytesLess,bl_irr l,UInt8.lt_irrefl]
theorem lt_ek {a b:Tk} (ha:nzK a) (hb:nzK b):Ord.lt (ek a) (ek b)=ltT a b:=by
 have hk:Op.bytesLess (kb a.2++kb 0) (kb b.2++kb 0)=decide (a.2<b.2):=by
  rw [less_kb ha.2 hb.2,bl_irr];simp
 rw [ltStr,ek_list,ek_list,Sep.less_sep _ _ ha.1.1 hb.1.1,Sep.less_sep _ _ ha.1.2.1 hb.1.2.1,hk,dec_str,dec_str]
 unfold ltT ltN
 rw [ltStr,ltStr]
 obtain ⟨⟨a1,a2⟩,t⟩:=a
 obtain ⟨⟨b1,b2⟩,u⟩:=b
 dsimp only
 generalize Op.bytesLess a1.toList b1.toList=p
 generalize Op.bytesLess a2.toList b2.toList=q
 by_cases e1:a1=b1<;>by_cases e2:a2=b2<;>simp [e1,e2,Bool.or_assoc]
theorem ltN_irr (a:Nm):ltN a a=false:=by unfold ltN;rw [Ord.irr,Ord.irr];simp
theorem ltN_tr {a b c:Nm} (h1:ltN a b=true) (h2:ltN b c=true):ltN a c=true:=by
 unfold ltN at *
 simp only [Bool.or_eq_true,Bool.and_eq_true,decide_eq_true_eq] at *
 rcases h1 with h1| ⟨e1,h1⟩<;>rcases h2 with h2| ⟨e2,h2⟩
 ·exact .inl (Ord.tr _ _ _ h1 h2)
 ·exact .inl (e2▸h1)
 ·exact .inl (e1▸h2)
 ·exact .inr ⟨e1.trans e2,Ord.tr _ _ _ h1 h2⟩
theorem ltN_tri {a b:Nm} (h1:ltN a b=false) (h2:ltN b a=false):a=b:=by
 unfold ltN at *
 simp only [Bool.or_eq_false_iff,Bool.and_eq_false_iff,decide_eq_false_iff_not] at *
 have e1:=Ord.tri _ _ h1.1 h2.1
 rcases h1.2 with h|h
 ·exact absurd e1 h
 ·rcases h2.2 with h'|h'
  ·exact absurd e1.symm h'
  ·exact Prod.ext e1 (Ord.tri _ _ h h')
theorem ltN_asym {a b:Nm} (h:ltN a b=true):ltN b a=false:=by
 cases h2:ltN b a with
 |false=>rfl
 |true=>have:=ltN_tr h h2;rw [ltN_irr] at this;cases this
theorem int_ext {a b:List Int} (ha:a.Pairwise (· < ·)) (hb:b.Pairwise (· < ·)) (h:∀x,x∈a↔x∈b):a=b:=ext_of (fun _ _ h1 h2=>by omega) ha hb h
structure IsAll (P:Nm→Int→Prop) (out:List (Nm × List Int)):Prop where
 srt:out.Pairwise (fun a b=>ltN a.1 b.1=true)
 tr:∀e∈out,e.2≠ []∧e.2.Pairwise (· < ·)
 iff:∀n t,P n t↔ ∃e∈out,e.1=n∧t∈e.2
theorem pw_uniq {out:List (Nm × List Int)} (h:out.Pairwise (fun a b=>ltN a.1 b.1=true)) {e f:Nm × List Int} (he:e∈out) (hf:f∈out) (hn:e.1=f.1):e=f:=by
 induction out with
 |nil=>cases he
 |cons x t ih=>
  have hx:=List.pairwise_cons.1 h
  rcases List.mem_cons.1 he with rfl|he'<;>rcases List.mem_cons.1 hf with rfl|hf'
  ·rfl
  ·have:=hx.1 _ hf';rw [hn,ltN_irr] at this;cases this
  ·have:=hx.1 _ he';rw [hn,ltN_irr] at this;cases this
  ·exact ih hx.2 he' hf'
theorem IsAll.at {P:Nm→Int→Prop} {out:List (Nm × List Int)} (h:IsAll P out) {e:Nm × List Int} (he:e∈out) (t:Int):t∈e.2↔P e.1 t:=by
 rw [h.iff]
 constructor
 ·exact fun ht=>⟨e,he,rfl,ht⟩
 ·rintro ⟨f,hf,hn,ht⟩
  rw [←pw_uniq h.srt hf he hn];exact ht
theorem IsAll.ext {P Q:Nm→Int→Prop} {A B:List (Nm × List Int)} (hA:IsAll P A) (hB:IsAll Q B) (hPQ:∀n t,P n t↔Q n t):A=B:=by
 have key:∀ {P Q:Nm→Int→Prop} {A B:List (Nm × List Int)},IsAll P A→IsAll Q B→(∀n t,P n t↔Q n t)→∀e,e∈A→e∈B:=by
  intro P Q A B hA hB hPQ e he
  obtain ⟨h1,h2⟩:=hA.tr e he
  obtain ⟨t,l,hl⟩:=List.exists_cons_of_ne_nil h1
  have hP:P e.1 t:=(hA.at he t).1 (by rw [hl];simp)
  obtain ⟨f,hf,hn,-⟩:=(hB.iff e.1 t).1 ((hPQ _ _).1 hP)
  have:e.2=f.2:=int_ext h2 (hB.tr f hf).2 (fun x=>by rw [hA.at he,hB.at hf,hn];exact hPQ _ _)
  rw [show e=f from Prod.ext hn.symm this];exact hf
 exact ext_of (R:=fun a b=>ltN a.1 b.1=true) (fun a b h1 h2=>by rw [ltN_asym h1] at h2;cases h2) hA.srt hB.srt (fun e=>⟨key hA hB hPQ e,key hB hA (fun n t=>(hPQ n t).symm) e⟩)
theorem IsAll.nil:IsAll (fun n t=>(n,t)∈([]:List Tk)) []:=⟨List.Pairwise.nil,by simp,by simp⟩
section
variable {K:List Tk} {k:Tk}
theorem IsAll.one {k:Tk}:IsAll (fun n t=>(n,t)∈ [k]) [(k.1,[k.2])]:=
 ⟨by simp,by simp,fun n t=>by
  constructor
  ·intro h
   have h:(n,t)=k:=by simpa using h
   subst h;exact ⟨_,List.mem_singleton.2 rfl,rfl,by simp⟩
  ·rintro ⟨e,he,h1,h2⟩
   simp at he;subst he
   have h2:t=k.2:=by simpa using h2
   simp [←h1,h2]⟩
theorem low {P:List (Nm × List Int)} {n:Nm} {l:List Int} (h:IsAll (fun n t=>(n,t)∈K) (P++ [(n,l)])) (hk:∀x∈K,ltT x k=true):(∀e∈P,ltN e.1 n=true)∧(ltN n k.1=true∨n=k.1)∧(n=k.1→∀t∈l,t<k.2):=by
 have hp:=List.pairwise_append.1 h.srt
 have hm:∀t∈l,(n,t)∈K:=fun t ht=>(h.at (e:=(n,l)) (by simp) t).1 ht
 obtain ⟨h1,h2⟩:=h.tr (n,l) (by simp)
 obtain ⟨t,l',hl⟩:=List.exists_cons_of_ne_nil h1
 refine ⟨fun e he=>hp.2.2 e he (n,l) (by simp),?_,fun hn t ht=>?_⟩
 ·have:=hk _ (hm t (by show t∈l;rw [show l=t::l' from hl];simp))
  unfold ltT at this
  simp only [Bool.or_eq_true,Bool.and_eq_true,decide_eq_true_eq] at this
  rcases this with h|h
  ·exact .inl h
  ·exact .inr h.1
 ·have:=hk _ (hm t ht)
  unfold ltT at this
  simp only [Bool.or_eq_true,Bool.and_eq_true,decide_eq_true_eq] at this
  rcases this with h|h
  ·rw [hn,ltN_irr] at h;cases h
  ·exact h.2
theorem IsAll.same {P:List (Nm × List Int)} {l:List Int} (h:IsAll (fun n t=>(n,t)∈K) (P++ [(k.1,l)])) (hk:∀x∈K,ltT x k=true):IsAll (fun n t=>(n,t)∈K++ [k]) (P++ [(k.1,l++ [k.2])]):=by
 obtain ⟨h1,-,h3⟩:=low h hk
 have hp:=List.pairwise_append.1 h.srt
 refine ⟨List.pairwise_append.2 ⟨hp.1,by simp,fun x hx y hy=>by simp at hy;subst hy;exact h1 x hx⟩,fun e he=>?_,fun n t=>?_⟩
 ·rcases List.mem_append.1 he with he|he
  ·exact h.tr e (List.mem_append_left _ he)
  ·simp at he;subst he
   refine ⟨by simp,List.pairwise_append.2 ⟨(h.tr (k.1,l) (by simp)).2,by simp,fun x hx y hy=>by simp at hy;subst hy;exact h3 rfl x hx⟩⟩
 ·have hi:=h.iff n t
  simp only [List.mem_append,List.mem_singleton] at hi ⊢
  constructor
  ·rintro (h|h)
   ·obtain ⟨e,he,h4,h5⟩:=hi.1 h
    rcases he with he|rfl
    ·exact ⟨e,.inl he,h4,h5⟩
    ·exact ⟨_,.inr rfl,h4,by simp [h5]⟩
   ·exact ⟨_,.inr rfl,by rw [←h],by rw [←h];simp⟩
  ·rintro ⟨e,he,h4,h5⟩
   rcases he with he|rfl
   ·exact .inl (hi.2 ⟨e,.inl he,h4,h5⟩)
   ·dsimp only at h4 h5
    rcases List.mem_append.1 h5 with h5|h5
    ·exact .inl (hi.2 ⟨_,.inr rfl,h4,h5⟩)
    ·simp at h5;exact .inr (by rw [←h4,h5])
theorem IsAll.next {P:List (Nm × List Int)} {n:Nm} {l:List Int} (h:IsAll (fun n t=>(n,t)∈K) (P++ [(n,l)])) (hk:∀x∈K,ltT x k=true) (hn:n≠k.1):IsAll (fun n t=>(n,t)∈K++ [k]) (P++ [(n,l)]++ [(k.1,[k.2])]):=by
 obtain ⟨h1,h2,-⟩:=low h hk
 have h2:ltN n k.1=true:=h2.resolve_right hn
 refine ⟨List.pairwise_append.2 ⟨h.srt,by simp,fun x hx y hy=>?_⟩,fun e he=>?_,fun m t=>?_⟩
 ·simp at hy;subst hy
  rcases List.mem_append.1 hx with hx|hx
  ·exact ltN_tr (h1 x hx) h2
  ·simp at hx;subst hx;exact h2
 ·rcases List.mem_append.1 he with he|he
  ·exact h.tr e he
  ·simp at he;subst he;simp
 ·have hi:=h.iff m t
  rw [List.mem_append,hi]
  constructor
  ·rintro (⟨e,he,h4,h5⟩|h)
   ·exact ⟨e,List.mem_append_left _ he,h4,h5⟩
   ·simp at h;exact ⟨(k.1,[k.2]),by simp,by rw [←h],by rw [←h];simp⟩
  ·rintro ⟨e,he,h4,h5⟩
   rcases List.mem_append.1 he with he|he
   ·exact .inl ⟨e,he,h4,h5⟩
   ·simp at he;subst he;simp at h5;exact .inr (by simp [←h4,h5])
end
end EntP
end Go.Proofs.YtdpngmgaomghoaaGreatDoor
