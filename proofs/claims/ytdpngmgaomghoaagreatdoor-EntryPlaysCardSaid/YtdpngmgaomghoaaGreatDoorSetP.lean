/- Sets of records, plain: records in order of their keys; maps of them by their keys. -/
import Derived.Test.YtdpngmgaomghoaaGreatDoorKeys
namespace Go.Proofs.YtdpngmgaomghoaaGreatDoor
open Go.RowKit
instance:DecidableEq Sn:=fun a b=>decidable_of_iff (a.t=b.t∧a.i=b.i∧a.p=b.p∧a.r=b.r∧a.s=b.s∧a.o=b.o∧a.b=b.b∧a.d=b.d∧a.g=b.g)
 ⟨fun ⟨h1,h2,h3,h4,h5,h6,h7,h8,h9⟩=>by cases a;cases b;simp_all,fun h=>by subst h;simp⟩
namespace SetP
open KeyP
def bef (a b:Sn):Bool:=decide (a.t<b.t)||(decide (a.t=b.t)&&decide (a.i<b.i))
def one (a b:Sn):Bool:=decide (a.t=b.t)&&decide (a.i=b.i)
theorem bef_tr {a b c:Sn} (h1:bef a b=true) (h2:bef b c=true):bef a c=true:=by
 simp only [bef,Bool.or_eq_true,Bool.and_eq_true,decide_eq_true_eq] at *;omega
theorem bef_asym {a b:Sn} (h:bef a b=true):bef b a=false:=by
 simp only [bef,Bool.or_eq_true,Bool.and_eq_true,decide_eq_true_eq,Bool.or_eq_false_iff,Bool.and_eq_false_iff,decide_eq_false_iff_not] at *;omega
theorem one_iff {a b:Sn}:one a b=true↔a.t=b.t∧a.i=b.i:=by simp [one]
theorem bef_tri {a b:Sn} (h1:bef a b=false) (h2:bef b a=false):one a b=true:=by
 rw [one_iff]
 simp only [bef,Bool.or_eq_false_iff,Bool.and_eq_false_iff,decide_eq_false_iff_not] at *;omega
theorem bef_ne {a b:Sn} (h:bef a b=true):one a b=false:=by
 cases h':one a b with
 |false=>rfl
 |true=>
  rw [one_iff] at h'
  simp only [bef,Bool.or_eq_true,Bool.and_eq_true,decide_eq_true_eq] at h;omega
theorem bef_ne' {a b:Sn} (h:bef a b=true):one b a=false:=by
 cases h':one b a with
 |false=>rfl
 |true=>
  rw [one_iff] at h'
  simp only [bef,Bool.or_eq_true,Bool.and_eq_true,decide_eq_true_eq] at h;omega
theorem one_bef {a b c:Sn} (h:one a b=true):bef a c=bef b c∧bef c a=bef c b:=by
 rw [one_iff] at h
 unfold bef;rw [h.1,h.2];exact ⟨rfl,rfl⟩
theorem one_refl (a:Sn):one a a=true:=by simp [one]
theorem one_comm (a b:Sn):one a b=one b a:=by
 unfold one;rw [decide_eq_decide.2 (eq_comm (a:=a.t)),decide_eq_decide.2 (eq_comm (a:=a.i))]
abbrev Srs (L:List Sn):Prop:=L.Pairwise (fun a b=>bef a b=true)
def ins (x:Sn) (L:List Sn):List Sn:=L.takeWhile (bef · x)++x::L.filter (bef x ·)
theorem ins_cons (x a:Sn) (L:List Sn):ins x (a::L)=if bef a x then a::(L.takeWhile (bef · x)++x::(if bef x a then a::L.filter (bef x ·) else L.filter (bef x ·))) else x::(if bef x a then a::L.filter (bef x ·) else L.filter (bef x ·)):=by
 unfold ins
 rw [List.takeWhile_cons,List.filter_cons]
 by_cases h:bef a x=true<;>simp [h]
theorem filter_bef {x:Sn} {L:List Sn} (h:∀y∈L,bef x y=true):L.filter (bef x ·)=L:=List.filter_eq_self.2 h
theorem take_bef {x:Sn} {L:List Sn} (hs:Srs L):L.takeWhile (bef · x)=L.filter (bef · x):=by
 induction L with
 |nil=>rfl
 |cons a L ih=>
  obtain ⟨h1,h2⟩:=List.pairwise_cons.1 hs
  rw [List.takeWhile_cons,List.filter_cons]
  by_cases h:bef a x=true
  ·rw [if_pos h,if_pos h,ih h2]
  ·rw [if_neg h,if_neg h,eq_comm,List.filter_eq_nil_iff]
   intro y hy hyx
   exact h (bef_tr (h1 y hy) hyx)
theorem ins_mem {x y:Sn} {L:List Sn} (hs:Srs L):y∈ins x L↔y=x∨(y∈L∧one y x=false):=by
 unfold ins
 rw [take_bef hs,List.mem_append,List.mem_cons,List.mem_filter,List.mem_filter]
 constructor
 ·rintro (⟨h1,h2⟩|rfl| ⟨h1,h2⟩)
  ·exact .inr ⟨h1,bef_ne h2⟩
  ·exact .inl rfl
  ·exact .inr ⟨h1,bef_ne' h2⟩
 ·rintro (rfl| ⟨h1,h2⟩)
  ·exact .inr (.inl rfl)
  ·cases h3:bef y x with
   |true=>exact .inl ⟨h1,rfl⟩
   |false=>
    cases h4:bef x y with
    |true=>exact .inr (.inr ⟨h1,rfl⟩)
    |false=>rw [bef_tri h3 h4] at h2;cases h2
theorem ins_srs {x:Sn} {L:List Sn} (hs:Srs L):Srs (ins x L):=by
 unfold ins
 rw [take_bef hs]
 refine List.pairwise_append.2 ⟨hs.filter _,List.pairwise_cons.2 ⟨fun y hy=>(List.mem_filter.1 hy).2,hs.filter _⟩,fun a ha b hb=>?_⟩
 have h1:=(List.mem_filter.1 ha).2
 rcases List.mem_cons.1 hb with rfl|hb
 ·exact h1
 ·exact bef_tr h1 (List.mem_filter.1 hb).2
theorem ins_len (x:Sn) {L:List Sn} (hs:Srs L):(ins x L).length≤L.length+1:=by
 unfold ins
 rw [take_bef hs,List.length_append,List.length_cons]
 have key:∀L:List Sn,(L.filter (bef · x)).length+(L.filter (bef x ·)).length≤L.length:=by
  intro L
  induction L with
  |nil=>simp
  |cons a L ih=>
   rw [List.filter_cons,List.filter_cons,List.length_cons]
   by_cases h:bef a x=true
   ·have:=bef_asym h;simp [h,this];omega
   ·by_cases h2:bef x a=true
    ·simp [h,h2];omega
    ·simp [h,h2];omega
 have:=key L
 omega
theorem srs_uni {L:List Sn} (hs:Srs L) {a b:Sn} (ha:a∈L) (hb:b∈L) (h:one a b=true):a=b:=by
 induction L with
 |nil=>simp at ha
 |cons c L ih=>
  obtain ⟨h1,h2⟩:=List.pairwise_cons.1 hs
  rcases List.mem_cons.1 ha with e1|ha'
  ·rcases List.mem_cons.1 hb with e2|hb'
   ·rw [e1,e2]
   ·rw [e1,bef_ne (h1 b hb')] at h;cases h
  ·rcases List.mem_cons.1 hb with e2|hb'
   ·rw [e2,bef_ne' (h1 a ha')] at h;cases h
   ·exact ih h2 ha' hb'
def fnd (x:Sn) (L:List Sn):Option Sn:=L.find? (fun y=>one y x)
theorem fnd_some {x y:Sn} {L:List Sn} (h:fnd x L=some y):y∈L∧one y x=true:=⟨List.mem_of_find?_eq_some h,List.find?_some (p:=fun y=>one y x) h⟩
theorem fnd_none {x:Sn} {L:List Sn} (h:fnd x L=none):∀y∈L,one y x=false:=fun y hy=>by simpa using List.find?_eq_none.1 h y hy
abbrev kk (x:Sn):ByteArray:=key2 x.t x.i
def gk (x:Sn):Prop:=wf64 x.t∧wf64 x.i
theorem lt_kk {x y:Sn} (hx:gk x) (hy:gk y):Ord.lt (kk x) (kk y)=bef x y:=lt_key2 hx.1 hx.2 hy.1 hy.2
theorem same_kk {x y:Sn} (hx:gk x) (hy:gk y):sameK (kk x) (kk y)=one x y:=by
 rw [Bool.eq_iff_iff,sameK_iff,one_iff]
 exact ⟨fun h=>key2_inj hx.1 hx.2 hy.1 hy.2 h,fun ⟨h1,h2⟩=>by unfold kk;rw [h1,h2]⟩
section
variable {ν:Type} (f:Sn→ν)
abbrev mp (L:List Sn):List (ByteArray × ν):=L.map (fun x=>(kk x,f x))
variable {f}
theorem get_mp {x:Sn} {L:List Sn} (hx:gk x) (hw:∀y∈L,gk y):getL (kk x) (mp f L)=(fnd x L).map f:=by
 unfold fnd mp
 induction L with
 |nil=>rfl
 |cons a L ih=>
  rw [List.map_cons,getL_cons,List.find?_cons,ih (fun y hy=>hw y (by simp [hy])),same_kk hx (hw a (by simp)),one_comm]
  cases one a x<;>simp
theorem ins_mp {x:Sn} {L:List Sn} (hs:Srs L) (hx:gk x) (hw:∀y∈L,gk y):insL (kk x) (f x) (mp f L)=mp f (ins x L):=by
 have hw':∀y∈ins x L,gk y:=fun y hy=>by
  rcases (ins_mem hs).1 hy with rfl| ⟨h,-⟩
  ·exact hx
  ·exact hw y h
 unfold mp
 induction L with
 |nil=>simp [insL,ins]
 |cons a L ih=>
  obtain ⟨h1,h2⟩:=List.pairwise_cons.1 hs
  have hwL:∀y∈L,gk y:=fun y hy=>hw y (by simp [hy])
  have ih:=ih h2 hwL (fun y hy=>by
   rcases (ins_mem h2).1 hy with rfl| ⟨h,-⟩
   ·exact hx
   ·exact hwL y h)
  rw [List.map_cons,insL,lt_kk hx (hw a (by simp)),lt_kk (hw a (by simp)) hx,ins_cons]
  by_cases e1:bef x a=true
  ·have e2:=bef_asym e1
   have e3:L.filter (bef x ·)=L:=filter_bef (fun y hy=>bef_tr e1 (h1 y hy))
   simp [e1,e2,e3]
  ·by_cases e2:bef a x=true
   ·rw [if_neg e1,if_pos e2,if_pos e2,if_neg e1,ih]
    simp [ins]
   ·have e4:=bef_tri (by simpa using e2) (by simpa using e1)
    have e3:L.filter (bef x ·)=L:=filter_bef (fun y hy=>by rw [← (one_bef e4).1];exact h1 y hy)
    have ek:kk a=kk x:=by rw [one_iff] at e4;unfold kk;rw [e4.1,e4.2]
    simp [e1,e2,e3]
    exact ek
end
end SetP
end Go.Proofs.YtdpngmgaomghoaaGreatDoor
