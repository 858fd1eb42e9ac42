/- Spans by their parents, plain. -/
import Derived.Test.YtgfjpnpbkkadpaaGreatPackPs
namespace Go.Proofs.YtgfjpnpbkkadpaaGreat
open Go.RowKit
namespace KidsP
open KeyP SetP
abbrev sn (t i p:Int):Sn:=⟨t,i,p,0,ByteArray.empty,ByteArray.empty,0,0,false⟩
def gd (x:Sn):Prop:=wf64 x.t∧wf64 x.i∧wf64 x.p
theorem gd.gk {x:Sn} (h:gd x):gk x:=⟨h.1,h.2.1⟩
abbrev k3 (x:Sn):ByteArray:=key3 x.t x.p x.i
def lt3 (a b:Sn):Bool:=decide (a.t<b.t)||(decide (a.t=b.t)&&(decide (a.p<b.p)||(decide (a.p=b.p)&&decide (a.i<b.i))))
theorem lt_k3 {a b:Sn} (ha:gd a) (hb:gd b):Ord.lt (k3 a) (k3 b)=lt3 a b:=lt_key3 ha.1 ha.2.2 ha.2.1 hb.1 hb.2.2 hb.2.1
theorem lt3_iff {a b:Sn}:lt3 a b=true↔a.t<b.t∨(a.t=b.t∧(a.p<b.p∨(a.p=b.p∧a.i<b.i))):=by simp [lt3]
theorem lt3_asym {a b:Sn} (h:lt3 a b=true):lt3 b a=false:=by
 cases h':lt3 b a with
 |false=>rfl
 |true=>rw [lt3_iff] at h h';omega
def bare (x:Sn):Prop:=x=sn x.t x.i x.p
theorem k3_inj {a b:Sn} (ha:gd a) (hb:gd b) (h:k3 a=k3 b):a.t=b.t∧a.i=b.i∧a.p=b.p:=by
 have:=key3_inj ha.1 ha.2.2 ha.2.1 hb.1 hb.2.2 hb.2.1 h
 exact ⟨this.1,this.2.2,this.2.1⟩
structure Rel (L:List Sn) (K:List (ByteArray × Unit)):Prop where
 s:Srs L
 g:∀x∈L,gd x
 b:∀x∈L,bare x
 k:Srt K
 iff:∀z,hasL z K=true↔ ∃x∈L,z=k3 x
theorem Rel.nil:Rel [] []:=⟨List.Pairwise.nil,by simp,by simp,List.Pairwise.nil,fun x=>by simp [hasL]⟩
theorem Rel.gk {L:List Sn} {K:List (ByteArray × Unit)} (h:Rel L K):∀x∈L,SetP.gk x:=fun x hx=>(h.g x hx).gk
theorem Rel.inj {L:List Sn} {K:List (ByteArray × Unit)} (h:Rel L K) {x y:Sn} (hx:x∈L) (hy:y∈L) (e:k3 x=k3 y):x=y:=by
 have:=k3_inj (h.g x hx) (h.g y hy) e
 exact srs_uni h.s hx hy (one_iff.2 ⟨this.1,this.2.1⟩)
theorem Rel.drop {L:List Sn} {K:List (ByteArray × Unit)} (h:Rel L K) {x:Sn} (hx:x∈L):Rel (out x.t x.i L) (delL (k3 x) K):=by
 refine ⟨out_srs h.s,fun y hy=>h.g y (out_mem.1 hy).1,fun y hy=>h.b y (out_mem.1 hy).1,srt_delL _ h.k,fun z=>?_⟩
 rw [ExpP.hasL_mem]
 constructor
 ·rintro ⟨q,hq,rfl⟩
  obtain ⟨h1,h2⟩:=(ExpP.mem_del h.k).1 hq
  obtain ⟨y,hy,he⟩:=(h.iff q.1).1 (ExpP.hasL_mem.2 ⟨q,h1,rfl⟩)
  refine ⟨y,out_mem.2 ⟨hy,fun e=>h2 ?_⟩,he⟩
  have:y=x:=srs_uni h.s hy hx (one_iff.2 e)
  rw [he,this]
 ·rintro ⟨y,hy,rfl⟩
  obtain ⟨h1,h2⟩:=out_mem.1 hy
  obtain ⟨q,hq,he⟩:=ExpP.hasL_mem.1 ((h.iff (k3 y)).2 ⟨y,h1,rfl⟩)
  refine ⟨q,(ExpP.mem_del h.k).2 ⟨hq,fun e2=>h2 ?_⟩,he⟩
  have:=h.inj h1 hx (he.symm.trans e2)
  rw [this];exact ⟨rfl,rfl⟩
theorem Rel.put {L:List Sn} {K:List (ByteArray × Unit)} (h:Rel L K) {x:Sn} (hg:gd x) (hb:bare x) (hn:fnd x L=none):Rel (ins x L) (insL (k3 x) () K):=by
 have hno:∀y∈L,one y x=false:=fnd_none hn
 have hmem:∀y,y∈ins x L↔y=x∨y∈L:=fun y=>by
  rw [ins_mem h.s]
  exact ⟨fun h=>h.imp id (·.1),fun h=>h.imp id (fun hy=>⟨hy,hno y hy⟩)⟩
 refine ⟨ins_srs h.s,fun y hy=>?_,fun y hy=>?_,(srt_insL () h.k).1,fun z=>?_⟩
 ·rcases (hmem y).1 hy with rfl|hy
  ·exact hg
  ·exact h.g y hy
 ·rcases (hmem y).1 hy with rfl|hy
  ·exact hb
  ·exact h.b y hy
 ·rw [ExpP.hasL_mem]
  constructor
  ·rintro ⟨q,hq,rfl⟩
   rcases (ExpP.mem_ins h.k).1 hq with rfl| ⟨h1,h2⟩
   ·exact ⟨x,(hmem x).2 (.inl rfl),rfl⟩
   ·obtain ⟨y,hy,he⟩:=(h.iff q.1).1 (ExpP.hasL_mem.2 ⟨q,h1,rfl⟩)
    exact ⟨y,(hmem y).2 (.inr hy),he⟩
  ·rintro ⟨y,hy,rfl⟩
   rcases (hmem y).1 hy with rfl|hy
   ·exact ⟨(k3 y,()),(ExpP.mem_ins h.k).2 (.inl rfl),rfl⟩
   ·obtain ⟨q,hq,he⟩:=ExpP.hasL_mem.1 ((h.iff (k3 y)).2 ⟨y,hy,rfl⟩)
    by_cases e2:q.1=k3 x
    ·exact ⟨(k3 x,()),(ExpP.mem_ins h.k).2 (.inl rfl),e2.symm.trans he⟩
    ·exact ⟨q,(ExpP.mem_ins h.k).2 (.inr ⟨hq,e2⟩),he⟩
theorem Rel.items {L:List Sn} {K:List (ByteArray × Unit)} (h:Rel L K):∃KL:List Sn,K=KL.map (fun x=>(k3 x,()))∧KL.Pairwise (fun a b=>lt3 a b=true)∧(∀x,x∈KL↔x∈L):=by
 have key:∀K':List (ByteArray × Unit),(∀q∈K',∃x∈L,q.1=k3 x)→∃KL:List Sn,K'=KL.map (fun x=>(k3 x,()))∧∀x∈KL,x∈L:=by
  intro K'
  induction K' with
  |nil=>intro _;exact ⟨[],rfl,by simp⟩
  |cons q t ih=>
   intro hq
   obtain ⟨KL,h1,h2⟩:=ih (fun q hq'=>hq q (by simp [hq']))
   obtain ⟨p,hp,he⟩:=hq q (by simp)
   refine ⟨p::KL,?_,fun r hr=>?_⟩
   ·rw [List.map_cons,←h1,←he]
   ·rcases List.mem_cons.1 hr with rfl|hr
    ·exact hp
    ·exact h2 r hr
 obtain ⟨KL,h1,h2⟩:=key K (fun q hq=>(h.iff q.1).1 (ExpP.hasL_mem.2 ⟨q,hq,rfl⟩))
 refine ⟨KL,h1,?_,fun p=>⟨h2 p,fun hp=>?_⟩⟩
 ·have hk:=h.k
  rw [h1] at hk
  unfold Srt at hk
  rw [List.pairwise_map] at hk
  exact hk.imp_of_mem (fun {a b} ha hb hab=>by rw [←lt_k3 (h.g a (h2 a ha)) (h.g b (h2 b hb))];exact hab)
 ·obtain ⟨q,hq,he⟩:=ExpP.hasL_mem.1 ((h.iff (k3 p)).2 ⟨p,hp,rfl⟩)
  rw [h1] at hq
  obtain ⟨r,hr,rfl⟩:=List.mem_map.1 hq
  rwa [←h.inj (h2 r hr) hp he]
theorem nodup3 {A:List Sn} (h:A.Pairwise (fun a b=>lt3 a b=true)):A.Nodup:=h.imp (fun {a b} hab e=>by subst e;rw [lt3_asym hab] at hab;cases hab)
theorem Rel.len {L:List Sn} {K:List (ByteArray × Unit)} (h:Rel L K):K.length=L.length:=by
 obtain ⟨KL,rfl,h1,h2⟩:=h.items
 rw [List.length_map]
 exact ((List.perm_ext_iff_of_nodup (nodup3 h1) (srs_nodup h.s)).2 h2).length_eq
def ofP (t p:Int) (L:List Sn):List Sn:=L.filter (fun x=>decide (x.t=t)&&decide (x.p=p))
theorem run_of {α:Type} {R:α→α→Prop} (lo Q:α→Bool) (hq:∀a,Q a=true→lo a=true) (hm:∀a b,R a b→lo a=true→Q a=false→Q b=false):∀ {L:List α},L.Pairwise R→(L.filter lo).takeWhile Q=L.filter Q
 | [],_=>rfl
 |a::L,hp=>by
  obtain ⟨p1,p2⟩:=List.pairwise_cons.1 hp
  have ih:=run_of lo Q hq hm p2
  rw [List.filter_cons,List.filter_cons]
  cases hlo:lo a with
  |true=>
   rw [if_pos rfl,List.takeWhile_cons]
   cases hQ:Q a with
   |true=>rw [if_pos rfl,if_pos rfl,ih]
   |false=>
    rw [if_neg (by simp),if_neg (by simp),eq_comm,List.filter_eq_nil_iff]
    intro b hb;rw [hm a b (p1 b hb) hlo hQ];simp
  |false=>
   have hQ:Q a=false:=by
    cases hQ:Q a with
    |false=>rfl
    |true=>rw [hq a hQ] at hlo;cases hlo
   rw [if_neg (by simp),hQ,if_neg (by simp),ih]
abbrev mn:Int:= -9223372036854775808
theorem wf_mn:wf64 mn:=by unfold wf64 mn;omega
def lo3 (t p:Int) (x:Sn):Bool:=decide (t<x.t)||(decide (t=x.t)&&decide (p≤x.p))
theorem kids_run {L KL:List Sn} (hK:KL.Pairwise (fun a b=>lt3 a b=true)) (hg:∀x∈L,gd x) (hm:∀x,x∈KL↔x∈L) {t p:Int} (ht:wf64 t) (hp:wf64 p):(geL (key3 t p mn) (KL.map (fun x=>(k3 x,()))))=(KL.filter (lo3 t p)).map (fun x=>(k3 x,()))∧(KL.filter (lo3 t p)).takeWhile (fun x=>decide (x.t=t)&&decide (x.p=p))=ofP t p KL:=by
 constructor
 ·unfold geL
  rw [List.filter_map]
  congr 1
  apply List.filter_congr
  intro x hx
  have hx':=hg x ((hm x).1 hx)
  have h:=lt_key3 hx'.1 hx'.2.2 hx'.2.1 ht hp wf_mn
  have h2:=hx'.2.1
  unfold wf64 at h2
  simp only [Function.comp,k3,h]
  rw [Bool.eq_iff_iff];simp [lo3,mn];omega
 ·exact run_of _ _ (fun a h=>by simp [lo3] at h ⊢;omega) (fun a b hR h1 h2=>by
   rw [lt3_iff] at hR
   simp [lo3] at h1 h2 ⊢;omega) hK
theorem ofP_eq {L KL:List Sn} (hs:Srs L) (hK:KL.Pairwise (fun a b=>lt3 a b=true)) (hm:∀x,x∈KL↔x∈L) (t p:Int):ofP t p KL=ofP t p L:=by
 have h1:(ofP t p KL).Pairwise (fun a b=>bef a b=true):=by
  unfold ofP
  refine (hK.filter _).imp_of_mem (fun {a b} ha hb h=>?_)
  have ha:=(List.mem_filter.1 ha).2
  have hb:=(List.mem_filter.1 hb).2
  rw [lt3_iff] at h
  simp only [Bool.and_eq_true,decide_eq_true_eq] at ha hb
  simp only [bef,Bool.or_eq_true,Bool.and_eq_true,decide_eq_true_eq];omega
 exact srs_ext h1 (hs.filter _) (fun y=>by unfold ofP;rw [List.mem_filter,List.mem_filter,hm])
abbrev kids (t p:Int) (L:List Sn):List Int:=(ofP t p L).map (·.i)
def putK (x:Sn) (L:List Sn):List Sn:=ins (sn x.t x.i x.p) L
theorem ins_out {x:Sn} {L:List Sn} (hs:Srs L):ins x (out x.t x.i L)=ins x L:=by
 refine srs_ext (ins_srs (out_srs hs)) (ins_srs hs) (fun y=>?_)
 rw [ins_mem (out_srs hs),ins_mem hs,out_mem]
 constructor
 ·rintro (h| ⟨⟨h1,-⟩,h2⟩)
  ·exact .inl h
  ·exact .inr ⟨h1,h2⟩
 ·rintro (h| ⟨h1,h2⟩)
  ·exact .inl h
  ·refine .inr ⟨⟨h1,fun e=>?_⟩,h2⟩
   rw [show one y x=true from one_iff.2 e] at h2;cases h2
theorem fnd_out {x:Sn} {L:List Sn}:fnd x (out x.t x.i L)=none:=by
 unfold fnd
 rw [List.find?_eq_none]
 intro y hy h
 exact (out_mem.1 hy).2 (one_iff.1 (by simpa using h))
theorem out_fnd {x:Sn} {L:List Sn} (h:fnd x L=none):out x.t x.i L=L:=out_none (fun y hy e=>by have:=fnd_none h y hy;rw [one_iff.2 e] at this;cases this)
end KidsP
namespace Cls
open KeyP PackP SetP
structure Up where
 c:Int
 d:Nat
 t:Int
section
variable (L:List Sn) (t:Int)
def nx (i:Int):Option Sn:=L.find? (fun y=>decide (y.t=t)&&decide (y.i=i))
def low (x:Sn) (u:Up):Up:=⟨u.c,u.d+1,if u.d=0 then x.i else u.t⟩
def top (i:Int):Up:=⟨if i=0 then 1 else 2,0,0⟩
def dp:Nat→Int→Option Up
 |0,_=>none
 |n+1,i=>match nx L t i with
  |none=>some (top i)
  |some x=>(dp n x.p).map (low x)
variable {L t}
theorem nx_some {i:Int} {x:Sn} (h:nx L t i=some x):x∈L∧x.t=t∧x.i=i:=by
 have h1:=List.mem_of_find?_eq_some h
 have h2:=List.find?_some (p:=fun y:Sn=>decide (y.t=t)&&decide (y.i=i)) h
 rw [Bool.and_eq_true,decide_eq_true_eq,decide_eq_true_eq] at h2
 exact ⟨h1,h2.1,h2.2⟩
theorem nx_mem (hs:Srs L) {x:Sn} (hx:x∈L):nx L x.t x.i=some x:=by
 cases h:nx L x.t x.i with
 |none=>
  have:=List.find?_eq_none.1 h x hx
  simp at this
 |some y=>
  obtain ⟨h1,h2,h3⟩:=nx_some h
  rw [srs_uni hs h1 hx (one_iff.2 ⟨h2,h3⟩)]
theorem dp_succ (n:Nat) (i:Int):dp L t (n+1) i=match nx L t i with
  |none=>some (top i)
  |some x=>(dp L t n x.p).map (low x):=rfl
theorem dp_mono {n:Nat} {i:Int} {u:Up} (h:dp L t n i=some u):dp L t (n+1) i=some u:=by
 induction n generalizing i u with
 |zero=>cases h
 |succ n ih=>
  rw [dp_succ] at h ⊢
  cases hn:nx L t i with
  |none=>rw [hn] at h;exact h
  |some x=>
   rw [hn] at h
   dsimp only at h ⊢
   cases hd:dp L t n x.p with
   |none=>rw [hd] at h;cases h
   |some v=>rw [hd] at h;rw [ih hd];exact h
theorem dp_add {n:Nat} {i:Int} {u:Up} (h:dp L t n i=some u) (m:Nat):dp L t (m+n) i=some u:=by
 induction m with
 |zero=>rw [Nat.zero_add];exact h
 |succ m ih=>rw [Nat.succ_add];exact dp_mono ih
theorem dp_le {n m:Nat} {i:Int} {u:Up} (h:dp L t n i=some u) (hm:n≤m):dp L t m i=some u:=by
 have:=dp_add h (m-n)
 rwa [Nat.sub_add_cancel hm] at this
theorem dp_one {n m:Nat} {i:Int} {u v:Up} (h:dp L t n i=some u) (k:dp L t m i=some v):u=v:=by
 have h1:=dp_add h m
 have h2:=dp_add k n
 rw [Nat.add_comm] at h2
 rw [h1] at h2
 exact Option.some.inj h2
variable (L t)
inductive Ch:Int→List Sn→Int→Prop
 |nil (i:Int):Ch i [] i
 |cons {i e:Int} {x:Sn} {s:List Sn}:nx L t i=some x→Ch x.p s e→Ch i (x::s) e
variable {L t}
def adv (s:List Sn) (u:Up):Up:=s.foldr low u
theorem adv_d (s:List Sn) (u:Up):(adv s u).d=u.d+s.length:=by
 induction s with
 |nil=>rfl
 |cons x s ih=>show (adv s u).d+1=_;rw [ih,List.length_cons];omega
theorem adv_c (s:List Sn) (u:Up):(adv s u).c=u.c:=by
 induction s with
 |nil=>rfl
 |cons x s ih=>exact ih
theorem adv_t {s:List Sn} {x:Sn} {u:Up} (hu:u.d=0):(adv (s++ [x]) u).t=x.i:=by
 induction s with
 |nil=>show (if u.d=0 then x.i else u.t)=x.i;rw [if_pos hu]
 |cons y s ih=>
  show (if (adv (s++ [x]) u).d=0 then y.i else (adv (s++ [x]) u).t)=x.i
  rw [adv_d,if_neg (by simp),ih]
theorem Ch.dp {i e:Int} {s:List Sn} (h:Ch L t i s e) (n:Nat):Cls.dp L t (s.length+n) i=(Cls.dp L t n e).map (adv s):=by
 induction h with
 |nil i=>rw [List.length_nil,Nat.zero_add];cases Cls.dp L t n i<;>rfl
 | @cons i e x s hx hc ih=>
  rw [List.length_cons,Nat.add_right_comm,dp_succ,hx]
  dsimp only
  rw [ih]
  cases Cls.dp L t n e<;>rfl
theorem Ch.snoc {i e:Int} {s:List Sn} {x:Sn} (h:Ch L t i s e) (hx:nx L t e=some x):Ch L t i (s++ [x]) x.p:=by
 induction h with
 |nil i=>exact .cons hx (.nil _)
 |cons hy _ ih=>exact .cons hy (ih hx)
theorem Ch.split {i e:Int} {p q:List Sn} {y:Sn} (h:Ch L t i (p++y::q) e):Ch L t i p y.i∧Ch L t y.i (y::q) e:=by
 induction p generalizing i with
 |nil=>
  cases h with
  |cons hx hc=>
   have:=(nx_some hx).2.2
   subst this
   exact ⟨.nil _,.cons hx hc⟩
 |cons x p ih=>
  cases h with
  |cons hx hc=>
   obtain ⟨h1,h2⟩:=ih hc
   exact ⟨.cons hx h1,h2⟩
theorem Ch.mem {i e:Int} {s:List Sn} (h:Ch L t i s e):∀x∈s,x∈L∧x.t=t∧nx L t x.i=some x:=by
 induction h with
 |nil i=>simp
 | @cons i e x s hx hc ih=>
  intro y hy
  rcases List.mem_cons.1 hy with rfl|hy
  ·obtain ⟨h1,h2,h3⟩:=nx_some hx
   exact ⟨h1,h2,by rw [h3];exact hx⟩
  ·exact ih y hy
theorem dp_ring {i:Int} {s:List Sn} (h:Ch L t i s i) (hs:s≠ []) (n:Nat):dp L t n i=none:=by
 cases hd:dp L t n i with
 |none=>rfl
 |some u=>
  have h1:=h.dp n
  rw [hd,dp_add hd] at h1
  have h2:=congrArg Up.d (Option.some.inj h1)
  rw [adv_d] at h2
  exact absurd (List.length_eq_zero_iff.1 (by omega)) hs
theorem dp_to {i e:Int} {s:List Sn} (h:Ch L t i s e) (he:∀n,dp L t n e=none) (n:Nat):dp L t n i=none:=by
 cases hd:dp L t n i with
 |none=>rfl
 |some u=>
  have h1:=h.dp n
  rw [he n,dp_add hd] at h1
  cases h1
theorem sub_len {r L:List Sn} (hn:r.Nodup) (hs:∀x∈r,x∈L):r.length≤L.length:=by
 induction r generalizing L with
 |nil=>simp
 |cons x r ih=>
  obtain ⟨h1,h2⟩:=List.nodup_cons.1 hn
  have hx:=hs x (by simp)
  have:=ih (L:=L.erase x) h2 (fun y hy=>(List.mem_erase_of_ne (fun e=>h1 (by rw [←e];exact hy))).2 (hs y (by simp [hy])))
  rw [List.length_erase_of_mem hx] at this
  have:=List.length_pos_of_mem hx
  rw [List.length_cons];omega
variable (L t)
def way:Nat→List Sn→Int→List Sn × Bool
 |0,out,_=>(out,true)
 |n+1,out,i=>match nx L t i with
  |none=>(out,false)
  |some x=>if (fnd x out).isSome then (out,true) else way n (out++ [x]) x.p
variable {L t}
theorem way_spec {n:Nat} {i0 i:Int} {out:List Sn} (h:Ch L t i0 out i) (hn:out.Nodup) (hf:L.length<n+out.length):
  ∃e,Ch L t i0 (way L t n out i).1 e∧(way L t n out i).1.Nodup∧((way L t n out i).2=false→nx L t e=none)∧((way L t n out i).2=true→∃y∈(way L t n out i).1,y.i=e):=by
 induction n generalizing out i with
 |zero=>exact absurd (sub_len hn (fun x hx=>(h.mem x hx).1)) (by omega)
 |succ n ih=>
  unfold way
  cases hx:nx L t i with
  |none=>exact ⟨i,h,hn,fun _=>hx,fun e=>(by cases e)⟩
  |some x=>
   dsimp only
   by_cases hf2:(fnd x out).isSome=true
   ·rw [if_pos hf2]
    obtain ⟨y,hy⟩:=Option.isSome_iff_exists.1 hf2
    obtain ⟨h1,h2⟩:=fnd_some hy
    refine ⟨i,h,hn,fun e=>(by cases e),fun _=>⟨y,h1,?_⟩⟩
    rw [(one_iff.1 h2).2,(nx_some hx).2.2]
   ·rw [if_neg hf2]
    refine ih (h.snoc hx) ?_ (by rw [List.length_append,List.length_singleton];omega)
    rw [List.nodup_append]
    refine ⟨hn,by simp,fun a ha b hb e=>?_⟩
    simp at hb;subst hb;subst e
    have:fnd a out=none:=by
     cases hq:fnd a out with
     |none=>rfl
     |some q=>rw [hq] at hf2;exact absurd rfl hf2
    have:=fnd_none this a ha
    rw [one_refl] at this;cases this
def T (L:List Sn) (t i:Int):Option Up:=dp L t (L.length+1) i
theorem way_T (i:Int):∃e,Ch L t i (way L t (L.length+1) [] i).1 e∧(way L t (L.length+1) [] i).1.Nodup∧
  ((way L t (L.length+1) [] i).2=false→nx L t e=none∧∀n,L.length≤n→dp L t (n+1) i=some (adv (way L t (L.length+1) [] i).1 (top e)))∧((way L t (L.length+1) [] i).2=true→(∃y∈(way L t (L.length+1) [] i).1,y.i=e)∧∀n,dp L t n i=none):=by
 obtain ⟨e,h1,h2,h3,h4⟩:=way_spec (L:=L) (t:=t) (n:=L.length+1) (Ch.nil (L:=L) (t:=t) i) List.nodup_nil (by simp)
 generalize way L t (L.length+1) [] i=r at *
 refine ⟨e,h1,h2,fun hb=>⟨h3 hb,fun n hn=>?_⟩,fun hb=>⟨h4 hb,fun n=>?_⟩⟩
 ·have h5:=h1.dp 1
  rw [show dp L t 1 e=some (top e) from by rw [dp_succ,h3 hb]] at h5
  exact dp_le h5 (by have:=sub_len h2 (fun x hx=>(h1.mem x hx).1);omega)
 ·obtain ⟨y,hy,rfl⟩:=h4 hb
  obtain ⟨p,q,hpq⟩:=List.append_of_mem hy
  rw [hpq] at h1
  obtain ⟨k1,k2⟩:=h1.split
  exact dp_to k1 (dp_ring k2 (by simp)) n
theorem T_of {n:Nat} {i:Int} {u:Up} (h:dp L t n i=some u):T L t i=some u:=by
 obtain ⟨e,h1,h2,h3,h4⟩:=way_T (L:=L) (t:=t) i
 cases hb:(way L t (L.length+1) [] i).2 with
 |true=>rw [(h4 hb).2 n] at h;cases h
 |false=>
  have h5:=(h3 hb).2 L.length (Nat.le_refl _)
  unfold T
  rw [h5,dp_one h5 h]
theorem T_none {i:Int} (h:nx L t i=none):T L t i=some (top i):=by unfold T;rw [dp_succ,h]
theorem T_step {i:Int} {x:Sn} (h:nx L t i=some x):T L t i=(T L t x.p).map (low x):=by
 cases hp:T L t x.p with
 |some u=>exact T_of (n:=L.length+1+1) (by rw [dp_succ,h];show (T L t x.p).map (low x)=_;rw [hp];rfl)
 |none=>
  cases hi:T L t i with
  |none=>rfl
  |some v=>
   unfold T at hi
   rw [dp_succ,h] at hi
   dsimp only at hi
   cases hd:dp L t L.length x.p with
   |none=>rw [hd] at hi;cases hi
   |some w=>rw [T_of hd] at hp;cases hp
theorem T_pos {i:Int} {x:Sn} {u:Up} (h:nx L t i=some x) (hu:T L t i=some u):0<u.d:=by
 rw [T_step h] at hu
 cases hp:T L t x.p with
 |none=>rw [hp] at hu;cases hu
 |some v=>rw [hp] at hu;rw [←Option.some.inj hu];show 0<v.d+1;omega
theorem T_ring' {i:Int} {s:List Sn} {y:Sn} {e:Int} (h:Ch L t i s e) (hy:y∈s) (he:y.i=e):T L t e=none:=by
 subst he
 obtain ⟨p,q,rfl⟩:=List.append_of_mem hy
 exact dp_ring h.split.2 (by simp) _
end
def cdt (L:List Sn) (x:Sn):Int × Int × Int:=match T L x.t x.i with
 |none=>(3,0,0)
 |some u=>(u.c,u.d,u.t)
def fan (L:List Sn) (x:Sn):Nat:=(L.filter (fun y=>decide (y.t=x.t)&&decide (y.p=x.i))).length
def refAt (L:List Sn) (x:Sn):Int × Int × Int:=
 let w:=way L x.t (L.length+1) [] x.i
 if w.2||decide (w.1.length=0) then (3,0,0) else
  ((match w.1.getLast? with|some y=>if y.p=0 then 1 else 2|none=>2),(w.1.length:Int),(match w.1.getLast? with|some y=>y.i|none=>0))
theorem ch_last {L:List Sn} {t i e:Int} {s:List Sn} {y:Sn} (h:Ch L t i (s++ [y]) e):y.p=e:=by
 obtain ⟨-,h2⟩:=Ch.split (q:= []) h
 cases h2 with
 |cons hx hc=>
  cases hc with
  |nil _=>rfl
theorem ref_at {L:List Sn} (hs:Srs L) {x:Sn} (hx:x∈L):refAt L x=cdt L x:=by
 obtain ⟨e,h1,h2,h3,h4⟩:=way_T (L:=L) (t:=x.t) x.i
 unfold refAt cdt
 dsimp only
 cases hb:(way L x.t (L.length+1) [] x.i).2 with
 |true=>unfold T;rw [(h4 hb).2];rfl
 |false=>
  obtain ⟨h5,h6⟩:=h3 hb
  have h7:=h6 L.length (Nat.le_refl _)
  unfold T
  rw [h7]
  generalize (way L x.t (L.length+1) [] x.i).1=r at *
  rcases List.eq_nil_or_concat r with rfl| ⟨s,y,rfl⟩
  ·cases h1
   rw [nx_mem hs hx] at h5;cases h5
  ·rw [List.concat_eq_append] at *
   have hp:=ch_last h1
   subst hp
   rw [Bool.false_or,decide_eq_false (by simp),if_neg (by simp)]
   dsimp only
   rw [List.getLast?_append,adv_c,adv_d,adv_t rfl]
   simp [top]
theorem cdt_step {L:List Sn} (hs:Srs L) {x:Sn} (hx:x∈L):cdt L x=match nx L x.t x.p with
  |none=>(if x.p=0 then 1 else 2,1,x.i)
  |some y=>if (cdt L y).1=3 then (3,0,0) else ((cdt L y).1,(cdt L y).2.1+1,(cdt L y).2.2):=by
 have hst:=T_step (nx_mem hs hx)
 unfold cdt
 rw [hst]
 cases hn:nx L x.t x.p with
 |none=>rw [T_none hn];rfl
 |some y=>
  obtain ⟨h1,h2,h3⟩:=nx_some hn
  dsimp only
  rw [h2,h3]
  cases hT:T L x.t x.p with
  |none=>rfl
  |some u=>
   have hd:=T_pos hn hT
   have hc:u.c≠3:=by
    have hw:=way_T (L:=L) (t:=x.t) x.p
    obtain ⟨e,k1,k2,k3,k4⟩:=hw
    cases hb:(way L x.t (L.length+1) [] x.p).2 with
    |true=>unfold T at hT;rw [(k4 hb).2] at hT;cases hT
    |false=>
     have:=(k3 hb).2 L.length (Nat.le_refl _)
     unfold T at hT
     rw [hT] at this
     rw [Option.some.inj this,adv_c]
     unfold top;dsimp only;split<;>decide
   dsimp only
   rw [if_neg hc]
   show ((u.c,((u.d+1:Nat):Int),if u.d=0 then x.i else u.t):Int × Int × Int)=_
   rw [if_neg (by omega)]
   simp
end Cls
namespace Cls
open KeyP PackP SetP
section
variable {L:List Sn} {t:Int}
theorem T_c {i:Int} {u:Up} (h:T L t i=some u):u.c=1∨u.c=2:=by
 obtain ⟨e,k1,k2,k3,k4⟩:=way_T (L:=L) (t:=t) i
 cases hb:(way L t (L.length+1) [] i).2 with
 |true=>unfold T at h;rw [(k4 hb).2] at h;cases h
 |false=>
  have:=(k3 hb).2 L.length (Nat.le_refl _)
  unfold T at h
  rw [h] at this
  rw [Option.some.inj this,adv_c]
  unfold top;dsimp only;split
  ·exact .inl rfl
  ·exact .inr rfl
theorem cdt_three {x:Sn} (h:(cdt L x).1=3):cdt L x=(3,0,0):=by
 unfold cdt at h ⊢
 cases hT:T L x.t x.i with
 |none=>rfl
 |some u=>rw [hT] at h;have h2:u.c=3:=h;rcases T_c hT with hc|hc<;>omega
theorem cdt_cls (x:Sn):(cdt L x).1=1∨(cdt L x).1=2∨(cdt L x).1=3:=by
 unfold cdt
 cases hT:T L x.t x.i with
 |none=>exact .inr (.inr rfl)
 |some u=>rcases T_c hT with hc|hc<;>simp [hc]
def low3 (u:Int × Int × Int):Int × Int × Int:=(u.1,if u.1=3 then 0 else u.2.1+1,u.2.2)
theorem low_cdt {y:Sn}:low3 (cdt L y)=if (cdt L y).1=3 then (3,0,0) else ((cdt L y).1,(cdt L y).2.1+1,(cdt L y).2.2):=by
 by_cases h:(cdt L y).1=3
 ·rw [if_pos h,cdt_three h];rfl
 ·rw [if_neg h];unfold low3;rw [if_neg h]
variable (L t)
def cw (K:Int→Bool):Nat→List Sn→Int→List Sn × Int
 |0,out,i=>(out,i)
 |n+1,out,i=>match nx L t i with
  |none=>(out,i)
  |some x=>if K i||(fnd x out).isSome then (out,i) else cw K n (out++ [x]) x.p
variable {L t}
theorem cw_spec {K:Int→Bool} {n:Nat} {i0 i:Int} {out:List Sn} (h:Ch L t i0 out i) (hn:out.Nodup) (hf:L.length<n+out.length):
  Ch L t i0 (cw L t K n out i).1 (cw L t K n out i).2∧(cw L t K n out i).1.Nodup∧(nx L t (cw L t K n out i).2=none∨((nx L t (cw L t K n out i).2).isSome=true∧(K (cw L t K n out i).2=true∨∃y∈(cw L t K n out i).1,y.i=(cw L t K n out i).2))):=by
 induction n generalizing out i with
 |zero=>exact absurd (sub_len hn (fun x hx=>(h.mem x hx).1)) (by omega)
 |succ n ih=>
  unfold cw
  cases hx:nx L t i with
  |none=>exact ⟨h,hn,.inl hx⟩
  |some x=>
   dsimp only
   by_cases hK:K i=true
   ·rw [if_pos (by rw [hK];rfl)]
    exact ⟨h,hn,.inr ⟨by rw [hx];rfl,.inl hK⟩⟩
   ·by_cases hf2:(fnd x out).isSome=true
    ·rw [if_pos (by rw [hf2,Bool.or_true])]
     obtain ⟨y,hy⟩:=Option.isSome_iff_exists.1 hf2
     obtain ⟨h1,h2⟩:=fnd_some hy
     refine ⟨h,hn,.inr ⟨by rw [hx];rfl,.inr ⟨y,h1,?_⟩⟩⟩
     rw [(one_iff.1 h2).2,(nx_some hx).2.2]
    ·rw [if_neg (by simp [hK,hf2])]
     refine ih (h.snoc hx) ?_ (by rw [List.length_append,List.length_singleton];omega)
     rw [List.nodup_append]
     refine ⟨hn,by simp,fun a ha b hb e=>?_⟩
     simp at hb;subst hb;subst e
     have:fnd a out=none:=by
      cases hq:fnd a out with
      |none=>rfl
      |some q=>rw [hq] at hf2;exact absurd rfl hf2
     have:=fnd_none this a ha
     rw [one_refl] at this;cases this
def abv (L:List Sn) (K:Int→Bool) (z:Sn) (e:Int):Int × Int × Int:=match nx L z.t e with
 |some y=>if K e then cdt L y else (3,0,0)
 |none=>if z.p=0 then (1,0,z.i) else (2,0,z.i)
theorem last_cdt (hs:Srs L) {K:Int→Bool} {i e:Int} {s:List Sn} {z:Sn} (h:Ch L t i (s++ [z]) e)
  (he:nx L t e=none∨((nx L t e).isSome=true∧(K e=true∨∃y∈s++ [z],y.i=e))):cdt L z=low3 (abv L K z e):=by
 have hp:=ch_last h
 obtain ⟨hz,hzt,-⟩:=h.mem z (by simp)
 rw [cdt_step hs hz]
 unfold abv
 rw [hzt,hp]
 cases hn:nx L t e with
 |none=>dsimp only;by_cases h0:z.p=0<;>simp [hp▸h0,low3]
 |some y=>
  dsimp only
  rw [←low_cdt]
  cases hK:K e with
  |true=>rfl
  |false=>
   rw [hn] at he
   rcases he with he| ⟨-,he| ⟨q,hq,hqe⟩⟩
   ·cases he
   ·rw [hK] at he;cases he
   ·have hT:=T_ring' h hq hqe
    obtain ⟨-,y2,y3⟩:=nx_some hn
    have:cdt L y=(3,0,0):=by unfold cdt;rw [y2,y3,hT]
    rw [this];rfl
theorem prev_cdt (hs:Srs L) {i e:Int} {s q:List Sn} {y z:Sn} (h:Ch L t i (s++y::z::q) e):cdt L y=low3 (cdt L z):=by
 obtain ⟨hy,hyt,-⟩:=h.mem y (by simp)
 obtain ⟨-,h2⟩:=h.split
 cases h2 with
 |cons hx hc=>
  cases hc with
  |cons hx2 hc2=>rw [cdt_step hs hy,hyt,hx2,low_cdt]
theorem cdt_way (hs:Srs L) {x:Sn} (hx:x∈L):∃s z,(way L x.t (L.length+1) [] x.i).1=s++ [z]∧z∈L∧z.t=x.t∧((nx L x.t z.p).isSome=true↔(cdt L x).1=3)∧((cdt L x).1≠3→(cdt L x).2.1=((s.length+1:Nat):Int))∧(cdt L x).2.1≤(L.length:Int)∧0≤(cdt L x).2.1:=by
 obtain ⟨e,h1,h2,h3,h4⟩:=way_T (L:=L) (t:=x.t) x.i
 have hr:=ref_at hs hx
 unfold refAt at hr
 generalize way L x.t (L.length+1) [] x.i=r at *
 obtain ⟨r,b⟩:=r
 dsimp only at *
 have hl:=sub_len h2 (fun x hx=>(h1.mem x hx).1)
 rcases List.eq_nil_or_concat r with rfl| ⟨s,z,rfl⟩
 ·cases h1
  rw [nx_mem hs hx] at h3
  cases b with
  |true=>obtain ⟨⟨y,hy,-⟩,-⟩:=h4 rfl;cases hy
  |false=>cases (h3 rfl).1
 rw [List.concat_eq_append] at *
 have hp:=ch_last h1
 obtain ⟨hz,hzt,-⟩:=h1.mem z (by simp)
 refine ⟨s,z,rfl,hz,hzt,?_⟩
 rw [List.length_append,List.length_singleton] at hl
 cases b with
 |true=>
  rw [if_pos (Bool.true_or _)] at hr
  rw [←hr]
  obtain ⟨⟨y,hy,hye⟩,-⟩:=h4 rfl
  obtain ⟨-,-,k3⟩:=h1.mem y hy
  refine ⟨⟨fun _=>rfl,fun _=>?_⟩,fun h=>absurd rfl h,by show (0:Int)≤_;omega,Int.le_refl 0⟩
  rw [hp,←hye,k3];rfl
 |false=>
  rw [if_neg (by simp)] at hr
  have hn:=(h3 rfl).1
  rw [←hr]
  have hc:(match (s++ [z]).getLast? with|some y=>if y.p=0 then (1:Int) else 2|none=>2)≠3:=by
   rw [List.getLast?_append];simp only [List.getLast?_singleton,Option.some_or];split<;>decide
  refine ⟨⟨fun h=>?_,fun h=>absurd h hc⟩,fun _=>?_,?_,?_⟩
  ·rw [hp,hn] at h;cases h
  ·dsimp only;rw [List.length_append,List.length_singleton]
  ·dsimp only;rw [List.length_append,List.length_singleton];omega
  ·dsimp only;omega
theorem fan_le (x:Sn):fan L x≤L.length:=List.length_filter_le _ _
end
end Cls
end Go.Proofs.YtgfjpnpbkkadpaaGreat
