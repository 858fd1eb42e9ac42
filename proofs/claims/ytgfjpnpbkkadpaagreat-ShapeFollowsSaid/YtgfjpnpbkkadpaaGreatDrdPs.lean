/- A forest of places that follows what comes and goes, plain: what is lost, what is found again. No program is named. -/
import Derived.Test.YtgfjpnpbkkadpaaGreatClsPs
import Derived.Test.YtgfjpnpbkkadpaaGreatPls
namespace Go.Proofs.YtgfjpnpbkkadpaaGreat
open Go.RowKit
namespace Drd
open KeyP PackP SetP KidsP Cls
theorem hasL_ins {κ ν:Type} [Ord κ] (k k':κ) (v:ν) (L:List (κ × ν)):hasL k (insL k' v L)=(sameK k k'||hasL k L):=by
 rw [hasL_get,getL_ins,hasL_get];cases sameK k k'<;>simp
theorem srt_mem {κ ν:Type} [Ord κ] {A B:List (κ × ν)} (ha:Srt A) (hb:Srt B) (h:∀q,q∈A↔q∈B):A=B:=by
 refine srt_ext ha hb (fun k=>?_)
 cases hA:getL k A with
 |some v=>exact (mem_getL hb ((h _).1 (getL_mem hA))).symm
 |none=>
  cases hB:getL k B with
  |none=>rfl
  |some v=>rw [mem_getL ha ((h _).2 (getL_mem hB))] at hA;cases hA
theorem sub_len' {α:Type} [DecidableEq α]:∀ {r L:List α},r.Nodup→(∀x∈r,x∈L)→r.length≤L.length
 | [],_,_,_=>Nat.zero_le _
 |x::r,L,hn,hs=>by
  obtain ⟨h1,h2⟩:=List.nodup_cons.1 hn
  have hx:=hs x (by simp)
  have:=sub_len' (L:=L.erase x) h2 (fun y hy=>(List.mem_erase_of_ne (fun e=>h1 (by rw [←e];exact hy))).2 (hs y (by simp [hy])))
  rw [List.length_erase_of_mem hx] at this
  have:=List.length_pos_of_mem hx
  rw [List.length_cons];omega
def pz:Pq:=⟨0,0,0,0,0,0⟩
def plq (L:List Sn) (y:Sn):Pq:=⟨y.t,y.i,(cdt L y).1,(cdt L y).2.1,(cdt L y).2.2,((fan L y:Nat):Int)⟩
abbrev pm (L:List Sn):List (ByteArray × Pq):=mp (plq L) L
theorem get_pm {ν:Type} {f:Sn→ν} {L:List Sn} (hg:∀y∈L,gd y) {t i:Int} (ht:wf64 t) (hi:wf64 i):getL (key2 t i) (mp f L)=(nx L t i).map f:=
 get_mp (x:=sn t i 0) ⟨ht,hi⟩ (fun y hy=>(hg y hy).gk)
theorem nx_iff {L:List Sn} (hs:Srs L) {t i:Int} {x:Sn}:nx L t i=some x↔x∈L∧x.t=t∧x.i=i:=
 ⟨nx_some,fun ⟨h1,h2,h3⟩=>by subst h2;subst h3;exact nx_mem hs h1⟩
theorem nx_none {L:List Sn} (hs:Srs L) {t i:Int}:nx L t i=none↔ ∀x∈L,¬ (x.t=t∧x.i=i):=by
 constructor
 ·intro h x hx e
  rw [(nx_iff hs).2 ⟨hx,e⟩] at h;cases h
 ·intro h
  cases hn:nx L t i with
  |none=>rfl
  |some x=>exact absurd (nx_some hn).2 (h x (nx_some hn).1)
theorem key_eq {a b c d:Int} (ha:wf64 a) (hb:wf64 b) (hc:wf64 c) (hd:wf64 d):sameK (key2 a b) (key2 c d)=(decide (a=c)&&decide (b=d)):=by
 rw [Bool.eq_iff_iff,sameK_iff,Bool.and_eq_true,decide_eq_true_eq,decide_eq_true_eq]
 exact ⟨key2_inj ha hb hc hd,fun ⟨h1,h2⟩=>by rw [h1,h2]⟩
structure Lo (L Bo:List Sn) (LO:List (ByteArray × Int)):Prop where
 s:Srt LO
 m:∀q∈LO,∃i,wf64 q.2∧wf64 i∧q.1=key2 q.2 i∧(∃x∈Bo,x.t=q.2)∧((nx L q.2 i).isSome=true∨∃x∈Bo,x.t=q.2∧x.i=i)
def Cl (L:List Sn) (LO:List (ByteArray × Int)) (t:Int) (left:List Int):Prop:=∀x∈L,hasL (key2 x.t x.p) LO=true→hasL (kk x) LO=true∨(x.t=t∧x.i∈left)
def Lf (L Bo:List Sn) (t:Int) (left:List Int):Prop:=∀j∈left,wf64 j∧((nx L t j).isSome=true∨∃x∈Bo,x.t=t∧x.i=j)
def mu (L:List Sn) (LO:List (ByteArray × Int)) (t:Int) (left:List Int):Nat:=left.length+(L.filter (fun x=>decide (x.t=t)&& !hasL (key2 x.t x.p) LO)).length
theorem Lo.nil (L Bo:List Sn):Lo L Bo []:=⟨List.Pairwise.nil,by simp⟩
theorem Lo.key {L Bo:List Sn} {LO:List (ByteArray × Int)} (h:Lo L Bo LO) {t i v:Int} (ht:wf64 t) (hi:wf64 i) (hv:getL (key2 t i) LO=some v):v=t:=by
 obtain ⟨j,h1,h2,h3,-⟩:=h.m _ (getL_mem hv)
 exact (key2_inj ht hi h1 h2 h3).1.symm
theorem Lo.old {L Bo:List Sn} {LO:List (ByteArray × Int)} (h:Lo L Bo LO) {t i:Int} (ht:wf64 t) (hi:wf64 i) (hk:hasL (key2 t i) LO=true):insL (key2 t i) t LO=LO:=by
 refine srt_ext (srt_insL t h.s).1 h.s (fun k=>?_)
 rw [getL_ins]
 by_cases e:sameK k (key2 t i)=true
 ·rw [if_pos e,sameK_iff.1 e]
  rw [hasL_get] at hk
  obtain ⟨v,hv⟩:=Option.isSome_iff_exists.1 hk
  rw [hv,h.key ht hi hv]
 ·rw [if_neg e]
theorem Cl.old {L:List Sn} {LO:List (ByteArray × Int)} {t i:Int} {left:List Int} (h:Cl L LO t (i::left)) (hk:hasL (key2 t i) LO=true):Cl L LO t left:=by
 intro x hx hp
 rcases h x hx hp with e| ⟨e1,e2⟩
 ·exact .inl e
 ·rcases List.mem_cons.1 e2 with e3|e3
  ·exact .inl (by show hasL (key2 x.t x.i) LO=true;rw [e1,e3];exact hk)
  ·exact .inr ⟨e1,e3⟩
theorem Lo.new {L Bo:List Sn} {LO:List (ByteArray × Int)} (h:Lo L Bo LO) {t i:Int} (ht:wf64 t) (hi:wf64 i) (hb:∃x∈Bo,x.t=t) (ho:(nx L t i).isSome=true∨∃x∈Bo,x.t=t∧x.i=i):Lo L Bo (insL (key2 t i) t LO):=by
 refine ⟨(srt_insL t h.s).1,fun q hq=>?_⟩
 rcases (ExpP.mem_ins h.s).1 hq with rfl| ⟨hq,-⟩
 ·exact ⟨i,ht,hi,rfl,hb,ho⟩
 ·exact h.m q hq
theorem Cl.new {L:List Sn} {LO:List (ByteArray × Int)} (hg:∀y∈L,gd y) {t i:Int} (ht:wf64 t) (hi:wf64 i) {left:List Int} (h:Cl L LO t (i::left)):Cl L (insL (key2 t i) t LO) t (left++kids t i L):=by
 intro x hx hp
 obtain ⟨g1,g2,g3⟩:=hg x hx
 rw [hasL_ins,Bool.or_eq_true,key_eq g1 g3 ht hi,Bool.and_eq_true,decide_eq_true_eq,decide_eq_true_eq] at hp
 show hasL (key2 x.t x.i) _=true∨_
 rw [hasL_ins,Bool.or_eq_true,key_eq g1 g2 ht hi,Bool.and_eq_true,decide_eq_true_eq,decide_eq_true_eq,List.mem_append]
 rcases hp with ⟨e1,e2⟩|hp
 ·exact .inr ⟨e1,.inr (List.mem_map.2 ⟨x,List.mem_filter.2 ⟨hx,by simp [e1,e2]⟩,rfl⟩)⟩
 ·rcases h x hx hp with e| ⟨e1,e2⟩
  ·exact .inl (.inr e)
  ·rcases List.mem_cons.1 e2 with e3|e3
   ·exact .inl (.inl ⟨e1,e3⟩)
   ·exact .inr ⟨e1,.inl e3⟩
theorem Lf.new {L Bo:List Sn} (hs:Srs L) (hg:∀y∈L,gd y) {t i:Int} {left:List Int} (h:Lf L Bo t (i::left)):Lf L Bo t (left++kids t i L):=by
 intro j hj
 rcases List.mem_append.1 hj with hj|hj
 ·exact h j (by simp [hj])
 ·obtain ⟨x,hx,rfl⟩:=List.mem_map.1 hj
  obtain ⟨h1,h2⟩:=List.mem_filter.1 hx
  rw [Bool.and_eq_true,decide_eq_true_eq,decide_eq_true_eq] at h2
  exact ⟨(hg x h1).2.1,.inl (by rw [(nx_iff hs).2 ⟨h1,h2.1,rfl⟩];rfl)⟩
theorem mu_old {L:List Sn} {LO:List (ByteArray × Int)} {t i:Int} {left:List Int}:mu L LO t left+1=mu L LO t (i::left):=by
 unfold mu;rw [List.length_cons];omega
theorem mu_new {L:List Sn} {LO:List (ByteArray × Int)} (hg:∀y∈L,gd y) {t i:Int} (ht:wf64 t) (hi:wf64 i) {left:List Int} (hk:hasL (key2 t i) LO=false):mu L (insL (key2 t i) t LO) t (left++kids t i L)+1=mu L LO t (i::left):=by
 have key:∀M:List Sn,(∀y∈M,gd y)→(M.filter (fun x=>decide (x.t=t)&& !hasL (key2 x.t x.p) (insL (key2 t i) t LO))).length+(ofP t i M).length=(M.filter (fun x=>decide (x.t=t)&& !hasL (key2 x.t x.p) LO)).length:=by
  intro M
  unfold ofP
  induction M with
  |nil=>intro _;rfl
  |cons x M ih=>
   intro hm
   have ih:=ih (fun y hy=>hm y (by simp [hy]))
   obtain ⟨g1,g2,g3⟩:=hm x (by simp)
   rw [List.filter_cons,List.filter_cons,List.filter_cons,hasL_ins,key_eq g1 g3 ht hi]
   by_cases e1:x.t=t
   ·by_cases e2:x.p=i
    ·rw [e1,e2,hk];simp;rw [e1] at *;omega
    ·cases hh:hasL (key2 x.t x.p) LO<;>simp [e1,e2]<;>first|omega| (rw [e1] at hh;simp [hh];omega)
   ·simp [e1];omega
 have:=key L hg
 unfold mu kids
 rw [List.length_append,List.length_cons,List.length_map]
 omega
theorem mu_le (L:List Sn) (LO:List (ByteArray × Int)) (t:Int) (left:List Int):left.length≤mu L LO t left∧mu L LO t left≤left.length+L.length:=by
 unfold mu
 have:=List.length_filter_le (fun x:Sn=>decide (x.t=t)&& !hasL (key2 x.t x.p) LO) L
 omega
def off (LO:List (ByteArray × Int)) (M:List (ByteArray × Pq)):List (ByteArray × Pq):=M.filter (fun q=> !hasL q.1 LO)
def wr (LO:List (ByteArray × Int)) (M:List (ByteArray × Pq)):List (ByteArray × Pq):=LO.map (fun q=>(q.1,(getL q.1 M).getD pz))
theorem off_nil (M:List (ByteArray × Pq)):off [] M=M:=List.filter_eq_self.2 (fun _ _=>rfl)
theorem off_srt {LO:List (ByteArray × Int)} {M:List (ByteArray × Pq)} (h:Srt M):Srt (off LO M):=List.Pairwise.filter _ h
theorem get_off (LO:List (ByteArray × Int)) (k:ByteArray):∀M:List (ByteArray × Pq),getL k (off LO M)=if hasL k LO=true then none else getL k M
 | []=>by simp [off,getL_nil]
 |q::M=>by
  have ih:=get_off LO k M
  unfold off at ih ⊢
  rw [List.filter_cons]
  cases hq:hasL q.1 LO with
  |true=>
   rw [if_neg (by simp),ih,getL_cons]
   by_cases e:sameK k q.1=true
   ·rw [sameK_iff.1 e,if_pos hq,if_pos hq]
   ·rw [if_neg e]
  |false=>
   rw [if_pos (by simp),getL_cons,ih,getL_cons]
   by_cases e:sameK k q.1=true
   ·rw [if_pos e,if_pos e,sameK_iff.1 e,hq,if_neg (by simp)]
   ·rw [if_neg e,if_neg e]
theorem off_ins {LO:List (ByteArray × Int)} {M:List (ByteArray × Pq)} (h:Srt M) (k:ByteArray) (v:Int):delL k (off LO M)=off (insL k v LO) M:=by
 refine srt_ext (srt_delL k (off_srt h)) (off_srt h) (fun z=>?_)
 rw [getL_del,get_off,get_off,hasL_ins]
 cases sameK z k<;>simp
theorem wr_srt {LO:List (ByteArray × Int)} {M:List (ByteArray × Pq)} (h:Srt LO):Srt (wr LO M):=by
 unfold wr Srt
 rw [List.pairwise_map]
 exact h
theorem get_wr (k:ByteArray) (M:List (ByteArray × Pq)):∀LO:List (ByteArray × Int),getL k (wr LO M)=if hasL k LO=true then some ((getL k M).getD pz) else none
 | []=>rfl
 |q::LO=>by
  have ih:=get_wr k M LO
  unfold wr at ih ⊢
  rw [List.map_cons,getL_cons,ih,hasL_cons]
  by_cases e:sameK k q.1=true
  ·rw [if_pos e,e,Bool.true_or,if_pos rfl,sameK_iff.1 e]
  ·rw [if_neg e];simp [e]
theorem wr_ins {LO:List (ByteArray × Int)} {M:List (ByteArray × Pq)} (h:Srt LO) (k:ByteArray) (v:Int):insL k ((getL k M).getD pz) (wr LO M)=wr (insL k v LO) M:=by
 refine srt_ext (srt_insL _ (wr_srt h)).1 (wr_srt (srt_insL v h).1) (fun z=>?_)
 rw [getL_ins,get_wr,get_wr,hasL_ins]
 by_cases e:sameK z k=true
 ·rw [if_pos e,e,Bool.true_or,if_pos rfl,sameK_iff.1 e]
 ·rw [if_neg e];simp [e]
def tch (k:ByteArray) (WE M:List (ByteArray × Pq)):List (ByteArray × Pq):=if (getL k WE).isSome then WE else insL k ((getL k M).getD pz) WE
theorem tch_new {LO:List (ByteArray × Int)} {M:List (ByteArray × Pq)} (h:Srt LO) {k:ByteArray} (hk:hasL k LO=false) (v:Int):tch k (wr LO M) (off LO M)=wr (insL k v LO) M:=by
 unfold tch
 rw [get_wr,get_off,hk,if_neg (by simp),if_neg (by simp),wr_ins h k v]
def next (L O I:List Sn):List Sn:=I.foldl (fun l x=>putK x l) (O.foldl (fun l x=>out x.t x.i l) L)
theorem outs_mem {y:Sn}:∀ {O L:List Sn},y∈O.foldl (fun l x=>out x.t x.i l) L↔y∈L∧∀x∈O,¬ (y.t=x.t∧y.i=x.i)
 | [],L=>by simp
 |x::O,L=>by
  rw [List.foldl_cons,outs_mem,out_mem]
  constructor
  ·rintro ⟨⟨h1,h2⟩,h3⟩
   refine ⟨h1,fun z hz=>?_⟩
   rcases List.mem_cons.1 hz with rfl|hz
   ·exact h2
   ·exact h3 z hz
  ·rintro ⟨h1,h2⟩
   exact ⟨⟨h1,h2 x (by simp)⟩,fun z hz=>h2 z (by simp [hz])⟩
theorem outs_srs:∀ {O L:List Sn},Srs L→Srs (O.foldl (fun l x=>out x.t x.i l) L)
 | [],_,h=>h
 |x::O,_,h=>outs_srs (O:=O) (out_srs (t:=x.t) (i:=x.i) h)
theorem outs_len:∀ (O L:List Sn),(O.foldl (fun l x=>out x.t x.i l) L).length≤L.length
 | [],_=>Nat.le_refl _
 |x::O,L=>Nat.le_trans (outs_len O (out x.t x.i L)) (out_len _ _ _)
theorem puts_srs:∀ {I L:List Sn},Srs L→Srs (I.foldl (fun l x=>putK x l) L)
 | [],_,h=>h
 |_x::I,_,h=>puts_srs (I:=I) (ins_srs h)
theorem puts_len:∀ (I:List Sn) {L:List Sn},Srs L→(I.foldl (fun l x=>putK x l) L).length≤L.length+I.length
 | [],_,_=>Nat.le_refl _
 |x::I,L,h=>by
  have h1:=puts_len I (L:=putK x L) (ins_srs h)
  have h2:=ins_len (sn x.t x.i x.p) h
  rw [List.foldl_cons,List.length_cons]
  unfold putK at h1 ⊢;omega
theorem puts_mem {y:Sn}:∀ {I L:List Sn},Srs I→Srs L→(y∈I.foldl (fun l x=>putK x l) L↔(∃x∈I,y=sn x.t x.i x.p)∨(y∈L∧∀x∈I,¬ (y.t=x.t∧y.i=x.i)))
 | [],L,_,_=>by simp
 |x::I,L,hi,hl=>by
  obtain ⟨i1,i2⟩:=List.pairwise_cons.1 hi
  rw [List.foldl_cons,puts_mem (I:=I) i2 (L:=putK x L) (ins_srs hl)]
  unfold putK
  rw [ins_mem hl]
  have hne:∀z∈I,¬ (x.t=z.t∧x.i=z.i):=fun z hz e=>by
   have:=bef_ne (i1 z hz)
   rw [one_iff.2 e] at this;cases this
  constructor
  ·rintro (⟨z,hz,rfl⟩| ⟨rfl| ⟨h1,h2⟩,h3⟩)
   ·exact .inl ⟨z,by simp [hz],rfl⟩
   ·exact .inl ⟨x,by simp,rfl⟩
   ·refine .inr ⟨h1,fun z hz=>?_⟩
    rcases List.mem_cons.1 hz with rfl|hz
    ·intro e
     rw [show one y (sn z.t z.i z.p)=true from one_iff.2 e] at h2;cases h2
    ·exact h3 z hz
  ·rintro (⟨z,hz,rfl⟩| ⟨h1,h2⟩)
   ·rcases List.mem_cons.1 hz with rfl|hz
    ·exact .inr ⟨.inl rfl,fun q hq=>hne q hq⟩
    ·exact .inl ⟨z,hz,rfl⟩
   ·refine .inr ⟨.inr ⟨h1,?_⟩,fun z hz=>h2 z (by simp [hz])⟩
    have:=h2 x (by simp)
    cases ho:one y (sn x.t x.i x.p) with
    |false=>rfl
    |true=>exact absurd (one_iff.1 ho) this
structure Dt (L O I:List Sn):Prop where
 s:Srs L
 g:∀y∈L,gd y
 b:∀y∈L,bare y
 so:Srs O
 si:Srs I
 go:∀x∈O,gd x
 gi:∀x∈I,gd x
 oo:∀x∈O,∃y∈L,y.t=x.t∧y.i=x.i∧y.p=x.p
 ii:∀x∈I,(nx L x.t x.i).isSome=true→∃z∈O,z.t=x.t∧z.i=x.i
section
variable {L O I:List Sn} {LO:List (ByteArray × Int)}
theorem next_srs (h:Dt L O I):Srs (next L O I):=puts_srs (outs_srs h.s)
theorem next_mem (h:Dt L O I) {y:Sn}:y∈next L O I↔(∃x∈I,y=sn x.t x.i x.p)∨(y∈L∧∀x∈O++I,¬ (y.t=x.t∧y.i=x.i)):=by
 unfold next
 rw [puts_mem h.si (outs_srs h.s),outs_mem]
 constructor
 ·rintro (e| ⟨⟨h1,h2⟩,h3⟩)
  ·exact .inl e
  ·exact .inr ⟨h1,fun x hx=>(List.mem_append.1 hx).elim (h2 x) (h3 x)⟩
 ·rintro (e| ⟨h1,h2⟩)
  ·exact .inl e
  ·exact .inr ⟨⟨h1,fun x hx=>h2 x (by simp [hx])⟩,fun x hx=>h2 x (by simp [hx])⟩
theorem next_gd (h:Dt L O I):∀y∈next L O I,gd y:=fun y hy=>by
 rcases (next_mem h).1 hy with ⟨x,hx,rfl⟩| ⟨h1,-⟩
 ·exact h.gi x hx
 ·exact h.g y h1
theorem next_len (h:Dt L O I):(next L O I).length≤L.length+I.length:=by
 have h1:=puts_len I (outs_srs (O:=O) h.s)
 have h2:=outs_len O L
 unfold next;omega
theorem next_nx (h:Dt L O I) {t i:Int} (hn:∀x∈O++I,¬ (x.t=t∧x.i=i)):nx (next L O I) t i=nx L t i:=by
 cases hx:nx L t i with
 |some x=>
  obtain ⟨h1,rfl,rfl⟩:=nx_some hx
  exact (nx_iff (next_srs h)).2 ⟨(next_mem h).2 (.inr ⟨h1,fun z hz e=>hn z hz ⟨e.1.symm,e.2.symm⟩⟩),rfl,rfl⟩
 |none=>
  refine (nx_none (next_srs h)).2 (fun y hy e=>?_)
  rcases (next_mem h).1 hy with ⟨z,hz,rfl⟩| ⟨h1,-⟩
  ·exact hn z (by simp [hz]) e
  ·exact (nx_none h.s).1 hx y h1 e
structure Ld (L O I:List Sn) (LO:List (ByteArray × Int)):Prop where
 lo:Lo L (O++I) LO
 cl:∀x∈L,hasL (key2 x.t x.p) LO=true→hasL (kk x) LO=true
 al:∀x∈O++I,hasL (kk x) LO=true
theorem Ld.nx (hd:Dt L O I) (h:Ld L O I LO) {t i:Int} (hk:hasL (key2 t i) LO=false):Cls.nx (next L O I) t i=Cls.nx L t i:=
 next_nx hd (fun x hx e=>by have:=h.al x hx;unfold kk at this;rw [e.1,e.2,hk] at this;cases this)
theorem Ld.dp (hd:Dt L O I) (h:Ld L O I LO) {t:Int}:∀ (n:Nat) {i:Int},hasL (key2 t i) LO=false→Cls.dp (next L O I) t n i=Cls.dp L t n i
 |0,_,_=>rfl
 |n+1,i,hk=>by
  rw [dp_succ,dp_succ,h.nx hd hk]
  cases hx:Cls.nx L t i with
  |none=>rfl
  |some x=>
   obtain ⟨h1,h2,h3⟩:=nx_some hx
   dsimp only
   rw [Ld.dp hd h n]
   cases hp:hasL (key2 t x.p) LO with
   |false=>rfl
   |true=>
    have:=h.cl x h1 (by rw [h2];exact hp)
    unfold kk at this
    rw [h2,h3,hk] at this;cases this
theorem Ld.T (hd:Dt L O I) (h:Ld L O I LO) {t i:Int} (hk:hasL (key2 t i) LO=false):Cls.T (next L O I) t i=Cls.T L t i:=by
 cases hT:Cls.T L t i with
 |some u=>exact T_of (n:=L.length+1) (by rw [h.dp hd _ hk];exact hT)
 |none=>
  cases hT2:Cls.T (next L O I) t i with
  |none=>rfl
  |some u=>
   have:Cls.T L t i=some u:=T_of (n:=(next L O I).length+1) (by rw [←h.dp hd _ hk];exact hT2)
   rw [hT] at this;cases this
theorem Ld.cdt (hd:Dt L O I) (h:Ld L O I LO) {y:Sn} (hk:hasL (kk y) LO=false):Cls.cdt (next L O I) y=Cls.cdt L y:=by
 unfold Cls.cdt;rw [h.T hd hk]
theorem Ld.mem (hd:Dt L O I) (h:Ld L O I LO) {y:Sn} (hk:hasL (kk y) LO=false):y∈next L O I↔y∈L:=by
 have e:=h.nx hd hk
 rw [←and_iff_left (a:=y∈next L O I) (⟨rfl,rfl⟩:y.t=y.t∧y.i=y.i),←nx_iff (next_srs hd),e,nx_iff hd.s,and_iff_left (⟨rfl,rfl⟩:y.t=y.t∧y.i=y.i)]
theorem fan_keep (hd:Dt L O I) {y:Sn} (hn:∀x∈O++I,¬ (x.t=y.t∧x.p=y.i)):fan (next L O I) y=fan L y:=by
 unfold fan
 congr 1
 refine srs_ext ((next_srs hd).filter _) (hd.s.filter _) (fun z=>?_)
 rw [List.mem_filter,List.mem_filter,Bool.and_eq_true,decide_eq_true_eq,decide_eq_true_eq,next_mem hd]
 constructor
 ·rintro ⟨⟨x,hx,rfl⟩| ⟨h1,-⟩,h2⟩
  ·exact absurd h2 (hn x (by simp [hx]))
  ·exact ⟨h1,h2⟩
 ·rintro ⟨h1,h2⟩
  refine ⟨.inr ⟨h1,fun x hx e=>?_⟩,h2⟩
  rcases List.mem_append.1 hx with ho|hi
  ·obtain ⟨q,hq,e1,e2,e3⟩:=hd.oo x ho
   have:=srs_uni hd.s h1 hq (one_iff.2 ⟨e.1.trans e1.symm,e.2.trans e2.symm⟩)
   subst this
   exact hn x hx ⟨e.1.symm.trans h2.1,e3.symm.trans h2.2⟩
  ·obtain ⟨q,hq,e1,e2⟩:=hd.ii x hi (by rw [(nx_iff hd.s).2 ⟨h1,e.1,e.2⟩];rfl)
   obtain ⟨r,hr,e3,e4,e5⟩:=hd.oo q hq
   have:=srs_uni hd.s h1 hr (one_iff.2 ⟨by rw [e3,e1];exact e.1,by rw [e4,e2];exact e.2⟩)
   subst this
   exact hn q (by simp [hq]) ⟨e3.symm.trans h2.1,e5.symm.trans h2.2⟩
end
end Drd
namespace Drd
open KeyP PackP SetP KidsP Cls
def pf (L L1:List Sn) (h:Int→Int→Bool) (y:Sn):Pq:=⟨y.t,y.i,(cdt L1 y).1,(cdt L1 y).2.1,(cdt L1 y).2.2,if h y.t y.i then ((fan L1 y:Nat):Int) else ((fan L y:Nat):Int)⟩
theorem pf_true {L L1:List Sn} {h:Int→Int→Bool} {y:Sn} (e:h y.t y.i=true):pf L L1 h y=plq L1 y:=by unfold pf plq;rw [if_pos e]
abbrev tri (u:Pq):Int × Int × Int:=(u.c,u.d,u.p)
theorem depth_ok {L:List Sn} (hs:Srs L) {y:Sn} (hy:y∈L):0≤(cdt L y).2.1∧(cdt L y).2.1≤L.length:=by
 obtain ⟨s,z,-,-,-,-,-,h1,h2⟩:=cdt_way hs hy
 exact ⟨h2,h1⟩
structure P3 (L L1:List Sn) (h:Int→Int→Bool) (M:List (ByteArray × Pq)):Prop where
 s:Srt M
 g:∀k v,getL k M=some v→∃y∈L1,k=kk y∧v=pf L L1 h y
section
variable {L L1:List Sn} {h:Int→Int→Bool} {M:List (ByteArray × Pq)}
theorem P3.at (H:P3 L L1 h M) (hs:Srs L1) (hg:∀y∈L1,gd y) {t i:Int} (ht:wf64 t) (hi:wf64 i) {v:Pq} (hv:getL (key2 t i) M=some v):∃y,nx L1 t i=some y∧v=pf L L1 h y:=by
 obtain ⟨y,hy,hk,rfl⟩:=H.g _ _ hv
 obtain ⟨e1,e2⟩:=key2_inj ht hi (hg y hy).1 (hg y hy).2.1 hk
 exact ⟨y,(nx_iff hs).2 ⟨hy,e1.symm,e2.symm⟩,rfl⟩
theorem P3.put (H:P3 L L1 h M) {y:Sn} (hy:y∈L1) (e:h y.t y.i=true):P3 L L1 h (insL (kk y) (plq L1 y) M):=by
 refine ⟨(srt_insL _ H.s).1,fun k v hv=>?_⟩
 rw [getL_ins] at hv
 by_cases e2:sameK k (kk y)=true
 ·rw [if_pos e2] at hv
  exact ⟨y,hy,sameK_iff.1 e2,by rw [pf_true e];exact (Option.some.inj hv).symm⟩
 ·rw [if_neg e2] at hv;exact H.g k v hv
def abq (L1:List Sn) (M:List (ByteArray × Pq)) (t last e:Int):Pq:=match getL (key2 t e) M with
 |some v=>v
 |none=>if (nx L1 t e).isSome then ⟨0,0,3,0,0,0⟩ else if e=0 then ⟨0,0,1,0,last,0⟩ else ⟨0,0,2,0,last,0⟩
def kn (M:List (ByteArray × Pq)) (t:Int) (i:Int):Bool:=(getL (key2 t i) M).isSome
theorem ab_low (H:P3 L L1 h M) (hs:Srs L1) (hg:∀y∈L1,gd y) {t i e:Int} (ht:wf64 t) (he0:wf64 e) {s:List Sn} {z:Sn} (hc:Ch L1 t i (s++ [z]) e)
  (he:nx L1 t e=none∨((nx L1 t e).isSome=true∧(kn M t e=true∨∃y∈s++ [z],y.i=e))):low3 (tri (abq L1 M t z.i e))=cdt L1 z:=by
 rw [last_cdt (K:=kn M t) hs hc he]
 have hp:=ch_last hc
 obtain ⟨hz,hzt,-⟩:=hc.mem z (by simp)
 congr 1
 unfold abq abv kn
 rw [hzt]
 cases hv:getL (key2 t e) M with
 |some v=>
  obtain ⟨y,hn,rfl⟩:=H.at hs hg ht he0 hv
  rw [hn];rfl
 |none=>
  cases hn:nx L1 t e with
  |some y=>rfl
  |none=>
   dsimp only
   rw [hp]
   by_cases h0:e=0<;>simp [h0]
theorem ab_d (H:P3 L L1 h M) (hs:Srs L1) (hg:∀y∈L1,gd y) {t e:Int} (ht:wf64 t) (he0:wf64 e) (last:Int):0≤(abq L1 M t last e).d∧(abq L1 M t last e).d≤L1.length:=by
 unfold abq
 cases hv:getL (key2 t e) M with
 |some v=>
  obtain ⟨y,hn,rfl⟩:=H.at hs hg ht he0 hv
  exact depth_ok hs (nx_some hn).1
 |none=>
  dsimp only
  split
  ·exact ⟨Int.le_refl 0,by show (0:Int)≤_;omega⟩
  ·split
   iterate 2 (· exact ⟨Int.le_refl 0,by show (0:Int)≤_;omega⟩)
def lowq (t i f:Int) (u:Pq):Pq:=⟨t,i,u.c,if u.c=3 then 0 else u.d+1,u.p,f⟩
theorem lowq_plq {y:Sn} {u:Pq} (e:low3 (tri u)=cdt L1 y):lowq y.t y.i ((fan L1 y:Nat):Int) u=plq L1 y:=by
 unfold lowq plq;rw [←e];rfl
theorem kids_fan (L1:List Sn) (y:Sn):(kids y.t y.i L1).length=fan L1 y:=by unfold kids fan ofP;rw [List.length_map]
theorem known_i (_hs:Srs L1) {M':List (ByteArray × Pq)} {t i e:Int} {s:List Sn} (hc:Ch L1 t i s e) (he:nx L1 t e=none∨((nx L1 t e).isSome=true∧(kn M t e=true∨∃y∈s,y.i=e))) (hk:∀z∈s,(getL (kk z) M').isSome=true) (hm:∀k,(getL k M).isSome=true→(getL k M').isSome=true) (hi:(nx L1 t i).isSome=true):kn M' t i=true:=by
 cases hc with
 |nil=>
  rcases he with he| ⟨-,he| ⟨y,hy,-⟩⟩
  ·rw [he] at hi;cases hi
  ·exact hm _ he
  ·cases hy
 | @cons _ _ x s' hx hcc=>
  obtain ⟨h1,h2,h3⟩:=nx_some hx
  have:=hk x (by simp)
  unfold kk at this
  unfold kn
  rwa [h2,h3] at this
def Full (L1:List Sn) (M:List (ByteArray × Pq)):Prop:=∀y∈L1,(getL (kk y) M).isSome=true
theorem P3.fin (H:P3 L L1 h M) (hs:Srs L1) (hg:∀y∈L1,gd y) (hf:Full L1 M) (he:∀y∈L1,h y.t y.i=false→fan L1 y=fan L y):M=pm L1:=by
 have hp:∀y∈L1,pf L L1 h y=plq L1 y:=fun y hy=>by
  cases e:h y.t y.i with
  |true=>exact pf_true e
  |false=>unfold pf plq;rw [e,he y hy e];rfl
 refine srt_ext H.s (srt_mp hs (fun y hy=>(hg y hy).gk)) (fun k=>?_)
 cases hv:getL k M with
 |some v=>
  obtain ⟨y,hy,rfl,rfl⟩:=H.g k v hv
  rw [hp y hy]
  exact (mem_getL (srt_mp hs (fun y hy=>(hg y hy).gk)) (List.mem_map.2 ⟨y,hy,rfl⟩)).symm
 |none=>
  cases hv2:getL k (pm L1) with
  |none=>rfl
  |some v=>
   obtain ⟨y,hy,e⟩:=List.mem_map.1 (getL_mem hv2)
   have:=hf y hy
   cases e
   rw [hv] at this;cases this
def upd (h:Int→Int→Bool) (t p:Int):Int→Int→Bool:=fun a b=>h a b||(decide (a=t)&&decide (b=p))
theorem P3.weak (H:P3 L L1 h M) (_hs:Srs L1) (hf:Full L1 M) {t p:Int} (hn:getL (key2 t p) M=none):P3 L L1 (upd h t p) M:=by
 refine ⟨H.s,fun k v hv=>?_⟩
 obtain ⟨y,hy,rfl,rfl⟩:=H.g k v hv
 refine ⟨y,hy,rfl,?_⟩
 have:(decide (y.t=t)&&decide (y.i=p))=false:=by
  cases e:(decide (y.t=t)&&decide (y.i=p)) with
  |false=>rfl
  |true=>
   rw [Bool.and_eq_true,decide_eq_true_eq,decide_eq_true_eq] at e
   have:=hf y hy
   unfold kk at this
   rw [e.1,e.2,hn] at this;cases this
 unfold pf upd
 rw [this,Bool.or_false]
theorem P3.cnt (H:P3 L L1 h M) (hs:Srs L1) (hg:∀y∈L1,gd y) {t p:Int} (ht:wf64 t) (hp:wf64 p) {v:Pq} (hv:getL (key2 t p) M=some v):
  P3 L L1 (upd h t p) (insL (key2 t p) { v with f:=((kids t p L1).length:Nat) } M):=by
 obtain ⟨y,hn,rfl⟩:=H.at hs hg ht hp hv
 obtain ⟨hy,rfl,rfl⟩:=nx_some hn
 refine ⟨(srt_insL _ H.s).1,fun k v hv=>?_⟩
 rw [getL_ins] at hv
 by_cases e2:sameK k (key2 y.t y.i)=true
 ·rw [if_pos e2] at hv
  refine ⟨y,hy,sameK_iff.1 e2,?_⟩
  rw [←Option.some.inj hv,kids_fan,pf_true (h:=upd h y.t y.i) (by unfold upd;simp)]
  rfl
 ·rw [if_neg e2] at hv
  obtain ⟨z,hz,rfl,rfl⟩:=H.g k v hv
  refine ⟨z,hz,rfl,?_⟩
  have:(decide (z.t=y.t)&&decide (z.i=y.i))=false:=by
   cases e:(decide (z.t=y.t)&&decide (z.i=y.i)) with
   |false=>rfl
   |true=>
    rw [Bool.and_eq_true,decide_eq_true_eq,decide_eq_true_eq] at e
    refine absurd (sameK_iff.2 ?_) e2
    unfold kk;rw [e.1,e.2]
  unfold pf upd
  rw [this,Bool.or_false]
theorem full_ins {k:ByteArray} {v:Pq} (hf:Full L1 M):Full L1 (insL k v M):=fun y hy=>by
 rw [getL_ins];split
 ·rfl
 ·exact hf y hy
end
structure W4 (M0 M WE:List (ByteArray × Pq)):Prop where
 s:Srt WE
 v:∀k v,getL k WE=some v→v=(getL k M0).getD pz
 c:∀k,getL k WE=none→getL k M=getL k M0
theorem W4.tch {M0 M WE:List (ByteArray × Pq)} (H:W4 M0 M WE) (k:ByteArray) (v:Pq):W4 M0 (insL k v M) (tch k WE M):=by
 unfold Drd.tch
 cases hk:getL k WE with
 |some u=>
  show W4 M0 (insL k v M) WE
  refine ⟨H.s,H.v,fun z hz=>?_⟩
  rw [getL_ins]
  by_cases e:sameK z k=true
  ·rw [sameK_iff.1 e,hk] at hz;cases hz
  ·rw [if_neg e];exact H.c z hz
 |none=>
  show W4 M0 (insL k v M) (insL k ((getL k M).getD pz) WE)
  refine ⟨(srt_insL _ H.s).1,fun z u hz=>?_,fun z hz=>?_⟩
  ·rw [getL_ins] at hz
   by_cases e:sameK z k=true
   ·rw [if_pos e] at hz;rw [←Option.some.inj hz,sameK_iff.1 e,H.c k hk]
   ·rw [if_neg e] at hz;exact H.v z u hz
  ·rw [getL_ins] at hz ⊢
   by_cases e:sameK z k=true
   ·rw [if_pos e] at hz;cases hz
   ·rw [if_neg e] at hz ⊢;exact H.c z hz
section
variable {L O I:List Sn} {LO:List (ByteArray × Int)} {M:List (ByteArray × Pq)}
abbrev hl (LO:List (ByteArray × Int)):Int→Int→Bool:=fun t i=>hasL (key2 t i) LO
theorem pm_srt (hs:Srs L) (hg:∀y∈L,gd y):Srt (pm L):=srt_mp hs (fun y hy=>(hg y hy).gk)
theorem P3.start (hd:Dt L O I) (h:Ld L O I LO):P3 L (next L O I) (hl LO) (off LO (pm L)):=by
 refine ⟨off_srt (pm_srt hd.s hd.g),fun k v hv=>?_⟩
 rw [get_off] at hv
 cases hk:hasL k LO with
 |true=>rw [hk,if_pos rfl] at hv;cases hv
 |false=>
  rw [hk,if_neg (by simp)] at hv
  obtain ⟨y,hy,e⟩:=List.mem_map.1 (getL_mem hv)
  cases e
  refine ⟨y,(h.mem hd hk).2 hy,rfl,?_⟩
  unfold pf plq hl
  rw [h.cdt hd hk,hk];rfl
theorem P3.kept (hd:Dt L O I) (h:Ld L O I LO) {y:Sn} (hy:y∈next L O I) (hk:hasL (kk y) LO=false):(getL (kk y) (off LO (pm L))).isSome=true:=by
 rw [get_off,hk,if_neg (by simp)]
 rw [get_pm hd.g (next_gd hd y hy).1 (next_gd hd y hy).2.1,nx_mem hd.s ((h.mem hd hk).1 hy)];rfl
theorem W4.start (hd:Dt L O I) (h:Ld L O I LO) (H:P3 L (next L O I) (hl LO) M) (hf:Full (next L O I) M):W4 (pm L) M (wr LO (pm L)):=by
 refine ⟨wr_srt h.lo.s,fun k v hv=>?_,fun k hk=>?_⟩
 ·rw [get_wr] at hv
  cases hl:hasL k LO with
  |true=>rw [hl,if_pos rfl] at hv;exact (Option.some.inj hv).symm
  |false=>rw [hl,if_neg (by simp)] at hv;cases hv
 ·rw [get_wr] at hk
  have hl:hasL k LO=false:=by
   cases hl:hasL k LO with
   |false=>rfl
   |true=>rw [hl,if_pos rfl] at hk;cases hk
  cases hv:getL k M with
  |some v=>
   obtain ⟨y,hy,rfl,rfl⟩:=H.g k v hv
   rw [get_pm hd.g (next_gd hd y hy).1 (next_gd hd y hy).2.1,nx_mem hd.s ((h.mem hd hl).1 hy)]
   show some (pf L (next L O I) (fun t i=>hasL (key2 t i) LO) y)=some (plq L y)
   unfold pf plq
   rw [h.cdt hd hl]
   simp [show hasL (key2 y.t y.i) LO=false from hl]
  |none=>
   cases hv2:getL k (pm L) with
   |none=>rfl
   |some v=>
    obtain ⟨y,hy,e⟩:=List.mem_map.1 (getL_mem hv2)
    cases e
    have:=hf y ((h.mem hd hl).2 hy)
    rw [hv] at this;cases this
def cnd (LO:List (ByteArray × Int)):List Sn→Int→Int→Bool
 | [],t,i=>hl LO t i
 |x::l,t,i=>upd (cnd LO l) x.t x.p t i
theorem cnd_mem {LO:List (ByteArray × Int)} {t i:Int}:∀ {l:List Sn},cnd LO l t i=false→∀x∈l,¬ (x.t=t∧x.p=i)
 | [],_=>by simp
 |y::l,h=>by
  have h':(cnd LO l t i||(decide (t=y.t)&&decide (i=y.p)))=false:=h
  rw [Bool.or_eq_false_iff] at h'
  intro x hx e
  rcases List.mem_cons.1 hx with rfl|hx
  ·rw [←e.1,←e.2] at h';simp at h'
  ·exact cnd_mem h'.1 x hx e
theorem P3.end (hd:Dt L O I) (H:P3 L (next L O I) (cnd LO (O++I).reverse) M) (hf:Full (next L O I) M):M=pm (next L O I):=
 H.fin (next_srs hd) (next_gd hd) hf (fun y hy e=>fan_keep hd (fun x hx=>cnd_mem e x (by simpa [or_comm] using hx)))
def shO (WE M:List (ByteArray × Pq)):List Pq:=(WE.filter (fun q=> !decide (q.2=(getL q.1 M).getD pz)&& !decide (q.2.c=0))).map (·.2)
def shI (WE M:List (ByteArray × Pq)):List Pq:=(WE.filter (fun q=> !decide (q.2=(getL q.1 M).getD pz)&& !decide (((getL q.1 M).getD pz).c=0))).map (fun q=>(getL q.1 M).getD pz)
def mvd (A B:List Sn):List Pq:=(A.filter (fun y=> !decide ((nx B y.t y.i).map (plq B)=some (plq A y)))).map (plq A)
theorem plq_c (A:List Sn) (y:Sn):(plq A y).c≠0:=by
 show (cdt A y).1≠0
 rcases cdt_cls (L:=A) y with h|h|h<;>omega
theorem mvd_eq {A B:List Sn} (_hsA:Srs A) (hgA:∀y∈A,gd y) (hgB:∀y∈B,gd y):mvd A B=((pm A).filter (fun q=> !decide (getL q.1 (pm B)=some q.2))).map (·.2):=by
 unfold mvd
 rw [List.filter_map,List.map_map]
 congr 1
 apply List.filter_congr
 intro y hy
 show _= !decide (getL (kk y) (pm B)=some (plq A y))
 rw [get_pm hgB (hgA y hy).1 (hgA y hy).2.1]
theorem getD_some {o:Option Pq} (h:(o.getD pz).c≠0):o=some (o.getD pz):=by
 cases o with
 |none=>exact absurd rfl h
 |some v=>rfl
theorem shO_eq {A B:List Sn} {WE:List (ByteArray × Pq)} (hsA:Srs A) (hgA:∀y∈A,gd y) (_hsB:Srs B) (hgB:∀y∈B,gd y) (H:W4 (pm A) (pm B) WE):shO WE (pm B)=mvd A B:=by
 rw [mvd_eq hsA hgA hgB]
 unfold shO
 congr 1
 refine srt_mem (List.Pairwise.filter _ H.s) (List.Pairwise.filter _ (pm_srt hsA hgA)) (fun q=>?_)
 rw [List.mem_filter,List.mem_filter,Bool.and_eq_true,Bool.not_eq_true',decide_eq_false_iff_not,Bool.not_eq_true',decide_eq_false_iff_not,Bool.not_eq_true',decide_eq_false_iff_not]
 constructor
 ·rintro ⟨h1,h2,h3⟩
  have hv:=H.v _ _ (mem_getL H.s h1)
  have hg:=getD_some (o:=getL q.1 (pm A)) (by rw [←hv];exact h3)
  refine ⟨getL_mem (k:=q.1) (v:=q.2) (by rw [hg,←hv]),fun e=>h2 ?_⟩
  rw [e];rfl
 ·rintro ⟨h1,h2⟩
  have hg:=mem_getL (pm_srt hsA hgA) h1
  have hc:q.2.c≠0:=by
   obtain ⟨y,-,e⟩:=List.mem_map.1 h1
   rw [←e];exact plq_c A y
  refine ⟨?_,fun e=>h2 ?_,hc⟩
  ·cases hw:getL q.1 WE with
   |some v=>
    have hv:=H.v _ _ hw
    rw [hg] at hv
    have:=getL_mem hw
    rw [show v=q.2 from hv] at this
    exact this
   |none=>exact absurd ((H.c _ hw).trans hg) h2
  ·rw [e] at hc
   rw [getD_some hc,←e]
theorem shI_eq {A B:List Sn} {WE:List (ByteArray × Pq)} (_hsA:Srs A) (hgA:∀y∈A,gd y) (hsB:Srs B) (hgB:∀y∈B,gd y) (H:W4 (pm A) (pm B) WE):shI WE (pm B)=mvd B A:=by
 rw [mvd_eq hsB hgB hgA]
 unfold shI
 have e1:(WE.filter (fun q=> !decide (q.2=(getL q.1 (pm B)).getD pz)&& !decide (((getL q.1 (pm B)).getD pz).c=0))).map (fun q=>(getL q.1 (pm B)).getD pz)=((WE.filter (fun q=> !decide (q.2=(getL q.1 (pm B)).getD pz)&& !decide (((getL q.1 (pm B)).getD pz).c=0))).map (fun q=>(q.1,(getL q.1 (pm B)).getD pz))).map (·.2):=by rw [List.map_map];rfl
 rw [e1]
 congr 1
 refine srt_mem ?_ (List.Pairwise.filter _ (pm_srt hsB hgB)) (fun q=>?_)
 ·unfold Srt
  rw [List.pairwise_map]
  exact List.Pairwise.filter _ H.s
 rw [List.mem_map,List.mem_filter,Bool.not_eq_true',decide_eq_false_iff_not]
 constructor
 ·rintro ⟨r,hr,rfl⟩
  obtain ⟨h1,h2⟩:=List.mem_filter.1 hr
  rw [Bool.and_eq_true,Bool.not_eq_true',decide_eq_false_iff_not,Bool.not_eq_true',decide_eq_false_iff_not] at h2
  have hv:=H.v _ _ (mem_getL H.s h1)
  have hg:=getD_some h2.2
  refine ⟨getL_mem (k:=r.1) hg,fun e=>h2.1 ?_⟩
  rw [hv,e];rfl
 ·rintro ⟨h1,h2⟩
  have hg:=mem_getL (pm_srt hsB hgB) h1
  have hc:q.2.c≠0:=by
   obtain ⟨y,-,e⟩:=List.mem_map.1 h1
   rw [←e];exact plq_c B y
  cases hw:getL q.1 WE with
  |none=>exact absurd ((H.c _ hw).symm.trans hg) h2
  |some v=>
   have hv:=H.v _ _ hw
   refine ⟨(q.1,v),List.mem_filter.2 ⟨getL_mem hw,?_⟩,?_⟩
   ·dsimp only
    rw [hg]
    show (!decide (v=q.2)&& !decide (q.2.c=0))=true
    rw [Bool.and_eq_true,Bool.not_eq_true',decide_eq_false_iff_not,Bool.not_eq_true',decide_eq_false_iff_not]
    refine ⟨fun e=>h2 ?_,hc⟩
    rw [e] at hv
    rw [hv] at hc ⊢
    exact getD_some hc
   ·dsimp only;rw [hg];rfl
def siz (L Bo:List Sn):Nat:=(L.filter (fun y=>Bo.any (fun x=>decide (x.t=y.t)))).length
theorem keys_nodup {A:List Sn} (hs:Srs A) (hg:∀y∈A,gd y):(A.map kk).Nodup:=by
 rw [List.nodup_iff_pairwise_ne,List.pairwise_map]
 refine hs.imp_of_mem (fun {a b} ha hb hab e=>?_)
 have:=lt_kk (hg a ha).gk (hg b hb).gk
 rw [e,Ord.irr,hab] at this;cases this
theorem fst_nodup {κ ν:Type} [Ord κ] {A:List (κ × ν)} (h:Srt A):(A.map (·.1)).Nodup:=by
 rw [List.nodup_iff_pairwise_ne,List.pairwise_map]
 refine List.Pairwise.imp (fun {a b} hab e=>?_) h
 rw [e,Ord.irr] at hab;cases hab
theorem tou {Bo:List Sn} {y:Sn}:Bo.any (fun x=>decide (x.t=y.t))=true↔ ∃x∈Bo,x.t=y.t:=by simp
theorem lo_len (hd:Dt L O I) (h:Ld L O I LO):LO.length≤siz L (O++I)+siz (next L O I) (O++I):=by
 have:=sub_len' (r:=LO.map (·.1)) (L:=(L.filter (fun y=>(O++I).any (fun x=>decide (x.t=y.t)))).map kk++((next L O I).filter (fun y=>(O++I).any (fun x=>decide (x.t=y.t)))).map kk) (fst_nodup h.lo.s) (fun k hk=>by
  obtain ⟨q,hq,rfl⟩:=List.mem_map.1 hk
  obtain ⟨i,h1,h2,h3,h4,h5⟩:=h.lo.m q hq
  have fromL:∀y∈L,y.t=q.2→y.i=i→q.1∈(L.filter (fun y=>(O++I).any (fun x=>decide (x.t=y.t)))).map kk:=fun y hy e1 e2=>
   List.mem_map.2 ⟨y,List.mem_filter.2 ⟨hy,tou.2 (by rw [e1];exact h4)⟩,by unfold kk;rw [e1,e2,h3]⟩
  rw [List.mem_append]
  rcases h5 with h5| ⟨x,hx,e1,e2⟩
  ·obtain ⟨y,hy⟩:=Option.isSome_iff_exists.1 h5
   obtain ⟨k1,k2,k3⟩:=nx_some hy
   exact .inl (fromL y k1 k2 k3)
  ·rcases List.mem_append.1 hx with ho|hi
   ·obtain ⟨y,hy,k1,k2,-⟩:=hd.oo x ho
    exact .inl (fromL y hy (k1.trans e1) (k2.trans e2))
   ·refine .inr (List.mem_map.2 ⟨sn x.t x.i x.p,List.mem_filter.2 ⟨(next_mem hd).2 (.inl ⟨x,hi,rfl⟩),tou.2 ⟨x,hx,rfl⟩⟩,?_⟩)
    show key2 x.t x.i=_
    rw [e1,e2,h3])
 rw [List.length_append,List.length_map,List.length_map,List.length_map] at this
 exact this
theorem out_le (hd:Dt L O I):O.length≤siz L (O++I):=by
 have:=sub_len' (r:=O.map kk) (L:=(L.filter (fun y=>(O++I).any (fun x=>decide (x.t=y.t)))).map kk) (keys_nodup hd.so hd.go) (fun k hk=>by
  obtain ⟨x,hx,rfl⟩:=List.mem_map.1 hk
  obtain ⟨y,hy,k1,k2,-⟩:=hd.oo x hx
  exact List.mem_map.2 ⟨y,List.mem_filter.2 ⟨hy,tou.2 ⟨x,by simp [hx],k1.symm⟩⟩,by unfold kk;rw [k1,k2]⟩)
 rw [List.length_map,List.length_map] at this
 exact this
theorem in_le (hd:Dt L O I):I.length≤siz (next L O I) (O++I):=by
 have:=sub_len' (r:=I.map kk) (L:=((next L O I).filter (fun y=>(O++I).any (fun x=>decide (x.t=y.t)))).map kk) (keys_nodup hd.si hd.gi) (fun k hk=>by
  obtain ⟨x,hx,rfl⟩:=List.mem_map.1 hk
  exact List.mem_map.2 ⟨sn x.t x.i x.p,List.mem_filter.2 ⟨(next_mem hd).2 (.inl ⟨x,hx,rfl⟩),tou.2 ⟨x,by simp [hx],rfl⟩⟩,rfl⟩)
 rw [List.length_map,List.length_map] at this
 exact this
theorem split_len {α:Type} (p:α→Bool) (l:List α):l.length=(l.filter p).length+(l.filter (fun x=> !p x)).length:=by
 induction l with
 |nil=>rfl
 |cons a l ih=>rw [List.filter_cons,List.filter_cons,List.length_cons,ih];cases p a<;>simp<;>omega
theorem found_len {h:Int→Int→Bool} (hd:Dt L O I) (hL:Ld L O I LO) (H:P3 L (next L O I) h M):M.length≤(off LO (pm L)).length+siz (next L O I) (O++I):=by
 have h1:=sub_len' (r:=M.map (·.1)) (L:=(next L O I).map kk) (fst_nodup H.s) (fun k hk=>by
  obtain ⟨q,hq,rfl⟩:=List.mem_map.1 hk
  obtain ⟨y,hy,e,-⟩:=H.g _ _ (mem_getL H.s hq)
  exact List.mem_map.2 ⟨y,hy,e.symm⟩)
 have h2:=sub_len' (r:=((next L O I).filter (fun y=> !hasL (kk y) LO)).map kk) (L:=(off LO (pm L)).map (·.1)) (keys_nodup ((next_srs hd).filter _) (fun y hy=>next_gd hd y (List.mem_filter.1 hy).1)) (fun k hk=>by
  obtain ⟨y,hy,rfl⟩:=List.mem_map.1 hk
  obtain ⟨h1,h2⟩:=List.mem_filter.1 hy
  have h3:hasL (kk y) LO=false:=by simpa using h2
  obtain ⟨v,hv⟩:=Option.isSome_iff_exists.1 (P3.kept hd hL h1 h3)
  exact List.mem_map.2 ⟨(kk y,v),getL_mem hv,rfl⟩)
 have h3:((next L O I).filter (fun y=>hasL (kk y) LO)).length≤siz (next L O I) (O++I):=by
  unfold siz
  have:=sub_len' (r:=(next L O I).filter (fun y=>hasL (kk y) LO)) (L:=(next L O I).filter (fun y=>(O++I).any (fun x=>decide (x.t=y.t)))) (srs_nodup ((next_srs hd).filter _)) (fun y hy=>by
   obtain ⟨k1,k2⟩:=List.mem_filter.1 hy
   refine List.mem_filter.2 ⟨k1,tou.2 ?_⟩
   obtain ⟨q,hq,e⟩:=ExpP.hasL_mem.1 k2
   obtain ⟨i,g1,g2,g3,g4,-⟩:=hL.lo.m q hq
   have:=key2_inj (next_gd hd y k1).1 (next_gd hd y k1).2.1 g1 g2 (e.symm.trans g3)
   rw [this.1];exact g4)
  exact this
 rw [List.length_map,List.length_map] at h1 h2
 have h4:=split_len (fun y=>hasL (kk y) LO) (next L O I)
 omega
theorem steps_ok {h:Int→Int→Bool} (hd:Dt L O I) (hL:Ld L O I LO) (H:P3 L (next L O I) h M) {n f:Nat} (hf:f≤LO.length) (hn:n+(off LO (pm L)).length=LO.length+f+M.length+(O++I).length):n≤4*(siz L (O++I)+siz (next L O I) (O++I)):=by
 have h1:=found_len hd hL H
 have h2:=lo_len hd hL
 have h3:=out_le hd
 have h4:=in_le hd
 rw [List.length_append] at hn
 omega
end
end Drd
end Go.Proofs.YtgfjpnpbkkadpaaGreat
