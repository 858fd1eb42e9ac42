/- A region that draws its order, walked along one schedule that stands for all: what reads only cells that are held (S) is taken as soon as it may come; a call, a store or the like is run where nothing else may come. No program is named. -/
import Derived.Test.YtdpngmgaomghoaaGreatDoorBase
import Derived.Deep.RegionHeld
import Derived.RangeFuncCalls
import Derived.OrdersIn
import Derived.Maps.AppendAt
namespace Go.Proofs.YtdpngmgaomghoaaGreatDoor
open Go.RowKit
namespace Eng
def UP (a0:Act):List (Nat × Value)→Act
 | []=>a0
 |p::us=>(UP a0 us).put (some p.1) p.2
def getO (us:List (Nat × Value)) (k:Nat):Option Value:=(us.find? (fun p=>p.1==k)).map (·.2)
def ev (b:Nat→Value) (us:List (Nat × Value)):Operand→Value
 | .tmp t=>(getO us t).getD (b t)
 | .const v=>v
 | .global g=>.pointer (some ⟨g,0,none⟩)
 | .func f=>.func (.func f) #[] #[]
def fits (n:Nat) (us:List (Nat × Value)):Bool:=us.all (fun p=>decide (p.1<n))
def boolOf:Value→Option Bool
 | .bool b=>some b
 |_=>none
def want3 (ops:Array Oper) (us:List (Nat × Value)) (o:Oper):Option Bool:=
 match o.guard with
 |none=>some true
 |some (j,q)=>match (ops[j]?).bind (·.dst) with
  |none=>none
  |some d=>match getO us d with
   |none=>none
   |some v=>some (boolOf v==some q)
theorem getO_nil (k:Nat):getO [] k=none:=rfl
theorem getO_cons (p:Nat × Value) (us:List (Nat × Value)) (k:Nat):getO (p::us) k=if p.1=k then some p.2 else getO us k:=by
 unfold getO
 rw [List.find?_cons]
 by_cases h:p.1=k
 ·simp [h]
 ·have:(p.1==k)=false:=by simp [h]
  rw [this,if_neg h]
theorem UP_size (a0:Act):∀us:List (Nat × Value),(UP a0 us).tmps.size=a0.tmps.size
 | []=>rfl
 |p::us=>by simp [UP,Act.put,UP_size a0 us]
theorem UP_get {a0:Act} {n:Nat} (hn:a0.tmps.size=n) (k:Nat):∀us:List (Nat × Value),fits n us=true→(UP a0 us).tmps[k]? =match getO us k with|some v=>some v|none=>a0.tmps[k]?
 | [],_=>rfl
 |p::us,h=>by
  simp only [fits,List.all_cons,Bool.and_eq_true,decide_eq_true_eq] at h
  have ih:=UP_get hn k us h.2
  simp only [UP,Act.put,Array.getElem?_setIfInBounds,getO_cons]
  by_cases e:p.1=k
  ·subst e
   simp [UP_size,hn,h.1]
  ·simp [e,ih]
theorem UP_eval {a0:Act} {n:Nat} (hn:a0.tmps.size=n) {b:Nat→Value} (hb:∀k,a0.tmps.getD k undef=b k) {us:List (Nat × Value)} (h:fits n us=true):(UP a0 us).eval=ev b us:=by
 funext x
 cases x with
 |tmp t=>
  have:=UP_get hn t us h
  simp only [Act.eval,ev,Array.getD_eq_getD_getElem?,this,←hb]
  cases getO us t<;>rfl
 |const v=>rfl
 |global g=>rfl
 |func f=>rfl
theorem wanted_of {a0:Act} {n:Nat} (hn:a0.tmps.size=n) {ops:Array Oper} {us:List (Nat × Value)} (h:fits n us=true) {o:Oper} {q:Bool} (hw:want3 ops us o=some q):Region.wanted o (yielded ops (UP a0 us).tmps)=q:=by
 unfold want3 at hw
 unfold Region.wanted
 cases hg:o.guard with
 |none=>rw [hg] at hw;simpa using hw
 |some p=>
  obtain ⟨j,r⟩:=p
  rw [hg] at hw
  dsimp only at hw ⊢
  cases hd:(ops[j]?).bind (·.dst) with
  |none=>rw [hd] at hw;cases hw
  |some d=>
   rw [hd] at hw
   dsimp only at hw
   have hu:=UP_get hn d us h
   cases hv:getO us d with
   |none=>rw [hv] at hw;cases hw
   |some v=>
    rw [hv] at hu hw
    dsimp only at hu hw
    have hy:yielded ops (UP a0 us).tmps j=boolOf v:=by
     unfold yielded
     rw [hd]
     simp only [Option.bind_some]
     rw [hu]
     unfold boolOf
     cases v<;>rfl
    rw [hy]
    simpa using hw
def okB (ops:Array Oper):List (Nat × Bool)→Array Bool→Bool
 | [],listed=>(Region.ready .any ops listed).isEmpty
 | (i,true)::t,listed=>Region.free .any ops listed i&&(Region.ready .any ops listed).contains i&&okB ops t (listed.setIfInBounds i true)
 | (i,false)::t,listed=>decide (Region.ready .any ops listed= [i])&&okB ops t (listed.setIfInBounds i true)
def afterM (o:Oper) (m:Nat):Bool:=o.after.all (fun e=> !Region.binds .any e||m.testBit e.on)
def freeM (ops:Array Oper) (i:Nat) (oi:Oper) (m:Nat):Nat→List Oper→Bool
 |_,[]=>true
 |j,oj::t=>(j==i||m.testBit j||(oj.after.any (fun e=>Region.binds .any e&&e.on==i)||oi.apart ops oj))&&freeM ops i oi m (j+1) t
def loneM (i m:Nat):Nat→List Oper→Bool
 |_,[]=>true
 |j,oj::t=>(j==i||m.testBit j|| !afterM oj m)&&loneM i m (j+1) t
def okM (ops:Array Oper):List (Nat × Bool)→Nat→Bool
 | [],m=>m==2 ^ ops.size-1
 | (i,q)::t,m=>(match ops[i]? with
   |none=>false
   |some o=> !m.testBit i&&afterM o m&&(if q then freeM ops i o m 0 ops.toList else loneM i m 0 ops.toList))&&okM ops t (m|||1<<<i)
def RelM (n m:Nat) (listed:Array Bool):Prop:=listed.size=n∧(∀j,j<n→listed.getD j true=m.testBit j∧listed.getD j false=m.testBit j)∧∀j,n≤j→m.testBit j=false
theorem RelM.set {n m:Nat} {listed:Array Bool} (h:RelM n m listed) {i:Nat} (hi:i<n):RelM n (m|||1<<<i) (listed.setIfInBounds i true):=by
 obtain ⟨h1,h2,h3⟩:=h
 refine ⟨by simp [h1],fun j hj=>?_,fun j hj=>?_⟩
 ·have:=h2 j hj
  have ht:(m|||1<<<i).testBit j=(m.testBit j||decide (i=j)):=by
   rw [Nat.testBit_or,Nat.one_shiftLeft,Nat.testBit_two_pow]
  rw [ht]
  by_cases e:i=j
  ·subst e;simp [Array.getD_eq_getD_getElem?,h1,hi]
  ·simp only [Array.getD_eq_getD_getElem?,Array.getElem?_setIfInBounds,if_neg e] at this ⊢
   rw [this.1,this.2];simp [e]
 ·rw [Nat.testBit_or,Nat.one_shiftLeft,Nat.testBit_two_pow,h3 j hj];simp;omega
theorem filter_range_one (p:Nat→Bool):∀ (n i:Nat),i<n→p i=true→(∀j,j<n→j≠i→p j=false)→(List.range n).filter p= [i]
 |0,_,h,_,_=>by omega
 |n+1,i,h,hp,hn=>by
  rw [List.range_succ,List.filter_append]
  by_cases e:i=n
  ·subst e
   have:(List.range i).filter p= []:=by
    rw [List.filter_eq_nil_iff];intro j hj;rw [List.mem_range] at hj;rw [hn j (by omega) (by omega)];simp
   rw [this];simp [hp]
  ·rw [filter_range_one p n i (by omega) hp (fun j hj hji=>hn j (by omega) hji)]
   simp [hn n (by omega) (by omega)]
theorem freeM_all {ops:Array Oper} {i:Nat} {oi:Oper} {m:Nat}:∀ (l:List Oper) (k:Nat),freeM ops i oi m k l=true→∀j oj,l[j]? =some oj→(k+j==i||m.testBit (k+j)||(oj.after.any (fun e=>Region.binds .any e&&e.on==i)||oi.apart ops oj))=true
 | [],_,_,j,_,h=>by simp at h
 |o::t,k,h,0,oj,hj=>by simp at hj;subst hj;simp only [freeM,Bool.and_eq_true] at h;exact h.1
 |o::t,k,h,j+1,oj,hj=>by
  simp only [freeM,Bool.and_eq_true] at h
  have:=freeM_all t (k+1) h.2 j oj (by simpa using hj)
  rwa [show k+(j+1)=k+1+j by omega]
theorem loneM_all {i m:Nat}:∀ (l:List Oper) (k:Nat),loneM i m k l=true→∀j oj,l[j]? =some oj→(k+j==i||m.testBit (k+j)|| !afterM oj m)=true
 | [],_,_,j,_,h=>by simp at h
 |o::t,k,h,0,oj,hj=>by simp at hj;subst hj;simp only [loneM,Bool.and_eq_true] at h;exact h.1
 |o::t,k,h,j+1,oj,hj=>by
  simp only [loneM,Bool.and_eq_true] at h
  have:=loneM_all t (k+1) h.2 j oj (by simpa using hj)
  rwa [show k+(j+1)=k+1+j by omega]
theorem after_eq {n m:Nat} {listed:Array Bool} (h:RelM n m listed) (o:Oper):(o.after.all fun e=> !Region.binds .any e||listed.getD e.on false)=afterM o m:=by
 unfold afterM
 congr 1
 funext e
 rcases Nat.lt_or_ge e.on n with h'|h'
 ·rw [(h.2.1 _ h').2]
 ·rw [h.2.2 _ h',Array.getD_eq_getD_getElem?,Array.getElem?_eq_none (by rw [h.1];exact h')];rfl
theorem okB_of_okM {ops:Array Oper}:∀ (t:List (Nat × Bool)) (m:Nat) (listed:Array Bool),RelM ops.size m listed→okM ops t m=true→okB ops t listed=true
 | [],m,listed,hr,h=>by
  simp only [okM,beq_iff_eq] at h
  simp only [okB,List.isEmpty_iff,Region.ready,List.filter_eq_nil_iff]
  intro j hj
  rw [List.mem_range] at hj
  rw [(hr.2.1 j hj).1,h,Nat.testBit_two_pow_sub_one]
  simp [hj]
 | (i,q)::t,m,listed,hr,h=>by
  simp only [okM,Bool.and_eq_true] at h
  obtain ⟨h1,h2⟩:=h
  cases ho:ops[i]? with
  |none=>rw [ho] at h1;cases h1
  |some o=>
   rw [ho] at h1
   simp only [Bool.and_eq_true,Bool.not_eq_true'] at h1
   obtain ⟨⟨hi1,hi2⟩,hi3⟩:=h1
   have hin:i<ops.size:=(Array.getElem?_eq_some_iff.1 ho).1
   have ih:=okB_of_okM t _ _ (hr.set hin) h2
   have hri:(!listed.getD i true&&((ops[i]?).map (·.after.all fun e=> !Region.binds .any e||listed.getD e.on false)).getD false)=true:=by
    rw [(hr.2.1 i hin).1,hi1,ho]
    simp only [Option.map_some,Option.getD_some,Bool.not_false,Bool.true_and]
    rw [after_eq hr];exact hi2
   cases q with
   |true=>
    simp only [okB,Bool.and_eq_true]
    rw [if_pos rfl] at hi3
    refine ⟨⟨?_,?_⟩,ih⟩
    ·unfold Region.free
     rw [ho]
     simp only [List.all_eq_true,List.mem_range]
     intro j hj
     have:=freeM_all _ _ hi3 j ops[j] (by simp [hj])
     rw [Nat.zero_add] at this
     rw [(hr.2.1 j hj).1,Array.getElem?_eq_getElem hj]
     exact this
    ·rw [List.contains_iff_mem,Region.ready,List.mem_filter]
     exact ⟨List.mem_range.2 hin,hri⟩
   |false=>
    simp only [okB,Bool.and_eq_true,decide_eq_true_eq]
    rw [if_neg (by simp)] at hi3
    refine ⟨filter_range_one _ _ _ hin hri (fun j hj hji=>?_),ih⟩
    have:=loneM_all _ _ hi3 j ops[j] (by simp [hj])
    rw [Nat.zero_add] at this
    rw [(hr.2.1 j hj).1,Array.getElem?_eq_getElem hj]
    simp only [Option.map_some,Option.getD_some]
    rw [after_eq hr]
    cases hm:m.testBit j with
    |true=>simp
    |false=>simp [hm,hji] at this;simp [this]
theorem RelM.start (n:Nat):RelM n 0 (Array.replicate n false):=by
 refine ⟨by simp,fun j hj=>?_,fun j _=>by simp⟩
 simp [Array.getD_eq_getD_getElem?,hj]
variable {P:Program} {ops:Array Oper} {Q:Exit→Act→World→Prop} {S:World→Prop} {b:Nat→Value} {a0:Act} {n:Nat}
def Sch (P:Program) (ops:Array Oper) (Q:Exit→Act→World→Prop) (S:World→Prop) (b:Nat→Value) (a0:Act) (n:Nat):List (Nat × Bool)→List (Nat × Value)→World→Prop
 | [],us,w=>Q .normal (UP a0 us) w
 | (i,true)::t,us,w=>∃o d v,ops[i]? =some o∧o.dst=some d∧d<n∧
   ((want3 ops us o=some true∧∀w',S w'→(execOp (ev b us) o).run P w'=.ok (.value v) w')∨(want3 ops us o=some false∧v=undef))∧Sch P ops Q S b a0 n t ((d,v)::us) w
 | (i,false)::t,us,w=>∃o,ops[i]? =some o∧want3 ops us o=some true∧
   ∀K:Option Value→World→Prop,(∀v w',S w'→(match o.dst with|some d=>d<n∧Sch P ops Q S b a0 n t ((d,v)::us) w'|none=>Sch P ops Q S b a0 n t us w')→K (some v) w')→
    match (execOp (ev b us) o).run P w with
    | .ok (.value v) w'=>K (some v) w'
    | .ok (.enter f args) w'=>Calls P f args w' fun e w''=>∃v,e=.returned v∧K (some v) w''
    | .ok .skip w'=>K (some undef) w'
    |_=>False
theorem Sch.sound (hn:a0.tmps.size=n) (hb:∀k,a0.tmps.getD k undef=b k) (hsel:Region.noSelect ops=true) (hQ:∀c (a:Act) (d:Nat) (v:Value) w,Q (.panic c) (a.put (some d) v) w→Q (.panic c) a w):
  ∀ (t:List (Nat × Bool)) (us:List (Nat × Value)) (listed:Array Bool) (fuel:Nat) (w:World),t.length≤fuel→fits n us=true→okB ops t listed=true→S w→Sch P ops Q S b a0 n t us w→
   wpAnyH P .any ops Q S fuel listed (UP a0 us) w
 | [],us,listed,fuel,w,_,_,hok,_,h=>by
  simp only [okB,List.isEmpty_iff] at hok
  exact wpAnyH_done hok h fuel
 | (i,true)::t,us,listed,0,w,hl,_,_,_,_=>by simp at hl
 | (i,true)::t,us,listed,fuel+1,w,hl,hf,hok,hS,h=>by
  simp only [okB,Bool.and_eq_true] at hok
  obtain ⟨o,d,v,ho,hd,hdn,hy,h⟩:=h
  refine wpAnyH_take (i:=i) (v:=v) ho hsel hok.1.1 hok.1.2 (fun c a w hq=>by rw [hd] at hq;exact hQ _ _ _ _ _ hq) ?_ hS ?_
  ·rcases hy with ⟨h1,h2⟩| ⟨h1,h2⟩
   ·exact .inl ⟨wanted_of hn hf h1,fun w' hw'=>by rw [UP_eval hn hb hf];exact h2 w' hw'⟩
   ·exact .inr ⟨wanted_of hn hf h1,h2⟩
  ·have:=Sch.sound hn hb hsel hQ t ((d,v)::us) (listed.setIfInBounds i true) fuel w (by simpa using hl) (by simp only [fits,List.all_cons,Bool.and_eq_true,decide_eq_true_eq];exact ⟨hdn,hf⟩) hok.2 hS h
   rw [hd];exact this
 | (i,false)::t,us,listed,0,w,hl,_,_,_,_=>by simp at hl
 | (i,false)::t,us,listed,fuel+1,w,hl,hf,hok,hS,h=>by
  simp only [okB,Bool.and_eq_true,decide_eq_true_eq] at hok
  obtain ⟨o,ho,hw,h⟩:=h
  refine wpAnyH_ready hok.1 (by simp) ?_
  refine AllReadyH.cons ho (fun K hK=>?_) AllReadyH.nil
  rw [if_pos (wanted_of hn hf hw)]
  have hstep:∀v w',S w'→(match o.dst with|some d=>d<n∧Sch P ops Q S b a0 n t ((d,v)::us) w'|none=>Sch P ops Q S b a0 n t us w')→K ((UP a0 us).put o.dst v) w':=by
   intro v w' hS' hs
   refine hK.out _ _ hS' (fun _=>?_)
   cases hd:o.dst with
   |none=>
    rw [hd] at hs
    exact Sch.sound hn hb hsel hQ t us (listed.setIfInBounds i true) fuel w' (by simpa using hl) hf hok.2 hS' hs
   |some d=>
    rw [hd] at hs
    exact Sch.sound hn hb hsel hQ t ((d,v)::us) (listed.setIfInBounds i true) fuel w' (by simpa using hl) (by simp only [fits,List.all_cons,Bool.and_eq_true,decide_eq_true_eq];exact ⟨hs.1,hf⟩) hok.2 hS' hs.2
  have h':=h (fun v w'=>K ((UP a0 us).put o.dst (v.getD undef)) w') hstep
  unfold Oper.wp
  rw [UP_eval hn hb hf]
  generalize (execOp (ev b us) o).run P w=r at h'
  match r,h' with
  | .ok (.value v) w',h'=>exact h'
  | .ok .skip w',h'=>exact h'
  | .ok (.enter f args) w',h'=>
   refine Calls.mono h' ?_
   rintro e w'' ⟨v,rfl,hk⟩
   exact hk
theorem region (sch:List (Nat × Bool)) (S:World→Prop) {id:Nat} {w:World} (hm:P.follows .mixedOrders=true) (n:Nat) (hn:a0.tmps.size=n) (b:Nat→Value) (hb:∀k,a0.tmps.getD k undef=b k) (hsel:Region.noSelect ops=true)
  (hQ:∀c (a:Act) (d:Nat) (v:Value) w,Q (.panic c) (a.put (some d) v) w→Q (.panic c) a w) (hl:sch.length=ops.size) (hok:okB ops sch (Array.replicate ops.size false)=true) (hS:S w.drew) (h:Sch P ops Q S b a0 n sch [] w.drew):(Code.region id ops true).wp P Q a0 w:=
 wp_region_held_drew (S:=S) hm hS (fun hS=>Sch.sound hn hb hsel hQ sch [] _ _ _ (by omega) rfl hok hS h)
theorem region' (sch:List (Nat × Bool)) (S:World→Prop) {id:Nat} {w:World} (hm:P.follows .mixedOrders=true) (n:Nat) (hn:a0.tmps.size=n) (hsel:Region.noSelect ops=true)
  (hQ:∀c (a:Act) (d:Nat) (v:Value) w,Q (.panic c) (a.put (some d) v) w→Q (.panic c) a w) (hl:sch.length=ops.size) (hok:okM ops sch 0=true) (hS:S w.drew)
  (h:∀ (a:Act) (b:Nat→Value),a0=a→(∀k,a0.tmps.getD k undef=b k)→Sch P ops Q S b a n sch [] w.drew):(Code.region id ops true).wp P Q a0 w:=
 region sch S hm n hn _ (fun _=>rfl) hsel hQ hl (okB_of_okM sch 0 _ (RelM.start _) hok) hS (h a0 _ rfl (fun _=>rfl))
def noPan (Q:Exit→Act→World→Prop):Exit→Act→World→Prop
 | .panic _,_,_=>False
 |e,a,w=>Q e a w
theorem noPan_imp {Q:Exit→Act→World→Prop}:∀e a w,noPan Q e a w→Q e a w
 | .normal,_,_,h=>h
 | .exit _,_,_,h=>h
 | .goto _,_,_,h=>h
 | .ret,_,_,h=>h
 | .outgrown,_,_,h=>h
 | .panic _,_,_,h=>h.elim
theorem regionN (sch:List (Nat × Bool)) (S:World→Prop) {id:Nat} {w:World} (hm:P.follows .mixedOrders=true) (n:Nat) (hn:a0.tmps.size=n) (hsel:Region.noSelect ops=true)
  (hl:sch.length=ops.size) (hok:okM ops sch 0=true) (hS:S w.drew)
  (h:∀ (a:Act) (b:Nat→Value),a0=a→(∀k,a0.tmps.getD k undef=b k)→Sch P ops (noPan Q) S b a n sch [] w.drew):(Code.region id ops true).wp P Q a0 w:=
 wp_mono (region' sch S hm n hn hsel (fun _ _ _ _ _ h=>h) hl hok hS h) noPan_imp
theorem Sch.take {i:Nat} {t:List (Nat × Bool)} {us:List (Nat × Value)} {w:World} {o:Oper} {d:Nat} {v:Value} (ho:ops[i]? =some o) (hd:o.dst=some d) (hdn:d<n) (hw:want3 ops us o=some true)
  (hy:∀w',S w'→(execOp (ev b us) o).run P w'=.ok (.value v) w') (h:Sch P ops Q S b a0 n t ((d,v)::us) w):Sch P ops Q S b a0 n ((i,true)::t) us w:=
 ⟨o,d,v,ho,hd,hdn,.inl ⟨hw,hy⟩,h⟩
theorem Sch.tk {i:Nat} {t:List (Nat × Bool)} {us:List (Nat × Value)} {w:World} {o:Oper} {d:Nat} {v:Value} (h:Sch P ops Q S b a0 n t ((d,v)::us) w) (ho:ops[i]? =some o:=by exact rfl) (hd:o.dst=some d:=by exact rfl) (hdn:d<n:=by decide) (hw:want3 ops us o=some true:=by kernel_rfl)
  (hy:∀w',S w'→(execOp (ev b us) o).run P w'=.ok (.value v) w':=by intro w hw;(try dsimp only at hw);go_simp;first|done|with_reducible rfl):Sch P ops Q S b a0 n ((i,true)::t) us w:=Sch.take ho hd hdn hw hy h
theorem Sch.skip {i:Nat} {t:List (Nat × Bool)} {us:List (Nat × Value)} {w:World} {o:Oper} {d:Nat} (ho:ops[i]? =some o) (hd:o.dst=some d) (hdn:d<n) (hw:want3 ops us o=some false)
  (h:Sch P ops Q S b a0 n t ((d,undef)::us) w):Sch P ops Q S b a0 n ((i,true)::t) us w:=
 ⟨o,d,undef,ho,hd,hdn,.inr ⟨hw,rfl⟩,h⟩
theorem Sch.call {i:Nat} {t:List (Nat × Bool)} {us:List (Nat × Value)} {w:World} {o:Oper} {d:Nat} {f:FuncId} {args:Array Value} {R:Ending→World→Prop} (ho:ops[i]? =some o) (hd:o.dst=some d) (hdn:d<n) (hw:want3 ops us o=some true)
  (hrun:(execOp (ev b us) o).run P w=.ok (.enter f args) w) (hC:Calls P f args w R)
  (h:∀e w',R e w'→∃v,e=.returned v∧S w'∧Sch P ops Q S b a0 n t ((d,v)::us) w'):Sch P ops Q S b a0 n ((i,false)::t) us w:=by
 refine ⟨o,ho,hw,fun K hK=>?_⟩
 rw [hrun]
 refine hC.mono ?_
 intro e w' hr
 obtain ⟨v,he,hS,hs⟩:=h e w' hr
 exact ⟨v,he,hK v w' hS (by rw [hd];exact ⟨hdn,hs⟩)⟩
def setAll (a0:Act):List Nat→(Nat→Value)→Act
 | [],_=>a0
 |d::D,x=>setAll (a0.put (some d) (x d)) D x
theorem setAll_size (x:Nat→Value):∀ (D:List Nat) (a0:Act),(setAll a0 D x).tmps.size=a0.tmps.size
 | [],_=>rfl
 |d::D,a0=>by rw [setAll,setAll_size x D];simp [Act.put]
theorem setAll_defers (x:Nat→Value):∀ (D:List Nat) (a0:Act),(setAll a0 D x).defers=a0.defers
 | [],_=>rfl
 |d::D,a0=>by rw [setAll,setAll_defers x D];simp [Act.put]
theorem setAll_get (x:Nat→Value) (k:Nat):∀ (D:List Nat) (a0:Act),(setAll a0 D x).tmps[k]? =if k∈D∧k<a0.tmps.size then some (x k) else a0.tmps[k]?
 | [],_=>by simp [setAll]
 |d::D,a0=>by
  rw [setAll,setAll_get x k D]
  simp only [Act.put,Array.size_setIfInBounds,Array.getElem?_setIfInBounds,List.mem_cons]
  by_cases hk:k<a0.tmps.size
  ·by_cases hD:k∈D
   ·simp [hD,hk]
   ·by_cases e:d=k
    ·subst e;simp [hD,hk]
    ·have:¬k=d:=fun h=>e h.symm
     simp [hD,e,this]
  ·have:a0.tmps[k]? =none:=Array.getElem?_eq_none (by omega)
   by_cases e:d=k
   ·subst e;simp [hk]
   ·simp [hk,e]
theorem UP_defers (a0:Act):∀us:List (Nat × Value),(UP a0 us).defers=a0.defers
 | []=>rfl
 |p::us=>by rw [UP];simp [Act.put,UP_defers a0 us]
theorem UP_setAll (hn:a0.tmps.size=n) (D:List Nat) {us:List (Nat × Value)} (hf:fits n us=true) (hD:us.all (fun p=>D.contains p.1)=true):UP a0 us=setAll a0 D (fun d=>(getO us d).getD (a0.tmps.getD d undef)):=by
 have ht:(UP a0 us).tmps=(setAll a0 D (fun d=>(getO us d).getD (a0.tmps.getD d undef))).tmps:=by
  apply Array.ext_getElem?
  intro k
  rw [UP_get hn k us hf,setAll_get]
  cases hg:getO us k with
  |none=>
   dsimp only
   by_cases h:k∈D∧k<a0.tmps.size
   ·rw [if_pos h,Option.getD_none,Array.getD_eq_getD_getElem?,Array.getElem?_eq_getElem h.2];rfl
   ·rw [if_neg h]
  |some v=>
   have hmem:k∈D∧k<a0.tmps.size:=by
    unfold getO at hg
    cases hfd:us.find? (fun p=>p.1==k) with
    |none=>rw [hfd] at hg;cases hg
    |some p=>
     have h1:=List.mem_of_find?_eq_some hfd
     have h2:=List.find?_some hfd
     have e:p.1=k:=by simpa using h2
     have h3:=(List.all_eq_true.1 hD) p h1
     have h4:=(List.all_eq_true.1 hf) p h1
     rw [←e]
     exact ⟨by simpa using h3,by rw [hn];simpa using h4⟩
   rw [if_pos hmem];rfl
 have hd:(UP a0 us).defers=(setAll a0 D (fun d=>(getO us d).getD (a0.tmps.getD d undef))).defers:=by rw [UP_defers,setAll_defers]
 cases h1:UP a0 us with
 |mk t1 d1=>cases h2:setAll a0 D (fun d=>(getO us d).getD (a0.tmps.getD d undef)) with
  |mk t2 d2=>rw [h1,h2] at ht hd;simp_all
theorem Sch.end_ {us:List (Nat × Value)} {w:World} (D:List Nat) (hn:a0.tmps.size=n) (hf:fits n us=true) (hD:us.all (fun p=>D.contains p.1)=true)
  (h:Q .normal (setAll a0 D (fun d=>(getO us d).getD (a0.tmps.getD d undef))) w):Sch P ops Q S b a0 n [] us w:=by
 show Q .normal (UP a0 us) w
 rw [UP_setAll hn D hf hD];exact h
def regOps:Code→Nat→Option (Array Oper)
 | .region i ops _,k=>if i=k then some ops else none
 | .seq a b,k=>match regOps a k with
  |some o=>some o
  |none=>regOps b k
 | .cond _ a b,k=>match regOps a k with
  |some o=>some o
  |none=>regOps b k
 | .block _ c,k=>regOps c k
 | .loop c,k=>regOps c k
 | .scope c,k=>regOps c k
 | .rangeFunc _ _ a b,k=>match regOps a k with
  |some o=>some o
  |none=>regOps b k
 |_,_=>none
def fnOps (f:Func) (k:Nat):Array Oper:=((f.body.bind (regOps · k)).getD #[])
end Eng
namespace Eng
def noOut (Q:Exit→Act→World→Prop):Exit→Act→World→Prop
 | .outgrown,_,_=>False
 |e,a,w=>Q e a w
theorem noOut_lets (Q:Exit→Act→World→Prop):¬LetsOut (noOut Q):=fun ⟨_,_,h⟩=>h
def noDefer (ops:Array Oper):Bool:=ops.all (fun o=>match o.op with| .defer _=>false|_=>true)
theorem noDefer_at {ops:Array Oper} (h:noDefer ops=true) {i:Nat} {o:Oper} (ho:ops[i]? =some o):∀c,o.op≠ .defer c:=by
 intro c hc
 have hi:=Array.getElem?_eq_some_iff.1 ho
 have:=(Array.all_eq_true.1 h) i hi.1
 rw [hi.2,hc] at this
 cases this
theorem opsIn_of {P:Program} {ops:Array Oper} {Q:Exit→Act→World→Prop} (hnd:noDefer ops=true) (l m:Nat):∀ (s:List Nat) (a:Act) (w:World),wpOps P ops (noOut Q) s a w→wpOpsIn (Fence.wide.inRound l) m P ops Q s a w
 | [],_,_,h=>h
 |i::rest,a,w,h=>by
  unfold wpOps at h
  unfold wpOpsIn
  cases ho:ops[i]? with
  |none=>rw [ho] at h;exact opsIn_of hnd l m rest a w h
  |some o=>
   rw [ho] at h
   dsimp only at h ⊢
   by_cases hw:Region.wanted o (yielded ops a.tmps)=true
   ·rw [if_pos hw] at h ⊢
    rcases h with h|h
    ·refine ⟨fun _ _=>trivial,?_⟩
     rw [Oper.semAt_eq _ _ _ (noDefer_at hnd ho)]
     unfold Oper.wp at h
     generalize (execOp a.eval o).run P w=r at h
     match r,h with
     | .ok (.value v) w',h=>exact opsIn_of hnd l m rest _ _ h
     | .ok .skip w',h=>exact opsIn_of hnd l m rest _ _ h
     | .ok (.defer d) w',h=>exact opsIn_of hnd l m rest _ _ h
     | .ok (.enter f args) w',h=>
      refine ⟨fun h=>(by cases h),CallsIn.inRound l (callsIn_wide.2 (Calls.mono h ?_))⟩
      intro e w'' hq
      match e,hq with
      | .returned v,hq=>exact opsIn_of hnd l m rest _ _ hq
      | .panicked chain,hq=>exact hq
      | .outgrown,hq=>exact (noOut_lets Q hq).elim
     | .ok (.row row args) w',h=>
      refine ⟨fun h=>(by cases h),fun c cs _=>?_⟩
      obtain ⟨v,w'',hq,hs⟩:=h c cs
      exact ⟨v,w'',opsIn_of hnd l m rest _ _ hq,stepsIn_wide.2 hs⟩
     | .halt (.panic v) w',h=>exact h
    ·exact (noOut_lets Q h.2).elim
   ·rw [if_neg hw] at h ⊢
    exact ⟨fun _ _=>trivial,opsIn_of hnd l m rest _ _ h⟩
variable {P:Program} {ops:Array Oper} {Q:Exit→Act→World→Prop} {S:World→Prop} {b:Nat→Value} {a0:Act} {n:Nat}
end Eng
namespace Eng
inductive Tr where
 |done
 |stop
 |take (i:Nat) (t:Tr)
 |alt (i:Nat) (t r:Tr)
def Tr.heads:Tr→List Nat
 | .alt i _ r=>i::r.heads
 |_=> []
def readyM (ops:Array Oper) (m:Nat):List Nat:=(List.range ops.size).filter (fun j=> !m.testBit j&&((ops[j]?).map (fun o=>afterM o m)).getD false)
def okT (ops:Array Oper):Bool→Tr→Nat→Bool
 |top,.done,m=>top&&m==2 ^ ops.size-1
 |top,.stop,_=> !top
 |top,.take i t,m=>top&&(match ops[i]? with
   |none=>false
   |some o=> !m.testBit i&&afterM o m&&freeM ops i o m 0 ops.toList)&&okT ops true t (m|||1<<<i)
 |top,.alt i t r,m=>(!top||readyM ops m==(i::r.heads))&&decide (i<ops.size)&&okT ops true t (m|||1<<<i)&&okT ops false r m
def Tr.depth:Tr→Nat
 | .done=>0
 | .stop=>0
 | .take _ t=>t.depth+1
 | .alt _ t r=>max (t.depth+1) r.depth
theorem ready_eq {ops:Array Oper} {m:Nat} {listed:Array Bool} (hr:RelM ops.size m listed):Region.ready .any ops listed=readyM ops m:=by
 unfold Region.ready readyM
 refine List.filter_congr fun j hj=>?_
 rw [List.mem_range] at hj
 rw [(hr.2.1 j hj).1,Array.getElem?_eq_getElem hj]
 simp only [Option.map_some,Option.getD_some]
 rw [after_eq hr]
theorem take_ok {ops:Array Oper} {m:Nat} {listed:Array Bool} (hr:RelM ops.size m listed) {i:Nat} {o:Oper} (ho:ops[i]? =some o) (h1:m.testBit i=false) (h2:afterM o m=true) (h3:freeM ops i o m 0 ops.toList=true):
  Region.free .any ops listed i=true∧(Region.ready .any ops listed).contains i=true:=by
 have hin:i<ops.size:=(Array.getElem?_eq_some_iff.1 ho).1
 refine ⟨?_,?_⟩
 ·unfold Region.free
  rw [ho]
  simp only [List.all_eq_true,List.mem_range]
  intro j hj
  have:=freeM_all _ _ h3 j ops[j] (by simp [hj])
  rw [Nat.zero_add] at this
  rw [(hr.2.1 j hj).1,Array.getElem?_eq_getElem hj]
  exact this
 ·rw [List.contains_iff_mem,ready_eq hr,readyM,List.mem_filter]
  refine ⟨List.mem_range.2 hin,?_⟩
  rw [h1,ho];simp [h2]
variable {P:Program} {ops:Array Oper} {Q:Exit→Act→World→Prop} {S:World→Prop} {b:Nat→Value} {a0:Act} {n:Nat}
def TW (P:Program) (ops:Array Oper) (Q:Exit→Act→World→Prop) (S:World→Prop) (b:Nat→Value) (a0:Act) (n:Nat):Tr→List (Nat × Value)→World→Prop
 | .done,us,w=>Q .normal (UP a0 us) w
 | .stop,_,_=>True
 | .take i t,us,w=>∃o d v,ops[i]? =some o∧o.dst=some d∧d<n∧
   ((want3 ops us o=some true∧∀w',S w'→(execOp (ev b us) o).run P w'=.ok (.value v) w')∨(want3 ops us o=some false∧v=undef))∧TW P ops Q S b a0 n t ((d,v)::us) w
 | .alt i t r,us,w=>(∃o,ops[i]? =some o∧want3 ops us o=some true∧
   ∀K:Option Value→World→Prop,(∀v w',S w'→(match o.dst with|some d=>d<n∧TW P ops Q S b a0 n t ((d,v)::us) w'|none=>TW P ops Q S b a0 n t us w')→K (some v) w')→
    match (execOp (ev b us) o).run P w with
    | .ok (.value v) w'=>K (some v) w'
    | .ok (.enter f args) w'=>Calls P f args w' fun e w''=>∃v,e=.returned v∧K (some v) w''
    | .ok .skip w'=>K (some undef) w'
    |_=>False)∧TW P ops Q S b a0 n r us w
theorem TW.sound (hn:a0.tmps.size=n) (hb:∀k,a0.tmps.getD k undef=b k) (hsel:Region.noSelect ops=true) (hQ:∀c (a:Act) (d:Nat) (v:Value) w,Q (.panic c) (a.put (some d) v) w→Q (.panic c) a w):
  ∀ (t:Tr) (top:Bool) (us:List (Nat × Value)) (m:Nat) (listed:Array Bool) (fuel:Nat) (w:World),RelM ops.size m listed→fits n us=true→okT ops top t m=true→S w→TW P ops Q S b a0 n t us w→
   (top=true→t.depth≤fuel→wpAnyH P .any ops Q S fuel listed (UP a0 us) w)∧(top=false→t.depth≤fuel+1→AllReadyH P .any ops Q S fuel listed (UP a0 us) w t.heads)
 | .done,top,us,m,listed,fuel,w,hr,_,hok,_,h=>by
  simp only [okT,Bool.and_eq_true,beq_iff_eq] at hok
  refine ⟨fun _ _=>wpAnyH_done ?_ h fuel,fun e=>by rw [e] at hok;simp at hok⟩
  rw [ready_eq hr,readyM,List.filter_eq_nil_iff]
  intro j hj
  rw [List.mem_range] at hj
  rw [hok.2,Nat.testBit_two_pow_sub_one];simp [hj]
 | .stop,top,us,m,listed,fuel,w,_,_,hok,_,_=>⟨fun e=>by rw [e] at hok;simp [okT] at hok,fun _ _=>AllReadyH.nil⟩
 | .take i t,top,us,m,listed,fuel,w,hr,hf,hok,hS,h=>by
  simp only [okT,Bool.and_eq_true] at hok
  refine ⟨fun _ hd=>?_,fun e=>by rw [e] at hok;simp at hok⟩
  obtain ⟨⟨-,hok1⟩,hok2⟩:=hok
  obtain ⟨o,d,v,ho,hd',hdn,hy,h⟩:=h
  rw [ho] at hok1
  simp only [Bool.and_eq_true,Bool.not_eq_true'] at hok1
  obtain ⟨⟨k1,k2⟩,k3⟩:=hok1
  obtain ⟨g1,g2⟩:=take_ok hr ho k1 k2 k3
  have hin:i<ops.size:=(Array.getElem?_eq_some_iff.1 ho).1
  cases fuel with
  |zero=>simp [Tr.depth] at hd
  |succ fuel=>
   refine wpAnyH_take (i:=i) (v:=v) ho hsel g1 g2 (fun c a w hq=>by rw [hd'] at hq;exact hQ _ _ _ _ _ hq) ?_ hS ?_
   ·rcases hy with ⟨h1,h2⟩| ⟨h1,h2⟩
    ·exact .inl ⟨wanted_of hn hf h1,fun w' hw'=>by rw [UP_eval hn hb hf];exact h2 w' hw'⟩
    ·exact .inr ⟨wanted_of hn hf h1,h2⟩
   ·have:=(TW.sound hn hb hsel hQ t true ((d,v)::us) _ _ fuel w (hr.set hin) (by simp only [fits,List.all_cons,Bool.and_eq_true,decide_eq_true_eq];exact ⟨hdn,hf⟩) hok2 hS h).1 rfl (by simp [Tr.depth] at hd;omega)
    rw [hd'];exact this
 | .alt i t r,top,us,m,listed,fuel,w,hr,hf,hok,hS,h=>by
  simp only [okT,Bool.and_eq_true,decide_eq_true_eq] at hok
  obtain ⟨⟨⟨k1,hin⟩,k2⟩,k3⟩:=hok
  obtain ⟨⟨o,ho,hw,h⟩,h2⟩:=h
  have all:∀fuel,(Tr.alt i t r).depth≤fuel+1→AllReadyH P .any ops Q S fuel listed (UP a0 us) w (i::r.heads):=by
   intro fuel hd
   have hd1:t.depth≤fuel:=by simp only [Tr.depth] at hd;omega
   have hd2:r.depth≤fuel+1:=by simp only [Tr.depth] at hd;omega
   refine AllReadyH.cons ho (fun K hK=>?_) ((TW.sound hn hb hsel hQ r false us m listed fuel w hr hf k3 hS h2).2 rfl hd2)
   rw [if_pos (wanted_of hn hf hw)]
   have hstep:∀v w',S w'→(match o.dst with|some d=>d<n∧TW P ops Q S b a0 n t ((d,v)::us) w'|none=>TW P ops Q S b a0 n t us w')→K ((UP a0 us).put o.dst v) w':=by
    intro v w' hS' hs
    refine hK.out _ _ hS' (fun _=>?_)
    cases hd:o.dst with
    |none=>
     rw [hd] at hs
     exact (TW.sound hn hb hsel hQ t true us _ _ fuel w' (hr.set hin) hf k2 hS' hs).1 rfl hd1
    |some d=>
     rw [hd] at hs
     exact (TW.sound hn hb hsel hQ t true ((d,v)::us) _ _ fuel w' (hr.set hin) (by simp only [fits,List.all_cons,Bool.and_eq_true,decide_eq_true_eq];exact ⟨hs.1,hf⟩) k2 hS' hs.2).1 rfl hd1
   have h':=h (fun v w'=>K ((UP a0 us).put o.dst (v.getD undef)) w') hstep
   unfold Oper.wp
   rw [UP_eval hn hb hf]
   generalize (execOp (ev b us) o).run P w=r at h'
   match r,h' with
   | .ok (.value v) w',h'=>exact h'
   | .ok .skip w',h'=>exact h'
   | .ok (.enter f args) w',h'=>
    refine Calls.mono h' ?_
    rintro e w'' ⟨v,rfl,hk⟩
    exact hk
  refine ⟨fun e hd=>?_,fun _ hd=>all fuel hd⟩
  rw [e] at k1
  simp only [Bool.not_true,Bool.false_or,beq_iff_eq] at k1
  cases fuel with
  |zero=>simp [Tr.depth] at hd
  |succ fuel=>exact wpAnyH_ready ((ready_eq hr).trans k1) (by simp) (all fuel hd)
theorem regionT' (tr:Tr) (S:World→Prop) {id:Nat} {w:World} (hm:P.follows .mixedOrders=true) (n:Nat) (hn:a0.tmps.size=n) (hsel:Region.noSelect ops=true)
  (hQ:∀c (a:Act) (d:Nat) (v:Value) w,Q (.panic c) (a.put (some d) v) w→Q (.panic c) a w) (hl:decide (tr.depth≤ops.size)=true) (hok:okT ops true tr 0=true) (hS:S w.drew)
  (h:∀ (a:Act) (b:Nat→Value),a0=a→(∀k,a0.tmps.getD k undef=b k)→TW P ops Q S b a n tr [] w.drew):(Code.region id ops true).wp P Q a0 w:=
 wp_region_held_drew (S:=S) hm hS (fun hS=>(TW.sound hn (fun _=>rfl) hsel hQ tr true [] 0 _ _ _ (RelM.start _) rfl hok hS (h a0 _ rfl (fun _=>rfl))).1 rfl (of_decide_eq_true hl))
theorem regionT (tr:Tr) (S:World→Prop) {id:Nat} {w:World} (hm:P.follows .mixedOrders=true) (n:Nat) (hn:a0.tmps.size=n) (hsel:Region.noSelect ops=true)
  (hl:decide (tr.depth≤ops.size)=true) (hok:okT ops true tr 0=true) (hS:S w.drew)
  (h:∀ (a:Act) (b:Nat→Value),a0=a→(∀k,a0.tmps.getD k undef=b k)→TW P ops (noPan Q) S b a n tr [] w.drew):(Code.region id ops true).wp P Q a0 w:=
 wp_mono (regionT' tr S hm n hn hsel (fun _ _ _ _ _ h=>h) hl hok hS h) noPan_imp
theorem regionTIn (tr:Tr) (S:World→Prop) {id l m:Nat} {w:World} (hm:P.follows .mixedOrders=true) (n:Nat) (hn:a0.tmps.size=n) (hsel:Region.noSelect ops=true) (hnd:noDefer ops=true)
  (hl:decide (tr.depth≤ops.size)=true) (hok:okT ops true tr 0=true) (hS:S w.drew)
  (h:∀ (a:Act) (b:Nat→Value),a0=a→(∀k,a0.tmps.getD k undef=b k)→TW P ops (noOut (noPan Q)) S b a n tr [] w.drew):(Code.region id ops true).wpIn (Fence.wide.inRound l) m P Q a0 w:=by
 refine wpIn_mono (Q:=noPan Q) ?_ noPan_imp
 refine wpIn_region_draw fun t=>?_
 simp only [Region.schedule,hm,Bool.true_or,if_true]
 refine opsIn_of hnd l m _ _ _ ?_
 refine wpAny_sound ops.size t _ a0 _ (wpAny_of_held (S:=S) _ _ _ _ ?_)
 exact (TW.sound (Q:=noOut (noPan Q)) hn (fun _=>rfl) hsel (fun _ _ _ _ _ h=>h) tr true [] 0 _ _ _ (RelM.start _) rfl hok hS (h a0 _ rfl (fun _=>rfl))).1 rfl (of_decide_eq_true hl)
theorem TW.take' {i:Nat} {t:Tr} {us:List (Nat × Value)} {w:World} {o:Oper} {d:Nat} {v:Value} (ho:ops[i]? =some o) (hd:o.dst=some d) (hdn:d<n) (hw:want3 ops us o=some true)
  (hy:∀w',S w'→(execOp (ev b us) o).run P w'=.ok (.value v) w') (h:TW P ops Q S b a0 n t ((d,v)::us) w):TW P ops Q S b a0 n (.take i t) us w:=
 ⟨o,d,v,ho,hd,hdn,.inl ⟨hw,hy⟩,h⟩
theorem TW.tk {i:Nat} {t:Tr} {us:List (Nat × Value)} {w:World} {o:Oper} {d:Nat} {v:Value} (h:TW P ops Q S b a0 n t ((d,v)::us) w) (ho:ops[i]? =some o:=by exact rfl) (hd:o.dst=some d:=by exact rfl) (hdn:d<n:=by decide) (hw:want3 ops us o=some true:=by kernel_rfl)
  (hy:∀w',S w'→(execOp (ev b us) o).run P w'=.ok (.value v) w':=by intro w hw;(try dsimp only at hw);go_simp;first|done|with_reducible rfl):TW P ops Q S b a0 n (.take i t) us w:=TW.take' ho hd hdn hw hy h
theorem TW.skip {i:Nat} {t:Tr} {us:List (Nat × Value)} {w:World} {o:Oper} {d:Nat} (ho:ops[i]? =some o) (hd:o.dst=some d) (hdn:d<n) (hw:want3 ops us o=some false)
  (h:TW P ops Q S b a0 n t ((d,undef)::us) w):TW P ops Q S b a0 n (.take i t) us w:=
 ⟨o,d,undef,ho,hd,hdn,.inr ⟨hw,rfl⟩,h⟩
theorem TW.call {i:Nat} {t:Tr} {us:List (Nat × Value)} {w:World} {o:Oper} {d:Nat} {f:FuncId} {args:Array Value} {R:Ending→World→Prop} (ho:ops[i]? =some o) (hd:o.dst=some d) (hdn:d<n) (hw:want3 ops us o=some true)
  (hrun:(execOp (ev b us) o).run P w=.ok (.enter f args) w) (hC:Calls P f args w R)
  (h:∀e w',R e w'→∃v,e=.returned v∧S w'∧TW P ops Q S b a0 n t ((d,v)::us) w'):TW P ops Q S b a0 n (.alt i t .stop) us w:=by
 refine ⟨⟨o,ho,hw,fun K hK=>?_⟩,trivial⟩
 rw [hrun]
 refine hC.mono ?_
 intro e w' hr
 obtain ⟨v,he,hS,hs⟩:=h e w' hr
 exact ⟨v,he,hK v w' hS (by rw [hd];exact ⟨hdn,hs⟩)⟩
theorem TW.step {i:Nat} {t:Tr} {us:List (Nat × Value)} {w w':World} {o:Oper} {d:Nat} {v:Value} (ho:ops[i]? =some o) (hd:o.dst=some d) (hdn:d<n) (hw:want3 ops us o=some true)
  (hrun:(execOp (ev b us) o).run P w=.ok (.value v) w') (hS:S w') (h:TW P ops Q S b a0 n t ((d,v)::us) w'):TW P ops Q S b a0 n (.alt i t .stop) us w:=by
 refine ⟨⟨o,ho,hw,fun K hK=>?_⟩,trivial⟩
 rw [hrun]
 exact hK v w' hS (by rw [hd];exact ⟨hdn,h⟩)
theorem TW.step0 {i:Nat} {t:Tr} {us:List (Nat × Value)} {w w':World} {o:Oper} (ho:ops[i]? =some o) (hd:o.dst=none) (hw:want3 ops us o=some true)
  (hrun:(execOp (ev b us) o).run P w=.ok .skip w') (hS:S w') (h:TW P ops Q S b a0 n t us w'):TW P ops Q S b a0 n (.alt i t .stop) us w:=by
 refine ⟨⟨o,ho,hw,fun K hK=>?_⟩,trivial⟩
 rw [hrun]
 exact hK undef w' hS (by rw [hd];exact h)
theorem TW.both {i:Nat} {t r:Tr} {us:List (Nat × Value)} {w:World} (h:TW P ops Q S b a0 n (.alt i t .stop) us w) (h2:TW P ops Q S b a0 n r us w):TW P ops Q S b a0 n (.alt i t r) us w:=⟨h.1,h2⟩
theorem TW.end_ {us:List (Nat × Value)} {w:World} (D:List Nat) (hn:a0.tmps.size=n) (hf:fits n us=true) (hD:us.all (fun p=>D.contains p.1)=true)
  (h:Q .normal (setAll a0 D (fun d=>(getO us d).getD (a0.tmps.getD d undef))) w):TW P ops Q S b a0 n .done us w:=by
 show Q .normal (UP a0 us) w
 rw [UP_setAll hn D hf hD];exact h
end Eng
namespace Eng
variable {P:Program} {ops:Array Oper} {Q:Exit→Act→World→Prop} {S:World→Prop} {b:Nat→Value} {a0:Act} {n:Nat}
theorem TW.app {i:Nat} {t:Tr} {us:List (Nat × Value)} {w:World} {o:Oper} {d:Nat} (ho:ops[i]? =some o) (hd:o.dst=some d) (hdn:d<n) (hw:want3 ops us o=some true)
  (s x:Operand) (T:TypeId) (hop:o.op=Op.call { callee:=Callee.builtin Builtin.append,args:= #[s,x],argTypes:= #[T,T] })
  (base:Nat) (e:TypeId) (inf:TypeInfo) (z:Value) (size bytes:Nat) (h1:P.underlying T=some (.slice e)) (h2:P.info? e=some inf) (h3:inf.zero=some z) (h4:inf.size=size) (h5:inf.bytes=bytes) (h6:z.cells.size=size) (h7:0<size)
  (v:Value) (k:Nat) (xs:List Value) (ad:Addr) (m c:Nat) (news:List Value) (hs:ev b us s=v) (hx:ev b us x=.slice (some ad) m c) (hown:w.ownsRow base e size v k xs) (hn:news.length=m*size)
  (hc:∀j u,news[j]? =some u→w.cell? (ad.add j)=some u) (h1c:∀u∈news,u.oneCell'=true) (b1:k+m≤maxLen) (b2:(k+m)*bytes≤140737488355328) (b3:base≤w.heap.size)
  (h:∀v' w',w'.ownsRow base e size v' (k+m) (xs++news)→w.grownBy w' v.ownBlock→(v'.ownBlock=v.ownBlock∨v'.ownBlock=some w.heap.size)→S w'∧TW P ops Q S b a0 n t ((d,v')::us) w'):TW P ops Q S b a0 n (.alt i t .stop) us w:=by
 obtain ⟨v',w',hrun,r1,r2,-,r4⟩:=run_append_own_at (P:=P) w base T o.type e inf z size bytes h1 h2 h3 h4 h5 h6 h7 v k xs hown ad m c news hn hc h1c b1 b2 b3
 obtain ⟨hS,ht⟩:=h v' w' r1 r2 r4
 refine TW.step ho hd hdn hw ?_ hS ht
 simp [execOp,hop,resolve,invoke,builtin,hs,hx,hrun,Result.andThen]
end Eng
end Go.Proofs.YtdpngmgaomghoaaGreatDoor
