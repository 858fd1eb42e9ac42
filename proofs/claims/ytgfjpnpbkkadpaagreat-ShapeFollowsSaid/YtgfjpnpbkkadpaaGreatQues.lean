/- Is a number among others: the library's. -/
import Derived.Test.YtgfjpnpbkkadpaaGreatRngs
import Derived.Test.YtgfjpnpbkkadpaaGreatProg
import Derived.BigQuiet
import Derived.Lib.Hide
import Derived.WalkSpells
import Derived.WalkLawsBesides
import Derived.OwnWalkIn
import Derived.Deep.CutBlock
namespace Go.Proofs.YtgfjpnpbkkadpaaGreat
open Tryz
set_option maxRecDepth 100000
open Go.RowKit
namespace Wrk
abbrev ints (l:List Int):List Value:=l.map (Value.int .i64)
theorem ints_at {l:List Int} {k:Nat} (h:k<l.length):(ints l)[k]? =some (.int .i64 l[k]):=by simp [ints,h]
theorem no_take {l:List Int} {n:Int} {k:Nat} (h:k<l.length):n∈l.take (k+1)↔n∈l.take k∨n=l[k]:=by
 rw [List.take_succ_eq_append_getElem h,List.mem_append,List.mem_singleton]
theorem Index (A:Option Addr) (ca:Nat) (l:List Int) (n:Int) (w:World) (ha:Sl w 1 A l.length ca (ints l)):
  Calls prog 220 #[.slice A l.length ca,.int .i64 n] w fun e w'=>(∃i:Int,e=.returned (.int .i64 i)∧decide (0≤i)=decide (n∈l))∧w'=w:=by
 have la:l.length≤9223372036854775807:=by have:=ha.2.1;have:=ha.2.2.1;unfold maxLen at this;omega
 go_enter func220,ntmps220
 go_wp2_with fail
 go_loopg [5,8] l.length (fun gk _ i wr=>∃k:Nat,i=.int .i64 k∧k≤l.length∧gk=l.length-k∧n∉l.take k∧w=wr)
 case atStart=>exact ⟨0,rfl,Nat.zero_le _,rfl,by simp,rfl⟩
 case round=>
  obtain ⟨k,rfl,hk,hg,htk,rfl⟩:=hrel
  have HT:=Lib.hid htk;have HG:=Lib.hid hg
  clear htk hg
  by_cases hlt:k<l.length
  ·obtain ⟨b1,o1,rfl,-,c1⟩:=ha.at hlt (by omega)
   have d1:w.cell? ⟨b1,o1+k,none⟩=some (.int .i64 l[k]):=c1 k _ (ints_at hlt)
   have HA:=Lib.hid ha
   clear c1 ha
   have i1:(k:Int)<(l.length:Int):=by omega
   have HM:=Lib.hid (no_take (n:=n) hlt)
   have HI:=Lib.hid (List.getElem_mem hlt)
   generalize hak:l[k]=x at *
   have HAK:=Lib.hid hak
   clear hak
   by_cases hxy:x=n
   ·have t2:(n==x)=true:=by simp [hxy]
    have HE:Hid (n∈l):=by show _;rw [←hxy];exact HI.out
    clear hxy
    go_wp2_with fail
    go_ret
    exact ⟨⟨(k:Int),rfl,by rw [decide_eq_true HE.out];simp⟩,rfl⟩
   ·have t2:(n==x)=false:=by simp;exact fun h=>hxy h.symm
    have HN:Hid (n∉l.take (k+1)):=by
     show _
     rw [HM.out];rintro (h|h)
     ·exact HT.out h
     ·exact hxy h.symm
    clear hxy
    go_wp2_with fail
    go_roundg (l.length-(k+1))
    case rel=>exact ⟨k+1,by go_num,by omega,rfl,HN.out,rfl⟩
    case measure=>have:=HG.out;omega
  ·have HE:Hid (n∉l):=by
    show _
    have:=HT.out
    rwa [List.take_of_length_le (by omega)] at this
   have HA:=Lib.hid ha
   clear ha
   go_wp2_with fail
   go_ret
   exact ⟨⟨-1,rfl,by rw [decide_eq_false HE.out];rfl⟩,rfl⟩
theorem Contains (A:Option Addr) (ca:Nat) (l:List Int) (n:Int) (w:World) (ha:Sl w 1 A l.length ca (ints l)):
  Calls prog 195 #[.slice A l.length ca,.int .i64 n] w fun e w'=>e=.returned (.bool (decide (n∈l)))∧w'=w:=by
 have H:=Lib.hid (Index A ca l n w ha)
 clear ha
 go_enter func195,ntmps195
 go_wp2_with fail
 refine H.out.mono ?_
 rintro e w1 ⟨⟨i,rfl,hi⟩,rfl⟩
 have HI:=Lib.hid hi
 clear hi
 go_wp2_with fail
 go_ret
 exact ⟨by rw [←HI.out];rfl,rfl⟩
end Wrk
namespace Wrk
abbrev TIn:TypeId:=3
abbrev TIs:TypeId:=199
theorem infoQ:(prog.info? TIn).map (fun i=>(i.zero,i.size,i.bytes))=some (some (.int .i64 0),1,8):=by kernel_rfl
def QRow (w:World) (v:Value) (n:Nat) (xs:List Value):Prop:=xs.length=n∧((v=.slice none 0 0∧n=0)∨
 ∃g o cap cur,v=.slice (some ⟨g,o,none⟩) n cap∧w.heap[g]? =some (.cells cur TIn (0,0))∧n≤cap∧cap≤maxLen∧(cap=0∨cur.size=o+cap)∧(cur.toList.drop o).take n=xs)
theorem QRow.lt {w:World} {v:Value} {n:Nat} {xs:List Value} (h:QRow w v n xs):∀b,v.ownBlock=some b→∃c,w.heap[b]? =some (.cells c TIn (0,0)):=by
 intro b hb
 rcases h.2 with ⟨rfl,_⟩| ⟨g,o,cap,cur,rfl,hg,-⟩
 ·simp [Value.ownBlock] at hb
 ·simp [Value.ownBlock] at hb;subst hb;exact ⟨_,hg⟩
theorem QRow.fr {S:Nat→Prop} {w w':World} {v:Value} {n:Nat} {xs:List Value} (h:QRow w v n xs) (hf:Fr S w w') (hs:∀b,v.ownBlock=some b→¬S b):QRow w' v n xs:=by
 refine ⟨h.1,?_⟩
 rcases h.2 with hn| ⟨g,o,cap,cur,rfl,hg,r⟩
 ·exact .inl hn
 ·exact .inr ⟨g,o,cap,cur,rfl,(hf.block g (lt_of_heap hg) (hs g rfl)).trans hg,r⟩
theorem QRow.lit (w:World) (x:Value):QRow (w.alloc (.cells #[x] TIn)) (.slice (some ⟨w.heap.size,0,none⟩) 1 1) 1 [x]:=
 ⟨rfl,.inr ⟨w.heap.size,0,1,#[x],rfl,heap_new w _,Nat.le_refl _,by simp [maxLen],.inr rfl,rfl⟩⟩
theorem QRow.tail {w:World} {v:Value} {n:Nat} {x:Value} {xs:List Value} (h:QRow w v (n+1) (x::xs)):∃g o cap v1,v=.slice (some ⟨g,o,none⟩) (n+1) cap∧w.cell? ⟨g,o,none⟩=some x∧
  (∀W:World,(Instr.slice TIs v (some (.int .i64 1)) none none).run prog W=.ok v1 W)∧QRow w v1 n xs∧v1.ownBlock=some g:=by
 obtain ⟨h0,h⟩:=h
 have hx:xs.length=n:=by simpa using h0
 rcases h with ⟨-,h⟩| ⟨g,o,cap,cur,rfl,hg,h1,h2,h3,h4⟩
 ·cases h
 have h5:cur.toList[o]? =some x:=by
  have:((cur.toList.drop o).take (n+1))[0]? =some x:=by rw [h4];rfl
  rw [List.getElem?_take,if_pos (by omega),List.getElem?_drop] at this
  simpa using this
 refine ⟨g,o,cap,.slice (if cap=1 then some ⟨g,o,none⟩ else some ⟨g,o+1,none⟩) n (cap-1),rfl,?_,fun W=>?_,⟨hx,?_⟩,?_⟩
 ·rw [cell_of_row w g o cur TIn (0,0) hg];simpa using h5
 ·have hu:prog.underlying TIs=some (.slice TIn):=underlying199
  obtain ⟨i0,hi,hz0,hz1,hz2⟩:=info_parts infoQ
  unfold maxLen at h2
  simp [Instr.slice,Instr.sliceBounds,Instr.sliceBound,run_underlying hu,sizeOf,typeInfo,hi,hz1,Addr.add,asIntOf]
  intro hh;omega
 ·by_cases hc:cap=1
  ·have hn:n=0:=by omega
   subst hn
   exact .inr ⟨g,o,0,cur,by rw [if_pos hc,hc],hg,Nat.le_refl _,by simp [maxLen],.inl rfl,by rw [List.eq_nil_of_length_eq_zero hx];simp⟩
  ·refine .inr ⟨g,o+1,cap-1,cur,by rw [if_neg hc],hg,by omega,by omega,.inr (by omega),?_⟩
   have:(cur.toList.drop o).take (n+1)=x::(cur.toList.drop (o+1)).take n:=by
    have hl:o<cur.toList.length:=(List.getElem?_eq_some_iff.1 h5).1
    rw [List.drop_eq_getElem_cons hl,List.take_succ_cons]
    congr 1
    exact (List.getElem?_eq_some_iff.1 h5).2
   rw [this] at h4
   exact (List.cons.inj h4).2
 ·by_cases hc:cap=1
  ·rw [if_pos hc];rfl
  ·rw [if_neg hc];rfl
theorem QRow.of_own {w:World} {base:Nat} {v:Value} {n:Nat} {xs:List Value} (h:w.ownsRow base TIn 1 v n xs):QRow w v n xs:=by
 obtain ⟨h0,h⟩:=h
 refine ⟨by simpa using h0,?_⟩
 rcases h with h| ⟨g,cap,cur,rfl,-,hg,h1,h2,h3,h4⟩
 ·exact .inl h
 ·exact .inr ⟨g,0,cap,cur,rfl,hg,h1,h2,.inr (by simpa using h3),by simpa using h4⟩
theorem run_append_q (w:World) (ty:TypeId) (v:Value) (n:Nat) (xs:List Value) (hq:QRow w v n xs) (x:Value) (hx1:x.oneCell'=true) (a:Addr) (c:Nat) (hx:∀j u,[x][j]? =some u→w.cell? (a.add j)=some u) (hn:n≤1000000):
  ∃v' w',(Builtin.append_ #[TIs,TIs] ty #[v,.slice (some a) 1 c]).run prog w=.ok v' w'∧QRow w' v' (n+1) (xs++ [x])∧w.grownBy w' v.ownBlock∧(v'.ownBlock=v.ownBlock∨v'.ownBlock=some w.heap.size):=by
 have hu:prog.underlying TIs=some (.slice TIn):=underlying199
 obtain ⟨i0,hi,hz0,hz1,hz2⟩:=info_parts infoQ
 have hml:∀m:Nat,m≤2000000→m≤maxLen:=fun m h=>by unfold maxLen;omega
 obtain ⟨h0,hcase⟩:=hq
 rcases hcase with ⟨rfl,rfl⟩| ⟨g,o,cap,cur,rfl,hg,h1,h2,h3,h4⟩
 ·have hxs:xs= []:=List.eq_nil_of_length_eq_zero h0
  subst hxs
  obtain ⟨v',w',k1,k2,k3,-,k5⟩:=run_append_own_at (P:=prog) w 0 TIs ty TIn i0 (.int .i64 0) 1 8 hu hi hz0 hz1 hz2 rfl (by decide) (.slice none 0 0) 0 [] (World.ownsRow_nil _ _ _ _) a 1 c [x] rfl hx (fun u hu=>by simp at hu;subst hu;exact hx1) (hml _ (by omega)) (by omega) (Nat.zero_le _)
  exact ⟨v',w',k1,QRow.of_own k2,k3,k5⟩
 ·by_cases hroom:n+1≤cap
  ·have hsz:cur.size=o+cap:=h3.resolve_left (by omega)
   have hf:=run_firstCells_some (P:=prog) w 1 1 a 1 c [x] rfl hx
   have hst:=run_storeCells_at prog g (o+n) TIn [x] 0 cur w hg (by simp;omega) (fun u hu=>by simp at hu;subst hu;exact hx1)
   simp only [Nat.add_zero] at hst
   refine ⟨.slice (some ⟨g,o,none⟩) (n+1) cap,w.setRow g (cur.toList.take (o+n)++ [x]++cur.toList.drop (o+n+ [x].length)).toArray,?_,⟨by simp [h0],.inr ⟨g,o,cap,_,rfl,setRow_heap w g cur _ TIn _ hg,hroom,h2,.inr ?_,?_⟩⟩,⟨rfl,rfl,rfl,by simp,fun k _ hk=>setRow_other w g k _ (fun e=>hk (by simp [Value.ownBlock,e]))⟩,.inl rfl⟩
   ·have hadd:(⟨g,o,none⟩:Addr).add n=⟨g,o+n,none⟩:=by unfold Addr.add;split<;>simp_all
    simp [Builtin.append_,run_underlying hu,sizeOf,typeInfo,hi,hz1,Builtin.lenOf,hroom,hf,hadd,hst]
   ·simp only [List.size_toArray,List.length_append,List.length_take,List.length_drop,Array.length_toList,List.length_singleton];omega
   ·have hl:(cur.toList.take (o+n)).length=o+n:=by rw [List.length_take,Array.length_toList];omega
    show List.take (n+1) (List.drop o (cur.toList.take (o+n)++ [x]++cur.toList.drop (o+n+ [x].length)))=_
    rw [List.append_assoc,List.drop_append_of_le_length (by omega),List.drop_take,Nat.add_sub_cancel_left,h4,List.take_append,h0,List.take_of_length_le (by omega),Nat.add_sub_cancel_left]
    rfl
  ·have holds:∀j u,xs[j]? =some u→w.cell? ((⟨g,o,none⟩:Addr).add j)=some u:=fun j u hu=>by
    have hadd:(⟨g,o,none⟩:Addr).add j=⟨g,o+j,none⟩:=by unfold Addr.add;split<;>simp_all
    rw [hadd,cell_of_row w g (o+j) cur TIn (0,0) hg]
    rw [←h4,List.getElem?_take] at hu
    split at hu
    ·rw [List.getElem?_drop] at hu;simpa using hu
    ·cases hu
   have hr:=run_append_grow (P:=prog) w TIs ty TIn i0 (.int .i64 0) hu hi hz0 ⟨g,o,none⟩ n cap xs (by rw [hz1];omega) holds a 1 c [x] (by rw [hz1];rfl) hx (by omega) (by omega) (growslice_fits (by omega) (by rw [hz2];omega))
   have hge:=grownCap_ge w (n+1) cap TIn
   refine ⟨_,_,hr,⟨by simp [h0],.inr ⟨w.heap.size,0,_,_,rfl,heap_alloc_new w.drew _,hge,grownCap_le_maxLen w (n+1) cap TIn (hml _ (by omega)),.inr ?_,?_⟩⟩,⟨rfl,rfl,rfl,by simp,fun k hk _=>(Fr.alloc (fun _=>False) w.drew _).block k hk (fun h=>h)⟩,.inr rfl⟩
   ·simp only [Array.size_append,List.size_toArray,size_zeroCells]
    simp [Value.cells,h0]
    omega
   ·simp only [Array.toList_append,List.append_assoc,List.drop_zero]
    rw [←List.append_assoc]
    exact List.take_left' (by simp [h0])
theorem wpListIn_append_q {F:Fence} {n:Nat} (w:World) {ops:Array Oper} {rest:List Oper} {o:Oper} {a:Act} {Q:Exit→Act→World→Prop}
  (hg:o.guard=none) (s x:Operand) (hop:o.op=Op.call { callee:=Callee.builtin Builtin.append,args:= #[s,x],argTypes:= #[TIs,TIs] })
  (v:Value) (k:Nat) (xs:List Value) (hs:a.eval s=v) (hq:QRow w v k xs) (u:Value) (hu1:u.oneCell'=true) (ad:Addr) (c:Nat) (hx:a.eval x=.slice (some ad) 1 c)
  (hc:∀j y,[u][j]? =some y→w.cell? (ad.add j)=some y) (hk:k≤1000000)
  (hK:∀v' w',QRow w' v' (k+1) (xs++ [u])→w.grownBy w' v.ownBlock→(v'.ownBlock=v.ownBlock∨v'.ownBlock=some w.heap.size)→wpListIn F n prog ops Q rest (a.put o.dst v') w'):
  wpListIn F n prog ops Q (o::rest) a w:=by
 refine wpListIn_plain hg fun K hK'=>?_
 obtain ⟨v',w',hrun,r1,r2,r3⟩:=run_append_q w o.type v k xs hq u hu1 ad c hc hk
 unfold Oper.wpIn
 refine ⟨?_,?_⟩
 ·simp [Oper.about,hop,resolve,Target.leads,Sem.run_pure]
 ·rw [Oper.semAt_plain F _ _ (by rw [hop];intro c hc';cases hc')]
  simp [execOp,hop,resolve,invoke,builtin,hs,hx,hrun,Result.andThen]
  exact hK' _ _ (hK v' w' r1 r2 r3)
end Wrk
set_option maxRecDepth 100000
set_option maxHeartbeats 2000000
namespace Wrk
attribute [local go_sem] Oper.semAt_some
theorem QRow.isSl {w:World} {v:Value} {n:Nat} {xs:List Value} (h:QRow w v n xs):∃A c,v=.slice A n c:=by
 rcases h.2 with ⟨rfl,rfl⟩| ⟨g,o,cap,cur,rfl,-⟩
 ·exact ⟨_,_,rfl⟩
 ·exact ⟨_,_,rfl⟩
def QC (v0:Value) (w:World) (lo hi Bo:Nat) (W:World) (k:Nat) (xs:List Value):Prop:=
 ∃v,Bk W Bo #[v] TIs∧QRow W v k xs∧Fr (fun b=>v0.ownBlock=some b) w W∧∀b,v.ownBlock=some b→(v0.ownBlock=some b∨w.heap.size≤b)∧¬Rg lo hi b∧b≠Bo
theorem QC.abide {v0:Value} {w A C:World} {lo hi Bo k:Nat} {xs:List Value} (h:QC v0 w lo hi Bo A k xs) (hf:Fr (Rg lo hi) A C) (hl:w.heap.size≤lo) (hB:¬Rg lo hi Bo):QC v0 w lo hi Bo C k xs:=by
 obtain ⟨v,h1,h2,h3,h4⟩:=h
 exact ⟨v,h1.fr hf (fun b hb=>by simp at hb;subst hb;exact hB),h2.fr hf (fun b hb=>(h4 b hb).2.1),h3.trans hf (fun _ _ h=>h) (fun i hi h=>by have:=h.1;omega),h4⟩
theorem AppendSeq (A:Option Addr) (cap n:Nat) (xs:List Value) (gf:Nat) (lb:Array Value) (FP:List Nat) (c:Nat) (LL:List Int) (w:World) (hq:QRow w (Value.slice A n cap) n xs) (eg:∀args w,(callFunc gf args).run prog w=.ok (.enter gf args) w)
  (hseq:∀W,Fr (fun _=>False) w W→SeqP prog gf lb (fun k:Int=> #[.int .i64 k]) FP c LL W) (hFP:∀b∈FP,b<w.heap.size∧(Value.slice A n cap).ownBlock≠some b) (hlen:n+LL.length≤1000000):
  Calls prog 133 #[.slice A n cap,.func (.func gf) #[] lb] w fun e w'=>∃v',e=.returned v'∧QRow w' v' (n+LL.length) (xs++ints LL)∧Fr (fun b=>(Value.slice A n cap).ownBlock=some b) w w'∧∀b,v'.ownBlock=some b→(Value.slice A n cap).ownBlock=some b∨w.heap.size≤b:=by
 have HFP:=Lib.hid hFP;have HLen:=Lib.hid hlen;have HE:=Lib.hid eg
 have hfa:=Fr.alloc (fun _=>False) w (.cells #[(Value.slice A n cap)] TIs)
 have hsz1:(w.alloc (.cells #[(Value.slice A n cap)] TIs)).heap.size=w.heap.size+1:=by simp
 have HSeq:=Lib.hid (hseq _ hfa)
 have HQ0:Hid (QC (Value.slice A n cap) w (w.heap.size+1) (w.heap.size+1+2+c) w.heap.size (w.alloc (.cells #[(Value.slice A n cap)] TIs)) n xs):=⟨(Value.slice A n cap),Bk.new w #[(Value.slice A n cap)] TIs,hq.fr hfa (fun _ _ h=>h),hfa.mono (fun _ _ h=>h.elim),fun b hb=>by
  obtain ⟨cc,hc⟩:=hq.lt b hb
  have:=lt_of_heap hc
  exact ⟨.inl hb,fun h=>by have:=h.1;omega,by omega⟩⟩
 have HZ:=Lib.hid hsz1
 have HB0:Hid (∀b,(Value.slice A n cap).ownBlock=some b→b<w.heap.size):=fun b hb=>by
  obtain ⟨cc,hc⟩:=hq.lt b hb
  exact lt_of_heap hc
 clear hq hseq hFP hlen eg hfa hsz1
 refine (callsIn_wide (n:=3)).1 ?_
 refine callsIn_of_wp_marks func133 rfl trivial ?_ rfl
 simp only [ntmps133,List.size_toArray,List.length_cons,List.length_nil,Nat.reduceAdd,Nat.reduceSub,Array.replicate_succ,Array.replicate_zero,List.push_toArray,List.append_toArray,List.nil_append,List.cons_append]
 refine wpIn_wide.2 ?_
 go_wp2_with fail
 generalize (w.alloc (.cells #[(Value.slice A n cap)] TIs))=W1 at *
 refine (wpIn_wide (n:=3)).1 ?_
 refine range_P' (n:=3) (a₁:=?fr) (gf:=gf) (lb:=lb) rfl HE.out HSeq.out (fun b hb=>by have:=(HFP.out b hb).1;have:=HZ.out;omega) (fun _=>rfl)
  (fun (pre:List Int) (A1:World)=>QC (Value.slice A n cap) w W1.heap.size (W1.heap.size+2+c) w.heap.size A1 (n+pre.length) (xs++ints pre)∧W1.heap.size≤A1.heap.size)
  (fun k (_:List Int) (_:World)=>False)
  (fun pre A1 C hA hf=>⟨hA.1.abide hf (by have:=HZ.out;omega) (fun h=>by have:=h.1;have:=HZ.out;omega),Nat.le_trans hA.2 hf.size⟩)
  (fun k pre A1 C hA hf=>hA.elim)
  ⟨by rw [HZ.out];simpa using HQ0.out,Nat.le_refl _⟩ ?assign ?body ?done ?stop
 case assign=>
  intro l m x W K hK
  gi_wp2
  exact hK
 case body=>
  rintro l2 m pre x W2 ⟨⟨v,hv,hrow,hfr,hown⟩,hsz0⟩ hsz hpre rfl ⟨r,hl⟩ hd
  (try dsimp only)
  have hml:pre.length<LL.length:=by have:=hpre.length_le;rw [List.length_append,List.length_singleton] at this;omega
  have HV:=Lib.hid hv;have HRow:=Lib.hid hrow;have HFr:=Lib.hid hfr;have HOwn:=Lib.hid hown;have HSz:=Lib.hid hsz;have HMl:=Lib.hid hml
  have HL:=Lib.hid hl;have HD:=Lib.hid hd
  have cv:=hv.cell 0
  have fv:=hv.free 0
  have hfb:=Fr.alloc (fun _=>False) W2 (.cells #[.int .i64 x] TIn)
  have hrow':=hrow.fr hfb (fun _ _ h=>h)
  have HFb:=Lib.hid hfb
  have hk:n+pre.length≤1000000:=by have:=HLen.out;omega
  clear hv hrow hfr hown hsz hl hd hpre hfb hsz0
  gi_wp2_with (gi_at_builtin;refine wpListIn_append_q _ rfl (.tmp 8) (.tmp 10) rfl v _ _ rfl hrow' (.int .i64 x) rfl ⟨W2.heap.size,0,none⟩ 1 rfl (cell_one_new _ _ _) hk ?_)
  intro v' w3 hrow3 hgrow hat
  obtain ⟨A',c',hv'⟩:=hrow3.isSl
  subst hv'
  have hf3:Fr (fun b=>v.ownBlock=some b) W2 w3:=HFb.out.trans (Fr.grown hgrow (S:=fun b=>v.ownBlock=some b) (fun _ h=>h)) (fun _ _ h=>h.elim) (fun _ _ h=>h)
  have hv3:Bk w3 w.heap.size #[v] TIs:=HV.out.fr hf3 (fun b hb h=>by simp at hb;subst hb;exact (HOwn.out _ h).2.2 rfl)
  have HV3:=Lib.hid hv3;have HF3:=Lib.hid hf3;have HRow3:=Lib.hid hrow3;have HAt:=Lib.hid hat
  have cv3:=hv3.cell 0
  have fv3:=hv3.free 0
  clear hv3 hf3 hrow3 hgrow hat cv fv hrow'
  gi_wp2_with fail
  have hs:=Fr.setCell w3 ⟨w.heap.size,0,none⟩ (Value.slice A' (n+pre.length+1) c') (S:=(· =w.heap.size)) rfl
  have hsz2:=HSz.out
  have hz:=HZ.out
  have hsv:W2.heap.size≤w3.heap.size:=HF3.out.size
  have hbk:W2.heap.size<w3.heap.size∨True:=.inr trivial
  have hF:Fr (fun b=>b=w.heap.size∨v.ownBlock=some b) W2 (w3.setCell ⟨w.heap.size,0,none⟩ (Value.slice A' (n+pre.length+1) c')):=HF3.out.trans hs (fun _ _ h=>.inr h) (fun _ _ h=>.inl h)
  refine ⟨KeptR.of_fr hF hsz2 ?_,hF.size,KeptL.of_fr hF (fun b hb=>⟨by have:=(HFP.out b hb).1;omega,?_⟩),⟨(Value.slice A' (n+pre.length+1) c'),?_,?_,?_,?_⟩,by have:=hF.size;omega⟩
  ·rintro b hb (e|e)
   ·have:=hb.1;omega
   ·exact (HOwn.out b e).2.1 hb
  ·rintro (e|e)
   ·have:=(HFP.out b hb).1;omega
   ·rcases (HOwn.out b e).1 with h|h
    ·exact (HFP.out b hb).2 h
    ·have:=(HFP.out b hb).1;omega
  ·simpa using HV3.out.set 0 (Value.slice A' (n+pre.length+1) c')
  ·have hne:∀b,(Value.slice A' (n+pre.length+1) c').ownBlock=some b→¬b=w.heap.size:=fun b hb e=>by
    rcases HAt.out with h|h
    ·rw [h] at hb;exact (HOwn.out b hb).2.2 e
    ·rw [h] at hb;cases hb
     have:(W2.alloc (.cells #[.int .i64 x] TIn)).heap.size=W2.heap.size+1:=by simp
     omega
   have:=HRow3.out.fr hs (fun b hb e=>hne b hb e)
   rw [List.length_append,List.length_singleton,←Nat.add_assoc]
   simpa [ints] using this
  ·exact (HFr.out.trans HF3.out (fun _ _ h=>h) (fun i hi h=>by
    rcases (HOwn.out i h).1 with h|h
    ·exact h
    ·omega)).trans hs (fun _ _ h=>h) (fun i hi h=>by omega)
  ·intro b hb
   rcases HAt.out with h|h
   ·rw [h] at hb;exact HOwn.out b hb
   ·rw [h] at hb;cases hb
    have:(W2.alloc (.cells #[.int .i64 x] TIn)).heap.size=W2.heap.size+1:=by simp
    exact ⟨.inr (by omega),fun hr=>by have:=hr.2;omega,by omega⟩
 case done=>
  rintro W3 hsz ⟨⟨v,hv,hrow,hfr,hown⟩,hsz0⟩ hK
  have cc:=hv.cell 0
  have HV:=Lib.hid hv;have HRow:=Lib.hid hrow;have HFr:=Lib.hid hfr;have HOwn:=Lib.hid hown;have HK:=Lib.hid hK
  clear hv hrow hfr hown hK
  go_wp2_with fail
  try rw [Exit.noGoto_ret]
  refine ⟨by simp,.inl ⟨_,_,rfl,run_takeDeferred HK.out,?_⟩⟩
  have hn:=HZ.out
  have hf:=Fr.putObj W3 W1.heap.size (.deferred none) (S:=(· =W1.heap.size)) rfl
  exact ⟨_,by simp [results,Tryz.results133,go_sem],v,rfl,HRow.out.fr hf (fun b hb e=>(HOwn.out b hb).2.1 ⟨by omega,by omega⟩),HFr.out.trans hf (fun _ _ h=>h) (fun i hi h=>by omega),fun b hb=>(HOwn.out b hb).1⟩
 case stop=>
  rintro k pre W3 hsz hpre h hK
  exact h.elim
end Wrk
end Go.Proofs.YtgfjpnpbkkadpaaGreat
