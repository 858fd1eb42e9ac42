/- What a view of operations can hold at most, plain. No program is named. -/
import Derived.Test.YtdpngmgaomghoaaGreatOpsPs
namespace Go.Proofs.YtdpngmgaomghoaaGreat
open Go.RowKit
namespace OpsP
open BagP HistP
def Cap (n:Nat) (V:Vw):Prop:=∀k,sumL (hget k V).1≤n
section
variable {n:Nat} {V V':Vw} {r:Nm × Int}
theorem Cap.nil:Cap 0 []:=fun k=>by rw [hget_none (getL_nil _)];simp [sumL]
theorem Cap.mono {m:Nat} (h:Cap n V) (hm:n≤m):Cap m V:=fun k=>by have:=h k;omega
theorem sum_addH {x:HS} (h:Wf x) (d:Int):sumL (addH d x).1≤sumL x.1+1:=by
 show sumL (addL (bk d) 1 x.1)≤_
 unfold addL
 split
 ·rw [sumL_set _ _ h.ok.srt];omega
 ·omega
theorem sum_dropH {x:HS} (h:Wf x) (d:Int):sumL (dropH d x).1≤sumL x.1:=by
 unfold dropH
 split
 ·show sumL (takeL (bk d) 1 x.1)≤_
  unfold takeL
  split
  ·rw [sumL_set _ _ h.ok.srt];omega
  ·omega
 ·omega
theorem Cap.add (hc:Cap n V) (h:Vok V) (hr:nzN r.1):Cap (n+1) (addV V r):=fun j=>by
 unfold addV
 rw [hget_ins hr]
 have h1:=sum_addH (h.wfget r.1) r.2;have h2:=hc r.1;have h3:=hc j
 split
 ·show sumL (addH r.2 (hget r.1 V)).1≤_;omega
 ·omega
theorem Cap.drop (hc:Cap n V) (h:Vok V) (hr:nzN r.1):Cap n (dropV V r):=fun j=>by
 unfold dropV
 rw [hget_set hr]
 have h1:=sum_dropH (h.wfget r.1) r.2;have h2:=hc r.1;have h3:=hc j
 split
 ·split
  ·show sumL []≤_;simp [sumL]
  ·omega
 ·exact h3
theorem Cap.adds:∀ {l:List (Nm × Int)} {V:Vw} {n:Nat},Cap n V→Vok V→(∀r∈l,nzN r.1)→Cap (n+l.length) (l.foldl addV V)
 | [],_,_,h,_,_=>h
 |r::l,V,n,h,hv,hn=>by
  have:=Cap.adds (l:=l) (h.add hv (hn r (by simp))) (hv.addV (hn r (by simp))) (fun q hq=>hn q (by simp [hq]))
  exact this.mono (by simp only [List.length_cons];omega)
theorem Cap.leave:∀ {l:List (Nm × Int)} {V V':Vw},Cap n V→Vok V→(∀r∈l,nzN r.1)→leaveV l V=some V'→Cap n V'
 | [],V,V',h,_,_,e=>by simp [leaveV] at e;exact e▸h
 |r::l,V,V',h,hv,hn,e=>by
  rw [leaveV] at e
  split at e
  ·exact Cap.leave (h.drop hv (hn r (by simp))) (hv.dropV (hn r (by simp))) (fun q hq=>hn q (by simp [hq])) e
  ·cases e
theorem leave_len:∀ {l:List (Nm × Int)} {V V':Vw},Vok V→(∀r∈l,nzN r.1)→leaveV l V=some V'→V'.length≤V.length
 | [],V,V',_,_,e=>by simp [leaveV] at e;simp [e]
 |r::l,V,V',hv,hn,e=>by
  rw [leaveV] at e
  split at e
  ·rename_i ho
   exact Nat.le_trans (leave_len (hv.dropV (hn r (by simp))) (fun q hq=>hn q (by simp [hq])) e) (dropV_len hv ho)
  ·cases e
theorem adds_le:∀ (l:List (Nm × Int)) (V:Vw),(l.foldl addV V).length≤V.length+l.length
 | [],V=>by simp
 |r::l,V=>by
  have:=adds_le l (addV V r);have h2:=insL_lenV V r
  simp only [List.foldl_cons,List.length_cons];omega
theorem Cap.apply {O I:List (Nm × Int)} (hc:Cap n V) (h:Vok V) (hO:∀r∈O,nzN r.1) (hI:∀r∈I,nzN r.1) (e:applyV O I V=some V'):Cap (n+I.length) V'∧V'.length≤V.length+I.length:=by
 unfold applyV at e
 cases hl:leaveV O V with
 |none=>rw [hl] at e;cases e
 |some V1=>
  rw [hl] at e;cases e
  refine ⟨(hc.leave h hO hl).adds (h.leave hO hl) hI,?_⟩
  have:=adds_le I V1;have:=leave_len h hO hl
  show (I.foldl addV V1).length≤_
  omega
end
end OpsP
end Go.Proofs.YtdpngmgaomghoaaGreat
