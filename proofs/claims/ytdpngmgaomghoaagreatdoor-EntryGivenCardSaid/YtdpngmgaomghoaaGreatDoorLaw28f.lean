/- Layer 28's statements: EntryFinds: for every input the answer is true. -/
import Derived.Test.YtdpngmgaomghoaaGreatDoorLaw28a
import Derived.Test.YtdpngmgaomghoaaGreatDoorDelta3n
namespace Go.Proofs.YtdpngmgaomghoaaGreatDoor
open Go.RowKit
namespace Law28
open BagP KeyP EntP OpsP PackP SetP SetW SetF Sli Name Pack Delta ClsW
open Ent (EV TV bg mays apE TI TIs ints infoI TE TEs En EL AllPost)
attribute [local go_sem] Eng.ev Eng.getO_cons Eng.getO_nil
theorem few_len' {L:List Sn} {n:Nat} (h:fewB L n=true):L.length≤n:=by unfold fewB at h;simp at h;exact h.2
theorem wout_perm (A B:List Sn):(A.filter (fun x=>decide (x∈B))++wout B A).Perm A:=List.filter_append_perm (fun x=>decide (x∈B)) A
theorem both_perm {A B:List Sn} (hA:Srs A) (hB:Srs B):(A.filter (fun x=>decide (x∈B))).Perm (B.filter (fun x=>decide (x∈A))):=by
 refine (List.perm_ext_iff_of_nodup ((srs_nodup hA).filter _) ((srs_nodup hB).filter _)).2 (fun x=>?_)
 simp [List.mem_filter,and_comm]
theorem bg_perm {A B:List Sn} (h:A.Perm B):(bg A).Perm (bg B):=(h.filter _).map _
theorem bg_len (A:List Sn):(bg A).length≤A.length:=by unfold bg;rw [List.length_map];exact List.length_filter_le _ _
theorem apply_bet {P N:List Sn} (hP:PackP.Ok P) (hN:PackP.Ok N):∃r,apE (wout N P) (wout P N) (bg P)=some r∧(bg N).Perm r:=by
 have hO:PackP.Ok (wout N P):=hP.filter _
 have hI:PackP.Ok (wout P N):=hN.filter _
 unfold apE
 rw [Ent.ok_mays hO,Ent.ok_mays hI]
 have p1:(bg P).Perm (bg (wout N P)++bg (P.filter (fun x=>decide (x∈N)))):=by
  rw [←Ent.bg_app];exact bg_perm (((wout_perm P N).symm).trans List.perm_append_comm)
 obtain ⟨r',e,hr⟩:=outK_of p1
 have p2:(bg (P.filter (fun x=>decide (x∈N)))++bg (wout P N)).Perm (bg N):=by
  rw [←Ent.bg_app]
  exact bg_perm (((both_perm hP.srs hN.srs).append_right _).trans (wout_perm N P))
 refine ⟨bg (wout P N)++r',?_,p2.symm.trans (List.perm_append_comm.trans (hr.symm.append_left _))⟩
 rw [e];rfl
section
variable {w0 w w':World} {B:Nat} {q:List Tk} {F:List Nat} {xl:Lv} {An:Option Addr} {cn:Nat} {N:List Sn} {b1 o:Nat}
end
section
variable {w0 w w':World} {B:Nat} {q:List Tk} {F:List Nat} {xl:Lv} {An:Option Addr} {cn:Nat} {N:List Sn} {b1 o:Nat} {Ap:Option Addr} {cp:Nat} {P:List Sn}
variable {A:Option Addr} {c:Nat} {T:List En} {A':Option Addr} {c':Nat} {U:List En}
end
end Law28
end Go.Proofs.YtdpngmgaomghoaaGreatDoor
