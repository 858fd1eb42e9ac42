/- Layer 28's statements: EntryFinds: for every input the answer is true. -/
import Derived.Test.YtdpngmgaomghoaaGreatDoorLaw28a
namespace Go.Proofs.YtdpngmgaomghoaaGreatDoor
open Go.RowKit
namespace Law28
open BagP KeyP EntP OpsP PackP SetP SetW SetF Sli Name Pack Delta ClsW
open Ent (EV TV bg mays apE TI TIs ints infoI TE TEs En EL AllPost)
attribute [local go_sem] Eng.ev Eng.getO_cons Eng.getO_nil
theorem few_len' {L:List Sn} {n:Nat} (h:fewB L n=true):L.length≤n:=by unfold fewB at h;simp at h;exact h.2
theorem bg_len (A:List Sn):(bg A).length≤A.length:=by unfold bg;rw [List.length_map];exact List.length_filter_le _ _
section
variable {w0 w w':World} {B:Nat} {q:List Tk} {F:List Nat} {xl:Lv} {An:Option Addr} {cn:Nat} {N:List Sn} {b1 o:Nat}
end
section
variable {w0 w w':World} {B:Nat} {q:List Tk} {F:List Nat} {xl:Lv} {An:Option Addr} {cn:Nat} {N:List Sn} {b1 o:Nat} {Ap:Option Addr} {cp:Nat} {P:List Sn}
variable {A:Option Addr} {c:Nat} {T:List En} {A':Option Addr} {c':Nat} {U:List En}
end
end Law28
end Go.Proofs.YtdpngmgaomghoaaGreatDoor
