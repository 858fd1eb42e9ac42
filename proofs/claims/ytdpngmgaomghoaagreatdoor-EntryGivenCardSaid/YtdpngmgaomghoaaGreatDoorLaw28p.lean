/- Layer 28's statements: EntryPlays: for every input the answer is true. -/
import Derived.Test.YtdpngmgaomghoaaGreatDoorLaw28f
namespace Go.Proofs.YtdpngmgaomghoaaGreatDoor
open Go.RowKit
namespace Law28
open BagP KeyP EntP OpsP PackP SetP SetW SetF Sli Name Pack Delta ClsW
open Ent (EV TV bg mays apE TI TIs ints infoI TE TEs En EL AllPost)
open Rf28 (DR TRv)
attribute [local go_sem] Eng.ev Eng.getO_cons Eng.getO_nil
theorem apE_same {O I:List Sn} {q q':List Tk} (h:q.Perm q'):(apE O I q=none∧apE O I q'=none)∨∃r r',apE O I q=some r∧apE O I q'=some r'∧r.Perm r':=by
 unfold apE
 split
 ·rcases outK_same (A:=bg O) h with ⟨h1,h2⟩| ⟨r,r',h1,h2,h3⟩
  ·left;rw [h1,h2];exact ⟨rfl,rfl⟩
  ·right;rw [h1,h2];exact ⟨_,_,rfl,rfl,h3.append_left _⟩
 ·exact .inl ⟨rfl,rfl⟩
structure PV (w0 w:World) (B:Nat) (q:List Tk) (F:List Nat) (h:Nat) (L:List Sn) (R:List Nat):Prop where
 v:VE w0 w B q F
 d:DR w h L R
 g:∀b∈R,w0.heap.size≤b
 s:∀b∈R,b∉F
section
variable {w0 w w':World} {B:Nat} {q q2:List Tk} {F:List Nat} {h:Nat} {L:List Sn} {R:List Nat}
theorem PV.keep (H:PV w0 w B q F h L R) (hf:Fr (fun _=>False) w w'):PV w0 w' B q F h L R:=⟨H.v.keep hf,H.d.keep hf,H.g,H.s⟩
theorem PV.below (H:PV w0 w B q F h L R) (hb:Below w.heap.size w w'):PV w0 w' B q F h L R:=H.keep (Fr.of_below' hb _)
variable {A A':Option Addr} {c c':Nat} {T U:List En}
end
theorem PV.start (w:World):PV w ((w.alloc (.cells #[.pointer none,.int .i64 0] TV)).alloc (.cells #[.slice none 0 0] TRv)) w.heap.size [] [w.heap.size] (w.heap.size+1) [] [w.heap.size+1]:=by
 have hv:VE w (w.alloc (.cells #[.pointer none,.int .i64 0] TV)) w.heap.size [] [w.heap.size]:=VE.new (Below.refl w.heap.size w)
 have hd:=DR.new (w.alloc (.cells #[.pointer none,.int .i64 0] TV))
 rw [World.size_alloc] at hd
 refine ⟨hv.keep (Fr.alloc _ _ _),hd,fun b hb=>?_,fun b hb=>?_⟩
 ·simp at hb;omega
 ·simp at hb;subst hb;simp
end Law28
end Go.Proofs.YtdpngmgaomghoaaGreatDoor
