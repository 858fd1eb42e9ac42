/- Arguments opened: slices of whatever elements. No program is named. -/
import Derived.Test.YtdpngmgaomghoaaGreatDoorBase
import Derived.ProofKit
import Derived.Deep.Fields
import Derived.Test.YtdpngmgaomghoaaGreatDoorChecked
namespace Go.Proofs.YtdpngmgaomghoaaGreatDoor
open Tryz
open Go.RowKit Go.ChangeShapes Go.WideShapes Go.Deep
section
variable {H:Type} {enc:TypeId × Value→H} {P:Program} {w:World} {base:Nat} {held:Bool}
theorem list_of {α:Type} (p:Nat→α→Prop):∀ (n:Nat),(∀i,i<n→∃a,p i a)→∃l:List α,l.length=n∧∀i (h:i<l.length),p i l[i]
 |0,_=>⟨[],rfl,fun i h=>by simp at h⟩
 |n+1,h=>by
  obtain ⟨l,hl,hp⟩:=list_of p n (fun i hi=>h i (by omega))
  obtain ⟨a,ha⟩:=h n (by omega)
  refine ⟨l++ [a],by simp [hl],fun i hi=>?_⟩
  by_cases e:i<l.length
  ·rw [List.getElem_append_left e];exact hp i e
  ·have:i=n:=by simp at hi;omega
   subst this
   rw [List.getElem_append_right (by omega)];simpa [hl] using ha
theorem field_int {t:TypeId} {k:IntKind} {n:Nat} {v:Value} {y:Option (DataW H × List MemPlace)} {spare:Nat→Bool} (ht:P.underlying t=some (.int k)) (h:DataW.trod enc P w base spare held n t [v]=y) (hy:y.isSome=true):∃z,v=.int k z∧(Lit.int k z).wf=true:=by
 obtain ⟨x,hx⟩:=Option.isSome_iff_exists.1 hy
 rw [hx] at h
 obtain ⟨z,h1,-,h2⟩:=DataW.trod_int ht h
 simp at h1
 exact ⟨z,h1,h2⟩
theorem open_sl {t e:TypeId} {sz fuel:Nat} {cs:List Value} {x:DataW H × List MemPlace} (ht:P.underlying t=some (.slice e)) (hc:P.cellsOf e=sz) (hsz:0<sz) {α:Type} (f:α→List Value) (G:α→Prop) (hf:∀x,(f x).length=sz)
  (hel:∀n cs' y,DataW.trod enc P w base (fun _=>true) held n e cs'=some y→∃a,cs'=f a∧G a) (h:DataW.trod enc P w base (fun _=>true) held fuel t cs=some x):
  ∃ (A:Option Addr) (cap:Nat) (xs:List α),cs= [.slice A xs.length cap]∧Sl w sz A xs.length cap (xs.flatMap f)∧∀a∈xs,G a:=by
 rcases open_slice ht h with ⟨rfl,-⟩| ⟨a,len,cap,m,n,D,Pl,rfl,hb,hl,hm,hmm,-,hi⟩
 ·exact ⟨none,0,[],rfl,Sl.empty _ _,by simp⟩
 ·rw [if_pos rfl] at hmm
  obtain ⟨xs,hx,hp⟩:=list_of (fun i (y:α)=>(w.cells? base (a.add (i*sz)) sz=some (f y))∧G y) len (fun i hil=>by
   obtain ⟨cs',h1,h2⟩:=hi i (by omega)
   obtain ⟨y,rfl,hy⟩:=hel _ _ _ h2
   rw [hc] at h1
   exact ⟨y,h1,hy⟩)
  subst hx
  refine ⟨some a,cap,xs,rfl,⟨flat_length hf xs,hl,hm,by simp,fun hne=>?_⟩,fun y hy=>?_⟩
  ·have hpos:0<xs.length:=by cases xs with|nil=>simp at hne|cons=>simp
   have h0:=(World.cells?_some (hp 0 hpos).1).2.2 0 hsz
   rw [Nat.zero_mul] at h0
   have hsp:a.spot=none:=by
    have hfl:=hf xs[0]
    cases hs:a.spot with
    |none=>rfl
    |some q=>
     simp only [Addr.add,World.cell?] at h0
     rw [List.getElem?_eq_getElem (by omega)] at h0
     simp [hs] at h0
     split at h0<;>simp at h0
   obtain ⟨b,o,s⟩:=a
   dsimp only at hsp
   subst hsp
   refine ⟨b,o,rfl,fun i u hu=>?_⟩
   have hil:i<xs.length*sz:=by
    have:=(List.getElem?_eq_some_iff.1 hu).1
    rwa [flat_length hf] at this
   have hk:i / sz<xs.length:=(Nat.div_lt_iff_lt_mul hsz).2 hil
   have hj:i % sz<sz:=Nat.mod_lt _ hsz
   have he:i=i / sz*sz+i % sz:=by rw [Nat.mul_comm];exact (Nat.div_add_mod i sz).symm
   have h1:=(World.cells?_some (hp _ hk).1).2.2 _ hj
   rw [he,flat_at hf hk hj] at hu
   rw [hu] at h1
   rw [Go.Deep.add_add] at h1
   have:(⟨b,o,none⟩:Addr).add (i / sz*sz+i % sz)=⟨b,o+i,none⟩:=by
    rw [←he];unfold Addr.add
    by_cases h0:i=0
    ·rw [if_pos h0,h0];rfl
    ·rw [if_neg h0]
   rw [this] at h1
   exact h1
  ·obtain ⟨i,hi',rfl⟩:=List.getElem_of_mem hy
   exact (hp i hi').2
end
open Go.ChangeShapes Go.WideShapes Go.ChangeAt Go.RowKit Go.Deep
theorem own:ownKnob prog.godebug=none:=by kernel_rfl
theorem laidOut:laidOutB prog=true:=by kernel_rfl
end Go.Proofs.YtdpngmgaomghoaaGreatDoor
