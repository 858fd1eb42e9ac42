/- Go's maps, whatever their keys and elements are, as functions of their keys. -/
import Derived.Test.YtdpngmgaomghoaaGreatOpens
import Derived.Maps.OwnSet
namespace Go.Proofs.YtdpngmgaomghoaaGreat
open Tryz
open Go.RowKit
namespace Mk
open Go.MapKept Go.ChangeMaps Go.WideElems Go.WideMaps
def HR (v:Value):Option (DataW Value × List MemPlace):=some (.held v,[])
structure KV {κ:Type} (tk:TypeId) (kv:κ→Value) (ok:κ→Prop):Prop where
 keyed:Maps.Keyed prog tk
 inj:∀ {a b:κ},kv a=kv b→a=b
 has:∀ {k:κ},ok k→∃l,keyOf prog tk (kv k)=some l
def PM {κ:Type} (tk:TypeId) (kv:κ→Value) (ok:κ→Prop) (w:World) (r n:Nat) (f:κ→Option Value):Prop:=
 n<1000000∧∃D:DataW Value,w.ownsMap prog tk HR r n D∧∀k l,ok k→keyOf prog tk (kv k)=some l→∀z,D.atKey l z=match f k with|some v=>.held v|none=>z
section
variable {κ:Type} {tk:TypeId} {kv:κ→Value} {ok:κ→Prop} {w w':World} {r n:Nat} {f:κ→Option Value}
theorem PM.fr {S:Nat→Prop} (h:PM tk kv ok w r n f) (hf:Fr S w w') (hs:¬S r):PM tk kv ok w' r n f:=by
 obtain ⟨h0,D,h4,h5⟩:=h
 have hlt:=h4.lt
 obtain ⟨es,clock,hb,F,hsz,hD⟩:=h4
 exact ⟨h0,D,⟨es,clock,(hf.block r hlt hs).trans hb,F,hsz,hD⟩,h5⟩
theorem PM.new (w:World):PM tk kv ok (w.alloc (.map #[] 0)) w.heap.size 0 (fun _=>none):=⟨by omega,_,World.ownsMap_made w _ _ _,fun _ _ _ _ _=>rfl⟩
theorem PM.to (h:PM tk kv ok w r n f) {g:κ→Option Value} (hg:∀k,ok k→g k=f k):PM tk kv ok w r n g:=by
 obtain ⟨h0,D,h4,h5⟩:=h
 exact ⟨h0,D,h4,fun k l hk hl z=>by rw [hg k hk];exact h5 k l hk hl z⟩
variable (K:KV tk kv ok) {T e:TypeId} (hT:prog.underlying T=some (.map tk e)) {zv:Value} (hz:∀w,(zeroValue e).run prog w=.ok zv w)
include K hT
theorem PM.upd (h:PM tk kv ok w r n f) {k:κ} (hk:ok k) (v:Value) {f':κ→Option Value} (e1:f' k=some v) (e2:∀j,j≠k→f' j=f j) (hn:n+1<1000000):
  ∃w',(Instr.mapUpdate T (.map (some r)) (kv k) v).run prog w=.ok () w'∧PM tk kv ok w' r (n+1) f'∧Fr (· =r) w w':=by
 obtain ⟨h0,D,h4,h5⟩:=h
 obtain ⟨l,hl⟩:=K.has hk
 obtain ⟨w',hrun,hown,hg⟩:=h4.update K.keyed hT (by unfold maxLen;omega) hl (show HR v=some (.held v,[]) from rfl)
 refine ⟨w',hrun,⟨hn,_,hown,fun j lj hj hlj z=>?_⟩,Fr.grown hg (fun k e=>by cases e;rfl)⟩
 by_cases e:j=k
 ·subst e
  rw [hl] at hlj;cases hlj
  rw [Maps.atKey_put_same h4.isMap (K.keyed.key hl),e1]
 ·have hne:lj≠l:=fun el=>e (K.inj (K.keyed.inj hlj (el▸hl)))
  rw [Maps.atKey_put_other hne,e2 j e]
  exact h5 j lj hj hlj z
include hz
theorem PM.look_ok (h:PM tk kv ok w r n f) {k:κ} (hk:ok k):(Instr.lookup T (.map (some r)) (kv k) true).run prog w=.ok (.tuple #[(f k).getD zv,.bool (f k).isSome]) w:=by
 obtain ⟨h0,D,h4,h5⟩:=h
 obtain ⟨l,hl⟩:=K.has hk
 obtain ⟨v,ps,hrun,hv⟩:=h4.look_ok K.keyed hT (hz w) (show HR zv=some (.held zv,[]) from rfl) hl
 have h6:=h5 k l hk hl
 rw [h6] at hv
 simp only [HR,Option.some.injEq,Prod.mk.injEq] at hv
 cases hf:f k with
 |none=>
  rw [hf] at hv h6;simp only [DataW.held.injEq] at hv
  rw [hrun,hv.1,Maps.has_false_of_atKey h6];rfl
 |some u=>
  rw [hf] at hv h6;simp only [DataW.held.injEq] at hv
  rw [hrun,hv.1,Maps.has_true_of_atKey h6];rfl
end
end Mk
end Go.Proofs.YtdpngmgaomghoaaGreat
