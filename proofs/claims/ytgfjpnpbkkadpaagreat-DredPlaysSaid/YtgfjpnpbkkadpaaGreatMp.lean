/- Go's maps by pairs of numbers (the texts keyed.Of makes), whatever their elements are. -/
import Derived.Test.YtgfjpnpbkkadpaaGreatKeys
namespace Go.Proofs.YtgfjpnpbkkadpaaGreat
open Tryz
open Go.RowKit
namespace Mp
open KeyP Go.ChangeMaps Go.WideElems Go.WideMaps
abbrev TS:TypeId:=9
def HR (v:Value):Option (DataW Value × List MemPlace):=some (.held v,[])
theorem key2_size (a b:Int):(key2 a b).size=16:=by unfold key2;rw [ks_size,List.length_append,kb_len,kb_len]
theorem keyedS:Maps.Keyed prog TS:=Maps.string_keyed underlying9
abbrev lk (a b:Int):Lit:=.string (key2 a b).data.toList
theorem key_of (a b:Int):keyOf prog TS (.string (key2 a b))=some (lk a b):=keyOf_string_mk underlying9 (by rw [key2_size];unfold maxLen;omega)
theorem lk_ne {a b c d:Int} (ha:wf64 a) (hb:wf64 b) (hc:wf64 c) (hd:wf64 d) (h:¬ (a=c∧b=d)):lk a b≠lk c d:=fun e=>by
 have h1:=keyedS.inj (key_of a b) (by rw [e];exact key_of c d)
 have h2:key2 a b=key2 c d:=by injection h1
 exact h (key2_inj ha hb hc hd h2)
def M (w:World) (r n:Nat) (f:Int→Int→Option Value):Prop:=
 n<1000000∧∃D:DataW Value,w.ownsMap prog TS HR r n D∧∀a b,wf64 a→wf64 b→∀z,D.atKey (lk a b) z=match f a b with|some v=>.held v|none=>z
theorem M.fr {S:Nat→Prop} {w w':World} {r n:Nat} {f:Int→Int→Option Value} (h:M w r n f) (hf:Fr S w w') (hs:¬S r):M w' r n f:=by
 obtain ⟨h0,D,h4,h5⟩:=h
 have hlt:=h4.lt
 obtain ⟨es,clock,hb,F,hsz,hD⟩:=h4
 exact ⟨h0,D,⟨es,clock,(hf.block r hlt hs).trans hb,F,hsz,hD⟩,h5⟩
theorem M.to {w:World} {r n:Nat} {f g:Int→Int→Option Value} (h:M w r n f) (hg:∀a b,wf64 a→wf64 b→g a b=f a b):M w r n g:=by
 obtain ⟨h0,D,h4,h5⟩:=h
 exact ⟨h0,D,h4,fun a b ha hb z=>by rw [hg a b ha hb];exact h5 a b ha hb z⟩
theorem M.new (w:World):M (w.alloc (.map #[] 0)) w.heap.size 0 (fun _ _=>none):=⟨by omega,_,World.ownsMap_made w _ _ _,fun _ _ _ _ _=>rfl⟩
section
variable {w:World} {r n:Nat} {f:Int→Int→Option Value} {T e:TypeId} (hT:prog.underlying T=some (.map TS e)) {zv:Value} (hz:∀w,(zeroValue e).run prog w=.ok zv w)
include hT hz
theorem M.look (h:M w r n f) {a b:Int} (ha:wf64 a) (hb:wf64 b):(Instr.lookup T (.map (some r)) (.string (key2 a b)) false).run prog w=.ok ((f a b).getD zv) w:=by
 obtain ⟨h0,D,h4,h5⟩:=h
 obtain ⟨v,ps,hrun,hv⟩:=h4.lookup keyedS hT (hz w) (show HR zv=some (.held zv,[]) from rfl) (key_of a b)
 rw [h5 a b ha hb] at hv
 simp only [HR,Option.some.injEq,Prod.mk.injEq] at hv
 cases hf:f a b with
 |none=>rw [hf] at hv;simp only [DataW.held.injEq] at hv;rw [hrun,hv.1];rfl
 |some u=>rw [hf] at hv;simp only [DataW.held.injEq] at hv;rw [hrun,hv.1];rfl
omit hz in
theorem M.upd (h:M w r n f) {a b:Int} (ha:wf64 a) (hb:wf64 b) (v:Value) {g:Int→Int→Option Value} (e1:g a b=some v) (e2:∀c d,¬ (c=a∧d=b)→g c d=f c d) (hn:n+1<1000000):
  ∃w',(Instr.mapUpdate T (.map (some r)) (.string (key2 a b)) v).run prog w=.ok () w'∧M w' r (n+1) g∧Fr (· =r) w w':=by
 obtain ⟨h0,D,h4,h5⟩:=h
 obtain ⟨w',hrun,hown,hg⟩:=h4.update keyedS hT (by unfold maxLen;omega) (key_of a b) (show HR v=some (.held v,[]) from rfl)
 refine ⟨w',hrun,⟨hn,_,hown,fun c d hc hd z=>?_⟩,Fr.grown hg (fun k e=>by cases e;rfl)⟩
 by_cases e:c=a∧d=b
 ·obtain ⟨rfl,rfl⟩:=e
  rw [Maps.atKey_put_same h4.isMap (keyedS.key (key_of c d)),e1]
 ·rw [Maps.atKey_put_other (lk_ne hc hd ha hb e),e2 c d e]
  exact h5 c d hc hd z
end
end Mp
end Go.Proofs.YtgfjpnpbkkadpaaGreat
