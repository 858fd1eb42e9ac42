/- Two texts that came in. -/
import Derived.Test.YtdpngmgaomghoaaGreatDoorOps2
import Derived.OpenShut
namespace Go.Proofs.YtdpngmgaomghoaaGreatDoor
open Tryz
set_option maxRecDepth 100000
open Go.ChangeShapes Go.WideShapes Go.ChangeAt Go.RowKit Go.Deep
theorem cells_s2:prog.cellsOf 54=2:=by kernel_rfl
theorem cells_s2s:prog.cellsOf 9=1:=by kernel_rfl
theorem okWide_s2 {W:World} {r:Reach} {b0:Nat} {v:Value} (h:Value.okWide prog W r b0 54 v):∃cs,v=.agg cs∧cs.size=2:=by
 simp only [Value.okWide,underlying54] at h
 obtain ⟨cs,h1,h2,_⟩:=h
 exact ⟨cs,h1,by rw [h2,cells_s2]⟩
theorem len_s2 {α:Type} {l:List α} (h:l.length=2):∃c0 c1,l= [c0,c1]:=by
 match l,h with
 | [c0,c1],_=>exact ⟨c0,c1,rfl⟩
theorem open_s2 {H:Type} {enc:TypeId × Value→H} {w:World} {n:Nat} {cs:List Value} {y:DataW H × List MemPlace} (h:DataW.trod enc prog w 0 (fun _=>true) true n 54 cs=some y):
  ∃a b:ByteArray,cs= [.string a,.string b]∧a.size≤maxLen∧b.size≤maxLen:=by
 obtain ⟨xs,m,-,-,hl,hxl,hf⟩:=DataW.trod_array underlying54 h
 rw [cells_s2] at hl
 obtain ⟨c0,c1,rfl⟩:=len_s2 hl
 have h0:=hf 0 (by omega)
 have h1:=hf 1 (by omega)
 clear hf h hl
 rw [cells_s2s] at h0 h1
 change DataW.trod enc prog w 0 (fun _=>true) true m 9 [c0]=xs[0]? at h0
 change DataW.trod enc prog w 0 (fun _=>true) true m 9 [c1]=xs[1]? at h1
 obtain ⟨z0,rfl,w0⟩:=field_strl underlying9 h0 (by simp [hxl])
 obtain ⟨z1,rfl,w1⟩:=field_strl underlying9 h1 (by simp [hxl])
 exact ⟨z0,z1,rfl,w0,w1⟩
end Go.Proofs.YtdpngmgaomghoaaGreatDoor
