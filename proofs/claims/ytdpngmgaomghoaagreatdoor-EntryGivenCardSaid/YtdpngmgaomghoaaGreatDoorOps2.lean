/- Records of spans that came in. -/
import Derived.Test.YtdpngmgaomghoaaGreatDoorKeys
namespace Go.Proofs.YtdpngmgaomghoaaGreatDoor
open Tryz
open Go.ChangeShapes Go.WideShapes Go.ChangeAt Go.RowKit Go.Deep
section
variable {H:Type} {enc:TypeId × Value→H} {P:Program} {w:World} {base:Nat} {held:Bool}
theorem field_strl {t:TypeId} {n:Nat} {v:Value} {y:Option (DataW H × List MemPlace)} {spare:Nat→Bool} (ht:P.underlying t=some .string) (h:DataW.trod enc P w base spare held n t [v]=y) (hy:y.isSome=true):∃z:ByteArray,v=.string z∧z.size≤maxLen:=by
 obtain ⟨x,hx⟩:=Option.isSome_iff_exists.1 hy
 rw [hx] at h
 obtain ⟨z,h1,-,h2⟩:=DataW.trod_string ht h
 simp at h1
 exact ⟨z,h1,h2⟩
theorem field_bool {t:TypeId} {n:Nat} {v:Value} {y:Option (DataW H × List MemPlace)} {spare:Nat→Bool} (ht:P.underlying t=some .bool) (h:DataW.trod enc P w base spare held n t [v]=y) (hy:y.isSome=true):∃z,v=.bool z:=by
 obtain ⟨x,hx⟩:=Option.isSome_iff_exists.1 hy
 rw [hx] at h
 obtain ⟨z,h1,-⟩:=DataW.trod_bool ht h
 simp at h1
 exact ⟨z,h1⟩
end
theorem in64_of {n:Int} (h:(Lit.int .i64 n).wf=true):in64 n:=by
 simp [Lit.wf,IntKind.min,IntKind.max,IntKind.signed,IntKind.bits] at h
 unfold in64
 omega
theorem cells_Span:prog.cellsOf 48=9:=by kernel_rfl
theorem len_Span {α:Type} {l:List α} (h:l.length=9):∃c0 c1 c2 c3 c4 c5 c6 c7 c8,l= [c0,c1,c2,c3,c4,c5,c6,c7,c8]:=by
 match l,h with
 | [c0,c1,c2,c3,c4,c5,c6,c7,c8],_=>exact ⟨c0,c1,c2,c3,c4,c5,c6,c7,c8,rfl⟩
theorem cells_Span_0:prog.cellsOf 3=1:=by kernel_rfl
theorem cells_Span_1:prog.cellsOf 3=1:=by kernel_rfl
theorem cells_Span_2:prog.cellsOf 3=1:=by kernel_rfl
theorem cells_Span_3:prog.cellsOf 3=1:=by kernel_rfl
theorem cells_Span_4:prog.cellsOf 9=1:=by kernel_rfl
theorem cells_Span_5:prog.cellsOf 9=1:=by kernel_rfl
theorem cells_Span_6:prog.cellsOf 3=1:=by kernel_rfl
theorem cells_Span_7:prog.cellsOf 3=1:=by kernel_rfl
theorem cells_Span_8:prog.cellsOf 4=1:=by kernel_rfl
theorem open_Span {H:Type} {enc:TypeId × Value→H} {w:World} {n:Nat} {cs:List Value} {y:DataW H × List MemPlace} (h:DataW.trod enc prog w 0 (fun _=>true) true n 48 cs=some y):
  ∃x:Sn,cs=x.cs∧x.ok:=by
 obtain ⟨xs,n',-,-,hl,hxl,hf⟩:=DataW.trod_struct underlying48 h
 rw [cells_Span] at hl
 obtain ⟨c0,c1,c2,c3,c4,c5,c6,c7,c8,rfl⟩:=len_Span hl
 have hx:xs.length=9:=hxl
 have h0:=hf 0 _ rfl
 have h1:=hf 1 _ rfl
 have h2:=hf 2 _ rfl
 have h3:=hf 3 _ rfl
 have h4:=hf 4 _ rfl
 have h5:=hf 5 _ rfl
 have h6:=hf 6 _ rfl
 have h7:=hf 7 _ rfl
 have h8:=hf 8 _ rfl
 clear h hf
 change DataW.trod enc prog w 0 (fun _=>true) true n' 3 (List.take (prog.cellsOf 3) (List.drop 0 [c0,c1,c2,c3,c4,c5,c6,c7,c8]))=xs[0]? at h0
 rw [cells_Span_0] at h0
 change DataW.trod enc prog w 0 (fun _=>true) true n' 3 (List.take (prog.cellsOf 3) (List.drop 1 [c0,c1,c2,c3,c4,c5,c6,c7,c8]))=xs[1]? at h1
 rw [cells_Span_1] at h1
 change DataW.trod enc prog w 0 (fun _=>true) true n' 3 (List.take (prog.cellsOf 3) (List.drop 2 [c0,c1,c2,c3,c4,c5,c6,c7,c8]))=xs[2]? at h2
 rw [cells_Span_2] at h2
 change DataW.trod enc prog w 0 (fun _=>true) true n' 3 (List.take (prog.cellsOf 3) (List.drop 3 [c0,c1,c2,c3,c4,c5,c6,c7,c8]))=xs[3]? at h3
 rw [cells_Span_3] at h3
 change DataW.trod enc prog w 0 (fun _=>true) true n' 9 (List.take (prog.cellsOf 9) (List.drop 4 [c0,c1,c2,c3,c4,c5,c6,c7,c8]))=xs[4]? at h4
 rw [cells_Span_4] at h4
 change DataW.trod enc prog w 0 (fun _=>true) true n' 9 (List.take (prog.cellsOf 9) (List.drop 5 [c0,c1,c2,c3,c4,c5,c6,c7,c8]))=xs[5]? at h5
 rw [cells_Span_5] at h5
 change DataW.trod enc prog w 0 (fun _=>true) true n' 3 (List.take (prog.cellsOf 3) (List.drop 6 [c0,c1,c2,c3,c4,c5,c6,c7,c8]))=xs[6]? at h6
 rw [cells_Span_6] at h6
 change DataW.trod enc prog w 0 (fun _=>true) true n' 3 (List.take (prog.cellsOf 3) (List.drop 7 [c0,c1,c2,c3,c4,c5,c6,c7,c8]))=xs[7]? at h7
 rw [cells_Span_7] at h7
 change DataW.trod enc prog w 0 (fun _=>true) true n' 4 (List.take (prog.cellsOf 4) (List.drop 8 [c0,c1,c2,c3,c4,c5,c6,c7,c8]))=xs[8]? at h8
 rw [cells_Span_8] at h8
 simp only [List.drop_zero,List.drop_succ_cons,List.take_succ_cons,List.take_zero] at h0 h1 h2 h3 h4 h5 h6 h7 h8
 obtain ⟨z0,rfl,wf0⟩:=field_int underlying3 h0 (by simp [hx])
 obtain ⟨z1,rfl,wf1⟩:=field_int underlying3 h1 (by simp [hx])
 obtain ⟨z2,rfl,wf2⟩:=field_int underlying3 h2 (by simp [hx])
 obtain ⟨z3,rfl,wf3⟩:=field_int underlying3 h3 (by simp [hx])
 obtain ⟨z4,rfl,wf4⟩:=field_strl underlying9 h4 (by simp [hx])
 obtain ⟨z5,rfl,wf5⟩:=field_strl underlying9 h5 (by simp [hx])
 obtain ⟨z6,rfl,wf6⟩:=field_int underlying3 h6 (by simp [hx])
 obtain ⟨z7,rfl,wf7⟩:=field_int underlying3 h7 (by simp [hx])
 obtain ⟨z8,rfl⟩:=field_bool underlying4 h8 (by simp [hx])
 exact ⟨⟨z0,z1,z2,z3,z4,z5,z6,z7,z8⟩,rfl,⟨in64_of wf0,in64_of wf1,in64_of wf2,in64_of wf3,in64_of wf6,in64_of wf7,wf4,wf5⟩⟩
end Go.Proofs.YtdpngmgaomghoaaGreatDoor
