/- The maps in order (avl) at one instance: All, as loops range over it. -/
import Derived.Test.YtdpngmgaomghoaaGreatDoorAvlSI2
namespace Go.Proofs.YtdpngmgaomghoaaGreatDoor
open Tryz
set_option maxHeartbeats 1000000
open Go.RowKit Go.Shelf
attribute [local go_sem] Oper.semAt_some
namespace AvlSI
theorem All1 (n l:Nat) (FP:List Nat) (J Jx:List (ByteArray × Int)→World→Prop) (B0:Nat) (p:Option Addr) (L:List (ByteArray × Int)) (F:List Nat)
  (hJd:∀pre W W',J pre W→W'.heap=W.heap→W'.os=W.os→W'.tape=W.tape→W'.output=W.output→J pre W')
  (hY:∀m pre x W,J pre W→pre++ [x]<+:L→YieldAt Fence.wide m prog l (encs x) W fun e W'=>
   (e=.returned (.bool true)∧J (pre++ [x]) W'∧Kept FP W W')∨(e=.returned (.bool false)∧Jx (pre++ [x]) W'))
  (W:World) (hc:W.cell? ⟨B0,0,none⟩=some (.pointer p)) (hM:MapP W p L F) (hF:∀b∈F,b∈FP) (h0:J [] W):
  CallsIn Fence.wide n prog 70 #[.func (.yield l) #[] #[],.pointer (some ⟨B0,0,none⟩)] W fun e W'=>(∃v,e=.returned v)∧
   ((∃ys,ys=L∧J ys W')∨(∃pre,pre<+:L∧Jx pre W')):=by
 obtain ⟨t,rfl,rfl,hI,ht⟩:=hM.top
 have hp:=Lib.hid (give_all l t.toL FP J Jx hJd hY t (n-1) [] W hI hF h0 (by simp))
 have HT:=Lib.hid ht
 clear ht hY hM hI
 have hdd:∀k:Nat,(Fence.wide.depth.isSome=true→1≤k):=fun k h=>by cases h
 refine callsIn_of_wp func70 rfl trivial ?_ rfl
 simp only [ntmps70,List.size_toArray,List.length_cons,List.length_nil,Nat.reduceAdd,Nat.reduceSub,Array.replicate_succ,Array.replicate_zero,List.push_toArray,List.append_toArray,List.nil_append,List.cons_append]
 gi_wp2_with fail
 refine ⟨trivial,hdd _,?_⟩
 refine (callsIn_wide.2 HT.out).mono ?_
 rintro e w1 ⟨rfl,rfl⟩
 gi_wp2_with fail
 refine ⟨trivial,hdd _,?_⟩
 refine hp.out.mono ?_
 clear hp
 rintro e W1 (⟨rfl,hJ1,_⟩| ⟨rfl,q,hq,hx⟩)
 ·have HJ:=Lib.hid hJ1
  clear hJ1
  gi_wp2_with fail
  go_end0
  exact ⟨⟨_,rfl⟩,.inl ⟨_,rfl,by simpa using HJ.out⟩⟩
 ·have HX:=Lib.hid hx;have HQ:=Lib.hid hq
  clear hx hq
  gi_wp2_with fail
  go_end0
  exact ⟨⟨_,rfl⟩,.inr ⟨q,HQ.out,by simpa using HX.out⟩⟩
theorem All (p:Option Addr) (w:World):
  Calls prog 47 #[.pointer p] w fun e w'=>e=.returned (.func (.func 70) #[] #[.pointer (some ⟨w.heap.size,0,none⟩)])∧w.alloc (.cells #[.pointer p] 88 (0,0))=w':=by
 go_enter func47,ntmps47
 go_wp2
 go_ret
 exact ⟨rfl,rfl⟩
theorem All_seq (FP:List Nat) (B0:Nat) (p:Option Addr) (L:List (ByteArray × Int)) (F:List Nat) (w:World)
  (hc:w.cell? ⟨B0,0,none⟩=some (.pointer p)) (hB0:B0<w.heap.size) (hM:MapP w p L F) (hF:∀b∈F,b∈FP):
  SeqP prog 70 #[.pointer (some ⟨B0,0,none⟩)] encs FP 0 L w:=fun n l J Jx W hW hJ _ hY h0=>by
 refine (All1 n l FP (fun pre A=>J pre A∧W.heap.size≤A.heap.size) (fun pre A=>Jx pre A∧W.heap.size≤A.heap.size) B0 p L F
  (fun pre A B hA e1 e2 e3 e4=>⟨hJ pre A B hA.1 ⟨e2,e3,e4,by rw [e1];exact Nat.le_refl _,fun k _ _=>by rw [e1]⟩,by rw [e1];exact hA.2⟩)
  (fun m pre x A hA hl=>YieldAt.mono (hY m pre x A hA.1 hA.2 hl) ?_) W ((hW.cell (p:=⟨B0,0,none⟩) hB0).trans hc) (hM.below hW) hF ⟨h0,Nat.le_refl _⟩).mono ?_
 ·rintro e W' (⟨rfl,h1,h2,-,h3⟩| ⟨rfl,h1,-,h3⟩)
  ·exact .inl ⟨rfl,⟨h1,Nat.le_trans hA.2 h3⟩,h2⟩
  ·exact .inr ⟨rfl,h1,Nat.le_trans hA.2 h3⟩
 ·rintro e W' ⟨hv,(⟨ys,rfl,h1,h2⟩| ⟨pre,hp,h1,h2⟩)⟩
  ·exact ⟨hv,h2,.inl h1⟩
  ·exact ⟨hv,h2,.inr ⟨pre,hp,h1⟩⟩
end AvlSI
end Go.Proofs.YtdpngmgaomghoaaGreatDoor
