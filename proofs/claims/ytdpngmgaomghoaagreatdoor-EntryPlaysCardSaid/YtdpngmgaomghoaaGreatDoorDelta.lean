/- What becomes of sets of records: the program's: is it a set, may it be, what is between. -/
import Derived.Test.YtdpngmgaomghoaaGreatDoorSli
namespace Go.Proofs.YtdpngmgaomghoaaGreatDoor
open Tryz
set_option maxRecDepth 100000
set_option maxHeartbeats 400000
open Go.RowKit Go.Shelf
namespace Delta
open KeyP PackP SetP SetW SetF Sli
attribute [local go_sem] Eng.ev Eng.getO_cons Eng.getO_nil
abbrev TDl:TypeId:=36
theorem Clone (A:Option Addr) (c:Nat) (L:List Sn) (w:World) (hS:Ls w A c L) (hlen:L.length≤1000000):
  Calls prog 78 #[.slice A L.length c] w (LsPost L w):=by
 obtain ⟨i0,hi,hz0,hz1,hz2⟩:=info_parts infoS
 have HOk:=Lib.hid hS.ok
 cases A with
 |none=>
  obtain rfl:c=0:=hS.s.2.2.2.1 rfl
  have hl:L.length=0:=by have:=hS.s.2.1;omega
  obtain rfl:L= []:=List.length_eq_zero_iff.1 hl
  clear hS hl
  have kn:∀W:World,(binOp .eql TSs (.slice none 0 0) (.slice none 0 0)).run prog W=.ok (.bool true) W:=fun W=>Lib.run_eql_slice_nil W TSs TSn none 0 0 0 0 underlying31
  go_enter func78,ntmps78
  go_wp2_with fail
  go_ret
  exact ⟨none,0,rfl,Ls.nil _,World.ownsRow_nil _ _ _ _,Below.refl _ _⟩
 |some a=>
  obtain ⟨b,o,s⟩:=a
  have HS:=Lib.hid (hS.keep (Fr.alloc (fun _=>False) w (.cells #[] TSn)))
  have hown:(w.alloc (.cells #[] TSn)).ownsRow w.heap.size TSn 9 (.slice (some ⟨w.heap.size,0,none⟩) 0 0) 0 []:=
   ⟨rfl,.inr ⟨_,0,#[],rfl,Nat.le_refl _,heap_new _ _,Nat.le_refl _,by simp [maxLen],rfl,rfl⟩⟩
  have HO:=Lib.hid hown
  have kn:∀W:World,(binOp .eql TSs (.slice (some ⟨b,o,s⟩) L.length c) (.slice none 0 0)).run prog W=.ok (.bool false) W:=fun W=>Lib.run_eql_slice_nil W TSs TSn (some ⟨b,o,s⟩) L.length c 0 0 underlying31
  clear hS hown
  go_enter func78,ntmps78
  go_wp2_with (at_builtin;refine wpList_append_sl _ rfl (.tmp 5) (.tmp 6) TSs rfl w.heap.size TSn i0 (.agg #[.int .i64 0,.int .i64 0,.int .i64 0,.int .i64 0,.string ByteArray.empty,.string ByteArray.empty,.int .i64 0,.int .i64 0,.bool false]) 9 88 underlying31 hi hz0 hz1 hz2 rfl (by decide) _ _ _ rfl HO.out _ _ _ _ rfl HS.out.s (cells_one _) ?_ ?_ ?_ ?_)
  ·unfold maxLen;omega
  ·omega
  ·simp
  intro v1 w3 hown1 hgrow1
  obtain ⟨A2,c2,rfl,hs2,-⟩:=Sl.of_own hown1
  have HO1:=Lib.hid hown1;have HS2:=Lib.hid hs2
  have HB:=Lib.hid (((Below.refl w.heap.size w).alloc (Nat.le_refl _) (.cells #[] TSn)).grown hgrow1 (by simp) (fun k e=>by cases e;exact Nat.le_refl _))
  clear hown1 hgrow1 hs2
  go_wp2_with fail
  go_ret
  exact ⟨A2,c2,rfl,⟨HS2.out,HOk.out⟩,HO1.out,HB.out⟩
structure Dl where
 A1:Option Addr
 c1:Nat
 O:List Sn
 A2:Option Addr
 c2:Nat
 I:List Sn
abbrev Dl.cs (d:Dl):List Value:= [.slice d.A1 d.O.length d.c1,.slice d.A2 d.I.length d.c2]
abbrev Dl.arr (d:Dl):Array Value:= #[.slice d.A1 d.O.length d.c1,.slice d.A2 d.I.length d.c2]
abbrev Dl.v (d:Dl):Value:=.agg d.arr
structure RdD (w:World) (d:Dl):Prop where
 o:Ls w d.A1 d.c1 d.O
 i:Ls w d.A2 d.c2 d.I
theorem RdD.keep {w w':World} {d:Dl} (h:RdD w d) (hf:Fr (fun _=>False) w w'):RdD w' d:=⟨h.o.keep hf,h.i.keep hf⟩
theorem RdD.below {w w':World} {d:Dl} (h:RdD w d) (hb:Below w.heap.size w w'):RdD w' d:=h.keep (Fr.of_below' hb _)
end Delta
end Go.Proofs.YtdpngmgaomghoaaGreatDoor
