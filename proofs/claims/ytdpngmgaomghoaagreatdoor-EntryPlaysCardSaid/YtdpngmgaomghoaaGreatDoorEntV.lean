/- Views of entries in the heap: a map in order, from keys to how many records begin so. -/
import Derived.Test.YtdpngmgaomghoaaGreatDoorAvlSI2
import Derived.Test.YtdpngmgaomghoaaGreatDoorEntQ
namespace Go.Proofs.YtdpngmgaomghoaaGreatDoor
open Tryz
open Go.RowKit
namespace Ent
open KeyP EntP OpsP
abbrev TV:TypeId:=28
def VM (w:World) (B:Nat) (L:List (ByteArray × Int)) (M:List Nat):Prop:=
 ∃r,w.heap[B]? =some (.cells #[.pointer r,.int .i64 L.length] TV (0,0))∧AvlSI.MapIn w r L M∧B∉M
section
variable {w w':World} {B:Nat} {L:List (ByteArray × Int)} {M:List Nat}
theorem VM.fr {S:Nat→Prop} (h:VM w B L M) (hf:Fr S w w') (hs:∀b∈B::M,¬S b):VM w' B L M:=by
 obtain ⟨r,hB,hM,hn⟩:=h
 exact ⟨r,(hf.block B (lt_of_heap hB) (hs B (by simp))).trans hB,hM.fr hf (fun b hb=>hs b (by simp [hb])),hn⟩
theorem VM.lt (h:VM w B L M):∀b∈B::M,b<w.heap.size:=by
 obtain ⟨r,hB,hM,hn⟩:=h
 intro b hb
 rcases List.mem_cons.1 hb with rfl|hb
 ·exact lt_of_heap hB
 ·exact hM.lt b hb
theorem VM.new (w:World):VM (w.alloc (.cells #[.pointer none,.int .i64 0] TV)) w.heap.size [] []:=⟨none,heap_new _ _,AvlSI.MapIn.nil _,by simp⟩
theorem VM.mapP (h:VM w B L M):AvlSI.MapP w (some ⟨B,0,none⟩) L M:=by
 obtain ⟨r,hB,hM,hn⟩:=h
 exact .inr ⟨B,0,r,rfl,cell_of_block hB 0,hM⟩
theorem VM.put (h:VM w B L M) (k:ByteArray) (v:Int) (sz:L.length<144115188075855872):
  Calls prog 45 #[.pointer (some ⟨B,0,none⟩),.string k,.int .i64 v] w fun e w'=>e=.returned (.bool (!hasL k L))∧∃M',VM w' B (insL k v L) M'∧Tn (B::M) (B::M') w w':=by
 have hlt:=h.lt
 obtain ⟨r,hB,hM,hn⟩:=h
 refine (AvlSI.Put B 0 _ _ k v r L M w hB rfl rfl hM hn sz).mono ?_
 rintro e w' ⟨r',M',rfl,h1,h2,h3,h4⟩
 refine ⟨rfl,M',⟨r',h1,h2,fun hx=>?_⟩,h4.mono (fun i _ hi=>by simpa using hi),fun x hx=>?_⟩
 ·rcases h3 B hx with h|h
  ·exact hn h
  ·have:=hlt B (by simp);omega
 ·rcases List.mem_cons.1 hx with rfl|hx
  ·exact ⟨.inl (by simp),lt_of_heap h1⟩
  ·refine ⟨?_,h2.lt x hx⟩
   rcases h3 x hx with h|h
   ·exact .inl (by simp [h])
   ·exact .inr h
theorem VM.drop (h:VM w B L M) (k:ByteArray) (sz:L.length<144115188075855872):
  Calls prog 44 #[.pointer (some ⟨B,0,none⟩),.string k] w fun e w'=>e=.returned (.bool (hasL k L))∧∃M',VM w' B (delL k L) M'∧Tn (B::M) (B::M') w w':=by
 obtain ⟨r,hB,hM,hn⟩:=h
 refine (AvlSI.Drop B 0 _ _ k r L M w hB rfl rfl hM hn sz).mono ?_
 rintro e w' ⟨r',M',rfl,h1,h2,h3,h4⟩
 refine ⟨rfl,M',⟨r',h1,h2,fun hx=>hn (h3 B hx)⟩,h4.mono (fun i _ hi=>by simpa using hi),fun x hx=>?_⟩
 rcases List.mem_cons.1 hx with rfl|hx
 ·exact ⟨.inl (by simp),lt_of_heap h1⟩
 ·exact ⟨.inl (by simp [h3 x hx]),h2.lt x hx⟩
theorem VM.get (h:VM w B L M) (k:ByteArray):
  Calls prog 42 #[.pointer (some ⟨B,0,none⟩),.string k] w fun e w'=>e=.returned (.tuple #[.int .i64 ((getL k L).getD 0),.bool (getL k L).isSome])∧w=w':=by
 obtain ⟨r,hB,hM,hn⟩:=h
 exact AvlSI.Get_map k B 0 r L M w hM (cell_of_block hB 0)
end
def EV (w:World) (B:Nat) (q:List Tk) (M:List Nat):Prop:=∃V,VM w B V M∧EG q V
section
variable {w w':World} {B:Nat} {q q':List Tk} {M:List Nat}
theorem EV.fr {S:Nat→Prop} (h:EV w B q M) (hf:Fr S w w') (hs:∀b∈B::M,¬S b):EV w' B q M:=by
 obtain ⟨V,h1,h2⟩:=h
 exact ⟨V,h1.fr hf hs,h2⟩
theorem EV.keep (h:EV w B q M) (hf:Fr (fun _=>False) w w'):EV w' B q M:=h.fr hf (fun _ _ h=>h)
theorem EV.lt (h:EV w B q M):∀b∈B::M,b<w.heap.size:=by
 obtain ⟨V,h1,h2⟩:=h
 exact h1.lt
theorem EV.perm (h:EV w B q M) (hp:q.Perm q'):EV w B q' M:=by
 obtain ⟨V,h1,h2⟩:=h
 exact ⟨V,h1,h2.perm hp⟩
theorem EV.new (w:World):EV (w.alloc (.cells #[.pointer none,.int .i64 0] TV)) w.heap.size [] []:=⟨[],VM.new w,EG.nil⟩
end
end Ent
end Go.Proofs.YtdpngmgaomghoaaGreatDoor
