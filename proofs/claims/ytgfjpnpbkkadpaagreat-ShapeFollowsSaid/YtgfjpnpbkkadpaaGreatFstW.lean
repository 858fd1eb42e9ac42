/- A forest in memory: its index of spans, and its map of places. -/
import Derived.Test.YtgfjpnpbkkadpaaGreatKidsOs
import Derived.Test.YtgfjpnpbkkadpaaGreatAvlSP2
import Derived.Test.YtgfjpnpbkkadpaaGreatDrdPs
namespace Go.Proofs.YtgfjpnpbkkadpaaGreat
open Tryz
open Go.RowKit
namespace Fst
open KeyP SetP KidsP KdO
def FB (w:World) (B:Nat) (L:List Sn) (M:List (ByteArray × Pq)) (F:List Nat):Prop:=
 ∃rp F1 FP,IB w B (.pointer rp,.int .i64 M.length) L F1∧AvlSP.MapIn w rp M FP∧(∀x∈F1,x∉FP)∧F=F1++FP
section
variable {w w':World} {B:Nat} {L:List Sn} {M:List (ByteArray × Pq)} {F:List Nat}
theorem FB.lt (h:FB w B L M F):∀b∈F,b<w.heap.size:=by
 obtain ⟨rp,F1,FP,h1,h2,-,rfl⟩:=h
 intro b hb
 rcases List.mem_append.1 hb with hb|hb
 ·exact h1.lt b hb
 ·exact h2.lt b hb
theorem FB.fr {S:Nat→Prop} (h:FB w B L M F) (hf:Fr S w w') (hs:∀b∈F,¬S b):FB w' B L M F:=by
 obtain ⟨rp,F1,FP,h1,h2,h3,rfl⟩:=h
 exact ⟨rp,F1,FP,h1.fr hf (fun b hb=>hs b (List.mem_append.2 (.inl hb))),h2.fr hf (fun b hb=>hs b (List.mem_append.2 (.inr hb))),h3,rfl⟩
theorem IB.oz {oz:Value × Value} {F1:List Nat} (h:IB w B oz L F1):w.cell? ⟨B,4,none⟩=some oz.1∧w.cell? ⟨B,5,none⟩=some oz.2:=by
 obtain ⟨K,r1,r2,Fa,Fb,h,-,-⟩:=h
 exact ⟨cell_of_block h.blk 4,cell_of_block h.blk 5⟩
theorem FB.sw {L':List Sn} {rp:Option Addr} {F1 F1' FP:List Nat} (_h1:IB w B (.pointer rp,.int .i64 M.length) L F1) (h2:AvlSP.MapIn w rp M FP) (h3:∀x∈F1,x∉FP) (h4:IB w' B (.pointer rp,.int .i64 M.length) L' F1') (ht:Tn F1 F1' w w'):∃F',FB w' B L' M F'∧Tn (F1++FP) F' w w':=by
 have h5:=h2.fr ht.fr (fun b hb hm=>h3 b hm hb)
 refine ⟨F1'++FP,⟨rp,F1',FP,h4,h5,fun x hx hp=>?_,rfl⟩,ht.fr.mono (fun i _ e=>List.mem_append.2 (.inl e)),fun x hx=>?_⟩
 ·rcases (ht.sub x hx).1 with e|e
  ·exact h3 x e hp
  ·have:=h2.lt x hp;omega
 ·rcases List.mem_append.1 hx with hx|hx
  ·obtain ⟨e1,e2⟩:=ht.sub x hx
   exact ⟨e1.elim (fun e=>.inl (List.mem_append.2 (.inl e))) .inr,e2⟩
  ·exact ⟨.inl (List.mem_append.2 (.inr hx)),h5.lt x hx⟩
theorem FB.get (h:FB w B L M F) (k:ByteArray):Calls prog 81 #[.pointer (some ⟨B,4,none⟩),.string k] w (AvlSP.GetPost k M w):=by
 obtain ⟨rp,F1,FP,h1,h2,-,rfl⟩:=h
 exact AvlSP.Get_map k B 4 rp M FP w h2 (IB.oz h1).1
theorem FB.turnP {M':List (ByteArray × Pq)} {r':Option Addr} {FP FP' F1:List Nat} {rp:Option Addr} (h1:IB w B (.pointer rp,.int .i64 M.length) L F1) (_h2:AvlSP.MapIn w rp M FP) (h3:∀x∈F1,x∉FP)
  (hb:∀r1 n1 r2 n2,w.heap[B]? =some (.cells (cellsX (.pointer rp,.int .i64 M.length) r1 n1 r2 n2) TX (0,0))→w'.heap[B]? =some (.cells (cellsX (.pointer r',.int .i64 M'.length) r1 n1 r2 n2) TX (0,0)))
  (hm:AvlSP.MapIn w' r' M' FP') (hs:∀x∈FP',x∈FP∨w.heap.size≤x) (hf:Fr (fun x=>x=B∨x∈FP) w w'):∃F',FB w' B L M' F'∧Tn (F1++FP) F' w w':=by
 have hlt:=h1.lt
 obtain ⟨K,r1,r2,Fa,Fb,iy,hr,rfl⟩:=h1
 have hB:B∉FP:=h3 B (by simp)
 have iy':IY w' B (.pointer r',.int .i64 M'.length) (mp (fun x=>x.p) L) K r1 r2 Fa Fb:=⟨hb _ _ _ _ iy.blk,iy.m1.fr hf (fun b hq e=>by
   rcases e with e|e
   ·exact iy.n1 (e▸hq)
   ·exact h3 b (by simp [hq]) e),iy.m2.fr hf (fun b hq e=>by
   rcases e with e|e
   ·exact iy.n2 (e▸hq)
   ·exact h3 b (by simp [hq]) e),iy.n1,iy.n2,iy.ap⟩
 refine ⟨(B::(Fa++Fb))++FP',⟨r',_,FP',⟨K,r1,r2,Fa,Fb,iy',hr,rfl⟩,hm,fun x hx hp=>?_,rfl⟩,hf.mono (fun i _ e=>by
  rcases e with rfl|e
  ·simp
  ·exact List.mem_append.2 (.inr e)),fun x hx=>?_⟩
 ·rcases hs x hp with e|e
  ·exact h3 x hx e
  ·have:=hlt x hx;omega
 ·rcases List.mem_append.1 hx with hx|hx
  ·exact ⟨.inl (List.mem_append.2 (.inl hx)),iy'.lt x hx⟩
  ·exact ⟨(hs x hx).elim (fun e=>.inl (List.mem_append.2 (.inr e))) .inr,hm.lt x hx⟩
theorem FB.put (h:FB w B L M F) (k:ByteArray) (v:Pq) (sz:M.length<1000000):
  Calls prog 148 #[.pointer (some ⟨B,4,none⟩),.string k,.agg #[.int .i64 v.t,.int .i64 v.i,.int .i64 v.c,.int .i64 v.d,.int .i64 v.p,.int .i64 v.f]] w fun e w'=>(∃b,e=.returned (.bool b))∧∃F',FB w' B L (insL k v M) F'∧Tn F F' w w':=by
 obtain ⟨rp,F1,FP,h1,h2,h3,rfl⟩:=h
 have h1':=h1
 obtain ⟨K,r1,r2,Fa,Fb,iy,hr,rfl⟩:=h1'
 refine (AvlSP.Put B 4 _ TX k v rp M FP w iy.blk rfl rfl h2 (h3 B (by simp)) (by omega)).mono ?_
 rintro e w' ⟨r',FP',rfl,hb,hm,hs,hf⟩
 refine ⟨⟨_,rfl⟩,FB.turnP h1 h2 h3 (fun a1 n1 a2 n2 hq=>?_) hm hs hf⟩
 rw [iy.blk] at hq
 cases hq
 exact hb
theorem FB.drop (h:FB w B L M F) (k:ByteArray) (sz:M.length<1000000):
  Calls prog 132 #[.pointer (some ⟨B,4,none⟩),.string k] w fun e w'=>(∃b,e=.returned (.bool b))∧∃F',FB w' B L (delL k M) F'∧Tn F F' w w':=by
 obtain ⟨rp,F1,FP,h1,h2,h3,rfl⟩:=h
 have h1':=h1
 obtain ⟨K,r1,r2,Fa,Fb,iy,hr,rfl⟩:=h1'
 refine (AvlSP.Drop B 4 _ TX k rp M FP w iy.blk rfl rfl h2 (h3 B (by simp)) (by omega)).mono ?_
 rintro e w' ⟨r',FP',rfl,hb,hm,hs,hf⟩
 refine ⟨⟨_,rfl⟩,FB.turnP h1 h2 h3 (fun a1 n1 a2 n2 hq=>?_) hm (fun x hx=>.inl (hs x hx)) hf⟩
 rw [iy.blk] at hq
 cases hq
 exact hb
theorem FB.drops (h:FB w B L M F) {t i:Int} (ht:wf64 t) (hi:wf64 i) (sz:L.length<1000000):
  Calls prog 77 #[.pointer (some ⟨B,0,none⟩),.int .i64 t,.int .i64 i] w fun e w'=>(∃b,e=.returned (.bool b))∧∃F',FB w' B (SetP.out t i L) M F'∧Tn F F' w w':=by
 have h':=h
 obtain ⟨rp,F1,FP,h1,h2,h3,rfl⟩:=h'
 refine (KdO.Drop B _ L F1 t i w h1 ht hi sz).mono ?_
 rintro e w' ⟨rfl,F',h4,h5⟩
 exact ⟨⟨_,rfl⟩,FB.sw h1 h2 h3 h4 h5⟩
theorem FB.puts (h:FB w B L M F) {x:Sn} (hg:gd x) (sz:L.length<1000000):
  Calls prog 78 #[.pointer (some ⟨B,0,none⟩),x.v] w fun e w'=>e=.returned (.tuple #[])∧∃F',FB w' B (putK x L) M F'∧Tn F F' w w':=by
 have h':=h
 obtain ⟨rp,F1,FP,h1,h2,h3,rfl⟩:=h'
 refine (KdO.Put B _ L F1 x w h1 hg sz).mono ?_
 rintro e w' ⟨rfl,F',h4,h5⟩
 exact ⟨rfl,FB.sw h1 h2 h3 h4 h5⟩
end
end Fst
namespace Wrk
open KeyP SetP KidsP Cls KdO Fst Drd
abbrev TWk:TypeId:=147
abbrev wcells (B:Nat) (r1:Option Addr) (n1:Nat) (r2:Option Addr) (n2:Nat) (n:Int):Array Value:= #[.pointer (some ⟨B,0,none⟩),.pointer r1,.int .i64 n1,.pointer r2,.int .i64 n2,.int .i64 n]
abbrev Pl:=List (ByteArray × Pq)
abbrev Ll:=List (ByteArray × Int)
structure WC (w:World) (W B:Nat) (WE:Pl) (LO:Ll) (n:Int) (r1 r2:Option Addr) (F1 F2:List Nat):Prop where
 blk:w.heap[W]? =some (.cells (wcells B r1 WE.length r2 LO.length n) TWk (0,0))
 m1:AvlSP.MapIn w r1 WE F1
 m2:AvlSI.MapIn w r2 LO F2
 ap:∀x∈F1,x∉F2
 n1:W∉F1
 n2:W∉F2
def WB (w:World) (W B:Nat) (WE:Pl) (LO:Ll) (n:Int) (F:List Nat):Prop:=∃r1 r2 F1 F2,WC w W B WE LO n r1 r2 F1 F2∧F=W::(F1++F2)
def FW (w:World) (W B:Nat) (L:List Sn) (M WE:Pl) (LO:Ll) (n:Int) (F:List Nat):Prop:=∃Ff Fw,FB w B L M Ff∧WB w W B WE LO n Fw∧(∀x∈Ff,x∉Fw)∧F=Ff++Fw
theorem tn_l {w w':World} {F F' G:List Nat} (h:Tn F F' w w') (hG:∀x∈G,x<w.heap.size):Tn (F++G) (F'++G) w w':=
 ⟨h.fr.mono (fun i _ e=>List.mem_append.2 (.inl e)),fun x hx=>by
  rcases List.mem_append.1 hx with hx|hx
  ·exact ⟨(h.sub x hx).1.imp (fun e=>List.mem_append.2 (.inl e)) id,(h.sub x hx).2⟩
  ·exact ⟨.inl (List.mem_append.2 (.inr hx)),Nat.lt_of_lt_of_le (hG x hx) h.fr.size⟩⟩
theorem tn_r {w w':World} {F F' G:List Nat} (h:Tn F F' w w') (hG:∀x∈G,x<w.heap.size):Tn (G++F) (G++F') w w':=
 ⟨h.fr.mono (fun i _ e=>List.mem_append.2 (.inr e)),fun x hx=>by
  rcases List.mem_append.1 hx with hx|hx
  ·exact ⟨.inl (List.mem_append.2 (.inl hx)),Nat.lt_of_lt_of_le (hG x hx) h.fr.size⟩
  ·exact ⟨(h.sub x hx).1.imp (fun e=>List.mem_append.2 (.inr e)) id,(h.sub x hx).2⟩⟩
theorem tn_ap {w w':World} {F F' G:List Nat} (h:Tn F F' w w') (hG:∀x∈G,x<w.heap.size) (ha:∀x∈F,x∉G):∀x∈F',x∉G:=fun x hx hg=>by
 rcases (h.sub x hx).1 with e|e
 ·exact ha x e hg
 ·have:=hG x hg;omega
section
variable {w w':World} {W B:Nat} {L L':List Sn} {M M' WE WE':Pl} {LO LO':Ll} {n n':Int} {F:List Nat} {r1 r2:Option Addr} {F1 F2:List Nat}
theorem WC.lt (h:WC w W B WE LO n r1 r2 F1 F2):∀b∈W::(F1++F2),b<w.heap.size:=by
 intro b hb
 simp only [List.mem_cons,List.mem_append] at hb
 rcases hb with rfl|hb|hb
 ·exact lt_of_heap h.blk
 ·exact h.m1.lt b hb
 ·exact h.m2.lt b hb
theorem WB.lt (h:WB w W B WE LO n F):∀b∈F,b<w.heap.size:=by
 obtain ⟨r1,r2,F1,F2,h,rfl⟩:=h
 exact h.lt
theorem WC.fr {S:Nat→Prop} (h:WC w W B WE LO n r1 r2 F1 F2) (hf:Fr S w w') (hs:∀b∈W::(F1++F2),¬S b):WC w' W B WE LO n r1 r2 F1 F2:=
 ⟨(hf.block W (lt_of_heap h.blk) (hs W (by simp))).trans h.blk,h.m1.fr hf (fun b hb=>hs b (by simp [hb])),h.m2.fr hf (fun b hb=>hs b (by simp [hb])),h.ap,h.n1,h.n2⟩
theorem WB.fr {S:Nat→Prop} (h:WB w W B WE LO n F) (hf:Fr S w w') (hs:∀b∈F,¬S b):WB w' W B WE LO n F:=by
 obtain ⟨r1,r2,F1,F2,h,rfl⟩:=h
 exact ⟨r1,r2,F1,F2,h.fr hf hs,rfl⟩
theorem FW.lt (h:FW w W B L M WE LO n F):∀b∈F,b<w.heap.size:=by
 obtain ⟨Ff,Fw,h1,h2,-,rfl⟩:=h
 intro b hb
 rcases List.mem_append.1 hb with hb|hb
 ·exact h1.lt b hb
 ·exact h2.lt b hb
theorem FW.fr {S:Nat→Prop} (h:FW w W B L M WE LO n F) (hf:Fr S w w') (hs:∀b∈F,¬S b):FW w' W B L M WE LO n F:=by
 obtain ⟨Ff,Fw,h1,h2,h3,rfl⟩:=h
 exact ⟨Ff,Fw,h1.fr hf (fun b hb=>hs b (List.mem_append.2 (.inl hb))),h2.fr hf (fun b hb=>hs b (List.mem_append.2 (.inr hb))),h3,rfl⟩
theorem FW.keep (h:FW w W B L M WE LO n F) (hf:Fr (fun _=>False) w w'):FW w' W B L M WE LO n F:=h.fr hf (fun _ _ h=>h)
theorem FW.turnF {Ff Fw Ff':List Nat} (h2:WB w W B WE LO n Fw) (h3:∀x∈Ff,x∉Fw) (h4:FB w' B L' M' Ff') (ht:Tn Ff Ff' w w'):∃F',FW w' W B L' M' WE LO n F'∧Tn (Ff++Fw) F' w w':=
 ⟨Ff'++Fw,⟨Ff',Fw,h4,h2.fr ht.fr (fun b hb e=>h3 b e hb),tn_ap ht h2.lt h3,rfl⟩,tn_l ht h2.lt⟩
theorem FW.turnW {Ff Fw Fw':List Nat} (h1:FB w B L M Ff) (h3:∀x∈Ff,x∉Fw) (h4:WB w' W B WE' LO' n' Fw') (ht:Tn Fw Fw' w w'):∃F',FW w' W B L M WE' LO' n' F'∧Tn (Ff++Fw) F' w w':=
 ⟨Ff++Fw',⟨Ff,Fw',h1.fr ht.fr (fun b hb e=>h3 b hb e),h4,fun x hx hg=>tn_ap ht h1.lt (fun a ha hb=>h3 a hb ha) x hg hx,rfl⟩,tn_r ht h1.lt⟩
theorem FW.cell (h:FW w W B L M WE LO n F):w.cell? ⟨W,0,none⟩=some (.pointer (some ⟨B,0,none⟩))∧w.cell? ⟨W,5,none⟩=some (.int .i64 n):=by
 obtain ⟨Ff,Fw,-,⟨r1,r2,F1,F2,h,rfl⟩,-,rfl⟩:=h
 exact ⟨cell_of_block h.blk 0,cell_of_block h.blk 5⟩
theorem FW.free (h:FW w W B L M WE LO n F) (k:Nat):w.frozen? ⟨W,k,none⟩=false:=by
 obtain ⟨Ff,Fw,-,⟨r1,r2,F1,F2,h,rfl⟩,-,rfl⟩:=h
 exact Bk.free h.blk k
theorem FW.B_lt (h:FW w W B L M WE LO n F):B∈F∧W∈F:=by
 obtain ⟨Ff,Fw,⟨rp,G1,FP,⟨K,a1,a2,Fa,Fb,iy,hr,rfl⟩,h5,h6,rfl⟩,⟨r1,r2,F1,F2,h,rfl⟩,-,rfl⟩:=h
 exact ⟨by simp,by simp⟩
theorem FW.step (h:FW w W B L M WE LO n F) (n':Int):FW (w.setCell ⟨W,5,none⟩ (.int .i64 n')) W B L M WE LO n' F∧Fr (fun k=>k=W) w (w.setCell ⟨W,5,none⟩ (.int .i64 n')):=by
 have hf:Fr (fun k=>k=W) w (w.setCell ⟨W,5,none⟩ (.int .i64 n')):=Fr.setCell w ⟨W,5,none⟩ (.int .i64 n') (S:=fun k=>k=W) rfl
 refine ⟨?_,hf⟩
 obtain ⟨Ff,Fw,h1,⟨r1,r2,F1,F2,h,rfl⟩,h3,rfl⟩:=h
 refine ⟨Ff,_,h1.fr hf (fun b hb e=>h3 b hb (by rw [e];simp)),⟨r1,r2,F1,F2,⟨?_,h.m1.fr hf (fun b hb e=>h.n1 (e▸hb)),h.m2.fr hf (fun b hb e=>h.n2 (e▸hb)),h.ap,h.n1,h.n2⟩,rfl⟩,h3,rfl⟩
 have:=Bk.set (w:=w) h.blk 5 (.int .i64 n')
 show Bk _ W _ TWk
 simpa using this
theorem Tn.of_W {F:List Nat} {S:Nat→Prop} (hf:Fr S w w') (hS:∀b,S b→b∈F) (h:∀x∈F,x<w.heap.size):Tn F F w w':=⟨hf.mono (fun i _ e=>hS i e),fun x hx=>⟨.inl hx,Nat.lt_of_lt_of_le (h x hx) hf.size⟩⟩
theorem FW.getM (h:FW w W B L M WE LO n F) (k:ByteArray):Calls prog 81 #[.pointer (some ⟨B,4,none⟩),.string k] w (AvlSP.GetPost k M w):=by
 obtain ⟨Ff,Fw,h1,-,-,rfl⟩:=h
 exact h1.get k
theorem FW.getW (h:FW w W B L M WE LO n F) (k:ByteArray):Calls prog 81 #[.pointer (some ⟨W,1,none⟩),.string k] w (AvlSP.GetPost k WE w):=by
 obtain ⟨Ff,Fw,-,⟨r1,r2,F1,F2,h,rfl⟩,-,rfl⟩:=h
 exact AvlSP.Get_map k W 1 r1 WE F1 w h.m1 (cell_of_block h.blk 1)
theorem FW.putM (h:FW w W B L M WE LO n F) (k:ByteArray) (v:Pq) (sz:M.length<1000000):
  Calls prog 148 #[.pointer (some ⟨B,4,none⟩),.string k,v.v] w fun e w'=>(∃b,e=.returned (.bool b))∧∃F',FW w' W B L (insL k v M) WE LO n F'∧Tn F F' w w':=by
 obtain ⟨Ff,Fw,h1,h2,h3,rfl⟩:=h
 refine (h1.put k v sz).mono ?_
 rintro e w' ⟨hb,F',h4,h5⟩
 exact ⟨hb,FW.turnF h2 h3 h4 h5⟩
theorem FW.dropM (h:FW w W B L M WE LO n F) (k:ByteArray) (sz:M.length<1000000):
  Calls prog 132 #[.pointer (some ⟨B,4,none⟩),.string k] w fun e w'=>(∃b,e=.returned (.bool b))∧∃F',FW w' W B L (delL k M) WE LO n F'∧Tn F F' w w':=by
 obtain ⟨Ff,Fw,h1,h2,h3,rfl⟩:=h
 refine (h1.drop k sz).mono ?_
 rintro e w' ⟨hb,F',h4,h5⟩
 exact ⟨hb,FW.turnF h2 h3 h4 h5⟩
theorem FW.drops (h:FW w W B L M WE LO n F) {t i:Int} (ht:wf64 t) (hi:wf64 i) (sz:L.length<1000000):
  Calls prog 77 #[.pointer (some ⟨B,0,none⟩),.int .i64 t,.int .i64 i] w fun e w'=>(∃b,e=.returned (.bool b))∧∃F',FW w' W B (SetP.out t i L) M WE LO n F'∧Tn F F' w w':=by
 obtain ⟨Ff,Fw,h1,h2,h3,rfl⟩:=h
 refine (h1.drops ht hi sz).mono ?_
 rintro e w' ⟨hb,F',h4,h5⟩
 exact ⟨hb,FW.turnF h2 h3 h4 h5⟩
theorem FW.puts (h:FW w W B L M WE LO n F) {x:Sn} (hg:gd x) (sz:L.length<1000000):
  Calls prog 78 #[.pointer (some ⟨B,0,none⟩),x.v] w fun e w'=>e=.returned (.tuple #[])∧∃F',FW w' W B (putK x L) M WE LO n F'∧Tn F F' w w':=by
 obtain ⟨Ff,Fw,h1,h2,h3,rfl⟩:=h
 refine (h1.puts hg sz).mono ?_
 rintro e w' ⟨hb,F',h4,h5⟩
 exact ⟨hb,FW.turnF h2 h3 h4 h5⟩
theorem FW.putW (h:FW w W B L M WE LO n F) (k:ByteArray) (v:Pq) (sz:WE.length<1000000):
  Calls prog 148 #[.pointer (some ⟨W,1,none⟩),.string k,v.v] w fun e w'=>(∃b,e=.returned (.bool b))∧∃F',FW w' W B L M (insL k v WE) LO n F'∧Tn F F' w w':=by
 obtain ⟨Ff,Fw,h1,⟨r1,r2,F1,F2,h2,rfl⟩,h3,rfl⟩:=h
 refine (AvlSP.Put W 1 _ TWk k v r1 WE F1 w h2.blk rfl rfl h2.m1 h2.n1 (by omega)).mono ?_
 rintro e w' ⟨r',F',rfl,hbk,hm,hs,hf⟩
 have hW:W<w.heap.size:=lt_of_heap h2.blk
 have hn1:W∉F':=fun e=>(hs W e).elim h2.n1 (fun h=>by omega)
 refine ⟨⟨_,rfl⟩,FW.turnW h1 h3 (WE':=insL k v WE) (LO':=LO) (n':=n) ⟨r',r2,F',F2,⟨hbk,hm,h2.m2.fr hf (fun b hb e=>?_),fun x hx hx2=>?_,hn1,h2.n2⟩,rfl⟩ ⟨hf.mono (fun i _ e=>?_),fun x hx=>?_⟩⟩
 ·rcases e with rfl|e
  ·exact h2.n2 hb
  ·exact h2.ap b e hb
 ·rcases hs x hx with e|e
  ·exact h2.ap x e hx2
  ·have:=h2.m2.lt x hx2;omega
 ·rcases e with rfl|e
  ·simp
  ·simp [e]
 ·simp only [List.mem_cons,List.mem_append] at hx ⊢
  rcases hx with rfl|hx|hx
  ·exact ⟨.inl (.inl rfl),lt_of_heap hbk⟩
  ·exact ⟨(hs x hx).imp (fun e=>.inr (.inl e)) id,hm.lt x hx⟩
  ·exact ⟨.inl (.inr (.inr hx)),Nat.lt_of_lt_of_le (h2.m2.lt x hx) hf.size⟩
theorem FW.putL (h:FW w W B L M WE LO n F) (k:ByteArray) (v:Int) (sz:LO.length<1000000):
  Calls prog 130 #[.pointer (some ⟨W,3,none⟩),.string k,.int .i64 v] w fun e w'=>e=.returned (.bool (!hasL k LO))∧∃F',FW w' W B L M WE (insL k v LO) n F'∧Tn F F' w w':=by
 obtain ⟨Ff,Fw,h1,⟨r1,r2,F1,F2,h2,rfl⟩,h3,rfl⟩:=h
 refine (AvlSI.Put W 3 _ TWk k v r2 LO F2 w h2.blk rfl rfl h2.m2 h2.n2 (by omega)).mono ?_
 rintro e w' ⟨r',F',rfl,hbk,hm,hs,hf⟩
 have hW:W<w.heap.size:=lt_of_heap h2.blk
 have hn1:W∉F':=fun e=>(hs W e).elim h2.n2 (fun h=>by omega)
 refine ⟨rfl,FW.turnW h1 h3 (WE':=WE) (LO':=insL k v LO) (n':=n) ⟨r1,r',F1,F',⟨hbk,h2.m1.fr hf (fun b hb e=>?_),hm,fun x hx hx2=>?_,h2.n1,hn1⟩,rfl⟩ ⟨hf.mono (fun i _ e=>?_),fun x hx=>?_⟩⟩
 ·rcases e with rfl|e
  ·exact h2.n1 hb
  ·exact h2.ap b hb e
 ·rcases hs x hx2 with e|e
  ·exact h2.ap x hx e
  ·have:=h2.m1.lt x hx;omega
 ·rcases e with rfl|e
  ·simp
  ·simp [e]
 ·simp only [List.mem_cons,List.mem_append] at hx ⊢
  rcases hx with rfl|hx|hx
  ·exact ⟨.inl (.inl rfl),lt_of_heap hbk⟩
  ·exact ⟨.inl (.inr (.inl hx)),Nat.lt_of_lt_of_le (h2.m1.lt x hx) hf.size⟩
  ·exact ⟨(hs x hx).imp (fun e=>.inr (.inr e)) id,hm.lt x hx⟩
end
structure FX (w:World) (W B:Nat) (L:List Sn) (M WE:Pl) (LO:Ll) (n:Int) (Ff:List Nat) (r1:Option Addr) (F1:List Nat) (r2:Option Addr) (F2:List Nat):Prop where
 f:FB w B L M Ff
 c:WC w W B WE LO n r1 r2 F1 F2
 ap:∀x∈Ff,x∉W::(F1++F2)
section
variable {w w':World} {W B:Nat} {L:List Sn} {M WE:Pl} {LO:Ll} {n:Int} {F Ff F1 F2:List Nat} {r1 r2:Option Addr}
theorem FX.fw (h:FX w W B L M WE LO n Ff r1 F1 r2 F2):FW w W B L M WE LO n (Ff++W::(F1++F2)):=⟨Ff,_,h.f,⟨r1,r2,F1,F2,h.c,rfl⟩,h.ap,rfl⟩
theorem FW.fx (h:FW w W B L M WE LO n F):∃Ff r1 F1 r2 F2,FX w W B L M WE LO n Ff r1 F1 r2 F2∧F=Ff++W::(F1++F2):=by
 obtain ⟨Ff,Fw,h1,⟨r1,r2,F1,F2,h,rfl⟩,h3,rfl⟩:=h
 exact ⟨Ff,r1,F1,r2,F2,⟨h1,h,h3⟩,rfl⟩
theorem FX.fr {S:Nat→Prop} (h:FX w W B L M WE LO n Ff r1 F1 r2 F2) (hf:Fr S w w') (hs:∀b∈Ff++W::(F1++F2),¬S b):FX w' W B L M WE LO n Ff r1 F1 r2 F2:=
 ⟨h.f.fr hf (fun b hb=>hs b (List.mem_append.2 (.inl hb))),h.c.fr hf (fun b hb=>hs b (List.mem_append.2 (.inr hb))),h.ap⟩
theorem FX.keep (h:FX w W B L M WE LO n Ff r1 F1 r2 F2) (hf:Fr (fun _=>False) w w'):FX w' W B L M WE LO n Ff r1 F1 r2 F2:=h.fr hf (fun _ _ h=>h)
theorem FX.lt (h:FX w W B L M WE LO n Ff r1 F1 r2 F2):(∀x∈W::Ff,x<w.heap.size)∧∀x∈F1++F2,x<w.heap.size:=
 ⟨fun x hx=>by
  rcases List.mem_cons.1 hx with rfl|hx
  ·exact lt_of_heap h.c.blk
  ·exact h.f.lt x hx,fun x hx=>h.c.lt x (by simp only [List.mem_cons];exact .inr hx)⟩
theorem FX.apw (h:FX w W B L M WE LO n Ff r1 F1 r2 F2):∀x∈F1++F2,x∉W::Ff:=fun x hx e=>by
 rcases List.mem_cons.1 e with rfl|e
 ·rcases List.mem_append.1 hx with hx|hx
  ·exact h.c.n1 hx
  ·exact h.c.n2 hx
 ·exact h.ap x e (by simp only [List.mem_cons];exact .inr hx)
theorem FX.step (h:FX w W B L M WE LO n Ff r1 F1 r2 F2) (n':Int):FX (w.setCell ⟨W,5,none⟩ (.int .i64 n')) W B L M WE LO n' Ff r1 F1 r2 F2∧Fr (fun k=>k=W) w (w.setCell ⟨W,5,none⟩ (.int .i64 n')):=by
 have hf:Fr (fun k=>k=W) w (w.setCell ⟨W,5,none⟩ (.int .i64 n')):=Fr.setCell w ⟨W,5,none⟩ (.int .i64 n') (S:=fun k=>k=W) rfl
 have hW:W∉Ff:=fun e=>h.ap W e (by simp)
 refine ⟨⟨h.f.fr hf (fun b hb e=>hW (e▸hb)),⟨?_,h.c.m1.fr hf (fun b hb e=>h.c.n1 (e▸hb)),h.c.m2.fr hf (fun b hb e=>h.c.n2 (e▸hb)),h.c.ap,h.c.n1,h.c.n2⟩,h.ap⟩,hf⟩
 have:=Bk.set (w:=w) h.c.blk 5 (.int .i64 n')
 show Bk _ W _ TWk
 simpa using this
theorem FX.cell (h:FX w W B L M WE LO n Ff r1 F1 r2 F2):w.cell? ⟨W,0,none⟩=some (.pointer (some ⟨B,0,none⟩))∧w.cell? ⟨W,5,none⟩=some (.int .i64 n):=⟨cell_of_block h.c.blk 0,cell_of_block h.c.blk 5⟩
theorem FX.putM (h:FX w W B L M WE LO n Ff r1 F1 r2 F2) (k:ByteArray) (v:Pq) (sz:M.length<1000000):
  Calls prog 148 #[.pointer (some ⟨B,4,none⟩),.string k,v.v] w fun e w'=>(∃b,e=.returned (.bool b))∧∃Ff',FX w' W B L (insL k v M) WE LO n Ff' r1 F1 r2 F2∧Tn (W::Ff) (W::Ff') w w':=by
 refine (h.f.put k v sz).mono ?_
 rintro e w' ⟨hb,F',h4,h5⟩
 have hW:∀x∈ [W],x<w.heap.size:=fun x hx=>h.lt.1 x (by simp at hx;simp [hx])
 refine ⟨hb,F',⟨h4,h.c.fr h5.fr (fun b hb e=>h.ap b e hb),tn_ap h5 (fun x hx=>h.c.lt x hx) h.ap⟩,tn_r (G:= [W]) h5 hW⟩
theorem FX.tn (h:FX w W B L M WE LO n Ff r1 F1 r2 F2) {Ff':List Nat} (ht:Tn (W::Ff) (W::Ff') w w'):Tn (Ff++W::(F1++F2)) (Ff'++W::(F1++F2)) w w':=by
 refine ⟨ht.fr.mono (fun i _ e=>?_),fun x hx=>?_⟩
 ·rcases List.mem_cons.1 e with rfl|e
  ·simp
  ·simp [e]
 ·have hc:x∈W::Ff'∨x∈F1++F2:=by
   simp only [List.mem_append,List.mem_cons] at hx ⊢
   rcases hx with e|e|e
   ·exact .inl (.inr e)
   ·exact .inl (.inl e)
   ·exact .inr e
  rcases hc with e|e
  ·obtain ⟨k1,k2⟩:=ht.sub x e
   refine ⟨k1.imp (fun q=>?_) id,k2⟩
   rcases List.mem_cons.1 q with rfl|q
   ·simp
   ·simp [q]
  ·exact ⟨.inl (by simp only [List.mem_append,List.mem_cons] at e ⊢;exact .inr (.inr e)),Nat.lt_of_lt_of_le (h.lt.2 x e) ht.fr.size⟩
end
end Wrk
end Go.Proofs.YtgfjpnpbkkadpaaGreat
