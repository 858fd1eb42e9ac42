/- A forest in memory: its index of spans, and its map of places. -/
import Derived.Test.YtgfjpnpbkkadpaaGreatKidsOs
import Derived.Test.YtgfjpnpbkkadpaaGreatAvlSP2
namespace Go.Proofs.YtgfjpnpbkkadpaaGreat
open Tryz
open Go.RowKit
namespace Fst
open KeyP SetP KidsP KdO
def FB (w:World) (B:Nat) (L:List Sn) (M:List (ByteArray × Pq)) (F:List Nat):Prop:=
 ∃rp F1 FP,IB w B (.pointer rp,.int .i64 M.length) L F1∧AvlSP.MapIn w rp M FP∧(∀x∈F1,x∉FP)∧F=F1++FP
section
variable {w w':World} {B:Nat} {L:List Sn} {M:List (ByteArray × Pq)} {F:List Nat}
theorem FB.lt (h:FB w B L M F):∀b∈F,b<w.heap.size:=by
 obtain ⟨rp,F1,FP,h1,h2,-,rfl⟩:=h
 intro b hb
 rcases List.mem_append.1 hb with hb|hb
 ·exact h1.lt b hb
 ·exact h2.lt b hb
theorem FB.fr {S:Nat→Prop} (h:FB w B L M F) (hf:Fr S w w') (hs:∀b∈F,¬S b):FB w' B L M F:=by
 obtain ⟨rp,F1,FP,h1,h2,h3,rfl⟩:=h
 exact ⟨rp,F1,FP,h1.fr hf (fun b hb=>hs b (List.mem_append.2 (.inl hb))),h2.fr hf (fun b hb=>hs b (List.mem_append.2 (.inr hb))),h3,rfl⟩
theorem IB.oz {oz:Value × Value} {F1:List Nat} (h:IB w B oz L F1):w.cell? ⟨B,4,none⟩=some oz.1∧w.cell? ⟨B,5,none⟩=some oz.2:=by
 obtain ⟨K,r1,r2,Fa,Fb,h,-,-⟩:=h
 exact ⟨cell_of_block h.blk 4,cell_of_block h.blk 5⟩
theorem FB.sw {L':List Sn} {rp:Option Addr} {F1 F1' FP:List Nat} (_h1:IB w B (.pointer rp,.int .i64 M.length) L F1) (h2:AvlSP.MapIn w rp M FP) (h3:∀x∈F1,x∉FP) (h4:IB w' B (.pointer rp,.int .i64 M.length) L' F1') (ht:Tn F1 F1' w w'):∃F',FB w' B L' M F'∧Tn (F1++FP) F' w w':=by
 have h5:=h2.fr ht.fr (fun b hb hm=>h3 b hm hb)
 refine ⟨F1'++FP,⟨rp,F1',FP,h4,h5,fun x hx hp=>?_,rfl⟩,ht.fr.mono (fun i _ e=>List.mem_append.2 (.inl e)),fun x hx=>?_⟩
 ·rcases (ht.sub x hx).1 with e|e
  ·exact h3 x e hp
  ·have:=h2.lt x hp;omega
 ·rcases List.mem_append.1 hx with hx|hx
  ·obtain ⟨e1,e2⟩:=ht.sub x hx
   exact ⟨e1.elim (fun e=>.inl (List.mem_append.2 (.inl e))) .inr,e2⟩
  ·exact ⟨.inl (List.mem_append.2 (.inr hx)),h5.lt x hx⟩
theorem FB.get (h:FB w B L M F) (k:ByteArray):Calls prog 81 #[.pointer (some ⟨B,4,none⟩),.string k] w (AvlSP.GetPost k M w):=by
 obtain ⟨rp,F1,FP,h1,h2,-,rfl⟩:=h
 exact AvlSP.Get_map k B 4 rp M FP w h2 (IB.oz h1).1
theorem FB.turnP {M':List (ByteArray × Pq)} {r':Option Addr} {FP FP' F1:List Nat} {rp:Option Addr} (h1:IB w B (.pointer rp,.int .i64 M.length) L F1) (_h2:AvlSP.MapIn w rp M FP) (h3:∀x∈F1,x∉FP)
  (hb:∀r1 n1 r2 n2,w.heap[B]? =some (.cells (cellsX (.pointer rp,.int .i64 M.length) r1 n1 r2 n2) TX (0,0))→w'.heap[B]? =some (.cells (cellsX (.pointer r',.int .i64 M'.length) r1 n1 r2 n2) TX (0,0)))
  (hm:AvlSP.MapIn w' r' M' FP') (hs:∀x∈FP',x∈FP∨w.heap.size≤x) (hf:Fr (fun x=>x=B∨x∈FP) w w'):∃F',FB w' B L M' F'∧Tn (F1++FP) F' w w':=by
 have hlt:=h1.lt
 obtain ⟨K,r1,r2,Fa,Fb,iy,hr,rfl⟩:=h1
 have hB:B∉FP:=h3 B (by simp)
 have iy':IY w' B (.pointer r',.int .i64 M'.length) (mp (fun x=>x.p) L) K r1 r2 Fa Fb:=⟨hb _ _ _ _ iy.blk,iy.m1.fr hf (fun b hq e=>by
   rcases e with e|e
   ·exact iy.n1 (e▸hq)
   ·exact h3 b (by simp [hq]) e),iy.m2.fr hf (fun b hq e=>by
   rcases e with e|e
   ·exact iy.n2 (e▸hq)
   ·exact h3 b (by simp [hq]) e),iy.n1,iy.n2,iy.ap⟩
 refine ⟨(B::(Fa++Fb))++FP',⟨r',_,FP',⟨K,r1,r2,Fa,Fb,iy',hr,rfl⟩,hm,fun x hx hp=>?_,rfl⟩,hf.mono (fun i _ e=>by
  rcases e with rfl|e
  ·simp
  ·exact List.mem_append.2 (.inr e)),fun x hx=>?_⟩
 ·rcases hs x hp with e|e
  ·exact h3 x hx e
  ·have:=hlt x hx;omega
 ·rcases List.mem_append.1 hx with hx|hx
  ·exact ⟨.inl (List.mem_append.2 (.inl hx)),iy'.lt x hx⟩
  ·exact ⟨(hs x hx).elim (fun e=>.inl (List.mem_append.2 (.inr e))) .inr,hm.lt x hx⟩
theorem FB.put (h:FB w B L M F) (k:ByteArray) (v:Pq) (sz:M.length<1000000):
  Calls prog 148 #[.pointer (some ⟨B,4,none⟩),.string k,.agg #[.int .i64 v.t,.int .i64 v.i,.int .i64 v.c,.int .i64 v.d,.int .i64 v.p,.int .i64 v.f]] w fun e w'=>(∃b,e=.returned (.bool b))∧∃F',FB w' B L (insL k v M) F'∧Tn F F' w w':=by
 obtain ⟨rp,F1,FP,h1,h2,h3,rfl⟩:=h
 have h1':=h1
 obtain ⟨K,r1,r2,Fa,Fb,iy,hr,rfl⟩:=h1'
 refine (AvlSP.Put B 4 _ TX k v rp M FP w iy.blk rfl rfl h2 (h3 B (by simp)) (by omega)).mono ?_
 rintro e w' ⟨r',FP',rfl,hb,hm,hs,hf⟩
 refine ⟨⟨_,rfl⟩,FB.turnP h1 h2 h3 (fun a1 n1 a2 n2 hq=>?_) hm hs hf⟩
 rw [iy.blk] at hq
 cases hq
 exact hb
theorem FB.drop (h:FB w B L M F) (k:ByteArray) (sz:M.length<1000000):
  Calls prog 132 #[.pointer (some ⟨B,4,none⟩),.string k] w fun e w'=>(∃b,e=.returned (.bool b))∧∃F',FB w' B L (delL k M) F'∧Tn F F' w w':=by
 obtain ⟨rp,F1,FP,h1,h2,h3,rfl⟩:=h
 have h1':=h1
 obtain ⟨K,r1,r2,Fa,Fb,iy,hr,rfl⟩:=h1'
 refine (AvlSP.Drop B 4 _ TX k rp M FP w iy.blk rfl rfl h2 (h3 B (by simp)) (by omega)).mono ?_
 rintro e w' ⟨r',FP',rfl,hb,hm,hs,hf⟩
 refine ⟨⟨_,rfl⟩,FB.turnP h1 h2 h3 (fun a1 n1 a2 n2 hq=>?_) hm (fun x hx=>.inl (hs x hx)) hf⟩
 rw [iy.blk] at hq
 cases hq
 exact hb
theorem FB.drops (h:FB w B L M F) {t i:Int} (ht:wf64 t) (hi:wf64 i) (sz:L.length<1000000):
  Calls prog 77 #[.pointer (some ⟨B,0,none⟩),.int .i64 t,.int .i64 i] w fun e w'=>(∃b,e=.returned (.bool b))∧∃F',FB w' B (SetP.out t i L) M F'∧Tn F F' w w':=by
 have h':=h
 obtain ⟨rp,F1,FP,h1,h2,h3,rfl⟩:=h'
 refine (KdO.Drop B _ L F1 t i w h1 ht hi sz).mono ?_
 rintro e w' ⟨rfl,F',h4,h5⟩
 exact ⟨⟨_,rfl⟩,FB.sw h1 h2 h3 h4 h5⟩
theorem FB.puts (h:FB w B L M F) {x:Sn} (hg:gd x) (sz:L.length<1000000):
  Calls prog 78 #[.pointer (some ⟨B,0,none⟩),x.v] w fun e w'=>e=.returned (.tuple #[])∧∃F',FB w' B (putK x L) M F'∧Tn F F' w w':=by
 have h':=h
 obtain ⟨rp,F1,FP,h1,h2,h3,rfl⟩:=h'
 refine (KdO.Put B _ L F1 x w h1 hg sz).mono ?_
 rintro e w' ⟨rfl,F',h4,h5⟩
 exact ⟨rfl,FB.sw h1 h2 h3 h4 h5⟩
end
end Fst
end Go.Proofs.YtgfjpnpbkkadpaaGreat
