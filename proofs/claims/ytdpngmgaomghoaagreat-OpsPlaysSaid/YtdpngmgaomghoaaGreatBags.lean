/- Bags: the walks of their methods. -/
import Derived.Test.YtdpngmgaomghoaaGreatAvlII2
import Derived.Test.YtdpngmgaomghoaaGreatKB
import Derived.Test.YtdpngmgaomghoaaGreatEngs
import Derived.Test.YtdpngmgaomghoaaGreatR17
import Derived.Deep.DeepCutAuto
import Derived.Deep.CutBlock
namespace Go.Proofs.YtdpngmgaomghoaaGreat
open Tryz
set_option maxRecDepth 100000
set_option maxHeartbeats 400000
open Go.RowKit Go.Shelf
namespace Bag
open BagP
def BagC (w:World) (c:Array Value) (off:Nat) (L:List (Int × Int)) (F:List Nat):Prop:=
 ∃r,c[off]? =some (.pointer r)∧c[off+1]? =some (.int .i64 L.length)∧c[off+2]? =some (.int .i64 (sumL L))∧AvlII.MapIn w r L F∧Pos L∧sumL L≤4611686018427387904
def BagIn (w:World) (B off:Nat) (c:Array Value) (TB:TypeId) (L:List (Int × Int)) (F:List Nat):Prop:=Bk w B c TB∧BagC w c off L F∧B∉F
def BagPost (B off:Nat) (c:Array Value) (TB:TypeId) (L':List (Int × Int)) (F:List Nat) (w w':World):Prop:=
 ∃c' F',BagIn w' B off c' TB L' F'∧c'.size=c.size∧(∀i,i<off∨off+2<i→c'[i]? =c[i]?)∧(∀x∈F',x∈F∨w.heap.size≤x)∧Fr (fun x=>x=B∨x∈F) w w'
theorem BagC.fr {S:Nat→Prop} {w w':World} {c:Array Value} {off:Nat} {L:List (Int × Int)} {F:List Nat} (h:BagC w c off L F) (hf:Fr S w w') (hs:∀b∈F,¬S b):BagC w' c off L F:=by
 obtain ⟨r,h0,h1,h2,hM,h3⟩:=h
 exact ⟨r,h0,h1,h2,hM.fr hf hs,h3⟩
theorem BagIn.fr {S:Nat→Prop} {w w':World} {B off:Nat} {c:Array Value} {TB:TypeId} {L:List (Int × Int)} {F:List Nat} (h:BagIn w B off c TB L F) (hf:Fr S w w') (hs:∀b∈B::F,¬S b):BagIn w' B off c TB L F:=
 ⟨h.1.fr hf (fun b hb=>hs b (by simp at hb;simp [hb])),h.2.1.fr hf (fun b hb=>hs b (by simp [hb])),h.2.2⟩
theorem BagIn.srt {w:World} {B off:Nat} {c:Array Value} {TB:TypeId} {L:List (Int × Int)} {F:List Nat} (h:BagIn w B off c TB L F):Srt L:=by
 obtain ⟨-,⟨r,-,-,-,hM,-⟩,-⟩:=h;exact hM.srt
theorem BagIn.pos {w:World} {B off:Nat} {c:Array Value} {TB:TypeId} {L:List (Int × Int)} {F:List Nat} (h:BagIn w B off c TB L F):Pos L∧sumL L≤4611686018427387904:=by
 obtain ⟨-,⟨r,-,-,-,-,h⟩,-⟩:=h;exact h
theorem BagIn.lt {w:World} {B off:Nat} {c:Array Value} {TB:TypeId} {L:List (Int × Int)} {F:List Nat} (h:BagIn w B off c TB L F):∀b∈B::F,b<w.heap.size:=by
 obtain ⟨hB,⟨r,-,-,-,hM,-⟩,-⟩:=h
 intro b hb
 rcases List.mem_cons.1 hb with rfl|hb
 ·exact lt_of_heap hB
 ·exact hM.lt b hb
theorem BagIn.mapP {w:World} {B off:Nat} {c:Array Value} {TB:TypeId} {L:List (Int × Int)} {F:List Nat} (h:BagIn w B off c TB L F):AvlII.MapP w (some ⟨B,off,none⟩) L F:=by
 obtain ⟨hB,⟨r,h0,-,-,hM,-⟩,-⟩:=h
 exact .inr ⟨B,off,r,rfl,(hB.cell off).trans h0,hM⟩
theorem Count (B off:Nat) (c:Array Value) (TB:TypeId) (x:Int) (L:List (Int × Int)) (F:List Nat) (w:World) (h:BagIn w B off c TB L F):
  Calls prog 265 #[.pointer (some ⟨B,off,none⟩),.int .i64 x] w fun e w'=>e=.returned (.int .i64 (cnt x L))∧w=w':=by
 obtain ⟨hB,⟨r,h0,h1,h2,hM,hp,hm⟩,hn⟩:=h
 have HG:=Lib.hid (AvlII.Get_map x B off r L F w hM ((hB.cell off).trans h0))
 unfold AvlII.GetPost at HG
 have HC:=Lib.hid (show (getL x L).getD 0=cnt x L from rfl)
 generalize (getL x L).getD 0=g at *
 clear hB h0 h1 h2 hM hp hm hn
 go_enter func265,ntmps265
 go_wp2_with fail
 refine HG.out.mono ?_
 rintro e w1 ⟨rfl,rfl⟩
 go_wp2_with fail
 go_ret
 exact ⟨by rw [←HC.out];rfl,rfl⟩
theorem Len (B off:Nat) (c:Array Value) (TB:TypeId) (L:List (Int × Int)) (F:List Nat) (w:World) (h:BagIn w B off c TB L F):
  Calls prog 214 #[.pointer (some ⟨B,off,none⟩)] w fun e w'=>e=.returned (.int .i64 (sumL L))∧w=w':=by
 obtain ⟨hB,⟨r,h0,h1,h2,hM,hp,hm⟩,hn⟩:=h
 have c2:w.cell? ⟨B,off+2,none⟩=some (.int .i64 (sumL L)):=(hB.cell _).trans h2
 clear hB h0 h1 h2 hM hp hm hn
 go_enter func214,ntmps214
 go_wp2
 go_ret
 exact ⟨rfl,rfl⟩
theorem post_of {B off:Nat} {c:Array Value} {TB:TypeId} {L':List (Int × Int)} {F F':List Nat} {w w1 w':World} {s:Int} {r':Option Addr}
  (h2:c[off+2]? =some (.int .i64 s)) (_h1:(c[off+1]?).isSome=true) (_h0:(c[off]?).isSome=true) (s':Int)
  (hB:w'.heap[B]? =some (.cells (((c.setIfInBounds (off+2) (.int .i64 s')).setIfInBounds off (.pointer r')).setIfInBounds (off+1) (.int .i64 L'.length)) TB (0,0))) (hM:AvlII.MapIn w' r' L' F') (hs':s'=sumL L') (hp:Pos L') (hm:sumL L'≤4611686018427387904)
  (hsz:w1.heap.size=w.heap.size) (hF:∀x∈F',x∈F∨w1.heap.size≤x) (hf0:Fr (fun x=>x=B) w w1) (hf:Fr (fun x=>x=B∨x∈F) w1 w') (hn:B∉F) (hlt:B<w.heap.size):BagPost B off c TB L' F w w':=by
 have g2:off+2<c.size:=(Array.getElem?_eq_some_iff.1 h2).1
 have g1:off+1<c.size:=by omega
 have g0:off<c.size:=by omega
 refine ⟨_,F',⟨hB,⟨r',?_,?_,?_,hM,hp,hm⟩,fun hx=>?_⟩,by simp,fun i hi=>?_,fun x hx=>(hF x hx).imp id (fun h=>by omega),?_⟩
 ·simp [g0]
 ·simp [g1]
 ·rw [hs'];simp [g2]
 ·rcases hF B hx with h|h
  ·exact hn h
  ·omega
 ·simp only [Array.getElem?_setIfInBounds]
  rw [if_neg (by omega),if_neg (by omega),if_neg (by omega)]
 ·exact hf0.trans hf (fun _ _ h=>.inl h) (fun _ _ h=>h)
theorem set (B off:Nat) (c:Array Value) (TB:TypeId) (x many:Int) (L:List (Int × Int)) (F:List Nat) (w:World) (h:BagIn w B off c TB L F) (hm0:0≤many) (hsum:sumL L-cnt x L+many≤4611686018427387904) (sz:L.length<144115188075855871):
  Calls prog 264 #[.pointer (some ⟨B,off,none⟩),.int .i64 x,.int .i64 many] w fun e w'=>e=.returned (.tuple #[])∧BagPost B off c TB (setL x many L) F w w':=by
 have hcnt:=h.pos.1.cnt x
 have hmost:=h.pos.2
 have HSum:=Lib.hid (sumL_set x many h.srt)
 have HPos:=Lib.hid (setL_pos (x:=x) (v:=many) h.pos.1 hm0)
 have el:Calls prog 265 #[.pointer (some ⟨B,off,none⟩),.int .i64 x] w.drew fun e w'=>e=.returned (.int .i64 (cnt x L))∧w'=w.drew:=(Count B off c TB x L F w.drew (h.fr (Fr.drew (fun _=>False) w) (fun _ _ h=>h))).mono fun e w' ⟨a,b⟩=>⟨a,b.symm⟩
 obtain ⟨hB,⟨r,h0,h1,h2,hM,hp,hm⟩,hn⟩:=h
 have c2:w.drew.cell? ⟨B,off+2,none⟩=some (.int .i64 (sumL L)):=(hB.cell _).trans h2
 have cf:w.drew.frozen? ⟨B,off+2,none⟩=false:=hB.free _
 have hlt:=lt_of_heap hB
 have hsn:off+2<c.size:=(Array.getElem?_eq_some_iff.1 h2).1
 have H0:=Lib.hid h0;have H1:=Lib.hid h1;have H2:=Lib.hid h2;have HM:=Lib.hid hM;have HB:=Lib.hid hB
 clear h0 h1 h2 hM hp hm hB
 generalize hC:cnt x L=n at *
 generalize hS:sumL L=s at *
 have HC:=Lib.hid hC;have HS:=Lib.hid hS
 clear hC hS
 have hS:∃u,u=Value.int .i64 (s+(many-n)):=⟨_,rfl⟩
 have hB1:((w.setCell ⟨B,off+2,none⟩ (.int .i64 (s+(many-n)))).drew).heap[B]? =some (.cells (c.setIfInBounds (off+2) (.int .i64 (s+(many-n)))) TB (0,0)):=heap_setCell_same HB.out _
 have hf1:Fr (fun y=>y=B) w (w.setCell ⟨B,off+2,none⟩ (.int .i64 (s+(many-n)))).drew:=(Fr.setCell w ⟨B,off+2,none⟩ _ (S:=(· =B)) rfl).trans (Fr.drew (fun _=>False) _) (fun _ _ h=>h) (fun _ _ h=>h.elim)
 have hM1:=HM.out.fr hf1 (fun b hb e=>hn (e▸hb))
 have g0:(c.setIfInBounds (off+2) (.int .i64 (s+(many-n))))[off]? =some (.pointer r):=by rw [Array.getElem?_setIfInBounds,if_neg (by omega)];exact H0.out
 have g1:(c.setIfInBounds (off+2) (.int .i64 (s+(many-n))))[off+1]? =some (.int .i64 L.length):=by rw [Array.getElem?_setIfInBounds,if_neg (by omega)];exact H1.out
 have hsz1:(w.setCell ⟨B,off+2,none⟩ (.int .i64 (s+(many-n)))).drew.heap.size=w.heap.size:=by simp [World.setCell]
 have HDr:=Lib.hid (AvlII.Drop B off _ TB x r L F _ hB1 g0 g1 hM1 hn (by omega))
 have HPu:=Lib.hid (AvlII.Put B off _ TB x many r L F _ hB1 g0 g1 hM1 hn (by omega))
 have HF1:=Lib.hid hf1;have HZ1:=Lib.hid hsz1
 clear hS hB1 hf1 hM1 g0 g1 hsz1
 by_cases hz:many=0
 ·have q1:(many==0)=true:=by simp [hz]
  have HL:=Lib.hid (show setL x many L=delL x L by simp [setL,hz])
  have HZ:=Lib.hid hz
  clear hz
  go_enter func264,ntmps264
  go_upto_region 0 with (fail)
  refine wp_region_still_tail 12 (by kernel_rfl) (by kernel_rfl) ?_
  simp only [List.take_succ_cons,List.take_zero,List.drop_succ_cons,List.drop_zero]
  change wpStill _ _ w.drew (fun a'=>wpList _ _ _ _ a' w.drew) _ _
  iterate 7 still_step
  still_call el
  iterate 4 still_step
  refine wpStill_nil ?_
  clear el
  go_wp2_with fail
  refine HDr.out.mono ?_
  rintro e w2 ⟨r',F',rfl,k1,k2,k3,k4⟩
  have K1:=Lib.hid k1;have K2:=Lib.hid k2;have K3:=Lib.hid k3;have K4:=Lib.hid k4
  clear k1 k2 k3 k4
  go_wp2_with fail
  go_end0
  have hss:s+(many-n)=sumL (setL x many L):=by rw [HSum.out];have:=HC.out;have:=HS.out;omega
  refine ⟨rfl,post_of (w1:=(w.setCell ⟨B,off+2,none⟩ (.int .i64 (s+(many-n)))).drew) H2.out (by rw [H1.out];rfl) (by rw [H0.out];rfl) (s+(many-n)) (by rw [HL.out];exact K1.out) (by rw [HL.out];exact K2.out) hss HPos.out (by omega) HZ1.out (fun y hy=>.inl (K3.out y hy)) HF1.out K4.out hn hlt⟩
 ·have q1:(many==0)=false:=by simp [hz]
  have HL:=Lib.hid (show setL x many L=insL x many L by simp [setL,hz])
  clear hz
  go_enter func264,ntmps264
  go_upto_region 0 with (fail)
  refine wp_region_still_tail 12 (by kernel_rfl) (by kernel_rfl) ?_
  simp only [List.take_succ_cons,List.take_zero,List.drop_succ_cons,List.drop_zero]
  change wpStill _ _ w.drew (fun a'=>wpList _ _ _ _ a' w.drew) _ _
  iterate 7 still_step
  still_call el
  iterate 4 still_step
  refine wpStill_nil ?_
  clear el
  go_wp2_with fail
  refine HPu.out.mono ?_
  rintro e w2 ⟨r',F',rfl,k1,k2,k3,k4⟩
  have K1:=Lib.hid k1;have K2:=Lib.hid k2;have K3:=Lib.hid k3;have K4:=Lib.hid k4
  clear k1 k2 k3 k4
  go_wp2_with fail
  go_end0
  have hss:s+(many-n)=sumL (setL x many L):=by rw [HSum.out];have:=HC.out;have:=HS.out;omega
  refine ⟨rfl,post_of (w1:=(w.setCell ⟨B,off+2,none⟩ (.int .i64 (s+(many-n)))).drew) H2.out (by rw [H1.out];rfl) (by rw [H0.out];rfl) (s+(many-n)) (by rw [HL.out];exact K1.out) (by rw [HL.out];exact K2.out) hss HPos.out (by omega) HZ1.out K3.out HF1.out K4.out hn hlt⟩
end Bag
set_option maxRecDepth 100000
set_option maxHeartbeats 1000000
attribute [local go_sem] Oper.semAt_some
namespace Bag
open BagP
theorem BagPost.refl {w:World} {B off:Nat} {c:Array Value} {TB:TypeId} {L:List (Int × Int)} {F:List Nat} (h:BagIn w B off c TB L F):BagPost B off c TB L F w w:=
 ⟨c,F,h,rfl,fun _ _=>rfl,fun _ hx=>.inl hx,Fr.refl _ _⟩
theorem BagIn.ok {w:World} {B off:Nat} {c:Array Value} {TB:TypeId} {L:List (Int × Int)} {F:List Nat} (h:BagIn w B off c TB L F):Ok L:=⟨h.srt,h.pos.1,h.pos.2⟩
theorem Add (B off:Nat) (c:Array Value) (TB:TypeId) (x many:Int) (L:List (Int × Int)) (F:List Nat) (w:World) (h:BagIn w B off c TB L F) (sz:L.length<144115188075855871):
  Calls prog 219 #[.pointer (some ⟨B,off,none⟩),.int .i64 x,.int .i64 many] w fun e w'=>e=.returned (.bool (okA many L))∧BagPost B off c TB (addL x many L) F w w':=by
 have hcnt:=h.pos.1.cnt x
 have hmost:=h.pos.2
 have HH:=Lib.hid h
 have c2:w.cell? ⟨B,off+2,none⟩=some (.int .i64 (sumL L)):=by
  obtain ⟨hB,⟨r,h0,h1,h2,-⟩,-⟩:=h
  exact (hB.cell _).trans h2
 have HC:=Lib.hid (Count B off c TB x L F w h)
 by_cases hk:0≤many∧many≤4611686018427387904-sumL L
 ·have HOk:=Lib.hid (show okA many L=true by simp [okA,hk])
  have HAdd:=Lib.hid (show addL x many L=setL x (cnt x L+many) L by simp [addL,HOk.out])
  have HSet:=Lib.hid (set B off c TB x (cnt x L+many) L F w h (by omega) (by omega) sz)
  clear h
  generalize cnt x L=n at *
  generalize sumL L=s at *
  have q1:¬many<0:=by omega
  have q2:¬4611686018427387904-s<many:=by omega
  go_enter func219,ntmps219
  go_wp2_with fail
  refine HC.out.mono ?_
  rintro e w1 ⟨rfl,rfl⟩
  go_wp2_with fail
  refine HSet.out.mono ?_
  rintro e w1 ⟨rfl,hp⟩
  have HP:=Lib.hid hp
  clear hp
  go_wp2_with fail
  go_ret
  exact ⟨by rw [HOk.out];rfl,by rw [HAdd.out];exact HP.out⟩
 ·have HOk:=Lib.hid (show okA many L=false by simp [okA];omega)
  have HAdd:=Lib.hid (show addL x many L=L by simp [addL,HOk.out])
  clear h HC
  generalize cnt x L=n at *
  generalize sumL L=s at *
  by_cases q1:many<0
  ·go_enter func219,ntmps219
   go_wp2_with fail
   go_ret
   exact ⟨by rw [HOk.out];rfl,by rw [HAdd.out];exact BagPost.refl HH.out⟩
  ·have q2:4611686018427387904-s<many:=by omega
   go_enter func219,ntmps219
   go_wp2_with fail
   go_ret
   exact ⟨by rw [HOk.out];rfl,by rw [HAdd.out];exact BagPost.refl HH.out⟩
theorem Take (B off:Nat) (c:Array Value) (TB:TypeId) (x many:Int) (L:List (Int × Int)) (F:List Nat) (w:World) (h:BagIn w B off c TB L F) (sz:L.length<144115188075855871):
  Calls prog 261 #[.pointer (some ⟨B,off,none⟩),.int .i64 x,.int .i64 many] w fun e w'=>e=.returned (.bool (okT x many L))∧BagPost B off c TB (takeL x many L) F w w':=by
 have hcnt:=h.pos.1.cnt x
 have hmost:=h.pos.2
 have HH:=Lib.hid h
 have HC:=Lib.hid (Count B off c TB x L F w h)
 by_cases hk:0≤many∧many≤cnt x L
 ·have HOk:=Lib.hid (show okT x many L=true by simp [okT,hk])
  have HAdd:=Lib.hid (show takeL x many L=setL x (cnt x L-many) L by simp [takeL,HOk.out])
  have HSet:=Lib.hid (set B off c TB x (cnt x L-many) L F w h (by omega) (by omega) sz)
  clear h
  generalize cnt x L=n at *
  generalize sumL L=s at *
  have q1:¬many<0:=by omega
  have q2:¬n<many:=by omega
  go_enter func261,ntmps261
  go_wp2_with fail
  refine HC.out.mono ?_
  rintro e w1 ⟨rfl,rfl⟩
  go_wp2_with fail
  refine HC.out.mono ?_
  rintro e w1 ⟨rfl,rfl⟩
  go_wp2_with fail
  refine HSet.out.mono ?_
  rintro e w1 ⟨rfl,hp⟩
  have HP:=Lib.hid hp
  clear hp
  go_wp2_with fail
  go_ret
  exact ⟨by rw [HOk.out];rfl,by rw [HAdd.out];exact HP.out⟩
 ·have HOk:=Lib.hid (show okT x many L=false by simp [okT];omega)
  have HAdd:=Lib.hid (show takeL x many L=L by simp [takeL,HOk.out])
  clear h
  generalize cnt x L=n at *
  by_cases q1:many<0
  ·go_enter func261,ntmps261
   go_wp2_with fail
   go_ret
   exact ⟨by rw [HOk.out];rfl,by rw [HAdd.out];exact BagPost.refl HH.out⟩
  ·have q2:n<many:=by omega
   go_enter func261,ntmps261
   go_wp2_with fail
   refine HC.out.mono ?_
   rintro e w1 ⟨rfl,rfl⟩
   go_wp2_with fail
   go_ret
   exact ⟨by rw [HOk.out];rfl,by rw [HAdd.out];exact BagPost.refl HH.out⟩
theorem All_none (w:World):Calls prog 172 #[.pointer none] w fun e w'=>e=.returned (.func (.func 271) #[] #[.pointer (some ⟨w.heap.size,0,none⟩)])∧w.alloc (.cells #[.pointer none] 270 (0,0))=w':=by
 go_enter func172,ntmps172
 go_wp2_with fail
 refine (AvlII.All none w).mono ?_
 rintro e w1 ⟨rfl,rfl⟩
 go_wp2_with fail
 go_ret
 exact ⟨rfl,rfl⟩
theorem All (B off:Nat) (w:World):Calls prog 172 #[.pointer (some ⟨B,off,none⟩)] w fun e w'=>e=.returned (.func (.func 271) #[] #[.pointer (some ⟨w.heap.size,0,none⟩)])∧w.alloc (.cells #[.pointer (some ⟨B,off,none⟩)] 270 (0,0))=w':=by
 go_enter func172,ntmps172
 go_wp2_with fail
 refine (AvlII.All _ w).mono ?_
 rintro e w1 ⟨rfl,rfl⟩
 go_wp2_with fail
 go_ret
 exact ⟨rfl,rfl⟩
theorem All_any (p:Option Addr) (hp:p=none∨∃B off,p=some ⟨B,off,none⟩) (w:World):Calls prog 172 #[.pointer p] w fun e w'=>e=.returned (.func (.func 271) #[] #[.pointer (some ⟨w.heap.size,0,none⟩)])∧w.alloc (.cells #[.pointer p] 270 (0,0))=w':=by
 rcases hp with rfl| ⟨B,off,rfl⟩
 ·exact All_none w
 ·exact All B off w
theorem infoC:(prog.info? 82).map (fun i=>(i.zero,i.size,i.bytes))=some (some (.agg #[.int .i64 0,.int .i64 0]),2,16):=by kernel_rfl
abbrev TC:TypeId:=82
abbrev TCs:TypeId:=64
abbrev pc (p:Int × Int):List Value:= [.int .i64 p.1,.int .i64 p.2]
theorem pc_len (p:Int × Int):(pc p).length=2:=rfl
theorem Counts_any (p:Option Addr) (hp:p=none∨∃B off,p=some ⟨B,off,none⟩) (L:List (Int × Int)) (F:List Nat) (w:World) (hM:AvlII.MapP w p L F) (hFlt:∀b∈F,b<w.heap.size) (hlen:L.length≤1000000000000):
  Calls prog 225 #[.pointer p] w fun e w'=>∃v,e=.returned v∧w'.ownsRow w.heap.size TC 2 v L.length (L.flatMap pc)∧Below w.heap.size w w':=by
 obtain ⟨i0,hi,hz0,hz1,hz2⟩:=info_parts infoC
 have HAll:=fun w=>Lib.hid (All_any p hp w)
 clear hp
 refine (callsIn_wide (n:=3)).1 ?_
 refine callsIn_of_wp_marks func225 rfl trivial ?_ rfl
 simp only [ntmps225,List.size_toArray,List.length_cons,List.length_nil,Nat.reduceAdd,Nat.reduceSub,Array.replicate_succ,Array.replicate_zero,List.push_toArray,List.append_toArray,List.nil_append,List.cons_append]
 refine wpIn_wide.2 ?_
 go_wp2_with fail
 refine (HAll _).out.mono ?_
 rintro e w1 ⟨rfl,rfl⟩
 clear HAll
 go_wp2_with fail
 have fa:=fun (w:World) (o:Obj)=>Fr.alloc (fun _=>False) w o
 have nn:∀G:List Nat,∀b∈G,¬False:=fun _ _ _ h=>h
 have b0:Bk ((w.alloc (.cells #[.slice none 0 0] TCs)).alloc (.cells #[.pointer p] 270)) w.heap.size #[.slice none 0 0] TCs:=(Bk.new w _ _).fr (fa _ _) (nn _)
 have hcc:((w.alloc (.cells #[.slice none 0 0] TCs)).alloc (.cells #[.pointer p] 270)).cell? ⟨w.heap.size+1,0,none⟩=some (.pointer p):=by
  have:=(Bk.new (w.alloc (.cells #[.slice none 0 0] TCs)) #[.pointer p] 270).cell 0
  rwa [World.size_alloc] at this
 have hb0:Below w.heap.size w ((w.alloc (.cells #[.slice none 0 0] TCs)).alloc (.cells #[.pointer p] 270)):=((Below.refl _ w).alloc (Nat.le_refl _) _).alloc (by simp) _
 have hs0:((w.alloc (.cells #[.slice none 0 0] TCs)).alloc (.cells #[.pointer p] 270)).heap.size=w.heap.size+2:=by simp
 have hM0:=hM.below hb0
 generalize (w.alloc (.cells #[.slice none 0 0] TCs)).alloc (.cells #[.pointer p] 270)=W0 at *
 have HS0:=Lib.hid hs0
 clear hs0 fa hM
 refine (wpIn_wide (n:=3)).1 ?_
 refine range_P' (n:=3) (a₁:=?fr) (gf:=271) (lb:= #[.pointer (some ⟨w.heap.size+1,0,none⟩)]) rfl (enters_of func271 (by kernel_rfl) rfl)
  (AvlII.All_seq F (w.heap.size+1) p L F W0 hcc (by have:=HS0.out;omega) hM0 (fun _ h=>h)) (fun b hb=>by have:=hFlt b hb;have:=HS0.out;omega) (fun _=>rfl)
  (fun (pre:List (Int × Int)) (W:World)=>Coll w.heap.size W0.heap.size (W0.heap.size+2+0) w.heap.size TCs TC 2 w W pre.length (pre.flatMap pc)∧W0.heap.size≤W.heap.size) (fun _ _ _=>False)
  (fun pre A B h hf=>⟨h.1.abide hf (by have:=HS0.out;omega) (fun h=>by have:=h.1;have:=HS0.out;omega) (by have:=h.2;have:=HS0.out;omega),Nat.le_trans h.2 hf.size⟩) (fun _ _ _ _ h _=>h)
  ⟨Coll.start b0 hb0,Nat.le_refl _⟩ ?assign ?body ?done (fun _ _ _ _ _ h _=>h.elim)
 case assign=>
  intro l m x W K hK
  gi_wp2
  exact hK
 case body=>
  rintro l m pre x W ⟨⟨v,hv,hown,hbel,hout⟩,hsz0⟩ hsz hpre rfl ⟨r,hl⟩ hd
  (try dsimp only)
  obtain ⟨xk,xv⟩:=x
  have hlt:pre.length+1≤L.length:=by have:=hpre.length_le;rw [List.length_append,List.length_singleton] at this;exact this
  have cv:W.cell? ⟨w.heap.size,0,none⟩=some v:=hv.cell 0
  have fv:=hv.free 0
  have hn1:w.heap.size≤W.heap.size:=by have:=HS0.out;omega
  have HV:=Lib.hid hv;have HO:=Lib.hid hown;have HBe:=Lib.hid hbel;have HOut:=Lib.hid hout;have HL:=Lib.hid hl;have HD:=Lib.hid hd
  have hown':=hown.alloc (.cells #[.int .i64 xk,.int .i64 xv] TC)
  clear hv hown hbel hout hl hd hM0 hcc b0
  gi_wp2_with (gi_at_builtin;refine wpListIn_append_own _ rfl (.tmp 10) (.tmp 14) TCs rfl w.heap.size TC i0 (.agg #[.int .i64 0,.int .i64 0]) 2 16 underlying64 hi hz0 hz1 hz2 rfl (by decide) _ _ _ rfl hown' ⟨W.heap.size,0,none⟩ 1 1 [.int .i64 xk,.int .i64 xv] rfl rfl (new_cells W TC [.int .i64 xk,.int .i64 xv]) (by simp [Value.oneCell']) (by unfold maxLen;omega) (by omega) (by simp;omega) ?_)
  intro v' w1 hown1 hgrow _
  obtain ⟨g',cap',rfl⟩:=ownsRow_succ hown1
  have hb:¬Rg W0.heap.size (W0.heap.size+2+0) w.heap.size:=fun h=>by have:=h.1;have:=HS0.out;omega
  obtain ⟨k1,k2,k3⟩:=Coll.step HV.out HO.out HBe.out HOut.out (by decide) hn1 (Nat.le_refl _) hb HL.out HD.out hown1 hgrow
  have cv1:w1.cell? ⟨w.heap.size,0,none⟩=some v:=k1.cell 0
  have fv1:=k1.free 0
  have K2:=Lib.hid k2;have K3:=Lib.hid k3;have KO:=Lib.hid (ownsRow_blk HO.out)
  clear k1 k2 k3 hown1 hgrow hown' cv fv
  gi_wp2_with fail
  have hs1:=HS0.out
  refine ⟨KeptR.of_fr K3.out hsz ?_,K3.out.size,KeptL.of_fr K3.out (fun b hb=>⟨by have:=hFlt b hb;omega,?_⟩),⟨by simpa using K2.out,Nat.le_trans hsz0 K3.out.size⟩⟩
  ·rintro b hr (e|e)
   ·exact hb (e▸hr)
   ·exact HOut.out b e hr
  ·rintro (e|e)
   ·have:=hFlt b hb;omega
   ·have:=(KO.out b e).1;have:=hFlt b hb;omega
 case done=>
  rintro W hsz ⟨⟨v,hv,hown,hbel,hout⟩,hsz0⟩ hK
  have cv:W.cell? ⟨w.heap.size,0,none⟩=some v:=hv.cell 0
  have HO:=Lib.hid hown;have HBe:=Lib.hid hbel;have HOut:=Lib.hid hout;have HK:=Lib.hid hK
  clear hv hown hbel hout hK hM0 hcc b0
  obtain ⟨A,cA,rfl,-,-⟩:=Sl.of_own HO.out
  go_wp2_with fail
  refine ⟨by simp,.inl ⟨_,_,rfl,run_takeDeferred HK.out,?_⟩⟩
  have hs1:=HS0.out
  have hf:=Fr.putObj W W0.heap.size (.deferred none) (S:=(· =W0.heap.size)) rfl
  exact ⟨.slice A L.length cA,by simp [results,Tryz.results225,go_sem],.slice A L.length cA,rfl,ownsRow_fr HO.out hf (fun b hb e=>HOut.out b hb ⟨by omega,by omega⟩),HBe.out.trans (hf.below (by omega) (fun k hk e=>by omega))⟩
theorem Counts (B off:Nat) (c:Array Value) (TB:TypeId) (L:List (Int × Int)) (F:List Nat) (w:World) (h:BagIn w B off c TB L F) (hlen:L.length≤1000000000000):
  Calls prog 225 #[.pointer (some ⟨B,off,none⟩)] w fun e w'=>∃v,e=.returned v∧w'.ownsRow w.heap.size TC 2 v L.length (L.flatMap pc)∧Below w.heap.size w w':=
 Counts_any _ (.inr ⟨B,off,rfl⟩) L F w h.mapP (fun b hb=>h.lt b (by simp [hb])) hlen
end Bag
set_option maxRecDepth 100000
open Go.RowKit
namespace Ref13
open BagP Bag
abbrev TR:TypeId:=73
abbrev RB (w:World) (B:Nat) (L:List (Int × Int)) (F:List Nat):Prop:=SB w B TR 2 pc L F
theorem Count (B:Nat) (x:Int) (L:List (Int × Int)) (F:List Nat) (w:World) (h:RB w B L F):
  Calls prog 157 #[.pointer (some ⟨B,0,none⟩),.int .i64 x] w fun e w'=>e=.returned (.int .i64 (cnt x L))∧w=w':=by
 obtain ⟨A,c,hB,hS,-,-⟩:=h
 have cB:w.cell? ⟨B,0,none⟩=some (.slice A L.length c):=hB.cell 0
 have hlen:L.length≤9223372036854775807:=by have:=hS.2.1;have:=hS.2.2.1;unfold maxLen at this;omega
 clear hB
 go_enter func157,ntmps157
 go_wp2_with fail
 go_loopg [5] L.length (fun gk i wr=>w=wr∧∃j:Nat,i=.int .i64 j∧j≤L.length∧gk=L.length-j∧∀i (_:i<j) (h:i<L.length),L[i].1≠x)
 case atStart=>exact ⟨rfl,0,rfl,Nat.zero_le _,rfl,fun i h=>by omega⟩
 case round=>
  obtain ⟨rfl,j,rfl,hj,hg,hne⟩:=hrel
  have HG:=Lib.hid hg;have HN:=Lib.hid hne
  clear hg hne
  by_cases hlt:j<L.length
  ·obtain ⟨b1,o1,rfl,-,c1⟩:=hS.at hlt (by omega)
   have d1:w.cell? ⟨b1,o1+j*2,none⟩=some (.int .i64 L[j].1):=c1 (j*2) _ (by rw [←Nat.add_zero (j*2),flat_at pc_len hlt (by omega)];rfl)
   have d2:w.cell? ⟨b1,o1+j*2+1,none⟩=some (.int .i64 L[j].2):=c1 (j*2+1) _ (by rw [flat_at pc_len hlt (by omega)];rfl)
   clear c1 hS
   have HGe:=Lib.hid (Ref12.get_take_none (k:=x) HN.out hlt)
   generalize hx:L[j]=p at *
   obtain ⟨k,y⟩:=p
   have HX:=Lib.hid hx
   clear hx
   dsimp only at d1 d2 HGe
   by_cases hxk:k=x
   ·have t2:(k==x)=true:=by simp [hxk]
    have HE:=Lib.hid (HGe.out hxk)
    clear hxk HGe
    go_wp2_with fail
    go_ret
    exact ⟨by unfold cnt;rw [HE.out];rfl,rfl⟩
   ·have t2:(k==x)=false:=by simp [hxk]
    have HXK:=Lib.hid hxk
    clear hxk
    go_wp2_with fail
    go_roundg (L.length-(j+1))
    case rel=>
     refine ⟨rfl,j+1,by go_num,by omega,rfl,fun i hi h=>?_⟩
     rcases Nat.lt_succ_iff_lt_or_eq.1 hi with hi|rfl
     ·exact HN.out i hi h
     ·rw [HX.out];exact HXK.out
    case measure=>have:=HG.out;omega
  ·have HE:=Lib.hid (Ref12.get_none (k:=x) (L:=L) (fun i h=>HN.out i (by omega) h))
   clear hS
   go_wp2_with fail
   go_ret
   exact ⟨by unfold cnt;rw [HE.out];rfl,rfl⟩
def refSet (x many:Int) (L:List (Int × Int)):List (Int × Int):=L.takeWhile (fun p=>decide (p.1<x))++(if 0<many then [(x,many)] else [])++L.filter (fun p=>decide (x<p.1))
theorem refSet_eq (x many:Int) (hm:0≤many):∀ {L:List (Int × Int)},Srt L→refSet x many L=setL x many L
 | [],_=>by
  unfold refSet setL
  by_cases h:many=0
  ·simp [h,delL]
  ·have:0<many:=by omega
   simp [h,this,insL]
 | (a,b)::t,hs=>by
  have hs':=List.pairwise_cons.1 hs
  have ih:=refSet_eq x many hm hs'.2
  unfold refSet at ih ⊢
  by_cases h1:a<x
  ·have h2:¬x<a:=by omega
   have e1:((a,b)::t).takeWhile (fun p=>decide (p.1<x))=(a,b)::t.takeWhile (fun p=>decide (p.1<x)):=by simp [h1]
   have e2:((a,b)::t).filter (fun p=>decide (x<p.1))=t.filter (fun p=>decide (x<p.1)):=by simp [h2]
   rw [e1,e2,List.cons_append,List.cons_append,ih]
   unfold setL
   split
   ·rw [delL_cons,sameK_gt (by rw [ltInt];simpa using h1),if_neg (by simp)]
   ·rw [insL,if_neg (by rw [ltInt];simpa using h2),if_pos (by rw [ltInt];simpa using h1)]
  ·have e1:((a,b)::t).takeWhile (fun p=>decide (p.1<x))= []:=by simp [h1]
   rw [e1,List.nil_append]
   by_cases h2:x<a
   ·have hf:((a,b)::t).filter (fun p=>decide (x<p.1))=(a,b)::t:=by
     rw [List.filter_eq_self]
     intro p hp
     rcases List.mem_cons.1 hp with rfl|hp
     ·simpa using h2
     ·have:=hs'.1 p hp;rw [ltInt] at this;simp at *;omega
    rw [hf]
    unfold setL
    by_cases h:many=0
    ·rw [if_pos h,if_neg (by omega),List.nil_append]
     symm
     refine delL_none (fun p hp=>?_)
     rcases List.mem_cons.1 hp with rfl|hp
     ·exact sameK_lt (by rw [ltInt];simpa using h2)
     ·have:=hs'.1 p hp;rw [ltInt] at this;simp at this
      exact sameK_lt (by rw [ltInt];simp;omega)
    ·rw [if_neg h,if_pos (by omega),insL,if_pos (by rw [ltInt];simpa using h2)];rfl
   ·obtain rfl:a=x:=by omega
    have hf:((a,b)::t).filter (fun p=>decide (a<p.1))=t:=by
     rw [List.filter_cons,if_neg (by simp),List.filter_eq_self];intro p hp;have:=hs'.1 p hp;rw [ltInt] at this;simpa using this
    rw [hf]
    unfold setL
    by_cases h:many=0
    ·rw [if_pos h,if_neg (by omega),List.nil_append,delL_cons,if_pos (sameK_refl _)]
     symm
     exact delL_none (fun p hp=>sameK_lt (hs'.1 p hp))
    ·rw [if_neg h,if_pos (by omega),insL,if_neg (by rw [Ord.irr];simp),if_neg (by rw [Ord.irr];simp)];rfl
theorem takeWhile_app {p:Int × Int→Bool}:∀ {A B:List (Int × Int)},(∀q∈A,p q=true)→(A++B).takeWhile p=A++B.takeWhile p
 | [],_,_=>rfl
 |a::A,B,h=>by
  rw [List.cons_append,List.takeWhile_cons,h a (by simp),takeWhile_app (fun q hq=>h q (by simp [hq]))];rfl
theorem takeWhile_take {p:Int × Int→Bool} {L:List (Int × Int)} {j:Nat} (h1:∀i (_:i<j) (h:i<L.length),p L[i]=true) (h2:∀h:j<L.length,p L[j]=false):L.takeWhile p=L.take j:=by
 have h4:(L.drop j).takeWhile p= []:=by
  by_cases hl:j<L.length
  ·rw [List.drop_eq_getElem_cons hl,List.takeWhile_cons,h2 hl];rfl
  ·rw [List.drop_eq_nil_of_le (by omega)];rfl
 have h5:=takeWhile_app (p:=p) (A:=L.take j) (B:=L.drop j) (fun q hq=>by
  obtain ⟨i,hi,rfl⟩:=List.getElem_of_mem hq
  rw [List.length_take] at hi
  rw [List.getElem_take];exact h1 i (by omega) (by omega))
 rw [List.take_append_drop,h4,List.append_nil] at h5
 exact h5
theorem Same (A B:Option Addr) (ca cb:Nat) (a b:List (Int × Int)) (w:World) (n m:Nat) (hn:n=a.length) (hm:m=b.length) (ha:Sl w 2 A a.length ca (a.flatMap pc)) (hb:Sl w 2 B b.length cb (b.flatMap pc)) (hab:a=b):
  Calls prog 103 #[.slice A n ca,.slice B m cb] w fun e w'=>e=.returned (.bool true)∧Fr (fun _=>False) w w':=by
 subst hab
 subst hn
 subst hm
 have la:a.length≤9223372036854775807:=by have:=ha.2.1;have:=ha.2.2.1;unfold maxLen at this;omega
 have t1:((a.length:Int) != (a.length:Int))=false:=by simp
 go_enter func103,ntmps103
 go_wp2_with fail
 go_loopg [5] a.length (fun gk i wr=>∃k:Nat,i=.int .i64 k∧k≤a.length∧gk=a.length-k∧∃m,wr=w.drewN m)
 case atStart=>exact ⟨0,rfl,Nat.zero_le _,rfl,0,rfl⟩
 case round=>
  obtain ⟨k,rfl,hk,hg,m,rfl⟩:=hrel
  have HG:=Lib.hid hg
  clear hg
  by_cases hlt:k<a.length
  ·obtain ⟨b1,o1,rfl,-,c1⟩:=ha.at hlt (by omega)
   obtain ⟨b2,o2,rfl,-,c2⟩:=hb.at hlt (by omega)
   have g1:(w.drewN m).cell? ⟨b1,o1+k*2,none⟩=some (.int .i64 a[k].1):=c1 (k*2) _ (by rw [←Nat.add_zero (k*2),flat_at pc_len hlt (by omega)];rfl)
   have g2:(w.drewN m).cell? ⟨b1,o1+k*2+1,none⟩=some (.int .i64 a[k].2):=c1 (k*2+1) _ (by rw [flat_at pc_len hlt (by omega)];rfl)
   have g3:(w.drewN m).cell? ⟨b2,o2+k*2,none⟩=some (.int .i64 a[k].1):=c2 (k*2) _ (by rw [←Nat.add_zero (k*2),flat_at pc_len hlt (by omega)];rfl)
   have g4:(w.drewN m).cell? ⟨b2,o2+k*2+1,none⟩=some (.int .i64 a[k].2):=c2 (k*2+1) _ (by rw [flat_at pc_len hlt (by omega)];rfl)
   clear c1 c2 ha hb
   have i1:(k:Int)<(a.length:Int):=by omega
   have i0:(0:Int)≤(k:Int):=by omega
   generalize hwm:w.drewN m=wm at *
   have HW:=Lib.hid hwm
   clear hwm
   generalize a[k].1=x at *
   generalize a[k].2=y at *
   have q1:(x==x)=true:=by simp
   have q2:(y==y)=true:=by simp
   go_upto_region 6 with (fail)
   go_quiet (fail)
   go_wp2_with fail
   go_roundg (a.length-(k+1))
   case rel=>exact ⟨k+1,by go_num,by omega,rfl,m+nq,by rw [←HW.out];simp [World.drewN,Nat.add_assoc]⟩
   case measure=>have:=HG.out;omega
  ·clear ha hb
   go_wp2_with fail
   go_ret
   exact ⟨rfl,Fr.drewN _ _ _⟩
end Ref13
end Go.Proofs.YtdpngmgaomghoaaGreat
