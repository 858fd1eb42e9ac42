/- What becomes of the places: the program's. -/
import Derived.Test.YtgfjpnpbkkadpaaGreatDrd3
import Derived.Test.YtgfjpnpbkkadpaaGreatDeltas
namespace Go.Proofs.YtgfjpnpbkkadpaaGreat
open Tryz
set_option maxRecDepth 100000
set_option maxHeartbeats 8000000
open Go.RowKit
namespace Wrk
open KeyP SetP KidsP Cls KdO Fst Drd
attribute [local go_sem] Eng.ev Eng.getO_cons Eng.getO_nil Oper.semAt_some
def shS (b:Bool) (p:Pq):List Pq:=if b then [p] else []
theorem shO_snoc {WE M:Pl} {k:Nat} (hk:k<WE.length):shO (WE.take (k+1)) M=shO (WE.take k) M++shS (!decide (WE[k].2=(getL WE[k].1 M).getD pz)&& !decide (WE[k].2.c=0)) WE[k].2:=by
 unfold shO shS
 rw [List.take_succ_eq_append_getElem hk,List.filter_append,List.map_append,List.filter_cons]
 congr 1
 split<;>simp_all
theorem shI_snoc {WE M:Pl} {k:Nat} (hk:k<WE.length):shI (WE.take (k+1)) M=shI (WE.take k) M++shS (!decide (WE[k].2=(getL WE[k].1 M).getD pz)&& !decide (((getL WE[k].1 M).getD pz).c=0)) ((getL WE[k].1 M).getD pz):=by
 unfold shI shS
 rw [List.take_succ_eq_append_getElem hk,List.filter_append,List.map_append,List.filter_cons]
 congr 1
 split<;>simp_all
theorem sh_len (WE M:Pl):(shO WE M).length≤WE.length∧(shI WE M).length≤WE.length:=by
 unfold shO shI
 rw [List.length_map,List.length_map]
 exact ⟨List.length_filter_le _ _,List.length_filter_le _ _⟩
def ShPost (O I:List Pq) (w:World) (e:Ending) (w':World):Prop:=∃A1 c1 A2 c2,e=.returned (.agg #[.slice A1 O.length c1,.slice A2 I.length c2])∧w'.ownsRow w.heap.size TPl 6 (.slice A1 O.length c1) O.length (pcs O)∧w'.ownsRow w.heap.size TPl 6 (.slice A2 I.length c2) I.length (pcs I)∧Below w.heap.size w w'
structure SI (w A:World) (lo W:Nat) (P Q:List Pq) (v1 v2:Value):Prop where
 c:C2p w.heap.size lo (w.heap.size+2) w A P Q v1 v2
 b1:Bk A w.heap.size #[.pointer (some ⟨W,0,none⟩)] TWp
 b2:Bk A (w.heap.size+1) #[.slice none 0 0,.slice none 0 0] TSh
 z:lo≤A.heap.size
theorem SI.abide {w A C:World} {lo W:Nat} {P Q:List Pq} {v1 v2:Value} (h:SI w A lo W P Q v1 v2) (hf:Fr (Rg lo (lo+2)) A C) (hl:w.heap.size+3≤lo):SI w C lo W P Q v1 v2:=
 ⟨h.c.abide hf (by omega) (by omega) (by have:=h.z;omega),h.b1.fr hf (fun b hb e=>by simp at hb;have:=e.1;omega),h.b2.fr hf (fun b hb e=>by simp at hb;have:=e.1;omega),Nat.le_trans h.z hf.size⟩
theorem SI.keep {w A C:World} {lo W:Nat} {P Q:List Pq} {v1 v2:Value} (h:SI w A lo W P Q v1 v2) (hf:Fr (fun _=>False) A C):SI w C lo W P Q v1 v2:=
 ⟨h.c.keep hf h.c.bel.size,h.b1.fr hf (fun _ _ h=>h),h.b2.fr hf (fun _ _ h=>h),Nat.le_trans h.z hf.size⟩
theorem SI.turn {w A C:World} {lo W:Nat} {P Q P' Q':List Pq} {v1 v2 v1' v2' v:Value} (h:SI w A lo W P Q v1 v2) (hc:C2p w.heap.size lo (w.heap.size+2) w C P' Q' v1' v2') (hv:v=v1∨v=v2) (hf:Fr (fun b=>b=w.heap.size+2∨v.ownBlock=some b) A C):SI w C lo W P' Q' v1' v2':=by
 have hne:∀b o cs,b<w.heap.size+2→A.heap[b]? =some (.cells cs o (0,0))→o≠TPl→¬ (b=w.heap.size+2∨v.ownBlock=some b):=fun b o cs hb hc' ho e=>by
  rcases e with e|e
  ·omega
  ·rcases hv with rfl|rfl
   ·obtain ⟨-,-,cc,h2⟩:=ownsRow_blk h.c.o1 b e
    rw [hc'] at h2
    cases h2;exact ho rfl
   ·obtain ⟨-,-,cc,h2⟩:=ownsRow_blk h.c.o2 b e
    rw [hc'] at h2
    cases h2;exact ho rfl
 exact ⟨hc,h.b1.fr hf (fun b hb=>by simp at hb;subst hb;exact hne _ _ _ (by omega) h.b1 (by decide)),h.b2.fr hf (fun b hb=>by simp at hb;subst hb;exact hne _ _ _ (by omega) h.b2 (by decide)),Nat.le_trans h.z hf.size⟩
def SR (w W2:World) (lo W:Nat) (FP:List Nat) (P Q:List Pq) (A:World):Prop:=(∃v1 v2,SI w A lo W P Q v1 v2)∧KeptR lo (lo+2) W2 A∧W2.heap.size≤A.heap.size∧KeptL FP W2 A
theorem SR.of {w W2 A:World} {lo W:Nat} {FP:List Nat} {P Q P' Q':List Pq} {v1 v2 u1 u2:Value} (hI:SI w W2 lo W P Q u1 u2) (h:SI w A lo W P' Q' v1 v2) (hf:Fr (fun b=>b=w.heap.size+2∨u1.ownBlock=some b∨u2.ownBlock=some b) W2 A) (hl:w.heap.size+3≤lo) (hz:lo+2≤W2.heap.size) (hF:∀b∈FP,b<w.heap.size):SR w W2 lo W FP P' Q' A:=by
 refine ⟨⟨v1,v2,h⟩,KeptR.of_fr hf hz ?_,hf.size,KeptL.of_fr hf (fun b hb=>⟨by have:=hF b hb;omega,?_⟩)⟩
 ·rintro b hb (e|e|e)
  ·have:=hb.1;omega
  ·have:=hI.c.out1 b e;have:=hb.1;have:=hb.2;omega
  ·have:=hI.c.out2 b e;have:=hb.1;have:=hb.2;omega
 ·have hlt:=hF b hb
  rintro (e|e|e)
  ·omega
  ·have:=(ownsRow_blk hI.c.o1 b e).1;omega
  ·have:=(ownsRow_blk hI.c.o2 b e).1;omega
theorem shift {W B:Nat} {L:List Sn} {M WE:Pl} {LO:Ll} {n:Int} {F:List Nat} (w:World) (h:FW w W B L M WE LO n F) (sz:WE.length≤500000):
  Calls prog 84 #[.pointer (some ⟨W,0,none⟩)] w (ShPost (shO WE M) (shI WE M) w):=by
 obtain ⟨i0,hi,hz0,hz1_,hz2⟩:=info_parts infoP
 obtain ⟨Ff,r1,F1,r2,F2,hx,rfl⟩:=h.fx
 have hltF1:∀b∈F1,b<w.heap.size:=fun b hb=>h.lt b (by simp [hb])
 have fa:=fun (w:World) (o:Obj)=>Fr.alloc (fun _=>False) w o
 have nn:∀G:List Nat,∀b∈G,¬False:=fun _ _ _ h=>h
 have hs0:((((w.alloc (.cells #[.pointer (some ⟨W,0,none⟩)] TWp)).alloc (.cells #[.slice none 0 0,.slice none 0 0] TSh)).alloc (.cells #[.slice none 0 0,.slice none 0 0] TSh)).alloc (.cells #[.pointer (some ⟨W,1,none⟩)] 215)).heap.size=w.heap.size+4:=by simp
 have tr:∀ {a b c:World},Fr (fun _=>False) a b→Fr (fun _=>False) b c→Fr (fun _=>False) a c:=fun h k=>h.trans k (fun _ _ h=>h) (fun _ _ h=>h)
 have hf0:Fr (fun _=>False) w ((((w.alloc (.cells #[.pointer (some ⟨W,0,none⟩)] TWp)).alloc (.cells #[.slice none 0 0,.slice none 0 0] TSh)).alloc (.cells #[.slice none 0 0,.slice none 0 0] TSh)).alloc (.cells #[.pointer (some ⟨W,1,none⟩)] 215)):=tr (tr (tr (fa _ _) (fa _ _)) (fa _ _)) (fa _ _)
 have b1:Bk ((((w.alloc (.cells #[.pointer (some ⟨W,0,none⟩)] TWp)).alloc (.cells #[.slice none 0 0,.slice none 0 0] TSh)).alloc (.cells #[.slice none 0 0,.slice none 0 0] TSh)).alloc (.cells #[.pointer (some ⟨W,1,none⟩)] 215)) w.heap.size #[.pointer (some ⟨W,0,none⟩)] TWp:=(((Bk.new w _ _).fr (fa _ _) (nn _)).fr (fa _ _) (nn _)).fr (fa _ _) (nn _)
 have b2:Bk ((((w.alloc (.cells #[.pointer (some ⟨W,0,none⟩)] TWp)).alloc (.cells #[.slice none 0 0,.slice none 0 0] TSh)).alloc (.cells #[.slice none 0 0,.slice none 0 0] TSh)).alloc (.cells #[.pointer (some ⟨W,1,none⟩)] 215)) (w.heap.size+1) #[.slice none 0 0,.slice none 0 0] TSh:=by
  have:=((Bk.new (w.alloc (.cells #[.pointer (some ⟨W,0,none⟩)] TWp)) #[.slice none 0 0,.slice none 0 0] TSh).fr (fa _ (.cells #[.slice none 0 0,.slice none 0 0] TSh)) (nn _)).fr (fa _ (.cells #[.pointer (some ⟨W,1,none⟩)] 215)) (nn _)
  simpa using this
 have b3:Bk ((((w.alloc (.cells #[.pointer (some ⟨W,0,none⟩)] TWp)).alloc (.cells #[.slice none 0 0,.slice none 0 0] TSh)).alloc (.cells #[.slice none 0 0,.slice none 0 0] TSh)).alloc (.cells #[.pointer (some ⟨W,1,none⟩)] 215)) (w.heap.size+2) #[.slice none 0 0,.slice none 0 0] TSh:=by
  have:=(Bk.new ((w.alloc (.cells #[.pointer (some ⟨W,0,none⟩)] TWp)).alloc (.cells #[.slice none 0 0,.slice none 0 0] TSh)) #[.slice none 0 0,.slice none 0 0] TSh).fr (fa _ (.cells #[.pointer (some ⟨W,1,none⟩)] 215)) (nn _)
  simpa using this
 have b4:((((w.alloc (.cells #[.pointer (some ⟨W,0,none⟩)] TWp)).alloc (.cells #[.slice none 0 0,.slice none 0 0] TSh)).alloc (.cells #[.slice none 0 0,.slice none 0 0] TSh)).alloc (.cells #[.pointer (some ⟨W,1,none⟩)] 215)).cell? ⟨w.heap.size+3,0,none⟩=some (.pointer (some ⟨W,1,none⟩)):=by
  have:=(Bk.new (((w.alloc (.cells #[.pointer (some ⟨W,0,none⟩)] TWp)).alloc (.cells #[.slice none 0 0,.slice none 0 0] TSh)).alloc (.cells #[.slice none 0 0,.slice none 0 0] TSh)) #[.pointer (some ⟨W,1,none⟩)] 215).cell 0
  simpa using this
 have HB4:=Lib.hid b4
 have hbel:Below w.heap.size w ((((w.alloc (.cells #[.pointer (some ⟨W,0,none⟩)] TWp)).alloc (.cells #[.slice none 0 0,.slice none 0 0] TSh)).alloc (.cells #[.slice none 0 0,.slice none 0 0] TSh)).alloc (.cells #[.pointer (some ⟨W,1,none⟩)] 215)):=hf0.below (Nat.le_refl _) (fun _ _ h=>h)
 have hMP:AvlSP.MapP ((((w.alloc (.cells #[.pointer (some ⟨W,0,none⟩)] TWp)).alloc (.cells #[.slice none 0 0,.slice none 0 0] TSh)).alloc (.cells #[.slice none 0 0,.slice none 0 0] TSh)).alloc (.cells #[.pointer (some ⟨W,1,none⟩)] 215)) (some ⟨W,1,none⟩) WE F1:=.inr ⟨W,1,r1,rfl,(World.cell?_of_block (w:=w) (a:=⟨W,1,none⟩) (hf0.block W (lt_of_heap hx.c.blk) (fun h=>h))).trans (cell_of_block hx.c.blk 1),hx.c.m1.fr hf0 (fun _ _ h=>h)⟩
 have HMP:=Lib.hid hMP
 have HC:Hid (SI w ((((w.alloc (.cells #[.pointer (some ⟨W,0,none⟩)] TWp)).alloc (.cells #[.slice none 0 0,.slice none 0 0] TSh)).alloc (.cells #[.slice none 0 0,.slice none 0 0] TSh)).alloc (.cells #[.pointer (some ⟨W,1,none⟩)] 215)) ((((w.alloc (.cells #[.pointer (some ⟨W,0,none⟩)] TWp)).alloc (.cells #[.slice none 0 0,.slice none 0 0] TSh)).alloc (.cells #[.slice none 0 0,.slice none 0 0] TSh)).alloc (.cells #[.pointer (some ⟨W,1,none⟩)] 215)).heap.size W (shO (WE.take 0) M) (shI (WE.take 0) M) (.slice none 0 0) (.slice none 0 0)):=by
  rw [hs0]
  exact ⟨⟨b3,World.ownsRow_nil _ _ _ _,World.ownsRow_nil _ _ _ _,fun b hb=>by simp [Value.ownBlock] at hb,hbel,fun b hb=>by simp [Value.ownBlock] at hb,fun b hb=>by simp [Value.ownBlock] at hb⟩,b1,b2,by rw [hs0];exact Nat.le_refl _⟩
 have HS0:=Lib.hid hs0
 have HFW:=Lib.hid h
 have HLt1:=Lib.hid hltF1
 have HAll:=fun W9:World=>Lib.hid (AvlSP.All (some ⟨W,1,none⟩) W9)
 have d1:((w.alloc (.cells #[.pointer (some ⟨W,0,none⟩)] TWp)).alloc (.cells #[.slice none 0 0,.slice none 0 0] TSh)).heap.size=w.heap.size+2:=by simp
 clear h hx fa nn b1 b2 b3 b4 hbel hMP tr hf0 hs0 hltF1
 refine (callsIn_wide (n:=3)).1 ?_
 refine callsIn_of_wp_marks func84 rfl trivial ?_ rfl
 simp only [ntmps84,List.size_toArray,List.length_cons,List.length_nil,Nat.reduceAdd,Nat.reduceSub,Array.replicate_succ,Array.replicate_zero,List.push_toArray,List.append_toArray,List.nil_append,List.cons_append]
 refine wpIn_wide.2 ?_
 clear d1
 go_wp2_with fail
 refine (HAll _).out.mono ?_
 rintro e w1 ⟨rfl,rfl⟩
 go_wp2_with fail
 generalize ((((w.alloc (.cells #[.pointer (some ⟨W,0,none⟩)] TWp)).alloc (.cells #[.slice none 0 0,.slice none 0 0] TSh)).alloc (.cells #[.slice none 0 0,.slice none 0 0] TSh)).alloc (.cells #[.pointer (some ⟨W,1,none⟩)] 215))=W0 at *
 clear HAll
 refine (wpIn_wide (n:=3)).1 ?_
 refine range_B (n:=3) (a₁:=?fr) (gf:=198) (lb:= #[.pointer (some ⟨w.heap.size+3,0,none⟩)]) rfl (enters_of func198 (by kernel_rfl) rfl)
  (AvlSP.All_seq F1 (w.heap.size+3) (some ⟨W,1,none⟩) WE F1 W0 HB4.out (by have:=HS0.out;omega) HMP.out (fun _ h=>h)) (fun b hb=>by have:=HLt1.out b hb;have:=HS0.out;omega) (fun _=>rfl)
  (fun (pre:Pl) (A:World)=>∃v1 v2,SI w A W0.heap.size W (shO (WE.take pre.length) M) (shI (WE.take pre.length) M) v1 v2)
  (fun k (_:Pl) (_:World)=>False)
  (fun pre A C h hf=>by obtain ⟨v1,v2,h⟩:=h;exact ⟨v1,v2,h.abide hf (by have:=HS0.out;omega)⟩)
  (fun k pre A C h hf=>h)
  ⟨_,_,HC.out⟩ (fun x=>x.2.arr) TPl (fun pre W9 o h hsz=>by obtain ⟨v1,v2,h⟩:=h;exact ⟨v1,v2,h.keep (Fr.alloc _ _ _)⟩) ?assign ?body ?done ?stop
 case assign=>
  intro l m x W9 b K hb hK
  gi_wp2_with fail
  exact hK
 case body=>
  rintro l m pre x b W2 ⟨v1,v2,hI⟩ hbk hbl hsz hpre rfl ⟨r,hl⟩ hd
  (try dsimp only)
  have hlt:pre.length<WE.length:=by have:=hpre.length_le;rw [List.length_append,List.length_singleton] at this;omega
  have hxe:x=WE[pre.length]:=by
   obtain ⟨q,hq⟩:=hpre
   have h1:WE[pre.length]? =some x:=by rw [←hq];simp
   rw [List.getElem?_eq_getElem hlt] at h1
   exact (Option.some.inj h1).symm
  have hO:=shO_snoc (M:=M) hlt
  have hIn:=shI_snoc (M:=M) hlt
  rw [←hxe] at hO hIn
  have hlO:=(sh_len (WE.take pre.length) M).1
  have hlI:=(sh_len (WE.take pre.length) M).2
  rw [List.length_take] at hlO hlI
  obtain ⟨p,hp⟩:∃p,(getL x.1 M).getD pz=p:=⟨_,rfl⟩
  rw [hp] at hO hIn
  have HP:=Lib.hid hp
  generalize shO (WE.take pre.length) M=P at *
  generalize shI (WE.take pre.length) M=Q at *
  have HLn:Hid (P.length≤500000∧Q.length≤500000):=⟨by omega,by omega⟩
  have HPost:Hid (∀A,SR w W2 W0.heap.size W F1 (P++shS (!decide (x.2=p)&& !decide (x.2.c=0)) x.2) (Q++shS (!decide (x.2=p)&& !decide (p.c=0)) p) A→postP W0.heap.size (W0.heap.size+2+0) F1 (fun (pre:Pl) (A:World)=>∃v1 v2,SI w A W0.heap.size W (shO (WE.take pre.length) M) (shI (WE.take pre.length) M) v1 v2) (fun k (_:Pl) (_:World)=>False) (pre++ [x]) W2 .normal ⟨#[],[]⟩ A):=by
   rintro A ⟨⟨u1,u2,hs⟩,k1,k2,k3⟩
   refine ⟨k1,k2,k3,u1,u2,?_⟩
   rw [List.length_append,List.length_singleton,hO,hIn];exact hs
  have HI:=Lib.hid hI;have HBk:=Lib.hid hbk;have HZs:Hid (W0.heap.size+2≤W2.heap.size):=hsz
  have HFW2:=Lib.hid (HFW.out.keep (Fr.of_below' hI.c.bel (fun _=>False)))
  have HSR:Hid (∀ (A:World) (P' Q':List Pq) (u1 u2:Value),SI w A W0.heap.size W P' Q' u1 u2→Fr (fun b=>b=w.heap.size+2∨v1.ownBlock=some b∨v2.ownBlock=some b) W2 A→SR w W2 W0.heap.size W F1 P' Q' A):=fun A P' Q' u1 u2 h hf=>SR.of hI h hf (by have:=HS0.out;omega) hsz HLt1.out
  have c1:=hI.b1.cell 0
  simp only [List.getElem?_toArray,List.getElem?_cons_zero] at c1
  have c0:=HFW2.out.cell.1
  clear hO hIn hlO hlI hp hI hbk hsz hl hd hpre hxe hlt hbl
  obtain ⟨xk,xv⟩:=x
  dsimp only at *
  gi_wp2_with fail
  refine ⟨trivial,fun h=>(by cases h),CallsIn.inRound _ (callsIn_wide.2 ?_)⟩
  refine (HFW2.out.getM xk).mono ?_
  rintro e w1 ⟨rfl,hf⟩
  rw [show (getL xk M).getD (⟨0,0,0,0,0,0⟩:Pq)=p from HP.out]
  generalize (getL xk M).isSome=bb
  have HFf:=Lib.hid (hf.trans (Fr.alloc (fun _=>False) w1 (.cells p.arr TPl)) (T:=fun _=>False) (fun _ _ h=>h) (fun _ _ h=>h))
  have HPx:=Lib.hid (Bk.new w1 p.arr TPl)
  have hsz1:=hf.size
  clear hf c0 c1 HFW2
  gi_upto_region 6 with (fail)
  have HI1:=Lib.hid (HI.out.keep HFf.out)
  have HBk1:=Lib.hid (HBk.out.fr HFf.out (fun _ _ h=>h))
  generalize (w1.alloc (.cells p.arr TPl))=w2 at *
  have HPn:Hid (W2.heap.size≤w1.heap.size):=hsz1
  clear hsz1
  generalize w1.heap.size=bp at *
  have HOb:Hid (∀b,v1.ownBlock=some b→b<W2.heap.size):=fun b hb=>(ownsRow_blk HI.out.c.o1 b hb).2.1
  have HWs:Hid (w.heap.size+2<W2.heap.size):=lt_of_heap HI.out.c.b
  have HFf2:Hid (Fr (fun b=>b=w.heap.size+2∨v1.ownBlock=some b∨v2.ownBlock=some b) W2 w2):=HFf.out.mono (fun _ _ h=>h.elim)
  have hq0:=fun V:World=>eql_pc xv.t xv.i xv.c xv.d xv.p xv.f p.t p.i p.c p.d p.p p.f V
  have x0:w2.cell? ⟨b,0,none⟩=some (.int .i64 xv.t):=HBk1.out.cell 0
  have x1:w2.cell? ⟨b,1,none⟩=some (.int .i64 xv.i):=HBk1.out.cell 1
  have x2:w2.cell? ⟨b,2,none⟩=some (.int .i64 xv.c):=HBk1.out.cell 2
  have x3:w2.cell? ⟨b,3,none⟩=some (.int .i64 xv.d):=HBk1.out.cell 3
  have x4:w2.cell? ⟨b,4,none⟩=some (.int .i64 xv.p):=HBk1.out.cell 4
  have x5:w2.cell? ⟨b,5,none⟩=some (.int .i64 xv.f):=HBk1.out.cell 5
  have p0:w2.cell? ⟨bp,0,none⟩=some (.int .i64 p.t):=HPx.out.cell 0
  have p1:w2.cell? ⟨bp,1,none⟩=some (.int .i64 p.i):=HPx.out.cell 1
  have p2:w2.cell? ⟨bp,2,none⟩=some (.int .i64 p.c):=HPx.out.cell 2
  have p3:w2.cell? ⟨bp,3,none⟩=some (.int .i64 p.d):=HPx.out.cell 3
  have p4:w2.cell? ⟨bp,4,none⟩=some (.int .i64 p.p):=HPx.out.cell 4
  have p5:w2.cell? ⟨bp,5,none⟩=some (.int .i64 p.f):=HPx.out.cell 5
  by_cases he:xv=p
  ·have HE:=Lib.hid (HPost.out w2 (by rw [decide_eq_true he];simpa [shS] using HSR.out w2 P Q v1 v2 HI1.out HFf2.out))
   have hq:∀V:World,(binOp .eql TPl (.agg xv.arr) (.agg p.arr)).run prog V=.ok (.bool true) V:=fun V=>by have:=hq0 V;rw [this];show _=_;rw [show eqP _ _=eqP xv p from rfl,eqP_iff.2 he]
   clear hq0 he
   gi_wp2_with fail
   exact HE.out
  ·have hq:∀V:World,(binOp .eql TPl (.agg xv.arr) (.agg p.arr)).run prog V=.ok (.bool false) V:=fun V=>by
    have:=hq0 V;rw [this];show _=_;rw [show eqP _ _=eqP xv p from rfl,show eqP xv p=false from by
     cases hh:eqP xv p with
     |false=>rfl
     |true=>exact absurd (eqP_iff.1 hh) he]
   rw [decide_eq_false he] at HPost
   clear hq0 he
   gi_upto_region 7 with (fail)
   clear hq
   by_cases h1:xv.c=0
   ·have q1:(xv.c != 0)=false:=by simp [h1]
    by_cases h2:p.c=0
    ·have q2:(p.c != 0)=false:=by simp [h2]
     have HE:=Lib.hid (HPost.out w2 (by rw [decide_eq_true h1,decide_eq_true h2];simpa [shS] using HSR.out w2 _ _ _ _ HI1.out HFf2.out))
     clear h2
     gi_wp2_with fail
     exact HE.out
    ·have q2:(p.c != 0)=true:=by simp [h2]
     have y0:w2.cell? ⟨bp,0,none⟩=some (.int .i64 p.t):=(HPx.out).cell 0
     have y1:w2.cell? ⟨bp,1,none⟩=some (.int .i64 p.i):=(HPx.out).cell 1
     have y2:w2.cell? ⟨bp,2,none⟩=some (.int .i64 p.c):=(HPx.out).cell 2
     have y3:w2.cell? ⟨bp,3,none⟩=some (.int .i64 p.d):=(HPx.out).cell 3
     have y4:w2.cell? ⟨bp,4,none⟩=some (.int .i64 p.p):=(HPx.out).cell 4
     have y5:w2.cell? ⟨bp,5,none⟩=some (.int .i64 p.f):=(HPx.out).cell 5
     have cb2:w2.cell? ⟨w.heap.size+2,1,none⟩=some v2:=HI1.out.c.b.cell 1
     have hl2:=HLn.out
     have hsz2:=HI1.out.c.bel.size
     have ho2:=HI1.out.c.o2
     gi_wp2_with (gi_at_builtin;refine wpListIn_append_at _ rfl (.tmp 41) (.tmp 43) TPls rfl w.heap.size TPl i0 zP 6 48 underlying78 hi hz0 hz1_ hz2 rfl (by decide) v2 _ _ rfl (ho2.alloc (.cells p.arr TPl)) ⟨w2.heap.size,0,none⟩ 1 1 p.cs rfl rfl (new_cs _ _) (by simp [Value.oneCell']) (by unfold maxLen;omega) (by omega) (by simp;omega) ?_)
     intro v2' w5 hown hgrow hat
     obtain ⟨g2',cap2',rfl⟩:=ownsRow_succ hown
     obtain ⟨k1,k2,k3⟩:=C2p.step2 HI1.out.c hsz2 (by have:=HFf2.out.size;have:=HZs.out;omega) (by omega) hown hgrow (by rw [World.size_alloc];exact hat)
     have K3_2:=Lib.hid k3
     have K2_2:=Lib.hid k2
     have HJ2:=Lib.hid (SI.turn HI1.out k1 (v:=v2) (.inr rfl) k2)
     have cw2:w5.cell? ⟨w.heap.size+2,1,none⟩=some v2:=k3.cell 1
     have fw2:=k3.free 1
     clear hown hgrow hat k1 k2 k3 cb2 ho2 y0 y1 y2 y3 y4 y5
     gi_wp2_with fail
     have hF:=HFf2.out.trans K2_2.out (T:=fun b=>b=w.heap.size+2∨v1.ownBlock=some b∨v2.ownBlock=some b) (fun _ _ h=>h) (fun _ _ h=>h.elim .inl (fun e=>.inr (.inr e)))
     refine HPost.out _ ?_
     rw [decide_eq_true h1,decide_eq_false h2]
     simpa [shS] using HSR.out _ _ _ _ _ HJ2.out hF
   ·have q1:(xv.c != 0)=true:=by simp [h1]
    have y0:w2.cell? ⟨b,0,none⟩=some (.int .i64 xv.t):=(HBk1.out).cell 0
    have y1:w2.cell? ⟨b,1,none⟩=some (.int .i64 xv.i):=(HBk1.out).cell 1
    have y2:w2.cell? ⟨b,2,none⟩=some (.int .i64 xv.c):=(HBk1.out).cell 2
    have y3:w2.cell? ⟨b,3,none⟩=some (.int .i64 xv.d):=(HBk1.out).cell 3
    have y4:w2.cell? ⟨b,4,none⟩=some (.int .i64 xv.p):=(HBk1.out).cell 4
    have y5:w2.cell? ⟨b,5,none⟩=some (.int .i64 xv.f):=(HBk1.out).cell 5
    have cb1:w2.cell? ⟨w.heap.size+2,0,none⟩=some v1:=HI1.out.c.b.cell 0
    have hl1:=HLn.out
    have hsz1:=HI1.out.c.bel.size
    have ho1:=HI1.out.c.o1
    gi_wp2_with (gi_at_builtin;refine wpListIn_append_at _ rfl (.tmp 32) (.tmp 34) TPls rfl w.heap.size TPl i0 zP 6 48 underlying78 hi hz0 hz1_ hz2 rfl (by decide) v1 _ _ rfl (ho1.alloc (.cells xv.arr TPl)) ⟨w2.heap.size,0,none⟩ 1 1 xv.cs rfl rfl (new_cs _ _) (by simp [Value.oneCell']) (by unfold maxLen;omega) (by omega) (by simp;omega) ?_)
    intro v1' w3 hown hgrow hat
    obtain ⟨g1',cap1',rfl⟩:=ownsRow_succ hown
    obtain ⟨k1,k2,k3⟩:=C2p.step1 HI1.out.c hsz1 (by have:=HFf2.out.size;have:=HZs.out;omega) (by omega) hown hgrow (by rw [World.size_alloc];exact hat)
    have K3_1:=Lib.hid k3
    have K2_1:=Lib.hid k2
    have HJ1:=Lib.hid (SI.turn HI1.out k1 (v:=v1) (.inl rfl) k2)
    have cw1:w3.cell? ⟨w.heap.size+2,0,none⟩=some v1:=k3.cell 0
    have fw1:=k3.free 0
    clear hown hgrow hat k1 k2 k3 cb1 ho1 y0 y1 y2 y3 y4 y5
    have HPx3:Hid (Bk (w3.setCell ⟨w.heap.size+2,0,none⟩ (.slice (some ⟨g1',0,none⟩) (P.length+1) cap1')) bp p.arr TPl):=HPx.out.fr K2_1.out (fun b hb e=>by
     simp at hb;subst hb
     have hbp:=HPn.out;have hws:=HWs.out
     rcases e with e|e
     ·omega
     ·have:=HOb.out _ e;omega)
    have HF3:Hid (Fr (fun b=>b=w.heap.size+2∨v1.ownBlock=some b∨v2.ownBlock=some b) W2 (w3.setCell ⟨w.heap.size+2,0,none⟩ (.slice (some ⟨g1',0,none⟩) (P.length+1) cap1'))):=HFf2.out.trans K2_1.out (fun _ _ h=>h) (fun _ _ h=>h.elim .inl (fun e=>.inr (.inl e)))
    gi_upto_region 9 with (fail)
    clear cw1 fw1
    generalize (w3.setCell ⟨w.heap.size+2,0,none⟩ (.slice (some ⟨g1',0,none⟩) (P.length+1) cap1'))=w4 at *
    clear p0
    clear p1
    clear p2
    clear p3
    clear p4
    clear p5
    have p0:w4.cell? ⟨bp,0,none⟩=some (.int .i64 p.t):=HPx3.out.cell 0
    have p1:w4.cell? ⟨bp,1,none⟩=some (.int .i64 p.i):=HPx3.out.cell 1
    have p2:w4.cell? ⟨bp,2,none⟩=some (.int .i64 p.c):=HPx3.out.cell 2
    have p3:w4.cell? ⟨bp,3,none⟩=some (.int .i64 p.d):=HPx3.out.cell 3
    have p4:w4.cell? ⟨bp,4,none⟩=some (.int .i64 p.p):=HPx3.out.cell 4
    have p5:w4.cell? ⟨bp,5,none⟩=some (.int .i64 p.f):=HPx3.out.cell 5
    by_cases h2:p.c=0
    ·have q2:(p.c != 0)=false:=by simp [h2]
     have HE:=Lib.hid (HPost.out w4 (by rw [decide_eq_false h1,decide_eq_true h2];simpa [shS] using HSR.out w4 _ _ _ _ HJ1.out HF3.out))
     clear h2
     gi_wp2_with fail
     exact HE.out
    ·have q2:(p.c != 0)=true:=by simp [h2]
     have y0:w4.cell? ⟨bp,0,none⟩=some (.int .i64 p.t):=(HPx3.out).cell 0
     have y1:w4.cell? ⟨bp,1,none⟩=some (.int .i64 p.i):=(HPx3.out).cell 1
     have y2:w4.cell? ⟨bp,2,none⟩=some (.int .i64 p.c):=(HPx3.out).cell 2
     have y3:w4.cell? ⟨bp,3,none⟩=some (.int .i64 p.d):=(HPx3.out).cell 3
     have y4:w4.cell? ⟨bp,4,none⟩=some (.int .i64 p.p):=(HPx3.out).cell 4
     have y5:w4.cell? ⟨bp,5,none⟩=some (.int .i64 p.f):=(HPx3.out).cell 5
     have cb2:w4.cell? ⟨w.heap.size+2,1,none⟩=some v2:=HJ1.out.c.b.cell 1
     have hl2:=HLn.out
     have hsz2:=HJ1.out.c.bel.size
     have ho2:=HJ1.out.c.o2
     gi_wp2_with (gi_at_builtin;refine wpListIn_append_at _ rfl (.tmp 41) (.tmp 43) TPls rfl w.heap.size TPl i0 zP 6 48 underlying78 hi hz0 hz1_ hz2 rfl (by decide) v2 _ _ rfl (ho2.alloc (.cells p.arr TPl)) ⟨w4.heap.size,0,none⟩ 1 1 p.cs rfl rfl (new_cs _ _) (by simp [Value.oneCell']) (by unfold maxLen;omega) (by omega) (by simp;omega) ?_)
     intro v2' w5 hown hgrow hat
     obtain ⟨g2',cap2',rfl⟩:=ownsRow_succ hown
     obtain ⟨k1,k2,k3⟩:=C2p.step2 HJ1.out.c hsz2 (by have:=HF3.out.size;have:=HZs.out;omega) (by omega) hown hgrow (by rw [World.size_alloc];exact hat)
     have K3_2:=Lib.hid k3
     have K2_2:=Lib.hid k2
     have HJ2:=Lib.hid (SI.turn HJ1.out k1 (v:=v2) (.inr rfl) k2)
     have cw2:w5.cell? ⟨w.heap.size+2,1,none⟩=some v2:=k3.cell 1
     have fw2:=k3.free 1
     clear hown hgrow hat k1 k2 k3 cb2 ho2 y0 y1 y2 y3 y4 y5
     gi_wp2_with fail
     have hF:=HF3.out.trans K2_2.out (T:=fun b=>b=w.heap.size+2∨v1.ownBlock=some b∨v2.ownBlock=some b) (fun _ _ h=>h) (fun _ _ h=>h.elim .inl (fun e=>.inr (.inr e)))
     refine HPost.out _ ?_
     rw [decide_eq_false h1,decide_eq_false h2]
     simpa [shS] using HSR.out _ _ _ _ _ HJ2.out hF
 case done=>
  rintro W3 hsz ⟨v1,v2,hI⟩ hK
  rw [List.take_length] at hI
  obtain ⟨A1,c1,hv1,-,-⟩:=Sl.of_own hI.c.o1
  subst hv1
  obtain ⟨A2,c2,hv2,-,-⟩:=Sl.of_own hI.c.o2
  subst hv2
  have HI:=Lib.hid hI;have HK:=Lib.hid hK
  have y0:W3.cell? ⟨w.heap.size+2,0,none⟩=some (.slice A1 (shO WE M).length c1):=hI.c.b.cell 0
  have y1:W3.cell? ⟨w.heap.size+2,1,none⟩=some (.slice A2 (shI WE M).length c2):=hI.c.b.cell 1
  have o0:W3.cell? ⟨w.heap.size+1,0,none⟩=some (.slice none 0 0):=hI.b2.cell 0
  have o1:W3.cell? ⟨w.heap.size+1,1,none⟩=some (.slice none 0 0):=hI.b2.cell 1
  have f0:=hI.b2.free 0;have f1:=hI.b2.free 1
  clear hI hK
  go_wp2_with fail
  have hs0:=HS0.out
  have hi:=HI.out
  have hfs:Fr (fun k=>k=w.heap.size+1) W3 ((W3.setCell ⟨w.heap.size+1,0,none⟩ (.slice A1 (shO WE M).length c1)).setCell ⟨w.heap.size+1,1,none⟩ (.slice A2 (shI WE M).length c2)):=frs1 (frs1 (Fr.refl _ _) 0 _) 1 _
  have hbk:Bk ((W3.setCell ⟨w.heap.size+1,0,none⟩ (.slice A1 (shO WE M).length c1)).setCell ⟨w.heap.size+1,1,none⟩ (.slice A2 (shI WE M).length c2)) (w.heap.size+1) #[.slice A1 (shO WE M).length c1,.slice A2 (shI WE M).length c2] TSh:=by
   have:=(hi.b2.set 0 (.slice A1 (shO WE M).length c1)).set 1 (.slice A2 (shI WE M).length c2)
   simpa using this
  have hdk:=(hfs.block W0.heap.size (lt_of_heap HK.out) (fun e=>by omega)).trans HK.out
  generalize ((W3.setCell ⟨w.heap.size+1,0,none⟩ (.slice A1 (shO WE M).length c1)).setCell ⟨w.heap.size+1,1,none⟩ (.slice A2 (shI WE M).length c2))=W4 at *
  have hfp:=Fr.putObj W4 W0.heap.size (.deferred none) (S:=(· =W0.heap.size)) rfl
  have hall:Fr (fun k=>k=w.heap.size+1∨k=W0.heap.size) W3 (W4.putObj W0.heap.size (.deferred none)):=hfs.trans hfp (fun _ _ h=>.inl h) (fun _ _ h=>.inr h)
  have hne1:∀b,(Value.slice A1 (shO WE M).length c1).ownBlock=some b→¬ (b=w.heap.size+1∨b=W0.heap.size):=fun b hb e=>by
   rcases e with e|e
   ·obtain ⟨-,-,cc,h2⟩:=ownsRow_blk hi.c.o1 b hb
    rw [e,show W3.heap[w.heap.size+1]? =_ from hi.b2] at h2;cases h2
   ·have:=hi.c.out1 b hb;omega
  have hne2:∀b,(Value.slice A2 (shI WE M).length c2).ownBlock=some b→¬ (b=w.heap.size+1∨b=W0.heap.size):=fun b hb e=>by
   rcases e with e|e
   ·obtain ⟨-,-,cc,h2⟩:=ownsRow_blk hi.c.o2 b hb
    rw [e,show W3.heap[w.heap.size+1]? =_ from hi.b2] at h2;cases h2
   ·have:=hi.c.out2 b hb;omega
  refine ⟨by simp,.inl ⟨_,_,rfl,run_takeDeferred hdk,?_⟩⟩
  exact ⟨_,results_cell_row rfl _ _ (w.heap.size+1) TSh _ (0,0) _ rfl (hbk.fr hfp (fun b hb e=>by simp at hb;omega)) underlying80 rfl (by kernel_rfl),A1,c1,A2,c2,rfl,ownsRow_fr hi.c.o1 hall hne1,ownsRow_fr hi.c.o2 hall hne2,hi.c.bel.trans (hall.below hi.c.bel.size (fun k hk e=>by omega))⟩
 case stop=>
  rintro k pre W3 hsz hpre hF hK
  exact hF.elim
end Wrk
set_option maxRecDepth 100000
set_option maxHeartbeats 8000000
namespace Wrk
open KeyP PackP SetP SetW SetF Sli Delta KidsP Cls KdO Fst Drd
attribute [local go_sem] Eng.ev Eng.getO_cons Eng.getO_nil
abbrev TMi:TypeId:=195
abbrev TInt:TypeId:=3
theorem uI:prog.underlying TMi=some (.map Mp.TS TInt):=underlying195
theorem zeroI (w:World):(zeroValue TInt).run prog w=.ok (.int .i64 0) w:=by kernel_rfl
def cnk (L:List Sn) (t i:Int):Nat:=(L.filter (fun y=>decide (y.t=t)&&decide (y.i=i))).length
def fkv (L:List Sn) (t i:Int):Option Value:=if cnk L t i=0 then none else some (.int .i64 ((cnk L t i:Nat):Int))
theorem fkv_get (L:List Sn) (t i:Int):(fkv L t i).getD (.int .i64 0)=.int .i64 ((cnk L t i:Nat):Int):=by
 unfold fkv
 split
 ·rename_i h;rw [h];rfl
 ·rfl
theorem cnk_le (L:List Sn) (t i:Int):cnk L t i≤L.length:=List.length_filter_le _ _
theorem cnk_snoc {L:List Sn} {k:Nat} (h:k<L.length) (t i:Int):cnk (L.take (k+1)) t i=cnk (L.take k) t i+if L[k].t=t∧L[k].i=i then 1 else 0:=by
 unfold cnk
 rw [List.take_succ_eq_append_getElem h,List.filter_append,List.length_append,List.filter_cons]
 by_cases e:L[k].t=t∧L[k].i=i
 ·rw [if_pos e,if_pos (by simp [e])];rfl
 ·rw [if_neg e,if_neg (by simpa using e)];rfl
theorem cnk_zero {L:List Sn} {t i:Int}:(cnk L t i=0)↔(nx L t i).isSome=false:=by
 unfold cnk nx
 rw [List.length_eq_zero_iff,List.filter_eq_nil_iff,Option.isSome_eq_false_iff,Option.isNone_iff_eq_none,List.find?_eq_none]
theorem fkv_1 {L:List Sn} {k:Nat} (h:k<L.length):fkv (L.take (k+1)) L[k].t L[k].i=some (.int .i64 (((cnk (L.take k) L[k].t L[k].i:Nat):Int)+1)):=by
 have e:cnk (L.take (k+1)) L[k].t L[k].i=cnk (L.take k) L[k].t L[k].i+1:=by rw [cnk_snoc h,if_pos ⟨rfl,rfl⟩]
 unfold fkv
 rw [if_neg (by omega),e];rfl
theorem fkv_2 {L:List Sn} {k:Nat} (h:k<L.length) (c d:Int) (hne:¬ (c=L[k].t∧d=L[k].i)):fkv (L.take (k+1)) c d=fkv (L.take k) c d:=by
 have e:cnk (L.take (k+1)) c d=cnk (L.take k) c d:=by rw [cnk_snoc h,if_neg (fun e=>hne ⟨e.1.symm,e.2.symm⟩)];rfl
 unfold fkv;rw [e]
def dmay (L O I:List Sn):Int:=if (!rightB O I||(O.any (fun x=>x.g)||I.any (fun x=>x.g)))=true then 2 else if mayO L O=false then 7 else if mayI L O I=false then 8 else 0
theorem mayO_snoc {L O:List Sn} {k:Nat} (h:k<O.length):mayO L (O.take (k+1))=(mayO L (O.take k)&&okO L O[k]):=by
 unfold mayO
 rw [List.take_succ_eq_append_getElem h,List.all_append]
 simp [List.all_cons]
theorem mayI_snoc {L O I:List Sn} {k:Nat} (h:k<I.length):mayI L O (I.take (k+1))=(mayI L O (I.take k)&&okI L O I[k]):=by
 unfold mayI
 rw [List.take_succ_eq_append_getElem h,List.all_append]
 simp [List.all_cons]
theorem all_false {α:Type} {p:α→Bool} {l:List α} {k:Nat} (h:(l.take k).all p=false):l.all p=false:=by
 cases hh:l.all p with
 |false=>rfl
 |true=>rw [List.all_eq_true] at hh;rw [List.all_eq_false] at h;obtain ⟨x,hx,h⟩:=h;exact absurd (hh x (List.mem_of_mem_take hx)) h
section
variable {w:World} {B:Nat} {L:List Sn} {M:List (ByteArray × Pq)} {F:List Nat}
theorem _root_.Go.Proofs.YtgfjpnpbkkadpaaGreat.Fst.FB.parent (h:FB w B L M F) {t i:Int} (ht:wf64 t) (hi:wf64 i) (pa:Int) (pb:Bool) (h1:((nx L t i).map (·.p)).getD 0=pa) (h2:(nx L t i).isSome=pb):Calls prog 128 #[.pointer (some ⟨B,0,none⟩),.int .i64 t,.int .i64 i] w fun e w'=>e=.returned (.tuple #[.int .i64 pa,.bool pb])∧Fr (fun _=>False) w w':=by
 obtain ⟨rp,G1,FP,h3,-,-,rfl⟩:=h
 subst h1;subst h2
 exact KdO.Parent B _ L _ t i w h3 ht hi
end
theorem gone1 (x:Sn) (w:World):Calls prog 126 #[x.v] w fun e w'=>e=.returned (.bool x.g)∧Fr (fun _=>False) w w':=by
 have HF:=Lib.hid (Fr.alloc (fun _=>False) w (.cells x.arr TSn))
 have HX:=Lib.hid (SetW.At.box (Bk.new w x.arr TSn))
 have xc8:(w.alloc (.cells x.arr TSn)).cell? ⟨w.heap.size,8,none⟩=some (.bool x.g):=HX.out 8 _ rfl
 go_enter func126,ntmps126
 go_wp2_with fail
 go_ret
 exact ⟨rfl,HF.out⟩
structure MS (w wr:World) (d:Dl) (mb n:Nat) (f:Int→Int→Option Value):Prop where
 b:Below w.heap.size w wr
 x:Bk wr w.heap.size d.arr TDl
 m:Mp.M wr mb n f
theorem MS.fr {w wr w':World} {d:Dl} {mb n:Nat} {f:Int→Int→Option Value} (h:MS w wr d mb n f) (hf:Fr (fun _=>False) wr w'):MS w w' d mb n f:=
 ⟨h.b.trans (hf.below h.b.size (fun _ _ h=>h)),h.x.fr hf (fun _ _ h=>h),h.m.fr hf (fun h=>h)⟩
theorem MS.put {w wr:World} {d:Dl} {mb n k:Nat} (h:MS w wr d mb n (fkv (d.O.take k))) (hk:k<d.O.length) (h1:wf64 d.O[k].t) (h2:wf64 d.O[k].i) (hn:n+1<1000000) (hm:w.heap.size<mb):
  ∃w',(Instr.mapUpdate TMi (.map (some mb)) (.string (key2 d.O[k].t d.O[k].i)) (.int .i64 (((cnk (d.O.take k) d.O[k].t d.O[k].i:Nat):Int)+1))).run prog wr=.ok () w'∧MS w w' d mb (n+1) (fkv (d.O.take (k+1))):=by
 obtain ⟨w',r1,r2,r3⟩:=h.m.upd uI h1 h2 (.int .i64 (((cnk (d.O.take k) d.O[k].t d.O[k].i:Nat):Int)+1)) (fkv_1 hk) (fun c d' hne=>fkv_2 hk c d' hne) hn
 exact ⟨w',r1,h.b.trans (r3.below h.b.size (fun k hk e=>by omega)),h.x.fr r3 (fun k hk e=>by simp at hk;omega),r2⟩
theorem MS.get {w wr:World} {d:Dl} {mb n:Nat} {L:List Sn} (h:MS w wr d mb n (fkv L)) {t i:Int} (h1:wf64 t) (h2:wf64 i) (c:Nat) (hc:cnk L t i=c):(Instr.lookup TMi (.map (some mb)) (.string (key2 t i)) false).run prog wr=.ok (.int .i64 (c:Int)) wr:=by
 have:=h.m.look uI zeroI h1 h2
 rw [fkv_get,hc] at this
 exact this
structure MR (w0 w:World) (B:Nat) (L:List Sn) (M:List (ByteArray × Pq)) (F:List Nat) (Bx:Nat) (x:Sn):Prop where
 f:FB w B L M F
 a:SetW.At w Bx 0 x
 r:Fr (fun _=>False) w0 w
theorem MR.fr {w0 w w':World} {B:Nat} {L:List Sn} {M:List (ByteArray × Pq)} {F:List Nat} {Bx:Nat} {x:Sn} (h:MR w0 w B L M F Bx x) (hf:Fr (fun _=>False) w w'):MR w0 w' B L M F Bx x:=⟨h.f.fr hf (fun _ _ h=>h),h.a.keep hf,h.r.trans hf (fun _ _ h=>h) (fun _ _ h=>h)⟩
theorem ma8 {ops:Array Oper} (hops:Eng.fnOps Tryz.f74 8=ops) (a0:Act) (Q:Exit→Act→World→Prop) (w0 w:World) (B:Nat) (L:List Sn) (M:List (ByteArray × Pq)) (F:List Nat) (Bx:Nat) (x:Sn) (pa:Int) (pb:Bool) (ht:wf64 x.t) (hi:wf64 x.i) (h1:((nx L x.t x.i).map (·.p)).getD 0=pa) (h2:(nx L x.t x.i).isSome=pb) (hst:MR w0 w B L M F Bx x)
  (hn:a0.tmps.size=90) (h_0:a0.tmps.getD 0 undef=.pointer (some ⟨B,0,none⟩)) (h_8:a0.tmps.getD 8 undef=.pointer (some ⟨Bx,0,none⟩))
  (hpost:∀ (x_:Nat→Value) (w':World),x_ 9=.int .i64 pa→x_ 10=.bool pb→Fr (fun _=>False) w0 w'→Q .normal (Eng.setAll a0 [9,10,38,39,40,41,42,43,44,45,46,47,48] x_) w'):
  (Code.region 8 ops true).wp prog Q a0 w:=by
 simp only [Eng.fnOps,Eng.regOps,Tryz.f74,Option.bind_some,Option.getD_some,Nat.reduceEqDiff,↓reduceIte] at hops
 subst hops
 have HSt:=Lib.hid (hst.fr (Fr.drew _ _))
 refine Eng.regionT (.take 0 (.take 1 (.take 2 (.take 3 (.take 4 (.take 5 (.take 6 (.alt 7 (.take 8 (.take 9 (.take 10 (.take 11 (.take 12 (.done)))))) (.stop))))))))) (fun w'=>w'.cell? ⟨Bx,0,none⟩=some (.int .i64 x.t)∧w'.cell? ⟨Bx,1,none⟩=some (.int .i64 x.i)∧w'.cell? ⟨Bx,2,none⟩=some (.int .i64 x.p)∧w'.cell? ⟨Bx,3,none⟩=some (.int .i64 x.r)∧w'.cell? ⟨Bx,4,none⟩=some (.string x.s)∧w'.cell? ⟨Bx,5,none⟩=some (.string x.o)∧w'.cell? ⟨Bx,6,none⟩=some (.int .i64 x.b)∧w'.cell? ⟨Bx,7,none⟩=some (.int .i64 x.d)∧w'.cell? ⟨Bx,8,none⟩=some (.bool x.g)) (by kernel_rfl) 90 hn (by kernel_rfl) (by kernel_rfl) (by kernel_rfl) (⟨HSt.out.a 0 _ rfl,HSt.out.a 1 _ rfl,HSt.out.a 2 _ rfl,HSt.out.a 3 _ rfl,HSt.out.a 4 _ rfl,HSt.out.a 5 _ rfl,HSt.out.a 6 _ rfl,HSt.out.a 7 _ rfl,HSt.out.a 8 _ rfl⟩) (fun a b ha hb=>?_)
 subst ha
 have hb0:b 0=.pointer (some ⟨B,0,none⟩):=(hb 0).symm.trans h_0
 have hb8:b 8=.pointer (some ⟨Bx,0,none⟩):=(hb 8).symm.trans h_8
 clear hb h_0 h_8
 have HP:=Lib.hid hpost;have HN:=Lib.hid hn
 clear hpost hn
 iterate 7 (refine Eng.TW.tk ?_)
 refine Eng.TW.call rfl rfl (by decide) (by kernel_rfl) ?_ (HSt.out.f.parent ht hi pa pb h1 h2) ?_
 ·go_simp
 rintro e w2 ⟨rfl,hf1⟩
 have HSt2:=Lib.hid (HSt.out.fr hf1)
 clear hf1
 refine ⟨_,rfl,⟨HSt2.out.a 0 _ rfl,HSt2.out.a 1 _ rfl,HSt2.out.a 2 _ rfl,HSt2.out.a 3 _ rfl,HSt2.out.a 4 _ rfl,HSt2.out.a 5 _ rfl,HSt2.out.a 6 _ rfl,HSt2.out.a 7 _ rfl,HSt2.out.a 8 _ rfl⟩,?_⟩
 iterate 5 (refine Eng.TW.tk ?_)
 refine Eng.TW.end_ [9,10,38,39,40,41,42,43,44,45,46,47,48] HN.out (by kernel_rfl) (by kernel_rfl) ?_
 exact HP.out _ _ rfl rfl HSt2.out.r
theorem ma16 {ops:Array Oper} (hops:Eng.fnOps Tryz.f74 16=ops) (a0:Act) (Q:Exit→Act→World→Prop) (w0 w:World) (B:Nat) (L:List Sn) (M:List (ByteArray × Pq)) (F:List Nat) (Bx:Nat) (x:Sn) (pa:Int) (pb:Bool) (ht:wf64 x.t) (hi:wf64 x.i) (h1:((nx L x.t x.i).map (·.p)).getD 0=pa) (h2:(nx L x.t x.i).isSome=pb) (hst:MR w0 w B L M F Bx x)
  (hn:a0.tmps.size=90) (h_0:a0.tmps.getD 0 undef=.pointer (some ⟨B,0,none⟩)) (h_12:a0.tmps.getD 12 undef=.pointer (some ⟨Bx,0,none⟩))
  (hpost:∀ (x_:Nat→Value) (w':World),x_ 13=.int .i64 pa→x_ 14=.bool pb→Fr (fun _=>False) w0 w'→Q .normal (Eng.setAll a0 [13,14,70,71,72,73,74,75,76,77,78,79,80] x_) w'):
  (Code.region 16 ops true).wp prog Q a0 w:=by
 simp only [Eng.fnOps,Eng.regOps,Tryz.f74,Option.bind_some,Option.getD_some,Nat.reduceEqDiff,↓reduceIte] at hops
 subst hops
 have HSt:=Lib.hid (hst.fr (Fr.drew _ _))
 refine Eng.regionT (.take 0 (.take 1 (.take 2 (.take 3 (.take 4 (.take 5 (.take 6 (.alt 7 (.take 8 (.take 9 (.take 10 (.take 11 (.take 12 (.done)))))) (.stop))))))))) (fun w'=>w'.cell? ⟨Bx,0,none⟩=some (.int .i64 x.t)∧w'.cell? ⟨Bx,1,none⟩=some (.int .i64 x.i)∧w'.cell? ⟨Bx,2,none⟩=some (.int .i64 x.p)∧w'.cell? ⟨Bx,3,none⟩=some (.int .i64 x.r)∧w'.cell? ⟨Bx,4,none⟩=some (.string x.s)∧w'.cell? ⟨Bx,5,none⟩=some (.string x.o)∧w'.cell? ⟨Bx,6,none⟩=some (.int .i64 x.b)∧w'.cell? ⟨Bx,7,none⟩=some (.int .i64 x.d)∧w'.cell? ⟨Bx,8,none⟩=some (.bool x.g)) (by kernel_rfl) 90 hn (by kernel_rfl) (by kernel_rfl) (by kernel_rfl) (⟨HSt.out.a 0 _ rfl,HSt.out.a 1 _ rfl,HSt.out.a 2 _ rfl,HSt.out.a 3 _ rfl,HSt.out.a 4 _ rfl,HSt.out.a 5 _ rfl,HSt.out.a 6 _ rfl,HSt.out.a 7 _ rfl,HSt.out.a 8 _ rfl⟩) (fun a b ha hb=>?_)
 subst ha
 have hb0:b 0=.pointer (some ⟨B,0,none⟩):=(hb 0).symm.trans h_0
 have hb12:b 12=.pointer (some ⟨Bx,0,none⟩):=(hb 12).symm.trans h_12
 clear hb h_0 h_12
 have HP:=Lib.hid hpost;have HN:=Lib.hid hn
 clear hpost hn
 iterate 7 (refine Eng.TW.tk ?_)
 refine Eng.TW.call rfl rfl (by decide) (by kernel_rfl) ?_ (HSt.out.f.parent ht hi pa pb h1 h2) ?_
 ·go_simp
 rintro e w2 ⟨rfl,hf1⟩
 have HSt2:=Lib.hid (HSt.out.fr hf1)
 clear hf1
 refine ⟨_,rfl,⟨HSt2.out.a 0 _ rfl,HSt2.out.a 1 _ rfl,HSt2.out.a 2 _ rfl,HSt2.out.a 3 _ rfl,HSt2.out.a 4 _ rfl,HSt2.out.a 5 _ rfl,HSt2.out.a 6 _ rfl,HSt2.out.a 7 _ rfl,HSt2.out.a 8 _ rfl⟩,?_⟩
 iterate 5 (refine Eng.TW.tk ?_)
 refine Eng.TW.end_ [13,14,70,71,72,73,74,75,76,77,78,79,80] HN.out (by kernel_rfl) (by kernel_rfl) ?_
 exact HP.out _ _ rfl rfl HSt2.out.r
theorem may (B:Nat) (L:List Sn) (M:List (ByteArray × Pq)) (F:List Nat) (d:Dl) (w:World) (h:FB w B L M F) (hd:RdD w d) (h1:d.O.length≤100000) (h2:d.I.length≤100000):
  Calls prog 74 #[.pointer (some ⟨B,0,none⟩),d.v] w fun e w'=>e=.returned (.int .i64 (dmay L d.O d.I))∧Below w.heap.size w w':=by
 obtain ⟨A1,k1,O,A2,k2,I⟩:=d
 dsimp only at *
 have hf:=Fr.alloc (fun _=>False) w (.cells (Dl.mk A1 k1 O A2 k2 I).arr TDl)
 have HD:=Lib.hid (hd.keep hf)
 have HF:=Lib.hid (h.fr hf (fun _ _ h=>h))
 have hbk:=Bk.new w (Dl.mk A1 k1 O A2 k2 I).arr TDl
 have HBk:=Lib.hid hbk
 have HB:=Lib.hid ((Below.refl w.heap.size w).alloc (Nat.le_refl _) (.cells (Dl.mk A1 k1 O A2 k2 I).arr TDl))
 have HZ:Hid (w.heap.size<(w.alloc (.cells (Dl.mk A1 k1 O A2 k2 I).arr TDl)).heap.size):=by show _<_;simp
 have z0:(w.alloc (.cells (Dl.mk A1 k1 O A2 k2 I).arr TDl)).cell? ⟨w.heap.size,0,none⟩=some (.slice A1 O.length k1):=hbk.cell 0
 have z1:(w.alloc (.cells (Dl.mk A1 k1 O A2 k2 I).arr TDl)).cell? ⟨w.heap.size,1,none⟩=some (.slice A2 I.length k2):=hbk.cell 1
 have HD0:=Lib.hid hd;have HF0:=Lib.hid h
 clear h hd hf hbk
 go_enter func74,ntmps74
 go_upto_region 2 with (fail)
 generalize (w.alloc (.cells (Dl.mk A1 k1 O A2 k2 I).arr TDl))=w1 at *
 go_wp2_with fail
 refine (Right ⟨A1,k1,O,A2,k2,I⟩ w1 HD.out (by show O.length≤_;omega) (by show I.length≤_;omega)).mono ?_
 rintro e w2 ⟨rfl,hb⟩
 replace HB:=Lib.hid (HB.out.trans (hb.mono HB.out.size));replace HD:=Lib.hid (HD.out.below hb);replace HF:=Lib.hid (HF.out.fr (Fr.of_below' hb (fun _=>False)) (fun _ _ h=>h));replace HBk:=Lib.hid (HBk.out.fr (Fr.of_below' hb (fun _=>False)) (fun _ _ h=>h))
 replace HZ:Hid (w.heap.size<w2.heap.size):=Nat.lt_of_lt_of_le HZ.out hb.size
 clear hb z0 z1
 have z0:w2.cell? ⟨w.heap.size,0,none⟩=some (.slice A1 O.length k1):=HBk.out.cell 0
 cases hr:rightB O I with
 |false=>
  have HE:Hid (dmay L O I=2):=by show _=_;unfold dmay;rw [hr];rfl
  clear hr
  go_wp2_with fail
  go_ret
  exact ⟨by rw [HE.out];rfl,HB.out⟩
 |true=>
  have HR:=Lib.hid hr
  go_wp2_with fail
  refine (ContainsFunc A1 k1 126 #[] (fun x=>x.g) O w2 (enters_of func126 (by kernel_rfl) rfl) HD.out.o.s (fun W hW x hx=>gone1 x W)).mono ?_
  rintro e w3 ⟨rfl,hf⟩
  have hb:=hf.below (Nat.le_refl _) (fun _ _ h=>h)
  replace HB:=Lib.hid (HB.out.trans (hb.mono HB.out.size));replace HD:=Lib.hid (HD.out.below hb);replace HF:=Lib.hid (HF.out.fr hf (fun _ _ h=>h));replace HBk:=Lib.hid (HBk.out.fr hf (fun _ _ h=>h))
  replace HZ:Hid (w.heap.size<w3.heap.size):=Nat.lt_of_lt_of_le HZ.out hb.size
  clear hb hf z0 hr
  have z1:w3.cell? ⟨w.heap.size,1,none⟩=some (.slice A2 I.length k2):=HBk.out.cell 1
  cases hg:O.any (fun x=>x.g) with
  |true=>
   have HE:Hid (dmay L O I=2):=by show _=_;unfold dmay;rw [HR.out,hg];rfl
   clear hg
   go_wp2_with fail
   go_ret
   exact ⟨by rw [HE.out];rfl,HB.out⟩
  |false=>
   have HG:=Lib.hid hg
   go_wp2_with fail
   refine (ContainsFunc A2 k2 126 #[] (fun x=>x.g) I w3 (enters_of func126 (by kernel_rfl) rfl) HD.out.i.s (fun W hW x hx=>gone1 x W)).mono ?_
   rintro e w4 ⟨rfl,hf⟩
   have hb:=hf.below (Nat.le_refl _) (fun _ _ h=>h)
   replace HB:=Lib.hid (HB.out.trans (hb.mono HB.out.size));replace HD:=Lib.hid (HD.out.below hb);replace HF:=Lib.hid (HF.out.fr hf (fun _ _ h=>h));replace HBk:=Lib.hid (HBk.out.fr hf (fun _ _ h=>h))
   replace HZ:Hid (w.heap.size<w4.heap.size):=Nat.lt_of_lt_of_le HZ.out hb.size
   clear hb hf z1 hg
   cases hg:I.any (fun x=>x.g) with
   |true=>
    have HE:Hid (dmay L O I=2):=by show _=_;unfold dmay;rw [HR.out,HG.out,hg];rfl
    clear hg
    go_wp2_with fail
    go_ret
    exact ⟨by rw [HE.out];rfl,HB.out⟩
   |false=>
    have HE:Hid (dmay L O I=if mayO L O=false then 7 else if mayI L O I=false then 8 else 0):=by show _=_;unfold dmay;rw [HR.out,HG.out,hg];rfl
    clear hg
    have hmm:=@run_makeMap prog
    go_upto_region 5 with (fail)
    clear hmm
    have hf:=Fr.alloc (fun _=>False) w4 (.map #[] 0)
    have HMS:Hid (MS w (w4.alloc (.map #[] 0)) ⟨A1,k1,O,A2,k2,I⟩ w4.heap.size 0 (fkv (O.take 0))):=
     ⟨HB.out.trans (hf.below HB.out.size (fun _ _ h=>h)),HBk.out.fr hf (fun _ _ h=>h),(Mp.M.new w4).to (fun _ _ _ _=>rfl)⟩
    have HZm:Hid (w.heap.size<w4.heap.size):=HZ.out
    clear hf HB HD HF HBk HZ
    generalize (w4.alloc (.map #[] 0))=w5 at *
    generalize w4.heap.size=mb at *
    have z0:w5.cell? ⟨w.heap.size,0,none⟩=some (.slice A1 O.length k1):=HMS.out.x.cell 0
    go_wp2_with fail
    go_loopg [34] O.length (fun gk i wr=>∃ (k n:Nat),i=.int .i64 k∧k≤O.length∧n≤k∧gk=O.length-k∧MS w wr ⟨A1,k1,O,A2,k2,I⟩ mb n (fkv (O.take k))∧mayO L (O.take k)=true)
    case atStart=>exact ⟨0,0,rfl,Nat.zero_le _,Nat.le_refl _,rfl,HMS.out,rfl⟩
    case round=>
     clear HMS z0
     obtain ⟨k,n,rfl,hk,hnk,hgk,hms,hmk⟩:=hrel
     have HGk:=Lib.hid hgk;have HMS:=Lib.hid hms;have HMk:=Lib.hid hmk
     clear hgk hms hmk
     by_cases hlt:k<O.length
     ·have HNk:=Lib.hid (show n+1<1000000 by omega)
      have hslt:=(HD0.out.below HMS.out.b).o.s
      have HU:Hid (∀wz,MS w wz ⟨A1,k1,O,A2,k2,I⟩ mb n (fkv (O.take k))→∃w',(Instr.mapUpdate TMi (.map (some mb)) (.string (key2 O[k].t O[k].i)) (.int .i64 (((cnk (O.take k) O[k].t O[k].i:Nat):Int)+1))).run prog wz=.ok () w'∧MS w w' ⟨A1,k1,O,A2,k2,I⟩ mb (n+1) (fkv (O.take (k+1)))):=fun wz hz=>hz.put hlt (HD0.out.o.ok _ (List.getElem_mem hlt)).t (HD0.out.o.ok _ (List.getElem_mem hlt)).i HNk.out HZm.out
      obtain ⟨b1,o1,rfl,hb1,c1⟩:=hslt.at hlt (by omega)
      have HA:=Lib.hid (SetW.At.row c1 hlt)
      have HOk:=Lib.hid (HD0.out.o.ok _ (List.getElem_mem hlt))
      have HSn:=Lib.hid (mayO_snoc (L:=L)  hlt)
      clear c1 hb1 hslt
      generalize O[k]=y at *
      have q1:decide ((k:Int)<(O.length:Int))=true:=by simp;omega
      have q2:(0:Int)≤(k:Int):=by omega
      have q3:(k:Int)<(O.length:Int):=by omega
      obtain ⟨yc0,yc1,yc2,yc3,yc4,yc5,yc6,yc7,yc8⟩:=SetW.at9 HA.out
      go_upto_region 8 with (fail)
      have hfa:=Fr.alloc (fun _=>False) wr (.cells y.arr TSn)
      have HX:=Lib.hid (SetW.At.box (Bk.new wr y.arr TSn))
      have HMS2:=Lib.hid (HMS.out.fr hfa)
      clear hfa HA HMS yc0 yc1 yc2 yc3 yc4 yc5 yc6 yc7 yc8
      generalize (wr.alloc (.cells y.arr TSn))=w4 at *
      generalize wr.heap.size=Bx at *
      obtain ⟨pa,hpa⟩:∃pa,((nx L y.t y.i).map (·.p)).getD 0=pa:=⟨_,rfl⟩
      obtain ⟨pb,hpb⟩:∃pb,(nx L y.t y.i).isSome=pb:=⟨_,rfl⟩
      refine ma8 (by kernel_rfl) _ _ w4 w4 B L M F Bx y pa pb HOk.out.t HOk.out.i hpa hpb ⟨HF0.out.fr (Fr.of_below' HMS2.out.b (fun _=>False)) (fun _ _ h=>h),HX.out,Fr.refl _ _⟩ rfl rfl rfl ?_
      intro x5 w5 hx1 hx2 hf5
      simp only [Eng.setAll,Act.put,List.setIfInBounds_toArray,List.set_cons_succ,List.set_cons_zero,hx1,hx2]
      have HMS3:=Lib.hid (HMS2.out.fr hf5)
      have HX3:=Lib.hid (HX.out.keep hf5)
      have HPa:=Lib.hid hpa;have HPb:=Lib.hid hpb
      clear hf5 hx1 hx2 hpa hpb HMS2 HX
      cases pb with
      |false=>
       have hok:okO L y=false:=by
        unfold okO
        cases hq:nx L y.t y.i with
        |none=>rfl
        |some z=>have:=HPb.out;rw [hq] at this;cases this
       have HE7:Hid (dmay L O I=7):=by
        show _=_
        rw [HE.out,if_pos]
        refine all_false (k:=k+1) (show mayO L (O.take (k+1))=false from ?_)
        rw [HSn.out,hok,Bool.and_false]
       have HB9:=Lib.hid HMS3.out.b
       clear hok
       go_wp2_with fail
       go_ret
       exact ⟨by rw [HE7.out];rfl,HB9.out⟩
      |true=>
       obtain ⟨z,hz⟩:∃z,nx L y.t y.i=some z:=Option.isSome_iff_exists.1 HPb.out
       have hpz:pa=z.p:=by have:=HPa.out;rw [hz] at this;exact this.symm
       have hok1:okO L y=decide (z.p=y.p):=by unfold okO;rw [hz]
       subst hpz
       have x2:w5.cell? ⟨Bx,2,none⟩=some (.int .i64 y.p):=HX3.out 2 _ rfl
       clear hz
       by_cases hpp:z.p=y.p
       ·have q9:(z.p != y.p)=false:=by simp [hpp]
        have hok:okO L y=true:=by rw [hok1];exact decide_eq_true hpp
        have HMk2:Hid (mayO L (O.take (k+1))=true):=by show _=_;rw [HSn.out,HMk.out,hok];rfl
        clear hok hok1
        obtain ⟨c,hc⟩:∃c,cnk (O.take k) y.t y.i=c:=⟨_,rfl⟩
        rw [hc] at HU
        have HCc:=Lib.hid hc
        have hcl:c≤k:=by rw [←hc];exact Nat.le_trans (cnk_le _ _ _) (List.length_take_le _ _)
        clear hc
        have yc0:w5.cell? ⟨Bx,0,none⟩=some (.int .i64 y.t):=HX3.out 0 _ rfl
        have yc1:w5.cell? ⟨Bx,1,none⟩=some (.int .i64 y.i):=HX3.out 1 _ rfl
        have yc2:w5.cell? ⟨Bx,2,none⟩=some (.int .i64 y.p):=HX3.out 2 _ rfl
        have yc3:w5.cell? ⟨Bx,3,none⟩=some (.int .i64 y.r):=HX3.out 3 _ rfl
        have yc4:w5.cell? ⟨Bx,4,none⟩=some (.string y.s):=HX3.out 4 _ rfl
        have yc5:w5.cell? ⟨Bx,5,none⟩=some (.string y.o):=HX3.out 5 _ rfl
        have yc6:w5.cell? ⟨Bx,6,none⟩=some (.int .i64 y.b):=HX3.out 6 _ rfl
        have yc7:w5.cell? ⟨Bx,7,none⟩=some (.int .i64 y.d):=HX3.out 7 _ rfl
        have yc8:w5.cell? ⟨Bx,8,none⟩=some (.bool y.g):=HX3.out 8 _ rfl
        go_upto_region 11 with (fail)
        go_wp2_with fail
        refine (Span' y HOk.out.t HOk.out.i w5).mono ?_
        rintro e w6 ⟨rfl,hf6⟩
        have HMS6:=Lib.hid (HMS3.out.fr hf6)
        clear hf6 x2 yc0 yc1 yc2 yc3 yc4 yc5 yc6 yc7 yc8
        have hlk:=HMS6.out.get HOk.out.t HOk.out.i c HCc.out
        have qw:IntKind.i64.wrap ((c:Int)+1)=(c:Int)+1:=by rw [IntKind.wrap_i64];omega
        obtain ⟨w7,hup,hms7⟩:=HU.out w6 HMS6.out
        have HMS7:=Lib.hid hms7
        clear hms7 HMS6 HMS3 HU
        have qk:IntKind.i64.wrap ((k:Int)+1)=(k:Int)+1:=by rw [IntKind.wrap_i64];omega
        go_wp2_with fail
        go_roundg (O.length-(k+1))
        case rel=>exact ⟨k+1,n+1,by go_num,by omega,by omega,rfl,HMS7.out,HMk2.out⟩
        case measure=>have:=HGk.out;omega
       ·have q9:(z.p != y.p)=true:=by simp [hpp]
        have hok:okO L y=false:=by rw [hok1];exact decide_eq_false hpp
        clear hok1
        have HE7:Hid (dmay L O I=7):=by
         show _=_
         rw [HE.out,if_pos]
         refine all_false (k:=k+1) (show mayO L (O.take (k+1))=false from ?_)
         rw [HSn.out,hok,Bool.and_false]
        have HB9:=Lib.hid HMS3.out.b
        clear hok
        go_wp2_with fail
        go_ret
        exact ⟨by rw [HE7.out];rfl,HB9.out⟩
     ·have hke:k=O.length:=by omega
      have q1:decide ((k:Int)<(O.length:Int))=false:=by simp;omega
      have HM1:Hid (mayO L O=true):=by have:=HMk.out;rwa [hke,List.take_length] at this
      have HMS1:Hid (MS w wr ⟨A1,k1,O,A2,k2,I⟩ mb n (fkv O)):=by have:=HMS.out;rwa [hke,List.take_length] at this
      clear HMk HMS HGk hke
      have z1:wr.cell? ⟨w.heap.size,1,none⟩=some (.slice A2 I.length k2):=HMS1.out.x.cell 1
      go_wp2_with fail
      clear z1
      go_loopg [66] I.length (fun gk i wr=>∃ (k:Nat),i=.int .i64 k∧k≤I.length∧gk=I.length-k∧MS w wr ⟨A1,k1,O,A2,k2,I⟩ mb n (fkv O)∧mayI L O (I.take k)=true)
      case atStart=>exact ⟨0,rfl,Nat.zero_le _,rfl,HMS1.out,rfl⟩
      case round=>
       clear HMS1 q1
       rename_i wro
       obtain ⟨k,rfl,hk,hgk,hms,hmk⟩:=hrel
       have HGk:=Lib.hid hgk;have HMS:=Lib.hid hms;have HMk:=Lib.hid hmk
       clear hgk hms hmk
       by_cases hlt:k<I.length
       ·have hslt:=(HD0.out.below HMS.out.b).i.s
        obtain ⟨b1,o1,rfl,hb1,c1⟩:=hslt.at hlt (by omega)
        have HA:=Lib.hid (SetW.At.row c1 hlt)
        have HOk:=Lib.hid (HD0.out.i.ok _ (List.getElem_mem hlt))
        have HSn:=Lib.hid (mayI_snoc (L:=L) (O:=O) hlt)
        clear c1 hb1 hslt
        generalize I[k]=y at *
        have q1:decide ((k:Int)<(I.length:Int))=true:=by simp;omega
        have q2:(0:Int)≤(k:Int):=by omega
        have q3:(k:Int)<(I.length:Int):=by omega
        obtain ⟨yc0,yc1,yc2,yc3,yc4,yc5,yc6,yc7,yc8⟩:=SetW.at9 HA.out
        go_upto_region 16 with (fail)
        have hfa:=Fr.alloc (fun _=>False) wr (.cells y.arr TSn)
        have HX:=Lib.hid (SetW.At.box (Bk.new wr y.arr TSn))
        have HMS2:=Lib.hid (HMS.out.fr hfa)
        clear hfa HA HMS yc0 yc1 yc2 yc3 yc4 yc5 yc6 yc7 yc8
        generalize (wr.alloc (.cells y.arr TSn))=w4 at *
        generalize wr.heap.size=Bx at *
        obtain ⟨pa,hpa⟩:∃pa,((nx L y.t y.i).map (·.p)).getD 0=pa:=⟨_,rfl⟩
        obtain ⟨pb,hpb⟩:∃pb,(nx L y.t y.i).isSome=pb:=⟨_,rfl⟩
        refine ma16 (by kernel_rfl) _ _ w4 w4 B L M F Bx y pa pb HOk.out.t HOk.out.i hpa hpb ⟨HF0.out.fr (Fr.of_below' HMS2.out.b (fun _=>False)) (fun _ _ h=>h),HX.out,Fr.refl _ _⟩ rfl rfl rfl ?_
        intro x5 w5 hx1 hx2 hf5
        simp only [Eng.setAll,Act.put,List.setIfInBounds_toArray,List.set_cons_succ,List.set_cons_zero,hx1,hx2]
        have HMS3:=Lib.hid (HMS2.out.fr hf5)
        have HX3:=Lib.hid (HX.out.keep hf5)
        have HPa:=Lib.hid hpa;have HPb:=Lib.hid hpb
        clear hf5 hx1 hx2 hpa hpb HMS2 HX
        have qk:IntKind.i64.wrap ((k:Int)+1)=(k:Int)+1:=by rw [IntKind.wrap_i64];omega
        cases pb with
        |false=>
         have hok:okI L O y=true:=by unfold okI;rw [HPb.out];rfl
         have HMk2:Hid (mayI L O (I.take (k+1))=true):=by show _=_;rw [HSn.out,HMk.out,hok];rfl
         clear hok
         go_wp2_with fail
         go_roundg (I.length-(k+1))
         case rel=>exact ⟨k+1,by go_num,by omega,rfl,HMS3.out,HMk2.out⟩
         case measure=>have:=HGk.out;omega
        |true=>
         obtain ⟨c,hc⟩:∃c,cnk O y.t y.i=c:=⟨_,rfl⟩
         have HCc:=Lib.hid hc
         clear hc
         have yc0:w5.cell? ⟨Bx,0,none⟩=some (.int .i64 y.t):=HX3.out 0 _ rfl
         have yc1:w5.cell? ⟨Bx,1,none⟩=some (.int .i64 y.i):=HX3.out 1 _ rfl
         have yc2:w5.cell? ⟨Bx,2,none⟩=some (.int .i64 y.p):=HX3.out 2 _ rfl
         have yc3:w5.cell? ⟨Bx,3,none⟩=some (.int .i64 y.r):=HX3.out 3 _ rfl
         have yc4:w5.cell? ⟨Bx,4,none⟩=some (.string y.s):=HX3.out 4 _ rfl
         have yc5:w5.cell? ⟨Bx,5,none⟩=some (.string y.o):=HX3.out 5 _ rfl
         have yc6:w5.cell? ⟨Bx,6,none⟩=some (.int .i64 y.b):=HX3.out 6 _ rfl
         have yc7:w5.cell? ⟨Bx,7,none⟩=some (.int .i64 y.d):=HX3.out 7 _ rfl
         have yc8:w5.cell? ⟨Bx,8,none⟩=some (.bool y.g):=HX3.out 8 _ rfl
         go_wp2_with fail
         refine (Span' y HOk.out.t HOk.out.i w5).mono ?_
         rintro e w6 ⟨rfl,hf6⟩
         have HMS6:=Lib.hid (HMS3.out.fr hf6)
         clear hf6 yc0 yc1 yc2 yc3 yc4 yc5 yc6 yc7 yc8
         have hlk:=HMS6.out.get HOk.out.t HOk.out.i c HCc.out
         by_cases h0:c=0
         ·have q9:((c:Int)==0)=true:=by simp [h0]
          have hok:okI L O y=false:=by
           unfold okI
           rw [HPb.out,cnk_zero.1 (HCc.out.trans h0)];rfl
          have HE8:Hid (dmay L O I=8):=by
           show _=_
           rw [HE.out,HM1.out,if_neg (by simp),if_pos]
           refine all_false (k:=k+1) (show mayI L O (I.take (k+1))=false from ?_)
           rw [HSn.out,hok,Bool.and_false]
          have HB9:=Lib.hid HMS6.out.b
          clear hok h0
          go_wp2_with fail
          go_ret
          exact ⟨by rw [HE8.out];rfl,HB9.out⟩
         ·have q9:((c:Int)==0)=false:=by simp [h0]
          have hok:okI L O y=true:=by
           unfold okI
           cases hq:(nx O y.t y.i).isSome with
           |true=>rw [Bool.or_true]
           |false=>exact absurd (HCc.out.symm.trans (cnk_zero.2 hq)) h0
          have HMk2:Hid (mayI L O (I.take (k+1))=true):=by show _=_;rw [HSn.out,HMk.out,hok];rfl
          clear hok h0
          go_wp2_with fail
          go_roundg (I.length-(k+1))
          case rel=>exact ⟨k+1,by go_num,by omega,rfl,HMS6.out,HMk2.out⟩
          case measure=>have:=HGk.out;omega
       ·have hke:k=I.length:=by omega
        have q1:decide ((k:Int)<(I.length:Int))=false:=by simp;omega
        have hM2:mayI L O I=true:=by have:=HMk.out;rwa [hke,List.take_length] at this
        have HE0:Hid (dmay L O I=0):=by
         show _=_
         rw [HE.out,HM1.out,if_neg (by simp),hM2,if_neg (by simp)]
        have HB9:=Lib.hid HMS.out.b
        clear hM2 hke HMk HMS
        go_wp2_with fail
        go_ret
        exact ⟨by rw [HE0.out];rfl,HB9.out⟩
end Wrk
set_option maxRecDepth 100000
set_option maxHeartbeats 400000
namespace Wrk
open KeyP PackP SetP SetW SetF Sli Delta KidsP Cls KdO Fst Drd
attribute [local go_sem] Eng.ev Eng.getO_cons Eng.getO_nil
abbrev TFo:TypeId:=74
abbrev zSh:Array Value:= #[.slice none 0 0,.slice none 0 0]
theorem buildSh:∀W:World,(Instr.build TSh #[]).run prog W=.ok (.agg #[.slice none 0 0,.slice none 0 0]) W:=fun W=>by kernel_rfl
theorem buildWk (B:Nat):∀W:World,(Instr.build TWk #[(0,.pointer (some ⟨B,0,none⟩))]).run prog W=.ok (.agg #[.pointer (some ⟨B,0,none⟩),.pointer none,.int .i64 0,.pointer none,.int .i64 0,.int .i64 0]) W:=fun W=>by kernel_rfl
theorem _root_.Go.Proofs.YtgfjpnpbkkadpaaGreat.SetF.Ls.frB {S:Nat→Prop} {w w':World} {A:Option Addr} {c:Nat} {L:List Sn} (h:Ls w A c L) (hf:Fr S w w') (hs:L≠ []→∀a,A=some a→¬S a.block):Ls w' A c L:=by
 refine ⟨?_,h.ok⟩
 by_cases hX:L= []
 ·subst hX
  obtain ⟨h1,h2,h3,h4,h5⟩:=h.s
  exact ⟨h1,h2,h3,h4,fun h=>absurd rfl h⟩
 ·exact h.s.fr hf (hs hX)
def ApD (d:Dl) (F:List Nat):Prop:=(d.O≠ []→∀a,d.A1=some a→a.block∉F)∧(d.I≠ []→∀a,d.A2=some a→a.block∉F)
theorem _root_.Go.Proofs.YtgfjpnpbkkadpaaGreat.Delta.RdD.ap {w w':World} {d:Dl} {F F':List Nat} (h:RdD w d) (ha:ApD d F) (ht:Tn F F' w w'):RdD w' d:=⟨h.o.frB ht.fr ha.1,h.i.frB ht.fr ha.2⟩
structure AP (w A:World) (W B:Nat) (F0:List Nat) (L:List Sn) (M WE:Pl) (LO:Ll) (n:Int) (F:List Nat) (d:Dl) (Ab:Option Addr) (cb:Nat) (G:List Sn):Prop where
 f:FW A W B L M WE LO n F
 t:Tn F0 F w A
 b2:Bk A w.heap.size #[.pointer (some ⟨B,0,none⟩)] TFo
 b3:Bk A (w.heap.size+1) d.arr TDl
 b4:Bk A (w.heap.size+2) zSh TSh
 b9:Bk A (W+1) #[.pointer (some ⟨W,0,none⟩)] TWp
 bb:Ls A Ab cb G
 n2:w.heap.size∉F
 n3:w.heap.size+1∉F
 n4:w.heap.size+2∉F
 n9:W+1∉F
 nb:∀a,Ab=some a→a.block∉F∧a.block<A.heap.size
 wz:w.heap.size+2<W
section
variable {w A C:World} {W B:Nat} {F0:List Nat} {L L':List Sn} {M WE M' WE':Pl} {LO LO':Ll} {n n':Int} {F F':List Nat} {d:Dl} {Ab:Option Addr} {cb:Nat} {G:List Sn}
theorem AP.keep (h:AP w A W B F0 L M WE LO n F d Ab cb G) (hf:Fr (fun _=>False) A C):AP w C W B F0 L M WE LO n F d Ab cb G:=
 ⟨h.f.keep hf,h.t.trans (Tn.of_fr hf h.f.lt),h.b2.fr hf (fun _ _ h=>h),h.b3.fr hf (fun _ _ h=>h),h.b4.fr hf (fun _ _ h=>h),h.b9.fr hf (fun _ _ h=>h),h.bb.keep hf,h.n2,h.n3,h.n4,h.n9,fun a ha=>⟨(h.nb a ha).1,Nat.lt_of_lt_of_le (h.nb a ha).2 hf.size⟩,h.wz⟩
theorem AP.turn (h:AP w A W B F0 L M WE LO n F d Ab cb G) (hf:FW C W B L' M' WE' LO' n' F') (ht:Tn F F' A C):AP w C W B F0 L' M' WE' LO' n' F' d Ab cb G:=
 ⟨hf,h.t.trans ht,h.b2.fr ht.fr (fun b hb e=>by simp at hb;subst hb;exact h.n2 e),h.b3.fr ht.fr (fun b hb e=>by simp at hb;subst hb;exact h.n3 e),h.b4.fr ht.fr (fun b hb e=>by simp at hb;subst hb;exact h.n4 e),h.b9.fr ht.fr (fun b hb e=>by simp at hb;subst hb;exact h.n9 e),
  h.bb.fr ht.fr (fun a ha e=>(h.nb a ha).1 e),not_new ht h.n2 (lt_of_heap h.b2),not_new ht h.n3 (lt_of_heap h.b3),not_new ht h.n4 (lt_of_heap h.b4),not_new ht h.n9 (lt_of_heap h.b9),fun a ha=>⟨not_new ht (h.nb a ha).1 (h.nb a ha).2,Nat.lt_of_lt_of_le (h.nb a ha).2 ht.fr.size⟩,h.wz⟩
theorem AP.cells (h:AP w A W B F0 L M WE LO n F d Ab cb G):A.cell? ⟨w.heap.size,0,none⟩=some (.pointer (some ⟨B,0,none⟩))∧A.cell? ⟨w.heap.size+1,0,none⟩=some (.slice d.A1 d.O.length d.c1)∧A.cell? ⟨w.heap.size+1,1,none⟩=some (.slice d.A2 d.I.length d.c2)∧A.cell? ⟨W+1,0,none⟩=some (.pointer (some ⟨W,0,none⟩)):=
 ⟨h.b2.cell 0,h.b3.cell 0,h.b3.cell 1,h.b9.cell 0⟩
end
structure AX (w A:World) (W B:Nat) (F0:List Nat) (L:List Sn) (M WE:Pl) (LO:Ll) (n:Int) (F:List Nat) (d:Dl) (Ab:Option Addr) (cb:Nat) (G:List Sn) (Bx:Nat) (x:Sn):Prop where
 p:AP w A W B F0 L M WE LO n F d Ab cb G
 a:SetW.At A Bx 0 x
 n:Bx∉F
section
variable {w A C:World} {W B:Nat} {F0:List Nat} {L L':List Sn} {M WE M' WE':Pl} {LO LO':Ll} {n n':Int} {F F':List Nat} {d:Dl} {Ab:Option Addr} {cb:Nat} {G:List Sn} {Bx:Nat} {x:Sn}
theorem AX.fr (h:AX w A W B F0 L M WE LO n F d Ab cb G Bx x) (hf:Fr (fun _=>False) A C):AX w C W B F0 L M WE LO n F d Ab cb G Bx x:=⟨h.p.keep hf,h.a.keep hf,h.n⟩
theorem AX.turn (h:AX w A W B F0 L M WE LO n F d Ab cb G Bx x) (hf:FW C W B L' M' WE' LO' n' F') (ht:Tn F F' A C):AX w C W B F0 L' M' WE' LO' n' F' d Ab cb G Bx x:=
 ⟨h.p.turn hf ht,h.a.fr ht.fr (fun e=>h.n e),not_new ht h.n h.a.lt⟩
theorem AX.box (h:AP w A W B F0 L M WE LO n F d Ab cb G) (x:Sn):AX w (A.alloc (.cells x.arr TSn)) W B F0 L M WE LO n F d Ab cb G A.heap.size x:=
 ⟨h.keep (Fr.alloc _ _ _),SetW.At.box (Bk.new A x.arr TSn),fun e=>by have:=h.f.lt _ e;omega⟩
end
theorem ap20 {ops:Array Oper} (hops:Eng.fnOps Tryz.f31 20=ops) (a0:Act) (Q:Exit→Act→World→Prop) (w0 w:World) (W B:Nat) (F0:List Nat) (L:List Sn) (M WE:Pl) (LO:Ll) (n:Int) (F:List Nat) (d:Dl) (Ab:Option Addr) (cb:Nat) (G:List Sn) (Bx:Nat) (x:Sn) (ht:wf64 x.t) (hi:wf64 x.i) (sl:L.length<1000000) (hst:AX w0 w W B F0 L M WE LO n F d Ab cb G Bx x)
  (hn:a0.tmps.size=147) (h_2:a0.tmps.getD 2 undef=.pointer (some ⟨w0.heap.size,0,none⟩)) (h_14:a0.tmps.getD 14 undef=.pointer (some ⟨Bx,0,none⟩))
  (hpost:∀ (x_:Nat→Value) (w':World) (F':List Nat),AX w0 w' W B F0 (SetP.out x.t x.i L) M WE LO n F' d Ab cb G Bx x→Q .normal (Eng.setAll a0 [80,81,82,83,84,85,86,87] x_) w'):
  (Code.region 20 ops true).wp prog Q a0 w:=by
 simp only [Eng.fnOps,Eng.regOps,Tryz.f31,Option.bind_some,Option.getD_some,Nat.reduceEqDiff,↓reduceIte] at hops
 subst hops
 have HSt:=Lib.hid (hst.fr (Fr.drew _ _))
 refine Eng.regionT (.take 0 (.take 1 (.take 2 (.take 3 (.take 4 (.take 5 (.take 6 (.alt 7 (.done) (.stop))))))))) (fun w'=>w'.cell? ⟨w0.heap.size,0,none⟩=some (.pointer (some ⟨B,0,none⟩))∧w'.cell? ⟨Bx,0,none⟩=some (.int .i64 x.t)∧w'.cell? ⟨Bx,1,none⟩=some (.int .i64 x.i)∧w'.cell? ⟨Bx,2,none⟩=some (.int .i64 x.p)∧w'.cell? ⟨Bx,3,none⟩=some (.int .i64 x.r)∧w'.cell? ⟨Bx,4,none⟩=some (.string x.s)∧w'.cell? ⟨Bx,5,none⟩=some (.string x.o)∧w'.cell? ⟨Bx,6,none⟩=some (.int .i64 x.b)∧w'.cell? ⟨Bx,7,none⟩=some (.int .i64 x.d)∧w'.cell? ⟨Bx,8,none⟩=some (.bool x.g)) (by kernel_rfl) 147 hn (by kernel_rfl) (by kernel_rfl) (by kernel_rfl) (⟨HSt.out.p.cells.1,HSt.out.a 0 _ rfl,HSt.out.a 1 _ rfl,HSt.out.a 2 _ rfl,HSt.out.a 3 _ rfl,HSt.out.a 4 _ rfl,HSt.out.a 5 _ rfl,HSt.out.a 6 _ rfl,HSt.out.a 7 _ rfl,HSt.out.a 8 _ rfl⟩) (fun a b ha hb=>?_)
 subst ha
 have hb2:b 2=.pointer (some ⟨w0.heap.size,0,none⟩):=(hb 2).symm.trans h_2
 have hb14:b 14=.pointer (some ⟨Bx,0,none⟩):=(hb 14).symm.trans h_14
 clear hb h_2 h_14
 have HP:=Lib.hid hpost;have HN:=Lib.hid hn
 clear hpost hn
 iterate 7 (refine Eng.TW.tk ?_)
 refine Eng.TW.call rfl rfl (by decide) (by kernel_rfl) ?_ (HSt.out.p.f.drops ht hi sl) ?_
 ·go_simp
 rintro e w2 ⟨⟨_,rfl⟩,F',h1,h2⟩
 have HSt2:=Lib.hid (HSt.out.turn h1 h2)
 clear h1 h2
 refine ⟨_,rfl,⟨HSt2.out.p.cells.1,HSt2.out.a 0 _ rfl,HSt2.out.a 1 _ rfl,HSt2.out.a 2 _ rfl,HSt2.out.a 3 _ rfl,HSt2.out.a 4 _ rfl,HSt2.out.a 5 _ rfl,HSt2.out.a 6 _ rfl,HSt2.out.a 7 _ rfl,HSt2.out.a 8 _ rfl⟩,?_⟩
 refine Eng.TW.end_ [80,81,82,83,84,85,86,87] HN.out (by kernel_rfl) (by kernel_rfl) ?_
 exact HP.out _ _ _ HSt2.out
theorem ap25 {ops:Array Oper} (hops:Eng.fnOps Tryz.f31 25=ops) (a0:Act) (Q:Exit→Act→World→Prop) (w0 w:World) (W B:Nat) (F0:List Nat) (L:List Sn) (M WE:Pl) (LO:Ll) (n:Int) (F:List Nat) (d:Dl) (Ab:Option Addr) (cb:Nat) (G:List Sn) (Bx:Nat) (x:Sn) (hg:gd x) (sl:L.length<1000000) (hst:AX w0 w W B F0 L M WE LO n F d Ab cb G Bx x)
  (hn:a0.tmps.size=147) (h_2:a0.tmps.getD 2 undef=.pointer (some ⟨w0.heap.size,0,none⟩)) (h_16:a0.tmps.getD 16 undef=.pointer (some ⟨Bx,0,none⟩))
  (hpost:∀ (x_:Nat→Value) (w':World) (F':List Nat),AX w0 w' W B F0 (putK x L) M WE LO n F' d Ab cb G Bx x→Q .normal (Eng.setAll a0 [96,97,98,99,100] x_) w'):
  (Code.region 25 ops true).wp prog Q a0 w:=by
 simp only [Eng.fnOps,Eng.regOps,Tryz.f31,Option.bind_some,Option.getD_some,Nat.reduceEqDiff,↓reduceIte] at hops
 subst hops
 have HSt:=Lib.hid (hst.fr (Fr.drew _ _))
 refine Eng.regionT (.take 0 (.take 1 (.take 2 (.take 3 (.alt 4 (.done) (.stop)))))) (fun w'=>w'.cell? ⟨w0.heap.size,0,none⟩=some (.pointer (some ⟨B,0,none⟩))∧w'.cell? ⟨Bx,0,none⟩=some (.int .i64 x.t)∧w'.cell? ⟨Bx,1,none⟩=some (.int .i64 x.i)∧w'.cell? ⟨Bx,2,none⟩=some (.int .i64 x.p)∧w'.cell? ⟨Bx,3,none⟩=some (.int .i64 x.r)∧w'.cell? ⟨Bx,4,none⟩=some (.string x.s)∧w'.cell? ⟨Bx,5,none⟩=some (.string x.o)∧w'.cell? ⟨Bx,6,none⟩=some (.int .i64 x.b)∧w'.cell? ⟨Bx,7,none⟩=some (.int .i64 x.d)∧w'.cell? ⟨Bx,8,none⟩=some (.bool x.g)) (by kernel_rfl) 147 hn (by kernel_rfl) (by kernel_rfl) (by kernel_rfl) (⟨HSt.out.p.cells.1,HSt.out.a 0 _ rfl,HSt.out.a 1 _ rfl,HSt.out.a 2 _ rfl,HSt.out.a 3 _ rfl,HSt.out.a 4 _ rfl,HSt.out.a 5 _ rfl,HSt.out.a 6 _ rfl,HSt.out.a 7 _ rfl,HSt.out.a 8 _ rfl⟩) (fun a b ha hb=>?_)
 subst ha
 have hb2:b 2=.pointer (some ⟨w0.heap.size,0,none⟩):=(hb 2).symm.trans h_2
 have hb16:b 16=.pointer (some ⟨Bx,0,none⟩):=(hb 16).symm.trans h_16
 clear hb h_2 h_16
 have HP:=Lib.hid hpost;have HN:=Lib.hid hn
 clear hpost hn
 iterate 4 (refine Eng.TW.tk ?_)
 refine Eng.TW.call rfl rfl (by decide) (by kernel_rfl) ?_ (HSt.out.p.f.puts hg sl) ?_
 ·go_simp
 rintro e w2 ⟨rfl,F',h1,h2⟩
 have HSt2:=Lib.hid (HSt.out.turn h1 h2)
 clear h1 h2
 refine ⟨_,rfl,⟨HSt2.out.p.cells.1,HSt2.out.a 0 _ rfl,HSt2.out.a 1 _ rfl,HSt2.out.a 2 _ rfl,HSt2.out.a 3 _ rfl,HSt2.out.a 4 _ rfl,HSt2.out.a 5 _ rfl,HSt2.out.a 6 _ rfl,HSt2.out.a 7 _ rfl,HSt2.out.a 8 _ rfl⟩,?_⟩
 refine Eng.TW.end_ [96,97,98,99,100] HN.out (by kernel_rfl) (by kernel_rfl) ?_
 exact HP.out _ _ _ HSt2.out
structure AS (w w1 A:World) (W B:Nat) (F0:List Nat) (L:List Sn) (M WE:Pl) (LO:Ll) (n:Int) (F:List Nat) (d:Dl) (Ab:Option Addr) (cb:Nat) (G:List Sn) (sh:Option (Option Addr × Nat × Option Addr × Nat)):Prop where
 p:AP w A W B F0 L M WE LO n F d Ab cb G
 r:Fr (fun _=>False) w1 A
 s:∀A1 c1 A2 c2,sh=some (A1,c1,A2,c2)→A.ownsRow (w.heap.size+3) TPl 6 (.slice A1 (shO WE M).length c1) (shO WE M).length (pcs (shO WE M))∧A.ownsRow (w.heap.size+3) TPl 6 (.slice A2 (shI WE M).length c2) (shI WE M).length (pcs (shI WE M))∧(∀b,(Value.slice A1 (shO WE M).length c1).ownBlock=some b→b∉F)∧(∀b,(Value.slice A2 (shI WE M).length c2).ownBlock=some b→b∉F)
theorem AS.told {w w1 A C:World} {W B:Nat} {F0:List Nat} {L:List Sn} {M WE:Pl} {LO:Ll} {n:Int} {F:List Nat} {d:Dl} {Ab:Option Addr} {cb:Nat} {G:List Sn} {A1 A2:Option Addr} {c1 c2:Nat} (h:AS w w1 A W B F0 L M WE LO n F d Ab cb G none)
  (h1:C.ownsRow A.heap.size TPl 6 (.slice A1 (shO WE M).length c1) (shO WE M).length (pcs (shO WE M))) (h2:C.ownsRow A.heap.size TPl 6 (.slice A2 (shI WE M).length c2) (shI WE M).length (pcs (shI WE M))) (hb:Below A.heap.size A C):AS w w1 C W B F0 L M WE LO n F d Ab cb G (some (A1,c1,A2,c2)):=by
 have hz:w.heap.size+3≤A.heap.size:=by have:=lt_of_heap h.p.b4;omega
 refine ⟨h.p.keep (Fr.of_below' hb _),h.r.trans (Fr.of_below' hb _) (fun _ _ h=>h) (fun _ _ h=>h),fun B1 k1 B2 k2 e=>?_⟩
 cases e
 exact ⟨ownsRow_base h1 hz,ownsRow_base h2 hz,fun b hb' e=>by have:=(ownsRow_blk h1 b hb').1;have:=h.p.f.lt b e;omega,fun b hb' e=>by have:=(ownsRow_blk h2 b hb').1;have:=h.p.f.lt b e;omega⟩
structure AE (w w1 C:World) (W B:Nat) (F0:List Nat) (L:List Sn) (M WE:Pl) (LO:Ll) (n:Int) (F:List Nat) (d:Dl) (A1:Option Addr) (c1:Nat) (A2:Option Addr) (c2:Nat):Prop where
 f:FW C W B L M WE LO n F
 t:Tn F0 F w C
 r:Fr (fun k=>k=w.heap.size+2) w1 C
 b9:Bk C (W+1) #[.pointer (some ⟨W,0,none⟩)] TWp
 b4:Bk C (w.heap.size+2) #[.slice A1 (shO WE M).length c1,.slice A2 (shI WE M).length c2] TSh
 o:C.ownsRow (w.heap.size+3) TPl 6 (.slice A1 (shO WE M).length c1) (shO WE M).length (pcs (shO WE M))
 i:C.ownsRow (w.heap.size+3) TPl 6 (.slice A2 (shI WE M).length c2) (shI WE M).length (pcs (shI WE M))
 no:(∀b,(Value.slice A1 (shO WE M).length c1).ownBlock=some b→b∉F)∧(∀b,(Value.slice A2 (shI WE M).length c2).ownBlock=some b→b∉F)
theorem AS.store {w w1 A:World} {W B:Nat} {F0:List Nat} {L:List Sn} {M WE:Pl} {LO:Ll} {n:Int} {F:List Nat} {d:Dl} {Ab:Option Addr} {cb:Nat} {G:List Sn} {A1 A2:Option Addr} {c1 c2:Nat} (h:AS w w1 A W B F0 L M WE LO n F d Ab cb G (some (A1,c1,A2,c2))):
  AE w w1 ((A.setCell ⟨w.heap.size+2,0,none⟩ (.slice A1 (shO WE M).length c1)).setCell ⟨w.heap.size+2,1,none⟩ (.slice A2 (shI WE M).length c2)) W B F0 L M WE LO n F d A1 c1 A2 c2:=by
 obtain ⟨h1,h2,h3,h4⟩:=h.s _ _ _ _ rfl
 have hf:Fr (fun k=>k=w.heap.size+2) A ((A.setCell ⟨w.heap.size+2,0,none⟩ (.slice A1 (shO WE M).length c1)).setCell ⟨w.heap.size+2,1,none⟩ (.slice A2 (shI WE M).length c2)):=frs1 (frs1 (Fr.refl _ _) 0 _) 1 _
 have hbk:=(h.p.b4.set 0 (.slice A1 (shO WE M).length c1)).set 1 (.slice A2 (shI WE M).length c2)
 have hne:∀ {v:Value} {k:Nat} {xs:List Value},A.ownsRow (w.heap.size+3) TPl 6 v k xs→∀b,v.ownBlock=some b→¬b=w.heap.size+2:=fun ho b hb e=>by have:=(ownsRow_blk ho b hb).1;omega
 exact ⟨h.p.f.fr hf (fun b hb e=>h.p.n4 (e▸hb)),tn_own h.p.t hf (fun b e=>by omega),h.r.trans hf (fun _ _ h=>h.elim) (fun _ _ h=>h),h.p.b9.fr hf (fun b hb e=>by have:=h.p.wz;simp at hb;omega),by simpa using hbk,ownsRow_fr h1 hf (hne h1),ownsRow_fr h2 hf (hne h2),h3,h4⟩
theorem AS.c9 {w w1 A:World} {W B:Nat} {F0:List Nat} {L:List Sn} {M WE:Pl} {LO:Ll} {n:Int} {F:List Nat} {d:Dl} {Ab:Option Addr} {cb:Nat} {G:List Sn} {sh:Option (Option Addr × Nat × Option Addr × Nat)} (h:AS w w1 A W B F0 L M WE LO n F d Ab cb G sh):A.cell? ⟨W+1,0,none⟩=some (.pointer (some ⟨W,0,none⟩))∧A.cell? ⟨W,5,none⟩=some (.int .i64 n):=⟨h.p.b9.cell 0,h.p.f.cell.2⟩
theorem AE.c9 {w w1 A:World} {W B:Nat} {F0:List Nat} {L:List Sn} {M WE:Pl} {LO:Ll} {n:Int} {F:List Nat} {d:Dl} {A1:Option Addr} {c1:Nat} {A2:Option Addr} {c2:Nat} (h:AE w w1 A W B F0 L M WE LO n F d A1 c1 A2 c2):A.cell? ⟨W+1,0,none⟩=some (.pointer (some ⟨W,0,none⟩))∧A.cell? ⟨W,5,none⟩=some (.int .i64 n):=⟨h.b9.cell 0,h.f.cell.2⟩
theorem ap39 {ops:Array Oper} (hops:Eng.fnOps Tryz.f31 39=ops) (a0:Act) (Q:Exit→Act→World→Prop) (w0 w:World) (W B:Nat) (F0:List Nat) (L:List Sn) (M WE:Pl) (LO:Ll) (n:Int) (F:List Nat) (d:Dl) (Ab:Option Addr) (cb:Nat) (G:List Sn) (sz:WE.length≤500000) (hst:AP w0 w W B F0 L M WE LO n F d Ab cb G)
  (hn:a0.tmps.size=147) (h_4:a0.tmps.getD 4 undef=.pointer (some ⟨w0.heap.size+2,0,none⟩)) (h_9:a0.tmps.getD 9 undef=.pointer (some ⟨W+1,0,none⟩))
  (hpost:∀ (x:Nat→Value) (w':World) (A1:Option Addr) (c1:Nat) (A2:Option Addr) (c2:Nat),x 5=.int .i64 n→x 6=.int .i64 0→AE w0 w w' W B F0 L M WE LO n F d A1 c1 A2 c2→Q .normal (Eng.setAll a0 [5,6,141,142,143,144,145,146] x) w'):
  (Code.region 39 ops true).wp prog Q a0 w:=by
 simp only [Eng.fnOps,Eng.regOps,Tryz.f31,Option.bind_some,Option.getD_some,Nat.reduceEqDiff,↓reduceIte] at hops
 subst hops
 have HSt:=Lib.hid (show AS w0 w w.drew W B F0 L M WE LO n F d Ab cb G none from ⟨hst.keep (Fr.drew _ _),Fr.drew _ _,fun _ _ _ _ e=>by cases e⟩)
 refine Eng.regionT (.take 0 (.take 2 (.take 3 (.take 4 (.take 5 (.alt 1 (.alt 6 (.take 7 (.take 8 (.done))) (.stop)) (.stop))))))) (fun w'=>w'.cell? ⟨W+1,0,none⟩=some (.pointer (some ⟨W,0,none⟩))∧w'.cell? ⟨W,5,none⟩=some (.int .i64 n)) (by kernel_rfl) 147 hn (by kernel_rfl) (by kernel_rfl) (by kernel_rfl) (⟨HSt.out.c9.1,HSt.out.c9.2⟩) (fun a b ha hb=>?_)
 subst ha
 have hb4:b 4=.pointer (some ⟨w0.heap.size+2,0,none⟩):=(hb 4).symm.trans h_4
 have hb9:b 9=.pointer (some ⟨W+1,0,none⟩):=(hb 9).symm.trans h_9
 clear hb h_4 h_9
 have HP:=Lib.hid hpost;have HN:=Lib.hid hn
 clear hpost hn
 iterate 5 (refine Eng.TW.tk ?_)
 refine Eng.TW.call rfl rfl (by decide) (by kernel_rfl) ?_ (shift _ HSt.out.p.f sz) ?_
 ·go_simp
 rintro e w2 ⟨A1,c1,A2,c2,rfl,h1,h2,h3⟩
 have HSt2:=Lib.hid (HSt.out.told h1 h2 h3)
 clear h1 h2 h3
 refine ⟨_,rfl,⟨HSt2.out.c9.1,HSt2.out.c9.2⟩,?_⟩
 have u0:=HSt2.out.p.b4.cell 0
 have v0:=HSt2.out.p.b4.free 0
 have u1:=HSt2.out.p.b4.cell 1
 have v1:=HSt2.out.p.b4.free 1
 simp only [List.getElem?_toArray,List.getElem?_cons_zero,List.getElem?_cons_succ] at u0 u1
 refine Eng.TW.step0 rfl rfl (by kernel_rfl) (by go_simp;first|done|with_reducible rfl|exact ⟨rfl,rfl⟩) (⟨(HSt2.out.store).c9.1,(HSt2.out.store).c9.2⟩) ?_
 have HSt3:=Lib.hid (HSt2.out.store)
 have hSS:((w2.setCell ⟨w0.heap.size+2,0,none⟩ (.slice A1 (shO WE M).length c1)).setCell ⟨w0.heap.size+2,1,none⟩ (.slice A2 (shI WE M).length c2)).cell? ⟨W+1,0,none⟩=some (.pointer (some ⟨W,0,none⟩))∧((w2.setCell ⟨w0.heap.size+2,0,none⟩ (.slice A1 (shO WE M).length c1)).setCell ⟨w0.heap.size+2,1,none⟩ (.slice A2 (shI WE M).length c2)).cell? ⟨W,5,none⟩=some (.int .i64 n):=⟨HSt3.out.c9.1,HSt3.out.c9.2⟩
 refine Eng.TW.tk ?_
 refine Eng.TW.tk ?_
 refine Eng.TW.end_ [5,6,141,142,143,144,145,146] HN.out (by kernel_rfl) (by kernel_rfl) ?_
 exact HP.out _ _ _ _ _ _ rfl rfl HSt3.out
end Wrk
end Go.Proofs.YtgfjpnpbkkadpaaGreat
