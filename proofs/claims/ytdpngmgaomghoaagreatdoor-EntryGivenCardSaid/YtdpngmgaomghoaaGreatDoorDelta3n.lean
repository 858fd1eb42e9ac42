/- What is between two sets of records: its lists are new. -/
import Derived.Test.YtdpngmgaomghoaaGreatDoorDeltas
namespace Go.Proofs.YtdpngmgaomghoaaGreatDoor
open Tryz
set_option maxRecDepth 100000
set_option maxHeartbeats 1000000
open Go.RowKit
namespace Delta
open KeyP PackP SetP SetW SetF Sli
attribute [local go_sem] Eng.ev Eng.getO_cons Eng.getO_nil
def DnPost (O I:List Sn) (w:World) (e:Ending) (w':World):Prop:=∃A1 c1 A2 c2,e=.returned (Dl.mk A1 c1 O A2 c2 I).v∧RdD w' ⟨A1,c1,O,A2,c2,I⟩∧Below w.heap.size w w'∧(∀q,A1=some q→w.heap.size≤q.block)∧(∀q,A2=some q→w.heap.size≤q.block)
theorem resultN {w w5:World} {A3 A4:Option Addr} {c3 c4:Nat} {O I:List Sn} {G:Prop} (hr:Bk w5 w.heap.size #[.slice none 0 0,.slice none 0 0] TDl) (h1:Ls w5 A3 c3 O) (h2:Ls w5 A4 c4 I) (hb:Below w.heap.size w w5) (n3:∀q,A3=some q→w.heap.size<q.block) (n4:∀q,A4=some q→w.heap.size<q.block)
  (hK:∀w',Bk w' w.heap.size #[.slice A3 O.length c3,.slice A4 I.length c4] TDl→DnPost O I w (.returned (Dl.mk A3 c3 O A4 c4 I).v) w'→w'=(w5.setCell ⟨w.heap.size,0,none⟩ (.slice A3 O.length c3)).setCell ⟨w.heap.size,1,none⟩ (.slice A4 I.length c4)→G):G:=by
 have hf:Fr (fun k=>k=w.heap.size) w5 ((w5.setCell ⟨w.heap.size,0,none⟩ (.slice A3 O.length c3)).setCell ⟨w.heap.size,1,none⟩ (.slice A4 I.length c4)):=
  (Fr.setCell w5 ⟨w.heap.size,0,none⟩ (.slice A3 O.length c3) (S:=fun k=>k=w.heap.size) rfl).trans (Fr.setCell _ ⟨w.heap.size,1,none⟩ (.slice A4 I.length c4) (S:=fun k=>k=w.heap.size) rfl) (fun _ _ h=>h) (fun _ _ h=>h)
 refine hK _ ?_ ⟨A3,c3,A4,c4,rfl,⟨h1.fr hf (fun q hq e=>by have:=n3 q hq;omega),h2.fr hf (fun q hq e=>by have:=n4 q hq;omega)⟩,hb.trans (hf.below hb.size (fun k hk e=>by omega)),fun q hq=>by have:=n3 q hq;omega,fun q hq=>by have:=n4 q hq;omega⟩ rfl
 have:=(hr.set 0 (.slice A3 O.length c3)).set 1 (.slice A4 I.length c4)
 simpa using this
theorem BetweenN (A A2:Option Addr) (c c2:Nat) (a b:List Sn) (w:World) (h1:Ls w A c a) (h2:Ls w A2 c2 b) (hl1:a.length≤1000000) (hl2:b.length≤1000000):
  Calls prog 17 #[.slice A a.length c,.slice A2 b.length c2] w (DnPost (wout (setOf b) (setOf a)) (wout (setOf a) (setOf b)) w):=by
 have hf:=Fr.alloc (fun _=>False) w (.cells #[.slice none 0 0,.slice none 0 0] TDl)
 have HR:=Lib.hid (Bk.new w #[.slice none 0 0,.slice none 0 0] TDl)
 have HB:=Lib.hid ((Below.refl w.heap.size w).alloc (Nat.le_refl _) (.cells #[.slice none 0 0,.slice none 0 0] TDl))
 have HL2:=Lib.hid (h2.keep hf)
 have HN:=Lib.hid (Newest.newest A c a _ (h1.keep hf).s hl1 h1.ok)
 have HO1:=Lib.hid (bet_ok (b:=b) h1.ok);have HO2:=Lib.hid (bet_ok (b:=a) h2.ok)
 have HG1:=Lib.hid (fun x hx=>(Newest.set_gk h1.ok x hx).2);have HG2:=Lib.hid (fun x hx=>(Newest.set_gk h2.ok x hx).2)
 have HLn1:Hid ((setOf a).length≤1000000):=Nat.le_trans (setOf_len a) hl1
 have HLn2:Hid ((setOf b).length≤1000000):=Nat.le_trans (setOf_len b) hl2
 have HS1:Hid (Srs (setOf a)):=(setOf_ok a).srs
 have HS2:Hid (Srs (setOf b)):=(setOf_ok b).srs
 have hz1:w.heap.size<(w.alloc (.cells #[.slice none 0 0,.slice none 0 0] TDl)).heap.size:=by simp
 have HZ1:=Lib.hid hz1
 clear h1 hf hz1
 go_enter func17,ntmps17
 go_upto_region 1 with (fail)
 generalize (w.alloc (.cells #[.slice none 0 0,.slice none 0 0] TDl))=w1 at *
 go_wp2_with fail
 refine HN.out.mono ?_
 rintro e w2 ⟨rfl,⟨F1,hm1,hF1⟩,hb,hz⟩
 have HN2:=Lib.hid (Newest.newest A2 c2 b w2 (HL2.out.below hb).s hl2 h2.ok)
 have HR2:=Lib.hid (HR.out.fr (Fr.of_below' hb (fun _=>False)) (fun _ _ h=>h))
 have HB2:=Lib.hid (HB.out.trans (hb.mono HB.out.size))
 have HM1:=Lib.hid hm1;have HZ2:Hid (w.heap.size<w2.heap.size):=Nat.lt_of_lt_of_le HZ1.out hb.size
 clear hm1 hF1 hb hz HN HR HB HL2 h2
 generalize w1.heap.size=B1 at *
 go_wp2_with fail
 refine HN2.out.mono ?_
 rintro e w3 ⟨rfl,⟨F2,hm2,hF2⟩,hb,hz⟩
 have HM13:=Lib.hid (HM1.out.fr (Fr.of_below' hb (fun _=>False)) (fun h=>h) (fun _ _ h=>h))
 have HR3:=Lib.hid (HR2.out.fr (Fr.of_below' hb (fun _=>False)) (fun _ _ h=>h))
 have HB3:=Lib.hid (HB2.out.trans (hb.mono HB2.out.size))
 have HM2:=Lib.hid hm2;have HZ3:Hid (w.heap.size<w3.heap.size):=Nat.lt_of_lt_of_le HZ2.out hb.size
 clear hm2 hF2 hb hz HN2 HR2 HB2 HM1
 generalize w2.heap.size=B2 at *
 have HW1:=Lib.hid (without B1 B2 (setOf a) (setOf b) F1 F2 w3 HM13.out HM2.out HLn1.out HG1.out HG2.out HS2.out)
 go_wp2_with fail
 refine HW1.out.mono ?_
 intro e w4 hp
 obtain ⟨A3,c3,rfl,k1,k2,hb⟩:=LsPost.of hp HO1.out
 have hne3:∀q,A3=some q→w3.heap.size≤q.block:=by
  obtain ⟨A',c',he,-,h3⟩:=Sl.of_own k2
  cases he
  exact fun q hq=>(h3 q hq).1
 have HA3:=Lib.hid k1;have HN3:=Lib.hid hne3
 have HM14:=Lib.hid (HM13.out.fr (Fr.of_below' hb (fun _=>False)) (fun h=>h) (fun _ _ h=>h))
 have HM24:=Lib.hid (HM2.out.fr (Fr.of_below' hb (fun _=>False)) (fun h=>h) (fun _ _ h=>h))
 have HR4:=Lib.hid (HR3.out.fr (Fr.of_below' hb (fun _=>False)) (fun _ _ h=>h))
 have HB4:=Lib.hid (HB3.out.trans (hb.mono HB3.out.size))
 have HZ4:Hid (w3.heap.size≤w4.heap.size):=hb.size
 clear hp k1 k2 hb hne3 HW1 HM13 HM2 HR3 HB3
 have HW2:=Lib.hid (without B2 B1 (setOf b) (setOf a) F2 F1 w4 HM24.out HM14.out HLn2.out HG2.out HG1.out HS1.out)
 go_wp2_with fail
 refine HW2.out.mono ?_
 intro e w5 hp
 obtain ⟨A4,c4,rfl,k1,k2,hb⟩:=LsPost.of hp HO2.out
 have hne4:∀q,A4=some q→w4.heap.size≤q.block:=by
  obtain ⟨A',c',he,-,h3⟩:=Sl.of_own k2
  cases he
  exact fun q hq=>(h3 q hq).1
 have HA4:=Lib.hid k1;have HN4:=Lib.hid hne4
 have HA35:=Lib.hid (HA3.out.below hb)
 have hr5:=HR4.out.fr (Fr.of_below' hb (fun _=>False)) (fun _ _ h=>h)
 have HR5:=Lib.hid hr5
 have HB5:=Lib.hid (HB4.out.trans (hb.mono HB4.out.size))
 clear hp k1 k2 hb hne4 HW2 HM14 HM24 HR4 HB4 HA3
 generalize wout (setOf b) (setOf a)=O at *
 generalize wout (setOf a) (setOf b)=I at *
 have kb:∀W:World,(Instr.build TDl #[(0,.slice A3 O.length c3),(1,.slice A4 I.length c4)]).run prog W=.ok (.agg #[.slice A3 O.length c3,.slice A4 I.length c4]) W:=fun W=>by kernel_rfl
 have r0:=hr5.cell 0;have r1:=hr5.cell 1;have f0:=hr5.free 0;have f1:=hr5.free 1
 simp only [List.getElem?_toArray,List.getElem?_cons_zero,List.getElem?_cons_succ] at r0 r1
 clear hr5
 go_wp2_with fail
 exact resultN HR5.out HA35.out HA4.out HB5.out (fun q hq=>by have:=HN3.out q hq;have:=HZ3.out;omega) (fun q hq=>by have:=HN4.out q hq;have:=HZ4.out;have:=HZ3.out;omega)
  fun w' hbk hp hw=>hw▸bodyPost_ret (results_cell_row rfl _ _ w.heap.size TDl _ (0,0) _ rfl hbk underlying36 rfl (by kernel_rfl)) rfl hp
end Delta
end Go.Proofs.YtdpngmgaomghoaaGreatDoor
