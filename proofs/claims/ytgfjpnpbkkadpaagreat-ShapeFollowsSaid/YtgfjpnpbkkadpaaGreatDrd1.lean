/- A place is noted: the program's. -/
import Derived.Test.YtgfjpnpbkkadpaaGreatFstW
namespace Go.Proofs.YtgfjpnpbkkadpaaGreat
open Tryz
set_option maxRecDepth 100000
set_option maxHeartbeats 1000000
open Go.RowKit
namespace Wrk
open KeyP SetP KidsP Cls KdO Fst Drd
attribute [local go_sem] Eng.ev Eng.getO_cons Eng.getO_nil
abbrev TPl:TypeId:=91
structure TX (w0 w:World) (F0:List Nat) (W B:Nat) (L:List Sn) (M WE:Pl) (LO:Ll) (n:Int) (F:List Nat) (Bx:Nat) (p:Pq):Prop where
 f:FW w W B L M WE LO n F
 x:Bk w Bx p.arr TPl
 t:Tn F0 F w0 w
 nb:Bx∉F
section
variable {w0 w w':World} {F0:List Nat} {W B:Nat} {L L':List Sn} {M WE M' WE':Pl} {LO LO':Ll} {n n':Int} {F F':List Nat} {Bx:Nat} {p:Pq}
theorem TX.fr (h:TX w0 w F0 W B L M WE LO n F Bx p) (hf:Fr (fun _=>False) w w'):TX w0 w' F0 W B L M WE LO n F Bx p:=
 ⟨h.f.keep hf,h.x.fr hf (fun _ _ h=>h),h.t.trans (Tn.of_fr hf h.f.lt),h.nb⟩
theorem TX.turn (h:TX w0 w F0 W B L M WE LO n F Bx p) (hf:FW w' W B L' M' WE' LO' n' F') (ht:Tn F F' w w'):TX w0 w' F0 W B L' M' WE' LO' n' F' Bx p:=
 ⟨hf,h.x.fr ht.fr (fun b hb e=>by simp at hb;subst hb;exact h.nb e),h.t.trans ht,fun e=>by
  rcases (ht.sub _ e).1 with e|e
  ·exact h.nb e
  ·have:=lt_of_heap h.x;omega⟩
theorem TX.box (hf:FW w W B L M WE LO n F) (ht:Tn F0 F w0 w) (p:Pq):TX w0 (w.alloc (.cells p.arr TPl)) F0 W B L M WE LO n F w.heap.size p:=
 ⟨hf.keep (Fr.alloc _ _ _),Bk.new w p.arr TPl,ht.trans (Tn.of_fr (Fr.alloc _ _ _) hf.lt),fun e=>by have:=hf.lt _ e;omega⟩
end
theorem to3 {ops:Array Oper} (hops:Eng.fnOps Tryz.f131 3=ops) (a0:Act) (Q:Exit→Act→World→Prop) (w0 w:World) (F0:List Nat) (W B:Nat) (L:List Sn) (M WE:Pl) (LO:Ll) (n:Int) (F:List Nat) (Bx:Nat) (p:Pq) (k:ByteArray) (sz:WE.length<1000000) (hst:TX w0 w F0 W B L M WE LO n F Bx p)
  (hn:a0.tmps.size=35) (h_0:a0.tmps.getD 0 undef=.pointer (some ⟨W,0,none⟩)) (h_1:a0.tmps.getD 1 undef=.string k) (h_6:a0.tmps.getD 6 undef=.pointer (some ⟨Bx,0,none⟩))
  (hpost:∀ (x:Nat→Value) (w':World) (F':List Nat),TX w0 w' F0 W B L M (insL k p WE) LO n F' Bx p→Q .normal (Eng.setAll a0 [29,30,31,32,33,34] x) w'):
  (Code.region 3 ops true).wp prog Q a0 w:=by
 simp only [Eng.fnOps,Eng.regOps,Tryz.f131,Option.bind_some,Option.getD_some,Nat.reduceEqDiff,↓reduceIte] at hops
 subst hops
 have HSt:=Lib.hid (hst.fr (Fr.drew _ _))
 refine Eng.regionT (.take 0 (.take 1 (.take 2 (.take 3 (.take 4 (.alt 5 (.done) (.stop))))))) (fun w'=>w'.cell? ⟨Bx,0,none⟩=some (.int .i64 p.t)∧w'.cell? ⟨Bx,1,none⟩=some (.int .i64 p.i)∧w'.cell? ⟨Bx,2,none⟩=some (.int .i64 p.c)∧w'.cell? ⟨Bx,3,none⟩=some (.int .i64 p.d)∧w'.cell? ⟨Bx,4,none⟩=some (.int .i64 p.p)∧w'.cell? ⟨Bx,5,none⟩=some (.int .i64 p.f)) (by kernel_rfl) 35 hn (by kernel_rfl) (by kernel_rfl) (by kernel_rfl) (⟨HSt.out.x.cell 0,HSt.out.x.cell 1,HSt.out.x.cell 2,HSt.out.x.cell 3,HSt.out.x.cell 4,HSt.out.x.cell 5⟩) (fun a b ha hb=>?_)
 subst ha
 have hb0:b 0=.pointer (some ⟨W,0,none⟩):=(hb 0).symm.trans h_0
 have hb1:b 1=.string k:=(hb 1).symm.trans h_1
 have hb6:b 6=.pointer (some ⟨Bx,0,none⟩):=(hb 6).symm.trans h_6
 clear hb h_0 h_1 h_6
 have HP:=Lib.hid hpost;have HN:=Lib.hid hn
 clear hpost hn
 iterate 5 (refine Eng.TW.tk ?_)
 refine Eng.TW.call rfl rfl (by decide) (by kernel_rfl) ?_ (HSt.out.f.putW k p sz) ?_
 ·go_simp
 rintro e w2 ⟨⟨_,rfl⟩,F',h1,h2⟩
 have HSt2:=Lib.hid (HSt.out.turn h1 h2)
 clear h1 h2
 refine ⟨_,rfl,⟨HSt2.out.x.cell 0,HSt2.out.x.cell 1,HSt2.out.x.cell 2,HSt2.out.x.cell 3,HSt2.out.x.cell 4,HSt2.out.x.cell 5⟩,?_⟩
 refine Eng.TW.end_ [29,30,31,32,33,34] HN.out (by kernel_rfl) (by kernel_rfl) ?_
 exact HP.out _ _ _ HSt2.out
theorem touch {W B:Nat} {L:List Sn} {M WE:Pl} {LO:Ll} {n:Int} {F:List Nat} (k:ByteArray) (w:World) (h:FW w W B L M WE LO n F) (sz:WE.length<1000000):
  Calls prog 131 #[.pointer (some ⟨W,0,none⟩),.string k] w fun e w'=>e=.returned (.tuple #[])∧∃F',FW w' W B L M (tch k WE M) LO n F'∧Tn F F' w w':=by
 have HW:=Lib.hid h
 have hlt:=h.lt
 have HLt:=Lib.hid hlt
 clear h hlt
 go_enter func131,ntmps131
 go_wp2_with fail
 refine (HW.out.getW k).mono ?_
 rintro e w1 ⟨rfl,hf⟩
 have HF1:=Lib.hid hf
 cases hk:getL k WE with
 |some v=>
  have HT:Hid (tch k WE M=WE):=by show _=_;unfold tch;rw [hk];rfl
  clear hf hk
  go_upto_region 1 with (fail)
  have HF2:=Lib.hid (HF1.out.trans (Fr.alloc (fun _=>False) w1 (.cells v.arr TPl)) (fun _ _ h=>h) (fun _ _ h=>h))
  generalize (w1.alloc (.cells v.arr TPl))=w2 at *
  go_wp2_with fail
  have HE:Hid (FW w2 W B L M (tch k WE M) LO n F):=by show FW _ _ _ _ _ _ _ _ _;rw [HT.out];exact HW.out.keep HF2.out
  first| (go_end0;exact ⟨rfl,F,HE.out,Tn.of_fr HF2.out HLt.out⟩)|exact bodyPost_ret (results_none rfl _ _ _) rfl ⟨rfl,F,HE.out,Tn.of_fr HF2.out HLt.out⟩
 |none=>
  have HT:Hid (tch k WE M=insL k ((getL k M).getD pz) WE):=by show _=_;unfold tch;rw [hk];rfl
  clear hf hk
  go_upto_region 1 with (fail)
  have HF2:=Lib.hid (HF1.out.trans (Fr.alloc (fun _=>False) w1 (.cells (AvlSP.varr (⟨0,0,0,0,0,0⟩:Pq)) TPl)) (fun _ _ h=>h) (fun _ _ h=>h))
  generalize (w1.alloc (.cells (AvlSP.varr (⟨0,0,0,0,0,0⟩:Pq)) TPl))=w2 at *
  have HW2:=Lib.hid (HW.out.keep HF2.out)
  clear HW HF1
  have c0:=HW2.out.cell.1
  go_wp2_with fail
  refine (HW2.out.getM k).mono ?_
  rintro e w3 ⟨rfl,hf⟩
  have HF3:=Lib.hid (HF2.out.trans hf (fun _ _ h=>h) (fun _ _ h=>h))
  have HW3:=Lib.hid (HW2.out.keep hf)
  obtain ⟨p,hp⟩:∃p,(getL k M).getD pz=p:=⟨_,rfl⟩
  have HP:=Lib.hid hp
  rw [show (getL k M).getD (⟨0,0,0,0,0,0⟩:Pq)=p from hp]
  generalize (getL k M).isSome=bb
  clear hf HW2 HF2 c0 hp
  go_upto_region 3 with (fail)
  refine to3 (by kernel_rfl) _ _ w (w3.alloc (.cells p.arr TPl)) F W B L M WE LO n F w3.heap.size p k sz (TX.box HW3.out (Tn.of_fr HF3.out HLt.out) p) rfl rfl rfl rfl ?_
  intro x w4 F' h4
  simp only [Eng.setAll,Act.put,List.setIfInBounds_toArray,List.set_cons_succ,List.set_cons_zero]
  have H4:=Lib.hid h4
  clear h4
  go_wp2_with fail
  have HE:Hid (FW w4 W B L M (tch k WE M) LO n F'):=by show FW _ _ _ _ _ _ _ _ _;rw [HT.out,HP.out];exact H4.out.f
  first| (go_end0;exact ⟨rfl,F',HE.out,H4.out.t⟩)|exact bodyPost_ret (results_none rfl _ _ _) rfl ⟨rfl,F',HE.out,H4.out.t⟩
end Wrk
set_option maxRecDepth 100000
set_option maxHeartbeats 2000000
namespace Wrk
open KeyP SetP KidsP Cls KdO Fst Drd
attribute [local go_sem] Eng.ev Eng.getO_cons Eng.getO_nil
section
variable {w w':World} {W B:Nat} {L:List Sn} {M WE:Pl} {LO:Ll} {n:Int} {F:List Nat}
theorem FW.fan (h:FW w W B L M WE LO n F) {t p:Int} (ht:wf64 t) (hp:wf64 p) (hl:L.length≤1000000):Calls prog 147 #[.pointer (some ⟨B,0,none⟩),.int .i64 t,.int .i64 p] w fun e w'=>e=.returned (.int .i64 (kids t p L).length)∧Fr (fun _=>False) w w':=by
 obtain ⟨Ff,Fw,⟨rp,G1,FP,h1,-,-,rfl⟩,-,-,rfl⟩:=h
 exact KdO.Fan B _ L _ t p w h1 ht hp hl
theorem FW.parent (h:FW w W B L M WE LO n F) {t i:Int} (ht:wf64 t) (hi:wf64 i):Calls prog 128 #[.pointer (some ⟨B,0,none⟩),.int .i64 t,.int .i64 i] w fun e w'=>e=.returned (.tuple #[.int .i64 (((nx L t i).map (·.p)).getD 0),.bool (nx L t i).isSome])∧Fr (fun _=>False) w w':=by
 obtain ⟨Ff,Fw,⟨rp,G1,FP,h1,-,-,rfl⟩,-,-,rfl⟩:=h
 exact KdO.Parent B _ L _ t i w h1 ht hi
theorem FW.rel (h:FW w W B L M WE LO n F):Srs L∧(∀x∈L,gd x)∧(∀x∈L,bare x)∧Srt M:=by
 obtain ⟨Ff,Fw,⟨rp,G1,FP,h1,h2,-,rfl⟩,-,-,rfl⟩:=h
 obtain ⟨a1,a2,a3⟩:=h1.rel
 exact ⟨a1,a2,a3,h2.srt⟩
end
def cntM (L:List Sn) (M:Pl) (t p:Int):Pl:=match getL (key2 t p) M with
 |none=>M
 |some v=>insL (key2 t p) { v with f:=((kids t p L).length:Nat) } M
def cntW (WE M:Pl) (t p:Int):Pl:=match getL (key2 t p) M with
 |none=>WE
 |some _=>tch (key2 t p) WE M
theorem tch_len (k:ByteArray) (WE M:Pl):(tch k WE M).length≤WE.length+1:=by
 unfold tch;split
 ·omega
 ·exact insL_len' _ _ _
section
variable {w0 w w':World} {F0:List Nat} {W B:Nat} {L L':List Sn} {M WE M' WE':Pl} {LO LO':Ll} {n n':Int} {F F':List Nat} {Bx:Nat} {p q:Pq}
theorem TX.set (h:TX w0 w F0 W B L M WE LO n F Bx p) (o:Nat) (u:Value) (ho:p.arr.setIfInBounds o u=q.arr) (h0:w0.heap.size≤Bx):TX w0 (w.setCell ⟨Bx,o,none⟩ u) F0 W B L M WE LO n F Bx q:=by
 have hf:Fr (fun k=>k=Bx) w (w.setCell ⟨Bx,o,none⟩ u):=Fr.setCell w ⟨Bx,o,none⟩ u (S:=fun k=>k=Bx) rfl
 refine ⟨h.f.fr hf (fun b hb e=>h.nb (e▸hb)),?_,?_,h.nb⟩
 ·have:=h.x.set o u
  rwa [ho] at this
 ·refine ⟨⟨hf.os.trans h.t.fr.os,hf.tape.trans h.t.fr.tape,hf.output.trans h.t.fr.output,Nat.le_trans h.t.fr.size hf.size,fun i hi hn=>(hf.block i (Nat.lt_of_lt_of_le hi h.t.fr.size) (fun e=>by omega)).trans (h.t.fr.block i hi hn)⟩,fun x hx=>⟨(h.t.sub x hx).1,Nat.lt_of_lt_of_le (h.t.sub x hx).2 hf.size⟩⟩
end
theorem co6 {ops:Array Oper} (hops:Eng.fnOps Tryz.f83 6=ops) (a0:Act) (Q:Exit→Act→World→Prop) (w0 w:World) (F0:List Nat) (W B:Nat) (L:List Sn) (M WE:Pl) (LO:Ll) (n:Int) (F:List Nat) (Bx:Nat) (p:Pq) (k:ByteArray) (sz:M.length<1000000) (hst:TX w0 w F0 W B L M WE LO n F Bx p)
  (hn:a0.tmps.size=54) (h_0:a0.tmps.getD 0 undef=.pointer (some ⟨W,0,none⟩)) (h_6:a0.tmps.getD 6 undef=.string k) (h_7:a0.tmps.getD 7 undef=.pointer (some ⟨Bx,0,none⟩))
  (hpost:∀ (x:Nat→Value) (w':World) (F':List Nat),TX w0 w' F0 W B L (insL k p M) WE LO n F' Bx p→Q .normal (Eng.setAll a0 [45,46,47,48,49,50,51,52,53] x) w'):
  (Code.region 6 ops true).wp prog Q a0 w:=by
 simp only [Eng.fnOps,Eng.regOps,Tryz.f83,Option.bind_some,Option.getD_some,Nat.reduceEqDiff,↓reduceIte] at hops
 subst hops
 have HSt:=Lib.hid (hst.fr (Fr.drew _ _))
 refine Eng.regionT (.take 0 (.take 1 (.take 2 (.take 3 (.take 4 (.take 5 (.take 6 (.take 7 (.alt 8 (.done) (.stop)))))))))) (fun w'=>w'.cell? ⟨W,0,none⟩=some (.pointer (some ⟨B,0,none⟩))∧w'.cell? ⟨Bx,0,none⟩=some (.int .i64 p.t)∧w'.cell? ⟨Bx,1,none⟩=some (.int .i64 p.i)∧w'.cell? ⟨Bx,2,none⟩=some (.int .i64 p.c)∧w'.cell? ⟨Bx,3,none⟩=some (.int .i64 p.d)∧w'.cell? ⟨Bx,4,none⟩=some (.int .i64 p.p)∧w'.cell? ⟨Bx,5,none⟩=some (.int .i64 p.f)) (by kernel_rfl) 54 hn (by kernel_rfl) (by kernel_rfl) (by kernel_rfl) (⟨HSt.out.f.cell.1,HSt.out.x.cell 0,HSt.out.x.cell 1,HSt.out.x.cell 2,HSt.out.x.cell 3,HSt.out.x.cell 4,HSt.out.x.cell 5⟩) (fun a b ha hb=>?_)
 subst ha
 have hb0:b 0=.pointer (some ⟨W,0,none⟩):=(hb 0).symm.trans h_0
 have hb6:b 6=.string k:=(hb 6).symm.trans h_6
 have hb7:b 7=.pointer (some ⟨Bx,0,none⟩):=(hb 7).symm.trans h_7
 clear hb h_0 h_6 h_7
 have HP:=Lib.hid hpost;have HN:=Lib.hid hn
 clear hpost hn
 iterate 8 (refine Eng.TW.tk ?_)
 refine Eng.TW.call rfl rfl (by decide) (by kernel_rfl) ?_ (HSt.out.f.putM k p sz) ?_
 ·go_simp
 rintro e w2 ⟨⟨_,rfl⟩,F',h1,h2⟩
 have HSt2:=Lib.hid (HSt.out.turn h1 h2)
 clear h1 h2
 refine ⟨_,rfl,⟨HSt2.out.f.cell.1,HSt2.out.x.cell 0,HSt2.out.x.cell 1,HSt2.out.x.cell 2,HSt2.out.x.cell 3,HSt2.out.x.cell 4,HSt2.out.x.cell 5⟩,?_⟩
 refine Eng.TW.end_ [45,46,47,48,49,50,51,52,53] HN.out (by kernel_rfl) (by kernel_rfl) ?_
 exact HP.out _ _ _ HSt2.out
theorem count {W B:Nat} {L:List Sn} {M WE:Pl} {LO:Ll} {n:Int} {F:List Nat} (t p:Int) (w:World) (h:FW w W B L M WE LO n F) (ht:wf64 t) (hp:wf64 p) (sl:L.length≤1000000) (sm:M.length<1000000) (sz:WE.length<1000000) (hn:0≤n∧n<1000000000):
  Calls prog 83 #[.pointer (some ⟨W,0,none⟩),.int .i64 t,.int .i64 p] w fun e w'=>e=.returned (.tuple #[])∧∃F',FW w' W B L (cntM L M t p) (cntW WE M t p) LO (n+1) F'∧Tn F F' w w':=by
 have c1:=h.cell.2
 have c2:=h.free 5
 have q1:IntKind.i64.wrap (n+1)=n+1:=by rw [IntKind.wrap_i64];omega
 have hs:=h.step (n+1)
 have HW:=Lib.hid hs.1
 have HT:=Lib.hid (Tn.of_W hs.2 (fun b e=>e▸h.B_lt.2) h.lt)
 have HK:=Lib.hid (fun W:World=>Of' ht hp W)
 have HA:=Lib.hid ht;have HB:=Lib.hid hp
 clear h hs hn ht hp
 go_enter func83,ntmps83
 go_upto_region 1 with (fail)
 generalize (w.setCell ⟨W,5,none⟩ (.int .i64 (n+1)))=w1 at *
 clear c1 c2 q1
 go_wp2_with fail
 refine (HK.out _).mono ?_
 rintro e w2 ⟨rfl,hf⟩
 replace HT:=Lib.hid (HT.out.trans (Tn.of_fr hf HW.out.lt));replace HW:=Lib.hid (HW.out.keep hf)
 clear hf HK
 have HC:Hid (∀v,getL (key2 t p) M=some v→cntM L M t p=insL (key2 t p) { v with f:=((kids t p L).length:Nat) } M∧cntW WE M t p=tch (key2 t p) WE M):=fun v hv=>by unfold cntM cntW;rw [hv];exact ⟨rfl,rfl⟩
 have HN:Hid (getL (key2 t p) M=none→cntM L M t p=M∧cntW WE M t p=WE):=fun hv=>by unfold cntM cntW;rw [hv];exact ⟨rfl,rfl⟩
 generalize hk:key2 t p=k at *
 clear hk
 have c0:=HW.out.cell.1
 go_wp2_with fail
 refine (HW.out.getM k).mono ?_
 rintro e w3 ⟨rfl,hf⟩
 replace HT:=Lib.hid (HT.out.trans (Tn.of_fr hf HW.out.lt));replace HW:=Lib.hid (HW.out.keep hf)
 clear hf c0
 cases hv:getL k M with
 |none=>
  have HN2:=Lib.hid (HN.out hv)
  clear hv HN HC
  go_upto_region 3 with (fail)
  have hf:=Fr.alloc (fun _=>False) w3 (.cells (AvlSP.varr (⟨0,0,0,0,0,0⟩:Pq)) TPl)
  replace HT:=Lib.hid (HT.out.trans (Tn.of_fr hf HW.out.lt));replace HW:=Lib.hid (HW.out.keep hf)
  clear hf
  generalize (w3.alloc (.cells (AvlSP.varr (⟨0,0,0,0,0,0⟩:Pq)) TPl))=w4 at *
  have HE:Hid (∃F',FW w4 W B L (cntM L M t p) (cntW WE M t p) LO (n+1) F'∧Tn F F' w w4):=by
   refine ⟨F,?_,HT.out⟩
   rw [HN2.out.1,HN2.out.2];exact HW.out
  go_wp2_with fail
  first| (go_end0;exact ⟨rfl,HE.out⟩)|exact bodyPost_ret (results_none rfl _ _ _) rfl ⟨rfl,HE.out⟩
 |some v=>
  have hc2:=HC.out v hv
  obtain ⟨c,hc⟩:∃c:Nat,(kids t p L).length=c:=⟨_,rfl⟩
  rw [hc] at hc2
  have HC2:=Lib.hid hc2;have HCc:=Lib.hid hc
  clear hv HN HC hc2 hc
  go_upto_region 3 with (fail)
  have HTX:=Lib.hid (TX.box HW.out HT.out v)
  have HZ:Hid (w.heap.size≤w3.heap.size):=HT.out.fr.size
  clear HW HT
  generalize w3.heap.size=Bx at *
  generalize (w3.alloc (.cells v.arr TPl))=w4 at *
  go_wp2_with fail
  refine (touch k w4 HTX.out.f sz).mono ?_
  rintro e w5 ⟨rfl,F',h1,h2⟩
  replace HTX:=Lib.hid (HTX.out.turn h1 h2)
  clear h1 h2
  have c0:=HTX.out.f.cell.1
  go_wp2_with fail
  have hfan:=HTX.out.f.fan HA.out HB.out sl
  rw [HCc.out] at hfan
  refine hfan.mono ?_
  clear hfan
  rintro e w6 ⟨rfl,hf⟩
  replace HTX:=Lib.hid (HTX.out.fr hf)
  clear hf c0
  have c5:w6.cell? ⟨Bx,5,none⟩=some (.int .i64 v.f):=HTX.out.x.cell 5
  have f5:=HTX.out.x.free 5
  go_upto_region 6 with (fail)
  clear c5 f5
  refine co6 (by kernel_rfl) _ _ w _ F W B L M (tch k WE M) LO (n+1) F' Bx { v with f:=((c:Nat):Int) } k sm (HTX.out.set 5 _ rfl HZ.out) rfl rfl rfl rfl ?_
  intro x w7 F2 h7
  simp only [Eng.setAll,Act.put,List.setIfInBounds_toArray,List.set_cons_succ,List.set_cons_zero]
  have HE:Hid (∃F',FW w7 W B L (cntM L M t p) (cntW WE M t p) LO (n+1) F'∧Tn F F' w w7):=by
   refine ⟨F2,?_,h7.t⟩
   rw [HC2.out.1,HC2.out.2];exact h7.f
  clear h7
  go_wp2_with fail
  first| (go_end0;exact ⟨rfl,HE.out⟩)|exact bodyPost_ret (results_none rfl _ _ _) rfl ⟨rfl,HE.out⟩
abbrev put6 (w:World) (b:Nat) (p:Pq):World:=((((((w.setCell ⟨b,0,none⟩ (.int .i64 p.t)).setCell ⟨b,1,none⟩ (.int .i64 p.i)).setCell ⟨b,2,none⟩ (.int .i64 p.c)).setCell ⟨b,3,none⟩ (.int .i64 p.d)).setCell ⟨b,4,none⟩ (.int .i64 p.p)).setCell ⟨b,5,none⟩ (.int .i64 p.f))
theorem put6_bk {w:World} {b:Nat} {q:Pq} (h:Bk w b q.arr TPl) (p:Pq):Bk (put6 w b p) b p.arr TPl:=by
 have h1:=((((((h.set 0 (.int .i64 p.t)).set 1 (.int .i64 p.i)).set 2 (.int .i64 p.c)).set 3 (.int .i64 p.d)).set 4 (.int .i64 p.p)).set 5 (.int .i64 p.f))
 simpa using h1
theorem frs1 {w w':World} {b:Nat} (h:Fr (fun k=>k=b) w w') (o:Nat) (u:Value):Fr (fun k=>k=b) w (w'.setCell ⟨b,o,none⟩ u):=h.trans (Fr.setCell w' ⟨b,o,none⟩ u (S:=fun k=>k=b) rfl) (fun _ _ h=>h) (fun _ _ h=>h)
theorem put6_fr (w:World) (b:Nat) (p:Pq):Fr (fun k=>k=b) w (put6 w b p):=(frs1 (frs1 (frs1 (frs1 (frs1 (frs1 (Fr.refl _ w) 0 (.int .i64 p.t)) 1 (.int .i64 p.i)) 2 (.int .i64 p.c)) 3 (.int .i64 p.d)) 4 (.int .i64 p.p)) 5 (.int .i64 p.f))
end Wrk
set_option maxRecDepth 100000
set_option maxHeartbeats 4000000
namespace Wrk
open KeyP SetP KidsP Cls KdO Fst Drd
attribute [local go_sem] Eng.ev Eng.getO_cons Eng.getO_nil
abbrev z6:Pq:=⟨0,0,0,0,0,0⟩
structure BX (w0 w:World) (bs:List Nat) (q:Pq):Prop where
 f:Fr (fun _=>False) w0 w
 p:∀b∈bs,Bk w b q.arr TPl∧w0.heap.size≤b
theorem BX.fr {w0 w w':World} {bs:List Nat} {q:Pq} (H:BX w0 w bs q) (hf:Fr (fun _=>False) w w'):BX w0 w' bs q:=⟨H.f.trans hf (fun _ _ h=>h) (fun _ _ h=>h),fun b hb=>⟨(H.p b hb).1.fr hf (fun _ _ h=>h),(H.p b hb).2⟩⟩
theorem BX.alloc {w0 w:World} (H:BX w0 w [] z6):BX w0 (w.alloc (.cells #[.int .i64 0,.int .i64 0,.int .i64 0,.int .i64 0,.int .i64 0,.int .i64 0] TPl)) [w.heap.size] z6:=
 ⟨H.f.trans (Fr.alloc (fun _=>False) w _) (fun _ _ h=>h) (fun _ _ h=>h),fun b hb=>by
  simp only [List.mem_singleton] at hb;subst hb
  exact ⟨Bk.new w z6.arr TPl,H.f.size⟩⟩
theorem BX.allocP {w0 w:World} (H:BX w0 w [] z6) (p:Pq):BX w0 (w.alloc (.cells p.arr TPl)) [w.heap.size] p:=
 ⟨H.f.trans (Fr.alloc (fun _=>False) w _) (fun _ _ h=>h) (fun _ _ h=>h),fun b hb=>by
  simp only [List.mem_singleton] at hb;subst hb
  exact ⟨Bk.new w p.arr TPl,H.f.size⟩⟩
theorem fr_own {w0 w w':World} {B:Nat} (h:Fr (fun _=>False) w0 w) (hf:Fr (fun k=>k=B) w w') (hB:w0.heap.size≤B):Fr (fun _=>False) w0 w':=
 ⟨hf.os.trans h.os,hf.tape.trans h.tape,hf.output.trans h.output,Nat.le_trans h.size hf.size,fun i hi hn=>(hf.block i (Nat.lt_of_lt_of_le hi h.size) (fun e=>by omega)).trans (h.block i hi hn)⟩
theorem BX.store {w0 w:World} {Bp:Nat} {q:Pq} (H:BX w0 w [Bp] q) (p:Pq):BX w0 (put6 w Bp p) [Bp] p:=by
 obtain ⟨h1,h2⟩:=H.p Bp (by simp)
 exact ⟨fr_own H.f (put6_fr w Bp p) h2,fun b hb=>by
  simp only [List.mem_singleton] at hb;subst hb
  exact ⟨put6_bk h1 p,h2⟩⟩
theorem ab1 {ops:Array Oper} (hops:Eng.fnOps Tryz.f145 1=ops) (a0:Act) (Q:Exit→Act→World→Prop) (w0 w:World) (W B:Nat) (L:List Sn) (M WE:Pl) (LO:Ll) (n:Int) (F:List Nat) (t i:Int) (v:Pq) (vb:Bool) (ht:wf64 t) (hi:wf64 i) (hv:(getL (key2 t i) M).getD z6=v) (hvb:(getL (key2 t i) M).isSome=vb) (hw:FW w0 W B L M WE LO n F) (hst:BX w0 w [] z6)
  (hn:a0.tmps.size=51) (h_0:a0.tmps.getD 0 undef=.pointer (some ⟨W,0,none⟩)) (h_1:a0.tmps.getD 1 undef=.int .i64 t) (h_3:a0.tmps.getD 3 undef=.int .i64 i)
  (hpost:∀ (x:Nat→Value) (w':World) (Bp:Nat),x 9=.pointer (some ⟨Bp,0,none⟩)→x 10=.bool vb→BX w0 w' [Bp] v→Q .normal (Eng.setAll a0 [9,10,13,14,15,16,17,18,19,20,21,22,23,24,25] x) w'):
  (Code.region 1 ops true).wp prog Q a0 w:=by
 simp only [Eng.fnOps,Eng.regOps,Tryz.f145,Option.bind_some,Option.getD_some,Nat.reduceEqDiff,↓reduceIte] at hops
 subst hops
 have HSt:=Lib.hid (hst.fr (Fr.drew _ _))
 refine Eng.regionT (.take 0 (.take 1 (.take 2 (.take 3 (.take 4 (.take 5 (.take 6 (.take 7 (.alt 8 (.alt 9 (.take 10 (.take 11 (.take 12 (.alt 13 (.alt 14 (.take 15 (.done)) (.stop)) (.stop))))) (.alt 13 (.alt 9 (.take 10 (.take 11 (.take 12 (.alt 14 (.take 15 (.done)) (.stop))))) (.stop)) (.stop))) (.alt 13 (.alt 8 (.alt 9 (.take 10 (.take 11 (.take 12 (.alt 14 (.take 15 (.done)) (.stop))))) (.stop)) (.stop)) (.stop))))))))))) (fun w'=>w'.cell? ⟨W,0,none⟩=some (.pointer (some ⟨B,0,none⟩))) (by kernel_rfl) 51 hn (by kernel_rfl) (by kernel_rfl) (by kernel_rfl) ((hw.keep HSt.out.f).cell.1) (fun a b ha hb=>?_)
 subst ha
 have hb0:b 0=.pointer (some ⟨W,0,none⟩):=(hb 0).symm.trans h_0
 have hb1:b 1=.int .i64 t:=(hb 1).symm.trans h_1
 have hb3:b 3=.int .i64 i:=(hb 3).symm.trans h_3
 clear hb h_0 h_1 h_3
 have HP:=Lib.hid hpost;have HN:=Lib.hid hn
 clear hpost hn
 iterate 8 (refine Eng.TW.tk ?_)
 refine Eng.TW.both ?_ ?_
 ·refine Eng.TW.call rfl rfl (by decide) (by kernel_rfl) ?_ (Of' ht hi _) ?_
  ·go_simp
  rintro e w2 ⟨rfl,hf1⟩
  have HSt2:=Lib.hid (HSt.out.fr hf1)
  clear hf1
  refine ⟨_,rfl,(hw.keep HSt2.out.f).cell.1,?_⟩
  refine Eng.TW.both ?_ ?_
  ·refine Eng.TW.call rfl rfl (by decide) (by kernel_rfl) ?_ ((hw.keep HSt2.out.f).getM (key2 t i)) ?_
   ·go_simp
   rintro e w3 ⟨rfl,hf1⟩
   rw [show (getL (key2 t i) M).getD (⟨0,0,0,0,0,0⟩:Pq)=v from hv,hvb]
   have HSt3:=Lib.hid (HSt2.out.fr hf1)
   clear hf1
   refine ⟨_,rfl,(hw.keep HSt3.out.f).cell.1,?_⟩
   iterate 3 (refine Eng.TW.tk ?_)
   refine Eng.TW.step rfl rfl (by decide) (by kernel_rfl) (by go_simp;first|done|with_reducible rfl|exact ⟨rfl,rfl⟩) ((hw.keep (HSt3.out.alloc).f).cell.1) ?_
   have HSt4:=Lib.hid (HSt3.out.alloc)
   have hSS:(w3.alloc (.cells #[.int .i64 0,.int .i64 0,.int .i64 0,.int .i64 0,.int .i64 0,.int .i64 0] TPl)).cell? ⟨W,0,none⟩=some (.pointer (some ⟨B,0,none⟩)):=(hw.keep HSt4.out.f).cell.1
   have u0:=(HSt4.out.p _ (List.mem_cons_self ..)).1.cell 0
   have v0:=(HSt4.out.p _ (List.mem_cons_self ..)).1.free 0
   have u1:=(HSt4.out.p _ (List.mem_cons_self ..)).1.cell 1
   have v1:=(HSt4.out.p _ (List.mem_cons_self ..)).1.free 1
   have u2:=(HSt4.out.p _ (List.mem_cons_self ..)).1.cell 2
   have v2:=(HSt4.out.p _ (List.mem_cons_self ..)).1.free 2
   have u3:=(HSt4.out.p _ (List.mem_cons_self ..)).1.cell 3
   have v3:=(HSt4.out.p _ (List.mem_cons_self ..)).1.free 3
   have u4:=(HSt4.out.p _ (List.mem_cons_self ..)).1.cell 4
   have v4:=(HSt4.out.p _ (List.mem_cons_self ..)).1.free 4
   have u5:=(HSt4.out.p _ (List.mem_cons_self ..)).1.cell 5
   have v5:=(HSt4.out.p _ (List.mem_cons_self ..)).1.free 5
   simp only [List.getElem?_toArray,List.getElem?_cons_zero,List.getElem?_cons_succ] at u0 u1 u2 u3 u4 u5
   have HSt5:=Lib.hid (HSt3.out.allocP v)
   refine Eng.TW.step0 rfl rfl (by kernel_rfl) (by go_simp;first|done|with_reducible rfl) ((hw.keep HSt5.out.f).cell.1) ?_
   refine Eng.TW.tk ?_
   refine Eng.TW.end_ [9,10,13,14,15,16,17,18,19,20,21,22,23,24,25] HN.out (by kernel_rfl) (by kernel_rfl) ?_
   exact HP.out _ _ _ rfl rfl HSt5.out
  refine Eng.TW.step rfl rfl (by decide) (by kernel_rfl) (by go_simp;first|done|with_reducible rfl|exact ⟨rfl,rfl⟩) ((hw.keep (HSt2.out.alloc).f).cell.1) ?_
  have HSt3:=Lib.hid (HSt2.out.alloc)
  have hSS:(w2.alloc (.cells #[.int .i64 0,.int .i64 0,.int .i64 0,.int .i64 0,.int .i64 0,.int .i64 0] TPl)).cell? ⟨W,0,none⟩=some (.pointer (some ⟨B,0,none⟩)):=(hw.keep HSt3.out.f).cell.1
  refine Eng.TW.call rfl rfl (by decide) (by kernel_rfl) ?_ ((hw.keep HSt3.out.f).getM (key2 t i)) ?_
  ·go_simp
  rintro e w4 ⟨rfl,hf1⟩
  rw [show (getL (key2 t i) M).getD (⟨0,0,0,0,0,0⟩:Pq)=v from hv,hvb]
  have HSt4:=Lib.hid (HSt3.out.fr hf1)
  clear hf1
  refine ⟨_,rfl,(hw.keep HSt4.out.f).cell.1,?_⟩
  iterate 3 (refine Eng.TW.tk ?_)
  have u0:=(HSt4.out.p _ (List.mem_cons_self ..)).1.cell 0
  have v0:=(HSt4.out.p _ (List.mem_cons_self ..)).1.free 0
  have u1:=(HSt4.out.p _ (List.mem_cons_self ..)).1.cell 1
  have v1:=(HSt4.out.p _ (List.mem_cons_self ..)).1.free 1
  have u2:=(HSt4.out.p _ (List.mem_cons_self ..)).1.cell 2
  have v2:=(HSt4.out.p _ (List.mem_cons_self ..)).1.free 2
  have u3:=(HSt4.out.p _ (List.mem_cons_self ..)).1.cell 3
  have v3:=(HSt4.out.p _ (List.mem_cons_self ..)).1.free 3
  have u4:=(HSt4.out.p _ (List.mem_cons_self ..)).1.cell 4
  have v4:=(HSt4.out.p _ (List.mem_cons_self ..)).1.free 4
  have u5:=(HSt4.out.p _ (List.mem_cons_self ..)).1.cell 5
  have v5:=(HSt4.out.p _ (List.mem_cons_self ..)).1.free 5
  simp only [List.getElem?_toArray,List.getElem?_cons_zero,List.getElem?_cons_succ] at u0 u1 u2 u3 u4 u5
  have HSt5:=Lib.hid (HSt4.out.store v)
  refine Eng.TW.step0 rfl rfl (by kernel_rfl) (by go_simp;first|done|with_reducible rfl) ((hw.keep HSt5.out.f).cell.1) ?_
  refine Eng.TW.tk ?_
  refine Eng.TW.end_ [9,10,13,14,15,16,17,18,19,20,21,22,23,24,25] HN.out (by kernel_rfl) (by kernel_rfl) ?_
  exact HP.out _ _ _ rfl rfl HSt5.out
 refine Eng.TW.step rfl rfl (by decide) (by kernel_rfl) (by go_simp;first|done|with_reducible rfl|exact ⟨rfl,rfl⟩) ((hw.keep (HSt.out.alloc).f).cell.1) ?_
 have HSt2:=Lib.hid (show BX w0 _ [w.heap.size] z6 from HSt.out.alloc)
 have hSS:(w.drew.alloc (.cells #[.int .i64 0,.int .i64 0,.int .i64 0,.int .i64 0,.int .i64 0,.int .i64 0] TPl)).cell? ⟨W,0,none⟩=some (.pointer (some ⟨B,0,none⟩)):=(hw.keep HSt2.out.f).cell.1
 refine Eng.TW.call rfl rfl (by decide) (by kernel_rfl) ?_ (Of' ht hi _) ?_
 ·go_simp
 rintro e w3 ⟨rfl,hf1⟩
 have HSt3:=Lib.hid (HSt2.out.fr hf1)
 clear hf1
 refine ⟨_,rfl,(hw.keep HSt3.out.f).cell.1,?_⟩
 refine Eng.TW.call rfl rfl (by decide) (by kernel_rfl) ?_ ((hw.keep HSt3.out.f).getM (key2 t i)) ?_
 ·go_simp
 rintro e w4 ⟨rfl,hf1⟩
 rw [show (getL (key2 t i) M).getD (⟨0,0,0,0,0,0⟩:Pq)=v from hv,hvb]
 have HSt4:=Lib.hid (HSt3.out.fr hf1)
 clear hf1
 refine ⟨_,rfl,(hw.keep HSt4.out.f).cell.1,?_⟩
 iterate 3 (refine Eng.TW.tk ?_)
 have u0:=(HSt4.out.p _ (List.mem_cons_self ..)).1.cell 0
 have v0:=(HSt4.out.p _ (List.mem_cons_self ..)).1.free 0
 have u1:=(HSt4.out.p _ (List.mem_cons_self ..)).1.cell 1
 have v1:=(HSt4.out.p _ (List.mem_cons_self ..)).1.free 1
 have u2:=(HSt4.out.p _ (List.mem_cons_self ..)).1.cell 2
 have v2:=(HSt4.out.p _ (List.mem_cons_self ..)).1.free 2
 have u3:=(HSt4.out.p _ (List.mem_cons_self ..)).1.cell 3
 have v3:=(HSt4.out.p _ (List.mem_cons_self ..)).1.free 3
 have u4:=(HSt4.out.p _ (List.mem_cons_self ..)).1.cell 4
 have v4:=(HSt4.out.p _ (List.mem_cons_self ..)).1.free 4
 have u5:=(HSt4.out.p _ (List.mem_cons_self ..)).1.cell 5
 have v5:=(HSt4.out.p _ (List.mem_cons_self ..)).1.free 5
 simp only [List.getElem?_toArray,List.getElem?_cons_zero,List.getElem?_cons_succ] at u0 u1 u2 u3 u4 u5
 have HSt5:=Lib.hid (HSt4.out.store v)
 refine Eng.TW.step0 rfl rfl (by kernel_rfl) (by go_simp;first|done|with_reducible rfl) ((hw.keep HSt5.out.f).cell.1) ?_
 refine Eng.TW.tk ?_
 refine Eng.TW.end_ [9,10,13,14,15,16,17,18,19,20,21,22,23,24,25] HN.out (by kernel_rfl) (by kernel_rfl) ?_
 exact HP.out _ _ _ rfl rfl HSt5.out
theorem ch4 {ops:Array Oper} (hops:Eng.fnOps Tryz.f144 4=ops) (a0:Act) (Q:Exit→Act→World→Prop) (w0 w:World) (W B:Nat) (L:List Sn) (M WE:Pl) (LO:Ll) (n:Int) (F:List Nat) (t i:Int) (v:Pq) (vb:Bool) (ht:wf64 t) (hi:wf64 i) (hv:(getL (key2 t i) M).getD z6=v) (hvb:(getL (key2 t i) M).isSome=vb) (hw:FW w0 W B L M WE LO n F) (hst:BX w0 w [] z6)
  (hn:a0.tmps.size=62) (h_0:a0.tmps.getD 0 undef=.pointer (some ⟨W,0,none⟩)) (h_1:a0.tmps.getD 1 undef=.int .i64 t) (h_2:a0.tmps.getD 2 undef=.int .i64 i)
  (hpost:∀ (x:Nat→Value) (w':World) (Bp:Nat),x 11=.pointer (some ⟨Bp,0,none⟩)→x 12=.bool vb→BX w0 w' [Bp] v→Q .normal (Eng.setAll a0 [11,12,32,33,34,35,36,37,38,39,40,41,42,43,44] x) w'):
  (Code.region 4 ops true).wp prog Q a0 w:=by
 simp only [Eng.fnOps,Eng.regOps,Tryz.f144,Option.bind_some,Option.getD_some,Nat.reduceEqDiff,↓reduceIte] at hops
 subst hops
 have HSt:=Lib.hid (hst.fr (Fr.drew _ _))
 refine Eng.regionT (.take 0 (.take 1 (.take 2 (.take 3 (.take 4 (.take 5 (.take 6 (.take 7 (.alt 8 (.alt 9 (.take 10 (.take 11 (.take 12 (.alt 13 (.alt 14 (.take 15 (.done)) (.stop)) (.stop))))) (.alt 13 (.alt 9 (.take 10 (.take 11 (.take 12 (.alt 14 (.take 15 (.done)) (.stop))))) (.stop)) (.stop))) (.alt 13 (.alt 8 (.alt 9 (.take 10 (.take 11 (.take 12 (.alt 14 (.take 15 (.done)) (.stop))))) (.stop)) (.stop)) (.stop))))))))))) (fun w'=>w'.cell? ⟨W,0,none⟩=some (.pointer (some ⟨B,0,none⟩))) (by kernel_rfl) 62 hn (by kernel_rfl) (by kernel_rfl) (by kernel_rfl) ((hw.keep HSt.out.f).cell.1) (fun a b ha hb=>?_)
 subst ha
 have hb0:b 0=.pointer (some ⟨W,0,none⟩):=(hb 0).symm.trans h_0
 have hb1:b 1=.int .i64 t:=(hb 1).symm.trans h_1
 have hb2:b 2=.int .i64 i:=(hb 2).symm.trans h_2
 clear hb h_0 h_1 h_2
 have HP:=Lib.hid hpost;have HN:=Lib.hid hn
 clear hpost hn
 iterate 8 (refine Eng.TW.tk ?_)
 refine Eng.TW.both ?_ ?_
 ·refine Eng.TW.call rfl rfl (by decide) (by kernel_rfl) ?_ (Of' ht hi _) ?_
  ·go_simp
  rintro e w2 ⟨rfl,hf1⟩
  have HSt2:=Lib.hid (HSt.out.fr hf1)
  clear hf1
  refine ⟨_,rfl,(hw.keep HSt2.out.f).cell.1,?_⟩
  refine Eng.TW.both ?_ ?_
  ·refine Eng.TW.call rfl rfl (by decide) (by kernel_rfl) ?_ ((hw.keep HSt2.out.f).getM (key2 t i)) ?_
   ·go_simp
   rintro e w3 ⟨rfl,hf1⟩
   rw [show (getL (key2 t i) M).getD (⟨0,0,0,0,0,0⟩:Pq)=v from hv,hvb]
   have HSt3:=Lib.hid (HSt2.out.fr hf1)
   clear hf1
   refine ⟨_,rfl,(hw.keep HSt3.out.f).cell.1,?_⟩
   iterate 3 (refine Eng.TW.tk ?_)
   refine Eng.TW.step rfl rfl (by decide) (by kernel_rfl) (by go_simp;first|done|with_reducible rfl|exact ⟨rfl,rfl⟩) ((hw.keep (HSt3.out.alloc).f).cell.1) ?_
   have HSt4:=Lib.hid (HSt3.out.alloc)
   have hSS:(w3.alloc (.cells #[.int .i64 0,.int .i64 0,.int .i64 0,.int .i64 0,.int .i64 0,.int .i64 0] TPl)).cell? ⟨W,0,none⟩=some (.pointer (some ⟨B,0,none⟩)):=(hw.keep HSt4.out.f).cell.1
   have u0:=(HSt4.out.p _ (List.mem_cons_self ..)).1.cell 0
   have v0:=(HSt4.out.p _ (List.mem_cons_self ..)).1.free 0
   have u1:=(HSt4.out.p _ (List.mem_cons_self ..)).1.cell 1
   have v1:=(HSt4.out.p _ (List.mem_cons_self ..)).1.free 1
   have u2:=(HSt4.out.p _ (List.mem_cons_self ..)).1.cell 2
   have v2:=(HSt4.out.p _ (List.mem_cons_self ..)).1.free 2
   have u3:=(HSt4.out.p _ (List.mem_cons_self ..)).1.cell 3
   have v3:=(HSt4.out.p _ (List.mem_cons_self ..)).1.free 3
   have u4:=(HSt4.out.p _ (List.mem_cons_self ..)).1.cell 4
   have v4:=(HSt4.out.p _ (List.mem_cons_self ..)).1.free 4
   have u5:=(HSt4.out.p _ (List.mem_cons_self ..)).1.cell 5
   have v5:=(HSt4.out.p _ (List.mem_cons_self ..)).1.free 5
   simp only [List.getElem?_toArray,List.getElem?_cons_zero,List.getElem?_cons_succ] at u0 u1 u2 u3 u4 u5
   have HSt5:=Lib.hid (HSt3.out.allocP v)
   refine Eng.TW.step0 rfl rfl (by kernel_rfl) (by go_simp;first|done|with_reducible rfl) ((hw.keep HSt5.out.f).cell.1) ?_
   refine Eng.TW.tk ?_
   refine Eng.TW.end_ [11,12,32,33,34,35,36,37,38,39,40,41,42,43,44] HN.out (by kernel_rfl) (by kernel_rfl) ?_
   exact HP.out _ _ _ rfl rfl HSt5.out
  refine Eng.TW.step rfl rfl (by decide) (by kernel_rfl) (by go_simp;first|done|with_reducible rfl|exact ⟨rfl,rfl⟩) ((hw.keep (HSt2.out.alloc).f).cell.1) ?_
  have HSt3:=Lib.hid (HSt2.out.alloc)
  have hSS:(w2.alloc (.cells #[.int .i64 0,.int .i64 0,.int .i64 0,.int .i64 0,.int .i64 0,.int .i64 0] TPl)).cell? ⟨W,0,none⟩=some (.pointer (some ⟨B,0,none⟩)):=(hw.keep HSt3.out.f).cell.1
  refine Eng.TW.call rfl rfl (by decide) (by kernel_rfl) ?_ ((hw.keep HSt3.out.f).getM (key2 t i)) ?_
  ·go_simp
  rintro e w4 ⟨rfl,hf1⟩
  rw [show (getL (key2 t i) M).getD (⟨0,0,0,0,0,0⟩:Pq)=v from hv,hvb]
  have HSt4:=Lib.hid (HSt3.out.fr hf1)
  clear hf1
  refine ⟨_,rfl,(hw.keep HSt4.out.f).cell.1,?_⟩
  iterate 3 (refine Eng.TW.tk ?_)
  have u0:=(HSt4.out.p _ (List.mem_cons_self ..)).1.cell 0
  have v0:=(HSt4.out.p _ (List.mem_cons_self ..)).1.free 0
  have u1:=(HSt4.out.p _ (List.mem_cons_self ..)).1.cell 1
  have v1:=(HSt4.out.p _ (List.mem_cons_self ..)).1.free 1
  have u2:=(HSt4.out.p _ (List.mem_cons_self ..)).1.cell 2
  have v2:=(HSt4.out.p _ (List.mem_cons_self ..)).1.free 2
  have u3:=(HSt4.out.p _ (List.mem_cons_self ..)).1.cell 3
  have v3:=(HSt4.out.p _ (List.mem_cons_self ..)).1.free 3
  have u4:=(HSt4.out.p _ (List.mem_cons_self ..)).1.cell 4
  have v4:=(HSt4.out.p _ (List.mem_cons_self ..)).1.free 4
  have u5:=(HSt4.out.p _ (List.mem_cons_self ..)).1.cell 5
  have v5:=(HSt4.out.p _ (List.mem_cons_self ..)).1.free 5
  simp only [List.getElem?_toArray,List.getElem?_cons_zero,List.getElem?_cons_succ] at u0 u1 u2 u3 u4 u5
  have HSt5:=Lib.hid (HSt4.out.store v)
  refine Eng.TW.step0 rfl rfl (by kernel_rfl) (by go_simp;first|done|with_reducible rfl) ((hw.keep HSt5.out.f).cell.1) ?_
  refine Eng.TW.tk ?_
  refine Eng.TW.end_ [11,12,32,33,34,35,36,37,38,39,40,41,42,43,44] HN.out (by kernel_rfl) (by kernel_rfl) ?_
  exact HP.out _ _ _ rfl rfl HSt5.out
 refine Eng.TW.step rfl rfl (by decide) (by kernel_rfl) (by go_simp;first|done|with_reducible rfl|exact ⟨rfl,rfl⟩) ((hw.keep (HSt.out.alloc).f).cell.1) ?_
 have HSt2:=Lib.hid (show BX w0 _ [w.heap.size] z6 from HSt.out.alloc)
 have hSS:(w.drew.alloc (.cells #[.int .i64 0,.int .i64 0,.int .i64 0,.int .i64 0,.int .i64 0,.int .i64 0] TPl)).cell? ⟨W,0,none⟩=some (.pointer (some ⟨B,0,none⟩)):=(hw.keep HSt2.out.f).cell.1
 refine Eng.TW.call rfl rfl (by decide) (by kernel_rfl) ?_ (Of' ht hi _) ?_
 ·go_simp
 rintro e w3 ⟨rfl,hf1⟩
 have HSt3:=Lib.hid (HSt2.out.fr hf1)
 clear hf1
 refine ⟨_,rfl,(hw.keep HSt3.out.f).cell.1,?_⟩
 refine Eng.TW.call rfl rfl (by decide) (by kernel_rfl) ?_ ((hw.keep HSt3.out.f).getM (key2 t i)) ?_
 ·go_simp
 rintro e w4 ⟨rfl,hf1⟩
 rw [show (getL (key2 t i) M).getD (⟨0,0,0,0,0,0⟩:Pq)=v from hv,hvb]
 have HSt4:=Lib.hid (HSt3.out.fr hf1)
 clear hf1
 refine ⟨_,rfl,(hw.keep HSt4.out.f).cell.1,?_⟩
 iterate 3 (refine Eng.TW.tk ?_)
 have u0:=(HSt4.out.p _ (List.mem_cons_self ..)).1.cell 0
 have v0:=(HSt4.out.p _ (List.mem_cons_self ..)).1.free 0
 have u1:=(HSt4.out.p _ (List.mem_cons_self ..)).1.cell 1
 have v1:=(HSt4.out.p _ (List.mem_cons_self ..)).1.free 1
 have u2:=(HSt4.out.p _ (List.mem_cons_self ..)).1.cell 2
 have v2:=(HSt4.out.p _ (List.mem_cons_self ..)).1.free 2
 have u3:=(HSt4.out.p _ (List.mem_cons_self ..)).1.cell 3
 have v3:=(HSt4.out.p _ (List.mem_cons_self ..)).1.free 3
 have u4:=(HSt4.out.p _ (List.mem_cons_self ..)).1.cell 4
 have v4:=(HSt4.out.p _ (List.mem_cons_self ..)).1.free 4
 have u5:=(HSt4.out.p _ (List.mem_cons_self ..)).1.cell 5
 have v5:=(HSt4.out.p _ (List.mem_cons_self ..)).1.free 5
 simp only [List.getElem?_toArray,List.getElem?_cons_zero,List.getElem?_cons_succ] at u0 u1 u2 u3 u4 u5
 have HSt5:=Lib.hid (HSt4.out.store v)
 refine Eng.TW.step0 rfl rfl (by kernel_rfl) (by go_simp;first|done|with_reducible rfl) ((hw.keep HSt5.out.f).cell.1) ?_
 refine Eng.TW.tk ?_
 refine Eng.TW.end_ [11,12,32,33,34,35,36,37,38,39,40,41,42,43,44] HN.out (by kernel_rfl) (by kernel_rfl) ?_
 exact HP.out _ _ _ rfl rfl HSt5.out
theorem above {W B:Nat} {L:List Sn} {M WE:Pl} {LO:Ll} {n:Int} {F:List Nat} (t last i:Int) (w:World) (h:FW w W B L M WE LO n F) (ht:wf64 t) (hi:wf64 i) (U:Pq) (hU:abq L M t last i=U):
  Calls prog 145 #[.pointer (some ⟨W,0,none⟩),.int .i64 t,.int .i64 last,.int .i64 i] w fun e w'=>e=.returned U.v∧Fr (fun _=>False) w w':=by
 have f1:=Fr.alloc (fun _=>False) w (.cells #[.int .i64 0,.int .i64 0,.int .i64 0,.int .i64 0,.int .i64 0,.int .i64 0] TPl)
 have HR:Hid (Bk (w.alloc (.cells #[.int .i64 0,.int .i64 0,.int .i64 0,.int .i64 0,.int .i64 0,.int .i64 0] TPl)) w.heap.size z6.arr TPl):=Bk.new w #[.int .i64 0,.int .i64 0,.int .i64 0,.int .i64 0,.int .i64 0,.int .i64 0] TPl
 have HW:=Lib.hid (h.keep f1);have HF:=Lib.hid f1;have HA:=Lib.hid ht;have HB:=Lib.hid hi;have HU:=Lib.hid hU
 have HZ:Hid (w.heap.size<(w.alloc (.cells #[.int .i64 0,.int .i64 0,.int .i64 0,.int .i64 0,.int .i64 0,.int .i64 0] TPl)).heap.size):=by show _<_;simp
 clear h f1 ht hi hU
 go_enter func145,ntmps145
 go_upto_region 1 with (fail)
 generalize (w.alloc (.cells #[.int .i64 0,.int .i64 0,.int .i64 0,.int .i64 0,.int .i64 0,.int .i64 0] TPl))=w1 at *
 obtain ⟨v,hv⟩:∃v,(getL (key2 t i) M).getD z6=v:=⟨_,rfl⟩
 obtain ⟨vb,hvb⟩:∃vb,(getL (key2 t i) M).isSome=vb:=⟨_,rfl⟩
 refine ab1 (by kernel_rfl) _ _ w1 w1 W B L M WE LO n F t i v vb HA.out HB.out hv hvb HW.out ⟨Fr.refl _ _,by simp⟩ rfl rfl rfl rfl ?_
 intro x w2 Bp hx1 hx2 hst
 simp only [Eng.setAll,Act.put,List.setIfInBounds_toArray,List.set_cons_succ,List.set_cons_zero,hx1,hx2]
 have HV1:=Lib.hid hv;have HV2:=Lib.hid hvb
 obtain ⟨hp1,hp2⟩:=hst.p Bp (by simp)
 have HP:=Lib.hid hp1;have HPz:=Lib.hid hp2
 replace HF:=Lib.hid (HF.out.trans hst.f (fun _ _ h=>h) (fun _ _ h=>h));replace HR:=Lib.hid (HR.out.fr hst.f (fun _ _ h=>h));replace HW:=Lib.hid (HW.out.keep hst.f)
 clear hst hp1 hp2 hx1 hx2 hv hvb
 have c0:=HW.out.cell.1
 obtain ⟨pa,hpa⟩:∃pa,((nx L t i).map (·.p)).getD 0=pa:=⟨_,rfl⟩
 obtain ⟨pb,hpb⟩:∃pb,(nx L t i).isSome=pb:=⟨_,rfl⟩
 have hpar:=HW.out.parent HA.out HB.out
 rw [hpa,hpb] at hpar
 have HPb:=Lib.hid hpb
 clear hpa hpb
 go_wp2_with fail
 refine hpar.mono ?_
 clear hpar
 rintro e w3 ⟨rfl,hf⟩
 replace HF:=Lib.hid (HF.out.trans hf (fun _ _ h=>h) (fun _ _ h=>h));replace HR:=Lib.hid (HR.out.fr hf (fun _ _ h=>h));replace HP:=Lib.hid (HP.out.fr hf (fun _ _ h=>h))
 clear hf c0 HW
 have HAB:Hid (abq L M t last i=if vb then v else if pb then ⟨0,0,3,0,0,0⟩ else if i=0 then ⟨0,0,1,0,last,0⟩ else ⟨0,0,2,0,last,0⟩):=by
  show _=_
  unfold abq
  cases hq:getL (key2 t i) M with
  |some u=>
   have h1:=HV1.out;have h2:=HV2.out
   rw [hq] at h1 h2
   subst h2;simpa using h1
  |none=>
   have h2:=HV2.out
   rw [hq] at h2
   subst h2
   rw [HPb.out];rfl
 clear HV1 HV2 HPb
 have o0:w3.cell? ⟨w.heap.size,0,none⟩=some (.int .i64 0):=HR.out.cell 0
 have y0:w3.frozen? ⟨w.heap.size,0,none⟩=false:=HR.out.free 0
 have o1:w3.cell? ⟨w.heap.size,1,none⟩=some (.int .i64 0):=HR.out.cell 1
 have y1:w3.frozen? ⟨w.heap.size,1,none⟩=false:=HR.out.free 1
 have o2:w3.cell? ⟨w.heap.size,2,none⟩=some (.int .i64 0):=HR.out.cell 2
 have y2:w3.frozen? ⟨w.heap.size,2,none⟩=false:=HR.out.free 2
 have o3:w3.cell? ⟨w.heap.size,3,none⟩=some (.int .i64 0):=HR.out.cell 3
 have y3:w3.frozen? ⟨w.heap.size,3,none⟩=false:=HR.out.free 3
 have o4:w3.cell? ⟨w.heap.size,4,none⟩=some (.int .i64 0):=HR.out.cell 4
 have y4:w3.frozen? ⟨w.heap.size,4,none⟩=false:=HR.out.free 4
 have o5:w3.cell? ⟨w.heap.size,5,none⟩=some (.int .i64 0):=HR.out.cell 5
 have y5:w3.frozen? ⟨w.heap.size,5,none⟩=false:=HR.out.free 5
 cases vb with
 |true=>
  have HV:Hid (U=v):=by show _=_;rw [←HU.out,HAB.out];rfl
  have x0:w3.cell? ⟨Bp,0,none⟩=some (.int .i64 v.t):=HP.out.cell 0
  have x1:w3.cell? ⟨Bp,1,none⟩=some (.int .i64 v.i):=HP.out.cell 1
  have x2:w3.cell? ⟨Bp,2,none⟩=some (.int .i64 v.c):=HP.out.cell 2
  have x3:w3.cell? ⟨Bp,3,none⟩=some (.int .i64 v.d):=HP.out.cell 3
  have x4:w3.cell? ⟨Bp,4,none⟩=some (.int .i64 v.p):=HP.out.cell 4
  have x5:w3.cell? ⟨Bp,5,none⟩=some (.int .i64 v.f):=HP.out.cell 5
  go_wp2_with fail
  exact bodyPost_ret (results_cell_row rfl _ _ w.heap.size TPl _ (0,0) _ rfl (put6_bk HR.out v) underlying91 rfl (by kernel_rfl)) rfl ⟨by rw [HV.out],fr_own HF.out (put6_fr _ _ v) (Nat.le_refl _)⟩
 |false=>
  cases pb with
  |true=>
   have HV:Hid (U=⟨0,0,3,0,0,0⟩):=by show _=_;rw [←HU.out,HAB.out];rfl
   have kb:∀W:World,(Instr.build TPl #[(2,.int .i64 3)]).run prog W=.ok (.agg #[.int .i64 0,.int .i64 0,.int .i64 3,.int .i64 0,.int .i64 0,.int .i64 0]) W:=fun W=>by kernel_rfl
   go_wp2_with fail
   exact bodyPost_ret (results_cell_row rfl _ _ w.heap.size TPl _ (0,0) _ rfl (put6_bk HR.out ⟨0,0,3,0,0,0⟩) underlying91 rfl (by kernel_rfl)) rfl ⟨by rw [HV.out],fr_own HF.out (put6_fr _ _ ⟨0,0,3,0,0,0⟩) (Nat.le_refl _)⟩
  |false=>
   by_cases h0:i=0
   ·have q0:(i==0)=true:=by simp [h0]
    have HV:Hid (U=⟨0,0,1,0,last,0⟩):=by show _=_;rw [←HU.out,HAB.out];simp [h0]
    have kb:∀W:World,(Instr.build TPl #[(2,.int .i64 1),(4,.int .i64 last)]).run prog W=.ok (.agg #[.int .i64 0,.int .i64 0,.int .i64 1,.int .i64 0,.int .i64 last,.int .i64 0]) W:=fun W=>by kernel_rfl
    clear h0
    go_wp2_with fail
    exact bodyPost_ret (results_cell_row rfl _ _ w.heap.size TPl _ (0,0) _ rfl (put6_bk HR.out ⟨0,0,1,0,last,0⟩) underlying91 rfl (by kernel_rfl)) rfl ⟨by rw [HV.out],fr_own HF.out (put6_fr _ _ ⟨0,0,1,0,last,0⟩) (Nat.le_refl _)⟩
   ·have q0:(i==0)=false:=by simp [h0]
    have HV:Hid (U=⟨0,0,2,0,last,0⟩):=by show _=_;rw [←HU.out,HAB.out];simp [h0]
    have kb:∀W:World,(Instr.build TPl #[(2,.int .i64 2),(4,.int .i64 last)]).run prog W=.ok (.agg #[.int .i64 0,.int .i64 0,.int .i64 2,.int .i64 0,.int .i64 last,.int .i64 0]) W:=fun W=>by kernel_rfl
    clear h0
    go_wp2_with fail
    exact bodyPost_ret (results_cell_row rfl _ _ w.heap.size TPl _ (0,0) _ rfl (put6_bk HR.out ⟨0,0,2,0,last,0⟩) underlying91 rfl (by kernel_rfl)) rfl ⟨by rw [HV.out],fr_own HF.out (put6_fr _ _ ⟨0,0,2,0,last,0⟩) (Nat.le_refl _)⟩
end Wrk
end Go.Proofs.YtgfjpnpbkkadpaaGreat
