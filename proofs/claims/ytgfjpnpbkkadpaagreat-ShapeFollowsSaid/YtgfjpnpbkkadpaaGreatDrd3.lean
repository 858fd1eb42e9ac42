/- A span's place is found again, and those of all above it: the program's, region by region. -/
import Derived.Test.YtgfjpnpbkkadpaaGreatDrd2
import Derived.Test.YtgfjpnpbkkadpaaGreatBC
import Derived.Test.YtgfjpnpbkkadpaaGreatDrdRs
import Derived.Sort.CutIn
namespace Go.Proofs.YtgfjpnpbkkadpaaGreat
open Tryz
set_option maxRecDepth 100000
set_option maxHeartbeats 1000000
open Go.RowKit
namespace Wrk
open KeyP SetP KidsP Cls KdO Fst Drd
attribute [local go_sem] Eng.ev Eng.getO_cons Eng.getO_nil
abbrev TWp:TypeId:=145
theorem cell_keep {w w':World} {a:Addr} {v:Value} (h:w.cell? a=some v) (hf:Fr (fun _=>False) w w'):w'.cell? a=some v:=(World.cell?_of_block (hf.block a.block (World.block_lt_of_cell? w a h) (fun h=>h))).trans h
theorem buildP (t i c d q f:Int) (W:World):(Instr.build TPl #[(0,.int .i64 t),(1,.int .i64 i),(2,.int .i64 c),(3,.int .i64 d),(4,.int .i64 q),(5,.int .i64 f)]).run prog W=.ok (.agg #[.int .i64 t,.int .i64 i,.int .i64 c,.int .i64 d,.int .i64 q,.int .i64 f]) W:=by kernel_rfl
structure FZ (w:World) (W B:Nat) (L:List Sn) (M WE:Pl) (LO:Ll) (n:Int) (Ff:List Nat) (r1:Option Addr) (F1:List Nat) (r2:Option Addr) (F2:List Nat) (b3 b4:Nat) (t:Int):Prop where
 f:FX w W B L M WE LO n Ff r1 F1 r2 F2
 t3:Bk w b3 #[.pointer (some ⟨W,0,none⟩)] TWp
 t4:Bk w b4 #[.int .i64 t] TIn
 n3:b3∉W::Ff
 n4:b4∉W::Ff
section
variable {w w' w0:World} {W B:Nat} {L L':List Sn} {M WE M':Pl} {LO:Ll} {n n':Int} {Ff Ff':List Nat} {r1:Option Addr} {F1:List Nat} {r2:Option Addr} {F2:List Nat} {b3 b4:Nat} {t:Int}
theorem FZ.keep (h:FZ w W B L M WE LO n Ff r1 F1 r2 F2 b3 b4 t) (hf:Fr (fun _=>False) w w'):FZ w' W B L M WE LO n Ff r1 F1 r2 F2 b3 b4 t:=
 ⟨h.f.keep hf,h.t3.fr hf (fun _ _ h=>h),h.t4.fr hf (fun _ _ h=>h),h.n3,h.n4⟩
theorem not_new {F F':List Nat} {x:Nat} (ht:Tn F F' w w') (hn:x∉F) (hl:x<w.heap.size):x∉F':=fun e=>by
 rcases (ht.sub x e).1 with q|q
 ·exact hn q
 ·omega
theorem FZ.turn (h:FZ w W B L M WE LO n Ff r1 F1 r2 F2 b3 b4 t) (hf:FX w' W B L' M' WE LO n' Ff' r1 F1 r2 F2) (ht:Tn (W::Ff) (W::Ff') w w'):FZ w' W B L' M' WE LO n' Ff' r1 F1 r2 F2 b3 b4 t:=
 ⟨hf,h.t3.fr ht.fr (fun b hb e=>by simp at hb;subst hb;exact h.n3 e),h.t4.fr ht.fr (fun b hb e=>by simp at hb;subst hb;exact h.n4 e),not_new ht h.n3 (lt_of_heap h.t3),not_new ht h.n4 (lt_of_heap h.t4)⟩
end
theorem fi3 {ops:Array Oper} (hops:Eng.fnOps Tryz.f82 3=ops) (a0:Act) (Q:Exit→Act→World→Prop) (w0 w:World) (W B:Nat) (L:List Sn) (M WE:Pl) (LO:Ll) (n:Int) (Ff:List Nat) (r1:Option Addr) (F1:List Nat) (r2:Option Addr) (F2:List Nat) (b3 b4:Nat) (t last i:Int) (U:Pq) (g o m c:Nat) (ht:wf64 t) (hi:wf64 i) (hU:abq L M t last i=U) (hz:FZ w0 W B L M WE LO n Ff r1 F1 r2 F2 b3 b4 t) (hc:w0.cell? ⟨g,o+m,none⟩=some (.int .i64 last)) (hm:m≤1000000) (hst:BX w0 w [] z6)
  (hn:a0.tmps.size=71) (h_3:a0.tmps.getD 3 undef=.pointer (some ⟨b3,0,none⟩)) (h_4:a0.tmps.getD 4 undef=.pointer (some ⟨b4,0,none⟩)) (h_6:a0.tmps.getD 6 undef=.slice (some ⟨g,o,none⟩) (m+1) c) (h_7:a0.tmps.getD 7 undef=.int .i64 i)
  (hpost:∀ (x:Nat→Value) (w':World) (Bp:Nat),x 8=.pointer (some ⟨Bp,0,none⟩)→BX w0 w' [Bp] U→Q .normal (Eng.setAll a0 [8,22,23,24,25,26,27,28,29,30,31] x) w'):
  (Code.region 3 ops true).wp prog Q a0 w:=by
 simp only [Eng.fnOps,Eng.regOps,Tryz.f82,Option.bind_some,Option.getD_some,Nat.reduceEqDiff,↓reduceIte] at hops
 subst hops
 have q1:IntKind.i64.wrap (m:Int)=(m:Int):=by rw [IntKind.wrap_i64];omega
 have q2:(0:Int)≤(m:Int):=by omega
 have q3:(m:Int)<(m:Int)+1:=by omega
 have HSt:=Lib.hid (hst.fr (Fr.drew _ _))
 refine Eng.regionT (.take 0 (.take 1 (.take 2 (.take 3 (.take 4 (.take 5 (.take 6 (.take 7 (.take 8 (.alt 9 (.alt 10 (.alt 11 (.done) (.stop)) (.stop)) (.alt 10 (.alt 9 (.alt 11 (.done) (.stop)) (.stop)) (.stop)))))))))))) (fun w'=>w'.cell? ⟨b3,0,none⟩=some (.pointer (some ⟨W,0,none⟩))∧w'.cell? ⟨b4,0,none⟩=some (.int .i64 t)∧w'.cell? ⟨g,o+m,none⟩=some (.int .i64 last)) (by kernel_rfl) 71 hn (by kernel_rfl) (by kernel_rfl) (by kernel_rfl) (⟨(hz.keep HSt.out.f).t3.cell 0,(hz.keep HSt.out.f).t4.cell 0,cell_keep hc HSt.out.f⟩) (fun a b ha hb=>?_)
 subst ha
 have hb3:b 3=.pointer (some ⟨b3,0,none⟩):=(hb 3).symm.trans h_3
 have hb4:b 4=.pointer (some ⟨b4,0,none⟩):=(hb 4).symm.trans h_4
 have hb6:b 6=.slice (some ⟨g,o,none⟩) (m+1) c:=(hb 6).symm.trans h_6
 have hb7:b 7=.int .i64 i:=(hb 7).symm.trans h_7
 clear hb h_3 h_4 h_6 h_7
 have HP:=Lib.hid hpost;have HN:=Lib.hid hn
 clear hpost hn
 iterate 9 (refine Eng.TW.tk ?_)
 refine Eng.TW.both ?_ ?_
 ·refine Eng.TW.call rfl rfl (by decide) (by kernel_rfl) ?_ (above t last i _ (hz.keep HSt.out.f).f.fw ht hi U hU) ?_
  ·go_simp
  rintro e w2 ⟨rfl,hf1⟩
  have HSt2:=Lib.hid (HSt.out.fr hf1)
  clear hf1
  refine ⟨_,rfl,⟨(hz.keep HSt2.out.f).t3.cell 0,(hz.keep HSt2.out.f).t4.cell 0,cell_keep hc HSt2.out.f⟩,?_⟩
  refine Eng.TW.step rfl rfl (by decide) (by kernel_rfl) (by go_simp;first|done|with_reducible rfl|exact ⟨rfl,rfl⟩) (⟨(hz.keep (HSt2.out.alloc).f).t3.cell 0,(hz.keep (HSt2.out.alloc).f).t4.cell 0,cell_keep hc (HSt2.out.alloc).f⟩) ?_
  have HSt3:=Lib.hid (HSt2.out.alloc)
  have hSS:(w2.alloc (.cells #[.int .i64 0,.int .i64 0,.int .i64 0,.int .i64 0,.int .i64 0,.int .i64 0] TPl)).cell? ⟨b3,0,none⟩=some (.pointer (some ⟨W,0,none⟩))∧(w2.alloc (.cells #[.int .i64 0,.int .i64 0,.int .i64 0,.int .i64 0,.int .i64 0,.int .i64 0] TPl)).cell? ⟨b4,0,none⟩=some (.int .i64 t)∧(w2.alloc (.cells #[.int .i64 0,.int .i64 0,.int .i64 0,.int .i64 0,.int .i64 0,.int .i64 0] TPl)).cell? ⟨g,o+m,none⟩=some (.int .i64 last):=⟨(hz.keep HSt3.out.f).t3.cell 0,(hz.keep HSt3.out.f).t4.cell 0,cell_keep hc HSt3.out.f⟩
  have u0:=(HSt3.out.p _ (List.mem_cons_self ..)).1.cell 0
  have v0:=(HSt3.out.p _ (List.mem_cons_self ..)).1.free 0
  have u1:=(HSt3.out.p _ (List.mem_cons_self ..)).1.cell 1
  have v1:=(HSt3.out.p _ (List.mem_cons_self ..)).1.free 1
  have u2:=(HSt3.out.p _ (List.mem_cons_self ..)).1.cell 2
  have v2:=(HSt3.out.p _ (List.mem_cons_self ..)).1.free 2
  have u3:=(HSt3.out.p _ (List.mem_cons_self ..)).1.cell 3
  have v3:=(HSt3.out.p _ (List.mem_cons_self ..)).1.free 3
  have u4:=(HSt3.out.p _ (List.mem_cons_self ..)).1.cell 4
  have v4:=(HSt3.out.p _ (List.mem_cons_self ..)).1.free 4
  have u5:=(HSt3.out.p _ (List.mem_cons_self ..)).1.cell 5
  have v5:=(HSt3.out.p _ (List.mem_cons_self ..)).1.free 5
  simp only [List.getElem?_toArray,List.getElem?_cons_zero,List.getElem?_cons_succ] at u0 u1 u2 u3 u4 u5
  have HSt4:=Lib.hid (HSt2.out.allocP U)
  refine Eng.TW.step0 rfl rfl (by kernel_rfl) (by go_simp;first|done|with_reducible rfl) (⟨(hz.keep HSt4.out.f).t3.cell 0,(hz.keep HSt4.out.f).t4.cell 0,cell_keep hc HSt4.out.f⟩) ?_
  refine Eng.TW.end_ [8,22,23,24,25,26,27,28,29,30,31] HN.out (by kernel_rfl) (by kernel_rfl) ?_
  exact HP.out _ _ _ rfl HSt4.out
 refine Eng.TW.step rfl rfl (by decide) (by kernel_rfl) (by go_simp;first|done|with_reducible rfl|exact ⟨rfl,rfl⟩) (⟨(hz.keep (HSt.out.alloc).f).t3.cell 0,(hz.keep (HSt.out.alloc).f).t4.cell 0,cell_keep hc (HSt.out.alloc).f⟩) ?_
 have HSt2:=Lib.hid (show BX w0 _ [w.heap.size] z6 from HSt.out.alloc)
 have hSS:(w.drew.alloc (.cells #[.int .i64 0,.int .i64 0,.int .i64 0,.int .i64 0,.int .i64 0,.int .i64 0] TPl)).cell? ⟨b3,0,none⟩=some (.pointer (some ⟨W,0,none⟩))∧(w.drew.alloc (.cells #[.int .i64 0,.int .i64 0,.int .i64 0,.int .i64 0,.int .i64 0,.int .i64 0] TPl)).cell? ⟨b4,0,none⟩=some (.int .i64 t)∧(w.drew.alloc (.cells #[.int .i64 0,.int .i64 0,.int .i64 0,.int .i64 0,.int .i64 0,.int .i64 0] TPl)).cell? ⟨g,o+m,none⟩=some (.int .i64 last):=⟨(hz.keep HSt2.out.f).t3.cell 0,(hz.keep HSt2.out.f).t4.cell 0,cell_keep hc HSt2.out.f⟩
 refine Eng.TW.call rfl rfl (by decide) (by kernel_rfl) ?_ (above t last i _ (hz.keep HSt2.out.f).f.fw ht hi U hU) ?_
 ·go_simp
 rintro e w3 ⟨rfl,hf1⟩
 have HSt3:=Lib.hid (HSt2.out.fr hf1)
 clear hf1
 refine ⟨_,rfl,⟨(hz.keep HSt3.out.f).t3.cell 0,(hz.keep HSt3.out.f).t4.cell 0,cell_keep hc HSt3.out.f⟩,?_⟩
 have u0:=(HSt3.out.p _ (List.mem_cons_self ..)).1.cell 0
 have v0:=(HSt3.out.p _ (List.mem_cons_self ..)).1.free 0
 have u1:=(HSt3.out.p _ (List.mem_cons_self ..)).1.cell 1
 have v1:=(HSt3.out.p _ (List.mem_cons_self ..)).1.free 1
 have u2:=(HSt3.out.p _ (List.mem_cons_self ..)).1.cell 2
 have v2:=(HSt3.out.p _ (List.mem_cons_self ..)).1.free 2
 have u3:=(HSt3.out.p _ (List.mem_cons_self ..)).1.cell 3
 have v3:=(HSt3.out.p _ (List.mem_cons_self ..)).1.free 3
 have u4:=(HSt3.out.p _ (List.mem_cons_self ..)).1.cell 4
 have v4:=(HSt3.out.p _ (List.mem_cons_self ..)).1.free 4
 have u5:=(HSt3.out.p _ (List.mem_cons_self ..)).1.cell 5
 have v5:=(HSt3.out.p _ (List.mem_cons_self ..)).1.free 5
 simp only [List.getElem?_toArray,List.getElem?_cons_zero,List.getElem?_cons_succ] at u0 u1 u2 u3 u4 u5
 have HSt4:=Lib.hid (HSt3.out.store U)
 refine Eng.TW.step0 rfl rfl (by kernel_rfl) (by go_simp;first|done|with_reducible rfl) (⟨(hz.keep HSt4.out.f).t3.cell 0,(hz.keep HSt4.out.f).t4.cell 0,cell_keep hc HSt4.out.f⟩) ?_
 refine Eng.TW.end_ [8,22,23,24,25,26,27,28,29,30,31] HN.out (by kernel_rfl) (by kernel_rfl) ?_
 exact HP.out _ _ _ rfl HSt4.out
theorem fi6 {ops:Array Oper} (hops:Eng.fnOps Tryz.f82 6=ops) (a0:Act) (Q:Exit→Act→World→Prop) (lr mr:Nat) (w0 w:World) (W B:Nat) (L:List Sn) (M WE:Pl) (LO:Ll) (n:Int) (Ff:List Nat) (r1:Option Addr) (F1:List Nat) (r2:Option Addr) (F2:List Nat) (b3 b4 B8:Nat) (t i:Int) (U:Pq) (c:Nat) (ht:wf64 t) (hi:wf64 i) (hl:L.length≤1000000) (hfan:(KidsP.kids t i L).length=c) (hz:FZ w0 W B L M WE LO n Ff r1 F1 r2 F2 b3 b4 t) (hu:Bk w0 B8 U.arr TPl) (hud:0≤U.d∧U.d≤1000000) (hst:BX w0 w [] z6)
  (hn:a0.tmps.size=71) (h_3:a0.tmps.getD 3 undef=.pointer (some ⟨b3,0,none⟩)) (h_4:a0.tmps.getD 4 undef=.pointer (some ⟨b4,0,none⟩)) (h_8:a0.tmps.getD 8 undef=.pointer (some ⟨B8,0,none⟩)) (h_10:a0.tmps.getD 10 undef=.int .i64 i)
  (hpost:∀ (x:Nat→Value) (w':World) (Bp:Nat),x 11=.pointer (some ⟨Bp,0,none⟩)→BX w0 w' [Bp] ⟨t,i,U.c,U.d+1,U.p,(c:Int)⟩→Q .normal (Eng.setAll a0 [11,36,37,38,39,40,41,42,43,44,45,46,47,48,49,50,51,52,53,54] x) w'):
  (Code.region 6 ops true).wpIn (Fence.wide.inRound lr) mr prog Q a0 w:=by
 simp only [Eng.fnOps,Eng.regOps,Tryz.f82,Option.bind_some,Option.getD_some,Nat.reduceEqDiff,↓reduceIte] at hops
 subst hops
 have q1:IntKind.i64.wrap (U.d+1)=U.d+1:=by rw [IntKind.wrap_i64];omega
 have kb:=buildP
 have HSt:=Lib.hid (hst.fr (Fr.drew _ _))
 refine Eng.regionTIn (.take 0 (.take 1 (.take 2 (.take 3 (.take 4 (.take 5 (.take 6 (.take 7 (.take 8 (.take 9 (.take 10 (.take 11 (.take 12 (.take 13 (.take 14 (.take 15 (.take 16 (.alt 17 (.take 18 (.alt 19 (.alt 20 (.done) (.stop)) (.stop))) (.alt 19 (.alt 17 (.take 18 (.alt 20 (.done) (.stop))) (.stop)) (.stop)))))))))))))))))))) (fun w'=>w'.cell? ⟨b3,0,none⟩=some (.pointer (some ⟨W,0,none⟩))∧w'.cell? ⟨b4,0,none⟩=some (.int .i64 t)∧w'.cell? ⟨W,0,none⟩=some (.pointer (some ⟨B,0,none⟩))∧w'.cell? ⟨B8,2,none⟩=some (.int .i64 U.c)∧w'.cell? ⟨B8,3,none⟩=some (.int .i64 U.d)∧w'.cell? ⟨B8,4,none⟩=some (.int .i64 U.p)) (by kernel_rfl) 71 hn (by kernel_rfl) (by kernel_rfl) (by kernel_rfl) (by kernel_rfl) (⟨(hz.keep HSt.out.f).t3.cell 0,(hz.keep HSt.out.f).t4.cell 0,(hz.keep HSt.out.f).f.cell.1,(hu.fr HSt.out.f (fun _ _ h=>h)).cell 2,(hu.fr HSt.out.f (fun _ _ h=>h)).cell 3,(hu.fr HSt.out.f (fun _ _ h=>h)).cell 4⟩) (fun a b ha hb=>?_)
 subst ha
 have hb3:b 3=.pointer (some ⟨b3,0,none⟩):=(hb 3).symm.trans h_3
 have hb4:b 4=.pointer (some ⟨b4,0,none⟩):=(hb 4).symm.trans h_4
 have hb8:b 8=.pointer (some ⟨B8,0,none⟩):=(hb 8).symm.trans h_8
 have hb10:b 10=.int .i64 i:=(hb 10).symm.trans h_10
 clear hb h_3 h_4 h_8 h_10
 have HP:=Lib.hid hpost;have HN:=Lib.hid hn
 clear hpost hn
 iterate 17 (refine Eng.TW.tk ?_)
 refine Eng.TW.both ?_ ?_
 ·refine Eng.TW.call rfl rfl (by decide) (by kernel_rfl) ?_ ((hz.keep HSt.out.f).f.fw.fan ht hi hl) ?_
  ·go_simp
  rintro e w2 ⟨rfl,hf1⟩
  rw [hfan]
  have HSt2:=Lib.hid (HSt.out.fr hf1)
  clear hf1
  refine ⟨_,rfl,⟨(hz.keep HSt2.out.f).t3.cell 0,(hz.keep HSt2.out.f).t4.cell 0,(hz.keep HSt2.out.f).f.cell.1,(hu.fr HSt2.out.f (fun _ _ h=>h)).cell 2,(hu.fr HSt2.out.f (fun _ _ h=>h)).cell 3,(hu.fr HSt2.out.f (fun _ _ h=>h)).cell 4⟩,?_⟩
  refine Eng.TW.tk ?_
  refine Eng.TW.step rfl rfl (by decide) (by kernel_rfl) (by go_simp;first|done|with_reducible rfl|exact ⟨rfl,rfl⟩) (⟨(hz.keep (HSt2.out.alloc).f).t3.cell 0,(hz.keep (HSt2.out.alloc).f).t4.cell 0,(hz.keep (HSt2.out.alloc).f).f.cell.1,(hu.fr (HSt2.out.alloc).f (fun _ _ h=>h)).cell 2,(hu.fr (HSt2.out.alloc).f (fun _ _ h=>h)).cell 3,(hu.fr (HSt2.out.alloc).f (fun _ _ h=>h)).cell 4⟩) ?_
  have HSt3:=Lib.hid (HSt2.out.alloc)
  have hSS:(w2.alloc (.cells #[.int .i64 0,.int .i64 0,.int .i64 0,.int .i64 0,.int .i64 0,.int .i64 0] TPl)).cell? ⟨b3,0,none⟩=some (.pointer (some ⟨W,0,none⟩))∧(w2.alloc (.cells #[.int .i64 0,.int .i64 0,.int .i64 0,.int .i64 0,.int .i64 0,.int .i64 0] TPl)).cell? ⟨b4,0,none⟩=some (.int .i64 t)∧(w2.alloc (.cells #[.int .i64 0,.int .i64 0,.int .i64 0,.int .i64 0,.int .i64 0,.int .i64 0] TPl)).cell? ⟨W,0,none⟩=some (.pointer (some ⟨B,0,none⟩))∧(w2.alloc (.cells #[.int .i64 0,.int .i64 0,.int .i64 0,.int .i64 0,.int .i64 0,.int .i64 0] TPl)).cell? ⟨B8,2,none⟩=some (.int .i64 U.c)∧(w2.alloc (.cells #[.int .i64 0,.int .i64 0,.int .i64 0,.int .i64 0,.int .i64 0,.int .i64 0] TPl)).cell? ⟨B8,3,none⟩=some (.int .i64 U.d)∧(w2.alloc (.cells #[.int .i64 0,.int .i64 0,.int .i64 0,.int .i64 0,.int .i64 0,.int .i64 0] TPl)).cell? ⟨B8,4,none⟩=some (.int .i64 U.p):=⟨(hz.keep HSt3.out.f).t3.cell 0,(hz.keep HSt3.out.f).t4.cell 0,(hz.keep HSt3.out.f).f.cell.1,(hu.fr HSt3.out.f (fun _ _ h=>h)).cell 2,(hu.fr HSt3.out.f (fun _ _ h=>h)).cell 3,(hu.fr HSt3.out.f (fun _ _ h=>h)).cell 4⟩
  have u0:=(HSt3.out.p _ (List.mem_cons_self ..)).1.cell 0
  have v0:=(HSt3.out.p _ (List.mem_cons_self ..)).1.free 0
  have u1:=(HSt3.out.p _ (List.mem_cons_self ..)).1.cell 1
  have v1:=(HSt3.out.p _ (List.mem_cons_self ..)).1.free 1
  have u2:=(HSt3.out.p _ (List.mem_cons_self ..)).1.cell 2
  have v2:=(HSt3.out.p _ (List.mem_cons_self ..)).1.free 2
  have u3:=(HSt3.out.p _ (List.mem_cons_self ..)).1.cell 3
  have v3:=(HSt3.out.p _ (List.mem_cons_self ..)).1.free 3
  have u4:=(HSt3.out.p _ (List.mem_cons_self ..)).1.cell 4
  have v4:=(HSt3.out.p _ (List.mem_cons_self ..)).1.free 4
  have u5:=(HSt3.out.p _ (List.mem_cons_self ..)).1.cell 5
  have v5:=(HSt3.out.p _ (List.mem_cons_self ..)).1.free 5
  simp only [List.getElem?_toArray,List.getElem?_cons_zero,List.getElem?_cons_succ] at u0 u1 u2 u3 u4 u5
  have HSt4:=Lib.hid (HSt2.out.allocP ⟨t,i,U.c,U.d+1,U.p,(c:Int)⟩)
  refine Eng.TW.step0 rfl rfl (by kernel_rfl) (by go_simp;first|done|with_reducible rfl) (⟨(hz.keep HSt4.out.f).t3.cell 0,(hz.keep HSt4.out.f).t4.cell 0,(hz.keep HSt4.out.f).f.cell.1,(hu.fr HSt4.out.f (fun _ _ h=>h)).cell 2,(hu.fr HSt4.out.f (fun _ _ h=>h)).cell 3,(hu.fr HSt4.out.f (fun _ _ h=>h)).cell 4⟩) ?_
  refine Eng.TW.end_ [11,36,37,38,39,40,41,42,43,44,45,46,47,48,49,50,51,52,53,54] HN.out (by kernel_rfl) (by kernel_rfl) ?_
  exact HP.out _ _ _ rfl HSt4.out
 refine Eng.TW.step rfl rfl (by decide) (by kernel_rfl) (by go_simp;first|done|with_reducible rfl|exact ⟨rfl,rfl⟩) (⟨(hz.keep (HSt.out.alloc).f).t3.cell 0,(hz.keep (HSt.out.alloc).f).t4.cell 0,(hz.keep (HSt.out.alloc).f).f.cell.1,(hu.fr (HSt.out.alloc).f (fun _ _ h=>h)).cell 2,(hu.fr (HSt.out.alloc).f (fun _ _ h=>h)).cell 3,(hu.fr (HSt.out.alloc).f (fun _ _ h=>h)).cell 4⟩) ?_
 have HSt2:=Lib.hid (show BX w0 _ [w.heap.size] z6 from HSt.out.alloc)
 have hSS:(w.drew.alloc (.cells #[.int .i64 0,.int .i64 0,.int .i64 0,.int .i64 0,.int .i64 0,.int .i64 0] TPl)).cell? ⟨b3,0,none⟩=some (.pointer (some ⟨W,0,none⟩))∧(w.drew.alloc (.cells #[.int .i64 0,.int .i64 0,.int .i64 0,.int .i64 0,.int .i64 0,.int .i64 0] TPl)).cell? ⟨b4,0,none⟩=some (.int .i64 t)∧(w.drew.alloc (.cells #[.int .i64 0,.int .i64 0,.int .i64 0,.int .i64 0,.int .i64 0,.int .i64 0] TPl)).cell? ⟨W,0,none⟩=some (.pointer (some ⟨B,0,none⟩))∧(w.drew.alloc (.cells #[.int .i64 0,.int .i64 0,.int .i64 0,.int .i64 0,.int .i64 0,.int .i64 0] TPl)).cell? ⟨B8,2,none⟩=some (.int .i64 U.c)∧(w.drew.alloc (.cells #[.int .i64 0,.int .i64 0,.int .i64 0,.int .i64 0,.int .i64 0,.int .i64 0] TPl)).cell? ⟨B8,3,none⟩=some (.int .i64 U.d)∧(w.drew.alloc (.cells #[.int .i64 0,.int .i64 0,.int .i64 0,.int .i64 0,.int .i64 0,.int .i64 0] TPl)).cell? ⟨B8,4,none⟩=some (.int .i64 U.p):=⟨(hz.keep HSt2.out.f).t3.cell 0,(hz.keep HSt2.out.f).t4.cell 0,(hz.keep HSt2.out.f).f.cell.1,(hu.fr HSt2.out.f (fun _ _ h=>h)).cell 2,(hu.fr HSt2.out.f (fun _ _ h=>h)).cell 3,(hu.fr HSt2.out.f (fun _ _ h=>h)).cell 4⟩
 refine Eng.TW.call rfl rfl (by decide) (by kernel_rfl) ?_ ((hz.keep HSt2.out.f).f.fw.fan ht hi hl) ?_
 ·go_simp
 rintro e w3 ⟨rfl,hf1⟩
 rw [hfan]
 have HSt3:=Lib.hid (HSt2.out.fr hf1)
 clear hf1
 refine ⟨_,rfl,⟨(hz.keep HSt3.out.f).t3.cell 0,(hz.keep HSt3.out.f).t4.cell 0,(hz.keep HSt3.out.f).f.cell.1,(hu.fr HSt3.out.f (fun _ _ h=>h)).cell 2,(hu.fr HSt3.out.f (fun _ _ h=>h)).cell 3,(hu.fr HSt3.out.f (fun _ _ h=>h)).cell 4⟩,?_⟩
 refine Eng.TW.tk ?_
 have u0:=(HSt3.out.p _ (List.mem_cons_self ..)).1.cell 0
 have v0:=(HSt3.out.p _ (List.mem_cons_self ..)).1.free 0
 have u1:=(HSt3.out.p _ (List.mem_cons_self ..)).1.cell 1
 have v1:=(HSt3.out.p _ (List.mem_cons_self ..)).1.free 1
 have u2:=(HSt3.out.p _ (List.mem_cons_self ..)).1.cell 2
 have v2:=(HSt3.out.p _ (List.mem_cons_self ..)).1.free 2
 have u3:=(HSt3.out.p _ (List.mem_cons_self ..)).1.cell 3
 have v3:=(HSt3.out.p _ (List.mem_cons_self ..)).1.free 3
 have u4:=(HSt3.out.p _ (List.mem_cons_self ..)).1.cell 4
 have v4:=(HSt3.out.p _ (List.mem_cons_self ..)).1.free 4
 have u5:=(HSt3.out.p _ (List.mem_cons_self ..)).1.cell 5
 have v5:=(HSt3.out.p _ (List.mem_cons_self ..)).1.free 5
 simp only [List.getElem?_toArray,List.getElem?_cons_zero,List.getElem?_cons_succ] at u0 u1 u2 u3 u4 u5
 have HSt4:=Lib.hid (HSt3.out.store ⟨t,i,U.c,U.d+1,U.p,(c:Int)⟩)
 refine Eng.TW.step0 rfl rfl (by kernel_rfl) (by go_simp;first|done|with_reducible rfl) (⟨(hz.keep HSt4.out.f).t3.cell 0,(hz.keep HSt4.out.f).t4.cell 0,(hz.keep HSt4.out.f).f.cell.1,(hu.fr HSt4.out.f (fun _ _ h=>h)).cell 2,(hu.fr HSt4.out.f (fun _ _ h=>h)).cell 3,(hu.fr HSt4.out.f (fun _ _ h=>h)).cell 4⟩) ?_
 refine Eng.TW.end_ [11,36,37,38,39,40,41,42,43,44,45,46,47,48,49,50,51,52,53,54] HN.out (by kernel_rfl) (by kernel_rfl) ?_
 exact HP.out _ _ _ rfl HSt4.out
structure FY (w0 w:World) (Ff0:List Nat) (W B:Nat) (L:List Sn) (M WE:Pl) (LO:Ll) (n:Int) (Ff:List Nat) (r1:Option Addr) (F1:List Nat) (r2:Option Addr) (F2:List Nat) (b3 b4:Nat) (t:Int) (Bp:Nat) (p:Pq):Prop where
 z:FZ w W B L M WE LO n Ff r1 F1 r2 F2 b3 b4 t
 p:Bk w Bp p.arr TPl
 n:Bp∉W::Ff
 t:Tn (W::Ff0) (W::Ff) w0 w
theorem FY.fr {w0 w w':World} {Ff0:List Nat} {W B:Nat} {L:List Sn} {M WE:Pl} {LO:Ll} {n:Int} {Ff:List Nat} {r1:Option Addr} {F1:List Nat} {r2:Option Addr} {F2:List Nat} {b3 b4:Nat} {t:Int} {Bp:Nat} {p:Pq} (h:FY w0 w Ff0 W B L M WE LO n Ff r1 F1 r2 F2 b3 b4 t Bp p) (hf:Fr (fun _=>False) w w'):FY w0 w' Ff0 W B L M WE LO n Ff r1 F1 r2 F2 b3 b4 t Bp p:=
 ⟨h.z.keep hf,h.p.fr hf (fun _ _ h=>h),h.n,h.t.trans (Tn.of_fr hf h.z.f.lt.1)⟩
theorem FY.turn {w0 w w':World} {Ff0:List Nat} {W B:Nat} {L:List Sn} {M M' WE:Pl} {LO:Ll} {n:Int} {Ff Ff':List Nat} {r1:Option Addr} {F1:List Nat} {r2:Option Addr} {F2:List Nat} {b3 b4:Nat} {t:Int} {Bp:Nat} {p:Pq} (h:FY w0 w Ff0 W B L M WE LO n Ff r1 F1 r2 F2 b3 b4 t Bp p) (hf:FX w' W B L M' WE LO n Ff' r1 F1 r2 F2) (ht:Tn (W::Ff) (W::Ff') w w'):FY w0 w' Ff0 W B L M' WE LO n Ff' r1 F1 r2 F2 b3 b4 t Bp p:=
 ⟨h.z.turn hf ht,h.p.fr ht.fr (fun b hb e=>by simp at hb;subst hb;exact h.n e),not_new ht h.n (lt_of_heap h.p),h.t.trans ht⟩
theorem fi9 {ops:Array Oper} (hops:Eng.fnOps Tryz.f82 9=ops) (a0:Act) (Q:Exit→Act→World→Prop) (lr mr:Nat) (w0 w:World) (Ff0:List Nat) (W B:Nat) (L:List Sn) (M WE:Pl) (LO:Ll) (n:Int) (Ff:List Nat) (r1:Option Addr) (F1:List Nat) (r2:Option Addr) (F2:List Nat) (b3 b4:Nat) (t i:Int) (Bp:Nat) (p:Pq) (ht:wf64 t) (hi:wf64 i) (sm:M.length<1000000) (hst:FY w0 w Ff0 W B L M WE LO n Ff r1 F1 r2 F2 b3 b4 t Bp p)
  (hn:a0.tmps.size=71) (h_3:a0.tmps.getD 3 undef=.pointer (some ⟨b3,0,none⟩)) (h_4:a0.tmps.getD 4 undef=.pointer (some ⟨b4,0,none⟩)) (h_10:a0.tmps.getD 10 undef=.int .i64 i) (h_11:a0.tmps.getD 11 undef=.pointer (some ⟨Bp,0,none⟩))
  (hpost:∀ (x:Nat→Value) (w':World) (F':List Nat),FY w0 w' Ff0 W B L (insL (key2 t i) p M) WE LO n F' r1 F1 r2 F2 b3 b4 t Bp p→Q .normal (Eng.setAll a0 [59,60,61,62,63,64,65,66,67,68,69] x) w'):
  (Code.region 9 ops true).wpIn (Fence.wide.inRound lr) mr prog Q a0 w:=by
 simp only [Eng.fnOps,Eng.regOps,Tryz.f82,Option.bind_some,Option.getD_some,Nat.reduceEqDiff,↓reduceIte] at hops
 subst hops
 have HSt:=Lib.hid (hst.fr (Fr.drew _ _))
 refine Eng.regionTIn (.take 0 (.take 1 (.take 2 (.take 3 (.take 4 (.take 5 (.take 6 (.take 7 (.take 9 (.alt 8 (.alt 10 (.done) (.stop)) (.stop))))))))))) (fun w'=>w'.cell? ⟨b3,0,none⟩=some (.pointer (some ⟨W,0,none⟩))∧w'.cell? ⟨b4,0,none⟩=some (.int .i64 t)∧w'.cell? ⟨W,0,none⟩=some (.pointer (some ⟨B,0,none⟩))∧w'.cell? ⟨Bp,0,none⟩=some (.int .i64 p.t)∧w'.cell? ⟨Bp,1,none⟩=some (.int .i64 p.i)∧w'.cell? ⟨Bp,2,none⟩=some (.int .i64 p.c)∧w'.cell? ⟨Bp,3,none⟩=some (.int .i64 p.d)∧w'.cell? ⟨Bp,4,none⟩=some (.int .i64 p.p)∧w'.cell? ⟨Bp,5,none⟩=some (.int .i64 p.f)) (by kernel_rfl) 71 hn (by kernel_rfl) (by kernel_rfl) (by kernel_rfl) (by kernel_rfl) (⟨HSt.out.z.t3.cell 0,HSt.out.z.t4.cell 0,HSt.out.z.f.cell.1,HSt.out.p.cell 0,HSt.out.p.cell 1,HSt.out.p.cell 2,HSt.out.p.cell 3,HSt.out.p.cell 4,HSt.out.p.cell 5⟩) (fun a b ha hb=>?_)
 subst ha
 have hb3:b 3=.pointer (some ⟨b3,0,none⟩):=(hb 3).symm.trans h_3
 have hb4:b 4=.pointer (some ⟨b4,0,none⟩):=(hb 4).symm.trans h_4
 have hb10:b 10=.int .i64 i:=(hb 10).symm.trans h_10
 have hb11:b 11=.pointer (some ⟨Bp,0,none⟩):=(hb 11).symm.trans h_11
 clear hb h_3 h_4 h_10 h_11
 have HP:=Lib.hid hpost;have HN:=Lib.hid hn
 clear hpost hn
 iterate 9 (refine Eng.TW.tk ?_)
 refine Eng.TW.call rfl rfl (by decide) (by kernel_rfl) ?_ (Of' ht hi _) ?_
 ·go_simp
 rintro e w2 ⟨rfl,hf1⟩
 have HSt2:=Lib.hid (HSt.out.fr hf1)
 clear hf1
 refine ⟨_,rfl,⟨HSt2.out.z.t3.cell 0,HSt2.out.z.t4.cell 0,HSt2.out.z.f.cell.1,HSt2.out.p.cell 0,HSt2.out.p.cell 1,HSt2.out.p.cell 2,HSt2.out.p.cell 3,HSt2.out.p.cell 4,HSt2.out.p.cell 5⟩,?_⟩
 refine Eng.TW.call rfl rfl (by decide) (by kernel_rfl) ?_ (HSt2.out.z.f.putM (key2 t i) p sm) ?_
 ·go_simp
 rintro e w3 ⟨⟨_,rfl⟩,F',h1,h2⟩
 have HSt3:=Lib.hid (HSt2.out.turn h1 h2)
 clear h1 h2
 refine ⟨_,rfl,⟨HSt3.out.z.t3.cell 0,HSt3.out.z.t4.cell 0,HSt3.out.z.f.cell.1,HSt3.out.p.cell 0,HSt3.out.p.cell 1,HSt3.out.p.cell 2,HSt3.out.p.cell 3,HSt3.out.p.cell 4,HSt3.out.p.cell 5⟩,?_⟩
 refine Eng.TW.end_ [59,60,61,62,63,64,65,66,67,68,69] HN.out (by kernel_rfl) (by kernel_rfl) ?_
 exact HP.out _ _ _ HSt3.out
end Wrk
set_option maxRecDepth 100000
set_option maxHeartbeats 8000000
namespace Wrk
open KeyP SetP KidsP Cls KdO Fst Drd
attribute [local go_sem] Eng.ev Eng.getO_cons Eng.getO_nil Oper.semAt_some
structure FI (w A:World) (lo:Nat) (W B:Nat) (L0 L1:List Sn) (M WE:Pl) (LO:Ll) (n:Int) (Ff:List Nat) (r1:Option Addr) (F1:List Nat) (r2:Option Addr) (F2:List Nat) (b3 b4 B8:Nat) (NF:List Nat) (t:Int) (s:List Sn) (j:Nat) (M':Pl) (Ff':List Nat) (U:Pq):Prop where
 z:FZ A W B L1 M' WE LO n Ff' r1 F1 r2 F2 b3 b4 t
 u:Bk A B8 U.arr TPl
 p:FP L0 L1 M LO s j M' U
 tn:Tn (W::Ff) (W::Ff') w A
 nf:∀x∈NF,x∉W::Ff'
 rg:∀x∈W::Ff',¬Rg lo (lo+2) x
section
variable {w A C:World} {lo W B:Nat} {L0 L1:List Sn} {M WE:Pl} {LO:Ll} {n:Int} {Ff:List Nat} {r1:Option Addr} {F1:List Nat} {r2:Option Addr} {F2:List Nat} {b3 b4 B8:Nat} {NF:List Nat} {t:Int} {s:List Sn} {j:Nat} {M':Pl} {Ff':List Nat} {U:Pq}
theorem FI.abide (h:FI w A lo W B L0 L1 M WE LO n Ff r1 F1 r2 F2 b3 b4 B8 NF t s j M' Ff' U) (hf:Fr (Rg lo (lo+2)) A C) (hl:w.heap.size≤lo) (h12:∀x∈F1++F2,x<w.heap.size) (hb:b3<lo∧b4<lo∧B8<lo):FI w C lo W B L0 L1 M WE LO n Ff r1 F1 r2 F2 b3 b4 B8 NF t s j M' Ff' U:=by
 have hx:FX C W B L1 M' WE LO n Ff' r1 F1 r2 F2:=h.z.f.fr hf (fun b hb hr=>by
  simp only [List.mem_append,List.mem_cons] at hb
  rcases hb with e|e|e
  iterate 2 (· exact h.rg b (by simp [e]) hr)
  ·have:=h12 b (List.mem_append.2 e);have:=hr.1;omega)
 exact ⟨⟨hx,h.z.t3.fr hf (fun b hb' hr=>by simp at hb';subst hb';have:=hr.1;omega),h.z.t4.fr hf (fun b hb' hr=>by simp at hb';subst hb';have:=hr.1;omega),h.z.n3,h.z.n4⟩,
  h.u.fr hf (fun b hb' hr=>by simp at hb';subst hb';have:=hr.1;omega),h.p,tn_own h.tn hf (fun b hr=>by have:=hr.1;omega),h.nf,h.rg⟩
end
theorem cw_len (L:List Sn) (t:Int) (K:Int→Bool) (i:Int):(cw L t K (L.length+1) [] i).1.length≤L.length:=by
 have hsp:=cw_spec (K:=K) (n:=L.length+1) (out:= []) (Ch.nil (L:=L) (t:=t) i) List.nodup_nil (by simp)
 exact sub_len hsp.2.1 (fun z hz=>(hsp.1.mem z hz).1)
def FdPost (w:World) (W B:Nat) (L0 L1:List Sn) (M WE:Pl) (LO:Ll) (n:Int) (Ff:List Nat) (r1:Option Addr) (F1:List Nat) (r2:Option Addr) (F2:List Nat) (t i:Int) (e:Ending) (w':World):Prop:=
 e=.returned (.tuple #[])∧∃ (M':Pl) (n':Int) (Ff':List Nat),FX w' W B L1 M' WE LO n' Ff' r1 F1 r2 F2∧P3 L0 L1 (hl LO) M'∧(∀k,(getL k M).isSome=true→(getL k M').isSome=true)∧((nx L1 t i).isSome=true→kn M' t i=true)∧n'+M.length=n+1+M'.length∧M.length≤M'.length∧Tn (W::Ff) (W::Ff') w w'
theorem find {W B:Nat} {L0 L1:List Sn} {M WE:Pl} {LO:Ll} {n:Int} {Ff F1 F2:List Nat} {r1 r2:Option Addr} (t i:Int) (w:World) (h:FX w W B L1 M WE LO n Ff r1 F1 r2 F2) (ht:wf64 t) (hi:wf64 i) (hp:P3 L0 L1 (hl LO) M) (hlo:∀y∈L1,getL (kk y) M=none→hasL (kk y) LO=true) (sl:L1.length≤100000) (sm:M.length≤500000) (hn:0≤n∧n<1000000000):
  Calls prog 82 #[.pointer (some ⟨W,0,none⟩),.int .i64 t,.int .i64 i] w (FdPost w W B L0 L1 M WE LO n Ff r1 F1 r2 F2 t i):=by
 obtain ⟨hs,hg,-,-⟩:=h.fw.rel
 obtain ⟨SE,hSE⟩:∃SE,cw L1 t (kn M t) (L1.length+1) [] i=SE:=⟨_,rfl⟩
 have h12:=h.lt.2
 have hltW:=h.lt.1
 have f1:=Fr.alloc (fun _=>False) w (.cells #[.pointer (some ⟨W,0,none⟩)] TWp)
 have f2:=Fr.alloc (fun _=>False) (w.alloc (.cells #[.pointer (some ⟨W,0,none⟩)] TWp)) (.cells #[.int .i64 t] TIn)
 have f12:=f1.trans f2 (T:=fun _=>False) (fun _ _ h=>h) (fun _ _ h=>h)
 have t4:Bk ((w.alloc (.cells #[.pointer (some ⟨W,0,none⟩)] TWp)).alloc (.cells #[.int .i64 t] TIn)) (w.heap.size+1) #[.int .i64 t] TIn:=by
  have:=Bk.new (w.alloc (.cells #[.pointer (some ⟨W,0,none⟩)] TWp)) #[.int .i64 t] TIn
  rwa [World.size_alloc] at this
 have nn:∀x,w.heap.size≤x→x∉W::Ff:=fun x hx e=>by have:=hltW x e;omega
 have HZ:Hid (FZ ((w.alloc (.cells #[.pointer (some ⟨W,0,none⟩)] TWp)).alloc (.cells #[.int .i64 t] TIn)) W B L1 M WE LO n Ff r1 F1 r2 F2 w.heap.size (w.heap.size+1) t):=
  ⟨h.keep f12,(Bk.new w _ _).fr f2 (fun _ _ h=>h),t4,nn _ (Nat.le_refl _),nn _ (by omega)⟩
 have hcn:=cw_len L1 t (kn M t) i
 rw [hSE] at hcn
 have HCh:=Lib.hid (chain t i _ (h.keep f12) ht hi sl hn SE hSE)
 obtain ⟨s,e⟩:=SE
 have HH:=Lib.hid (FH.of hs hg ht hi hp hlo hSE)
 have HF12:=Lib.hid f12;have H12:=Lib.hid h12;have HLtW:=Lib.hid hltW;have HNN:=Lib.hid nn;have HI:=Lib.hid hi;have HN:=Lib.hid hn
 have HSl:Hid (s.length≤L1.length):=hcn
 have HSz2:Hid (((w.alloc (.cells #[.pointer (some ⟨W,0,none⟩)] TWp)).alloc (.cells #[.int .i64 t] TIn)).heap.size=w.heap.size+2):=by show _=_;simp
 clear h hs hg ht hi hp hlo hSE h12 hltW f1 f2 f12 t4 nn hn hcn
 refine (callsIn_wide (n:=3)).1 ?_
 refine callsIn_of_wp_marks func82 rfl trivial ?_ rfl
 simp only [ntmps82,List.size_toArray,List.length_cons,List.length_nil,Nat.reduceAdd,Nat.reduceSub,Array.replicate_succ,Array.replicate_zero,List.push_toArray,List.append_toArray,List.nil_append,List.cons_append]
 refine wpIn_wide.2 ?_
 go_upto_region 1 with (fail)
 generalize ((w.alloc (.cells #[.pointer (some ⟨W,0,none⟩)] TWp)).alloc (.cells #[.int .i64 t] TIn))=w1 at *
 have c3:=HZ.out.t3.cell 0;have c4:=HZ.out.t4.cell 0
 simp only [List.getElem?_toArray,List.getElem?_cons_zero] at c3 c4
 go_wp2_with fail
 refine HCh.out.mono ?_
 rintro e' w2 ⟨A,c,rfl,hsl2,hx2,hf2,hA2⟩
 dsimp only at hsl2 hx2 ⊢
 have htn2:=Tn.of_W (F:=W::Ff) hf2 (fun b hb=>by rw [hb];simp) HZ.out.f.lt.1
 have HZ2:=Lib.hid (HZ.out.turn hx2 htn2)
 have HT2:Hid (Tn (W::Ff) (W::Ff) w w2):=(Tn.of_fr HF12.out HLtW.out).trans htn2
 have HSl2:=Lib.hid hsl2;have HA2:=Lib.hid hA2
 have HS2:Hid (w.heap.size+2≤w2.heap.size):=by have:=hf2.size;have:=HSz2.out;show _≤_;omega
 have HS1:Hid (w1.heap.size=w.heap.size+2):=HSz2.out
 clear hsl2 hx2 hf2 hA2 htn2 HCh HZ HF12 HSz2 c3 c4
 rcases Nat.eq_zero_or_pos s.length with h0|h0
 ·have hq:=List.eq_nil_of_length_eq_zero h0
  subst hq
  clear h0
  have HE:Hid (FdPost w W B L0 L1 M WE LO n Ff r1 F1 r2 F2 t i (.returned (.tuple #[])) w2):=by
   refine ⟨rfl,M,_,Ff,HZ2.out.f,HH.out.p0,fun _ h=>h,fun hh=>?_,by simp,Nat.le_refl _,HT2.out⟩
   have hen:=HH.out.en
   have hch:=HH.out.ch
   cases hch
   rcases hen with q| ⟨-,q| ⟨y,hy,-⟩⟩
   ·rw [q] at hh;cases hh
   ·exact q
   ·cases hy
  go_wp2_with fail
  exact ⟨_,by simp [results,Tryz.results82,go_sem],HE.out⟩
 ·obtain ⟨m,hm⟩:∃m,s.length=m+1:=⟨s.length-1,by omega⟩
  clear h0
  have hml:m<s.length:=by omega
  obtain ⟨z,hz⟩:∃z,s[m]=z:=⟨_,rfl⟩
  have hzz:s[m]? =some z:=by rw [List.getElem?_eq_getElem hml,hz]
  obtain ⟨U,hU⟩:∃U,abq L1 M t z.i e=U:=⟨_,rfl⟩
  have hst:=HH.out.start hm hzz
  rw [hU] at hst
  have HSt:=Lib.hid hst;have HU:=Lib.hid hU;have HM:=Lib.hid hm
  obtain ⟨g,o,hA,hg1,hc1⟩:=HSl2.out.at hml (by omega)
  subst hA
  have hcz:w2.cell? ⟨g,o+m,none⟩=some (.int .i64 z.i):=by
   have h1:(ints (ids s))[m]? =some (.int .i64 z.i):=by simp [ints,ids,hzz]
   have:=hc1 m _ h1
   simpa using this
  have hg2:w.heap.size≤g∧g<w2.heap.size:=⟨by have:=HA2.out _ rfl;have:=HS1.out;show w.heap.size≤(⟨g,o,none⟩:Addr).block;omega,hg1⟩
  have HG:=Lib.hid hg2
  have HLen:=Lib.hid (show s.length=m+1 from hm)
  have hm6:m≤1000000:=by have:=HSl.out;omega
  clear hst hU hc1 hg1 hz hzz hg2 HA2
  have hSl2:=HSl2.out
  rw [hm] at hSl2 ⊢
  clear hm HSl2
  have HSl3:=Lib.hid hSl2
  clear hSl2
  go_upto_region 3 with (fail)
  refine fi3 (by kernel_rfl) _ _ w2 w2 W B L1 M WE LO _ Ff r1 F1 r2 F2 w.heap.size (w.heap.size+1) t z.i e U g o m c HH.out.ht HH.out.he HU.out HZ2.out hcz hm6 ⟨Fr.refl _ _,by simp⟩ rfl rfl rfl rfl rfl ?_
  intro x w3 B8 hx1 hst3
  simp only [Eng.setAll,Act.put,List.setIfInBounds_toArray,List.set_cons_succ,List.set_cons_zero,hx1]
  obtain ⟨hu3,hu8⟩:=hst3.p B8 (by simp)
  have HZ3:=Lib.hid (HZ2.out.keep hst3.f);have HT3:=Lib.hid (tn_own HT2.out hst3.f (fun _ h=>h.elim));have HSl4:=Lib.hid (HSl3.out.fr hst3.f (fun _ _ h=>h));have HU8:=Lib.hid hu3
  have HB8:Hid (w2.heap.size≤B8∧B8<w3.heap.size):=⟨hu8,lt_of_heap hu3⟩
  have HS3:Hid (w2.heap.size≤w3.heap.size):=hst3.f.size
  clear hst3 hu3 hu8 hx1 hcz HZ2 HT2 HSl3
  go_wp2_with fail
  refine (Backward_ (some ⟨g,o,none⟩) (m+1) c w3).mono ?_
  rintro e' w4 ⟨rfl,rfl⟩
  have hfb:=Fr.alloc (fun _=>False) w3 (.cells #[.slice (some ⟨g,o,none⟩) (m+1) c] TIs)
  have hbs:=Bk.new w3 #[.slice (some ⟨g,o,none⟩) (m+1) c] TIs
  have hsz4:(w3.alloc (.cells #[.slice (some ⟨g,o,none⟩) (m+1) c] TIs)).heap.size=w3.heap.size+1:=by simp
  generalize (w3.alloc (.cells #[.slice (some ⟨g,o,none⟩) (m+1) c] TIs))=w4 at *
  have HZ4:=Lib.hid (HZ3.out.keep hfb);have HT4:=Lib.hid (tn_own HT3.out hfb (fun _ h=>h.elim));have HU4:=Lib.hid (HU8.out.fr hfb (fun _ _ h=>h));have HBs:=Lib.hid hbs
  have HSz4:=Lib.hid hsz4
  have HSl5:=Lib.hid (HSl4.out.fr hfb (fun _ _ h=>h))
  clear hfb hbs hsz4 HZ3 HT3 HSl4 HU8
  have hids:(ids s).length=m+1:=by simp [HLen.out]
  have hseq:=Backward_seq (ids s) (some ⟨g,o,none⟩) c w3.heap.size [w3.heap.size,g] w4 (by rw [hids];exact HBs.out) (by rw [hids];exact HSl5.out) (by simp) (fun a ha=>by cases ha;simp) (fun a ha=>by cases ha;have:=HG.out.2;have:=HS3.out;have:=HSz4.out;show g<_;omega)
  have HSeq:=Lib.hid hseq
  clear hseq hids
  go_wp2_with fail
  refine (wpIn_wide (n:=3)).1 ?_
  refine range_P' (n:=3) (a₁:=?fr) (gf:=196) (lb:= #[.pointer (some ⟨w3.heap.size,0,none⟩)]) rfl (enters_of func196 (by kernel_rfl) rfl)
   HSeq.out (fun b hb=>by have:=HSz4.out;have:=HG.out.2;have:=HS3.out;simp at hb;rcases hb with rfl|rfl<;>omega) (fun _=>rfl)
   (fun (pre:List (Int × Int)) (A:World)=>∃M' Ff' U',FI w A w4.heap.size W B L0 L1 M WE LO (n+s.length+1) Ff r1 F1 r2 F2 w.heap.size (w.heap.size+1) B8 [B8,w3.heap.size,g] t s pre.length M' Ff' U')
   (fun k (_:List (Int × Int)) (_:World)=>False)
   (fun pre A1 C hA hf=>by
    obtain ⟨M',Ff',U',hA⟩:=hA
    exact ⟨M',Ff',U',hA.abide hf (by have:=HSz4.out;have:=HS3.out;have:=HS2.out;omega) H12.out ⟨by have:=HSz4.out;have:=HS3.out;have:=HS2.out;omega,by have:=HSz4.out;have:=HS3.out;have:=HS2.out;omega,by have:=HB8.out.2;have:=HSz4.out;omega⟩⟩)
   (fun k pre A1 C hA hf=>hA.elim)
   ⟨M,Ff,U,⟨HZ4.out,HU4.out,HSt.out,HT4.out,fun x hx=>HNN.out x (by have:=HB8.out.1;have:=HS3.out;have:=HS2.out;have:=HG.out.1;simp at hx;rcases hx with rfl|rfl|rfl<;>omega),fun x hx hr=>by have:=HLtW.out x hx;have:=hr.1;have:=HSz4.out;have:=HS3.out;have:=HS2.out;omega⟩⟩ ?assign ?body ?done ?stop
  case assign=>
   intro l m' x W9 K hK
   gi_wp2
   exact hK
  case body=>
   rintro l2 m' pre x W2 ⟨M',Ff',U',hI⟩ hsz hpre rfl ⟨r,hl⟩ hd
   (try dsimp only)
   have hbl:(bw (ids s)).length=s.length:=by rw [bw_len];simp
   have hjl:pre.length<s.length:=by have:=hpre.length_le;rw [List.length_append,List.length_singleton,hbl] at this;omega
   obtain ⟨k,hk⟩:∃k,k+1+pre.length=s.length:=⟨s.length-1-pre.length,by omega⟩
   have hkl:k<s.length:=by omega
   have hxe:x=((k:Int),s[k].i):=by
    have h1:(bw (ids s))[pre.length]? =some x:=by
     obtain ⟨q,hq⟩:=hpre
     rw [←hq];simp
    have h2:=bw_at (l:=ids s) (k:=k) (by simpa using hkl)
    rw [show (ids s).length-1-k=pre.length by simp;omega,h1] at h2
    simpa using Option.some.inj h2
   subst hxe
   obtain ⟨hst,hpl,hyL,hyt⟩:=hI.p.step HH.out hk hkl
   generalize s[k]=y at *
   have HSt:=Lib.hid hst;have HPl:=Lib.hid hpl;have HI2:=Lib.hid hI
   have HY:=Lib.hid (HH.out.hg y hyL)
   have hfan:(KidsP.kids t y.i L1).length=fan L1 y:=by rw [←hyt];exact kids_fan L1 y
   have hl6:L1.length≤1000000:=by omega
   have hud:0≤U'.d∧U'.d≤1000000:=by have:=hI.p.d;omega
   have sm':M'.length<1000000:=by have:=hI.p.len;have:=HSl.out;omega
   have HSm:=Lib.hid sm';have HSz:=Lib.hid hsz
   have hkk:kk y=key2 t y.i:=by show key2 y.t y.i=_;rw [hyt]
   have HKk:=Lib.hid hkk
   obtain ⟨cf,hcf⟩:∃cf:Nat,fan L1 y=cf:=⟨_,rfl⟩
   rw [hcf] at hfan
   have HCf:=Lib.hid hcf
   clear hst hpl hyL hyt hbl hjl hk hkl hpre hl hd hI hsz hkk hcf
   gi_upto_region 6 with (fail)
   refine fi6 (by kernel_rfl) _ _ _ _ W2 W2 W B L1 M' WE LO _ Ff' r1 F1 r2 F2 w.heap.size (w.heap.size+1) B8 t y.i U' cf HH.out.ht HY.out.2.1 hl6 hfan HI2.out.z HI2.out.u hud ⟨Fr.refl _ _,by simp⟩ rfl rfl rfl rfl rfl ?_
   intro x5 w5 Bp hx1 hst5
   simp only [Eng.setAll,Act.put,List.setIfInBounds_toArray,List.set_cons_succ,List.set_cons_zero,hx1]
   obtain ⟨hp5,hp6⟩:=hst5.p Bp (by simp)
   have HF5:=Lib.hid hst5.f
   have HZ5:=Lib.hid (HI2.out.z.keep hst5.f)
   have HBp:Hid (W2.heap.size≤Bp∧Bp<w5.heap.size):=⟨hp6,lt_of_heap hp5⟩
   have HP5:=Lib.hid hp5
   have HW2l:Hid (∀x∈W::Ff',x<W2.heap.size):=HI2.out.z.f.lt.1
   have p2:w5.cell? ⟨Bp,2,none⟩=some (.int .i64 U'.c):=hp5.cell 2
   clear hst5 hp5 hp6 hx1 hfan hud hl6
   have hfin:∀ (w6:World) (F':List Nat) ,FY W2 w6 Ff' W B L1 (insL (key2 t y.i) (plq L1 y) M') WE LO (n+s.length+1) F' r1 F1 r2 F2 w.heap.size (w.heap.size+1) t Bp (plq L1 y)→
     postP w4.heap.size (w4.heap.size+2+0) [w3.heap.size,g] (fun (pre:List (Int × Int)) (A:World)=>∃M' Ff' U',FI w A w4.heap.size W B L0 L1 M WE LO (n+s.length+1) Ff r1 F1 r2 F2 w.heap.size (w.heap.size+1) B8 [B8,w3.heap.size,g] t s pre.length M' Ff' U') (fun k (_:List (Int × Int)) (_:World)=>False) (pre++ [((k:Int),y.i)]) W2 .normal ⟨#[],[]⟩ (put6 w6 B8 (plq L1 y)):=by
    intro w6 F' hy6
    have hi:=HI2.out
    have h8:=HB8.out;have hz4:=HSz4.out;have hs2:=HS2.out;have hs3:=HS3.out;have hsz:=HSz.out;have hg:=HG.out
    have hB8F:B8∉W::F':=not_new hy6.t (hi.nf B8 (by simp)) (lt_of_heap hi.u)
    have hf:=put6_fr w6 B8 (plq L1 y)
    have hF:Fr (fun b=>b∈W::Ff'∨b=B8) W2 (put6 w6 B8 (plq L1 y)):=hy6.t.fr.trans hf (fun _ _ h=>.inl h) (fun _ _ h=>.inr h)
    refine ⟨KeptR.of_fr hF hsz ?_,hF.size,KeptL.of_fr hF (fun b hb=>?_),insL (key2 t y.i) (plq L1 y) M',F',plq L1 y,⟨?_,?_,?_,?_,fun x hx=>?_,fun x hx hr=>?_⟩⟩
    ·rintro b hb (e|e)
     ·exact hi.rg b e hb
     ·have:=hb.1;omega
    ·simp at hb
     rcases hb with rfl|rfl
     iterate 2 (· exact ⟨by omega,fun h=>h.elim (hi.nf _ (by simp)) (fun e=>by omega)⟩)
    ·have hz:=hy6.z
     refine ⟨hz.f.fr hf (fun b hb e=>?_),hz.t3.fr hf (fun b hb e=>by simp at hb;omega),hz.t4.fr hf (fun b hb e=>by simp at hb;omega),hz.n3,hz.n4⟩
     subst e
     simp only [List.mem_append,List.mem_cons] at hb
     rcases hb with e|e|e
     iterate 2 (· exact hB8F (by simp [e]))
     ·have:=H12.out b (List.mem_append.2 e);omega
    ·exact put6_bk (hi.u.fr hy6.t.fr (fun b hb e=>by simp at hb;subst hb;exact hi.nf _ (by simp) e)) _
    ·rw [List.length_append,List.length_singleton,←HKk.out];exact HSt.out
    ·exact tn_own (hi.tn.trans hy6.t) hf (fun b e=>by omega)
    ·have hxl:x<W2.heap.size:=by
      simp at hx
      rcases hx with rfl|rfl|rfl<;>omega
     exact not_new hy6.t (hi.nf x hx) hxl
    ·rcases (hy6.t.sub x hx).1 with e|e
     ·exact hi.rg x e hr
     ·have:=hr.2;omega
   have HFin:=Lib.hid hfin
   clear hfin
   by_cases hc3:U'.c=3
   ·have q8:(U'.c==3)=true:=by simp [hc3]
    have hpe:plq L1 y=⟨t,y.i,U'.c,0,U'.p,(cf:Int)⟩:=by rw [HPl.out,if_pos hc3,HCf.out]
    have HPe:=Lib.hid hpe
    have p3:w5.frozen? ⟨Bp,3,none⟩=false:=HP5.out.free 3
    have p4:w5.cell? ⟨Bp,3,none⟩=some (.int .i64 (U'.d+1)):=HP5.out.cell 3
    have hbs:Bk (w5.setCell ⟨Bp,3,none⟩ (.int .i64 0)) Bp (plq L1 y).arr TPl:=by
     have:=HP5.out.set 3 (.int .i64 0)
     rw [hpe];simpa using this
    have hfs:=Fr.setCell (S:=fun k=>k=Bp) w5 ⟨Bp,3,none⟩ (.int .i64 0) rfl
    have hBF:Bp∉W::Ff':=fun e=>by have:=HW2l.out Bp e;have:=HBp.out.1;omega
    have HFY:Hid (FY W2 (w5.setCell ⟨Bp,3,none⟩ (.int .i64 0)) Ff' W B L1 M' WE LO (n+s.length+1) Ff' r1 F1 r2 F2 w.heap.size (w.heap.size+1) t Bp (plq L1 y)):=by
     have hz:=HZ5.out
     have hb34:∀x,x<W2.heap.size→x≠Bp:=fun x hx e=>by have:=HBp.out.1;omega
     have h3:=lt_of_heap HI2.out.z.t3;have h4:=lt_of_heap HI2.out.z.t4
     refine ⟨⟨hz.f.fr hfs (fun b hb e=>?_),hz.t3.fr hfs (fun b hb e=>by simp at hb;subst hb;exact hb34 _ h3 e),hz.t4.fr hfs (fun b hb e=>by simp at hb;subst hb;exact hb34 _ h4 e),hz.n3,hz.n4⟩,hbs,hBF,tn_own (Tn.of_fr HF5.out HW2l.out) hfs (fun b e=>by rw [e];exact HBp.out.1)⟩
     subst e
     simp only [List.mem_append,List.mem_cons] at hb
     rcases hb with e|e|e
     iterate 2 (· exact hBF (by simp [e]))
     ·have:=H12.out b (List.mem_append.2 e);have:=HBp.out.1;have:=HSz.out;have:=HSz4.out;have:=HS3.out;have:=HS2.out;omega
    clear hc3 hbs hfs hBF hpe
    gi_upto_region 9 with (fail)
    refine fi9 (by kernel_rfl) _ _ _ _ W2 (w5.setCell ⟨Bp,3,none⟩ (.int .i64 0)) Ff' W B L1 M' WE LO _ Ff' r1 F1 r2 F2 w.heap.size (w.heap.size+1) t y.i Bp (plq L1 y) HH.out.ht HY.out.2.1 HSm.out HFY.out rfl rfl rfl rfl rfl ?_
    clear p3 p4 p2 q8 HFY
    intro x6 w6 F6 h6
    simp only [Eng.setAll,Act.put,List.setIfInBounds_toArray,List.set_cons_succ,List.set_cons_zero]
    have hu6:Bk w6 B8 U'.arr TPl:=HI2.out.u.fr h6.t.fr (fun b hb e=>by simp at hb;subst hb;exact HI2.out.nf _ (by simp) e)
    have HE:=Lib.hid (HFin.out w6 F6 h6)
    have hbp:=h6.p
    generalize plq L1 y=p at *
    have y0:w6.cell? ⟨Bp,0,none⟩=some (.int .i64 p.t):=hbp.cell 0
    have y1:w6.cell? ⟨Bp,1,none⟩=some (.int .i64 p.i):=hbp.cell 1
    have y2:w6.cell? ⟨Bp,2,none⟩=some (.int .i64 p.c):=hbp.cell 2
    have y3:w6.cell? ⟨Bp,3,none⟩=some (.int .i64 p.d):=hbp.cell 3
    have y4:w6.cell? ⟨Bp,4,none⟩=some (.int .i64 p.p):=hbp.cell 4
    have y5:w6.cell? ⟨Bp,5,none⟩=some (.int .i64 p.f):=hbp.cell 5
    have o0:w6.cell? ⟨B8,0,none⟩=some (.int .i64 U'.t):=hu6.cell 0
    have z0:w6.frozen? ⟨B8,0,none⟩=false:=hu6.free 0
    have o1:w6.cell? ⟨B8,1,none⟩=some (.int .i64 U'.i):=hu6.cell 1
    have z1:w6.frozen? ⟨B8,1,none⟩=false:=hu6.free 1
    have o2:w6.cell? ⟨B8,2,none⟩=some (.int .i64 U'.c):=hu6.cell 2
    have z2:w6.frozen? ⟨B8,2,none⟩=false:=hu6.free 2
    have o3:w6.cell? ⟨B8,3,none⟩=some (.int .i64 U'.d):=hu6.cell 3
    have z3:w6.frozen? ⟨B8,3,none⟩=false:=hu6.free 3
    have o4:w6.cell? ⟨B8,4,none⟩=some (.int .i64 U'.p):=hu6.cell 4
    have z4:w6.frozen? ⟨B8,4,none⟩=false:=hu6.free 4
    have o5:w6.cell? ⟨B8,5,none⟩=some (.int .i64 U'.f):=hu6.cell 5
    have z5:w6.frozen? ⟨B8,5,none⟩=false:=hu6.free 5
    clear hu6 hbp h6
    gi_wp2_with fail
    exact HE.out
   ·have q8:(U'.c==3)=false:=by simp [hc3]
    have hpe:plq L1 y=⟨t,y.i,U'.c,U'.d+1,U'.p,(cf:Int)⟩:=by rw [HPl.out,if_neg hc3,HCf.out]
    have hBF:Bp∉W::Ff':=fun e=>by have:=HW2l.out Bp e;have:=HBp.out.1;omega
    have HFY:Hid (FY W2 w5 Ff' W B L1 M' WE LO (n+s.length+1) Ff' r1 F1 r2 F2 w.heap.size (w.heap.size+1) t Bp (plq L1 y)):=
     ⟨HZ5.out,by rw [hpe];exact HP5.out,hBF,Tn.of_fr HF5.out HW2l.out⟩
    clear hc3 hBF hpe
    gi_upto_region 9 with (fail)
    refine fi9 (by kernel_rfl) _ _ _ _ W2 w5 Ff' W B L1 M' WE LO _ Ff' r1 F1 r2 F2 w.heap.size (w.heap.size+1) t y.i Bp (plq L1 y) HH.out.ht HY.out.2.1 HSm.out HFY.out rfl rfl rfl rfl rfl ?_
    clear p2 q8 HFY
    intro x6 w6 F6 h6
    simp only [Eng.setAll,Act.put,List.setIfInBounds_toArray,List.set_cons_succ,List.set_cons_zero]
    have hu6:Bk w6 B8 U'.arr TPl:=HI2.out.u.fr h6.t.fr (fun b hb e=>by simp at hb;subst hb;exact HI2.out.nf _ (by simp) e)
    have HE:=Lib.hid (HFin.out w6 F6 h6)
    have hbp:=h6.p
    generalize plq L1 y=p at *
    have y0:w6.cell? ⟨Bp,0,none⟩=some (.int .i64 p.t):=hbp.cell 0
    have y1:w6.cell? ⟨Bp,1,none⟩=some (.int .i64 p.i):=hbp.cell 1
    have y2:w6.cell? ⟨Bp,2,none⟩=some (.int .i64 p.c):=hbp.cell 2
    have y3:w6.cell? ⟨Bp,3,none⟩=some (.int .i64 p.d):=hbp.cell 3
    have y4:w6.cell? ⟨Bp,4,none⟩=some (.int .i64 p.p):=hbp.cell 4
    have y5:w6.cell? ⟨Bp,5,none⟩=some (.int .i64 p.f):=hbp.cell 5
    have o0:w6.cell? ⟨B8,0,none⟩=some (.int .i64 U'.t):=hu6.cell 0
    have z0:w6.frozen? ⟨B8,0,none⟩=false:=hu6.free 0
    have o1:w6.cell? ⟨B8,1,none⟩=some (.int .i64 U'.i):=hu6.cell 1
    have z1:w6.frozen? ⟨B8,1,none⟩=false:=hu6.free 1
    have o2:w6.cell? ⟨B8,2,none⟩=some (.int .i64 U'.c):=hu6.cell 2
    have z2:w6.frozen? ⟨B8,2,none⟩=false:=hu6.free 2
    have o3:w6.cell? ⟨B8,3,none⟩=some (.int .i64 U'.d):=hu6.cell 3
    have z3:w6.frozen? ⟨B8,3,none⟩=false:=hu6.free 3
    have o4:w6.cell? ⟨B8,4,none⟩=some (.int .i64 U'.p):=hu6.cell 4
    have z4:w6.frozen? ⟨B8,4,none⟩=false:=hu6.free 4
    have o5:w6.cell? ⟨B8,5,none⟩=some (.int .i64 U'.f):=hu6.cell 5
    have z5:w6.frozen? ⟨B8,5,none⟩=false:=hu6.free 5
    clear hu6 hbp h6
    gi_wp2_with fail
    exact HE.out
  case done=>
   rintro W3 hsz ⟨M',Ff',U',hI⟩ hK
   have hbl:(bw (ids s)).length=s.length:=by rw [bw_len];simp
   rw [hbl] at hI
   have HI3:=Lib.hid hI;have HK:=Lib.hid hK
   clear hI hK hbl
   go_wp2_with fail
   refine ⟨by simp,.inl ⟨_,_,rfl,run_takeDeferred HK.out,?_⟩⟩
   have hf:=Fr.putObj W3 w4.heap.size (.deferred none) (S:=(· =w4.heap.size)) rfl
   have hi:=HI3.out
   have hz4:=HSz4.out;have hs3:=HS3.out;have hs2:=HS2.out;have h8:=HB8.out
   have hx:FX (W3.putObj w4.heap.size (.deferred none)) W B L1 M' WE LO (n+s.length+1) Ff' r1 F1 r2 F2:=hi.z.f.fr hf (fun b hb e=>by
    subst e
    simp only [List.mem_append,List.mem_cons] at hb
    rcases hb with q|q|q
    iterate 2 (· exact hi.rg w4.heap.size (by simp [q]) ⟨Nat.le_refl _,by omega⟩)
    ·have:=H12.out _ (List.mem_append.2 q);omega)
   refine ⟨_,by simp [results,Tryz.results82,go_sem],rfl,M',_,Ff',hx,hi.p.p,hi.p.mo,FP.fin HH.out hi.p,?_,?_,tn_own hi.tn hf (fun b e=>by omega)⟩
   ·have:=hi.p.len;omega
   ·have:=hi.p.len;omega
  case stop=>
   rintro k pre W3 hsz hpre h hK
   exact h.elim
end Wrk
end Go.Proofs.YtgfjpnpbkkadpaaGreat
