/- Spans by their parents: the index as an object in memory. -/
import Derived.Test.YtgfjpnpbkkadpaaGreatClsPs
import Derived.Test.YtgfjpnpbkkadpaaGreatAvlSI2
import Derived.Test.YtgfjpnpbkkadpaaGreatAvlSN2
import Derived.Deep.CutBlock
import Derived.Sort.AtCallIn
import Derived.Maps.OwnIn
namespace Go.Proofs.YtgfjpnpbkkadpaaGreat
open Tryz
set_option maxRecDepth 100000
set_option maxHeartbeats 400000
open Go.RowKit
namespace KdO
open KeyP SetP KidsP
attribute [local go_sem] Eng.ev Eng.getO_cons Eng.getO_nil
abbrev TX:TypeId:=73
abbrev cellsX (oz:Value × Value) (r1:Option Addr) (n1:Nat) (r2:Option Addr) (n2:Nat):Array Value:= #[.pointer r1,.int .i64 n1,.pointer r2,.int .i64 n2,oz.1,oz.2]
structure IY (w:World) (B:Nat) (oz:Value × Value) (M:List (ByteArray × Int)) (K:List (ByteArray × Unit)) (r1 r2:Option Addr) (F1 F2:List Nat):Prop where
 blk:w.heap[B]? =some (.cells (cellsX oz r1 M.length r2 K.length) TX (0,0))
 m1:AvlSI.MapIn w r1 M F1
 m2:AvlSN.MapIn w r2 K F2
 n1:B∉F1
 n2:B∉F2
 ap:∀x∈F1,x∉F2
section
variable {w w':World} {B:Nat} {oz:Value × Value} {M:List (ByteArray × Int)} {K:List (ByteArray × Unit)} {r1 r2:Option Addr} {F1 F2:List Nat}
theorem IY.lt (h:IY w B oz M K r1 r2 F1 F2):∀b∈B::(F1++F2),b<w.heap.size:=by
 intro b hb
 simp only [List.mem_cons,List.mem_append] at hb
 rcases hb with rfl|hb|hb
 ·exact lt_of_heap h.blk
 ·exact h.m1.lt b hb
 ·exact h.m2.lt b hb
theorem IY.fr {S:Nat→Prop} (h:IY w B oz M K r1 r2 F1 F2) (hf:Fr S w w') (hs:∀b∈B::(F1++F2),¬S b):IY w' B oz M K r1 r2 F1 F2:=
 ⟨(hf.block B (lt_of_heap h.blk) (hs B (by simp))).trans h.blk,h.m1.fr hf (fun b hb=>hs b (by simp [hb])),h.m2.fr hf (fun b hb=>hs b (by simp [hb])),h.n1,h.n2,h.ap⟩
theorem IY.cells (h:IY w B oz M K r1 r2 F1 F2):w.cell? ⟨B,0,none⟩=some (.pointer r1)∧w.cell? ⟨B,1,none⟩=some (.int .i64 M.length)∧w.cell? ⟨B,2,none⟩=some (.pointer r2)∧w.cell? ⟨B,3,none⟩=some (.int .i64 K.length):=
 ⟨cell_of_block h.blk 0,cell_of_block h.blk 1,cell_of_block h.blk 2,cell_of_block h.blk 3⟩
theorem IY.turn1 {M':List (ByteArray × Int)} {r1':Option Addr} {F1':List Nat} (h:IY w B oz M K r1 r2 F1 F2) (hb:w'.heap[B]? =some (.cells (cellsX oz r1' M'.length r2 K.length) TX (0,0))) (hm:AvlSI.MapIn w' r1' M' F1') (hs:∀x∈F1',x∈F1∨w.heap.size≤x) (hf:Fr (fun x=>x=B∨x∈F1) w w'):
  IY w' B oz M' K r1' r2 F1' F2∧Tn (B::(F1++F2)) (B::(F1'++F2)) w w':=by
 have hlt:=h.lt
 have i2:IY w' B oz M' K r1' r2 F1' F2:=by
  refine ⟨hb,hm,h.m2.fr hf (fun b hb' e=>?_),fun e=>?_,h.n2,fun x hx hx2=>?_⟩
  ·rcases e with rfl|e
   ·exact h.n2 hb'
   ·exact h.ap b e hb'
  ·rcases hs B e with e|e
   ·exact h.n1 e
   ·have:=lt_of_heap h.blk;omega
  ·rcases hs x hx with e|e
   ·exact h.ap x e hx2
   ·have:=h.m2.lt x hx2;omega
 refine ⟨i2,hf.mono (fun i _ e=>by rcases e with rfl|e;simp;simp [e]),fun x hx=>⟨?_,i2.lt x hx⟩⟩
 simp only [List.mem_cons,List.mem_append] at hx ⊢
 rcases hx with rfl|hx|hx
 ·exact .inl (.inl rfl)
 ·exact (hs x hx).elim (fun e=>.inl (.inr (.inl e))) .inr
 ·exact .inl (.inr (.inr hx))
theorem IY.turn2 {K':List (ByteArray × Unit)} {r2':Option Addr} {F2':List Nat} (h:IY w B oz M K r1 r2 F1 F2) (hb:w'.heap[B]? =some (.cells (cellsX oz r1 M.length r2' K'.length) TX (0,0))) (hm:AvlSN.MapIn w' r2' K' F2') (hs:∀x∈F2',x∈F2∨w.heap.size≤x) (hf:Fr (fun x=>x=B∨x∈F2) w w'):
  IY w' B oz M K' r1 r2' F1 F2'∧Tn (B::(F1++F2)) (B::(F1++F2')) w w':=by
 have hlt:=h.lt
 have i2:IY w' B oz M K' r1 r2' F1 F2':=by
  refine ⟨hb,h.m1.fr hf (fun b hb' e=>?_),hm,h.n1,fun e=>?_,fun x hx hx2=>?_⟩
  ·rcases e with rfl|e
   ·exact h.n1 hb'
   ·exact h.ap b hb' e
  ·rcases hs B e with e|e
   ·exact h.n2 e
   ·have:=lt_of_heap h.blk;omega
  ·rcases hs x hx2 with e|e
   ·exact h.ap x hx e
   ·have:=h.m1.lt x hx;omega
 refine ⟨i2,hf.mono (fun i _ e=>by rcases e with rfl|e;simp;simp [e]),fun x hx=>⟨?_,i2.lt x hx⟩⟩
 simp only [List.mem_cons,List.mem_append] at hx ⊢
 rcases hx with rfl|hx|hx
 ·exact .inl (.inl rfl)
 ·exact .inl (.inr (.inl hx))
 ·exact (hs x hx).elim (fun e=>.inl (.inr (.inr e))) .inr
theorem IY.dropM (h:IY w B oz M K r1 r2 F1 F2) (k:ByteArray) (sz:M.length<144115188075855872):Calls prog 135 #[.pointer (some ⟨B,0,none⟩),.string k] w fun e w'=>e=.returned (.bool (hasL k M))∧∃r1' F1',IY w' B oz (delL k M) K r1' r2 F1' F2∧Tn (B::(F1++F2)) (B::(F1'++F2)) w w':=by
 refine (AvlSI.Drop B 0 _ TX k r1 M F1 w h.blk rfl rfl h.m1 h.n1 sz).mono ?_
 rintro e w' ⟨r',F',rfl,hb,hm,hs,hf⟩
 exact ⟨rfl,r',F',h.turn1 hb hm (fun x hx=>.inl (hs x hx)) hf⟩
theorem IY.putM (h:IY w B oz M K r1 r2 F1 F2) (k:ByteArray) (v:Int) (sz:M.length<144115188075855872):Calls prog 130 #[.pointer (some ⟨B,0,none⟩),.string k,.int .i64 v] w fun e w'=>e=.returned (.bool (!hasL k M))∧∃r1' F1',IY w' B oz (insL k v M) K r1' r2 F1' F2∧Tn (B::(F1++F2)) (B::(F1'++F2)) w w':=by
 refine (AvlSI.Put B 0 _ TX k v r1 M F1 w h.blk rfl rfl h.m1 h.n1 sz).mono ?_
 rintro e w' ⟨r',F',rfl,hb,hm,hs,hf⟩
 exact ⟨rfl,r',F',h.turn1 hb hm hs hf⟩
theorem IY.dropK (h:IY w B oz M K r1 r2 F1 F2) (k:ByteArray) (sz:K.length<144115188075855872):Calls prog 136 #[.pointer (some ⟨B,2,none⟩),.string k] w fun e w'=>e=.returned (.bool (hasL k K))∧∃r2' F2',IY w' B oz M (delL k K) r1 r2' F1 F2'∧Tn (B::(F1++F2)) (B::(F1++F2')) w w':=by
 refine (AvlSN.Drop B 2 _ TX k r2 K F2 w h.blk rfl rfl h.m2 h.n2 sz).mono ?_
 rintro e w' ⟨r',F',rfl,hb,hm,hs,hf⟩
 exact ⟨rfl,r',F',h.turn2 hb hm (fun x hx=>.inl (hs x hx)) hf⟩
theorem IY.putK (h:IY w B oz M K r1 r2 F1 F2) (k:ByteArray) (sz:K.length<144115188075855872):Calls prog 138 #[.pointer (some ⟨B,2,none⟩),.string k,.agg #[]] w fun e w'=>e=.returned (.bool (!hasL k K))∧∃r2' F2',IY w' B oz M (insL k () K) r1 r2' F1 F2'∧Tn (B::(F1++F2)) (B::(F1++F2')) w w':=by
 refine (AvlSN.Put B 2 _ TX k () r2 K F2 w h.blk rfl rfl h.m2 h.n2 sz).mono ?_
 rintro e w' ⟨r',F',rfl,hb,hm,hs,hf⟩
 exact ⟨rfl,r',F',h.turn2 hb hm hs hf⟩
theorem IY.get (h:IY w B oz M K r1 r2 F1 F2) (k:ByteArray):Calls prog 185 #[.pointer (some ⟨B,0,none⟩),.string k] w fun e w'=>e=.returned (.tuple #[.int .i64 ((getL k M).getD 0),.bool (getL k M).isSome])∧w=w':=
 AvlSI.Get_map k B 0 r1 M F1 w h.m1 h.cells.1
end
def IB (w:World) (B:Nat) (oz:Value × Value) (L:List Sn) (F:List Nat):Prop:=∃K r1 r2 F1 F2,IY w B oz (mp (fun x=>x.p) L) K r1 r2 F1 F2∧Rel L K∧F=B::(F1++F2)
theorem IB.lt {w:World} {B:Nat} {oz:Value × Value} {L:List Sn} {F:List Nat} (h:IB w B oz L F):∀b∈F,b<w.heap.size:=by obtain ⟨K,r1,r2,F1,F2,h,-,rfl⟩:=h;exact h.lt
theorem IB.fr {S:Nat→Prop} {w w':World} {B:Nat} {oz:Value × Value} {L:List Sn} {F:List Nat} (h:IB w B oz L F) (hf:Fr S w w') (hs:∀b∈F,¬S b):IB w' B oz L F:=by
 obtain ⟨K,r1,r2,F1,F2,h,hr,rfl⟩:=h
 exact ⟨K,r1,r2,F1,F2,h.fr hf hs,hr,rfl⟩
theorem IB.new (w:World) (oz:Value × Value):IB (w.alloc (.cells (cellsX oz none 0 none 0) TX)) w.heap.size oz [] [w.heap.size]:=
 ⟨[],none,none,[],[],⟨heap_new _ _,AvlSI.MapIn.nil _,AvlSN.MapIn.nil _,by simp,by simp,by simp⟩,Rel.nil,rfl⟩
theorem IB.rel {w:World} {B:Nat} {oz:Value × Value} {L:List Sn} {F:List Nat} (h:IB w B oz L F):Srs L∧(∀x∈L,gd x)∧∀x∈L,bare x:=by obtain ⟨K,r1,r2,F1,F2,h,hr,rfl⟩:=h;exact ⟨hr.s,hr.g,hr.b⟩
theorem IB.get {w:World} {B:Nat} {oz:Value × Value} {L:List Sn} {F:List Nat} (h:IB w B oz L F) {t i:Int} (ht:wf64 t) (hi:wf64 i):Calls prog 185 #[.pointer (some ⟨B,0,none⟩),.string (key2 t i)] w fun e w'=>e=.returned (.tuple #[.int .i64 (((fnd (sn t i 0) L).map (·.p)).getD 0),.bool (fnd (sn t i 0) L).isSome])∧w=w':=by
 obtain ⟨K,r1,r2,F1,F2,h,hr,rfl⟩:=h
 have hg:=h.get (key2 t i)
 rw [show key2 t i=kk (sn t i 0) from rfl,get_mp (x:=sn t i 0) ⟨ht,hi⟩ hr.gk,Option.isSome_map] at hg
 exact hg
theorem Of' {a b:Int} (ha:wf64 a) (hb:wf64 b) (w:World):Calls prog 91 #[.int .i64 a,.int .i64 b] w fun e w'=>e=.returned (.string (key2 a b))∧Fr (fun _=>False) w w':=
 (Key.Of ha hb w).mono (fun _ _ ⟨h,hb⟩=>⟨h,(Fr.of_below hb).mono (fun i hi h=>by omega)⟩)
theorem Span' (x:Sn) (ha:wf64 x.t) (hb:wf64 x.i) (w:World):Calls prog 120 #[x.v] w fun e w'=>e=.returned (.string (key2 x.t x.i))∧Fr (fun _=>False) w w':=
 (Key.Span x ha hb w).mono (fun _ _ ⟨h,hb⟩=>⟨h,(Fr.of_below hb).mono (fun i hi h=>by omega)⟩)
structure KS (w0 w:World) (B:Nat) (oz:Value × Value) (L:List Sn) (F:List Nat):Prop where
 ib:IB w B oz L F
 f:Fr (fun _=>False) w0 w
theorem KS.fr {w0 w w':World} {B:Nat} {oz:Value × Value} {L:List Sn} {F:List Nat} (h:KS w0 w B oz L F) (hf:Fr (fun _=>False) w w'):KS w0 w' B oz L F:=⟨h.ib.fr hf (fun _ _ h=>h),h.f.trans hf (fun _ _ h=>h) (fun _ _ h=>h)⟩
theorem a3 {ops:Array Oper} (hops:Eng.fnOps Tryz.f128 3=ops) (a0:Act) (Q:Exit→Act→World→Prop) (w0 w:World) (B:Nat) (oz:Value × Value) (L:List Sn) (F:List Nat) (t i:Int) (hst:KS w0 w B oz L F) (ht:wf64 t) (hi:wf64 i)
  (hn:a0.tmps.size=19) (h_0:a0.tmps.getD 0 undef=.pointer (some ⟨B,0,none⟩)) (h_1:a0.tmps.getD 1 undef=.int .i64 t) (h_2:a0.tmps.getD 2 undef=.int .i64 i)
  (hpost:∀ (x:Nat→Value) (w':World),x 6=.int .i64 (((fnd (sn t i 0) L).map (·.p)).getD 0)→x 7=.bool (fnd (sn t i 0) L).isSome→KS w0 w' B oz L F→Q .normal (Eng.setAll a0 [6,7,10,11,12,13,14,15,16,17,18] x) w'):
  (Code.region 3 ops true).wp prog Q a0 w:=by
 simp only [Eng.fnOps,Eng.regOps,Tryz.f128,Option.bind_some,Option.getD_some,Nat.reduceEqDiff,↓reduceIte] at hops
 subst hops
 have HSt:=Lib.hid (hst.fr (Fr.drew _ _))
 refine Eng.regionT (.take 0 (.take 1 (.take 2 (.take 3 (.take 4 (.alt 5 (.alt 6 (.take 7 (.take 8 (.take 9 (.take 10 (.done))))) (.stop)) (.stop))))))) (fun w'=>True) (by kernel_rfl) 19 hn (by kernel_rfl) (by kernel_rfl) (by kernel_rfl) (trivial) (fun a b ha hb=>?_)
 subst ha
 have hb0:b 0=.pointer (some ⟨B,0,none⟩):=(hb 0).symm.trans h_0
 have hb1:b 1=.int .i64 t:=(hb 1).symm.trans h_1
 have hb2:b 2=.int .i64 i:=(hb 2).symm.trans h_2
 clear hb h_0 h_1 h_2
 have HP:=Lib.hid hpost;have HN:=Lib.hid hn
 clear hpost hn
 iterate 5 (refine Eng.TW.tk ?_)
 refine Eng.TW.call rfl rfl (by decide) (by kernel_rfl) ?_ (Of' ht hi _) ?_
 ·go_simp
 rintro e w2 ⟨rfl,hf⟩
 have HSt2:=Lib.hid (HSt.out.fr hf)
 have hSS:True:=trivial
 clear hf
 refine ⟨_,rfl,hSS,?_⟩
 refine Eng.TW.call rfl rfl (by decide) (by kernel_rfl) ?_ (HSt2.out.ib.get ht hi) ?_
 ·go_simp
 rintro e w_3 ⟨rfl,rfl⟩
 refine ⟨_,rfl,hSS,?_⟩
 iterate 4 (refine Eng.TW.tk ?_)
 refine Eng.TW.end_ [6,7,10,11,12,13,14,15,16,17,18] HN.out (by kernel_rfl) (by kernel_rfl) ?_
 exact HP.out _ _ rfl rfl HSt2.out
theorem Parent (B:Nat) (oz:Value × Value) (L:List Sn) (F:List Nat) (t i:Int) (w:World) (h:IB w B oz L F) (ht:wf64 t) (hi:wf64 i):Calls prog 128 #[.pointer (some ⟨B,0,none⟩),.int .i64 t,.int .i64 i] w fun e w'=>e=.returned (.tuple #[.int .i64 (((fnd (sn t i 0) L).map (·.p)).getD 0),.bool (fnd (sn t i 0) L).isSome])∧Fr (fun _=>False) w w':=by
 have H:=Lib.hid h;have HT:=Lib.hid ht;have HI:=Lib.hid hi
 clear h ht hi
 go_enter func128,ntmps128
 go_upto_region 3 with (fail)
 refine a3 (by kernel_rfl) _ _ w w B oz L F t i ⟨H.out,Fr.refl _ _⟩ HT.out HI.out rfl rfl rfl rfl ?_
 intro x w' e6 e7 hst
 simp only [Eng.setAll,Act.put,List.setIfInBounds_toArray,List.set_cons_succ,List.set_cons_zero]
 rw [e6,e7]
 have HF:=Lib.hid hst.f
 clear hst e6 e7
 go_wp2_with fail
 go_ret2
 exact ⟨rfl,HF.out⟩
theorem d3 {ops:Array Oper} (hops:Eng.fnOps Tryz.f77 3=ops) (a0:Act) (Q:Exit→Act→World→Prop) (w:World) (B:Nat) (oz:Value × Value) (M:List (ByteArray × Int)) (K:List (ByteArray × Unit)) (r1 r2:Option Addr) (F1 F2:List Nat) (t i:Int) (hst:IY w B oz M K r1 r2 F1 F2) (sz:M.length<144115188075855872) (ht:wf64 t) (hi:wf64 i)
  (hn:a0.tmps.size=33) (h_0:a0.tmps.getD 0 undef=.pointer (some ⟨B,0,none⟩)) (h_1:a0.tmps.getD 1 undef=.int .i64 t) (h_2:a0.tmps.getD 2 undef=.int .i64 i)
  (hpost:∀ (x:Nat→Value) (w':World) (r1':Option Addr) (F1':List Nat),IY w' B oz (delL (key2 t i) M) K r1' r2 F1' F2→Tn (B::(F1++F2)) (B::(F1'++F2)) w w'→Q .normal (Eng.setAll a0 [17,18,19,20,21,22,23] x) w'):
  (Code.region 3 ops true).wp prog Q a0 w:=by
 simp only [Eng.fnOps,Eng.regOps,Tryz.f77,Option.bind_some,Option.getD_some,Nat.reduceEqDiff,↓reduceIte] at hops
 subst hops
 have HSt:=Lib.hid (hst.fr (Fr.drew (fun _=>False) w) (fun _ _ h=>h))
 refine Eng.regionT (.take 0 (.take 1 (.take 2 (.take 3 (.take 4 (.alt 5 (.alt 6 (.done) (.stop)) (.stop))))))) (fun w'=>True) (by kernel_rfl) 33 hn (by kernel_rfl) (by kernel_rfl) (by kernel_rfl) (trivial) (fun a b ha hb=>?_)
 subst ha
 have hb0:b 0=.pointer (some ⟨B,0,none⟩):=(hb 0).symm.trans h_0
 have hb1:b 1=.int .i64 t:=(hb 1).symm.trans h_1
 have hb2:b 2=.int .i64 i:=(hb 2).symm.trans h_2
 clear hb h_0 h_1 h_2
 have HP:=Lib.hid hpost;have HN:=Lib.hid hn
 clear hpost hn
 iterate 5 (refine Eng.TW.tk ?_)
 refine Eng.TW.call rfl rfl (by decide) (by kernel_rfl) ?_ (Of' ht hi _) ?_
 ·go_simp
 rintro e w2 ⟨rfl,hf⟩
 have HF:=Lib.hid ((Fr.drew (fun _=>False) w).trans hf (T:=fun _=>False) (fun _ _ h=>h) (fun _ _ h=>h))
 have HSt2:=Lib.hid (HSt.out.fr hf (fun _ _ h=>h))
 clear hf
 refine ⟨_,rfl,trivial,?_⟩
 refine Eng.TW.call rfl rfl (by decide) (by kernel_rfl) ?_ (HSt2.out.dropM (key2 t i) sz) ?_
 ·go_simp
 rintro e w3 ⟨rfl,r1',F1',hI,hT⟩
 have HT:=Lib.hid ((Tn.of_fr HF.out hst.lt).trans hT)
 have HSt3:=Lib.hid (hI)
 clear hT hI
 refine ⟨_,rfl,trivial,?_⟩
 refine Eng.TW.end_ [17,18,19,20,21,22,23] HN.out (by kernel_rfl) (by kernel_rfl) ?_
 exact HP.out _ _ r1' F1' HSt3.out HT.out
theorem d4 {ops:Array Oper} (hops:Eng.fnOps Tryz.f77 4=ops) (a0:Act) (Q:Exit→Act→World→Prop) (w:World) (B:Nat) (oz:Value × Value) (M:List (ByteArray × Int)) (K:List (ByteArray × Unit)) (r1 r2:Option Addr) (F1 F2:List Nat) (t p i:Int) (hst:IY w B oz M K r1 r2 F1 F2) (sz:K.length<144115188075855872) (ht:wf64 t) (hp:wf64 p) (hi:wf64 i)
  (hn:a0.tmps.size=33) (h_0:a0.tmps.getD 0 undef=.pointer (some ⟨B,0,none⟩)) (h_1:a0.tmps.getD 1 undef=.int .i64 t) (h_2:a0.tmps.getD 2 undef=.int .i64 i) (h_7:a0.tmps.getD 7 undef=.int .i64 p)
  (hpost:∀ (x:Nat→Value) (w':World) (r2':Option Addr) (F2':List Nat),IY w' B oz M (delL (key3 t p i) K) r1 r2' F1 F2'→Tn (B::(F1++F2)) (B::(F1++F2')) w w'→Q .normal (Eng.setAll a0 [24,25,26,27,28,29,30,31] x) w'):
  (Code.region 4 ops true).wp prog Q a0 w:=by
 simp only [Eng.fnOps,Eng.regOps,Tryz.f77,Option.bind_some,Option.getD_some,Nat.reduceEqDiff,↓reduceIte] at hops
 subst hops
 have HSt:=Lib.hid (hst.fr (Fr.drew (fun _=>False) w) (fun _ _ h=>h))
 refine Eng.regionT (.take 0 (.take 1 (.take 2 (.take 3 (.take 4 (.take 5 (.alt 6 (.alt 7 (.done) (.stop)) (.stop)))))))) (fun w'=>True) (by kernel_rfl) 33 hn (by kernel_rfl) (by kernel_rfl) (by kernel_rfl) (trivial) (fun a b ha hb=>?_)
 subst ha
 have hb0:b 0=.pointer (some ⟨B,0,none⟩):=(hb 0).symm.trans h_0
 have hb1:b 1=.int .i64 t:=(hb 1).symm.trans h_1
 have hb2:b 2=.int .i64 i:=(hb 2).symm.trans h_2
 have hb7:b 7=.int .i64 p:=(hb 7).symm.trans h_7
 clear hb h_0 h_1 h_2 h_7
 have HP:=Lib.hid hpost;have HN:=Lib.hid hn
 clear hpost hn
 iterate 6 (refine Eng.TW.tk ?_)
 refine Eng.TW.call rfl rfl (by decide) (by kernel_rfl) ?_ (Key.link ht hp hi _) ?_
 ·go_simp
 rintro e w2 ⟨rfl,hf⟩
 have HF:=Lib.hid ((Fr.drew (fun _=>False) w).trans hf (T:=fun _=>False) (fun _ _ h=>h) (fun _ _ h=>h))
 have HSt2:=Lib.hid (HSt.out.fr hf (fun _ _ h=>h))
 clear hf
 refine ⟨_,rfl,trivial,?_⟩
 refine Eng.TW.call rfl rfl (by decide) (by kernel_rfl) ?_ (HSt2.out.dropK (key3 t p i) sz) ?_
 ·go_simp
 rintro e w3 ⟨rfl,r2',F2',hI,hT⟩
 have HT:=Lib.hid ((Tn.of_fr HF.out hst.lt).trans hT)
 have HSt3:=Lib.hid (hI)
 clear hT hI
 refine ⟨_,rfl,trivial,?_⟩
 refine Eng.TW.end_ [24,25,26,27,28,29,30,31] HN.out (by kernel_rfl) (by kernel_rfl) ?_
 exact HP.out _ _ r2' F2' HSt3.out HT.out
def At (w:World) (b o:Nat) (x:Sn):Prop:=∀j u,x.cs[j]? =some u→w.cell? ⟨b,o+j,none⟩=some u
theorem At.lt {w:World} {b o:Nat} {x:Sn} (h:At w b o x):b<w.heap.size:=World.block_lt_of_cell? w ⟨b,o+0,none⟩ (h 0 _ rfl)
theorem At.fr {S:Nat→Prop} {w w':World} {b o:Nat} {x:Sn} (h:At w b o x) (hf:Fr S w w') (hs:¬S b):At w' b o x:=fun j u hu=>(World.cell?_of_block (w:=w) (a:=⟨b,o+j,none⟩) (hf.block b h.lt hs)).trans (h j u hu)
structure IZ (w:World) (B:Nat) (oz:Value × Value) (M:List (ByteArray × Int)) (K:List (ByteArray × Unit)) (r1 r2:Option Addr) (F1 F2:List Nat) (Bx:Nat) (q:Sn):Prop where
 i:IY w B oz M K r1 r2 F1 F2
 b:At w Bx 0 q
 nb:∀b∈B::(F1++F2),b≠Bx
theorem IZ.fr {w w':World} {B:Nat} {oz:Value × Value} {M:List (ByteArray × Int)} {K:List (ByteArray × Unit)} {r1 r2:Option Addr} {F1 F2:List Nat} {Bx:Nat} {q:Sn} (h:IZ w B oz M K r1 r2 F1 F2 Bx q) (hf:Fr (fun _=>False) w w'):IZ w' B oz M K r1 r2 F1 F2 Bx q:=⟨h.i.fr hf (fun _ _ h=>h),h.b.fr hf (fun h=>h),h.nb⟩
theorem IZ.turn {w w':World} {B:Nat} {oz:Value × Value} {M M':List (ByteArray × Int)} {K K':List (ByteArray × Unit)} {r1 r2 r1' r2':Option Addr} {F1 F2 F1' F2':List Nat} {Bx:Nat} {q:Sn} (h:IZ w B oz M K r1 r2 F1 F2 Bx q) (hi:IY w' B oz M' K' r1' r2' F1' F2') (ht:Tn (B::(F1++F2)) (B::(F1'++F2')) w w'):IZ w' B oz M' K' r1' r2' F1' F2' Bx q:=
 ⟨hi,h.b.fr ht.fr (fun e=>h.nb Bx e rfl),fun b hb e=>by
  subst e
  rcases (ht.sub b hb).1 with e|e
  ·exact h.nb b e rfl
  ·have:=h.b.lt;omega⟩
theorem p3 {ops:Array Oper} (hops:Eng.fnOps Tryz.f78 3=ops) (a0:Act) (Q:Exit→Act→World→Prop) (w:World) (B:Nat) (oz:Value × Value) (M:List (ByteArray × Int)) (K:List (ByteArray × Unit)) (r1 r2:Option Addr) (F1 F2:List Nat) (Bx:Nat) (q:Sn) (hst:IZ w B oz M K r1 r2 F1 F2 Bx q) (sz:M.length<144115188075855872) (hg:gd q)
  (hn:a0.tmps.size=32) (h_0:a0.tmps.getD 0 undef=.pointer (some ⟨B,0,none⟩)) (h_3:a0.tmps.getD 3 undef=.pointer (some ⟨Bx,0,none⟩))
  (hpost:∀ (x:Nat→Value) (w':World) (r1':Option Addr) (F1':List Nat),IZ w' B oz (insL (key2 q.t q.i) q.p M) K r1' r2 F1' F2 Bx q→Tn (B::(F1++F2)) (B::(F1'++F2)) w w'→Q .normal (Eng.setAll a0 [12,13,14,15,16,17,18,19] x) w'):
  (Code.region 3 ops true).wp prog Q a0 w:=by
 simp only [Eng.fnOps,Eng.regOps,Tryz.f78,Option.bind_some,Option.getD_some,Nat.reduceEqDiff,↓reduceIte] at hops
 subst hops
 have HSt:=Lib.hid (hst.fr (Fr.drew (fun _=>False) w))
 refine Eng.regionT (.take 0 (.take 1 (.take 2 (.take 3 (.take 5 (.take 6 (.alt 4 (.alt 7 (.done) (.stop)) (.stop)))))))) (fun w'=>w'.cell? ⟨Bx,0,none⟩=some (.int .i64 q.t)∧w'.cell? ⟨Bx,1,none⟩=some (.int .i64 q.i)∧w'.cell? ⟨Bx,2,none⟩=some (.int .i64 q.p)∧w'.cell? ⟨Bx,3,none⟩=some (.int .i64 q.r)∧w'.cell? ⟨Bx,4,none⟩=some (.string q.s)∧w'.cell? ⟨Bx,5,none⟩=some (.string q.o)∧w'.cell? ⟨Bx,6,none⟩=some (.int .i64 q.b)∧w'.cell? ⟨Bx,7,none⟩=some (.int .i64 q.d)∧w'.cell? ⟨Bx,8,none⟩=some (.bool q.g)) (by kernel_rfl) 32 hn (by kernel_rfl) (by kernel_rfl) (by kernel_rfl) (⟨HSt.out.b 0 _ rfl,HSt.out.b 1 _ rfl,HSt.out.b 2 _ rfl,HSt.out.b 3 _ rfl,HSt.out.b 4 _ rfl,HSt.out.b 5 _ rfl,HSt.out.b 6 _ rfl,HSt.out.b 7 _ rfl,HSt.out.b 8 _ rfl⟩) (fun a b ha hb=>?_)
 subst ha
 have hb0:b 0=.pointer (some ⟨B,0,none⟩):=(hb 0).symm.trans h_0
 have hb3:b 3=.pointer (some ⟨Bx,0,none⟩):=(hb 3).symm.trans h_3
 clear hb h_0 h_3
 have HP:=Lib.hid hpost;have HN:=Lib.hid hn
 clear hpost hn
 iterate 6 (refine Eng.TW.tk ?_)
 refine Eng.TW.call rfl rfl (by decide) (by kernel_rfl) ?_ (Span' q hg.1 hg.2.1 _) ?_
 ·go_simp
 rintro e w2 ⟨rfl,hf⟩
 have HF:=Lib.hid ((Fr.drew (fun _=>False) w).trans hf (T:=fun _=>False) (fun _ _ h=>h) (fun _ _ h=>h))
 have HSt2:=Lib.hid (HSt.out.fr hf)
 clear hf
 refine ⟨_,rfl,⟨HSt2.out.b 0 _ rfl,HSt2.out.b 1 _ rfl,HSt2.out.b 2 _ rfl,HSt2.out.b 3 _ rfl,HSt2.out.b 4 _ rfl,HSt2.out.b 5 _ rfl,HSt2.out.b 6 _ rfl,HSt2.out.b 7 _ rfl,HSt2.out.b 8 _ rfl⟩,?_⟩
 refine Eng.TW.call rfl rfl (by decide) (by kernel_rfl) ?_ (HSt2.out.i.putM (key2 q.t q.i) q.p sz) ?_
 ·go_simp
 rintro e w3 ⟨rfl,r1',F1',hI,hT⟩
 have HT:=Lib.hid ((Tn.of_fr HF.out hst.i.lt).trans hT)
 have HSt3:=Lib.hid (HSt2.out.turn hI hT)
 clear hT hI
 refine ⟨_,rfl,⟨HSt3.out.b 0 _ rfl,HSt3.out.b 1 _ rfl,HSt3.out.b 2 _ rfl,HSt3.out.b 3 _ rfl,HSt3.out.b 4 _ rfl,HSt3.out.b 5 _ rfl,HSt3.out.b 6 _ rfl,HSt3.out.b 7 _ rfl,HSt3.out.b 8 _ rfl⟩,?_⟩
 refine Eng.TW.end_ [12,13,14,15,16,17,18,19] HN.out (by kernel_rfl) (by kernel_rfl) ?_
 exact HP.out _ _ r1' F1' HSt3.out HT.out
theorem p4 {ops:Array Oper} (hops:Eng.fnOps Tryz.f78 4=ops) (a0:Act) (Q:Exit→Act→World→Prop) (w:World) (B:Nat) (oz:Value × Value) (M:List (ByteArray × Int)) (K:List (ByteArray × Unit)) (r1 r2:Option Addr) (F1 F2:List Nat) (Bx:Nat) (q:Sn) (hst:IZ w B oz M K r1 r2 F1 F2 Bx q) (sz:K.length<144115188075855872) (hg:gd q)
  (hn:a0.tmps.size=32) (h_0:a0.tmps.getD 0 undef=.pointer (some ⟨B,0,none⟩)) (h_3:a0.tmps.getD 3 undef=.pointer (some ⟨Bx,0,none⟩))
  (hpost:∀ (x:Nat→Value) (w':World) (r2':Option Addr) (F2':List Nat),IZ w' B oz M (insL (key3 q.t q.p q.i) () K) r1 r2' F1 F2' Bx q→Tn (B::(F1++F2)) (B::(F1++F2')) w w'→Q .normal (Eng.setAll a0 [20,21,22,23,24,25,26,27,28,29,30,31] x) w'):
  (Code.region 4 ops true).wp prog Q a0 w:=by
 simp only [Eng.fnOps,Eng.regOps,Tryz.f78,Option.bind_some,Option.getD_some,Nat.reduceEqDiff,↓reduceIte] at hops
 subst hops
 have HSt:=Lib.hid (hst.fr (Fr.drew (fun _=>False) w))
 refine Eng.regionT (.take 0 (.take 1 (.take 2 (.take 3 (.take 4 (.take 5 (.take 6 (.take 7 (.take 8 (.take 10 (.alt 9 (.alt 11 (.done) (.stop)) (.stop)))))))))))) (fun w'=>w'.cell? ⟨Bx,0,none⟩=some (.int .i64 q.t)∧w'.cell? ⟨Bx,1,none⟩=some (.int .i64 q.i)∧w'.cell? ⟨Bx,2,none⟩=some (.int .i64 q.p)∧w'.cell? ⟨Bx,3,none⟩=some (.int .i64 q.r)∧w'.cell? ⟨Bx,4,none⟩=some (.string q.s)∧w'.cell? ⟨Bx,5,none⟩=some (.string q.o)∧w'.cell? ⟨Bx,6,none⟩=some (.int .i64 q.b)∧w'.cell? ⟨Bx,7,none⟩=some (.int .i64 q.d)∧w'.cell? ⟨Bx,8,none⟩=some (.bool q.g)) (by kernel_rfl) 32 hn (by kernel_rfl) (by kernel_rfl) (by kernel_rfl) (⟨HSt.out.b 0 _ rfl,HSt.out.b 1 _ rfl,HSt.out.b 2 _ rfl,HSt.out.b 3 _ rfl,HSt.out.b 4 _ rfl,HSt.out.b 5 _ rfl,HSt.out.b 6 _ rfl,HSt.out.b 7 _ rfl,HSt.out.b 8 _ rfl⟩) (fun a b ha hb=>?_)
 subst ha
 have hb0:b 0=.pointer (some ⟨B,0,none⟩):=(hb 0).symm.trans h_0
 have hb3:b 3=.pointer (some ⟨Bx,0,none⟩):=(hb 3).symm.trans h_3
 clear hb h_0 h_3
 have HP:=Lib.hid hpost;have HN:=Lib.hid hn
 clear hpost hn
 iterate 10 (refine Eng.TW.tk ?_)
 refine Eng.TW.call rfl rfl (by decide) (by kernel_rfl) ?_ (Key.link hg.1 hg.2.2 hg.2.1 _) ?_
 ·go_simp
 rintro e w2 ⟨rfl,hf⟩
 have HF:=Lib.hid ((Fr.drew (fun _=>False) w).trans hf (T:=fun _=>False) (fun _ _ h=>h) (fun _ _ h=>h))
 have HSt2:=Lib.hid (HSt.out.fr hf)
 clear hf
 refine ⟨_,rfl,⟨HSt2.out.b 0 _ rfl,HSt2.out.b 1 _ rfl,HSt2.out.b 2 _ rfl,HSt2.out.b 3 _ rfl,HSt2.out.b 4 _ rfl,HSt2.out.b 5 _ rfl,HSt2.out.b 6 _ rfl,HSt2.out.b 7 _ rfl,HSt2.out.b 8 _ rfl⟩,?_⟩
 refine Eng.TW.call rfl rfl (by decide) (by kernel_rfl) ?_ (HSt2.out.i.putK (key3 q.t q.p q.i) sz) ?_
 ·go_simp
 rintro e w3 ⟨rfl,r2',F2',hI,hT⟩
 have HT:=Lib.hid ((Tn.of_fr HF.out hst.i.lt).trans hT)
 have HSt3:=Lib.hid (HSt2.out.turn hI hT)
 clear hT hI
 refine ⟨_,rfl,⟨HSt3.out.b 0 _ rfl,HSt3.out.b 1 _ rfl,HSt3.out.b 2 _ rfl,HSt3.out.b 3 _ rfl,HSt3.out.b 4 _ rfl,HSt3.out.b 5 _ rfl,HSt3.out.b 6 _ rfl,HSt3.out.b 7 _ rfl,HSt3.out.b 8 _ rfl⟩,?_⟩
 refine Eng.TW.end_ [20,21,22,23,24,25,26,27,28,29,30,31] HN.out (by kernel_rfl) (by kernel_rfl) ?_
 exact HP.out _ _ r2' F2' HSt3.out HT.out
theorem Drop (B:Nat) (oz:Value × Value) (L:List Sn) (F:List Nat) (t i:Int) (w:World) (h:IB w B oz L F) (ht:wf64 t) (hi:wf64 i) (sz:L.length<1000000):Calls prog 77 #[.pointer (some ⟨B,0,none⟩),.int .i64 t,.int .i64 i] w fun e w'=>e=.returned (.bool (fnd (sn t i 0) L).isSome)∧∃F',IB w' B oz (out t i L) F'∧Tn F F' w w':=by
 have HE:=Lib.hid (Parent B oz L F t i w h ht hi)
 have H:=Lib.hid h
 have HT:=Lib.hid ht;have HI:=Lib.hid hi
 clear h
 cases hf:fnd (sn t i 0) L with
 |none=>
  have HO:Hid (out t i L=L):=out_fnd (x:=sn t i 0) hf
  rw [hf] at HE
  clear hf ht hi
  go_enter func77,ntmps77
  go_wp2_with fail
  refine HE.out.mono ?_
  rintro e w1 ⟨rfl,hf⟩
  have HF:=Lib.hid hf
  clear hf
  dsimp only [Option.isSome_none,Option.map_none,Option.getD_none]
  go_wp2_with fail
  go_ret
  rw [HO.out]
  exact ⟨rfl,F,H.out.fr HF.out (fun _ _ h=>h),Tn.of_fr HF.out H.out.lt⟩
 |some y=>
  obtain ⟨hy,hk⟩:=fnd_some hf
  obtain ⟨k1,k2⟩:=one_iff.1 hk
  have HL:=Lib.hid H.out.lt
  obtain ⟨K,r1,r2,F1,F2,hiy,hr,rfl⟩:=H.out
  have hg:=hr.g y hy
  have HKL:=hr.len
  have HD:Hid (delL (key2 t i) (mp (fun x=>x.p) L)=mp (fun x=>x.p) (out t i L)):=del_mp (x:=sn t i 0) ⟨ht,hi⟩ hr.gk
  have HR:Hid (Rel (out t i L) (delL (key3 t y.p i) K)):=by
   have h:=hr.drop hy
   rw [k1,k2,show k3 y=key3 t y.p i by unfold k3;rw [k1,k2]] at h
   exact h
  have hp:wf64 y.p:=hg.2.2
  have HIY:=Lib.hid hiy
  rw [hf] at HE
  clear hf hy hk k1 k2 hg hr hiy H
  dsimp only [Option.isSome_some,Option.map_some,Option.getD_some] at HE ⊢
  have hlm:(mp (fun x=>x.p) L).length=L.length:=List.length_map _
  have HLm:=Lib.hid hlm
  clear hlm
  generalize y.p=p at *
  go_enter func77,ntmps77
  go_wp2_with fail
  refine HE.out.mono ?_
  rintro e w1 ⟨rfl,hf⟩
  have HF:=Lib.hid hf
  have H1:=Lib.hid (HIY.out.fr hf (fun _ _ h=>h))
  clear hf
  go_upto_region 3 with (fail)
  refine d3 (by kernel_rfl) _ _ w1 B oz _ K r1 r2 F1 F2 t i H1.out (by have:=HLm.out;omega) ht hi rfl rfl rfl rfl ?_
  intro x w2 r1' F1' hI2 hT2
  simp only [Eng.setAll,Act.put,List.setIfInBounds_toArray,List.set_cons_succ,List.set_cons_zero]
  have H2:=Lib.hid hI2;have HT2:=Lib.hid hT2
  clear hI2 hT2
  go_upto_region 4 with (fail)
  refine d4 (by kernel_rfl) _ _ w2 B oz _ K r1' r2 F1' F2 t p i H2.out (by omega) ht hp hi rfl rfl rfl rfl rfl ?_
  intro x w3 r2' F2' hI3 hT3
  simp only [Eng.setAll,Act.put,List.setIfInBounds_toArray,List.set_cons_succ,List.set_cons_zero]
  have hI3':=hI3
  rw [HD.out] at hI3'
  have HP:Hid (∃F',IB w3 B oz (out t i L) F'∧Tn (B::(F1++F2)) F' w w3):=⟨_,⟨_,r1',r2',F1',F2',hI3',HR.out,rfl⟩,((Tn.of_fr HF.out HL.out).trans HT2.out).trans hT3⟩
  clear hI3 hT3 hI3'
  go_wp2_with fail
  go_ret
  exact ⟨rfl,HP.out⟩
theorem Put (B:Nat) (oz:Value × Value) (L:List Sn) (F:List Nat) (x:Sn) (w:World) (h:IB w B oz L F) (hg:gd x) (sz:L.length<1000000):Calls prog 78 #[.pointer (some ⟨B,0,none⟩),x.v] w fun e w'=>e=.returned (.tuple #[])∧∃F',IB w' B oz (putK x L) F'∧Tn F F' w w':=by
 have h0:=h.fr (Fr.alloc (fun _=>False) w (.cells x.arr 38)) (fun _ _ h=>h)
 have HD:=Lib.hid (Drop B oz L F x.t x.i _ h0 hg.1 hg.2.1 sz)
 have HL:=Lib.hid h.lt
 have hBx:∀b∈F,b≠w.heap.size:=fun b hb e=>by have:=h.lt b hb;omega
 have HBx:=Lib.hid hBx
 have HAt:Hid (At (w.alloc (.cells x.arr 38)) w.heap.size 0 x):=fun j u hu=>by
  rw [(Bk.new w x.arr 38).cell,Nat.zero_add]
  have:x.arr[j]? =x.cs[j]? :=by show x.cs.toArray[j]? =_;simp
  rw [this];exact hu
 have HO:=Lib.hid (ins_out (x:=sn x.t x.i x.p) h.rel.1)
 have ho:=out_len x.t x.i L
 have cx0:(w.alloc (.cells x.arr 38)).cell? ⟨w.heap.size,0,none⟩=some (.int .i64 x.t):=HAt.out 0 _ rfl
 have cx1:(w.alloc (.cells x.arr 38)).cell? ⟨w.heap.size,1,none⟩=some (.int .i64 x.i):=HAt.out 1 _ rfl
 have HFr:Hid (Fr (fun _=>False) w (w.alloc (.cells x.arr 38))):=Fr.alloc _ _ _
 clear h h0 hBx
 go_enter func78,ntmps78
 go_upto_region 2 with (fail)
 generalize w.alloc (.cells x.arr 38)=W0 at *
 generalize hBx:w.heap.size=Bx at *
 have HBq:=Lib.hid hBx
 have HLw:Hid (∀b∈F,b<w.heap.size):=fun b hb=>by have:=HL.out b hb;omega
 clear hBx
 go_wp2_with fail
 refine HD.out.mono ?_
 rintro e w1 ⟨rfl,F',hi,ht⟩
 obtain ⟨K,r1,r2,F1,F2,hiy,hr,rfl⟩:=hi
 have H1:Hid (IZ w1 B oz (mp (fun x=>x.p) (out x.t x.i L)) K r1 r2 F1 F2 Bx x):=⟨hiy,HAt.out.fr ht.fr (fun e=>HBx.out _ e rfl),fun b hb e=>by
  subst e
  rcases (ht.sub b hb).1 with e|e
  ·exact HBx.out b e rfl
  ·have:=HAt.out.lt;omega⟩
 have HT:=Lib.hid ht
 have hgk:∀y∈out x.t x.i L,SetP.gk y:=hr.gk
 have HI:Hid (insL (key2 x.t x.i) x.p (mp (fun x=>x.p) (out x.t x.i L))=mp (fun x=>x.p) (putK x L)):=by
  have:=ins_mp (f:=fun x=>x.p) (x:=sn x.t x.i x.p) hr.s ⟨hg.1,hg.2.1⟩ hgk
  rw [HO.out] at this
  exact this
 have HR:Hid (Rel (putK x L) (insL (key3 x.t x.p x.i) () K)):=by
  have:=hr.put (x:=sn x.t x.i x.p) hg rfl (fnd_out (x:=sn x.t x.i x.p))
  rw [HO.out] at this
  exact this
 have hkl:=hr.len
 have hlm:(mp (fun x=>x.p) (out x.t x.i L)).length=(out x.t x.i L).length:=List.length_map _
 have HLm:=Lib.hid hlm
 clear hiy ht hr hgk hlm HD cx0 cx1
 go_upto_region 3 with (fail)
 refine p3 (by kernel_rfl) _ _ w1 B oz _ K r1 r2 F1 F2 Bx x H1.out (by have:=HLm.out;omega) hg rfl rfl rfl ?_
 intro z w2 r1' F1' hI2 hT2
 simp only [Eng.setAll,Act.put,List.setIfInBounds_toArray,List.set_cons_succ,List.set_cons_zero]
 have H2:=Lib.hid hI2;have HT2:=Lib.hid hT2
 clear hI2 hT2
 go_upto_region 4 with (fail)
 refine p4 (by kernel_rfl) _ _ w2 B oz _ K r1' r2 F1' F2 Bx x H2.out (by omega) hg rfl rfl rfl ?_
 intro z w3 r2' F2' hI3 hT3
 simp only [Eng.setAll,Act.put,List.setIfInBounds_toArray,List.set_cons_succ,List.set_cons_zero]
 have hI3':=hI3.i
 rw [HI.out] at hI3'
 have HP:Hid (∃F',IB w3 B oz (putK x L) F'∧Tn F F' w w3):=⟨_,⟨_,r1',r2',F1',F2',hI3',HR.out,rfl⟩,(((Tn.of_fr HFr.out HLw.out).trans HT.out).trans HT2.out).trans hT3⟩
 clear hI3 hT3 hI3'
 go_wp2_with fail
 first| (go_end0;exact ⟨rfl,HP.out⟩)|exact bodyPost_ret (results_none rfl _ _ _) rfl ⟨rfl,HP.out⟩
end KdO
set_option maxRecDepth 100000
set_option maxHeartbeats 2000000
open Go.RowKit Go.Shelf
namespace KdO
open KeyP SetP KidsP
section
attribute [local go_sem] Eng.ev Eng.getO_cons Eng.getO_nil
abbrev TI:TypeId:=3
abbrev TP:TypeId:=206
abbrev TY:TypeId:=262
structure Gw (w0 w:World) (m:Nat):Prop where
 f:Fr (fun _=>False) w0 w
 z:w.heap.size=w0.heap.size+m
theorem Gw.to {w0 w w':World} {m n:Nat} (h:Gw w0 w m) (hf:Fr (fun _=>False) w w') (hz:w'.heap.size=w.heap.size+n):Gw w0 w' (m+n):=⟨h.f.trans hf (fun _ _ h=>h) (fun _ _ h=>h),by rw [hz,h.z];omega⟩
theorem Gw.cell {w0 w:World} {m:Nat} (h:Gw w0 w m) {b o:Nat} {u:Value} (hc:w0.cell? ⟨b,o,none⟩=some u):w.cell? ⟨b,o,none⟩=some u:=
 (World.cell?_of_block (w:=w0) (a:=⟨b,o,none⟩) (h.f.block b (World.block_lt_of_cell? w0 ⟨b,o,none⟩ hc) (fun h=>h))).trans hc
theorem From' (a:Addr) (k:ByteArray) (w:World) (N:Nat) (hz:w.heap.size=N):Calls prog 189 #[.pointer (some a),.string k] w fun e w'=>e=.returned (.func (.func 214) #[] #[.pointer (some ⟨N,0,none⟩),.pointer (some ⟨N+1,0,none⟩)])∧Fr (fun _=>False) w w'∧w'.heap.size=w.heap.size+2∧w'.cell? ⟨N,0,none⟩=some (.pointer (some a))∧w'.cell? ⟨N+1,0,none⟩=some (.string k):=by
 subst hz
 refine (AvlSN.From (some a) k w).mono ?_
 rintro e w' ⟨rfl,rfl⟩
 refine ⟨rfl,(Fr.alloc _ _ _).trans (Fr.alloc (fun _=>False) _ _) (fun _ _ h=>h) (fun _ _ h=>h),by simp,?_,?_⟩
 ·exact ((Bk.new w _ _).fr (Fr.alloc (fun _=>False) _ _) (fun _ _ h=>h)).cell 0
 ·have:=(Bk.new (w.alloc (.cells #[.pointer (some a)] 269)) #[.string k] 9).cell 0
  rwa [World.size_alloc] at this
theorem k2 {ops:Array Oper} (hops:Eng.fnOps Tryz.f188 2=ops) (a0:Act) (Q:Exit→Act→World→Prop) (w:World) (B Bx Bt Bi:Nat) (t p:Int) (c1:w.cell? ⟨Bx,0,none⟩=some (.pointer (some ⟨B,0,none⟩))) (c2:w.cell? ⟨Bt,0,none⟩=some (.int .i64 t)) (c3:w.cell? ⟨Bi,0,none⟩=some (.int .i64 p)) (ht:wf64 t) (hp:wf64 p)
  (hn:a0.tmps.size=49) (h_1:a0.tmps.getD 1 undef=.pointer (some ⟨Bx,0,none⟩)) (h_2:a0.tmps.getD 2 undef=.pointer (some ⟨Bt,0,none⟩)) (h_3:a0.tmps.getD 3 undef=.pointer (some ⟨Bi,0,none⟩))
  (hpost:∀ (x:Nat→Value) (w':World),x 20=.func (.func 214) #[] #[.pointer (some ⟨w.heap.size+3,0,none⟩),.pointer (some ⟨w.heap.size+3+1,0,none⟩)]→Gw w w' 5→(w'.cell? ⟨w.heap.size+3,0,none⟩=some (.pointer (some ⟨B,2,none⟩))∧w'.cell? ⟨w.heap.size+3+1,0,none⟩=some (.string (key3 t p mn)))→Q .normal (Eng.setAll a0 [14,15,16,17,18,19,20] x) w'):
  (Code.region 2 ops true).wp prog Q a0 w:=by
 simp only [Eng.fnOps,Eng.regOps,Tryz.f188,Option.bind_some,Option.getD_some,Nat.reduceEqDiff,↓reduceIte] at hops
 subst hops
 have HSt:=Lib.hid ((⟨Fr.drew _ _,rfl⟩:Gw w w.drew 0))
 refine Eng.regionT (.take 0 (.take 1 (.take 2 (.take 3 (.take 4 (.alt 5 (.alt 6 (.done) (.stop)) (.stop))))))) (fun w'=>w'.cell? ⟨Bx,0,none⟩=some (.pointer (some ⟨B,0,none⟩))∧w'.cell? ⟨Bt,0,none⟩=some (.int .i64 t)∧w'.cell? ⟨Bi,0,none⟩=some (.int .i64 p)) (by kernel_rfl) 49 hn (by kernel_rfl) (by kernel_rfl) (by kernel_rfl) (⟨HSt.out.cell c1,HSt.out.cell c2,HSt.out.cell c3⟩) (fun a b ha hb=>?_)
 subst ha
 have hb1:b 1=.pointer (some ⟨Bx,0,none⟩):=(hb 1).symm.trans h_1
 have hb2:b 2=.pointer (some ⟨Bt,0,none⟩):=(hb 2).symm.trans h_2
 have hb3:b 3=.pointer (some ⟨Bi,0,none⟩):=(hb 3).symm.trans h_3
 clear hb h_1 h_2 h_3
 have HP:=Lib.hid hpost;have HN:=Lib.hid hn
 clear hpost hn
 iterate 5 (refine Eng.TW.tk ?_)
 refine Eng.TW.call rfl rfl (by decide) (by kernel_rfl) ?_ (Key.link_n ht hp wf_mn _) ?_
 ·go_simp
 rintro e w2 ⟨rfl,hf,hz⟩
 have HSt2:=Lib.hid (HSt.out.to hf hz)
 clear hf hz
 refine ⟨_,rfl,⟨HSt2.out.cell c1,HSt2.out.cell c2,HSt2.out.cell c3⟩,?_⟩
 refine Eng.TW.call rfl rfl (by decide) (by kernel_rfl) ?_ (From' ⟨B,2,none⟩ (key3 t p mn) _ (w.heap.size+3) HSt2.out.z) ?_
 ·go_simp
 rintro e w3 ⟨rfl,hf,hz,hq1,hq2⟩
 have HSt3:=Lib.hid (HSt2.out.to hf hz)
 have HQ:=Lib.hid (⟨hq1,hq2⟩:_∧_)
 clear hf hz hq1 hq2
 refine ⟨_,rfl,⟨HSt3.out.cell c1,HSt3.out.cell c2,HSt3.out.cell c3⟩,?_⟩
 refine Eng.TW.end_ [14,15,16,17,18,19,20] HN.out (by kernel_rfl) (by kernel_rfl) ?_
 exact HP.out _ _ rfl HSt3.out HQ.out
end
attribute [local go_sem] Oper.semAt_some
theorem pre_run {α:Type} {p:α→Bool}:∀ {L:List α} {m:Nat},(∀y∈L.take m,p y=true)→L.take m<+:L.takeWhile p
 | [],m,_=>by simp
 |a::L,0,_=>by simp
 |a::L,m+1,h=>by
  rw [List.take_succ_cons,List.takeWhile_cons,h a (by simp),if_pos rfl]
  exact List.cons_prefix_cons.2 ⟨rfl,pre_run (fun y hy=>h y (by simp [hy]))⟩
theorem run_stop {α:Type} {p:α→Bool}:∀ {L:List α} {m:Nat},(∀y∈L.take m,p y=true)→(∀h:m<L.length,p L[m]=false)→L.takeWhile p=L.take m
 | [],m,_,_=>by simp
 |a::L,0,_,h=>by rw [List.takeWhile_cons,show p a=false from h (by simp)];simp
 |a::L,m+1,h,h2=>by
  rw [List.take_succ_cons,List.takeWhile_cons,h a (by simp),if_pos rfl,run_stop (L:=L) (m:=m) (fun y hy=>h y (by simp [hy])) (fun hm=>h2 (by simpa using hm))]
abbrev own (t p:Int):Sn→Bool:=fun x=>decide (x.t=t)&&decide (x.p=p)
structure KI (J:List Int→World→Prop) (N Bt Bi l:Nat) (t p:Int) (KQ:List Sn) (m:Nat) (W:World):Prop where
 j:J ((KQ.take m).map (fun s:Sn=>s.i)) W
 a:∀x∈KQ.take m,own t p x=true
 y:Bk W N #[.func (.yield l) #[] #[]] TY
 bt:Bk W Bt #[.int .i64 t] TI
 bi:Bk W Bi #[.int .i64 p] TI
 sz:N+6≤W.heap.size
theorem KI.fr {J:List Int→World→Prop} {N Bt Bi l:Nat} {t p:Int} {KQ:List Sn} {m:Nat} {W W':World} {S:Nat→Prop} (h:KI J N Bt Bi l t p KQ m W) (hJ:Abide N (N+8) J) (hf:Fr S W W') (hS:∀b,b<W.heap.size→S b→Rg N (N+8) b) (h1:¬S N) (h2:¬S Bt) (h3:¬S Bi):KI J N Bt Bi l t p KQ m W':=
 ⟨hJ _ _ _ h.j (hf.mono hS),h.a,h.y.fr hf (fun b hb=>by simp at hb;subst hb;exact h1),h.bt.fr hf (fun b hb=>by simp at hb;subst hb;exact h2),h.bi.fr hf (fun b hb=>by simp at hb;subst hb;exact h3),Nat.le_trans h.sz hf.size⟩
def KX (J Jx:List Int→World→Prop) (N:Nat) (LL:List Int) (k:Code) (A:World):Prop:=(k=.exit 0∧(J LL A∨∃q,q<+:LL∧Jx q A))∧N+6≤A.heap.size
theorem KX.fr {J Jx:List Int→World→Prop} {N:Nat} {LL:List Int} {k:Code} {A C:World} {S:Nat→Prop} (h:KX J Jx N LL k A) (hJ:Abide N (N+8) J) (hJx:Abide N (N+8) Jx) (hf:Fr S A C) (hS:∀b,b<A.heap.size→S b→Rg N (N+8) b):KX J Jx N LL k C:=by
 obtain ⟨⟨rfl,h1⟩,h2⟩:=h
 refine ⟨⟨rfl,?_⟩,Nat.le_trans h2 hf.size⟩
 rcases h1 with h1| ⟨q,h3,h4⟩
 ·exact .inl (hJ _ _ _ h1 (hf.mono hS))
 ·exact .inr ⟨q,h3,hJx _ _ _ h4 (hf.mono hS)⟩
theorem SplitK3 (x:Sn) (hx:gd x) (w:World):Calls prog 190 #[.string (k3 x)] w fun e w'=>e=.returned (.tuple #[.int .i64 x.t,.string (key2 x.p x.i),.bool true])∧Fr (fun _=>False) w w':=Key.SplitEnd hx.1 (kb x.p++kb x.i) rfl w
theorem roundIn_in {m l l2:Nat} {P:Program} {fn:FuncId} {tmps:Array Value} {assign body:Code} {W:World} {R:Ending→World→Prop} (h:RoundIn Fence.wide m P l fn tmps assign body W R):RoundIn (Fence.wide.inRound l2) m P l fn tmps assign body W R:=h
theorem Kids_seq (FP:List Nat) (B:Nat) (oz:Value × Value) (Bx Bt Bi:Nat) (L:List Sn) (F:List Nat) (t p:Int) (w:World) (h:IB w B oz L F) (hx:Bk w Bx #[.pointer (some ⟨B,0,none⟩)] TP) (hbt:Bk w Bt #[.int .i64 t] TI) (hbi:Bk w Bi #[.int .i64 p] TI) (wt:wf64 t) (wp:wf64 p) (hF:∀b∈F,b∈FP) (hBt:Bt∈FP) (hBi:Bi∈FP) (hFP:∀b∈FP,b<w.heap.size):
  SeqP prog 188 #[.pointer (some ⟨Bx,0,none⟩),.pointer (some ⟨Bt,0,none⟩),.pointer (some ⟨Bi,0,none⟩)] (fun k:Int=> #[.int .i64 k]) FP 8 (kids t p L) w:=by
 intro n l J Jx W hW hJ hJx hY h0
 have hfw:=Fr.of_below' hW (fun _=>False)
 have h:=h.fr hfw (fun _ _ h=>h)
 have hx:=hx.fr hfw (fun _ _ h=>h)
 have hbt:=hbt.fr hfw (fun _ _ h=>h)
 have hbi:=hbi.fr hfw (fun _ _ h=>h)
 have hFP:∀b∈FP,b<W.heap.size:=fun b hb=>Nat.lt_of_lt_of_le (hFP b hb) hfw.size
 clear hfw hW
 obtain ⟨K,r1,r2,F1,F2,hiy,hr,rfl⟩:=h
 obtain ⟨KL,rfl,hK,hm⟩:=hr.items
 obtain ⟨run1,run2⟩:=kids_run hK hr.g hm wt wp
 rw [ofP_eq hr.s hK hm] at run2
 have hgd:∀y∈KL.filter (lo3 t p),gd y:=fun y hy=>hr.g y ((hm y).1 (List.mem_filter.1 hy).1)
 have hMP:AvlSN.MapP W (some ⟨B,2,none⟩) (KL.map (fun x=>(k3 x,()))) F2:=.inr ⟨B,2,r2,rfl,hiy.cells.2.2.1,hiy.m2⟩
 have hF2:∀b∈F2,b∈FP:=fun b hb=>hF b (by simp [hb])
 generalize hKQ:KL.filter (lo3 t p)=KQ at *
 have hLL:kids t p L=(KQ.takeWhile (own t p)).map (fun s:Sn=>s.i):=by show (ofP t p L).map _=_;rw [←run2]
 rw [hLL] at hY ⊢
 generalize hLs:(KQ.takeWhile (own t p)).map (fun s:Sn=>s.i)=LL at *
 have HLs:=Lib.hid hLs
 clear hLs
 clear hr hm hK hiy hKQ run2 hF hLL
 have c1:=hx.cell 0;have c2:=hbt.cell 0;have c3:=hbi.cell 0
 have lt1:=lt_of_heap hx;have lt2:=lt_of_heap hbt;have lt3:=lt_of_heap hbi
 have HGd:=Lib.hid hgd;have HMP:=Lib.hid hMP;have HRun:=Lib.hid run1;have HFP:=Lib.hid hFP;have HF2:=Lib.hid hF2;have HY:=Lib.hid hY;have HJ:=Lib.hid hJ;have HJx:=Lib.hid hJx;have H0:=Lib.hid h0
 have HBt:=Lib.hid hbt;have HBi:=Lib.hid hbi
 have HBt2:=Lib.hid hBt;have HBi2:=Lib.hid hBi
 clear hgd hMP run1 hFP hF2 hY hJ hJx h0 hx hbt hbi hBt hBi
 refine callsIn_of_wp_marks func188 rfl trivial ?_ rfl
 simp only [ntmps188,List.size_toArray,List.length_cons,List.length_nil,Nat.reduceAdd,Nat.reduceSub,Array.replicate_succ,Array.replicate_zero,List.push_toArray,List.append_toArray,List.nil_append,List.cons_append]
 refine wpIn_wide.2 ?_
 go_wp2_with fail
 go_step3
 go_wp2_with fail
 go_step3
 go_wp2_with fail
 have hV:Gw W (W.alloc (.cells #[.func (.yield l) #[] #[]] TY)) 1:=⟨Fr.alloc _ _ _,by simp⟩
 have hy0:=Bk.new W #[.func (.yield l) #[] #[]] TY
 generalize W.alloc (.cells #[.func (.yield l) #[] #[]] TY)=V at *
 refine k2 (by kernel_rfl) _ _ V B Bx Bt Bi t p (hV.cell c1) (hV.cell c2) (hV.cell c3) wt wp rfl rfl rfl rfl ?_
 intro x W1 e20 hG hq
 simp only [Eng.setAll,Act.put,List.setIfInBounds_toArray,List.set_cons_succ,List.set_cons_zero]
 rw [e20]
 have hz:=hV.z
 rw [hz] at hq ⊢
 have hG6:Gw W W1 6:=hV.to hG.f hG.z
 have hy1:Bk W1 W.heap.size #[.func (.yield l) #[] #[]] TY:=hy0.fr hG.f (fun _ _ h=>h)
 have HG6:=Lib.hid hG6;have HY1:=Lib.hid hy1;have HQ:=Lib.hid hq
 have HBt1:Hid (Bk W1 Bt #[.int .i64 t] TI):=HBt.out.fr hG6.f (fun _ _ h=>h)
 have HBi1:Hid (Bk W1 Bi #[.int .i64 p] TI):=HBi.out.fr hG6.f (fun _ _ h=>h)
 have HMP1:Hid (AvlSN.MapP W1 (some ⟨B,2,none⟩) (KL.map (fun x=>(k3 x,()))) F2):=HMP.out.below (hG6.f.below (Nat.le_refl _) (fun _ _ h=>h))
 have HJ1:Hid (J [] W1):=HJ.out _ _ _ H0.out (hG6.f.mono (fun _ _ h=>h.elim))
 have n6:W1.heap.size=W.heap.size+6:=hG6.z
 have HN:=Lib.hid n6
 clear e20 hz hq hG6 hy1 hy0 hG hV HBt HBi HMP H0 n6 c1 c2 c3
 go_wp2_with fail
 have hseq:=AvlSN.From_seq ((W.heap.size+1+3+1)::F2) (W.heap.size+1+3) (W.heap.size+1+3+1) (key3 t p mn) (some ⟨B,2,none⟩) (KL.map (fun x=>(k3 x,()))) F2 W1 HQ.out.1 (by have:=HN.out;omega) HQ.out.2 (by have:=HN.out;omega) (by simp) HMP1.out (fun b hb=>by simp [hb])
 rw [HRun.out] at hseq
 refine (wpIn_wide (n:=n)).1 ?_
 refine range_P' (n:=n) (a₁:=?fr) (gf:=214) (lb:= #[.pointer (some ⟨W.heap.size+1+3,0,none⟩),.pointer (some ⟨W.heap.size+1+3+1,0,none⟩)]) rfl (enters_of func214 (by kernel_rfl) rfl)
  hseq (fun b hb=>by
   rcases List.mem_cons.1 hb with rfl|hb
   ·have:=HN.out;omega
   ·have:=HFP.out b (HF2.out b hb);have:=HN.out;omega) (fun _=>rfl)
  (fun (pre:List (ByteArray × Unit)) (A:World)=>KI J W.heap.size Bt Bi l t p KQ pre.length A)
  (fun k (_:List (ByteArray × Unit)) (A:World)=>KX J Jx W.heap.size LL k A)
  (fun pre A C hA hf=>hA.fr HJ.out hf (fun b _ hb=>⟨by have:=hb.1;have:=HN.out;omega,by have:=hb.2;have:=HN.out;omega⟩) (fun hb=>by have:=hb.1;have:=HN.out;omega) (fun hb=>by have:=hb.1;have:=HN.out;omega) (fun hb=>by have:=hb.1;have:=HN.out;omega))
  (fun k pre A C hA hf=>hA.fr HJ.out HJx.out hf (fun b _ hb=>⟨by have:=hb.1;have:=HN.out;omega,by have:=hb.2;have:=HN.out;omega⟩))
  ⟨by simpa using HJ1.out,by simp,HY1.out,HBt1.out,HBi1.out,by have:=HN.out;omega⟩ ?assign ?body ?done ?stop
 case assign=>
  intro l m x W K hK
  gi_wp2
  exact hK
 case body=>
  rintro l2 m pre x W2 hI hsz hpre rfl ⟨r,hl⟩ hd
  (try dsimp only)
  have hlt:pre.length<KQ.length:=by have:=hpre.length_le;rw [List.length_append,List.length_singleton,List.length_map] at this;omega
  have hx:x=(k3 KQ[pre.length],()):=by
   obtain ⟨t',ht'⟩:=hpre
   have h1:(KQ.map (fun x=>(k3 x,())))[pre.length]? =some x:=by rw [←ht'];simp
   rw [List.getElem?_map,List.getElem?_eq_getElem hlt] at h1
   simpa using h1.symm
  subst hx
  have hg:=HGd.out _ (List.getElem_mem hlt)
  have HSp:=Lib.hid (SplitK3 KQ[pre.length] hg W2)
  have HSp2:=Lib.hid (fun A:World=>Key.Split hg.2.2 hg.2.1 A)
  have HI:=Lib.hid hI;have HSz:=Lib.hid hsz
  have HTk:=Lib.hid (List.take_succ_eq_append_getElem hlt)
  have HStop:Hid (own t p KQ[pre.length]=false→J LL W2):=fun h=>by rw [←HLs.out,run_stop HI.out.a (fun _=>h)];exact HI.out.j
  have HAll:Hid (own t p KQ[pre.length]=true→∀x∈KQ.take (pre.length+1),own t p x=true):=fun h x hx=>by
   rw [HTk.out,List.mem_append] at hx
   rcases hx with hx|hx
   ·exact HI.out.a x hx
   ·simp at hx;rw [hx];exact h
  clear hg hI hl hd hpre hsz
  generalize hy:KQ[pre.length]=y at *
  clear hy
  generalize k3 y=ee at *
  dsimp only at *
  gi_wp2_with fail
  refine ⟨trivial,fun h=>(by cases h),CallsIn.inRound _ (callsIn_wide.2 ?_)⟩
  refine HSp.out.mono ?_
  rintro e w1 ⟨rfl,hf1⟩
  have HF1:=Lib.hid hf1
  clear hf1 HSp
  gi_wp2_with fail
  refine ⟨trivial,fun h=>(by cases h),CallsIn.inRound _ (callsIn_wide.2 ?_)⟩
  refine (HSp2.out _).mono ?_
  rintro e w2 ⟨rfl,hf2⟩
  have hf:=HF1.out.trans hf2 (T:=fun _=>False) (fun _ _ h=>h) (fun _ _ h=>h)
  have hI2:KI J W.heap.size Bt Bi l t p KQ pre.length w2:=HI.out.fr HJ.out hf (fun _ _ h=>h.elim) (fun h=>h) (fun h=>h) (fun h=>h)
  have HF:=Lib.hid hf;have HI2:=Lib.hid hI2
  have ct:w2.cell? ⟨Bt,0,none⟩=some (.int .i64 t):=hI2.bt.cell 0
  have ci:w2.cell? ⟨Bi,0,none⟩=some (.int .i64 p):=hI2.bi.cell 0
  have cy:w2.cell? ⟨W.heap.size,0,none⟩=some (.func (.yield l) #[] #[]):=hI2.y.cell 0
  clear hf2 hf hI2 HSp2 HF1
  by_cases h1:y.t=t
  ·by_cases h2:y.p=p
   ·have q1:(y.t != t)=false:=by simp [h1]
    have q2:(y.p != p)=false:=by simp [h2]
    have HOwn:Hid (own t p y=true):=by show _=_;simp [own,h1,h2]
    have hall:=HAll.out HOwn.out
    have hpre2:(KQ.take pre.length).map (fun s:Sn=>s.i)++ [y.i]<+:LL:=by
     have:=(pre_run hall).map (fun s:Sn=>s.i)
     rwa [HTk.out,List.map_append,HLs.out] at this
    have HAl:=Lib.hid hall;have HPre:=Lib.hid hpre2
    have hsz2:W.heap.size+8≤w2.heap.size:=by have:=HF.out.size;have:=HSz.out;have:=HN.out;omega
    obtain ⟨fn,tmps,assign,body,hyy,hR⟩:=HY.out (m-1) _ y.i w2 HI2.out.j hsz2 hpre2
    have HR:=Lib.hid hR
    have HSz2:=Lib.hid hsz2
    clear hall hpre2 hR h1 h2 hsz2
    gi_wp2_with fail
    refine ⟨fun h=>(by cases h),roundIn_in (HR.out.mono ?_)⟩
    rintro e W3 (⟨rfl,j3,k3',r3,s3⟩| ⟨rfl,j3,r3,s3⟩)
    ·have HJ3:=Lib.hid j3;have HK3:=Lib.hid k3';have HR3:=Lib.hid r3;have HS3:=Lib.hid s3
     clear j3 k3' r3 s3 HR hyy ct ci cy
     gi_wp2_with fail
     have hn:=HN.out
     have hrg:∀b,Rg W1.heap.size (W1.heap.size+2+0) b→Rg W.heap.size (W.heap.size+8) b:=fun b hb=>⟨by have:=hb.1;omega,by have:=hb.2;omega⟩
     have keep:∀b,b<W2.heap.size→W2.heap.size≤w2.heap.size→W3.heap[b]? =w2.heap[b]? →W3.heap[b]? =W2.heap[b]? :=fun b hb _ e=>e.trans (HF.out.block b hb (fun h=>h))
     have hw2:=HF.out.size
     refine ⟨fun b hb=>keep b (by have:=hb.2;have:=HSz.out;omega) hw2 (HR3.out b (hrg b hb)),Nat.le_trans hw2 HS3.out,fun b hb=>?_,?_⟩
     ·rcases List.mem_cons.1 hb with rfl|hb
      ·exact keep _ (by have:=HSz.out;omega) hw2 (HR3.out _ ⟨by omega,by omega⟩)
      ·have:=HFP.out b (HF2.out b hb)
       exact keep b (by have:=HSz.out;omega) hw2 (HK3.out b (HF2.out b hb))
     ·show KI J W.heap.size Bt Bi l t p KQ (pre++ [(ee,())]).length W3
      rw [List.length_append,List.length_singleton]
      exact ⟨by rw [HTk.out,List.map_append];exact HJ3.out,HAl.out,(HR3.out _ ⟨Nat.le_refl _,by omega⟩).trans HI2.out.y,(HK3.out _ HBt2.out).trans HI2.out.bt,(HK3.out _ HBi2.out).trans HI2.out.bi,by have:=HS3.out;have:=HSz2.out;omega⟩
    ·have HJ3:=Lib.hid j3;have HR3:=Lib.hid r3;have HS3:=Lib.hid s3
     clear j3 r3 s3 HR hyy ct ci cy
     gi_wp2_with fail
     have hn:=HN.out
     have hw2:=HF.out.size
     exact ⟨fun b hb=>(HR3.out b ⟨by have:=hb.1;omega,by have:=hb.2;omega⟩).trans (HF.out.block b (by have:=hb.2;have:=HSz.out;omega) (fun h=>h)),Nat.le_trans hw2 HS3.out,⟨rfl,.inr ⟨_,HPre.out,HJ3.out⟩⟩,by have:=HS3.out;have:=HSz2.out;omega⟩
   ·have q1:(y.t != t)=false:=by simp [h1]
    have q2:(y.p != p)=true:=by simp [h2]
    have HE:=Lib.hid (HStop.out (by simp [own,h2]))
    clear h1 h2
    gi_wp2_with fail
    refine ⟨fun _ h=>(by cases h),?_⟩
    gi_wp2_with fail
    exact ⟨KeptR.of_fr HF.out HSz.out (fun _ _ h=>h),HF.out.size,⟨rfl,.inl (HJ.out _ _ _ HE.out (HF.out.mono (fun _ _ h=>h.elim)))⟩,HI2.out.sz⟩
  ·have q1:(y.t != t)=true:=by simp [h1]
   have HE:=Lib.hid (HStop.out (by simp [own,h1]))
   clear h1
   gi_wp2_with fail
   refine ⟨fun _ h=>(by cases h),?_⟩
   gi_wp2_with fail
   exact ⟨KeptR.of_fr HF.out HSz.out (fun _ _ h=>h),HF.out.size,⟨rfl,.inl (HJ.out _ _ _ HE.out (HF.out.mono (fun _ _ h=>h.elim)))⟩,HI2.out.sz⟩
 case done=>
  rintro W3 hsz hI hK
  rw [List.length_map] at hI
  have hj:=hI.j
  have hall:=hI.a
  rw [List.take_length] at hj hall
  rw [show KQ.map (fun s:Sn=>s.i)=LL by rw [←HLs.out,run_stop (m:=KQ.length) (by rw [List.take_length];exact hall) (fun h=>absurd h (Nat.lt_irrefl _)),List.take_length]] at hj
  have HJ3:=Lib.hid hj;have HK:=Lib.hid hK
  clear hI hj hall hK
  go_wp2_with fail
  try rw [Exit.noGoto_ret]
  refine ⟨by simp,.inl ⟨_,_,rfl,run_takeDeferred HK.out,?_⟩⟩
  have hn:=HN.out
  have hf:=Fr.putObj W3 W1.heap.size (.deferred none) (S:=Rg W.heap.size (W.heap.size+8)) ⟨by omega,by omega⟩
  refine ⟨.tuple #[],by simp [results,Tryz.results188,go_sem],⟨_,rfl⟩,by have:=hf.size;omega,.inl (HJ.out _ _ _ HJ3.out hf)⟩
 case stop=>
  rintro k pre W3 hsz hpre ⟨⟨rfl,hI⟩,hsz0⟩ hK
  have HI3:=Lib.hid hI;have HK:=Lib.hid hK
  clear hI hK
  refine (wpIn_wide (n:=n)).2 ?_
  go_wp2_with fail
  try rw [Exit.noGoto_ret]
  refine ⟨by simp,.inl ⟨_,_,rfl,run_takeDeferred HK.out,?_⟩⟩
  have hn:=HN.out
  have hf:=Fr.putObj W3 W1.heap.size (.deferred none) (S:=Rg W.heap.size (W.heap.size+8)) ⟨by omega,by omega⟩
  refine ⟨.tuple #[],by simp [results,Tryz.results188,go_sem],⟨_,rfl⟩,by have:=hf.size;omega,?_⟩
  rcases HI3.out with h| ⟨q,h1,h2⟩
  ·exact .inl (HJ.out _ _ _ h hf)
  ·exact .inr ⟨q,h1,HJx.out _ _ _ h2 hf⟩
end KdO
set_option maxRecDepth 100000
set_option maxHeartbeats 1000000
attribute [local go_sem] Oper.semAt_some
namespace KdO
open KeyP SetP KidsP
def KidsPost (a:Option Addr) (t p:Int) (w:World) (e:Ending) (w':World):Prop:=e=.returned (.func (.func 188) #[] #[.pointer (some ⟨w.heap.size,0,none⟩),.pointer (some ⟨w.heap.size+1,0,none⟩),.pointer (some ⟨w.heap.size+2,0,none⟩)])∧Gw w w' 3∧Bk w' w.heap.size #[.pointer a] TP∧Bk w' (w.heap.size+1) #[.int .i64 t] TI∧Bk w' (w.heap.size+2) #[.int .i64 p] TI
theorem Kids_ (a:Option Addr) (t p:Int) (w:World):Calls prog 134 #[.pointer a,.int .i64 t,.int .i64 p] w (KidsPost a t p w):=by
 have HP:Hid (KidsPost a t p w (.returned (.func (.func 188) #[] #[.pointer (some ⟨w.heap.size,0,none⟩),.pointer (some ⟨w.heap.size+1,0,none⟩),.pointer (some ⟨w.heap.size+2,0,none⟩)])) (((w.alloc (.cells #[.pointer a] TP)).alloc (.cells #[.int .i64 t] TI)).alloc (.cells #[.int .i64 p] TI))):=by
  have fa:=fun (w:World) (o:Obj)=>Fr.alloc (fun _=>False) w o
  refine ⟨rfl,⟨((fa _ _).trans (fa _ _) (T:=fun _=>False) (fun _ _ h=>h) (fun _ _ h=>h)).trans (fa _ _) (fun _ _ h=>h) (fun _ _ h=>h),by simp⟩,((Bk.new w _ _).fr (fa _ _) (fun _ _ h=>h)).fr (fa _ _) (fun _ _ h=>h),?_,?_⟩
  ·have:=(Bk.new (w.alloc (.cells #[.pointer a] TP)) #[.int .i64 t] TI).fr (fa _ (.cells #[.int .i64 p] TI)) (fun _ _ h=>h)
   rwa [World.size_alloc] at this
  ·have:=Bk.new ((w.alloc (.cells #[.pointer a] TP)).alloc (.cells #[.int .i64 t] TI)) #[.int .i64 p] TI
   rwa [World.size_alloc,World.size_alloc] at this
 go_enter func134,ntmps134
 go_wp2_with fail
 go_ret
 exact HP.out
structure KF (w W1:World) (N:Nat) (m:Nat) (W:World):Prop where
 c:Bk W N #[.int .i64 (m:Int)] TI
 b:Below w.heap.size w W
 z:W1.heap.size≤W.heap.size
theorem Fan_of (a:Option Addr) (LL:List Int) (F:List Nat) (t p:Int) (w:World) (hF:∀b∈F,b<w.heap.size) (hlen:LL.length≤1000000)
  (hq:∀W1 Bx Bt Bi,Fr (fun _=>False) w W1→Bk W1 Bx #[.pointer a] TP→Bk W1 Bt #[.int .i64 t] TI→Bk W1 Bi #[.int .i64 p] TI→SeqP prog 188 #[.pointer (some ⟨Bx,0,none⟩),.pointer (some ⟨Bt,0,none⟩),.pointer (some ⟨Bi,0,none⟩)] (fun k:Int=> #[.int .i64 k]) (Bt::Bi::F) 8 LL W1):
  Calls prog 147 #[.pointer a,.int .i64 t,.int .i64 p] w fun e w'=>e=.returned (.int .i64 LL.length)∧Fr (fun _=>False) w w':=by
 have HQ:=Lib.hid hq;have HF:=Lib.hid hF;have HLen:=Lib.hid hlen
 have HK:=fun w=>Lib.hid (Kids_ a t p w)
 clear hq hF hlen
 refine (callsIn_wide (n:=3)).1 ?_
 refine callsIn_of_wp_marks func147 rfl trivial ?_ rfl
 simp only [ntmps147,List.size_toArray,List.length_cons,List.length_nil,Nat.reduceAdd,Nat.reduceSub,Array.replicate_succ,Array.replicate_zero,List.push_toArray,List.append_toArray,List.nil_append,List.cons_append]
 refine wpIn_wide.2 ?_
 go_wp2_with fail
 have hN:=Bk.new w #[.int .i64 (0:Int)] TI
 have hfa:=Fr.alloc (fun _=>False) w (.cells #[.int .i64 (0:Int)] TI)
 have hz0:(w.alloc (.cells #[.int .i64 (0:Int)] TI)).heap.size=w.heap.size+1:=by simp
 generalize w.alloc (.cells #[.int .i64 (0:Int)] TI)=V at *
 refine (HK V).out.mono ?_
 rintro e W1 ⟨rfl,hg,hbx,hbt,hbi⟩
 have hf1:=hfa.trans hg.f (T:=fun _=>False) (fun _ _ h=>h) (fun _ _ h=>h)
 have hseq:=HQ.out W1 _ _ _ hf1 hbx hbt hbi
 have hz:=hg.z
 rw [hz0] at hseq hz ⊢
 have HZ:Hid (W1.heap.size=w.heap.size+4):=by show _=_;omega
 have HN1:Hid (Bk W1 w.heap.size #[.int .i64 (0:Int)] TI):=hN.fr hg.f (fun _ _ h=>h)
 have HB1:Hid (Below w.heap.size w W1):=hf1.below (Nat.le_refl _) (fun _ _ h=>h)
 clear hN hfa hz0 hg hbx hbt hbi hf1 hz HK
 go_wp2_with fail
 refine (wpIn_wide (n:=3)).1 ?_
 refine range_P' (n:=3) (a₁:=?fr) (gf:=188) (lb:= #[.pointer (some ⟨w.heap.size+1,0,none⟩),.pointer (some ⟨w.heap.size+1+1,0,none⟩),.pointer (some ⟨w.heap.size+1+2,0,none⟩)]) rfl (enters_of func188 (by kernel_rfl) rfl)
  hseq (fun b hb=>by
   have:=HZ.out
   rcases List.mem_cons.1 hb with rfl|hb
   ·omega
   ·rcases List.mem_cons.1 hb with rfl|hb
    ·omega
    ·have:=HF.out b hb;omega) (fun _=>rfl)
  (fun (pre:List Int) (A:World)=>KF w W1 w.heap.size pre.length A)
  (fun k (_:List Int) (A:World)=>False)
  (fun pre A C hA hf=>⟨hA.c.fr hf (fun b hb h=>by simp at hb;have:=h.1;have:=HZ.out;omega),hA.b.trans (hf.below (by have:=hA.z;have:=HZ.out;omega) (fun k hk h=>by have:=h.1;have:=HZ.out;omega)),Nat.le_trans hA.z hf.size⟩)
  (fun k pre A C hA hf=>hA.elim)
  ⟨HN1.out,HB1.out,Nat.le_refl _⟩ ?assign ?body ?done ?stop
 case assign=>
  intro l m x W K hK
  gi_wp2
  exact hK
 case body=>
  rintro l2 m pre x W2 hI hsz hpre rfl ⟨r,hl⟩ hd
  (try dsimp only)
  have hml:pre.length<LL.length:=by have:=hpre.length_le;rw [List.length_append,List.length_singleton] at this;omega
  have HI:=Lib.hid hI;have HSz:=Lib.hid hsz
  have cc:=hI.c.cell 0
  have fc:=hI.c.free 0
  have hlen:=HLen.out
  clear hI hl hd hpre hsz
  gi_wp2_with fail
  have hn:=HZ.out
  have hf:=fun u=>Fr.setCell W2 ⟨w.heap.size,0,none⟩ u (S:=(· =w.heap.size)) rfl
  refine ⟨KeptR.of_fr (hf _) HSz.out (fun b hb e=>by have:=hb.1;omega),(hf _).size,KeptL.of_fr (hf _) (fun b hb=>?_),?_⟩
  ·have:=HSz.out
   rcases List.mem_cons.1 hb with rfl|hb
   ·exact ⟨by omega,by omega⟩
   ·rcases List.mem_cons.1 hb with rfl|hb
    ·exact ⟨by omega,by omega⟩
    ·have:=HF.out b hb;exact ⟨by omega,by omega⟩
  ·show KF w W1 w.heap.size (pre++ [x]).length _
   rw [List.length_append,List.length_singleton]
   have:=HI.out.z
   exact ⟨by simpa using HI.out.c.set 0 _,HI.out.b.trans ((hf _).below (by omega) (fun k hk e=>by omega)),Nat.le_trans HI.out.z (hf _).size⟩
 case done=>
  rintro W3 hsz hI hK
  have cc:=hI.c.cell 0
  have HI:=Lib.hid hI;have HK:=Lib.hid hK
  clear hI hK
  go_wp2_with fail
  try rw [Exit.noGoto_ret]
  refine ⟨by simp,.inl ⟨_,_,rfl,run_takeDeferred HK.out,?_⟩⟩
  have hn:=HZ.out
  have hf:=Fr.putObj W3 W1.heap.size (.deferred none) (S:=(· =W1.heap.size)) rfl
  exact ⟨_,by simp [results,Tryz.results147,go_sem],rfl,Fr.of_below' (HI.out.b.trans (hf.below (by omega) (fun k hk e=>by omega))) _⟩
 case stop=>
  rintro k pre W3 hsz hpre h hK
  exact h.elim
theorem Fan (B:Nat) (oz:Value × Value) (L:List Sn) (F:List Nat) (t p:Int) (w:World) (h:IB w B oz L F) (wt:wf64 t) (wp:wf64 p) (hlen:L.length≤1000000):Calls prog 147 #[.pointer (some ⟨B,0,none⟩),.int .i64 t,.int .i64 p] w fun e w'=>e=.returned (.int .i64 (kids t p L).length)∧Fr (fun _=>False) w w':=
 Fan_of (some ⟨B,0,none⟩) (kids t p L) F t p w h.lt (by unfold kids ofP;rw [List.length_map];exact Nat.le_trans (List.length_filter_le _ _) hlen) (fun W1 Bx Bt Bi hf hx ht hi=>
  Kids_seq _ B oz Bx Bt Bi L F t p W1 (h.fr hf (fun _ _ h=>h)) hx ht hi wt wp (fun b hb=>by simp [hb]) (by simp) (by simp) (fun b hb=>by
   rcases List.mem_cons.1 hb with rfl|hb
   ·exact lt_of_heap ht
   ·rcases List.mem_cons.1 hb with rfl|hb
    ·exact lt_of_heap hi
    ·exact Nat.lt_of_lt_of_le (h.lt b hb) hf.size))
end KdO
end Go.Proofs.YtgfjpnpbkkadpaaGreat
