/- A forest in the heap: spans, places and fans by their keys; how it is planted. -/
import Derived.Test.YtgfjpnpbkkadpaaGreatDels
import Derived.Test.YtgfjpnpbkkadpaaGreatClsPs
import Derived.Test.YtgfjpnpbkkadpaaGreatMp
namespace Go.Proofs.YtgfjpnpbkkadpaaGreat
open Tryz
set_option maxRecDepth 100000
set_option maxHeartbeats 1000000
open Go.RowKit
namespace ClsF
open KeyP PackP SetP SetW SetF Cls ClsW
attribute [local go_sem] Eng.ev Eng.getO_cons Eng.getO_nil
abbrev TF:TypeId:=234
abbrev TPl:TypeId:=91
abbrev TMs:TypeId:=231
abbrev TMp:TypeId:=232
abbrev TMf:TypeId:=195
abbrev Pc:=Pq
abbrev zS:Value:=.agg #[.int .i64 0,.int .i64 0,.int .i64 0,.int .i64 0,.string ByteArray.empty,.string ByteArray.empty,.int .i64 0,.int .i64 0,.bool false]
abbrev zP:Value:=.agg #[.int .i64 0,.int .i64 0,.int .i64 0,.int .i64 0,.int .i64 0,.int .i64 0]
theorem zeroS (w:World):(zeroValue TSn).run prog w=.ok zS w:=by kernel_rfl
theorem zeroP (w:World):(zeroValue TPl).run prog w=.ok zP w:=by kernel_rfl
theorem zeroI (w:World):(zeroValue 3).run prog w=.ok (.int .i64 0) w:=by kernel_rfl
theorem uS:prog.underlying TMs=some (.map Mp.TS TSn):=underlying231
theorem uP:prog.underlying TMp=some (.map Mp.TS TPl):=underlying232
theorem uF:prog.underlying TMf=some (.map Mp.TS 3):=underlying195
def spv (L:List Sn) (t i:Int):Option Value:=(nx L t i).map Sn.v
def cnt (L:List Sn) (t p:Int):Nat:=(L.filter (fun y=>decide (y.t=t)&&decide (y.p=p))).length
def fnv (L:List Sn) (t p:Int):Option Value:=if cnt L t p=0 then none else some (.int .i64 ((cnt L t p:Nat):Int))
theorem fnv_get (L:List Sn) (t p:Int):(fnv L t p).getD (.int .i64 0)=.int .i64 ((cnt L t p:Nat):Int):=by
 unfold fnv
 split
 ·rename_i h;rw [h];rfl
 ·rfl
theorem cnt_le (L:List Sn) (t p:Int):cnt L t p≤L.length:=List.length_filter_le _ _
theorem cnt_snoc {L:List Sn} {k:Nat} (h:k<L.length) (t p:Int):cnt (L.take (k+1)) t p=cnt (L.take k) t p+if L[k].t=t∧L[k].p=p then 1 else 0:=by
 unfold cnt
 rw [List.take_succ_eq_append_getElem h,List.filter_append,List.length_append,List.filter_cons]
 by_cases e:L[k].t=t∧L[k].p=p
 ·rw [if_pos e,decide_eq_true e.1,decide_eq_true e.2];rfl
 ·rw [if_neg e]
  have:(decide (L[k].t=t)&&decide (L[k].p=p))=false:=by
   rw [←Bool.decide_and];exact decide_eq_false e
  rw [this];rfl
theorem fnv_snoc1 {L:List Sn} {k:Nat} (h:k<L.length):fnv (L.take (k+1)) L[k].t L[k].p=some (.int .i64 (((cnt (L.take k) L[k].t L[k].p:Nat):Int)+1)):=by
 have e:cnt (L.take (k+1)) L[k].t L[k].p=cnt (L.take k) L[k].t L[k].p+1:=by rw [cnt_snoc h,if_pos ⟨rfl,rfl⟩]
 unfold fnv
 rw [e,if_neg (by omega)]
 simp
theorem fnv_snoc2 {L:List Sn} {k:Nat} (h:k<L.length) (c d:Int) (hne:¬ (c=L[k].t∧d=L[k].p)):fnv (L.take (k+1)) c d=fnv (L.take k) c d:=by
 have e:cnt (L.take (k+1)) c d=cnt (L.take k) c d:=by rw [cnt_snoc h,if_neg (fun e=>hne ⟨e.1.symm,e.2.symm⟩)];rfl
 unfold fnv
 rw [e]
theorem spv_snoc1 {L:List Sn} (hs:Srs L) {k:Nat} (h:k<L.length):spv (L.take (k+1)) L[k].t L[k].i=some L[k].v:=by
 unfold spv nx
 rw [List.take_succ_eq_append_getElem h,List.find?_append]
 have:(L.take k).find? (fun y=>decide (y.t=L[k].t)&&decide (y.i=L[k].i))=none:=by
  rw [List.find?_eq_none]
  intro y hy hp
  simp only [Bool.and_eq_true,decide_eq_true_eq] at hp
  obtain ⟨j,hj,rfl⟩:=List.getElem_of_mem hy
  rw [List.length_take] at hj
  rw [List.getElem_take] at hp
  have h1:=List.pairwise_iff_getElem.1 hs j k (by omega) h (by omega)
  have h2:=bef_ne h1
  have h3:one L[j] L[k]=true:=one_iff.2 hp
  rw [h2] at h3;cases h3
 rw [this]
 simp
theorem spv_snoc2 {L:List Sn} {k:Nat} (h:k<L.length) (c d:Int) (hne:¬ (c=L[k].t∧d=L[k].i)):spv (L.take (k+1)) c d=spv (L.take k) c d:=by
 unfold spv nx
 rw [List.take_succ_eq_append_getElem h,List.find?_append]
 have:(decide (L[k].t=c)&&decide (L[k].i=d))=false:=by
  rw [←Bool.decide_and];exact decide_eq_false (fun e=>hne ⟨e.1.symm,e.2.symm⟩)
 rw [List.find?_cons,this]
 simp
structure Fo (w0 w:World) (h:Nat) (S F:List Sn) (n m:Nat) (P:Int→Int→Option Pc):Prop where
 b:Bk w (h+3) #[.map (some h),.map (some (h+1)),.map (some (h+2))] TF
 s:Mp.M w h n (spv S)
 p:Mp.M w (h+1) m (fun t i=>(P t i).map Pq.v)
 f:Mp.M w (h+2) n (fnv F)
 l:Below w0.heap.size w0 w
 z:w0.heap.size≤h
theorem Fo.fr {w0 w w':World} {h:Nat} {S F:List Sn} {n m:Nat} {P:Int→Int→Option Pc} (H:Fo w0 w h S F n m P) (hf:Fr (fun _=>False) w w'):Fo w0 w' h S F n m P:=
 ⟨H.b.fr hf (fun _ _ h=>h),H.s.fr hf (fun h=>h),H.p.fr hf (fun h=>h),H.f.fr hf (fun h=>h),H.l.trans (hf.below H.l.size (fun _ _ h=>h)),H.z⟩
theorem Fo.below {w0 w w':World} {h:Nat} {S F:List Sn} {n m:Nat} {P:Int→Int→Option Pc} (H:Fo w0 w h S F n m P) (hb:Below w.heap.size w w'):Fo w0 w' h S F n m P:=H.fr (Fr.of_below' hb _)
theorem M_n {w:World} {r n n':Nat} {f:Int→Int→Option Value} (h:Mp.M w r n f) (hn:n≤n') (h':n'<1000000):Mp.M w r n' f:=by
 obtain ⟨-,D,h4,h5⟩:=h
 exact ⟨h',D,h4.mono hn,h5⟩
theorem Fo.putS {w0 w:World} {h:Nat} {L:List Sn} {k n m:Nat} {P:Int→Int→Option Pc} (H:Fo w0 w h (L.take k) (L.take k) n m P) (hs:Srs L) (hk:k<L.length) (hl:n+2<1000000) (ha:wf64 L[k].t) (hb:wf64 L[k].i):
  ∃w',(Instr.mapUpdate TMs (.map (some h)) (.string (key2 L[k].t L[k].i)) L[k].v).run prog w=.ok () w'∧Fo w0 w' h (L.take (k+1)) (L.take k) (n+1) m P∧Fr (· =h) w w':=by
 obtain ⟨w',h1,h2,h3⟩:=H.s.upd uS ha hb L[k].v (spv_snoc1 hs hk) (fun c d hne=>spv_snoc2 hk c d hne) (by omega)
 refine ⟨w',h1,⟨H.b.fr h3 (fun j hj e=>by simp at hj;omega),h2,H.p.fr h3 (by omega),M_n (H.f.fr h3 (by omega)) (by omega) (by omega),H.l.trans (h3.below H.l.size (fun j hj e=>by have:=H.z;omega)),H.z⟩,h3⟩
theorem Fo.putF {w0 w:World} {h:Nat} {L:List Sn} {k n m:Nat} {P:Int→Int→Option Pc} (H:Fo w0 w h (L.take (k+1)) (L.take k) (n+1) m P) (hk:k<L.length) (hl:n+2<1000000) (ha:wf64 L[k].t) (hb:wf64 L[k].p):
  ∃w',(Instr.mapUpdate TMf (.map (some (h+2))) (.string (key2 L[k].t L[k].p)) (.int .i64 (((cnt (L.take k) L[k].t L[k].p:Nat):Int)+1))).run prog w=.ok () w'∧Fo w0 w' h (L.take (k+1)) (L.take (k+1)) (n+2) m P∧Fr (· =h+2) w w':=by
 obtain ⟨w',h1,h2,h3⟩:=H.f.upd uF ha hb (.int .i64 (((cnt (L.take k) L[k].t L[k].p:Nat):Int)+1)) (fnv_snoc1 hk) (fun c d hne=>fnv_snoc2 hk c d hne) (by omega)
 exact ⟨w',h1,⟨H.b.fr h3 (fun j hj e=>by simp at hj;omega),M_n (H.s.fr h3 (by omega)) (by omega) (by omega),H.p.fr h3 (by omega),h2,H.l.trans (h3.below H.l.size (fun j hj e=>by have:=H.z;omega)),H.z⟩,h3⟩
theorem Fo.count {w0 w:World} {h:Nat} {S F:List Sn} {n m:Nat} {P:Int→Int→Option Pc} (H:Fo w0 w h S F n m P) {a b:Int} (ha:wf64 a) (hb:wf64 b):(Instr.lookup TMf (.map (some (h+2))) (.string (key2 a b)) false).run prog w=.ok (.int .i64 ((cnt F a b:Nat):Int)) w:=by
 rw [H.f.look uF zeroI ha hb,fnv_get]
structure FX (w0 w:World) (h:Nat) (S F:List Sn) (n m:Nat) (P:Int→Int→Option Pc) (Bx:Nat) (y:Sn):Prop where
 f:Fo w0 w h S F n m P
 a:At w Bx 0 y
 n:Bx≠h∧Bx≠h+1∧Bx≠h+2∧Bx≠h+3
theorem FX.fr {w0 w w':World} {h:Nat} {S F:List Sn} {n m:Nat} {P:Int→Int→Option Pc} {Bx:Nat} {y:Sn} (H:FX w0 w h S F n m P Bx y) (hf:Fr (fun _=>False) w w'):FX w0 w' h S F n m P Bx y:=⟨H.f.fr hf,H.a.keep hf,H.n⟩
theorem cell3 {w0 w:World} {h:Nat} {S F:List Sn} {n m:Nat} {P:Int→Int→Option Pc} (H:Fo w0 w h S F n m P):w.cell? ⟨h+3,0,none⟩=some (.map (some h))∧w.cell? ⟨h+3,1,none⟩=some (.map (some (h+1)))∧w.cell? ⟨h+3,2,none⟩=some (.map (some (h+2))):=⟨H.b.cell 0,H.b.cell 1,H.b.cell 2⟩
theorem pl5 {ops:Array Oper} (hops:Eng.fnOps Tryz.f98 5=ops) (a0:Act) (Q:Exit→Act→World→Prop) (w0 w:World) (h:Nat) (L:List Sn) (k n m:Nat) (P:Int→Int→Option Pc) (Bx:Nat) (y:Sn) (hs:Srs L) (hk:k<L.length) (hy:L[k]=y) (hl:n+2<1000000) (ha:wf64 y.t) (hb0:wf64 y.i) (hst:FX w0 w h (L.take k) (L.take k) n m P Bx y)
  (hn:a0.tmps.size=37) (h_3:a0.tmps.getD 3 undef=.pointer (some ⟨h+3,0,none⟩)) (h_5:a0.tmps.getD 5 undef=.pointer (some ⟨Bx,0,none⟩))
  (hpost:∀ (x:Nat→Value) (w':World),FX w0 w' h (L.take (k+1)) (L.take k) (n+1) m P Bx y→Q .normal (Eng.setAll a0 [17,18,19,20,21,22,23] x) w'):
  (Code.region 5 ops true).wp prog Q a0 w:=by
 simp only [Eng.fnOps,Eng.regOps,Tryz.f98,Option.bind_some,Option.getD_some,Nat.reduceEqDiff,↓reduceIte] at hops
 subst hops
 have HSt:=Lib.hid (hst.fr (Fr.drew _ _))
 refine Eng.regionT (.take 0 (.take 1 (.take 2 (.take 3 (.take 4 (.take 6 (.alt 5 (.alt 7 (.done) (.stop)) (.stop)))))))) (fun w'=>w'.cell? ⟨h+3,0,none⟩=some (.map (some h))∧w'.cell? ⟨Bx,0,none⟩=some (.int .i64 y.t)∧w'.cell? ⟨Bx,1,none⟩=some (.int .i64 y.i)∧w'.cell? ⟨Bx,2,none⟩=some (.int .i64 y.p)∧w'.cell? ⟨Bx,3,none⟩=some (.int .i64 y.r)∧w'.cell? ⟨Bx,4,none⟩=some (.string y.s)∧w'.cell? ⟨Bx,5,none⟩=some (.string y.o)∧w'.cell? ⟨Bx,6,none⟩=some (.int .i64 y.b)∧w'.cell? ⟨Bx,7,none⟩=some (.int .i64 y.d)∧w'.cell? ⟨Bx,8,none⟩=some (.bool y.g)) (by kernel_rfl) 37 hn (by kernel_rfl) (by kernel_rfl) (by kernel_rfl) (⟨(cell3 HSt.out.f).1,HSt.out.a 0 _ rfl,HSt.out.a 1 _ rfl,HSt.out.a 2 _ rfl,HSt.out.a 3 _ rfl,HSt.out.a 4 _ rfl,HSt.out.a 5 _ rfl,HSt.out.a 6 _ rfl,HSt.out.a 7 _ rfl,HSt.out.a 8 _ rfl⟩) (fun a b ha hb=>?_)
 subst ha
 have hb3:b 3=.pointer (some ⟨h+3,0,none⟩):=(hb 3).symm.trans h_3
 have hb5:b 5=.pointer (some ⟨Bx,0,none⟩):=(hb 5).symm.trans h_5
 clear hb h_3 h_5
 have HP:=Lib.hid hpost;have HN:=Lib.hid hn
 clear hpost hn
 iterate 6 (refine Eng.TW.tk ?_)
 refine Eng.TW.call rfl rfl (by decide) (by kernel_rfl) ?_ (Key.Span y ha hb0 _) ?_
 ·go_simp
 rintro e w2 ⟨rfl,hb1⟩
 have HSt2:=Lib.hid (HSt.out.fr (Fr.of_below' hb1 _))
 clear hb1
 refine ⟨_,rfl,⟨(cell3 HSt2.out.f).1,HSt2.out.a 0 _ rfl,HSt2.out.a 1 _ rfl,HSt2.out.a 2 _ rfl,HSt2.out.a 3 _ rfl,HSt2.out.a 4 _ rfl,HSt2.out.a 5 _ rfl,HSt2.out.a 6 _ rfl,HSt2.out.a 7 _ rfl,HSt2.out.a 8 _ rfl⟩,?_⟩
 obtain ⟨w9,hup,hm9,hf9⟩:=HSt2.out.f.putS hs hk hl (by rw [hy];exact ha) (by rw [hy];exact hb0)
 rw [hy] at hup
 have HSt3:=Lib.hid ((⟨hm9,HSt2.out.a.fr hf9 (by have:=HSt2.out.n;omega),HSt2.out.n⟩:FX w0 w9 h (L.take (k+1)) (L.take k) (n+1) m P Bx y))
 refine Eng.TW.step0 rfl rfl (by kernel_rfl) (by go_simp;first|done|with_reducible rfl) (⟨(cell3 HSt3.out.f).1,HSt3.out.a 0 _ rfl,HSt3.out.a 1 _ rfl,HSt3.out.a 2 _ rfl,HSt3.out.a 3 _ rfl,HSt3.out.a 4 _ rfl,HSt3.out.a 5 _ rfl,HSt3.out.a 6 _ rfl,HSt3.out.a 7 _ rfl,HSt3.out.a 8 _ rfl⟩) ?_
 have hSS:(w9).cell? ⟨h+3,0,none⟩=some (.map (some h))∧(w9).cell? ⟨Bx,0,none⟩=some (.int .i64 y.t)∧(w9).cell? ⟨Bx,1,none⟩=some (.int .i64 y.i)∧(w9).cell? ⟨Bx,2,none⟩=some (.int .i64 y.p)∧(w9).cell? ⟨Bx,3,none⟩=some (.int .i64 y.r)∧(w9).cell? ⟨Bx,4,none⟩=some (.string y.s)∧(w9).cell? ⟨Bx,5,none⟩=some (.string y.o)∧(w9).cell? ⟨Bx,6,none⟩=some (.int .i64 y.b)∧(w9).cell? ⟨Bx,7,none⟩=some (.int .i64 y.d)∧(w9).cell? ⟨Bx,8,none⟩=some (.bool y.g):=⟨(cell3 HSt3.out.f).1,HSt3.out.a 0 _ rfl,HSt3.out.a 1 _ rfl,HSt3.out.a 2 _ rfl,HSt3.out.a 3 _ rfl,HSt3.out.a 4 _ rfl,HSt3.out.a 5 _ rfl,HSt3.out.a 6 _ rfl,HSt3.out.a 7 _ rfl,HSt3.out.a 8 _ rfl⟩
 refine Eng.TW.end_ [17,18,19,20,21,22,23] HN.out (by kernel_rfl) (by kernel_rfl) ?_
 exact HP.out _ _ HSt3.out
theorem pl6 {ops:Array Oper} (hops:Eng.fnOps Tryz.f98 6=ops) (a0:Act) (Q:Exit→Act→World→Prop) (w0 w:World) (h:Nat) (L:List Sn) (k n m c:Nat) (P:Int→Int→Option Pc) (Bx:Nat) (y:Sn) (hk:k<L.length) (hy:L[k]=y) (hl:n+2<1000000) (ha:wf64 y.t) (hb0:wf64 y.p) (hc:cnt (L.take k) y.t y.p=c) (hcl:c≤1000) (hst:FX w0 w h (L.take (k+1)) (L.take k) (n+1) m P Bx y)
  (hn:a0.tmps.size=37) (h_3:a0.tmps.getD 3 undef=.pointer (some ⟨h+3,0,none⟩)) (h_5:a0.tmps.getD 5 undef=.pointer (some ⟨Bx,0,none⟩))
  (hpost:∀ (x:Nat→Value) (w':World),FX w0 w' h (L.take (k+1)) (L.take (k+1)) (n+2) m P Bx y→Q .normal (Eng.setAll a0 [24,25,26,27,28,29,30,31,32,33,34] x) w'):
  (Code.region 6 ops true).wp prog Q a0 w:=by
 simp only [Eng.fnOps,Eng.regOps,Tryz.f98,Option.bind_some,Option.getD_some,Nat.reduceEqDiff,↓reduceIte] at hops
 subst hops
 have q9:IntKind.i64.wrap ((c:Int)+1)=(c:Int)+1:=by rw [IntKind.wrap_i64];omega
 have HSt:=Lib.hid (hst.fr (Fr.drew _ _))
 refine Eng.regionT (.take 0 (.take 1 (.take 2 (.take 3 (.take 4 (.take 5 (.take 6 (.take 7 (.alt 8 (.alt 9 (.take 10 (.alt 11 (.done) (.stop))) (.stop)) (.stop)))))))))) (fun w'=>w'.cell? ⟨h+3,2,none⟩=some (.map (some (h+2)))∧w'.cell? ⟨Bx,0,none⟩=some (.int .i64 y.t)∧w'.cell? ⟨Bx,2,none⟩=some (.int .i64 y.p)) (by kernel_rfl) 37 hn (by kernel_rfl) (by kernel_rfl) (by kernel_rfl) (⟨(cell3 HSt.out.f).2.2,HSt.out.a 0 _ rfl,HSt.out.a 2 _ rfl⟩) (fun a b ha hb=>?_)
 subst ha
 have hb3:b 3=.pointer (some ⟨h+3,0,none⟩):=(hb 3).symm.trans h_3
 have hb5:b 5=.pointer (some ⟨Bx,0,none⟩):=(hb 5).symm.trans h_5
 clear hb h_3 h_5
 have HP:=Lib.hid hpost;have HN:=Lib.hid hn
 clear hpost hn
 iterate 8 (refine Eng.TW.tk ?_)
 refine Eng.TW.call rfl rfl (by decide) (by kernel_rfl) ?_ (Key.Of ha hb0 _) ?_
 ·go_simp
 rintro e w2 ⟨rfl,hb1⟩
 have HSt2:=Lib.hid (HSt.out.fr (Fr.of_below' hb1 _))
 clear hb1
 refine ⟨_,rfl,⟨(cell3 HSt2.out.f).2.2,HSt2.out.a 0 _ rfl,HSt2.out.a 2 _ rfl⟩,?_⟩
 have hlk:=HSt2.out.f.count ha hb0
 rw [hc] at hlk
 refine Eng.TW.step rfl rfl (by decide) (by kernel_rfl) (by go_simp;first|done|with_reducible rfl) (⟨(cell3 (HSt2.out).f).2.2,(HSt2.out).a 0 _ rfl,(HSt2.out).a 2 _ rfl⟩) ?_
 have HSt3:=Lib.hid (HSt2.out)
 have hSS:(w2).cell? ⟨h+3,2,none⟩=some (.map (some (h+2)))∧(w2).cell? ⟨Bx,0,none⟩=some (.int .i64 y.t)∧(w2).cell? ⟨Bx,2,none⟩=some (.int .i64 y.p):=⟨(cell3 HSt3.out.f).2.2,HSt3.out.a 0 _ rfl,HSt3.out.a 2 _ rfl⟩
 refine Eng.TW.tk ?_
 obtain ⟨w9,hup,hm9,hf9⟩:=HSt3.out.f.putF hk hl (by rw [hy];exact ha) (by rw [hy];exact hb0)
 rw [hy,hc] at hup
 have HSt4:=Lib.hid ((⟨hm9,HSt3.out.a.fr hf9 (by have:=HSt3.out.n;omega),HSt3.out.n⟩:FX w0 w9 h (L.take (k+1)) (L.take (k+1)) (n+2) m P Bx y))
 refine Eng.TW.step0 rfl rfl (by kernel_rfl) (by go_simp;first|done|with_reducible rfl) (⟨(cell3 HSt4.out.f).2.2,HSt4.out.a 0 _ rfl,HSt4.out.a 2 _ rfl⟩) ?_
 have hSS:(w9).cell? ⟨h+3,2,none⟩=some (.map (some (h+2)))∧(w9).cell? ⟨Bx,0,none⟩=some (.int .i64 y.t)∧(w9).cell? ⟨Bx,2,none⟩=some (.int .i64 y.p):=⟨(cell3 HSt4.out.f).2.2,HSt4.out.a 0 _ rfl,HSt4.out.a 2 _ rfl⟩
 refine Eng.TW.end_ [24,25,26,27,28,29,30,31,32,33,34] HN.out (by kernel_rfl) (by kernel_rfl) ?_
 exact HP.out _ _ HSt4.out
theorem plant (A:Option Addr) (c:Nat) (L:List Sn) (w:World) (hS:Ls w A c L) (hs:Srs L) (hlen:L.length≤1000):
  Calls prog 98 #[.slice A L.length c] w fun e w'=>∃h n,e=.returned (.pointer (some ⟨h+3,0,none⟩))∧n≤2000∧Fo w w' h L L n 0 (fun _ _=>none):=by
 have HS:=Lib.hid hS
 have HSr:=Lib.hid hs
 have f1:=Fr.alloc (fun _=>False) w (.map #[] 0)
 have m1:=Mp.M.new w
 have z1:(w.alloc (.map #[] 0)).heap.size=w.heap.size+1:=World.size_alloc _ _
 generalize hw1:w.alloc (.map #[] 0)=w1 at f1 m1 z1
 have f2:=Fr.alloc (fun _=>False) w1 (.map #[] 0)
 have m2:=Mp.M.new w1
 have z2:(w1.alloc (.map #[] 0)).heap.size=w1.heap.size+1:=World.size_alloc _ _
 generalize hw2:w1.alloc (.map #[] 0)=w2 at f2 m2 z2
 have f3:=Fr.alloc (fun _=>False) w2 (.map #[] 0)
 have m3:=Mp.M.new w2
 have z3:(w2.alloc (.map #[] 0)).heap.size=w2.heap.size+1:=World.size_alloc _ _
 generalize hw3:w2.alloc (.map #[] 0)=w3 at f3 m3 z3
 have f4:=Fr.alloc (fun _=>False) w3 (.cells #[.map (some w.heap.size),.map (some (w.heap.size+1)),.map (some (w.heap.size+2))] TF)
 have b4:=Bk.new w3 #[.map (some w.heap.size),.map (some (w.heap.size+1)),.map (some (w.heap.size+2))] TF
 rw [z3,z2,z1] at b4
 rw [z1] at m2
 rw [z2,z1] at m3
 have HF:Hid (Fo w ((((w.alloc (.map #[] 0)).alloc (.map #[] 0)).alloc (.map #[] 0)).alloc (.cells #[.map (some w.heap.size),.map (some (w.heap.size+1)),.map (some (w.heap.size+2))] TF)) w.heap.size [] [] 0 0 (fun _ _=>none)):=by
  rw [hw1,hw2,hw3]
  have g34:=f3.trans f4 (T:=fun _=>False) (fun _ _ h=>h) (fun _ _ h=>h)
  have g24:=f2.trans g34 (T:=fun _=>False) (fun _ _ h=>h) (fun _ _ h=>h)
  exact ⟨b4,(m1.fr g24 (fun h=>h)).to (fun _ _ _ _=>rfl),(m2.fr g34 (fun h=>h)).to (fun _ _ _ _=>rfl),(m3.fr f4 (fun h=>h)).to (fun _ _ _ _=>rfl),(f1.trans g24 (T:=fun _=>False) (fun _ _ h=>h) (fun _ _ h=>h)).below (Nat.le_refl _) (fun _ _ h=>h),Nat.le_refl _⟩
 clear f1 f2 f3 f4 m1 m2 m3 b4 z1 z2 z3 hw1 hw2 hw3 hS hs w1 w2 w3
 have hmm:=@run_makeMap prog
 go_enter func98,ntmps98
 go_upto_region 2 with (fail)
 generalize ((((w.alloc (.map #[] 0)).alloc (.map #[] 0)).alloc (.map #[] 0)).alloc (.cells #[.map (some w.heap.size),.map (some (w.heap.size+1)),.map (some (w.heap.size+2))] TF))=w1 at *
 clear hmm
 go_wp2_with fail
 go_loopg [5,13] L.length (fun gk _ i wr=>∃k:Nat,i=.int .i64 k∧k≤L.length∧gk=L.length-k∧Fo w wr w.heap.size (L.take k) (L.take k) (2*k) 0 (fun _ _=>none))
 case atStart=>exact ⟨0,rfl,Nat.zero_le _,rfl,HF.out⟩
 case round=>
  clear HF
  obtain ⟨k,rfl,hk,hg,hfo⟩:=hrel
  have HG:=Lib.hid hg;have HF:=Lib.hid hfo
  clear hg hfo
  by_cases hlt:k<L.length
  ·obtain ⟨b1,o1,rfl,hb1,c1⟩:=HS.out.s.at hlt (by omega)
   have HA:=Lib.hid ((At.row c1 hlt).fr (Fr.of_below' HF.out.l (fun _=>False)) (fun h=>h))
   have HY:=Lib.hid (HS.out.ok _ (List.getElem_mem hlt))
   obtain ⟨y,hy⟩:∃y,L[k]=y:=⟨_,rfl⟩
   have HYe:=Lib.hid hy
   clear c1 hb1
   rw [hy] at HA HY
   clear hy
   have hcl:=cnt_le (L.take k) y.t y.p
   rw [List.length_take] at hcl
   have q2:decide ((k:Int)<(L.length:Int))=true:=by simp;omega
   obtain ⟨yc0,yc1,yc2,yc3,yc4,yc5,yc6,yc7,yc8⟩:=SetW.at9 HA.out
   go_upto_region 5 with (fail)
   have s2:=Bk.new wr y.arr TSn
   have s3:=Fr.alloc (fun _=>False) wr (.cells y.arr TSn)
   have HX:Hid (FX w (wr.alloc (.cells y.arr TSn)) w.heap.size (L.take k) (L.take k) (2*k) 0 (fun _ _=>none) wr.heap.size y):=by
    have:=lt_of_heap HF.out.b
    exact ⟨HF.out.fr s3,At.box s2,by omega⟩
   clear s2 s3 HA yc0 yc1 yc2 yc3 yc4 yc5 yc6 yc7 yc8
   generalize (wr.alloc (.cells y.arr TSn))=w2 at *
   refine pl5 (by kernel_rfl) _ _ w w2 w.heap.size L k (2*k) 0 _ wr.heap.size y HSr.out hlt HYe.out (by omega) HY.out.t HY.out.i HX.out rfl rfl rfl ?_
   intro x w3 hst
   simp only [Eng.setAll,Act.put,List.setIfInBounds_toArray,List.set_cons_succ,List.set_cons_zero]
   have HX3:=Lib.hid hst
   clear hst HX
   go_upto_region 6 with (fail)
   refine pl6 (by kernel_rfl) _ _ w w3 w.heap.size L k (2*k) 0 _ _ wr.heap.size y hlt HYe.out (by omega) HY.out.t HY.out.p rfl (by omega) HX3.out rfl rfl rfl ?_
   intro x w4 hst
   simp only [Eng.setAll,Act.put,List.setIfInBounds_toArray,List.set_cons_succ,List.set_cons_zero]
   have HX4:=Lib.hid hst.f
   clear hst HX3
   go_wp2_with fail
   go_roundg (L.length-(k+1))
   case rel=>exact ⟨k+1,by go_num,by omega,rfl,HX4.out⟩
   case measure=>have:=HG.out;omega
  ·obtain rfl:k=L.length:=by omega
   rw [List.take_length] at HF
   have q2:decide ((L.length:Int)<(L.length:Int))=false:=by simp
   go_wp2_with fail
   go_ret
   exact ⟨w.heap.size,2*L.length,rfl,by omega,HF.out⟩
end ClsF
set_option maxRecDepth 100000
namespace ClsS
open KeyP
instance decBA:DecidableEq ByteArray:=fun x y=>if h:x.data=y.data then isTrue (ByteArray.ext h) else isFalse (fun e=>h (by rw [e]))
instance decMem (n:ByteArray) (l:List ByteArray):Decidable (n∈l):=decidable_of_iff (l.any (fun x=>decide (x=n))=true) (by simp)
abbrev strs (l:List ByteArray):List Value:=l.map Value.string
theorem strs_at {l:List ByteArray} {k:Nat} (h:k<l.length):(strs l)[k]? =some (.string l[k]):=by simp [h]
theorem no_take {l:List ByteArray} {n:ByteArray} {k:Nat} (h:k<l.length):n∈l.take (k+1)↔n∈l.take k∨n=l[k]:=by
 rw [List.take_succ_eq_append_getElem h,List.mem_append,List.mem_singleton]
theorem Index (A:Option Addr) (ca:Nat) (l:List ByteArray) (n:ByteArray) (w:World) (ha:Sl w 1 A l.length ca (strs l)):
  Calls prog 221 #[.slice A l.length ca,.string n] w fun e w'=>(∃i:Int,e=.returned (.int .i64 i)∧decide (0≤i)=decide (n∈l))∧w'=w:=by
 have la:l.length≤9223372036854775807:=by have:=ha.2.1;have:=ha.2.2.1;unfold maxLen at this;omega
 go_enter func221,ntmps221
 go_wp2_with fail
 go_loopg [5,8] l.length (fun gk _ i wr=>∃k:Nat,i=.int .i64 k∧k≤l.length∧gk=l.length-k∧n∉l.take k∧w=wr)
 case atStart=>exact ⟨0,rfl,Nat.zero_le _,rfl,by simp,rfl⟩
 case round=>
  obtain ⟨k,rfl,hk,hg,htk,rfl⟩:=hrel
  have HT:=Lib.hid htk;have HG:=Lib.hid hg
  clear htk hg
  by_cases hlt:k<l.length
  ·obtain ⟨b1,o1,rfl,-,c1⟩:=ha.at hlt (by omega)
   have d1:w.cell? ⟨b1,o1+k,none⟩=some (.string l[k]):=c1 k _ (strs_at hlt)
   have HA:=Lib.hid ha
   clear c1 ha
   have i1:(k:Int)<(l.length:Int):=by omega
   have HM:=Lib.hid (no_take (n:=n) hlt)
   have HI:=Lib.hid (List.getElem_mem hlt)
   generalize hak:l[k]=x at *
   have HAK:=Lib.hid hak
   clear hak
   by_cases hxy:x=n
   ·have t2:(n.toList==x.toList)=true:=by simp [hxy]
    have HE:Hid (n∈l):=by show _;rw [←hxy];exact HI.out
    clear hxy
    go_wp2_with fail
    go_ret
    exact ⟨⟨(k:Int),rfl,by rw [decide_eq_true HE.out];simp⟩,rfl⟩
   ·have t2:(n.toList==x.toList)=false:=by
     cases hq:n.toList==x.toList with
     |false=>rfl
     |true=>exact absurd (str_ext (by simpa using hq)).symm hxy
    have HN:Hid (n∉l.take (k+1)):=by
     show _
     rw [HM.out];rintro (h|h)
     ·exact HT.out h
     ·exact hxy h.symm
    clear hxy
    go_wp2_with fail
    go_roundg (l.length-(k+1))
    case rel=>exact ⟨k+1,by go_num,by omega,rfl,HN.out,rfl⟩
    case measure=>have:=HG.out;omega
  ·have HE:Hid (n∉l):=by
    show _
    have:=HT.out
    rwa [List.take_of_length_le (by omega)] at this
   have HA:=Lib.hid ha
   clear ha
   go_wp2_with fail
   go_ret
   exact ⟨⟨-1,rfl,by rw [decide_eq_false HE.out];rfl⟩,rfl⟩
theorem Contains (A:Option Addr) (ca:Nat) (l:List ByteArray) (n:ByteArray) (w:World) (ha:Sl w 1 A l.length ca (strs l)):
  Calls prog 200 #[.slice A l.length ca,.string n] w fun e w'=>e=.returned (.bool (decide (n∈l)))∧w'=w:=by
 have H:=Lib.hid (Index A ca l n w ha)
 clear ha
 go_enter func200,ntmps200
 go_wp2_with fail
 refine H.out.mono ?_
 rintro e w1 ⟨⟨i,rfl,hi⟩,rfl⟩
 have HI:=Lib.hid hi
 clear hi
 go_wp2_with fail
 go_ret
 exact ⟨by rw [←HI.out];rfl,rfl⟩
end ClsS
set_option maxRecDepth 100000
set_option maxHeartbeats 4000000
namespace ClsF
open KeyP PackP SetP SetW SetF Cls ClsW ClsS
attribute [local go_sem] Eng.ev Eng.getO_cons Eng.getO_nil
abbrev TSt:TypeId:=9
abbrev TSts:TypeId:=282
theorem infoT:(prog.info? TSt).map (fun i=>(i.zero,i.size,i.bytes))=some (some (.string ByteArray.empty),1,16):=by kernel_rfl
abbrev ky (y:Sn):ByteArray:=key2 y.t y.i
abbrev kys (s:List Sn):List ByteArray:=s.map ky
structure CC (wc w:World) (s:List Sn) (v u:Value):Prop where
 o:w.ownsRow wc.heap.size TSn 9 v s.length (s.flatMap scs)
 q:w.ownsRow wc.heap.size TSt 1 u s.length (strs (kys s))
 b:Below wc.heap.size wc w
theorem CC.fr {wc w w':World} {s:List Sn} {v u:Value} (h:CC wc w s v u) (hf:Fr (fun _=>False) w w'):CC wc w' s v u:=
 ⟨ownsRow_fr h.o hf (fun _ _ h=>h),ownsRow_fr h.q hf (fun _ _ h=>h),h.b.trans (hf.below h.b.size (fun _ _ h=>h))⟩
theorem own_apart {w:World} {B1 B2 n1 n2 s1 s2:Nat} {v u:Value} {xs ys:List Value} (h1:w.ownsRow B1 TSn s1 v n1 xs) (h2:w.ownsRow B2 TSt s2 u n2 ys):∀b,v.ownBlock=some b→u.ownBlock≠some b:=fun b hb hb2=>by
 obtain ⟨-,-,c1,e1⟩:=ownsRow_blk h1 b hb
 obtain ⟨-,-,c2,e2⟩:=ownsRow_blk h2 b hb2
 rw [e1] at e2
 have:TSn=TSt:=by injection e2 with e2;injection e2
 exact absurd this (by decide)
theorem kys_mem {s:List Sn} {y:Sn} (hs:∀x∈s,wf64 x.t∧wf64 x.i) (h1:wf64 y.t) (h2:wf64 y.i):ky y∈kys s↔(fnd y s).isSome=true:=by
 constructor
 ·intro h
  obtain ⟨x,hx,he⟩:=List.mem_map.1 h
  have hk:=key2_inj (hs x hx).1 (hs x hx).2 h1 h2 he
  cases hf:fnd y s with
  |some z=>rfl
  |none=>
   have:=fnd_none hf x hx
   rw [one_iff.2 hk] at this;cases this
 ·intro h
  obtain ⟨z,hz⟩:=Option.isSome_iff_exists.1 h
  obtain ⟨h1,h2⟩:=fnd_some hz
  have:=one_iff.1 h2
  exact List.mem_map.2 ⟨z,h1,by show key2 _ _=key2 _ _;rw [this.1,this.2]⟩
theorem cw_none {L:List Sn} {t i:Int} {K:Int→Bool} {n:Nat} {s:List Sn} (h:nx L t i=none):cw L t K (n+1) s i=(s,i):=by unfold cw;rw [h]
theorem cw_stop {L:List Sn} {t i:Int} {K:Int→Bool} {n:Nat} {s:List Sn} {y:Sn} (h:nx L t i=some y) (hk:(K i||(fnd y s).isSome)=true):cw L t K (n+1) s i=(s,i):=by unfold cw;rw [h];dsimp only;rw [if_pos hk]
theorem cw_go {L:List Sn} {t i:Int} {K:Int→Bool} {n:Nat} {s:List Sn} {y:Sn} (h:nx L t i=some y) (hk:(K i||(fnd y s).isSome)=false):cw L t K (n+1) s i=cw L t K n (s++ [y]) y.p:=by
 conv=>lhs;unfold cw
 rw [h];dsimp only;rw [if_neg (by rw [hk];simp)]
theorem nodup_snoc {s:List Sn} {y:Sn} (hn:s.Nodup) (hf:(fnd y s).isSome=false):(s++ [y]).Nodup:=by
 rw [List.nodup_append]
 refine ⟨hn,by simp,fun a ha b hb e=>?_⟩
 simp at hb;subst hb;subst e
 have:fnd a s=none:=by cases hq:fnd a s with
  |none=>rfl
  |some q=>rw [hq] at hf;cases hf
 have:=fnd_none this a ha
 rw [one_refl] at this;cases this
def ChPost (wc:World) (t:Int) (SE:List Sn × Int) (e:Ending) (w':World):Prop:=∃A c,e=.returned (.tuple #[.slice A SE.1.length c,.string (key2 t SE.2)])∧Sl w' 9 A SE.1.length c (SE.1.flatMap scs)∧Below wc.heap.size wc w'∧∀a,A=some a→wc.heap.size≤a.block∧a.block<w'.heap.size
theorem ContainsN (A:Option Addr) (ca:Nat) (l:List ByteArray) (k:Nat) (hk:l.length=k) (n:ByteArray) (w:World) (ha:Sl w 1 A k ca (strs l)):
  Calls prog 200 #[.slice A k ca,.string n] w fun e w'=>e=.returned (.bool (decide (n∈l)))∧w'=w:=by
 subst hk
 exact ClsS.Contains A ca l n w ha
theorem chain {w0:World} {h n m:Nat} {L:List Sn} {P:Int→Int→Option Pc} (x:Sn) (w:World) (hF:Fo w0 w h L L n m P) (hok:∀y∈L,y.ok) (hx:wf64 x.t) (hxi:wf64 x.i) (hlen:L.length≤1000) (SE:List Sn × Int) (hSE:cw L x.t (fun i=>(P x.t i).isSome) (L.length+1) [] x.i=SE):
  Calls prog 160 #[.pointer (some ⟨h+3,0,none⟩),x.v] w (ChPost w x.t SE):=by
 obtain ⟨i0,hi,hz0,hz1,hz2⟩:=info_parts infoS
 obtain ⟨i1,ki,kz0,kz1,kz2⟩:=info_parts infoT
 have HF:=Lib.hid hF;have HOk:=Lib.hid hok;have HSE:=Lib.hid hSE
 have hf:=Fr.alloc (fun _=>False) w (.cells x.arr TSn)
 have HF1:=Lib.hid hf
 have HA1:=Lib.hid (At.box (Bk.new w x.arr TSn))
 have HK:=Lib.hid (fun W:World=>Key.Span x hx hxi W)
 clear hF hok hSE hf
 go_enter func160,ntmps160
 go_wp2_with fail
 go_step3
 go_upto_region 3 with (fail)
 generalize (w.alloc (.cells x.arr TSn))=w1 at *
 have xc0:w1.cell? ⟨w.heap.size,0,none⟩=some (.int .i64 x.t):=HA1.out 0 _ rfl
 have xc1:w1.cell? ⟨w.heap.size,1,none⟩=some (.int .i64 x.i):=HA1.out 1 _ rfl
 have xc2:w1.cell? ⟨w.heap.size,2,none⟩=some (.int .i64 x.p):=HA1.out 2 _ rfl
 have xc3:w1.cell? ⟨w.heap.size,3,none⟩=some (.int .i64 x.r):=HA1.out 3 _ rfl
 have xc4:w1.cell? ⟨w.heap.size,4,none⟩=some (.string x.s):=HA1.out 4 _ rfl
 have xc5:w1.cell? ⟨w.heap.size,5,none⟩=some (.string x.o):=HA1.out 5 _ rfl
 have xc6:w1.cell? ⟨w.heap.size,6,none⟩=some (.int .i64 x.b):=HA1.out 6 _ rfl
 have xc7:w1.cell? ⟨w.heap.size,7,none⟩=some (.int .i64 x.d):=HA1.out 7 _ rfl
 have xc8:w1.cell? ⟨w.heap.size,8,none⟩=some (.bool x.g):=HA1.out 8 _ rfl
 go_wp2_with fail
 refine (HK.out _).mono ?_
 rintro e w2 ⟨rfl,hb⟩
 have HB:=Lib.hid ((HF1.out.below (Nat.le_refl _) (fun _ _ h=>h)).trans (hb.mono HF1.out.size))
 clear hb HF1 HA1 HK xc0 xc1 xc2 xc3 xc4 xc5 xc6 xc7 xc8
 go_wp2_with fail
 go_step3
 go_wp2_with fail
 go_loopg [6,7,8,9,10,11,12] (L.length+1) (fun gk v u s8 _ _ _ _ wr=>∃ (s:List Sn) (i:Int),s8=.string (key2 x.t i)∧wf64 i∧gk=L.length+1-s.length∧CC w wr s v u∧Ch L x.t x.i s i∧s.Nodup∧cw L x.t (fun i=>(P x.t i).isSome) gk s i=SE)
 case atStart=>exact ⟨[],x.i,rfl,hxi,rfl,⟨World.ownsRow_nil _ _ _ _,World.ownsRow_nil _ _ _ _,HB.out⟩,.nil _,List.nodup_nil,HSE.out⟩
 case round=>
  clear HB HSE
  obtain ⟨s,i,rfl,hwi,hg,hcc,hch,hnd,hcw⟩:=hrel
  have hsl:s.length≤L.length:=sub_len hnd (fun z hz=>(hch.mem z hz).1)
  obtain ⟨r,hr⟩:∃r,gk=r+1:=⟨L.length-s.length,by omega⟩
  subst hr
  have HG:=Lib.hid hg;have HC:=Lib.hid hcc;have HCh:=Lib.hid hch;have HNd:=Lib.hid hnd;have HCw:=Lib.hid hcw
  have HFr:=Lib.hid (HF.out.below hcc.b)
  clear hg hcc hch hnd hcw
  have HSk:Hid (∀z∈s,wf64 z.t∧wf64 z.i):=fun z hz=>by have h:=HOk.out z (HCh.out.mem z hz).1;exact ⟨h.t,h.i⟩
  obtain ⟨A6,c6,hv6,h6,hA6⟩:=Sl.of_own HC.out.o
  obtain ⟨A7,c7,hv7,h7,-⟩:=Sl.of_own HC.out.q
  subst hv6
  subst hv7
  have H6:=Lib.hid h6;have H7:=Lib.hid h7
  clear hA6
  have HBr6:=Lib.hid (fun b e=>(ownsRow_blk HC.out.o b e).2.1);have HBr7:=Lib.hid (fun b e=>(ownsRow_blk HC.out.q b e).2.1)
  clear h6 h7
  have e0:=(cell3 HFr.out).1
  have hl1:=HFr.out.s.look_ok uS zeroS hx hwi
  have HKm:=Lib.hid (fun (y:Sn) (h1:wf64 y.t) (h2:wf64 y.i)=>kys_mem HSk.out h1 h2)
  cases hn:nx L x.t i with
  |none=>
   have HCn:=Lib.hid (HCw.out.symm.trans (cw_none hn))
   rw [show spv L x.t i=none by unfold spv;rw [hn];rfl] at hl1
   replace hl1:(Instr.lookup TMs (.map (some h)) (.string (key2 x.t i)) true).run prog wr=.ok (.tuple #[zS,.bool false]) wr:=hl1
   clear hn
   go_upto_region 5 with (fail)
   have f3:=Fr.alloc (fun _=>False) wr (.cells #[.int .i64 0,.int .i64 0,.int .i64 0,.int .i64 0,.string ByteArray.empty,.string ByteArray.empty,.int .i64 0,.int .i64 0,.bool false] TSn)
   generalize (wr.alloc (.cells #[.int .i64 0,.int .i64 0,.int .i64 0,.int .i64 0,.string ByteArray.empty,.string ByteArray.empty,.int .i64 0,.int .i64 0,.bool false] TSn))=w3 at *
   have HF3:=Lib.hid (HFr.out.fr f3);have HC3:=Lib.hid (HC.out.fr f3);have HO6:=Lib.hid (H6.out.fr f3 (fun _ _ h=>h))
   clear f3 hl1 e0 HFr HC H6 H7
   have e1:=(cell3 HF3.out).2.1
   have hl2:=HF3.out.p.look_ok uP zeroP hx hwi
   obtain ⟨pv,hpv⟩:∃p:Pc,((P x.t i).map Pq.v).getD zP=p.v:=by
    cases P x.t i with
    |none=>exact ⟨⟨0,0,0,0,0,0⟩,rfl⟩
    |some p=>exact ⟨p,rfl⟩
   rw [hpv] at hl2
   generalize ((P x.t i).map Pq.v).isSome=pb at hl2
   clear hpv
   go_upto_region 6 with (fail)
   have f4:=Fr.alloc (fun _=>False) w3 (.cells pv.arr TPl)
   generalize (w3.alloc (.cells pv.arr TPl))=w4 at *
   replace HC3:=Lib.hid (HC3.out.fr f4);replace HO6:=Lib.hid (HO6.out.fr f4 (fun _ _ h=>h))
   clear f4 hl2 e1 HF3
   have hq:=HCn.out
   subst hq
   go_wp2_with fail
   try rw [Exit.noGoto_ret]
   go_ret2
   exact ⟨A6,c6,rfl,HO6.out,HC3.out.b,fun a ha=>by subst ha;have:=ownsRow_blk HC3.out.o a.block rfl;exact ⟨this.1,this.2.1⟩⟩
  |some y=>
   obtain ⟨hyL,hyt,hyi⟩:=nx_some hn
   subst hyi
   have HYo:=Lib.hid (HOk.out y hyL)
   have HYt:=Lib.hid hyt
   rw [show spv L x.t y.i=some y.v by unfold spv;rw [hn];rfl] at hl1
   replace hl1:(Instr.lookup TMs (.map (some h)) (.string (key2 x.t y.i)) true).run prog wr=.ok (.tuple #[y.v,.bool true]) wr:=hl1
   have HSt:=Lib.hid (fun (hk:((P x.t y.i).isSome||(fnd y s).isSome)=true)=>HCw.out.symm.trans (cw_stop (K:=fun i=>(P x.t i).isSome) (n:=r) (s:=s) hn hk))
   have HGo:=Lib.hid (fun (hk:((P x.t y.i).isSome||(fnd y s).isSome)=false)=>(cw_go (K:=fun i=>(P x.t i).isSome) (n:=r) (s:=s) hn hk).symm.trans HCw.out)
   have HSn:=Lib.hid (HCh.out.snoc hn)
   clear hn hyL hyt
   go_upto_region 5 with (fail)
   have f3:=Fr.alloc (fun _=>False) wr (.cells y.arr TSn)
   have a3:=At.box (Bk.new wr y.arr TSn)
   generalize (wr.alloc (.cells y.arr TSn))=w3 at *
   have HF3:=Lib.hid (HFr.out.fr f3);have HC3:=Lib.hid (HC.out.fr f3);have HO6:=Lib.hid (H6.out.fr f3 (fun _ _ h=>h));have HO7:=Lib.hid (H7.out.fr f3 (fun _ _ h=>h));have HA3:=Lib.hid a3
   clear f3 a3 hl1 e0 HFr HC H6 H7
   have e1:=(cell3 HF3.out).2.1
   have hl2:=HF3.out.p.look_ok uP zeroP hx hwi
   cases hP:P x.t y.i with
   |some p=>
    rw [hP] at hl2 HSt
    replace hl2:(Instr.lookup TMp (.map (some (h+1))) (.string (key2 x.t y.i)) true).run prog w3=.ok (.tuple #[p.v,.bool true]) w3:=hl2
    have hq:=HSt.out rfl
    subst hq
    clear hP
    go_upto_region 6 with (fail)
    have f4:=Fr.alloc (fun _=>False) w3 (.cells p.arr TPl)
    generalize (w3.alloc (.cells p.arr TPl))=w4 at *
    replace HC3:=Lib.hid (HC3.out.fr f4);replace HO6:=Lib.hid (HO6.out.fr f4 (fun _ _ h=>h))
    clear f4 hl2 e1 HF3 HGo HSt
    go_wp2_with fail
    try rw [Exit.noGoto_ret]
    go_ret2
    exact ⟨A6,c6,rfl,HO6.out,HC3.out.b,fun a ha=>by subst ha;have:=ownsRow_blk HC3.out.o a.block rfl;exact ⟨this.1,this.2.1⟩⟩
   |none=>
    rw [hP] at hl2 HSt HGo
    replace hl2:(Instr.lookup TMp (.map (some (h+1))) (.string (key2 x.t y.i)) true).run prog w3=.ok (.tuple #[zP,.bool false]) w3:=hl2
    clear hP
    go_upto_region 6 with (fail)
    have f4:=Fr.alloc (fun _=>False) w3 (.cells #[.int .i64 0,.int .i64 0,.int .i64 0,.int .i64 0,.int .i64 0,.int .i64 0] TPl)
    generalize (w3.alloc (.cells #[.int .i64 0,.int .i64 0,.int .i64 0,.int .i64 0,.int .i64 0,.int .i64 0] TPl))=w4 at *
    replace HC3:=Lib.hid (HC3.out.fr f4);replace HO6:=Lib.hid (HO6.out.fr f4 (fun _ _ h=>h));replace HO7:=Lib.hid (HO7.out.fr f4 (fun _ _ h=>h));replace HA3:=Lib.hid (HA3.out.keep f4)
    clear f4 hl2 e1 HF3
    go_wp2_with fail
    refine (ContainsN A7 c7 (kys s) s.length (by simp) (key2 x.t y.i) w4 HO7.out).mono ?_
    rintro e w5 ⟨rfl,rfl⟩
    have hkm:=HKm.out y HYo.out.t HYo.out.i
    have hky:ky y=key2 x.t y.i:=by show key2 y.t y.i=_;rw [HYt.out]
    rw [hky] at hkm
    cases hc:(fnd y s).isSome with
    |true=>
     have hq:=HSt.out (by rw [hc];rfl)
     subst hq
     rw [decide_eq_true (hkm.2 hc)]
     clear hkm hky hc HSt HGo
     go_wp2_with fail
     try rw [Exit.noGoto_ret]
     go_ret2
     exact ⟨A6,c6,rfl,HO6.out,HC3.out.b,fun a ha=>by subst ha;have:=ownsRow_blk HC3.out.o a.block rfl;exact ⟨this.1,this.2.1⟩⟩
    |false=>
     have hg:=HGo.out (by rw [hc];rfl)
     have HGo2:=Lib.hid hg
     have HNd2:=Lib.hid (nodup_snoc HNd.out hc)
     rw [decide_eq_false (fun hm=>by rw [hkm.1 hm] at hc;cases hc)]
     have HKy:=Lib.hid hky
     have hown1':=HC3.out.o.alloc (.cells y.arr TSn)
     have HAp:=Lib.hid (own_apart HC3.out.o HC3.out.q)
     have HBk:=Lib.hid (ownsRow_blk HC3.out.o)
     have HBk7:=Lib.hid (ownsRow_blk HC3.out.q)
     have hszw:=HC3.out.b.size
     clear hkm hc hg hky HSt HGo
     have yc0:w5.cell? ⟨wr.heap.size,0,none⟩=some (.int .i64 y.t):=HA3.out 0 _ rfl
     have yc1:w5.cell? ⟨wr.heap.size,1,none⟩=some (.int .i64 y.i):=HA3.out 1 _ rfl
     have yc2:w5.cell? ⟨wr.heap.size,2,none⟩=some (.int .i64 y.p):=HA3.out 2 _ rfl
     have yc3:w5.cell? ⟨wr.heap.size,3,none⟩=some (.int .i64 y.r):=HA3.out 3 _ rfl
     have yc4:w5.cell? ⟨wr.heap.size,4,none⟩=some (.string y.s):=HA3.out 4 _ rfl
     have yc5:w5.cell? ⟨wr.heap.size,5,none⟩=some (.string y.o):=HA3.out 5 _ rfl
     have yc6:w5.cell? ⟨wr.heap.size,6,none⟩=some (.int .i64 y.b):=HA3.out 6 _ rfl
     have yc7:w5.cell? ⟨wr.heap.size,7,none⟩=some (.int .i64 y.d):=HA3.out 7 _ rfl
     have yc8:w5.cell? ⟨wr.heap.size,8,none⟩=some (.bool y.g):=HA3.out 8 _ rfl
     go_wp2_with (at_builtin;refine wpList_append_sl _ rfl (.tmp 43) (.tmp 45) TSs rfl w.heap.size TSn i0 (.agg #[.int .i64 0,.int .i64 0,.int .i64 0,.int .i64 0,.string ByteArray.empty,.string ByteArray.empty,.int .i64 0,.int .i64 0,.bool false]) 9 88 underlying27 hi hz0 hz1 hz2 rfl (by decide) _ _ _ rfl hown1' _ _ _ _ rfl (Sl.one w5 TSn (scs y) 9 rfl) (by simp [Value.oneCell']) ?_ ?_ ?_ ?_)
     ·unfold maxLen;omega
     ·omega
     ·first|omega| (simp;omega)
     intro v1 w6 hown1 hgrow1
     have hf6:Fr (fun b=>(Value.slice A6 s.length c6).ownBlock=some b) w5 w6:=(Fr.alloc (fun _=>False) w5 (.cells y.arr TSn)).trans (Fr.grown hgrow1 (S:=fun b=>(Value.slice A6 s.length c6).ownBlock=some b) (fun _ h=>h)) (fun _ _ h=>h.elim) (fun _ _ h=>h)
     have hq6:=ownsRow_fr HC3.out.q hf6 (fun b hb e=>HAp.out b e hb)
     have hbW:wr.heap.size<w5.heap.size:=HA3.out.lt
     have HQ6:=Lib.hid hq6
     have HO8:=Lib.hid hown1
     have HB6:=Lib.hid (HC3.out.b.trans (hf6.below hszw (fun b hb e=>by have:=(HBk.out b e).1;omega)))
     have HF6:=Lib.hid hf6
     have hown2':=hq6.alloc (.cells #[.string (key2 x.t y.i)] TSt)
     have hsz6:=hf6.size
     clear hown1 hgrow1 hown1' hq6 hf6 yc0 yc1 yc2 yc3 yc4 yc5 yc6 yc7 yc8
     go_wp2_with (at_builtin;refine wpList_append_sl _ rfl (.tmp 47) (.tmp 49) TSts rfl w.heap.size TSt i1 (.string ByteArray.empty) 1 16 underlying282 ki kz0 kz1 kz2 rfl (by decide) _ _ _ rfl hown2' _ _ _ _ rfl (Sl.one w6 TSt [.string (key2 x.t y.i)] 1 rfl) (by simp [Value.oneCell']) ?_ ?_ ?_ ?_)
     ·unfold maxLen;omega
     ·omega
     ·first|omega| (simp;omega)
     intro v2 w7 hown2 hgrow2
     have hf7:Fr (fun b=>(Value.slice A7 s.length c7).ownBlock=some b) w6 w7:=(Fr.alloc (fun _=>False) w6 (.cells #[.string (key2 x.t y.i)] TSt)).trans (Fr.grown hgrow2 (S:=fun b=>(Value.slice A7 s.length c7).ownBlock=some b) (fun _ h=>h)) (fun _ _ h=>h.elim) (fun _ _ h=>h)
     have HC7:Hid (CC w w7 (s++ [y]) v1 v2):=by
      have h9:=own_apart HO8.out HQ6.out
      refine ⟨?_,?_,HB6.out.trans (hf7.below HB6.out.size (fun b hb e=>by have:=(HBk7.out b e).1;omega))⟩
      ·have:=ownsRow_fr HO8.out hf7 (fun b hb e=>h9 b hb e)
       simpa using this
      ·have e1:strs (kys (s++ [y]))=strs (kys s)++ [.string (key2 x.t y.i)]:=by simp [strs,kys,HKy.out]
       rw [e1];simpa using hown2
     have HA7:Hid (At w7 wr.heap.size 0 y):=by
      have h5:=HA3.out.fr HF6.out (fun e=>by have:=HBr6.out wr.heap.size e;omega)
      exact h5.fr hf7 (fun e=>by have:=HBr7.out wr.heap.size e;omega)
     clear hf7 hgrow2 hown2 hown2' HO8 HQ6 HB6 HF6
     have d0:w7.cell? ⟨wr.heap.size,0,none⟩=some (.int .i64 y.t):=HA7.out 0 _ rfl
     have d2:w7.cell? ⟨wr.heap.size,2,none⟩=some (.int .i64 y.p):=HA7.out 2 _ rfl
     go_wp2_with fail
     refine (Key.Of HYo.out.t HYo.out.p w7).mono ?_
     rintro e w8 ⟨rfl,hb⟩
     have HC8:=Lib.hid (HC7.out.fr (Fr.of_below' hb _))
     clear hb d0 d2
     go_wp2_with fail
     go_roundg r
     case rel=>exact ⟨s++ [y],y.p,by rw [HYt.out],HYo.out.p,by rw [List.length_append,List.length_singleton];have:=HG.out;omega,HC8.out,HSn.out,HNd2.out,HGo2.out⟩
     case measure=>omega
end ClsF
set_option maxRecDepth 100000
set_option maxHeartbeats 4000000
namespace ClsF
open KeyP PackP SetP SetW SetF Cls ClsW ClsS
attribute [local go_sem] Eng.ev Eng.getO_cons Eng.getO_nil
def abw (L:List Sn) (P:Int→Int→Option Pc) (z:Sn) (t e:Int):Pc:=match P t e with
 |some p=>p
 |none=>if (nx L t e).isSome then ⟨0,0,3,0,0,0⟩ else if z.p=0 then ⟨0,0,1,0,z.i,0⟩ else ⟨0,0,2,0,z.i,0⟩
abbrev put6 (w:World) (b:Nat) (p:Pc):World:=((((((w.setCell ⟨b,0,none⟩ (.int .i64 p.t)).setCell ⟨b,1,none⟩ (.int .i64 p.i)).setCell ⟨b,2,none⟩ (.int .i64 p.c)).setCell ⟨b,3,none⟩ (.int .i64 p.d)).setCell ⟨b,4,none⟩ (.int .i64 p.p)).setCell ⟨b,5,none⟩ (.int .i64 p.f))
theorem put6_bk {w:World} {b:Nat} {q:Pc} (h:Bk w b q.arr TPl) (p:Pc):Bk (put6 w b p) b p.arr TPl:=by
 have h1:=((((((h.set 0 (.int .i64 p.t)).set 1 (.int .i64 p.i)).set 2 (.int .i64 p.c)).set 3 (.int .i64 p.d)).set 4 (.int .i64 p.p)).set 5 (.int .i64 p.f))
 simpa using h1
theorem frs1 {w w':World} {b:Nat} (h:Fr (fun k=>k=b) w w') (o:Nat) (u:Value):Fr (fun k=>k=b) w (w'.setCell ⟨b,o,none⟩ u):=h.trans (Fr.setCell w' ⟨b,o,none⟩ u (S:=fun k=>k=b) rfl) (fun _ _ h=>h) (fun _ _ h=>h)
theorem put6_fr (w:World) (b:Nat) (p:Pc):Fr (fun k=>k=b) w (put6 w b p):=(frs1 (frs1 (frs1 (frs1 (frs1 (frs1 (Fr.refl _ w) 0 (.int .i64 p.t)) 1 (.int .i64 p.i)) 2 (.int .i64 p.c)) 3 (.int .i64 p.d)) 4 (.int .i64 p.p)) 5 (.int .i64 p.f))
abbrev z6:Pc:=⟨0,0,0,0,0,0⟩
theorem above {w0:World} {h n m:Nat} {L:List Sn} {P:Int→Int→Option Pc} (z:Sn) (t e:Int) (w:World) (hF:Fo w0 w h L L n m P) (ht:wf64 t) (he:wf64 e) (U:Pc) (hU:abw L P z t e=U):
  Calls prog 161 #[.pointer (some ⟨h+3,0,none⟩),z.v,.string (key2 t e)] w fun e' w'=>e'=.returned U.v∧Below w.heap.size w w':=by
 have f1:=Fr.alloc (fun _=>False) w (.cells z.arr TSn)
 have f2:=Fr.alloc (fun _=>False) (w.alloc (.cells z.arr TSn)) (.cells #[.int .i64 0,.int .i64 0,.int .i64 0,.int .i64 0,.int .i64 0,.int .i64 0] TPl)
 have f12:=f1.trans f2 (T:=fun _=>False) (fun _ _ h=>h) (fun _ _ h=>h)
 have r2:Bk ((w.alloc (.cells z.arr TSn)).alloc (.cells #[.int .i64 0,.int .i64 0,.int .i64 0,.int .i64 0,.int .i64 0,.int .i64 0] TPl)) (w.heap.size+1) z6.arr TPl:=by
  have:=Bk.new (w.alloc (.cells z.arr TSn)) #[.int .i64 0,.int .i64 0,.int .i64 0,.int .i64 0,.int .i64 0,.int .i64 0] TPl
  rwa [World.size_alloc] at this
 have HR:=Lib.hid r2
 have HA:=Lib.hid ((At.box (Bk.new w z.arr TSn)).keep f2)
 have HF:=Lib.hid (hF.fr f12)
 have HB:=Lib.hid (f12.below (Nat.le_refl _) (fun _ _ h=>h))
 have HU:=Lib.hid hU
 clear f1 f2 f12 r2 hF hU
 go_enter func161,ntmps161
 go_upto_region 1 with (fail)
 generalize ((w.alloc (.cells z.arr TSn)).alloc (.cells #[.int .i64 0,.int .i64 0,.int .i64 0,.int .i64 0,.int .i64 0,.int .i64 0] TPl))=w1 at *
 have e1:=(cell3 HF.out).2.1
 have hl1:=HF.out.p.look_ok uP zeroP ht he
 cases hP:P t e with
 |some p=>
  rw [hP] at hl1
  replace hl1:(Instr.lookup TMp (.map (some (h+1))) (.string (key2 t e)) true).run prog w1=.ok (.tuple #[p.v,.bool true]) w1:=hl1
  have HV:Hid (U=p):=by show _=_;rw [←HU.out];unfold abw;rw [hP]
  clear hP
  go_upto_region 2 with (fail)
  have f3:=Fr.alloc (fun _=>False) w1 (.cells p.arr TPl)
  have b3:=Bk.new w1 p.arr TPl
  generalize (w1.alloc (.cells p.arr TPl))=w2 at *
  replace HR:=Lib.hid (HR.out.fr f3 (fun _ _ h=>h));replace HA:=Lib.hid (HA.out.keep f3);replace HF:=Lib.hid (HF.out.fr f3);replace HB:=Lib.hid (HB.out.trans (f3.below HB.out.size (fun _ _ h=>h)));have HP:=Lib.hid b3
  clear f3 b3 hl1 e1
  have e2:=(cell3 HF.out).1
  have hl2:=HF.out.s.look_ok uS zeroS ht he
  obtain ⟨y,hy⟩:∃y:Sn,(spv L t e).getD zS=y.v:=by
   unfold spv
   cases nx L t e with
   |none=>exact ⟨⟨0,0,0,0,ByteArray.empty,ByteArray.empty,0,0,false⟩,rfl⟩
   |some y=>exact ⟨y,rfl⟩
  rw [hy] at hl2
  generalize (spv L t e).isSome=yb at hl2
  clear hy
  go_upto_region 3 with (fail)
  have f4:=Fr.alloc (fun _=>False) w2 (.cells y.arr TSn)
  generalize (w2.alloc (.cells y.arr TSn))=w3 at *
  replace HR:=Lib.hid (HR.out.fr f4 (fun _ _ h=>h));replace HA:=Lib.hid (HA.out.keep f4);replace HP:=Lib.hid (HP.out.fr f4 (fun _ _ h=>h));replace HB:=Lib.hid (HB.out.trans (f4.below HB.out.size (fun _ _ h=>h)))
  clear f4 hl2 e2 HF
  have o0:w3.cell? ⟨w.heap.size+1,0,none⟩=some (.int .i64 0):=HR.out.cell 0
  have z0:w3.frozen? ⟨w.heap.size+1,0,none⟩=false:=HR.out.free 0
  have o1:w3.cell? ⟨w.heap.size+1,1,none⟩=some (.int .i64 0):=HR.out.cell 1
  have z1:w3.frozen? ⟨w.heap.size+1,1,none⟩=false:=HR.out.free 1
  have o2:w3.cell? ⟨w.heap.size+1,2,none⟩=some (.int .i64 0):=HR.out.cell 2
  have z2:w3.frozen? ⟨w.heap.size+1,2,none⟩=false:=HR.out.free 2
  have o3:w3.cell? ⟨w.heap.size+1,3,none⟩=some (.int .i64 0):=HR.out.cell 3
  have z3:w3.frozen? ⟨w.heap.size+1,3,none⟩=false:=HR.out.free 3
  have o4:w3.cell? ⟨w.heap.size+1,4,none⟩=some (.int .i64 0):=HR.out.cell 4
  have z4:w3.frozen? ⟨w.heap.size+1,4,none⟩=false:=HR.out.free 4
  have o5:w3.cell? ⟨w.heap.size+1,5,none⟩=some (.int .i64 0):=HR.out.cell 5
  have z5:w3.frozen? ⟨w.heap.size+1,5,none⟩=false:=HR.out.free 5
  have c0:w3.cell? ⟨w1.heap.size,0,none⟩=some (.int .i64 (p.t)):=HP.out.cell 0
  have c1:w3.cell? ⟨w1.heap.size,1,none⟩=some (.int .i64 (p.i)):=HP.out.cell 1
  have c2:w3.cell? ⟨w1.heap.size,2,none⟩=some (.int .i64 (p.c)):=HP.out.cell 2
  have c3:w3.cell? ⟨w1.heap.size,3,none⟩=some (.int .i64 (p.d)):=HP.out.cell 3
  have c4:w3.cell? ⟨w1.heap.size,4,none⟩=some (.int .i64 (p.p)):=HP.out.cell 4
  have c5:w3.cell? ⟨w1.heap.size,5,none⟩=some (.int .i64 (p.f)):=HP.out.cell 5
  go_wp2_with fail
  exact bodyPost_ret (results_cell_row rfl _ _ (w.heap.size+1) TPl _ (0,0) _ rfl (put6_bk HR.out p) underlying91 rfl (by kernel_rfl)) rfl ⟨by rw [HV.out],HB.out.trans ((put6_fr w3 (w.heap.size+1) p).below HB.out.size (fun k hk e=>by omega))⟩
 |none=>
  rw [hP] at hl1
  replace hl1:(Instr.lookup TMp (.map (some (h+1))) (.string (key2 t e)) true).run prog w1=.ok (.tuple #[zP,.bool false]) w1:=hl1
  go_upto_region 2 with (fail)
  have f3:=Fr.alloc (fun _=>False) w1 (.cells #[.int .i64 0,.int .i64 0,.int .i64 0,.int .i64 0,.int .i64 0,.int .i64 0] TPl)
  have b3:=Bk.new w1 #[.int .i64 0,.int .i64 0,.int .i64 0,.int .i64 0,.int .i64 0,.int .i64 0] TPl
  generalize (w1.alloc (.cells #[.int .i64 0,.int .i64 0,.int .i64 0,.int .i64 0,.int .i64 0,.int .i64 0] TPl))=w2 at *
  replace HR:=Lib.hid (HR.out.fr f3 (fun _ _ h=>h));replace HA:=Lib.hid (HA.out.keep f3);replace HF:=Lib.hid (HF.out.fr f3);replace HB:=Lib.hid (HB.out.trans (f3.below HB.out.size (fun _ _ h=>h)));have HP:=Lib.hid b3
  clear f3 b3 hl1 e1
  have e2:=(cell3 HF.out).1
  have hl2:=HF.out.s.look_ok uS zeroS ht he
  cases hn:nx L t e with
  |some y=>
   rw [show spv L t e=some y.v by unfold spv;rw [hn];rfl] at hl2
   replace hl2:(Instr.lookup TMs (.map (some h)) (.string (key2 t e)) true).run prog w2=.ok (.tuple #[y.v,.bool true]) w2:=hl2
   have HV:Hid (U=⟨0,0,3,0,0,0⟩):=by show _=_;rw [←HU.out];unfold abw;rw [hP,hn];rfl
   clear hP hn
   have kb:∀W:World,(Instr.build TPl #[(2,.int .i64 3)]).run prog W=.ok (.agg #[.int .i64 0,.int .i64 0,.int .i64 3,.int .i64 0,.int .i64 0,.int .i64 0]) W:=fun W=>by kernel_rfl
   go_upto_region 3 with (fail)
   have f4:=Fr.alloc (fun _=>False) w2 (.cells y.arr TSn)
   generalize (w2.alloc (.cells y.arr TSn))=w3 at *
   replace HR:=Lib.hid (HR.out.fr f4 (fun _ _ h=>h));replace HA:=Lib.hid (HA.out.keep f4);replace HP:=Lib.hid (HP.out.fr f4 (fun _ _ h=>h));replace HB:=Lib.hid (HB.out.trans (f4.below HB.out.size (fun _ _ h=>h)))
   clear f4 hl2 e2 HF
   have o0:w3.cell? ⟨w.heap.size+1,0,none⟩=some (.int .i64 0):=HR.out.cell 0
   have z0:w3.frozen? ⟨w.heap.size+1,0,none⟩=false:=HR.out.free 0
   have o1:w3.cell? ⟨w.heap.size+1,1,none⟩=some (.int .i64 0):=HR.out.cell 1
   have z1:w3.frozen? ⟨w.heap.size+1,1,none⟩=false:=HR.out.free 1
   have o2:w3.cell? ⟨w.heap.size+1,2,none⟩=some (.int .i64 0):=HR.out.cell 2
   have z2:w3.frozen? ⟨w.heap.size+1,2,none⟩=false:=HR.out.free 2
   have o3:w3.cell? ⟨w.heap.size+1,3,none⟩=some (.int .i64 0):=HR.out.cell 3
   have z3:w3.frozen? ⟨w.heap.size+1,3,none⟩=false:=HR.out.free 3
   have o4:w3.cell? ⟨w.heap.size+1,4,none⟩=some (.int .i64 0):=HR.out.cell 4
   have z4:w3.frozen? ⟨w.heap.size+1,4,none⟩=false:=HR.out.free 4
   have o5:w3.cell? ⟨w.heap.size+1,5,none⟩=some (.int .i64 0):=HR.out.cell 5
   have z5:w3.frozen? ⟨w.heap.size+1,5,none⟩=false:=HR.out.free 5
   go_wp2_with fail
   exact bodyPost_ret (results_cell_row rfl _ _ (w.heap.size+1) TPl _ (0,0) _ rfl (put6_bk HR.out ⟨0,0,3,0,0,0⟩) underlying91 rfl (by kernel_rfl)) rfl ⟨by rw [HV.out],HB.out.trans ((put6_fr w3 (w.heap.size+1) ⟨0,0,3,0,0,0⟩).below HB.out.size (fun k hk e=>by omega))⟩
  |none=>
   rw [show spv L t e=none by unfold spv;rw [hn];rfl] at hl2
   replace hl2:(Instr.lookup TMs (.map (some h)) (.string (key2 t e)) true).run prog w2=.ok (.tuple #[zS,.bool false]) w2:=hl2
   by_cases h0:z.p=0
   ·have q0:(z.p==0)=true:=by simp [h0]
    have HV:Hid (U=⟨0,0,1,0,z.i,0⟩):=by show _=_;rw [←HU.out];unfold abw;rw [hP,hn];simp [h0]
    clear hP hn h0
    have kb:∀W:World,(Instr.build TPl #[(2,.int .i64 1),(4,.int .i64 z.i)]).run prog W=.ok (.agg #[.int .i64 0,.int .i64 0,.int .i64 1,.int .i64 0,.int .i64 z.i,.int .i64 0]) W:=fun W=>by kernel_rfl
    go_upto_region 3 with (fail)
    have f4:=Fr.alloc (fun _=>False) w2 (.cells #[.int .i64 0,.int .i64 0,.int .i64 0,.int .i64 0,.string ByteArray.empty,.string ByteArray.empty,.int .i64 0,.int .i64 0,.bool false] TSn)
    generalize (w2.alloc (.cells #[.int .i64 0,.int .i64 0,.int .i64 0,.int .i64 0,.string ByteArray.empty,.string ByteArray.empty,.int .i64 0,.int .i64 0,.bool false] TSn))=w3 at *
    replace HR:=Lib.hid (HR.out.fr f4 (fun _ _ h=>h));replace HA:=Lib.hid (HA.out.keep f4);replace HP:=Lib.hid (HP.out.fr f4 (fun _ _ h=>h));replace HB:=Lib.hid (HB.out.trans (f4.below HB.out.size (fun _ _ h=>h)))
    clear f4 hl2 e2 HF
    have o0:w3.cell? ⟨w.heap.size+1,0,none⟩=some (.int .i64 0):=HR.out.cell 0
    have z0:w3.frozen? ⟨w.heap.size+1,0,none⟩=false:=HR.out.free 0
    have o1:w3.cell? ⟨w.heap.size+1,1,none⟩=some (.int .i64 0):=HR.out.cell 1
    have z1:w3.frozen? ⟨w.heap.size+1,1,none⟩=false:=HR.out.free 1
    have o2:w3.cell? ⟨w.heap.size+1,2,none⟩=some (.int .i64 0):=HR.out.cell 2
    have z2:w3.frozen? ⟨w.heap.size+1,2,none⟩=false:=HR.out.free 2
    have o3:w3.cell? ⟨w.heap.size+1,3,none⟩=some (.int .i64 0):=HR.out.cell 3
    have z3:w3.frozen? ⟨w.heap.size+1,3,none⟩=false:=HR.out.free 3
    have o4:w3.cell? ⟨w.heap.size+1,4,none⟩=some (.int .i64 0):=HR.out.cell 4
    have z4:w3.frozen? ⟨w.heap.size+1,4,none⟩=false:=HR.out.free 4
    have o5:w3.cell? ⟨w.heap.size+1,5,none⟩=some (.int .i64 0):=HR.out.cell 5
    have z5:w3.frozen? ⟨w.heap.size+1,5,none⟩=false:=HR.out.free 5
    have x1:w3.cell? ⟨w.heap.size,1,none⟩=some (.int .i64 z.i):=HA.out 1 _ rfl
    have x2:w3.cell? ⟨w.heap.size,2,none⟩=some (.int .i64 z.p):=HA.out 2 _ rfl
    go_wp2_with fail
    exact bodyPost_ret (results_cell_row rfl _ _ (w.heap.size+1) TPl _ (0,0) _ rfl (put6_bk HR.out ⟨0,0,1,0,z.i,0⟩) underlying91 rfl (by kernel_rfl)) rfl ⟨by rw [HV.out],HB.out.trans ((put6_fr w3 (w.heap.size+1) ⟨0,0,1,0,z.i,0⟩).below HB.out.size (fun k hk e=>by omega))⟩
   ·have q0:(z.p==0)=false:=by simp [h0]
    have HV:Hid (U=⟨0,0,2,0,z.i,0⟩):=by show _=_;rw [←HU.out];unfold abw;rw [hP,hn];simp [h0]
    clear hP hn h0
    have kb:∀W:World,(Instr.build TPl #[(2,.int .i64 2),(4,.int .i64 z.i)]).run prog W=.ok (.agg #[.int .i64 0,.int .i64 0,.int .i64 2,.int .i64 0,.int .i64 z.i,.int .i64 0]) W:=fun W=>by kernel_rfl
    go_upto_region 3 with (fail)
    have f4:=Fr.alloc (fun _=>False) w2 (.cells #[.int .i64 0,.int .i64 0,.int .i64 0,.int .i64 0,.string ByteArray.empty,.string ByteArray.empty,.int .i64 0,.int .i64 0,.bool false] TSn)
    generalize (w2.alloc (.cells #[.int .i64 0,.int .i64 0,.int .i64 0,.int .i64 0,.string ByteArray.empty,.string ByteArray.empty,.int .i64 0,.int .i64 0,.bool false] TSn))=w3 at *
    replace HR:=Lib.hid (HR.out.fr f4 (fun _ _ h=>h));replace HA:=Lib.hid (HA.out.keep f4);replace HP:=Lib.hid (HP.out.fr f4 (fun _ _ h=>h));replace HB:=Lib.hid (HB.out.trans (f4.below HB.out.size (fun _ _ h=>h)))
    clear f4 hl2 e2 HF
    have o0:w3.cell? ⟨w.heap.size+1,0,none⟩=some (.int .i64 0):=HR.out.cell 0
    have z0:w3.frozen? ⟨w.heap.size+1,0,none⟩=false:=HR.out.free 0
    have o1:w3.cell? ⟨w.heap.size+1,1,none⟩=some (.int .i64 0):=HR.out.cell 1
    have z1:w3.frozen? ⟨w.heap.size+1,1,none⟩=false:=HR.out.free 1
    have o2:w3.cell? ⟨w.heap.size+1,2,none⟩=some (.int .i64 0):=HR.out.cell 2
    have z2:w3.frozen? ⟨w.heap.size+1,2,none⟩=false:=HR.out.free 2
    have o3:w3.cell? ⟨w.heap.size+1,3,none⟩=some (.int .i64 0):=HR.out.cell 3
    have z3:w3.frozen? ⟨w.heap.size+1,3,none⟩=false:=HR.out.free 3
    have o4:w3.cell? ⟨w.heap.size+1,4,none⟩=some (.int .i64 0):=HR.out.cell 4
    have z4:w3.frozen? ⟨w.heap.size+1,4,none⟩=false:=HR.out.free 4
    have o5:w3.cell? ⟨w.heap.size+1,5,none⟩=some (.int .i64 0):=HR.out.cell 5
    have z5:w3.frozen? ⟨w.heap.size+1,5,none⟩=false:=HR.out.free 5
    have x1:w3.cell? ⟨w.heap.size,1,none⟩=some (.int .i64 z.i):=HA.out 1 _ rfl
    have x2:w3.cell? ⟨w.heap.size,2,none⟩=some (.int .i64 z.p):=HA.out 2 _ rfl
    go_wp2_with fail
    exact bodyPost_ret (results_cell_row rfl _ _ (w.heap.size+1) TPl _ (0,0) _ rfl (put6_bk HR.out ⟨0,0,2,0,z.i,0⟩) underlying91 rfl (by kernel_rfl)) rfl ⟨by rw [HV.out],HB.out.trans ((put6_fr w3 (w.heap.size+1) ⟨0,0,2,0,z.i,0⟩).below HB.out.size (fun k hk e=>by omega))⟩
end ClsF
set_option maxRecDepth 100000
set_option maxHeartbeats 2000000
namespace ClsF
open KeyP PackP SetP SetW SetF Cls ClsW ClsS
attribute [local go_sem] Eng.ev Eng.getO_cons Eng.getO_nil
def plc (L:List Sn) (y:Sn):Pc:=⟨y.t,y.i,(cdt L y).1,(cdt L y).2.1,(cdt L y).2.2,((fan L y:Nat):Int)⟩
def PG (L:List Sn) (P:Int→Int→Option Pc):Prop:=∀t i p,P t i=some p→∃y,nx L t i=some y∧p=plc L y
def updP (P:Int→Int→Option Pc) (a b:Int) (p:Pc):Int→Int→Option Pc:=fun c d=>if c=a∧d=b then some p else P c d
theorem PG.upd {L:List Sn} {P:Int→Int→Option Pc} (h:PG L P) {y:Sn} (hy:nx L y.t y.i=some y):PG L (updP P y.t y.i (plc L y)):=fun t i p hp=>by
 unfold updP at hp
 split at hp
 ·rename_i e;obtain ⟨rfl,rfl⟩:=e
  exact ⟨y,hy,by injection hp with hp;exact hp.symm⟩
 ·exact h t i p hp
theorem Fo.putP {w0 w:World} {h:Nat} {S F:List Sn} {n m:Nat} {P:Int→Int→Option Pc} (H:Fo w0 w h S F n m P) {a b:Int} (ha:wf64 a) (hb:wf64 b) (p:Pc) (hm:m+1<1000000):
  ∃w',(Instr.mapUpdate TMp (.map (some (h+1))) (.string (key2 a b)) p.v).run prog w=.ok () w'∧Fo w0 w' h S F n (m+1) (updP P a b p)∧Fr (· =h+1) w w':=by
 obtain ⟨w',h1,h2,h3⟩:=H.p.upd uP ha hb p.v (g:=fun t i=>(updP P a b p t i).map Pq.v) (by unfold updP;rw [if_pos ⟨rfl,rfl⟩];rfl) (fun c d hne=>by unfold updP;rw [if_neg hne]) hm
 exact ⟨w',h1,⟨H.b.fr h3 (fun j hj e=>by simp at hj;omega),H.s.fr h3 (by omega),h2,H.f.fr h3 (by omega),H.l.trans (h3.below H.l.size (fun j hj e=>by have:=H.z;omega)),H.z⟩,h3⟩
theorem Fo.known {w0 w:World} {h:Nat} {S F:List Sn} {n m:Nat} {P:Int→Int→Option Pc} (H:Fo w0 w h S F n m P) {a b:Int} (ha:wf64 a) (hb:wf64 b) {p:Pc} (hp:P a b=some p):(Instr.lookup TMp (.map (some (h+1))) (.string (key2 a b)) false).run prog w=.ok p.v w:=by
 rw [H.p.look uP zeroP ha hb,hp];rfl
theorem Fo.off {w0 w:World} {h:Nat} {S F:List Sn} {n m:Nat} {P:Int→Int→Option Pc} {w':World} {Bu:Nat} (H:Fo w0 w h S F n m P) (hf:Fr (fun k=>k=Bu) w w') (h1:h+3<Bu) (h2:w0.heap.size≤Bu):Fo w0 w' h S F n m P:=
 ⟨H.b.fr hf (fun j hj e=>by simp at hj;omega),H.s.fr hf (by omega),H.p.fr hf (by omega),H.f.fr hf (by omega),H.l.trans (hf.below H.l.size (fun j hj e=>by omega)),H.z⟩
structure Fq (w0 wc w:World) (h:Nat) (L:List Sn) (n m:Nat) (P:Int→Int→Option Pc):Prop where
 f:Fo w0 w h L L n m P
 r:Fr (fun k=>k=h+1) wc w
 z:h+3<wc.heap.size
 y:w0.heap.size≤wc.heap.size
theorem Fq.fr {w0 wc w w':World} {h:Nat} {L:List Sn} {n m:Nat} {P:Int→Int→Option Pc} (H:Fq w0 wc w h L n m P) (hf:Fr (fun _=>False) w w'):Fq w0 wc w' h L n m P:=⟨H.f.fr hf,H.r.trans hf (fun _ _ h=>h) (fun _ _ h=>h.elim),H.z,H.y⟩
theorem Fq.off {w0 wc w w':World} {h:Nat} {L:List Sn} {n m:Nat} {P:Int→Int→Option Pc} {Bu:Nat} (H:Fq w0 wc w h L n m P) (hf:Fr (fun k=>k=Bu) w w') (hb:wc.heap.size≤Bu):Fq w0 wc w' h L n m P:=
 ⟨H.f.off hf (by have:=H.z;omega) (by have:=H.y;omega),H.r.trans hf (fun _ _ h=>h) (fun k hk e=>by omega),H.z,H.y⟩
theorem Fq.put {w0 wc w:World} {h:Nat} {L:List Sn} {n m:Nat} {P:Int→Int→Option Pc} (H:Fq w0 wc w h L n m P) {a b:Int} (ha:wf64 a) (hb:wf64 b) (p:Pc) (hm:m+1<1000000):
  ∃w',(Instr.mapUpdate TMp (.map (some (h+1))) (.string (key2 a b)) p.v).run prog w=.ok () w'∧Fq w0 wc w' h L n (m+1) (updP P a b p)∧Fr (· =h+1) w w':=by
 obtain ⟨w',h1,h2,h3⟩:=H.f.putP ha hb p hm
 exact ⟨w',h1,⟨h2,H.r.trans h3 (fun _ _ h=>h) (fun _ _ h=>h),H.z,H.y⟩,h3⟩
structure P8 (w0 wc w:World) (h:Nat) (L:List Sn) (n m:Nat) (P:Int→Int→Option Pc) (Bu:Nat) (u:Pc) (b1 o:Nat) (z:Sn):Prop where
 f:Fq w0 wc w h L n m P
 u:Bk w Bu u.arr TPl
 a:At w b1 o z
 n:wc.heap.size≤Bu∧b1≠Bu
theorem P8.fr {w0 wc w w':World} {h:Nat} {L:List Sn} {n m:Nat} {P:Int→Int→Option Pc} {Bu:Nat} {u:Pc} {b1 o:Nat} {z:Sn} (H:P8 w0 wc w h L n m P Bu u b1 o z) (hf:Fr (fun _=>False) w w'):P8 w0 wc w' h L n m P Bu u b1 o z:=⟨H.f.fr hf,H.u.fr hf (fun _ _ h=>h),H.a.keep hf,H.n⟩
theorem P8.store {w0 wc w:World} {h:Nat} {L:List Sn} {n m:Nat} {P:Int→Int→Option Pc} {Bu:Nat} {u:Pc} {b1 o:Nat} {z:Sn} (H:P8 w0 wc w h L n m P Bu u b1 o z) (p:Pc):P8 w0 wc (put6 w Bu p) h L n m P Bu p b1 o z:=
 ⟨H.f.off (put6_fr w Bu p) H.n.1,put6_bk H.u p,H.a.fr (put6_fr w Bu p) (fun e=>H.n.2 e),H.n⟩
theorem pc8 {ops:Array Oper} (hops:Eng.fnOps Tryz.f99 8=ops) (a0:Act) (Q:Exit→Act→World→Prop) (w0 wc w:World) (h:Nat) (L:List Sn) (n m:Nat) (P:Int→Int→Option Pc) (Bu:Nat) (u p:Pc) (b1 o1 len c k:Nat) (z:Sn) (hz:wf64 z.t) (hzi:wf64 z.i) (hp:P z.t z.i=some p) (hk:k+1<len) (hlen:len≤1000) (hst:P8 w0 wc w h L n m P Bu u b1 (o1+(k+1)*9) z)
  (hn:a0.tmps.size=90) (h_0:a0.tmps.getD 0 undef=.pointer (some ⟨h+3,0,none⟩)) (h_5:a0.tmps.getD 5 undef=.slice (some ⟨b1,o1,none⟩) len c) (h_7:a0.tmps.getD 7 undef=.int .i64 (k:Int)) (h_9:a0.tmps.getD 9 undef=.pointer (some ⟨Bu,0,none⟩))
  (hpost:∀ (x:Nat→Value) (w':World),P8 w0 wc w' h L n m P Bu p b1 (o1+(k+1)*9) z→Q .normal (Eng.setAll a0 [42,43,44,45,46,47,48,49,50,51,52] x) w'):
  (Code.region 8 ops true).wp prog Q a0 w:=by
 simp only [Eng.fnOps,Eng.regOps,Tryz.f99,Option.bind_some,Option.getD_some,Nat.reduceEqDiff,↓reduceIte] at hops
 subst hops
 have q1:(0:Int)≤(k:Int)+1:=by omega
 have q2:(k:Int)+1<(len:Int):=by omega
 have q3:IntKind.i64.wrap ((k:Int)+1)=(k:Int)+1:=by rw [IntKind.wrap_i64];omega
 have HSt:=Lib.hid (hst.fr (Fr.drew _ _))
 refine Eng.regionT (.take 0 (.take 1 (.take 2 (.take 3 (.take 4 (.take 5 (.take 6 (.take 7 (.take 8 (.alt 9 (.alt 10 (.alt 11 (.done) (.stop)) (.stop)) (.stop))))))))))) (fun w'=>w'.cell? ⟨h+3,1,none⟩=some (.map (some (h+1)))∧w'.cell? ⟨b1,o1+(k+1)*9,none⟩=some (.int .i64 z.t)∧w'.cell? ⟨b1,o1+(k+1)*9+1,none⟩=some (.int .i64 z.i)∧w'.cell? ⟨b1,o1+(k+1)*9+1+1,none⟩=some (.int .i64 z.p)∧w'.cell? ⟨b1,o1+(k+1)*9+1+1+1,none⟩=some (.int .i64 z.r)∧w'.cell? ⟨b1,o1+(k+1)*9+1+1+1+1,none⟩=some (.string z.s)∧w'.cell? ⟨b1,o1+(k+1)*9+1+1+1+1+1,none⟩=some (.string z.o)∧w'.cell? ⟨b1,o1+(k+1)*9+1+1+1+1+1+1,none⟩=some (.int .i64 z.b)∧w'.cell? ⟨b1,o1+(k+1)*9+1+1+1+1+1+1+1,none⟩=some (.int .i64 z.d)∧w'.cell? ⟨b1,o1+(k+1)*9+1+1+1+1+1+1+1+1,none⟩=some (.bool z.g)) (by kernel_rfl) 90 hn (by kernel_rfl) (by kernel_rfl) (by kernel_rfl) (⟨(cell3 HSt.out.f.f).2.1,HSt.out.a 0 _ rfl,HSt.out.a 1 _ rfl,HSt.out.a 2 _ rfl,HSt.out.a 3 _ rfl,HSt.out.a 4 _ rfl,HSt.out.a 5 _ rfl,HSt.out.a 6 _ rfl,HSt.out.a 7 _ rfl,HSt.out.a 8 _ rfl⟩) (fun a b ha hb=>?_)
 subst ha
 have hb0:b 0=.pointer (some ⟨h+3,0,none⟩):=(hb 0).symm.trans h_0
 have hb5:b 5=.slice (some ⟨b1,o1,none⟩) len c:=(hb 5).symm.trans h_5
 have hb7:b 7=.int .i64 (k:Int):=(hb 7).symm.trans h_7
 have hb9:b 9=.pointer (some ⟨Bu,0,none⟩):=(hb 9).symm.trans h_9
 clear hb h_0 h_5 h_7 h_9
 have HP:=Lib.hid hpost;have HN:=Lib.hid hn
 clear hpost hn
 iterate 9 (refine Eng.TW.tk ?_)
 refine Eng.TW.call rfl rfl (by decide) (by kernel_rfl) ?_ (Key.Span z hz hzi _) ?_
 ·go_simp
 rintro e w2 ⟨rfl,hb1⟩
 have HSt2:=Lib.hid (HSt.out.fr (Fr.of_below' hb1 _))
 clear hb1
 refine ⟨_,rfl,⟨(cell3 HSt2.out.f.f).2.1,HSt2.out.a 0 _ rfl,HSt2.out.a 1 _ rfl,HSt2.out.a 2 _ rfl,HSt2.out.a 3 _ rfl,HSt2.out.a 4 _ rfl,HSt2.out.a 5 _ rfl,HSt2.out.a 6 _ rfl,HSt2.out.a 7 _ rfl,HSt2.out.a 8 _ rfl⟩,?_⟩
 have hlk:=HSt2.out.f.f.known hz hzi hp
 refine Eng.TW.step rfl rfl (by decide) (by kernel_rfl) (by go_simp;first|done|with_reducible rfl) (⟨(cell3 (HSt2.out).f.f).2.1,(HSt2.out).a 0 _ rfl,(HSt2.out).a 1 _ rfl,(HSt2.out).a 2 _ rfl,(HSt2.out).a 3 _ rfl,(HSt2.out).a 4 _ rfl,(HSt2.out).a 5 _ rfl,(HSt2.out).a 6 _ rfl,(HSt2.out).a 7 _ rfl,(HSt2.out).a 8 _ rfl⟩) ?_
 have HSt3:=Lib.hid (HSt2.out)
 have hSS:(w2).cell? ⟨h+3,1,none⟩=some (.map (some (h+1)))∧(w2).cell? ⟨b1,o1+(k+1)*9,none⟩=some (.int .i64 z.t)∧(w2).cell? ⟨b1,o1+(k+1)*9+1,none⟩=some (.int .i64 z.i)∧(w2).cell? ⟨b1,o1+(k+1)*9+1+1,none⟩=some (.int .i64 z.p)∧(w2).cell? ⟨b1,o1+(k+1)*9+1+1+1,none⟩=some (.int .i64 z.r)∧(w2).cell? ⟨b1,o1+(k+1)*9+1+1+1+1,none⟩=some (.string z.s)∧(w2).cell? ⟨b1,o1+(k+1)*9+1+1+1+1+1,none⟩=some (.string z.o)∧(w2).cell? ⟨b1,o1+(k+1)*9+1+1+1+1+1+1,none⟩=some (.int .i64 z.b)∧(w2).cell? ⟨b1,o1+(k+1)*9+1+1+1+1+1+1+1,none⟩=some (.int .i64 z.d)∧(w2).cell? ⟨b1,o1+(k+1)*9+1+1+1+1+1+1+1+1,none⟩=some (.bool z.g):=⟨(cell3 HSt3.out.f.f).2.1,HSt3.out.a 0 _ rfl,HSt3.out.a 1 _ rfl,HSt3.out.a 2 _ rfl,HSt3.out.a 3 _ rfl,HSt3.out.a 4 _ rfl,HSt3.out.a 5 _ rfl,HSt3.out.a 6 _ rfl,HSt3.out.a 7 _ rfl,HSt3.out.a 8 _ rfl⟩
 have u0:(w2).cell? ⟨Bu,0,none⟩=some (.int .i64 u.t):=HSt3.out.u.cell 0
 have v0:(w2).frozen? ⟨Bu,0,none⟩=false:=HSt3.out.u.free 0
 have u1:(w2).cell? ⟨Bu,1,none⟩=some (.int .i64 u.i):=HSt3.out.u.cell 1
 have v1:(w2).frozen? ⟨Bu,1,none⟩=false:=HSt3.out.u.free 1
 have u2:(w2).cell? ⟨Bu,2,none⟩=some (.int .i64 u.c):=HSt3.out.u.cell 2
 have v2:(w2).frozen? ⟨Bu,2,none⟩=false:=HSt3.out.u.free 2
 have u3:(w2).cell? ⟨Bu,3,none⟩=some (.int .i64 u.d):=HSt3.out.u.cell 3
 have v3:(w2).frozen? ⟨Bu,3,none⟩=false:=HSt3.out.u.free 3
 have u4:(w2).cell? ⟨Bu,4,none⟩=some (.int .i64 u.p):=HSt3.out.u.cell 4
 have v4:(w2).frozen? ⟨Bu,4,none⟩=false:=HSt3.out.u.free 4
 have u5:(w2).cell? ⟨Bu,5,none⟩=some (.int .i64 u.f):=HSt3.out.u.cell 5
 have v5:(w2).frozen? ⟨Bu,5,none⟩=false:=HSt3.out.u.free 5
 have HSt4:=Lib.hid (HSt3.out.store p)
 refine Eng.TW.step0 rfl rfl (by kernel_rfl) (by go_simp;first|done|with_reducible rfl) (⟨(cell3 HSt4.out.f.f).2.1,HSt4.out.a 0 _ rfl,HSt4.out.a 1 _ rfl,HSt4.out.a 2 _ rfl,HSt4.out.a 3 _ rfl,HSt4.out.a 4 _ rfl,HSt4.out.a 5 _ rfl,HSt4.out.a 6 _ rfl,HSt4.out.a 7 _ rfl,HSt4.out.a 8 _ rfl⟩) ?_
 have hSS:((((((((w2).setCell ⟨Bu,0,none⟩ (.int .i64 p.t)).setCell ⟨Bu,1,none⟩ (.int .i64 p.i)).setCell ⟨Bu,2,none⟩ (.int .i64 p.c)).setCell ⟨Bu,3,none⟩ (.int .i64 p.d)).setCell ⟨Bu,4,none⟩ (.int .i64 p.p)).setCell ⟨Bu,5,none⟩ (.int .i64 p.f))).cell? ⟨h+3,1,none⟩=some (.map (some (h+1)))∧((((((((w2).setCell ⟨Bu,0,none⟩ (.int .i64 p.t)).setCell ⟨Bu,1,none⟩ (.int .i64 p.i)).setCell ⟨Bu,2,none⟩ (.int .i64 p.c)).setCell ⟨Bu,3,none⟩ (.int .i64 p.d)).setCell ⟨Bu,4,none⟩ (.int .i64 p.p)).setCell ⟨Bu,5,none⟩ (.int .i64 p.f))).cell? ⟨b1,o1+(k+1)*9,none⟩=some (.int .i64 z.t)∧((((((((w2).setCell ⟨Bu,0,none⟩ (.int .i64 p.t)).setCell ⟨Bu,1,none⟩ (.int .i64 p.i)).setCell ⟨Bu,2,none⟩ (.int .i64 p.c)).setCell ⟨Bu,3,none⟩ (.int .i64 p.d)).setCell ⟨Bu,4,none⟩ (.int .i64 p.p)).setCell ⟨Bu,5,none⟩ (.int .i64 p.f))).cell? ⟨b1,o1+(k+1)*9+1,none⟩=some (.int .i64 z.i)∧((((((((w2).setCell ⟨Bu,0,none⟩ (.int .i64 p.t)).setCell ⟨Bu,1,none⟩ (.int .i64 p.i)).setCell ⟨Bu,2,none⟩ (.int .i64 p.c)).setCell ⟨Bu,3,none⟩ (.int .i64 p.d)).setCell ⟨Bu,4,none⟩ (.int .i64 p.p)).setCell ⟨Bu,5,none⟩ (.int .i64 p.f))).cell? ⟨b1,o1+(k+1)*9+1+1,none⟩=some (.int .i64 z.p)∧((((((((w2).setCell ⟨Bu,0,none⟩ (.int .i64 p.t)).setCell ⟨Bu,1,none⟩ (.int .i64 p.i)).setCell ⟨Bu,2,none⟩ (.int .i64 p.c)).setCell ⟨Bu,3,none⟩ (.int .i64 p.d)).setCell ⟨Bu,4,none⟩ (.int .i64 p.p)).setCell ⟨Bu,5,none⟩ (.int .i64 p.f))).cell? ⟨b1,o1+(k+1)*9+1+1+1,none⟩=some (.int .i64 z.r)∧((((((((w2).setCell ⟨Bu,0,none⟩ (.int .i64 p.t)).setCell ⟨Bu,1,none⟩ (.int .i64 p.i)).setCell ⟨Bu,2,none⟩ (.int .i64 p.c)).setCell ⟨Bu,3,none⟩ (.int .i64 p.d)).setCell ⟨Bu,4,none⟩ (.int .i64 p.p)).setCell ⟨Bu,5,none⟩ (.int .i64 p.f))).cell? ⟨b1,o1+(k+1)*9+1+1+1+1,none⟩=some (.string z.s)∧((((((((w2).setCell ⟨Bu,0,none⟩ (.int .i64 p.t)).setCell ⟨Bu,1,none⟩ (.int .i64 p.i)).setCell ⟨Bu,2,none⟩ (.int .i64 p.c)).setCell ⟨Bu,3,none⟩ (.int .i64 p.d)).setCell ⟨Bu,4,none⟩ (.int .i64 p.p)).setCell ⟨Bu,5,none⟩ (.int .i64 p.f))).cell? ⟨b1,o1+(k+1)*9+1+1+1+1+1,none⟩=some (.string z.o)∧((((((((w2).setCell ⟨Bu,0,none⟩ (.int .i64 p.t)).setCell ⟨Bu,1,none⟩ (.int .i64 p.i)).setCell ⟨Bu,2,none⟩ (.int .i64 p.c)).setCell ⟨Bu,3,none⟩ (.int .i64 p.d)).setCell ⟨Bu,4,none⟩ (.int .i64 p.p)).setCell ⟨Bu,5,none⟩ (.int .i64 p.f))).cell? ⟨b1,o1+(k+1)*9+1+1+1+1+1+1,none⟩=some (.int .i64 z.b)∧((((((((w2).setCell ⟨Bu,0,none⟩ (.int .i64 p.t)).setCell ⟨Bu,1,none⟩ (.int .i64 p.i)).setCell ⟨Bu,2,none⟩ (.int .i64 p.c)).setCell ⟨Bu,3,none⟩ (.int .i64 p.d)).setCell ⟨Bu,4,none⟩ (.int .i64 p.p)).setCell ⟨Bu,5,none⟩ (.int .i64 p.f))).cell? ⟨b1,o1+(k+1)*9+1+1+1+1+1+1+1,none⟩=some (.int .i64 z.d)∧((((((((w2).setCell ⟨Bu,0,none⟩ (.int .i64 p.t)).setCell ⟨Bu,1,none⟩ (.int .i64 p.i)).setCell ⟨Bu,2,none⟩ (.int .i64 p.c)).setCell ⟨Bu,3,none⟩ (.int .i64 p.d)).setCell ⟨Bu,4,none⟩ (.int .i64 p.p)).setCell ⟨Bu,5,none⟩ (.int .i64 p.f))).cell? ⟨b1,o1+(k+1)*9+1+1+1+1+1+1+1+1,none⟩=some (.bool z.g):=⟨(cell3 HSt4.out.f.f).2.1,HSt4.out.a 0 _ rfl,HSt4.out.a 1 _ rfl,HSt4.out.a 2 _ rfl,HSt4.out.a 3 _ rfl,HSt4.out.a 4 _ rfl,HSt4.out.a 5 _ rfl,HSt4.out.a 6 _ rfl,HSt4.out.a 7 _ rfl,HSt4.out.a 8 _ rfl⟩
 refine Eng.TW.end_ [42,43,44,45,46,47,48,49,50,51,52] HN.out (by kernel_rfl) (by kernel_rfl) ?_
 exact HP.out _ _ HSt4.out
structure P9 (w0 wc w:World) (h:Nat) (L:List Sn) (n m:Nat) (P:Int→Int→Option Pc) (Bu:Nat) (u:Pc) (By:Nat) (y:Sn) (bs:List Nat) (q:Pc):Prop where
 f:Fq w0 wc w h L n m P
 u:Bk w Bu u.arr TPl
 a:At w By 0 y
 p:∀b∈bs,Bk w b q.arr TPl∧wc.heap.size≤b∧b≠Bu∧b≠By
theorem P9.fr {w0 wc w w':World} {h:Nat} {L:List Sn} {n m:Nat} {P:Int→Int→Option Pc} {Bu:Nat} {u:Pc} {By:Nat} {y:Sn} {bs:List Nat} {q:Pc} (H:P9 w0 wc w h L n m P Bu u By y bs q) (hf:Fr (fun _=>False) w w'):P9 w0 wc w' h L n m P Bu u By y bs q:=⟨H.f.fr hf,H.u.fr hf (fun _ _ h=>h),H.a.keep hf,fun b hb=>⟨(H.p b hb).1.fr hf (fun _ _ h=>h),(H.p b hb).2⟩⟩
theorem P9.alloc {w0 wc w:World} {h:Nat} {L:List Sn} {n m:Nat} {P:Int→Int→Option Pc} {Bu:Nat} {u:Pc} {By:Nat} {y:Sn} (H:P9 w0 wc w h L n m P Bu u By y [] z6):P9 w0 wc (w.alloc (.cells #[.int .i64 0,.int .i64 0,.int .i64 0,.int .i64 0,.int .i64 0,.int .i64 0] TPl)) h L n m P Bu u By y [w.heap.size] z6:=
 ⟨H.f.fr (Fr.alloc _ w _),H.u.fr (Fr.alloc (fun _=>False) w _) (fun _ _ h=>h),H.a.keep (Fr.alloc _ w _),fun b hb=>by
  simp only [List.mem_singleton] at hb;subst hb
  exact ⟨Bk.new w z6.arr TPl,H.f.r.size,by have:=lt_of_heap H.u;omega,by have:=H.a.lt;omega⟩⟩
theorem P9.allocP {w0 wc w:World} {h:Nat} {L:List Sn} {n m:Nat} {P:Int→Int→Option Pc} {Bu:Nat} {u:Pc} {By:Nat} {y:Sn} (H:P9 w0 wc w h L n m P Bu u By y [] z6) (p:Pc):P9 w0 wc (w.alloc (.cells p.arr TPl)) h L n m P Bu u By y [w.heap.size] p:=
 ⟨H.f.fr (Fr.alloc _ w _),H.u.fr (Fr.alloc (fun _=>False) w _) (fun _ _ h=>h),H.a.keep (Fr.alloc _ w _),fun b hb=>by
  simp only [List.mem_singleton] at hb;subst hb
  exact ⟨Bk.new w p.arr TPl,H.f.r.size,by have:=lt_of_heap H.u;omega,by have:=H.a.lt;omega⟩⟩
theorem P9.store {w0 wc w:World} {h:Nat} {L:List Sn} {n m:Nat} {P:Int→Int→Option Pc} {Bu:Nat} {u:Pc} {By:Nat} {y:Sn} {Bp:Nat} {q:Pc} (H:P9 w0 wc w h L n m P Bu u By y [Bp] q) (p:Pc):P9 w0 wc (put6 w Bp p) h L n m P Bu u By y [Bp] p:=by
 obtain ⟨h1,h2,h3,h4⟩:=H.p Bp (by simp)
 exact ⟨H.f.off (put6_fr w Bp p) h2,H.u.fr (put6_fr w Bp p) (fun k hk e=>by simp at hk;omega),H.a.fr (put6_fr w Bp p) (fun e=>h4 e.symm),fun b hb=>by
  simp only [List.mem_singleton] at hb;subst hb
  exact ⟨put6_bk h1 p,h2,h3,h4⟩⟩
theorem buildP (t i c d q f:Int) (W:World):(Instr.build TPl #[(0,.int .i64 t),(1,.int .i64 i),(2,.int .i64 c),(3,.int .i64 d),(4,.int .i64 q),(5,.int .i64 f)]).run prog W=.ok (.agg #[.int .i64 t,.int .i64 i,.int .i64 c,.int .i64 d,.int .i64 q,.int .i64 f]) W:=by kernel_rfl
theorem pc9 {ops:Array Oper} (hops:Eng.fnOps Tryz.f99 9=ops) (a0:Act) (Q:Exit→Act→World→Prop) (w0 wc w:World) (h:Nat) (L:List Sn) (n m:Nat) (P:Int→Int→Option Pc) (Bu:Nat) (u:Pc) (By:Nat) (y:Sn) (c:Nat) (hy:wf64 y.t) (hyi:wf64 y.i) (hc:cnt L y.t y.i=c) (hud:0≤u.d∧u.d≤1000000) (hst:P9 w0 wc w h L n m P Bu u By y [] z6)
  (hn:a0.tmps.size=90) (h_0:a0.tmps.getD 0 undef=.pointer (some ⟨h+3,0,none⟩)) (h_8:a0.tmps.getD 8 undef=.pointer (some ⟨By,0,none⟩)) (h_9:a0.tmps.getD 9 undef=.pointer (some ⟨Bu,0,none⟩))
  (hpost:∀ (x:Nat→Value) (w':World) (Bp:Nat),x 10=.pointer (some ⟨Bp,0,none⟩)→P9 w0 wc w' h L n m P Bu u By y [Bp] ⟨y.t,y.i,u.c,u.d+1,u.p,(c:Int)⟩→Q .normal (Eng.setAll a0 [10,53,54,55,56,57,58,59,60,61,62,63,64,65,66,67,68,69,70,71] x) w'):
  (Code.region 9 ops true).wp prog Q a0 w:=by
 simp only [Eng.fnOps,Eng.regOps,Tryz.f99,Option.bind_some,Option.getD_some,Nat.reduceEqDiff,↓reduceIte] at hops
 subst hops
 have q3:IntKind.i64.wrap (u.d+1)=u.d+1:=by rw [IntKind.wrap_i64];omega
 have kb:=buildP
 have HSt:=Lib.hid (hst.fr (Fr.drew _ _))
 refine Eng.regionT (.take 0 (.take 1 (.take 2 (.take 3 (.take 4 (.take 5 (.take 6 (.take 7 (.take 8 (.take 9 (.take 10 (.take 11 (.take 12 (.take 13 (.take 14 (.take 15 (.alt 16 (.alt 17 (.take 18 (.alt 19 (.alt 20 (.done) (.stop)) (.stop))) (.alt 19 (.alt 17 (.take 18 (.alt 20 (.done) (.stop))) (.stop)) (.stop))) (.alt 19 (.alt 16 (.alt 17 (.take 18 (.alt 20 (.done) (.stop))) (.stop)) (.stop)) (.stop))))))))))))))))))) (fun w'=>w'.cell? ⟨h+3,2,none⟩=some (.map (some (h+2)))∧w'.cell? ⟨By,0,none⟩=some (.int .i64 y.t)∧w'.cell? ⟨By,1,none⟩=some (.int .i64 y.i)∧w'.cell? ⟨By,2,none⟩=some (.int .i64 y.p)∧w'.cell? ⟨By,3,none⟩=some (.int .i64 y.r)∧w'.cell? ⟨By,4,none⟩=some (.string y.s)∧w'.cell? ⟨By,5,none⟩=some (.string y.o)∧w'.cell? ⟨By,6,none⟩=some (.int .i64 y.b)∧w'.cell? ⟨By,7,none⟩=some (.int .i64 y.d)∧w'.cell? ⟨By,8,none⟩=some (.bool y.g)∧w'.cell? ⟨Bu,2,none⟩=some (.int .i64 u.c)∧w'.cell? ⟨Bu,3,none⟩=some (.int .i64 u.d)∧w'.cell? ⟨Bu,4,none⟩=some (.int .i64 u.p)) (by kernel_rfl) 90 hn (by kernel_rfl) (by kernel_rfl) (by kernel_rfl) (⟨(cell3 HSt.out.f.f).2.2,HSt.out.a 0 _ rfl,HSt.out.a 1 _ rfl,HSt.out.a 2 _ rfl,HSt.out.a 3 _ rfl,HSt.out.a 4 _ rfl,HSt.out.a 5 _ rfl,HSt.out.a 6 _ rfl,HSt.out.a 7 _ rfl,HSt.out.a 8 _ rfl,HSt.out.u.cell 2,HSt.out.u.cell 3,HSt.out.u.cell 4⟩) (fun a b ha hb=>?_)
 subst ha
 have hb0:b 0=.pointer (some ⟨h+3,0,none⟩):=(hb 0).symm.trans h_0
 have hb8:b 8=.pointer (some ⟨By,0,none⟩):=(hb 8).symm.trans h_8
 have hb9:b 9=.pointer (some ⟨Bu,0,none⟩):=(hb 9).symm.trans h_9
 clear hb h_0 h_8 h_9
 have HP:=Lib.hid hpost;have HN:=Lib.hid hn
 clear hpost hn
 iterate 16 (refine Eng.TW.tk ?_)
 refine Eng.TW.both ?_ ?_
 ·refine Eng.TW.call rfl rfl (by decide) (by kernel_rfl) ?_ (Key.Span y hy hyi _) ?_
  ·go_simp
  rintro e w2 ⟨rfl,hb1⟩
  have HSt2:=Lib.hid (HSt.out.fr (Fr.of_below' hb1 _))
  clear hb1
  refine ⟨_,rfl,⟨(cell3 HSt2.out.f.f).2.2,HSt2.out.a 0 _ rfl,HSt2.out.a 1 _ rfl,HSt2.out.a 2 _ rfl,HSt2.out.a 3 _ rfl,HSt2.out.a 4 _ rfl,HSt2.out.a 5 _ rfl,HSt2.out.a 6 _ rfl,HSt2.out.a 7 _ rfl,HSt2.out.a 8 _ rfl,HSt2.out.u.cell 2,HSt2.out.u.cell 3,HSt2.out.u.cell 4⟩,?_⟩
  refine Eng.TW.both ?_ ?_
  ·have hlk:=HSt2.out.f.f.count hy hyi
   rw [hc] at hlk
   refine Eng.TW.step rfl rfl (by decide) (by kernel_rfl) (by go_simp;first|done|with_reducible rfl) (⟨(cell3 (HSt2.out).f.f).2.2,(HSt2.out).a 0 _ rfl,(HSt2.out).a 1 _ rfl,(HSt2.out).a 2 _ rfl,(HSt2.out).a 3 _ rfl,(HSt2.out).a 4 _ rfl,(HSt2.out).a 5 _ rfl,(HSt2.out).a 6 _ rfl,(HSt2.out).a 7 _ rfl,(HSt2.out).a 8 _ rfl,(HSt2.out).u.cell 2,(HSt2.out).u.cell 3,(HSt2.out).u.cell 4⟩) ?_
   have HSt3:=Lib.hid (HSt2.out)
   have hSS:(w2).cell? ⟨h+3,2,none⟩=some (.map (some (h+2)))∧(w2).cell? ⟨By,0,none⟩=some (.int .i64 y.t)∧(w2).cell? ⟨By,1,none⟩=some (.int .i64 y.i)∧(w2).cell? ⟨By,2,none⟩=some (.int .i64 y.p)∧(w2).cell? ⟨By,3,none⟩=some (.int .i64 y.r)∧(w2).cell? ⟨By,4,none⟩=some (.string y.s)∧(w2).cell? ⟨By,5,none⟩=some (.string y.o)∧(w2).cell? ⟨By,6,none⟩=some (.int .i64 y.b)∧(w2).cell? ⟨By,7,none⟩=some (.int .i64 y.d)∧(w2).cell? ⟨By,8,none⟩=some (.bool y.g)∧(w2).cell? ⟨Bu,2,none⟩=some (.int .i64 u.c)∧(w2).cell? ⟨Bu,3,none⟩=some (.int .i64 u.d)∧(w2).cell? ⟨Bu,4,none⟩=some (.int .i64 u.p):=⟨(cell3 HSt3.out.f.f).2.2,HSt3.out.a 0 _ rfl,HSt3.out.a 1 _ rfl,HSt3.out.a 2 _ rfl,HSt3.out.a 3 _ rfl,HSt3.out.a 4 _ rfl,HSt3.out.a 5 _ rfl,HSt3.out.a 6 _ rfl,HSt3.out.a 7 _ rfl,HSt3.out.a 8 _ rfl,HSt3.out.u.cell 2,HSt3.out.u.cell 3,HSt3.out.u.cell 4⟩
   refine Eng.TW.tk ?_
   refine Eng.TW.step rfl rfl (by decide) (by kernel_rfl) (by go_simp;first|done|with_reducible rfl) (⟨(cell3 (HSt3.out.alloc).f.f).2.2,(HSt3.out.alloc).a 0 _ rfl,(HSt3.out.alloc).a 1 _ rfl,(HSt3.out.alloc).a 2 _ rfl,(HSt3.out.alloc).a 3 _ rfl,(HSt3.out.alloc).a 4 _ rfl,(HSt3.out.alloc).a 5 _ rfl,(HSt3.out.alloc).a 6 _ rfl,(HSt3.out.alloc).a 7 _ rfl,(HSt3.out.alloc).a 8 _ rfl,(HSt3.out.alloc).u.cell 2,(HSt3.out.alloc).u.cell 3,(HSt3.out.alloc).u.cell 4⟩) ?_
   have HSt4:=Lib.hid (HSt3.out.alloc)
   have hSS:(((w2)).alloc (.cells #[.int .i64 0,.int .i64 0,.int .i64 0,.int .i64 0,.int .i64 0,.int .i64 0] TPl)).cell? ⟨h+3,2,none⟩=some (.map (some (h+2)))∧(((w2)).alloc (.cells #[.int .i64 0,.int .i64 0,.int .i64 0,.int .i64 0,.int .i64 0,.int .i64 0] TPl)).cell? ⟨By,0,none⟩=some (.int .i64 y.t)∧(((w2)).alloc (.cells #[.int .i64 0,.int .i64 0,.int .i64 0,.int .i64 0,.int .i64 0,.int .i64 0] TPl)).cell? ⟨By,1,none⟩=some (.int .i64 y.i)∧(((w2)).alloc (.cells #[.int .i64 0,.int .i64 0,.int .i64 0,.int .i64 0,.int .i64 0,.int .i64 0] TPl)).cell? ⟨By,2,none⟩=some (.int .i64 y.p)∧(((w2)).alloc (.cells #[.int .i64 0,.int .i64 0,.int .i64 0,.int .i64 0,.int .i64 0,.int .i64 0] TPl)).cell? ⟨By,3,none⟩=some (.int .i64 y.r)∧(((w2)).alloc (.cells #[.int .i64 0,.int .i64 0,.int .i64 0,.int .i64 0,.int .i64 0,.int .i64 0] TPl)).cell? ⟨By,4,none⟩=some (.string y.s)∧(((w2)).alloc (.cells #[.int .i64 0,.int .i64 0,.int .i64 0,.int .i64 0,.int .i64 0,.int .i64 0] TPl)).cell? ⟨By,5,none⟩=some (.string y.o)∧(((w2)).alloc (.cells #[.int .i64 0,.int .i64 0,.int .i64 0,.int .i64 0,.int .i64 0,.int .i64 0] TPl)).cell? ⟨By,6,none⟩=some (.int .i64 y.b)∧(((w2)).alloc (.cells #[.int .i64 0,.int .i64 0,.int .i64 0,.int .i64 0,.int .i64 0,.int .i64 0] TPl)).cell? ⟨By,7,none⟩=some (.int .i64 y.d)∧(((w2)).alloc (.cells #[.int .i64 0,.int .i64 0,.int .i64 0,.int .i64 0,.int .i64 0,.int .i64 0] TPl)).cell? ⟨By,8,none⟩=some (.bool y.g)∧(((w2)).alloc (.cells #[.int .i64 0,.int .i64 0,.int .i64 0,.int .i64 0,.int .i64 0,.int .i64 0] TPl)).cell? ⟨Bu,2,none⟩=some (.int .i64 u.c)∧(((w2)).alloc (.cells #[.int .i64 0,.int .i64 0,.int .i64 0,.int .i64 0,.int .i64 0,.int .i64 0] TPl)).cell? ⟨Bu,3,none⟩=some (.int .i64 u.d)∧(((w2)).alloc (.cells #[.int .i64 0,.int .i64 0,.int .i64 0,.int .i64 0,.int .i64 0,.int .i64 0] TPl)).cell? ⟨Bu,4,none⟩=some (.int .i64 u.p):=⟨(cell3 HSt4.out.f.f).2.2,HSt4.out.a 0 _ rfl,HSt4.out.a 1 _ rfl,HSt4.out.a 2 _ rfl,HSt4.out.a 3 _ rfl,HSt4.out.a 4 _ rfl,HSt4.out.a 5 _ rfl,HSt4.out.a 6 _ rfl,HSt4.out.a 7 _ rfl,HSt4.out.a 8 _ rfl,HSt4.out.u.cell 2,HSt4.out.u.cell 3,HSt4.out.u.cell 4⟩
   have u0:=(HSt4.out.p _ (List.mem_cons_self ..)).1.cell 0
   have v0:=(HSt4.out.p _ (List.mem_cons_self ..)).1.free 0
   have u1:=(HSt4.out.p _ (List.mem_cons_self ..)).1.cell 1
   have v1:=(HSt4.out.p _ (List.mem_cons_self ..)).1.free 1
   have u2:=(HSt4.out.p _ (List.mem_cons_self ..)).1.cell 2
   have v2:=(HSt4.out.p _ (List.mem_cons_self ..)).1.free 2
   have u3:=(HSt4.out.p _ (List.mem_cons_self ..)).1.cell 3
   have v3:=(HSt4.out.p _ (List.mem_cons_self ..)).1.free 3
   have u4:=(HSt4.out.p _ (List.mem_cons_self ..)).1.cell 4
   have v4:=(HSt4.out.p _ (List.mem_cons_self ..)).1.free 4
   have u5:=(HSt4.out.p _ (List.mem_cons_self ..)).1.cell 5
   have v5:=(HSt4.out.p _ (List.mem_cons_self ..)).1.free 5
   simp only [List.getElem?_toArray,List.getElem?_cons_zero,List.getElem?_cons_succ] at u0 u1 u2 u3 u4 u5
   have HSt5:=Lib.hid (HSt3.out.allocP ⟨y.t,y.i,u.c,u.d+1,u.p,(c:Int)⟩)
   refine Eng.TW.step0 rfl rfl (by kernel_rfl) (by go_simp;first|done|with_reducible rfl) (⟨(cell3 HSt5.out.f.f).2.2,HSt5.out.a 0 _ rfl,HSt5.out.a 1 _ rfl,HSt5.out.a 2 _ rfl,HSt5.out.a 3 _ rfl,HSt5.out.a 4 _ rfl,HSt5.out.a 5 _ rfl,HSt5.out.a 6 _ rfl,HSt5.out.a 7 _ rfl,HSt5.out.a 8 _ rfl,HSt5.out.u.cell 2,HSt5.out.u.cell 3,HSt5.out.u.cell 4⟩) ?_
   refine Eng.TW.end_ [10,53,54,55,56,57,58,59,60,61,62,63,64,65,66,67,68,69,70,71] HN.out (by kernel_rfl) (by kernel_rfl) ?_
   exact HP.out _ _ _ rfl HSt5.out
  refine Eng.TW.step rfl rfl (by decide) (by kernel_rfl) (by go_simp;first|done|with_reducible rfl) (⟨(cell3 (HSt2.out.alloc).f.f).2.2,(HSt2.out.alloc).a 0 _ rfl,(HSt2.out.alloc).a 1 _ rfl,(HSt2.out.alloc).a 2 _ rfl,(HSt2.out.alloc).a 3 _ rfl,(HSt2.out.alloc).a 4 _ rfl,(HSt2.out.alloc).a 5 _ rfl,(HSt2.out.alloc).a 6 _ rfl,(HSt2.out.alloc).a 7 _ rfl,(HSt2.out.alloc).a 8 _ rfl,(HSt2.out.alloc).u.cell 2,(HSt2.out.alloc).u.cell 3,(HSt2.out.alloc).u.cell 4⟩) ?_
  have HSt3:=Lib.hid (HSt2.out.alloc)
  have hSS:((w2).alloc (.cells #[.int .i64 0,.int .i64 0,.int .i64 0,.int .i64 0,.int .i64 0,.int .i64 0] TPl)).cell? ⟨h+3,2,none⟩=some (.map (some (h+2)))∧((w2).alloc (.cells #[.int .i64 0,.int .i64 0,.int .i64 0,.int .i64 0,.int .i64 0,.int .i64 0] TPl)).cell? ⟨By,0,none⟩=some (.int .i64 y.t)∧((w2).alloc (.cells #[.int .i64 0,.int .i64 0,.int .i64 0,.int .i64 0,.int .i64 0,.int .i64 0] TPl)).cell? ⟨By,1,none⟩=some (.int .i64 y.i)∧((w2).alloc (.cells #[.int .i64 0,.int .i64 0,.int .i64 0,.int .i64 0,.int .i64 0,.int .i64 0] TPl)).cell? ⟨By,2,none⟩=some (.int .i64 y.p)∧((w2).alloc (.cells #[.int .i64 0,.int .i64 0,.int .i64 0,.int .i64 0,.int .i64 0,.int .i64 0] TPl)).cell? ⟨By,3,none⟩=some (.int .i64 y.r)∧((w2).alloc (.cells #[.int .i64 0,.int .i64 0,.int .i64 0,.int .i64 0,.int .i64 0,.int .i64 0] TPl)).cell? ⟨By,4,none⟩=some (.string y.s)∧((w2).alloc (.cells #[.int .i64 0,.int .i64 0,.int .i64 0,.int .i64 0,.int .i64 0,.int .i64 0] TPl)).cell? ⟨By,5,none⟩=some (.string y.o)∧((w2).alloc (.cells #[.int .i64 0,.int .i64 0,.int .i64 0,.int .i64 0,.int .i64 0,.int .i64 0] TPl)).cell? ⟨By,6,none⟩=some (.int .i64 y.b)∧((w2).alloc (.cells #[.int .i64 0,.int .i64 0,.int .i64 0,.int .i64 0,.int .i64 0,.int .i64 0] TPl)).cell? ⟨By,7,none⟩=some (.int .i64 y.d)∧((w2).alloc (.cells #[.int .i64 0,.int .i64 0,.int .i64 0,.int .i64 0,.int .i64 0,.int .i64 0] TPl)).cell? ⟨By,8,none⟩=some (.bool y.g)∧((w2).alloc (.cells #[.int .i64 0,.int .i64 0,.int .i64 0,.int .i64 0,.int .i64 0,.int .i64 0] TPl)).cell? ⟨Bu,2,none⟩=some (.int .i64 u.c)∧((w2).alloc (.cells #[.int .i64 0,.int .i64 0,.int .i64 0,.int .i64 0,.int .i64 0,.int .i64 0] TPl)).cell? ⟨Bu,3,none⟩=some (.int .i64 u.d)∧((w2).alloc (.cells #[.int .i64 0,.int .i64 0,.int .i64 0,.int .i64 0,.int .i64 0,.int .i64 0] TPl)).cell? ⟨Bu,4,none⟩=some (.int .i64 u.p):=⟨(cell3 HSt3.out.f.f).2.2,HSt3.out.a 0 _ rfl,HSt3.out.a 1 _ rfl,HSt3.out.a 2 _ rfl,HSt3.out.a 3 _ rfl,HSt3.out.a 4 _ rfl,HSt3.out.a 5 _ rfl,HSt3.out.a 6 _ rfl,HSt3.out.a 7 _ rfl,HSt3.out.a 8 _ rfl,HSt3.out.u.cell 2,HSt3.out.u.cell 3,HSt3.out.u.cell 4⟩
  have hlk:=HSt3.out.f.f.count hy hyi
  rw [hc] at hlk
  refine Eng.TW.step rfl rfl (by decide) (by kernel_rfl) (by go_simp;first|done|with_reducible rfl) (⟨(cell3 (HSt3.out).f.f).2.2,(HSt3.out).a 0 _ rfl,(HSt3.out).a 1 _ rfl,(HSt3.out).a 2 _ rfl,(HSt3.out).a 3 _ rfl,(HSt3.out).a 4 _ rfl,(HSt3.out).a 5 _ rfl,(HSt3.out).a 6 _ rfl,(HSt3.out).a 7 _ rfl,(HSt3.out).a 8 _ rfl,(HSt3.out).u.cell 2,(HSt3.out).u.cell 3,(HSt3.out).u.cell 4⟩) ?_
  have HSt4:=Lib.hid (HSt3.out)
  have hSS:(((w2).alloc (.cells #[.int .i64 0,.int .i64 0,.int .i64 0,.int .i64 0,.int .i64 0,.int .i64 0] TPl))).cell? ⟨h+3,2,none⟩=some (.map (some (h+2)))∧(((w2).alloc (.cells #[.int .i64 0,.int .i64 0,.int .i64 0,.int .i64 0,.int .i64 0,.int .i64 0] TPl))).cell? ⟨By,0,none⟩=some (.int .i64 y.t)∧(((w2).alloc (.cells #[.int .i64 0,.int .i64 0,.int .i64 0,.int .i64 0,.int .i64 0,.int .i64 0] TPl))).cell? ⟨By,1,none⟩=some (.int .i64 y.i)∧(((w2).alloc (.cells #[.int .i64 0,.int .i64 0,.int .i64 0,.int .i64 0,.int .i64 0,.int .i64 0] TPl))).cell? ⟨By,2,none⟩=some (.int .i64 y.p)∧(((w2).alloc (.cells #[.int .i64 0,.int .i64 0,.int .i64 0,.int .i64 0,.int .i64 0,.int .i64 0] TPl))).cell? ⟨By,3,none⟩=some (.int .i64 y.r)∧(((w2).alloc (.cells #[.int .i64 0,.int .i64 0,.int .i64 0,.int .i64 0,.int .i64 0,.int .i64 0] TPl))).cell? ⟨By,4,none⟩=some (.string y.s)∧(((w2).alloc (.cells #[.int .i64 0,.int .i64 0,.int .i64 0,.int .i64 0,.int .i64 0,.int .i64 0] TPl))).cell? ⟨By,5,none⟩=some (.string y.o)∧(((w2).alloc (.cells #[.int .i64 0,.int .i64 0,.int .i64 0,.int .i64 0,.int .i64 0,.int .i64 0] TPl))).cell? ⟨By,6,none⟩=some (.int .i64 y.b)∧(((w2).alloc (.cells #[.int .i64 0,.int .i64 0,.int .i64 0,.int .i64 0,.int .i64 0,.int .i64 0] TPl))).cell? ⟨By,7,none⟩=some (.int .i64 y.d)∧(((w2).alloc (.cells #[.int .i64 0,.int .i64 0,.int .i64 0,.int .i64 0,.int .i64 0,.int .i64 0] TPl))).cell? ⟨By,8,none⟩=some (.bool y.g)∧(((w2).alloc (.cells #[.int .i64 0,.int .i64 0,.int .i64 0,.int .i64 0,.int .i64 0,.int .i64 0] TPl))).cell? ⟨Bu,2,none⟩=some (.int .i64 u.c)∧(((w2).alloc (.cells #[.int .i64 0,.int .i64 0,.int .i64 0,.int .i64 0,.int .i64 0,.int .i64 0] TPl))).cell? ⟨Bu,3,none⟩=some (.int .i64 u.d)∧(((w2).alloc (.cells #[.int .i64 0,.int .i64 0,.int .i64 0,.int .i64 0,.int .i64 0,.int .i64 0] TPl))).cell? ⟨Bu,4,none⟩=some (.int .i64 u.p):=⟨(cell3 HSt4.out.f.f).2.2,HSt4.out.a 0 _ rfl,HSt4.out.a 1 _ rfl,HSt4.out.a 2 _ rfl,HSt4.out.a 3 _ rfl,HSt4.out.a 4 _ rfl,HSt4.out.a 5 _ rfl,HSt4.out.a 6 _ rfl,HSt4.out.a 7 _ rfl,HSt4.out.a 8 _ rfl,HSt4.out.u.cell 2,HSt4.out.u.cell 3,HSt4.out.u.cell 4⟩
  refine Eng.TW.tk ?_
  have u0:=(HSt4.out.p _ (List.mem_cons_self ..)).1.cell 0
  have v0:=(HSt4.out.p _ (List.mem_cons_self ..)).1.free 0
  have u1:=(HSt4.out.p _ (List.mem_cons_self ..)).1.cell 1
  have v1:=(HSt4.out.p _ (List.mem_cons_self ..)).1.free 1
  have u2:=(HSt4.out.p _ (List.mem_cons_self ..)).1.cell 2
  have v2:=(HSt4.out.p _ (List.mem_cons_self ..)).1.free 2
  have u3:=(HSt4.out.p _ (List.mem_cons_self ..)).1.cell 3
  have v3:=(HSt4.out.p _ (List.mem_cons_self ..)).1.free 3
  have u4:=(HSt4.out.p _ (List.mem_cons_self ..)).1.cell 4
  have v4:=(HSt4.out.p _ (List.mem_cons_self ..)).1.free 4
  have u5:=(HSt4.out.p _ (List.mem_cons_self ..)).1.cell 5
  have v5:=(HSt4.out.p _ (List.mem_cons_self ..)).1.free 5
  simp only [List.getElem?_toArray,List.getElem?_cons_zero,List.getElem?_cons_succ] at u0 u1 u2 u3 u4 u5
  have HSt5:=Lib.hid (HSt2.out.allocP ⟨y.t,y.i,u.c,u.d+1,u.p,(c:Int)⟩)
  refine Eng.TW.step0 rfl rfl (by kernel_rfl) (by go_simp;first|done|with_reducible rfl) (⟨(cell3 HSt5.out.f.f).2.2,HSt5.out.a 0 _ rfl,HSt5.out.a 1 _ rfl,HSt5.out.a 2 _ rfl,HSt5.out.a 3 _ rfl,HSt5.out.a 4 _ rfl,HSt5.out.a 5 _ rfl,HSt5.out.a 6 _ rfl,HSt5.out.a 7 _ rfl,HSt5.out.a 8 _ rfl,HSt5.out.u.cell 2,HSt5.out.u.cell 3,HSt5.out.u.cell 4⟩) ?_
  refine Eng.TW.end_ [10,53,54,55,56,57,58,59,60,61,62,63,64,65,66,67,68,69,70,71] HN.out (by kernel_rfl) (by kernel_rfl) ?_
  exact HP.out _ _ _ rfl HSt5.out
 refine Eng.TW.step rfl rfl (by decide) (by kernel_rfl) (by go_simp;first|done|with_reducible rfl) (⟨(cell3 (HSt.out.alloc).f.f).2.2,(HSt.out.alloc).a 0 _ rfl,(HSt.out.alloc).a 1 _ rfl,(HSt.out.alloc).a 2 _ rfl,(HSt.out.alloc).a 3 _ rfl,(HSt.out.alloc).a 4 _ rfl,(HSt.out.alloc).a 5 _ rfl,(HSt.out.alloc).a 6 _ rfl,(HSt.out.alloc).a 7 _ rfl,(HSt.out.alloc).a 8 _ rfl,(HSt.out.alloc).u.cell 2,(HSt.out.alloc).u.cell 3,(HSt.out.alloc).u.cell 4⟩) ?_
 have HSt2:=Lib.hid (show P9 w0 wc _ h L n m P Bu u By y [w.heap.size] z6 from HSt.out.alloc)
 have hSS:((w.drew).alloc (.cells #[.int .i64 0,.int .i64 0,.int .i64 0,.int .i64 0,.int .i64 0,.int .i64 0] TPl)).cell? ⟨h+3,2,none⟩=some (.map (some (h+2)))∧((w.drew).alloc (.cells #[.int .i64 0,.int .i64 0,.int .i64 0,.int .i64 0,.int .i64 0,.int .i64 0] TPl)).cell? ⟨By,0,none⟩=some (.int .i64 y.t)∧((w.drew).alloc (.cells #[.int .i64 0,.int .i64 0,.int .i64 0,.int .i64 0,.int .i64 0,.int .i64 0] TPl)).cell? ⟨By,1,none⟩=some (.int .i64 y.i)∧((w.drew).alloc (.cells #[.int .i64 0,.int .i64 0,.int .i64 0,.int .i64 0,.int .i64 0,.int .i64 0] TPl)).cell? ⟨By,2,none⟩=some (.int .i64 y.p)∧((w.drew).alloc (.cells #[.int .i64 0,.int .i64 0,.int .i64 0,.int .i64 0,.int .i64 0,.int .i64 0] TPl)).cell? ⟨By,3,none⟩=some (.int .i64 y.r)∧((w.drew).alloc (.cells #[.int .i64 0,.int .i64 0,.int .i64 0,.int .i64 0,.int .i64 0,.int .i64 0] TPl)).cell? ⟨By,4,none⟩=some (.string y.s)∧((w.drew).alloc (.cells #[.int .i64 0,.int .i64 0,.int .i64 0,.int .i64 0,.int .i64 0,.int .i64 0] TPl)).cell? ⟨By,5,none⟩=some (.string y.o)∧((w.drew).alloc (.cells #[.int .i64 0,.int .i64 0,.int .i64 0,.int .i64 0,.int .i64 0,.int .i64 0] TPl)).cell? ⟨By,6,none⟩=some (.int .i64 y.b)∧((w.drew).alloc (.cells #[.int .i64 0,.int .i64 0,.int .i64 0,.int .i64 0,.int .i64 0,.int .i64 0] TPl)).cell? ⟨By,7,none⟩=some (.int .i64 y.d)∧((w.drew).alloc (.cells #[.int .i64 0,.int .i64 0,.int .i64 0,.int .i64 0,.int .i64 0,.int .i64 0] TPl)).cell? ⟨By,8,none⟩=some (.bool y.g)∧((w.drew).alloc (.cells #[.int .i64 0,.int .i64 0,.int .i64 0,.int .i64 0,.int .i64 0,.int .i64 0] TPl)).cell? ⟨Bu,2,none⟩=some (.int .i64 u.c)∧((w.drew).alloc (.cells #[.int .i64 0,.int .i64 0,.int .i64 0,.int .i64 0,.int .i64 0,.int .i64 0] TPl)).cell? ⟨Bu,3,none⟩=some (.int .i64 u.d)∧((w.drew).alloc (.cells #[.int .i64 0,.int .i64 0,.int .i64 0,.int .i64 0,.int .i64 0,.int .i64 0] TPl)).cell? ⟨Bu,4,none⟩=some (.int .i64 u.p):=⟨(cell3 HSt2.out.f.f).2.2,HSt2.out.a 0 _ rfl,HSt2.out.a 1 _ rfl,HSt2.out.a 2 _ rfl,HSt2.out.a 3 _ rfl,HSt2.out.a 4 _ rfl,HSt2.out.a 5 _ rfl,HSt2.out.a 6 _ rfl,HSt2.out.a 7 _ rfl,HSt2.out.a 8 _ rfl,HSt2.out.u.cell 2,HSt2.out.u.cell 3,HSt2.out.u.cell 4⟩
 refine Eng.TW.call rfl rfl (by decide) (by kernel_rfl) ?_ (Key.Span y hy hyi _) ?_
 ·go_simp
 rintro e w3 ⟨rfl,hb1⟩
 have HSt3:=Lib.hid (HSt2.out.fr (Fr.of_below' hb1 _))
 clear hb1
 refine ⟨_,rfl,⟨(cell3 HSt3.out.f.f).2.2,HSt3.out.a 0 _ rfl,HSt3.out.a 1 _ rfl,HSt3.out.a 2 _ rfl,HSt3.out.a 3 _ rfl,HSt3.out.a 4 _ rfl,HSt3.out.a 5 _ rfl,HSt3.out.a 6 _ rfl,HSt3.out.a 7 _ rfl,HSt3.out.a 8 _ rfl,HSt3.out.u.cell 2,HSt3.out.u.cell 3,HSt3.out.u.cell 4⟩,?_⟩
 have hlk:=HSt3.out.f.f.count hy hyi
 rw [hc] at hlk
 refine Eng.TW.step rfl rfl (by decide) (by kernel_rfl) (by go_simp;first|done|with_reducible rfl) (⟨(cell3 (HSt3.out).f.f).2.2,(HSt3.out).a 0 _ rfl,(HSt3.out).a 1 _ rfl,(HSt3.out).a 2 _ rfl,(HSt3.out).a 3 _ rfl,(HSt3.out).a 4 _ rfl,(HSt3.out).a 5 _ rfl,(HSt3.out).a 6 _ rfl,(HSt3.out).a 7 _ rfl,(HSt3.out).a 8 _ rfl,(HSt3.out).u.cell 2,(HSt3.out).u.cell 3,(HSt3.out).u.cell 4⟩) ?_
 have HSt4:=Lib.hid (HSt3.out)
 have hSS:(w3).cell? ⟨h+3,2,none⟩=some (.map (some (h+2)))∧(w3).cell? ⟨By,0,none⟩=some (.int .i64 y.t)∧(w3).cell? ⟨By,1,none⟩=some (.int .i64 y.i)∧(w3).cell? ⟨By,2,none⟩=some (.int .i64 y.p)∧(w3).cell? ⟨By,3,none⟩=some (.int .i64 y.r)∧(w3).cell? ⟨By,4,none⟩=some (.string y.s)∧(w3).cell? ⟨By,5,none⟩=some (.string y.o)∧(w3).cell? ⟨By,6,none⟩=some (.int .i64 y.b)∧(w3).cell? ⟨By,7,none⟩=some (.int .i64 y.d)∧(w3).cell? ⟨By,8,none⟩=some (.bool y.g)∧(w3).cell? ⟨Bu,2,none⟩=some (.int .i64 u.c)∧(w3).cell? ⟨Bu,3,none⟩=some (.int .i64 u.d)∧(w3).cell? ⟨Bu,4,none⟩=some (.int .i64 u.p):=⟨(cell3 HSt4.out.f.f).2.2,HSt4.out.a 0 _ rfl,HSt4.out.a 1 _ rfl,HSt4.out.a 2 _ rfl,HSt4.out.a 3 _ rfl,HSt4.out.a 4 _ rfl,HSt4.out.a 5 _ rfl,HSt4.out.a 6 _ rfl,HSt4.out.a 7 _ rfl,HSt4.out.a 8 _ rfl,HSt4.out.u.cell 2,HSt4.out.u.cell 3,HSt4.out.u.cell 4⟩
 refine Eng.TW.tk ?_
 have u0:=(HSt4.out.p _ (List.mem_cons_self ..)).1.cell 0
 have v0:=(HSt4.out.p _ (List.mem_cons_self ..)).1.free 0
 have u1:=(HSt4.out.p _ (List.mem_cons_self ..)).1.cell 1
 have v1:=(HSt4.out.p _ (List.mem_cons_self ..)).1.free 1
 have u2:=(HSt4.out.p _ (List.mem_cons_self ..)).1.cell 2
 have v2:=(HSt4.out.p _ (List.mem_cons_self ..)).1.free 2
 have u3:=(HSt4.out.p _ (List.mem_cons_self ..)).1.cell 3
 have v3:=(HSt4.out.p _ (List.mem_cons_self ..)).1.free 3
 have u4:=(HSt4.out.p _ (List.mem_cons_self ..)).1.cell 4
 have v4:=(HSt4.out.p _ (List.mem_cons_self ..)).1.free 4
 have u5:=(HSt4.out.p _ (List.mem_cons_self ..)).1.cell 5
 have v5:=(HSt4.out.p _ (List.mem_cons_self ..)).1.free 5
 simp only [List.getElem?_toArray,List.getElem?_cons_zero,List.getElem?_cons_succ] at u0 u1 u2 u3 u4 u5
 have HSt5:=Lib.hid (HSt4.out.store ⟨y.t,y.i,u.c,u.d+1,u.p,(c:Int)⟩)
 refine Eng.TW.step0 rfl rfl (by kernel_rfl) (by go_simp;first|done|with_reducible rfl) (⟨(cell3 HSt5.out.f.f).2.2,HSt5.out.a 0 _ rfl,HSt5.out.a 1 _ rfl,HSt5.out.a 2 _ rfl,HSt5.out.a 3 _ rfl,HSt5.out.a 4 _ rfl,HSt5.out.a 5 _ rfl,HSt5.out.a 6 _ rfl,HSt5.out.a 7 _ rfl,HSt5.out.a 8 _ rfl,HSt5.out.u.cell 2,HSt5.out.u.cell 3,HSt5.out.u.cell 4⟩) ?_
 refine Eng.TW.end_ [10,53,54,55,56,57,58,59,60,61,62,63,64,65,66,67,68,69,70,71] HN.out (by kernel_rfl) (by kernel_rfl) ?_
 exact HP.out _ _ _ rfl HSt5.out
structure P12 (w0 wc w:World) (h:Nat) (L:List Sn) (n m:Nat) (P:Int→Int→Option Pc) (By:Nat) (y:Sn) (Bp:Nat) (p:Pc):Prop where
 f:Fq w0 wc w h L n m P
 a:At w By 0 y
 p:Bk w Bp p.arr TPl
 n:wc.heap.size≤By∧wc.heap.size≤Bp
theorem P12.fr {w0 wc w w':World} {h:Nat} {L:List Sn} {n m:Nat} {P:Int→Int→Option Pc} {By:Nat} {y:Sn} {Bp:Nat} {p:Pc} (H:P12 w0 wc w h L n m P By y Bp p) (hf:Fr (fun _=>False) w w'):P12 w0 wc w' h L n m P By y Bp p:=⟨H.f.fr hf,H.a.keep hf,H.p.fr hf (fun _ _ h=>h),H.n⟩
theorem P12.put {w0 wc w w':World} {h:Nat} {L:List Sn} {n m:Nat} {P:Int→Int→Option Pc} {By:Nat} {y:Sn} {Bp:Nat} {p:Pc} {m':Nat} {P':Int→Int→Option Pc} (H:P12 w0 wc w h L n m P By y Bp p) (h1:Fq w0 wc w' h L n m' P') (hf:Fr (· =h+1) w w'):P12 w0 wc w' h L n m' P' By y Bp p:=
 ⟨h1,H.a.fr hf (fun e=>by have:=H.n.1;have:=H.f.z;omega),H.p.fr hf (fun k hk e=>by simp at hk;have:=H.n.2;have:=H.f.z;omega),H.n⟩
theorem pc12 {ops:Array Oper} (hops:Eng.fnOps Tryz.f99 12=ops) (a0:Act) (Q:Exit→Act→World→Prop) (w0 wc w:World) (h:Nat) (L:List Sn) (n m:Nat) (P:Int→Int→Option Pc) (By:Nat) (y:Sn) (Bp:Nat) (p:Pc) (hy:wf64 y.t) (hyi:wf64 y.i) (hm:m+1<1000000) (hst:P12 w0 wc w h L n m P By y Bp p)
  (hn:a0.tmps.size=90) (h_0:a0.tmps.getD 0 undef=.pointer (some ⟨h+3,0,none⟩)) (h_8:a0.tmps.getD 8 undef=.pointer (some ⟨By,0,none⟩)) (h_10:a0.tmps.getD 10 undef=.pointer (some ⟨Bp,0,none⟩))
  (hpost:∀ (x:Nat→Value) (w':World),P12 w0 wc w' h L n (m+1) (updP P y.t y.i p) By y Bp p→Q .normal (Eng.setAll a0 [76,77,78,79,80,81,82] x) w'):
  (Code.region 12 ops true).wp prog Q a0 w:=by
 simp only [Eng.fnOps,Eng.regOps,Tryz.f99,Option.bind_some,Option.getD_some,Nat.reduceEqDiff,↓reduceIte] at hops
 subst hops
 have HSt:=Lib.hid (hst.fr (Fr.drew _ _))
 refine Eng.regionT (.take 0 (.take 1 (.take 2 (.take 3 (.take 4 (.take 6 (.alt 5 (.alt 7 (.done) (.stop)) (.stop)))))))) (fun w'=>w'.cell? ⟨h+3,1,none⟩=some (.map (some (h+1)))∧w'.cell? ⟨By,0,none⟩=some (.int .i64 y.t)∧w'.cell? ⟨By,1,none⟩=some (.int .i64 y.i)∧w'.cell? ⟨By,2,none⟩=some (.int .i64 y.p)∧w'.cell? ⟨By,3,none⟩=some (.int .i64 y.r)∧w'.cell? ⟨By,4,none⟩=some (.string y.s)∧w'.cell? ⟨By,5,none⟩=some (.string y.o)∧w'.cell? ⟨By,6,none⟩=some (.int .i64 y.b)∧w'.cell? ⟨By,7,none⟩=some (.int .i64 y.d)∧w'.cell? ⟨By,8,none⟩=some (.bool y.g)∧w'.cell? ⟨Bp,0,none⟩=some (.int .i64 p.t)∧w'.cell? ⟨Bp,1,none⟩=some (.int .i64 p.i)∧w'.cell? ⟨Bp,2,none⟩=some (.int .i64 p.c)∧w'.cell? ⟨Bp,3,none⟩=some (.int .i64 p.d)∧w'.cell? ⟨Bp,4,none⟩=some (.int .i64 p.p)∧w'.cell? ⟨Bp,5,none⟩=some (.int .i64 p.f)) (by kernel_rfl) 90 hn (by kernel_rfl) (by kernel_rfl) (by kernel_rfl) (⟨(cell3 HSt.out.f.f).2.1,HSt.out.a 0 _ rfl,HSt.out.a 1 _ rfl,HSt.out.a 2 _ rfl,HSt.out.a 3 _ rfl,HSt.out.a 4 _ rfl,HSt.out.a 5 _ rfl,HSt.out.a 6 _ rfl,HSt.out.a 7 _ rfl,HSt.out.a 8 _ rfl,HSt.out.p.cell 0,HSt.out.p.cell 1,HSt.out.p.cell 2,HSt.out.p.cell 3,HSt.out.p.cell 4,HSt.out.p.cell 5⟩) (fun a b ha hb=>?_)
 subst ha
 have hb0:b 0=.pointer (some ⟨h+3,0,none⟩):=(hb 0).symm.trans h_0
 have hb8:b 8=.pointer (some ⟨By,0,none⟩):=(hb 8).symm.trans h_8
 have hb10:b 10=.pointer (some ⟨Bp,0,none⟩):=(hb 10).symm.trans h_10
 clear hb h_0 h_8 h_10
 have HP:=Lib.hid hpost;have HN:=Lib.hid hn
 clear hpost hn
 iterate 6 (refine Eng.TW.tk ?_)
 refine Eng.TW.call rfl rfl (by decide) (by kernel_rfl) ?_ (Key.Span y hy hyi _) ?_
 ·go_simp
 rintro e w2 ⟨rfl,hb1⟩
 have HSt2:=Lib.hid (HSt.out.fr (Fr.of_below' hb1 _))
 clear hb1
 refine ⟨_,rfl,⟨(cell3 HSt2.out.f.f).2.1,HSt2.out.a 0 _ rfl,HSt2.out.a 1 _ rfl,HSt2.out.a 2 _ rfl,HSt2.out.a 3 _ rfl,HSt2.out.a 4 _ rfl,HSt2.out.a 5 _ rfl,HSt2.out.a 6 _ rfl,HSt2.out.a 7 _ rfl,HSt2.out.a 8 _ rfl,HSt2.out.p.cell 0,HSt2.out.p.cell 1,HSt2.out.p.cell 2,HSt2.out.p.cell 3,HSt2.out.p.cell 4,HSt2.out.p.cell 5⟩,?_⟩
 obtain ⟨w9,hup,hm9,hf9⟩:=HSt2.out.f.put hy hyi p hm
 have HSt3:=Lib.hid ((HSt2.out.put hm9 hf9))
 refine Eng.TW.step0 rfl rfl (by kernel_rfl) (by go_simp;first|done|with_reducible rfl) (⟨(cell3 HSt3.out.f.f).2.1,HSt3.out.a 0 _ rfl,HSt3.out.a 1 _ rfl,HSt3.out.a 2 _ rfl,HSt3.out.a 3 _ rfl,HSt3.out.a 4 _ rfl,HSt3.out.a 5 _ rfl,HSt3.out.a 6 _ rfl,HSt3.out.a 7 _ rfl,HSt3.out.a 8 _ rfl,HSt3.out.p.cell 0,HSt3.out.p.cell 1,HSt3.out.p.cell 2,HSt3.out.p.cell 3,HSt3.out.p.cell 4,HSt3.out.p.cell 5⟩) ?_
 have hSS:(w9).cell? ⟨h+3,1,none⟩=some (.map (some (h+1)))∧(w9).cell? ⟨By,0,none⟩=some (.int .i64 y.t)∧(w9).cell? ⟨By,1,none⟩=some (.int .i64 y.i)∧(w9).cell? ⟨By,2,none⟩=some (.int .i64 y.p)∧(w9).cell? ⟨By,3,none⟩=some (.int .i64 y.r)∧(w9).cell? ⟨By,4,none⟩=some (.string y.s)∧(w9).cell? ⟨By,5,none⟩=some (.string y.o)∧(w9).cell? ⟨By,6,none⟩=some (.int .i64 y.b)∧(w9).cell? ⟨By,7,none⟩=some (.int .i64 y.d)∧(w9).cell? ⟨By,8,none⟩=some (.bool y.g)∧(w9).cell? ⟨Bp,0,none⟩=some (.int .i64 p.t)∧(w9).cell? ⟨Bp,1,none⟩=some (.int .i64 p.i)∧(w9).cell? ⟨Bp,2,none⟩=some (.int .i64 p.c)∧(w9).cell? ⟨Bp,3,none⟩=some (.int .i64 p.d)∧(w9).cell? ⟨Bp,4,none⟩=some (.int .i64 p.p)∧(w9).cell? ⟨Bp,5,none⟩=some (.int .i64 p.f):=⟨(cell3 HSt3.out.f.f).2.1,HSt3.out.a 0 _ rfl,HSt3.out.a 1 _ rfl,HSt3.out.a 2 _ rfl,HSt3.out.a 3 _ rfl,HSt3.out.a 4 _ rfl,HSt3.out.a 5 _ rfl,HSt3.out.a 6 _ rfl,HSt3.out.a 7 _ rfl,HSt3.out.a 8 _ rfl,HSt3.out.p.cell 0,HSt3.out.p.cell 1,HSt3.out.p.cell 2,HSt3.out.p.cell 3,HSt3.out.p.cell 4,HSt3.out.p.cell 5⟩
 refine Eng.TW.end_ [76,77,78,79,80,81,82] HN.out (by kernel_rfl) (by kernel_rfl) ?_
 exact HP.out _ _ HSt3.out
structure P13 (w0 wc w:World) (h:Nat) (L:List Sn) (n m:Nat) (P:Int→Int→Option Pc) (Bx:Nat) (x:Sn) (Br:Nat) (p:Pc):Prop where
 f:Fq w0 wc w h L n m P
 a:At w Bx 0 x
 p:Bk w Br p.arr TPl
 n:wc.heap.size≤Br∧Br≠Bx
theorem P13.fr {w0 wc w w':World} {h:Nat} {L:List Sn} {n m:Nat} {P:Int→Int→Option Pc} {Bx:Nat} {x:Sn} {Br:Nat} {p:Pc} (H:P13 w0 wc w h L n m P Bx x Br p) (hf:Fr (fun _=>False) w w'):P13 w0 wc w' h L n m P Bx x Br p:=⟨H.f.fr hf,H.a.keep hf,H.p.fr hf (fun _ _ h=>h),H.n⟩
theorem P13.store {w0 wc w:World} {h:Nat} {L:List Sn} {n m:Nat} {P:Int→Int→Option Pc} {Bx:Nat} {x:Sn} {Br:Nat} {p:Pc} (H:P13 w0 wc w h L n m P Bx x Br p) (q:Pc):P13 w0 wc (put6 w Br q) h L n m P Bx x Br q:=
 ⟨H.f.off (put6_fr w Br q) H.n.1,H.a.fr (put6_fr w Br q) (fun e=>H.n.2 e.symm),put6_bk H.p q,H.n⟩
theorem pc13 {ops:Array Oper} (hops:Eng.fnOps Tryz.f99 13=ops) (a0:Act) (Q:Exit→Act→World→Prop) (w0 wc w:World) (h:Nat) (L:List Sn) (n m:Nat) (P:Int→Int→Option Pc) (Bx:Nat) (y:Sn) (Br:Nat) (r p:Pc) (hy:wf64 y.t) (hyi:wf64 y.i) (hp:P y.t y.i=some p) (hst:P13 w0 wc w h L n m P Bx y Br r)
  (hn:a0.tmps.size=90) (h_0:a0.tmps.getD 0 undef=.pointer (some ⟨h+3,0,none⟩)) (h_3:a0.tmps.getD 3 undef=.pointer (some ⟨Bx,0,none⟩)) (h_4:a0.tmps.getD 4 undef=.pointer (some ⟨Br,0,none⟩))
  (hpost:∀ (x:Nat→Value) (w':World),P13 w0 wc w' h L n m P Bx y Br p→Q .normal (Eng.setAll a0 [83,84,85,86,87,88,89] x) w'):
  (Code.region 13 ops true).wp prog Q a0 w:=by
 simp only [Eng.fnOps,Eng.regOps,Tryz.f99,Option.bind_some,Option.getD_some,Nat.reduceEqDiff,↓reduceIte] at hops
 subst hops
 have HSt:=Lib.hid (hst.fr (Fr.drew _ _))
 refine Eng.regionT (.take 0 (.take 1 (.take 2 (.take 3 (.take 4 (.alt 5 (.alt 6 (.alt 7 (.done) (.stop)) (.stop)) (.stop))))))) (fun w'=>w'.cell? ⟨h+3,1,none⟩=some (.map (some (h+1)))∧w'.cell? ⟨Bx,0,none⟩=some (.int .i64 y.t)∧w'.cell? ⟨Bx,1,none⟩=some (.int .i64 y.i)∧w'.cell? ⟨Bx,2,none⟩=some (.int .i64 y.p)∧w'.cell? ⟨Bx,3,none⟩=some (.int .i64 y.r)∧w'.cell? ⟨Bx,4,none⟩=some (.string y.s)∧w'.cell? ⟨Bx,5,none⟩=some (.string y.o)∧w'.cell? ⟨Bx,6,none⟩=some (.int .i64 y.b)∧w'.cell? ⟨Bx,7,none⟩=some (.int .i64 y.d)∧w'.cell? ⟨Bx,8,none⟩=some (.bool y.g)) (by kernel_rfl) 90 hn (by kernel_rfl) (by kernel_rfl) (by kernel_rfl) (⟨(cell3 HSt.out.f.f).2.1,HSt.out.a 0 _ rfl,HSt.out.a 1 _ rfl,HSt.out.a 2 _ rfl,HSt.out.a 3 _ rfl,HSt.out.a 4 _ rfl,HSt.out.a 5 _ rfl,HSt.out.a 6 _ rfl,HSt.out.a 7 _ rfl,HSt.out.a 8 _ rfl⟩) (fun a b ha hb=>?_)
 subst ha
 have hb0:b 0=.pointer (some ⟨h+3,0,none⟩):=(hb 0).symm.trans h_0
 have hb3:b 3=.pointer (some ⟨Bx,0,none⟩):=(hb 3).symm.trans h_3
 have hb4:b 4=.pointer (some ⟨Br,0,none⟩):=(hb 4).symm.trans h_4
 clear hb h_0 h_3 h_4
 have HP:=Lib.hid hpost;have HN:=Lib.hid hn
 clear hpost hn
 iterate 5 (refine Eng.TW.tk ?_)
 refine Eng.TW.call rfl rfl (by decide) (by kernel_rfl) ?_ (Key.Span y hy hyi _) ?_
 ·go_simp
 rintro e w2 ⟨rfl,hb1⟩
 have HSt2:=Lib.hid (HSt.out.fr (Fr.of_below' hb1 _))
 clear hb1
 refine ⟨_,rfl,⟨(cell3 HSt2.out.f.f).2.1,HSt2.out.a 0 _ rfl,HSt2.out.a 1 _ rfl,HSt2.out.a 2 _ rfl,HSt2.out.a 3 _ rfl,HSt2.out.a 4 _ rfl,HSt2.out.a 5 _ rfl,HSt2.out.a 6 _ rfl,HSt2.out.a 7 _ rfl,HSt2.out.a 8 _ rfl⟩,?_⟩
 have hlk:=HSt2.out.f.f.known hy hyi hp
 refine Eng.TW.step rfl rfl (by decide) (by kernel_rfl) (by go_simp;first|done|with_reducible rfl) (⟨(cell3 (HSt2.out).f.f).2.1,(HSt2.out).a 0 _ rfl,(HSt2.out).a 1 _ rfl,(HSt2.out).a 2 _ rfl,(HSt2.out).a 3 _ rfl,(HSt2.out).a 4 _ rfl,(HSt2.out).a 5 _ rfl,(HSt2.out).a 6 _ rfl,(HSt2.out).a 7 _ rfl,(HSt2.out).a 8 _ rfl⟩) ?_
 have HSt3:=Lib.hid (HSt2.out)
 have hSS:(w2).cell? ⟨h+3,1,none⟩=some (.map (some (h+1)))∧(w2).cell? ⟨Bx,0,none⟩=some (.int .i64 y.t)∧(w2).cell? ⟨Bx,1,none⟩=some (.int .i64 y.i)∧(w2).cell? ⟨Bx,2,none⟩=some (.int .i64 y.p)∧(w2).cell? ⟨Bx,3,none⟩=some (.int .i64 y.r)∧(w2).cell? ⟨Bx,4,none⟩=some (.string y.s)∧(w2).cell? ⟨Bx,5,none⟩=some (.string y.o)∧(w2).cell? ⟨Bx,6,none⟩=some (.int .i64 y.b)∧(w2).cell? ⟨Bx,7,none⟩=some (.int .i64 y.d)∧(w2).cell? ⟨Bx,8,none⟩=some (.bool y.g):=⟨(cell3 HSt3.out.f.f).2.1,HSt3.out.a 0 _ rfl,HSt3.out.a 1 _ rfl,HSt3.out.a 2 _ rfl,HSt3.out.a 3 _ rfl,HSt3.out.a 4 _ rfl,HSt3.out.a 5 _ rfl,HSt3.out.a 6 _ rfl,HSt3.out.a 7 _ rfl,HSt3.out.a 8 _ rfl⟩
 have u0:(w2).cell? ⟨Br,0,none⟩=some (.int .i64 r.t):=HSt3.out.p.cell 0
 have v0:(w2).frozen? ⟨Br,0,none⟩=false:=HSt3.out.p.free 0
 have u1:(w2).cell? ⟨Br,1,none⟩=some (.int .i64 r.i):=HSt3.out.p.cell 1
 have v1:(w2).frozen? ⟨Br,1,none⟩=false:=HSt3.out.p.free 1
 have u2:(w2).cell? ⟨Br,2,none⟩=some (.int .i64 r.c):=HSt3.out.p.cell 2
 have v2:(w2).frozen? ⟨Br,2,none⟩=false:=HSt3.out.p.free 2
 have u3:(w2).cell? ⟨Br,3,none⟩=some (.int .i64 r.d):=HSt3.out.p.cell 3
 have v3:(w2).frozen? ⟨Br,3,none⟩=false:=HSt3.out.p.free 3
 have u4:(w2).cell? ⟨Br,4,none⟩=some (.int .i64 r.p):=HSt3.out.p.cell 4
 have v4:(w2).frozen? ⟨Br,4,none⟩=false:=HSt3.out.p.free 4
 have u5:(w2).cell? ⟨Br,5,none⟩=some (.int .i64 r.f):=HSt3.out.p.cell 5
 have v5:(w2).frozen? ⟨Br,5,none⟩=false:=HSt3.out.p.free 5
 have HSt4:=Lib.hid (HSt3.out.store p)
 refine Eng.TW.step0 rfl rfl (by kernel_rfl) (by go_simp;first|done|with_reducible rfl) (⟨(cell3 HSt4.out.f.f).2.1,HSt4.out.a 0 _ rfl,HSt4.out.a 1 _ rfl,HSt4.out.a 2 _ rfl,HSt4.out.a 3 _ rfl,HSt4.out.a 4 _ rfl,HSt4.out.a 5 _ rfl,HSt4.out.a 6 _ rfl,HSt4.out.a 7 _ rfl,HSt4.out.a 8 _ rfl⟩) ?_
 have hSS:((((((((w2).setCell ⟨Br,0,none⟩ (.int .i64 p.t)).setCell ⟨Br,1,none⟩ (.int .i64 p.i)).setCell ⟨Br,2,none⟩ (.int .i64 p.c)).setCell ⟨Br,3,none⟩ (.int .i64 p.d)).setCell ⟨Br,4,none⟩ (.int .i64 p.p)).setCell ⟨Br,5,none⟩ (.int .i64 p.f))).cell? ⟨h+3,1,none⟩=some (.map (some (h+1)))∧((((((((w2).setCell ⟨Br,0,none⟩ (.int .i64 p.t)).setCell ⟨Br,1,none⟩ (.int .i64 p.i)).setCell ⟨Br,2,none⟩ (.int .i64 p.c)).setCell ⟨Br,3,none⟩ (.int .i64 p.d)).setCell ⟨Br,4,none⟩ (.int .i64 p.p)).setCell ⟨Br,5,none⟩ (.int .i64 p.f))).cell? ⟨Bx,0,none⟩=some (.int .i64 y.t)∧((((((((w2).setCell ⟨Br,0,none⟩ (.int .i64 p.t)).setCell ⟨Br,1,none⟩ (.int .i64 p.i)).setCell ⟨Br,2,none⟩ (.int .i64 p.c)).setCell ⟨Br,3,none⟩ (.int .i64 p.d)).setCell ⟨Br,4,none⟩ (.int .i64 p.p)).setCell ⟨Br,5,none⟩ (.int .i64 p.f))).cell? ⟨Bx,1,none⟩=some (.int .i64 y.i)∧((((((((w2).setCell ⟨Br,0,none⟩ (.int .i64 p.t)).setCell ⟨Br,1,none⟩ (.int .i64 p.i)).setCell ⟨Br,2,none⟩ (.int .i64 p.c)).setCell ⟨Br,3,none⟩ (.int .i64 p.d)).setCell ⟨Br,4,none⟩ (.int .i64 p.p)).setCell ⟨Br,5,none⟩ (.int .i64 p.f))).cell? ⟨Bx,2,none⟩=some (.int .i64 y.p)∧((((((((w2).setCell ⟨Br,0,none⟩ (.int .i64 p.t)).setCell ⟨Br,1,none⟩ (.int .i64 p.i)).setCell ⟨Br,2,none⟩ (.int .i64 p.c)).setCell ⟨Br,3,none⟩ (.int .i64 p.d)).setCell ⟨Br,4,none⟩ (.int .i64 p.p)).setCell ⟨Br,5,none⟩ (.int .i64 p.f))).cell? ⟨Bx,3,none⟩=some (.int .i64 y.r)∧((((((((w2).setCell ⟨Br,0,none⟩ (.int .i64 p.t)).setCell ⟨Br,1,none⟩ (.int .i64 p.i)).setCell ⟨Br,2,none⟩ (.int .i64 p.c)).setCell ⟨Br,3,none⟩ (.int .i64 p.d)).setCell ⟨Br,4,none⟩ (.int .i64 p.p)).setCell ⟨Br,5,none⟩ (.int .i64 p.f))).cell? ⟨Bx,4,none⟩=some (.string y.s)∧((((((((w2).setCell ⟨Br,0,none⟩ (.int .i64 p.t)).setCell ⟨Br,1,none⟩ (.int .i64 p.i)).setCell ⟨Br,2,none⟩ (.int .i64 p.c)).setCell ⟨Br,3,none⟩ (.int .i64 p.d)).setCell ⟨Br,4,none⟩ (.int .i64 p.p)).setCell ⟨Br,5,none⟩ (.int .i64 p.f))).cell? ⟨Bx,5,none⟩=some (.string y.o)∧((((((((w2).setCell ⟨Br,0,none⟩ (.int .i64 p.t)).setCell ⟨Br,1,none⟩ (.int .i64 p.i)).setCell ⟨Br,2,none⟩ (.int .i64 p.c)).setCell ⟨Br,3,none⟩ (.int .i64 p.d)).setCell ⟨Br,4,none⟩ (.int .i64 p.p)).setCell ⟨Br,5,none⟩ (.int .i64 p.f))).cell? ⟨Bx,6,none⟩=some (.int .i64 y.b)∧((((((((w2).setCell ⟨Br,0,none⟩ (.int .i64 p.t)).setCell ⟨Br,1,none⟩ (.int .i64 p.i)).setCell ⟨Br,2,none⟩ (.int .i64 p.c)).setCell ⟨Br,3,none⟩ (.int .i64 p.d)).setCell ⟨Br,4,none⟩ (.int .i64 p.p)).setCell ⟨Br,5,none⟩ (.int .i64 p.f))).cell? ⟨Bx,7,none⟩=some (.int .i64 y.d)∧((((((((w2).setCell ⟨Br,0,none⟩ (.int .i64 p.t)).setCell ⟨Br,1,none⟩ (.int .i64 p.i)).setCell ⟨Br,2,none⟩ (.int .i64 p.c)).setCell ⟨Br,3,none⟩ (.int .i64 p.d)).setCell ⟨Br,4,none⟩ (.int .i64 p.p)).setCell ⟨Br,5,none⟩ (.int .i64 p.f))).cell? ⟨Bx,8,none⟩=some (.bool y.g):=⟨(cell3 HSt4.out.f.f).2.1,HSt4.out.a 0 _ rfl,HSt4.out.a 1 _ rfl,HSt4.out.a 2 _ rfl,HSt4.out.a 3 _ rfl,HSt4.out.a 4 _ rfl,HSt4.out.a 5 _ rfl,HSt4.out.a 6 _ rfl,HSt4.out.a 7 _ rfl,HSt4.out.a 8 _ rfl⟩
 refine Eng.TW.end_ [83,84,85,86,87,88,89] HN.out (by kernel_rfl) (by kernel_rfl) ?_
 exact HP.out _ _ HSt4.out
end ClsF
set_option maxRecDepth 100000
set_option maxHeartbeats 8000000
namespace ClsF
open KeyP PackP SetP SetW SetF Cls ClsW ClsS
attribute [local go_sem] Eng.ev Eng.getO_cons Eng.getO_nil
structure PB (w0 wc w:World) (h:Nat) (L:List Sn) (n m:Nat) (P:Int→Int→Option Pc) (x:Sn) (s:List Sn) (A:Option Addr) (c:Nat):Prop where
 f:Fq w0 wc w h L n m P
 g:PG L P
 a:At w wc.heap.size 0 x
 r:Bk w (wc.heap.size+1) z6.arr TPl
 l:Sl w 9 A s.length c (s.flatMap scs)
 n:∀q,A=some q→wc.heap.size+2≤q.block∧q.block<w.heap.size
theorem PB.fr {w0 wc w w':World} {h:Nat} {L:List Sn} {n m:Nat} {P:Int→Int→Option Pc} {x:Sn} {s:List Sn} {A:Option Addr} {c:Nat} (H:PB w0 wc w h L n m P x s A c) (hf:Fr (fun _=>False) w w'):PB w0 wc w' h L n m P x s A c:=
 ⟨H.f.fr hf,H.g,H.a.keep hf,H.r.fr hf (fun _ _ h=>h),H.l.fr hf (fun _ _ h=>h),fun q hq=>⟨(H.n q hq).1,Nat.lt_of_lt_of_le (H.n q hq).2 hf.size⟩⟩
theorem PB.to {w0 wc w w':World} {S:Nat→Prop} {h:Nat} {L:List Sn} {n m m':Nat} {P P':Int→Int→Option Pc} {x:Sn} {s:List Sn} {A:Option Addr} {c:Nat} (H:PB w0 wc w h L n m P x s A c) (hq:Fq w0 wc w' h L n m' P') (hg:PG L P') (hf:Fr S w w') (h1:¬S wc.heap.size) (h2:¬S (wc.heap.size+1)) (h3:∀q,A=some q→¬S q.block):PB w0 wc w' h L n m' P' x s A c:=
 ⟨hq,hg,H.a.fr hf h1,H.r.fr hf (fun k hk=>by simp at hk;subst hk;exact h2),H.l.fr hf h3,fun q hq=>⟨(H.n q hq).1,Nat.lt_of_lt_of_le (H.n q hq).2 hf.size⟩⟩
theorem abw_abv {L:List Sn} {P:Int→Int→Option Pc} (hg:PG L P) {z:Sn} {t e:Int} (ht:z.t=t):((abw L P z t e).c,(abw L P z t e).d,(abw L P z t e).p)=abv L (fun i=>(P t i).isSome) z e:=by
 subst ht
 unfold abw abv
 cases hP:P z.t e with
 |some p=>
  obtain ⟨y,hy,rfl⟩:=hg _ _ _ hP
  simp [hP,hy,plc]
 |none=>
  cases hn:nx L z.t e with
  |some y=>simp [hP]
  |none=>by_cases h0:z.p=0<;>simp [h0]
theorem _root_.Go.Proofs.YtgfjpnpbkkadpaaGreat.Cls.Ch.last_i {L:List Sn} {t i e:Int} {s:List Sn} (h:Ch L t i s e):e=i∨∃z∈s,z.p=e:=by
 rcases List.eq_nil_or_concat s with rfl| ⟨q,z,rfl⟩
 ·cases h;exact .inl rfl
 ·exact .inr ⟨z,by simp,ch_last (by simpa using h)⟩
theorem low_bound {L:List Sn} (hs:Srs L) {y:Sn} (hy:y∈L):0≤(cdt L y).2.1∧(cdt L y).2.1≤L.length:=by
 obtain ⟨s,z,-,-,-,-,-,h1,h2⟩:=cdt_way hs hy
 exact ⟨h2,h1⟩
theorem abw_d {L:List Sn} {P:Int→Int→Option Pc} (hs:Srs L) (hg:PG L P) (z:Sn) (t e:Int):0≤(abw L P z t e).d∧(abw L P z t e).d≤L.length:=by
 unfold abw
 cases hP:P t e with
 |some p=>
  obtain ⟨y,hy,rfl⟩:=hg _ _ _ hP
  exact low_bound hs (nx_some hy).1
 |none=>
  dsimp only
  split
  ·exact ⟨Int.le_refl 0,by show (0:Int)≤_;omega⟩
  ·split
   iterate 2 (· exact ⟨Int.le_refl 0,by show (0:Int)≤_;omega⟩)
theorem last_ok {L:List Sn} {P:Int→Int→Option Pc} {t i e:Int} {s:List Sn} (hs:Srs L) (hg:PG L P) (hc:Ch L t i s e) (he:nx L t e=none∨((nx L t e).isSome=true∧((P t e).isSome=true∨∃y∈s,y.i=e))) {k:Nat} (hk:k<s.length) (hl:k+1=s.length):low3 ((abw L P s[k] t e).c,(abw L P s[k] t e).d,(abw L P s[k] t e).p)=cdt L s[k]:=by
 rcases List.eq_nil_or_concat s with rfl| ⟨q,z,hqz⟩
 ·cases hl
 ·rw [List.concat_eq_append] at hqz
  subst hqz
  have hkq:k=q.length:=by simpa using hl
  subst hkq
  have hz:(q++ [z])[q.length]=z:=by simp
  rw [hz,abw_abv hg (hc.mem z (by simp)).2.1]
  exact (last_cdt hs (K:=fun i=>(P t i).isSome) hc he).symm
theorem prev_ok {L:List Sn} {t i e:Int} {s:List Sn} (hs:Srs L) (hc:Ch L t i s e) {k:Nat} (hk:k+1<s.length):low3 (cdt L s[k+1])=cdt L (s[k]'(by omega)):=by
 have h:s=s.take k++s[k]'(by omega)::s[k+1]::s.drop (k+2):=by
  rw [←List.drop_eq_getElem_cons hk,←List.drop_eq_getElem_cons (by omega),List.take_append_drop]
 rw [h] at hc
 exact (prev_cdt hs hc).symm
theorem plc_low {L:List Sn} {y:Sn} {c d p:Int} (h:low3 (c,d,p)=cdt L y):plc L y=⟨y.t,y.i,c,if c=3 then 0 else d+1,p,((cnt L y.t y.i:Nat):Int)⟩:=by
 unfold plc;rw [←h];rfl
theorem known_x {L:List Sn} {P P':Int→Int→Option Pc} {x:Sn} {s:List Sn} {e:Int} (hs:Srs L) (hx:x∈L) (hg:PG L P') (hc:Ch L x.t x.i s e) (he:nx L x.t e=none∨((nx L x.t e).isSome=true∧((P x.t e).isSome=true∨∃y∈s,y.i=e))) (hk:∀z∈s,P' z.t z.i=some (plc L z)) (h0:s= []→P'=P):P' x.t x.i=some (plc L x):=by
 cases hc with
 |nil=>
  rw [nx_mem hs hx] at he
  rcases he with he| ⟨-,he| ⟨y,hy,-⟩⟩
  ·cases he
  ·rw [←h0 rfl] at he
   obtain ⟨p,hp⟩:=Option.isSome_iff_exists.1 he
   obtain ⟨y,hy,rfl⟩:=hg _ _ _ hp
   rw [nx_mem hs hx] at hy
   rw [hp,Option.some.inj hy]
  ·cases hy
 |cons h1 h2=>
  rw [nx_mem hs hx] at h1
  rw [Option.some.inj h1]
  exact hk _ (by simp)
theorem known_upd {L:List Sn} (hs:Srs L) {P:Int→Int→Option Pc} {s:List Sn} {k:Nat} (hm:∀z∈s,z∈L) (hk:k<s.length) (h:∀z∈s.drop (k+1),P z.t z.i=some (plc L z)):∀z∈s.drop k,updP P s[k].t s[k].i (plc L s[k]) z.t z.i=some (plc L z):=fun z hz=>by
 unfold updP
 split
 ·rename_i e
  have h1:=nx_mem hs (hm z (List.mem_of_mem_drop hz))
  have h2:=nx_mem hs (hm _ (List.getElem_mem hk))
  rw [←e.1,←e.2,h1] at h2
  rw [Option.some.inj h2]
 ·rename_i e
  rw [List.drop_eq_getElem_cons hk] at hz
  rcases List.mem_cons.1 hz with rfl|hz
  ·exact absurd ⟨rfl,rfl⟩ e
  ·exact h z hz
theorem place {w0:World} {h n m:Nat} {L:List Sn} {P:Int→Int→Option Pc} (x:Sn) (w:World) (hF:Fo w0 w h L L n m P) (hPG:PG L P) (hs:Srs L) (hok:∀y∈L,y.ok) (hx:x∈L) (hlen:L.length≤1000) (hm:m≤900000):
  Calls prog 99 #[.pointer (some ⟨h+3,0,none⟩),x.v] w fun e w'=>∃m' P',e=.returned (plc L x).v∧m'≤m+L.length∧Fo w0 w' h L L n m' P'∧PG L P'∧Fr (fun k=>k=h+1) w w':=by
 have f1:=Fr.alloc (fun _=>False) w (.cells x.arr TSn)
 have f2:=Fr.alloc (fun _=>False) (w.alloc (.cells x.arr TSn)) (.cells #[.int .i64 0,.int .i64 0,.int .i64 0,.int .i64 0,.int .i64 0,.int .i64 0] TPl)
 have f12:=f1.trans f2 (T:=fun _=>False) (fun _ _ h=>h) (fun _ _ h=>h)
 have r2:Bk ((w.alloc (.cells x.arr TSn)).alloc (.cells #[.int .i64 0,.int .i64 0,.int .i64 0,.int .i64 0,.int .i64 0,.int .i64 0] TPl)) (w.heap.size+1) z6.arr TPl:=by
  have:=Bk.new (w.alloc (.cells x.arr TSn)) #[.int .i64 0,.int .i64 0,.int .i64 0,.int .i64 0,.int .i64 0,.int .i64 0] TPl
  rwa [World.size_alloc] at this
 have hsz1:((w.alloc (.cells x.arr TSn)).alloc (.cells #[.int .i64 0,.int .i64 0,.int .i64 0,.int .i64 0,.int .i64 0,.int .i64 0] TPl)).heap.size=w.heap.size+2:=by rw [World.size_alloc,World.size_alloc]
 have HQ:Hid (Fq w0 w ((w.alloc (.cells x.arr TSn)).alloc (.cells #[.int .i64 0,.int .i64 0,.int .i64 0,.int .i64 0,.int .i64 0,.int .i64 0] TPl)) h L n m P):=⟨hF.fr f12,f12.mono (fun _ _ h=>h.elim),lt_of_heap hF.b,hF.l.size⟩
 have HR:=Lib.hid r2
 have HA:=Lib.hid ((At.box (Bk.new w x.arr TSn)).keep f2)
 have hxo:=hok x hx
 obtain ⟨SE,hSE⟩:∃SE,cw L x.t (fun i=>(P x.t i).isSome) (L.length+1) [] x.i=SE:=⟨_,rfl⟩
 have hsp:=cw_spec (K:=fun i=>(P x.t i).isSome) (n:=L.length+1) (out:= []) (Ch.nil (L:=L) (t:=x.t) x.i) List.nodup_nil (by simp)
 rw [hSE] at hsp
 have HCh:=Lib.hid (chain x _ (hF.fr f12) hok hxo.t hxo.i hlen SE hSE)
 obtain ⟨s,e⟩:=SE
 obtain ⟨hch,hnd,hend⟩:=hsp
 have hsl:s.length≤L.length:=sub_len hnd (fun z hz=>(hch.mem z hz).1)
 have HC:=Lib.hid hch;have HEn:=Lib.hid hend;have HPG:=Lib.hid hPG;have HS:=Lib.hid hs;have HOk:=Lib.hid hok;have HX:=Lib.hid hx;have HXo:=Lib.hid hxo
 have hwe:wf64 e:=by
  rcases hch.last_i with rfl| ⟨z,hz,rfl⟩
  ·exact hxo.i
  ·exact (hok z (hch.mem z hz).1).p
 have HMem:Hid (∀z∈s,z∈L∧z.t=x.t):=fun z hz=>⟨(hch.mem z hz).1,(hch.mem z hz).2.1⟩
 clear f1 f2 f12 r2 hF hPG hs hok hx hxo hSE hch hnd hend
 go_enter func99,ntmps99
 go_upto_region 1 with (fail)
 generalize ((w.alloc (.cells x.arr TSn)).alloc (.cells #[.int .i64 0,.int .i64 0,.int .i64 0,.int .i64 0,.int .i64 0,.int .i64 0] TPl))=w1 at *
 have xc0:w1.cell? ⟨w.heap.size,0,none⟩=some (.int .i64 x.t):=HA.out 0 _ rfl
 have xc1:w1.cell? ⟨w.heap.size,1,none⟩=some (.int .i64 x.i):=HA.out 1 _ rfl
 have xc2:w1.cell? ⟨w.heap.size,2,none⟩=some (.int .i64 x.p):=HA.out 2 _ rfl
 have xc3:w1.cell? ⟨w.heap.size,3,none⟩=some (.int .i64 x.r):=HA.out 3 _ rfl
 have xc4:w1.cell? ⟨w.heap.size,4,none⟩=some (.string x.s):=HA.out 4 _ rfl
 have xc5:w1.cell? ⟨w.heap.size,5,none⟩=some (.string x.o):=HA.out 5 _ rfl
 have xc6:w1.cell? ⟨w.heap.size,6,none⟩=some (.int .i64 x.b):=HA.out 6 _ rfl
 have xc7:w1.cell? ⟨w.heap.size,7,none⟩=some (.int .i64 x.d):=HA.out 7 _ rfl
 have xc8:w1.cell? ⟨w.heap.size,8,none⟩=some (.bool x.g):=HA.out 8 _ rfl
 go_wp2_with fail
 refine HCh.out.mono ?_
 rintro e' w2 ⟨A,c,rfl,hsl2,hb,hA2⟩
 have HPB:Hid (PB w0 w w2 h L n m P x s A c):=by
  have hf:=Fr.of_below' hb (fun _=>False)
  exact ⟨HQ.out.fr hf,HPG.out,HA.out.keep hf,HR.out.fr hf (fun _ _ h=>h),hsl2,fun q hq=>⟨by have:=(hA2 q hq).1;omega,(hA2 q hq).2⟩⟩
 clear hsl2 hb hA2 HCh HQ HR HA xc0 xc1 xc2 xc3 xc4 xc5 xc6 xc7 xc8
 have q0:IntKind.i64.wrap ((s.length:Int)-1)=(s.length:Int)-1:=by rw [IntKind.wrap_i64];omega
 go_wp2_with fail
 clear q0
 go_loopg [7,8,9,10] s.length (fun gk i _ _ _ wr=>∃ (j:Nat) (m':Nat) (P':Int→Int→Option Pc),i=.int .i64 ((j:Int)-1)∧j≤s.length∧gk=j∧m'≤m+(s.length-j)∧PB w0 w wr h L n m' P' x s A c∧(∀z∈s.drop j,P' z.t z.i=some (plc L z))∧(j=s.length→P'=P))
 case atStart=>exact ⟨s.length,m,P,rfl,Nat.le_refl _,rfl,by omega,HPB.out,by simp,fun _=>rfl⟩
 case round=>
  clear HPB
  obtain ⟨j,m',P',hi,hj,hg,hm',hpb,hkn,hpp⟩:=hrel
  have HG:=Lib.hid hg;have HPB:=Lib.hid hpb;have HKn:=Lib.hid hkn;have HPp:=Lib.hid hpp
  clear hg hpb hkn hpp
  cases j with
  |zero=>
   subst hi
   have q2:decide (((0:Nat):Int)-1≥0)=false:=by decide
   go_upto_region 13 with (fail)
   refine pc13 (by kernel_rfl) _ _ w0 w wr h L n m' P' w.heap.size x (w.heap.size+1) z6 (plc L x) HXo.out.t HXo.out.i (known_x HS.out HX.out HPB.out.g HC.out HEn.out (by simpa using HKn.out) (fun e0=>HPp.out (by rw [e0];rfl))) ⟨HPB.out.f,HPB.out.a,HPB.out.r,by omega,by omega⟩ rfl rfl rfl rfl ?_
   intro v w' hst
   simp only [Eng.setAll,Act.put,List.setIfInBounds_toArray,List.set_cons_succ,List.set_cons_zero]
   have HZ:=Lib.hid hst
   clear hst
   go_wp2_with fail
   exact bodyPost_ret (results_cell_row rfl _ _ (w.heap.size+1) TPl _ (0,0) _ rfl HZ.out.p underlying91 rfl (by kernel_rfl)) rfl ⟨m',P',rfl,by omega,HZ.out.f.f,HPB.out.g,HZ.out.f.r⟩
  |succ k=>
   rw [show ((k+1:Nat):Int)-1=(k:Int) by omega] at hi
   subst hi
   obtain ⟨q,hq⟩:∃q,s.length=q+1:=⟨s.length-1,by omega⟩
   have hkq:k≤q:=by omega
   have hlt:k<s.length:=by omega
   have hql:q<s.length:=by omega
   obtain ⟨b1,o1,rfl,hb1,c1⟩:=HPB.out.l.at hlt (by omega)
   have HC1:=Lib.hid c1;have HB1:=Lib.hid hb1
   obtain ⟨y,hy⟩:∃y,s[k]=y:=⟨_,rfl⟩
   obtain ⟨z,hz⟩:∃z,s[q]=z:=⟨_,rfl⟩
   have HA:=Lib.hid (At.row c1 hlt);have HZ:=Lib.hid (At.row c1 hql)
   rw [hy] at HA
   rw [hz] at HZ
   have hyL:y∈L∧y.t=x.t:=hy▸HMem.out _ (List.getElem_mem hlt)
   have hzL:z∈L∧z.t=x.t:=hz▸HMem.out _ (List.getElem_mem hql)
   have HY:=Lib.hid hyL;have HZL:=Lib.hid hzL;have HYe:=Lib.hid hy;have HZe:=Lib.hid hz;have HQe:=Lib.hid hq
   have HYo:=Lib.hid (HOk.out y hyL.1)
   clear c1 hb1 hy hz hyL hzL hq
   have q1:(0:Int)≤(k:Int):=by omega
   have q2:(k:Int)<(s.length:Int):=by omega
   have q3:IntKind.i64.wrap ((s.length:Int)-1)=(q:Int):=by rw [IntKind.wrap_i64];have:=HQe.out;omega
   have q4:(0:Int)≤(q:Int):=by omega
   have q5:(q:Int)<(s.length:Int):=by omega
   have q6:IntKind.i64.wrap ((k:Int)-1)=(k:Int)-1:=by rw [IntKind.wrap_i64];omega
   have q7:decide ((k:Int)≥0)=true:=by simp
   obtain ⟨yc0,yc1,yc2,yc3,yc4,yc5,yc6,yc7,yc8⟩:=SetW.at9 HA.out
   go_upto_region 6 with (fail)
   have f1:=Fr.alloc (fun _=>False) wr (.cells y.arr TSn)
   have HBy:=Lib.hid (At.box (Bk.new wr y.arr TSn))
   have hz1:(wr.alloc (.cells y.arr TSn)).heap.size=wr.heap.size+1:=World.size_alloc _ _
   have HP1:=Lib.hid (HPB.out.fr f1)
   have HF1:=Lib.hid f1
   replace HZ:=Lib.hid (HZ.out.keep f1)
   clear f1 HA yc0 yc1 yc2 yc3 yc4 yc5 yc6 yc7 yc8
   generalize (wr.alloc (.cells y.arr TSn))=w1 at *
   obtain ⟨U,hU⟩:∃U,abw L P' z x.t e=U:=⟨_,rfl⟩
   have HAb:=Lib.hid (above z x.t e w1 HP1.out.f.f HXo.out.t hwe U hU)
   have HU:Hid (0≤U.d∧U.d≤L.length):=hU▸abw_d HS.out HPB.out.g z x.t e
   have HU2:Hid (k=q→low3 (U.c,U.d,U.p)=cdt L y):=fun hkq=>by
    have h1:=HPp.out (by rw [hkq];exact HQe.out.symm)
    subst hkq
    rw [←hU,←HYe.out,←HZe.out,h1]
    exact last_ok HS.out HPG.out HC.out HEn.out hlt HQe.out.symm
   clear hU
   obtain ⟨zc0,zc1,zc2,zc3,zc4,zc5,zc6,zc7,zc8⟩:=SetW.at9 HZ.out
   go_wp2_with fail
   refine HAb.out.mono ?_
   rintro _ w2 ⟨rfl,hb⟩
   have f2:=Fr.of_below' hb (fun _=>False)
   clear HAb hb HZ zc0 zc1 zc2 zc3 zc4 zc5 zc6 zc7 zc8
   replace HBy:=Lib.hid (HBy.out.keep f2);have HP2:=Lib.hid (HP1.out.fr f2)
   have HF2:=Lib.hid (HF1.out.trans f2 (T:=fun _=>False) (fun _ _ h=>h) (fun _ _ h=>h))
   clear f2 HF1 HP1
   go_upto_if 41 with (fail)
   have f3:=Fr.alloc (fun _=>False) w2 (.cells U.arr TPl)
   have HBu:=Lib.hid (Bk.new w2 U.arr TPl)
   have HBy0:=HBy;replace HBy:=Lib.hid (HBy.out.keep f3);have HP3:=Lib.hid (HP2.out.fr f3)
   have HF3:=Lib.hid (HF2.out.trans f3 (T:=fun _=>False) (fun _ _ h=>h) (fun _ _ h=>h))
   have HF02:=HF2;have HF23:=Lib.hid f3;have HBy2:=HBy0
   clear f3 HF2 HBy0
   have hzz:wr.heap.size<w2.heap.size:=by have:=HBy2.out.lt;omega
   have hzh:h+3<wr.heap.size:=by have:=HPB.out.f.z;have:=HPB.out.f.r.size;omega
   have hzy:w0.heap.size≤wr.heap.size:=by have:=HPB.out.f.y;have:=HPB.out.f.r.size;omega
   generalize (w2.alloc (.cells U.arr TPl))=w3 at *
   generalize hBu:w2.heap.size=Bu at *
   generalize hBy:wr.heap.size=By at *
   go_cut [9] (fun u wc=>∃U':Pc,u=.pointer (some ⟨Bu,0,none⟩)∧Bk wc Bu U'.arr TPl∧low3 (U'.c,U'.d,U'.p)=cdt L y∧0≤U'.d∧U'.d≤L.length∧At wc By 0 y∧Fr (fun k=>k=h+1) wr wc∧Fq w0 w wc h L n m' P')
   case first=>
    by_cases hkl:k=q
    ·have q8:decide (k<q)=false:=by simp;omega
     go_wp2_with fail
     go_meet
     exact ⟨U,rfl,HBu.out,HU2.out hkl,HU.out.1,HU.out.2,HBy.out,HF3.out.mono (fun _ _ h=>h.elim),HP3.out.f⟩
    ·have q8:decide (k<q)=true:=by simp;omega
     have hk1:k+1<s.length:=by omega
     obtain ⟨u,hu⟩:∃u,s[k+1]=u:=⟨_,rfl⟩
     have hup:=HKn.out u (by rw [List.drop_eq_getElem_cons hk1,hu];exact List.mem_cons_self ..)
     have huL:u∈L:=hu▸(HMem.out _ (List.getElem_mem hk1)).1
     have HAu:=Lib.hid ((At.row HC1.out hk1).keep HF3.out)
     rw [hu] at HAu
     have HL3:Hid (low3 (cdt L u)=cdt L y):=by rw [←hu,←HYe.out];exact prev_ok HS.out HC.out hk1
     have HUp:=Lib.hid hup;have HUo:=Lib.hid (HOk.out u huL);have HUb:=Lib.hid (low_bound HS.out huL)
     clear hu hup huL
     have HQ2:Hid (Fq w0 w2 w3 h L n m' P'):=⟨HP3.out.f.f,HF23.out.mono (fun _ _ h=>h.elim),by omega,by omega⟩
     go_upto_region 8 with (fail)
     refine pc8 (by kernel_rfl) _ _ w0 w2 w3 h L n m' P' Bu U (plc L u) b1 o1 s.length c k u HUo.out.t HUo.out.i HUp.out hk1 (by omega) ⟨HQ2.out,HBu.out,HAu.out,by omega,by have:=HB1.out;omega⟩ rfl rfl rfl rfl rfl ?_
     intro v w4 hst
     simp only [Eng.setAll,Act.put,List.setIfInBounds_toArray,List.set_cons_succ,List.set_cons_zero]
     have HST:=Lib.hid hst
     clear hst
     go_wp2_with fail
     go_meet
     have hf4:Fr (fun k=>k=h+1) wr w4:=HF02.out.trans HST.out.f.r (fun _ _ h=>h.elim) (fun _ _ h=>h)
     exact ⟨plc L u,rfl,HST.out.u,HL3.out,HUb.out.1,HUb.out.2,HBy2.out.fr HST.out.f.r (by omega),hf4,⟨HST.out.f.f,HP2.out.f.r.trans HST.out.f.r (fun _ _ h=>h) (fun _ _ h=>h),HP3.out.f.z,HP3.out.f.y⟩⟩
   case rest=>
    obtain ⟨U2,rfl,hub,hul,hud1,hud2,hya,hfr,hfq⟩:=hcut
    have HUl:=Lib.hid hul;have HFr:=Lib.hid hfr
    have hP9:P9 w0 wr wc h L n m' P' Bu U2 By y [] z6:=⟨⟨hfq.f,hfr,by omega,by omega⟩,hub,hya,by simp⟩
    have HP9:=Lib.hid hP9;have HFq:=Lib.hid hfq
    clear hul hfr hP9 hfq hub hya HBu HBy HBy2 HF02 HF23 HF3 HP2 HP3 HU HU2
    go_upto_region 9 with (fail)
    refine pc9 (by kernel_rfl) _ _ w0 wr wc h L n m' P' Bu U2 By y (cnt L y.t y.i) HYo.out.t HYo.out.i rfl ⟨hud1,by omega⟩ HP9.out rfl rfl rfl rfl ?_
    intro v w5 Bp hv hst
    simp only [Eng.setAll,Act.put,List.setIfInBounds_toArray,List.set_cons_succ,List.set_cons_zero,hv]
    have HST:=Lib.hid hst
    have HPp5:=Lib.hid (hst.p Bp (by simp))
    clear hst hv HP9
    have i2:w5.cell? ⟨Bp,2,none⟩=some (.int .i64 U2.c):=HPp5.out.1.cell 2
    have i3:w5.frozen? ⟨Bp,3,none⟩=false:=HPp5.out.1.free 3
    have i4:w5.cell? ⟨Bp,3,none⟩=some (.int .i64 (U2.d+1)):=HPp5.out.1.cell 3
    go_upto_if 74 with (fail)
    go_cut [10] (fun u wd=>u=.pointer (some ⟨Bp,0,none⟩)∧Bk wd Bp (plc L y).arr TPl∧At wd By 0 y∧Fq w0 wr wd h L n m' P')
    case first=>
     by_cases hc3:U2.c=3
     ·have q8:(U2.c==3)=true:=by simp [hc3]
      have HB:=Lib.hid (HPp5.out.1.set 3 (.int .i64 0));have HCc:=Lib.hid hc3
      have HFs:=Lib.hid (Fr.setCell (S:=fun k=>k=Bp) w5 ⟨Bp,3,none⟩ (.int .i64 0) rfl)
      clear hc3
      go_wp2_with fail
      go_meet
      refine ⟨rfl,?_,HST.out.a.fr HFs.out (fun e=>HPp5.out.2.2.2 e.symm),HST.out.f.off HFs.out HPp5.out.2.1⟩
      rw [plc_low HUl.out,if_pos HCc.out]
      simpa using HB.out
     ·have q8:(U2.c==3)=false:=by simp [hc3]
      have HCc:=Lib.hid hc3
      clear hc3
      go_wp2_with fail
      go_meet
      refine ⟨rfl,?_,HST.out.a,HST.out.f⟩
      rw [plc_low HUl.out,if_neg HCc.out]
      exact HPp5.out.1
    case rest=>
     obtain ⟨rfl,hpb,hya,hfq⟩:=hcut
     have HP12:Hid (P12 w0 wr wc h L n m' P' By y Bp (plc L y)):=⟨hfq,hya,hpb,by omega,HPp5.out.2.1⟩
     clear hfq hya hpb HST HUl i2 i3 i4
     go_upto_region 12 with (fail)
     refine pc12 (by kernel_rfl) _ _ w0 wr wc h L n m' P' By y Bp (plc L y) HYo.out.t HYo.out.i (by omega) HP12.out rfl rfl rfl rfl ?_
     intro v w6 hst
     simp only [Eng.setAll,Act.put,List.setIfInBounds_toArray,List.set_cons_succ,List.set_cons_zero]
     have HST:=Lib.hid hst
     clear hst HP12
     go_wp2_with fail
     go_roundg k
     case rel=>
      refine ⟨k,m'+1,_,rfl,by omega,rfl,by omega,HPB.out.to ⟨HST.out.f.f,HPB.out.f.r.trans HST.out.f.r (fun _ _ h=>h) (fun _ _ h=>h),HPB.out.f.z,HPB.out.f.y⟩ (HPB.out.g.upd (nx_mem HS.out HY.out.1)) HST.out.f.r (by have:=HPB.out.f.z;omega) (by have:=HPB.out.f.z;omega) (fun q hq=>by have:=(HPB.out.n q hq).1;have:=HPB.out.f.z;omega),?_,fun e=>by omega⟩
      have:=known_upd HS.out (fun z hz=>(HMem.out z hz).1) hlt HKn.out
      rw [HYe.out] at this
      exact this
     case measure=>have:=HG.out;omega
end ClsF
set_option maxRecDepth 100000
set_option maxHeartbeats 1000000
namespace ClsF
open KeyP PackP SetP SetW SetF Cls ClsW ClsS
attribute [local go_sem] Eng.ev Eng.getO_cons Eng.getO_nil
abbrev TPls:TypeId:=78
theorem infoP:(prog.info? TPl).map (fun i=>(i.zero,i.size,i.bytes))=some (some zP,6,48):=by kernel_rfl
abbrev pcs (l:List Pc):List Value:=l.flatMap Pq.cs
theorem spn_srs (L:List Sn):Srs (spn L):=List.Pairwise.filter _ (setOf_ok L).srs
theorem spn_len (L:List Sn):(spn L).length≤L.length:=Nat.le_trans (alive_len _) (setOf_len L)
abbrev plcs (L:List Sn):List Pc:=L.map (plc L)
structure OP (w1 w2 w:World) (h:Nat) (L:List Sn) (n m k:Nat) (P:Int→Int→Option Pc) (v:Value):Prop where
 f:Fo w1 w h L L n m P
 g:PG L P
 o:w.ownsRow w2.heap.size TPl 6 v k (pcs ((plcs L).take k))
 b:Below w1.heap.size w1 w
 s:w2.heap.size≤w.heap.size
 z:h+3<w2.heap.size
theorem Of (A:Option Addr) (c:Nat) (L:List Sn) (w:World) (hS:Ls w A c L) (hlen:L.length≤900):
  Calls prog 46 #[.slice A L.length c] w fun e w'=>∃A' c',e=.returned (.slice A' (spn L).length c')∧Sl w' 6 A' (spn L).length c' (pcs (plcs (spn L)))∧Below w.heap.size w w':=by
 obtain ⟨i0,hi,hz0,hz1,hz2⟩:=info_parts infoP
 have HSp:=Lib.hid (spans A c L w hS (by omega))
 have hsl:=Nat.le_trans (spn_len L) hlen
 have HSr:=Lib.hid (spn_srs L)
 clear hS
 generalize spn L=M at *
 go_enter func46,ntmps46
 go_wp2_with fail
 refine HSp.out.mono ?_
 rintro e w1 ⟨A1,c1,rfl,hls,hb⟩
 have HL:=Lib.hid hls;have HB:=Lib.hid hb
 have HPl:=Lib.hid (plant A1 c1 M w1 hls HSr.out (by omega))
 clear hls hb HSp
 go_wp2_with fail
 refine HPl.out.mono ?_
 rintro e w2 ⟨h,n,rfl,-,hF⟩
 have HOP:Hid (OP w1 w2 w2 h M n 0 0 (fun _ _=>none) (.slice none 0 0)):=⟨hF,fun _ _ _ h=>(by cases h),World.ownsRow_nil _ _ _ _,hF.l,Nat.le_refl _,lt_of_heap hF.b⟩
 clear hF HPl
 go_wp2_with fail
 go_loopg [5,7,14] M.length (fun gk v _ i wr=>∃ (k m:Nat) (P:Int→Int→Option Pc),i=.int .i64 k∧k≤M.length∧gk=M.length-k∧m≤k*900∧OP w1 w2 wr h M n m k P v)
 case atStart=>exact ⟨0,0,_,rfl,Nat.zero_le _,rfl,Nat.zero_le _,HOP.out⟩
 case round=>
  clear HOP
  obtain ⟨k,m,P,rfl,hk,hg,hm,hop⟩:=hrel
  have HG:=Lib.hid hg;have HO:=Lib.hid hop
  clear hg hop
  by_cases hlt:k<M.length
  ·obtain ⟨b1,o1,rfl,hb1,c1⟩:=HL.out.s.at hlt (by omega)
   have HA:=Lib.hid ((At.row c1 hlt).fr (Fr.of_below' HO.out.b (fun _=>False)) (fun h=>h))
   have HYm:=Lib.hid (List.getElem_mem hlt)
   have HSn:Hid ((plcs M).take (k+1)=(plcs M).take k++ [plc M M[k]]):=by show _=_;rw [List.take_succ_eq_append_getElem (by simpa using hlt)];simp
   clear c1 hb1
   generalize M[k]=y at *
   obtain ⟨N,hN⟩:∃N,(plcs M).take k=N:=⟨_,rfl⟩
   have hoo:=HO.out.o
   rw [hN] at HSn hoo
   have HOo:=Lib.hid hoo
   clear hN hoo
   have q1:(0:Int)≤(k:Int):=by omega
   have q2:decide ((k:Int)<(M.length:Int))=true:=by simp;omega
   obtain ⟨yc0,yc1,yc2,yc3,yc4,yc5,yc6,yc7,yc8⟩:=SetW.at9 HA.out
   go_upto_region 7 with (fail)
   have f1:=Fr.alloc (fun _=>False) wr (.cells y.arr TSn)
   have a1:=At.box (Bk.new wr y.arr TSn)
   have hs1:(wr.alloc (.cells y.arr TSn)).heap.size=wr.heap.size+1:=World.size_alloc _ _
   have HA1:=Lib.hid a1;have HF1:=Lib.hid f1
   clear f1 a1 HA yc0 yc1 yc2 yc3 yc4 yc5 yc6 yc7 yc8
   generalize (wr.alloc (.cells y.arr TSn))=w3 at *
   have HPc:=Lib.hid (place y w3 (HO.out.f.fr HF1.out) HO.out.g HSr.out HL.out.ok HYm.out (by omega) (by omega))
   have yc0:w3.cell? ⟨wr.heap.size,0,none⟩=some (.int .i64 y.t):=HA1.out 0 _ rfl
   have yc1:w3.cell? ⟨wr.heap.size,1,none⟩=some (.int .i64 y.i):=HA1.out 1 _ rfl
   have yc2:w3.cell? ⟨wr.heap.size,2,none⟩=some (.int .i64 y.p):=HA1.out 2 _ rfl
   have yc3:w3.cell? ⟨wr.heap.size,3,none⟩=some (.int .i64 y.r):=HA1.out 3 _ rfl
   have yc4:w3.cell? ⟨wr.heap.size,4,none⟩=some (.string y.s):=HA1.out 4 _ rfl
   have yc5:w3.cell? ⟨wr.heap.size,5,none⟩=some (.string y.o):=HA1.out 5 _ rfl
   have yc6:w3.cell? ⟨wr.heap.size,6,none⟩=some (.int .i64 y.b):=HA1.out 6 _ rfl
   have yc7:w3.cell? ⟨wr.heap.size,7,none⟩=some (.int .i64 y.d):=HA1.out 7 _ rfl
   have yc8:w3.cell? ⟨wr.heap.size,8,none⟩=some (.bool y.g):=HA1.out 8 _ rfl
   go_wp2_with fail
   refine HPc.out.mono ?_
   rintro e w4 ⟨m',P',rfl,hm',hF4,hg4,hf4⟩
   have HF4:=Lib.hid hF4;have HG4:=Lib.hid hg4
   have hO4:w4.ownsRow w2.heap.size TPl 6 _ k (pcs N):=ownsRow_fr (ownsRow_fr HOo.out HF1.out (fun _ _ h=>h)) hf4 (fun b hb e=>by have:=(ownsRow_blk HOo.out b hb).1;have:=HO.out.z;omega)
   have hs4:=hf4.size
   have HB4:Hid (Below w1.heap.size w1 w4):=hF4.l
   have HO4:=Lib.hid hO4
   obtain ⟨p,hp⟩:∃p,plc M y=p:=⟨_,rfl⟩
   rw [hp] at HSn
   rw [hp]
   have hown1':=hO4.alloc (.cells p.arr TPl)
   have HK1:=Lib.hid (ownsRow_blk HO4.out)
   clear hF4 hg4 hf4 hO4 HPc HA1 yc0 yc1 yc2 yc3 yc4 yc5 yc6 yc7 yc8 hp
   go_wp2_with (at_builtin;refine wpList_append_sl _ rfl (.tmp 18) (.tmp 22) TPls rfl w2.heap.size TPl i0 zP 6 48 underlying78 hi hz0 hz1 hz2 rfl (by decide) _ _ _ rfl hown1' _ _ _ _ rfl (Sl.one w4 TPl p.cs 6 rfl) (by simp [Value.oneCell']) ?_ ?_ ?_ ?_)
   ·unfold maxLen;omega
   ·omega
   ·have:=HO.out.s;first|omega| (simp;omega)
   intro v1 w5 hown1 hgrow1
   have HO5:=Lib.hid hown1;have HGr:=Lib.hid hgrow1
   clear hown1 hgrow1 hown1'
   go_wp2_with fail
   go_roundg (M.length-(k+1))
   case rel=>
    have hg:=HGr.out
    have fa:=Fr.alloc (fun _=>False) w4 (.cells p.arr TPl)
    have fg:Fr (fun b=>w2.heap.size≤b) w4 w5:=fa.trans (Fr.grown (S:=fun b=>w2.heap.size≤b) hg (fun b e=>(HK1.out b e).1)) (fun _ _ h=>h.elim) (fun _ _ h=>h)
    have hz:=HO.out.z
    have hfo:Fo w1 w5 h M M n m' P':=by
     have H:=HF4.out
     exact ⟨H.b.fr fg (fun j hj e=>by simp at hj;omega),H.s.fr fg (by omega),H.p.fr fg (by omega),H.f.fr fg (by omega),H.l.trans (fg.below H.l.size (fun j hj e=>by have:=H.z;omega)),H.z⟩
    refine ⟨k+1,m',P',by go_num,by omega,rfl,by omega,hfo,HG4.out,?_,hfo.l,?_,HO.out.z⟩
    ·rw [HSn.out];simpa using HO5.out
    ·have:=HO.out.s;have:=fg.size;omega
   case measure=>have:=HG.out;omega
  ·obtain rfl:k=M.length:=by omega
   have q2:decide ((M.length:Int)<(M.length:Int))=false:=by simp
   have hO:=HO.out.o
   rw [List.take_of_length_le (by simp)] at hO
   obtain ⟨A2,c2,hv,h2,-⟩:=Sl.of_own hO
   subst hv
   have H2:=Lib.hid h2
   clear h2 hO
   go_wp2_with fail
   go_ret
   exact ⟨A2,c2,rfl,H2.out,HB.out.trans (HO.out.b.mono HB.out.size)⟩
end ClsF
namespace ClsF
open KeyP PackP SetP SetW SetF Cls ClsW ClsS
attribute [local go_sem] Eng.ev Eng.getO_cons Eng.getO_nil
def eqP (a b:Pc):Bool:=decide (a.t=b.t∧a.i=b.i∧a.c=b.c∧a.d=b.d∧a.p=b.p∧a.f=b.f)
theorem eqP_iff {a b:Pc}:eqP a b=true↔a=b:=by
 cases a;cases b;simp [eqP]
theorem neq_pc (t i c d p f t' i' c' d' p' f':Int) (w:World):(binOp .neq TPl (.agg #[.int .i64 t,.int .i64 i,.int .i64 c,.int .i64 d,.int .i64 p,.int .i64 f]) (.agg #[.int .i64 t',.int .i64 i',.int .i64 c',.int .i64 d',.int .i64 p',.int .i64 f'])).run prog w=.ok (.bool (!eqP ⟨t,i,c,d,p,f⟩ ⟨t',i',c',d',p',f'⟩)) w:=by
 unfold eqP
 have hS:prog.underlying TPl=some (.struct (prog.fieldsOf TPl)):=by kernel_rfl
 have hp:prog.stoodInHeld TPl=false:=by kernel_rfl
 rw [run_neq_struct,show (10000:Nat)=9999+1 from rfl,run_equalIn_agg w 9999 TPl _ _ hS hp]
 simp only [Program.fieldsOf,underlying91]
 go_simp
 clear hS hp
 (repeat' split)<;>simp_all
abbrev AtP (w:World) (b o:Nat) (p:Pc):Prop:=∀j u,p.cs[j]? =some u→w.cell? ⟨b,o+j,none⟩=some u
theorem pcs_at {l:List Pc} {k:Nat} (h:k<l.length) {j:Nat} (hj:j<6):(pcs l)[k*6+j]? =l[k].cs[j]? :=by
 induction l generalizing k with
 |nil=>simp at h
 |cons a l ih=>
  have e:pcs (a::l)=a.cs++pcs l:=rfl
  rw [e]
  cases k with
  |zero=>rw [Nat.zero_mul,Nat.zero_add,List.getElem?_append_left (by exact hj)];rfl
  |succ k=>
   rw [List.getElem?_append_right (by show 6≤_;omega),show (k+1)*6+j-a.cs.length=k*6+j by show _-6=_;omega]
   exact ih (by simpa using h)
theorem AtP.row {w:World} {b o:Nat} {l:List Pc} (hc:∀j u,(pcs l)[j]? =some u→w.cell? ⟨b,o+j,none⟩=some u) {k:Nat} (hk:k<l.length):AtP w b (o+k*6) l[k]:=fun j u hu=>by
 rw [Nat.add_assoc]
 refine hc _ u ?_
 have hj:j<6:=(List.getElem?_eq_some_iff.1 hu).1
 rw [pcs_at hk hj];exact hu
theorem AtP.lt {w:World} {b o:Nat} {p:Pc} (h:AtP w b o p):b<w.heap.size:=by
 have:=h 0 _ rfl
 simp only [World.cell?] at this
 rcases Nat.lt_or_ge b w.heap.size with h1|h1
 ·exact h1
 ·rw [Array.getElem?_eq_none h1] at this;cases this
theorem AtP.keep {w w':World} {b o:Nat} {p:Pc} (h:AtP w b o p) (hf:Fr (fun _=>False) w w'):AtP w' b o p:=fun j u hu=>by
 have h1:=h j u hu
 rw [←h1]
 simp only [World.cell?]
 rw [hf.block b h.lt (fun h=>h)]
end ClsF
set_option maxRecDepth 100000
set_option maxHeartbeats 1000000
namespace ClsF
open KeyP PackP SetP SetW SetF Cls ClsW ClsS
attribute [local go_sem] Eng.ev Eng.getO_cons Eng.getO_nil
structure PR2 (w0 w:World) (b o b' o':Nat) (p q:Pc):Prop where
 a:AtP w b o p
 b:AtP w b' o' q
 f:Fr (fun _=>False) w0 w
theorem PR2.fr {w0 w w':World} {b o b' o':Nat} {p q:Pc} (H:PR2 w0 w b o b' o' p q) (hf:Fr (fun _=>False) w w'):PR2 w0 w' b o b' o' p q:=⟨H.a.keep hf,H.b.keep hf,H.f.trans hf (fun _ _ h=>h) (fun _ _ h=>h)⟩
theorem sp6 {ops:Array Oper} (hops:Eng.fnOps Tryz.f35 6=ops) (a0:Act) (Q:Exit→Act→World→Prop) (w0 w:World) (b1 o1 len c b2 o2 len2 c2 k:Nat) (y z:Pc) (hst:PR2 w0 w b1 (o1+k*6) b2 (o2+k*6) y z) (hk:k<len) (hk2:k<len2) (_hlen:len≤9223372036854775807) (_hlen2:len2≤9223372036854775807)
  (hn:a0.tmps.size=32) (h_0:a0.tmps.getD 0 undef=.slice (some ⟨b1,o1,none⟩) len c) (h_1:a0.tmps.getD 1 undef=.slice (some ⟨b2,o2,none⟩) len2 c2) (h_5:a0.tmps.getD 5 undef=.int .i64 (k:Int))
  (hpost:∀ (x:Nat→Value) (w':World),x 31=.bool (!eqP y z)→PR2 w0 w' b1 (o1+k*6) b2 (o2+k*6) y z→Q .normal (Eng.setAll a0 [23,24,25,26,27,28,29,30,31] x) w'):
  (Code.region 6 ops true).wp prog Q a0 w:=by
 simp only [Eng.fnOps,Eng.regOps,Tryz.f35,Option.bind_some,Option.getD_some,Nat.reduceEqDiff,↓reduceIte] at hops
 subst hops
 have q1:(0:Int)≤(k:Int):=by omega
 have q2:(k:Int)<(len:Int):=by omega
 have q4:(k:Int)<(len2:Int):=by omega
 have hq:=fun W:World=>neq_pc y.t y.i y.c y.d y.p y.f z.t z.i z.c z.d z.p z.f W
 have HSt:=Lib.hid (hst.fr (Fr.drew _ _))
 refine Eng.regionN [(0,true),(1,true),(2,true),(3,true),(4,true),(5,true),(6,true),(7,true),(8,true)] (fun w'=>w'.cell? ⟨b1,o1+k*6,none⟩=some (.int .i64 y.t)∧w'.cell? ⟨b1,o1+k*6+1,none⟩=some (.int .i64 y.i)∧w'.cell? ⟨b1,o1+k*6+1+1,none⟩=some (.int .i64 y.c)∧w'.cell? ⟨b1,o1+k*6+1+1+1,none⟩=some (.int .i64 y.d)∧w'.cell? ⟨b1,o1+k*6+1+1+1+1,none⟩=some (.int .i64 y.p)∧w'.cell? ⟨b1,o1+k*6+1+1+1+1+1,none⟩=some (.int .i64 y.f)∧w'.cell? ⟨b2,o2+k*6,none⟩=some (.int .i64 z.t)∧w'.cell? ⟨b2,o2+k*6+1,none⟩=some (.int .i64 z.i)∧w'.cell? ⟨b2,o2+k*6+1+1,none⟩=some (.int .i64 z.c)∧w'.cell? ⟨b2,o2+k*6+1+1+1,none⟩=some (.int .i64 z.d)∧w'.cell? ⟨b2,o2+k*6+1+1+1+1,none⟩=some (.int .i64 z.p)∧w'.cell? ⟨b2,o2+k*6+1+1+1+1+1,none⟩=some (.int .i64 z.f)) (by kernel_rfl) 32 hn (by kernel_rfl) rfl (by kernel_rfl) (⟨HSt.out.a 0 _ rfl,HSt.out.a 1 _ rfl,HSt.out.a 2 _ rfl,HSt.out.a 3 _ rfl,HSt.out.a 4 _ rfl,HSt.out.a 5 _ rfl,HSt.out.b 0 _ rfl,HSt.out.b 1 _ rfl,HSt.out.b 2 _ rfl,HSt.out.b 3 _ rfl,HSt.out.b 4 _ rfl,HSt.out.b 5 _ rfl⟩) (fun a b ha hb=>?_)
 subst ha
 have hb0:b 0=.slice (some ⟨b1,o1,none⟩) len c:=(hb 0).symm.trans h_0
 have hb1:b 1=.slice (some ⟨b2,o2,none⟩) len2 c2:=(hb 1).symm.trans h_1
 have hb5:b 5=.int .i64 (k:Int):=(hb 5).symm.trans h_5
 clear hb h_0 h_1 h_5
 have HP:=Lib.hid hpost;have HN:=Lib.hid hn
 clear hpost hn
 iterate 9 (refine Eng.Sch.tk ?_)
 refine Eng.Sch.end_ [23,24,25,26,27,28,29,30,31] HN.out (by kernel_rfl) (by kernel_rfl) ?_
 exact HP.out _ _ rfl HSt.out
theorem SameP (A B:Option Addr) (ca cb:Nat) (P Q:List Pc) (w:World) (n m:Nat) (hn:P.length=n) (hm:Q.length=m) (ha:Sl w 6 A n ca (pcs P)) (hb:Sl w 6 B m cb (pcs Q)):
  Calls prog 35 #[.slice A n ca,.slice B m cb] w fun e w'=>e=.returned (.bool (decide (P=Q)))∧Fr (fun _=>False) w w':=by
 have la:n≤9223372036854775807:=by have:=ha.2.1;have:=ha.2.2.1;unfold maxLen at this;omega
 have lb:m≤9223372036854775807:=by have:=hb.2.1;have:=hb.2.2.1;unfold maxLen at this;omega
 have HA:=Lib.hid ha;have HB:=Lib.hid hb;have HN:=Lib.hid hn;have HM:=Lib.hid hm
 clear ha hb hn hm
 go_enter func35,ntmps35
 by_cases hl:n=m
 ·subst hl
  have q0:((n:Int) != (n:Int))=false:=by simp
  go_wp2_with fail
  go_loopg [5] n (fun gk i wr=>∃k:Nat,i=.int .i64 k∧k≤n∧gk=n-k∧P.take k=Q.take k∧Fr (fun _=>False) w wr)
  case atStart=>exact ⟨0,rfl,Nat.zero_le _,rfl,rfl,Fr.refl _ _⟩
  case round=>
   obtain ⟨k,rfl,hk,hg,heq,hf⟩:=hrel
   have HG:=Lib.hid hg;have HE:=Lib.hid heq;have HF:=Lib.hid hf
   clear hg heq hf
   by_cases hlt:k<n
   ·have hp:k<P.length:=by rw [HN.out];exact hlt
    have hq:k<Q.length:=by rw [HM.out];exact hlt
    obtain ⟨b1,o1,rfl,hb1,c1⟩:=HA.out.at hlt (by omega)
    obtain ⟨b2,o2,rfl,hb2,c2⟩:=HB.out.at hlt (by omega)
    have H1:=Lib.hid ((AtP.row c1 hp).keep HF.out);have H2:=Lib.hid ((AtP.row c2 hq).keep HF.out)
    have HT:Hid (P[k]=Q[k]→P.take (k+1)=Q.take (k+1)):=fun h=>by rw [List.take_succ_eq_append_getElem hp,List.take_succ_eq_append_getElem hq,HE.out,h]
    have HD:Hid (P[k]≠Q[k]→decide (P=Q)=false):=fun h=>decide_eq_false (fun e=>h (by subst e;rfl))
    clear c1 c2 hb1 hb2
    generalize P[k]=y at *
    generalize Q[k]=z at *
    have q2:decide ((k:Int)<(n:Int))=true:=by simp;omega
    go_upto_region 6 with (fail)
    refine sp6 (by kernel_rfl) _ _ wr wr b1 o1 _ ca b2 o2 _ cb k y z ⟨H1.out,H2.out,Fr.refl _ _⟩ hlt hlt la la rfl rfl rfl rfl ?_
    intro x w2 h17 hst
    simp only [Eng.setAll,Act.put,List.setIfInBounds_toArray,List.set_cons_succ,List.set_cons_zero]
    rw [h17]
    have HSt:=Lib.hid hst
    clear h17 hst
    cases he:eqP y z with
    |true=>
     have HE2:=Lib.hid (HT.out (eqP_iff.1 he))
     clear he q2
     go_wp2_with fail
     go_roundg (n-(k+1))
     case rel=>exact ⟨k+1,by go_num,by omega,rfl,HE2.out,HF.out.trans HSt.out.f (fun _ _ h=>h) (fun _ _ h=>h)⟩
     case measure=>have:=HG.out;omega
    |false=>
     have HE2:=Lib.hid (HD.out (fun e=>by rw [eqP_iff.2 e] at he;cases he))
     clear he q2
     go_wp2_with fail
     go_ret
     exact ⟨by rw [HE2.out];rfl,HF.out.trans HSt.out.f (fun _ _ h=>h) (fun _ _ h=>h)⟩
   ·obtain rfl:k=n:=by omega
    have h:=HE.out
    rw [List.take_of_length_le (by rw [HN.out];exact Nat.le_refl _),List.take_of_length_le (by rw [HM.out];exact Nat.le_refl _)] at h
    have HD:Hid (decide (P=Q)=true):=decide_eq_true h
    have q2:decide ((k:Int)<(k:Int))=false:=by simp
    clear h
    go_wp2_with fail
    go_ret
    exact ⟨by rw [HD.out];rfl,HF.out⟩
 ·have q0:((n:Int) != (m:Int))=true:=by simp;omega
  have HD:Hid (decide (P=Q)=false):=decide_eq_false (fun e=>hl (by rw [←HN.out,←HM.out,e]))
  go_wp2_with fail
  go_ret
  exact ⟨by rw [HD.out];rfl,Fr.refl _ _⟩
end ClsF
end Go.Proofs.YtgfjpnpbkkadpaaGreat
