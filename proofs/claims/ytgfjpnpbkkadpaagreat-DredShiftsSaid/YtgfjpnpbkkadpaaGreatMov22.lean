/- The document's dred: places in order become others by what is told. -/
import Derived.Test.YtgfjpnpbkkadpaaGreatDrdRs
import Derived.Test.YtgfjpnpbkkadpaaGreatClsZs
import Derived.Test.YtgfjpnpbkkadpaaGreatBC
namespace Go.Proofs.YtgfjpnpbkkadpaaGreat
open Tryz
set_option maxRecDepth 100000
set_option maxHeartbeats 4000000
open Go.RowKit
namespace Ref22
open KeyP PackP SetP SetW SetF KidsP Cls KdO Fst Drd Wrk
open ClsF (AtP fdI FindP fd_at fd_none)
attribute [local go_sem] Eng.ev Eng.getO_cons Eng.getO_nil
theorem before (a b : Pq) (w : World) : Calls prog 92 #[a.v, b.v] w fun e w' => e = .returned (.bool (bP a b)) ∧ Fr (fun _ => False) w w' := by
 have kb : ∀ (t i : Int) (W : World), (Instr.build 38 #[(0, .int .i64 t), (1, .int .i64 i)]).run prog W = .ok (.agg #[.int .i64 t, .int .i64 i, .int .i64 0, .int .i64 0, .string ByteArray.empty, .string ByteArray.empty, .int .i64 0, .int .i64 0, .bool false]) W := fun t i W => by kernel_rfl
 have h1 := Bk.new w a.arr TPl
 have h2 := Bk.new (w.alloc (.cells a.arr TPl)) b.arr TPl
 have f1 := Fr.alloc (fun _ => False) w (.cells a.arr TPl)
 have f2 := Fr.alloc (fun _ => False) (w.alloc (.cells a.arr TPl)) (.cells b.arr TPl)
 have g1 := h1.fr f2 (fun _ _ h => h)
 have HF := Lib.hid (f1.trans f2 (T := fun _ => False) (fun _ _ h => h) (fun _ _ h => h))
 have HB := Lib.hid (SetW.Before (pk a) (pk b))
 have x0 := g1.cell 0; have x1 := g1.cell 1; have y0 := h2.cell 0; have y1 := h2.cell 1
 simp only [List.getElem?_toArray, List.getElem?_cons_zero, List.getElem?_cons_succ] at x0 x1 y0 y1
 have hz : (w.alloc (.cells a.arr TPl)).heap.size = w.heap.size + 1 := by simp
 rw [hz] at y0 y1
 clear h1 h2 f1 f2 g1 hz
 go_enter func92, ntmps92
 go_upto_region 1 with (fail)
 generalize (w.alloc (.cells a.arr TPl)).alloc (.cells b.arr TPl) = w2 at *
 go_wp2_with fail
 refine (HB.out w2).mono ?_
 rintro e w3 ⟨rfl, hf⟩
 have HF3 := Lib.hid (HF.out.trans hf (T := fun _ => False) (fun _ _ h => h) (fun _ _ h => h))
 clear hf
 go_wp2_with fail
 go_ret
 exact ⟨rfl, HF3.out⟩
theorem fd_spec (O : List Pq) (x : Pq) : (fdI O x.t x.i = -1 ∧ kq O x = false) ∨ ∃ j, ∃ h : j < O.length, fdI O x.t x.i = (j : Int) ∧ oP O[j] x = true := by
 cases hx : O.findIdx? (fun p => decide (p.t = x.t) && decide (p.i = x.i)) with
 | none =>
  refine .inl ⟨by unfold fdI; rw [hx], ?_⟩
  rw [List.findIdx?_eq_none_iff] at hx
  exact List.any_eq_false.2 (fun z hz => by rw [show oP z x = (decide (z.t = x.t) && decide (z.i = x.i)) from rfl, hx z hz]; simp)
 | some j =>
  obtain ⟨h1, h2, -⟩ := List.findIdx?_eq_some_iff_getElem.1 hx
  exact .inr ⟨j, h1, by unfold fdI; rw [hx], h2⟩
structure MR (w0 w : World) (Bs : Nat) (d : Array Value) : Prop where
 r : Fr (fun _ => False) w0 w
 bk : Bk w Bs d TSh
section
variable {w0 w w' : World} {Bs : Nat} {d : Array Value} {b o b' o' : Nat} {x y : Pq}
theorem MR.fr (h : MR w0 w Bs d) (hf : Fr (fun _ => False) w w') : MR w0 w' Bs d := ⟨h.r.trans hf (fun _ _ h => h) (fun _ _ h => h), h.bk.fr hf (fun _ _ h => h)⟩
theorem MR.at_ (h : MR w0 w Bs d) (ha : AtP w0 b o x) : AtP w b o x := ha.keep h.r
end
theorem mv6 {ops : Array Oper} (hops : Eng.fnOps Tryz.f42 6 = ops) (a0 : Act) (Q : Exit → Act → World → Prop) (w0 w : World) (Bs : Nat) (A1 : Option Addr) (c1 : Nat) (O : List Pq) (v2 : Value) (b1 o1 n c k : Nat) (x : Pq) (j : Int) (hk : k < n) (hn9 : n ≤ 100000) (hO : Sl w0 6 A1 O.length c1 (pcs O)) (ha : AtP w0 b1 (o1 + k * 6) x) (hj : fdI O x.t x.i = j) (hst : MR w0 w Bs #[.slice A1 O.length c1, v2])
  (hn : a0.tmps.size = 119) (h_0 : a0.tmps.getD 0 undef = .slice (some ⟨b1, o1, none⟩) n c) (h_3 : a0.tmps.getD 3 undef = .pointer (some ⟨Bs, 0, none⟩)) (h_8 : a0.tmps.getD 8 undef = .int .i64 (k : Int))
  (hpost : ∀ (x_ : Nat → Value) (w' : World), x_ 9 = .int .i64 j → Fr (fun _ => False) w0 w' → Q .normal (Eng.setAll a0 [9, 19, 20, 21, 22, 23, 24, 25, 26, 27, 28, 29, 30, 31] x_) w') :
  (Code.region 6 ops true).wp prog Q a0 w := by
 simp only [Eng.fnOps, Eng.regOps, Tryz.f42, Option.bind_some, Option.getD_some, Nat.reduceEqDiff, ↓reduceIte, Nat.reduceBEq] at hops
 subst hops
 have q1 : (0 : Int) ≤ (k : Int) := by omega
 have q2 : (k : Int) < (n : Int) := by omega
 have HSt := Lib.hid (hst.fr (Fr.drew _ _))
 refine Eng.regionT (.take 0 (.take 1 (.take 2 (.take 3 (.take 4 (.take 5 (.take 6 (.take 7 (.take 8 (.take 9 (.take 10 (.take 11 (.alt 12 (.take 13 (.done)) (.stop)))))))))))))) (fun w' => w'.cell? ⟨Bs, 0, none⟩ = some (.slice A1 O.length c1) ∧ w'.cell? ⟨b1, o1 + k * 6, none⟩ = some (.int .i64 x.t) ∧ w'.cell? ⟨b1, o1 + k * 6 + 1, none⟩ = some (.int .i64 x.i)) (by kernel_rfl) 119 hn (by kernel_rfl) (by kernel_rfl) (by kernel_rfl) (⟨HSt.out.bk.cell 0, (HSt.out.at_ ha) 0 _ rfl, (HSt.out.at_ ha) 1 _ rfl⟩) (fun a b ha hb => ?_)
 subst ha
 have hb0 : b 0 = .slice (some ⟨b1, o1, none⟩) n c := (hb 0).symm.trans h_0
 have hb3 : b 3 = .pointer (some ⟨Bs, 0, none⟩) := (hb 3).symm.trans h_3
 have hb8 : b 8 = .int .i64 (k : Int) := (hb 8).symm.trans h_8
 clear hb h_0 h_3 h_8
 have HP := Lib.hid hpost; have HN := Lib.hid hn
 clear hpost hn
 iterate 12 (refine Eng.TW.tk ?_)
 refine Eng.TW.call rfl rfl (by decide) (by kernel_rfl) ?_ (FindP A1 c1 O x.t x.i w.drew (hO.fr HSt.out.r (fun _ _ h => h))) ?_
 ·go_simp
 rintro e w2 ⟨rfl, hf1⟩
 rw [hj]
 have HSt2 := Lib.hid (HSt.out.fr hf1)
 clear hf1
 refine ⟨_, rfl, ⟨HSt2.out.bk.cell 0, (HSt2.out.at_ ha) 0 _ rfl, (HSt2.out.at_ ha) 1 _ rfl⟩, ?_⟩
 refine Eng.TW.tk ?_
 refine Eng.TW.end_ [9, 19, 20, 21, 22, 23, 24, 25, 26, 27, 28, 29, 30, 31] HN.out (by kernel_rfl) (by kernel_rfl) ?_
 exact HP.out _ _ rfl HSt2.out.r
theorem mv9 {ops : Array Oper} (hops : Eng.fnOps Tryz.f42 9 = ops) (a0 : Act) (Q : Exit → Act → World → Prop) (w0 w : World) (Bs : Nat) (b2 o2 n1 c1 : Nat) (v2 : Value) (b1 o1 n c k j : Nat) (x z : Pq) (hk : k < n) (hn9 : n ≤ 100000) (hj : j < n1) (hn1 : n1 ≤ 100000) (ha : AtP w0 b1 (o1 + k * 6) x) (hz : AtP w0 b2 (o2 + j * 6) z) (hst : MR w0 w Bs #[.slice (some ⟨b2, o2, none⟩) n1 c1, v2])
  (hn : a0.tmps.size = 119) (h_0 : a0.tmps.getD 0 undef = .slice (some ⟨b1, o1, none⟩) n c) (h_3 : a0.tmps.getD 3 undef = .pointer (some ⟨Bs, 0, none⟩)) (h_8 : a0.tmps.getD 8 undef = .int .i64 (k : Int)) (h_9 : a0.tmps.getD 9 undef = .int .i64 (j : Int))
  (hpost : ∀ (x_ : Nat → Value) (w' : World), x_ 50 = .bool (!eqP z x) → Fr (fun _ => False) w0 w' → Q .normal (Eng.setAll a0 [41, 42, 43, 44, 45, 46, 47, 48, 49, 50] x_) w') :
  (Code.region 9 ops true).wp prog Q a0 w := by
 simp only [Eng.fnOps, Eng.regOps, Tryz.f42, Option.bind_some, Option.getD_some, Nat.reduceEqDiff, ↓reduceIte, Nat.reduceBEq] at hops
 subst hops
 have q1 : (0 : Int) ≤ (k : Int) := by omega
 have q2 : (k : Int) < (n : Int) := by omega
 have q3 : (0 : Int) ≤ (j : Int) := by omega
 have q4 : (j : Int) < (n1 : Int) := by omega
 have hq := fun W : World => neq_pc z.t z.i z.c z.d z.p z.f x.t x.i x.c x.d x.p x.f W
 have HSt := Lib.hid (hst.fr (Fr.drew _ _))
 refine Eng.regionN [(0, true), (1, true), (2, true), (3, true), (4, true), (5, true), (6, true), (7, true), (8, true), (9, true)] (fun w' => w'.cell? ⟨Bs, 0, none⟩ = some (.slice (some ⟨b2, o2, none⟩) n1 c1) ∧ w'.cell? ⟨b2, o2 + j * 6, none⟩ = some (.int .i64 z.t) ∧ w'.cell? ⟨b2, o2 + j * 6 + 1, none⟩ = some (.int .i64 z.i) ∧ w'.cell? ⟨b2, o2 + j * 6 + 1 + 1, none⟩ = some (.int .i64 z.c) ∧ w'.cell? ⟨b2, o2 + j * 6 + 1 + 1 + 1, none⟩ = some (.int .i64 z.d) ∧ w'.cell? ⟨b2, o2 + j * 6 + 1 + 1 + 1 + 1, none⟩ = some (.int .i64 z.p) ∧ w'.cell? ⟨b2, o2 + j * 6 + 1 + 1 + 1 + 1 + 1, none⟩ = some (.int .i64 z.f) ∧ w'.cell? ⟨b1, o1 + k * 6, none⟩ = some (.int .i64 x.t) ∧ w'.cell? ⟨b1, o1 + k * 6 + 1, none⟩ = some (.int .i64 x.i) ∧ w'.cell? ⟨b1, o1 + k * 6 + 1 + 1, none⟩ = some (.int .i64 x.c) ∧ w'.cell? ⟨b1, o1 + k * 6 + 1 + 1 + 1, none⟩ = some (.int .i64 x.d) ∧ w'.cell? ⟨b1, o1 + k * 6 + 1 + 1 + 1 + 1, none⟩ = some (.int .i64 x.p) ∧ w'.cell? ⟨b1, o1 + k * 6 + 1 + 1 + 1 + 1 + 1, none⟩ = some (.int .i64 x.f)) (by kernel_rfl) 119 hn (by kernel_rfl) rfl (by kernel_rfl) (⟨HSt.out.bk.cell 0, (HSt.out.at_ hz) 0 _ rfl, (HSt.out.at_ hz) 1 _ rfl, (HSt.out.at_ hz) 2 _ rfl, (HSt.out.at_ hz) 3 _ rfl, (HSt.out.at_ hz) 4 _ rfl, (HSt.out.at_ hz) 5 _ rfl, (HSt.out.at_ ha) 0 _ rfl, (HSt.out.at_ ha) 1 _ rfl, (HSt.out.at_ ha) 2 _ rfl, (HSt.out.at_ ha) 3 _ rfl, (HSt.out.at_ ha) 4 _ rfl, (HSt.out.at_ ha) 5 _ rfl⟩) (fun a b ha hb => ?_)
 subst ha
 have hb0 : b 0 = .slice (some ⟨b1, o1, none⟩) n c := (hb 0).symm.trans h_0
 have hb3 : b 3 = .pointer (some ⟨Bs, 0, none⟩) := (hb 3).symm.trans h_3
 have hb8 : b 8 = .int .i64 (k : Int) := (hb 8).symm.trans h_8
 have hb9 : b 9 = .int .i64 (j : Int) := (hb 9).symm.trans h_9
 clear hb h_0 h_3 h_8 h_9
 have HP := Lib.hid hpost; have HN := Lib.hid hn
 clear hpost hn
 iterate 10 (refine Eng.Sch.tk ?_)
 refine Eng.Sch.end_ [41, 42, 43, 44, 45, 46, 47, 48, 49, 50] HN.out (by kernel_rfl) (by kernel_rfl) ?_
 exact HP.out _ _ rfl HSt.out.r
theorem mv16 {ops : Array Oper} (hops : Eng.fnOps Tryz.f42 16 = ops) (a0 : Act) (Q : Exit → Act → World → Prop) (w0 w : World) (Bs : Nat) (v1 : Value) (b2 o2 m c2 q b3 o3 n2 c3 j : Nat) (y s : Pq) (hq : q < m) (hm9 : m ≤ 200000) (hj : j < n2) (hn2 : n2 ≤ 100000) (hy : AtP w0 b2 (o2 + q * 6) y) (hs : AtP w0 b3 (o3 + j * 6) s) (hst : MR w0 w Bs #[v1, .slice (some ⟨b3, o3, none⟩) n2 c3])
  (hn : a0.tmps.size = 119) (h_3 : a0.tmps.getD 3 undef = .pointer (some ⟨Bs, 0, none⟩)) (h_6 : a0.tmps.getD 6 undef = .slice (some ⟨b2, o2, none⟩) m c2) (h_10 : a0.tmps.getD 10 undef = .int .i64 (j : Int)) (h_11 : a0.tmps.getD 11 undef = .int .i64 (q : Int))
  (hpost : ∀ (x_ : Nat → Value) (w' : World), x_ 75 = .bool (bP y s) → Fr (fun _ => False) w0 w' → Q .normal (Eng.setAll a0 [60, 61, 62, 63, 64, 65, 66, 67, 68, 69, 70, 71, 72, 73, 74, 75] x_) w') :
  (Code.region 16 ops true).wp prog Q a0 w := by
 simp only [Eng.fnOps, Eng.regOps, Tryz.f42, Option.bind_some, Option.getD_some, Nat.reduceEqDiff, ↓reduceIte, Nat.reduceBEq] at hops
 subst hops
 have q1 : decide ((q : Int) < (m : Int)) = true := by simp; omega
 have q2 : (0 : Int) ≤ (q : Int) := by omega
 have q3 : (q : Int) < (m : Int) := by omega
 have q4 : (0 : Int) ≤ (j : Int) := by omega
 have q5 : (j : Int) < (n2 : Int) := by omega
 have HSt := Lib.hid (hst.fr (Fr.drew _ _))
 refine Eng.regionT (.take 0 (.take 1 (.take 2 (.take 3 (.take 4 (.take 5 (.take 6 (.take 7 (.take 8 (.take 9 (.take 10 (.take 11 (.take 12 (.take 13 (.alt 14 (.take 15 (.done)) (.stop)))))))))))))))) (fun w' => w'.cell? ⟨Bs, 1, none⟩ = some (.slice (some ⟨b3, o3, none⟩) n2 c3) ∧ w'.cell? ⟨b2, o2 + q * 6, none⟩ = some (.int .i64 y.t) ∧ w'.cell? ⟨b2, o2 + q * 6 + 1, none⟩ = some (.int .i64 y.i) ∧ w'.cell? ⟨b2, o2 + q * 6 + 1 + 1, none⟩ = some (.int .i64 y.c) ∧ w'.cell? ⟨b2, o2 + q * 6 + 1 + 1 + 1, none⟩ = some (.int .i64 y.d) ∧ w'.cell? ⟨b2, o2 + q * 6 + 1 + 1 + 1 + 1, none⟩ = some (.int .i64 y.p) ∧ w'.cell? ⟨b2, o2 + q * 6 + 1 + 1 + 1 + 1 + 1, none⟩ = some (.int .i64 y.f) ∧ w'.cell? ⟨b3, o3 + j * 6, none⟩ = some (.int .i64 s.t) ∧ w'.cell? ⟨b3, o3 + j * 6 + 1, none⟩ = some (.int .i64 s.i) ∧ w'.cell? ⟨b3, o3 + j * 6 + 1 + 1, none⟩ = some (.int .i64 s.c) ∧ w'.cell? ⟨b3, o3 + j * 6 + 1 + 1 + 1, none⟩ = some (.int .i64 s.d) ∧ w'.cell? ⟨b3, o3 + j * 6 + 1 + 1 + 1 + 1, none⟩ = some (.int .i64 s.p) ∧ w'.cell? ⟨b3, o3 + j * 6 + 1 + 1 + 1 + 1 + 1, none⟩ = some (.int .i64 s.f)) (by kernel_rfl) 119 hn (by kernel_rfl) (by kernel_rfl) (by kernel_rfl) (⟨HSt.out.bk.cell 1, (HSt.out.at_ hy) 0 _ rfl, (HSt.out.at_ hy) 1 _ rfl, (HSt.out.at_ hy) 2 _ rfl, (HSt.out.at_ hy) 3 _ rfl, (HSt.out.at_ hy) 4 _ rfl, (HSt.out.at_ hy) 5 _ rfl, (HSt.out.at_ hs) 0 _ rfl, (HSt.out.at_ hs) 1 _ rfl, (HSt.out.at_ hs) 2 _ rfl, (HSt.out.at_ hs) 3 _ rfl, (HSt.out.at_ hs) 4 _ rfl, (HSt.out.at_ hs) 5 _ rfl⟩) (fun a b ha hb => ?_)
 subst ha
 have hb3 : b 3 = .pointer (some ⟨Bs, 0, none⟩) := (hb 3).symm.trans h_3
 have hb6 : b 6 = .slice (some ⟨b2, o2, none⟩) m c2 := (hb 6).symm.trans h_6
 have hb10 : b 10 = .int .i64 (j : Int) := (hb 10).symm.trans h_10
 have hb11 : b 11 = .int .i64 (q : Int) := (hb 11).symm.trans h_11
 clear hb h_3 h_6 h_10 h_11
 have HP := Lib.hid hpost; have HN := Lib.hid hn
 clear hpost hn
 iterate 14 (refine Eng.TW.tk ?_)
 refine Eng.TW.call rfl rfl (by decide) (by kernel_rfl) ?_ (before y s w.drew) ?_
 ·go_simp
 rintro e w2 ⟨rfl, hf1⟩
 have HSt2 := Lib.hid (HSt.out.fr hf1)
 clear hf1
 refine ⟨_, rfl, ⟨HSt2.out.bk.cell 1, (HSt2.out.at_ hy) 0 _ rfl, (HSt2.out.at_ hy) 1 _ rfl, (HSt2.out.at_ hy) 2 _ rfl, (HSt2.out.at_ hy) 3 _ rfl, (HSt2.out.at_ hy) 4 _ rfl, (HSt2.out.at_ hy) 5 _ rfl, (HSt2.out.at_ hs) 0 _ rfl, (HSt2.out.at_ hs) 1 _ rfl, (HSt2.out.at_ hs) 2 _ rfl, (HSt2.out.at_ hs) 3 _ rfl, (HSt2.out.at_ hs) 4 _ rfl, (HSt2.out.at_ hs) 5 _ rfl⟩, ?_⟩
 refine Eng.TW.tk ?_
 refine Eng.TW.end_ [60, 61, 62, 63, 64, 65, 66, 67, 68, 69, 70, 71, 72, 73, 74, 75] HN.out (by kernel_rfl) (by kernel_rfl) ?_
 exact HP.out _ _ rfl HSt2.out.r
theorem mv18 {ops : Array Oper} (hops : Eng.fnOps Tryz.f42 18 = ops) (a0 : Act) (Q : Exit → Act → World → Prop) (w0 w : World) (Bs : Nat) (v1 : Value) (b2 o2 m c2 q b3 o3 n2 c3 j : Nat) (y s : Pq) (hq : q < m) (hm9 : m ≤ 200000) (hj : j < n2) (hn2 : n2 ≤ 100000) (hy : AtP w0 b2 (o2 + q * 6) y) (hs : AtP w0 b3 (o3 + j * 6) s) (hst : MR w0 w Bs #[v1, .slice (some ⟨b3, o3, none⟩) n2 c3])
  (hn : a0.tmps.size = 119) (h_3 : a0.tmps.getD 3 undef = .pointer (some ⟨Bs, 0, none⟩)) (h_6 : a0.tmps.getD 6 undef = .slice (some ⟨b2, o2, none⟩) m c2) (h_10 : a0.tmps.getD 10 undef = .int .i64 (j : Int)) (h_11 : a0.tmps.getD 11 undef = .int .i64 (q : Int))
  (hpost : ∀ (x_ : Nat → Value) (w' : World), x_ 94 = .bool (!bP s y) → Fr (fun _ => False) w0 w' → Q .normal (Eng.setAll a0 [78, 79, 80, 81, 82, 83, 84, 85, 86, 87, 88, 89, 90, 91, 92, 93, 94] x_) w') :
  (Code.region 18 ops true).wp prog Q a0 w := by
 simp only [Eng.fnOps, Eng.regOps, Tryz.f42, Option.bind_some, Option.getD_some, Nat.reduceEqDiff, ↓reduceIte, Nat.reduceBEq] at hops
 subst hops
 have q1 : decide ((q : Int) < (m : Int)) = true := by simp; omega
 have q2 : (0 : Int) ≤ (q : Int) := by omega
 have q3 : (q : Int) < (m : Int) := by omega
 have q4 : (0 : Int) ≤ (j : Int) := by omega
 have q5 : (j : Int) < (n2 : Int) := by omega
 have HSt := Lib.hid (hst.fr (Fr.drew _ _))
 refine Eng.regionT (.take 0 (.take 1 (.take 2 (.take 3 (.take 4 (.take 5 (.take 6 (.take 7 (.take 8 (.take 9 (.take 10 (.take 11 (.take 12 (.take 13 (.alt 14 (.take 15 (.take 16 (.done))) (.stop)))))))))))))))) (fun w' => w'.cell? ⟨Bs, 1, none⟩ = some (.slice (some ⟨b3, o3, none⟩) n2 c3) ∧ w'.cell? ⟨b2, o2 + q * 6, none⟩ = some (.int .i64 y.t) ∧ w'.cell? ⟨b2, o2 + q * 6 + 1, none⟩ = some (.int .i64 y.i) ∧ w'.cell? ⟨b2, o2 + q * 6 + 1 + 1, none⟩ = some (.int .i64 y.c) ∧ w'.cell? ⟨b2, o2 + q * 6 + 1 + 1 + 1, none⟩ = some (.int .i64 y.d) ∧ w'.cell? ⟨b2, o2 + q * 6 + 1 + 1 + 1 + 1, none⟩ = some (.int .i64 y.p) ∧ w'.cell? ⟨b2, o2 + q * 6 + 1 + 1 + 1 + 1 + 1, none⟩ = some (.int .i64 y.f) ∧ w'.cell? ⟨b3, o3 + j * 6, none⟩ = some (.int .i64 s.t) ∧ w'.cell? ⟨b3, o3 + j * 6 + 1, none⟩ = some (.int .i64 s.i) ∧ w'.cell? ⟨b3, o3 + j * 6 + 1 + 1, none⟩ = some (.int .i64 s.c) ∧ w'.cell? ⟨b3, o3 + j * 6 + 1 + 1 + 1, none⟩ = some (.int .i64 s.d) ∧ w'.cell? ⟨b3, o3 + j * 6 + 1 + 1 + 1 + 1, none⟩ = some (.int .i64 s.p) ∧ w'.cell? ⟨b3, o3 + j * 6 + 1 + 1 + 1 + 1 + 1, none⟩ = some (.int .i64 s.f)) (by kernel_rfl) 119 hn (by kernel_rfl) (by kernel_rfl) (by kernel_rfl) (⟨HSt.out.bk.cell 1, (HSt.out.at_ hy) 0 _ rfl, (HSt.out.at_ hy) 1 _ rfl, (HSt.out.at_ hy) 2 _ rfl, (HSt.out.at_ hy) 3 _ rfl, (HSt.out.at_ hy) 4 _ rfl, (HSt.out.at_ hy) 5 _ rfl, (HSt.out.at_ hs) 0 _ rfl, (HSt.out.at_ hs) 1 _ rfl, (HSt.out.at_ hs) 2 _ rfl, (HSt.out.at_ hs) 3 _ rfl, (HSt.out.at_ hs) 4 _ rfl, (HSt.out.at_ hs) 5 _ rfl⟩) (fun a b ha hb => ?_)
 subst ha
 have hb3 : b 3 = .pointer (some ⟨Bs, 0, none⟩) := (hb 3).symm.trans h_3
 have hb6 : b 6 = .slice (some ⟨b2, o2, none⟩) m c2 := (hb 6).symm.trans h_6
 have hb10 : b 10 = .int .i64 (j : Int) := (hb 10).symm.trans h_10
 have hb11 : b 11 = .int .i64 (q : Int) := (hb 11).symm.trans h_11
 clear hb h_3 h_6 h_10 h_11
 have HP := Lib.hid hpost; have HN := Lib.hid hn
 clear hpost hn
 iterate 14 (refine Eng.TW.tk ?_)
 refine Eng.TW.call rfl rfl (by decide) (by kernel_rfl) ?_ (before s y w.drew) ?_
 ·go_simp
 rintro e w2 ⟨rfl, hf1⟩
 have HSt2 := Lib.hid (HSt.out.fr hf1)
 clear hf1
 refine ⟨_, rfl, ⟨HSt2.out.bk.cell 1, (HSt2.out.at_ hy) 0 _ rfl, (HSt2.out.at_ hy) 1 _ rfl, (HSt2.out.at_ hy) 2 _ rfl, (HSt2.out.at_ hy) 3 _ rfl, (HSt2.out.at_ hy) 4 _ rfl, (HSt2.out.at_ hy) 5 _ rfl, (HSt2.out.at_ hs) 0 _ rfl, (HSt2.out.at_ hs) 1 _ rfl, (HSt2.out.at_ hs) 2 _ rfl, (HSt2.out.at_ hs) 3 _ rfl, (HSt2.out.at_ hs) 4 _ rfl, (HSt2.out.at_ hs) 5 _ rfl⟩, ?_⟩
 refine Eng.TW.tk ?_
 refine Eng.TW.tk ?_
 refine Eng.TW.end_ [78, 79, 80, 81, 82, 83, 84, 85, 86, 87, 88, 89, 90, 91, 92, 93, 94] HN.out (by kernel_rfl) (by kernel_rfl) ?_
 exact HP.out _ _ rfl HSt2.out.r
theorem mv16f {ops : Array Oper} (hops : Eng.fnOps Tryz.f42 16 = ops) (a0 : Act) (Q : Exit → Act → World → Prop) (w : World) (A : Option Addr) (m c2 : Nat)
  (hn : a0.tmps.size = 119) (h_6 : a0.tmps.getD 6 undef = .slice A m c2) (h_11 : a0.tmps.getD 11 undef = .int .i64 (m : Int))
  (hpost : ∀ (x_ : Nat → Value) (w' : World), x_ 75 = .bool false → Fr (fun _ => False) w w' → Q .normal (Eng.setAll a0 [60, 61, 62, 63, 64, 65, 66, 67, 68, 69, 70, 71, 72, 73, 74, 75] x_) w') :
  (Code.region 16 ops true).wp prog Q a0 w := by
 simp only [Eng.fnOps, Eng.regOps, Tryz.f42, Option.bind_some, Option.getD_some, Nat.reduceEqDiff, ↓reduceIte, Nat.reduceBEq] at hops
 subst hops
 have q1 : decide ((m : Int) < (m : Int)) = false := by simp
 have HSt := Lib.hid (Lib.hid (Fr.drew (fun _ => False) w))
 refine Eng.regionN [(0, true), (1, true), (2, true), (3, true), (4, true), (5, true), (6, true), (7, true), (8, true), (9, true), (10, true), (11, true), (12, true), (13, true), (14, true), (15, true)] (fun w' => True) (by kernel_rfl) 119 hn (by kernel_rfl) rfl (by kernel_rfl) (trivial) (fun a b ha hb => ?_)
 subst ha
 have hb6 : b 6 = .slice A m c2 := (hb 6).symm.trans h_6
 have hb11 : b 11 = .int .i64 (m : Int) := (hb 11).symm.trans h_11
 clear hb h_6 h_11
 have HP := Lib.hid hpost; have HN := Lib.hid hn
 clear hpost hn
 iterate 5 (refine Eng.Sch.tk ?_)
 iterate 10 (refine Eng.Sch.skip rfl rfl (by decide) (by kernel_rfl) ?_)
 refine Eng.Sch.tk ?_
 refine Eng.Sch.end_ [60, 61, 62, 63, 64, 65, 66, 67, 68, 69, 70, 71, 72, 73, 74, 75] HN.out (by kernel_rfl) (by kernel_rfl) ?_
 exact HP.out _ _ rfl HSt.out.out
theorem mv18f {ops : Array Oper} (hops : Eng.fnOps Tryz.f42 18 = ops) (a0 : Act) (Q : Exit → Act → World → Prop) (w : World) (A : Option Addr) (m c2 : Nat)
  (hn : a0.tmps.size = 119) (h_6 : a0.tmps.getD 6 undef = .slice A m c2) (h_11 : a0.tmps.getD 11 undef = .int .i64 (m : Int))
  (hpost : ∀ (x_ : Nat → Value) (w' : World), x_ 94 = .bool false → Fr (fun _ => False) w w' → Q .normal (Eng.setAll a0 [78, 79, 80, 81, 82, 83, 84, 85, 86, 87, 88, 89, 90, 91, 92, 93, 94] x_) w') :
  (Code.region 18 ops true).wp prog Q a0 w := by
 simp only [Eng.fnOps, Eng.regOps, Tryz.f42, Option.bind_some, Option.getD_some, Nat.reduceEqDiff, ↓reduceIte, Nat.reduceBEq] at hops
 subst hops
 have q1 : decide ((m : Int) < (m : Int)) = false := by simp
 have HSt := Lib.hid (Lib.hid (Fr.drew (fun _ => False) w))
 refine Eng.regionN [(0, true), (1, true), (2, true), (3, true), (4, true), (5, true), (6, true), (7, true), (8, true), (9, true), (10, true), (11, true), (12, true), (13, true), (14, true), (15, true), (16, true)] (fun w' => True) (by kernel_rfl) 119 hn (by kernel_rfl) rfl (by kernel_rfl) (trivial) (fun a b ha hb => ?_)
 subst ha
 have hb6 : b 6 = .slice A m c2 := (hb 6).symm.trans h_6
 have hb11 : b 11 = .int .i64 (m : Int) := (hb 11).symm.trans h_11
 clear hb h_6 h_11
 have HP := Lib.hid hpost; have HN := Lib.hid hn
 clear hpost hn
 iterate 5 (refine Eng.Sch.tk ?_)
 iterate 11 (refine Eng.Sch.skip rfl rfl (by decide) (by kernel_rfl) ?_)
 refine Eng.Sch.tk ?_
 refine Eng.Sch.end_ [78, 79, 80, 81, 82, 83, 84, 85, 86, 87, 88, 89, 90, 91, 92, 93, 94] HN.out (by kernel_rfl) (by kernel_rfl) ?_
 exact HP.out _ _ rfl HSt.out.out
theorem mv24 {ops : Array Oper} (hops : Eng.fnOps Tryz.f42 24 = ops) (a0 : Act) (Q : Exit → Act → World → Prop) (w0 w : World) (Bs : Nat) (A1 : Option Addr) (n1 c1 : Nat) (v2 v : Value) (hst : MR w0 w Bs #[.slice A1 n1 c1, v2])
  (hn : a0.tmps.size = 119) (h_3 : a0.tmps.getD 3 undef = .pointer (some ⟨Bs, 0, none⟩)) (h_6 : a0.tmps.getD 6 undef = v) (h_7 : a0.tmps.getD 7 undef = .int .i64 (n1 : Int))
  (hpost : ∀ (x_ : Nat → Value) (w' : World), x_ 4 = v → x_ 5 = .bool true → Fr (fun _ => False) w0 w' → Q .normal (Eng.setAll a0 [4, 5, 113, 114, 115, 116, 117, 118] x_) w') :
  (Code.region 24 ops true).wp prog Q a0 w := by
 simp only [Eng.fnOps, Eng.regOps, Tryz.f42, Option.bind_some, Option.getD_some, Nat.reduceEqDiff, ↓reduceIte, Nat.reduceBEq] at hops
 subst hops
 have q1 : ((n1 : Int) == (n1 : Int)) = true := by simp
 have HSt := Lib.hid (hst.fr (Fr.drew _ _))
 refine Eng.regionN [(0, true), (1, true), (2, true), (3, true), (4, true), (5, true), (6, true), (7, true)] (fun w' => w'.cell? ⟨Bs, 0, none⟩ = some (.slice A1 n1 c1)) (by kernel_rfl) 119 hn (by kernel_rfl) rfl (by kernel_rfl) (HSt.out.bk.cell 0) (fun a b ha hb => ?_)
 subst ha
 have hb3 : b 3 = .pointer (some ⟨Bs, 0, none⟩) := (hb 3).symm.trans h_3
 have hb6 : b 6 = v := (hb 6).symm.trans h_6
 have hb7 : b 7 = .int .i64 (n1 : Int) := (hb 7).symm.trans h_7
 clear hb h_3 h_6 h_7
 have HP := Lib.hid hpost; have HN := Lib.hid hn
 clear hpost hn
 iterate 8 (refine Eng.Sch.tk ?_)
 refine Eng.Sch.end_ [4, 5, 113, 114, 115, 116, 117, 118] HN.out (by kernel_rfl) (by kernel_rfl) ?_
 exact HP.out _ _ rfl rfl HSt.out.r
theorem sl_lo (A : Option Addr) (n c k : Nat) (h : k ≤ c) (W : World) : (Instr.slice TPls (.slice A n c) none (some (.int .i64 (k : Int))) none).run prog W = .ok (.slice A k c) W := by
 obtain ⟨i0, hi, -, hz1, -⟩ := info_parts infoP
 simp [Instr.slice, run_underlying underlying78, Instr.sliceBounds, Instr.sliceBound, asIntOf, run_sizeOf W hi, go_sem, h]
theorem sl_hi (A : Option Addr) (n c k : Nat) (h : k ≤ n) (W : World) : (Instr.slice TPls (.slice A n c) (some (.int .i64 (k : Int))) none none).run prog W = .ok (.slice (if c = k then A else A.map (·.add (k * 6))) (n - k) (c - k)) W := by
 obtain ⟨i0, hi, -, hz1, -⟩ := info_parts infoP
 have hs : prog.cellsOf TPl = 6 := by simp [Program.cellsOf, hi, hz1]
 simp [Instr.slice, run_underlying underlying78, Instr.sliceBounds, Instr.sliceBound, asIntOf, run_sizeOf W hi, go_sem, h, hs]
theorem oneP {L : List Pq} : ∀ u ∈ pcs L, u.oneCell' = true := fun u hu => by
 obtain ⟨p, -, h⟩ := List.mem_flatMap.1 hu
 simp only [List.mem_cons, List.not_mem_nil, or_false] at h
 rcases h with rfl | rfl | rfl | rfl | rfl | rfl <;> rfl
theorem mv16c {ops : Array Oper} (hops : Eng.fnOps Tryz.f42 16 = ops) (a0 : Act) (Q : Exit → Act → World → Prop) (w0 w : World) (Bs : Nat) (v1 : Value) (A : Option Addr) (c2 q : Nat) (Y : List Pq) (b3 o3 n2 c3 j : Nat) (s : Pq) (rb : Bool) (hY : Sl w0 6 A Y.length c2 (pcs Y)) (hq : q ≤ Y.length) (hm9 : Y.length ≤ 200000) (hj : j < n2) (hn2 : n2 ≤ 100000) (hs : AtP w0 b3 (o3 + j * 6) s) (hst : MR w0 w Bs #[v1, .slice (some ⟨b3, o3, none⟩) n2 c3]) (h1 : ∀ h : q < Y.length, bP Y[q] s = rb) (h2 : q = Y.length → rb = false)
  (hn : a0.tmps.size = 119) (h_3 : a0.tmps.getD 3 undef = .pointer (some ⟨Bs, 0, none⟩)) (h_6 : a0.tmps.getD 6 undef = .slice A Y.length c2) (h_10 : a0.tmps.getD 10 undef = .int .i64 (j : Int)) (h_11 : a0.tmps.getD 11 undef = .int .i64 (q : Int))
  (hpost : ∀ (x_ : Nat → Value) (w' : World), x_ 75 = .bool rb → Fr (fun _ => False) w0 w' → Q .normal (Eng.setAll a0 [60, 61, 62, 63, 64, 65, 66, 67, 68, 69, 70, 71, 72, 73, 74, 75] x_) w') :
  (Code.region 16 ops true).wp prog Q a0 w := by
 by_cases hlt : q < Y.length
 ·obtain ⟨b2, o2, rfl, -, cc⟩ := hY.at hlt (by omega)
  exact mv16 hops a0 Q w0 w Bs v1 b2 o2 Y.length c2 q b3 o3 n2 c3 j Y[q] s hlt hm9 hj hn2 (AtP.row cc hlt) hs hst hn h_3 h_6 h_10 h_11 (fun x_ w' hx hf => hpost x_ w' (by rw [hx, h1 hlt]) hf)
 ·have : q = Y.length := by omega
  subst this
  exact mv16f hops a0 Q w A Y.length c2 hn h_6 h_11 (fun x_ w' hx hf => hpost x_ w' (by rw [hx, h2 rfl]) (hst.r.trans hf (fun _ _ h => h) (fun _ _ h => h)))
theorem mv18c {ops : Array Oper} (hops : Eng.fnOps Tryz.f42 18 = ops) (a0 : Act) (Q : Exit → Act → World → Prop) (w0 w : World) (Bs : Nat) (v1 : Value) (A : Option Addr) (c2 q : Nat) (Y : List Pq) (b3 o3 n2 c3 j : Nat) (s : Pq) (hY : Sl w0 6 A Y.length c2 (pcs Y)) (hq : q ≤ Y.length) (hm9 : Y.length ≤ 200000) (hj : j < n2) (hn2 : n2 ≤ 100000) (hs : AtP w0 b3 (o3 + j * 6) s) (hst : MR w0 w Bs #[v1, .slice (some ⟨b3, o3, none⟩) n2 c3]) (h1 : ∀ h : q < Y.length, bP s Y[q] = true)
  (hn : a0.tmps.size = 119) (h_3 : a0.tmps.getD 3 undef = .pointer (some ⟨Bs, 0, none⟩)) (h_6 : a0.tmps.getD 6 undef = .slice A Y.length c2) (h_10 : a0.tmps.getD 10 undef = .int .i64 (j : Int)) (h_11 : a0.tmps.getD 11 undef = .int .i64 (q : Int))
  (hpost : ∀ (x_ : Nat → Value) (w' : World), x_ 94 = .bool false → Fr (fun _ => False) w0 w' → Q .normal (Eng.setAll a0 [78, 79, 80, 81, 82, 83, 84, 85, 86, 87, 88, 89, 90, 91, 92, 93, 94] x_) w') :
  (Code.region 18 ops true).wp prog Q a0 w := by
 by_cases hlt : q < Y.length
 ·obtain ⟨b2, o2, rfl, -, cc⟩ := hY.at hlt (by omega)
  exact mv18 hops a0 Q w0 w Bs v1 b2 o2 Y.length c2 q b3 o3 n2 c3 j Y[q] s hlt hm9 hj hn2 (AtP.row cc hlt) hs hst hn h_3 h_6 h_10 h_11 (fun x_ w' hx hf => hpost x_ w' (by rw [hx, h1 hlt]; rfl) hf)
 ·have : q = Y.length := by omega
  subst this
  exact mv18f hops a0 Q w A Y.length c2 hn h_6 h_11 (fun x_ w' hx hf => hpost x_ w' hx (hst.r.trans hf (fun _ _ h => h) (fun _ _ h => h)))
theorem Move {A A1 A2 : Option Addr} {c c1 c2 n n1 n2 m : Nat} {P O I Z : List Pq} (w : World) (hM : MvP P O I) (hn : P.length = n) (h1 : O.length = n1) (h2 : I.length = n2) (hl : mvl P O = n1) (hZ : mv2 (mv1 P O) I = Z) (hm : Z.length = m) (hp : Sl w 6 A n c (pcs P)) (ho : Sl w 6 A1 n1 c1 (pcs O)) (hi : Sl w 6 A2 n2 c2 (pcs I)) (l0 : n ≤ 100000) (l1 : n1 ≤ 100000) (l2 : n2 ≤ 100000) :
  Calls prog 42 #[.slice A n c, .agg #[.slice A1 n1 c1, .slice A2 n2 c2]] w fun e w' => ∃ A3 c3, e = .returned (.tuple #[.slice A3 m c3, .bool true]) ∧ Sl w' 6 A3 m c3 (pcs Z) ∧ Fr (fun _ => False) w w' := by
 subst hn; subst h1; subst h2; subst hm; subst hZ
 obtain ⟨i0, hi0, hz0, hz1, hz2⟩ := info_parts infoP
 have hfr := Fr.alloc (fun _ => False) w (.cells #[.slice A1 O.length c1, .slice A2 I.length c2] TSh)
 have HP := Lib.hid (hp.fr hfr (fun _ _ h => h)); have HO := Lib.hid (ho.fr hfr (fun _ _ h => h)); have HI := Lib.hid (hi.fr hfr (fun _ _ h => h))
 have HBk := Lib.hid (Bk.new w #[.slice A1 O.length c1, .slice A2 I.length c2] TSh)
 have HF0 := Lib.hid hfr
 have HM := Lib.hid hM
 have HL := Lib.hid hl
 clear hp ho hi hfr hM hl
 go_enter func42, ntmps42
 go_upto_region 1 with (fail)
 generalize (w.alloc (.cells #[.slice A1 O.length c1, .slice A2 I.length c2] TSh)) = w1 at *
 go_wp2_with fail
 go_loopg [6, 7, 8] P.length (fun gk v lf i wr => ∃ k : Nat, i = .int .i64 k ∧ k ≤ P.length ∧ gk = P.length - k ∧ lf = .int .i64 ((mvl (P.take k) O : Nat) : Int) ∧ wr.ownsRow w1.heap.size TPl 6 v (mv1 (P.take k) O).length (pcs (mv1 (P.take k) O)) ∧ Below w1.heap.size w1 wr)
 case atStart => exact ⟨0, rfl, Nat.zero_le _, rfl, rfl, World.ownsRow_nil _ _ _ _, Below.refl _ _⟩
 case round =>
  obtain ⟨k, rfl, hk, hg, rfl, hown, hbel⟩ := hrel
  have HG := Lib.hid hg; have HW := Lib.hid hown; have HBe := Lib.hid hbel
  clear hg hown hbel
  by_cases hlt : k < P.length
  ·have q1 : decide ((k : Int) < (P.length : Int)) = true := by simp; omega
   obtain ⟨b1, o1, rfl, -, cc1⟩ := HP.out.at hlt (by omega)
   have hF := Fr.of_below' HBe.out (fun _ => False)
   have HA := Lib.hid ((AtP.row cc1 hlt).keep hF)
   have HO1 := Lib.hid (HO.out.fr hF (fun _ _ h => h)); have HBk1 := Lib.hid (HBk.out.fr hF (fun _ _ h => h))
   have hS1 := mv1_succ (O := O) hlt; have hS2 := mvl_succ (O := O) hlt
   have hb1 : (mv1 (P.take k) O).length ≤ 100000 := Nat.le_trans (mv1_len _ _) (Nat.le_trans (List.length_take_le' _ _) l0)
   have hb2 : mvl (P.take k) O ≤ 100000 := Nat.le_trans (mvl_le _ _) (Nat.le_trans (List.length_take_le' _ _) l0)
   have HOo := Lib.hid (HM.out.o _ (List.getElem_mem hlt))
   have HS1 := Lib.hid hS1; have HS2 := Lib.hid hS2
   clear hS1 hS2 hF cc1
   generalize P[k] = x at *
   generalize mv1 (P.take k) O = Mk at *
   generalize mvl (P.take k) O = lf at *
   obtain ⟨j, hj⟩ : ∃ j, fdI O x.t x.i = j := ⟨_, rfl⟩
   have HJ := Lib.hid (fd_spec O x); rw [hj] at HJ
   go_upto_region 6 with (fail)
   refine mv6 (by kernel_rfl) _ _ wr wr w.heap.size A1 c1 O (.slice A2 I.length c2) b1 o1 P.length c k x j hlt l0 HO1.out HA.out hj ⟨Fr.refl _ _, HBk1.out⟩ rfl rfl rfl rfl ?_
   intro x_ w2 hx9 hf2
   simp only [Eng.setAll, Act.put, List.setIfInBounds_toArray, List.set_cons_succ, List.set_cons_zero, hx9]
   have HB2 := Lib.hid (HBe.out.trans (hf2.below HBe.out.size (fun _ _ h => h)))
   have HW2 := Lib.hid (ownsRow_fr HW.out hf2 (fun _ _ h => h))
   have HA2 := Lib.hid (HA.out.keep hf2)
   have HO2 := Lib.hid (HO1.out.fr hf2 (fun _ _ h => h)); have HBk2 := Lib.hid (HBk1.out.fr hf2 (fun _ _ h => h))
   have qk : IntKind.i64.wrap ((k : Int) + 1) = (k : Int) + 1 := by rw [IntKind.wrap_i64]; omega
   clear hf2 hx9 hj HO1 HA HW HBe HBk1
   rcases HJ.out with ⟨ej, hkq⟩ | ⟨jj, hjj, ej, hoo⟩
   ·clear HJ
    subst ej
    have q2 : (0 : Int) ≤ (k : Int) := by omega
    have q3 : (k : Int) < (P.length : Int) := by omega
    have HN1 : Hid (mv1 (P.take (k + 1)) O = Mk ++ [x]) := by have := HS1.out; rw [hkq] at this; exact this
    have HN2 : Hid (mvl (P.take (k + 1)) O = lf) := by have := HS2.out; rw [hkq] at this; exact this
    have yc0 : w2.cell? ⟨b1, o1 + k * 6, none⟩ = some (.int .i64 x.t) := HA2.out 0 _ rfl
    have yc1 : w2.cell? ⟨b1, o1 + k * 6 + 1, none⟩ = some (.int .i64 x.i) := HA2.out 1 _ rfl
    have yc2 : w2.cell? ⟨b1, o1 + k * 6 + 1 + 1, none⟩ = some (.int .i64 x.c) := HA2.out 2 _ rfl
    have yc3 : w2.cell? ⟨b1, o1 + k * 6 + 1 + 1 + 1, none⟩ = some (.int .i64 x.d) := HA2.out 3 _ rfl
    have yc4 : w2.cell? ⟨b1, o1 + k * 6 + 1 + 1 + 1 + 1, none⟩ = some (.int .i64 x.p) := HA2.out 4 _ rfl
    have yc5 : w2.cell? ⟨b1, o1 + k * 6 + 1 + 1 + 1 + 1 + 1, none⟩ = some (.int .i64 x.f) := HA2.out 5 _ rfl
    have hown2' := HW2.out.alloc (.cells x.arr TPl)
    have hs2 := HB2.out.size
    have HK1 := Lib.hid (ownsRow_blk HW2.out)
    clear hkq HS1 HS2 HOo HO2 HBk2
    go_wp2_with (at_builtin; refine wpList_append_sl _ rfl (.tmp 34) (.tmp 39) TPls rfl w1.heap.size TPl i0 zP 6 48 underlying78 hi0 hz0 hz1 hz2 rfl (by decide) _ _ _ rfl hown2' _ _ _ _ rfl (Sl.one w2 TPl x.cs 6 rfl) (by simp [Value.oneCell']) ?_ ?_ ?_ ?_)
    ·unfold maxLen; omega
    ·omega
    ·first | omega | (simp; omega)
    intro v1 w5 hown1 hgrow1
    have HO5 := Lib.hid hown1; have HGr := Lib.hid hgrow1
    clear hown1 hgrow1 hown2' yc0 yc1 yc2 yc3 yc4 yc5
    go_wp2_with fail
    go_roundg (P.length - (k + 1))
    case rel => exact ⟨k + 1, by go_num, by omega, rfl, by rw [HN2.out], by rw [HN1.out, List.length_append]; simpa using HO5.out, (HB2.out.alloc (by omega) _).grown HGr.out (by simp; omega) (fun k e => (HK1.out k e).1)⟩
    case measure => have := HG.out; omega
   ·clear HJ
    subst ej
    have HN1 : Hid (mv1 (P.take (k + 1)) O = Mk) := by have := HS1.out; rw [kq_iff.2 ⟨_, List.getElem_mem hjj, hoo⟩] at this; exact this.trans (List.append_nil _)
    have HN2 : Hid (mvl (P.take (k + 1)) O = lf + 1) := by have := HS2.out; rw [kq_iff.2 ⟨_, List.getElem_mem hjj, hoo⟩] at this; exact this
    have hzx := HOo.out _ (List.getElem_mem hjj) hoo
    obtain ⟨b2, o2, rfl, -, cc2⟩ := HO2.out.at hjj (by omega)
    have HZ : Hid (AtP w2 b2 (o2 + jj * 6) x) := by have := AtP.row cc2 hjj; rw [hzx] at this; exact this
    have q2 : decide ((jj : Int) < 0) = false := decide_eq_false (by omega)
    have ql : IntKind.i64.wrap ((lf : Int) + 1) = (lf : Int) + 1 := by rw [IntKind.wrap_i64]; omega
    clear hoo hzx cc2 HS1 HS2 HOo
    go_upto_region 9 with (fail)
    refine mv9 (by kernel_rfl) _ _ w2 w2 w.heap.size b2 o2 O.length c1 (.slice A2 I.length c2) b1 o1 P.length c k jj x x hlt l0 hjj l1 HA2.out HZ.out ⟨Fr.refl _ _, HBk2.out⟩ rfl rfl rfl rfl rfl ?_
    intro x_ w3 hx50 hf3
    rw [eqP_self] at hx50
    simp only [Eng.setAll, Act.put, List.setIfInBounds_toArray, List.set_cons_succ, List.set_cons_zero, hx50]
    have HB3 := Lib.hid (HB2.out.trans (hf3.below HB2.out.size (fun _ _ h => h)))
    have HW3 := Lib.hid (ownsRow_fr HW2.out hf3 (fun _ _ h => h))
    clear hf3 hx50 HA2 HZ HO2 HBk2 HB2 HW2 q2
    go_wp2_with fail
    go_roundg (P.length - (k + 1))
    case rel => exact ⟨k + 1, by go_num, by omega, rfl, by rw [HN2.out]; go_num, by rw [HN1.out]; exact HW3.out, HB3.out⟩
    case measure => have := HG.out; omega
  ·have hke : k = P.length := by omega
   subst hke
   rw [List.take_length] at HW ⊢
   rw [HL.out]
   have q1 : decide ((P.length : Int) < (P.length : Int)) = false := by simp
   have HLn : Hid ((mv1 P O).length ≤ 100000) := Nat.le_trans (mv1_len _ _) l0
   clear HP HG HL
   go_wp2_with fail
   clear q1
   go_loopg [6, 10] I.length (fun gk v i wz => ∃ j : Nat, i = .int .i64 j ∧ j ≤ I.length ∧ gk = I.length - j ∧ wz.ownsRow w1.heap.size TPl 6 v (mv2 (mv1 P O) (I.take j)).length (pcs (mv2 (mv1 P O) (I.take j))) ∧ Below w1.heap.size w1 wz)
   case atStart => exact ⟨0, rfl, Nat.zero_le _, rfl, HW.out, HBe.out⟩
   case round =>
    clear HW HBe
    obtain ⟨j, rfl, hj, hg, hown, hbel⟩ := hrel
    have HG := Lib.hid hg; have HW := Lib.hid hown; have HBe := Lib.hid hbel
    clear hg hown hbel
    have hF := Fr.of_below' HBe.out (fun _ => False)
    have HBk1 := Lib.hid (HBk.out.fr hF (fun _ _ h => h))
    have z1 := HBk1.out.cell 1
    simp only [List.getElem?_toArray, List.getElem?_cons_zero, List.getElem?_cons_succ] at z1
    by_cases hlt : j < I.length
    ·have q1 : decide ((j : Int) < (I.length : Int)) = true := by simp; omega
     obtain ⟨b3, o3, rfl, -, cc3⟩ := HI.out.at hlt (by omega)
     have HS := Lib.hid ((AtP.row cc3 hlt).keep hF)
     have HSt := Lib.hid (HM.out.st j hj)
     have HNe := Lib.hid (HM.out.ne hlt)
     have HSu := Lib.hid (mv2_succ (l := mv1 P O) hlt)
     have HYl : Hid ((mv2 (mv1 P O) (I.take j)).length ≤ 200000) := by show _ ≤ _; rw [mv2_len, List.length_take]; have := HLn.out; omega
     clear hF cc3
     generalize I[j] = s at *
     generalize mv2 (mv1 P O) (I.take j) = Y at *
     have hyl := HYl.out
     obtain ⟨A4, c4, hv, hsl, -⟩ := Sl.of_own HW.out
     subst hv
     have HSl := Lib.hid hsl
     clear hsl
     go_wp2_with fail
     clear q1
     obtain ⟨wz, rfl⟩ : ∃ wz, wz = wr := ⟨wr, rfl⟩
     go_loopg [11] Y.length (fun gk kk wq => ∃ q : Nat, kk = .int .i64 q ∧ q ≤ Y.length ∧ gk = Y.length - q ∧ (∀ y ∈ Y.take q, bP y s = true) ∧ Fr (fun _ => False) wz wq)
     case atStart => exact ⟨0, rfl, Nat.zero_le _, rfl, by simp, Fr.refl _ _⟩
     case round =>
      obtain ⟨q, rfl, hq, hg, hall, hf⟩ := hrel
      have HGq := Lib.hid hg; have HAll := Lib.hid hall; have HFq := Lib.hid hf
      have HSq := Lib.hid (HSl.out.fr hf (fun _ _ h => h)); have HAs := Lib.hid (HS.out.keep hf); have HBq := Lib.hid (HBk1.out.fr hf (fun _ _ h => h))
      clear hg hall hf
      obtain ⟨rb, hr1, hr2⟩ : ∃ rb, (∀ h : q < Y.length, bP Y[q] s = rb) ∧ (q = Y.length → rb = false) := by
       by_cases h : q < Y.length
       ·exact ⟨bP Y[q] s, fun _ => rfl, fun e => by omega⟩
       ·exact ⟨false, fun h' => absurd h' h, fun _ => rfl⟩
      have HR1 := Lib.hid hr1; have HR2 := Lib.hid hr2
      clear hr1 hr2
      go_upto_region 16 with (fail)
      refine mv16c (by kernel_rfl) _ _ wr wr w.heap.size (.slice A1 O.length c1) A4 c4 q Y b3 o3 I.length c2 j s rb HSq.out hq hyl hlt l2 HAs.out ⟨Fr.refl _ _, HBq.out⟩ HR1.out HR2.out rfl rfl rfl rfl rfl ?_
      intro x_ w3 hx75 hf3
      simp only [Eng.setAll, Act.put, List.setIfInBounds_toArray, List.set_cons_succ, List.set_cons_zero, hx75]
      have HF3 := Lib.hid (HFq.out.trans hf3 (T := fun _ => False) (fun _ _ h => h) (fun _ _ h => h))
      have HS3 := Lib.hid (HSq.out.fr hf3 (fun _ _ h => h)); have HA3 := Lib.hid (HAs.out.keep hf3); have HB3 := Lib.hid (HBq.out.fr hf3 (fun _ _ h => h))
      clear hf3 hx75 HSq HAs HBq HFq
      cases rb with
      | true =>
       have hql : q < Y.length := Classical.byContradiction (fun h => by have := HR2.out (by omega); cases this)
       have HAll2 : Hid (∀ y ∈ Y.take (q + 1), bP y s = true) := fun y hy => by
        rw [List.take_succ_eq_append_getElem hql] at hy
        rcases List.mem_append.1 hy with hy | hy
        ·exact HAll.out y hy
        ·rw [List.mem_singleton.1 hy]; exact HR1.out hql
       have qk : IntKind.i64.wrap ((q : Int) + 1) = (q : Int) + 1 := by rw [IntKind.wrap_i64]; omega
       clear HS3 HA3 HB3
       go_wp2_with fail
       go_roundg (Y.length - (q + 1))
       case rel => exact ⟨q + 1, by go_num, by omega, rfl, HAll2.out, HF3.out⟩
       case measure => have := HGq.out; omega
      | false =>
       have hbs : ∀ h : q < Y.length, bP s Y[q] = true := fun h => by
        cases hb : bP s Y[q] with
        | true => rfl
        | false =>
         have h1 := bef_tri (a := pk Y[q]) (b := pk s) (HR1.out h) hb
         have h2 := HNe.out _ (List.getElem_mem h)
         rw [show oP Y[q] s = one (pk Y[q]) (pk s) from rfl, h1] at h2; cases h2
       have HIn := Lib.hid (insP_at hq HAll.out HR1.out)
       go_upto_region 18 with (fail)
       refine mv18c (by kernel_rfl) _ _ w3 w3 w.heap.size (.slice A1 O.length c1) A4 c4 q Y b3 o3 I.length c2 j s HS3.out hq hyl hlt l2 HA3.out ⟨Fr.refl _ _, HB3.out⟩ hbs rfl rfl rfl rfl rfl ?_
       intro x_ w4 hx94 hf4
       simp only [Eng.setAll, Act.put, List.setIfInBounds_toArray, List.set_cons_succ, List.set_cons_zero, hx94]
       have HF4 := Lib.hid (HF3.out.trans hf4 (T := fun _ => False) (fun _ _ h => h) (fun _ _ h => h))
       have HS4 := Lib.hid (HS3.out.fr hf4 (fun _ _ h => h)); have HA4 := Lib.hid (HA3.out.keep hf4); have HB4 := Lib.hid (HB3.out.fr hf4 (fun _ _ h => h))
       have HBw := Lib.hid (HBe.out.trans (HF4.out.below HBe.out.size (fun _ _ h => h)))
       clear hf4 hx94 HF3 HS3 HA3 HB3 hbs HR1 HR2 HAll HNe HF4 HGq HW HBe
       have hcq : q ≤ c4 := Nat.le_trans hq HS4.out.2.1
       have hlo := sl_lo A4 Y.length c4 q hcq
       have hhi := sl_hi A4 Y.length c4 q hq
       obtain ⟨A5, hA5⟩ : ∃ A5, (if c4 = q then A4 else A4.map (·.add (q * 6))) = A5 := ⟨_, rfl⟩
       rw [hA5] at hhi
       have HA5 := Lib.hid hA5
       clear hA5
       have htk := HS4.out.take (k := q) hq
       rw [show (pcs Y).take (q * 6) = pcs (Y.take q) from flat_take (f := Pq.cs) (sz := 6) (fun _ => rfl) Y q] at htk
       have HYq : Hid ((Y.take q).length = q) := by show _ = _; rw [List.length_take]; omega
       go_wp2_with (at_builtin; refine wpList_append_sl _ rfl (.tmp 95) (.tmp 98) TPls rfl w4.heap.size TPl i0 zP 6 48 underlying78 hi0 hz0 hz1 hz2 rfl (by decide) _ _ _ rfl (World.ownsRow_nil _ _ _ _) _ _ _ _ rfl htk oneP ?_ ?_ ?_ ?_)
       ·unfold maxLen; omega
       ·omega
       ·omega
       intro v1 w5 hown1 hgrow1
       have HO5 := Lib.hid hown1
       have HB5 := Lib.hid ((Below.refl w4.heap.size w4).grown hgrow1 (Nat.le_refl _) (fun k e => by cases e))
       have hF5 := Fr.of_below' HB5.out (fun _ => False)
       have HAs5 := Lib.hid (HA4.out.keep hF5); have hbk5 := HB4.out.fr hF5 (fun _ _ h => h)
       have z5 := hbk5.cell 1
       simp only [List.getElem?_toArray, List.getElem?_cons_zero, List.getElem?_cons_succ] at z5
       have yc0 : w5.cell? ⟨b3, o3 + j * 6, none⟩ = some (.int .i64 s.t) := HAs5.out 0 _ rfl
       have yc1 : w5.cell? ⟨b3, o3 + j * 6 + 1, none⟩ = some (.int .i64 s.i) := HAs5.out 1 _ rfl
       have yc2 : w5.cell? ⟨b3, o3 + j * 6 + 1 + 1, none⟩ = some (.int .i64 s.c) := HAs5.out 2 _ rfl
       have yc3 : w5.cell? ⟨b3, o3 + j * 6 + 1 + 1 + 1, none⟩ = some (.int .i64 s.d) := HAs5.out 3 _ rfl
       have yc4 : w5.cell? ⟨b3, o3 + j * 6 + 1 + 1 + 1 + 1, none⟩ = some (.int .i64 s.p) := HAs5.out 4 _ rfl
       have yc5 : w5.cell? ⟨b3, o3 + j * 6 + 1 + 1 + 1 + 1 + 1, none⟩ = some (.int .i64 s.f) := HAs5.out 5 _ rfl
       have hs5 := HB5.out.size
       have hown5 := hown1.alloc (.cells s.arr TPl)
       have q2 : (0 : Int) ≤ (j : Int) := by omega
       have q3 : (j : Int) < (I.length : Int) := by omega
       clear hown1 hgrow1 htk hF5 hbk5 HA4 HB4 z1
       go_wp2_with (at_builtin; refine wpList_append_sl _ rfl (.tmp 100) (.tmp 106) TPls rfl w4.heap.size TPl i0 zP 6 48 underlying78 hi0 hz0 hz1 hz2 rfl (by decide) _ _ _ rfl hown5 _ _ _ _ rfl (Sl.one w5 TPl s.cs 6 rfl) (by simp [Value.oneCell']) ?_ ?_ ?_ ?_)
       ·unfold maxLen; omega
       ·omega
       ·first | omega | (simp; omega)
       intro v2 w6 hown2 hgrow2
       have HB6 := Lib.hid ((HB5.out.alloc (by omega) _).grown hgrow2 (by simp; omega) (fun k e => (ownsRow_blk HO5.out k e).1))
       have hs6 := HB6.out.size
       have HO6 := Lib.hid hown2
       have hdr := (HS4.out.fr (Fr.of_below' HB6.out (fun _ => False)) (fun _ _ h => h)).drop (k := q) hq
       rw [HA5.out] at hdr
       rw [show (pcs Y).drop (q * 6) = pcs (Y.drop q) from flat_drop (f := Pq.cs) (sz := 6) (fun _ => rfl) Y q] at hdr
       clear hgrow2 hown5 HS4 HAs5 yc0 yc1 yc2 yc3 yc4 yc5 z5
       go_wp2_with (at_builtin; refine wpList_append_sl _ rfl (.tmp 108) (.tmp 111) TPls rfl w4.heap.size TPl i0 zP 6 48 underlying78 hi0 hz0 hz1 hz2 rfl (by decide) _ _ _ rfl hown2 _ _ _ _ rfl hdr oneP ?_ ?_ ?_ ?_)
       ·unfold maxLen; omega
       ·omega
       ·omega
       intro v3 w7 hown3 hgrow3
       have HB7 := Lib.hid (HB6.out.grown hgrow3 (by omega) (fun k e => (ownsRow_blk HO6.out k e).1))
       have HO7 := Lib.hid hown3
       have qk : IntKind.i64.wrap ((j : Int) + 1) = (j : Int) + 1 := by rw [IntKind.wrap_i64]; omega
       clear hgrow3 hown3 hown2 hdr HO5 HO6 HB5 HB6 hlo hhi
       go_wp2_with fail
       go_roundg (I.length - (j + 1))
       case rel =>
        refine ⟨j + 1, by go_num, by omega, rfl, ?_, HBw.out.trans (HB7.out.mono HBw.out.size)⟩
        rw [HSu.out, HIn.out]
        refine ownsRow_base ?_ HBw.out.size
        have h7 := HO7.out
        have e1 : q + 1 + (Y.length - q) = (Y.take q ++ s :: Y.drop q).length := by rw [List.length_append, List.length_cons, List.length_drop, HYq.out]; omega
        rw [e1] at h7
        rw [show pcs (Y.take q ++ s :: Y.drop q) = pcs (Y.take q) ++ (s.cs ++ pcs (Y.drop q)) from by unfold pcs; rw [List.flatMap_append, List.flatMap_cons]]
        exact h7
       case measure => have := HG.out; omega
    ·have hje : j = I.length := by omega
     subst hje
     rw [List.take_length] at HW
     have q1 : decide ((I.length : Int) < (I.length : Int)) = false := by simp
     obtain ⟨A4, c4, hv, hsl, -⟩ := Sl.of_own HW.out
     subst hv
     have HSl := Lib.hid hsl
     clear hsl hF
     go_upto_region 24 with (fail)
     refine mv24 (by kernel_rfl) _ _ wr wr w.heap.size A1 O.length c1 (.slice A2 I.length c2) _ ⟨Fr.refl _ _, HBk1.out⟩ rfl rfl rfl rfl ?_
     intro x_ w3 hx4 hx5 hf3
     simp only [Eng.setAll, Act.put, List.setIfInBounds_toArray, List.set_cons_succ, List.set_cons_zero, hx4, hx5]
     have HS3 := Lib.hid (HSl.out.fr hf3 (fun _ _ h => h))
     have HF3 := Lib.hid ((HF0.out.trans (Fr.of_below' HBe.out (fun _ => False)) (T := fun _ => False) (fun _ _ h => h) (fun _ _ h => h)).trans hf3 (T := fun _ => False) (fun _ _ h => h) (fun _ _ h => h))
     clear hf3 hx4 hx5
     go_wp2_with fail
     exact bodyPost_ret (results_tmp2 rfl _ _ _) rfl ⟨A4, c4, rfl, HS3.out, HF3.out⟩
end Ref22
end Go.Proofs.YtgfjpnpbkkadpaaGreat
