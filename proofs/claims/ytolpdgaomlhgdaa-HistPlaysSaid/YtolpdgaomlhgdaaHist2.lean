/- Histograms: rank, both, Drop, Merge. -/
import Derived.Test.YtolpdgaomlhgdaaHist
namespace Go.Proofs.Ytolpdgaomlhgdaa
open Go.RowKit
namespace Hist
open HistP BagP Bag Wide Bucket
attribute [local go_sem] Eng.ev Eng.getO_cons Eng.getO_nil
theorem rank (n p : Int) (w : World) (h0 : 0 ≤ n) (h1 : n ≤ 4611686018427387904) : Calls Try.prog 97 #[.int .i64 n, .int .i64 p] w fun e w' => e = .returned (.int .i64 (HistP.rank n p)) ∧ w = w' := by
  have HC := Lib.hid (Sat.Clamp p 0 1000 w)
  have HE : Hid (HistP.rank n p = max 1 (n / 1000 * clamp p 0 1000 + (n % 1000 * clamp p 0 1000 + 999) / 1000)) := rfl
  have hc : 0 ≤ clamp p 0 1000 ∧ clamp p 0 1000 ≤ 1000 := by unfold clamp; omega
  generalize clamp p 0 1000 = c at *
  have hA0 : 0 ≤ n / 1000 * c := Int.mul_nonneg (by omega) hc.1
  have hA1 : n / 1000 * c ≤ n / 1000 * 1000 := Int.mul_le_mul_of_nonneg_left hc.2 (by omega)
  have hB0 : 0 ≤ n % 1000 * c := Int.mul_nonneg (by omega) hc.1
  have hB1 : n % 1000 * c ≤ n % 1000 * 1000 := Int.mul_le_mul_of_nonneg_left hc.2 (by omega)
  have HR : Hid (∀ m : Int, m = max 1 (n / 1000 * c + (n % 1000 * c + 999) / 1000) → Ending.returned (.int .i64 m) = .returned (.int .i64 (HistP.rank n p))) := fun m hm => by rw [hm, HE.out]
  go_enter Try.func97, Try.ntmps97
  go_wp2_with fail
  refine HC.out.mono ?_
  rintro e w1 ⟨rfl, rfl⟩
  go_wp2_with fail
  all_goals
    go_ret
    exact ⟨HR.out _ (by omega), rfl⟩
/-- Three blocks of two cells. -/
theorem three {w w1 : World} {a b c : Int × Int} (hf : Fr (fun _ => False) (((w.alloc (.cells #[.int .i64 a.1, .int .i64 a.2] TS)).alloc (.cells #[.int .i64 b.1, .int .i64 b.2] TS)).alloc (.cells #[.int .i64 c.1, .int .i64 c.2] TS)) w1) :
    Bk w1 w.heap.size #[.int .i64 a.1, .int .i64 a.2] TS ∧ Bk w1 (w.heap.size + 1) #[.int .i64 b.1, .int .i64 b.2] TS ∧ Bk w1 (w.heap.size + 2) #[.int .i64 c.1, .int .i64 c.2] TS ∧ Fr (fun _ => False) w w1 := by
  obtain ⟨h1, h2, h3⟩ := two ((Fr.alloc _ _ _).to hf)
  refine ⟨h1, h2, ?_, h3⟩
  have := (Bk.new ((w.alloc (.cells #[.int .i64 a.1, .int .i64 a.2] TS)).alloc (.cells #[.int .i64 b.1, .int .i64 b.2] TS)) #[.int .i64 c.1, .int .i64 c.2] TS).frF hf
  simpa using this
set_option maxRecDepth 100000 in
theorem both (a b : Int × Int) (ha : HistP.May a) (hb : HistP.May b) (w : World) : Calls Try.prog 109 #[sv a, sv b] w (PostS (bothS a b) w) := by
  have HAd := fun w => Lib.hid (Wide.Add a b.2 ha w)
  have hm := ha.add b.2
  have HE : Hid (bothS a b = if 4294967296 < (addS a b.2).1 + b.1 then (4294967296, 4611686018427387903) else ((addS a b.2).1 + b.1, (addS a b.2).2)) := rfl
  generalize bothS a b = z at *
  generalize addS a b.2 = s at *
  obtain ⟨h, l⟩ := a
  obtain ⟨u, v⟩ := b
  obtain ⟨s1, s2⟩ := s
  obtain ⟨m1, m2, m3, m4⟩ := hm
  obtain ⟨n1, n2, n3, n4⟩ := hb
  clear ha
  dsimp only at *
  go_enter Try.func109, Try.ntmps109
  go_wp2_with fail
  refine (HAd _).out.mono ?_
  rintro e w1 ⟨rfl, hf⟩
  obtain ⟨-, b2, b3, hf⟩ := three (a := (h, l)) (b := (u, v)) (c := (0, 0)) hf
  have hlt3 := lt_of_heap b3
  have fa := Fr.alloc (fun _ => False) w1 (.cells #[.int .i64 s1, .int .i64 s2] TS)
  have HB2 := Lib.hid (b2.frF fa); have HB3 := Lib.hid (b3.frF fa); have HBx := Lib.hid (Bk.new w1 #[.int .i64 s1, .int .i64 s2] TS); have HF := Lib.hid (hf.to fa)
  have hle : w.heap.size ≤ w1.heap.size := hf.size
  obtain ⟨c0, c1, f0, f1⟩ := Bk.cells b2
  obtain ⟨d0, d1, g0, g1⟩ := Bk.cells b3
  try dsimp only at c0 c1 d0 d1
  clear b2 b3 hf HAd fa
  go_upto_region 2 with (fail)
  clear c0 c1 f0 f1 d0 d1 g0 g1
  have z1 : ¬ w1.heap.size = w.heap.size + 1 := by omega
  have z2 : ¬ w1.heap.size = w.heap.size + 1 + 1 := by omega
  have z3 : ¬ w.heap.size + 1 = w1.heap.size := by omega
  have z4 : ¬ w.heap.size + 1 + 1 = w1.heap.size := by omega
  clear hlt3
  generalize w1.alloc (.cells #[.int .i64 s1, .int .i64 s2] TS) = W at *
  generalize w1.heap.size = Bx at *
  obtain ⟨c0, c1, f0, f1⟩ := Bk.cells HB2.out
  obtain ⟨d0, d1, g0, g1⟩ := Bk.cells HB3.out
  obtain ⟨e0, e1, k0, k1⟩ := Bk.cells HBx.out
  try dsimp only at c0 c1 d0 d1
  by_cases hg : 4294967296 < s1 + u
  all_goals
    first | rw [if_pos hg] at HE | rw [if_neg hg] at HE
    go_wp2_with fail
    exact bodyPost_ret (results_cell_row rfl _ _ (w.heap.size + 1 + 1) TS _ (0, 0) _ rfl (by refine Bk.set (Bk.set (c := #[.int .i64 0, .int .i64 0]) ?_ 0 _) 1 _; (repeat (refine Bk.other ?_ (by simpa using z2) _)); exact HB3.out) Try.underlying100 rfl (by kernel_rfl)) rfl ⟨by rw [HE.out]; rfl, by (repeat (refine Fr.set_new ?_ (by first | exact hle | (simp; omega)) _)); exact HF.out⟩
theorem LessB (a b : Int × Int) (ha : HistP.May a) (hb : HistP.May b) (bb : Bool) (h : Hid (lessS a b = bb)) (w : World) : Calls Try.prog 103 #[sv a, sv b] w fun e w' => e = .returned (.bool bb) ∧ Fr (fun _ => False) w w' :=
  (Wide.Less a b ha hb w).mono (fun _ _ k => ⟨by rw [k.1, h.out], k.2⟩)
theorem HT.takeB {w w0 : World} {B : Nat} {x : HS} {F F0 : List Nat} (h : HT w0 F0 w B x F) (k m : Int) (sz : x.1.length < 144115188075855871) {tb : Bool} (ht : Hid (okT k m x.1 = tb)) :
    Calls Try.prog 48 #[.pointer (some ⟨B, 0, none⟩), .int .i64 k, .int .i64 m] w fun e w' => e = .returned (.bool tb) ∧ ∃ F', HT w0 F0 w' B (takeL k m x.1, x.2) F' :=
  (h.bagTake k m sz).mono (fun _ _ k => ⟨by rw [k.1, ht.out], k.2⟩)
set_option maxRecDepth 100000 in
set_option maxHeartbeats 400000 in
theorem d1a {ops : Array Oper} (hops : Eng.fnOps Try.f65 1 = ops) (a0 : Act) (Q : Exit → Act → World → Prop) (w0 : World) (F0 : List Nat) (w : World) (B : Nat) (L : List (Int × Int)) (s t : Int) (F : List Nat) (d : Int) (hst : HT w0 F0 w B (L, (s, t)) F) (hlen : L.length < 144115188075855871) (h1 : Hid (lessS (s, t) (sumS [d]) = true))
    (hn : a0.tmps.size = 35) (h_0 : a0.tmps.getD 0 undef = .pointer (some ⟨B, 0, none⟩)) (h_1 : a0.tmps.getD 1 undef = .int .i64 d)
    (hpost : ∀ (x : Nat → Value) (w' : World), x 25 = .bool true → HT w0 F0 w' B (L, (s, t)) F → Q .normal (Eng.setAll a0 [5, 6, 7, 8, 9, 10, 11, 12, 13, 14, 15, 16, 17, 18, 19, 20, 21, 22, 23, 24, 25] x) w') :
    (Code.region 1 ops true).wp Try.prog Q a0 w := by
  simp only [Eng.fnOps, Eng.regOps, Try.f65, Option.bind_some, Option.getD_some, Nat.reduceEqDiff, ↓reduceIte, Nat.reduceBEq] at hops
  subst hops
  have HSt := Lib.hid (hst.fr (Fr.drew _ _))
  have hSS : w.drew.cell? ⟨B, 3, none⟩ = some (.int .i64 s) ∧ w.drew.cell? ⟨B, 4, none⟩ = some (.int .i64 t) := ⟨HSt.out.h.cells.1, HSt.out.h.cells.2.1⟩
  refine Eng.regionN [(0, true), (1, true), (2, true), (3, true), (4, true), (5, true), (6, true), (7, true), (8, false), (9, false), (10, false), (11, true), (12, true), (13, true), (14, true), (15, true), (16, true), (17, true), (18, true), (19, true), (20, true)] (fun w' => w'.cell? ⟨B, 3, none⟩ = some (.int .i64 s) ∧ w'.cell? ⟨B, 4, none⟩ = some (.int .i64 t)) (by kernel_rfl) 35 hn (by kernel_rfl) rfl (by kernel_rfl) (hSS) (fun a b ha hb => ?_)
  subst ha
  have hb0 : b 0 = .pointer (some ⟨B, 0, none⟩) := (hb 0).symm.trans h_0
  have hb1 : b 1 = .int .i64 d := (hb 1).symm.trans h_1
  clear hb h_0 h_1
  have HP := Lib.hid hpost; have HN := Lib.hid hn
  clear hpost hn
  refine Eng.Sch.take (v := ?_) rfl rfl (by decide) (by kernel_rfl) (fun w hw => ?_) ?_
  rotate_left
  · (try dsimp only at hw); go_simp; first | done | with_reducible rfl
  refine Eng.Sch.take (v := ?_) rfl rfl (by decide) (by kernel_rfl) (fun w hw => ?_) ?_
  rotate_left
  · (try dsimp only at hw); go_simp; first | done | with_reducible rfl
  refine Eng.Sch.take (v := ?_) rfl rfl (by decide) (by kernel_rfl) (fun w hw => ?_) ?_
  rotate_left
  · (try dsimp only at hw); go_simp; first | done | with_reducible rfl
  refine Eng.Sch.take (v := ?_) rfl rfl (by decide) (by kernel_rfl) (fun w hw => ?_) ?_
  rotate_left
  · (try dsimp only at hw); go_simp; first | done | with_reducible rfl
  refine Eng.Sch.take (v := ?_) rfl rfl (by decide) (by kernel_rfl) (fun w hw => ?_) ?_
  rotate_left
  · (try dsimp only at hw); go_simp; first | done | with_reducible rfl
  refine Eng.Sch.take (v := ?_) rfl rfl (by decide) (by kernel_rfl) (fun w hw => ?_) ?_
  rotate_left
  · (try dsimp only at hw); go_simp; first | done | with_reducible rfl
  refine Eng.Sch.take (v := ?_) rfl rfl (by decide) (by kernel_rfl) (fun w hw => ?_) ?_
  rotate_left
  · (try dsimp only at hw); go_simp; first | done | with_reducible rfl
  refine Eng.Sch.take (v := ?_) rfl rfl (by decide) (by kernel_rfl) (fun w hw => ?_) ?_
  rotate_left
  · (try dsimp only at hw); go_simp; first | done | with_reducible rfl
  refine Eng.Sch.step rfl rfl (by decide) (by kernel_rfl) (by go_simp; first | done | with_reducible rfl) (⟨(HSt.out.fr (Fr.alloc _ _ (.cells #[.int .i64 d] TI))).h.cells.1, (HSt.out.fr (Fr.alloc _ _ (.cells #[.int .i64 d] TI))).h.cells.2.1⟩) ?_
  have HSt1 := Lib.hid (HSt.out.fr (Fr.alloc _ _ (.cells #[.int .i64 d] TI)))
  have hSS : (w.drew.alloc (.cells #[.int .i64 d] TI)).cell? ⟨B, 3, none⟩ = some (.int .i64 s) ∧ (w.drew.alloc (.cells #[.int .i64 d] TI)).cell? ⟨B, 4, none⟩ = some (.int .i64 t) := ⟨HSt1.out.h.cells.1, HSt1.out.h.cells.2.1⟩
  refine Eng.Sch.call rfl rfl (by decide) (by kernel_rfl) ?_ (Wide.Of _ 1 [d] _ (Sl.one _ TI [.int .i64 d] 1 rfl)) ?_
  · go_simp
  rintro e w3 ⟨rfl, hf⟩
  have HSt2 := Lib.hid (HSt1.out.fr hf)
  have hSS : w3.cell? ⟨B, 3, none⟩ = some (.int .i64 s) ∧ w3.cell? ⟨B, 4, none⟩ = some (.int .i64 t) := ⟨HSt2.out.h.cells.1, HSt2.out.h.cells.2.1⟩
  clear hf
  refine ⟨_, rfl, hSS, ?_⟩
  refine Eng.Sch.call rfl rfl (by decide) (by kernel_rfl) ?_ (LessB (s, t) (sumS [d]) hst.h.may (May.sum _ May.zero) true h1 _) ?_
  · go_simp
  rintro e w4 ⟨rfl, hf⟩
  have HSt3 := Lib.hid (HSt2.out.fr hf)
  have hSS : w4.cell? ⟨B, 3, none⟩ = some (.int .i64 s) ∧ w4.cell? ⟨B, 4, none⟩ = some (.int .i64 t) := ⟨HSt3.out.h.cells.1, HSt3.out.h.cells.2.1⟩
  clear hf
  refine ⟨_, rfl, hSS, ?_⟩
  refine Eng.Sch.take (v := ?_) rfl rfl (by decide) (by kernel_rfl) (fun w hw => ?_) ?_
  rotate_left
  · (try dsimp only at hw); go_simp; first | done | with_reducible rfl
  refine Eng.Sch.take (v := ?_) rfl rfl (by decide) (by kernel_rfl) (fun w hw => ?_) ?_
  rotate_left
  · (try dsimp only at hw); go_simp; first | done | with_reducible rfl
  refine Eng.Sch.skip rfl rfl (by decide) (by kernel_rfl) ?_
  refine Eng.Sch.skip rfl rfl (by decide) (by kernel_rfl) ?_
  refine Eng.Sch.skip rfl rfl (by decide) (by kernel_rfl) ?_
  refine Eng.Sch.skip rfl rfl (by decide) (by kernel_rfl) ?_
  refine Eng.Sch.skip rfl rfl (by decide) (by kernel_rfl) ?_
  refine Eng.Sch.skip rfl rfl (by decide) (by kernel_rfl) ?_
  refine Eng.Sch.skip rfl rfl (by decide) (by kernel_rfl) ?_
  refine Eng.Sch.take (v := ?_) rfl rfl (by decide) (by kernel_rfl) (fun w hw => ?_) ?_
  rotate_left
  · (try dsimp only at hw); go_simp; first | done | with_reducible rfl
  refine Eng.Sch.end_ [5, 6, 7, 8, 9, 10, 11, 12, 13, 14, 15, 16, 17, 18, 19, 20, 21, 22, 23, 24, 25] HN.out (by kernel_rfl) (by kernel_rfl) ?_
  exact HP.out _ _ rfl HSt3.out

set_option maxRecDepth 100000 in
set_option maxHeartbeats 400000 in
theorem d1b {ops : Array Oper} (hops : Eng.fnOps Try.f65 1 = ops) (a0 : Act) (Q : Exit → Act → World → Prop) (w0 : World) (F0 : List Nat) (w : World) (B : Nat) (L : List (Int × Int)) (s t : Int) (F : List Nat) (d : Int) (hst : HT w0 F0 w B (L, (s, t)) F) (hlen : L.length < 144115188075855871) (tb : Bool) (h1 : Hid (lessS (s, t) (sumS [d]) = false)) (h2 : Hid (okT (bk d) 1 L = tb))
    (hn : a0.tmps.size = 35) (h_0 : a0.tmps.getD 0 undef = .pointer (some ⟨B, 0, none⟩)) (h_1 : a0.tmps.getD 1 undef = .int .i64 d)
    (hpost : ∀ (x : Nat → Value) (w' : World) (F' : List Nat), x 25 = .bool (!tb) → HT w0 F0 w' B (takeL (bk d) 1 L, (s, t)) F' → Q .normal (Eng.setAll a0 [5, 6, 7, 8, 9, 10, 11, 12, 13, 14, 15, 16, 17, 18, 19, 20, 21, 22, 23, 24, 25] x) w') :
    (Code.region 1 ops true).wp Try.prog Q a0 w := by
  simp only [Eng.fnOps, Eng.regOps, Try.f65, Option.bind_some, Option.getD_some, Nat.reduceEqDiff, ↓reduceIte, Nat.reduceBEq] at hops
  subst hops
  have HSt := Lib.hid (hst.fr (Fr.drew _ _))
  have hSS : w.drew.cell? ⟨B, 3, none⟩ = some (.int .i64 s) ∧ w.drew.cell? ⟨B, 4, none⟩ = some (.int .i64 t) := ⟨HSt.out.h.cells.1, HSt.out.h.cells.2.1⟩
  refine Eng.regionN [(0, true), (1, true), (2, true), (3, true), (4, true), (5, true), (6, true), (7, true), (8, false), (9, false), (10, false), (11, true), (12, true), (13, true), (14, true), (15, true), (16, true), (17, false), (18, false), (19, true), (20, true)] (fun w' => w'.cell? ⟨B, 3, none⟩ = some (.int .i64 s) ∧ w'.cell? ⟨B, 4, none⟩ = some (.int .i64 t)) (by kernel_rfl) 35 hn (by kernel_rfl) rfl (by kernel_rfl) (hSS) (fun a b ha hb => ?_)
  subst ha
  have hb0 : b 0 = .pointer (some ⟨B, 0, none⟩) := (hb 0).symm.trans h_0
  have hb1 : b 1 = .int .i64 d := (hb 1).symm.trans h_1
  clear hb h_0 h_1
  have HP := Lib.hid hpost; have HN := Lib.hid hn
  clear hpost hn
  refine Eng.Sch.take (v := ?_) rfl rfl (by decide) (by kernel_rfl) (fun w hw => ?_) ?_
  rotate_left
  · (try dsimp only at hw); go_simp; first | done | with_reducible rfl
  refine Eng.Sch.take (v := ?_) rfl rfl (by decide) (by kernel_rfl) (fun w hw => ?_) ?_
  rotate_left
  · (try dsimp only at hw); go_simp; first | done | with_reducible rfl
  refine Eng.Sch.take (v := ?_) rfl rfl (by decide) (by kernel_rfl) (fun w hw => ?_) ?_
  rotate_left
  · (try dsimp only at hw); go_simp; first | done | with_reducible rfl
  refine Eng.Sch.take (v := ?_) rfl rfl (by decide) (by kernel_rfl) (fun w hw => ?_) ?_
  rotate_left
  · (try dsimp only at hw); go_simp; first | done | with_reducible rfl
  refine Eng.Sch.take (v := ?_) rfl rfl (by decide) (by kernel_rfl) (fun w hw => ?_) ?_
  rotate_left
  · (try dsimp only at hw); go_simp; first | done | with_reducible rfl
  refine Eng.Sch.take (v := ?_) rfl rfl (by decide) (by kernel_rfl) (fun w hw => ?_) ?_
  rotate_left
  · (try dsimp only at hw); go_simp; first | done | with_reducible rfl
  refine Eng.Sch.take (v := ?_) rfl rfl (by decide) (by kernel_rfl) (fun w hw => ?_) ?_
  rotate_left
  · (try dsimp only at hw); go_simp; first | done | with_reducible rfl
  refine Eng.Sch.take (v := ?_) rfl rfl (by decide) (by kernel_rfl) (fun w hw => ?_) ?_
  rotate_left
  · (try dsimp only at hw); go_simp; first | done | with_reducible rfl
  refine Eng.Sch.step rfl rfl (by decide) (by kernel_rfl) (by go_simp; first | done | with_reducible rfl) (⟨(HSt.out.fr (Fr.alloc _ _ (.cells #[.int .i64 d] TI))).h.cells.1, (HSt.out.fr (Fr.alloc _ _ (.cells #[.int .i64 d] TI))).h.cells.2.1⟩) ?_
  have HSt1 := Lib.hid (HSt.out.fr (Fr.alloc _ _ (.cells #[.int .i64 d] TI)))
  have hSS : (w.drew.alloc (.cells #[.int .i64 d] TI)).cell? ⟨B, 3, none⟩ = some (.int .i64 s) ∧ (w.drew.alloc (.cells #[.int .i64 d] TI)).cell? ⟨B, 4, none⟩ = some (.int .i64 t) := ⟨HSt1.out.h.cells.1, HSt1.out.h.cells.2.1⟩
  refine Eng.Sch.call rfl rfl (by decide) (by kernel_rfl) ?_ (Wide.Of _ 1 [d] _ (Sl.one _ TI [.int .i64 d] 1 rfl)) ?_
  · go_simp
  rintro e w3 ⟨rfl, hf⟩
  have HSt2 := Lib.hid (HSt1.out.fr hf)
  have hSS : w3.cell? ⟨B, 3, none⟩ = some (.int .i64 s) ∧ w3.cell? ⟨B, 4, none⟩ = some (.int .i64 t) := ⟨HSt2.out.h.cells.1, HSt2.out.h.cells.2.1⟩
  clear hf
  refine ⟨_, rfl, hSS, ?_⟩
  refine Eng.Sch.call rfl rfl (by decide) (by kernel_rfl) ?_ (LessB (s, t) (sumS [d]) hst.h.may (May.sum _ May.zero) false h1 _) ?_
  · go_simp
  rintro e w4 ⟨rfl, hf⟩
  have HSt3 := Lib.hid (HSt2.out.fr hf)
  have hSS : w4.cell? ⟨B, 3, none⟩ = some (.int .i64 s) ∧ w4.cell? ⟨B, 4, none⟩ = some (.int .i64 t) := ⟨HSt3.out.h.cells.1, HSt3.out.h.cells.2.1⟩
  clear hf
  refine ⟨_, rfl, hSS, ?_⟩
  refine Eng.Sch.take (v := ?_) rfl rfl (by decide) (by kernel_rfl) (fun w hw => ?_) ?_
  rotate_left
  · (try dsimp only at hw); go_simp; first | done | with_reducible rfl
  refine Eng.Sch.take (v := ?_) rfl rfl (by decide) (by kernel_rfl) (fun w hw => ?_) ?_
  rotate_left
  · (try dsimp only at hw); go_simp; first | done | with_reducible rfl
  refine Eng.Sch.take (v := ?_) rfl rfl (by decide) (by kernel_rfl) (fun w hw => ?_) ?_
  rotate_left
  · (try dsimp only at hw); go_simp; first | done | with_reducible rfl
  refine Eng.Sch.take (v := ?_) rfl rfl (by decide) (by kernel_rfl) (fun w hw => ?_) ?_
  rotate_left
  · (try dsimp only at hw); go_simp; first | done | with_reducible rfl
  refine Eng.Sch.take (v := ?_) rfl rfl (by decide) (by kernel_rfl) (fun w hw => ?_) ?_
  rotate_left
  · (try dsimp only at hw); go_simp; first | done | with_reducible rfl
  refine Eng.Sch.take (v := ?_) rfl rfl (by decide) (by kernel_rfl) (fun w hw => ?_) ?_
  rotate_left
  · (try dsimp only at hw); go_simp; first | done | with_reducible rfl
  refine Eng.Sch.call rfl rfl (by decide) (by kernel_rfl) ?_ (Bucket.Of d _) ?_
  · go_simp
  rintro e w_4 ⟨rfl, rfl⟩
  refine ⟨_, rfl, hSS, ?_⟩
  refine Eng.Sch.call rfl rfl (by decide) (by kernel_rfl) ?_ (HSt3.out.takeB (bk d) 1 hlen h2) ?_
  · go_simp
  rintro e w5 ⟨rfl, F2, hT⟩
  have HSt4 := Lib.hid (hT)
  have hSS : w5.cell? ⟨B, 3, none⟩ = some (.int .i64 s) ∧ w5.cell? ⟨B, 4, none⟩ = some (.int .i64 t) := ⟨HSt4.out.h.cells.1, HSt4.out.h.cells.2.1⟩
  clear hT
  refine ⟨_, rfl, hSS, ?_⟩
  refine Eng.Sch.take (v := ?_) rfl rfl (by decide) (by kernel_rfl) (fun w hw => ?_) ?_
  rotate_left
  · (try dsimp only at hw); go_simp; first | done | with_reducible rfl
  refine Eng.Sch.take (v := ?_) rfl rfl (by decide) (by kernel_rfl) (fun w hw => ?_) ?_
  rotate_left
  · (try dsimp only at hw); go_simp; first | done | with_reducible rfl
  refine Eng.Sch.end_ [5, 6, 7, 8, 9, 10, 11, 12, 13, 14, 15, 16, 17, 18, 19, 20, 21, 22, 23, 24, 25] HN.out (by kernel_rfl) (by kernel_rfl) ?_
  exact HP.out _ _ _ rfl HSt4.out

theorem takeL_not {k m : Int} {L : List (Int × Int)} (h : okT k m L = false) : takeL k m L = L := by unfold takeL; rw [h]; rfl
theorem Drop_none (d : Int) (w : World) : Calls Try.prog 65 #[.pointer none, .int .i64 d] w fun e w' => e = .returned (.bool false) ∧ Fr (fun _ => False) w w' := by
  go_enter Try.func65, Try.ntmps65
  go_upto_region 1 with (fail)
  go_quiet (fail)
  go_wp2_with fail
  go_ret
  exact ⟨rfl, Fr.drewN _ _ _⟩
set_option maxRecDepth 100000 in
theorem Drop (B : Nat) (d : Int) (x : HS) (F : List Nat) (w : World) (h : HB w B x F) (hlen : x.1.length < 144115188075855871) : Calls Try.prog 65 #[.pointer (some ⟨B, 0, none⟩), .int .i64 d] w fun e w' => e = .returned (.bool (okD d x)) ∧ ∃ F', HB w' B (dropH d x) F' ∧ Tn F F' w w' := by
  have HH := Lib.hid h.ht
  have HSu := fun w => Lib.hid (Wide.Sub x.2 d h.may w)
  have HM := Lib.hid (h.may.sub d)
  have HE : Hid (okD d x = (!lessS x.2 (sumS [d]) && okT (bk d) 1 x.1)) := rfl
  have HD : Hid (dropH d x = if okD d x then (takeL (bk d) 1 x.1, subS x.2 d) else x) := rfl
  clear h
  obtain ⟨L, s, t⟩ := x
  dsimp only at hlen HE HSu HM
  cases hl : lessS (s, t) (sumS [d]) with
  | true =>
    have H1 := Lib.hid hl
    have HO : Hid (okD d (L, s, t) = false) := by show _ = _; rw [HE.out, hl]; rfl
    clear hl HSu HM
    go_enter Try.func65, Try.ntmps65
    go_upto_region 1 with (fail)
    refine d1a (by kernel_rfl) _ _ w F w B L s t F d HH.out hlen H1 rfl rfl rfl ?_
    intro y w1 hx hst
    simp only [Eng.setAll, Act.put, List.setIfInBounds_toArray, List.set_cons_succ, List.set_cons_zero]
    rw [hx]
    have H2 := Lib.hid hst
    clear hst hx
    go_wp2_with fail
    go_ret
    exact ⟨by rw [HO.out]; rfl, F, by rw [HD.out, HO.out]; exact H2.out.h, H2.out.t⟩
  | false =>
    have H1 := Lib.hid hl
    cases ht : okT (bk d) 1 L with
    | false =>
      have HO : Hid (okD d (L, s, t) = false) := by show _ = _; rw [HE.out, hl, ht]; rfl
      have H2 := Lib.hid ht
      have HK := Lib.hid (takeL_not ht)
      clear hl ht HSu HM
      go_enter Try.func65, Try.ntmps65
      go_upto_region 1 with (fail)
      refine d1b (by kernel_rfl) _ _ w F w B L s t F d HH.out hlen false H1 H2 rfl rfl rfl ?_
      intro y w1 F1 hx hst
      simp only [Eng.setAll, Act.put, List.setIfInBounds_toArray, List.set_cons_succ, List.set_cons_zero]
      rw [hx]
      rw [HK.out] at hst
      have H3 := Lib.hid hst
      clear hst hx
      go_wp2_with fail
      go_ret
      exact ⟨by rw [HO.out]; rfl, F1, by rw [HD.out, HO.out]; exact H3.out.h, H3.out.t⟩
    | true =>
      have HO : Hid (okD d (L, s, t) = true) := by show _ = _; rw [HE.out, hl, ht]; rfl
      have H2 := Lib.hid ht
      clear hl ht
      go_enter Try.func65, Try.ntmps65
      go_upto_region 1 with (fail)
      refine d1b (by kernel_rfl) _ _ w F w B L s t F d HH.out hlen true H1 H2 rfl rfl rfl ?_
      intro y w1 F1 hx hst
      simp only [Eng.setAll, Act.put, List.setIfInBounds_toArray, List.set_cons_succ, List.set_cons_zero]
      rw [hx]
      have H3 := Lib.hid hst
      obtain ⟨c3, c4, f3, f4⟩ := hst.h.cells
      dsimp only at c3 c4
      clear hst hx HH
      go_wp2_with fail
      refine (HSu _).out.mono ?_
      rintro e w2 ⟨rfl, hf⟩
      have H4 := Lib.hid (H3.out.fr hf)
      clear c3 c4 f3 f4 hf H3 HSu
      have H5 := Lib.hid (H4.out.setS HM.out)
      obtain ⟨c3, c4, f3, f4⟩ := H4.out.h.cells
      dsimp only at c3 c4 H5
      rw [HO.out, if_pos rfl] at HD
      generalize subS (s, t) d = s' at *
      obtain ⟨s1, t1⟩ := s'
      dsimp only at H5
      go_wp2_with fail
      go_ret
      exact ⟨by rw [HO.out]; rfl, F1, by rw [HD.out]; exact H5.out.h, H5.out.t⟩
/-- A count in a box of its own, beside. -/
structure HM (w0 : World) (F0 : List Nat) (w : World) (B : Nat) (x : HS) (F : List Nat) (Bt : Nat) (k m : Int) : Prop where
  h : HT w0 F0 w B x F
  b : Bk w Bt #[.int .i64 k, .int .i64 m] TC
  n : Bt ∉ F
theorem HM.fr {w w' w0 : World} {B : Nat} {x : HS} {F F0 : List Nat} {Bt : Nat} {k m : Int} (h : HM w0 F0 w B x F Bt k m) (hf : Fr (fun _ => False) w w') : HM w0 F0 w' B x F Bt k m := ⟨h.h.fr hf, h.b.frF hf, h.n⟩
theorem HM.add {w w0 : World} {B : Nat} {x : HS} {F F0 : List Nat} {Bt : Nat} {k m : Int} (h : HM w0 F0 w B x F Bt k m) (sz : x.1.length < 144115188075855871) :
    Calls Try.prog 46 #[.pointer (some ⟨B, 0, none⟩), .int .i64 k, .int .i64 m] w fun e w' => e = .returned (.bool (okA m x.1)) ∧ ∃ F', HM w0 F0 w' B (addL k m x.1, x.2) F' Bt k m := by
  refine (h.h.h.ht.bagAdd k m sz).mono ?_
  rintro e w' ⟨he, F', hb⟩
  exact ⟨he, F', h.h.to hb.h hb.t, h.b.fr hb.t.fr (fun b hb' => by simp at hb'; subst hb'; exact h.n), fun hx => by
    rcases (hb.t.sub Bt hx).1 with e | e
    · exact h.n e
    · have := lt_of_heap h.b; omega⟩
set_option maxRecDepth 100000 in
set_option maxHeartbeats 400000 in
theorem m4 {ops : Array Oper} (hops : Eng.fnOps Try.f67 4 = ops) (a0 : Act) (Q : Exit → Act → World → Prop) (w0 : World) (F0 : List Nat) (w : World) (B : Nat) (x_ : HS) (F : List Nat) (Bt : Nat) (k m : Int) (hst : HM w0 F0 w B x_ F Bt k m) (hlen : x_.1.length < 144115188075855871)
    (hn : a0.tmps.size = 40) (h_0 : a0.tmps.getD 0 undef = .pointer (some ⟨B, 0, none⟩)) (h_5 : a0.tmps.getD 5 undef = .pointer (some ⟨Bt, 0, none⟩))
    (hpost : ∀ (x : Nat → Value) (w' : World) (F' : List Nat), HM w0 F0 w' B (addL k m x_.1, x_.2) F' Bt k m → Q .normal (Eng.setAll a0 [19, 20, 21, 22, 23, 24, 25, 26] x) w') :
    (Code.region 4 ops true).wp Try.prog Q a0 w := by
  simp only [Eng.fnOps, Eng.regOps, Try.f67, Option.bind_some, Option.getD_some, Nat.reduceEqDiff, ↓reduceIte, Nat.reduceBEq] at hops
  subst hops
  have HSt := Lib.hid (hst.fr (Fr.drew _ _))
  have hSS : w.drew.cell? ⟨Bt, 0, none⟩ = some (.int .i64 k) ∧ w.drew.cell? ⟨Bt, 1, none⟩ = some (.int .i64 m) := ⟨HSt.out.b.cell 0, HSt.out.b.cell 1⟩
  refine Eng.regionN [(0, true), (1, true), (2, true), (3, true), (4, true), (5, true), (6, true), (7, false)] (fun w' => w'.cell? ⟨Bt, 0, none⟩ = some (.int .i64 k) ∧ w'.cell? ⟨Bt, 1, none⟩ = some (.int .i64 m)) (by kernel_rfl) 40 hn (by kernel_rfl) rfl (by kernel_rfl) (hSS) (fun a b ha hb => ?_)
  subst ha
  have hb0 : b 0 = .pointer (some ⟨B, 0, none⟩) := (hb 0).symm.trans h_0
  have hb5 : b 5 = .pointer (some ⟨Bt, 0, none⟩) := (hb 5).symm.trans h_5
  clear hb h_0 h_5
  have HP := Lib.hid hpost; have HN := Lib.hid hn
  clear hpost hn
  refine Eng.Sch.take (v := ?_) rfl rfl (by decide) (by kernel_rfl) (fun w hw => ?_) ?_
  rotate_left
  · (try dsimp only at hw); go_simp; first | done | with_reducible rfl
  refine Eng.Sch.take (v := ?_) rfl rfl (by decide) (by kernel_rfl) (fun w hw => ?_) ?_
  rotate_left
  · (try dsimp only at hw); go_simp; first | done | with_reducible rfl
  refine Eng.Sch.take (v := ?_) rfl rfl (by decide) (by kernel_rfl) (fun w hw => ?_) ?_
  rotate_left
  · (try dsimp only at hw); go_simp; first | done | with_reducible rfl
  refine Eng.Sch.take (v := ?_) rfl rfl (by decide) (by kernel_rfl) (fun w hw => ?_) ?_
  rotate_left
  · (try dsimp only at hw); go_simp; first | done | with_reducible rfl
  refine Eng.Sch.take (v := ?_) rfl rfl (by decide) (by kernel_rfl) (fun w hw => ?_) ?_
  rotate_left
  · (try dsimp only at hw); go_simp; first | done | with_reducible rfl
  refine Eng.Sch.take (v := ?_) rfl rfl (by decide) (by kernel_rfl) (fun w hw => ?_) ?_
  rotate_left
  · (try dsimp only at hw); go_simp; first | done | with_reducible rfl
  refine Eng.Sch.take (v := ?_) rfl rfl (by decide) (by kernel_rfl) (fun w hw => ?_) ?_
  rotate_left
  · (try dsimp only at hw); go_simp; first | done | with_reducible rfl
  refine Eng.Sch.call rfl rfl (by decide) (by kernel_rfl) ?_ (HSt.out.add hlen) ?_
  · go_simp
  rintro e w2 ⟨rfl, F2, hT⟩
  have HSt1 := Lib.hid (hT)
  have hSS : w2.cell? ⟨Bt, 0, none⟩ = some (.int .i64 k) ∧ w2.cell? ⟨Bt, 1, none⟩ = some (.int .i64 m) := ⟨HSt1.out.b.cell 0, HSt1.out.b.cell 1⟩
  clear hT
  refine ⟨_, rfl, hSS, ?_⟩
  refine Eng.Sch.end_ [19, 20, 21, 22, 23, 24, 25, 26] HN.out (by kernel_rfl) (by kernel_rfl) ?_
  exact HP.out _ _ _ HSt1.out

theorem addAll_snoc (o L : List (Int × Int)) {k : Nat} (h : k < o.length) : addAll (o.take (k + 1)) L = addL o[k].1 o[k].2 (addAll (o.take k) L) := by
  unfold addAll; rw [List.take_succ_eq_append_getElem h, List.foldl_append]; rfl
theorem addAll_len (o : List (Int × Int)) : ∀ L : List (Int × Int), (addAll o L).length ≤ L.length + o.length := by
  induction o with
  | nil => intro L; exact Nat.le_refl _
  | cons p o ih => intro L; have h1 := ih (addL p.1 p.2 L); have h2 := addL_len p.1 p.2 L; simp only [addAll, List.foldl_cons, List.length_cons] at *; omega
theorem Merge_to_none (p : Value) (w : World) : Calls Try.prog 67 #[.pointer none, p] w fun e w' => e = .returned (.tuple #[]) ∧ w = w' := by
  go_enter Try.func67, Try.ntmps67
  go_wp2
  refine bodyPost_ret (results_none rfl _ _ _) rfl ?_
  exact ⟨rfl, rfl⟩
theorem Merge_of_none (B : Nat) (w : World) : Calls Try.prog 67 #[.pointer (some ⟨B, 0, none⟩), .pointer none] w fun e w' => e = .returned (.tuple #[]) ∧ w = w' := by
  go_enter Try.func67, Try.ntmps67
  go_wp2
  refine bodyPost_ret (results_none rfl _ _ _) rfl ?_
  exact ⟨rfl, rfl⟩
set_option maxRecDepth 100000 in
set_option maxHeartbeats 400000 in
theorem Merge_any (B Bo : Nat) (x y : HS) (F Fo : List Nat) (w : World) (h : HB w B x F) (ho : HB w Bo y Fo) (hlen : x.1.length + y.1.length < 1000000)
    (hO : ∀ w' L' F', HT w F w' B (L', x.2) F' → w'.cell? ⟨Bo, 3, none⟩ = some (.int .i64 y.2.1) ∧ w'.cell? ⟨Bo, 4, none⟩ = some (.int .i64 y.2.2)) :
    Calls Try.prog 67 #[.pointer (some ⟨B, 0, none⟩), .pointer (some ⟨Bo, 0, none⟩)] w fun e w' => e = .returned (.tuple #[]) ∧ ∃ F', HB w' B (mergeH y x) F' ∧ Tn F F' w w' := by
  have HBk := Lib.hid (Buckets Bo y Fo w ho (by omega))
  have HH := Lib.hid h.ht; have HO := Lib.hid hO
  have HBo := fun w => Lib.hid (both x.2 y.2 h.may ho.may w)
  have HMb := Lib.hid (h.may.both ho.may)
  have HE : Hid (mergeH y x = (addAll y.1 x.1, bothS x.2 y.2)) := rfl
  generalize mergeH y x = z at *
  clear h ho hO
  obtain ⟨L, s⟩ := x
  obtain ⟨M, u⟩ := y
  dsimp only at *
  generalize bothS s u = v at *
  go_enter Try.func67, Try.ntmps67
  go_wp2_with fail
  refine HBk.out.mono ?_
  rintro e w1 ⟨A, c, rfl, hS, hA, hf⟩
  have HS := Lib.hid hS; have HA := Lib.hid hA
  have H1 := Lib.hid (HH.out.fr hf)
  have hFA : Hid (∀ a, A = some a → ¬ a.block ∈ F) := fun a ha hx => by have := (hA a ha).1; have := HH.out.h.lt _ hx; omega
  have HF := Lib.hid hf
  clear hS hA hf HBk
  go_wp2_with fail
  go_loopg [5, 15] M.length (fun gk _ i wr => ∃ (k : Nat) (F' : List Nat), i = .int .i64 k ∧ k ≤ M.length ∧ gk = M.length - k ∧ HT w1 F wr B (addAll (M.take k) L, s) F')
  case atStart => exact ⟨0, F, rfl, Nat.zero_le _, rfl, H1.out.h.ht⟩
  case round =>
    obtain ⟨k, F', rfl, hk, hg, hst⟩ := hrel
    have HG := Lib.hid hg; have HSt := Lib.hid hst
    clear hg hst
    by_cases hlt : k < M.length
    · obtain ⟨b1, o1, rfl, hb1, hc1⟩ := HS.out.at hlt (by omega)
      have hkp : ∀ j, wr.cell? ⟨b1, j, none⟩ = w1.cell? ⟨b1, j, none⟩ := fun j => World.cell?_of_block (w := w1) (a := ⟨b1, j, none⟩) (HSt.out.t.fr.block b1 hb1 (hFA.out _ rfl))
      have e0 : wr.cell? ⟨b1, o1 + k * 2, none⟩ = some (.int .i64 M[k].1) := (hkp _).trans (hc1 (k * 2) _ (by rw [← Nat.add_zero (k * 2), flat_at pc_len hlt (by omega)]; rfl))
      have e1 : wr.cell? ⟨b1, o1 + k * 2 + 1, none⟩ = some (.int .i64 M[k].2) := (hkp _).trans (hc1 (k * 2 + 1) _ (by rw [flat_at pc_len hlt (by omega)]; rfl))
      have HSn := Lib.hid (addAll_snoc M L hlt)
      have hl := addAll_len (M.take k) L
      have hl2 : (M.take k).length ≤ M.length := by simp; omega
      generalize M[k] = p at *
      obtain ⟨kk, mm⟩ := p
      dsimp only at e0 e1 HSn
      have HM1 : Hid (HM w1 F (wr.alloc (.cells #[.int .i64 kk, .int .i64 mm] TC)) B (addAll (M.take k) L, s) F' wr.heap.size kk mm) := ⟨HSt.out.fr (Fr.alloc _ _ _), Bk.new _ _ _, fun hx => by have := HSt.out.h.lt _ hx; omega⟩
      have hl3 : (addAll (M.take k) L).length < 144115188075855871 := by omega
      clear hc1 hkp hl hl2
      generalize addAll (M.take k) L = L1 at *
      go_upto_region 4 with (fail)
      clear e0 e1
      refine m4 (by kernel_rfl) _ _ w1 F _ B (L1, s) F' wr.heap.size kk mm HM1.out hl3 rfl rfl rfl ?_
      intro y2 w2 F2 hst
      simp only [Eng.setAll, Act.put, List.setIfInBounds_toArray, List.set_cons_succ, List.set_cons_zero]
      have H2 := Lib.hid hst.h
      clear hst
      go_wp2_with fail
      go_roundg (M.length - (k + 1))
      case rel => exact ⟨k + 1, F2, by go_num, by omega, rfl, by rw [HSn.out]; exact H2.out⟩
      case measure => have := HG.out; omega
    · obtain rfl : k = M.length := by omega
      rw [List.take_length] at HSt
      have hT : Tn F F' w wr := (Tn.of_fr HF.out HH.out.h.lt).trans HSt.out.t
      obtain ⟨c3, c4⟩ := HO.out wr (addAll M L) F' ⟨HSt.out.h, hT⟩
      obtain ⟨d3, d4, f3, f4⟩ := HSt.out.h.cells
      dsimp only at d3 d4
      have HKp : Hid (∀ w2, Fr (fun _ => False) wr.drew w2 → HB w2 B (addAll M L, s) F' ∧ Tn F F' w w2) := fun w2 hf => ⟨HSt.out.h.fr ((Fr.drew _ _).to hf) (fun _ _ h => h), hT.trans (Tn.of_fr ((Fr.drew _ _).to hf) HSt.out.h.lt)⟩
      clear hT HS HA hFA H1 HH HO
      generalize addAll M L = L1 at *
      obtain ⟨s1, s2⟩ := s
      obtain ⟨u1, u2⟩ := u
      obtain ⟨v1, v2⟩ := v
      dsimp only at d3 d4 c3 c4
      go_upto_region 6 with (fail)
      go_region_with (first | (go_at_call 109; refine (HBo _).out.mono ?_; rintro e w2 ⟨rfl, hf⟩; obtain ⟨q3, q4, p3, p4⟩ := (HKp.out _ hf).1.cells; dsimp only at q3 q4))
      all_goals
        have H3 := Lib.hid ((HKp.out _ hf).1.setS HMb.out); have H4 := Lib.hid (HKp.out _ hf).2
        clear hf
        go_wp2_with fail
        go_end0
        exact ⟨rfl, F', by rw [HE.out]; exact H3.out.1, H4.out.trans H3.out.2⟩
theorem Merge (B Bo : Nat) (x y : HS) (F Fo : List Nat) (w : World) (h : HB w B x F) (ho : HB w Bo y Fo) (hlen : x.1.length + y.1.length < 1000000) (hd : ∀ b ∈ Fo, ¬ b ∈ F) :
    Calls Try.prog 67 #[.pointer (some ⟨B, 0, none⟩), .pointer (some ⟨Bo, 0, none⟩)] w fun e w' => e = .returned (.tuple #[]) ∧ ∃ F', HB w' B (mergeH y x) F' ∧ Tn F F' w w' :=
  Merge_any B Bo x y F Fo w h ho hlen (fun w' L' F' ht => by
    have := (ho.fr ht.t.fr hd).cells
    exact ⟨this.1, this.2.1⟩)
theorem Merge_self (B : Nat) (x : HS) (F : List Nat) (w : World) (h : HB w B x F) (hlen : x.1.length + x.1.length < 1000000) :
    Calls Try.prog 67 #[.pointer (some ⟨B, 0, none⟩), .pointer (some ⟨B, 0, none⟩)] w fun e w' => e = .returned (.tuple #[]) ∧ ∃ F', HB w' B (mergeH x x) F' ∧ Tn F F' w w' :=
  Merge_any B B x x F F w h h hlen (fun w' L' F' ht => by
    have := ht.h.cells
    exact ⟨this.1, this.2.1⟩)
end Hist
end Go.Proofs.Ytolpdgaomlhgdaa
