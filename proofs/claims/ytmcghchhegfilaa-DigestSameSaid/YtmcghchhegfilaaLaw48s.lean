/- Layer 48's statements: DigestSame: for every input the answer is true. -/
import Derived.Test.YtmcghchhegfilaaLaw48i
import Derived.Test.YtmcghchhegfilaaShuf
namespace Go.Proofs.Ytmcghchhegfilaa
open Go.RowKit
namespace Law48
open KeyP PackP SetP SetW SetF Code_ Rank DigW
attribute [local go_sem] Eng.ev Eng.getO_cons Eng.getO_nil
/-- A digest in a box. -/
structure Bx (w : World) (B : Nat) (f : Nat → Int) : Prop where
  h : Bk w B (dar f) TDg
theorem Bx.below {w w' : World} {B : Nat} {f : Nat → Int} (h : Bx w B f) (hb : Below w.heap.size w w') : Bx w' B f := ⟨h.h.fr (Fr.of_below' hb (fun _ => False)) (fun _ _ h => h)⟩
def sumTo (M : List Sn) (k : Nat) : Nat := ((List.range k).map (fun j => (Dig.own j M).length)).sum
theorem sumTo_succ (M : List Sn) (k : Nat) : sumTo M (k + 1) = sumTo M k + (Dig.own k M).length := by
  unfold sumTo; rw [List.range_succ, List.map_append, List.sum_append]; simp
theorem sumTo_le (M : List Sn) (k : Nat) : sumTo M k ≤ k * M.length := by
  induction k with
  | zero => simp [sumTo]
  | succ k ih =>
    have : (Dig.own k M).length ≤ M.length := List.length_filter_le _ _
    rw [sumTo_succ, Nat.succ_mul]; omega
theorem sumTo_all (M : List Sn) : sumTo M 16 = M.length := Dig.own_sum M
theorem dg_own (M : List Sn) (hM : setOf M = M) (j k : Nat) : dgI (setOf (Dig.own k M)) j = if j = k then dgI M k else 0 := by
  have hok : setOf (Dig.own k M) = Dig.own k M := (Dig.own_ok (ok_iff.2 hM)).set
  show ((Dig.dig (setOf (Dig.own k M)) j : Nat) : Int) = _
  rw [hok, Dig.dig_own]
  split <;> rfl
theorem set_shuf {S a : List Sn} (h : ∀ x ∈ S, x ∈ a) : setOf (S ++ a) = setOf a := setOf_ext (fun y => by
  rw [Kpt.app]
  exact ⟨fun h' => h'.elim (fun ⟨x, hx, h1⟩ => ⟨x, h x hx, h1⟩) id, .inr⟩)
structure B2 (w0 w : World) (B B' : Nat) (f g : Nat → Int) : Prop where
  h : Bk w B' (dar g) TDg
  k : Bk w B (dar f) TDg
  f : Fr (fun _ => False) w0 w
theorem B2.fr {w0 w w' : World} {B B' : Nat} {f g : Nat → Int} (h : B2 w0 w B B' f g) (hf : Fr (fun _ => False) w w') : B2 w0 w' B B' f g := ⟨h.h.fr hf (fun _ _ h => h), h.k.fr hf (fun _ _ h => h), h.f.trans hf (fun _ _ h => h) (fun _ _ h => h)⟩
set_option maxRecDepth 100000 in
set_option maxHeartbeats 400000 in
theorem ds16a {ops : Array Oper} (hops : Eng.fnOps Try.f4 16 = ops) (a0 : Act) (Q : Exit → Act → World → Prop) (w0 w : World) (B B' : Nat) (f g : Nat → Int) (j : Nat) (hj : j < 16) (hg : g j = f j) (hst : B2 w0 w B B' f g)
    (hn : a0.tmps.size = 101) (h_5 : a0.tmps.getD 5 undef = .pointer (some ⟨B, 0, none⟩)) (h_8 : a0.tmps.getD 8 undef = .int .i64 (j : Int)) (h_10 : a0.tmps.getD 10 undef = .pointer (some ⟨B', 0, none⟩)) (h_11 : a0.tmps.getD 11 undef = .int .i64 (j : Int))
    (hpost : ∀ (x : Nat → Value) (w' : World), x 72 = .bool false → B2 w0 w' B B' f g → Q .normal (Eng.setAll a0 [47, 48, 49, 50, 51, 52, 53, 54, 55, 56, 57, 58, 59, 60, 61, 62, 63, 64, 65, 66, 67, 68, 69, 70, 71, 72] x) w') :
    (Code.region 16 ops true).wp Try.prog Q a0 w := by
  simp only [Eng.fnOps, Eng.regOps, Try.f4, Option.bind_some, Option.getD_some, Nat.reduceEqDiff, ↓reduceIte, Nat.reduceBEq] at hops
  subst hops
  have q1 : (0 : Int) ≤ (j : Int) := by omega
  have q2 : (j : Int) < 16 := by omega
  have q5 : (g j != f j) = false := by rw [hg]; simp
  clear hg
  have HSt := Lib.hid (hst.fr (Fr.drew _ _))
  have hSS : w.drew.cell? ⟨B', j, none⟩ = some (.int .i64 (g j)) ∧ w.drew.cell? ⟨B, j, none⟩ = some (.int .i64 (f j)) := ⟨(HSt.out.h.cell j).trans (dar_at g hj), (HSt.out.k.cell j).trans (dar_at f hj)⟩
  refine Eng.regionT (.take 0 (.take 1 (.take 2 (.take 3 (.take 4 (.take 5 (.take 6 (.take 7 (.take 8 (.take 9 (.take 10 (.take 11 (.take 12 (.take 13 (.take 14 (.take 15 (.take 16 (.take 17 (.take 18 (.take 19 (.take 20 (.take 21 (.take 22 (.take 23 (.take 24 (.take 25 (.done))))))))))))))))))))))))))) (fun w' => w'.cell? ⟨B', j, none⟩ = some (.int .i64 (g j)) ∧ w'.cell? ⟨B, j, none⟩ = some (.int .i64 (f j))) (by kernel_rfl) 101 hn (by kernel_rfl) (by kernel_rfl) (by kernel_rfl) (hSS) (fun a b ha hb => ?_)
  subst ha
  have hb5 : b 5 = .pointer (some ⟨B, 0, none⟩) := (hb 5).symm.trans h_5
  have hb8 : b 8 = .int .i64 (j : Int) := (hb 8).symm.trans h_8
  have hb10 : b 10 = .pointer (some ⟨B', 0, none⟩) := (hb 10).symm.trans h_10
  have hb11 : b 11 = .int .i64 (j : Int) := (hb 11).symm.trans h_11
  clear hb h_5 h_8 h_10 h_11
  have HP := Lib.hid hpost; have HN := Lib.hid hn
  clear hpost hn
  refine Eng.TW.take' (v := ?_) rfl rfl (by decide) (by kernel_rfl) (fun w hw => ?_) ?_
  rotate_left
  · (try dsimp only at hw); go_simp; first | done | with_reducible rfl
  refine Eng.TW.take' (v := ?_) rfl rfl (by decide) (by kernel_rfl) (fun w hw => ?_) ?_
  rotate_left
  · (try dsimp only at hw); go_simp; first | done | with_reducible rfl
  refine Eng.TW.take' (v := ?_) rfl rfl (by decide) (by kernel_rfl) (fun w hw => ?_) ?_
  rotate_left
  · (try dsimp only at hw); go_simp; first | done | with_reducible rfl
  refine Eng.TW.take' (v := ?_) rfl rfl (by decide) (by kernel_rfl) (fun w hw => ?_) ?_
  rotate_left
  · (try dsimp only at hw); go_simp; first | done | with_reducible rfl
  refine Eng.TW.take' (v := ?_) rfl rfl (by decide) (by kernel_rfl) (fun w hw => ?_) ?_
  rotate_left
  · (try dsimp only at hw); go_simp; first | done | with_reducible rfl
  refine Eng.TW.take' (v := ?_) rfl rfl (by decide) (by kernel_rfl) (fun w hw => ?_) ?_
  rotate_left
  · (try dsimp only at hw); go_simp; first | done | with_reducible rfl
  refine Eng.TW.take' (v := ?_) rfl rfl (by decide) (by kernel_rfl) (fun w hw => ?_) ?_
  rotate_left
  · (try dsimp only at hw); go_simp; first | done | with_reducible rfl
  refine Eng.TW.take' (v := ?_) rfl rfl (by decide) (by kernel_rfl) (fun w hw => ?_) ?_
  rotate_left
  · (try dsimp only at hw); go_simp; first | done | with_reducible rfl
  refine Eng.TW.take' (v := ?_) rfl rfl (by decide) (by kernel_rfl) (fun w hw => ?_) ?_
  rotate_left
  · (try dsimp only at hw); go_simp; first | done | with_reducible rfl
  refine Eng.TW.take' (v := ?_) rfl rfl (by decide) (by kernel_rfl) (fun w hw => ?_) ?_
  rotate_left
  · (try dsimp only at hw); go_simp; first | done | with_reducible rfl
  refine Eng.TW.take' (v := ?_) rfl rfl (by decide) (by kernel_rfl) (fun w hw => ?_) ?_
  rotate_left
  · (try dsimp only at hw); go_simp; first | done | with_reducible rfl
  refine Eng.TW.take' (v := ?_) rfl rfl (by decide) (by kernel_rfl) (fun w hw => ?_) ?_
  rotate_left
  · (try dsimp only at hw); go_simp; first | done | with_reducible rfl
  refine Eng.TW.take' (v := ?_) rfl rfl (by decide) (by kernel_rfl) (fun w hw => ?_) ?_
  rotate_left
  · (try dsimp only at hw); go_simp; first | done | with_reducible rfl
  refine Eng.TW.take' (v := ?_) rfl rfl (by decide) (by kernel_rfl) (fun w hw => ?_) ?_
  rotate_left
  · (try dsimp only at hw); go_simp; first | done | with_reducible rfl
  refine Eng.TW.take' (v := ?_) rfl rfl (by decide) (by kernel_rfl) (fun w hw => ?_) ?_
  rotate_left
  · (try dsimp only at hw); go_simp; first | done | with_reducible rfl
  refine Eng.TW.take' (v := ?_) rfl rfl (by decide) (by kernel_rfl) (fun w hw => ?_) ?_
  rotate_left
  · (try dsimp only at hw); go_simp; first | done | with_reducible rfl
  refine Eng.TW.take' (v := ?_) rfl rfl (by decide) (by kernel_rfl) (fun w hw => ?_) ?_
  rotate_left
  · (try dsimp only at hw); go_simp; first | done | with_reducible rfl
  refine Eng.TW.take' (v := ?_) rfl rfl (by decide) (by kernel_rfl) (fun w hw => ?_) ?_
  rotate_left
  · (try dsimp only at hw); go_simp; first | done | with_reducible rfl
  refine Eng.TW.take' (v := ?_) rfl rfl (by decide) (by kernel_rfl) (fun w hw => ?_) ?_
  rotate_left
  · (try dsimp only at hw); go_simp; first | done | with_reducible rfl
  refine Eng.TW.skip rfl rfl (by decide) (by kernel_rfl) ?_
  refine Eng.TW.skip rfl rfl (by decide) (by kernel_rfl) ?_
  refine Eng.TW.skip rfl rfl (by decide) (by kernel_rfl) ?_
  refine Eng.TW.skip rfl rfl (by decide) (by kernel_rfl) ?_
  refine Eng.TW.skip rfl rfl (by decide) (by kernel_rfl) ?_
  refine Eng.TW.take' (v := ?_) rfl rfl (by decide) (by kernel_rfl) (fun w hw => ?_) ?_
  rotate_left
  · (try dsimp only at hw); go_simp; first | done | with_reducible rfl
  refine Eng.TW.take' (v := ?_) rfl rfl (by decide) (by kernel_rfl) (fun w hw => ?_) ?_
  rotate_left
  · (try dsimp only at hw); go_simp; first | done | with_reducible rfl
  refine Eng.TW.end_ [47, 48, 49, 50, 51, 52, 53, 54, 55, 56, 57, 58, 59, 60, 61, 62, 63, 64, 65, 66, 67, 68, 69, 70, 71, 72] HN.out (by kernel_rfl) (by kernel_rfl) ?_
  exact HP.out _ _ rfl HSt.out

set_option maxRecDepth 100000 in
set_option maxHeartbeats 400000 in
theorem ds16b {ops : Array Oper} (hops : Eng.fnOps Try.f4 16 = ops) (a0 : Act) (Q : Exit → Act → World → Prop) (w0 w : World) (B B' : Nat) (f g : Nat → Int) (j k : Nat) (hj : j < 16) (hjk : j ≠ k) (hg : g j = 0) (hst : B2 w0 w B B' f g)
    (hn : a0.tmps.size = 101) (h_8 : a0.tmps.getD 8 undef = .int .i64 (k : Int)) (h_10 : a0.tmps.getD 10 undef = .pointer (some ⟨B', 0, none⟩)) (h_11 : a0.tmps.getD 11 undef = .int .i64 (j : Int))
    (hpost : ∀ (x : Nat → Value) (w' : World), x 72 = .bool false → B2 w0 w' B B' f g → Q .normal (Eng.setAll a0 [47, 48, 49, 50, 51, 52, 53, 54, 55, 56, 57, 58, 59, 60, 61, 62, 63, 64, 65, 66, 67, 68, 69, 70, 71, 72] x) w') :
    (Code.region 16 ops true).wp Try.prog Q a0 w := by
  simp only [Eng.fnOps, Eng.regOps, Try.f4, Option.bind_some, Option.getD_some, Nat.reduceEqDiff, ↓reduceIte, Nat.reduceBEq] at hops
  subst hops
  have q1 : (0 : Int) ≤ (j : Int) := by omega
  have q2 : (j : Int) < 16 := by omega
  have q3 : ((j : Int) == (k : Int)) = false := by simp; omega
  have q4 : ((j : Int) != (k : Int)) = true := by simp; omega
  have q5 : (g j != 0) = false := by rw [hg]; simp
  have HSt := Lib.hid (hst.fr (Fr.drew _ _))
  have hSS : w.drew.cell? ⟨B', j, none⟩ = some (.int .i64 (g j)) ∧ w.drew.cell? ⟨B, j, none⟩ = some (.int .i64 (f j)) := ⟨(HSt.out.h.cell j).trans (dar_at g hj), (HSt.out.k.cell j).trans (dar_at f hj)⟩
  refine Eng.regionT (.take 0 (.take 1 (.take 2 (.take 3 (.take 4 (.take 5 (.take 6 (.take 7 (.take 8 (.take 9 (.take 10 (.take 11 (.take 12 (.take 13 (.take 14 (.take 15 (.take 16 (.take 17 (.take 18 (.take 19 (.take 20 (.take 21 (.take 22 (.take 23 (.take 24 (.take 25 (.done))))))))))))))))))))))))))) (fun w' => w'.cell? ⟨B', j, none⟩ = some (.int .i64 (g j)) ∧ w'.cell? ⟨B, j, none⟩ = some (.int .i64 (f j))) (by kernel_rfl) 101 hn (by kernel_rfl) (by kernel_rfl) (by kernel_rfl) (hSS) (fun a b ha hb => ?_)
  subst ha
  have hb8 : b 8 = .int .i64 (k : Int) := (hb 8).symm.trans h_8
  have hb10 : b 10 = .pointer (some ⟨B', 0, none⟩) := (hb 10).symm.trans h_10
  have hb11 : b 11 = .int .i64 (j : Int) := (hb 11).symm.trans h_11
  clear hb h_8 h_10 h_11
  have HP := Lib.hid hpost; have HN := Lib.hid hn
  clear hpost hn
  refine Eng.TW.take' (v := ?_) rfl rfl (by decide) (by kernel_rfl) (fun w hw => ?_) ?_
  rotate_left
  · (try dsimp only at hw); go_simp; first | done | with_reducible rfl
  refine Eng.TW.take' (v := ?_) rfl rfl (by decide) (by kernel_rfl) (fun w hw => ?_) ?_
  rotate_left
  · (try dsimp only at hw); go_simp; first | done | with_reducible rfl
  refine Eng.TW.take' (v := ?_) rfl rfl (by decide) (by kernel_rfl) (fun w hw => ?_) ?_
  rotate_left
  · (try dsimp only at hw); go_simp; first | done | with_reducible rfl
  refine Eng.TW.take' (v := ?_) rfl rfl (by decide) (by kernel_rfl) (fun w hw => ?_) ?_
  rotate_left
  · (try dsimp only at hw); go_simp; first | done | with_reducible rfl
  refine Eng.TW.skip rfl rfl (by decide) (by kernel_rfl) ?_
  refine Eng.TW.skip rfl rfl (by decide) (by kernel_rfl) ?_
  refine Eng.TW.skip rfl rfl (by decide) (by kernel_rfl) ?_
  refine Eng.TW.skip rfl rfl (by decide) (by kernel_rfl) ?_
  refine Eng.TW.skip rfl rfl (by decide) (by kernel_rfl) ?_
  refine Eng.TW.skip rfl rfl (by decide) (by kernel_rfl) ?_
  refine Eng.TW.skip rfl rfl (by decide) (by kernel_rfl) ?_
  refine Eng.TW.skip rfl rfl (by decide) (by kernel_rfl) ?_
  refine Eng.TW.skip rfl rfl (by decide) (by kernel_rfl) ?_
  refine Eng.TW.take' (v := ?_) rfl rfl (by decide) (by kernel_rfl) (fun w hw => ?_) ?_
  rotate_left
  · (try dsimp only at hw); go_simp; first | done | with_reducible rfl
  refine Eng.TW.take' (v := ?_) rfl rfl (by decide) (by kernel_rfl) (fun w hw => ?_) ?_
  rotate_left
  · (try dsimp only at hw); go_simp; first | done | with_reducible rfl
  refine Eng.TW.take' (v := ?_) rfl rfl (by decide) (by kernel_rfl) (fun w hw => ?_) ?_
  rotate_left
  · (try dsimp only at hw); go_simp; first | done | with_reducible rfl
  refine Eng.TW.take' (v := ?_) rfl rfl (by decide) (by kernel_rfl) (fun w hw => ?_) ?_
  rotate_left
  · (try dsimp only at hw); go_simp; first | done | with_reducible rfl
  refine Eng.TW.take' (v := ?_) rfl rfl (by decide) (by kernel_rfl) (fun w hw => ?_) ?_
  rotate_left
  · (try dsimp only at hw); go_simp; first | done | with_reducible rfl
  refine Eng.TW.take' (v := ?_) rfl rfl (by decide) (by kernel_rfl) (fun w hw => ?_) ?_
  rotate_left
  · (try dsimp only at hw); go_simp; first | done | with_reducible rfl
  refine Eng.TW.take' (v := ?_) rfl rfl (by decide) (by kernel_rfl) (fun w hw => ?_) ?_
  rotate_left
  · (try dsimp only at hw); go_simp; first | done | with_reducible rfl
  refine Eng.TW.take' (v := ?_) rfl rfl (by decide) (by kernel_rfl) (fun w hw => ?_) ?_
  rotate_left
  · (try dsimp only at hw); go_simp; first | done | with_reducible rfl
  refine Eng.TW.take' (v := ?_) rfl rfl (by decide) (by kernel_rfl) (fun w hw => ?_) ?_
  rotate_left
  · (try dsimp only at hw); go_simp; first | done | with_reducible rfl
  refine Eng.TW.take' (v := ?_) rfl rfl (by decide) (by kernel_rfl) (fun w hw => ?_) ?_
  rotate_left
  · (try dsimp only at hw); go_simp; first | done | with_reducible rfl
  refine Eng.TW.take' (v := ?_) rfl rfl (by decide) (by kernel_rfl) (fun w hw => ?_) ?_
  rotate_left
  · (try dsimp only at hw); go_simp; first | done | with_reducible rfl
  refine Eng.TW.take' (v := ?_) rfl rfl (by decide) (by kernel_rfl) (fun w hw => ?_) ?_
  rotate_left
  · (try dsimp only at hw); go_simp; first | done | with_reducible rfl
  refine Eng.TW.take' (v := ?_) rfl rfl (by decide) (by kernel_rfl) (fun w hw => ?_) ?_
  rotate_left
  · (try dsimp only at hw); go_simp; first | done | with_reducible rfl
  refine Eng.TW.end_ [47, 48, 49, 50, 51, 52, 53, 54, 55, 56, 57, 58, 59, 60, 61, 62, 63, 64, 65, 66, 67, 68, 69, 70, 71, 72] HN.out (by kernel_rfl) (by kernel_rfl) ?_
  exact HP.out _ _ rfl HSt.out

theorem dg1 {w0 w : World} {B : Nat} {f : Nat → Int} (h : Below w0.heap.size w0 w) (hb : B < w0.heap.size) (e0 : ∀ j, j < 16 → w0.cell? ⟨B, j, none⟩ = some (.int .i64 (f j))) : w.rangeAt B 0 (dcs f) := by
  intro j v hv
  obtain ⟨hj, rfl⟩ := dcs_at f hv
  rw [Nat.zero_add]; exact (h.cell (p := ⟨B, j, none⟩) hb).trans (e0 j hj)

set_option maxRecDepth 100000 in
set_option maxHeartbeats 8000000 in
theorem ds18 {ops : Array Oper} (hops : Eng.fnOps Try.f4 18 = ops) (a0 : Act) (Q : Exit → Act → World → Prop) (w0 w : World) (B : Nat) (f : Nat → Int) (A0 : Option Addr) (c0 : Nat) (a : List Sn) (A6 : Option Addr) (c6 : Nat) (bb M : List Sn) (hE : dgI (setOf bb) = f) (hM : setOf a = M) (hF : dgI (setOf M) = f) (hD : dto f f 16 = []) (hq : ∀ W : World, (binOp .eql TDg (dv f) (dv f)).run Try.prog W = .ok (.bool true) W) (hl : a.length ≤ 20) (hbl : bb.length ≤ 40) (hm : M.length ≤ 20) (hblk : B < w0.heap.size) (e0 : ∀ j < 16, w0.cell? ⟨B, j, none⟩ = some (.int .i64 (f j))) (hst : DI w0 w [⟨A0, c0, a⟩, ⟨A6, c6, bb⟩] [])
    (hn : a0.tmps.size = 101) (h_0 : a0.tmps.getD 0 undef = .slice A0 a.length c0) (h_5 : a0.tmps.getD 5 undef = .pointer (some ⟨B, 0, none⟩)) (h_6 : a0.tmps.getD 6 undef = .slice A6 bb.length c6) (h_7 : a0.tmps.getD 7 undef = .int .i64 (M.length : Int))
    (hpost : ∀ (x : Nat → Value) (w' : World), x 4 = .bool true → Below w0.heap.size w0 w' → Q .normal (Eng.setAll a0 [4, 73, 74, 75, 76, 77, 78, 79, 80, 81, 82, 83, 84, 85, 86, 87, 88, 89, 90, 91, 92, 93, 94, 95, 96, 97, 98, 99, 100] x) w') :
    (Code.region 18 ops true).wp Try.prog Q a0 w := by
  simp only [Eng.fnOps, Eng.regOps, Try.f4, Option.bind_some, Option.getD_some, Nat.reduceEqDiff, ↓reduceIte, Nat.reduceBEq] at hops
  subst hops
  have HSt := Lib.hid (hst.keep (Fr.drew _ _))
  have hSS : w.drew.rangeAt B 0 (dcs f) := dg1 HSt.out.b hblk e0
  refine Eng.regionT (.take 0 (.take 2 (.alt 1 (.take 3 (.take 4 (.take 5 (.take 8 (.alt 6 (.alt 7 (.take 9 (.take 10 (.take 11 (.take 12 (.take 13 (.alt 14 (.take 15 (.take 16 (.take 17 (.take 18 (.take 19 (.take 20 (.alt 21 (.take 22 (.take 23 (.take 24 (.take 25 (.alt 26 (.take 27 (.take 28 (.done))) (.stop)))))) (.stop)))))))) (.stop))))))) (.stop)) (.stop)))))) (.stop)))) (fun w' => w'.rangeAt B 0 (dcs f)) (by kernel_rfl) 101 hn (by kernel_rfl) (by kernel_rfl) (by kernel_rfl) (hSS) (fun a b ha hb => ?_)
  subst ha
  have hb0 : b 0 = .slice A0 a.length c0 := (hb 0).symm.trans h_0
  have hb5 : b 5 = .pointer (some ⟨B, 0, none⟩) := (hb 5).symm.trans h_5
  have hb6 : b 6 = .slice A6 bb.length c6 := (hb 6).symm.trans h_6
  have hb7 : b 7 = .int .i64 (M.length : Int) := (hb 7).symm.trans h_7
  clear hb h_0 h_5 h_6 h_7
  have HP := Lib.hid hpost; have HN := Lib.hid hn
  clear hpost hn
  refine Eng.TW.take' (v := ?_) rfl rfl (by decide) (by kernel_rfl) (fun w hw => ?_) ?_
  rotate_left
  · (try dsimp only at hw); go_simp; first | done | with_reducible rfl
  refine Eng.TW.take' (v := dv f) rfl rfl (by decide) (by kernel_rfl) (fun w hw => ?_) ?_
  · exact (congrArg (fun x => Sem.run _ (do pure (Next.value (← Instr.loadAt TDg x)) : Sem Next) w) hb5).trans (ldN hw)
  refine Eng.TW.call rfl rfl (by decide) (by kernel_rfl) ?_ (OfE (L := bb) (HSt.out.x ⟨A6, c6, bb⟩ (by simp)) (by omega) f hE) ?_
  · go_simp
  rintro e w2 ⟨rfl, hb⟩
  have HSt2 := Lib.hid (HSt.out.below hb)
  have hSS : w2.rangeAt B 0 (dcs f) := dg1 HSt2.out.b hblk e0
  clear hb
  refine ⟨_, rfl, hSS, ?_⟩
  refine Eng.TW.take' (v := ?_) rfl rfl (by decide) (by kernel_rfl) (fun w hw => ?_) ?_
  rotate_left
  · (try dsimp only at hw); go_simp; first | done | with_reducible rfl
  refine Eng.TW.take' (v := ?_) rfl rfl (by decide) (by kernel_rfl) (fun w hw => ?_) ?_
  rotate_left
  · (try dsimp only at hw); go_simp; first | done | with_reducible rfl
  refine Eng.TW.take' (v := ?_) rfl rfl (by decide) (by kernel_rfl) (fun w hw => ?_) ?_
  rotate_left
  · (try dsimp only at hw); go_simp; first | done | with_reducible rfl
  refine Eng.TW.take' (v := dv f) rfl rfl (by decide) (by kernel_rfl) (fun w hw => ?_) ?_
  · exact (congrArg (fun x => Sem.run _ (do pure (Next.value (← Instr.loadAt TDg x)) : Sem Next) w) hb5).trans (ldN hw)
  refine Eng.TW.call rfl rfl (by decide) (by kernel_rfl) ?_ (SetE (L := a) (HSt2.out.x ⟨A0, c0, a⟩ (by simp)) (by omega) M hM) ?_
  · go_simp
  rintro e w3 ⟨A3, c3, rfl, h1, -, h3⟩
  have HSt3 := Lib.hid ((HSt2.out.below h3).add h1)
  have hSS : w3.rangeAt B 0 (dcs f) := dg1 HSt3.out.b hblk e0
  clear h1 h3
  refine ⟨_, rfl, hSS, ?_⟩
  refine Eng.TW.call rfl rfl (by decide) (by kernel_rfl) ?_ (OfE (L := M) (HSt3.out.x ⟨A3, c3, M⟩ (by simp)) (by omega) f hF) ?_
  · go_simp
  rintro e w4 ⟨rfl, hb⟩
  have HSt4 := Lib.hid (HSt3.out.below hb)
  have hSS : w4.rangeAt B 0 (dcs f) := dg1 HSt4.out.b hblk e0
  clear hb
  refine ⟨_, rfl, hSS, ?_⟩
  refine Eng.TW.take' (v := ?_) rfl rfl (by decide) (by kernel_rfl) (fun w hw => ?_) ?_
  rotate_left
  · (try dsimp only at hw); go_simp; first | done | with_reducible rfl
  refine Eng.TW.take' (v := ?_) rfl rfl (by decide) (by kernel_rfl) (fun w hw => ?_) ?_
  rotate_left
  · (try dsimp only at hw); go_simp; first | done | with_reducible rfl
  refine Eng.TW.take' (v := ?_) rfl rfl (by decide) (by kernel_rfl) (fun w hw => ?_) ?_
  rotate_left
  · (try dsimp only at hw); go_simp; first | done | with_reducible rfl
  refine Eng.TW.take' (v := ?_) rfl rfl (by decide) (by kernel_rfl) (fun w hw => ?_) ?_
  rotate_left
  · (try dsimp only at hw); go_simp; first | done | with_reducible rfl
  refine Eng.TW.take' (v := ?_) rfl rfl (by decide) (by kernel_rfl) (fun w hw => ?_) ?_
  rotate_left
  · (try dsimp only at hw); go_simp; first | done | with_reducible rfl
  refine Eng.TW.call rfl rfl (by decide) (by kernel_rfl) ?_ (RefSetE (L := a) (HSt4.out.x ⟨A0, c0, a⟩ (by simp)) (by omega) M hM) ?_
  · go_simp
  rintro e w5 ⟨A4, c4, rfl, h1, -, h3⟩
  have HSt5 := Lib.hid ((HSt4.out.below h3).add h1)
  have hSS : w5.rangeAt B 0 (dcs f) := dg1 HSt5.out.b hblk e0
  clear h1 h3
  refine ⟨_, rfl, hSS, ?_⟩
  refine Eng.TW.take' (v := ?_) rfl rfl (by decide) (by kernel_rfl) (fun w hw => ?_) ?_
  rotate_left
  · (try dsimp only at hw); go_simp; first | done | with_reducible rfl
  refine Eng.TW.take' (v := ?_) rfl rfl (by decide) (by kernel_rfl) (fun w hw => ?_) ?_
  rotate_left
  · (try dsimp only at hw); go_simp; first | done | with_reducible rfl
  refine Eng.TW.take' (v := ?_) rfl rfl (by decide) (by kernel_rfl) (fun w hw => ?_) ?_
  rotate_left
  · (try dsimp only at hw); go_simp; first | done | with_reducible rfl
  refine Eng.TW.take' (v := ?_) rfl rfl (by decide) (by kernel_rfl) (fun w hw => ?_) ?_
  rotate_left
  · (try dsimp only at hw); go_simp; first | done | with_reducible rfl
  refine Eng.TW.take' (v := dv f) rfl rfl (by decide) (by kernel_rfl) (fun w hw => ?_) ?_
  · exact (congrArg (fun x => Sem.run _ (do pure (Next.value (← Instr.loadAt TDg x)) : Sem Next) w) hb5).trans (ldN hw)
  refine Eng.TW.take' (v := dv f) rfl rfl (by decide) (by kernel_rfl) (fun w hw => ?_) ?_
  · exact (congrArg (fun x => Sem.run _ (do pure (Next.value (← Instr.loadAt TDg x)) : Sem Next) w) hb5).trans (ldN hw)
  refine Eng.TW.call rfl rfl (by decide) (by kernel_rfl) ?_ (DifferE f f [] hD _) ?_
  · go_simp
  rintro e w6 ⟨A5, c5, rfl, h1, -, h3⟩
  have HSt6 := Lib.hid ((HSt5.out.below h3).adi h1)
  have hSS : w6.rangeAt B 0 (dcs f) := dg1 HSt6.out.b hblk e0
  clear h1 h3
  refine ⟨_, rfl, hSS, ?_⟩
  refine Eng.TW.take' (v := ?_) rfl rfl (by decide) (by kernel_rfl) (fun w hw => ?_) ?_
  rotate_left
  · (try dsimp only at hw); go_simp; first | done | with_reducible rfl
  refine Eng.TW.take' (v := ?_) rfl rfl (by decide) (by kernel_rfl) (fun w hw => ?_) ?_
  rotate_left
  · (try dsimp only at hw); go_simp; first | done | with_reducible rfl
  refine Eng.TW.take' (v := ?_) rfl rfl (by decide) (by kernel_rfl) (fun w hw => ?_) ?_
  rotate_left
  · (try dsimp only at hw); go_simp; first | done | with_reducible rfl
  refine Eng.TW.take' (v := ?_) rfl rfl (by decide) (by kernel_rfl) (fun w hw => ?_) ?_
  rotate_left
  · (try dsimp only at hw); go_simp; first | done | with_reducible rfl
  refine Eng.TW.call rfl rfl (by decide) (by kernel_rfl) ?_ (awake _) ?_
  · go_simp
  rintro e w7 ⟨rfl, hb⟩
  have HSt7 := Lib.hid (HSt6.out.below hb)
  have hSS : w7.rangeAt B 0 (dcs f) := dg1 HSt7.out.b hblk e0
  clear hb
  refine ⟨_, rfl, hSS, ?_⟩
  refine Eng.TW.take' (v := ?_) rfl rfl (by decide) (by kernel_rfl) (fun w hw => ?_) ?_
  rotate_left
  · (try dsimp only at hw); go_simp; first | done | with_reducible rfl
  refine Eng.TW.take' (v := ?_) rfl rfl (by decide) (by kernel_rfl) (fun w hw => ?_) ?_
  rotate_left
  · (try dsimp only at hw); go_simp; first | done | with_reducible rfl
  refine Eng.TW.end_ [4, 73, 74, 75, 76, 77, 78, 79, 80, 81, 82, 83, 84, 85, 86, 87, 88, 89, 90, 91, 92, 93, 94, 95, 96, 97, 98, 99, 100] HN.out (by kernel_rfl) (by kernel_rfl) ?_
  exact HP.out _ _ rfl HSt7.out.b

end Law48
end Go.Proofs.Ytmcghchhegfilaa
