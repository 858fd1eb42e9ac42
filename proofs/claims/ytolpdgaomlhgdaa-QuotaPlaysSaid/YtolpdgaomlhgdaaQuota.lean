/- Quotas: the walks of their methods. -/
import Derived.Test.YtolpdgaomlhgdaaGm
import Derived.Test.YtolpdgaomlhgdaaQuotaP
import Derived.Test.YtolpdgaomlhgdaaEng
import Derived.Test.YtolpdgaomlhgdaaRef01
import Derived.StillTailTactics
import Derived.Deep.DeepCutAuto
namespace Go.Proofs.Ytolpdgaomlhgdaa
open Go.RowKit
namespace Quota
open BagP QuotaP
attribute [local go_sem] Eng.ev Eng.getO_cons Eng.getO_nil

abbrev TQ : TypeId := 31
abbrev TM : TypeId := 29
abbrev TSp : TypeId := 137
theorem uM : Try.prog.underlying TM = some (.map 3 3) := Try.underlying29
/-- A record. -/
structure Sp where
  t : Int
  i : Int
  p : Int
  r : Int
  s : ByteArray
  o : ByteArray
  b : Int
  d : Int
  g : Bool
abbrev Sp.cs (x : Sp) : List Value := [.int .i64 x.t, .int .i64 x.i, .int .i64 x.p, .int .i64 x.r, .string x.s, .string x.o, .int .i64 x.b, .int .i64 x.d, .bool x.g]
theorem Sp.cs_len (x : Sp) : x.cs.length = 9 := rfl
/-- A quota in block B, its counts in block r. -/
structure QB (w : World) (B r : Nat) (all tr : Int) (L : List (Int × Int)) : Prop where
  blk : Bk w B #[.int .i64 all, .int .i64 tr, .int .i64 (sumL L), .map (some r)] TQ
  gm : GM w r L
  ne : B ≠ r
  cs : Cs L
  most : sumL L ≤ 1000000
def QZ (w : World) (B : Nat) (all tr : Int) (L : List (Int × Int)) (F : List Nat) : Prop := ∃ r, QB w B r all tr L ∧ F = [B, r]
theorem QB.fr {S : Nat → Prop} {w w' : World} {B r : Nat} {all tr : Int} {L : List (Int × Int)} (h : QB w B r all tr L) (hf : Fr S w w') (h1 : ¬ S B) (h2 : ¬ S r) : QB w' B r all tr L :=
  ⟨h.blk.fr hf (fun b hb => by simp at hb; subst hb; exact h1), h.gm.fr hf (fun b hb => by simp at hb; subst hb; exact h2), h.ne, h.cs, h.most⟩
theorem QZ.fr {S : Nat → Prop} {w w' : World} {B : Nat} {all tr : Int} {L : List (Int × Int)} {F : List Nat} (h : QZ w B all tr L F) (hf : Fr S w w') (hs : ∀ b ∈ F, ¬ S b) : QZ w' B all tr L F := by
  obtain ⟨r, h, rfl⟩ := h
  exact ⟨r, h.fr hf (hs B (by simp)) (hs r (by simp)), rfl⟩
theorem QZ.lt {w : World} {B : Nat} {all tr : Int} {L : List (Int × Int)} {F : List Nat} (h : QZ w B all tr L F) : ∀ b ∈ F, b < w.heap.size := by
  obtain ⟨r, h, rfl⟩ := h
  intro b hb
  simp at hb
  rcases hb with rfl | rfl
  · exact lt_of_heap h.blk
  · exact h.gm.lt
theorem QB.len {w : World} {B r : Nat} {all tr : Int} {L : List (Int × Int)} (h : QB w B r all tr L) : L.length ≤ 1000000 := by
  have h1 := len_sum h.cs.pos
  have := h.most
  omega
theorem wf_small {n : Int} (h0 : 0 ≤ n) (h1 : n ≤ 10000000) : wfI n := by
  show (Lit.int .i64 n).wf = true
  simp only [Lit.wf, Bool.and_eq_true, decide_eq_true_eq]
  have e1 : IntKind.i64.min = -9223372036854775808 := rfl
  have e2 : IntKind.i64.max = 9223372036854775807 := rfl
  omega

theorem Of_none (t : Int) (w : World) : Calls Try.prog 28 #[.pointer none, .int .i64 t] w fun e w' => e = .returned (.int .i64 0) ∧ w = w' := by
  go_enter Try.func28, Try.ntmps28
  go_wp2
  go_ret
  exact ⟨rfl, rfl⟩
theorem Of (B r : Nat) (all tr t : Int) (L : List (Int × Int)) (w : World) (h : QB w B r all tr L) (ht : wfI t) :
    Calls Try.prog 28 #[.pointer (some ⟨B, 0, none⟩), .int .i64 t] w fun e w' => e = .returned (.int .i64 (cnt t L)) ∧ w = w' := by
  have c3 : w.cell? ⟨B, 3, none⟩ = some (.map (some r)) := h.blk.cell 3
  have hl := h.gm.look uM ht
  have HC := Lib.hid (show (getL t L).getD 0 = cnt t L from rfl)
  generalize (getL t L).getD 0 = n at *
  clear h
  go_enter Try.func28, Try.ntmps28
  go_wp2
  go_ret
  exact ⟨by rw [← HC.out]; rfl, rfl⟩
theorem Len_none (w : World) : Calls Try.prog 25 #[.pointer none] w fun e w' => e = .returned (.int .i64 0) ∧ w = w' := by
  go_enter Try.func25, Try.ntmps25
  go_wp2
  go_ret
  exact ⟨rfl, rfl⟩
theorem Len (B r : Nat) (all tr : Int) (L : List (Int × Int)) (w : World) (h : QB w B r all tr L) :
    Calls Try.prog 25 #[.pointer (some ⟨B, 0, none⟩)] w fun e w' => e = .returned (.int .i64 (sumL L)) ∧ w = w' := by
  have c3 : w.cell? ⟨B, 2, none⟩ = some (.int .i64 (sumL L)) := h.blk.cell 2
  clear h
  go_enter Try.func25, Try.ntmps25
  go_wp2
  go_ret
  exact ⟨rfl, rfl⟩
def NewPost (all tr : Int) (w : World) (e : Ending) (w' : World) : Prop :=
  ∃ F, e = .returned (.pointer (some ⟨w.heap.size + 1, 0, none⟩)) ∧ QZ w' (w.heap.size + 1) (max all 0) (max tr 0) [] F ∧ (∀ b ∈ F, w.heap.size ≤ b ∧ b < w'.heap.size) ∧ Below w.heap.size w w'
theorem New (all tr : Int) (w : World) : Calls Try.prog 18 #[.int .i64 all, .int .i64 tr] w (NewPost all tr w) := by
  have hmm := @run_makeMap Try.prog
  have HE : Hid (∀ a b : Int, a = max all 0 → b = max tr 0 → ∀ e, e = Ending.returned (.pointer (some ⟨w.heap.size + 1, 0, none⟩)) → NewPost all tr w e ((w.alloc (.map #[] 0)).alloc (.cells #[.int .i64 a, .int .i64 b, .int .i64 0, .map (some w.heap.size)] TQ))) := fun a b ha hb e he => by
    have b1 := Bk.new (w.alloc (.map #[] 0)) #[.int .i64 a, .int .i64 b, .int .i64 0, .map (some w.heap.size)] TQ
    rw [World.size_alloc] at b1
    exact ⟨[w.heap.size + 1, w.heap.size], he, ⟨w.heap.size, ⟨ha ▸ hb ▸ b1, (GM.new w).fr (Fr.alloc (fun _ => False) _ _) (fun _ _ h => h), by omega, Cs.nil, by simp [sumL]⟩, rfl⟩, by simp; omega, ((Below.refl _ w).alloc (Nat.le_refl _) _).alloc (by simp) _⟩
  by_cases ha : all < 0
  all_goals
    by_cases ht : tr < 0
    all_goals
      go_enter Try.func18, Try.ntmps18
      go_wp2
      go_ret
      exact HE.out _ _ (by omega) (by omega) _ rfl
set_option maxRecDepth 100000 in
set_option maxHeartbeats 400000 in
theorem o1full {ops : Array Oper} (hops : Eng.fnOps Try.f87 1 = ops) (a0 : Act) (Q : Exit → Act → World → Prop) (B r Bx : Nat) (all tr t n s : Int) (L : List (Int × Int)) (w : World) (hst : QB w B r all tr L) (hs : Hid (s = sumL L)) (hnn : Hid (n = (getL t L).getD 0)) (e1 : w.cell? ⟨Bx, 0, none⟩ = some (.int .i64 t)) (ht : wfI t) (q1 : all ≤ s)
    (hn : a0.tmps.size = 43) (h_0 : a0.tmps.getD 0 undef = .pointer (some ⟨B, 0, none⟩))
    (hpost : ∀ (x : Nat → Value) (w' : World), x 27 = .bool true → w' = w.drew → Q .normal (Eng.setAll a0 [5, 6, 7, 8, 9, 10, 11, 12, 13, 14, 15, 16, 17, 18, 19, 20, 21, 22, 23, 24, 25, 26, 27] x) w') :
    (Code.region 1 ops true).wp Try.prog Q a0 w := by
  simp only [Eng.fnOps, Eng.regOps, Try.f87, Option.bind_some, Option.getD_some, Nat.reduceEqDiff, ↓reduceIte, Nat.reduceBEq] at hops
  subst hops
  have HSt := Lib.hid (hst.fr (Fr.drew (fun _ => False) w) (fun h => h) (fun h => h))
  have hSS : w.drew.cell? ⟨B, 2, none⟩ = some (.int .i64 s) ∧ w.drew.cell? ⟨B, 0, none⟩ = some (.int .i64 all) := ⟨(by rw [hs.out]; exact HSt.out.blk.cell 2), HSt.out.blk.cell 0⟩
  refine Eng.regionN [(0, true), (1, true), (2, true), (3, true), (4, true), (5, true), (6, true), (7, true), (8, true), (9, true), (10, true), (11, true), (12, true), (13, true), (14, true), (15, true), (16, true), (17, true), (18, true), (19, true), (20, true), (21, true), (22, true)] (fun w' => w'.cell? ⟨B, 2, none⟩ = some (.int .i64 s) ∧ w'.cell? ⟨B, 0, none⟩ = some (.int .i64 all)) (by kernel_rfl) 43 hn (by kernel_rfl) rfl (by kernel_rfl) (hSS) (fun a b ha hb => ?_)
  subst ha
  have hb0 : b 0 = .pointer (some ⟨B, 0, none⟩) := (hb 0).symm.trans h_0
  clear hb h_0
  have HP := Lib.hid hpost; have HN := Lib.hid hn
  clear hpost hn
  refine Eng.Sch.take (v := ?_) rfl rfl (by decide) (by kernel_rfl) (fun w hw => ?_) ?_
  rotate_left
  · (try dsimp only at hw); go_simp; first | done | with_reducible rfl
  refine Eng.Sch.take (v := ?_) rfl rfl (by decide) (by kernel_rfl) (fun w hw => ?_) ?_
  rotate_left
  · (try dsimp only at hw); go_simp; first | done | with_reducible rfl
  refine Eng.Sch.take (v := ?_) rfl rfl (by decide) (by kernel_rfl) (fun w hw => ?_) ?_
  rotate_left
  · (try dsimp only at hw); go_simp; first | done | with_reducible rfl
  refine Eng.Sch.take (v := ?_) rfl rfl (by decide) (by kernel_rfl) (fun w hw => ?_) ?_
  rotate_left
  · (try dsimp only at hw); go_simp; first | done | with_reducible rfl
  refine Eng.Sch.take (v := ?_) rfl rfl (by decide) (by kernel_rfl) (fun w hw => ?_) ?_
  rotate_left
  · (try dsimp only at hw); go_simp; first | done | with_reducible rfl
  refine Eng.Sch.take (v := ?_) rfl rfl (by decide) (by kernel_rfl) (fun w hw => ?_) ?_
  rotate_left
  · (try dsimp only at hw); go_simp; first | done | with_reducible rfl
  refine Eng.Sch.take (v := ?_) rfl rfl (by decide) (by kernel_rfl) (fun w hw => ?_) ?_
  rotate_left
  · (try dsimp only at hw); go_simp; first | done | with_reducible rfl
  refine Eng.Sch.take (v := ?_) rfl rfl (by decide) (by kernel_rfl) (fun w hw => ?_) ?_
  rotate_left
  · (try dsimp only at hw); go_simp; first | done | with_reducible rfl
  refine Eng.Sch.take (v := ?_) rfl rfl (by decide) (by kernel_rfl) (fun w hw => ?_) ?_
  rotate_left
  · (try dsimp only at hw); go_simp; first | done | with_reducible rfl
  refine Eng.Sch.take (v := ?_) rfl rfl (by decide) (by kernel_rfl) (fun w hw => ?_) ?_
  rotate_left
  · (try dsimp only at hw); go_simp; first | done | with_reducible rfl
  refine Eng.Sch.skip rfl rfl (by decide) (by kernel_rfl) ?_
  refine Eng.Sch.skip rfl rfl (by decide) (by kernel_rfl) ?_
  refine Eng.Sch.skip rfl rfl (by decide) (by kernel_rfl) ?_
  refine Eng.Sch.skip rfl rfl (by decide) (by kernel_rfl) ?_
  refine Eng.Sch.skip rfl rfl (by decide) (by kernel_rfl) ?_
  refine Eng.Sch.skip rfl rfl (by decide) (by kernel_rfl) ?_
  refine Eng.Sch.skip rfl rfl (by decide) (by kernel_rfl) ?_
  refine Eng.Sch.skip rfl rfl (by decide) (by kernel_rfl) ?_
  refine Eng.Sch.skip rfl rfl (by decide) (by kernel_rfl) ?_
  refine Eng.Sch.skip rfl rfl (by decide) (by kernel_rfl) ?_
  refine Eng.Sch.skip rfl rfl (by decide) (by kernel_rfl) ?_
  refine Eng.Sch.skip rfl rfl (by decide) (by kernel_rfl) ?_
  refine Eng.Sch.take (v := ?_) rfl rfl (by decide) (by kernel_rfl) (fun w hw => ?_) ?_
  rotate_left
  · (try dsimp only at hw); go_simp; first | done | with_reducible rfl
  refine Eng.Sch.end_ [5, 6, 7, 8, 9, 10, 11, 12, 13, 14, 15, 16, 17, 18, 19, 20, 21, 22, 23, 24, 25, 26, 27] HN.out (by kernel_rfl) (by kernel_rfl) ?_
  exact HP.out _ _ rfl rfl

set_option maxRecDepth 100000 in
set_option maxHeartbeats 400000 in
theorem o1much {ops : Array Oper} (hops : Eng.fnOps Try.f87 1 = ops) (a0 : Act) (Q : Exit → Act → World → Prop) (B r Bx : Nat) (all tr t n s : Int) (L : List (Int × Int)) (w : World) (hst : QB w B r all tr L) (hs : Hid (s = sumL L)) (hnn : Hid (n = (getL t L).getD 0)) (e1 : w.cell? ⟨Bx, 0, none⟩ = some (.int .i64 t)) (ht : wfI t) (q1 : ¬ all ≤ s) (q2 : tr ≤ n)
    (hn : a0.tmps.size = 43) (h_0 : a0.tmps.getD 0 undef = .pointer (some ⟨B, 0, none⟩)) (h_3 : a0.tmps.getD 3 undef = .pointer (some ⟨Bx, 0, none⟩))
    (hpost : ∀ (x : Nat → Value) (w' : World), x 27 = .bool true → w' = w.drew → Q .normal (Eng.setAll a0 [5, 6, 7, 8, 9, 10, 11, 12, 13, 14, 15, 16, 17, 18, 19, 20, 21, 22, 23, 24, 25, 26, 27] x) w') :
    (Code.region 1 ops true).wp Try.prog Q a0 w := by
  simp only [Eng.fnOps, Eng.regOps, Try.f87, Option.bind_some, Option.getD_some, Nat.reduceEqDiff, ↓reduceIte, Nat.reduceBEq] at hops
  subst hops
  have HSt := Lib.hid (hst.fr (Fr.drew (fun _ => False) w) (fun h => h) (fun h => h))
  have hSS : w.drew.cell? ⟨B, 2, none⟩ = some (.int .i64 s) ∧ w.drew.cell? ⟨B, 0, none⟩ = some (.int .i64 all) ∧ w.drew.cell? ⟨B, 3, none⟩ = some (.map (some r)) ∧ w.drew.cell? ⟨B, 1, none⟩ = some (.int .i64 tr) ∧ w.drew.cell? ⟨Bx, 0, none⟩ = some (.int .i64 t) ∧ (Instr.lookup TM (.map (some r)) (.int .i64 t) false).run Try.prog w.drew = .ok (.int .i64 n) w.drew := ⟨(by rw [hs.out]; exact HSt.out.blk.cell 2), HSt.out.blk.cell 0, HSt.out.blk.cell 3, HSt.out.blk.cell 1, e1, (by rw [hnn.out]; exact HSt.out.gm.look uM ht)⟩
  refine Eng.regionN [(0, true), (1, true), (2, true), (3, true), (4, true), (5, true), (6, true), (7, true), (8, true), (9, true), (10, true), (11, true), (12, true), (13, true), (14, true), (15, true), (16, true), (17, true), (18, true), (19, true), (20, true), (21, true), (22, true)] (fun w' => w'.cell? ⟨B, 2, none⟩ = some (.int .i64 s) ∧ w'.cell? ⟨B, 0, none⟩ = some (.int .i64 all) ∧ w'.cell? ⟨B, 3, none⟩ = some (.map (some r)) ∧ w'.cell? ⟨B, 1, none⟩ = some (.int .i64 tr) ∧ w'.cell? ⟨Bx, 0, none⟩ = some (.int .i64 t) ∧ (Instr.lookup TM (.map (some r)) (.int .i64 t) false).run Try.prog w' = .ok (.int .i64 n) w') (by kernel_rfl) 43 hn (by kernel_rfl) rfl (by kernel_rfl) (hSS) (fun a b ha hb => ?_)
  subst ha
  have hb0 : b 0 = .pointer (some ⟨B, 0, none⟩) := (hb 0).symm.trans h_0
  have hb3 : b 3 = .pointer (some ⟨Bx, 0, none⟩) := (hb 3).symm.trans h_3
  clear hb h_0 h_3
  have HP := Lib.hid hpost; have HN := Lib.hid hn
  clear hpost hn
  refine Eng.Sch.take (v := ?_) rfl rfl (by decide) (by kernel_rfl) (fun w hw => ?_) ?_
  rotate_left
  · (try dsimp only at hw); go_simp; first | done | with_reducible rfl
  refine Eng.Sch.take (v := ?_) rfl rfl (by decide) (by kernel_rfl) (fun w hw => ?_) ?_
  rotate_left
  · (try dsimp only at hw); go_simp; first | done | with_reducible rfl
  refine Eng.Sch.take (v := ?_) rfl rfl (by decide) (by kernel_rfl) (fun w hw => ?_) ?_
  rotate_left
  · (try dsimp only at hw); go_simp; first | done | with_reducible rfl
  refine Eng.Sch.take (v := ?_) rfl rfl (by decide) (by kernel_rfl) (fun w hw => ?_) ?_
  rotate_left
  · (try dsimp only at hw); go_simp; first | done | with_reducible rfl
  refine Eng.Sch.take (v := ?_) rfl rfl (by decide) (by kernel_rfl) (fun w hw => ?_) ?_
  rotate_left
  · (try dsimp only at hw); go_simp; first | done | with_reducible rfl
  refine Eng.Sch.take (v := ?_) rfl rfl (by decide) (by kernel_rfl) (fun w hw => ?_) ?_
  rotate_left
  · (try dsimp only at hw); go_simp; first | done | with_reducible rfl
  refine Eng.Sch.take (v := ?_) rfl rfl (by decide) (by kernel_rfl) (fun w hw => ?_) ?_
  rotate_left
  · (try dsimp only at hw); go_simp; first | done | with_reducible rfl
  refine Eng.Sch.take (v := ?_) rfl rfl (by decide) (by kernel_rfl) (fun w hw => ?_) ?_
  rotate_left
  · (try dsimp only at hw); go_simp; first | done | with_reducible rfl
  refine Eng.Sch.take (v := ?_) rfl rfl (by decide) (by kernel_rfl) (fun w hw => ?_) ?_
  rotate_left
  · (try dsimp only at hw); go_simp; first | done | with_reducible rfl
  refine Eng.Sch.take (v := ?_) rfl rfl (by decide) (by kernel_rfl) (fun w hw => ?_) ?_
  rotate_left
  · (try dsimp only at hw); go_simp; first | done | with_reducible rfl
  refine Eng.Sch.take (v := ?_) rfl rfl (by decide) (by kernel_rfl) (fun w hw => ?_) ?_
  rotate_left
  · (try dsimp only at hw); go_simp; first | done | with_reducible rfl
  refine Eng.Sch.take (v := ?_) rfl rfl (by decide) (by kernel_rfl) (fun w hw => ?_) ?_
  rotate_left
  · (try dsimp only at hw); go_simp; first | done | with_reducible rfl
  refine Eng.Sch.take (v := ?_) rfl rfl (by decide) (by kernel_rfl) (fun w hw => ?_) ?_
  rotate_left
  · (try dsimp only at hw); go_simp; first | done | with_reducible rfl
  refine Eng.Sch.take (v := ?_) rfl rfl (by decide) (by kernel_rfl) (fun w hw => ?_) ?_
  rotate_left
  · (try dsimp only at hw); go_simp; first | done | with_reducible rfl
  refine Eng.Sch.take (v := ?_) rfl rfl (by decide) (by kernel_rfl) (fun w hw => ?_) ?_
  rotate_left
  · (try dsimp only at hw); go_simp; first | done | with_reducible rfl
  refine Eng.Sch.take (v := ?_) rfl rfl (by decide) (by kernel_rfl) (fun w hw => ?_) ?_
  rotate_left
  · (try dsimp only at hw); go_simp; first | done | with_reducible rfl
  refine Eng.Sch.take (v := ?_) rfl rfl (by decide) (by kernel_rfl) (fun w hw => ?_) ?_
  rotate_left
  · (try dsimp only at hw); go_simp; first | done | with_reducible rfl
  refine Eng.Sch.take (v := ?_) rfl rfl (by decide) (by kernel_rfl) (fun w hw => ?_) ?_
  rotate_left
  · (try dsimp only at hw); go_simp; first | done | with_reducible rfl
  refine Eng.Sch.take (v := ?_) rfl rfl (by decide) (by kernel_rfl) (fun w hw => ?_) ?_
  rotate_left
  · (try dsimp only at hw); go_simp; first | done | with_reducible rfl
  refine Eng.Sch.take (v := ?_) rfl rfl (by decide) (by kernel_rfl) (fun w hw => ?_) ?_
  rotate_left
  · (try dsimp only at hw); go_simp; first | done | with_reducible rfl
  refine Eng.Sch.take (v := ?_) rfl rfl (by decide) (by kernel_rfl) (fun w hw => ?_) ?_
  rotate_left
  · (try dsimp only at hw); go_simp; first | done | with_reducible rfl
  refine Eng.Sch.take (v := ?_) rfl rfl (by decide) (by kernel_rfl) (fun w hw => ?_) ?_
  rotate_left
  · (try dsimp only at hw); go_simp; first | done | with_reducible rfl
  refine Eng.Sch.take (v := ?_) rfl rfl (by decide) (by kernel_rfl) (fun w hw => ?_) ?_
  rotate_left
  · (try dsimp only at hw); go_simp; first | done | with_reducible rfl
  refine Eng.Sch.end_ [5, 6, 7, 8, 9, 10, 11, 12, 13, 14, 15, 16, 17, 18, 19, 20, 21, 22, 23, 24, 25, 26, 27] HN.out (by kernel_rfl) (by kernel_rfl) ?_
  exact HP.out _ _ rfl rfl

set_option maxRecDepth 100000 in
set_option maxHeartbeats 400000 in
theorem o1room {ops : Array Oper} (hops : Eng.fnOps Try.f87 1 = ops) (a0 : Act) (Q : Exit → Act → World → Prop) (B r Bx : Nat) (all tr t n s : Int) (L : List (Int × Int)) (w : World) (hst : QB w B r all tr L) (hs : Hid (s = sumL L)) (hnn : Hid (n = (getL t L).getD 0)) (e1 : w.cell? ⟨Bx, 0, none⟩ = some (.int .i64 t)) (ht : wfI t) (q1 : ¬ all ≤ s) (q2 : ¬ tr ≤ n)
    (hn : a0.tmps.size = 43) (h_0 : a0.tmps.getD 0 undef = .pointer (some ⟨B, 0, none⟩)) (h_3 : a0.tmps.getD 3 undef = .pointer (some ⟨Bx, 0, none⟩))
    (hpost : ∀ (x : Nat → Value) (w' : World), x 27 = .bool false → w' = w.drew → Q .normal (Eng.setAll a0 [5, 6, 7, 8, 9, 10, 11, 12, 13, 14, 15, 16, 17, 18, 19, 20, 21, 22, 23, 24, 25, 26, 27] x) w') :
    (Code.region 1 ops true).wp Try.prog Q a0 w := by
  simp only [Eng.fnOps, Eng.regOps, Try.f87, Option.bind_some, Option.getD_some, Nat.reduceEqDiff, ↓reduceIte, Nat.reduceBEq] at hops
  subst hops
  have HSt := Lib.hid (hst.fr (Fr.drew (fun _ => False) w) (fun h => h) (fun h => h))
  have hSS : w.drew.cell? ⟨B, 2, none⟩ = some (.int .i64 s) ∧ w.drew.cell? ⟨B, 0, none⟩ = some (.int .i64 all) ∧ w.drew.cell? ⟨B, 3, none⟩ = some (.map (some r)) ∧ w.drew.cell? ⟨B, 1, none⟩ = some (.int .i64 tr) ∧ w.drew.cell? ⟨Bx, 0, none⟩ = some (.int .i64 t) ∧ (Instr.lookup TM (.map (some r)) (.int .i64 t) false).run Try.prog w.drew = .ok (.int .i64 n) w.drew := ⟨(by rw [hs.out]; exact HSt.out.blk.cell 2), HSt.out.blk.cell 0, HSt.out.blk.cell 3, HSt.out.blk.cell 1, e1, (by rw [hnn.out]; exact HSt.out.gm.look uM ht)⟩
  refine Eng.regionN [(0, true), (1, true), (2, true), (3, true), (4, true), (5, true), (6, true), (7, true), (8, true), (9, true), (10, true), (11, true), (12, true), (13, true), (14, true), (15, true), (16, true), (17, true), (18, true), (19, true), (20, true), (21, true), (22, true)] (fun w' => w'.cell? ⟨B, 2, none⟩ = some (.int .i64 s) ∧ w'.cell? ⟨B, 0, none⟩ = some (.int .i64 all) ∧ w'.cell? ⟨B, 3, none⟩ = some (.map (some r)) ∧ w'.cell? ⟨B, 1, none⟩ = some (.int .i64 tr) ∧ w'.cell? ⟨Bx, 0, none⟩ = some (.int .i64 t) ∧ (Instr.lookup TM (.map (some r)) (.int .i64 t) false).run Try.prog w' = .ok (.int .i64 n) w') (by kernel_rfl) 43 hn (by kernel_rfl) rfl (by kernel_rfl) (hSS) (fun a b ha hb => ?_)
  subst ha
  have hb0 : b 0 = .pointer (some ⟨B, 0, none⟩) := (hb 0).symm.trans h_0
  have hb3 : b 3 = .pointer (some ⟨Bx, 0, none⟩) := (hb 3).symm.trans h_3
  clear hb h_0 h_3
  have HP := Lib.hid hpost; have HN := Lib.hid hn
  clear hpost hn
  refine Eng.Sch.take (v := ?_) rfl rfl (by decide) (by kernel_rfl) (fun w hw => ?_) ?_
  rotate_left
  · (try dsimp only at hw); go_simp; first | done | with_reducible rfl
  refine Eng.Sch.take (v := ?_) rfl rfl (by decide) (by kernel_rfl) (fun w hw => ?_) ?_
  rotate_left
  · (try dsimp only at hw); go_simp; first | done | with_reducible rfl
  refine Eng.Sch.take (v := ?_) rfl rfl (by decide) (by kernel_rfl) (fun w hw => ?_) ?_
  rotate_left
  · (try dsimp only at hw); go_simp; first | done | with_reducible rfl
  refine Eng.Sch.take (v := ?_) rfl rfl (by decide) (by kernel_rfl) (fun w hw => ?_) ?_
  rotate_left
  · (try dsimp only at hw); go_simp; first | done | with_reducible rfl
  refine Eng.Sch.take (v := ?_) rfl rfl (by decide) (by kernel_rfl) (fun w hw => ?_) ?_
  rotate_left
  · (try dsimp only at hw); go_simp; first | done | with_reducible rfl
  refine Eng.Sch.take (v := ?_) rfl rfl (by decide) (by kernel_rfl) (fun w hw => ?_) ?_
  rotate_left
  · (try dsimp only at hw); go_simp; first | done | with_reducible rfl
  refine Eng.Sch.take (v := ?_) rfl rfl (by decide) (by kernel_rfl) (fun w hw => ?_) ?_
  rotate_left
  · (try dsimp only at hw); go_simp; first | done | with_reducible rfl
  refine Eng.Sch.take (v := ?_) rfl rfl (by decide) (by kernel_rfl) (fun w hw => ?_) ?_
  rotate_left
  · (try dsimp only at hw); go_simp; first | done | with_reducible rfl
  refine Eng.Sch.take (v := ?_) rfl rfl (by decide) (by kernel_rfl) (fun w hw => ?_) ?_
  rotate_left
  · (try dsimp only at hw); go_simp; first | done | with_reducible rfl
  refine Eng.Sch.take (v := ?_) rfl rfl (by decide) (by kernel_rfl) (fun w hw => ?_) ?_
  rotate_left
  · (try dsimp only at hw); go_simp; first | done | with_reducible rfl
  refine Eng.Sch.take (v := ?_) rfl rfl (by decide) (by kernel_rfl) (fun w hw => ?_) ?_
  rotate_left
  · (try dsimp only at hw); go_simp; first | done | with_reducible rfl
  refine Eng.Sch.take (v := ?_) rfl rfl (by decide) (by kernel_rfl) (fun w hw => ?_) ?_
  rotate_left
  · (try dsimp only at hw); go_simp; first | done | with_reducible rfl
  refine Eng.Sch.take (v := ?_) rfl rfl (by decide) (by kernel_rfl) (fun w hw => ?_) ?_
  rotate_left
  · (try dsimp only at hw); go_simp; first | done | with_reducible rfl
  refine Eng.Sch.take (v := ?_) rfl rfl (by decide) (by kernel_rfl) (fun w hw => ?_) ?_
  rotate_left
  · (try dsimp only at hw); go_simp; first | done | with_reducible rfl
  refine Eng.Sch.take (v := ?_) rfl rfl (by decide) (by kernel_rfl) (fun w hw => ?_) ?_
  rotate_left
  · (try dsimp only at hw); go_simp; first | done | with_reducible rfl
  refine Eng.Sch.take (v := ?_) rfl rfl (by decide) (by kernel_rfl) (fun w hw => ?_) ?_
  rotate_left
  · (try dsimp only at hw); go_simp; first | done | with_reducible rfl
  refine Eng.Sch.take (v := ?_) rfl rfl (by decide) (by kernel_rfl) (fun w hw => ?_) ?_
  rotate_left
  · (try dsimp only at hw); go_simp; first | done | with_reducible rfl
  refine Eng.Sch.take (v := ?_) rfl rfl (by decide) (by kernel_rfl) (fun w hw => ?_) ?_
  rotate_left
  · (try dsimp only at hw); go_simp; first | done | with_reducible rfl
  refine Eng.Sch.take (v := ?_) rfl rfl (by decide) (by kernel_rfl) (fun w hw => ?_) ?_
  rotate_left
  · (try dsimp only at hw); go_simp; first | done | with_reducible rfl
  refine Eng.Sch.take (v := ?_) rfl rfl (by decide) (by kernel_rfl) (fun w hw => ?_) ?_
  rotate_left
  · (try dsimp only at hw); go_simp; first | done | with_reducible rfl
  refine Eng.Sch.take (v := ?_) rfl rfl (by decide) (by kernel_rfl) (fun w hw => ?_) ?_
  rotate_left
  · (try dsimp only at hw); go_simp; first | done | with_reducible rfl
  refine Eng.Sch.take (v := ?_) rfl rfl (by decide) (by kernel_rfl) (fun w hw => ?_) ?_
  rotate_left
  · (try dsimp only at hw); go_simp; first | done | with_reducible rfl
  refine Eng.Sch.take (v := ?_) rfl rfl (by decide) (by kernel_rfl) (fun w hw => ?_) ?_
  rotate_left
  · (try dsimp only at hw); go_simp; first | done | with_reducible rfl
  refine Eng.Sch.end_ [5, 6, 7, 8, 9, 10, 11, 12, 13, 14, 15, 16, 17, 18, 19, 20, 21, 22, 23, 24, 25, 26, 27] HN.out (by kernel_rfl) (by kernel_rfl) ?_
  exact HP.out _ _ rfl rfl


def OnePost (B r : Nat) (all tr t : Int) (L : List (Int × Int)) (w : World) (e : Ending) (w' : World) : Prop :=
  e = .returned (.bool (okO all tr t L)) ∧ QB w' B r all tr (oneL all tr t L) ∧ Fr (fun k => k = B ∨ k = r) w w'
set_option maxRecDepth 100000 in
set_option maxHeartbeats 400000 in
theorem one (B r : Nat) (all tr : Int) (x : Sp) (L : List (Int × Int)) (w : World) (h : QB w B r all tr L) (ht : wfI x.t) (hm : sumL L < 1000000) :
    Calls Try.prog 87 #[.pointer (some ⟨B, 0, none⟩), .agg #[.int .i64 x.t, .int .i64 x.i, .int .i64 x.p, .int .i64 x.r, .string x.s, .string x.o, .int .i64 x.b, .int .i64 x.d, .bool x.g]] w (OnePost B r all tr x.t L w) := by
  obtain ⟨t, i, p, rv, s, o, b, d, g⟩ := x
  dsimp only at ht ⊢
  have h1 : QB (w.alloc (.cells #[.int .i64 t, .int .i64 i, .int .i64 p, .int .i64 rv, .string s, .string o, .int .i64 b, .int .i64 d, .bool g] TSp)) B r all tr L := h.fr (Fr.alloc (fun _ => False) w _) (fun h => h) (fun h => h)
  have HBx := Lib.hid (Bk.new w #[.int .i64 t, .int .i64 i, .int .i64 p, .int .i64 rv, .string s, .string o, .int .i64 b, .int .i64 d, .bool g] TSp)
  have c1 : (w.alloc (.cells #[.int .i64 t, .int .i64 i, .int .i64 p, .int .i64 rv, .string s, .string o, .int .i64 b, .int .i64 d, .bool g] TSp)).cell? ⟨w.heap.size, 0, none⟩ = some (.int .i64 t) := (Bk.new w _ _).cell 0
  have HF1 := Lib.hid (Fr.alloc (fun k => k = B ∨ k = r) w (.cells #[.int .i64 t, .int .i64 i, .int .i64 p, .int .i64 rv, .string s, .string o, .int .i64 b, .int .i64 d, .bool g] TSp))
  have H1 := Lib.hid h1; have HC1 := Lib.hid c1
  have hcnt := h.cs.pos.cnt t
  have hls := len_sum h.cs.pos
  have hBlt := lt_of_heap h.blk
  have HS := Lib.hid (show (getL t L).getD 0 = cnt t L from rfl)
  clear h h1 c1
  by_cases q1 : all ≤ sumL L
  · have HOk := Lib.hid (show okO all tr t L = false by simp [okO]; omega)
    go_enter Try.func87, Try.ntmps87
    go_upto_region 1 with (fail)
    refine o1full (by kernel_rfl) _ _ B r w.heap.size all tr t _ _ L _ H1.out (Lib.hid rfl) (Lib.hid rfl) HC1.out ht q1 rfl rfl ?_
    rintro x w' hx rfl
    simp only [Eng.setAll, Act.put, List.setIfInBounds_toArray, List.set_cons_succ, List.set_cons_zero]
    rw [hx]
    clear hx
    go_wp2_with fail
    go_ret
    exact ⟨by rw [HOk.out]; rfl, by unfold oneL; rw [HOk.out, if_neg (by simp)]; exact H1.out.fr (Fr.drew (fun _ => False) _) (fun h => h) (fun h => h), HF1.out.trans (Fr.drew (fun _ => False) _) (fun _ _ h => h) (fun _ _ h => h.elim)⟩
  · by_cases q2 : tr ≤ cnt t L
    · have HOk := Lib.hid (show okO all tr t L = false by simp [okO]; omega)
      go_enter Try.func87, Try.ntmps87
      go_upto_region 1 with (fail)
      refine o1much (by kernel_rfl) _ _ B r w.heap.size all tr t (cnt t L) _ L _ H1.out (Lib.hid rfl) (Lib.hid HS.out.symm) HC1.out ht q1 q2 rfl rfl rfl ?_
      rintro x w' hx rfl
      simp only [Eng.setAll, Act.put, List.setIfInBounds_toArray, List.set_cons_succ, List.set_cons_zero]
      rw [hx]
      clear hx
      go_wp2_with fail
      go_ret
      exact ⟨by rw [HOk.out]; rfl, by unfold oneL; rw [HOk.out, if_neg (by simp)]; exact H1.out.fr (Fr.drew (fun _ => False) _) (fun h => h) (fun h => h), HF1.out.trans (Fr.drew (fun _ => False) _) (fun _ _ h => h) (fun _ _ h => h.elim)⟩
    · have HOk := Lib.hid (show okO all tr t L = true by simp [okO]; omega)
      go_enter Try.func87, Try.ntmps87
      go_upto_region 1 with (fail)
      refine o1room (by kernel_rfl) _ _ B r w.heap.size all tr t (cnt t L) _ L _ H1.out (Lib.hid rfl) (Lib.hid HS.out.symm) HC1.out ht q1 q2 rfl rfl rfl ?_
      rintro x w' hx rfl
      simp only [Eng.setAll, Act.put, List.setIfInBounds_toArray, List.set_cons_succ, List.set_cons_zero]
      rw [hx]
      clear hx
      have H2 := H1.out.fr (Fr.drew (fun _ => False) _) (fun h => h) (fun h => h)
      have HBx2 : Hid (Bk (w.alloc (.cells #[.int .i64 t, .int .i64 i, .int .i64 p, .int .i64 rv, .string s, .string o, .int .i64 b, .int .i64 d, .bool g] TSp)).drew w.heap.size #[.int .i64 t, .int .i64 i, .int .i64 p, .int .i64 rv, .string s, .string o, .int .i64 b, .int .i64 d, .bool g] TSp) := HBx.out
      have HC2 : Hid ((w.alloc (.cells #[.int .i64 t, .int .i64 i, .int .i64 p, .int .i64 rv, .string s, .string o, .int .i64 b, .int .i64 d, .bool g] TSp)).drew.cell? ⟨w.heap.size, 0, none⟩ = some (.int .i64 t)) := HC1.out
      have HF2 := Lib.hid (HF1.out.trans (Fr.drew (fun _ => False) _) (T := fun k => k = B ∨ k = r) (fun _ _ h => h) (fun _ _ h => h.elim))
      generalize (w.alloc (.cells #[.int .i64 t, .int .i64 i, .int .i64 p, .int .i64 rv, .string s, .string o, .int .i64 b, .int .i64 d, .bool g] TSp)).drew = W at *
      have c2 : W.cell? ⟨B, 2, none⟩ = some (.int .i64 (sumL L)) := H2.blk.cell 2
      have f2 := H2.blk.free 2
      have hrB : r ≠ B := fun e => H2.ne e.symm
      have f3 := H2.blk.tn 2 (.int .i64 (sumL L + 1))
      have hgm3 := H2.gm.fr f3.fr (fun b hb h => by simp at hb h; exact hrB (hb ▸ h))
      have hb3 : Bk (W.setCell ⟨B, 2, none⟩ (.int .i64 (sumL L + 1))) B #[.int .i64 all, .int .i64 tr, .int .i64 (sumL L + 1), .map (some r)] TQ := H2.blk.set 2 (.int .i64 (sumL L + 1))
      have hgm4 : GM (W.setCell ⟨B, 2, none⟩ (.int .i64 (sumL L + 1))).drew r L := hgm3
      have hlk := hgm4.look uM ht
      rw [HS.out] at hlk
      obtain ⟨w5, hup, hgm5, hf5⟩ := hgm4.upd uM ht (wf_small (n := cnt t L + 1) (by omega) (by omega)) (by omega)
      have c3 : (W.setCell ⟨B, 2, none⟩ (.int .i64 (sumL L + 1))).drew.cell? ⟨B, 3, none⟩ = some (.map (some r)) := hb3.cell 3
      have cx : (W.setCell ⟨B, 2, none⟩ (.int .i64 (sumL L + 1))).drew.cell? ⟨w.heap.size, 0, none⟩ = some (.int .i64 t) := (HBx2.out.fr f3.fr (fun b hb h => by simp at hb h; omega)).cell 0
      have HB3 := Lib.hid hb3; have HG5 := Lib.hid hgm5; have HF5 := Lib.hid hf5; have HUp := Lib.hid hup; have HLk := Lib.hid hlk; have HFs := Lib.hid f3.fr; have HQ2 := Lib.hid H2
      clear hb3 hgm5 hf5 hgm3 hgm4 f3 H2 hup hlk
      have HSum := Lib.hid (sum_add HQ2.out.cs t)
      generalize hsm : sumL L = sm at *
      generalize hcn : cnt t L = n at *
      have HCn := Lib.hid hcn; have HSm := Lib.hid hsm
      clear hcn hsm
      go_upto_region 4 with (fail)
      have hup := HUp.out
      have hlk := HLk.out
      refine wp_region_still_tail 8 (by kernel_rfl) (by kernel_rfl) ?_
      simp only [List.take_succ_cons, List.take_zero, List.drop_succ_cons, List.drop_zero]
      change wpStill _ _ (W.setCell ⟨B, 2, none⟩ (.int .i64 (sm + 1))).drew (fun a' => wpList _ _ _ _ a' (W.setCell ⟨B, 2, none⟩ (.int .i64 (sm + 1))).drew) _ _
      iterate 8 still_step
      refine wpStill_nil ?_
      go_wp2_with fail
      go_ret
      have hL : oneL all tr t L = addO t L := by unfold oneL; rw [HOk.out, if_pos rfl]
      have hA : addO t L = insL t (n + 1) L := by unfold addO; rw [HCn.out]
      refine ⟨by rw [HOk.out]; rfl, ?_, ?_⟩
      · rw [hL]
        refine ⟨?_, by rw [hA]; exact HG5.out, HQ2.out.ne, HQ2.out.cs.add t, by rw [HSum.out]; omega⟩
        rw [HSum.out]
        exact (show Bk (W.setCell ⟨B, 2, none⟩ (.int .i64 (sm + 1))).drew B _ TQ from HB3.out).fr HF5.out (fun b hb e => by simp at hb; exact hrB (e ▸ hb))
      · exact ((HF2.out.trans HFs.out (T := fun k => k = B ∨ k = r) (fun _ _ h => h) (fun _ _ h => .inl (by simpa using h))).trans (Fr.drew (fun _ => False) _) (T := fun k => k = B ∨ k = r) (fun _ _ h => h) (fun _ _ h => h.elim)).trans HF5.out (fun _ _ h => h) (fun _ _ h => .inr h)
set_option maxRecDepth 100000 in
set_option maxHeartbeats 400000 in
theorem d6y {ops : Array Oper} (hops : Eng.fnOps Try.f20 6 = ops) (a0 : Act) (Q : Exit → Act → World → Prop) (B r Bx : Nat) (t n : Int) (M : List (Int × Int)) (w : World) (hst : GM w r M) (c3 : w.cell? ⟨B, 3, none⟩ = some (.map (some r))) (e1 : w.cell? ⟨Bx, 0, none⟩ = some (.int .i64 t)) (hnn : Hid (n = (getL t M).getD 0)) (ht : wfI t) (q : (n == 0) = true)
    (hn : a0.tmps.size = 47) (h_0 : a0.tmps.getD 0 undef = .pointer (some ⟨B, 0, none⟩)) (h_5 : a0.tmps.getD 5 undef = .pointer (some ⟨Bx, 0, none⟩))
    (hpost : ∀ (x : Nat → Value) (w' : World), x 39 = .bool true → w' = w.drew → Q .normal (Eng.setAll a0 [32, 33, 34, 35, 36, 37, 38, 39] x) w') :
    (Code.region 6 ops true).wp Try.prog Q a0 w := by
  simp only [Eng.fnOps, Eng.regOps, Try.f20, Option.bind_some, Option.getD_some, Nat.reduceEqDiff, ↓reduceIte, Nat.reduceBEq] at hops
  subst hops
  have HSt := Lib.hid (hst.fr (Fr.drew (fun _ => False) w) (fun _ _ h => h))
  have hSS : w.drew.cell? ⟨B, 3, none⟩ = some (.map (some r)) ∧ w.drew.cell? ⟨Bx, 0, none⟩ = some (.int .i64 t) ∧ (Instr.lookup TM (.map (some r)) (.int .i64 t) false).run Try.prog w.drew = .ok (.int .i64 n) w.drew := ⟨c3, e1, (by rw [hnn.out]; exact HSt.out.look uM ht)⟩
  refine Eng.regionN [(0, true), (1, true), (2, true), (3, true), (4, true), (5, true), (6, true), (7, true)] (fun w' => w'.cell? ⟨B, 3, none⟩ = some (.map (some r)) ∧ w'.cell? ⟨Bx, 0, none⟩ = some (.int .i64 t) ∧ (Instr.lookup TM (.map (some r)) (.int .i64 t) false).run Try.prog w' = .ok (.int .i64 n) w') (by kernel_rfl) 47 hn (by kernel_rfl) rfl (by kernel_rfl) (hSS) (fun a b ha hb => ?_)
  subst ha
  have hb0 : b 0 = .pointer (some ⟨B, 0, none⟩) := (hb 0).symm.trans h_0
  have hb5 : b 5 = .pointer (some ⟨Bx, 0, none⟩) := (hb 5).symm.trans h_5
  clear hb h_0 h_5
  have HP := Lib.hid hpost; have HN := Lib.hid hn
  clear hpost hn
  refine Eng.Sch.take (v := ?_) rfl rfl (by decide) (by kernel_rfl) (fun w hw => ?_) ?_
  rotate_left
  · (try dsimp only at hw); go_simp; first | done | with_reducible rfl
  refine Eng.Sch.take (v := ?_) rfl rfl (by decide) (by kernel_rfl) (fun w hw => ?_) ?_
  rotate_left
  · (try dsimp only at hw); go_simp; first | done | with_reducible rfl
  refine Eng.Sch.take (v := ?_) rfl rfl (by decide) (by kernel_rfl) (fun w hw => ?_) ?_
  rotate_left
  · (try dsimp only at hw); go_simp; first | done | with_reducible rfl
  refine Eng.Sch.take (v := ?_) rfl rfl (by decide) (by kernel_rfl) (fun w hw => ?_) ?_
  rotate_left
  · (try dsimp only at hw); go_simp; first | done | with_reducible rfl
  refine Eng.Sch.take (v := ?_) rfl rfl (by decide) (by kernel_rfl) (fun w hw => ?_) ?_
  rotate_left
  · (try dsimp only at hw); go_simp; first | done | with_reducible rfl
  refine Eng.Sch.take (v := ?_) rfl rfl (by decide) (by kernel_rfl) (fun w hw => ?_) ?_
  rotate_left
  · (try dsimp only at hw); go_simp; first | done | with_reducible rfl
  refine Eng.Sch.take (v := ?_) rfl rfl (by decide) (by kernel_rfl) (fun w hw => ?_) ?_
  rotate_left
  · (try dsimp only at hw); go_simp; first | done | with_reducible rfl
  refine Eng.Sch.take (v := ?_) rfl rfl (by decide) (by kernel_rfl) (fun w hw => ?_) ?_
  rotate_left
  · (try dsimp only at hw); go_simp; first | done | with_reducible rfl
  refine Eng.Sch.end_ [32, 33, 34, 35, 36, 37, 38, 39] HN.out (by kernel_rfl) (by kernel_rfl) ?_
  exact HP.out _ _ rfl rfl

set_option maxRecDepth 100000 in
set_option maxHeartbeats 400000 in
theorem d6n {ops : Array Oper} (hops : Eng.fnOps Try.f20 6 = ops) (a0 : Act) (Q : Exit → Act → World → Prop) (B r Bx : Nat) (t n : Int) (M : List (Int × Int)) (w : World) (hst : GM w r M) (c3 : w.cell? ⟨B, 3, none⟩ = some (.map (some r))) (e1 : w.cell? ⟨Bx, 0, none⟩ = some (.int .i64 t)) (hnn : Hid (n = (getL t M).getD 0)) (ht : wfI t) (q : (n == 0) = false)
    (hn : a0.tmps.size = 47) (h_0 : a0.tmps.getD 0 undef = .pointer (some ⟨B, 0, none⟩)) (h_5 : a0.tmps.getD 5 undef = .pointer (some ⟨Bx, 0, none⟩))
    (hpost : ∀ (x : Nat → Value) (w' : World), x 39 = .bool false → w' = w.drew → Q .normal (Eng.setAll a0 [32, 33, 34, 35, 36, 37, 38, 39] x) w') :
    (Code.region 6 ops true).wp Try.prog Q a0 w := by
  simp only [Eng.fnOps, Eng.regOps, Try.f20, Option.bind_some, Option.getD_some, Nat.reduceEqDiff, ↓reduceIte, Nat.reduceBEq] at hops
  subst hops
  have HSt := Lib.hid (hst.fr (Fr.drew (fun _ => False) w) (fun _ _ h => h))
  have hSS : w.drew.cell? ⟨B, 3, none⟩ = some (.map (some r)) ∧ w.drew.cell? ⟨Bx, 0, none⟩ = some (.int .i64 t) ∧ (Instr.lookup TM (.map (some r)) (.int .i64 t) false).run Try.prog w.drew = .ok (.int .i64 n) w.drew := ⟨c3, e1, (by rw [hnn.out]; exact HSt.out.look uM ht)⟩
  refine Eng.regionN [(0, true), (1, true), (2, true), (3, true), (4, true), (5, true), (6, true), (7, true)] (fun w' => w'.cell? ⟨B, 3, none⟩ = some (.map (some r)) ∧ w'.cell? ⟨Bx, 0, none⟩ = some (.int .i64 t) ∧ (Instr.lookup TM (.map (some r)) (.int .i64 t) false).run Try.prog w' = .ok (.int .i64 n) w') (by kernel_rfl) 47 hn (by kernel_rfl) rfl (by kernel_rfl) (hSS) (fun a b ha hb => ?_)
  subst ha
  have hb0 : b 0 = .pointer (some ⟨B, 0, none⟩) := (hb 0).symm.trans h_0
  have hb5 : b 5 = .pointer (some ⟨Bx, 0, none⟩) := (hb 5).symm.trans h_5
  clear hb h_0 h_5
  have HP := Lib.hid hpost; have HN := Lib.hid hn
  clear hpost hn
  refine Eng.Sch.take (v := ?_) rfl rfl (by decide) (by kernel_rfl) (fun w hw => ?_) ?_
  rotate_left
  · (try dsimp only at hw); go_simp; first | done | with_reducible rfl
  refine Eng.Sch.take (v := ?_) rfl rfl (by decide) (by kernel_rfl) (fun w hw => ?_) ?_
  rotate_left
  · (try dsimp only at hw); go_simp; first | done | with_reducible rfl
  refine Eng.Sch.take (v := ?_) rfl rfl (by decide) (by kernel_rfl) (fun w hw => ?_) ?_
  rotate_left
  · (try dsimp only at hw); go_simp; first | done | with_reducible rfl
  refine Eng.Sch.take (v := ?_) rfl rfl (by decide) (by kernel_rfl) (fun w hw => ?_) ?_
  rotate_left
  · (try dsimp only at hw); go_simp; first | done | with_reducible rfl
  refine Eng.Sch.take (v := ?_) rfl rfl (by decide) (by kernel_rfl) (fun w hw => ?_) ?_
  rotate_left
  · (try dsimp only at hw); go_simp; first | done | with_reducible rfl
  refine Eng.Sch.take (v := ?_) rfl rfl (by decide) (by kernel_rfl) (fun w hw => ?_) ?_
  rotate_left
  · (try dsimp only at hw); go_simp; first | done | with_reducible rfl
  refine Eng.Sch.take (v := ?_) rfl rfl (by decide) (by kernel_rfl) (fun w hw => ?_) ?_
  rotate_left
  · (try dsimp only at hw); go_simp; first | done | with_reducible rfl
  refine Eng.Sch.take (v := ?_) rfl rfl (by decide) (by kernel_rfl) (fun w hw => ?_) ?_
  rotate_left
  · (try dsimp only at hw); go_simp; first | done | with_reducible rfl
  refine Eng.Sch.end_ [32, 33, 34, 35, 36, 37, 38, 39] HN.out (by kernel_rfl) (by kernel_rfl) ?_
  exact HP.out _ _ rfl rfl

end Quota
end Go.Proofs.Ytolpdgaomlhgdaa
