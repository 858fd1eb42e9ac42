/- Layer 21's statements: ClassIs: for every input the answer is true. -/
import Derived.Test.YtmcghchhegfilaaLaw21
namespace Go.Proofs.Ytmcghchhegfilaa
open Go.RowKit
namespace Law21
open KeyP PackP SetP SetW SetF Cls ClsW ClsS ClsF Pack
attribute [local go_sem] Eng.ev Eng.getO_cons Eng.getO_nil
theorem few_len {L : List Sn} {n : Nat} (h : fewB L n = true) : L.length ≤ n := by unfold fewB at h; simp at h; exact h.2
theorem AtP.box {w : World} {B : Nat} {p : Pc} (h : Bk w B p.arr TPl) : AtP w B 0 p := fun j u hu => by
  rw [Nat.zero_add, h.cell j]
  show p.cs.toArray[j]? = _
  simpa using hu
theorem SamePE {A B : Option Addr} {c c2 n m : Nat} {P : List Pc} {w : World} (h1 : Pl w A c n P) (h2 : Pl w B c2 m P) : Calls Try.prog 31 #[.slice A n c, .slice B m c2] w fun e w' => e = .returned (.bool true) ∧ Fr (fun _ => False) w w' :=
  (SameP A B c c2 P P w n m h1.n h2.n h1.s h2.s).mono (fun _ _ ⟨h3, h4⟩ => ⟨by rw [h3, decide_eq_true rfl], h4⟩)
theorem FindE {A : Option Addr} {c n : Nat} {P : List Pc} {w : World} (h : Pl w A c n P) (t i k : Int) (hk : fdI P t i = k) : Calls Try.prog 30 #[.slice A n c, .int .i64 t, .int .i64 i] w fun e w' => e = .returned (.int .i64 k) ∧ Fr (fun _ => False) w w' := by
  obtain ⟨h, rfl⟩ := h
  exact hk ▸ FindP A c P t i w h
theorem fd_no {M : List Sn} {t i : Int} (h : nx M t i = none) : fdI (plcs M) t i = -1 := fd_none (fun p hp e => by
  obtain ⟨y, hy, rfl⟩ := List.mem_map.1 hp
  have := List.find?_eq_none.1 h y hy
  simp at this
  exact this e.1 e.2)
theorem fd_yes {M : List Sn} {t i : Int} {y : Sn} (h : nx M t i = some y) : ∃ k : Nat, ∃ hk : k < M.length, fdI (plcs M) t i = (k : Int) ∧ M[k] = y := by
  obtain ⟨hp, k, hk, hy, hn⟩ := List.find?_eq_some_iff_getElem.1 h
  simp only [Bool.and_eq_true, decide_eq_true_eq] at hp
  refine ⟨k, hk, fd_at (by simpa using hk) (fun p hp e => ?_) (by simp [hy, plc, hp.1]) (by simp [hy, plc, hp.2]), hy⟩
  obtain ⟨j, hj, rfl⟩ := List.mem_iff_getElem.1 hp
  rw [List.length_take] at hj
  have h2 := hn j (by omega)
  simp [plc] at e h2
  rcases h2 with h2 | h2
  · exact h2 e.1
  · exact h2 e.2
set_option maxRecDepth 100000 in
set_option maxHeartbeats 400000 in
theorem ci6a {ops : Array Oper} (hops : Eng.fnOps Try.f7 6 = ops) (a0 : Act) (Q : Exit → Act → World → Prop) (w0 w : World) (Bq : Nat) (p : Pc) (b1 o1 len c k : Nat) (hst : PR2 w0 w b1 (o1 + k * 6) Bq 0 p p) (hk : k < len) (hlen : len ≤ 9223372036854775807)
    (hn : a0.tmps.size = 70) (h_7 : a0.tmps.getD 7 undef = .slice (some ⟨b1, o1, none⟩) len c) (h_8 : a0.tmps.getD 8 undef = .pointer (some ⟨Bq, 0, none⟩)) (h_9 : a0.tmps.getD 9 undef = .bool true) (h_10 : a0.tmps.getD 10 undef = .int .i64 (k : Int))
    (hpost : ∀ (x : Nat → Value) (w' : World), x 51 = .bool false → PR2 w0 w' b1 (o1 + k * 6) Bq 0 p p → Q .normal (Eng.setAll a0 [28, 29, 30, 31, 32, 33, 34, 35, 36, 37, 38, 39, 40, 41, 42, 43, 44, 45, 46, 47, 48, 49, 50, 51] x) w') :
    (Code.region 6 ops true).wp Try.prog Q a0 w := by
  simp only [Eng.fnOps, Eng.regOps, Try.f7, Option.bind_some, Option.getD_some, Nat.reduceEqDiff, ↓reduceIte, Nat.reduceBEq] at hops
  subst hops
  have q1 : (0 : Int) ≤ (k : Int) := by omega
  have q2 : (k : Int) < (len : Int) := by omega
  have q4 : decide ((k : Int) ≥ 0) = true := by simp
  have hq : ∀ W : World, (binOp .neq TPl (.agg #[.int .i64 p.t, .int .i64 p.i, .int .i64 p.c, .int .i64 p.d, .int .i64 p.p, .int .i64 p.f]) (.agg #[.int .i64 p.t, .int .i64 p.i, .int .i64 p.c, .int .i64 p.d, .int .i64 p.p, .int .i64 p.f])).run Try.prog W = .ok (.bool false) W := fun W => (neq_pc p.t p.i p.c p.d p.p p.f p.t p.i p.c p.d p.p p.f W).trans (by rw [show eqP ⟨p.t, p.i, p.c, p.d, p.p, p.f⟩ ⟨p.t, p.i, p.c, p.d, p.p, p.f⟩ = true from eqP_self p]; rfl)
  have HSt := Lib.hid (hst.fr (Fr.drew _ _))
  have hSS : w.drew.cell? ⟨b1, o1 + k * 6, none⟩ = some (.int .i64 p.t) ∧ w.drew.cell? ⟨b1, o1 + k * 6 + 1, none⟩ = some (.int .i64 p.i) ∧ w.drew.cell? ⟨b1, o1 + k * 6 + 1 + 1, none⟩ = some (.int .i64 p.c) ∧ w.drew.cell? ⟨b1, o1 + k * 6 + 1 + 1 + 1, none⟩ = some (.int .i64 p.d) ∧ w.drew.cell? ⟨b1, o1 + k * 6 + 1 + 1 + 1 + 1, none⟩ = some (.int .i64 p.p) ∧ w.drew.cell? ⟨b1, o1 + k * 6 + 1 + 1 + 1 + 1 + 1, none⟩ = some (.int .i64 p.f) ∧ w.drew.cell? ⟨Bq, 0, none⟩ = some (.int .i64 p.t) ∧ w.drew.cell? ⟨Bq, 1, none⟩ = some (.int .i64 p.i) ∧ w.drew.cell? ⟨Bq, 2, none⟩ = some (.int .i64 p.c) ∧ w.drew.cell? ⟨Bq, 3, none⟩ = some (.int .i64 p.d) ∧ w.drew.cell? ⟨Bq, 4, none⟩ = some (.int .i64 p.p) ∧ w.drew.cell? ⟨Bq, 5, none⟩ = some (.int .i64 p.f) := ⟨HSt.out.a 0 _ rfl, HSt.out.a 1 _ rfl, HSt.out.a 2 _ rfl, HSt.out.a 3 _ rfl, HSt.out.a 4 _ rfl, HSt.out.a 5 _ rfl, HSt.out.b 0 _ rfl, HSt.out.b 1 _ rfl, HSt.out.b 2 _ rfl, HSt.out.b 3 _ rfl, HSt.out.b 4 _ rfl, HSt.out.b 5 _ rfl⟩
  refine Eng.regionN [(0, true), (1, true), (2, true), (3, true), (4, true), (5, true), (6, true), (7, true), (8, true), (9, true), (10, true), (11, true), (12, true), (13, true), (14, true), (15, true), (16, true), (17, true), (18, true), (19, true), (20, true), (21, true), (22, true), (23, true)] (fun w' => w'.cell? ⟨b1, o1 + k * 6, none⟩ = some (.int .i64 p.t) ∧ w'.cell? ⟨b1, o1 + k * 6 + 1, none⟩ = some (.int .i64 p.i) ∧ w'.cell? ⟨b1, o1 + k * 6 + 1 + 1, none⟩ = some (.int .i64 p.c) ∧ w'.cell? ⟨b1, o1 + k * 6 + 1 + 1 + 1, none⟩ = some (.int .i64 p.d) ∧ w'.cell? ⟨b1, o1 + k * 6 + 1 + 1 + 1 + 1, none⟩ = some (.int .i64 p.p) ∧ w'.cell? ⟨b1, o1 + k * 6 + 1 + 1 + 1 + 1 + 1, none⟩ = some (.int .i64 p.f) ∧ w'.cell? ⟨Bq, 0, none⟩ = some (.int .i64 p.t) ∧ w'.cell? ⟨Bq, 1, none⟩ = some (.int .i64 p.i) ∧ w'.cell? ⟨Bq, 2, none⟩ = some (.int .i64 p.c) ∧ w'.cell? ⟨Bq, 3, none⟩ = some (.int .i64 p.d) ∧ w'.cell? ⟨Bq, 4, none⟩ = some (.int .i64 p.p) ∧ w'.cell? ⟨Bq, 5, none⟩ = some (.int .i64 p.f)) (by kernel_rfl) 70 hn (by kernel_rfl) rfl (by kernel_rfl) (hSS) (fun a b ha hb => ?_)
  subst ha
  have hb7 : b 7 = .slice (some ⟨b1, o1, none⟩) len c := (hb 7).symm.trans h_7
  have hb8 : b 8 = .pointer (some ⟨Bq, 0, none⟩) := (hb 8).symm.trans h_8
  have hb9 : b 9 = .bool true := (hb 9).symm.trans h_9
  have hb10 : b 10 = .int .i64 (k : Int) := (hb 10).symm.trans h_10
  clear hb h_7 h_8 h_9 h_10
  have HP := Lib.hid hpost; have HN := Lib.hid hn
  clear hpost hn
  refine Eng.Sch.take (v := ?_) rfl rfl (by decide) (by kernel_rfl) (fun w hw => ?_) ?_
  rotate_left
  · (try dsimp only at hw); go_simp; first | done | with_reducible rfl
  refine Eng.Sch.take (v := ?_) rfl rfl (by decide) (by kernel_rfl) (fun w hw => ?_) ?_
  rotate_left
  · (try dsimp only at hw); go_simp; first | done | with_reducible rfl
  refine Eng.Sch.take (v := ?_) rfl rfl (by decide) (by kernel_rfl) (fun w hw => ?_) ?_
  rotate_left
  · (try dsimp only at hw); go_simp; first | done | with_reducible rfl
  refine Eng.Sch.take (v := ?_) rfl rfl (by decide) (by kernel_rfl) (fun w hw => ?_) ?_
  rotate_left
  · (try dsimp only at hw); go_simp; first | done | with_reducible rfl
  refine Eng.Sch.take (v := ?_) rfl rfl (by decide) (by kernel_rfl) (fun w hw => ?_) ?_
  rotate_left
  · (try dsimp only at hw); go_simp; first | done | with_reducible rfl
  refine Eng.Sch.take (v := ?_) rfl rfl (by decide) (by kernel_rfl) (fun w hw => ?_) ?_
  rotate_left
  · (try dsimp only at hw); go_simp; first | done | with_reducible rfl
  refine Eng.Sch.take (v := ?_) rfl rfl (by decide) (by kernel_rfl) (fun w hw => ?_) ?_
  rotate_left
  · (try dsimp only at hw); go_simp; first | done | with_reducible rfl
  refine Eng.Sch.take (v := ?_) rfl rfl (by decide) (by kernel_rfl) (fun w hw => ?_) ?_
  rotate_left
  · (try dsimp only at hw); go_simp; first | done | with_reducible rfl
  refine Eng.Sch.take (v := ?_) rfl rfl (by decide) (by kernel_rfl) (fun w hw => ?_) ?_
  rotate_left
  · (try dsimp only at hw); go_simp; first | done | with_reducible rfl
  refine Eng.Sch.take (v := ?_) rfl rfl (by decide) (by kernel_rfl) (fun w hw => ?_) ?_
  rotate_left
  · (try dsimp only at hw); go_simp; first | done | with_reducible rfl
  refine Eng.Sch.take (v := ?_) rfl rfl (by decide) (by kernel_rfl) (fun w hw => ?_) ?_
  rotate_left
  · (try dsimp only at hw); go_simp; first | done | with_reducible rfl
  refine Eng.Sch.take (v := ?_) rfl rfl (by decide) (by kernel_rfl) (fun w hw => ?_) ?_
  rotate_left
  · (try dsimp only at hw); go_simp; first | done | with_reducible rfl
  refine Eng.Sch.take (v := ?_) rfl rfl (by decide) (by kernel_rfl) (fun w hw => ?_) ?_
  rotate_left
  · (try dsimp only at hw); go_simp; first | done | with_reducible rfl
  refine Eng.Sch.take (v := ?_) rfl rfl (by decide) (by kernel_rfl) (fun w hw => ?_) ?_
  rotate_left
  · (try dsimp only at hw); go_simp; first | done | with_reducible rfl
  refine Eng.Sch.take (v := ?_) rfl rfl (by decide) (by kernel_rfl) (fun w hw => ?_) ?_
  rotate_left
  · (try dsimp only at hw); go_simp; first | done | with_reducible rfl
  refine Eng.Sch.take (v := ?_) rfl rfl (by decide) (by kernel_rfl) (fun w hw => ?_) ?_
  rotate_left
  · (try dsimp only at hw); go_simp; first | done | with_reducible rfl
  refine Eng.Sch.take (v := ?_) rfl rfl (by decide) (by kernel_rfl) (fun w hw => ?_) ?_
  rotate_left
  · (try dsimp only at hw); go_simp; first | done | with_reducible rfl
  refine Eng.Sch.take (v := ?_) rfl rfl (by decide) (by kernel_rfl) (fun w hw => ?_) ?_
  rotate_left
  · (try dsimp only at hw); go_simp; first | done | with_reducible rfl
  refine Eng.Sch.take (v := ?_) rfl rfl (by decide) (by kernel_rfl) (fun w hw => ?_) ?_
  rotate_left
  · (try dsimp only at hw); go_simp; first | done | with_reducible rfl
  refine Eng.Sch.skip rfl rfl (by decide) (by kernel_rfl) ?_
  refine Eng.Sch.skip rfl rfl (by decide) (by kernel_rfl) ?_
  refine Eng.Sch.skip rfl rfl (by decide) (by kernel_rfl) ?_
  refine Eng.Sch.take (v := ?_) rfl rfl (by decide) (by kernel_rfl) (fun w hw => ?_) ?_
  rotate_left
  · (try dsimp only at hw); go_simp; first | done | with_reducible rfl
  refine Eng.Sch.take (v := ?_) rfl rfl (by decide) (by kernel_rfl) (fun w hw => ?_) ?_
  rotate_left
  · (try dsimp only at hw); go_simp; first | done | with_reducible rfl
  refine Eng.Sch.end_ [28, 29, 30, 31, 32, 33, 34, 35, 36, 37, 38, 39, 40, 41, 42, 43, 44, 45, 46, 47, 48, 49, 50, 51] HN.out (by kernel_rfl) (by kernel_rfl) ?_
  exact HP.out _ _ rfl HSt.out

set_option maxRecDepth 100000 in
set_option maxHeartbeats 400000 in
theorem ci6b {ops : Array Oper} (hops : Eng.fnOps Try.f7 6 = ops) (a0 : Act) (Q : Exit → Act → World → Prop) (w0 w : World) (Bq : Nat) (hst : PR w0 w Bq 0 z6)
    (hn : a0.tmps.size = 70) (h_8 : a0.tmps.getD 8 undef = .pointer (some ⟨Bq, 0, none⟩)) (h_9 : a0.tmps.getD 9 undef = .bool false) (h_10 : a0.tmps.getD 10 undef = .int .i64 (-1))
    (hpost : ∀ (x : Nat → Value) (w' : World), x 51 = .bool false → PR w0 w' Bq 0 z6 → Q .normal (Eng.setAll a0 [28, 29, 30, 31, 32, 33, 34, 35, 36, 37, 38, 39, 40, 41, 42, 43, 44, 45, 46, 47, 48, 49, 50, 51] x) w') :
    (Code.region 6 ops true).wp Try.prog Q a0 w := by
  simp only [Eng.fnOps, Eng.regOps, Try.f7, Option.bind_some, Option.getD_some, Nat.reduceEqDiff, ↓reduceIte, Nat.reduceBEq] at hops
  subst hops
  have kb : ∀ W : World, (Instr.build TPl #[]).run Try.prog W = .ok (.agg #[.int .i64 0, .int .i64 0, .int .i64 0, .int .i64 0, .int .i64 0, .int .i64 0]) W := fun W => by kernel_rfl
  have hq : ∀ W : World, (binOp .neq TPl (.agg #[.int .i64 0, .int .i64 0, .int .i64 0, .int .i64 0, .int .i64 0, .int .i64 0]) (.agg #[.int .i64 0, .int .i64 0, .int .i64 0, .int .i64 0, .int .i64 0, .int .i64 0])).run Try.prog W = .ok (.bool false) W := fun W => (neq_pc 0 0 0 0 0 0 0 0 0 0 0 0 W).trans (by rfl)
  have HSt := Lib.hid (hst.fr (Fr.drew _ _))
  have hSS : w.drew.cell? ⟨Bq, 0, none⟩ = some (.int .i64 0) ∧ w.drew.cell? ⟨Bq, 1, none⟩ = some (.int .i64 0) ∧ w.drew.cell? ⟨Bq, 2, none⟩ = some (.int .i64 0) ∧ w.drew.cell? ⟨Bq, 3, none⟩ = some (.int .i64 0) ∧ w.drew.cell? ⟨Bq, 4, none⟩ = some (.int .i64 0) ∧ w.drew.cell? ⟨Bq, 5, none⟩ = some (.int .i64 0) := ⟨HSt.out.a 0 _ rfl, HSt.out.a 1 _ rfl, HSt.out.a 2 _ rfl, HSt.out.a 3 _ rfl, HSt.out.a 4 _ rfl, HSt.out.a 5 _ rfl⟩
  refine Eng.regionN [(0, true), (1, true), (2, true), (3, true), (4, true), (5, true), (6, true), (7, true), (8, true), (9, true), (10, true), (11, true), (12, true), (13, true), (14, true), (15, true), (16, true), (17, true), (18, true), (19, true), (20, true), (21, true), (22, true), (23, true)] (fun w' => w'.cell? ⟨Bq, 0, none⟩ = some (.int .i64 0) ∧ w'.cell? ⟨Bq, 1, none⟩ = some (.int .i64 0) ∧ w'.cell? ⟨Bq, 2, none⟩ = some (.int .i64 0) ∧ w'.cell? ⟨Bq, 3, none⟩ = some (.int .i64 0) ∧ w'.cell? ⟨Bq, 4, none⟩ = some (.int .i64 0) ∧ w'.cell? ⟨Bq, 5, none⟩ = some (.int .i64 0)) (by kernel_rfl) 70 hn (by kernel_rfl) rfl (by kernel_rfl) (hSS) (fun a b ha hb => ?_)
  subst ha
  have hb8 : b 8 = .pointer (some ⟨Bq, 0, none⟩) := (hb 8).symm.trans h_8
  have hb9 : b 9 = .bool false := (hb 9).symm.trans h_9
  have hb10 : b 10 = .int .i64 (-1) := (hb 10).symm.trans h_10
  clear hb h_8 h_9 h_10
  have HP := Lib.hid hpost; have HN := Lib.hid hn
  clear hpost hn
  refine Eng.Sch.take (v := ?_) rfl rfl (by decide) (by kernel_rfl) (fun w hw => ?_) ?_
  rotate_left
  · (try dsimp only at hw); go_simp; first | done | with_reducible rfl
  refine Eng.Sch.take (v := ?_) rfl rfl (by decide) (by kernel_rfl) (fun w hw => ?_) ?_
  rotate_left
  · (try dsimp only at hw); go_simp; first | done | with_reducible rfl
  refine Eng.Sch.take (v := ?_) rfl rfl (by decide) (by kernel_rfl) (fun w hw => ?_) ?_
  rotate_left
  · (try dsimp only at hw); go_simp; first | done | with_reducible rfl
  refine Eng.Sch.take (v := ?_) rfl rfl (by decide) (by kernel_rfl) (fun w hw => ?_) ?_
  rotate_left
  · (try dsimp only at hw); go_simp; first | done | with_reducible rfl
  refine Eng.Sch.take (v := ?_) rfl rfl (by decide) (by kernel_rfl) (fun w hw => ?_) ?_
  rotate_left
  · (try dsimp only at hw); go_simp; first | done | with_reducible rfl
  refine Eng.Sch.take (v := ?_) rfl rfl (by decide) (by kernel_rfl) (fun w hw => ?_) ?_
  rotate_left
  · (try dsimp only at hw); go_simp; first | done | with_reducible rfl
  refine Eng.Sch.take (v := ?_) rfl rfl (by decide) (by kernel_rfl) (fun w hw => ?_) ?_
  rotate_left
  · (try dsimp only at hw); go_simp; first | done | with_reducible rfl
  refine Eng.Sch.skip rfl rfl (by decide) (by kernel_rfl) ?_
  refine Eng.Sch.skip rfl rfl (by decide) (by kernel_rfl) ?_
  refine Eng.Sch.skip rfl rfl (by decide) (by kernel_rfl) ?_
  refine Eng.Sch.skip rfl rfl (by decide) (by kernel_rfl) ?_
  refine Eng.Sch.skip rfl rfl (by decide) (by kernel_rfl) ?_
  refine Eng.Sch.skip rfl rfl (by decide) (by kernel_rfl) ?_
  refine Eng.Sch.take (v := ?_) rfl rfl (by decide) (by kernel_rfl) (fun w hw => ?_) ?_
  rotate_left
  · (try dsimp only at hw); go_simp; first | done | with_reducible rfl
  refine Eng.Sch.take (v := ?_) rfl rfl (by decide) (by kernel_rfl) (fun w hw => ?_) ?_
  rotate_left
  · (try dsimp only at hw); go_simp; first | done | with_reducible rfl
  refine Eng.Sch.take (v := ?_) rfl rfl (by decide) (by kernel_rfl) (fun w hw => ?_) ?_
  rotate_left
  · (try dsimp only at hw); go_simp; first | done | with_reducible rfl
  refine Eng.Sch.take (v := ?_) rfl rfl (by decide) (by kernel_rfl) (fun w hw => ?_) ?_
  rotate_left
  · (try dsimp only at hw); go_simp; first | done | with_reducible rfl
  refine Eng.Sch.take (v := ?_) rfl rfl (by decide) (by kernel_rfl) (fun w hw => ?_) ?_
  rotate_left
  · (try dsimp only at hw); go_simp; first | done | with_reducible rfl
  refine Eng.Sch.take (v := ?_) rfl rfl (by decide) (by kernel_rfl) (fun w hw => ?_) ?_
  rotate_left
  · (try dsimp only at hw); go_simp; first | done | with_reducible rfl
  refine Eng.Sch.take (v := ?_) rfl rfl (by decide) (by kernel_rfl) (fun w hw => ?_) ?_
  rotate_left
  · (try dsimp only at hw); go_simp; first | done | with_reducible rfl
  refine Eng.Sch.take (v := ?_) rfl rfl (by decide) (by kernel_rfl) (fun w hw => ?_) ?_
  rotate_left
  · (try dsimp only at hw); go_simp; first | done | with_reducible rfl
  refine Eng.Sch.take (v := ?_) rfl rfl (by decide) (by kernel_rfl) (fun w hw => ?_) ?_
  rotate_left
  · (try dsimp only at hw); go_simp; first | done | with_reducible rfl
  refine Eng.Sch.take (v := ?_) rfl rfl (by decide) (by kernel_rfl) (fun w hw => ?_) ?_
  rotate_left
  · (try dsimp only at hw); go_simp; first | done | with_reducible rfl
  refine Eng.Sch.take (v := ?_) rfl rfl (by decide) (by kernel_rfl) (fun w hw => ?_) ?_
  rotate_left
  · (try dsimp only at hw); go_simp; first | done | with_reducible rfl
  refine Eng.Sch.end_ [28, 29, 30, 31, 32, 33, 34, 35, 36, 37, 38, 39, 40, 41, 42, 43, 44, 45, 46, 47, 48, 49, 50, 51] HN.out (by kernel_rfl) (by kernel_rfl) ?_
  exact HP.out _ _ rfl HSt.out

set_option maxRecDepth 100000 in
set_option maxHeartbeats 4000000 in
theorem is_ (A0 : Option Addr) (c0 : Nat) (a : List Sn) (t i : Int) (w : World) (h0 : Ls w A0 c0 a) (ht : in64 t) (hi : in64 i) :
    Calls Try.prog 7 #[.slice A0 a.length c0, .int .i64 t, .int .i64 i] w fun e w' => e = .returned (.bool true) ∧ Below w.heap.size w w' := by
  have HA := Lib.hid h0; have HT := Lib.hid ht; have HI := Lib.hid hi
  have HB := Lib.hid (Below.refl w.heap.size w)
  clear h0 ht hi
  go_enter Try.func7, Try.ntmps7
  go_wp2_with fail
  refine (SetF.Few _ _ 30 a w HA.out.s).mono ?_
  rintro e w1 ⟨rfl, hf⟩
  have hb := hf.below (Nat.le_refl _) (fun _ _ h => h)
  clear hf
  replace HA := Lib.hid (HA.out.below hb)
  replace HB := Lib.hid (HB.out.trans (hb.mono HB.out.size))
  clear hb
  cases hq : fewB a 30 with
  | false =>
      go_wp2_with fail
      refine (awake w1).mono ?_
      rintro e w2 ⟨rfl, hb⟩
      replace HA := Lib.hid (HA.out.below hb)
      replace HB := Lib.hid (HB.out.trans (hb.mono HB.out.size))
      clear hb
      go_wp2_with fail
      go_ret
      exact ⟨rfl, HB.out⟩
  | true =>
      have hq_a := few_len hq
      clear hq
      have hsl := Nat.le_trans (spn_len a) hq_a
      obtain ⟨P, hP⟩ : ∃ P, plcs (spn a) = P := ⟨_, rfl⟩
      obtain ⟨l, hl⟩ : ∃ l, ids (wy (spn a) t i) = l := ⟨_, rfl⟩
      have HPe := Lib.hid hP; have HLe := Lib.hid hl
      clear hP hl
      go_wp2_with fail
      refine (ROfE HA.out (by omega) P HPe.out P.length rfl).mono ?_
      rintro e w2 ⟨A1, c1, rfl, hls, hb⟩
      replace HA := Lib.hid (HA.out.below hb)
      replace HB := Lib.hid (HB.out.trans (hb.mono HB.out.size))
      clear hb
      have HP := Lib.hid hls
      clear hls
      cases hn : nx (spn a) t i with
      | none =>
        have hone : onP (spn a) t i = z6 ∧ (nx (spn a) t i).isSome = false := by unfold onP; rw [hn]; exact ⟨rfl, rfl⟩
        have hfd : fdI P t i = -1 := by rw [← HPe.out]; exact fd_no hn
        have HOn := Lib.hid hone; have HFd := Lib.hid hfd
        clear hn hone hfd
        go_wp2_with fail
        refine (OneE HA.out (by omega) HT.out HI.out z6 HOn.out.1 false HOn.out.2).mono ?_
        rintro e w3 ⟨rfl, hb⟩
        replace HA := Lib.hid (HA.out.below hb)
        replace HP := Lib.hid (HP.out.below hb)
        replace HB := Lib.hid (HB.out.trans (hb.mono HB.out.size))
        clear hb
        go_upto_region 5 with (fail)
        have hb := (Below.refl w3.heap.size w3).alloc (Nat.le_refl _) (.cells #[.int .i64 0, .int .i64 0, .int .i64 0, .int .i64 0, .int .i64 0, .int .i64 0] TPl)
        have HQ : Hid (Pb (w3.alloc (.cells #[.int .i64 0, .int .i64 0, .int .i64 0, .int .i64 0, .int .i64 0, .int .i64 0] TPl)) w3.heap.size z6) := ⟨Bk.new w3 z6.arr TPl⟩
        generalize (w3.alloc (.cells #[.int .i64 0, .int .i64 0, .int .i64 0, .int .i64 0, .int .i64 0, .int .i64 0] TPl)) = w4 at *
        replace HA := Lib.hid (HA.out.below hb)
        replace HP := Lib.hid (HP.out.below hb)
        replace HB := Lib.hid (HB.out.trans (hb.mono HB.out.size))
        clear hb
        go_wp2_with fail
        refine (FindE HP.out t i (-1) HFd.out).mono ?_
        rintro e w5 ⟨rfl, hf⟩
        have hb := hf.below (Nat.le_refl _) (fun _ _ h => h)
        clear hf
        replace HA := Lib.hid (HA.out.below hb)
        replace HP := Lib.hid (HP.out.below hb)
        replace HQ := Lib.hid (HQ.out.below hb)
        replace HB := Lib.hid (HB.out.trans (hb.mono HB.out.size))
        clear hb
        go_upto_region 6 with (fail)
        refine ci6b (by kernel_rfl) _ _ w5 w5 w3.heap.size ⟨AtP.box HQ.out.h, Fr.refl _ _⟩ rfl rfl rfl rfl ?_
        intro x w6 h17 hst
        simp only [Eng.setAll, Act.put, List.setIfInBounds_toArray, List.set_cons_succ, List.set_cons_zero]
        rw [h17]
        have hb := hst.f.below (Nat.le_refl w5.heap.size) (fun _ _ h => h)
        clear h17 hst
        replace HA := Lib.hid (HA.out.below hb)
        replace HP := Lib.hid (HP.out.below hb)
        replace HQ := Lib.hid (HQ.out.below hb)
        replace HB := Lib.hid (HB.out.trans (hb.mono HB.out.size))
        clear hb
        go_wp2_with fail
        refine (OfE HA.out (by omega) P HPe.out P.length rfl).mono ?_
        rintro e w7 ⟨A5, c5, rfl, hls, hb⟩
        replace HA := Lib.hid (HA.out.below hb)
        replace HP := Lib.hid (HP.out.below hb)
        replace HQ := Lib.hid (HQ.out.below hb)
        replace HB := Lib.hid (HB.out.trans (hb.mono HB.out.size))
        clear hb
        have HC := Lib.hid hls
        clear hls
        go_wp2_with fail
        refine (SamePE HC.out HP.out).mono ?_
        rintro e w8 ⟨rfl, hf⟩
        have hb := hf.below (Nat.le_refl _) (fun _ _ h => h)
        clear hf
        replace HA := Lib.hid (HA.out.below hb)
        replace HP := Lib.hid (HP.out.below hb)
        replace HQ := Lib.hid (HQ.out.below hb)
        replace HC := Lib.hid (HC.out.below hb)
        replace HB := Lib.hid (HB.out.trans (hb.mono HB.out.size))
        clear hb
        go_wp2_with fail
        refine (ChainE HA.out (by omega) HT.out HI.out l HLe.out l.length rfl).mono ?_
        rintro e w9 ⟨A6, c6, rfl, hls, hb⟩
        replace HA := Lib.hid (HA.out.below hb)
        replace HP := Lib.hid (HP.out.below hb)
        replace HQ := Lib.hid (HQ.out.below hb)
        replace HC := Lib.hid (HC.out.below hb)
        replace HB := Lib.hid (HB.out.trans (hb.mono HB.out.size))
        clear hb
        have HD := Lib.hid hls
        clear hls
        go_wp2_with fail
        refine (RChainE HA.out (by omega) l HLe.out l.length rfl).mono ?_
        rintro e w10 ⟨A7, c7, rfl, hls, hb⟩
        replace HA := Lib.hid (HA.out.below hb)
        replace HP := Lib.hid (HP.out.below hb)
        replace HQ := Lib.hid (HQ.out.below hb)
        replace HC := Lib.hid (HC.out.below hb)
        replace HD := Lib.hid (HD.out.below hb)
        replace HB := Lib.hid (HB.out.trans (hb.mono HB.out.size))
        clear hb
        have HE := Lib.hid hls
        clear hls
        go_wp2_with fail
        refine (SameI HD.out HE.out).mono ?_
        rintro e w11 ⟨rfl, hf⟩
        have hb := hf.below (Nat.le_refl _) (fun _ _ h => h)
        clear hf
        replace HA := Lib.hid (HA.out.below hb)
        replace HP := Lib.hid (HP.out.below hb)
        replace HQ := Lib.hid (HQ.out.below hb)
        replace HC := Lib.hid (HC.out.below hb)
        replace HD := Lib.hid (HD.out.below hb)
        replace HE := Lib.hid (HE.out.below hb)
        replace HB := Lib.hid (HB.out.trans (hb.mono HB.out.size))
        clear hb
        go_wp2_with fail
        refine (awake w11).mono ?_
        rintro e w12 ⟨rfl, hb⟩
        replace HA := Lib.hid (HA.out.below hb)
        replace HP := Lib.hid (HP.out.below hb)
        replace HQ := Lib.hid (HQ.out.below hb)
        replace HC := Lib.hid (HC.out.below hb)
        replace HD := Lib.hid (HD.out.below hb)
        replace HE := Lib.hid (HE.out.below hb)
        replace HB := Lib.hid (HB.out.trans (hb.mono HB.out.size))
        clear hb
        go_wp2_with fail
        go_ret
        exact ⟨rfl, HB.out⟩
      | some y =>
        have hone : onP (spn a) t i = plc (spn a) y ∧ (nx (spn a) t i).isSome = true := by unfold onP; rw [hn]; exact ⟨rfl, rfl⟩
        obtain ⟨k, hk, hfd, hky⟩ := fd_yes hn
        have hkp : k < P.length := by rw [← HPe.out]; simpa using hk
        have hpk : P[k] = plc (spn a) y := by have h2 : ∀ (Q : List Pc) (e : plcs (spn a) = Q) (h : k < Q.length), Q[k] = plc (spn a) y := fun Q e h => by subst e; simp [hky]
                                              exact h2 P HPe.out hkp
        rw [HPe.out] at hfd
        have HOn := Lib.hid hone; have HFd := Lib.hid hfd; have HPk := Lib.hid hpk
        generalize plc (spn a) y = p at *
        clear hn hone hfd hpk hky hk
        go_wp2_with fail
        refine (OneE HA.out (by omega) HT.out HI.out p HOn.out.1 true HOn.out.2).mono ?_
        rintro e w3 ⟨rfl, hb⟩
        replace HA := Lib.hid (HA.out.below hb)
        replace HP := Lib.hid (HP.out.below hb)
        replace HB := Lib.hid (HB.out.trans (hb.mono HB.out.size))
        clear hb
        go_upto_region 5 with (fail)
        have hb := (Below.refl w3.heap.size w3).alloc (Nat.le_refl _) (.cells p.arr TPl)
        have HQ : Hid (Pb (w3.alloc (.cells p.arr TPl)) w3.heap.size p) := ⟨Bk.new w3 p.arr TPl⟩
        generalize (w3.alloc (.cells p.arr TPl)) = w4 at *
        replace HA := Lib.hid (HA.out.below hb)
        replace HP := Lib.hid (HP.out.below hb)
        replace HB := Lib.hid (HB.out.trans (hb.mono HB.out.size))
        clear hb
        go_wp2_with fail
        refine (FindE HP.out t i (k : Int) HFd.out).mono ?_
        rintro e w5 ⟨rfl, hf⟩
        have hb := hf.below (Nat.le_refl _) (fun _ _ h => h)
        clear hf
        replace HA := Lib.hid (HA.out.below hb)
        replace HP := Lib.hid (HP.out.below hb)
        replace HQ := Lib.hid (HQ.out.below hb)
        replace HB := Lib.hid (HB.out.trans (hb.mono HB.out.size))
        clear hb
        go_upto_region 6 with (fail)
        obtain ⟨b1, o1, rfl, hb1, c1'⟩ := HP.out.s.at hkp (by omega)
        have ha1 := AtP.row c1' hkp
        rw [HPk.out] at ha1
        have hPl : P.length ≤ 9223372036854775807 := by rw [← HPe.out]; simp; omega
        refine ci6a (by kernel_rfl) _ _ w5 w5 w3.heap.size p b1 o1 P.length c1 k ⟨ha1, AtP.box HQ.out.h, Fr.refl _ _⟩ hkp hPl rfl rfl rfl rfl rfl ?_
        intro x w6 h17 hst
        simp only [Eng.setAll, Act.put, List.setIfInBounds_toArray, List.set_cons_succ, List.set_cons_zero]
        rw [h17]
        have hb := hst.f.below (Nat.le_refl w5.heap.size) (fun _ _ h => h)
        clear h17 hst c1' hb1 ha1
        replace HA := Lib.hid (HA.out.below hb)
        replace HP := Lib.hid (HP.out.below hb)
        replace HQ := Lib.hid (HQ.out.below hb)
        replace HB := Lib.hid (HB.out.trans (hb.mono HB.out.size))
        clear hb
        go_wp2_with fail
        refine (OfE HA.out (by omega) P HPe.out P.length rfl).mono ?_
        rintro e w7 ⟨A5, c5, rfl, hls, hb⟩
        replace HA := Lib.hid (HA.out.below hb)
        replace HP := Lib.hid (HP.out.below hb)
        replace HQ := Lib.hid (HQ.out.below hb)
        replace HB := Lib.hid (HB.out.trans (hb.mono HB.out.size))
        clear hb
        have HC := Lib.hid hls
        clear hls
        go_wp2_with fail
        refine (SamePE HC.out HP.out).mono ?_
        rintro e w8 ⟨rfl, hf⟩
        have hb := hf.below (Nat.le_refl _) (fun _ _ h => h)
        clear hf
        replace HA := Lib.hid (HA.out.below hb)
        replace HP := Lib.hid (HP.out.below hb)
        replace HQ := Lib.hid (HQ.out.below hb)
        replace HC := Lib.hid (HC.out.below hb)
        replace HB := Lib.hid (HB.out.trans (hb.mono HB.out.size))
        clear hb
        go_wp2_with fail
        refine (ChainE HA.out (by omega) HT.out HI.out l HLe.out l.length rfl).mono ?_
        rintro e w9 ⟨A6, c6, rfl, hls, hb⟩
        replace HA := Lib.hid (HA.out.below hb)
        replace HP := Lib.hid (HP.out.below hb)
        replace HQ := Lib.hid (HQ.out.below hb)
        replace HC := Lib.hid (HC.out.below hb)
        replace HB := Lib.hid (HB.out.trans (hb.mono HB.out.size))
        clear hb
        have HD := Lib.hid hls
        clear hls
        go_wp2_with fail
        refine (RChainE HA.out (by omega) l HLe.out l.length rfl).mono ?_
        rintro e w10 ⟨A7, c7, rfl, hls, hb⟩
        replace HA := Lib.hid (HA.out.below hb)
        replace HP := Lib.hid (HP.out.below hb)
        replace HQ := Lib.hid (HQ.out.below hb)
        replace HC := Lib.hid (HC.out.below hb)
        replace HD := Lib.hid (HD.out.below hb)
        replace HB := Lib.hid (HB.out.trans (hb.mono HB.out.size))
        clear hb
        have HE := Lib.hid hls
        clear hls
        go_wp2_with fail
        refine (SameI HD.out HE.out).mono ?_
        rintro e w11 ⟨rfl, hf⟩
        have hb := hf.below (Nat.le_refl _) (fun _ _ h => h)
        clear hf
        replace HA := Lib.hid (HA.out.below hb)
        replace HP := Lib.hid (HP.out.below hb)
        replace HQ := Lib.hid (HQ.out.below hb)
        replace HC := Lib.hid (HC.out.below hb)
        replace HD := Lib.hid (HD.out.below hb)
        replace HE := Lib.hid (HE.out.below hb)
        replace HB := Lib.hid (HB.out.trans (hb.mono HB.out.size))
        clear hb
        go_wp2_with fail
        refine (awake w11).mono ?_
        rintro e w12 ⟨rfl, hb⟩
        replace HA := Lib.hid (HA.out.below hb)
        replace HP := Lib.hid (HP.out.below hb)
        replace HQ := Lib.hid (HQ.out.below hb)
        replace HC := Lib.hid (HC.out.below hb)
        replace HD := Lib.hid (HD.out.below hb)
        replace HE := Lib.hid (HE.out.below hb)
        replace HB := Lib.hid (HB.out.trans (hb.mono HB.out.size))
        clear hb
        go_wp2_with fail
        go_ret
        exact ⟨rfl, HB.out⟩
end Law21
end Go.Proofs.Ytmcghchhegfilaa
