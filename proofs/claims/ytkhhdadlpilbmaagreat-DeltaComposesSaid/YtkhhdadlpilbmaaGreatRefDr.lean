/- Deltas: the document's: may something become of a set. -/
import Derived.Test.YtkhhdadlpilbmaaGreatRefD
namespace Go.Proofs.YtkhhdadlpilbmaaGreat
open Go.RowKit
namespace RefD
open KeyP PackP SetP SetW SetF Delta Comp
attribute [local go_sem] Eng.ev Eng.getO_cons Eng.getO_nil
/-- A delta, and its box. -/
structure RX (w0 w : World) (Bd : Nat) (d : Dl) : Prop where
  rd : RdD w d
  x : Bk w Bd d.arr TDl
  b : Below w0.heap.size w0 w
theorem RX.below {w0 w w' : World} {Bd : Nat} {d : Dl} (h : RX w0 w Bd d) (hb : Below w.heap.size w w') : RX w0 w' Bd d := ⟨h.rd.below hb, Bk.below h.x hb, h.b.trans (hb.mono h.b.size)⟩
theorem RX.keep {w0 w w' : World} {Bd : Nat} {d : Dl} (h : RX w0 w Bd d) (hf : Fr (fun _ => False) w w') : RX w0 w' Bd d := h.below (hf.below (Nat.le_refl _) (fun _ _ h => h))
theorem right_len (O I : List Sn) : (((wout I O).length : Int) == (O.length : Int)) = !O.any (fun x => decide (x ∈ I)) := by
  unfold wout
  rw [Bool.eq_iff_iff, Bool.not_eq_true', List.any_eq_false]
  constructor
  · intro h x hx
    have h1 : (O.filter (fun y => !decide (y ∈ I))).length = O.length := by have := eq_of_beq h; omega
    have := List.length_filter_eq_length_iff.1 h1 x hx
    simpa using this
  · intro h
    have h1 : (O.filter (fun y => !decide (y ∈ I))).length = O.length := List.length_filter_eq_length_iff.2 (fun x hx => by have := h x hx; simpa using this)
    rw [h1]; simp
set_option maxRecDepth 100000 in
set_option maxHeartbeats 400000 in
theorem rt1a {ops : Array Oper} (hops : Eng.fnOps Tryz.f17 1 = ops) (a0 : Act) (Q : Exit → Act → World → Prop) (w0 w : World) (Bd : Nat) (d : Dl) (h1 : d.O.length ≤ 1000000) (h2 : d.I.length ≤ 1000000) (hst : RX w0 w Bd d) (e1 : isB d.O = false)
    (hn : a0.tmps.size = 23) (h_1 : a0.tmps.getD 1 undef = .pointer (some ⟨Bd, 0, none⟩))
    (hpost : ∀ (x : Nat → Value) (w' : World), x 2 = .bool false → RX w0 w' Bd d → Q .normal (Eng.setAll a0 [2, 3, 4, 5, 6, 7, 8, 9, 10, 11, 12, 13, 14, 15, 16, 17, 18, 19, 20, 21, 22] x) w') :
    (Code.region 1 ops true).wp Tryz.prog Q a0 w := by
  simp only [Eng.fnOps, Eng.regOps, Tryz.f17, Option.bind_some, Option.getD_some, Nat.reduceEqDiff, ↓reduceIte, Nat.reduceBEq] at hops
  subst hops
  have HSt := Lib.hid (hst.keep (Fr.drew _ _))
  have hSS : w.drew.cell? ⟨Bd, 0, none⟩ = some (.slice d.A1 d.O.length d.c1) ∧ w.drew.cell? ⟨Bd, 1, none⟩ = some (.slice d.A2 d.I.length d.c2) := ⟨HSt.out.x.cell 0, HSt.out.x.cell 1⟩
  refine Eng.regionT (.take 0 (.take 1 (.alt 2 (.take 3 (.take 4 (.take 5 (.take 6 (.take 7 (.take 8 (.take 9 (.take 10 (.take 11 (.take 12 (.take 13 (.take 14 (.take 15 (.take 16 (.take 17 (.take 18 (.take 19 (.take 20 (.done))))))))))))))))))) (.stop)))) (fun w' => w'.cell? ⟨Bd, 0, none⟩ = some (.slice d.A1 d.O.length d.c1) ∧ w'.cell? ⟨Bd, 1, none⟩ = some (.slice d.A2 d.I.length d.c2)) (by kernel_rfl) 23 hn (by kernel_rfl) (by kernel_rfl) (by kernel_rfl) (hSS) (fun a b ha hb => ?_)
  subst ha
  have hb1 : b 1 = .pointer (some ⟨Bd, 0, none⟩) := (hb 1).symm.trans h_1
  clear hb h_1
  have HP := Lib.hid hpost; have HN := Lib.hid hn
  clear hpost hn
  refine Eng.TW.take' (v := ?_) rfl rfl (by decide) (by kernel_rfl) (fun w hw => ?_) ?_
  rotate_left
  · (try dsimp only at hw); go_simp; first | done | with_reducible rfl
  refine Eng.TW.take' (v := ?_) rfl rfl (by decide) (by kernel_rfl) (fun w hw => ?_) ?_
  rotate_left
  · (try dsimp only at hw); go_simp; first | done | with_reducible rfl
  refine Eng.TW.call rfl rfl (by decide) (by kernel_rfl) ?_ (Is d.A1 d.c1 d.O _ HSt.out.rd.o h1) ?_
  · go_simp
  rintro e w2 ⟨rfl, hf⟩
  have HSt2 := Lib.hid (HSt.out.keep hf)
  have hSS : w2.cell? ⟨Bd, 0, none⟩ = some (.slice d.A1 d.O.length d.c1) ∧ w2.cell? ⟨Bd, 1, none⟩ = some (.slice d.A2 d.I.length d.c2) := ⟨HSt2.out.x.cell 0, HSt2.out.x.cell 1⟩
  clear hf
  rw [e1]
  refine ⟨_, rfl, hSS, ?_⟩
  refine Eng.TW.take' (v := ?_) rfl rfl (by decide) (by kernel_rfl) (fun w hw => ?_) ?_
  rotate_left
  · (try dsimp only at hw); go_simp; first | done | with_reducible rfl
  refine Eng.TW.skip rfl rfl (by decide) (by kernel_rfl) ?_
  refine Eng.TW.skip rfl rfl (by decide) (by kernel_rfl) ?_
  refine Eng.TW.skip rfl rfl (by decide) (by kernel_rfl) ?_
  refine Eng.TW.take' (v := ?_) rfl rfl (by decide) (by kernel_rfl) (fun w hw => ?_) ?_
  rotate_left
  · (try dsimp only at hw); go_simp; first | done | with_reducible rfl
  refine Eng.TW.take' (v := ?_) rfl rfl (by decide) (by kernel_rfl) (fun w hw => ?_) ?_
  rotate_left
  · (try dsimp only at hw); go_simp; first | done | with_reducible rfl
  refine Eng.TW.skip rfl rfl (by decide) (by kernel_rfl) ?_
  refine Eng.TW.skip rfl rfl (by decide) (by kernel_rfl) ?_
  refine Eng.TW.skip rfl rfl (by decide) (by kernel_rfl) ?_
  refine Eng.TW.skip rfl rfl (by decide) (by kernel_rfl) ?_
  refine Eng.TW.skip rfl rfl (by decide) (by kernel_rfl) ?_
  refine Eng.TW.skip rfl rfl (by decide) (by kernel_rfl) ?_
  refine Eng.TW.skip rfl rfl (by decide) (by kernel_rfl) ?_
  refine Eng.TW.skip rfl rfl (by decide) (by kernel_rfl) ?_
  refine Eng.TW.skip rfl rfl (by decide) (by kernel_rfl) ?_
  refine Eng.TW.skip rfl rfl (by decide) (by kernel_rfl) ?_
  refine Eng.TW.take' (v := ?_) rfl rfl (by decide) (by kernel_rfl) (fun w hw => ?_) ?_
  rotate_left
  · (try dsimp only at hw); go_simp; first | done | with_reducible rfl
  refine Eng.TW.take' (v := ?_) rfl rfl (by decide) (by kernel_rfl) (fun w hw => ?_) ?_
  rotate_left
  · (try dsimp only at hw); go_simp; first | done | with_reducible rfl
  refine Eng.TW.end_ [2, 3, 4, 5, 6, 7, 8, 9, 10, 11, 12, 13, 14, 15, 16, 17, 18, 19, 20, 21, 22] HN.out (by kernel_rfl) (by kernel_rfl) ?_
  exact HP.out _ _ rfl HSt2.out

set_option maxRecDepth 100000 in
set_option maxHeartbeats 400000 in
theorem rt1b {ops : Array Oper} (hops : Eng.fnOps Tryz.f17 1 = ops) (a0 : Act) (Q : Exit → Act → World → Prop) (w0 w : World) (Bd : Nat) (d : Dl) (h1 : d.O.length ≤ 1000000) (h2 : d.I.length ≤ 1000000) (hst : RX w0 w Bd d) (e1 : isB d.O = true) (e2 : isB d.I = false)
    (hn : a0.tmps.size = 23) (h_1 : a0.tmps.getD 1 undef = .pointer (some ⟨Bd, 0, none⟩))
    (hpost : ∀ (x : Nat → Value) (w' : World), x 2 = .bool false → RX w0 w' Bd d → Q .normal (Eng.setAll a0 [2, 3, 4, 5, 6, 7, 8, 9, 10, 11, 12, 13, 14, 15, 16, 17, 18, 19, 20, 21, 22] x) w') :
    (Code.region 1 ops true).wp Tryz.prog Q a0 w := by
  simp only [Eng.fnOps, Eng.regOps, Tryz.f17, Option.bind_some, Option.getD_some, Nat.reduceEqDiff, ↓reduceIte, Nat.reduceBEq] at hops
  subst hops
  have HSt := Lib.hid (hst.keep (Fr.drew _ _))
  have hSS : w.drew.cell? ⟨Bd, 0, none⟩ = some (.slice d.A1 d.O.length d.c1) ∧ w.drew.cell? ⟨Bd, 1, none⟩ = some (.slice d.A2 d.I.length d.c2) := ⟨HSt.out.x.cell 0, HSt.out.x.cell 1⟩
  refine Eng.regionT (.take 0 (.take 1 (.alt 2 (.take 3 (.take 4 (.take 5 (.alt 6 (.take 7 (.take 8 (.take 9 (.take 10 (.take 11 (.take 12 (.take 13 (.take 14 (.take 15 (.take 16 (.take 17 (.take 18 (.take 19 (.take 20 (.done))))))))))))))) (.stop))))) (.stop)))) (fun w' => w'.cell? ⟨Bd, 0, none⟩ = some (.slice d.A1 d.O.length d.c1) ∧ w'.cell? ⟨Bd, 1, none⟩ = some (.slice d.A2 d.I.length d.c2)) (by kernel_rfl) 23 hn (by kernel_rfl) (by kernel_rfl) (by kernel_rfl) (hSS) (fun a b ha hb => ?_)
  subst ha
  have hb1 : b 1 = .pointer (some ⟨Bd, 0, none⟩) := (hb 1).symm.trans h_1
  clear hb h_1
  have HP := Lib.hid hpost; have HN := Lib.hid hn
  clear hpost hn
  refine Eng.TW.take' (v := ?_) rfl rfl (by decide) (by kernel_rfl) (fun w hw => ?_) ?_
  rotate_left
  · (try dsimp only at hw); go_simp; first | done | with_reducible rfl
  refine Eng.TW.take' (v := ?_) rfl rfl (by decide) (by kernel_rfl) (fun w hw => ?_) ?_
  rotate_left
  · (try dsimp only at hw); go_simp; first | done | with_reducible rfl
  refine Eng.TW.call rfl rfl (by decide) (by kernel_rfl) ?_ (Is d.A1 d.c1 d.O _ HSt.out.rd.o h1) ?_
  · go_simp
  rintro e w2 ⟨rfl, hf⟩
  have HSt2 := Lib.hid (HSt.out.keep hf)
  have hSS : w2.cell? ⟨Bd, 0, none⟩ = some (.slice d.A1 d.O.length d.c1) ∧ w2.cell? ⟨Bd, 1, none⟩ = some (.slice d.A2 d.I.length d.c2) := ⟨HSt2.out.x.cell 0, HSt2.out.x.cell 1⟩
  clear hf
  rw [e1]
  refine ⟨_, rfl, hSS, ?_⟩
  refine Eng.TW.take' (v := ?_) rfl rfl (by decide) (by kernel_rfl) (fun w hw => ?_) ?_
  rotate_left
  · (try dsimp only at hw); go_simp; first | done | with_reducible rfl
  refine Eng.TW.take' (v := ?_) rfl rfl (by decide) (by kernel_rfl) (fun w hw => ?_) ?_
  rotate_left
  · (try dsimp only at hw); go_simp; first | done | with_reducible rfl
  refine Eng.TW.take' (v := ?_) rfl rfl (by decide) (by kernel_rfl) (fun w hw => ?_) ?_
  rotate_left
  · (try dsimp only at hw); go_simp; first | done | with_reducible rfl
  refine Eng.TW.call rfl rfl (by decide) (by kernel_rfl) ?_ (Is d.A2 d.c2 d.I _ HSt2.out.rd.i h2) ?_
  · go_simp
  rintro e w3 ⟨rfl, hf⟩
  have HSt3 := Lib.hid (HSt2.out.keep hf)
  have hSS : w3.cell? ⟨Bd, 0, none⟩ = some (.slice d.A1 d.O.length d.c1) ∧ w3.cell? ⟨Bd, 1, none⟩ = some (.slice d.A2 d.I.length d.c2) := ⟨HSt3.out.x.cell 0, HSt3.out.x.cell 1⟩
  clear hf
  rw [e2]
  refine ⟨_, rfl, hSS, ?_⟩
  refine Eng.TW.take' (v := ?_) rfl rfl (by decide) (by kernel_rfl) (fun w hw => ?_) ?_
  rotate_left
  · (try dsimp only at hw); go_simp; first | done | with_reducible rfl
  refine Eng.TW.take' (v := ?_) rfl rfl (by decide) (by kernel_rfl) (fun w hw => ?_) ?_
  rotate_left
  · (try dsimp only at hw); go_simp; first | done | with_reducible rfl
  refine Eng.TW.skip rfl rfl (by decide) (by kernel_rfl) ?_
  refine Eng.TW.skip rfl rfl (by decide) (by kernel_rfl) ?_
  refine Eng.TW.skip rfl rfl (by decide) (by kernel_rfl) ?_
  refine Eng.TW.skip rfl rfl (by decide) (by kernel_rfl) ?_
  refine Eng.TW.skip rfl rfl (by decide) (by kernel_rfl) ?_
  refine Eng.TW.skip rfl rfl (by decide) (by kernel_rfl) ?_
  refine Eng.TW.skip rfl rfl (by decide) (by kernel_rfl) ?_
  refine Eng.TW.skip rfl rfl (by decide) (by kernel_rfl) ?_
  refine Eng.TW.skip rfl rfl (by decide) (by kernel_rfl) ?_
  refine Eng.TW.skip rfl rfl (by decide) (by kernel_rfl) ?_
  refine Eng.TW.take' (v := ?_) rfl rfl (by decide) (by kernel_rfl) (fun w hw => ?_) ?_
  rotate_left
  · (try dsimp only at hw); go_simp; first | done | with_reducible rfl
  refine Eng.TW.take' (v := ?_) rfl rfl (by decide) (by kernel_rfl) (fun w hw => ?_) ?_
  rotate_left
  · (try dsimp only at hw); go_simp; first | done | with_reducible rfl
  refine Eng.TW.end_ [2, 3, 4, 5, 6, 7, 8, 9, 10, 11, 12, 13, 14, 15, 16, 17, 18, 19, 20, 21, 22] HN.out (by kernel_rfl) (by kernel_rfl) ?_
  exact HP.out _ _ rfl HSt3.out

set_option maxRecDepth 100000 in
set_option maxHeartbeats 400000 in
theorem rt1c {ops : Array Oper} (hops : Eng.fnOps Tryz.f17 1 = ops) (a0 : Act) (Q : Exit → Act → World → Prop) (w0 w : World) (Bd : Nat) (d : Dl) (h1 : d.O.length ≤ 1000000) (h2 : d.I.length ≤ 1000000) (hst : RX w0 w Bd d) (e1 : isB d.O = true) (e2 : isB d.I = true)
    (hn : a0.tmps.size = 23) (h_1 : a0.tmps.getD 1 undef = .pointer (some ⟨Bd, 0, none⟩))
    (hpost : ∀ (x : Nat → Value) (w' : World), x 2 = .bool (((wout d.I d.O).length : Int) == (d.O.length : Int)) → RX w0 w' Bd d → Q .normal (Eng.setAll a0 [2, 3, 4, 5, 6, 7, 8, 9, 10, 11, 12, 13, 14, 15, 16, 17, 18, 19, 20, 21, 22] x) w') :
    (Code.region 1 ops true).wp Tryz.prog Q a0 w := by
  simp only [Eng.fnOps, Eng.regOps, Tryz.f17, Option.bind_some, Option.getD_some, Nat.reduceEqDiff, ↓reduceIte, Nat.reduceBEq] at hops
  subst hops
  have HSt := Lib.hid (hst.keep (Fr.drew _ _))
  have hSS : w.drew.cell? ⟨Bd, 0, none⟩ = some (.slice d.A1 d.O.length d.c1) ∧ w.drew.cell? ⟨Bd, 1, none⟩ = some (.slice d.A2 d.I.length d.c2) := ⟨HSt.out.x.cell 0, HSt.out.x.cell 1⟩
  refine Eng.regionT (.take 0 (.take 1 (.alt 2 (.take 3 (.take 4 (.take 5 (.alt 6 (.take 7 (.take 8 (.take 9 (.take 10 (.take 11 (.take 12 (.take 15 (.take 16 (.take 17 (.alt 13 (.take 14 (.take 18 (.take 19 (.take 20 (.done))))) (.stop))))))))))) (.stop))))) (.stop)))) (fun w' => w'.cell? ⟨Bd, 0, none⟩ = some (.slice d.A1 d.O.length d.c1) ∧ w'.cell? ⟨Bd, 1, none⟩ = some (.slice d.A2 d.I.length d.c2)) (by kernel_rfl) 23 hn (by kernel_rfl) (by kernel_rfl) (by kernel_rfl) (hSS) (fun a b ha hb => ?_)
  subst ha
  have hb1 : b 1 = .pointer (some ⟨Bd, 0, none⟩) := (hb 1).symm.trans h_1
  clear hb h_1
  have HP := Lib.hid hpost; have HN := Lib.hid hn
  clear hpost hn
  refine Eng.TW.take' (v := ?_) rfl rfl (by decide) (by kernel_rfl) (fun w hw => ?_) ?_
  rotate_left
  · (try dsimp only at hw); go_simp; first | done | with_reducible rfl
  refine Eng.TW.take' (v := ?_) rfl rfl (by decide) (by kernel_rfl) (fun w hw => ?_) ?_
  rotate_left
  · (try dsimp only at hw); go_simp; first | done | with_reducible rfl
  refine Eng.TW.call rfl rfl (by decide) (by kernel_rfl) ?_ (Is d.A1 d.c1 d.O _ HSt.out.rd.o h1) ?_
  · go_simp
  rintro e w2 ⟨rfl, hf⟩
  have HSt2 := Lib.hid (HSt.out.keep hf)
  have hSS : w2.cell? ⟨Bd, 0, none⟩ = some (.slice d.A1 d.O.length d.c1) ∧ w2.cell? ⟨Bd, 1, none⟩ = some (.slice d.A2 d.I.length d.c2) := ⟨HSt2.out.x.cell 0, HSt2.out.x.cell 1⟩
  clear hf
  rw [e1]
  refine ⟨_, rfl, hSS, ?_⟩
  refine Eng.TW.take' (v := ?_) rfl rfl (by decide) (by kernel_rfl) (fun w hw => ?_) ?_
  rotate_left
  · (try dsimp only at hw); go_simp; first | done | with_reducible rfl
  refine Eng.TW.take' (v := ?_) rfl rfl (by decide) (by kernel_rfl) (fun w hw => ?_) ?_
  rotate_left
  · (try dsimp only at hw); go_simp; first | done | with_reducible rfl
  refine Eng.TW.take' (v := ?_) rfl rfl (by decide) (by kernel_rfl) (fun w hw => ?_) ?_
  rotate_left
  · (try dsimp only at hw); go_simp; first | done | with_reducible rfl
  refine Eng.TW.call rfl rfl (by decide) (by kernel_rfl) ?_ (Is d.A2 d.c2 d.I _ HSt2.out.rd.i h2) ?_
  · go_simp
  rintro e w3 ⟨rfl, hf⟩
  have HSt3 := Lib.hid (HSt2.out.keep hf)
  have hSS : w3.cell? ⟨Bd, 0, none⟩ = some (.slice d.A1 d.O.length d.c1) ∧ w3.cell? ⟨Bd, 1, none⟩ = some (.slice d.A2 d.I.length d.c2) := ⟨HSt3.out.x.cell 0, HSt3.out.x.cell 1⟩
  clear hf
  rw [e2]
  refine ⟨_, rfl, hSS, ?_⟩
  refine Eng.TW.take' (v := ?_) rfl rfl (by decide) (by kernel_rfl) (fun w hw => ?_) ?_
  rotate_left
  · (try dsimp only at hw); go_simp; first | done | with_reducible rfl
  refine Eng.TW.take' (v := ?_) rfl rfl (by decide) (by kernel_rfl) (fun w hw => ?_) ?_
  rotate_left
  · (try dsimp only at hw); go_simp; first | done | with_reducible rfl
  refine Eng.TW.take' (v := ?_) rfl rfl (by decide) (by kernel_rfl) (fun w hw => ?_) ?_
  rotate_left
  · (try dsimp only at hw); go_simp; first | done | with_reducible rfl
  refine Eng.TW.take' (v := ?_) rfl rfl (by decide) (by kernel_rfl) (fun w hw => ?_) ?_
  rotate_left
  · (try dsimp only at hw); go_simp; first | done | with_reducible rfl
  refine Eng.TW.take' (v := ?_) rfl rfl (by decide) (by kernel_rfl) (fun w hw => ?_) ?_
  rotate_left
  · (try dsimp only at hw); go_simp; first | done | with_reducible rfl
  refine Eng.TW.take' (v := ?_) rfl rfl (by decide) (by kernel_rfl) (fun w hw => ?_) ?_
  rotate_left
  · (try dsimp only at hw); go_simp; first | done | with_reducible rfl
  refine Eng.TW.take' (v := ?_) rfl rfl (by decide) (by kernel_rfl) (fun w hw => ?_) ?_
  rotate_left
  · (try dsimp only at hw); go_simp; first | done | with_reducible rfl
  refine Eng.TW.take' (v := ?_) rfl rfl (by decide) (by kernel_rfl) (fun w hw => ?_) ?_
  rotate_left
  · (try dsimp only at hw); go_simp; first | done | with_reducible rfl
  refine Eng.TW.take' (v := ?_) rfl rfl (by decide) (by kernel_rfl) (fun w hw => ?_) ?_
  rotate_left
  · (try dsimp only at hw); go_simp; first | done | with_reducible rfl
  refine Eng.TW.call rfl rfl (by decide) (by kernel_rfl) ?_ (Without d.A1 d.A2 d.c1 d.c2 d.O d.I _ HSt3.out.rd.o.s HSt3.out.rd.i.s h1) ?_
  · go_simp
  rintro e w4 ⟨v, rfl, hown, hb⟩
  have HSt4 := Lib.hid (HSt3.out.below hb)
  have hSS : w4.cell? ⟨Bd, 0, none⟩ = some (.slice d.A1 d.O.length d.c1) ∧ w4.cell? ⟨Bd, 1, none⟩ = some (.slice d.A2 d.I.length d.c2) := ⟨HSt4.out.x.cell 0, HSt4.out.x.cell 1⟩
  obtain ⟨A5, c5, rfl, -, -⟩ := Sl.of_own hown
  clear hb hown
  refine ⟨_, rfl, hSS, ?_⟩
  refine Eng.TW.take' (v := ?_) rfl rfl (by decide) (by kernel_rfl) (fun w hw => ?_) ?_
  rotate_left
  · (try dsimp only at hw); go_simp; first | done | with_reducible rfl
  refine Eng.TW.take' (v := ?_) rfl rfl (by decide) (by kernel_rfl) (fun w hw => ?_) ?_
  rotate_left
  · (try dsimp only at hw); go_simp; first | done | with_reducible rfl
  refine Eng.TW.take' (v := ?_) rfl rfl (by decide) (by kernel_rfl) (fun w hw => ?_) ?_
  rotate_left
  · (try dsimp only at hw); go_simp; first | done | with_reducible rfl
  refine Eng.TW.take' (v := ?_) rfl rfl (by decide) (by kernel_rfl) (fun w hw => ?_) ?_
  rotate_left
  · (try dsimp only at hw); go_simp; first | done | with_reducible rfl
  refine Eng.TW.end_ [2, 3, 4, 5, 6, 7, 8, 9, 10, 11, 12, 13, 14, 15, 16, 17, 18, 19, 20, 21, 22] HN.out (by kernel_rfl) (by kernel_rfl) ?_
  exact HP.out _ _ rfl HSt4.out

set_option maxRecDepth 100000 in
set_option maxHeartbeats 1000000 in
theorem Right (d : Dl) (w : World) (hd : RdD w d) (h1 : d.O.length ≤ 1000000) (h2 : d.I.length ≤ 1000000) :
    Calls Tryz.prog 17 #[d.v] w fun e w' => e = .returned (.bool (rightB d.O d.I)) ∧ Below w.heap.size w w' := by
  have hb : Below w.heap.size w (w.alloc (.cells d.arr TDl)) := (Below.refl _ w).alloc (Nat.le_refl _) _
  have HX := Lib.hid (show RX w (w.alloc (.cells d.arr TDl)) w.heap.size d from ⟨hd.keep (Fr.alloc _ _ _), Bk.new _ _ _, hb⟩)
  have HQ : Hid (rightB d.O d.I = (isB d.O && (isB d.I && !d.O.any (fun x => decide (x ∈ d.I))))) := rfl
  have HR := Lib.hid (right_len d.O d.I)
  clear hd hb
  go_enter Tryz.func17, Tryz.ntmps17
  go_upto_region 1 with (fail)
  generalize (w.alloc (.cells d.arr TDl)) = w1 at *
  cases e1 : isB d.O with
  | false =>
    refine rt1a (by kernel_rfl) _ _ w w1 w.heap.size d h1 h2 HX.out e1 rfl rfl ?_
    intro x w2 x2 hx
    simp only [Eng.setAll, Act.put, List.setIfInBounds_toArray, List.set_cons_succ, List.set_cons_zero]
    rw [x2]
    have HX2 := Lib.hid hx
    clear x2 hx
    go_wp2_with fail
    go_ret
    exact ⟨by rw [HQ.out, e1]; rfl, HX2.out.b⟩
  | true =>
    cases e2 : isB d.I with
    | false =>
      refine rt1b (by kernel_rfl) _ _ w w1 w.heap.size d h1 h2 HX.out e1 e2 rfl rfl ?_
      intro x w2 x2 hx
      simp only [Eng.setAll, Act.put, List.setIfInBounds_toArray, List.set_cons_succ, List.set_cons_zero]
      rw [x2]
      have HX2 := Lib.hid hx
      clear x2 hx
      go_wp2_with fail
      go_ret
      exact ⟨by rw [HQ.out, e1, e2]; rfl, HX2.out.b⟩
    | true =>
      refine rt1c (by kernel_rfl) _ _ w w1 w.heap.size d h1 h2 HX.out e1 e2 rfl rfl ?_
      intro x w2 x2 hx
      simp only [Eng.setAll, Act.put, List.setIfInBounds_toArray, List.set_cons_succ, List.set_cons_zero]
      rw [x2, HR.out]
      have HX2 := Lib.hid hx
      clear x2 hx
      go_wp2_with fail
      go_ret
      exact ⟨by rw [HQ.out, e1, e2]; rfl, HX2.out.b⟩
end RefD
end Go.Proofs.YtkhhdadlpilbmaaGreat
