/- Layer 12's statements: AvlPlays: the statements that draw their order, the second. -/
import Derived.Test.YtolpdgaomlhgdaaLaw12s
import Derived.Test.YtolpdgaomlhgdaaEng
import Derived.Lib.Hide
namespace Go.Proofs.Ytolpdgaomlhgdaa
open Go.RowKit
namespace Law12
open Ref12
attribute [local go_sem] Eng.ev Eng.getO_cons Eng.getO_nil

set_option maxRecDepth 100000 in
set_option maxHeartbeats 400000 in
theorem r15_last {ops : Array Oper} (hops : Eng.fnOps Try.f5 15 = ops) (a0 : Act) (Q : Exit → Act → World → Prop) (n0 Bm Bx Ba : Nat) (gv kl : Int) (gb : Bool) (y : Int × Int × Int) (M : List (Int × Int)) (F2 : List Nat) (A2 : Option Addr) (c2 : Nat) (w0 w : World) (hst : St n0 Bm Bx M F2 M A2 c2 w0 w) (hac : Ac Ba Bm Bx F2 y w) (hM : M.length ≤ 1000) (h0 : 0 < M.length) (hkl : kl = (M[M.length - 1]'(by omega)).1)
    (hn : a0.tmps.size = 202) (h_3 : a0.tmps.getD 3 undef = .pointer (some ⟨Bm, 0, none⟩)) (h_5 : a0.tmps.getD 5 undef = .pointer (some ⟨Bx, 0, none⟩)) (h_8 : a0.tmps.getD 8 undef = .int .i64 gv) (h_9 : a0.tmps.getD 9 undef = .bool gb) (h_10 : a0.tmps.getD 10 undef = .int .i64 gv) (h_11 : a0.tmps.getD 11 undef = .bool gb) (h_12 : a0.tmps.getD 12 undef = .int .i64 kl) (h_13 : a0.tmps.getD 13 undef = .bool true)
    (hQ : ∀ c (a : Act) (d : Nat) (v : Value) w, Q (.panic c) (a.put (some d) v) w → Q (.panic c) a w)
    (hpost : ∀ (x : Nat → Value) (w' : World), x 144 = .bool false → St n0 Bm Bx M F2 M A2 c2 w0 w' → Ac Ba Bm Bx F2 y w' → Q .normal (Eng.setAll a0 [83, 84, 85, 86, 87, 88, 89, 90, 91, 92, 93, 94, 95, 96, 97, 98, 99, 100, 101, 102, 103, 104, 105, 106, 107, 108, 109, 110, 111, 112, 113, 114, 115, 116, 117, 118, 119, 120, 121, 122, 123, 124, 125, 126, 127, 128, 129, 130, 131, 132, 133, 134, 135, 136, 137, 138, 139, 140, 141, 142, 143, 144] x) w') :
    (Code.region 15 ops true).wp Try.prog Q a0 w := by
  simp only [Eng.fnOps, Eng.regOps, Try.f5, Option.bind_some, Option.getD_some, Nat.reduceEqDiff, ↓reduceIte, Nat.reduceBEq] at hops
  subst hops
  have HStd := Lib.hid (hst.fr (Fr.drew _ _)); have HAcd := Lib.hid (hac.fr (Fr.drew (fun _ => False) _) (fun h => h))
  have HLen := Lib.hid (AvlII.LenB Bm M F2 w.drew HStd.out.map)
  have q1 : (gv != gv) = false := by simp
  have q2 : (gb != gb) = false := by simp
  clear hst hac
  obtain ⟨b2, o2, rfl, hb2, hc2⟩ := HStd.out.row.at (i := M.length - 1) (by omega) (by omega)
  have f1 : w.drew.cell? ⟨b2, o2 + (M.length - 1) * 2, none⟩ = some (.int .i64 kl) := by
    rw [hkl]; exact hc2 ((M.length - 1) * 2) _ (by rw [← Nat.add_zero ((M.length - 1) * 2), flat_at pc_len (by omega) (by omega)]; rfl)
  clear hc2 hkl
  have q3 : ((M.length : Int) != (M.length : Int)) = false := by simp
  have q4 : (kl != kl) = false := by simp
  have q5 : (0 : Int) < (M.length : Int) := by omega
  have q6 : IntKind.i64.wrap ((M.length : Int) - 1) = ((M.length - 1 : Nat) : Int) := by rw [IntWalk.i64_in _ (by omega)]; omega
  have q7 : ((M.length - 1 : Nat) : Int) < (M.length : Int) := by omega
  have hSS : w.drew.cell? ⟨Bx, 0, none⟩ = some (.slice (some ⟨b2, o2, none⟩) M.length c2) ∧ w.drew.cell? ⟨b2, o2 + (M.length - 1) * 2, none⟩ = some (.int .i64 kl) := ⟨cell_of_block HStd.out.box 0, f1⟩
  refine Eng.region' [(0, true), (1, true), (2, true), (3, true), (4, true), (5, true), (6, true), (7, true), (8, true), (10, true), (11, true), (12, true), (13, true), (14, true), (9, false), (15, true), (16, true), (17, true), (19, true), (18, false), (20, false), (21, false), (22, true), (23, true), (24, true), (25, true), (26, true), (27, true), (28, true), (29, true), (30, true), (31, true), (32, true), (33, true), (34, true), (35, true), (36, true), (37, true), (38, true), (39, true), (40, true), (41, true), (42, true), (43, true), (44, true), (45, true), (46, true), (47, true), (48, true), (49, true), (50, true), (51, true), (52, true), (53, true), (54, true), (55, true), (56, true), (57, true), (58, true), (59, true), (60, true), (61, true)] (fun w' => w'.cell? ⟨Bx, 0, none⟩ = some (.slice (some ⟨b2, o2, none⟩) M.length c2) ∧ w'.cell? ⟨b2, o2 + (M.length - 1) * 2, none⟩ = some (.int .i64 kl)) (by kernel_rfl) 202 hn (by kernel_rfl) hQ rfl (by kernel_rfl) (hSS) (fun a b ha hb => ?_)
  subst ha
  have hb3 : b 3 = .pointer (some ⟨Bm, 0, none⟩) := (hb 3).symm.trans h_3
  have hb5 : b 5 = .pointer (some ⟨Bx, 0, none⟩) := (hb 5).symm.trans h_5
  have hb8 : b 8 = .int .i64 gv := (hb 8).symm.trans h_8
  have hb9 : b 9 = .bool gb := (hb 9).symm.trans h_9
  have hb10 : b 10 = .int .i64 gv := (hb 10).symm.trans h_10
  have hb11 : b 11 = .bool gb := (hb 11).symm.trans h_11
  have hb12 : b 12 = .int .i64 kl := (hb 12).symm.trans h_12
  have hb13 : b 13 = .bool true := (hb 13).symm.trans h_13
  clear hb h_3 h_5 h_8 h_9 h_10 h_11 h_12 h_13
  have HP := Lib.hid hpost; have HN := Lib.hid hn
  clear hpost hn hQ
  refine Eng.Sch.take (v := ?_) rfl rfl (by decide) (by kernel_rfl) (fun w hw => ?_) ?_
  rotate_left
  · (try dsimp only at hw); go_simp; first | done | with_reducible rfl
  refine Eng.Sch.take (v := ?_) rfl rfl (by decide) (by kernel_rfl) (fun w hw => ?_) ?_
  rotate_left
  · (try dsimp only at hw); go_simp; first | done | with_reducible rfl
  refine Eng.Sch.take (v := ?_) rfl rfl (by decide) (by kernel_rfl) (fun w hw => ?_) ?_
  rotate_left
  · (try dsimp only at hw); go_simp; first | done | with_reducible rfl
  refine Eng.Sch.take (v := ?_) rfl rfl (by decide) (by kernel_rfl) (fun w hw => ?_) ?_
  rotate_left
  · (try dsimp only at hw); go_simp; first | done | with_reducible rfl
  refine Eng.Sch.take (v := ?_) rfl rfl (by decide) (by kernel_rfl) (fun w hw => ?_) ?_
  rotate_left
  · (try dsimp only at hw); go_simp; first | done | with_reducible rfl
  refine Eng.Sch.take (v := ?_) rfl rfl (by decide) (by kernel_rfl) (fun w hw => ?_) ?_
  rotate_left
  · (try dsimp only at hw); go_simp; first | done | with_reducible rfl
  refine Eng.Sch.take (v := ?_) rfl rfl (by decide) (by kernel_rfl) (fun w hw => ?_) ?_
  rotate_left
  · (try dsimp only at hw); go_simp; first | done | with_reducible rfl
  refine Eng.Sch.take (v := ?_) rfl rfl (by decide) (by kernel_rfl) (fun w hw => ?_) ?_
  rotate_left
  · (try dsimp only at hw); go_simp; first | done | with_reducible rfl
  refine Eng.Sch.take (v := ?_) rfl rfl (by decide) (by kernel_rfl) (fun w hw => ?_) ?_
  rotate_left
  · (try dsimp only at hw); go_simp; first | done | with_reducible rfl
  refine Eng.Sch.take (v := ?_) rfl rfl (by decide) (by kernel_rfl) (fun w hw => ?_) ?_
  rotate_left
  · (try dsimp only at hw); go_simp; first | done | with_reducible rfl
  refine Eng.Sch.take (v := ?_) rfl rfl (by decide) (by kernel_rfl) (fun w hw => ?_) ?_
  rotate_left
  · (try dsimp only at hw); go_simp; first | done | with_reducible rfl
  refine Eng.Sch.take (v := ?_) rfl rfl (by decide) (by kernel_rfl) (fun w hw => ?_) ?_
  rotate_left
  · (try dsimp only at hw); go_simp; first | done | with_reducible rfl
  refine Eng.Sch.take (v := ?_) rfl rfl (by decide) (by kernel_rfl) (fun w hw => ?_) ?_
  rotate_left
  · (try dsimp only at hw); go_simp; first | done | with_reducible rfl
  refine Eng.Sch.take (v := ?_) rfl rfl (by decide) (by kernel_rfl) (fun w hw => ?_) ?_
  rotate_left
  · (try dsimp only at hw); go_simp; first | done | with_reducible rfl
  refine Eng.Sch.call rfl rfl (by decide) (by kernel_rfl) ?_ (HLen.out) ?_
  · go_simp
  rintro e w2 ⟨rfl, rfl⟩
  refine ⟨_, rfl, hSS, ?_⟩
  refine Eng.Sch.take (v := ?_) rfl rfl (by decide) (by kernel_rfl) (fun w hw => ?_) ?_
  rotate_left
  · (try dsimp only at hw); go_simp; first | done | with_reducible rfl
  refine Eng.Sch.take (v := ?_) rfl rfl (by decide) (by kernel_rfl) (fun w hw => ?_) ?_
  rotate_left
  · (try dsimp only at hw); go_simp; first | done | with_reducible rfl
  refine Eng.Sch.take (v := ?_) rfl rfl (by decide) (by kernel_rfl) (fun w hw => ?_) ?_
  rotate_left
  · (try dsimp only at hw); go_simp; first | done | with_reducible rfl
  refine Eng.Sch.take (v := ?_) rfl rfl (by decide) (by kernel_rfl) (fun w hw => ?_) ?_
  rotate_left
  · (try dsimp only at hw); go_simp; first | done | with_reducible rfl
  refine Eng.Sch.call rfl rfl (by decide) (by kernel_rfl) ?_ (AvlII.KeysB Bm M F2 w.drew HStd.out.map (by omega)) ?_
  · go_simp
  rintro e w3 ⟨v3, rfl, hown3, hb3⟩
  have HSt3 := Lib.hid (HStd.out.below hb3); have HAc3 := Lib.hid (HAcd.out.fr ((Fr.of_below hb3).mono (T := fun _ => False) (fun i hi h => by omega)) (fun h => h))
  have hSS : w3.cell? ⟨Bx, 0, none⟩ = some (.slice (some ⟨b2, o2, none⟩) M.length c2) ∧ w3.cell? ⟨b2, o2 + (M.length - 1) * 2, none⟩ = some (.int .i64 kl) := ⟨cell_of_block HSt3.out.box 0, (hb3.cell (p := ⟨b2, _, none⟩) hb2).trans hSS.2⟩
  have HO3 := Lib.hid hown3
  clear hown3 hb3
  refine ⟨_, rfl, hSS, ?_⟩
  refine Eng.Sch.call rfl rfl (by decide) (by kernel_rfl) ?_ (Ref12.Keys Bx (some ⟨b2, o2, none⟩) c2 M w3 HSt3.out.box HSt3.out.row (by first | omega | simp)) ?_
  · go_simp
  rintro e w4 ⟨v4, rfl, hown4, hb4⟩
  have HSt4 := Lib.hid (HSt3.out.below hb4); have HAc4 := Lib.hid (HAc3.out.fr ((Fr.of_below hb4).mono (T := fun _ => False) (fun i hi h => by omega)) (fun h => h))
  have HO3' := Lib.hid (ownsRow_fr HO3.out ((Fr.of_below hb4).mono (T := fun _ => False) (fun i hi h => by omega)) (fun _ _ h => h))
  obtain ⟨A3, c3, rfl, hS3, hA3⟩ := Sl.of_own HO3'.out
  obtain ⟨A4, c4, rfl, hS4, hA4⟩ := Sl.of_own hown4
  have hSS : w4.cell? ⟨Bx, 0, none⟩ = some (.slice (some ⟨b2, o2, none⟩) M.length c2) ∧ w4.cell? ⟨b2, o2 + (M.length - 1) * 2, none⟩ = some (.int .i64 kl) := ⟨cell_of_block HSt4.out.box 0, (hb4.cell (p := ⟨b2, _, none⟩) (by have := HSt3.out.fA _ rfl; exact this.2.2.2.2)).trans hSS.2⟩
  have HS3 := Lib.hid (show Sl w4 1 A3 (M.map (·.1)).length c3 (ints (M.map (·.1))) by simpa [Function.comp_def] using hS3)
  have HS4 := Lib.hid (show Sl w4 1 A4 (M.map (·.1)).length c4 (ints (M.map (·.1))) by simpa [Function.comp_def] using hS4)
  clear hown4 hb4 hS3 hS4 hA3 hA4
  refine ⟨_, rfl, hSS, ?_⟩
  refine Eng.Sch.call rfl rfl (by decide) (by kernel_rfl) ?_ (SameInts' A3 A4 c3 c4 (M.map (·.1)) (M.map (·.1)) w4 M.length M.length (by simp) (by simp) HS3.out HS4.out) ?_
  · go_simp
  rintro e w5 ⟨rfl, hf5⟩
  have HSt5 := Lib.hid (HSt4.out.fr hf5); have HAc5 := Lib.hid (HAc4.out.fr hf5 (fun h => h))
  have hSS : w5.cell? ⟨Bx, 0, none⟩ = some (.slice (some ⟨b2, o2, none⟩) M.length c2) ∧ w5.cell? ⟨b2, o2 + (M.length - 1) * 2, none⟩ = some (.int .i64 kl) := ⟨cell_of_block HSt5.out.box 0, (World.cell?_of_block (w := w4) (hf5.block b2 (by have := HSt4.out.fA _ rfl; exact this.2.2.2.2) (fun h => h))).trans hSS.2⟩
  have q9 : decide (M.map (·.1) = M.map (·.1)) = true := by simp
  clear hf5
  refine ⟨_, rfl, hSS, ?_⟩
  refine Eng.Sch.take (v := ?_) rfl rfl (by decide) (by kernel_rfl) (fun w hw => ?_) ?_
  rotate_left
  · (try dsimp only at hw); go_simp; first | done | with_reducible rfl
  refine Eng.Sch.take (v := ?_) rfl rfl (by decide) (by kernel_rfl) (fun w hw => ?_) ?_
  rotate_left
  · (try dsimp only at hw); go_simp; first | done | with_reducible rfl
  refine Eng.Sch.take (v := ?_) rfl rfl (by decide) (by kernel_rfl) (fun w hw => ?_) ?_
  rotate_left
  · (try dsimp only at hw); go_simp; first | done | with_reducible rfl
  refine Eng.Sch.take (v := ?_) rfl rfl (by decide) (by kernel_rfl) (fun w hw => ?_) ?_
  rotate_left
  · (try dsimp only at hw); go_simp; first | done | with_reducible rfl
  refine Eng.Sch.take (v := ?_) rfl rfl (by decide) (by kernel_rfl) (fun w hw => ?_) ?_
  rotate_left
  · (try dsimp only at hw); go_simp; first | done | with_reducible rfl
  refine Eng.Sch.take (v := ?_) rfl rfl (by decide) (by kernel_rfl) (fun w hw => ?_) ?_
  rotate_left
  · (try dsimp only at hw); go_simp; first | done | with_reducible rfl
  refine Eng.Sch.take (v := ?_) rfl rfl (by decide) (by kernel_rfl) (fun w hw => ?_) ?_
  rotate_left
  · (try dsimp only at hw); go_simp; first | done | with_reducible rfl
  refine Eng.Sch.take (v := ?_) rfl rfl (by decide) (by kernel_rfl) (fun w hw => ?_) ?_
  rotate_left
  · (try dsimp only at hw); go_simp; first | done | with_reducible rfl
  refine Eng.Sch.take (v := ?_) rfl rfl (by decide) (by kernel_rfl) (fun w hw => ?_) ?_
  rotate_left
  · (try dsimp only at hw); go_simp; first | done | with_reducible rfl
  refine Eng.Sch.take (v := ?_) rfl rfl (by decide) (by kernel_rfl) (fun w hw => ?_) ?_
  rotate_left
  · (try dsimp only at hw); go_simp; first | done | with_reducible rfl
  refine Eng.Sch.take (v := ?_) rfl rfl (by decide) (by kernel_rfl) (fun w hw => ?_) ?_
  rotate_left
  · (try dsimp only at hw); go_simp; first | done | with_reducible rfl
  refine Eng.Sch.take (v := ?_) rfl rfl (by decide) (by kernel_rfl) (fun w hw => ?_) ?_
  rotate_left
  · (try dsimp only at hw); go_simp; first | done | with_reducible rfl
  refine Eng.Sch.take (v := ?_) rfl rfl (by decide) (by kernel_rfl) (fun w hw => ?_) ?_
  rotate_left
  · (try dsimp only at hw); go_simp; first | done | with_reducible rfl
  refine Eng.Sch.take (v := ?_) rfl rfl (by decide) (by kernel_rfl) (fun w hw => ?_) ?_
  rotate_left
  · (try dsimp only at hw); go_simp; first | done | with_reducible rfl
  refine Eng.Sch.take (v := ?_) rfl rfl (by decide) (by kernel_rfl) (fun w hw => ?_) ?_
  rotate_left
  · (try dsimp only at hw); go_simp; first | done | with_reducible rfl
  refine Eng.Sch.take (v := ?_) rfl rfl (by decide) (by kernel_rfl) (fun w hw => ?_) ?_
  rotate_left
  · (try dsimp only at hw); go_simp; first | done | with_reducible rfl
  refine Eng.Sch.take (v := ?_) rfl rfl (by decide) (by kernel_rfl) (fun w hw => ?_) ?_
  rotate_left
  · (try dsimp only at hw); go_simp; first | done | with_reducible rfl
  refine Eng.Sch.take (v := ?_) rfl rfl (by decide) (by kernel_rfl) (fun w hw => ?_) ?_
  rotate_left
  · (try dsimp only at hw); go_simp; first | done | with_reducible rfl
  refine Eng.Sch.take (v := ?_) rfl rfl (by decide) (by kernel_rfl) (fun w hw => ?_) ?_
  rotate_left
  · (try dsimp only at hw); go_simp; first | done | with_reducible rfl
  refine Eng.Sch.take (v := ?_) rfl rfl (by decide) (by kernel_rfl) (fun w hw => ?_) ?_
  rotate_left
  · (try dsimp only at hw); go_simp; first | done | with_reducible rfl
  refine Eng.Sch.take (v := ?_) rfl rfl (by decide) (by kernel_rfl) (fun w hw => ?_) ?_
  rotate_left
  · (try dsimp only at hw); go_simp; first | done | with_reducible rfl
  refine Eng.Sch.take (v := ?_) rfl rfl (by decide) (by kernel_rfl) (fun w hw => ?_) ?_
  rotate_left
  · (try dsimp only at hw); go_simp; first | done | with_reducible rfl
  refine Eng.Sch.take (v := ?_) rfl rfl (by decide) (by kernel_rfl) (fun w hw => ?_) ?_
  rotate_left
  · (try dsimp only at hw); go_simp; first | done | with_reducible rfl
  refine Eng.Sch.take (v := ?_) rfl rfl (by decide) (by kernel_rfl) (fun w hw => ?_) ?_
  rotate_left
  · (try dsimp only at hw); go_simp; first | done | with_reducible rfl
  refine Eng.Sch.take (v := ?_) rfl rfl (by decide) (by kernel_rfl) (fun w hw => ?_) ?_
  rotate_left
  · (try dsimp only at hw); go_simp; first | done | with_reducible rfl
  refine Eng.Sch.take (v := ?_) rfl rfl (by decide) (by kernel_rfl) (fun w hw => ?_) ?_
  rotate_left
  · (try dsimp only at hw); go_simp; first | done | with_reducible rfl
  refine Eng.Sch.take (v := ?_) rfl rfl (by decide) (by kernel_rfl) (fun w hw => ?_) ?_
  rotate_left
  · (try dsimp only at hw); go_simp; first | done | with_reducible rfl
  refine Eng.Sch.take (v := ?_) rfl rfl (by decide) (by kernel_rfl) (fun w hw => ?_) ?_
  rotate_left
  · (try dsimp only at hw); go_simp; first | done | with_reducible rfl
  refine Eng.Sch.take (v := ?_) rfl rfl (by decide) (by kernel_rfl) (fun w hw => ?_) ?_
  rotate_left
  · (try dsimp only at hw); go_simp; first | done | with_reducible rfl
  refine Eng.Sch.take (v := ?_) rfl rfl (by decide) (by kernel_rfl) (fun w hw => ?_) ?_
  rotate_left
  · (try dsimp only at hw); go_simp; first | done | with_reducible rfl
  refine Eng.Sch.take (v := ?_) rfl rfl (by decide) (by kernel_rfl) (fun w hw => ?_) ?_
  rotate_left
  · (try dsimp only at hw); go_simp; first | done | with_reducible rfl
  refine Eng.Sch.take (v := ?_) rfl rfl (by decide) (by kernel_rfl) (fun w hw => ?_) ?_
  rotate_left
  · (try dsimp only at hw); go_simp; first | done | with_reducible rfl
  refine Eng.Sch.take (v := ?_) rfl rfl (by decide) (by kernel_rfl) (fun w hw => ?_) ?_
  rotate_left
  · (try dsimp only at hw); go_simp; first | done | with_reducible rfl
  refine Eng.Sch.take (v := ?_) rfl rfl (by decide) (by kernel_rfl) (fun w hw => ?_) ?_
  rotate_left
  · (try dsimp only at hw); go_simp; first | done | with_reducible rfl
  refine Eng.Sch.take (v := ?_) rfl rfl (by decide) (by kernel_rfl) (fun w hw => ?_) ?_
  rotate_left
  · (try dsimp only at hw); go_simp; first | done | with_reducible rfl
  refine Eng.Sch.take (v := ?_) rfl rfl (by decide) (by kernel_rfl) (fun w hw => ?_) ?_
  rotate_left
  · (try dsimp only at hw); go_simp; first | done | with_reducible rfl
  refine Eng.Sch.skip rfl rfl (by decide) (by kernel_rfl) ?_
  refine Eng.Sch.skip rfl rfl (by decide) (by kernel_rfl) ?_
  refine Eng.Sch.take (v := ?_) rfl rfl (by decide) (by kernel_rfl) (fun w hw => ?_) ?_
  rotate_left
  · (try dsimp only at hw); go_simp; first | done | with_reducible rfl
  refine Eng.Sch.take (v := ?_) rfl rfl (by decide) (by kernel_rfl) (fun w hw => ?_) ?_
  rotate_left
  · (try dsimp only at hw); go_simp; first | done | with_reducible rfl
  refine Eng.Sch.end_ [83, 84, 85, 86, 87, 88, 89, 90, 91, 92, 93, 94, 95, 96, 97, 98, 99, 100, 101, 102, 103, 104, 105, 106, 107, 108, 109, 110, 111, 112, 113, 114, 115, 116, 117, 118, 119, 120, 121, 122, 123, 124, 125, 126, 127, 128, 129, 130, 131, 132, 133, 134, 135, 136, 137, 138, 139, 140, 141, 142, 143, 144] HN.out (by kernel_rfl) (by kernel_rfl) ?_
  exact HP.out _ _ rfl HSt5.out HAc5.out


end Law12
end Go.Proofs.Ytolpdgaomlhgdaa
