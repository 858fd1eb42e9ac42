/- Layer 13's statements: BagPlays: the statements that draw their order, the first. -/
import Derived.Test.YtolpdgaomlhgdaaBagZ
import Derived.Test.YtolpdgaomlhgdaaEngIn
namespace Go.Proofs.Ytolpdgaomlhgdaa
open Go.RowKit
namespace Law13
open BagP Bag
attribute [local go_sem] Eng.ev Eng.getO_cons Eng.getO_nil

abbrev TAct : TypeId := 83
abbrev ac (p : Int × Int × Int) : List Value := [.int .i64 p.1, .int .i64 p.2.1, .int .i64 p.2.2]
theorem ac_len (p : Int × Int × Int) : (ac p).length = 3 := rfl
/-- The bag in Bb, the document's in Bx, the act in Ba. -/
structure SP (n0 Bb Bx Ba : Nat) (kd x m : Int) (L Lx : List (Int × Int)) (FB FX : List Nat) (w0 w : World) : Prop where
  zs : Zs n0 w0 w [FB, FX, [Ba]]
  bb : BagZ w Bb L FB
  bx : Ref13.RB w Bx Lx FX
  ba : Bk w Ba #[.int .i64 kd, .int .i64 x, .int .i64 m] TAct
section
variable {n0 Bb Bx Ba : Nat} {kd x m : Int} {L Lx L' : List (Int × Int)} {FB FX : List Nat} {w0 w w' : World}
theorem SP.fr (h : SP n0 Bb Bx Ba kd x m L Lx FB FX w0 w) (hf : Fr (fun _ => False) w w') : SP n0 Bb Bx Ba kd x m L Lx FB FX w0 w' :=
  ⟨h.zs.fr hf, h.bb.fr hf (fun _ _ h => h), h.bx.fr hf (fun _ _ h => h), h.ba.fr hf (fun _ _ h => h)⟩
theorem SP.turnB (h : SP n0 Bb Bx Ba kd x m L Lx FB FX w0 w) (ht : ∃ F', BagZ w' Bb L' F' ∧ Tn FB F' w w') : ∃ F', SP n0 Bb Bx Ba kd x m L' Lx F' FX w0 w' := by
  obtain ⟨F', h1, h2⟩ := ht
  exact ⟨F', h.zs.turn [] [FX, [Ba]] h2, h1, h.bx.fr h2.fr (h.zs.ap 0 1 rfl rfl (by decide)), h.ba.fr h2.fr (h.zs.ap 0 2 rfl rfl (by decide))⟩
theorem SP.turnX (h : SP n0 Bb Bx Ba kd x m L Lx FB FX w0 w) (ht : ∃ F', Ref13.RB w' Bx L' F' ∧ Tn FX F' w w') : ∃ F', SP n0 Bb Bx Ba kd x m L L' FB F' w0 w' := by
  obtain ⟨F', h1, h2⟩ := ht
  exact ⟨F', h.zs.turn [FB] [[Ba]] h2, h.bb.fr h2.fr (h.zs.ap 1 0 rfl rfl (by decide)), h1, h.ba.fr h2.fr (h.zs.ap 1 2 rfl rfl (by decide))⟩
end
/-- .. the document's list, its header known. -/
structure SQ (n0 Bb Bx Ba : Nat) (kd x m : Int) (L : List (Int × Int)) (FB FX : List Nat) (A : Option Addr) (c : Nat) (w0 w : World) : Prop where
  sp : SP n0 Bb Bx Ba kd x m L L FB FX w0 w
  hd : Bk w Bx #[.slice A L.length c] Ref13.TR
  row : Sl w 2 A L.length c (L.flatMap pc)
theorem SQ.fr {n0 Bb Bx Ba : Nat} {kd x m : Int} {L : List (Int × Int)} {FB FX : List Nat} {A : Option Addr} {c : Nat} {w0 w w' : World} (h : SQ n0 Bb Bx Ba kd x m L FB FX A c w0 w) (hf : Fr (fun _ => False) w w') : SQ n0 Bb Bx Ba kd x m L FB FX A c w0 w' :=
  ⟨h.sp.fr hf, h.hd.fr hf (fun _ _ h => h), h.row.fr hf (fun _ _ h => h)⟩
def stepB (y : Int × Int × Int) (L : List (Int × Int)) : List (Int × Int) := if y.1 = 1 then addL y.2.1 y.2.2 L else if y.1 = 2 then takeL y.2.1 y.2.2 L else L
theorem stepB_ok {y : Int × Int × Int} {L : List (Int × Int)} (h : Ok L) : Ok (stepB y L) := by
  unfold stepB; split
  · exact h.add _ _
  · split
    · exact h.take _ _
    · exact h
theorem stepB_len (y : Int × Int × Int) (L : List (Int × Int)) : (stepB y L).length ≤ L.length + 1 := by
  unfold stepB; split
  · exact addL_len _ _ _
  · split
    · exact takeL_len _ _ _
    · omega
set_option maxRecDepth 100000 in
set_option maxHeartbeats 400000 in
theorem p10a {ops : Array Oper} (hops : Eng.fnOps Try.f8 10 = ops) (a0 : Act) (Q : Exit → Act → World → Prop) (n0 Bb Bx Ba : Nat) (kd x_ m : Int) (L : List (Int × Int)) (FB FX : List Nat) (w0 w : World) (hst : SP n0 Bb Bx Ba kd x_ m L L FB FX w0 w) (hok : Ok L) (hlen : L.length ≤ 1000) (k1 : (kd == 1) = true) (k2 : (kd == 2) = false)
    (hn : a0.tmps.size = 184) (h_3 : a0.tmps.getD 3 undef = .pointer (some ⟨Bb, 0, none⟩)) (h_5 : a0.tmps.getD 5 undef = .pointer (some ⟨Bx, 0, none⟩)) (h_7 : a0.tmps.getD 7 undef = .pointer (some ⟨Ba, 0, none⟩))
    (hpost : ∀ (x : Nat → Value) (w' : World) (FB' FX' : List Nat), x 63 = .bool false → SP n0 Bb Bx Ba kd x_ m (addL x_ m L) (addL x_ m L) FB' FX' w0 w' → Q .normal (Eng.setAll a0 [28, 29, 30, 31, 32, 33, 34, 35, 36, 37, 38, 39, 40, 41, 42, 43, 44, 45, 46, 47, 48, 49, 50, 51, 52, 53, 54, 55, 56, 57, 58, 59, 60, 61, 62, 63] x) w') :
    (Code.region 10 ops true).wp Try.prog Q a0 w := by
  simp only [Eng.fnOps, Eng.regOps, Try.f8, Option.bind_some, Option.getD_some, Nat.reduceEqDiff, ↓reduceIte, Nat.reduceBEq] at hops
  subst hops
  have kq : (okA m L != okA m L) = false := by simp
  have HSt := Lib.hid (hst.fr (Fr.drew _ _))
  have hSS : w.drew.cell? ⟨Ba, 0, none⟩ = some (.int .i64 kd) ∧ w.drew.cell? ⟨Ba, 1, none⟩ = some (.int .i64 x_) ∧ w.drew.cell? ⟨Ba, 2, none⟩ = some (.int .i64 m) := ⟨HSt.out.ba.cell 0, HSt.out.ba.cell 1, HSt.out.ba.cell 2⟩
  refine Eng.regionN [(0, true), (1, true), (2, true), (3, true), (4, true), (5, true), (6, true), (7, true), (9, true), (10, true), (11, true), (12, true), (13, true), (8, false), (14, false), (15, true), (16, true), (17, true), (18, true), (19, true), (20, true), (21, true), (22, true), (23, true), (24, true), (25, true), (26, true), (27, true), (28, true), (29, true), (30, true), (31, true), (32, true), (33, true), (34, true), (35, true)] (fun w' => w'.cell? ⟨Ba, 0, none⟩ = some (.int .i64 kd) ∧ w'.cell? ⟨Ba, 1, none⟩ = some (.int .i64 x_) ∧ w'.cell? ⟨Ba, 2, none⟩ = some (.int .i64 m)) (by kernel_rfl) 184 hn (by kernel_rfl) rfl (by kernel_rfl) (hSS) (fun a b ha hb => ?_)
  subst ha
  have hb3 : b 3 = .pointer (some ⟨Bb, 0, none⟩) := (hb 3).symm.trans h_3
  have hb5 : b 5 = .pointer (some ⟨Bx, 0, none⟩) := (hb 5).symm.trans h_5
  have hb7 : b 7 = .pointer (some ⟨Ba, 0, none⟩) := (hb 7).symm.trans h_7
  clear hb h_3 h_5 h_7
  have HP := Lib.hid hpost; have HN := Lib.hid hn
  clear hpost hn
  refine Eng.Sch.take (v := ?_) rfl rfl (by decide) (by kernel_rfl) (fun w hw => ?_) ?_
  rotate_left
  · (try dsimp only at hw); go_simp; first | done | with_reducible rfl
  refine Eng.Sch.take (v := ?_) rfl rfl (by decide) (by kernel_rfl) (fun w hw => ?_) ?_
  rotate_left
  · (try dsimp only at hw); go_simp; first | done | with_reducible rfl
  refine Eng.Sch.take (v := ?_) rfl rfl (by decide) (by kernel_rfl) (fun w hw => ?_) ?_
  rotate_left
  · (try dsimp only at hw); go_simp; first | done | with_reducible rfl
  refine Eng.Sch.take (v := ?_) rfl rfl (by decide) (by kernel_rfl) (fun w hw => ?_) ?_
  rotate_left
  · (try dsimp only at hw); go_simp; first | done | with_reducible rfl
  refine Eng.Sch.take (v := ?_) rfl rfl (by decide) (by kernel_rfl) (fun w hw => ?_) ?_
  rotate_left
  · (try dsimp only at hw); go_simp; first | done | with_reducible rfl
  refine Eng.Sch.take (v := ?_) rfl rfl (by decide) (by kernel_rfl) (fun w hw => ?_) ?_
  rotate_left
  · (try dsimp only at hw); go_simp; first | done | with_reducible rfl
  refine Eng.Sch.take (v := ?_) rfl rfl (by decide) (by kernel_rfl) (fun w hw => ?_) ?_
  rotate_left
  · (try dsimp only at hw); go_simp; first | done | with_reducible rfl
  refine Eng.Sch.take (v := ?_) rfl rfl (by decide) (by kernel_rfl) (fun w hw => ?_) ?_
  rotate_left
  · (try dsimp only at hw); go_simp; first | done | with_reducible rfl
  refine Eng.Sch.take (v := ?_) rfl rfl (by decide) (by kernel_rfl) (fun w hw => ?_) ?_
  rotate_left
  · (try dsimp only at hw); go_simp; first | done | with_reducible rfl
  refine Eng.Sch.take (v := ?_) rfl rfl (by decide) (by kernel_rfl) (fun w hw => ?_) ?_
  rotate_left
  · (try dsimp only at hw); go_simp; first | done | with_reducible rfl
  refine Eng.Sch.take (v := ?_) rfl rfl (by decide) (by kernel_rfl) (fun w hw => ?_) ?_
  rotate_left
  · (try dsimp only at hw); go_simp; first | done | with_reducible rfl
  refine Eng.Sch.take (v := ?_) rfl rfl (by decide) (by kernel_rfl) (fun w hw => ?_) ?_
  rotate_left
  · (try dsimp only at hw); go_simp; first | done | with_reducible rfl
  refine Eng.Sch.take (v := ?_) rfl rfl (by decide) (by kernel_rfl) (fun w hw => ?_) ?_
  rotate_left
  · (try dsimp only at hw); go_simp; first | done | with_reducible rfl
  refine Eng.Sch.call rfl rfl (by decide) (by kernel_rfl) ?_ (AddZ Bb x_ m L FB _ HSt.out.bb (by omega)) ?_
  · go_simp
  rintro e w2 ⟨rfl, hT⟩
  obtain ⟨F2, hst2⟩ := HSt.out.turnB hT
  have HSt1 := Lib.hid (hst2)
  have hSS : w2.cell? ⟨Ba, 0, none⟩ = some (.int .i64 kd) ∧ w2.cell? ⟨Ba, 1, none⟩ = some (.int .i64 x_) ∧ w2.cell? ⟨Ba, 2, none⟩ = some (.int .i64 m) := ⟨HSt1.out.ba.cell 0, HSt1.out.ba.cell 1, HSt1.out.ba.cell 2⟩
  clear hT
  refine ⟨_, rfl, hSS, ?_⟩
  refine Eng.Sch.call rfl rfl (by decide) (by kernel_rfl) ?_ (Ref13.Add Bx x_ m L FX _ HSt1.out.bx hok (by omega)) ?_
  · go_simp
  rintro e w3 ⟨rfl, hT⟩
  obtain ⟨F3, hst3⟩ := HSt1.out.turnX hT
  have HSt2 := Lib.hid (hst3)
  have hSS : w3.cell? ⟨Ba, 0, none⟩ = some (.int .i64 kd) ∧ w3.cell? ⟨Ba, 1, none⟩ = some (.int .i64 x_) ∧ w3.cell? ⟨Ba, 2, none⟩ = some (.int .i64 m) := ⟨HSt2.out.ba.cell 0, HSt2.out.ba.cell 1, HSt2.out.ba.cell 2⟩
  clear hT
  refine ⟨_, rfl, hSS, ?_⟩
  refine Eng.Sch.take (v := ?_) rfl rfl (by decide) (by kernel_rfl) (fun w hw => ?_) ?_
  rotate_left
  · (try dsimp only at hw); go_simp; first | done | with_reducible rfl
  refine Eng.Sch.take (v := ?_) rfl rfl (by decide) (by kernel_rfl) (fun w hw => ?_) ?_
  rotate_left
  · (try dsimp only at hw); go_simp; first | done | with_reducible rfl
  refine Eng.Sch.take (v := ?_) rfl rfl (by decide) (by kernel_rfl) (fun w hw => ?_) ?_
  rotate_left
  · (try dsimp only at hw); go_simp; first | done | with_reducible rfl
  refine Eng.Sch.take (v := ?_) rfl rfl (by decide) (by kernel_rfl) (fun w hw => ?_) ?_
  rotate_left
  · (try dsimp only at hw); go_simp; first | done | with_reducible rfl
  refine Eng.Sch.take (v := ?_) rfl rfl (by decide) (by kernel_rfl) (fun w hw => ?_) ?_
  rotate_left
  · (try dsimp only at hw); go_simp; first | done | with_reducible rfl
  refine Eng.Sch.take (v := ?_) rfl rfl (by decide) (by kernel_rfl) (fun w hw => ?_) ?_
  rotate_left
  · (try dsimp only at hw); go_simp; first | done | with_reducible rfl
  refine Eng.Sch.take (v := ?_) rfl rfl (by decide) (by kernel_rfl) (fun w hw => ?_) ?_
  rotate_left
  · (try dsimp only at hw); go_simp; first | done | with_reducible rfl
  refine Eng.Sch.skip rfl rfl (by decide) (by kernel_rfl) ?_
  refine Eng.Sch.skip rfl rfl (by decide) (by kernel_rfl) ?_
  refine Eng.Sch.skip rfl rfl (by decide) (by kernel_rfl) ?_
  refine Eng.Sch.skip rfl rfl (by decide) (by kernel_rfl) ?_
  refine Eng.Sch.skip rfl rfl (by decide) (by kernel_rfl) ?_
  refine Eng.Sch.skip rfl rfl (by decide) (by kernel_rfl) ?_
  refine Eng.Sch.skip rfl rfl (by decide) (by kernel_rfl) ?_
  refine Eng.Sch.skip rfl rfl (by decide) (by kernel_rfl) ?_
  refine Eng.Sch.skip rfl rfl (by decide) (by kernel_rfl) ?_
  refine Eng.Sch.skip rfl rfl (by decide) (by kernel_rfl) ?_
  refine Eng.Sch.skip rfl rfl (by decide) (by kernel_rfl) ?_
  refine Eng.Sch.skip rfl rfl (by decide) (by kernel_rfl) ?_
  refine Eng.Sch.take (v := ?_) rfl rfl (by decide) (by kernel_rfl) (fun w hw => ?_) ?_
  rotate_left
  · (try dsimp only at hw); go_simp; first | done | with_reducible rfl
  refine Eng.Sch.take (v := ?_) rfl rfl (by decide) (by kernel_rfl) (fun w hw => ?_) ?_
  rotate_left
  · (try dsimp only at hw); go_simp; first | done | with_reducible rfl
  refine Eng.Sch.end_ [28, 29, 30, 31, 32, 33, 34, 35, 36, 37, 38, 39, 40, 41, 42, 43, 44, 45, 46, 47, 48, 49, 50, 51, 52, 53, 54, 55, 56, 57, 58, 59, 60, 61, 62, 63] HN.out (by kernel_rfl) (by kernel_rfl) ?_
  exact HP.out _ _ _ _ rfl HSt2.out

set_option maxRecDepth 100000 in
set_option maxHeartbeats 400000 in
theorem p10t {ops : Array Oper} (hops : Eng.fnOps Try.f8 10 = ops) (a0 : Act) (Q : Exit → Act → World → Prop) (n0 Bb Bx Ba : Nat) (kd x_ m : Int) (L : List (Int × Int)) (FB FX : List Nat) (w0 w : World) (hst : SP n0 Bb Bx Ba kd x_ m L L FB FX w0 w) (hok : Ok L) (hlen : L.length ≤ 1000) (k1 : (kd == 1) = false) (k2 : (kd == 2) = true)
    (hn : a0.tmps.size = 184) (h_3 : a0.tmps.getD 3 undef = .pointer (some ⟨Bb, 0, none⟩)) (h_5 : a0.tmps.getD 5 undef = .pointer (some ⟨Bx, 0, none⟩)) (h_7 : a0.tmps.getD 7 undef = .pointer (some ⟨Ba, 0, none⟩))
    (hpost : ∀ (x : Nat → Value) (w' : World) (FB' FX' : List Nat), x 63 = .bool false → SP n0 Bb Bx Ba kd x_ m (takeL x_ m L) (takeL x_ m L) FB' FX' w0 w' → Q .normal (Eng.setAll a0 [28, 29, 30, 31, 32, 33, 34, 35, 36, 37, 38, 39, 40, 41, 42, 43, 44, 45, 46, 47, 48, 49, 50, 51, 52, 53, 54, 55, 56, 57, 58, 59, 60, 61, 62, 63] x) w') :
    (Code.region 10 ops true).wp Try.prog Q a0 w := by
  simp only [Eng.fnOps, Eng.regOps, Try.f8, Option.bind_some, Option.getD_some, Nat.reduceEqDiff, ↓reduceIte, Nat.reduceBEq] at hops
  subst hops
  have kq : (okT x_ m L != okT x_ m L) = false := by simp
  have HSt := Lib.hid (hst.fr (Fr.drew _ _))
  have hSS : w.drew.cell? ⟨Ba, 0, none⟩ = some (.int .i64 kd) ∧ w.drew.cell? ⟨Ba, 1, none⟩ = some (.int .i64 x_) ∧ w.drew.cell? ⟨Ba, 2, none⟩ = some (.int .i64 m) := ⟨HSt.out.ba.cell 0, HSt.out.ba.cell 1, HSt.out.ba.cell 2⟩
  refine Eng.regionN [(0, true), (1, true), (2, true), (3, true), (4, true), (5, true), (6, true), (7, true), (8, true), (9, true), (10, true), (11, true), (12, true), (13, true), (14, true), (15, true), (16, true), (17, true), (18, true), (19, true), (20, true), (21, true), (22, true), (23, true), (24, true), (25, true), (27, true), (28, true), (29, true), (30, true), (31, true), (26, false), (32, false), (33, true), (34, true), (35, true)] (fun w' => w'.cell? ⟨Ba, 0, none⟩ = some (.int .i64 kd) ∧ w'.cell? ⟨Ba, 1, none⟩ = some (.int .i64 x_) ∧ w'.cell? ⟨Ba, 2, none⟩ = some (.int .i64 m)) (by kernel_rfl) 184 hn (by kernel_rfl) rfl (by kernel_rfl) (hSS) (fun a b ha hb => ?_)
  subst ha
  have hb3 : b 3 = .pointer (some ⟨Bb, 0, none⟩) := (hb 3).symm.trans h_3
  have hb5 : b 5 = .pointer (some ⟨Bx, 0, none⟩) := (hb 5).symm.trans h_5
  have hb7 : b 7 = .pointer (some ⟨Ba, 0, none⟩) := (hb 7).symm.trans h_7
  clear hb h_3 h_5 h_7
  have HP := Lib.hid hpost; have HN := Lib.hid hn
  clear hpost hn
  refine Eng.Sch.take (v := ?_) rfl rfl (by decide) (by kernel_rfl) (fun w hw => ?_) ?_
  rotate_left
  · (try dsimp only at hw); go_simp; first | done | with_reducible rfl
  refine Eng.Sch.take (v := ?_) rfl rfl (by decide) (by kernel_rfl) (fun w hw => ?_) ?_
  rotate_left
  · (try dsimp only at hw); go_simp; first | done | with_reducible rfl
  refine Eng.Sch.take (v := ?_) rfl rfl (by decide) (by kernel_rfl) (fun w hw => ?_) ?_
  rotate_left
  · (try dsimp only at hw); go_simp; first | done | with_reducible rfl
  refine Eng.Sch.take (v := ?_) rfl rfl (by decide) (by kernel_rfl) (fun w hw => ?_) ?_
  rotate_left
  · (try dsimp only at hw); go_simp; first | done | with_reducible rfl
  refine Eng.Sch.skip rfl rfl (by decide) (by kernel_rfl) ?_
  refine Eng.Sch.skip rfl rfl (by decide) (by kernel_rfl) ?_
  refine Eng.Sch.skip rfl rfl (by decide) (by kernel_rfl) ?_
  refine Eng.Sch.skip rfl rfl (by decide) (by kernel_rfl) ?_
  refine Eng.Sch.skip rfl rfl (by decide) (by kernel_rfl) ?_
  refine Eng.Sch.skip rfl rfl (by decide) (by kernel_rfl) ?_
  refine Eng.Sch.skip rfl rfl (by decide) (by kernel_rfl) ?_
  refine Eng.Sch.skip rfl rfl (by decide) (by kernel_rfl) ?_
  refine Eng.Sch.skip rfl rfl (by decide) (by kernel_rfl) ?_
  refine Eng.Sch.skip rfl rfl (by decide) (by kernel_rfl) ?_
  refine Eng.Sch.skip rfl rfl (by decide) (by kernel_rfl) ?_
  refine Eng.Sch.skip rfl rfl (by decide) (by kernel_rfl) ?_
  refine Eng.Sch.take (v := ?_) rfl rfl (by decide) (by kernel_rfl) (fun w hw => ?_) ?_
  rotate_left
  · (try dsimp only at hw); go_simp; first | done | with_reducible rfl
  refine Eng.Sch.take (v := ?_) rfl rfl (by decide) (by kernel_rfl) (fun w hw => ?_) ?_
  rotate_left
  · (try dsimp only at hw); go_simp; first | done | with_reducible rfl
  refine Eng.Sch.take (v := ?_) rfl rfl (by decide) (by kernel_rfl) (fun w hw => ?_) ?_
  rotate_left
  · (try dsimp only at hw); go_simp; first | done | with_reducible rfl
  refine Eng.Sch.take (v := ?_) rfl rfl (by decide) (by kernel_rfl) (fun w hw => ?_) ?_
  rotate_left
  · (try dsimp only at hw); go_simp; first | done | with_reducible rfl
  refine Eng.Sch.take (v := ?_) rfl rfl (by decide) (by kernel_rfl) (fun w hw => ?_) ?_
  rotate_left
  · (try dsimp only at hw); go_simp; first | done | with_reducible rfl
  refine Eng.Sch.take (v := ?_) rfl rfl (by decide) (by kernel_rfl) (fun w hw => ?_) ?_
  rotate_left
  · (try dsimp only at hw); go_simp; first | done | with_reducible rfl
  refine Eng.Sch.take (v := ?_) rfl rfl (by decide) (by kernel_rfl) (fun w hw => ?_) ?_
  rotate_left
  · (try dsimp only at hw); go_simp; first | done | with_reducible rfl
  refine Eng.Sch.take (v := ?_) rfl rfl (by decide) (by kernel_rfl) (fun w hw => ?_) ?_
  rotate_left
  · (try dsimp only at hw); go_simp; first | done | with_reducible rfl
  refine Eng.Sch.take (v := ?_) rfl rfl (by decide) (by kernel_rfl) (fun w hw => ?_) ?_
  rotate_left
  · (try dsimp only at hw); go_simp; first | done | with_reducible rfl
  refine Eng.Sch.take (v := ?_) rfl rfl (by decide) (by kernel_rfl) (fun w hw => ?_) ?_
  rotate_left
  · (try dsimp only at hw); go_simp; first | done | with_reducible rfl
  refine Eng.Sch.take (v := ?_) rfl rfl (by decide) (by kernel_rfl) (fun w hw => ?_) ?_
  rotate_left
  · (try dsimp only at hw); go_simp; first | done | with_reducible rfl
  refine Eng.Sch.take (v := ?_) rfl rfl (by decide) (by kernel_rfl) (fun w hw => ?_) ?_
  rotate_left
  · (try dsimp only at hw); go_simp; first | done | with_reducible rfl
  refine Eng.Sch.take (v := ?_) rfl rfl (by decide) (by kernel_rfl) (fun w hw => ?_) ?_
  rotate_left
  · (try dsimp only at hw); go_simp; first | done | with_reducible rfl
  refine Eng.Sch.take (v := ?_) rfl rfl (by decide) (by kernel_rfl) (fun w hw => ?_) ?_
  rotate_left
  · (try dsimp only at hw); go_simp; first | done | with_reducible rfl
  refine Eng.Sch.take (v := ?_) rfl rfl (by decide) (by kernel_rfl) (fun w hw => ?_) ?_
  rotate_left
  · (try dsimp only at hw); go_simp; first | done | with_reducible rfl
  refine Eng.Sch.call rfl rfl (by decide) (by kernel_rfl) ?_ (TakeZ Bb x_ m L FB _ HSt.out.bb (by omega)) ?_
  · go_simp
  rintro e w2 ⟨rfl, hT⟩
  obtain ⟨F2, hst2⟩ := HSt.out.turnB hT
  have HSt1 := Lib.hid (hst2)
  have hSS : w2.cell? ⟨Ba, 0, none⟩ = some (.int .i64 kd) ∧ w2.cell? ⟨Ba, 1, none⟩ = some (.int .i64 x_) ∧ w2.cell? ⟨Ba, 2, none⟩ = some (.int .i64 m) := ⟨HSt1.out.ba.cell 0, HSt1.out.ba.cell 1, HSt1.out.ba.cell 2⟩
  clear hT
  refine ⟨_, rfl, hSS, ?_⟩
  refine Eng.Sch.call rfl rfl (by decide) (by kernel_rfl) ?_ (Ref13.Take Bx x_ m L FX _ HSt1.out.bx hok (by omega)) ?_
  · go_simp
  rintro e w3 ⟨rfl, hT⟩
  obtain ⟨F3, hst3⟩ := HSt1.out.turnX hT
  have HSt2 := Lib.hid (hst3)
  have hSS : w3.cell? ⟨Ba, 0, none⟩ = some (.int .i64 kd) ∧ w3.cell? ⟨Ba, 1, none⟩ = some (.int .i64 x_) ∧ w3.cell? ⟨Ba, 2, none⟩ = some (.int .i64 m) := ⟨HSt2.out.ba.cell 0, HSt2.out.ba.cell 1, HSt2.out.ba.cell 2⟩
  clear hT
  refine ⟨_, rfl, hSS, ?_⟩
  refine Eng.Sch.take (v := ?_) rfl rfl (by decide) (by kernel_rfl) (fun w hw => ?_) ?_
  rotate_left
  · (try dsimp only at hw); go_simp; first | done | with_reducible rfl
  refine Eng.Sch.take (v := ?_) rfl rfl (by decide) (by kernel_rfl) (fun w hw => ?_) ?_
  rotate_left
  · (try dsimp only at hw); go_simp; first | done | with_reducible rfl
  refine Eng.Sch.take (v := ?_) rfl rfl (by decide) (by kernel_rfl) (fun w hw => ?_) ?_
  rotate_left
  · (try dsimp only at hw); go_simp; first | done | with_reducible rfl
  refine Eng.Sch.end_ [28, 29, 30, 31, 32, 33, 34, 35, 36, 37, 38, 39, 40, 41, 42, 43, 44, 45, 46, 47, 48, 49, 50, 51, 52, 53, 54, 55, 56, 57, 58, 59, 60, 61, 62, 63] HN.out (by kernel_rfl) (by kernel_rfl) ?_
  exact HP.out _ _ _ _ rfl HSt2.out

set_option maxRecDepth 100000 in
set_option maxHeartbeats 400000 in
theorem p10n {ops : Array Oper} (hops : Eng.fnOps Try.f8 10 = ops) (a0 : Act) (Q : Exit → Act → World → Prop) (n0 Bb Bx Ba : Nat) (kd x_ m : Int) (L : List (Int × Int)) (FB FX : List Nat) (w0 w : World) (hst : SP n0 Bb Bx Ba kd x_ m L L FB FX w0 w) (hok : Ok L) (hlen : L.length ≤ 1000) (k1 : (kd == 1) = false) (k2 : (kd == 2) = false)
    (hn : a0.tmps.size = 184) (h_7 : a0.tmps.getD 7 undef = .pointer (some ⟨Ba, 0, none⟩))
    (hpost : ∀ (x : Nat → Value) (w' : World) (FB' FX' : List Nat), x 63 = .bool false → SP n0 Bb Bx Ba kd x_ m (L) (L) FB' FX' w0 w' → Q .normal (Eng.setAll a0 [28, 29, 30, 31, 32, 33, 34, 35, 36, 37, 38, 39, 40, 41, 42, 43, 44, 45, 46, 47, 48, 49, 50, 51, 52, 53, 54, 55, 56, 57, 58, 59, 60, 61, 62, 63] x) w') :
    (Code.region 10 ops true).wp Try.prog Q a0 w := by
  simp only [Eng.fnOps, Eng.regOps, Try.f8, Option.bind_some, Option.getD_some, Nat.reduceEqDiff, ↓reduceIte, Nat.reduceBEq] at hops
  subst hops
  have HSt := Lib.hid (hst.fr (Fr.drew _ _))
  have hSS : w.drew.cell? ⟨Ba, 0, none⟩ = some (.int .i64 kd) ∧ w.drew.cell? ⟨Ba, 1, none⟩ = some (.int .i64 x_) ∧ w.drew.cell? ⟨Ba, 2, none⟩ = some (.int .i64 m) := ⟨HSt.out.ba.cell 0, HSt.out.ba.cell 1, HSt.out.ba.cell 2⟩
  refine Eng.regionN [(0, true), (1, true), (2, true), (3, true), (4, true), (5, true), (6, true), (7, true), (8, true), (9, true), (10, true), (11, true), (12, true), (13, true), (14, true), (15, true), (16, true), (17, true), (18, true), (19, true), (20, true), (21, true), (22, true), (23, true), (24, true), (25, true), (26, true), (27, true), (28, true), (29, true), (30, true), (31, true), (32, true), (33, true), (34, true), (35, true)] (fun w' => w'.cell? ⟨Ba, 0, none⟩ = some (.int .i64 kd) ∧ w'.cell? ⟨Ba, 1, none⟩ = some (.int .i64 x_) ∧ w'.cell? ⟨Ba, 2, none⟩ = some (.int .i64 m)) (by kernel_rfl) 184 hn (by kernel_rfl) rfl (by kernel_rfl) (hSS) (fun a b ha hb => ?_)
  subst ha
  have hb7 : b 7 = .pointer (some ⟨Ba, 0, none⟩) := (hb 7).symm.trans h_7
  clear hb h_7
  have HP := Lib.hid hpost; have HN := Lib.hid hn
  clear hpost hn
  refine Eng.Sch.take (v := ?_) rfl rfl (by decide) (by kernel_rfl) (fun w hw => ?_) ?_
  rotate_left
  · (try dsimp only at hw); go_simp; first | done | with_reducible rfl
  refine Eng.Sch.take (v := ?_) rfl rfl (by decide) (by kernel_rfl) (fun w hw => ?_) ?_
  rotate_left
  · (try dsimp only at hw); go_simp; first | done | with_reducible rfl
  refine Eng.Sch.take (v := ?_) rfl rfl (by decide) (by kernel_rfl) (fun w hw => ?_) ?_
  rotate_left
  · (try dsimp only at hw); go_simp; first | done | with_reducible rfl
  refine Eng.Sch.take (v := ?_) rfl rfl (by decide) (by kernel_rfl) (fun w hw => ?_) ?_
  rotate_left
  · (try dsimp only at hw); go_simp; first | done | with_reducible rfl
  refine Eng.Sch.skip rfl rfl (by decide) (by kernel_rfl) ?_
  refine Eng.Sch.skip rfl rfl (by decide) (by kernel_rfl) ?_
  refine Eng.Sch.skip rfl rfl (by decide) (by kernel_rfl) ?_
  refine Eng.Sch.skip rfl rfl (by decide) (by kernel_rfl) ?_
  refine Eng.Sch.skip rfl rfl (by decide) (by kernel_rfl) ?_
  refine Eng.Sch.skip rfl rfl (by decide) (by kernel_rfl) ?_
  refine Eng.Sch.skip rfl rfl (by decide) (by kernel_rfl) ?_
  refine Eng.Sch.skip rfl rfl (by decide) (by kernel_rfl) ?_
  refine Eng.Sch.skip rfl rfl (by decide) (by kernel_rfl) ?_
  refine Eng.Sch.skip rfl rfl (by decide) (by kernel_rfl) ?_
  refine Eng.Sch.skip rfl rfl (by decide) (by kernel_rfl) ?_
  refine Eng.Sch.skip rfl rfl (by decide) (by kernel_rfl) ?_
  refine Eng.Sch.take (v := ?_) rfl rfl (by decide) (by kernel_rfl) (fun w hw => ?_) ?_
  rotate_left
  · (try dsimp only at hw); go_simp; first | done | with_reducible rfl
  refine Eng.Sch.take (v := ?_) rfl rfl (by decide) (by kernel_rfl) (fun w hw => ?_) ?_
  rotate_left
  · (try dsimp only at hw); go_simp; first | done | with_reducible rfl
  refine Eng.Sch.take (v := ?_) rfl rfl (by decide) (by kernel_rfl) (fun w hw => ?_) ?_
  rotate_left
  · (try dsimp only at hw); go_simp; first | done | with_reducible rfl
  refine Eng.Sch.take (v := ?_) rfl rfl (by decide) (by kernel_rfl) (fun w hw => ?_) ?_
  rotate_left
  · (try dsimp only at hw); go_simp; first | done | with_reducible rfl
  refine Eng.Sch.take (v := ?_) rfl rfl (by decide) (by kernel_rfl) (fun w hw => ?_) ?_
  rotate_left
  · (try dsimp only at hw); go_simp; first | done | with_reducible rfl
  refine Eng.Sch.take (v := ?_) rfl rfl (by decide) (by kernel_rfl) (fun w hw => ?_) ?_
  rotate_left
  · (try dsimp only at hw); go_simp; first | done | with_reducible rfl
  refine Eng.Sch.skip rfl rfl (by decide) (by kernel_rfl) ?_
  refine Eng.Sch.skip rfl rfl (by decide) (by kernel_rfl) ?_
  refine Eng.Sch.skip rfl rfl (by decide) (by kernel_rfl) ?_
  refine Eng.Sch.skip rfl rfl (by decide) (by kernel_rfl) ?_
  refine Eng.Sch.skip rfl rfl (by decide) (by kernel_rfl) ?_
  refine Eng.Sch.skip rfl rfl (by decide) (by kernel_rfl) ?_
  refine Eng.Sch.skip rfl rfl (by decide) (by kernel_rfl) ?_
  refine Eng.Sch.skip rfl rfl (by decide) (by kernel_rfl) ?_
  refine Eng.Sch.skip rfl rfl (by decide) (by kernel_rfl) ?_
  refine Eng.Sch.skip rfl rfl (by decide) (by kernel_rfl) ?_
  refine Eng.Sch.skip rfl rfl (by decide) (by kernel_rfl) ?_
  refine Eng.Sch.skip rfl rfl (by decide) (by kernel_rfl) ?_
  refine Eng.Sch.take (v := ?_) rfl rfl (by decide) (by kernel_rfl) (fun w hw => ?_) ?_
  rotate_left
  · (try dsimp only at hw); go_simp; first | done | with_reducible rfl
  refine Eng.Sch.take (v := ?_) rfl rfl (by decide) (by kernel_rfl) (fun w hw => ?_) ?_
  rotate_left
  · (try dsimp only at hw); go_simp; first | done | with_reducible rfl
  refine Eng.Sch.end_ [28, 29, 30, 31, 32, 33, 34, 35, 36, 37, 38, 39, 40, 41, 42, 43, 44, 45, 46, 47, 48, 49, 50, 51, 52, 53, 54, 55, 56, 57, 58, 59, 60, 61, 62, 63] HN.out (by kernel_rfl) (by kernel_rfl) ?_
  exact HP.out _ _ _ _ rfl HSt.out

end Law13
end Go.Proofs.Ytolpdgaomlhgdaa
