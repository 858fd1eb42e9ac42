/- Layer 12's statements: AvlPlays: the statements that draw their order, the first. -/
import Derived.Test.YtolpdgaomlhgdaaLaw12s
import Derived.Test.YtolpdgaomlhgdaaEng
import Derived.Lib.Hide
namespace Go.Proofs.Ytolpdgaomlhgdaa
open Go.RowKit
namespace Law12
open Ref12
attribute [local go_sem] Eng.ev Eng.getO_cons Eng.getO_nil

set_option maxRecDepth 100000 in
set_option maxHeartbeats 400000 in
theorem r10_put {ops : Array Oper} (hops : Eng.fnOps Try.f5 10 = ops) (a0 : Act) (Q : Exit → Act → World → Prop) (n0 Bm Bx Ba : Nat) (kd key val : Int) (L : List (Int × Int)) (F : List Nat) (A : Option Addr) (c : Nat) (w0 w : World) (hst : St n0 Bm Bx L F L A c w0 w) (hac : Ac Ba Bm Bx F (kd, key, val) w) (hlen : L.length ≤ 1000) (k1 : (kd == 1) = true) (k2 : (kd == 2) = false)
    (hn : a0.tmps.size = 202) (h_3 : a0.tmps.getD 3 undef = .pointer (some ⟨Bm, 0, none⟩)) (h_5 : a0.tmps.getD 5 undef = .pointer (some ⟨Bx, 0, none⟩)) (h_7 : a0.tmps.getD 7 undef = .pointer (some ⟨Ba, 0, none⟩))
    (hQ : ∀ c (a : Act) (d : Nat) (v : Value) w, Q (.panic c) (a.put (some d) v) w → Q (.panic c) a w)
    (hpost : ∀ (x : Nat → Value) (w' : World) (F2 : List Nat) (A2 : Option Addr) (c2 : Nat), x 65 = .bool false → St n0 Bm Bx (insL key val L) F2 (insL key val L) A2 c2 w0 w' → Ac Ba Bm Bx F2 (kd, key, val) w' → Q .normal (Eng.setAll a0 [34, 35, 36, 37, 38, 39, 40, 41, 42, 43, 44, 45, 46, 47, 48, 49, 50, 51, 52, 53, 54, 55, 56, 57, 58, 59, 60, 61, 62, 63, 64, 65] x) w') :
    (Code.region 10 ops true).wp Try.prog Q a0 w := by
  simp only [Eng.fnOps, Eng.regOps, Try.f5, Option.bind_some, Option.getD_some, Nat.reduceEqDiff, ↓reduceIte, Nat.reduceBEq] at hops
  subst hops
  have HStw := Lib.hid (hst.fr (Fr.drew _ _)); have HAcw := Lib.hid (hac.fr (Fr.drew (fun _ => False) _) (fun h => h))
  have hSS := HAcw.out.cells
  dsimp only at hSS
  clear hst hac
  have kq : ((!hasL key L) != (!hasL key L)) = false := by simp
  refine Eng.region' [(0, true), (1, true), (2, true), (3, true), (4, true), (5, true), (6, true), (7, true), (9, true), (10, true), (11, true), (12, true), (13, true), (8, false), (14, false), (15, true), (16, true), (17, true), (18, true), (19, true), (20, true), (21, true), (22, true), (23, true), (24, true), (25, true), (26, true), (27, true), (28, true), (29, true), (30, true), (31, true)] (fun w' => w'.cell? ⟨Ba, 0, none⟩ = some (.int .i64 kd) ∧ w'.cell? ⟨Ba, 1, none⟩ = some (.int .i64 key) ∧ w'.cell? ⟨Ba, 2, none⟩ = some (.int .i64 val)) (by kernel_rfl) 202 hn (by kernel_rfl) hQ rfl (by kernel_rfl) (hSS) (fun a b ha hb => ?_)
  subst ha
  have hb3 : b 3 = .pointer (some ⟨Bm, 0, none⟩) := (hb 3).symm.trans h_3
  have hb5 : b 5 = .pointer (some ⟨Bx, 0, none⟩) := (hb 5).symm.trans h_5
  have hb7 : b 7 = .pointer (some ⟨Ba, 0, none⟩) := (hb 7).symm.trans h_7
  clear hb h_3 h_5 h_7
  have HP := Lib.hid hpost; have HN := Lib.hid hn
  clear hpost hn hQ
  refine Eng.Sch.take (v := ?_) rfl rfl (by decide) (by kernel_rfl) (fun w hw => ?_) ?_
  rotate_left
  · (try dsimp only at hw); go_simp; first | done | with_reducible rfl
  refine Eng.Sch.take (v := ?_) rfl rfl (by decide) (by kernel_rfl) (fun w hw => ?_) ?_
  rotate_left
  · (try dsimp only at hw); go_simp; first | done | with_reducible rfl
  refine Eng.Sch.take (v := ?_) rfl rfl (by decide) (by kernel_rfl) (fun w hw => ?_) ?_
  rotate_left
  · (try dsimp only at hw); go_simp; first | done | with_reducible rfl
  refine Eng.Sch.take (v := ?_) rfl rfl (by decide) (by kernel_rfl) (fun w hw => ?_) ?_
  rotate_left
  · (try dsimp only at hw); go_simp; first | done | with_reducible rfl
  refine Eng.Sch.take (v := ?_) rfl rfl (by decide) (by kernel_rfl) (fun w hw => ?_) ?_
  rotate_left
  · (try dsimp only at hw); go_simp; first | done | with_reducible rfl
  refine Eng.Sch.take (v := ?_) rfl rfl (by decide) (by kernel_rfl) (fun w hw => ?_) ?_
  rotate_left
  · (try dsimp only at hw); go_simp; first | done | with_reducible rfl
  refine Eng.Sch.take (v := ?_) rfl rfl (by decide) (by kernel_rfl) (fun w hw => ?_) ?_
  rotate_left
  · (try dsimp only at hw); go_simp; first | done | with_reducible rfl
  refine Eng.Sch.take (v := ?_) rfl rfl (by decide) (by kernel_rfl) (fun w hw => ?_) ?_
  rotate_left
  · (try dsimp only at hw); go_simp; first | done | with_reducible rfl
  refine Eng.Sch.take (v := ?_) rfl rfl (by decide) (by kernel_rfl) (fun w hw => ?_) ?_
  rotate_left
  · (try dsimp only at hw); go_simp; first | done | with_reducible rfl
  refine Eng.Sch.take (v := ?_) rfl rfl (by decide) (by kernel_rfl) (fun w hw => ?_) ?_
  rotate_left
  · (try dsimp only at hw); go_simp; first | done | with_reducible rfl
  refine Eng.Sch.take (v := ?_) rfl rfl (by decide) (by kernel_rfl) (fun w hw => ?_) ?_
  rotate_left
  · (try dsimp only at hw); go_simp; first | done | with_reducible rfl
  refine Eng.Sch.take (v := ?_) rfl rfl (by decide) (by kernel_rfl) (fun w hw => ?_) ?_
  rotate_left
  · (try dsimp only at hw); go_simp; first | done | with_reducible rfl
  refine Eng.Sch.take (v := ?_) rfl rfl (by decide) (by kernel_rfl) (fun w hw => ?_) ?_
  rotate_left
  · (try dsimp only at hw); go_simp; first | done | with_reducible rfl
  refine Eng.Sch.call rfl rfl (by decide) (by kernel_rfl) ?_ (AvlII.PutB Bm key val L F _ HStw.out.map (by omega)) ?_
  · go_simp
  rintro e w2 ⟨rfl, hT⟩
  obtain ⟨F2, hst2, hF2, hfr2⟩ := HStw.out.turn hT
  have HSt2 := Lib.hid hst2; have HAc2 := Lib.hid (HAcw.out.turn hF2 hfr2)
  have hSS := HAc2.out.cells
  dsimp only at hSS
  clear hT hst2 hF2 hfr2
  refine ⟨_, rfl, hSS, ?_⟩
  refine Eng.Sch.call rfl rfl (by decide) (by kernel_rfl) ?_ (Ref12.Put Bx A c key val L w2 HSt2.out.box HSt2.out.row (fun a ha => (HSt2.out.fA a ha).2.2.2.2) HStw.out.map.srt (by omega)) ?_
  · go_simp
  rintro e w3 ⟨A3, c3, rfl, h1, h2, h3, h4⟩
  have HSt3 := Lib.hid (HSt2.out.ref h1 h2 h3 h4); have HAc3 := Lib.hid (HAc2.out.fr h4 HAc2.out.nx)
  have hSS := HAc3.out.cells
  dsimp only at hSS
  clear h1 h2 h3 h4
  refine ⟨_, rfl, hSS, ?_⟩
  refine Eng.Sch.take (v := ?_) rfl rfl (by decide) (by kernel_rfl) (fun w hw => ?_) ?_
  rotate_left
  · (try dsimp only at hw); go_simp; first | done | with_reducible rfl
  refine Eng.Sch.take (v := ?_) rfl rfl (by decide) (by kernel_rfl) (fun w hw => ?_) ?_
  rotate_left
  · (try dsimp only at hw); go_simp; first | done | with_reducible rfl
  refine Eng.Sch.take (v := ?_) rfl rfl (by decide) (by kernel_rfl) (fun w hw => ?_) ?_
  rotate_left
  · (try dsimp only at hw); go_simp; first | done | with_reducible rfl
  refine Eng.Sch.take (v := ?_) rfl rfl (by decide) (by kernel_rfl) (fun w hw => ?_) ?_
  rotate_left
  · (try dsimp only at hw); go_simp; first | done | with_reducible rfl
  refine Eng.Sch.take (v := ?_) rfl rfl (by decide) (by kernel_rfl) (fun w hw => ?_) ?_
  rotate_left
  · (try dsimp only at hw); go_simp; first | done | with_reducible rfl
  refine Eng.Sch.take (v := ?_) rfl rfl (by decide) (by kernel_rfl) (fun w hw => ?_) ?_
  rotate_left
  · (try dsimp only at hw); go_simp; first | done | with_reducible rfl
  refine Eng.Sch.take (v := ?_) rfl rfl (by decide) (by kernel_rfl) (fun w hw => ?_) ?_
  rotate_left
  · (try dsimp only at hw); go_simp; first | done | with_reducible rfl
  refine Eng.Sch.skip rfl rfl (by decide) (by kernel_rfl) ?_
  refine Eng.Sch.skip rfl rfl (by decide) (by kernel_rfl) ?_
  refine Eng.Sch.skip rfl rfl (by decide) (by kernel_rfl) ?_
  refine Eng.Sch.skip rfl rfl (by decide) (by kernel_rfl) ?_
  refine Eng.Sch.skip rfl rfl (by decide) (by kernel_rfl) ?_
  refine Eng.Sch.skip rfl rfl (by decide) (by kernel_rfl) ?_
  refine Eng.Sch.skip rfl rfl (by decide) (by kernel_rfl) ?_
  refine Eng.Sch.skip rfl rfl (by decide) (by kernel_rfl) ?_
  refine Eng.Sch.take (v := ?_) rfl rfl (by decide) (by kernel_rfl) (fun w hw => ?_) ?_
  rotate_left
  · (try dsimp only at hw); go_simp; first | done | with_reducible rfl
  refine Eng.Sch.take (v := ?_) rfl rfl (by decide) (by kernel_rfl) (fun w hw => ?_) ?_
  rotate_left
  · (try dsimp only at hw); go_simp; first | done | with_reducible rfl
  refine Eng.Sch.end_ [34, 35, 36, 37, 38, 39, 40, 41, 42, 43, 44, 45, 46, 47, 48, 49, 50, 51, 52, 53, 54, 55, 56, 57, 58, 59, 60, 61, 62, 63, 64, 65] HN.out (by kernel_rfl) (by kernel_rfl) ?_
  exact HP.out _ _ _ _ _ rfl HSt3.out HAc3.out

set_option maxRecDepth 100000 in
set_option maxHeartbeats 400000 in
theorem r10_drop {ops : Array Oper} (hops : Eng.fnOps Try.f5 10 = ops) (a0 : Act) (Q : Exit → Act → World → Prop) (n0 Bm Bx Ba : Nat) (kd key val : Int) (L : List (Int × Int)) (F : List Nat) (A : Option Addr) (c : Nat) (w0 w : World) (hst : St n0 Bm Bx L F L A c w0 w) (hac : Ac Ba Bm Bx F (kd, key, val) w) (hlen : L.length ≤ 1000) (k1 : (kd == 1) = false) (k2 : (kd == 2) = true)
    (hn : a0.tmps.size = 202) (h_3 : a0.tmps.getD 3 undef = .pointer (some ⟨Bm, 0, none⟩)) (h_5 : a0.tmps.getD 5 undef = .pointer (some ⟨Bx, 0, none⟩)) (h_7 : a0.tmps.getD 7 undef = .pointer (some ⟨Ba, 0, none⟩))
    (hQ : ∀ c (a : Act) (d : Nat) (v : Value) w, Q (.panic c) (a.put (some d) v) w → Q (.panic c) a w)
    (hpost : ∀ (x : Nat → Value) (w' : World) (F2 : List Nat) (A2 : Option Addr) (c2 : Nat), x 65 = .bool false → St n0 Bm Bx (delL key L) F2 (delL key L) A2 c2 w0 w' → Ac Ba Bm Bx F2 (kd, key, val) w' → Q .normal (Eng.setAll a0 [34, 35, 36, 37, 38, 39, 40, 41, 42, 43, 44, 45, 46, 47, 48, 49, 50, 51, 52, 53, 54, 55, 56, 57, 58, 59, 60, 61, 62, 63, 64, 65] x) w') :
    (Code.region 10 ops true).wp Try.prog Q a0 w := by
  simp only [Eng.fnOps, Eng.regOps, Try.f5, Option.bind_some, Option.getD_some, Nat.reduceEqDiff, ↓reduceIte, Nat.reduceBEq] at hops
  subst hops
  have HStw := Lib.hid (hst.fr (Fr.drew _ _)); have HAcw := Lib.hid (hac.fr (Fr.drew (fun _ => False) _) (fun h => h))
  have hSS := HAcw.out.cells
  dsimp only at hSS
  clear hst hac
  have kq : (hasL key L != hasL key L) = false := by simp
  refine Eng.region' [(0, true), (1, true), (2, true), (3, true), (4, true), (5, true), (6, true), (7, true), (8, true), (9, true), (10, true), (11, true), (12, true), (13, true), (14, true), (15, true), (16, true), (17, true), (18, true), (19, true), (20, true), (21, true), (22, true), (23, true), (25, true), (26, true), (27, true), (24, false), (28, false), (29, true), (30, true), (31, true)] (fun w' => w'.cell? ⟨Ba, 0, none⟩ = some (.int .i64 kd) ∧ w'.cell? ⟨Ba, 1, none⟩ = some (.int .i64 key) ∧ w'.cell? ⟨Ba, 2, none⟩ = some (.int .i64 val)) (by kernel_rfl) 202 hn (by kernel_rfl) hQ rfl (by kernel_rfl) (hSS) (fun a b ha hb => ?_)
  subst ha
  have hb3 : b 3 = .pointer (some ⟨Bm, 0, none⟩) := (hb 3).symm.trans h_3
  have hb5 : b 5 = .pointer (some ⟨Bx, 0, none⟩) := (hb 5).symm.trans h_5
  have hb7 : b 7 = .pointer (some ⟨Ba, 0, none⟩) := (hb 7).symm.trans h_7
  clear hb h_3 h_5 h_7
  have HP := Lib.hid hpost; have HN := Lib.hid hn
  clear hpost hn hQ
  refine Eng.Sch.take (v := ?_) rfl rfl (by decide) (by kernel_rfl) (fun w hw => ?_) ?_
  rotate_left
  · (try dsimp only at hw); go_simp; first | done | with_reducible rfl
  refine Eng.Sch.take (v := ?_) rfl rfl (by decide) (by kernel_rfl) (fun w hw => ?_) ?_
  rotate_left
  · (try dsimp only at hw); go_simp; first | done | with_reducible rfl
  refine Eng.Sch.take (v := ?_) rfl rfl (by decide) (by kernel_rfl) (fun w hw => ?_) ?_
  rotate_left
  · (try dsimp only at hw); go_simp; first | done | with_reducible rfl
  refine Eng.Sch.take (v := ?_) rfl rfl (by decide) (by kernel_rfl) (fun w hw => ?_) ?_
  rotate_left
  · (try dsimp only at hw); go_simp; first | done | with_reducible rfl
  refine Eng.Sch.skip rfl rfl (by decide) (by kernel_rfl) ?_
  refine Eng.Sch.skip rfl rfl (by decide) (by kernel_rfl) ?_
  refine Eng.Sch.skip rfl rfl (by decide) (by kernel_rfl) ?_
  refine Eng.Sch.skip rfl rfl (by decide) (by kernel_rfl) ?_
  refine Eng.Sch.skip rfl rfl (by decide) (by kernel_rfl) ?_
  refine Eng.Sch.skip rfl rfl (by decide) (by kernel_rfl) ?_
  refine Eng.Sch.skip rfl rfl (by decide) (by kernel_rfl) ?_
  refine Eng.Sch.skip rfl rfl (by decide) (by kernel_rfl) ?_
  refine Eng.Sch.skip rfl rfl (by decide) (by kernel_rfl) ?_
  refine Eng.Sch.skip rfl rfl (by decide) (by kernel_rfl) ?_
  refine Eng.Sch.skip rfl rfl (by decide) (by kernel_rfl) ?_
  refine Eng.Sch.skip rfl rfl (by decide) (by kernel_rfl) ?_
  refine Eng.Sch.take (v := ?_) rfl rfl (by decide) (by kernel_rfl) (fun w hw => ?_) ?_
  rotate_left
  · (try dsimp only at hw); go_simp; first | done | with_reducible rfl
  refine Eng.Sch.take (v := ?_) rfl rfl (by decide) (by kernel_rfl) (fun w hw => ?_) ?_
  rotate_left
  · (try dsimp only at hw); go_simp; first | done | with_reducible rfl
  refine Eng.Sch.take (v := ?_) rfl rfl (by decide) (by kernel_rfl) (fun w hw => ?_) ?_
  rotate_left
  · (try dsimp only at hw); go_simp; first | done | with_reducible rfl
  refine Eng.Sch.take (v := ?_) rfl rfl (by decide) (by kernel_rfl) (fun w hw => ?_) ?_
  rotate_left
  · (try dsimp only at hw); go_simp; first | done | with_reducible rfl
  refine Eng.Sch.take (v := ?_) rfl rfl (by decide) (by kernel_rfl) (fun w hw => ?_) ?_
  rotate_left
  · (try dsimp only at hw); go_simp; first | done | with_reducible rfl
  refine Eng.Sch.take (v := ?_) rfl rfl (by decide) (by kernel_rfl) (fun w hw => ?_) ?_
  rotate_left
  · (try dsimp only at hw); go_simp; first | done | with_reducible rfl
  refine Eng.Sch.take (v := ?_) rfl rfl (by decide) (by kernel_rfl) (fun w hw => ?_) ?_
  rotate_left
  · (try dsimp only at hw); go_simp; first | done | with_reducible rfl
  refine Eng.Sch.take (v := ?_) rfl rfl (by decide) (by kernel_rfl) (fun w hw => ?_) ?_
  rotate_left
  · (try dsimp only at hw); go_simp; first | done | with_reducible rfl
  refine Eng.Sch.take (v := ?_) rfl rfl (by decide) (by kernel_rfl) (fun w hw => ?_) ?_
  rotate_left
  · (try dsimp only at hw); go_simp; first | done | with_reducible rfl
  refine Eng.Sch.take (v := ?_) rfl rfl (by decide) (by kernel_rfl) (fun w hw => ?_) ?_
  rotate_left
  · (try dsimp only at hw); go_simp; first | done | with_reducible rfl
  refine Eng.Sch.take (v := ?_) rfl rfl (by decide) (by kernel_rfl) (fun w hw => ?_) ?_
  rotate_left
  · (try dsimp only at hw); go_simp; first | done | with_reducible rfl
  refine Eng.Sch.call rfl rfl (by decide) (by kernel_rfl) ?_ (AvlII.DropB Bm key L F _ HStw.out.map (by omega)) ?_
  · go_simp
  rintro e w2 ⟨rfl, hT⟩
  obtain ⟨F2, hst2, hF2, hfr2⟩ := HStw.out.turn hT
  have HSt2 := Lib.hid hst2; have HAc2 := Lib.hid (HAcw.out.turn hF2 hfr2)
  have hSS := HAc2.out.cells
  dsimp only at hSS
  clear hT hst2 hF2 hfr2
  refine ⟨_, rfl, hSS, ?_⟩
  refine Eng.Sch.call rfl rfl (by decide) (by kernel_rfl) ?_ (Ref12.Drop Bx A c key L w2 HSt2.out.box HSt2.out.row (fun a ha => (HSt2.out.fA a ha).2.2.2.2) (by omega)) ?_
  · go_simp
  rintro e w3 ⟨A3, c3, rfl, h1, h2, h3, h4⟩
  have HSt3 := Lib.hid (HSt2.out.ref h1 h2 h3 h4); have HAc3 := Lib.hid (HAc2.out.fr h4 HAc2.out.nx)
  have hSS := HAc3.out.cells
  dsimp only at hSS
  clear h1 h2 h3 h4
  refine ⟨_, rfl, hSS, ?_⟩
  refine Eng.Sch.take (v := ?_) rfl rfl (by decide) (by kernel_rfl) (fun w hw => ?_) ?_
  rotate_left
  · (try dsimp only at hw); go_simp; first | done | with_reducible rfl
  refine Eng.Sch.take (v := ?_) rfl rfl (by decide) (by kernel_rfl) (fun w hw => ?_) ?_
  rotate_left
  · (try dsimp only at hw); go_simp; first | done | with_reducible rfl
  refine Eng.Sch.take (v := ?_) rfl rfl (by decide) (by kernel_rfl) (fun w hw => ?_) ?_
  rotate_left
  · (try dsimp only at hw); go_simp; first | done | with_reducible rfl
  refine Eng.Sch.end_ [34, 35, 36, 37, 38, 39, 40, 41, 42, 43, 44, 45, 46, 47, 48, 49, 50, 51, 52, 53, 54, 55, 56, 57, 58, 59, 60, 61, 62, 63, 64, 65] HN.out (by kernel_rfl) (by kernel_rfl) ?_
  exact HP.out _ _ _ _ _ rfl HSt3.out HAc3.out

set_option maxRecDepth 100000 in
set_option maxHeartbeats 400000 in
theorem r10_none {ops : Array Oper} (hops : Eng.fnOps Try.f5 10 = ops) (a0 : Act) (Q : Exit → Act → World → Prop) (n0 Bm Bx Ba : Nat) (kd key val : Int) (L : List (Int × Int)) (F : List Nat) (A : Option Addr) (c : Nat) (w0 w : World) (hst : St n0 Bm Bx L F L A c w0 w) (hac : Ac Ba Bm Bx F (kd, key, val) w) (hlen : L.length ≤ 1000) (k1 : (kd == 1) = false) (k2 : (kd == 2) = false)
    (hn : a0.tmps.size = 202) (h_7 : a0.tmps.getD 7 undef = .pointer (some ⟨Ba, 0, none⟩))
    (hQ : ∀ c (a : Act) (d : Nat) (v : Value) w, Q (.panic c) (a.put (some d) v) w → Q (.panic c) a w)
    (hpost : ∀ (x : Nat → Value) (w' : World) (F2 : List Nat) (A2 : Option Addr) (c2 : Nat), x 65 = .bool false → St n0 Bm Bx (L) F2 (L) A2 c2 w0 w' → Ac Ba Bm Bx F2 (kd, key, val) w' → Q .normal (Eng.setAll a0 [34, 35, 36, 37, 38, 39, 40, 41, 42, 43, 44, 45, 46, 47, 48, 49, 50, 51, 52, 53, 54, 55, 56, 57, 58, 59, 60, 61, 62, 63, 64, 65] x) w') :
    (Code.region 10 ops true).wp Try.prog Q a0 w := by
  simp only [Eng.fnOps, Eng.regOps, Try.f5, Option.bind_some, Option.getD_some, Nat.reduceEqDiff, ↓reduceIte, Nat.reduceBEq] at hops
  subst hops
  have HStw := Lib.hid (hst.fr (Fr.drew _ _)); have HAcw := Lib.hid (hac.fr (Fr.drew (fun _ => False) _) (fun h => h))
  have hSS := HAcw.out.cells
  dsimp only at hSS
  clear hst hac
  refine Eng.region' [(0, true), (1, true), (2, true), (3, true), (4, true), (5, true), (6, true), (7, true), (8, true), (9, true), (10, true), (11, true), (12, true), (13, true), (14, true), (15, true), (16, true), (17, true), (18, true), (19, true), (20, true), (21, true), (22, true), (23, true), (24, true), (25, true), (26, true), (27, true), (28, true), (29, true), (30, true), (31, true)] (fun w' => w'.cell? ⟨Ba, 0, none⟩ = some (.int .i64 kd) ∧ w'.cell? ⟨Ba, 1, none⟩ = some (.int .i64 key) ∧ w'.cell? ⟨Ba, 2, none⟩ = some (.int .i64 val)) (by kernel_rfl) 202 hn (by kernel_rfl) hQ rfl (by kernel_rfl) (hSS) (fun a b ha hb => ?_)
  subst ha
  have hb7 : b 7 = .pointer (some ⟨Ba, 0, none⟩) := (hb 7).symm.trans h_7
  clear hb h_7
  have HP := Lib.hid hpost; have HN := Lib.hid hn
  clear hpost hn hQ
  refine Eng.Sch.take (v := ?_) rfl rfl (by decide) (by kernel_rfl) (fun w hw => ?_) ?_
  rotate_left
  · (try dsimp only at hw); go_simp; first | done | with_reducible rfl
  refine Eng.Sch.take (v := ?_) rfl rfl (by decide) (by kernel_rfl) (fun w hw => ?_) ?_
  rotate_left
  · (try dsimp only at hw); go_simp; first | done | with_reducible rfl
  refine Eng.Sch.take (v := ?_) rfl rfl (by decide) (by kernel_rfl) (fun w hw => ?_) ?_
  rotate_left
  · (try dsimp only at hw); go_simp; first | done | with_reducible rfl
  refine Eng.Sch.take (v := ?_) rfl rfl (by decide) (by kernel_rfl) (fun w hw => ?_) ?_
  rotate_left
  · (try dsimp only at hw); go_simp; first | done | with_reducible rfl
  refine Eng.Sch.skip rfl rfl (by decide) (by kernel_rfl) ?_
  refine Eng.Sch.skip rfl rfl (by decide) (by kernel_rfl) ?_
  refine Eng.Sch.skip rfl rfl (by decide) (by kernel_rfl) ?_
  refine Eng.Sch.skip rfl rfl (by decide) (by kernel_rfl) ?_
  refine Eng.Sch.skip rfl rfl (by decide) (by kernel_rfl) ?_
  refine Eng.Sch.skip rfl rfl (by decide) (by kernel_rfl) ?_
  refine Eng.Sch.skip rfl rfl (by decide) (by kernel_rfl) ?_
  refine Eng.Sch.skip rfl rfl (by decide) (by kernel_rfl) ?_
  refine Eng.Sch.skip rfl rfl (by decide) (by kernel_rfl) ?_
  refine Eng.Sch.skip rfl rfl (by decide) (by kernel_rfl) ?_
  refine Eng.Sch.skip rfl rfl (by decide) (by kernel_rfl) ?_
  refine Eng.Sch.skip rfl rfl (by decide) (by kernel_rfl) ?_
  refine Eng.Sch.take (v := ?_) rfl rfl (by decide) (by kernel_rfl) (fun w hw => ?_) ?_
  rotate_left
  · (try dsimp only at hw); go_simp; first | done | with_reducible rfl
  refine Eng.Sch.take (v := ?_) rfl rfl (by decide) (by kernel_rfl) (fun w hw => ?_) ?_
  rotate_left
  · (try dsimp only at hw); go_simp; first | done | with_reducible rfl
  refine Eng.Sch.take (v := ?_) rfl rfl (by decide) (by kernel_rfl) (fun w hw => ?_) ?_
  rotate_left
  · (try dsimp only at hw); go_simp; first | done | with_reducible rfl
  refine Eng.Sch.take (v := ?_) rfl rfl (by decide) (by kernel_rfl) (fun w hw => ?_) ?_
  rotate_left
  · (try dsimp only at hw); go_simp; first | done | with_reducible rfl
  refine Eng.Sch.take (v := ?_) rfl rfl (by decide) (by kernel_rfl) (fun w hw => ?_) ?_
  rotate_left
  · (try dsimp only at hw); go_simp; first | done | with_reducible rfl
  refine Eng.Sch.take (v := ?_) rfl rfl (by decide) (by kernel_rfl) (fun w hw => ?_) ?_
  rotate_left
  · (try dsimp only at hw); go_simp; first | done | with_reducible rfl
  refine Eng.Sch.skip rfl rfl (by decide) (by kernel_rfl) ?_
  refine Eng.Sch.skip rfl rfl (by decide) (by kernel_rfl) ?_
  refine Eng.Sch.skip rfl rfl (by decide) (by kernel_rfl) ?_
  refine Eng.Sch.skip rfl rfl (by decide) (by kernel_rfl) ?_
  refine Eng.Sch.skip rfl rfl (by decide) (by kernel_rfl) ?_
  refine Eng.Sch.skip rfl rfl (by decide) (by kernel_rfl) ?_
  refine Eng.Sch.skip rfl rfl (by decide) (by kernel_rfl) ?_
  refine Eng.Sch.skip rfl rfl (by decide) (by kernel_rfl) ?_
  refine Eng.Sch.take (v := ?_) rfl rfl (by decide) (by kernel_rfl) (fun w hw => ?_) ?_
  rotate_left
  · (try dsimp only at hw); go_simp; first | done | with_reducible rfl
  refine Eng.Sch.take (v := ?_) rfl rfl (by decide) (by kernel_rfl) (fun w hw => ?_) ?_
  rotate_left
  · (try dsimp only at hw); go_simp; first | done | with_reducible rfl
  refine Eng.Sch.end_ [34, 35, 36, 37, 38, 39, 40, 41, 42, 43, 44, 45, 46, 47, 48, 49, 50, 51, 52, 53, 54, 55, 56, 57, 58, 59, 60, 61, 62, 63, 64, 65] HN.out (by kernel_rfl) (by kernel_rfl) ?_
  exact HP.out _ _ _ _ _ rfl HStw.out HAcw.out

end Law12
end Go.Proofs.Ytolpdgaomlhgdaa
