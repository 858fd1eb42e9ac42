/- Layer 13's statements: BagSums and BagAll: the statements that draw their order. -/
import Derived.Test.YtolpdgaomlhgdaaLaw13ra
namespace Go.Proofs.Ytolpdgaomlhgdaa
open Go.RowKit
namespace Law13
open BagP Bag
attribute [local go_sem] Eng.ev Eng.getO_cons Eng.getO_nil

/-- A bag alone among other blocks. -/
structure S1 (n0 Bb : Nat) (L : List (Int × Int)) (FB : List Nat) (X : List (List Nat)) (w0 w : World) : Prop where
  zs : Zs n0 w0 w (FB :: X)
  bb : BagZ w Bb L FB
section
variable {n0 Bb : Nat} {L L' : List (Int × Int)} {FB : List Nat} {X : List (List Nat)} {w0 w w' : World}
theorem S1.fr (h : S1 n0 Bb L FB X w0 w) (hf : Fr (fun _ => False) w w') : S1 n0 Bb L FB X w0 w' := ⟨h.zs.fr hf, h.bb.fr hf (fun _ _ h => h)⟩
theorem S1.turn (h : S1 n0 Bb L FB X w0 w) (ht : ∃ F', BagZ w' Bb L' F' ∧ Tn FB F' w w') : ∃ F', S1 n0 Bb L' F' X w0 w' ∧ Fr (fun b => b ∈ FB) w w' := by
  obtain ⟨F', h1, h2⟩ := ht
  exact ⟨F', ⟨h.zs.turn [] X h2, h1⟩, h2.fr⟩
end
set_option maxRecDepth 100000 in
set_option maxHeartbeats 400000 in
theorem s8 {ops : Array Oper} (hops : Eng.fnOps Try.f9 8 = ops) (a0 : Act) (Q : Exit → Act → World → Prop) (n0 Bb b1 o1 c0 len j : Nat) (x_ m : Int) (L : List (Int × Int)) (FB : List Nat) (X : List (List Nat)) (w0 w : World) (hst : S1 n0 Bb L FB X w0 w) (hlow : b1 < n0) (hj : j < len) (hlen : L.length ≤ 1000) (e1 : w0.cell? ⟨b1, o1 + j * 3 + 1, none⟩ = some (.int .i64 x_)) (e2 : w0.cell? ⟨b1, o1 + j * 3 + 1 + 1, none⟩ = some (.int .i64 m))
    (hn : a0.tmps.size = 106) (h_0 : a0.tmps.getD 0 undef = .slice (some ⟨b1, o1, none⟩) len c0) (h_7 : a0.tmps.getD 7 undef = .pointer (some ⟨Bb, 0, none⟩)) (h_8 : a0.tmps.getD 8 undef = .int .i64 (j : Int))
    (hpost : ∀ (x : Nat → Value) (w' : World) (F' : List Nat), S1 n0 Bb (takeL x_ m L) F' X w0 w' → Fr (fun b => b ∈ FB) w w' → Q .normal (Eng.setAll a0 [28, 29, 30, 31, 32, 33, 34, 35, 36, 37, 38] x) w') :
    (Code.region 8 ops true).wp Try.prog Q a0 w := by
  simp only [Eng.fnOps, Eng.regOps, Try.f9, Option.bind_some, Option.getD_some, Nat.reduceEqDiff, ↓reduceIte, Nat.reduceBEq] at hops
  subst hops
  have q1 : (0 : Int) ≤ (j : Int) := by omega
  have q2 : (j : Int) < (len : Int) := by omega
  have HSt := Lib.hid (hst.fr (Fr.drew _ _))
  have hSS : w.drew.cell? ⟨b1, o1 + j * 3 + 1, none⟩ = some (.int .i64 x_) ∧ w.drew.cell? ⟨b1, o1 + j * 3 + 1 + 1, none⟩ = some (.int .i64 m) := ⟨(HSt.out.zs.bel.cell (p := ⟨b1, _, none⟩) hlow).trans e1, (HSt.out.zs.bel.cell (p := ⟨b1, _, none⟩) hlow).trans e2⟩
  refine Eng.regionN [(0, true), (1, true), (2, true), (3, true), (4, true), (5, true), (6, true), (7, true), (8, true), (9, true), (10, false)] (fun w' => w'.cell? ⟨b1, o1 + j * 3 + 1, none⟩ = some (.int .i64 x_) ∧ w'.cell? ⟨b1, o1 + j * 3 + 1 + 1, none⟩ = some (.int .i64 m)) (by kernel_rfl) 106 hn (by kernel_rfl) rfl (by kernel_rfl) (hSS) (fun a b ha hb => ?_)
  subst ha
  have hb0 : b 0 = .slice (some ⟨b1, o1, none⟩) len c0 := (hb 0).symm.trans h_0
  have hb7 : b 7 = .pointer (some ⟨Bb, 0, none⟩) := (hb 7).symm.trans h_7
  have hb8 : b 8 = .int .i64 (j : Int) := (hb 8).symm.trans h_8
  clear hb h_0 h_7 h_8
  have HP := Lib.hid hpost; have HN := Lib.hid hn
  clear hpost hn
  refine Eng.Sch.take (v := ?_) rfl rfl (by decide) (by kernel_rfl) (fun w hw => ?_) ?_
  rotate_left
  · (try dsimp only at hw); go_simp; first | done | with_reducible rfl
  refine Eng.Sch.take (v := ?_) rfl rfl (by decide) (by kernel_rfl) (fun w hw => ?_) ?_
  rotate_left
  · (try dsimp only at hw); go_simp; first | done | with_reducible rfl
  refine Eng.Sch.take (v := ?_) rfl rfl (by decide) (by kernel_rfl) (fun w hw => ?_) ?_
  rotate_left
  · (try dsimp only at hw); go_simp; first | done | with_reducible rfl
  refine Eng.Sch.take (v := ?_) rfl rfl (by decide) (by kernel_rfl) (fun w hw => ?_) ?_
  rotate_left
  · (try dsimp only at hw); go_simp; first | done | with_reducible rfl
  refine Eng.Sch.take (v := ?_) rfl rfl (by decide) (by kernel_rfl) (fun w hw => ?_) ?_
  rotate_left
  · (try dsimp only at hw); go_simp; first | done | with_reducible rfl
  refine Eng.Sch.take (v := ?_) rfl rfl (by decide) (by kernel_rfl) (fun w hw => ?_) ?_
  rotate_left
  · (try dsimp only at hw); go_simp; first | done | with_reducible rfl
  refine Eng.Sch.take (v := ?_) rfl rfl (by decide) (by kernel_rfl) (fun w hw => ?_) ?_
  rotate_left
  · (try dsimp only at hw); go_simp; first | done | with_reducible rfl
  refine Eng.Sch.take (v := ?_) rfl rfl (by decide) (by kernel_rfl) (fun w hw => ?_) ?_
  rotate_left
  · (try dsimp only at hw); go_simp; first | done | with_reducible rfl
  refine Eng.Sch.take (v := ?_) rfl rfl (by decide) (by kernel_rfl) (fun w hw => ?_) ?_
  rotate_left
  · (try dsimp only at hw); go_simp; first | done | with_reducible rfl
  refine Eng.Sch.take (v := ?_) rfl rfl (by decide) (by kernel_rfl) (fun w hw => ?_) ?_
  rotate_left
  · (try dsimp only at hw); go_simp; first | done | with_reducible rfl
  refine Eng.Sch.call rfl rfl (by decide) (by kernel_rfl) ?_ (TakeZ Bb x_ m L FB _ HSt.out.bb (by omega)) ?_
  · go_simp
  rintro e w2 ⟨rfl, hT⟩
  obtain ⟨F2, hst2, hfr⟩ := HSt.out.turn hT
  have HFr := Lib.hid ((Fr.drew (fun _ => False) w).trans hfr (T := fun b => b ∈ FB) (fun _ _ h => h.elim) (fun _ _ h => h))
  have HSt1 := Lib.hid (hst2)
  have hSS : w2.cell? ⟨b1, o1 + j * 3 + 1, none⟩ = some (.int .i64 x_) ∧ w2.cell? ⟨b1, o1 + j * 3 + 1 + 1, none⟩ = some (.int .i64 m) := ⟨(HSt1.out.zs.bel.cell (p := ⟨b1, _, none⟩) hlow).trans e1, (HSt1.out.zs.bel.cell (p := ⟨b1, _, none⟩) hlow).trans e2⟩
  clear hT hfr
  refine ⟨_, rfl, hSS, ?_⟩
  refine Eng.Sch.end_ [28, 29, 30, 31, 32, 33, 34, 35, 36, 37, 38] HN.out (by kernel_rfl) (by kernel_rfl) ?_
  exact HP.out _ _ _ HSt1.out HFr.out

set_option maxRecDepth 100000 in
set_option maxHeartbeats 400000 in
theorem s9 {ops : Array Oper} (hops : Eng.fnOps Try.f9 9 = ops) (a0 : Act) (Q : Exit → Act → World → Prop) (n0 Bb b1 o1 c0 len j : Nat) (x_ m : Int) (L : List (Int × Int)) (FB : List Nat) (X : List (List Nat)) (w0 w : World) (hst : S1 n0 Bb L FB X w0 w) (hlow : b1 < n0) (hj : j < len) (hlen : L.length ≤ 1000) (e1 : w0.cell? ⟨b1, o1 + j * 3 + 1, none⟩ = some (.int .i64 x_)) (e2 : w0.cell? ⟨b1, o1 + j * 3 + 1 + 1, none⟩ = some (.int .i64 m))
    (hn : a0.tmps.size = 106) (h_0 : a0.tmps.getD 0 undef = .slice (some ⟨b1, o1, none⟩) len c0) (h_7 : a0.tmps.getD 7 undef = .pointer (some ⟨Bb, 0, none⟩)) (h_8 : a0.tmps.getD 8 undef = .int .i64 (j : Int))
    (hpost : ∀ (x : Nat → Value) (w' : World) (F' : List Nat), S1 n0 Bb (addL x_ m L) F' X w0 w' → Fr (fun b => b ∈ FB) w w' → Q .normal (Eng.setAll a0 [39, 40, 41, 42, 43, 44, 45, 46, 47, 48, 49] x) w') :
    (Code.region 9 ops true).wp Try.prog Q a0 w := by
  simp only [Eng.fnOps, Eng.regOps, Try.f9, Option.bind_some, Option.getD_some, Nat.reduceEqDiff, ↓reduceIte, Nat.reduceBEq] at hops
  subst hops
  have q1 : (0 : Int) ≤ (j : Int) := by omega
  have q2 : (j : Int) < (len : Int) := by omega
  have HSt := Lib.hid (hst.fr (Fr.drew _ _))
  have hSS : w.drew.cell? ⟨b1, o1 + j * 3 + 1, none⟩ = some (.int .i64 x_) ∧ w.drew.cell? ⟨b1, o1 + j * 3 + 1 + 1, none⟩ = some (.int .i64 m) := ⟨(HSt.out.zs.bel.cell (p := ⟨b1, _, none⟩) hlow).trans e1, (HSt.out.zs.bel.cell (p := ⟨b1, _, none⟩) hlow).trans e2⟩
  refine Eng.regionN [(0, true), (1, true), (2, true), (3, true), (4, true), (5, true), (6, true), (7, true), (8, true), (9, true), (10, false)] (fun w' => w'.cell? ⟨b1, o1 + j * 3 + 1, none⟩ = some (.int .i64 x_) ∧ w'.cell? ⟨b1, o1 + j * 3 + 1 + 1, none⟩ = some (.int .i64 m)) (by kernel_rfl) 106 hn (by kernel_rfl) rfl (by kernel_rfl) (hSS) (fun a b ha hb => ?_)
  subst ha
  have hb0 : b 0 = .slice (some ⟨b1, o1, none⟩) len c0 := (hb 0).symm.trans h_0
  have hb7 : b 7 = .pointer (some ⟨Bb, 0, none⟩) := (hb 7).symm.trans h_7
  have hb8 : b 8 = .int .i64 (j : Int) := (hb 8).symm.trans h_8
  clear hb h_0 h_7 h_8
  have HP := Lib.hid hpost; have HN := Lib.hid hn
  clear hpost hn
  refine Eng.Sch.take (v := ?_) rfl rfl (by decide) (by kernel_rfl) (fun w hw => ?_) ?_
  rotate_left
  · (try dsimp only at hw); go_simp; first | done | with_reducible rfl
  refine Eng.Sch.take (v := ?_) rfl rfl (by decide) (by kernel_rfl) (fun w hw => ?_) ?_
  rotate_left
  · (try dsimp only at hw); go_simp; first | done | with_reducible rfl
  refine Eng.Sch.take (v := ?_) rfl rfl (by decide) (by kernel_rfl) (fun w hw => ?_) ?_
  rotate_left
  · (try dsimp only at hw); go_simp; first | done | with_reducible rfl
  refine Eng.Sch.take (v := ?_) rfl rfl (by decide) (by kernel_rfl) (fun w hw => ?_) ?_
  rotate_left
  · (try dsimp only at hw); go_simp; first | done | with_reducible rfl
  refine Eng.Sch.take (v := ?_) rfl rfl (by decide) (by kernel_rfl) (fun w hw => ?_) ?_
  rotate_left
  · (try dsimp only at hw); go_simp; first | done | with_reducible rfl
  refine Eng.Sch.take (v := ?_) rfl rfl (by decide) (by kernel_rfl) (fun w hw => ?_) ?_
  rotate_left
  · (try dsimp only at hw); go_simp; first | done | with_reducible rfl
  refine Eng.Sch.take (v := ?_) rfl rfl (by decide) (by kernel_rfl) (fun w hw => ?_) ?_
  rotate_left
  · (try dsimp only at hw); go_simp; first | done | with_reducible rfl
  refine Eng.Sch.take (v := ?_) rfl rfl (by decide) (by kernel_rfl) (fun w hw => ?_) ?_
  rotate_left
  · (try dsimp only at hw); go_simp; first | done | with_reducible rfl
  refine Eng.Sch.take (v := ?_) rfl rfl (by decide) (by kernel_rfl) (fun w hw => ?_) ?_
  rotate_left
  · (try dsimp only at hw); go_simp; first | done | with_reducible rfl
  refine Eng.Sch.take (v := ?_) rfl rfl (by decide) (by kernel_rfl) (fun w hw => ?_) ?_
  rotate_left
  · (try dsimp only at hw); go_simp; first | done | with_reducible rfl
  refine Eng.Sch.call rfl rfl (by decide) (by kernel_rfl) ?_ (AddZ Bb x_ m L FB _ HSt.out.bb (by omega)) ?_
  · go_simp
  rintro e w2 ⟨rfl, hT⟩
  obtain ⟨F2, hst2, hfr⟩ := HSt.out.turn hT
  have HFr := Lib.hid ((Fr.drew (fun _ => False) w).trans hfr (T := fun b => b ∈ FB) (fun _ _ h => h.elim) (fun _ _ h => h))
  have HSt1 := Lib.hid (hst2)
  have hSS : w2.cell? ⟨b1, o1 + j * 3 + 1, none⟩ = some (.int .i64 x_) ∧ w2.cell? ⟨b1, o1 + j * 3 + 1 + 1, none⟩ = some (.int .i64 m) := ⟨(HSt1.out.zs.bel.cell (p := ⟨b1, _, none⟩) hlow).trans e1, (HSt1.out.zs.bel.cell (p := ⟨b1, _, none⟩) hlow).trans e2⟩
  clear hT hfr
  refine ⟨_, rfl, hSS, ?_⟩
  refine Eng.Sch.end_ [39, 40, 41, 42, 43, 44, 45, 46, 47, 48, 49] HN.out (by kernel_rfl) (by kernel_rfl) ?_
  exact HP.out _ _ _ HSt1.out HFr.out

set_option maxRecDepth 100000 in
set_option maxHeartbeats 400000 in
theorem b7 {ops : Array Oper} (hops : Eng.fnOps Try.f10 7 = ops) (a0 : Act) (Q : Exit → Act → World → Prop) (n0 Bb b1 o1 c0 len j : Nat) (x_ m : Int) (L : List (Int × Int)) (FB : List Nat) (X : List (List Nat)) (w0 w : World) (hst : S1 n0 Bb L FB X w0 w) (hlow : b1 < n0) (hj : j < len) (hlen : L.length ≤ 1000) (e1 : w0.cell? ⟨b1, o1 + j * 3 + 1, none⟩ = some (.int .i64 x_)) (e2 : w0.cell? ⟨b1, o1 + j * 3 + 1 + 1, none⟩ = some (.int .i64 m))
    (hn : a0.tmps.size = 71) (h_0 : a0.tmps.getD 0 undef = .slice (some ⟨b1, o1, none⟩) len c0) (h_5 : a0.tmps.getD 5 undef = .pointer (some ⟨Bb, 0, none⟩)) (h_6 : a0.tmps.getD 6 undef = .int .i64 (j : Int))
    (hpost : ∀ (x : Nat → Value) (w' : World) (F' : List Nat), S1 n0 Bb (addL x_ m L) F' X w0 w' → Fr (fun b => b ∈ FB) w w' → Q .normal (Eng.setAll a0 [22, 23, 24, 25, 26, 27, 28, 29, 30, 31, 32] x) w') :
    (Code.region 7 ops true).wp Try.prog Q a0 w := by
  simp only [Eng.fnOps, Eng.regOps, Try.f10, Option.bind_some, Option.getD_some, Nat.reduceEqDiff, ↓reduceIte, Nat.reduceBEq] at hops
  subst hops
  have q1 : (0 : Int) ≤ (j : Int) := by omega
  have q2 : (j : Int) < (len : Int) := by omega
  have HSt := Lib.hid (hst.fr (Fr.drew _ _))
  have hSS : w.drew.cell? ⟨b1, o1 + j * 3 + 1, none⟩ = some (.int .i64 x_) ∧ w.drew.cell? ⟨b1, o1 + j * 3 + 1 + 1, none⟩ = some (.int .i64 m) := ⟨(HSt.out.zs.bel.cell (p := ⟨b1, _, none⟩) hlow).trans e1, (HSt.out.zs.bel.cell (p := ⟨b1, _, none⟩) hlow).trans e2⟩
  refine Eng.regionN [(0, true), (1, true), (2, true), (3, true), (4, true), (5, true), (6, true), (7, true), (8, true), (9, true), (10, false)] (fun w' => w'.cell? ⟨b1, o1 + j * 3 + 1, none⟩ = some (.int .i64 x_) ∧ w'.cell? ⟨b1, o1 + j * 3 + 1 + 1, none⟩ = some (.int .i64 m)) (by kernel_rfl) 71 hn (by kernel_rfl) rfl (by kernel_rfl) (hSS) (fun a b ha hb => ?_)
  subst ha
  have hb0 : b 0 = .slice (some ⟨b1, o1, none⟩) len c0 := (hb 0).symm.trans h_0
  have hb5 : b 5 = .pointer (some ⟨Bb, 0, none⟩) := (hb 5).symm.trans h_5
  have hb6 : b 6 = .int .i64 (j : Int) := (hb 6).symm.trans h_6
  clear hb h_0 h_5 h_6
  have HP := Lib.hid hpost; have HN := Lib.hid hn
  clear hpost hn
  refine Eng.Sch.take (v := ?_) rfl rfl (by decide) (by kernel_rfl) (fun w hw => ?_) ?_
  rotate_left
  · (try dsimp only at hw); go_simp; first | done | with_reducible rfl
  refine Eng.Sch.take (v := ?_) rfl rfl (by decide) (by kernel_rfl) (fun w hw => ?_) ?_
  rotate_left
  · (try dsimp only at hw); go_simp; first | done | with_reducible rfl
  refine Eng.Sch.take (v := ?_) rfl rfl (by decide) (by kernel_rfl) (fun w hw => ?_) ?_
  rotate_left
  · (try dsimp only at hw); go_simp; first | done | with_reducible rfl
  refine Eng.Sch.take (v := ?_) rfl rfl (by decide) (by kernel_rfl) (fun w hw => ?_) ?_
  rotate_left
  · (try dsimp only at hw); go_simp; first | done | with_reducible rfl
  refine Eng.Sch.take (v := ?_) rfl rfl (by decide) (by kernel_rfl) (fun w hw => ?_) ?_
  rotate_left
  · (try dsimp only at hw); go_simp; first | done | with_reducible rfl
  refine Eng.Sch.take (v := ?_) rfl rfl (by decide) (by kernel_rfl) (fun w hw => ?_) ?_
  rotate_left
  · (try dsimp only at hw); go_simp; first | done | with_reducible rfl
  refine Eng.Sch.take (v := ?_) rfl rfl (by decide) (by kernel_rfl) (fun w hw => ?_) ?_
  rotate_left
  · (try dsimp only at hw); go_simp; first | done | with_reducible rfl
  refine Eng.Sch.take (v := ?_) rfl rfl (by decide) (by kernel_rfl) (fun w hw => ?_) ?_
  rotate_left
  · (try dsimp only at hw); go_simp; first | done | with_reducible rfl
  refine Eng.Sch.take (v := ?_) rfl rfl (by decide) (by kernel_rfl) (fun w hw => ?_) ?_
  rotate_left
  · (try dsimp only at hw); go_simp; first | done | with_reducible rfl
  refine Eng.Sch.take (v := ?_) rfl rfl (by decide) (by kernel_rfl) (fun w hw => ?_) ?_
  rotate_left
  · (try dsimp only at hw); go_simp; first | done | with_reducible rfl
  refine Eng.Sch.call rfl rfl (by decide) (by kernel_rfl) ?_ (AddZ Bb x_ m L FB _ HSt.out.bb (by omega)) ?_
  · go_simp
  rintro e w2 ⟨rfl, hT⟩
  obtain ⟨F2, hst2, hfr⟩ := HSt.out.turn hT
  have HFr := Lib.hid ((Fr.drew (fun _ => False) w).trans hfr (T := fun b => b ∈ FB) (fun _ _ h => h.elim) (fun _ _ h => h))
  have HSt1 := Lib.hid (hst2)
  have hSS : w2.cell? ⟨b1, o1 + j * 3 + 1, none⟩ = some (.int .i64 x_) ∧ w2.cell? ⟨b1, o1 + j * 3 + 1 + 1, none⟩ = some (.int .i64 m) := ⟨(HSt1.out.zs.bel.cell (p := ⟨b1, _, none⟩) hlow).trans e1, (HSt1.out.zs.bel.cell (p := ⟨b1, _, none⟩) hlow).trans e2⟩
  clear hT hfr
  refine ⟨_, rfl, hSS, ?_⟩
  refine Eng.Sch.end_ [22, 23, 24, 25, 26, 27, 28, 29, 30, 31, 32] HN.out (by kernel_rfl) (by kernel_rfl) ?_
  exact HP.out _ _ _ HSt1.out HFr.out

end Law13
end Go.Proofs.Ytolpdgaomlhgdaa
