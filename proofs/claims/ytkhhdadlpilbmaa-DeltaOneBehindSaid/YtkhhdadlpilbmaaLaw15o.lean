/- Layer 15's statements: DeltaOneBehind: for every input the answer is true. -/
import Derived.Test.YtkhhdadlpilbmaaLaw15m
namespace Go.Proofs.Ytkhhdadlpilbmaa
open Go.RowKit
namespace Law15
open KeyP PackP SetP SetW SetF Delta Comp
attribute [local go_sem] Eng.ev Eng.getO_cons Eng.getO_nil
theorem DS.skip2 {w0 w : World} {q p : Lv} {ls : List Lv} {ds : List Dl} {bs : List (Nat × Dl)} (h : DS w0 w (q :: p :: ls) ds bs) : DS w0 w (q :: ls) ds bs :=
  ⟨fun x hx => h.l x (by rcases List.mem_cons.1 hx with rfl | hx; simp; simp [hx]), h.d, h.x, h.b⟩
set_option maxRecDepth 100000 in
set_option maxHeartbeats 1000000 in
theorem do5 {ops : Array Oper} (hops : Eng.fnOps Try.f13 5 = ops) (a0 : Act) (Q : Exit → Act → World → Prop) (w0 w : World) (Bd : Nat) (A0 A2 A5 A6 : Option Addr) (c0 c2 c5 c6 : Nat) (p r X Z : List Sn) (hp0 : p.length ≤ 500000) (hr0 : r.length ≤ 500000) (hX : X.length ≤ 500000) (eX : setOf p = X) (eZ : setOf r = Z) (h1 : (wout Z X).length ≤ 500000) (h2 : (wout X Z).length ≤ 500000) (hap : applyP X (wout Z X) (wout X Z) = (Z, 0)) (hst : DS w0 w [⟨A0, c0, p⟩, ⟨A2, c2, r⟩] [⟨A5, c5, wout Z X, A6, c6, wout X Z⟩] [(Bd, ⟨A5, c5, wout Z X, A6, c6, wout X Z⟩)])
    (hn : a0.tmps.size = 68) (h_0 : a0.tmps.getD 0 undef = .slice A0 p.length c0) (h_9 : a0.tmps.getD 9 undef = .pointer (some ⟨Bd, 0, none⟩))
    (hpost : ∀ (x : Nat → Value) (w' : World) (A8 : Option Addr) (c8 : Nat), x 11 = .slice A8 Z.length c8 → x 12 = .int .i64 0 → DS w0 w' [⟨A8, c8, Z⟩, ⟨A0, c0, p⟩, ⟨A2, c2, r⟩] [⟨A5, c5, wout Z X, A6, c6, wout X Z⟩] [(Bd, ⟨A5, c5, wout Z X, A6, c6, wout X Z⟩)] → Q .normal (Eng.setAll a0 [11, 12, 39, 40, 41, 42, 43, 44, 45] x) w') :
    (Code.region 5 ops true).wp Try.prog Q a0 w := by
  simp only [Eng.fnOps, Eng.regOps, Try.f13, Option.bind_some, Option.getD_some, Nat.reduceEqDiff, ↓reduceIte, Nat.reduceBEq] at hops
  subst hops
  have HSt := Lib.hid (hst.keep (Fr.drew _ _))
  have hSS : w.drew.cell? ⟨Bd, 0, none⟩ = some (.slice A5 (wout Z X).length c5) ∧ w.drew.cell? ⟨Bd, 1, none⟩ = some (.slice A6 (wout X Z).length c6) := ⟨(Bk.cell (HSt.out.x (Bd, ⟨A5, c5, wout Z X, A6, c6, wout X Z⟩) (by simp)) 0), (Bk.cell (HSt.out.x (Bd, ⟨A5, c5, wout Z X, A6, c6, wout X Z⟩) (by simp)) 1)⟩
  refine Eng.regionT (.take 0 (.take 2 (.alt 1 (.alt 3 (.take 4 (.take 5 (.take 6 (.take 7 (.take 8 (.done)))))) (.stop)) (.stop)))) (fun w' => w'.cell? ⟨Bd, 0, none⟩ = some (.slice A5 (wout Z X).length c5) ∧ w'.cell? ⟨Bd, 1, none⟩ = some (.slice A6 (wout X Z).length c6)) (by kernel_rfl) 68 hn (by kernel_rfl) (by kernel_rfl) (by kernel_rfl) (hSS) (fun a b ha hb => ?_)
  subst ha
  have hb0 : b 0 = .slice A0 p.length c0 := (hb 0).symm.trans h_0
  have hb9 : b 9 = .pointer (some ⟨Bd, 0, none⟩) := (hb 9).symm.trans h_9
  clear hb h_0 h_9
  have HP := Lib.hid hpost; have HN := Lib.hid hn
  clear hpost hn
  refine Eng.TW.take' (v := ?_) rfl rfl (by decide) (by kernel_rfl) (fun w hw => ?_) ?_
  rotate_left
  · (try dsimp only at hw); go_simp; first | done | with_reducible rfl
  refine Eng.TW.take' (v := ?_) rfl rfl (by decide) (by kernel_rfl) (fun w hw => ?_) ?_
  rotate_left
  · (try dsimp only at hw); go_simp; first | done | with_reducible rfl
  refine Eng.TW.call rfl rfl (by decide) (by kernel_rfl) ?_ (SetE (HSt.out.l ⟨A0, c0, p⟩ (by simp)) (by show p.length ≤ _; omega) X eX) ?_
  · go_simp
  rintro e w2 ⟨A7, c7, rfl, hls, -, hb⟩
  have HSt2 := Lib.hid ((HSt.out.below hb).addL hls)
  have hSS : w2.cell? ⟨Bd, 0, none⟩ = some (.slice A5 (wout Z X).length c5) ∧ w2.cell? ⟨Bd, 1, none⟩ = some (.slice A6 (wout X Z).length c6) := ⟨(Bk.cell (HSt2.out.x (Bd, ⟨A5, c5, wout Z X, A6, c6, wout X Z⟩) (by simp)) 0), (Bk.cell (HSt2.out.x (Bd, ⟨A5, c5, wout Z X, A6, c6, wout X Z⟩) (by simp)) 1)⟩
  clear hls hb
  refine ⟨_, rfl, hSS, ?_⟩
  refine Eng.TW.call rfl rfl (by decide) (by kernel_rfl) ?_ (AppE (d := ⟨A5, c5, wout Z X, A6, c6, wout X Z⟩) (HSt2.out.l ⟨A7, c7, X⟩ (by simp)) (HSt2.out.d _ (by simp)) hX h1 h2 Z 0 hap) ?_
  · go_simp
  rintro e w3 ⟨A8, c8, rfl, hls, hb⟩
  have HSt3 := Lib.hid ((HSt2.out.below hb).addL hls)
  have hSS : w3.cell? ⟨Bd, 0, none⟩ = some (.slice A5 (wout Z X).length c5) ∧ w3.cell? ⟨Bd, 1, none⟩ = some (.slice A6 (wout X Z).length c6) := ⟨(Bk.cell (HSt3.out.x (Bd, ⟨A5, c5, wout Z X, A6, c6, wout X Z⟩) (by simp)) 0), (Bk.cell (HSt3.out.x (Bd, ⟨A5, c5, wout Z X, A6, c6, wout X Z⟩) (by simp)) 1)⟩
  clear hls hb
  refine ⟨_, rfl, hSS, ?_⟩
  refine Eng.TW.take' (v := ?_) rfl rfl (by decide) (by kernel_rfl) (fun w hw => ?_) ?_
  rotate_left
  · (try dsimp only at hw); go_simp; first | done | with_reducible rfl
  refine Eng.TW.take' (v := ?_) rfl rfl (by decide) (by kernel_rfl) (fun w hw => ?_) ?_
  rotate_left
  · (try dsimp only at hw); go_simp; first | done | with_reducible rfl
  refine Eng.TW.take' (v := ?_) rfl rfl (by decide) (by kernel_rfl) (fun w hw => ?_) ?_
  rotate_left
  · (try dsimp only at hw); go_simp; first | done | with_reducible rfl
  refine Eng.TW.take' (v := ?_) rfl rfl (by decide) (by kernel_rfl) (fun w hw => ?_) ?_
  rotate_left
  · (try dsimp only at hw); go_simp; first | done | with_reducible rfl
  refine Eng.TW.take' (v := ?_) rfl rfl (by decide) (by kernel_rfl) (fun w hw => ?_) ?_
  rotate_left
  · (try dsimp only at hw); go_simp; first | done | with_reducible rfl
  refine Eng.TW.end_ [11, 12, 39, 40, 41, 42, 43, 44, 45] HN.out (by kernel_rfl) (by kernel_rfl) ?_
  exact HP.out _ _ A8 c8 rfl rfl HSt3.out.skip2

set_option maxRecDepth 100000 in
set_option maxHeartbeats 4000000 in
theorem do6 {ops : Array Oper} (hops : Eng.fnOps Try.f13 6 = ops) (a0 : Act) (Q : Exit → Act → World → Prop) (w0 w : World) (Bd : Nat) (A0 A2 A5 A6 : Option Addr) (c0 c2 c5 c6 : Nat) (p r X Z : List Sn) (hp0 : p.length ≤ 500000) (hr0 : r.length ≤ 500000) (hX : X.length ≤ 500000) (eX : setOf p = X) (eZ : setOf r = Z) (h1 : (wout Z X).length ≤ 500000) (h2 : (wout X Z).length ≤ 500000) (A8 : Option Addr) (c8 : Nat) (hst : DS w0 w [⟨A8, c8, Z⟩, ⟨A0, c0, p⟩, ⟨A2, c2, r⟩] [⟨A5, c5, wout Z X, A6, c6, wout X Z⟩] [(Bd, ⟨A5, c5, wout Z X, A6, c6, wout X Z⟩)])
    (hn : a0.tmps.size = 68) (h_0 : a0.tmps.getD 0 undef = .slice A0 p.length c0) (h_2 : a0.tmps.getD 2 undef = .slice A2 r.length c2) (h_9 : a0.tmps.getD 9 undef = .pointer (some ⟨Bd, 0, none⟩)) (h_10 : a0.tmps.getD 10 undef = .int .i64 0) (h_11 : a0.tmps.getD 11 undef = .slice A8 Z.length c8) (h_12 : a0.tmps.getD 12 undef = .int .i64 0)
    (hpost : ∀ (x : Nat → Value) (w' : World), x 6 = .bool true → Below w0.heap.size w0 w' → Q .normal (Eng.setAll a0 [6, 46, 47, 48, 49, 50, 51, 52, 53, 54, 55, 56, 57, 58, 59, 60, 61, 62, 63, 64, 65, 66, 67] x) w') :
    (Code.region 6 ops true).wp Try.prog Q a0 w := by
  simp only [Eng.fnOps, Eng.regOps, Try.f13, Option.bind_some, Option.getD_some, Nat.reduceEqDiff, ↓reduceIte, Nat.reduceBEq] at hops
  subst hops
  have HSt := Lib.hid (hst.keep (Fr.drew _ _))
  have hSS : w.drew.cell? ⟨Bd, 0, none⟩ = some (.slice A5 (wout Z X).length c5) ∧ w.drew.cell? ⟨Bd, 1, none⟩ = some (.slice A6 (wout X Z).length c6) := ⟨(Bk.cell (HSt.out.x (Bd, ⟨A5, c5, wout Z X, A6, c6, wout X Z⟩) (by simp)) 0), (Bk.cell (HSt.out.x (Bd, ⟨A5, c5, wout Z X, A6, c6, wout X Z⟩) (by simp)) 1)⟩
  refine Eng.regionT (.take 0 (.take 1 (.take 2 (.take 3 (.take 4 (.take 5 (.take 6 (.take 7 (.take 8 (.alt 9 (.alt 10 (.take 11 (.take 12 (.take 13 (.take 14 (.take 15 (.alt 16 (.alt 17 (.take 18 (.take 19 (.alt 20 (.take 21 (.take 22 (.done))) (.stop)))) (.stop)) (.stop))))))) (.stop)) (.stop))))))))))) (fun w' => w'.cell? ⟨Bd, 0, none⟩ = some (.slice A5 (wout Z X).length c5) ∧ w'.cell? ⟨Bd, 1, none⟩ = some (.slice A6 (wout X Z).length c6)) (by kernel_rfl) 68 hn (by kernel_rfl) (by kernel_rfl) (by kernel_rfl) (hSS) (fun a b ha hb => ?_)
  subst ha
  have hb0 : b 0 = .slice A0 p.length c0 := (hb 0).symm.trans h_0
  have hb2 : b 2 = .slice A2 r.length c2 := (hb 2).symm.trans h_2
  have hb9 : b 9 = .pointer (some ⟨Bd, 0, none⟩) := (hb 9).symm.trans h_9
  have hb10 : b 10 = .int .i64 0 := (hb 10).symm.trans h_10
  have hb11 : b 11 = .slice A8 Z.length c8 := (hb 11).symm.trans h_11
  have hb12 : b 12 = .int .i64 0 := (hb 12).symm.trans h_12
  clear hb h_0 h_2 h_9 h_10 h_11 h_12
  have HP := Lib.hid hpost; have HN := Lib.hid hn
  clear hpost hn
  refine Eng.TW.take' (v := ?_) rfl rfl (by decide) (by kernel_rfl) (fun w hw => ?_) ?_
  rotate_left
  · (try dsimp only at hw); go_simp; first | done | with_reducible rfl
  refine Eng.TW.take' (v := ?_) rfl rfl (by decide) (by kernel_rfl) (fun w hw => ?_) ?_
  rotate_left
  · (try dsimp only at hw); go_simp; first | done | with_reducible rfl
  refine Eng.TW.take' (v := ?_) rfl rfl (by decide) (by kernel_rfl) (fun w hw => ?_) ?_
  rotate_left
  · (try dsimp only at hw); go_simp; first | done | with_reducible rfl
  refine Eng.TW.take' (v := ?_) rfl rfl (by decide) (by kernel_rfl) (fun w hw => ?_) ?_
  rotate_left
  · (try dsimp only at hw); go_simp; first | done | with_reducible rfl
  refine Eng.TW.take' (v := ?_) rfl rfl (by decide) (by kernel_rfl) (fun w hw => ?_) ?_
  rotate_left
  · (try dsimp only at hw); go_simp; first | done | with_reducible rfl
  refine Eng.TW.take' (v := ?_) rfl rfl (by decide) (by kernel_rfl) (fun w hw => ?_) ?_
  rotate_left
  · (try dsimp only at hw); go_simp; first | done | with_reducible rfl
  refine Eng.TW.take' (v := ?_) rfl rfl (by decide) (by kernel_rfl) (fun w hw => ?_) ?_
  rotate_left
  · (try dsimp only at hw); go_simp; first | done | with_reducible rfl
  refine Eng.TW.take' (v := ?_) rfl rfl (by decide) (by kernel_rfl) (fun w hw => ?_) ?_
  rotate_left
  · (try dsimp only at hw); go_simp; first | done | with_reducible rfl
  refine Eng.TW.take' (v := ?_) rfl rfl (by decide) (by kernel_rfl) (fun w hw => ?_) ?_
  rotate_left
  · (try dsimp only at hw); go_simp; first | done | with_reducible rfl
  refine Eng.TW.call rfl rfl (by decide) (by kernel_rfl) ?_ (SetE (HSt.out.l ⟨A2, c2, r⟩ (by simp)) (by show r.length ≤ _; omega) Z eZ) ?_
  · go_simp
  rintro e w2 ⟨A7, c7, rfl, hls, -, hb⟩
  have HSt2 := Lib.hid ((HSt.out.below hb).addL hls)
  have hSS : w2.cell? ⟨Bd, 0, none⟩ = some (.slice A5 (wout Z X).length c5) ∧ w2.cell? ⟨Bd, 1, none⟩ = some (.slice A6 (wout X Z).length c6) := ⟨(Bk.cell (HSt2.out.x (Bd, ⟨A5, c5, wout Z X, A6, c6, wout X Z⟩) (by simp)) 0), (Bk.cell (HSt2.out.x (Bd, ⟨A5, c5, wout Z X, A6, c6, wout X Z⟩) (by simp)) 1)⟩
  clear hls hb
  refine ⟨_, rfl, hSS, ?_⟩
  refine Eng.TW.call rfl rfl (by decide) (by kernel_rfl) ?_ (SameT (HSt2.out.l ⟨A8, c8, Z⟩ (by simp)) (HSt2.out.l ⟨A7, c7, Z⟩ (by simp)) rfl) ?_
  · go_simp
  rintro e w3 ⟨rfl, hf⟩
  have HSt3 := Lib.hid (HSt2.out.keep hf)
  have hSS : w3.cell? ⟨Bd, 0, none⟩ = some (.slice A5 (wout Z X).length c5) ∧ w3.cell? ⟨Bd, 1, none⟩ = some (.slice A6 (wout X Z).length c6) := ⟨(Bk.cell (HSt3.out.x (Bd, ⟨A5, c5, wout Z X, A6, c6, wout X Z⟩) (by simp)) 0), (Bk.cell (HSt3.out.x (Bd, ⟨A5, c5, wout Z X, A6, c6, wout X Z⟩) (by simp)) 1)⟩
  clear hf
  refine ⟨_, rfl, hSS, ?_⟩
  refine Eng.TW.take' (v := ?_) rfl rfl (by decide) (by kernel_rfl) (fun w hw => ?_) ?_
  rotate_left
  · (try dsimp only at hw); go_simp; first | done | with_reducible rfl
  refine Eng.TW.take' (v := ?_) rfl rfl (by decide) (by kernel_rfl) (fun w hw => ?_) ?_
  rotate_left
  · (try dsimp only at hw); go_simp; first | done | with_reducible rfl
  refine Eng.TW.take' (v := ?_) rfl rfl (by decide) (by kernel_rfl) (fun w hw => ?_) ?_
  rotate_left
  · (try dsimp only at hw); go_simp; first | done | with_reducible rfl
  refine Eng.TW.take' (v := ?_) rfl rfl (by decide) (by kernel_rfl) (fun w hw => ?_) ?_
  rotate_left
  · (try dsimp only at hw); go_simp; first | done | with_reducible rfl
  refine Eng.TW.take' (v := ?_) rfl rfl (by decide) (by kernel_rfl) (fun w hw => ?_) ?_
  rotate_left
  · (try dsimp only at hw); go_simp; first | done | with_reducible rfl
  refine Eng.TW.call rfl rfl (by decide) (by kernel_rfl) ?_ (BetE (HSt3.out.l ⟨A0, c0, p⟩ (by simp)) (HSt3.out.l ⟨A2, c2, r⟩ (by simp)) (by show p.length ≤ _; omega) (by show r.length ≤ _; omega) (wout Z X) (wout X Z) (by rw [← eX, ← eZ]) (by rw [← eX, ← eZ])) ?_
  · go_simp
  rintro e w4 ⟨A10, c10, A11, c11, rfl, hd, hb⟩
  have HSt4 := Lib.hid ((HSt3.out.below hb).addD hd)
  have hSS : w4.cell? ⟨Bd, 0, none⟩ = some (.slice A5 (wout Z X).length c5) ∧ w4.cell? ⟨Bd, 1, none⟩ = some (.slice A6 (wout X Z).length c6) := ⟨(Bk.cell (HSt4.out.x (Bd, ⟨A5, c5, wout Z X, A6, c6, wout X Z⟩) (by simp)) 0), (Bk.cell (HSt4.out.x (Bd, ⟨A5, c5, wout Z X, A6, c6, wout X Z⟩) (by simp)) 1)⟩
  clear hd hb
  refine ⟨_, rfl, hSS, ?_⟩
  refine Eng.TW.call rfl rfl (by decide) (by kernel_rfl) ?_ (SameDT ⟨A5, c5, wout Z X, A6, c6, wout X Z⟩ ⟨A10, c10, wout Z X, A11, c11, wout X Z⟩ _ (HSt4.out.d ⟨A5, c5, wout Z X, A6, c6, wout X Z⟩ (by simp)) (HSt4.out.d ⟨A10, c10, wout Z X, A11, c11, wout X Z⟩ (by simp)) (by simp [sameD])) ?_
  · go_simp
  rintro e w5 ⟨rfl, hf⟩
  have HSt5 := Lib.hid (HSt4.out.keep hf)
  have hSS : w5.cell? ⟨Bd, 0, none⟩ = some (.slice A5 (wout Z X).length c5) ∧ w5.cell? ⟨Bd, 1, none⟩ = some (.slice A6 (wout X Z).length c6) := ⟨(Bk.cell (HSt5.out.x (Bd, ⟨A5, c5, wout Z X, A6, c6, wout X Z⟩) (by simp)) 0), (Bk.cell (HSt5.out.x (Bd, ⟨A5, c5, wout Z X, A6, c6, wout X Z⟩) (by simp)) 1)⟩
  clear hf
  refine ⟨_, rfl, hSS, ?_⟩
  refine Eng.TW.take' (v := ?_) rfl rfl (by decide) (by kernel_rfl) (fun w hw => ?_) ?_
  rotate_left
  · (try dsimp only at hw); go_simp; first | done | with_reducible rfl
  refine Eng.TW.take' (v := ?_) rfl rfl (by decide) (by kernel_rfl) (fun w hw => ?_) ?_
  rotate_left
  · (try dsimp only at hw); go_simp; first | done | with_reducible rfl
  refine Eng.TW.call rfl rfl (by decide) (by kernel_rfl) ?_ (awake _) ?_
  · go_simp
  rintro e w6 ⟨rfl, hb⟩
  have HSt6 := Lib.hid (HSt5.out.below hb)
  have hSS : w6.cell? ⟨Bd, 0, none⟩ = some (.slice A5 (wout Z X).length c5) ∧ w6.cell? ⟨Bd, 1, none⟩ = some (.slice A6 (wout X Z).length c6) := ⟨(Bk.cell (HSt6.out.x (Bd, ⟨A5, c5, wout Z X, A6, c6, wout X Z⟩) (by simp)) 0), (Bk.cell (HSt6.out.x (Bd, ⟨A5, c5, wout Z X, A6, c6, wout X Z⟩) (by simp)) 1)⟩
  clear hb
  refine ⟨_, rfl, hSS, ?_⟩
  refine Eng.TW.take' (v := ?_) rfl rfl (by decide) (by kernel_rfl) (fun w hw => ?_) ?_
  rotate_left
  · (try dsimp only at hw); go_simp; first | done | with_reducible rfl
  refine Eng.TW.take' (v := ?_) rfl rfl (by decide) (by kernel_rfl) (fun w hw => ?_) ?_
  rotate_left
  · (try dsimp only at hw); go_simp; first | done | with_reducible rfl
  refine Eng.TW.end_ [6, 46, 47, 48, 49, 50, 51, 52, 53, 54, 55, 56, 57, 58, 59, 60, 61, 62, 63, 64, 65, 66, 67] HN.out (by kernel_rfl) (by kernel_rfl) ?_
  exact HP.out _ _ rfl HSt6.out.b

set_option maxRecDepth 100000 in
set_option maxHeartbeats 4000000 in
theorem behind (A0 A1 A2 : Option Addr) (c0 c1 c2 : Nat) (a b c : List Sn) (w : World) (h0 : Ls w A0 c0 a) (h1 : Ls w A1 c1 b) (h2 : Ls w A2 c2 c) :
    Calls Try.prog 13 #[.slice A0 a.length c0, .slice A1 b.length c1, .slice A2 c.length c2] w fun e w' => e = .returned (.bool true) ∧ Below w.heap.size w w' := by
  have HA := Lib.hid h0; have HC := Lib.hid h1; have HE := Lib.hid h2
  have HB := Lib.hid (Below.refl w.heap.size w)
  have l1 := setOf_len a; have l2 := setOf_len b; have l3 := setOf_len c
  have hoa := setOf_ok a; have hob := setOf_ok b; have hoc := setOf_ok c
  have ga : ∀ x ∈ setOf a, gk x := fun x hx => (Newest.set_gk h0.ok x hx).2
  have gb : ∀ x ∈ setOf b, gk x := fun x hx => (Newest.set_gk h1.ok x hx).2
  have gc : ∀ x ∈ setOf c, gk x := fun x hx => (Newest.set_gk h2.ok x hx).2
  obtain ⟨X, eX⟩ : ∃ X, setOf a = X := ⟨_, rfl⟩
  obtain ⟨Y, eY⟩ : ∃ Y, setOf b = Y := ⟨_, rfl⟩
  obtain ⟨Z, eZ⟩ : ∃ Z, setOf c = Z := ⟨_, rfl⟩
  rw [eX] at l1 hoa ga
  rw [eY] at l2 hob gb
  rw [eZ] at l3 hoc gc
  have EX := Lib.hid eX; have EY := Lib.hid eY; have EZ := Lib.hid eZ
  have HCm := Lib.hid (compose_bet hoa hob hoc ga gb gc); have HAp := Lib.hid (apply_bet hoa hoc)
  have m1 := bet_lens X Y; have m2 := bet_lens Y X; have m3 := bet_lens Y Z; have m4 := bet_lens Z Y; have m5 := bet_lens X Z; have m6 := bet_lens Z X
  clear h0 h1 h2 eX eY eZ hoa hob hoc ga gb gc
  go_enter Try.func13, Try.ntmps13
  go_wp2_with fail
  refine (SetF.Few _ _ 20 a w HA.out.s).mono ?_
  rintro e w1 ⟨rfl, hf⟩
  have hb := hf.below (Nat.le_refl _) (fun _ _ h => h)
  clear hf
  replace HA := Lib.hid (HA.out.below hb)
  replace HC := Lib.hid (HC.out.below hb)
  replace HE := Lib.hid (HE.out.below hb)
  replace HB := Lib.hid (HB.out.trans (hb.mono HB.out.size))
  clear hb
  cases hq : fewB a 20 with
  | false =>
      go_wp2_with fail
      refine (awake w1).mono ?_
      rintro e w2 ⟨rfl, hb⟩
      replace HA := Lib.hid (HA.out.below hb)
      replace HC := Lib.hid (HC.out.below hb)
      replace HE := Lib.hid (HE.out.below hb)
      replace HB := Lib.hid (HB.out.trans (hb.mono HB.out.size))
      clear hb
      go_wp2_with fail
      go_ret
      exact ⟨rfl, HB.out⟩
  | true =>
      have hq_a := few_len hq
      go_wp2_with fail
      refine (SetF.Few _ _ 20 b w1 HC.out.s).mono ?_
      rintro e w2 ⟨rfl, hf⟩
      have hb := hf.below (Nat.le_refl _) (fun _ _ h => h)
      clear hf
      replace HA := Lib.hid (HA.out.below hb)
      replace HC := Lib.hid (HC.out.below hb)
      replace HE := Lib.hid (HE.out.below hb)
      replace HB := Lib.hid (HB.out.trans (hb.mono HB.out.size))
      clear hb
      cases hq : fewB b 20 with
      | false =>
          go_wp2_with fail
          refine (awake w2).mono ?_
          rintro e w3 ⟨rfl, hb⟩
          replace HA := Lib.hid (HA.out.below hb)
          replace HC := Lib.hid (HC.out.below hb)
          replace HE := Lib.hid (HE.out.below hb)
          replace HB := Lib.hid (HB.out.trans (hb.mono HB.out.size))
          clear hb
          go_wp2_with fail
          go_ret
          exact ⟨rfl, HB.out⟩
      | true =>
          have hq_b := few_len hq
          go_wp2_with fail
          refine (SetF.Few _ _ 20 c w2 HE.out.s).mono ?_
          rintro e w3 ⟨rfl, hf⟩
          have hb := hf.below (Nat.le_refl _) (fun _ _ h => h)
          clear hf
          replace HA := Lib.hid (HA.out.below hb)
          replace HC := Lib.hid (HC.out.below hb)
          replace HE := Lib.hid (HE.out.below hb)
          replace HB := Lib.hid (HB.out.trans (hb.mono HB.out.size))
          clear hb
          cases hq : fewB c 20 with
          | false =>
              go_wp2_with fail
              refine (awake w3).mono ?_
              rintro e w4 ⟨rfl, hb⟩
              replace HA := Lib.hid (HA.out.below hb)
              replace HC := Lib.hid (HC.out.below hb)
              replace HE := Lib.hid (HE.out.below hb)
              replace HB := Lib.hid (HB.out.trans (hb.mono HB.out.size))
              clear hb
              go_wp2_with fail
              go_ret
              exact ⟨rfl, HB.out⟩
          | true =>
              have hq_c := few_len hq
              go_wp2_with fail
              refine (BetE HA.out HC.out (by omega) (by omega) (wout Y X) (wout X Y) (by rw [EX.out, EY.out]) (by rw [EX.out, EY.out])).mono ?_
              rintro e w4 ⟨P1, k1, P2, k2, rfl, hd, hb⟩
              replace HA := Lib.hid (HA.out.below hb)
              replace HC := Lib.hid (HC.out.below hb)
              replace HE := Lib.hid (HE.out.below hb)
              replace HB := Lib.hid (HB.out.trans (hb.mono HB.out.size))
              clear hb
              have HP := Lib.hid hd
              clear hd
              go_wp2_with fail
              refine (BetE HC.out HE.out (by omega) (by omega) (wout Z Y) (wout Y Z) (by rw [EY.out, EZ.out]) (by rw [EY.out, EZ.out])).mono ?_
              rintro e w5 ⟨Q1, n1, Q2, n2, rfl, hd, hb⟩
              replace HA := Lib.hid (HA.out.below hb)
              replace HC := Lib.hid (HC.out.below hb)
              replace HE := Lib.hid (HE.out.below hb)
              replace HP := Lib.hid (HP.out.below hb)
              replace HB := Lib.hid (HB.out.trans (hb.mono HB.out.size))
              clear hb
              have HQ := Lib.hid hd
              clear hd
              go_upto_region 4 with (fail)
              have HBp := Lib.hid ((Bk.new w5 (⟨P1, k1, wout Y X, P2, k2, wout X Y⟩ : Dl).arr TDl).fr (Fr.alloc (fun _ => False) _ (.cells (⟨Q1, n1, wout Z Y, Q2, n2, wout Y Z⟩ : Dl).arr TDl)) (fun _ _ h => h))
              have HBq : Hid (Bk ((w5.alloc (.cells (⟨P1, k1, wout Y X, P2, k2, wout X Y⟩ : Dl).arr TDl)).alloc (.cells (⟨Q1, n1, wout Z Y, Q2, n2, wout Y Z⟩ : Dl).arr TDl)) (w5.heap.size + 1) (⟨Q1, n1, wout Z Y, Q2, n2, wout Y Z⟩ : Dl).arr TDl) := by have := Bk.new (w5.alloc (.cells (⟨P1, k1, wout Y X, P2, k2, wout X Y⟩ : Dl).arr TDl)) (⟨Q1, n1, wout Z Y, Q2, n2, wout Y Z⟩ : Dl).arr TDl; rwa [World.size_alloc] at this
              have hb := (fr2 w5 (.cells (⟨P1, k1, wout Y X, P2, k2, wout X Y⟩ : Dl).arr TDl) (.cells (⟨Q1, n1, wout Z Y, Q2, n2, wout Y Z⟩ : Dl).arr TDl)).below (Nat.le_refl _) (fun _ _ h => h)
              generalize ((w5.alloc (.cells (⟨P1, k1, wout Y X, P2, k2, wout X Y⟩ : Dl).arr TDl)).alloc (.cells (⟨Q1, n1, wout Z Y, Q2, n2, wout Y Z⟩ : Dl).arr TDl)) = w6 at *
              replace HA := Lib.hid (HA.out.below hb)
              replace HC := Lib.hid (HC.out.below hb)
              replace HE := Lib.hid (HE.out.below hb)
              replace HP := Lib.hid (HP.out.below hb)
              replace HQ := Lib.hid (HQ.out.below hb)
              replace HB := Lib.hid (HB.out.trans (hb.mono HB.out.size))
              clear hb
              generalize w5.heap.size = Bp at *
              have cd0 : w6.cell? ⟨Bp, 0, none⟩ = some (.slice P1 (wout Y X).length k1) := HBp.out.cell 0
              have cd1 : w6.cell? ⟨Bp, 1, none⟩ = some (.slice P2 (wout X Y).length k2) := HBp.out.cell 1
              have ce0 : w6.cell? ⟨Bp + 1, 0, none⟩ = some (.slice Q1 (wout Z Y).length n1) := HBq.out.cell 0
              have ce1 : w6.cell? ⟨Bp + 1, 1, none⟩ = some (.slice Q2 (wout Y Z).length n2) := HBq.out.cell 1
              go_wp2_with fail
              refine (CmpE (d := (⟨P1, k1, wout Y X, P2, k2, wout X Y⟩ : Dl)) (e := (⟨Q1, n1, wout Z Y, Q2, n2, wout Y Z⟩ : Dl)) HP.out HQ.out (by show (wout Y X).length ≤ _; omega) (by show (wout X Y).length ≤ _; omega) (by show (wout Z Y).length ≤ _; omega) (by show (wout Y Z).length ≤ _; omega) (wout Z X) (wout X Z) 0 HCm.out).mono ?_
              rintro e w7 ⟨A5, c5, A6, c6, rfl, hd, hb⟩
              replace HA := Lib.hid (HA.out.below hb)
              replace HC := Lib.hid (HC.out.below hb)
              replace HE := Lib.hid (HE.out.below hb)
              replace HP := Lib.hid (HP.out.below hb)
              replace HQ := Lib.hid (HQ.out.below hb)
              replace HB := Lib.hid (HB.out.trans (hb.mono HB.out.size))
              clear hb
              have HD := Lib.hid hd
              clear hd cd0 cd1 ce0 ce1 HBp HBq
              clear HP HQ HC
              go_upto_region 5 with (fail)
              have hb := (Below.refl w7.heap.size w7).alloc (Nat.le_refl _) (.cells (⟨A5, c5, wout Z X, A6, c6, wout X Z⟩ : Dl).arr TDl)
              have HBd := Lib.hid (Bk.new w7 (⟨A5, c5, wout Z X, A6, c6, wout X Z⟩ : Dl).arr TDl)
              generalize (w7.alloc (.cells (⟨A5, c5, wout Z X, A6, c6, wout X Z⟩ : Dl).arr TDl)) = w8 at *
              replace HA := Lib.hid (HA.out.below hb)
              replace HE := Lib.hid (HE.out.below hb)
              replace HD := Lib.hid (HD.out.below hb)
              replace HB := Lib.hid (HB.out.trans (hb.mono HB.out.size))
              clear hb
              generalize w7.heap.size = Bd at *
              refine do5 (by kernel_rfl) _ _ w8 w8 Bd A0 A2 A5 A6 c0 c2 c5 c6 a c X Z (by omega) (by omega) (by omega) EX.out EZ.out (by omega) (by omega) HAp.out ⟨by intro q hq; simp at hq; rcases hq with rfl | rfl; exact HA.out; exact HE.out, by intro q hq; simp at hq; subst hq; exact HD.out, by intro q hq; simp at hq; subst hq; exact HBd.out, Below.refl _ _⟩ rfl rfl rfl ?_
              intro x w9 A8 c8 x11 x12 hst
              simp only [Eng.setAll, Act.put, List.setIfInBounds_toArray, List.set_cons_succ, List.set_cons_zero]
              rw [x11, x12]
              have HSt := Lib.hid hst
              clear x11 x12 hst
              go_upto_region 6 with (fail)
              refine do6 (by kernel_rfl) _ _ w8 w9 Bd A0 A2 A5 A6 c0 c2 c5 c6 a c X Z (by omega) (by omega) (by omega) EX.out EZ.out (by omega) (by omega) A8 c8 HSt.out rfl rfl rfl rfl rfl rfl rfl ?_
              intro y w10 x6 hb
              simp only [Eng.setAll, Act.put, List.setIfInBounds_toArray, List.set_cons_succ, List.set_cons_zero]
              rw [x6]
              clear x6 HSt HA HE HD HBd
              replace HB := Lib.hid (HB.out.trans (hb.mono HB.out.size))
              clear hb
              go_wp2_with fail
              go_ret
              exact ⟨rfl, HB.out⟩
end Law15
end Go.Proofs.Ytkhhdadlpilbmaa
