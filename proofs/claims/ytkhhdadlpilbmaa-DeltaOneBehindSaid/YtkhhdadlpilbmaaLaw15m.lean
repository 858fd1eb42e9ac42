/- Layer 15's statements: DeltaMakes: for every input the answer is true. -/
import Derived.Test.YtkhhdadlpilbmaaLaw15
namespace Go.Proofs.Ytkhhdadlpilbmaa
open Go.RowKit
namespace Law15
open KeyP PackP SetP SetW SetF Delta Comp
attribute [local go_sem] Eng.ev Eng.getO_cons Eng.getO_nil
theorem few_len {L : List Sn} {n : Nat} (h : fewB L n = true) : L.length ≤ n := by unfold fewB at h; simp at h; exact h.2
theorem bet_lens (X Y : List Sn) : (wout Y X).length ≤ X.length := List.length_filter_le _ _
set_option maxRecDepth 100000 in
set_option maxHeartbeats 4000000 in
theorem dm7 {ops : Array Oper} (hops : Eng.fnOps Try.f12 7 = ops) (a0 : Act) (Q : Exit → Act → World → Prop) (w0 w : World) (Bd : Nat) (A0 A1 Ax Ay Al Am A2 A3 : Option Addr) (c0 c1 cx cy cl cm c2 c3 : Nat) (p q X Y : List Sn) (hp0 : p.length ≤ 1000000) (hq0 : q.length ≤ 1000000) (hX : X.length ≤ 1000000) (eX : setOf p = X) (eY : setOf q = Y) (hsX : setOf X = X) (h1 : (wout Y X).length ≤ 1000000) (h2 : (wout X Y).length ≤ 1000000) (hr : rightB (wout Y X) (wout X Y) = true) (hst : DS w0 w [⟨A0, c0, p⟩, ⟨A1, c1, q⟩, ⟨Ax, cx, X⟩, ⟨Ay, cy, Y⟩, ⟨Al, cl, Y⟩, ⟨Am, cm, X⟩] [⟨A2, c2, wout Y X, A3, c3, wout X Y⟩] [(Bd, ⟨A2, c2, wout Y X, A3, c3, wout X Y⟩)])
    (hn : a0.tmps.size = 85) (h_0 : a0.tmps.getD 0 undef = .slice A0 p.length c0) (h_1 : a0.tmps.getD 1 undef = .slice A1 q.length c1) (h_5 : a0.tmps.getD 5 undef = .slice Ax X.length cx) (h_6 : a0.tmps.getD 6 undef = .slice Ay Y.length cy) (h_7 : a0.tmps.getD 7 undef = .pointer (some ⟨Bd, 0, none⟩)) (h_8 : a0.tmps.getD 8 undef = .slice Al Y.length cl) (h_9 : a0.tmps.getD 9 undef = .int .i64 0) (h_10 : a0.tmps.getD 10 undef = .slice Am X.length cm) (h_11 : a0.tmps.getD 11 undef = .int .i64 0)
    (hpost : ∀ (x : Nat → Value) (w' : World), x 4 = .bool true → Below w0.heap.size w0 w' → Q .normal (Eng.setAll a0 [4, 41, 42, 43, 44, 45, 46, 47, 48, 49, 50, 51, 52, 53, 54, 55, 56, 57, 58, 59, 60, 61, 62, 63, 64, 65, 66, 67, 68, 69, 70, 71, 72, 73, 74, 75, 76, 77, 78, 79, 80, 81, 82, 83, 84] x) w') :
    (Code.region 7 ops true).wp Try.prog Q a0 w := by
  simp only [Eng.fnOps, Eng.regOps, Try.f12, Option.bind_some, Option.getD_some, Nat.reduceEqDiff, ↓reduceIte, Nat.reduceBEq] at hops
  subst hops
  have kz := kz
  have HSt := Lib.hid (hst.keep (Fr.drew _ _))
  have hSS : w.drew.cell? ⟨Bd, 0, none⟩ = some (.slice A2 (wout Y X).length c2) ∧ w.drew.cell? ⟨Bd, 1, none⟩ = some (.slice A3 (wout X Y).length c3) := ⟨(Bk.cell (HSt.out.x (Bd, ⟨A2, c2, wout Y X, A3, c3, wout X Y⟩) (by simp)) 0), (Bk.cell (HSt.out.x (Bd, ⟨A2, c2, wout Y X, A3, c3, wout X Y⟩) (by simp)) 1)⟩
  refine Eng.regionT (.take 0 (.alt 1 (.take 2 (.take 3 (.take 4 (.alt 5 (.take 6 (.take 7 (.take 8 (.take 9 (.take 10 (.take 11 (.take 12 (.take 13 (.alt 14 (.take 15 (.take 16 (.take 17 (.take 18 (.take 19 (.take 20 (.take 21 (.take 23 (.alt 22 (.alt 24 (.take 25 (.take 26 (.take 27 (.take 28 (.take 30 (.alt 29 (.alt 31 (.alt 32 (.take 33 (.take 34 (.take 35 (.take 36 (.take 38 (.alt 37 (.alt 39 (.take 40 (.take 41 (.alt 42 (.take 43 (.take 44 (.done))) (.stop)))) (.stop)) (.stop))))))) (.stop)) (.stop)) (.stop))))))) (.stop)) (.stop)))))))))) (.stop)))))))))) (.stop))))) (.stop))) (fun w' => w'.cell? ⟨Bd, 0, none⟩ = some (.slice A2 (wout Y X).length c2) ∧ w'.cell? ⟨Bd, 1, none⟩ = some (.slice A3 (wout X Y).length c3)) (by kernel_rfl) 85 hn (by kernel_rfl) (by kernel_rfl) (by kernel_rfl) (hSS) (fun a b ha hb => ?_)
  subst ha
  have hb0 : b 0 = .slice A0 p.length c0 := (hb 0).symm.trans h_0
  have hb1 : b 1 = .slice A1 q.length c1 := (hb 1).symm.trans h_1
  have hb5 : b 5 = .slice Ax X.length cx := (hb 5).symm.trans h_5
  have hb6 : b 6 = .slice Ay Y.length cy := (hb 6).symm.trans h_6
  have hb7 : b 7 = .pointer (some ⟨Bd, 0, none⟩) := (hb 7).symm.trans h_7
  have hb8 : b 8 = .slice Al Y.length cl := (hb 8).symm.trans h_8
  have hb9 : b 9 = .int .i64 0 := (hb 9).symm.trans h_9
  have hb10 : b 10 = .slice Am X.length cm := (hb 10).symm.trans h_10
  have hb11 : b 11 = .int .i64 0 := (hb 11).symm.trans h_11
  clear hb h_0 h_1 h_5 h_6 h_7 h_8 h_9 h_10 h_11
  have HP := Lib.hid hpost; have HN := Lib.hid hn
  clear hpost hn
  refine Eng.TW.take' (v := ?_) rfl rfl (by decide) (by kernel_rfl) (fun w hw => ?_) ?_
  rotate_left
  · (try dsimp only at hw); go_simp; first | done | with_reducible rfl
  refine Eng.TW.call rfl rfl (by decide) (by kernel_rfl) ?_ (RightE ⟨A2, c2, wout Y X, A3, c3, wout X Y⟩ _ (HSt.out.d ⟨A2, c2, wout Y X, A3, c3, wout X Y⟩ (by simp)) h1 h2 true hr) ?_
  · go_simp
  rintro e w2 ⟨rfl, hb⟩
  have HSt2 := Lib.hid (HSt.out.below hb)
  have hSS : w2.cell? ⟨Bd, 0, none⟩ = some (.slice A2 (wout Y X).length c2) ∧ w2.cell? ⟨Bd, 1, none⟩ = some (.slice A3 (wout X Y).length c3) := ⟨(Bk.cell (HSt2.out.x (Bd, ⟨A2, c2, wout Y X, A3, c3, wout X Y⟩) (by simp)) 0), (Bk.cell (HSt2.out.x (Bd, ⟨A2, c2, wout Y X, A3, c3, wout X Y⟩) (by simp)) 1)⟩
  clear hb
  refine ⟨_, rfl, hSS, ?_⟩
  refine Eng.TW.take' (v := ?_) rfl rfl (by decide) (by kernel_rfl) (fun w hw => ?_) ?_
  rotate_left
  · (try dsimp only at hw); go_simp; first | done | with_reducible rfl
  refine Eng.TW.take' (v := ?_) rfl rfl (by decide) (by kernel_rfl) (fun w hw => ?_) ?_
  rotate_left
  · (try dsimp only at hw); go_simp; first | done | with_reducible rfl
  refine Eng.TW.take' (v := ?_) rfl rfl (by decide) (by kernel_rfl) (fun w hw => ?_) ?_
  rotate_left
  · (try dsimp only at hw); go_simp; first | done | with_reducible rfl
  refine Eng.TW.call rfl rfl (by decide) (by kernel_rfl) ?_ (SameT (HSt2.out.l ⟨Al, cl, Y⟩ (by simp)) (HSt2.out.l ⟨Ay, cy, Y⟩ (by simp)) rfl) ?_
  · go_simp
  rintro e w3 ⟨rfl, hf⟩
  have HSt3 := Lib.hid (HSt2.out.keep hf)
  have hSS : w3.cell? ⟨Bd, 0, none⟩ = some (.slice A2 (wout Y X).length c2) ∧ w3.cell? ⟨Bd, 1, none⟩ = some (.slice A3 (wout X Y).length c3) := ⟨(Bk.cell (HSt3.out.x (Bd, ⟨A2, c2, wout Y X, A3, c3, wout X Y⟩) (by simp)) 0), (Bk.cell (HSt3.out.x (Bd, ⟨A2, c2, wout Y X, A3, c3, wout X Y⟩) (by simp)) 1)⟩
  clear hf
  refine ⟨_, rfl, hSS, ?_⟩
  refine Eng.TW.take' (v := ?_) rfl rfl (by decide) (by kernel_rfl) (fun w hw => ?_) ?_
  rotate_left
  · (try dsimp only at hw); go_simp; first | done | with_reducible rfl
  refine Eng.TW.take' (v := ?_) rfl rfl (by decide) (by kernel_rfl) (fun w hw => ?_) ?_
  rotate_left
  · (try dsimp only at hw); go_simp; first | done | with_reducible rfl
  refine Eng.TW.take' (v := ?_) rfl rfl (by decide) (by kernel_rfl) (fun w hw => ?_) ?_
  rotate_left
  · (try dsimp only at hw); go_simp; first | done | with_reducible rfl
  refine Eng.TW.take' (v := ?_) rfl rfl (by decide) (by kernel_rfl) (fun w hw => ?_) ?_
  rotate_left
  · (try dsimp only at hw); go_simp; first | done | with_reducible rfl
  refine Eng.TW.take' (v := ?_) rfl rfl (by decide) (by kernel_rfl) (fun w hw => ?_) ?_
  rotate_left
  · (try dsimp only at hw); go_simp; first | done | with_reducible rfl
  refine Eng.TW.take' (v := ?_) rfl rfl (by decide) (by kernel_rfl) (fun w hw => ?_) ?_
  rotate_left
  · (try dsimp only at hw); go_simp; first | done | with_reducible rfl
  refine Eng.TW.take' (v := ?_) rfl rfl (by decide) (by kernel_rfl) (fun w hw => ?_) ?_
  rotate_left
  · (try dsimp only at hw); go_simp; first | done | with_reducible rfl
  refine Eng.TW.take' (v := ?_) rfl rfl (by decide) (by kernel_rfl) (fun w hw => ?_) ?_
  rotate_left
  · (try dsimp only at hw); go_simp; first | done | with_reducible rfl
  refine Eng.TW.call rfl rfl (by decide) (by kernel_rfl) ?_ (SameT (HSt3.out.l ⟨Am, cm, X⟩ (by simp)) (HSt3.out.l ⟨Ax, cx, X⟩ (by simp)) rfl) ?_
  · go_simp
  rintro e w4 ⟨rfl, hf⟩
  have HSt4 := Lib.hid (HSt3.out.keep hf)
  have hSS : w4.cell? ⟨Bd, 0, none⟩ = some (.slice A2 (wout Y X).length c2) ∧ w4.cell? ⟨Bd, 1, none⟩ = some (.slice A3 (wout X Y).length c3) := ⟨(Bk.cell (HSt4.out.x (Bd, ⟨A2, c2, wout Y X, A3, c3, wout X Y⟩) (by simp)) 0), (Bk.cell (HSt4.out.x (Bd, ⟨A2, c2, wout Y X, A3, c3, wout X Y⟩) (by simp)) 1)⟩
  clear hf
  refine ⟨_, rfl, hSS, ?_⟩
  refine Eng.TW.take' (v := ?_) rfl rfl (by decide) (by kernel_rfl) (fun w hw => ?_) ?_
  rotate_left
  · (try dsimp only at hw); go_simp; first | done | with_reducible rfl
  refine Eng.TW.take' (v := ?_) rfl rfl (by decide) (by kernel_rfl) (fun w hw => ?_) ?_
  rotate_left
  · (try dsimp only at hw); go_simp; first | done | with_reducible rfl
  refine Eng.TW.take' (v := ?_) rfl rfl (by decide) (by kernel_rfl) (fun w hw => ?_) ?_
  rotate_left
  · (try dsimp only at hw); go_simp; first | done | with_reducible rfl
  refine Eng.TW.take' (v := ?_) rfl rfl (by decide) (by kernel_rfl) (fun w hw => ?_) ?_
  rotate_left
  · (try dsimp only at hw); go_simp; first | done | with_reducible rfl
  refine Eng.TW.take' (v := ?_) rfl rfl (by decide) (by kernel_rfl) (fun w hw => ?_) ?_
  rotate_left
  · (try dsimp only at hw); go_simp; first | done | with_reducible rfl
  refine Eng.TW.take' (v := ?_) rfl rfl (by decide) (by kernel_rfl) (fun w hw => ?_) ?_
  rotate_left
  · (try dsimp only at hw); go_simp; first | done | with_reducible rfl
  refine Eng.TW.take' (v := ?_) rfl rfl (by decide) (by kernel_rfl) (fun w hw => ?_) ?_
  rotate_left
  · (try dsimp only at hw); go_simp; first | done | with_reducible rfl
  refine Eng.TW.take' (v := ?_) rfl rfl (by decide) (by kernel_rfl) (fun w hw => ?_) ?_
  rotate_left
  · (try dsimp only at hw); go_simp; first | done | with_reducible rfl
  refine Eng.TW.call rfl rfl (by decide) (by kernel_rfl) ?_ (SetE (HSt4.out.l ⟨Ax, cx, X⟩ (by simp)) hX X hsX) ?_
  · go_simp
  rintro e w5 ⟨A9, c9, rfl, hls, -, hb⟩
  have HSt5 := Lib.hid ((HSt4.out.below hb).addL hls)
  have hSS : w5.cell? ⟨Bd, 0, none⟩ = some (.slice A2 (wout Y X).length c2) ∧ w5.cell? ⟨Bd, 1, none⟩ = some (.slice A3 (wout X Y).length c3) := ⟨(Bk.cell (HSt5.out.x (Bd, ⟨A2, c2, wout Y X, A3, c3, wout X Y⟩) (by simp)) 0), (Bk.cell (HSt5.out.x (Bd, ⟨A2, c2, wout Y X, A3, c3, wout X Y⟩) (by simp)) 1)⟩
  clear hls hb
  refine ⟨_, rfl, hSS, ?_⟩
  refine Eng.TW.call rfl rfl (by decide) (by kernel_rfl) ?_ (SameT (HSt5.out.l ⟨A9, c9, X⟩ (by simp)) (HSt5.out.l ⟨Ax, cx, X⟩ (by simp)) rfl) ?_
  · go_simp
  rintro e w6 ⟨rfl, hf⟩
  have HSt6 := Lib.hid (HSt5.out.keep hf)
  have hSS : w6.cell? ⟨Bd, 0, none⟩ = some (.slice A2 (wout Y X).length c2) ∧ w6.cell? ⟨Bd, 1, none⟩ = some (.slice A3 (wout X Y).length c3) := ⟨(Bk.cell (HSt6.out.x (Bd, ⟨A2, c2, wout Y X, A3, c3, wout X Y⟩) (by simp)) 0), (Bk.cell (HSt6.out.x (Bd, ⟨A2, c2, wout Y X, A3, c3, wout X Y⟩) (by simp)) 1)⟩
  clear hf
  refine ⟨_, rfl, hSS, ?_⟩
  refine Eng.TW.take' (v := ?_) rfl rfl (by decide) (by kernel_rfl) (fun w hw => ?_) ?_
  rotate_left
  · (try dsimp only at hw); go_simp; first | done | with_reducible rfl
  refine Eng.TW.take' (v := ?_) rfl rfl (by decide) (by kernel_rfl) (fun w hw => ?_) ?_
  rotate_left
  · (try dsimp only at hw); go_simp; first | done | with_reducible rfl
  refine Eng.TW.take' (v := ?_) rfl rfl (by decide) (by kernel_rfl) (fun w hw => ?_) ?_
  rotate_left
  · (try dsimp only at hw); go_simp; first | done | with_reducible rfl
  refine Eng.TW.take' (v := ?_) rfl rfl (by decide) (by kernel_rfl) (fun w hw => ?_) ?_
  rotate_left
  · (try dsimp only at hw); go_simp; first | done | with_reducible rfl
  refine Eng.TW.take' (v := ?_) rfl rfl (by decide) (by kernel_rfl) (fun w hw => ?_) ?_
  rotate_left
  · (try dsimp only at hw); go_simp; first | done | with_reducible rfl
  refine Eng.TW.call rfl rfl (by decide) (by kernel_rfl) ?_ (BetE (HSt6.out.l ⟨A1, c1, q⟩ (by simp)) (HSt6.out.l ⟨A0, c0, p⟩ (by simp)) hq0 hp0 (wout X Y) (wout Y X) (by rw [← eX, ← eY]) (by rw [← eX, ← eY])) ?_
  · go_simp
  rintro e w7 ⟨A10, c10, A11, c11, rfl, hd, hb⟩
  have HSt7 := Lib.hid ((HSt6.out.below hb).addD hd)
  have hSS : w7.cell? ⟨Bd, 0, none⟩ = some (.slice A2 (wout Y X).length c2) ∧ w7.cell? ⟨Bd, 1, none⟩ = some (.slice A3 (wout X Y).length c3) := ⟨(Bk.cell (HSt7.out.x (Bd, ⟨A2, c2, wout Y X, A3, c3, wout X Y⟩) (by simp)) 0), (Bk.cell (HSt7.out.x (Bd, ⟨A2, c2, wout Y X, A3, c3, wout X Y⟩) (by simp)) 1)⟩
  clear hd hb
  refine ⟨_, rfl, hSS, ?_⟩
  refine Eng.TW.call rfl rfl (by decide) (by kernel_rfl) ?_ (Inverse ⟨A2, c2, wout Y X, A3, c3, wout X Y⟩ _ (HSt7.out.d ⟨A2, c2, wout Y X, A3, c3, wout X Y⟩ (by simp)) h1 h2) ?_
  · go_simp
  rintro e w8 ⟨A12, c12, A13, c13, rfl, hd, hb⟩
  have HSt8 := Lib.hid ((HSt7.out.below hb).addD hd)
  have hSS : w8.cell? ⟨Bd, 0, none⟩ = some (.slice A2 (wout Y X).length c2) ∧ w8.cell? ⟨Bd, 1, none⟩ = some (.slice A3 (wout X Y).length c3) := ⟨(Bk.cell (HSt8.out.x (Bd, ⟨A2, c2, wout Y X, A3, c3, wout X Y⟩) (by simp)) 0), (Bk.cell (HSt8.out.x (Bd, ⟨A2, c2, wout Y X, A3, c3, wout X Y⟩) (by simp)) 1)⟩
  clear hd hb
  refine ⟨_, rfl, hSS, ?_⟩
  refine Eng.TW.call rfl rfl (by decide) (by kernel_rfl) ?_ (SameDT ⟨A10, c10, wout X Y, A11, c11, wout Y X⟩ ⟨A12, c12, wout X Y, A13, c13, wout Y X⟩ _ (HSt8.out.d ⟨A10, c10, wout X Y, A11, c11, wout Y X⟩ (by simp)) (HSt8.out.d ⟨A12, c12, wout X Y, A13, c13, wout Y X⟩ (by simp)) (by simp [sameD])) ?_
  · go_simp
  rintro e w9 ⟨rfl, hf⟩
  have HSt9 := Lib.hid (HSt8.out.keep hf)
  have hSS : w9.cell? ⟨Bd, 0, none⟩ = some (.slice A2 (wout Y X).length c2) ∧ w9.cell? ⟨Bd, 1, none⟩ = some (.slice A3 (wout X Y).length c3) := ⟨(Bk.cell (HSt9.out.x (Bd, ⟨A2, c2, wout Y X, A3, c3, wout X Y⟩) (by simp)) 0), (Bk.cell (HSt9.out.x (Bd, ⟨A2, c2, wout Y X, A3, c3, wout X Y⟩) (by simp)) 1)⟩
  clear hf
  refine ⟨_, rfl, hSS, ?_⟩
  refine Eng.TW.take' (v := ?_) rfl rfl (by decide) (by kernel_rfl) (fun w hw => ?_) ?_
  rotate_left
  · (try dsimp only at hw); go_simp; first | done | with_reducible rfl
  refine Eng.TW.take' (v := ?_) rfl rfl (by decide) (by kernel_rfl) (fun w hw => ?_) ?_
  rotate_left
  · (try dsimp only at hw); go_simp; first | done | with_reducible rfl
  refine Eng.TW.take' (v := ?_) rfl rfl (by decide) (by kernel_rfl) (fun w hw => ?_) ?_
  rotate_left
  · (try dsimp only at hw); go_simp; first | done | with_reducible rfl
  refine Eng.TW.take' (v := ?_) rfl rfl (by decide) (by kernel_rfl) (fun w hw => ?_) ?_
  rotate_left
  · (try dsimp only at hw); go_simp; first | done | with_reducible rfl
  refine Eng.TW.take' (v := ?_) rfl rfl (by decide) (by kernel_rfl) (fun w hw => ?_) ?_
  rotate_left
  · (try dsimp only at hw); go_simp; first | done | with_reducible rfl
  refine Eng.TW.call rfl rfl (by decide) (by kernel_rfl) ?_ (BetE (HSt9.out.l ⟨A0, c0, p⟩ (by simp)) (HSt9.out.l ⟨A0, c0, p⟩ (by simp)) hp0 hp0 [] [] (wout_self _) (wout_self _)) ?_
  · go_simp
  rintro e w10 ⟨A14, c14, A15, c15, rfl, hd, hb⟩
  have HSt10 := Lib.hid ((HSt9.out.below hb).addD hd)
  have hSS : w10.cell? ⟨Bd, 0, none⟩ = some (.slice A2 (wout Y X).length c2) ∧ w10.cell? ⟨Bd, 1, none⟩ = some (.slice A3 (wout X Y).length c3) := ⟨(Bk.cell (HSt10.out.x (Bd, ⟨A2, c2, wout Y X, A3, c3, wout X Y⟩) (by simp)) 0), (Bk.cell (HSt10.out.x (Bd, ⟨A2, c2, wout Y X, A3, c3, wout X Y⟩) (by simp)) 1)⟩
  clear hd hb
  refine ⟨_, rfl, hSS, ?_⟩
  refine Eng.TW.call rfl rfl (by decide) (by kernel_rfl) ?_ (SameDT ⟨A14, c14, [], A15, c15, []⟩ ⟨none, 0, [], none, 0, []⟩ _ (HSt10.out.d ⟨A14, c14, [], A15, c15, []⟩ (by simp)) ⟨Ls.nil _, Ls.nil _⟩ rfl) ?_
  · go_simp
  rintro e w11 ⟨rfl, hf⟩
  have HSt11 := Lib.hid (HSt10.out.keep hf)
  have hSS : w11.cell? ⟨Bd, 0, none⟩ = some (.slice A2 (wout Y X).length c2) ∧ w11.cell? ⟨Bd, 1, none⟩ = some (.slice A3 (wout X Y).length c3) := ⟨(Bk.cell (HSt11.out.x (Bd, ⟨A2, c2, wout Y X, A3, c3, wout X Y⟩) (by simp)) 0), (Bk.cell (HSt11.out.x (Bd, ⟨A2, c2, wout Y X, A3, c3, wout X Y⟩) (by simp)) 1)⟩
  clear hf
  refine ⟨_, rfl, hSS, ?_⟩
  refine Eng.TW.take' (v := ?_) rfl rfl (by decide) (by kernel_rfl) (fun w hw => ?_) ?_
  rotate_left
  · (try dsimp only at hw); go_simp; first | done | with_reducible rfl
  refine Eng.TW.take' (v := ?_) rfl rfl (by decide) (by kernel_rfl) (fun w hw => ?_) ?_
  rotate_left
  · (try dsimp only at hw); go_simp; first | done | with_reducible rfl
  refine Eng.TW.call rfl rfl (by decide) (by kernel_rfl) ?_ (awake _) ?_
  · go_simp
  rintro e w12 ⟨rfl, hb⟩
  have HSt12 := Lib.hid (HSt11.out.below hb)
  have hSS : w12.cell? ⟨Bd, 0, none⟩ = some (.slice A2 (wout Y X).length c2) ∧ w12.cell? ⟨Bd, 1, none⟩ = some (.slice A3 (wout X Y).length c3) := ⟨(Bk.cell (HSt12.out.x (Bd, ⟨A2, c2, wout Y X, A3, c3, wout X Y⟩) (by simp)) 0), (Bk.cell (HSt12.out.x (Bd, ⟨A2, c2, wout Y X, A3, c3, wout X Y⟩) (by simp)) 1)⟩
  clear hb
  refine ⟨_, rfl, hSS, ?_⟩
  refine Eng.TW.take' (v := ?_) rfl rfl (by decide) (by kernel_rfl) (fun w hw => ?_) ?_
  rotate_left
  · (try dsimp only at hw); go_simp; first | done | with_reducible rfl
  refine Eng.TW.take' (v := ?_) rfl rfl (by decide) (by kernel_rfl) (fun w hw => ?_) ?_
  rotate_left
  · (try dsimp only at hw); go_simp; first | done | with_reducible rfl
  refine Eng.TW.end_ [4, 41, 42, 43, 44, 45, 46, 47, 48, 49, 50, 51, 52, 53, 54, 55, 56, 57, 58, 59, 60, 61, 62, 63, 64, 65, 66, 67, 68, 69, 70, 71, 72, 73, 74, 75, 76, 77, 78, 79, 80, 81, 82, 83, 84] HN.out (by kernel_rfl) (by kernel_rfl) ?_
  exact HP.out _ _ rfl HSt12.out.b

set_option maxRecDepth 100000 in
set_option maxHeartbeats 4000000 in
theorem makes (A0 A1 : Option Addr) (c0 c1 : Nat) (a b : List Sn) (w : World) (h0 : Ls w A0 c0 a) (h1 : Ls w A1 c1 b) :
    Calls Try.prog 12 #[.slice A0 a.length c0, .slice A1 b.length c1] w fun e w' => e = .returned (.bool true) ∧ Below w.heap.size w w' := by
  have HA := Lib.hid h0; have HC := Lib.hid h1
  have HB := Lib.hid (Below.refl w.heap.size w)
  have l1 := setOf_len a; have l2 := setOf_len b
  have hoa := setOf_ok a; have hob := setOf_ok b
  have hsi := setOf_idem a
  obtain ⟨X, eX⟩ : ∃ X, setOf a = X := ⟨_, rfl⟩
  obtain ⟨Y, eY⟩ : ∃ Y, setOf b = Y := ⟨_, rfl⟩
  rw [eX] at l1 hoa hsi
  rw [eY] at l2 hob
  have EX := Lib.hid eX; have EY := Lib.hid eY; have HOa := Lib.hid hoa; have HOb := Lib.hid hob; have HSi := Lib.hid hsi
  have HR := Lib.hid (bet_right hoa hob); have HP1 := Lib.hid (apply_bet hoa hob); have HP2 := Lib.hid (apply_bet hob hoa)
  have l3 := bet_lens X Y; have l4 := bet_lens Y X
  clear h0 h1 eX eY hoa hob hsi
  go_enter Try.func12, Try.ntmps12
  go_wp2_with fail
  refine (SetF.Few _ _ 20 a w HA.out.s).mono ?_
  rintro e w1 ⟨rfl, hf⟩
  have hb := hf.below (Nat.le_refl _) (fun _ _ h => h)
  clear hf
  replace HA := Lib.hid (HA.out.below hb)
  replace HC := Lib.hid (HC.out.below hb)
  replace HB := Lib.hid (HB.out.trans (hb.mono HB.out.size))
  clear hb
  cases hq : fewB a 20 with
  | false =>
      go_wp2_with fail
      refine (awake w1).mono ?_
      rintro e w2 ⟨rfl, hb⟩
      replace HA := Lib.hid (HA.out.below hb)
      replace HC := Lib.hid (HC.out.below hb)
      replace HB := Lib.hid (HB.out.trans (hb.mono HB.out.size))
      clear hb
      go_wp2_with fail
      go_ret
      exact ⟨rfl, HB.out⟩
  | true =>
      have hq_a := few_len hq
      go_wp2_with fail
      refine (SetF.Few _ _ 20 b w1 HC.out.s).mono ?_
      rintro e w2 ⟨rfl, hf⟩
      have hb := hf.below (Nat.le_refl _) (fun _ _ h => h)
      clear hf
      replace HA := Lib.hid (HA.out.below hb)
      replace HC := Lib.hid (HC.out.below hb)
      replace HB := Lib.hid (HB.out.trans (hb.mono HB.out.size))
      clear hb
      cases hq : fewB b 20 with
      | false =>
          go_wp2_with fail
          refine (awake w2).mono ?_
          rintro e w3 ⟨rfl, hb⟩
          replace HA := Lib.hid (HA.out.below hb)
          replace HC := Lib.hid (HC.out.below hb)
          replace HB := Lib.hid (HB.out.trans (hb.mono HB.out.size))
          clear hb
          go_wp2_with fail
          go_ret
          exact ⟨rfl, HB.out⟩
      | true =>
          have hq_b := few_len hq
          go_wp2_with fail
          refine (SetE HA.out (by omega) X EX.out).mono ?_
          rintro e w3 ⟨Ax, cx, rfl, hls, -, hb⟩
          replace HA := Lib.hid (HA.out.below hb)
          replace HC := Lib.hid (HC.out.below hb)
          replace HB := Lib.hid (HB.out.trans (hb.mono HB.out.size))
          clear hb
          have HX := Lib.hid hls
          clear hls
          go_wp2_with fail
          refine (SetE HC.out (by omega) Y EY.out).mono ?_
          rintro e w4 ⟨Ay, cy, rfl, hls, -, hb⟩
          replace HA := Lib.hid (HA.out.below hb)
          replace HC := Lib.hid (HC.out.below hb)
          replace HX := Lib.hid (HX.out.below hb)
          replace HB := Lib.hid (HB.out.trans (hb.mono HB.out.size))
          clear hb
          have HY := Lib.hid hls
          clear hls
          go_wp2_with fail
          refine (BetE HA.out HC.out (by omega) (by omega) (wout Y X) (wout X Y) (by rw [EX.out, EY.out]) (by rw [EX.out, EY.out])).mono ?_
          rintro e w5 ⟨A2, c2, A3, c3, rfl, hd, hb⟩
          replace HA := Lib.hid (HA.out.below hb)
          replace HC := Lib.hid (HC.out.below hb)
          replace HX := Lib.hid (HX.out.below hb)
          replace HY := Lib.hid (HY.out.below hb)
          replace HB := Lib.hid (HB.out.trans (hb.mono HB.out.size))
          clear hb
          have HD := Lib.hid hd
          clear hd
          go_upto_region 5 with (fail)
          have hb := (Below.refl w5.heap.size w5).alloc (Nat.le_refl _) (.cells (⟨A2, c2, wout Y X, A3, c3, wout X Y⟩ : Dl).arr TDl)
          have HBd := Lib.hid (Bk.new w5 (⟨A2, c2, wout Y X, A3, c3, wout X Y⟩ : Dl).arr TDl)
          generalize (w5.alloc (.cells (⟨A2, c2, wout Y X, A3, c3, wout X Y⟩ : Dl).arr TDl)) = w6 at *
          replace HA := Lib.hid (HA.out.below hb)
          replace HC := Lib.hid (HC.out.below hb)
          replace HX := Lib.hid (HX.out.below hb)
          replace HY := Lib.hid (HY.out.below hb)
          replace HD := Lib.hid (HD.out.below hb)
          replace HB := Lib.hid (HB.out.trans (hb.mono HB.out.size))
          clear hb
          generalize w5.heap.size = Bd at *
          have cd0 : w6.cell? ⟨Bd, 0, none⟩ = some (.slice A2 (wout Y X).length c2) := HBd.out.cell 0
          have cd1 : w6.cell? ⟨Bd, 1, none⟩ = some (.slice A3 (wout X Y).length c3) := HBd.out.cell 1
          go_wp2_with fail
          refine (AppE (d := (⟨A2, c2, wout Y X, A3, c3, wout X Y⟩ : Dl)) HX.out HD.out (by omega) (by show (wout Y X).length ≤ _; omega) (by show (wout X Y).length ≤ _; omega) Y 0 HP1.out).mono ?_
          rintro e w7 ⟨Al, cl, rfl, hls, hb⟩
          replace HA := Lib.hid (HA.out.below hb)
          replace HC := Lib.hid (HC.out.below hb)
          replace HX := Lib.hid (HX.out.below hb)
          replace HY := Lib.hid (HY.out.below hb)
          replace HD := Lib.hid (HD.out.below hb)
          replace HBd := Lib.hid (HBd.out.below hb)
          replace HB := Lib.hid (HB.out.trans (hb.mono HB.out.size))
          clear hb
          have HL := Lib.hid hls
          clear hls
          clear cd0 cd1
          have cd0 : w7.cell? ⟨Bd, 0, none⟩ = some (.slice A2 (wout Y X).length c2) := HBd.out.cell 0
          have cd1 : w7.cell? ⟨Bd, 1, none⟩ = some (.slice A3 (wout X Y).length c3) := HBd.out.cell 1
          go_wp2_with fail
          refine (Inverse (⟨A2, c2, wout Y X, A3, c3, wout X Y⟩ : Dl) w7 HD.out (by show (wout Y X).length ≤ _; omega) (by show (wout X Y).length ≤ _; omega)).mono ?_
          rintro e w8 ⟨A4, c4, A5, c5, rfl, hd, hb⟩
          replace HA := Lib.hid (HA.out.below hb)
          replace HC := Lib.hid (HC.out.below hb)
          replace HX := Lib.hid (HX.out.below hb)
          replace HY := Lib.hid (HY.out.below hb)
          replace HD := Lib.hid (HD.out.below hb)
          replace HBd := Lib.hid (HBd.out.below hb)
          replace HL := Lib.hid (HL.out.below hb)
          replace HB := Lib.hid (HB.out.trans (hb.mono HB.out.size))
          clear hb
          have HI := Lib.hid hd
          clear hd
          clear cd0 cd1
          go_wp2_with fail
          refine (AppE (d := ⟨A4, c4, wout X Y, A5, c5, wout Y X⟩) HY.out HI.out (by omega) (by show (wout X Y).length ≤ _; omega) (by show (wout Y X).length ≤ _; omega) X 0 HP2.out).mono ?_
          rintro e w9 ⟨Am, cm, rfl, hls, hb⟩
          replace HA := Lib.hid (HA.out.below hb)
          replace HC := Lib.hid (HC.out.below hb)
          replace HX := Lib.hid (HX.out.below hb)
          replace HY := Lib.hid (HY.out.below hb)
          replace HD := Lib.hid (HD.out.below hb)
          replace HBd := Lib.hid (HBd.out.below hb)
          replace HL := Lib.hid (HL.out.below hb)
          replace HI := Lib.hid (HI.out.below hb)
          replace HB := Lib.hid (HB.out.trans (hb.mono HB.out.size))
          clear hb
          have HM := Lib.hid hls
          clear hls
          clear HI
          go_upto_region 7 with (fail)
          refine dm7 (by kernel_rfl) _ _ w9 w9 Bd A0 A1 Ax Ay Al Am A2 A3 c0 c1 cx cy cl cm c2 c3 a b X Y (by omega) (by omega) (by omega) EX.out EY.out HSi.out (by omega) (by omega) HR.out ⟨by intro q hq; simp at hq; rcases hq with rfl | rfl | rfl | rfl | rfl | rfl; exact HA.out; exact HC.out; exact HX.out; exact HY.out; exact HL.out; exact HM.out, by intro q hq; simp at hq; subst hq; exact HD.out, by intro q hq; simp at hq; subst hq; exact HBd.out, Below.refl _ _⟩ rfl rfl rfl rfl rfl rfl rfl rfl rfl rfl ?_
          intro x w10 x4 hb
          simp only [Eng.setAll, Act.put, List.setIfInBounds_toArray, List.set_cons_succ, List.set_cons_zero]
          rw [x4]
          clear x4
          replace HA := Lib.hid (HA.out.below hb)
          replace HC := Lib.hid (HC.out.below hb)
          replace HX := Lib.hid (HX.out.below hb)
          replace HY := Lib.hid (HY.out.below hb)
          replace HD := Lib.hid (HD.out.below hb)
          replace HBd := Lib.hid (HBd.out.below hb)
          replace HL := Lib.hid (HL.out.below hb)
          replace HM := Lib.hid (HM.out.below hb)
          replace HB := Lib.hid (HB.out.trans (hb.mono HB.out.size))
          clear hb
          go_wp2_with fail
          go_ret
          exact ⟨rfl, HB.out⟩
end Law15
end Go.Proofs.Ytkhhdadlpilbmaa
