/- Layer 15's statements: DeltaIs, DeltaComposes: for every input the answer is true. -/
import Derived.Test.YtkhhdadlpilbmaaGreatRefD4
namespace Go.Proofs.YtkhhdadlpilbmaaGreat
open Go.RowKit
namespace Law15
open KeyP PackP SetP SetW SetF Delta Comp
attribute [local go_sem] Eng.ev Eng.getO_cons Eng.getO_nil
theorem few_len {L : List Sn} {n : Nat} (h : fewB L n = true) : L.length ≤ n := by unfold fewB at h; simp at h; exact h.2
theorem SetE2 {A : Option Addr} {c : Nat} {L : List Sn} {w : World} (h : Ls w A c L) (hl : L.length ≤ 1000000) (N : List Sn) (hN : setOf L = N) : Calls Tryz.prog 12 #[.slice A L.length c] w (LsPost N w) := hN ▸ SetF.RefSet A c L w h hl
theorem BetE2 {A A2 : Option Addr} {c c2 : Nat} {a b : List Sn} {w : World} (h1 : Ls w A c a) (h2 : Ls w A2 c2 b) (l1 : a.length ≤ 1000000) (l2 : b.length ≤ 1000000) (O I : List Sn) (hO : wout (setOf b) (setOf a) = O) (hI : wout (setOf a) (setOf b) = I) :
    Calls Tryz.prog 15 #[.slice A a.length c, .slice A2 b.length c2] w (DlPost O I w) := hO ▸ hI ▸ RefD.Between A A2 c c2 a b w h1 h2 l1 l2
theorem AppE2 {A : Option Addr} {c : Nat} {L : List Sn} {d : Dl} {w : World} (h1 : Ls w A c L) (h2 : RdD w d) (l0 : L.length ≤ 400000) (l1 : d.O.length ≤ 400000) (l2 : d.I.length ≤ 12) (N : List Sn) (z : Int) (h : applyP L d.O d.I = (N, z)) :
    Calls Tryz.prog 9 #[.slice A L.length c, d.v] w fun e w' => ∃ A c, e = .returned (.tuple #[.slice A N.length c, .int .i64 z]) ∧ Ls w' A c N ∧ Below w.heap.size w w' :=
  (RefD.Apply A c L d w h1 h2 l0 l1 l2).mono (fun _ _ hp => by rw [h] at hp; exact hp)
theorem CmpE2 {d e : Dl} {w : World} (h1 : RdD w d) (h2 : RdD w e) (l1 : d.O.length ≤ 400000) (l2 : d.I.length ≤ 400000) (l3 : e.O.length ≤ 400000) (l4 : e.I.length ≤ 400000) (O I : List Sn) (z : Int) (h : composeP d.O d.I e.O e.I = ((O, I), z)) :
    Calls Tryz.prog 20 #[d.v, e.v] w fun r w' => ∃ A1 c1 A2 c2, r = .returned (.tuple #[(Dl.mk A1 c1 O A2 c2 I).v, .int .i64 z]) ∧ RdD w' ⟨A1, c1, O, A2, c2, I⟩ ∧ Below w.heap.size w w' :=
  (RefD.Compose d e w h1 h2 l1 l2 l3 l4).mono (fun _ _ hp => by rw [h] at hp; exact hp)
theorem RightE2 (d : Dl) (w : World) (hd : RdD w d) (h1 : d.O.length ≤ 1000000) (h2 : d.I.length ≤ 1000000) (q : Bool) (hq : rightB d.O d.I = q) :
    Calls Tryz.prog 17 #[d.v] w fun e w' => e = .returned (.bool q) ∧ Below w.heap.size w w' := hq ▸ RefD.Right d w hd h1 h2
set_option maxRecDepth 100000 in
set_option maxHeartbeats 4000000 in
theorem di5 {ops : Array Oper} (hops : Eng.fnOps Tryz.f3 5 = ops) (a0 : Act) (Q : Exit → Act → World → Prop) (w0 w : World) (Bd : Nat) (A0 A1 Al Am : Option Addr) (c0 c1 cl cm : Nat) (p r X Y N : List Sn) (d : Dl) (z : Int) (q : Bool) (hp0 : p.length ≤ 1000000) (hr0 : r.length ≤ 1000000) (eX : setOf p = X) (eY : setOf r = Y) (h1 : d.O.length ≤ 1000000) (h2 : d.I.length ≤ 1000000) (hr : rightB d.O d.I = q) (hst : DS w0 w [⟨A0, c0, p⟩, ⟨A1, c1, r⟩, ⟨Al, cl, N⟩, ⟨Am, cm, N⟩] [d] [(Bd, d)])
    (hn : a0.tmps.size = 81) (h_0 : a0.tmps.getD 0 undef = .slice A0 p.length c0) (h_1 : a0.tmps.getD 1 undef = .slice A1 r.length c1) (h_5 : a0.tmps.getD 5 undef = .pointer (some ⟨Bd, 0, none⟩)) (h_7 : a0.tmps.getD 7 undef = .slice Al N.length cl) (h_8 : a0.tmps.getD 8 undef = .int .i64 z) (h_9 : a0.tmps.getD 9 undef = .slice Am N.length cm) (h_10 : a0.tmps.getD 10 undef = .int .i64 z)
    (hpost : ∀ (x : Nat → Value) (w' : World), x 6 = .bool true → Below w0.heap.size w0 w' → Q .normal (Eng.setAll a0 [6, 37, 38, 39, 40, 41, 42, 43, 44, 45, 46, 47, 48, 49, 50, 51, 52, 53, 54, 55, 56, 57, 58, 59, 60, 61, 62, 63, 64, 65, 66, 67, 68, 69, 70, 71, 72, 73, 74, 75, 76, 77, 78, 79, 80] x) w') :
    (Code.region 5 ops true).wp Tryz.prog Q a0 w := by
  simp only [Eng.fnOps, Eng.regOps, Tryz.f3, Option.bind_some, Option.getD_some, Nat.reduceEqDiff, ↓reduceIte, Nat.reduceBEq] at hops
  subst hops
  have kz := kz
  have hqq : (q == q) = true := by simp
  have hzz : (z == z) = true := by simp
  have kb : ∀ W : World, (Instr.build TDl #[(0, .slice d.A2 d.I.length d.c2), (1, .slice d.A1 d.O.length d.c1)]).run Tryz.prog W = .ok (.agg #[.slice d.A2 d.I.length d.c2, .slice d.A1 d.O.length d.c1]) W := fun W => by kernel_rfl
  have HSt := Lib.hid (hst.keep (Fr.drew _ _))
  have hSS : w.drew.cell? ⟨Bd, 0, none⟩ = some (.slice d.A1 d.O.length d.c1) ∧ w.drew.cell? ⟨Bd, 1, none⟩ = some (.slice d.A2 d.I.length d.c2) := ⟨(Bk.cell (HSt.out.x (Bd, d) (by simp)) 0), (Bk.cell (HSt.out.x (Bd, d) (by simp)) 1)⟩
  refine Eng.regionT (.take 0 (.take 2 (.alt 1 (.alt 3 (.alt 4 (.take 5 (.take 6 (.take 7 (.take 9 (.take 10 (.alt 8 (.alt 11 (.alt 12 (.take 13 (.take 14 (.take 15 (.take 17 (.alt 16 (.alt 18 (.take 19 (.take 20 (.take 21 (.take 22 (.take 24 (.take 25 (.take 26 (.take 27 (.take 28 (.alt 23 (.alt 29 (.take 30 (.take 31 (.take 32 (.take 33 (.alt 34 (.take 35 (.take 36 (.take 37 (.take 38 (.take 39 (.take 40 (.take 41 (.alt 42 (.take 43 (.take 44 (.done))) (.stop))))))))) (.stop)))))) (.stop)) (.stop))))))))))) (.stop)) (.stop)))))) (.stop)) (.stop)) (.stop))))))) (.stop)) (.stop)) (.stop)))) (fun w' => w'.cell? ⟨Bd, 0, none⟩ = some (.slice d.A1 d.O.length d.c1) ∧ w'.cell? ⟨Bd, 1, none⟩ = some (.slice d.A2 d.I.length d.c2)) (by kernel_rfl) 81 hn (by kernel_rfl) (by kernel_rfl) (by kernel_rfl) (hSS) (fun a b ha hb => ?_)
  subst ha
  have hb0 : b 0 = .slice A0 p.length c0 := (hb 0).symm.trans h_0
  have hb1 : b 1 = .slice A1 r.length c1 := (hb 1).symm.trans h_1
  have hb5 : b 5 = .pointer (some ⟨Bd, 0, none⟩) := (hb 5).symm.trans h_5
  have hb7 : b 7 = .slice Al N.length cl := (hb 7).symm.trans h_7
  have hb8 : b 8 = .int .i64 z := (hb 8).symm.trans h_8
  have hb9 : b 9 = .slice Am N.length cm := (hb 9).symm.trans h_9
  have hb10 : b 10 = .int .i64 z := (hb 10).symm.trans h_10
  clear hb h_0 h_1 h_5 h_7 h_8 h_9 h_10
  have HP := Lib.hid hpost; have HN := Lib.hid hn
  clear hpost hn
  refine Eng.TW.take' (v := ?_) rfl rfl (by decide) (by kernel_rfl) (fun w hw => ?_) ?_
  rotate_left
  · (try dsimp only at hw); go_simp; first | done | with_reducible rfl
  refine Eng.TW.take' (v := ?_) rfl rfl (by decide) (by kernel_rfl) (fun w hw => ?_) ?_
  rotate_left
  · (try dsimp only at hw); go_simp; first | done | with_reducible rfl
  refine Eng.TW.call rfl rfl (by decide) (by kernel_rfl) ?_ (SetE (HSt.out.l ⟨A0, c0, p⟩ (by simp)) hp0 X eX) ?_
  · go_simp
  rintro e w2 ⟨A9, c9, rfl, hls, -, hb⟩
  have HSt2 := Lib.hid ((HSt.out.below hb).addL hls)
  have hSS : w2.cell? ⟨Bd, 0, none⟩ = some (.slice d.A1 d.O.length d.c1) ∧ w2.cell? ⟨Bd, 1, none⟩ = some (.slice d.A2 d.I.length d.c2) := ⟨(Bk.cell (HSt2.out.x (Bd, d) (by simp)) 0), (Bk.cell (HSt2.out.x (Bd, d) (by simp)) 1)⟩
  clear hls hb
  refine ⟨_, rfl, hSS, ?_⟩
  refine Eng.TW.call rfl rfl (by decide) (by kernel_rfl) ?_ (SetE2 (HSt2.out.l ⟨A0, c0, p⟩ (by simp)) hp0 X eX) ?_
  · go_simp
  rintro e w3 ⟨A10, c10, rfl, hls, -, hb⟩
  have HSt3 := Lib.hid ((HSt2.out.below hb).addL hls)
  have hSS : w3.cell? ⟨Bd, 0, none⟩ = some (.slice d.A1 d.O.length d.c1) ∧ w3.cell? ⟨Bd, 1, none⟩ = some (.slice d.A2 d.I.length d.c2) := ⟨(Bk.cell (HSt3.out.x (Bd, d) (by simp)) 0), (Bk.cell (HSt3.out.x (Bd, d) (by simp)) 1)⟩
  clear hls hb
  refine ⟨_, rfl, hSS, ?_⟩
  refine Eng.TW.call rfl rfl (by decide) (by kernel_rfl) ?_ (SameT (HSt3.out.l ⟨A9, c9, X⟩ (by simp)) (HSt3.out.l ⟨A10, c10, X⟩ (by simp)) rfl) ?_
  · go_simp
  rintro e w4 ⟨rfl, hf⟩
  have HSt4 := Lib.hid (HSt3.out.keep hf)
  have hSS : w4.cell? ⟨Bd, 0, none⟩ = some (.slice d.A1 d.O.length d.c1) ∧ w4.cell? ⟨Bd, 1, none⟩ = some (.slice d.A2 d.I.length d.c2) := ⟨(Bk.cell (HSt4.out.x (Bd, d) (by simp)) 0), (Bk.cell (HSt4.out.x (Bd, d) (by simp)) 1)⟩
  clear hf
  refine ⟨_, rfl, hSS, ?_⟩
  refine Eng.TW.take' (v := ?_) rfl rfl (by decide) (by kernel_rfl) (fun w hw => ?_) ?_
  rotate_left
  · (try dsimp only at hw); go_simp; first | done | with_reducible rfl
  refine Eng.TW.take' (v := ?_) rfl rfl (by decide) (by kernel_rfl) (fun w hw => ?_) ?_
  rotate_left
  · (try dsimp only at hw); go_simp; first | done | with_reducible rfl
  refine Eng.TW.take' (v := ?_) rfl rfl (by decide) (by kernel_rfl) (fun w hw => ?_) ?_
  rotate_left
  · (try dsimp only at hw); go_simp; first | done | with_reducible rfl
  refine Eng.TW.take' (v := ?_) rfl rfl (by decide) (by kernel_rfl) (fun w hw => ?_) ?_
  rotate_left
  · (try dsimp only at hw); go_simp; first | done | with_reducible rfl
  refine Eng.TW.take' (v := ?_) rfl rfl (by decide) (by kernel_rfl) (fun w hw => ?_) ?_
  rotate_left
  · (try dsimp only at hw); go_simp; first | done | with_reducible rfl
  refine Eng.TW.call rfl rfl (by decide) (by kernel_rfl) ?_ (BetE (HSt4.out.l ⟨A0, c0, p⟩ (by simp)) (HSt4.out.l ⟨A1, c1, r⟩ (by simp)) hp0 hr0 (wout Y X) (wout X Y) (by rw [← eX, ← eY]) (by rw [← eX, ← eY])) ?_
  · go_simp
  rintro e w5 ⟨A11, c11, A12, c12, rfl, hd, hb⟩
  have HSt5 := Lib.hid ((HSt4.out.below hb).addD hd)
  have hSS : w5.cell? ⟨Bd, 0, none⟩ = some (.slice d.A1 d.O.length d.c1) ∧ w5.cell? ⟨Bd, 1, none⟩ = some (.slice d.A2 d.I.length d.c2) := ⟨(Bk.cell (HSt5.out.x (Bd, d) (by simp)) 0), (Bk.cell (HSt5.out.x (Bd, d) (by simp)) 1)⟩
  clear hd hb
  refine ⟨_, rfl, hSS, ?_⟩
  refine Eng.TW.call rfl rfl (by decide) (by kernel_rfl) ?_ (BetE2 (HSt5.out.l ⟨A0, c0, p⟩ (by simp)) (HSt5.out.l ⟨A1, c1, r⟩ (by simp)) hp0 hr0 (wout Y X) (wout X Y) (by rw [← eX, ← eY]) (by rw [← eX, ← eY])) ?_
  · go_simp
  rintro e w6 ⟨A13, c13, A14, c14, rfl, hd, hb⟩
  have HSt6 := Lib.hid ((HSt5.out.below hb).addD hd)
  have hSS : w6.cell? ⟨Bd, 0, none⟩ = some (.slice d.A1 d.O.length d.c1) ∧ w6.cell? ⟨Bd, 1, none⟩ = some (.slice d.A2 d.I.length d.c2) := ⟨(Bk.cell (HSt6.out.x (Bd, d) (by simp)) 0), (Bk.cell (HSt6.out.x (Bd, d) (by simp)) 1)⟩
  clear hd hb
  refine ⟨_, rfl, hSS, ?_⟩
  refine Eng.TW.call rfl rfl (by decide) (by kernel_rfl) ?_ (SameDT ⟨A11, c11, wout Y X, A12, c12, wout X Y⟩ ⟨A13, c13, wout Y X, A14, c14, wout X Y⟩ _ (HSt6.out.d ⟨A11, c11, wout Y X, A12, c12, wout X Y⟩ (by simp)) (HSt6.out.d ⟨A13, c13, wout Y X, A14, c14, wout X Y⟩ (by simp)) (by simp [sameD])) ?_
  · go_simp
  rintro e w7 ⟨rfl, hf⟩
  have HSt7 := Lib.hid (HSt6.out.keep hf)
  have hSS : w7.cell? ⟨Bd, 0, none⟩ = some (.slice d.A1 d.O.length d.c1) ∧ w7.cell? ⟨Bd, 1, none⟩ = some (.slice d.A2 d.I.length d.c2) := ⟨(Bk.cell (HSt7.out.x (Bd, d) (by simp)) 0), (Bk.cell (HSt7.out.x (Bd, d) (by simp)) 1)⟩
  clear hf
  refine ⟨_, rfl, hSS, ?_⟩
  refine Eng.TW.take' (v := ?_) rfl rfl (by decide) (by kernel_rfl) (fun w hw => ?_) ?_
  rotate_left
  · (try dsimp only at hw); go_simp; first | done | with_reducible rfl
  refine Eng.TW.take' (v := ?_) rfl rfl (by decide) (by kernel_rfl) (fun w hw => ?_) ?_
  rotate_left
  · (try dsimp only at hw); go_simp; first | done | with_reducible rfl
  refine Eng.TW.take' (v := ?_) rfl rfl (by decide) (by kernel_rfl) (fun w hw => ?_) ?_
  rotate_left
  · (try dsimp only at hw); go_simp; first | done | with_reducible rfl
  refine Eng.TW.take' (v := ?_) rfl rfl (by decide) (by kernel_rfl) (fun w hw => ?_) ?_
  rotate_left
  · (try dsimp only at hw); go_simp; first | done | with_reducible rfl
  refine Eng.TW.call rfl rfl (by decide) (by kernel_rfl) ?_ (RightE d _ (HSt7.out.d d (by simp)) h1 h2 q hr) ?_
  · go_simp
  rintro e w8 ⟨rfl, hb⟩
  have HSt8 := Lib.hid (HSt7.out.below hb)
  have hSS : w8.cell? ⟨Bd, 0, none⟩ = some (.slice d.A1 d.O.length d.c1) ∧ w8.cell? ⟨Bd, 1, none⟩ = some (.slice d.A2 d.I.length d.c2) := ⟨(Bk.cell (HSt8.out.x (Bd, d) (by simp)) 0), (Bk.cell (HSt8.out.x (Bd, d) (by simp)) 1)⟩
  clear hb
  refine ⟨_, rfl, hSS, ?_⟩
  refine Eng.TW.call rfl rfl (by decide) (by kernel_rfl) ?_ (RightE2 d _ (HSt8.out.d d (by simp)) h1 h2 q hr) ?_
  · go_simp
  rintro e w9 ⟨rfl, hb⟩
  have HSt9 := Lib.hid (HSt8.out.below hb)
  have hSS : w9.cell? ⟨Bd, 0, none⟩ = some (.slice d.A1 d.O.length d.c1) ∧ w9.cell? ⟨Bd, 1, none⟩ = some (.slice d.A2 d.I.length d.c2) := ⟨(Bk.cell (HSt9.out.x (Bd, d) (by simp)) 0), (Bk.cell (HSt9.out.x (Bd, d) (by simp)) 1)⟩
  clear hb
  refine ⟨_, rfl, hSS, ?_⟩
  refine Eng.TW.take' (v := ?_) rfl rfl (by decide) (by kernel_rfl) (fun w hw => ?_) ?_
  rotate_left
  · (try dsimp only at hw); go_simp; first | done | with_reducible rfl
  refine Eng.TW.take' (v := ?_) rfl rfl (by decide) (by kernel_rfl) (fun w hw => ?_) ?_
  rotate_left
  · (try dsimp only at hw); go_simp; first | done | with_reducible rfl
  refine Eng.TW.take' (v := ?_) rfl rfl (by decide) (by kernel_rfl) (fun w hw => ?_) ?_
  rotate_left
  · (try dsimp only at hw); go_simp; first | done | with_reducible rfl
  refine Eng.TW.take' (v := ?_) rfl rfl (by decide) (by kernel_rfl) (fun w hw => ?_) ?_
  rotate_left
  · (try dsimp only at hw); go_simp; first | done | with_reducible rfl
  refine Eng.TW.take' (v := ?_) rfl rfl (by decide) (by kernel_rfl) (fun w hw => ?_) ?_
  rotate_left
  · (try dsimp only at hw); go_simp; first | done | with_reducible rfl
  refine Eng.TW.take' (v := ?_) rfl rfl (by decide) (by kernel_rfl) (fun w hw => ?_) ?_
  rotate_left
  · (try dsimp only at hw); go_simp; first | done | with_reducible rfl
  refine Eng.TW.take' (v := ?_) rfl rfl (by decide) (by kernel_rfl) (fun w hw => ?_) ?_
  rotate_left
  · (try dsimp only at hw); go_simp; first | done | with_reducible rfl
  refine Eng.TW.take' (v := ?_) rfl rfl (by decide) (by kernel_rfl) (fun w hw => ?_) ?_
  rotate_left
  · (try dsimp only at hw); go_simp; first | done | with_reducible rfl
  refine Eng.TW.take' (v := ?_) rfl rfl (by decide) (by kernel_rfl) (fun w hw => ?_) ?_
  rotate_left
  · (try dsimp only at hw); go_simp; first | done | with_reducible rfl
  refine Eng.TW.call rfl rfl (by decide) (by kernel_rfl) ?_ (Inverse d _ (HSt9.out.d d (by simp)) h1 h2) ?_
  · go_simp
  rintro e w10 ⟨A15, c15, A16, c16, rfl, hd, hb⟩
  have HSt10 := Lib.hid ((HSt9.out.below hb).addD hd)
  have hSS : w10.cell? ⟨Bd, 0, none⟩ = some (.slice d.A1 d.O.length d.c1) ∧ w10.cell? ⟨Bd, 1, none⟩ = some (.slice d.A2 d.I.length d.c2) := ⟨(Bk.cell (HSt10.out.x (Bd, d) (by simp)) 0), (Bk.cell (HSt10.out.x (Bd, d) (by simp)) 1)⟩
  clear hd hb
  refine ⟨_, rfl, hSS, ?_⟩
  refine Eng.TW.call rfl rfl (by decide) (by kernel_rfl) ?_ (SameDT ⟨A15, c15, d.I, A16, c16, d.O⟩ ⟨d.A2, d.c2, d.I, d.A1, d.c1, d.O⟩ _ (HSt10.out.d ⟨A15, c15, d.I, A16, c16, d.O⟩ (by simp)) ⟨(HSt10.out.d d (by simp)).i, (HSt10.out.d d (by simp)).o⟩ (by simp [sameD])) ?_
  · go_simp
  rintro e w11 ⟨rfl, hf⟩
  have HSt11 := Lib.hid (HSt10.out.keep hf)
  have hSS : w11.cell? ⟨Bd, 0, none⟩ = some (.slice d.A1 d.O.length d.c1) ∧ w11.cell? ⟨Bd, 1, none⟩ = some (.slice d.A2 d.I.length d.c2) := ⟨(Bk.cell (HSt11.out.x (Bd, d) (by simp)) 0), (Bk.cell (HSt11.out.x (Bd, d) (by simp)) 1)⟩
  clear hf
  refine ⟨_, rfl, hSS, ?_⟩
  refine Eng.TW.take' (v := ?_) rfl rfl (by decide) (by kernel_rfl) (fun w hw => ?_) ?_
  rotate_left
  · (try dsimp only at hw); go_simp; first | done | with_reducible rfl
  refine Eng.TW.take' (v := ?_) rfl rfl (by decide) (by kernel_rfl) (fun w hw => ?_) ?_
  rotate_left
  · (try dsimp only at hw); go_simp; first | done | with_reducible rfl
  refine Eng.TW.take' (v := ?_) rfl rfl (by decide) (by kernel_rfl) (fun w hw => ?_) ?_
  rotate_left
  · (try dsimp only at hw); go_simp; first | done | with_reducible rfl
  refine Eng.TW.take' (v := ?_) rfl rfl (by decide) (by kernel_rfl) (fun w hw => ?_) ?_
  rotate_left
  · (try dsimp only at hw); go_simp; first | done | with_reducible rfl
  refine Eng.TW.call rfl rfl (by decide) (by kernel_rfl) ?_ (SameT (HSt11.out.l ⟨Al, cl, N⟩ (by simp)) (HSt11.out.l ⟨Am, cm, N⟩ (by simp)) rfl) ?_
  · go_simp
  rintro e w12 ⟨rfl, hf⟩
  have HSt12 := Lib.hid (HSt11.out.keep hf)
  have hSS : w12.cell? ⟨Bd, 0, none⟩ = some (.slice d.A1 d.O.length d.c1) ∧ w12.cell? ⟨Bd, 1, none⟩ = some (.slice d.A2 d.I.length d.c2) := ⟨(Bk.cell (HSt12.out.x (Bd, d) (by simp)) 0), (Bk.cell (HSt12.out.x (Bd, d) (by simp)) 1)⟩
  clear hf
  refine ⟨_, rfl, hSS, ?_⟩
  refine Eng.TW.take' (v := ?_) rfl rfl (by decide) (by kernel_rfl) (fun w hw => ?_) ?_
  rotate_left
  · (try dsimp only at hw); go_simp; first | done | with_reducible rfl
  refine Eng.TW.take' (v := ?_) rfl rfl (by decide) (by kernel_rfl) (fun w hw => ?_) ?_
  rotate_left
  · (try dsimp only at hw); go_simp; first | done | with_reducible rfl
  refine Eng.TW.take' (v := ?_) rfl rfl (by decide) (by kernel_rfl) (fun w hw => ?_) ?_
  rotate_left
  · (try dsimp only at hw); go_simp; first | done | with_reducible rfl
  refine Eng.TW.take' (v := ?_) rfl rfl (by decide) (by kernel_rfl) (fun w hw => ?_) ?_
  rotate_left
  · (try dsimp only at hw); go_simp; first | done | with_reducible rfl
  refine Eng.TW.take' (v := ?_) rfl rfl (by decide) (by kernel_rfl) (fun w hw => ?_) ?_
  rotate_left
  · (try dsimp only at hw); go_simp; first | done | with_reducible rfl
  refine Eng.TW.take' (v := ?_) rfl rfl (by decide) (by kernel_rfl) (fun w hw => ?_) ?_
  rotate_left
  · (try dsimp only at hw); go_simp; first | done | with_reducible rfl
  refine Eng.TW.take' (v := ?_) rfl rfl (by decide) (by kernel_rfl) (fun w hw => ?_) ?_
  rotate_left
  · (try dsimp only at hw); go_simp; first | done | with_reducible rfl
  refine Eng.TW.call rfl rfl (by decide) (by kernel_rfl) ?_ (awake _) ?_
  · go_simp
  rintro e w13 ⟨rfl, hb⟩
  have HSt13 := Lib.hid (HSt12.out.below hb)
  have hSS : w13.cell? ⟨Bd, 0, none⟩ = some (.slice d.A1 d.O.length d.c1) ∧ w13.cell? ⟨Bd, 1, none⟩ = some (.slice d.A2 d.I.length d.c2) := ⟨(Bk.cell (HSt13.out.x (Bd, d) (by simp)) 0), (Bk.cell (HSt13.out.x (Bd, d) (by simp)) 1)⟩
  clear hb
  refine ⟨_, rfl, hSS, ?_⟩
  refine Eng.TW.take' (v := ?_) rfl rfl (by decide) (by kernel_rfl) (fun w hw => ?_) ?_
  rotate_left
  · (try dsimp only at hw); go_simp; first | done | with_reducible rfl
  refine Eng.TW.take' (v := ?_) rfl rfl (by decide) (by kernel_rfl) (fun w hw => ?_) ?_
  rotate_left
  · (try dsimp only at hw); go_simp; first | done | with_reducible rfl
  refine Eng.TW.end_ [6, 37, 38, 39, 40, 41, 42, 43, 44, 45, 46, 47, 48, 49, 50, 51, 52, 53, 54, 55, 56, 57, 58, 59, 60, 61, 62, 63, 64, 65, 66, 67, 68, 69, 70, 71, 72, 73, 74, 75, 76, 77, 78, 79, 80] HN.out (by kernel_rfl) (by kernel_rfl) ?_
  exact HP.out _ _ rfl HSt13.out.b

set_option maxRecDepth 100000 in
set_option maxHeartbeats 4000000 in
theorem is_ (A0 A1 : Option Addr) (c0 c1 : Nat) (a b : List Sn) (d : Dl) (w : World) (h0 : Ls w A0 c0 a) (h1 : Ls w A1 c1 b) (hd : RdD w d) :
    Calls Tryz.prog 3 #[.slice A0 a.length c0, .slice A1 b.length c1, d.v] w fun e w' => e = .returned (.bool true) ∧ Below w.heap.size w w' := by
  have hf := Fr.alloc (fun _ => False) w (.cells d.arr TDl)
  have HA := Lib.hid (h0.keep hf); have HC := Lib.hid (h1.keep hf); have HD := Lib.hid (hd.keep hf)
  have HBd := Lib.hid (Bk.new w d.arr TDl)
  have HB := Lib.hid ((Below.refl w.heap.size w).alloc (Nat.le_refl _) (.cells d.arr TDl))
  clear h0 h1 hd hf
  go_enter Tryz.func3, Tryz.ntmps3
  go_upto_region 1 with (fail)
  generalize (w.alloc (.cells d.arr TDl)) = w1 at *
  obtain ⟨Bd, hBd⟩ : ∃ B, B = w.heap.size := ⟨_, rfl⟩
  rw [← hBd] at HBd ⊢
  have HBdE := Lib.hid hBd
  clear hBd
  go_wp2_with fail
  refine (SetF.Few _ _ 20 a w1 HA.out.s).mono ?_
  rintro e w2 ⟨rfl, hf⟩
  have hb := hf.below (Nat.le_refl _) (fun _ _ h => h)
  clear hf
  replace HA := Lib.hid (HA.out.below hb)
  replace HC := Lib.hid (HC.out.below hb)
  replace HD := Lib.hid (HD.out.below hb)
  replace HBd := Lib.hid (HBd.out.below hb)
  replace HB := Lib.hid (HB.out.trans (hb.mono HB.out.size))
  clear hb
  cases hq : fewB a 20 with
  | false =>
      go_wp2_with fail
      refine (awake w2).mono ?_
      rintro e w3 ⟨rfl, hb⟩
      replace HA := Lib.hid (HA.out.below hb)
      replace HC := Lib.hid (HC.out.below hb)
      replace HD := Lib.hid (HD.out.below hb)
      replace HBd := Lib.hid (HBd.out.below hb)
      replace HB := Lib.hid (HB.out.trans (hb.mono HB.out.size))
      clear hb
      go_wp2_with fail
      go_ret
      exact ⟨rfl, HB.out⟩
  | true =>
      have hq_a := few_len hq
      go_wp2_with fail
      refine (SetF.Few _ _ 20 b w2 HC.out.s).mono ?_
      rintro e w3 ⟨rfl, hf⟩
      have hb := hf.below (Nat.le_refl _) (fun _ _ h => h)
      clear hf
      replace HA := Lib.hid (HA.out.below hb)
      replace HC := Lib.hid (HC.out.below hb)
      replace HD := Lib.hid (HD.out.below hb)
      replace HBd := Lib.hid (HBd.out.below hb)
      replace HB := Lib.hid (HB.out.trans (hb.mono HB.out.size))
      clear hb
      cases hq : fewB b 20 with
      | false =>
          go_wp2_with fail
          refine (awake w3).mono ?_
          rintro e w4 ⟨rfl, hb⟩
          replace HA := Lib.hid (HA.out.below hb)
          replace HC := Lib.hid (HC.out.below hb)
          replace HD := Lib.hid (HD.out.below hb)
          replace HBd := Lib.hid (HBd.out.below hb)
          replace HB := Lib.hid (HB.out.trans (hb.mono HB.out.size))
          clear hb
          go_wp2_with fail
          go_ret
          exact ⟨rfl, HB.out⟩
      | true =>
          have hq_b := few_len hq
          have cd0 : w3.cell? ⟨Bd, 0, none⟩ = some (.slice d.A1 d.O.length d.c1) := HBd.out.cell 0
          have cd1 : w3.cell? ⟨Bd, 1, none⟩ = some (.slice d.A2 d.I.length d.c2) := HBd.out.cell 1
          go_wp2_with fail
          refine (RefD.FewD d w3 HD.out).mono ?_
          rintro e w4 ⟨rfl, hf⟩
          have hb := hf.below (Nat.le_refl _) (fun _ _ h => h)
          clear hf
          replace HA := Lib.hid (HA.out.below hb)
          replace HC := Lib.hid (HC.out.below hb)
          replace HD := Lib.hid (HD.out.below hb)
          replace HBd := Lib.hid (HBd.out.below hb)
          replace HB := Lib.hid (HB.out.trans (hb.mono HB.out.size))
          clear hb
          clear cd0 cd1
          obtain ⟨qf, hqf⟩ : ∃ q, (fewB d.O 12 && fewB d.I 12) = q := ⟨_, rfl⟩
          rw [hqf]
          cases qf with
          | false =>
            go_wp2_with fail
            refine (awake w4).mono ?_
            rintro e w5 ⟨rfl, hb⟩
            replace HA := Lib.hid (HA.out.below hb)
            replace HC := Lib.hid (HC.out.below hb)
            replace HD := Lib.hid (HD.out.below hb)
            replace HBd := Lib.hid (HBd.out.below hb)
            replace HB := Lib.hid (HB.out.trans (hb.mono HB.out.size))
            clear hb
            go_wp2_with fail
            go_ret
            exact ⟨rfl, HB.out⟩
          | true =>
            obtain ⟨g1, g2⟩ := Bool.and_eq_true_iff.1 hqf
            have hl1 := few_len g1
            have hl2 := few_len g2
            clear g1 g2 hqf
            obtain ⟨N, z, hNz⟩ : ∃ N z, applyP a d.O d.I = (N, z) := ⟨_, _, rfl⟩
            have HNz := Lib.hid hNz
            clear hNz
            have cd0 : w4.cell? ⟨Bd, 0, none⟩ = some (.slice d.A1 d.O.length d.c1) := HBd.out.cell 0
            have cd1 : w4.cell? ⟨Bd, 1, none⟩ = some (.slice d.A2 d.I.length d.c2) := HBd.out.cell 1
            go_wp2_with fail
            refine (AppE (d := d) HA.out HD.out (by omega) (by omega) (by omega) N z HNz.out).mono ?_
            rintro e w5 ⟨Al, cl, rfl, hls, hb⟩
            replace HA := Lib.hid (HA.out.below hb)
            replace HC := Lib.hid (HC.out.below hb)
            replace HD := Lib.hid (HD.out.below hb)
            replace HBd := Lib.hid (HBd.out.below hb)
            replace HB := Lib.hid (HB.out.trans (hb.mono HB.out.size))
            clear hb
            have HL := Lib.hid hls
            clear hls
            clear cd0 cd1
            have cd0 : w5.cell? ⟨Bd, 0, none⟩ = some (.slice d.A1 d.O.length d.c1) := HBd.out.cell 0
            have cd1 : w5.cell? ⟨Bd, 1, none⟩ = some (.slice d.A2 d.I.length d.c2) := HBd.out.cell 1
            go_wp2_with fail
            refine (AppE2 (d := d) HA.out HD.out (by omega) (by omega) (by omega) N z HNz.out).mono ?_
            rintro e w6 ⟨Am, cm, rfl, hls, hb⟩
            replace HA := Lib.hid (HA.out.below hb)
            replace HC := Lib.hid (HC.out.below hb)
            replace HD := Lib.hid (HD.out.below hb)
            replace HBd := Lib.hid (HBd.out.below hb)
            replace HL := Lib.hid (HL.out.below hb)
            replace HB := Lib.hid (HB.out.trans (hb.mono HB.out.size))
            clear hb
            have HM := Lib.hid hls
            clear hls
            clear cd0 cd1
            go_upto_region 5 with (fail)
            refine di5 (by kernel_rfl) _ _ w6 w6 Bd A0 A1 Al Am c0 c1 cl cm a b (setOf a) (setOf b) N d z _ (by omega) (by omega) rfl rfl (by omega) (by omega) rfl ⟨by intro q hq; simp at hq; rcases hq with rfl | rfl | rfl | rfl; exact HA.out; exact HC.out; exact HL.out; exact HM.out, by intro q hq; simp at hq; subst hq; exact HD.out, by intro q hq; simp at hq; subst hq; exact HBd.out, Below.refl _ _⟩ rfl rfl rfl rfl rfl rfl rfl rfl ?_
            intro x w7 x6 hb
            simp only [Eng.setAll, Act.put, List.setIfInBounds_toArray, List.set_cons_succ, List.set_cons_zero]
            rw [x6]
            clear x6 HA HC HD HBd HL HM
            replace HB := Lib.hid (HB.out.trans (hb.mono HB.out.size))
            clear hb
            go_wp2_with fail
            go_ret
            exact ⟨rfl, HB.out⟩
set_option maxRecDepth 100000 in
set_option maxHeartbeats 4000000 in
theorem composes (d1 d2 : Dl) (w : World) (h1 : RdD w d1) (h2 : RdD w d2) :
    Calls Tryz.prog 4 #[d1.v, d2.v] w fun e w' => e = .returned (.bool true) ∧ Below w.heap.size w w' := by
  have hf := fr2 w (.cells d1.arr TDl) (.cells d2.arr TDl)
  have HD := Lib.hid (h1.keep hf); have HE := Lib.hid (h2.keep hf)
  have HB1 := Lib.hid ((Bk.new w d1.arr TDl).fr (Fr.alloc (fun _ => False) _ (.cells d2.arr TDl)) (fun _ _ h => h))
  have HB2 := Lib.hid (show Bk ((w.alloc (.cells d1.arr TDl)).alloc (.cells d2.arr TDl)) (w.heap.size + 1) d2.arr TDl by have := Bk.new (w.alloc (.cells d1.arr TDl)) d2.arr TDl; rwa [World.size_alloc] at this)
  have HB := Lib.hid (hf.below (Nat.le_refl _) (fun _ _ h => h))
  clear h1 h2 hf
  go_enter Tryz.func4, Tryz.ntmps4
  go_upto_region 1 with (fail)
  generalize ((w.alloc (.cells d1.arr TDl)).alloc (.cells d2.arr TDl)) = w1 at *
  obtain ⟨Bd, hBd⟩ : ∃ B, B = w.heap.size := ⟨_, rfl⟩
  rw [← hBd] at HB1 HB2 ⊢
  have HBdE := Lib.hid hBd
  clear hBd
  have a0 : w1.cell? ⟨Bd, 0, none⟩ = some (.slice d1.A1 d1.O.length d1.c1) := HB1.out.cell 0
  have a1 : w1.cell? ⟨Bd, 1, none⟩ = some (.slice d1.A2 d1.I.length d1.c2) := HB1.out.cell 1
  go_wp2_with fail
  refine (RefD.FewD d1 w1 HD.out).mono ?_
  rintro e w2 ⟨rfl, hf⟩
  have hb := hf.below (Nat.le_refl _) (fun _ _ h => h)
  clear hf
  replace HD := Lib.hid (HD.out.below hb)
  replace HE := Lib.hid (HE.out.below hb)
  replace HB1 := Lib.hid (HB1.out.below hb)
  replace HB2 := Lib.hid (HB2.out.below hb)
  replace HB := Lib.hid (HB.out.trans (hb.mono HB.out.size))
  clear hb
  clear a0 a1
  obtain ⟨qf, hqf⟩ : ∃ q, (fewB d1.O 12 && fewB d1.I 12) = q := ⟨_, rfl⟩
  rw [hqf]
  cases qf with
  | false =>
    go_wp2_with fail
    refine (awake w2).mono ?_
    rintro e w3 ⟨rfl, hb⟩
    replace HD := Lib.hid (HD.out.below hb)
    replace HE := Lib.hid (HE.out.below hb)
    replace HB1 := Lib.hid (HB1.out.below hb)
    replace HB2 := Lib.hid (HB2.out.below hb)
    replace HB := Lib.hid (HB.out.trans (hb.mono HB.out.size))
    clear hb
    go_wp2_with fail
    go_ret
    exact ⟨rfl, HB.out⟩
  | true =>
    obtain ⟨g1, g2⟩ := Bool.and_eq_true_iff.1 hqf
    have hl1 := few_len g1
    have hl2 := few_len g2
    clear g1 g2 hqf
    have e0 : w2.cell? ⟨Bd + 1, 0, none⟩ = some (.slice d2.A1 d2.O.length d2.c1) := HB2.out.cell 0
    have e1 : w2.cell? ⟨Bd + 1, 1, none⟩ = some (.slice d2.A2 d2.I.length d2.c2) := HB2.out.cell 1
    go_wp2_with fail
    refine (RefD.FewD d2 w2 HE.out).mono ?_
    rintro e w3 ⟨rfl, hf⟩
    have hb := hf.below (Nat.le_refl _) (fun _ _ h => h)
    clear hf
    replace HD := Lib.hid (HD.out.below hb)
    replace HE := Lib.hid (HE.out.below hb)
    replace HB1 := Lib.hid (HB1.out.below hb)
    replace HB2 := Lib.hid (HB2.out.below hb)
    replace HB := Lib.hid (HB.out.trans (hb.mono HB.out.size))
    clear hb
    clear e0 e1
    obtain ⟨qf, hqf⟩ : ∃ q, (fewB d2.O 12 && fewB d2.I 12) = q := ⟨_, rfl⟩
    rw [hqf]
    cases qf with
    | false =>
      go_wp2_with fail
      refine (awake w3).mono ?_
      rintro e w4 ⟨rfl, hb⟩
      replace HD := Lib.hid (HD.out.below hb)
      replace HE := Lib.hid (HE.out.below hb)
      replace HB1 := Lib.hid (HB1.out.below hb)
      replace HB2 := Lib.hid (HB2.out.below hb)
      replace HB := Lib.hid (HB.out.trans (hb.mono HB.out.size))
      clear hb
      go_wp2_with fail
      go_ret
      exact ⟨rfl, HB.out⟩
    | true =>
      obtain ⟨g1, g2⟩ := Bool.and_eq_true_iff.1 hqf
      have hl3 := few_len g1
      have hl4 := few_len g2
      clear g1 g2 hqf
      obtain ⟨O, I, z, hNz⟩ : ∃ O I z, composeP d1.O d1.I d2.O d2.I = ((O, I), z) := ⟨_, _, _, rfl⟩
      have HNz := Lib.hid hNz
      clear hNz
      have a0 : w3.cell? ⟨Bd, 0, none⟩ = some (.slice d1.A1 d1.O.length d1.c1) := HB1.out.cell 0
      have a1 : w3.cell? ⟨Bd, 1, none⟩ = some (.slice d1.A2 d1.I.length d1.c2) := HB1.out.cell 1
      have e0 : w3.cell? ⟨Bd + 1, 0, none⟩ = some (.slice d2.A1 d2.O.length d2.c1) := HB2.out.cell 0
      have e1 : w3.cell? ⟨Bd + 1, 1, none⟩ = some (.slice d2.A2 d2.I.length d2.c2) := HB2.out.cell 1
      go_wp2_with fail
      refine (CmpE (d := d1) (e := d2) HD.out HE.out (by omega) (by omega) (by omega) (by omega) O I z HNz.out).mono ?_
      rintro e w4 ⟨P1, k1, P2, k2, rfl, hd, hb⟩
      replace HD := Lib.hid (HD.out.below hb)
      replace HE := Lib.hid (HE.out.below hb)
      replace HB1 := Lib.hid (HB1.out.below hb)
      replace HB2 := Lib.hid (HB2.out.below hb)
      replace HB := Lib.hid (HB.out.trans (hb.mono HB.out.size))
      clear hb
      have HP := Lib.hid hd
      clear hd
      clear a0 a1 e0 e1
      go_upto_region 4 with (fail)
      have hb := (Below.refl w4.heap.size w4).alloc (Nat.le_refl _) (.cells (⟨P1, k1, O, P2, k2, I⟩ : Dl).arr TDl)
      have HB3 := Lib.hid (Bk.new w4 (⟨P1, k1, O, P2, k2, I⟩ : Dl).arr TDl)
      generalize (w4.alloc (.cells (⟨P1, k1, O, P2, k2, I⟩ : Dl).arr TDl)) = w5 at *
      replace HD := Lib.hid (HD.out.below hb)
      replace HE := Lib.hid (HE.out.below hb)
      replace HB1 := Lib.hid (HB1.out.below hb)
      replace HB2 := Lib.hid (HB2.out.below hb)
      replace HP := Lib.hid (HP.out.below hb)
      replace HB := Lib.hid (HB.out.trans (hb.mono HB.out.size))
      clear hb
      generalize w4.heap.size = Bp at *
      have a0 : w5.cell? ⟨Bd, 0, none⟩ = some (.slice d1.A1 d1.O.length d1.c1) := HB1.out.cell 0
      have a1 : w5.cell? ⟨Bd, 1, none⟩ = some (.slice d1.A2 d1.I.length d1.c2) := HB1.out.cell 1
      have e0 : w5.cell? ⟨Bd + 1, 0, none⟩ = some (.slice d2.A1 d2.O.length d2.c1) := HB2.out.cell 0
      have e1 : w5.cell? ⟨Bd + 1, 1, none⟩ = some (.slice d2.A2 d2.I.length d2.c2) := HB2.out.cell 1
      go_wp2_with fail
      refine (CmpE2 (d := d1) (e := d2) HD.out HE.out (by omega) (by omega) (by omega) (by omega) O I z HNz.out).mono ?_
      rintro e w6 ⟨Q1, n1, Q2, n2, rfl, hd, hb⟩
      replace HD := Lib.hid (HD.out.below hb)
      replace HE := Lib.hid (HE.out.below hb)
      replace HB1 := Lib.hid (HB1.out.below hb)
      replace HB2 := Lib.hid (HB2.out.below hb)
      replace HP := Lib.hid (HP.out.below hb)
      replace HB3 := Lib.hid (HB3.out.below hb)
      replace HB := Lib.hid (HB.out.trans (hb.mono HB.out.size))
      clear hb
      have HQ := Lib.hid hd
      clear hd
      clear a0 a1 e0 e1
      go_upto_region 5 with (fail)
      have hb := (Below.refl w6.heap.size w6).alloc (Nat.le_refl _) (.cells (⟨Q1, n1, O, Q2, n2, I⟩ : Dl).arr TDl)
      have HB4 := Lib.hid (Bk.new w6 (⟨Q1, n1, O, Q2, n2, I⟩ : Dl).arr TDl)
      generalize (w6.alloc (.cells (⟨Q1, n1, O, Q2, n2, I⟩ : Dl).arr TDl)) = w7 at *
      replace HD := Lib.hid (HD.out.below hb)
      replace HE := Lib.hid (HE.out.below hb)
      replace HB1 := Lib.hid (HB1.out.below hb)
      replace HB2 := Lib.hid (HB2.out.below hb)
      replace HP := Lib.hid (HP.out.below hb)
      replace HB3 := Lib.hid (HB3.out.below hb)
      replace HQ := Lib.hid (HQ.out.below hb)
      replace HB := Lib.hid (HB.out.trans (hb.mono HB.out.size))
      clear hb
      generalize w6.heap.size = Bq at *
      have p0 : w7.cell? ⟨Bp, 0, none⟩ = some (.slice P1 O.length k1) := HB3.out.cell 0
      have p1 : w7.cell? ⟨Bp, 1, none⟩ = some (.slice P2 I.length k2) := HB3.out.cell 1
      have q0 : w7.cell? ⟨Bq, 0, none⟩ = some (.slice Q1 O.length n1) := HB4.out.cell 0
      have q1 : w7.cell? ⟨Bq, 1, none⟩ = some (.slice Q2 I.length n2) := HB4.out.cell 1
      go_wp2_with fail
      refine (SameDT ⟨P1, k1, O, P2, k2, I⟩ ⟨Q1, n1, O, Q2, n2, I⟩ w7 HP.out HQ.out (by simp [sameD])).mono ?_
      rintro e w8 ⟨rfl, hf⟩
      have hb := hf.below (Nat.le_refl _) (fun _ _ h => h)
      clear hf
      replace HD := Lib.hid (HD.out.below hb)
      replace HE := Lib.hid (HE.out.below hb)
      replace HB1 := Lib.hid (HB1.out.below hb)
      replace HB2 := Lib.hid (HB2.out.below hb)
      replace HP := Lib.hid (HP.out.below hb)
      replace HB3 := Lib.hid (HB3.out.below hb)
      replace HQ := Lib.hid (HQ.out.below hb)
      replace HB4 := Lib.hid (HB4.out.below hb)
      replace HB := Lib.hid (HB.out.trans (hb.mono HB.out.size))
      clear hb
      clear p0 p1 q0 q1
      have hzz : (z == z) = true := by simp
      go_wp2_with fail
      refine (awake w8).mono ?_
      rintro e w9 ⟨rfl, hb⟩
      replace HD := Lib.hid (HD.out.below hb)
      replace HE := Lib.hid (HE.out.below hb)
      replace HB1 := Lib.hid (HB1.out.below hb)
      replace HB2 := Lib.hid (HB2.out.below hb)
      replace HP := Lib.hid (HP.out.below hb)
      replace HB3 := Lib.hid (HB3.out.below hb)
      replace HQ := Lib.hid (HQ.out.below hb)
      replace HB4 := Lib.hid (HB4.out.below hb)
      replace HB := Lib.hid (HB.out.trans (hb.mono HB.out.size))
      clear hb
      go_wp2_with fail
      go_ret
      exact ⟨rfl, HB.out⟩
end Law15
end Go.Proofs.YtkhhdadlpilbmaaGreat
