/- Layer 20's statements: KidsOnce: what is in its regions. -/
import Derived.Test.YtkhhdadlpilbmaaLaw20p
import Derived.Test.YtkhhdadlpilbmaaKidsR
namespace Go.Proofs.Ytkhhdadlpilbmaa
open Go.RowKit
namespace Law20
open KeyP SetP KidsP Kds
attribute [local go_sem] Eng.ev Eng.getO_cons Eng.getO_nil
set_option maxRecDepth 100000 in
theorem has_ (A : Option Addr) (c : Nat) (P : List Int) (p : Int) (w : World) (n : Nat) (hn : n = P.length) (hS : Sl w 1 A n c (ints P)) :
    Calls Try.prog 27 #[.slice A n c, .int .i64 p] w fun e w' => e = .returned (.bool (decide (p ∈ P))) ∧ w = w' := by
  subst hn
  have hlen : P.length ≤ 9223372036854775807 := by have := hS.2.1; have := hS.2.2.1; unfold maxLen at this; omega
  have HS := Lib.hid hS
  clear hS
  go_enter Try.func27, Try.ntmps27
  go_wp2_with fail
  go_loopg [5] P.length (fun gk i wr => ∃ k : Nat, i = .int .i64 k ∧ k ≤ P.length ∧ gk = P.length - k ∧ p ∉ P.take k ∧ w = wr)
  case atStart => exact ⟨0, rfl, Nat.zero_le _, rfl, by simp, rfl⟩
  case round =>
    obtain ⟨k, rfl, hk, hg, hno, rfl⟩ := hrel
    have HG := Lib.hid hg; have HNo := Lib.hid hno
    clear hg hno
    by_cases hlt : k < P.length
    · obtain ⟨b1, o1, rfl, hb1, c1⟩ := HS.out.at hlt (by omega)
      have d0 : w.cell? ⟨b1, o1 + k, none⟩ = some (.int .i64 P[k]) := c1 k _ (ints_at hlt)
      have HT := Lib.hid (List.take_succ_eq_append_getElem hlt)
      have HP : Hid (P[k] = p → decide (p ∈ P) = true) := fun h => by rw [← h]; simp
      clear c1
      generalize P[k] = x at *
      by_cases hx : x = p
      · have q : (x == p) = true := by simp [hx]
        have HE := Lib.hid (HP.out hx)
        clear hx
        go_wp2_with fail
        go_ret
        rw [HE.out]
        exact ⟨rfl, rfl⟩
      · have q : (x == p) = false := by simp [hx]
        have HX : Hid (p ∉ P.take (k + 1)) := by
          show ¬ _
          rw [HT.out, List.mem_append]
          rintro (h | h)
          · exact HNo.out h
          · simp at h; exact hx h.symm
        clear hx
        go_wp2_with fail
        go_roundg (P.length - (k + 1))
        case rel => exact ⟨k + 1, by go_num, by omega, rfl, HX.out, rfl⟩
        case measure => have := HG.out; omega
    · obtain rfl : k = P.length := by omega
      have h := HNo.out
      rw [List.take_length] at h
      have HE := Lib.hid (decide_eq_false h)
      clear h
      go_wp2_with fail
      go_ret
      rw [HE.out]
      exact ⟨rfl, rfl⟩
/-- The index alone. -/
structure SO (w0 w : World) (B : Nat) (L : List Sn) (F : List Nat) : Prop where
  zs : Zs w0.heap.size w0 w [F]
  i : IB w B L F
section
variable {w0 w w' : World} {B : Nat} {L L' : List Sn} {F F' : List Nat}
theorem SO.fr (h : SO w0 w B L F) (hf : Fr (fun _ => False) w w') : SO w0 w' B L F := ⟨h.zs.fr hf, h.i.fr hf (fun _ _ h => h)⟩
theorem SO.turn (h : SO w0 w B L F) (hi : IB w' B L' F') (ht : Tn F F' w w') : SO w0 w' B L' F' := ⟨h.zs.turn [] [] ht, hi⟩
theorem SO.drop (h : SO w0 w B L F) {t i : Int} (ht : wf64 t) (hi : wf64 i) (sz : L.length < 1000000) : Calls Try.prog 15 #[.pointer (some ⟨B, 0, none⟩), .int .i64 t, .int .i64 i] w fun e w' => e = .returned (.bool (fnd (sn t i 0) L).isSome) ∧ ∃ F', SO w0 w' B (out t i L) F' :=
  (Kds.Drop B L F t i w h.i ht hi sz).mono (fun _ _ ⟨he, F', k1, k2⟩ => ⟨he, F', h.turn k1 k2⟩)
theorem SO.put (h : SO w0 w B L F) {q : Sn} (hg : gd q) (sz : L.length < 1000000) : Calls Try.prog 17 #[.pointer (some ⟨B, 0, none⟩), q.v] w fun e w' => e = .returned (.tuple #[]) ∧ ∃ F', SO w0 w' B (putK q L) F' :=
  (Kds.Put B L F q w h.i hg sz).mono (fun _ _ ⟨he, F', k1, k2⟩ => ⟨he, F', h.turn k1 k2⟩)
theorem SO.old (h : SO w0 w B L F) {b o : Nat} {u : Value} (hb : b < w0.heap.size) (hc : w0.cell? ⟨b, o, none⟩ = some u) : w.cell? ⟨b, o, none⟩ = some u := (h.zs.bel.cell (p := ⟨b, o, none⟩) hb).trans hc
end
/-- And slices, beside it. -/
structure SB2 (w0 wq w : World) (B : Nat) (L : List Sn) (F : List Nat) (A : Option Addr) (c : Nat) (M : List Int) (Ap : Option Addr) (cp : Nat) (P : List Int) : Prop where
  s : SO w0 w B L F
  m : Sl w 1 A M.length c (ints M)
  p : Sl w 1 Ap P.length cp (ints P)
  f : Fr (fun _ => False) wq w
theorem SB2.fr {w0 wq w w' : World} {B : Nat} {L : List Sn} {F : List Nat} {A Ap : Option Addr} {c cp : Nat} {M P : List Int} (h : SB2 w0 wq w B L F A c M Ap cp P) (hf : Fr (fun _ => False) w w') : SB2 w0 wq w' B L F A c M Ap cp P := ⟨h.s.fr hf, h.m.fr hf (fun _ _ h => h), h.p.fr hf (fun _ _ h => h), h.f.trans hf (fun _ _ h => h) (fun _ _ h => h)⟩
theorem SB2.mat {w0 wq w : World} {B : Nat} {L : List Sn} {F : List Nat} {Ap : Option Addr} {c cp b o : Nat} {M P : List Int} (h : SB2 w0 wq w B L F (some ⟨b, o, none⟩) c M Ap cp P) {k : Nat} (hk : k < M.length) : w.cell? ⟨b, o + k, none⟩ = some (.int .i64 M[k]) := by
  obtain ⟨b1, o1, e, hb1, c1⟩ := h.m.at hk (by omega)
  cases e
  exact c1 k _ (ints_at hk)
set_option maxRecDepth 100000 in
set_option maxHeartbeats 400000 in
theorem ko8 {ops : Array Oper} (hops : Eng.fnOps Try.f5 8 = ops) (a0 : Act) (Q : Exit → Act → World → Prop) (w0 w : World) (B : Nat) (L : List Sn) (F : List Nat) (b1 o1 len c j : Nat) (t i : Int) (hst : SO w0 w B L F) (hj : j < len) (hlen : len ≤ 9223372036854775807) (hb : b1 < w0.heap.size) (e0 : w0.cell? ⟨b1, o1 + j * 10 + 1, none⟩ = some (.int .i64 t)) (e1 : w0.cell? ⟨b1, o1 + j * 10 + 1 + 1, none⟩ = some (.int .i64 i)) (ht : wf64 t) (hi : wf64 i) (sz : L.length < 1000000)
    (hn : a0.tmps.size = 141) (h_0 : a0.tmps.getD 0 undef = .slice (some ⟨b1, o1, none⟩) len c) (h_3 : a0.tmps.getD 3 undef = .pointer (some ⟨B, 0, none⟩)) (h_4 : a0.tmps.getD 4 undef = .int .i64 (j : Int))
    (hpost : ∀ (x : Nat → Value) (w' : World) (F' : List Nat), SO w0 w' B (out t i L) F' → Q .normal (Eng.setAll a0 [29, 30, 31, 32, 33, 34, 35, 36, 37, 38, 39, 40, 41] x) w') :
    (Code.region 8 ops true).wp Try.prog Q a0 w := by
  simp only [Eng.fnOps, Eng.regOps, Try.f5, Option.bind_some, Option.getD_some, Nat.reduceEqDiff, ↓reduceIte, Nat.reduceBEq] at hops
  subst hops
  have q1 : (0 : Int) ≤ (j : Int) := by omega
  have q2 : (j : Int) < (len : Int) := by omega
  have HSt := Lib.hid (hst.fr (Fr.drew _ _))
  have hSS : w.drew.cell? ⟨b1, o1 + j * 10 + 1, none⟩ = some (.int .i64 t) ∧ w.drew.cell? ⟨b1, o1 + j * 10 + 1 + 1, none⟩ = some (.int .i64 i) := ⟨HSt.out.old hb e0, HSt.out.old hb e1⟩
  refine Eng.regionT (.take 0 (.take 1 (.take 2 (.take 3 (.take 4 (.take 5 (.take 6 (.take 7 (.take 8 (.take 9 (.take 10 (.take 11 (.alt 12 (.done) (.stop)))))))))))))) (fun w' => w'.cell? ⟨b1, o1 + j * 10 + 1, none⟩ = some (.int .i64 t) ∧ w'.cell? ⟨b1, o1 + j * 10 + 1 + 1, none⟩ = some (.int .i64 i)) (by kernel_rfl) 141 hn (by kernel_rfl) (by kernel_rfl) (by kernel_rfl) (hSS) (fun a b ha hb => ?_)
  subst ha
  have hb0 : b 0 = .slice (some ⟨b1, o1, none⟩) len c := (hb 0).symm.trans h_0
  have hb3 : b 3 = .pointer (some ⟨B, 0, none⟩) := (hb 3).symm.trans h_3
  have hb4 : b 4 = .int .i64 (j : Int) := (hb 4).symm.trans h_4
  clear hb h_0 h_3 h_4
  have HP := Lib.hid hpost; have HN := Lib.hid hn
  clear hpost hn
  refine Eng.TW.take' (v := ?_) rfl rfl (by decide) (by kernel_rfl) (fun w hw => ?_) ?_
  rotate_left
  · (try dsimp only at hw); go_simp; first | done | with_reducible rfl
  refine Eng.TW.take' (v := ?_) rfl rfl (by decide) (by kernel_rfl) (fun w hw => ?_) ?_
  rotate_left
  · (try dsimp only at hw); go_simp; first | done | with_reducible rfl
  refine Eng.TW.take' (v := ?_) rfl rfl (by decide) (by kernel_rfl) (fun w hw => ?_) ?_
  rotate_left
  · (try dsimp only at hw); go_simp; first | done | with_reducible rfl
  refine Eng.TW.take' (v := ?_) rfl rfl (by decide) (by kernel_rfl) (fun w hw => ?_) ?_
  rotate_left
  · (try dsimp only at hw); go_simp; first | done | with_reducible rfl
  refine Eng.TW.take' (v := ?_) rfl rfl (by decide) (by kernel_rfl) (fun w hw => ?_) ?_
  rotate_left
  · (try dsimp only at hw); go_simp; first | done | with_reducible rfl
  refine Eng.TW.take' (v := ?_) rfl rfl (by decide) (by kernel_rfl) (fun w hw => ?_) ?_
  rotate_left
  · (try dsimp only at hw); go_simp; first | done | with_reducible rfl
  refine Eng.TW.take' (v := ?_) rfl rfl (by decide) (by kernel_rfl) (fun w hw => ?_) ?_
  rotate_left
  · (try dsimp only at hw); go_simp; first | done | with_reducible rfl
  refine Eng.TW.take' (v := ?_) rfl rfl (by decide) (by kernel_rfl) (fun w hw => ?_) ?_
  rotate_left
  · (try dsimp only at hw); go_simp; first | done | with_reducible rfl
  refine Eng.TW.take' (v := ?_) rfl rfl (by decide) (by kernel_rfl) (fun w hw => ?_) ?_
  rotate_left
  · (try dsimp only at hw); go_simp; first | done | with_reducible rfl
  refine Eng.TW.take' (v := ?_) rfl rfl (by decide) (by kernel_rfl) (fun w hw => ?_) ?_
  rotate_left
  · (try dsimp only at hw); go_simp; first | done | with_reducible rfl
  refine Eng.TW.take' (v := ?_) rfl rfl (by decide) (by kernel_rfl) (fun w hw => ?_) ?_
  rotate_left
  · (try dsimp only at hw); go_simp; first | done | with_reducible rfl
  refine Eng.TW.take' (v := ?_) rfl rfl (by decide) (by kernel_rfl) (fun w hw => ?_) ?_
  rotate_left
  · (try dsimp only at hw); go_simp; first | done | with_reducible rfl
  refine Eng.TW.call rfl rfl (by decide) (by kernel_rfl) ?_ (HSt.out.drop ht hi sz) ?_
  · go_simp
  rintro e w2 ⟨rfl, F2, h⟩
  have HSt2 := Lib.hid (h)
  have hSS : w2.cell? ⟨b1, o1 + j * 10 + 1, none⟩ = some (.int .i64 t) ∧ w2.cell? ⟨b1, o1 + j * 10 + 1 + 1, none⟩ = some (.int .i64 i) := ⟨HSt2.out.old hb e0, HSt2.out.old hb e1⟩
  clear h
  refine ⟨_, rfl, hSS, ?_⟩
  refine Eng.TW.end_ [29, 30, 31, 32, 33, 34, 35, 36, 37, 38, 39, 40, 41] HN.out (by kernel_rfl) (by kernel_rfl) ?_
  exact HP.out _ _ F2 HSt2.out

set_option maxRecDepth 100000 in
set_option maxHeartbeats 400000 in
theorem ko21a {ops : Array Oper} (hops : Eng.fnOps Try.f5 21 = ops) (a0 : Act) (Q : Exit → Act → World → Prop) (w0 wq w : World) (B : Nat) (L : List Sn) (F : List Nat) (b1 o1 c : Nat) (Ap : Option Addr) (cp k : Nat) (M P : List Int) (t p : Int) (hst : SB2 w0 wq w B L F (some ⟨b1, o1, none⟩) c M Ap cp P) (ht : wf64 t) (hp : wf64 p) (sz : L.length < 1000000) (hk : k < M.length) (hlen : M.length ≤ 1000000) (nf : Nat) (hnf : Hid ((kids t p L).length = nf)) (hfan : 1 ≤ nf) (h0 : k = 0)
    (hn : a0.tmps.size = 141) (h_3 : a0.tmps.getD 3 undef = .pointer (some ⟨B, 0, none⟩)) (h_6 : a0.tmps.getD 6 undef = .int .i64 t) (h_10 : a0.tmps.getD 10 undef = .int .i64 (k : Int)) (h_11 : a0.tmps.getD 11 undef = .int .i64 p) (h_12 : a0.tmps.getD 12 undef = .bool true)
    (hpost : ∀ (x : Nat → Value) (w' : World), x 100 = .bool false → SB2 w0 wq w' B L F (some ⟨b1, o1, none⟩) c M Ap cp P → Q .normal (Eng.setAll a0 [77, 78, 79, 80, 81, 82, 83, 84, 85, 86, 87, 88, 89, 90, 91, 92, 93, 94, 95, 96, 97, 98, 99, 100] x) w') :
    (Code.region 21 ops true).wp Try.prog Q a0 w := by
  simp only [Eng.fnOps, Eng.regOps, Try.f5, Option.bind_some, Option.getD_some, Nat.reduceEqDiff, ↓reduceIte, Nat.reduceBEq] at hops
  subst hops
  have HFan : Hid (∀ (w2 : World), SO w0 w2 B L F → Calls Try.prog 21 #[.pointer (some ⟨B, 0, none⟩), .int .i64 t, .int .i64 p] w2 fun e w3 => e = .returned (.int .i64 (nf : Int)) ∧ Fr (fun _ => False) w2 w3) := fun w2 h => by rw [← hnf.out]; exact Kds.Fan B L F t p w2 h.i ht hp (by omega)
  have q1 : (0 : Int) ≤ (k : Int) := by omega
  have q2 : (k : Int) < (M.length : Int) := by omega
  have q3 : decide ((nf : Int) < 1) = false := by rw [decide_eq_false_iff_not]; omega
  have q3' : decide (nf < 1) = false := by rw [decide_eq_false_iff_not]; omega
  have q4 : decide ((0 : Int) < (k : Int)) = false := by rw [decide_eq_false_iff_not]; omega
  have q5 : decide (0 < k) = false := by rw [decide_eq_false_iff_not]; omega
  clear h0
  have HSt := Lib.hid (hst.fr (Fr.drew _ _))
  have hSS : True := trivial
  refine Eng.regionT (.take 0 (.take 1 (.take 2 (.take 3 (.take 4 (.alt 5 (.take 6 (.take 7 (.take 8 (.take 9 (.take 10 (.take 11 (.take 12 (.take 13 (.take 14 (.take 15 (.take 16 (.take 17 (.take 18 (.take 19 (.take 20 (.take 21 (.take 22 (.take 23 (.done))))))))))))))))))) (.stop))))))) (fun w' => True) (by kernel_rfl) 141 hn (by kernel_rfl) (by kernel_rfl) (by kernel_rfl) (hSS) (fun a b ha hb => ?_)
  subst ha
  have hb3 : b 3 = .pointer (some ⟨B, 0, none⟩) := (hb 3).symm.trans h_3
  have hb6 : b 6 = .int .i64 t := (hb 6).symm.trans h_6
  have hb10 : b 10 = .int .i64 (k : Int) := (hb 10).symm.trans h_10
  have hb11 : b 11 = .int .i64 p := (hb 11).symm.trans h_11
  have hb12 : b 12 = .bool true := (hb 12).symm.trans h_12
  clear hb h_3 h_6 h_10 h_11 h_12
  have HP := Lib.hid hpost; have HN := Lib.hid hn
  clear hpost hn
  refine Eng.TW.take' (v := ?_) rfl rfl (by decide) (by kernel_rfl) (fun w hw => ?_) ?_
  rotate_left
  · (try dsimp only at hw); go_simp; first | done | with_reducible rfl
  refine Eng.TW.take' (v := ?_) rfl rfl (by decide) (by kernel_rfl) (fun w hw => ?_) ?_
  rotate_left
  · (try dsimp only at hw); go_simp; first | done | with_reducible rfl
  refine Eng.TW.take' (v := ?_) rfl rfl (by decide) (by kernel_rfl) (fun w hw => ?_) ?_
  rotate_left
  · (try dsimp only at hw); go_simp; first | done | with_reducible rfl
  refine Eng.TW.take' (v := ?_) rfl rfl (by decide) (by kernel_rfl) (fun w hw => ?_) ?_
  rotate_left
  · (try dsimp only at hw); go_simp; first | done | with_reducible rfl
  refine Eng.TW.take' (v := ?_) rfl rfl (by decide) (by kernel_rfl) (fun w hw => ?_) ?_
  rotate_left
  · (try dsimp only at hw); go_simp; first | done | with_reducible rfl
  refine Eng.TW.call rfl rfl (by decide) (by kernel_rfl) ?_ (HFan.out _ HSt.out.s) ?_
  · go_simp
  rintro e w2 ⟨rfl, hf⟩
  have HSt2 := Lib.hid (HSt.out.fr hf)
  have hSS : True := trivial
  clear hf
  refine ⟨_, rfl, hSS, ?_⟩
  refine Eng.TW.take' (v := ?_) rfl rfl (by decide) (by kernel_rfl) (fun w hw => ?_) ?_
  rotate_left
  · (try dsimp only at hw); go_simp; first | done | with_reducible rfl
  refine Eng.TW.take' (v := ?_) rfl rfl (by decide) (by kernel_rfl) (fun w hw => ?_) ?_
  rotate_left
  · (try dsimp only at hw); go_simp; first | done | with_reducible rfl
  refine Eng.TW.take' (v := ?_) rfl rfl (by decide) (by kernel_rfl) (fun w hw => ?_) ?_
  rotate_left
  · (try dsimp only at hw); go_simp; first | done | with_reducible rfl
  refine Eng.TW.take' (v := ?_) rfl rfl (by decide) (by kernel_rfl) (fun w hw => ?_) ?_
  rotate_left
  · (try dsimp only at hw); go_simp; first | done | with_reducible rfl
  refine Eng.TW.take' (v := ?_) rfl rfl (by decide) (by kernel_rfl) (fun w hw => ?_) ?_
  rotate_left
  · (try dsimp only at hw); go_simp; first | done | with_reducible rfl
  refine Eng.TW.take' (v := ?_) rfl rfl (by decide) (by kernel_rfl) (fun w hw => ?_) ?_
  rotate_left
  · (try dsimp only at hw); go_simp; first | done | with_reducible rfl
  refine Eng.TW.skip rfl rfl (by decide) (by kernel_rfl) ?_
  refine Eng.TW.skip rfl rfl (by decide) (by kernel_rfl) ?_
  refine Eng.TW.skip rfl rfl (by decide) (by kernel_rfl) ?_
  refine Eng.TW.skip rfl rfl (by decide) (by kernel_rfl) ?_
  refine Eng.TW.skip rfl rfl (by decide) (by kernel_rfl) ?_
  refine Eng.TW.skip rfl rfl (by decide) (by kernel_rfl) ?_
  refine Eng.TW.skip rfl rfl (by decide) (by kernel_rfl) ?_
  refine Eng.TW.skip rfl rfl (by decide) (by kernel_rfl) ?_
  refine Eng.TW.skip rfl rfl (by decide) (by kernel_rfl) ?_
  refine Eng.TW.skip rfl rfl (by decide) (by kernel_rfl) ?_
  refine Eng.TW.take' (v := ?_) rfl rfl (by decide) (by kernel_rfl) (fun w hw => ?_) ?_
  rotate_left
  · (try dsimp only at hw); go_simp; first | done | with_reducible rfl
  refine Eng.TW.take' (v := ?_) rfl rfl (by decide) (by kernel_rfl) (fun w hw => ?_) ?_
  rotate_left
  · (try dsimp only at hw); go_simp; first | done | with_reducible rfl
  refine Eng.TW.end_ [77, 78, 79, 80, 81, 82, 83, 84, 85, 86, 87, 88, 89, 90, 91, 92, 93, 94, 95, 96, 97, 98, 99, 100] HN.out (by kernel_rfl) (by kernel_rfl) ?_
  exact HP.out _ _ rfl HSt2.out

set_option maxRecDepth 100000 in
set_option maxHeartbeats 400000 in
theorem ko21b {ops : Array Oper} (hops : Eng.fnOps Try.f5 21 = ops) (a0 : Act) (Q : Exit → Act → World → Prop) (w0 wq w : World) (B : Nat) (L : List Sn) (F : List Nat) (b1 o1 c : Nat) (Ap : Option Addr) (cp k : Nat) (M P : List Int) (t p : Int) (hst : SB2 w0 wq w B L F (some ⟨b1, o1, none⟩) c M Ap cp P) (ht : wf64 t) (hp : wf64 p) (sz : L.length < 1000000) (hk : k < M.length) (hlen : M.length ≤ 1000000) (nf : Nat) (hnf : Hid ((kids t p L).length = nf)) (hfan : 1 ≤ nf) (h0 : 0 < k) (z1 z2 : Int) (hz1 : Hid (M[k]'hk = z1)) (hz2 : Hid (M[k - 1]'(by omega) = z2)) (hz : z2 < z1)
    (hn : a0.tmps.size = 141) (h_3 : a0.tmps.getD 3 undef = .pointer (some ⟨B, 0, none⟩)) (h_6 : a0.tmps.getD 6 undef = .int .i64 t) (h_7 : a0.tmps.getD 7 undef = .slice (some ⟨b1, o1, none⟩) M.length c) (h_10 : a0.tmps.getD 10 undef = .int .i64 (k : Int)) (h_11 : a0.tmps.getD 11 undef = .int .i64 p) (h_12 : a0.tmps.getD 12 undef = .bool true)
    (hpost : ∀ (x : Nat → Value) (w' : World), x 100 = .bool false → SB2 w0 wq w' B L F (some ⟨b1, o1, none⟩) c M Ap cp P → Q .normal (Eng.setAll a0 [77, 78, 79, 80, 81, 82, 83, 84, 85, 86, 87, 88, 89, 90, 91, 92, 93, 94, 95, 96, 97, 98, 99, 100] x) w') :
    (Code.region 21 ops true).wp Try.prog Q a0 w := by
  simp only [Eng.fnOps, Eng.regOps, Try.f5, Option.bind_some, Option.getD_some, Nat.reduceEqDiff, ↓reduceIte, Nat.reduceBEq] at hops
  subst hops
  have HFan : Hid (∀ (w2 : World), SO w0 w2 B L F → Calls Try.prog 21 #[.pointer (some ⟨B, 0, none⟩), .int .i64 t, .int .i64 p] w2 fun e w3 => e = .returned (.int .i64 (nf : Int)) ∧ Fr (fun _ => False) w2 w3) := fun w2 h => by rw [← hnf.out]; exact Kds.Fan B L F t p w2 h.i ht hp (by omega)
  have q1 : (0 : Int) ≤ (k : Int) := by omega
  have q2 : (k : Int) < (M.length : Int) := by omega
  have q3 : decide ((nf : Int) < 1) = false := by rw [decide_eq_false_iff_not]; omega
  have q3' : decide (nf < 1) = false := by rw [decide_eq_false_iff_not]; omega
  have q4 : decide ((0 : Int) < (k : Int)) = true := by rw [decide_eq_true_iff]; omega
  have q5 : decide (0 < k) = true := by rw [decide_eq_true_iff]; omega
  have q6 : decide (z1 ≤ z2) = false := by rw [decide_eq_false_iff_not]; omega
  have q7 : (0 : Int) ≤ ((k - 1 : Nat) : Int) := by omega
  have q8 : ((k - 1 : Nat) : Int) < (M.length : Int) := by omega
  have q9 : IntKind.i64.wrap ((k : Int) - 1) = ((k - 1 : Nat) : Int) := by rw [IntWalk.i64_in _ (by omega)]; omega
  have HSt := Lib.hid (hst.fr (Fr.drew _ _))
  have hSS : w.drew.cell? ⟨b1, o1 + k, none⟩ = some (.int .i64 z1) ∧ w.drew.cell? ⟨b1, o1 + (k - 1), none⟩ = some (.int .i64 z2) := ⟨(by rw [HSt.out.mat hk, hz1.out]), (by rw [HSt.out.mat (by omega), hz2.out])⟩
  refine Eng.regionT (.take 0 (.take 1 (.take 2 (.take 3 (.take 4 (.alt 5 (.take 6 (.take 7 (.take 8 (.take 9 (.take 10 (.take 11 (.take 12 (.take 13 (.take 14 (.take 15 (.take 16 (.take 17 (.take 18 (.take 19 (.take 20 (.take 21 (.take 22 (.take 23 (.done))))))))))))))))))) (.stop))))))) (fun w' => w'.cell? ⟨b1, o1 + k, none⟩ = some (.int .i64 z1) ∧ w'.cell? ⟨b1, o1 + (k - 1), none⟩ = some (.int .i64 z2)) (by kernel_rfl) 141 hn (by kernel_rfl) (by kernel_rfl) (by kernel_rfl) (hSS) (fun a b ha hb => ?_)
  subst ha
  have hb3 : b 3 = .pointer (some ⟨B, 0, none⟩) := (hb 3).symm.trans h_3
  have hb6 : b 6 = .int .i64 t := (hb 6).symm.trans h_6
  have hb7 : b 7 = .slice (some ⟨b1, o1, none⟩) M.length c := (hb 7).symm.trans h_7
  have hb10 : b 10 = .int .i64 (k : Int) := (hb 10).symm.trans h_10
  have hb11 : b 11 = .int .i64 p := (hb 11).symm.trans h_11
  have hb12 : b 12 = .bool true := (hb 12).symm.trans h_12
  clear hb h_3 h_6 h_7 h_10 h_11 h_12
  have HP := Lib.hid hpost; have HN := Lib.hid hn
  clear hpost hn
  refine Eng.TW.take' (v := ?_) rfl rfl (by decide) (by kernel_rfl) (fun w hw => ?_) ?_
  rotate_left
  · (try dsimp only at hw); go_simp; first | done | with_reducible rfl
  refine Eng.TW.take' (v := ?_) rfl rfl (by decide) (by kernel_rfl) (fun w hw => ?_) ?_
  rotate_left
  · (try dsimp only at hw); go_simp; first | done | with_reducible rfl
  refine Eng.TW.take' (v := ?_) rfl rfl (by decide) (by kernel_rfl) (fun w hw => ?_) ?_
  rotate_left
  · (try dsimp only at hw); go_simp; first | done | with_reducible rfl
  refine Eng.TW.take' (v := ?_) rfl rfl (by decide) (by kernel_rfl) (fun w hw => ?_) ?_
  rotate_left
  · (try dsimp only at hw); go_simp; first | done | with_reducible rfl
  refine Eng.TW.take' (v := ?_) rfl rfl (by decide) (by kernel_rfl) (fun w hw => ?_) ?_
  rotate_left
  · (try dsimp only at hw); go_simp; first | done | with_reducible rfl
  refine Eng.TW.call rfl rfl (by decide) (by kernel_rfl) ?_ (HFan.out _ HSt.out.s) ?_
  · go_simp
  rintro e w2 ⟨rfl, hf⟩
  have HSt2 := Lib.hid (HSt.out.fr hf)
  have hSS : w2.cell? ⟨b1, o1 + k, none⟩ = some (.int .i64 z1) ∧ w2.cell? ⟨b1, o1 + (k - 1), none⟩ = some (.int .i64 z2) := ⟨(by rw [HSt2.out.mat hk, hz1.out]), (by rw [HSt2.out.mat (by omega), hz2.out])⟩
  clear hf
  refine ⟨_, rfl, hSS, ?_⟩
  refine Eng.TW.take' (v := ?_) rfl rfl (by decide) (by kernel_rfl) (fun w hw => ?_) ?_
  rotate_left
  · (try dsimp only at hw); go_simp; first | done | with_reducible rfl
  refine Eng.TW.take' (v := ?_) rfl rfl (by decide) (by kernel_rfl) (fun w hw => ?_) ?_
  rotate_left
  · (try dsimp only at hw); go_simp; first | done | with_reducible rfl
  refine Eng.TW.take' (v := ?_) rfl rfl (by decide) (by kernel_rfl) (fun w hw => ?_) ?_
  rotate_left
  · (try dsimp only at hw); go_simp; first | done | with_reducible rfl
  refine Eng.TW.take' (v := ?_) rfl rfl (by decide) (by kernel_rfl) (fun w hw => ?_) ?_
  rotate_left
  · (try dsimp only at hw); go_simp; first | done | with_reducible rfl
  refine Eng.TW.take' (v := ?_) rfl rfl (by decide) (by kernel_rfl) (fun w hw => ?_) ?_
  rotate_left
  · (try dsimp only at hw); go_simp; first | done | with_reducible rfl
  refine Eng.TW.take' (v := ?_) rfl rfl (by decide) (by kernel_rfl) (fun w hw => ?_) ?_
  rotate_left
  · (try dsimp only at hw); go_simp; first | done | with_reducible rfl
  refine Eng.TW.take' (v := ?_) rfl rfl (by decide) (by kernel_rfl) (fun w hw => ?_) ?_
  rotate_left
  · (try dsimp only at hw); go_simp; first | done | with_reducible rfl
  refine Eng.TW.take' (v := ?_) rfl rfl (by decide) (by kernel_rfl) (fun w hw => ?_) ?_
  rotate_left
  · (try dsimp only at hw); go_simp; first | done | with_reducible rfl
  refine Eng.TW.take' (v := ?_) rfl rfl (by decide) (by kernel_rfl) (fun w hw => ?_) ?_
  rotate_left
  · (try dsimp only at hw); go_simp; first | done | with_reducible rfl
  refine Eng.TW.take' (v := ?_) rfl rfl (by decide) (by kernel_rfl) (fun w hw => ?_) ?_
  rotate_left
  · (try dsimp only at hw); go_simp; first | done | with_reducible rfl
  refine Eng.TW.take' (v := ?_) rfl rfl (by decide) (by kernel_rfl) (fun w hw => ?_) ?_
  rotate_left
  · (try dsimp only at hw); go_simp; first | done | with_reducible rfl
  refine Eng.TW.take' (v := ?_) rfl rfl (by decide) (by kernel_rfl) (fun w hw => ?_) ?_
  rotate_left
  · (try dsimp only at hw); go_simp; first | done | with_reducible rfl
  refine Eng.TW.take' (v := ?_) rfl rfl (by decide) (by kernel_rfl) (fun w hw => ?_) ?_
  rotate_left
  · (try dsimp only at hw); go_simp; first | done | with_reducible rfl
  refine Eng.TW.take' (v := ?_) rfl rfl (by decide) (by kernel_rfl) (fun w hw => ?_) ?_
  rotate_left
  · (try dsimp only at hw); go_simp; first | done | with_reducible rfl
  refine Eng.TW.take' (v := ?_) rfl rfl (by decide) (by kernel_rfl) (fun w hw => ?_) ?_
  rotate_left
  · (try dsimp only at hw); go_simp; first | done | with_reducible rfl
  refine Eng.TW.take' (v := ?_) rfl rfl (by decide) (by kernel_rfl) (fun w hw => ?_) ?_
  rotate_left
  · (try dsimp only at hw); go_simp; first | done | with_reducible rfl
  refine Eng.TW.take' (v := ?_) rfl rfl (by decide) (by kernel_rfl) (fun w hw => ?_) ?_
  rotate_left
  · (try dsimp only at hw); go_simp; first | done | with_reducible rfl
  refine Eng.TW.take' (v := ?_) rfl rfl (by decide) (by kernel_rfl) (fun w hw => ?_) ?_
  rotate_left
  · (try dsimp only at hw); go_simp; first | done | with_reducible rfl
  refine Eng.TW.end_ [77, 78, 79, 80, 81, 82, 83, 84, 85, 86, 87, 88, 89, 90, 91, 92, 93, 94, 95, 96, 97, 98, 99, 100] HN.out (by kernel_rfl) (by kernel_rfl) ?_
  exact HP.out _ _ rfl HSt2.out

end Law20
end Go.Proofs.Ytkhhdadlpilbmaa
