/- Layer 20's statements: KidsGiven: what is in its regions. -/
import Derived.Test.YtkhhdadlpilbmaaLaw20p
namespace Go.Proofs.Ytkhhdadlpilbmaa
open Go.RowKit
namespace Law20
open KeyP SetP KidsP Kds
attribute [local go_sem] Eng.ev Eng.getO_cons Eng.getO_nil
abbrev TN3 : TypeId := 51
/-- The index, the document's, and three numbers in a box. -/
structure SGv (w0 w : World) (Bn B Bx : Nat) (L L' : List Sn) (F FX : List Nat) (n0 n1 n2 : Int) : Prop where
  zs : Zs w0.heap.size w0 w [[Bn], F, FX]
  n : Bk w Bn #[.int .i64 n0, .int .i64 n1, .int .i64 n2] TN3
  i : IB w B L F
  x : Ref20.RX w Bx L' FX
section
variable {w0 w w' : World} {Bn B Bx : Nat} {L L' L2 : List Sn} {F FX F' FX' : List Nat} {n0 n1 n2 : Int}
theorem SGv.fr (h : SGv w0 w Bn B Bx L L' F FX n0 n1 n2) (hf : Fr (fun _ => False) w w') : SGv w0 w' Bn B Bx L L' F FX n0 n1 n2 := ⟨h.zs.fr hf, h.n.fr hf (fun _ _ h => h), h.i.fr hf (fun _ _ h => h), h.x.fr hf (fun _ _ h => h)⟩
theorem SGv.turnI (h : SGv w0 w Bn B Bx L L' F FX n0 n1 n2) (hi : IB w' B L2 F') (ht : Tn F F' w w') : SGv w0 w' Bn B Bx L2 L' F' FX n0 n1 n2 :=
  ⟨h.zs.turn [[Bn]] [FX] ht, h.n.fr ht.fr (h.zs.ap 1 0 rfl rfl (by decide)), hi, h.x.fr ht.fr (h.zs.ap 1 2 rfl rfl (by decide))⟩
theorem SGv.turnX (h : SGv w0 w Bn B Bx L L' F FX n0 n1 n2) (hx : Ref20.RX w' Bx L2 FX') (ht : Tn FX FX' w w') : SGv w0 w' Bn B Bx L L2 F FX' n0 n1 n2 :=
  ⟨h.zs.turn [[Bn], F] [] ht, h.n.fr ht.fr (h.zs.ap 2 0 rfl rfl (by decide)), h.i.fr ht.fr (h.zs.ap 2 1 rfl rfl (by decide)), hx⟩
theorem SGv.drop (h : SGv w0 w Bn B Bx L L' F FX n0 n1 n2) {t i : Int} (ht : wf64 t) (hi : wf64 i) (sz : L.length < 1000000) : Calls Try.prog 15 #[.pointer (some ⟨B, 0, none⟩), .int .i64 t, .int .i64 i] w fun e w' => e = .returned (.bool (fnd (sn t i 0) L).isSome) ∧ ∃ F', SGv w0 w' Bn B Bx (out t i L) L' F' FX n0 n1 n2 :=
  (Kds.Drop B L F t i w h.i ht hi sz).mono (fun _ _ ⟨he, F', k1, k2⟩ => ⟨he, F', h.turnI k1 k2⟩)
theorem SGv.dropX (h : SGv w0 w Bn B Bx L L' F FX n0 n1 n2) (t i : Int) (hs : Srs L') (sz : L'.length ≤ 1000000) : Calls Try.prog 16 #[.pointer (some ⟨Bx, 0, none⟩), .int .i64 t, .int .i64 i] w fun e w' => e = .returned (.bool (fnd (sn t i 0) L').isSome) ∧ ∃ FX', SGv w0 w' Bn B Bx L (out t i L') F FX' n0 n1 n2 :=
  (Ref20.Drop Bx L' FX t i w h.x hs sz).mono (fun _ _ ⟨he, F', k1, k2⟩ => ⟨he, F', h.turnX k1 k2⟩)
theorem SGv.put (h : SGv w0 w Bn B Bx L L' F FX n0 n1 n2) {q : Sn} (hg : gd q) (sz : L.length < 1000000) : Calls Try.prog 17 #[.pointer (some ⟨B, 0, none⟩), q.v] w fun e w' => e = .returned (.tuple #[]) ∧ ∃ F', SGv w0 w' Bn B Bx (putK q L) L' F' FX n0 n1 n2 :=
  (Kds.Put B L F q w h.i hg sz).mono (fun _ _ ⟨he, F', k1, k2⟩ => ⟨he, F', h.turnI k1 k2⟩)
theorem SGv.putX (h : SGv w0 w Bn B Bx L L' F FX n0 n1 n2) (q : Sn) (sz : L'.length ≤ 1000000) : Calls Try.prog 18 #[.pointer (some ⟨Bx, 0, none⟩), q.v] w fun e w' => e = .returned (.tuple #[]) ∧ ∃ FX', SGv w0 w' Bn B Bx L (putK q L') F FX' n0 n1 n2 :=
  (Ref20.Put Bx L' FX q w h.x sz).mono (fun _ _ ⟨he, F', k1, k2⟩ => ⟨he, F', h.turnX k1 k2⟩)
theorem SGv.old (h : SGv w0 w Bn B Bx L L' F FX n0 n1 n2) {b o : Nat} {u : Value} (hb : b < w0.heap.size) (hc : w0.cell? ⟨b, o, none⟩ = some u) : w.cell? ⟨b, o, none⟩ = some u := (h.zs.bel.cell (p := ⟨b, o, none⟩) hb).trans hc
end
set_option maxRecDepth 100000 in
set_option maxHeartbeats 400000 in
theorem kg9 {ops : Array Oper} (hops : Eng.fnOps Try.f4 9 = ops) (a0 : Act) (Q : Exit → Act → World → Prop) (w0 w : World) (Bn B Bx : Nat) (L L' : List Sn) (F FX : List Nat) (n0 n1 n2 : Int) (b1 o1 len c j : Nat) (t i : Int) (hst : SGv w0 w Bn B Bx L L' F FX n0 n1 n2) (hj : j < len) (hlen : len ≤ 9223372036854775807) (hb : b1 < w0.heap.size) (e0 : w0.cell? ⟨b1, o1 + j * 10 + 1, none⟩ = some (.int .i64 t)) (e1 : w0.cell? ⟨b1, o1 + j * 10 + 1 + 1, none⟩ = some (.int .i64 i)) (ht : wf64 t) (hi : wf64 i) (sz : L.length < 1000000)
    (hn : a0.tmps.size = 107) (h_0 : a0.tmps.getD 0 undef = .slice (some ⟨b1, o1, none⟩) len c) (h_5 : a0.tmps.getD 5 undef = .pointer (some ⟨B, 0, none⟩)) (h_7 : a0.tmps.getD 7 undef = .int .i64 (j : Int))
    (hpost : ∀ (x : Nat → Value) (w' : World) (F' : List Nat), SGv w0 w' Bn B Bx (out t i L) L' F' FX n0 n1 n2 → Q .normal (Eng.setAll a0 [30, 31, 32, 33, 34, 35, 36, 37, 38, 39, 40, 41, 42] x) w') :
    (Code.region 9 ops true).wp Try.prog Q a0 w := by
  simp only [Eng.fnOps, Eng.regOps, Try.f4, Option.bind_some, Option.getD_some, Nat.reduceEqDiff, ↓reduceIte, Nat.reduceBEq] at hops
  subst hops
  have q1 : (0 : Int) ≤ (j : Int) := by omega
  have q2 : (j : Int) < (len : Int) := by omega
  have HSt := Lib.hid (hst.fr (Fr.drew _ _))
  have hSS : w.drew.cell? ⟨b1, o1 + j * 10 + 1, none⟩ = some (.int .i64 t) ∧ w.drew.cell? ⟨b1, o1 + j * 10 + 1 + 1, none⟩ = some (.int .i64 i) := ⟨HSt.out.old hb e0, HSt.out.old hb e1⟩
  refine Eng.regionT (.take 0 (.take 1 (.take 2 (.take 3 (.take 4 (.take 5 (.take 6 (.take 7 (.take 8 (.take 9 (.take 10 (.take 11 (.alt 12 (.done) (.stop)))))))))))))) (fun w' => w'.cell? ⟨b1, o1 + j * 10 + 1, none⟩ = some (.int .i64 t) ∧ w'.cell? ⟨b1, o1 + j * 10 + 1 + 1, none⟩ = some (.int .i64 i)) (by kernel_rfl) 107 hn (by kernel_rfl) (by kernel_rfl) (by kernel_rfl) (hSS) (fun a b ha hb => ?_)
  subst ha
  have hb0 : b 0 = .slice (some ⟨b1, o1, none⟩) len c := (hb 0).symm.trans h_0
  have hb5 : b 5 = .pointer (some ⟨B, 0, none⟩) := (hb 5).symm.trans h_5
  have hb7 : b 7 = .int .i64 (j : Int) := (hb 7).symm.trans h_7
  clear hb h_0 h_5 h_7
  have HP := Lib.hid hpost; have HN := Lib.hid hn
  clear hpost hn
  refine Eng.TW.take' (v := ?_) rfl rfl (by decide) (by kernel_rfl) (fun w hw => ?_) ?_
  rotate_left
  · (try dsimp only at hw); go_simp; first | done | with_reducible rfl
  refine Eng.TW.take' (v := ?_) rfl rfl (by decide) (by kernel_rfl) (fun w hw => ?_) ?_
  rotate_left
  · (try dsimp only at hw); go_simp; first | done | with_reducible rfl
  refine Eng.TW.take' (v := ?_) rfl rfl (by decide) (by kernel_rfl) (fun w hw => ?_) ?_
  rotate_left
  · (try dsimp only at hw); go_simp; first | done | with_reducible rfl
  refine Eng.TW.take' (v := ?_) rfl rfl (by decide) (by kernel_rfl) (fun w hw => ?_) ?_
  rotate_left
  · (try dsimp only at hw); go_simp; first | done | with_reducible rfl
  refine Eng.TW.take' (v := ?_) rfl rfl (by decide) (by kernel_rfl) (fun w hw => ?_) ?_
  rotate_left
  · (try dsimp only at hw); go_simp; first | done | with_reducible rfl
  refine Eng.TW.take' (v := ?_) rfl rfl (by decide) (by kernel_rfl) (fun w hw => ?_) ?_
  rotate_left
  · (try dsimp only at hw); go_simp; first | done | with_reducible rfl
  refine Eng.TW.take' (v := ?_) rfl rfl (by decide) (by kernel_rfl) (fun w hw => ?_) ?_
  rotate_left
  · (try dsimp only at hw); go_simp; first | done | with_reducible rfl
  refine Eng.TW.take' (v := ?_) rfl rfl (by decide) (by kernel_rfl) (fun w hw => ?_) ?_
  rotate_left
  · (try dsimp only at hw); go_simp; first | done | with_reducible rfl
  refine Eng.TW.take' (v := ?_) rfl rfl (by decide) (by kernel_rfl) (fun w hw => ?_) ?_
  rotate_left
  · (try dsimp only at hw); go_simp; first | done | with_reducible rfl
  refine Eng.TW.take' (v := ?_) rfl rfl (by decide) (by kernel_rfl) (fun w hw => ?_) ?_
  rotate_left
  · (try dsimp only at hw); go_simp; first | done | with_reducible rfl
  refine Eng.TW.take' (v := ?_) rfl rfl (by decide) (by kernel_rfl) (fun w hw => ?_) ?_
  rotate_left
  · (try dsimp only at hw); go_simp; first | done | with_reducible rfl
  refine Eng.TW.take' (v := ?_) rfl rfl (by decide) (by kernel_rfl) (fun w hw => ?_) ?_
  rotate_left
  · (try dsimp only at hw); go_simp; first | done | with_reducible rfl
  refine Eng.TW.call rfl rfl (by decide) (by kernel_rfl) ?_ (HSt.out.drop ht hi sz) ?_
  · go_simp
  rintro e w2 ⟨rfl, F2, h⟩
  have HSt2 := Lib.hid (h)
  have hSS : w2.cell? ⟨b1, o1 + j * 10 + 1, none⟩ = some (.int .i64 t) ∧ w2.cell? ⟨b1, o1 + j * 10 + 1 + 1, none⟩ = some (.int .i64 i) := ⟨HSt2.out.old hb e0, HSt2.out.old hb e1⟩
  clear h
  refine ⟨_, rfl, hSS, ?_⟩
  refine Eng.TW.end_ [30, 31, 32, 33, 34, 35, 36, 37, 38, 39, 40, 41, 42] HN.out (by kernel_rfl) (by kernel_rfl) ?_
  exact HP.out _ _ F2 HSt2.out

set_option maxRecDepth 100000 in
set_option maxHeartbeats 400000 in
theorem kg10 {ops : Array Oper} (hops : Eng.fnOps Try.f4 10 = ops) (a0 : Act) (Q : Exit → Act → World → Prop) (w0 w : World) (Bn B Bx : Nat) (L L' : List Sn) (F FX : List Nat) (n0 n1 n2 : Int) (b1 o1 len c j : Nat) (t i : Int) (hst : SGv w0 w Bn B Bx L L' F FX n0 n1 n2) (hj : j < len) (hlen : len ≤ 9223372036854775807) (hb : b1 < w0.heap.size) (e0 : w0.cell? ⟨b1, o1 + j * 10 + 1, none⟩ = some (.int .i64 t)) (e1 : w0.cell? ⟨b1, o1 + j * 10 + 1 + 1, none⟩ = some (.int .i64 i)) (hs : Srs L') (sz : L'.length ≤ 1000000)
    (hn : a0.tmps.size = 107) (h_0 : a0.tmps.getD 0 undef = .slice (some ⟨b1, o1, none⟩) len c) (h_6 : a0.tmps.getD 6 undef = .pointer (some ⟨Bx, 0, none⟩)) (h_7 : a0.tmps.getD 7 undef = .int .i64 (j : Int))
    (hpost : ∀ (x : Nat → Value) (w' : World) (FX' : List Nat), SGv w0 w' Bn B Bx L (out t i L') F FX' n0 n1 n2 → Q .normal (Eng.setAll a0 [43, 44, 45, 46, 47, 48, 49, 50, 51, 52, 53, 54, 55, 56] x) w') :
    (Code.region 10 ops true).wp Try.prog Q a0 w := by
  simp only [Eng.fnOps, Eng.regOps, Try.f4, Option.bind_some, Option.getD_some, Nat.reduceEqDiff, ↓reduceIte, Nat.reduceBEq] at hops
  subst hops
  have q1 : (0 : Int) ≤ (j : Int) := by omega
  have q2 : (j : Int) < (len : Int) := by omega
  have HSt := Lib.hid (hst.fr (Fr.drew _ _))
  have hSS : w.drew.cell? ⟨b1, o1 + j * 10 + 1, none⟩ = some (.int .i64 t) ∧ w.drew.cell? ⟨b1, o1 + j * 10 + 1 + 1, none⟩ = some (.int .i64 i) := ⟨HSt.out.old hb e0, HSt.out.old hb e1⟩
  refine Eng.regionT (.take 0 (.take 1 (.take 2 (.take 3 (.take 4 (.take 5 (.take 6 (.take 7 (.take 8 (.take 9 (.take 10 (.take 11 (.take 12 (.alt 13 (.done) (.stop))))))))))))))) (fun w' => w'.cell? ⟨b1, o1 + j * 10 + 1, none⟩ = some (.int .i64 t) ∧ w'.cell? ⟨b1, o1 + j * 10 + 1 + 1, none⟩ = some (.int .i64 i)) (by kernel_rfl) 107 hn (by kernel_rfl) (by kernel_rfl) (by kernel_rfl) (hSS) (fun a b ha hb => ?_)
  subst ha
  have hb0 : b 0 = .slice (some ⟨b1, o1, none⟩) len c := (hb 0).symm.trans h_0
  have hb6 : b 6 = .pointer (some ⟨Bx, 0, none⟩) := (hb 6).symm.trans h_6
  have hb7 : b 7 = .int .i64 (j : Int) := (hb 7).symm.trans h_7
  clear hb h_0 h_6 h_7
  have HP := Lib.hid hpost; have HN := Lib.hid hn
  clear hpost hn
  refine Eng.TW.take' (v := ?_) rfl rfl (by decide) (by kernel_rfl) (fun w hw => ?_) ?_
  rotate_left
  · (try dsimp only at hw); go_simp; first | done | with_reducible rfl
  refine Eng.TW.take' (v := ?_) rfl rfl (by decide) (by kernel_rfl) (fun w hw => ?_) ?_
  rotate_left
  · (try dsimp only at hw); go_simp; first | done | with_reducible rfl
  refine Eng.TW.take' (v := ?_) rfl rfl (by decide) (by kernel_rfl) (fun w hw => ?_) ?_
  rotate_left
  · (try dsimp only at hw); go_simp; first | done | with_reducible rfl
  refine Eng.TW.take' (v := ?_) rfl rfl (by decide) (by kernel_rfl) (fun w hw => ?_) ?_
  rotate_left
  · (try dsimp only at hw); go_simp; first | done | with_reducible rfl
  refine Eng.TW.take' (v := ?_) rfl rfl (by decide) (by kernel_rfl) (fun w hw => ?_) ?_
  rotate_left
  · (try dsimp only at hw); go_simp; first | done | with_reducible rfl
  refine Eng.TW.take' (v := ?_) rfl rfl (by decide) (by kernel_rfl) (fun w hw => ?_) ?_
  rotate_left
  · (try dsimp only at hw); go_simp; first | done | with_reducible rfl
  refine Eng.TW.take' (v := ?_) rfl rfl (by decide) (by kernel_rfl) (fun w hw => ?_) ?_
  rotate_left
  · (try dsimp only at hw); go_simp; first | done | with_reducible rfl
  refine Eng.TW.take' (v := ?_) rfl rfl (by decide) (by kernel_rfl) (fun w hw => ?_) ?_
  rotate_left
  · (try dsimp only at hw); go_simp; first | done | with_reducible rfl
  refine Eng.TW.take' (v := ?_) rfl rfl (by decide) (by kernel_rfl) (fun w hw => ?_) ?_
  rotate_left
  · (try dsimp only at hw); go_simp; first | done | with_reducible rfl
  refine Eng.TW.take' (v := ?_) rfl rfl (by decide) (by kernel_rfl) (fun w hw => ?_) ?_
  rotate_left
  · (try dsimp only at hw); go_simp; first | done | with_reducible rfl
  refine Eng.TW.take' (v := ?_) rfl rfl (by decide) (by kernel_rfl) (fun w hw => ?_) ?_
  rotate_left
  · (try dsimp only at hw); go_simp; first | done | with_reducible rfl
  refine Eng.TW.take' (v := ?_) rfl rfl (by decide) (by kernel_rfl) (fun w hw => ?_) ?_
  rotate_left
  · (try dsimp only at hw); go_simp; first | done | with_reducible rfl
  refine Eng.TW.take' (v := ?_) rfl rfl (by decide) (by kernel_rfl) (fun w hw => ?_) ?_
  rotate_left
  · (try dsimp only at hw); go_simp; first | done | with_reducible rfl
  refine Eng.TW.call rfl rfl (by decide) (by kernel_rfl) ?_ (HSt.out.dropX t i hs sz) ?_
  · go_simp
  rintro e w2 ⟨rfl, F2, h⟩
  have HSt2 := Lib.hid (h)
  have hSS : w2.cell? ⟨b1, o1 + j * 10 + 1, none⟩ = some (.int .i64 t) ∧ w2.cell? ⟨b1, o1 + j * 10 + 1 + 1, none⟩ = some (.int .i64 i) := ⟨HSt2.out.old hb e0, HSt2.out.old hb e1⟩
  clear h
  refine ⟨_, rfl, hSS, ?_⟩
  refine Eng.TW.end_ [43, 44, 45, 46, 47, 48, 49, 50, 51, 52, 53, 54, 55, 56] HN.out (by kernel_rfl) (by kernel_rfl) ?_
  exact HP.out _ _ F2 HSt2.out

/-- What was wanted, and what was got, in a box. -/
structure SH2 (w0 w : World) (Bn Bg : Nat) (n0 n1 n2 : Int) (Aw : Option Addr) (cw : Nat) (M : List Int) (Ag : Option Addr) (cg : Nat) (G : List Int) : Prop where
  f : Fr (fun _ => False) w0 w
  n : Bk w Bn #[.int .i64 n0, .int .i64 n1, .int .i64 n2] TN3
  m : Sl w 1 Aw M.length cw (ints M)
  b : Bk w Bg #[.slice Ag G.length cg] TInts
  g : Sl w 1 Ag G.length cg (ints G)
theorem SH2.fr {w0 w w' : World} {Bn Bg : Nat} {n0 n1 n2 : Int} {Aw Ag : Option Addr} {cw cg : Nat} {M G : List Int} (h : SH2 w0 w Bn Bg n0 n1 n2 Aw cw M Ag cg G) (hf : Fr (fun _ => False) w w') : SH2 w0 w' Bn Bg n0 n1 n2 Aw cw M Ag cg G :=
  ⟨h.f.trans hf (fun _ _ h => h) (fun _ _ h => h), h.n.fr hf (fun _ _ h => h), h.m.fr hf (fun _ _ h => h), h.b.fr hf (fun _ _ h => h), h.g.fr hf (fun _ _ h => h)⟩
theorem take_ints {w : World} {A : Option Addr} {n c k : Nat} {M : List Int} (h : Sl w 1 A n c (ints M)) (hn : n = M.length) (hk : k ≤ n) : Sl w 1 A k c (ints (M.take k)) := by
  have := h.take hk
  rwa [Nat.mul_one, ← List.map_take] at this
set_option maxRecDepth 100000 in
set_option maxHeartbeats 400000 in
theorem kg22 {ops : Array Oper} (hops : Eng.fnOps Try.f4 22 = ops) (a0 : Act) (Q : Exit → Act → World → Prop) (w0 w : World) (Bn Bg : Nat) (n0 n1 n2 : Int) (Aw : Option Addr) (cw : Nat) (M : List Int) (Ag : Option Addr) (cg : Nat) (G : List Int) (hi : Nat) (hst : SH2 w0 w Bn Bg n0 n1 n2 Aw cw M Ag cg G) (hle : hi ≤ M.length) (hcw : M.length ≤ cw) (hcm : cw ≤ 9223372036854775807) (mx : Int) (hmx : (if 1 < n2 then n2 else 1) = mx) (hmin : (if mx < (M.length : Int) then mx else (M.length : Int)) = (hi : Int)) (hgl : Hid (hi = G.length)) (hG : Hid (M.take hi = G))
    (hn : a0.tmps.size = 107) (h_3 : a0.tmps.getD 3 undef = .pointer (some ⟨Bn, 0, none⟩)) (h_8 : a0.tmps.getD 8 undef = .slice Aw M.length cw) (h_10 : a0.tmps.getD 10 undef = .pointer (some ⟨Bg, 0, none⟩))
    (hpost : ∀ (x : Nat → Value) (w' : World), x 4 = .bool true → SH2 w0 w' Bn Bg n0 n1 n2 Aw cw M Ag cg G → Q .normal (Eng.setAll a0 [4, 94, 95, 96, 97, 98, 99, 100, 101, 102, 103, 104, 105, 106] x) w') :
    (Code.region 22 ops true).wp Try.prog Q a0 w := by
  simp only [Eng.fnOps, Eng.regOps, Try.f4, Option.bind_some, Option.getD_some, Nat.reduceEqDiff, ↓reduceIte, Nat.reduceBEq] at hops
  subst hops
  have q1 : (0 : Int) ≤ (hi : Int) := by omega
  have q2 : (hi : Int) ≤ (cw : Int) := by omega
  have q3 : hi ≤ cw := by omega
  have HSt := Lib.hid (hst.fr (Fr.drew _ _))
  have hSS : w.drew.cell? ⟨Bg, 0, none⟩ = some (.slice Ag G.length cg) ∧ w.drew.cell? ⟨Bn, 2, none⟩ = some (.int .i64 n2) := ⟨HSt.out.b.cell 0, HSt.out.n.cell 2⟩
  refine Eng.regionT (.take 0 (.take 1 (.take 2 (.take 3 (.take 4 (.take 5 (.take 6 (.take 7 (.take 8 (.alt 9 (.take 10 (.alt 11 (.take 12 (.take 13 (.done))) (.stop))) (.stop))))))))))) (fun w' => w'.cell? ⟨Bg, 0, none⟩ = some (.slice Ag G.length cg) ∧ w'.cell? ⟨Bn, 2, none⟩ = some (.int .i64 n2)) (by kernel_rfl) 107 hn (by kernel_rfl) (by kernel_rfl) (by kernel_rfl) (hSS) (fun a b ha hb => ?_)
  subst ha
  have hb3 : b 3 = .pointer (some ⟨Bn, 0, none⟩) := (hb 3).symm.trans h_3
  have hb8 : b 8 = .slice Aw M.length cw := (hb 8).symm.trans h_8
  have hb10 : b 10 = .pointer (some ⟨Bg, 0, none⟩) := (hb 10).symm.trans h_10
  clear hb h_3 h_8 h_10
  have HP := Lib.hid hpost; have HN := Lib.hid hn
  clear hpost hn
  refine Eng.TW.take' (v := ?_) rfl rfl (by decide) (by kernel_rfl) (fun w hw => ?_) ?_
  rotate_left
  · (try dsimp only at hw); go_simp; first | done | with_reducible rfl
  refine Eng.TW.take' (v := ?_) rfl rfl (by decide) (by kernel_rfl) (fun w hw => ?_) ?_
  rotate_left
  · (try dsimp only at hw); go_simp; first | done | with_reducible rfl
  refine Eng.TW.take' (v := ?_) rfl rfl (by decide) (by kernel_rfl) (fun w hw => ?_) ?_
  rotate_left
  · (try dsimp only at hw); go_simp; first | done | with_reducible rfl
  refine Eng.TW.take' (v := ?_) rfl rfl (by decide) (by kernel_rfl) (fun w hw => ?_) ?_
  rotate_left
  · (try dsimp only at hw); go_simp; first | done | with_reducible rfl
  refine Eng.TW.take' (v := ?_) rfl rfl (by decide) (by kernel_rfl) (fun w hw => ?_) ?_
  rotate_left
  · (try dsimp only at hw); go_simp; first | done | with_reducible rfl
  refine Eng.TW.take' (v := ?_) rfl rfl (by decide) (by kernel_rfl) (fun w hw => ?_) ?_
  rotate_left
  · (try dsimp only at hw); go_simp; first | done | with_reducible rfl
  refine Eng.TW.take' (v := ?_) rfl rfl (by decide) (by kernel_rfl) (fun w hw => ?_) ?_
  rotate_left
  · (try dsimp only at hw); go_simp; first | done | with_reducible rfl
  refine Eng.TW.take' (v := ?_) rfl rfl (by decide) (by kernel_rfl) (fun w hw => ?_) ?_
  rotate_left
  · (try dsimp only at hw); go_simp; first | done | with_reducible rfl
  refine Eng.TW.take' (v := ?_) rfl rfl (by decide) (by kernel_rfl) (fun w hw => ?_) ?_
  rotate_left
  · (try dsimp only at hw); go_simp; first | done | with_reducible rfl
  refine Eng.TW.call rfl rfl (by decide) (by kernel_rfl) ?_ (SameTT Ag Aw cg cw G _ G.length hi rfl hgl.out HSt.out.g (hG.out ▸ take_ints HSt.out.m rfl hle)) ?_
  · go_simp
  rintro e w2 ⟨rfl, hf⟩
  have HSt2 := Lib.hid (HSt.out.fr hf)
  have hSS : w2.cell? ⟨Bg, 0, none⟩ = some (.slice Ag G.length cg) ∧ w2.cell? ⟨Bn, 2, none⟩ = some (.int .i64 n2) := ⟨HSt2.out.b.cell 0, HSt2.out.n.cell 2⟩
  clear hf
  refine ⟨_, rfl, hSS, ?_⟩
  refine Eng.TW.take' (v := ?_) rfl rfl (by decide) (by kernel_rfl) (fun w hw => ?_) ?_
  rotate_left
  · (try dsimp only at hw); go_simp; first | done | with_reducible rfl
  refine Eng.TW.call rfl rfl (by decide) (by kernel_rfl) ?_ (awake _) ?_
  · go_simp
  rintro e w3 ⟨rfl, hf⟩
  have HSt3 := Lib.hid (HSt2.out.fr hf)
  have hSS : w3.cell? ⟨Bg, 0, none⟩ = some (.slice Ag G.length cg) ∧ w3.cell? ⟨Bn, 2, none⟩ = some (.int .i64 n2) := ⟨HSt3.out.b.cell 0, HSt3.out.n.cell 2⟩
  clear hf
  refine ⟨_, rfl, hSS, ?_⟩
  refine Eng.TW.take' (v := ?_) rfl rfl (by decide) (by kernel_rfl) (fun w hw => ?_) ?_
  rotate_left
  · (try dsimp only at hw); go_simp; first | done | with_reducible rfl
  refine Eng.TW.take' (v := ?_) rfl rfl (by decide) (by kernel_rfl) (fun w hw => ?_) ?_
  rotate_left
  · (try dsimp only at hw); go_simp; first | done | with_reducible rfl
  refine Eng.TW.end_ [4, 94, 95, 96, 97, 98, 99, 100, 101, 102, 103, 104, 105, 106] HN.out (by kernel_rfl) (by kernel_rfl) ?_
  exact HP.out _ _ rfl HSt3.out

end Law20
end Go.Proofs.Ytkhhdadlpilbmaa
