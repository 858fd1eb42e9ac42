/- What is missing of a set: the program's and the document's. -/
import Derived.Test.YtkhhdadlpilbmaaJoin
namespace Go.Proofs.Ytkhhdadlpilbmaa
open Go.RowKit
namespace Join
open KeyP PackP SetP SetW SetF Code_ Rank
attribute [local go_sem] Eng.ev Eng.getO_cons Eng.getO_nil
set_option maxRecDepth 100000 in
set_option maxHeartbeats 400000 in
theorem rm7 {ops : Array Oper} (hops : Eng.fnOps Try.f47 7 = ops) (a0 : Act) (Q : Exit → Act → World → Prop) (w0 w : World) (b1 o1 len c k b2 o2 len2 c2 j : Nat) (y z : Sn) (hy : y.ok) (hz : z.ok) (hst : At2 w0 w b1 (o1 + k * 9) b2 (o2 + j * 9) y z) (hk : k < len) (hj : j < len2) (_hlen : len ≤ 9223372036854775807) (_hlen2 : len2 ≤ 9223372036854775807)
    (hn : a0.tmps.size = 47) (h_5 : a0.tmps.getD 5 undef = .slice (some ⟨b2, o2, none⟩) len2 c2) (h_6 : a0.tmps.getD 6 undef = .slice (some ⟨b1, o1, none⟩) len c) (h_8 : a0.tmps.getD 8 undef = .int .i64 (k : Int)) (h_9 : a0.tmps.getD 9 undef = .int .i64 (j : Int))
    (hpost : ∀ (x : Nat → Value) (w' : World), x 38 = .bool (nwr y z) → At2 w0 w' b1 (o1 + k * 9) b2 (o2 + j * 9) y z → Q .normal (Eng.setAll a0 [26, 27, 28, 29, 30, 31, 32, 33, 34, 35, 36, 37, 38] x) w') :
    (Code.region 7 ops true).wp Try.prog Q a0 w := by
  simp only [Eng.fnOps, Eng.regOps, Try.f47, Option.bind_some, Option.getD_some, Nat.reduceEqDiff, ↓reduceIte] at hops
  subst hops
  have q1 : (0 : Int) ≤ (k : Int) := by omega
  have q2 : (k : Int) < (len : Int) := by omega
  have q3 : (0 : Int) ≤ (j : Int) := by omega
  have q4 : (j : Int) < (len2 : Int) := by omega
  have HSt := Lib.hid (hst.fr (Fr.drew _ _))
  have hSS : w.drew.cell? ⟨b1, o1 + k * 9, none⟩ = some (.int .i64 y.t) ∧ w.drew.cell? ⟨b1, o1 + k * 9 + 1, none⟩ = some (.int .i64 y.i) ∧ w.drew.cell? ⟨b1, o1 + k * 9 + 1 + 1, none⟩ = some (.int .i64 y.p) ∧ w.drew.cell? ⟨b1, o1 + k * 9 + 1 + 1 + 1, none⟩ = some (.int .i64 y.r) ∧ w.drew.cell? ⟨b1, o1 + k * 9 + 1 + 1 + 1 + 1, none⟩ = some (.string y.s) ∧ w.drew.cell? ⟨b1, o1 + k * 9 + 1 + 1 + 1 + 1 + 1, none⟩ = some (.string y.o) ∧ w.drew.cell? ⟨b1, o1 + k * 9 + 1 + 1 + 1 + 1 + 1 + 1, none⟩ = some (.int .i64 y.b) ∧ w.drew.cell? ⟨b1, o1 + k * 9 + 1 + 1 + 1 + 1 + 1 + 1 + 1, none⟩ = some (.int .i64 y.d) ∧ w.drew.cell? ⟨b1, o1 + k * 9 + 1 + 1 + 1 + 1 + 1 + 1 + 1 + 1, none⟩ = some (.bool y.g) ∧ w.drew.cell? ⟨b2, o2 + j * 9, none⟩ = some (.int .i64 z.t) ∧ w.drew.cell? ⟨b2, o2 + j * 9 + 1, none⟩ = some (.int .i64 z.i) ∧ w.drew.cell? ⟨b2, o2 + j * 9 + 1 + 1, none⟩ = some (.int .i64 z.p) ∧ w.drew.cell? ⟨b2, o2 + j * 9 + 1 + 1 + 1, none⟩ = some (.int .i64 z.r) ∧ w.drew.cell? ⟨b2, o2 + j * 9 + 1 + 1 + 1 + 1, none⟩ = some (.string z.s) ∧ w.drew.cell? ⟨b2, o2 + j * 9 + 1 + 1 + 1 + 1 + 1, none⟩ = some (.string z.o) ∧ w.drew.cell? ⟨b2, o2 + j * 9 + 1 + 1 + 1 + 1 + 1 + 1, none⟩ = some (.int .i64 z.b) ∧ w.drew.cell? ⟨b2, o2 + j * 9 + 1 + 1 + 1 + 1 + 1 + 1 + 1, none⟩ = some (.int .i64 z.d) ∧ w.drew.cell? ⟨b2, o2 + j * 9 + 1 + 1 + 1 + 1 + 1 + 1 + 1 + 1, none⟩ = some (.bool z.g) := ⟨HSt.out.a 0 _ rfl, HSt.out.a 1 _ rfl, HSt.out.a 2 _ rfl, HSt.out.a 3 _ rfl, HSt.out.a 4 _ rfl, HSt.out.a 5 _ rfl, HSt.out.a 6 _ rfl, HSt.out.a 7 _ rfl, HSt.out.a 8 _ rfl, HSt.out.b 0 _ rfl, HSt.out.b 1 _ rfl, HSt.out.b 2 _ rfl, HSt.out.b 3 _ rfl, HSt.out.b 4 _ rfl, HSt.out.b 5 _ rfl, HSt.out.b 6 _ rfl, HSt.out.b 7 _ rfl, HSt.out.b 8 _ rfl⟩
  refine Eng.regionT (.take 0 (.take 1 (.take 2 (.take 3 (.take 4 (.take 5 (.take 6 (.take 7 (.take 8 (.take 9 (.take 10 (.alt 11 (.take 12 (.done)) (.stop))))))))))))) (fun w' => w'.cell? ⟨b1, o1 + k * 9, none⟩ = some (.int .i64 y.t) ∧ w'.cell? ⟨b1, o1 + k * 9 + 1, none⟩ = some (.int .i64 y.i) ∧ w'.cell? ⟨b1, o1 + k * 9 + 1 + 1, none⟩ = some (.int .i64 y.p) ∧ w'.cell? ⟨b1, o1 + k * 9 + 1 + 1 + 1, none⟩ = some (.int .i64 y.r) ∧ w'.cell? ⟨b1, o1 + k * 9 + 1 + 1 + 1 + 1, none⟩ = some (.string y.s) ∧ w'.cell? ⟨b1, o1 + k * 9 + 1 + 1 + 1 + 1 + 1, none⟩ = some (.string y.o) ∧ w'.cell? ⟨b1, o1 + k * 9 + 1 + 1 + 1 + 1 + 1 + 1, none⟩ = some (.int .i64 y.b) ∧ w'.cell? ⟨b1, o1 + k * 9 + 1 + 1 + 1 + 1 + 1 + 1 + 1, none⟩ = some (.int .i64 y.d) ∧ w'.cell? ⟨b1, o1 + k * 9 + 1 + 1 + 1 + 1 + 1 + 1 + 1 + 1, none⟩ = some (.bool y.g) ∧ w'.cell? ⟨b2, o2 + j * 9, none⟩ = some (.int .i64 z.t) ∧ w'.cell? ⟨b2, o2 + j * 9 + 1, none⟩ = some (.int .i64 z.i) ∧ w'.cell? ⟨b2, o2 + j * 9 + 1 + 1, none⟩ = some (.int .i64 z.p) ∧ w'.cell? ⟨b2, o2 + j * 9 + 1 + 1 + 1, none⟩ = some (.int .i64 z.r) ∧ w'.cell? ⟨b2, o2 + j * 9 + 1 + 1 + 1 + 1, none⟩ = some (.string z.s) ∧ w'.cell? ⟨b2, o2 + j * 9 + 1 + 1 + 1 + 1 + 1, none⟩ = some (.string z.o) ∧ w'.cell? ⟨b2, o2 + j * 9 + 1 + 1 + 1 + 1 + 1 + 1, none⟩ = some (.int .i64 z.b) ∧ w'.cell? ⟨b2, o2 + j * 9 + 1 + 1 + 1 + 1 + 1 + 1 + 1, none⟩ = some (.int .i64 z.d) ∧ w'.cell? ⟨b2, o2 + j * 9 + 1 + 1 + 1 + 1 + 1 + 1 + 1 + 1, none⟩ = some (.bool z.g)) (by kernel_rfl) 47 hn (by kernel_rfl) (by kernel_rfl) (by kernel_rfl) (hSS) (fun a b ha hb => ?_)
  subst ha
  have hb5 : b 5 = .slice (some ⟨b2, o2, none⟩) len2 c2 := (hb 5).symm.trans h_5
  have hb6 : b 6 = .slice (some ⟨b1, o1, none⟩) len c := (hb 6).symm.trans h_6
  have hb8 : b 8 = .int .i64 (k : Int) := (hb 8).symm.trans h_8
  have hb9 : b 9 = .int .i64 (j : Int) := (hb 9).symm.trans h_9
  clear hb h_5 h_6 h_8 h_9
  have HP := Lib.hid hpost; have HN := Lib.hid hn
  clear hpost hn
  refine Eng.TW.take' (v := ?_) rfl rfl (by decide) (by kernel_rfl) (fun w hw => ?_) ?_
  rotate_left
  · (try dsimp only at hw); go_simp; first | done | with_reducible rfl
  refine Eng.TW.take' (v := ?_) rfl rfl (by decide) (by kernel_rfl) (fun w hw => ?_) ?_
  rotate_left
  · (try dsimp only at hw); go_simp; first | done | with_reducible rfl
  refine Eng.TW.take' (v := ?_) rfl rfl (by decide) (by kernel_rfl) (fun w hw => ?_) ?_
  rotate_left
  · (try dsimp only at hw); go_simp; first | done | with_reducible rfl
  refine Eng.TW.take' (v := ?_) rfl rfl (by decide) (by kernel_rfl) (fun w hw => ?_) ?_
  rotate_left
  · (try dsimp only at hw); go_simp; first | done | with_reducible rfl
  refine Eng.TW.take' (v := ?_) rfl rfl (by decide) (by kernel_rfl) (fun w hw => ?_) ?_
  rotate_left
  · (try dsimp only at hw); go_simp; first | done | with_reducible rfl
  refine Eng.TW.take' (v := ?_) rfl rfl (by decide) (by kernel_rfl) (fun w hw => ?_) ?_
  rotate_left
  · (try dsimp only at hw); go_simp; first | done | with_reducible rfl
  refine Eng.TW.take' (v := ?_) rfl rfl (by decide) (by kernel_rfl) (fun w hw => ?_) ?_
  rotate_left
  · (try dsimp only at hw); go_simp; first | done | with_reducible rfl
  refine Eng.TW.take' (v := ?_) rfl rfl (by decide) (by kernel_rfl) (fun w hw => ?_) ?_
  rotate_left
  · (try dsimp only at hw); go_simp; first | done | with_reducible rfl
  refine Eng.TW.take' (v := ?_) rfl rfl (by decide) (by kernel_rfl) (fun w hw => ?_) ?_
  rotate_left
  · (try dsimp only at hw); go_simp; first | done | with_reducible rfl
  refine Eng.TW.take' (v := ?_) rfl rfl (by decide) (by kernel_rfl) (fun w hw => ?_) ?_
  rotate_left
  · (try dsimp only at hw); go_simp; first | done | with_reducible rfl
  refine Eng.TW.take' (v := ?_) rfl rfl (by decide) (by kernel_rfl) (fun w hw => ?_) ?_
  rotate_left
  · (try dsimp only at hw); go_simp; first | done | with_reducible rfl
  refine Eng.TW.call rfl rfl (by decide) (by kernel_rfl) ?_ (Ref10.Newer y z hy hz _) ?_
  · go_simp
  rintro e w2 ⟨rfl, hf⟩
  have HSt2 := Lib.hid (HSt.out.fr hf)
  have hSS : w2.cell? ⟨b1, o1 + k * 9, none⟩ = some (.int .i64 y.t) ∧ w2.cell? ⟨b1, o1 + k * 9 + 1, none⟩ = some (.int .i64 y.i) ∧ w2.cell? ⟨b1, o1 + k * 9 + 1 + 1, none⟩ = some (.int .i64 y.p) ∧ w2.cell? ⟨b1, o1 + k * 9 + 1 + 1 + 1, none⟩ = some (.int .i64 y.r) ∧ w2.cell? ⟨b1, o1 + k * 9 + 1 + 1 + 1 + 1, none⟩ = some (.string y.s) ∧ w2.cell? ⟨b1, o1 + k * 9 + 1 + 1 + 1 + 1 + 1, none⟩ = some (.string y.o) ∧ w2.cell? ⟨b1, o1 + k * 9 + 1 + 1 + 1 + 1 + 1 + 1, none⟩ = some (.int .i64 y.b) ∧ w2.cell? ⟨b1, o1 + k * 9 + 1 + 1 + 1 + 1 + 1 + 1 + 1, none⟩ = some (.int .i64 y.d) ∧ w2.cell? ⟨b1, o1 + k * 9 + 1 + 1 + 1 + 1 + 1 + 1 + 1 + 1, none⟩ = some (.bool y.g) ∧ w2.cell? ⟨b2, o2 + j * 9, none⟩ = some (.int .i64 z.t) ∧ w2.cell? ⟨b2, o2 + j * 9 + 1, none⟩ = some (.int .i64 z.i) ∧ w2.cell? ⟨b2, o2 + j * 9 + 1 + 1, none⟩ = some (.int .i64 z.p) ∧ w2.cell? ⟨b2, o2 + j * 9 + 1 + 1 + 1, none⟩ = some (.int .i64 z.r) ∧ w2.cell? ⟨b2, o2 + j * 9 + 1 + 1 + 1 + 1, none⟩ = some (.string z.s) ∧ w2.cell? ⟨b2, o2 + j * 9 + 1 + 1 + 1 + 1 + 1, none⟩ = some (.string z.o) ∧ w2.cell? ⟨b2, o2 + j * 9 + 1 + 1 + 1 + 1 + 1 + 1, none⟩ = some (.int .i64 z.b) ∧ w2.cell? ⟨b2, o2 + j * 9 + 1 + 1 + 1 + 1 + 1 + 1 + 1, none⟩ = some (.int .i64 z.d) ∧ w2.cell? ⟨b2, o2 + j * 9 + 1 + 1 + 1 + 1 + 1 + 1 + 1 + 1, none⟩ = some (.bool z.g) := ⟨HSt2.out.a 0 _ rfl, HSt2.out.a 1 _ rfl, HSt2.out.a 2 _ rfl, HSt2.out.a 3 _ rfl, HSt2.out.a 4 _ rfl, HSt2.out.a 5 _ rfl, HSt2.out.a 6 _ rfl, HSt2.out.a 7 _ rfl, HSt2.out.a 8 _ rfl, HSt2.out.b 0 _ rfl, HSt2.out.b 1 _ rfl, HSt2.out.b 2 _ rfl, HSt2.out.b 3 _ rfl, HSt2.out.b 4 _ rfl, HSt2.out.b 5 _ rfl, HSt2.out.b 6 _ rfl, HSt2.out.b 7 _ rfl, HSt2.out.b 8 _ rfl⟩
  clear hf
  refine ⟨_, rfl, hSS, ?_⟩
  refine Eng.TW.take' (v := ?_) rfl rfl (by decide) (by kernel_rfl) (fun w hw => ?_) ?_
  rotate_left
  · (try dsimp only at hw); go_simp; first | done | with_reducible rfl
  refine Eng.TW.end_ [26, 27, 28, 29, 30, 31, 32, 33, 34, 35, 36, 37, 38] HN.out (by kernel_rfl) (by kernel_rfl) ?_
  exact HP.out _ _ rfl HSt2.out

set_option maxRecDepth 100000 in
set_option maxHeartbeats 400000 in
theorem rm7n {ops : Array Oper} (hops : Eng.fnOps Try.f47 7 = ops) (a0 : Act) (Q : Exit → Act → World → Prop) (w0 w : World) (hst : Fr (fun _ => False) w0 w)
    (hn : a0.tmps.size = 47) (h_9 : a0.tmps.getD 9 undef = .int .i64 (-1))
    (hpost : ∀ (x : Nat → Value) (w' : World), x 38 = .bool true → Fr (fun _ => False) w0 w' → Q .normal (Eng.setAll a0 [26, 27, 28, 29, 30, 31, 32, 33, 34, 35, 36, 37, 38] x) w') :
    (Code.region 7 ops true).wp Try.prog Q a0 w := by
  simp only [Eng.fnOps, Eng.regOps, Try.f47, Option.bind_some, Option.getD_some, Nat.reduceEqDiff, ↓reduceIte] at hops
  subst hops
  have HSt := Lib.hid (hst.trans (Fr.drew (fun _ => False) _) (T := fun _ => False) (fun _ _ h => h) (fun _ _ h => h))
  have hSS : True := trivial
  refine Eng.regionT (.take 0 (.take 1 (.take 2 (.take 3 (.take 4 (.take 5 (.take 6 (.take 7 (.take 8 (.take 9 (.take 10 (.take 11 (.take 12 (.done)))))))))))))) (fun w' => True) (by kernel_rfl) 47 hn (by kernel_rfl) (by kernel_rfl) (by kernel_rfl) (hSS) (fun a b ha hb => ?_)
  subst ha
  have hb9 : b 9 = .int .i64 (-1) := (hb 9).symm.trans h_9
  clear hb h_9
  have HP := Lib.hid hpost; have HN := Lib.hid hn
  clear hpost hn
  refine Eng.TW.take' (v := ?_) rfl rfl (by decide) (by kernel_rfl) (fun w hw => ?_) ?_
  rotate_left
  · (try dsimp only at hw); go_simp; first | done | with_reducible rfl
  refine Eng.TW.take' (v := ?_) rfl rfl (by decide) (by kernel_rfl) (fun w hw => ?_) ?_
  rotate_left
  · (try dsimp only at hw); go_simp; first | done | with_reducible rfl
  refine Eng.TW.take' (v := ?_) rfl rfl (by decide) (by kernel_rfl) (fun w hw => ?_) ?_
  rotate_left
  · (try dsimp only at hw); go_simp; first | done | with_reducible rfl
  refine Eng.TW.skip rfl rfl (by decide) (by kernel_rfl) ?_
  refine Eng.TW.skip rfl rfl (by decide) (by kernel_rfl) ?_
  refine Eng.TW.skip rfl rfl (by decide) (by kernel_rfl) ?_
  refine Eng.TW.skip rfl rfl (by decide) (by kernel_rfl) ?_
  refine Eng.TW.skip rfl rfl (by decide) (by kernel_rfl) ?_
  refine Eng.TW.skip rfl rfl (by decide) (by kernel_rfl) ?_
  refine Eng.TW.skip rfl rfl (by decide) (by kernel_rfl) ?_
  refine Eng.TW.skip rfl rfl (by decide) (by kernel_rfl) ?_
  refine Eng.TW.skip rfl rfl (by decide) (by kernel_rfl) ?_
  refine Eng.TW.take' (v := ?_) rfl rfl (by decide) (by kernel_rfl) (fun w hw => ?_) ?_
  rotate_left
  · (try dsimp only at hw); go_simp; first | done | with_reducible rfl
  refine Eng.TW.end_ [26, 27, 28, 29, 30, 31, 32, 33, 34, 35, 36, 37, 38] HN.out (by kernel_rfl) (by kernel_rfl) ?_
  exact HP.out _ _ rfl HSt.out

set_option maxRecDepth 100000 in
set_option maxHeartbeats 2000000 in
/-- What is missing: the document's. -/
theorem RefMissing (A A2 : Option Addr) (c c2 : Nat) (a b : List Sn) (w : World) (h1 : Ls w A c a) (h2 : Ls w A2 c2 b) (hl1 : a.length ≤ 1000000) (hl2 : b.length ≤ 1000000) :
    Calls Try.prog 47 #[.slice A a.length c, .slice A2 b.length c2] w (LsPost (miss a b) w) := by
  obtain ⟨i0, hi, hz0, hz1, hz2⟩ := info_parts infoS
  have HMok : Hid (∀ x ∈ miss a b, x.ok) := fun x hx => set_ok h2.ok x (List.mem_filter.1 hx).1
  have HLn1 : Hid ((setOf a).length ≤ 1000000) := Nat.le_trans (setOf_len a) hl1
  have HLn2 : Hid ((setOf b).length ≤ 1000000) := Nat.le_trans (setOf_len b) hl2
  have HS1 := Lib.hid (RefSet A c a w h1 hl1)
  have HL2 := Lib.hid h2
  have HMs : Hid (miss a b = (setOf b).filter (bring (setOf a))) := rfl
  clear h1 h2
  go_enter Try.func47, Try.ntmps47
  go_wp2_with fail
  refine HS1.out.mono ?_
  rintro e w1 ⟨A3, c3, rfl, k1, -, k3⟩
  have HX1 := Lib.hid k1; have HB1 := Lib.hid k3
  have HS2 := Lib.hid (RefSet A2 c2 b w1 (HL2.out.below k3) hl2)
  clear k1 k3 HS1 HL2
  go_wp2_with fail
  refine HS2.out.mono ?_
  rintro e w2 ⟨A4, c4, rfl, k1, -, k3⟩
  have HX := Lib.hid (HX1.out.below k3); have HY := Lib.hid k1; have HB2 := Lib.hid (HB1.out.trans (k3.mono HB1.out.size))
  clear k1 k3 HS2 HX1 HB1
  generalize miss a b = M0 at *
  generalize setOf a = X at *
  generalize setOf b = Y at *
  have hyl : Y.length ≤ 9223372036854775807 := by have := HLn2.out; omega
  have hxl : X.length ≤ 9223372036854775807 := by have := HLn1.out; omega
  have hyl2 := HLn2.out
  go_wp2_with fail
  go_loopg [7, 8] Y.length (fun gk v i wr => ∃ k : Nat, i = .int .i64 k ∧ k ≤ Y.length ∧ gk = Y.length - k ∧ wr.ownsRow w2.heap.size TSn 9 v ((Y.take k).filter (bring X)).length (((Y.take k).filter (bring X)).flatMap scs) ∧ Below w2.heap.size w2 wr)
  case atStart => exact ⟨0, rfl, Nat.zero_le _, rfl, World.ownsRow_nil _ _ _ _, Below.refl _ _⟩
  case round =>
    obtain ⟨k, rfl, hk, hg, hown, hbel⟩ := hrel
    have HG := Lib.hid hg; have HO := Lib.hid hown; have HB := Lib.hid hbel
    have hszw : w2.heap.size ≤ wr.heap.size := hbel.size
    clear hg hown hbel
    by_cases hlt : k < Y.length
    · have HYr := Lib.hid (HY.out.below HB.out)
      have HXr := Lib.hid (HX.out.below HB.out)
      obtain ⟨b1, o1, rfl, hb1, c1⟩ := HYr.out.s.at hlt (by omega)
      have HA := Lib.hid (At.row c1 hlt)
      have HOky := Lib.hid (HY.out.ok _ (List.getElem_mem hlt))
      have HSn := Lib.hid (filter_snoc (p := bring X) hlt)
      have hfl : ((Y.take k).filter (bring X)).length ≤ k := Nat.le_trans (List.length_filter_le _ _) (by rw [List.length_take]; omega)
      clear c1 hb1
      generalize hyy : Y[k] = y at *
      generalize (Y.take k).filter (bring X) = M at *
      clear hyy
      have q1 : (0 : Int) ≤ (k : Int) := by omega
      have q2 : decide ((k : Int) < (Y.length : Int)) = true := by simp; omega
      have yc0 : wr.cell? ⟨b1, o1 + k * 9, none⟩ = some (.int .i64 y.t) := HA.out 0 _ rfl
      have yc1 : wr.cell? ⟨b1, o1 + k * 9 + 1, none⟩ = some (.int .i64 y.i) := HA.out 1 _ rfl
      have yc2 : wr.cell? ⟨b1, o1 + k * 9 + 1 + 1, none⟩ = some (.int .i64 y.p) := HA.out 2 _ rfl
      have yc3 : wr.cell? ⟨b1, o1 + k * 9 + 1 + 1 + 1, none⟩ = some (.int .i64 y.r) := HA.out 3 _ rfl
      have yc4 : wr.cell? ⟨b1, o1 + k * 9 + 1 + 1 + 1 + 1, none⟩ = some (.string y.s) := HA.out 4 _ rfl
      have yc5 : wr.cell? ⟨b1, o1 + k * 9 + 1 + 1 + 1 + 1 + 1, none⟩ = some (.string y.o) := HA.out 5 _ rfl
      have yc6 : wr.cell? ⟨b1, o1 + k * 9 + 1 + 1 + 1 + 1 + 1 + 1, none⟩ = some (.int .i64 y.b) := HA.out 6 _ rfl
      have yc7 : wr.cell? ⟨b1, o1 + k * 9 + 1 + 1 + 1 + 1 + 1 + 1 + 1, none⟩ = some (.int .i64 y.d) := HA.out 7 _ rfl
      have yc8 : wr.cell? ⟨b1, o1 + k * 9 + 1 + 1 + 1 + 1 + 1 + 1 + 1 + 1, none⟩ = some (.bool y.g) := HA.out 8 _ rfl
      go_wp2_with fail
      refine (Find A3 c3 X y wr HXr.out.s).mono ?_
      rintro e w5 ⟨rfl, hf⟩
      have HF5 := Lib.hid hf
      clear hf yc0 yc1 yc2 yc3 yc4 yc5 yc6 yc7 yc8
      cases hfn : fnd y X with
      | none =>
        have hbr : bring X y = true := by unfold bring; rw [hfn]
        have HE : Hid ((Y.take (k + 1)).filter (bring X) = M ++ [y]) := by show _ = _; rw [HSn.out, hbr]; rfl
        rw [posI_none hfn]
        clear hfn hbr
        go_upto_region 7 with (fail)
        refine rm7n (by kernel_rfl) _ _ w5 w5 (Fr.refl _ _) rfl rfl ?_
        intro x w6 h38 hf
        simp only [Eng.setAll, Act.put, List.setIfInBounds_toArray, List.set_cons_succ, List.set_cons_zero]
        rw [h38]
        have HF6 := Lib.hid (HF5.out.trans hf (T := fun _ => False) (fun _ _ h => h) (fun _ _ h => h))
        have HA6 := Lib.hid (HA.out.keep HF6.out)
        clear h38 hf
        have HO6 := Lib.hid (ownsRow_fr HO.out HF6.out (fun _ _ h => h))
        have HB6 := Lib.hid (HB.out.trans (HF6.out.below hszw (fun _ _ h => h)))
        have hsz6 := HB6.out.size
        have hown' := HO6.out.alloc (.cells y.arr TSn)
        have yc0 : w6.cell? ⟨b1, o1 + k * 9, none⟩ = some (.int .i64 y.t) := HA6.out 0 _ rfl
        have yc1 : w6.cell? ⟨b1, o1 + k * 9 + 1, none⟩ = some (.int .i64 y.i) := HA6.out 1 _ rfl
        have yc2 : w6.cell? ⟨b1, o1 + k * 9 + 1 + 1, none⟩ = some (.int .i64 y.p) := HA6.out 2 _ rfl
        have yc3 : w6.cell? ⟨b1, o1 + k * 9 + 1 + 1 + 1, none⟩ = some (.int .i64 y.r) := HA6.out 3 _ rfl
        have yc4 : w6.cell? ⟨b1, o1 + k * 9 + 1 + 1 + 1 + 1, none⟩ = some (.string y.s) := HA6.out 4 _ rfl
        have yc5 : w6.cell? ⟨b1, o1 + k * 9 + 1 + 1 + 1 + 1 + 1, none⟩ = some (.string y.o) := HA6.out 5 _ rfl
        have yc6 : w6.cell? ⟨b1, o1 + k * 9 + 1 + 1 + 1 + 1 + 1 + 1, none⟩ = some (.int .i64 y.b) := HA6.out 6 _ rfl
        have yc7 : w6.cell? ⟨b1, o1 + k * 9 + 1 + 1 + 1 + 1 + 1 + 1 + 1, none⟩ = some (.int .i64 y.d) := HA6.out 7 _ rfl
        have yc8 : w6.cell? ⟨b1, o1 + k * 9 + 1 + 1 + 1 + 1 + 1 + 1 + 1 + 1, none⟩ = some (.bool y.g) := HA6.out 8 _ rfl
        go_wp2_with (at_builtin; refine wpList_append_sl _ rfl (.tmp 39) (.tmp 44) TSs rfl w2.heap.size TSn i0 (.agg #[.int .i64 0, .int .i64 0, .int .i64 0, .int .i64 0, .string ByteArray.empty, .string ByteArray.empty, .int .i64 0, .int .i64 0, .bool false]) 9 88 Try.underlying34 hi hz0 hz1 hz2 rfl (by decide) _ _ _ rfl hown' _ _ _ _ rfl (Sl.one w6 TSn (scs y) 9 rfl) (by simp [Value.oneCell']) ?_ ?_ ?_ ?_)
        · unfold maxLen; omega
        · omega
        · first | omega | (simp; omega)
        intro v1 w7 hown1 hgrow1
        have HO7 := Lib.hid hown1; have HGr := Lib.hid hgrow1; have HK1 := Lib.hid (ownsRow_blk HO6.out)
        clear hown1 hgrow1 hown' yc0 yc1 yc2 yc3 yc4 yc5 yc6 yc7 yc8
        go_wp2_with fail
        go_roundg (Y.length - (k + 1))
        case rel => exact ⟨k + 1, by go_num, by omega, rfl, by rw [HE.out]; simpa using HO7.out, (HB6.out.alloc hsz6 _).grown HGr.out (by simp; omega) (fun k e => (HK1.out k e).1)⟩
        case measure => have := HG.out; omega
      | some z =>
        have hbr : bring X y = nwr y z := by unfold bring; rw [hfn]
        have HYe : Hid (nwr y z = true → (Y.take (k + 1)).filter (bring X) = M ++ [y]) := fun h => by rw [HSn.out, hbr, h]; rfl
        have HNo : Hid (nwr y z = false → (Y.take (k + 1)).filter (bring X) = M) := fun h => by rw [HSn.out, hbr, h]; simp
        obtain ⟨j, hj, hp, hz⟩ := posI_some hfn
        have HZ := Lib.hid (HX.out.ok z (fnd_some hfn).1)
        rw [hp]
        clear hfn hp hbr
        obtain ⟨b2, o2, rfl, hb2, c3⟩ := HXr.out.s.at hj (by omega)
        have HA5 : Hid (At w5 b2 (o2 + j * 9) z) := by have h := At.row c3 hj; rw [hz] at h; exact h.keep HF5.out
        clear c3 hz hb2
        go_upto_region 7 with (fail)
        refine rm7 (by kernel_rfl) _ _ w5 w5 b1 o1 _ _ k b2 o2 _ _ j y z HOky.out HZ.out ⟨HA.out.keep HF5.out, HA5.out, Fr.refl _ _⟩ hlt hj hyl hxl rfl rfl rfl rfl rfl ?_
        intro x w6 h38 hst
        simp only [Eng.setAll, Act.put, List.setIfInBounds_toArray, List.set_cons_succ, List.set_cons_zero]
        rw [h38]
        have HF6 := Lib.hid (HF5.out.trans hst.f (T := fun _ => False) (fun _ _ h => h) (fun _ _ h => h))
        have HA6 := Lib.hid hst.a
        clear h38 hst
        cases hn : nwr y z with
        | true =>
          have HE := Lib.hid (HYe.out hn)
          clear hn
          have HO6 := Lib.hid (ownsRow_fr HO.out HF6.out (fun _ _ h => h))
          have HB6 := Lib.hid (HB.out.trans (HF6.out.below hszw (fun _ _ h => h)))
          have hsz6 := HB6.out.size
          have hown' := HO6.out.alloc (.cells y.arr TSn)
          have yc0 : w6.cell? ⟨b1, o1 + k * 9, none⟩ = some (.int .i64 y.t) := HA6.out 0 _ rfl
          have yc1 : w6.cell? ⟨b1, o1 + k * 9 + 1, none⟩ = some (.int .i64 y.i) := HA6.out 1 _ rfl
          have yc2 : w6.cell? ⟨b1, o1 + k * 9 + 1 + 1, none⟩ = some (.int .i64 y.p) := HA6.out 2 _ rfl
          have yc3 : w6.cell? ⟨b1, o1 + k * 9 + 1 + 1 + 1, none⟩ = some (.int .i64 y.r) := HA6.out 3 _ rfl
          have yc4 : w6.cell? ⟨b1, o1 + k * 9 + 1 + 1 + 1 + 1, none⟩ = some (.string y.s) := HA6.out 4 _ rfl
          have yc5 : w6.cell? ⟨b1, o1 + k * 9 + 1 + 1 + 1 + 1 + 1, none⟩ = some (.string y.o) := HA6.out 5 _ rfl
          have yc6 : w6.cell? ⟨b1, o1 + k * 9 + 1 + 1 + 1 + 1 + 1 + 1, none⟩ = some (.int .i64 y.b) := HA6.out 6 _ rfl
          have yc7 : w6.cell? ⟨b1, o1 + k * 9 + 1 + 1 + 1 + 1 + 1 + 1 + 1, none⟩ = some (.int .i64 y.d) := HA6.out 7 _ rfl
          have yc8 : w6.cell? ⟨b1, o1 + k * 9 + 1 + 1 + 1 + 1 + 1 + 1 + 1 + 1, none⟩ = some (.bool y.g) := HA6.out 8 _ rfl
          go_wp2_with (at_builtin; refine wpList_append_sl _ rfl (.tmp 39) (.tmp 44) TSs rfl w2.heap.size TSn i0 (.agg #[.int .i64 0, .int .i64 0, .int .i64 0, .int .i64 0, .string ByteArray.empty, .string ByteArray.empty, .int .i64 0, .int .i64 0, .bool false]) 9 88 Try.underlying34 hi hz0 hz1 hz2 rfl (by decide) _ _ _ rfl hown' _ _ _ _ rfl (Sl.one w6 TSn (scs y) 9 rfl) (by simp [Value.oneCell']) ?_ ?_ ?_ ?_)
          · unfold maxLen; omega
          · omega
          · first | omega | (simp; omega)
          intro v1 w7 hown1 hgrow1
          have HO7 := Lib.hid hown1; have HGr := Lib.hid hgrow1; have HK1 := Lib.hid (ownsRow_blk HO6.out)
          clear hown1 hgrow1 hown' yc0 yc1 yc2 yc3 yc4 yc5 yc6 yc7 yc8
          go_wp2_with fail
          go_roundg (Y.length - (k + 1))
          case rel => exact ⟨k + 1, by go_num, by omega, rfl, by rw [HE.out]; simpa using HO7.out, (HB6.out.alloc hsz6 _).grown HGr.out (by simp; omega) (fun k e => (HK1.out k e).1)⟩
          case measure => have := HG.out; omega
        | false =>
          have HE := Lib.hid (HNo.out hn)
          clear hn
          go_wp2_with fail
          go_roundg (Y.length - (k + 1))
          case rel => exact ⟨k + 1, by go_num, by omega, rfl, by rw [HE.out]; exact ownsRow_fr HO.out HF6.out (fun _ _ h => h), HB.out.trans (HF6.out.below hszw (fun _ _ h => h))⟩
          case measure => have := HG.out; omega
    · obtain rfl : k = Y.length := by omega
      have q2 : decide ((Y.length : Int) < (Y.length : Int)) = false := by simp
      rw [List.take_length, ← HMs.out] at HO
      obtain ⟨A5, c5, rfl, hs5, -⟩ := Sl.of_own HO.out
      have HS5 := Lib.hid hs5
      clear hs5
      go_wp2_with fail
      go_ret
      exact ⟨A5, c5, rfl, ⟨HS5.out, HMok.out⟩, ownsRow_base HO.out HB2.out.size, HB2.out.trans (HB.out.mono HB2.out.size)⟩
end Join
end Go.Proofs.Ytkhhdadlpilbmaa
