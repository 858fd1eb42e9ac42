/- Layer 47's statements: SeriesGiven: for every input the answer is true. -/
import Derived.Test.YtgfjpnpbkkadpaaGreatLaw47
import Derived.Test.YtgfjpnpbkkadpaaGreatSerIJ
import Derived.Test.YtgfjpnpbkkadpaaGreatRef47s
import Derived.Test.YtgfjpnpbkkadpaaGreatColl2
import Derived.Test.YtgfjpnpbkkadpaaGreatSetFs
import Derived.Test.YtgfjpnpbkkadpaaGreatDeltas
namespace Go.Proofs.YtgfjpnpbkkadpaaGreat
open Go.RowKit
namespace Law47
open Go.Shelf
attribute [local go_sem] Oper.semAt_some
open KeyP PackP SetP SetW SetF BagP Bag Mk Delta ClsW Ser
attribute [local go_sem] Eng.ev Eng.getO_cons Eng.getO_nil
abbrev web : ByteArray := ⟨#[119, 101, 98]⟩
abbrev get : ByteArray := ⟨#[103, 101, 116]⟩
abbrev TN3 : TypeId := 55
abbrev n3 (a b c : Int) : Array Value := #[.int .i64 a, .int .i64 b, .int .i64 c]
theorem okwg : okN (web, get) := ⟨by show 3 ≤ maxLen; unfold maxLen; omega, by show 3 ≤ maxLen; unfold maxLen; omega⟩
theorem few_len {L : List Sn} {n : Nat} (h : fewB L n = true) : L.length ≤ n := by unfold fewB at h; simp at h; exact h.2
theorem spn_len' (L : List Sn) : (spn L).length ≤ L.length := Nat.le_trans (alive_len _) (setOf_len L)
theorem BetE {A A2 : Option Addr} {c c2 : Nat} {a b : List Sn} {w : World} (h1 : Ls w A c a) (h2 : Ls w A2 c2 b) (hl1 : a.length ≤ 1000) (hl2 : b.length ≤ 1000) (ha : PackP.Ok a) (hb : PackP.Ok b) :
    Calls Tryz.prog 25 #[.slice A a.length c, .slice A2 b.length c2] w (DlPost (wout b a) (wout a b) w) := by
  have := Between A A2 c c2 a b w h1 h2 (by omega) (by omega)
  rwa [ha.set, hb.set] at this
/-- What goes into the answers of before. -/
structure GS (w0 w : World) (Bn : Nat) (n0 n1 n2 : Int) (A : Option Addr) (c : Nat) (L : List Sn) : Prop where
  f : Below w0.heap.size w0 w
  n : Bk w Bn (n3 n0 n1 n2) TN3
  l : Ls w A c L
theorem GS.below {w0 w w' : World} {Bn : Nat} {n0 n1 n2 : Int} {A : Option Addr} {c : Nat} {L : List Sn} (H : GS w0 w Bn n0 n1 n2 A c L) (hb : Below w.heap.size w w') : GS w0 w' Bn n0 n1 n2 A c L :=
  ⟨H.f.trans (hb.mono H.f.size), H.n.fr (Fr.of_below' hb (fun _ => False)) (fun _ _ h => h), H.l.keep (Fr.of_below' hb _)⟩
theorem drew_below (w : World) : Below w.heap.size w w.drew := (Fr.drew (fun _ => False) w).below (Nat.le_refl _) (fun _ _ h => h)
/-- What was wanted, and what was got, in a box. -/
structure SH (w0 w : World) (Bn Bg : Nat) (n0 n1 n2 : Int) (Aw : Option Addr) (cw : Nat) (M : List (Int × Int)) (Ag : Option Addr) (cg : Nat) (G : List (Int × Int)) : Prop where
  f : Below w0.heap.size w0 w
  n : Bk w Bn (n3 n0 n1 n2) TN3
  m : Cl w Aw cw M.length M
  b : Bk w Bg #[.slice Ag G.length cg] TCs
  g : Cl w Ag cg G.length G
theorem SH.below {w0 w w' : World} {Bn Bg : Nat} {n0 n1 n2 : Int} {Aw Ag : Option Addr} {cw cg : Nat} {M G : List (Int × Int)} (h : SH w0 w Bn Bg n0 n1 n2 Aw cw M Ag cg G) (hb : Below w.heap.size w w') : SH w0 w' Bn Bg n0 n1 n2 Aw cw M Ag cg G :=
  ⟨h.f.trans (hb.mono h.f.size), h.n.fr (Fr.of_below' hb (fun _ => False)) (fun _ _ h => h), h.m.below hb, h.b.fr (Fr.of_below' hb (fun _ => False)) (fun _ _ h => h), h.g.below hb⟩
theorem take_cl {w : World} {A : Option Addr} {c k : Nat} {M : List (Int × Int)} (h : Cl w A c M.length M) (hk : k ≤ M.length) : Cl w A c k (M.take k) := by
  have := h.s.take hk
  rw [flat_take pc_len] at this
  exact ⟨this, by rw [List.length_take]; omega⟩
theorem SameG {A B : Option Addr} {c c2 n : Nat} {M G : List (Int × Int)} {w : World} (h1 : Cl w A c G.length G) (h2 : Cl w B c2 M.length M) (hk : n ≤ M.length) (hg : M.take n = G) : Calls Tryz.prog 21 #[.slice A G.length c, .slice B n c2] w fun e w' => e = .returned (.bool true) ∧ Below w.heap.size w w' := by
  have h3 := take_cl h2 hk
  rw [hg] at h3
  exact (SameC h1 h3).mono (fun e w' h => ⟨h.1, h.2.below (Nat.le_refl _) (fun _ _ h => h)⟩)
theorem got_of {α : Type} {LL pre : List α} {n2 : Int} (hp : pre <+: LL) (h : pre.length = LL.length ∧ (pre = [] ∨ (pre.length : Int) < n2) ∨ (1 ≤ pre.length ∧ n2 ≤ pre.length ∧ (pre.length = 1 ∨ (pre.length : Int) ≤ n2))) : pre = LL.take pre.length ∧ (if (if 1 < n2 then n2 else 1) < (LL.length : Int) then (if 1 < n2 then n2 else 1) else (LL.length : Int)) = (pre.length : Int) := by
  obtain ⟨t, rfl⟩ := hp
  refine ⟨by simp, ?_⟩
  rw [List.length_append] at h ⊢
  rcases h with ⟨h1, h2⟩ | ⟨h1, h2, h3⟩
  · rcases h2 with rfl | h2
    · have ht : t.length = 0 := by have h1' : (0 : Nat) = 0 + t.length := h1; omega
      rw [ht]; simp only [List.length_nil]; split <;> split <;> omega
    · split <;> split <;> omega
  · split <;> split <;> omega
/-- What is got. -/
structure BG (n0 bs Bg Bn : Nat) (w0 W : World) (m0 m1 m2 : Int) (pre : List (Int × Int)) : Prop where
  c : Coll2 n0 bs Bg TCs TC 2 w0 W pre.length (pre.flatMap pc)
  n : Bk W Bn (n3 m0 m1 m2) TN3
set_option maxRecDepth 100000 in
set_option maxHeartbeats 400000 in
theorem sg6 {ops : Array Oper} (hops : Eng.fnOps Tryz.f5 6 = ops) (a0 : Act) (Q : Exit → Act → World → Prop) (w0 w : World) (Bn : Nat) (n0 n1 n2 : Int) (A : Option Addr) (c : Nat) (L : List Sn) (W : Int) (X M : List (Int × Int)) (hX : cts ((spn L).map (pr W)) (web, get) = X) (hlx : X.length ≤ 1000) (hM : X.filter (inr n0 n1) = M) (hlL : L.length ≤ 1000) (hst : GS w0 w Bn n0 n1 n2 A c L)
    (hn : a0.tmps.size = 68) (h_0 : a0.tmps.getD 0 undef = .int .i64 W) (h_1 : a0.tmps.getD 1 undef = .slice A L.length c) (h_5 : a0.tmps.getD 5 undef = .pointer (some ⟨Bn, 0, none⟩))
    (hpost : ∀ (x : Nat → Value) (w' : World) (A8 : Option Addr) (c8 : Nat), x 8 = .slice A8 M.length c8 → Cl w' A8 c8 M.length M → GS w0 w' Bn n0 n1 n2 A c L → Q .normal (Eng.setAll a0 [8, 25, 26, 27, 28, 29, 30, 31, 32] x) w') :
    (Code.region 6 ops true).wp Tryz.prog Q a0 w := by
  simp only [Eng.fnOps, Eng.regOps, Tryz.f5, Option.bind_some, Option.getD_some, Nat.reduceEqDiff, ↓reduceIte, Nat.reduceBEq] at hops
  subst hops
  have HSt := Lib.hid (hst.below (drew_below _))
  have hSS : w.drew.cell? ⟨Bn, 0, none⟩ = some (.int .i64 n0) ∧ w.drew.cell? ⟨Bn, 1, none⟩ = some (.int .i64 n1) := ⟨HSt.out.n.cell 0, HSt.out.n.cell 1⟩
  refine Eng.regionN [(0, true), (1, true), (3, true), (4, true), (5, true), (6, true), (2, false), (7, false), (8, true)] (fun w' => w'.cell? ⟨Bn, 0, none⟩ = some (.int .i64 n0) ∧ w'.cell? ⟨Bn, 1, none⟩ = some (.int .i64 n1)) (by kernel_rfl) 68 hn (by kernel_rfl) rfl (by kernel_rfl) (hSS) (fun a b ha hb => ?_)
  subst ha
  have hb0 : b 0 = .int .i64 W := (hb 0).symm.trans h_0
  have hb1 : b 1 = .slice A L.length c := (hb 1).symm.trans h_1
  have hb5 : b 5 = .pointer (some ⟨Bn, 0, none⟩) := (hb 5).symm.trans h_5
  clear hb h_0 h_1 h_5
  have HP := Lib.hid hpost; have HN := Lib.hid hn
  clear hpost hn
  refine Eng.Sch.take (v := ?_) rfl rfl (by decide) (by kernel_rfl) (fun w hw => ?_) ?_
  rotate_left
  · (try dsimp only at hw); go_simp; first | done | with_reducible rfl
  refine Eng.Sch.take (v := ?_) rfl rfl (by decide) (by kernel_rfl) (fun w hw => ?_) ?_
  rotate_left
  · (try dsimp only at hw); go_simp; first | done | with_reducible rfl
  refine Eng.Sch.take (v := ?_) rfl rfl (by decide) (by kernel_rfl) (fun w hw => ?_) ?_
  rotate_left
  · (try dsimp only at hw); go_simp; first | done | with_reducible rfl
  refine Eng.Sch.take (v := ?_) rfl rfl (by decide) (by kernel_rfl) (fun w hw => ?_) ?_
  rotate_left
  · (try dsimp only at hw); go_simp; first | done | with_reducible rfl
  refine Eng.Sch.take (v := ?_) rfl rfl (by decide) (by kernel_rfl) (fun w hw => ?_) ?_
  rotate_left
  · (try dsimp only at hw); go_simp; first | done | with_reducible rfl
  refine Eng.Sch.take (v := ?_) rfl rfl (by decide) (by kernel_rfl) (fun w hw => ?_) ?_
  rotate_left
  · (try dsimp only at hw); go_simp; first | done | with_reducible rfl
  refine Eng.Sch.call rfl rfl (by decide) (by kernel_rfl) ?_ (Ref47.Of W web get A c L _ HSt.out.l hlL X hX X.length rfl) ?_
  · go_simp
  rintro e w2 ⟨A6, c6, rfl, hcl, hb⟩
  have HCl := Lib.hid hcl
  have HSt1 := Lib.hid (HSt.out.below hb)
  have hSS : w2.cell? ⟨Bn, 0, none⟩ = some (.int .i64 n0) ∧ w2.cell? ⟨Bn, 1, none⟩ = some (.int .i64 n1) := ⟨HSt1.out.n.cell 0, HSt1.out.n.cell 1⟩
  refine ⟨_, rfl, hSS, ?_⟩
  refine Eng.Sch.call rfl rfl (by decide) (by kernel_rfl) ?_ (RBetween A6 c6 X.length X n0 n1 _ HCl.out (by omega) M hM M.length rfl) ?_
  · go_simp
  rintro e w3 ⟨A8, c8, rfl, hcl2, hb2⟩
  have HSt2 := Lib.hid (HSt1.out.below hb2)
  have hSS : w3.cell? ⟨Bn, 0, none⟩ = some (.int .i64 n0) ∧ w3.cell? ⟨Bn, 1, none⟩ = some (.int .i64 n1) := ⟨HSt2.out.n.cell 0, HSt2.out.n.cell 1⟩
  refine ⟨_, rfl, hSS, ?_⟩
  refine Eng.Sch.take (v := ?_) rfl rfl (by decide) (by kernel_rfl) (fun w hw => ?_) ?_
  rotate_left
  · (try dsimp only at hw); go_simp; first | done | with_reducible rfl
  refine Eng.Sch.end_ [8, 25, 26, 27, 28, 29, 30, 31, 32] HN.out (by kernel_rfl) (by kernel_rfl) ?_
  exact HP.out _ _ A8 c8 rfl hcl2 HSt2.out

set_option maxRecDepth 100000 in
set_option maxHeartbeats 400000 in
theorem sg16 {ops : Array Oper} (hops : Eng.fnOps Tryz.f5 16 = ops) (a0 : Act) (Q : Exit → Act → World → Prop) (w0 w : World) (Bn Bg : Nat) (n0 n1 n2 : Int) (Aw : Option Addr) (cw : Nat) (M : List (Int × Int)) (Ag : Option Addr) (cg : Nat) (G : List (Int × Int)) (hi : Nat) (hst : SH w0 w Bn Bg n0 n1 n2 Aw cw M Ag cg G) (hle : hi ≤ M.length) (hcw : M.length ≤ cw) (hcm : cw ≤ 9223372036854775807) (mx : Int) (hmx : (if 1 < n2 then n2 else 1) = mx) (hmin : (if mx < (M.length : Int) then mx else (M.length : Int)) = (hi : Int)) (hG : Hid (M.take hi = G))
    (hn : a0.tmps.size = 68) (h_5 : a0.tmps.getD 5 undef = .pointer (some ⟨Bn, 0, none⟩)) (h_8 : a0.tmps.getD 8 undef = .slice Aw M.length cw) (h_10 : a0.tmps.getD 10 undef = .pointer (some ⟨Bg, 0, none⟩))
    (hpost : ∀ (x : Nat → Value) (w' : World), x 6 = .bool true → SH w0 w' Bn Bg n0 n1 n2 Aw cw M Ag cg G → Q .normal (Eng.setAll a0 [6, 55, 56, 57, 58, 59, 60, 61, 62, 63, 64, 65, 66, 67] x) w') :
    (Code.region 16 ops true).wp Tryz.prog Q a0 w := by
  simp only [Eng.fnOps, Eng.regOps, Tryz.f5, Option.bind_some, Option.getD_some, Nat.reduceEqDiff, ↓reduceIte, Nat.reduceBEq] at hops
  subst hops
  have q1 : (0 : Int) ≤ (hi : Int) := by omega
  have q2 : (hi : Int) ≤ (cw : Int) := by omega
  have q3 : hi ≤ cw := by omega
  have HSt := Lib.hid (hst.below (drew_below _))
  have hSS : w.drew.cell? ⟨Bg, 0, none⟩ = some (.slice Ag G.length cg) ∧ w.drew.cell? ⟨Bn, 2, none⟩ = some (.int .i64 n2) := ⟨HSt.out.b.cell 0, HSt.out.n.cell 2⟩
  refine Eng.regionT (.take 0 (.take 1 (.take 2 (.take 3 (.take 4 (.take 5 (.take 6 (.take 7 (.take 8 (.alt 9 (.take 10 (.alt 11 (.take 12 (.take 13 (.done))) (.stop))) (.stop))))))))))) (fun w' => w'.cell? ⟨Bg, 0, none⟩ = some (.slice Ag G.length cg) ∧ w'.cell? ⟨Bn, 2, none⟩ = some (.int .i64 n2)) (by kernel_rfl) 68 hn (by kernel_rfl) (by kernel_rfl) (by kernel_rfl) (hSS) (fun a b ha hb => ?_)
  subst ha
  have hb5 : b 5 = .pointer (some ⟨Bn, 0, none⟩) := (hb 5).symm.trans h_5
  have hb8 : b 8 = .slice Aw M.length cw := (hb 8).symm.trans h_8
  have hb10 : b 10 = .pointer (some ⟨Bg, 0, none⟩) := (hb 10).symm.trans h_10
  clear hb h_5 h_8 h_10
  have HP := Lib.hid hpost; have HN := Lib.hid hn
  clear hpost hn
  refine Eng.TW.take' (v := ?_) rfl rfl (by decide) (by kernel_rfl) (fun w hw => ?_) ?_
  rotate_left
  · (try dsimp only at hw); go_simp; first | done | with_reducible rfl
  refine Eng.TW.take' (v := ?_) rfl rfl (by decide) (by kernel_rfl) (fun w hw => ?_) ?_
  rotate_left
  · (try dsimp only at hw); go_simp; first | done | with_reducible rfl
  refine Eng.TW.take' (v := ?_) rfl rfl (by decide) (by kernel_rfl) (fun w hw => ?_) ?_
  rotate_left
  · (try dsimp only at hw); go_simp; first | done | with_reducible rfl
  refine Eng.TW.take' (v := ?_) rfl rfl (by decide) (by kernel_rfl) (fun w hw => ?_) ?_
  rotate_left
  · (try dsimp only at hw); go_simp; first | done | with_reducible rfl
  refine Eng.TW.take' (v := ?_) rfl rfl (by decide) (by kernel_rfl) (fun w hw => ?_) ?_
  rotate_left
  · (try dsimp only at hw); go_simp; first | done | with_reducible rfl
  refine Eng.TW.take' (v := ?_) rfl rfl (by decide) (by kernel_rfl) (fun w hw => ?_) ?_
  rotate_left
  · (try dsimp only at hw); go_simp; first | done | with_reducible rfl
  refine Eng.TW.take' (v := ?_) rfl rfl (by decide) (by kernel_rfl) (fun w hw => ?_) ?_
  rotate_left
  · (try dsimp only at hw); go_simp; first | done | with_reducible rfl
  refine Eng.TW.take' (v := ?_) rfl rfl (by decide) (by kernel_rfl) (fun w hw => ?_) ?_
  rotate_left
  · (try dsimp only at hw); go_simp; first | done | with_reducible rfl
  refine Eng.TW.take' (v := ?_) rfl rfl (by decide) (by kernel_rfl) (fun w hw => ?_) ?_
  rotate_left
  · (try dsimp only at hw); go_simp; first | done | with_reducible rfl
  refine Eng.TW.call rfl rfl (by decide) (by kernel_rfl) ?_ (SameG HSt.out.g HSt.out.m hle hG.out) ?_
  · go_simp
  rintro e w2 ⟨rfl, hb⟩
  have HSt2 := Lib.hid (HSt.out.below hb)
  have hSS : w2.cell? ⟨Bg, 0, none⟩ = some (.slice Ag G.length cg) ∧ w2.cell? ⟨Bn, 2, none⟩ = some (.int .i64 n2) := ⟨HSt2.out.b.cell 0, HSt2.out.n.cell 2⟩
  clear hb
  refine ⟨_, rfl, hSS, ?_⟩
  refine Eng.TW.take' (v := ?_) rfl rfl (by decide) (by kernel_rfl) (fun w hw => ?_) ?_
  rotate_left
  · (try dsimp only at hw); go_simp; first | done | with_reducible rfl
  refine Eng.TW.call rfl rfl (by decide) (by kernel_rfl) ?_ (awake _) ?_
  · go_simp
  rintro e w3 ⟨rfl, hb⟩
  have HSt3 := Lib.hid (HSt2.out.below hb)
  have hSS : w3.cell? ⟨Bg, 0, none⟩ = some (.slice Ag G.length cg) ∧ w3.cell? ⟨Bn, 2, none⟩ = some (.int .i64 n2) := ⟨HSt3.out.b.cell 0, HSt3.out.n.cell 2⟩
  clear hb
  refine ⟨_, rfl, hSS, ?_⟩
  refine Eng.TW.take' (v := ?_) rfl rfl (by decide) (by kernel_rfl) (fun w hw => ?_) ?_
  rotate_left
  · (try dsimp only at hw); go_simp; first | done | with_reducible rfl
  refine Eng.TW.take' (v := ?_) rfl rfl (by decide) (by kernel_rfl) (fun w hw => ?_) ?_
  rotate_left
  · (try dsimp only at hw); go_simp; first | done | with_reducible rfl
  refine Eng.TW.end_ [6, 55, 56, 57, 58, 59, 60, 61, 62, 63, 64, 65, 66, 67] HN.out (by kernel_rfl) (by kernel_rfl) ?_
  exact HP.out _ _ rfl HSt3.out

set_option maxRecDepth 100000 in
set_option maxHeartbeats 8000000 in
theorem given (W : Int) (A : Option Addr) (c : Nat) (L : List Sn) (n0 n1 n2 : Int) (w : World) (hL : Ls w A c L) :
    Calls Tryz.prog 5 #[.int .i64 W, .slice A L.length c, .agg (n3 n0 n1 n2)] w fun e w' => e = .returned (.bool true) ∧ Below w.heap.size w w' := by
  obtain ⟨i0, hi, hz0, hz1_, hz2⟩ := info_parts Bag.infoC
  have hn0 := Bk.new w (n3 n0 n1 n2) TN3
  have hb0 := (Below.refl w.heap.size w).alloc (Nat.le_refl _) (.cells (n3 n0 n1 n2) TN3)
  have hx0 := hL.keep (Fr.of_below' hb0 _)
  obtain ⟨Bn, hBn⟩ : ∃ b, w.heap.size = b := ⟨_, rfl⟩
  have HN := Lib.hid hn0; have HX := Lib.hid hx0
  have HB := Lib.hid hb0
  have hBnl : Bn < (w.alloc (.cells (n3 n0 n1 n2) TN3)).heap.size := by rw [World.size_alloc]; omega
  cases hq : fewB L 20 with
  | false =>
    go_enter Tryz.func5, Tryz.ntmps5
    go_wp2_with fail
    generalize (w.alloc (.cells (n3 n0 n1 n2) TN3)) = wi at *
    refine (SetF.Few _ _ 20 L wi HX.out.s).mono ?_
    rintro e w1 ⟨rfl, hf⟩
    have hb := hf.below (Nat.le_refl _) (fun _ _ h => h)
    clear hf
    replace HB := Lib.hid (HB.out.trans (hb.mono HB.out.size))
    clear hb
    rw [hq]
    go_wp2_with fail
    refine (awake w1).mono ?_
    rintro e w2 ⟨rfl, hb⟩
    replace HB := Lib.hid (HB.out.trans (hb.mono HB.out.size))
    clear hb
    go_wp2_with fail
    go_ret
    exact ⟨rfl, HB.out⟩
  | true =>
    have hql := few_len hq
    have HBn := Lib.hid hBn
    clear hn0 hb0 hx0 hL
    refine (callsIn_wide (n := 3)).1 ?_
    refine callsIn_of_wp_marks Tryz.func5 rfl trivial ?_ rfl
    simp only [Tryz.ntmps5, List.size_toArray, List.length_cons, List.length_nil, Nat.reduceAdd, Nat.reduceSub, Array.replicate_succ, Array.replicate_zero, List.push_toArray, List.append_toArray, List.nil_append, List.cons_append]
    refine wpIn_wide.2 ?_
    go_wp2_with fail
    rw [hBn] at HN
    generalize (w.alloc (.cells (n3 n0 n1 n2) TN3)) = wi at *
    refine (SetF.Few _ _ 20 L wi HX.out.s).mono ?_
    rintro e wf1 ⟨rfl, hf⟩
    have hb := hf.below (Nat.le_refl _) (fun _ _ h => h)
    clear hf
    replace HN := Lib.hid (HN.out.fr (Fr.of_below' hb (fun _ => False)) (fun _ _ h => h))
    replace HX := Lib.hid (HX.out.below hb)
    replace HB := Lib.hid (HB.out.trans (hb.mono HB.out.size))
    clear hb
    rw [hq]
    clear hq
    go_wp2_with fail
    refine (NewV W w wf1 HB.out [Bn] (by intro x hx; simp at hx; subst hx; exact lt_of_heap HN.out)).mono ?_
    rintro e wf2 ⟨h, rfl, hv, -, hb⟩
    replace HN := Lib.hid (HN.out.fr (Fr.of_below' hb (fun _ => False)) (fun _ _ h => h))
    replace HX := Lib.hid (HX.out.below hb)
    replace HB := Lib.hid (HB.out.trans (hb.mono HB.out.size))
    clear hb
    have HV := Lib.hid hv
    clear hv
    have hsl := Nat.le_trans (spn_len' L) hql
    have HSp := Lib.hid (RefSpans A c L wf2 HX.out (by omega))
    have HOkN := Lib.hid (spn_okL L)
    obtain ⟨N, hN⟩ : ∃ N, spn L = N := ⟨_, rfl⟩
    rw [hN] at HSp hsl HOkN
    have HNe := Lib.hid hN
    clear hN
    go_wp2_with fail
    refine (HSp.out).mono ?_
    rintro e wf3 ⟨An, cn, rfl, hls, -, hb⟩
    replace HN := Lib.hid (HN.out.fr (Fr.of_below' hb (fun _ => False)) (fun _ _ h => h))
    replace HX := Lib.hid (HX.out.below hb)
    replace HV := Lib.hid (HV.out.below hb)
    replace HB := Lib.hid (HB.out.trans (hb.mono HB.out.size))
    clear hb
    have HLn := Lib.hid hls
    clear hls HSp
    go_wp2_with fail
    refine (BetE (Ls.nil _) HLn.out (by simp) (by omega) ⟨List.Pairwise.nil, by simp, by simp⟩ HOkN.out).mono ?_
    rintro e wf4 ⟨A6, c6, A7, c7, rfl, hd, hb⟩
    replace HN := Lib.hid (HN.out.fr (Fr.of_below' hb (fun _ => False)) (fun _ _ h => h))
    replace HX := Lib.hid (HX.out.below hb)
    replace HV := Lib.hid (HV.out.below hb)
    replace HLn := Lib.hid (HLn.out.below hb)
    replace HB := Lib.hid (HB.out.trans (hb.mono HB.out.size))
    clear hb
    have HD := Lib.hid hd
    clear hd
    have HMo : Hid ((mays (wout N []) && (mays (wout [] N) && outB (([] : List Sn).map (pr W)) ((wout N []).map (pr W)))) = true) := by
      show _ = _
      rw [mays_ok (L := wout N []) (fun x hx => absurd (List.mem_filter.1 hx).1 (by simp)), mays_ok (L := wout [] N) (fun x hx => HOkN.out.may x (List.mem_filter.1 hx).1), bet_out]; rfl
    have lo : (wout N []).length ≤ 20 := by simp [wout]
    have li : (wout [] N).length ≤ 20 := Nat.le_trans (List.length_filter_le _ _) hsl
    go_wp2_with fail
    refine (ApplyT h W 0 (([] : List Sn).map (pr W)) [Bn] ⟨A6, c6, wout N [], A7, c7, wout [] N⟩ w wf4 HV.out HD.out (by show (wout N []).length ≤ _; omega) (by show (wout [] N).length ≤ _; omega) (by omega) (by simp) true HMo.out (N.map (pr W)) (fun _ qk hp => bet_in List.Pairwise.nil HOkN.out.srs hp) (fun h => by cases h)).mono ?_
    rintro e wf5 ⟨rfl, hv, hk, hf⟩
    replace HV := Lib.hid hv
    replace HX := Lib.hid (hk _ _ _ HX.out)
    replace HN : Hid (Bk wf5 Bn (n3 n0 n1 n2) TN3) := HN.out.fr hf (fun b hb hm => by simp at hb; subst hb; exact hm.2 (by simp))
    replace HB := Lib.hid (HB.out.trans (hf.below HB.out.size (fun k hk hm => by have := hm.1; omega)))
    clear hv hk hf HD HMo lo li HLn
    obtain ⟨X, hX⟩ : ∃ X, cts (N.map (pr W)) (web, get) = X := ⟨_, rfl⟩
    have hXl := cts_len (N.map (pr W)) (by rw [List.length_map]; omega) (web, get)
    rw [hX, List.length_map] at hXl
    obtain ⟨M, hM⟩ : ∃ M, X.filter (inr n0 n1) = M := ⟨_, rfl⟩
    have hMl : M.length ≤ X.length := by rw [← hM]; exact List.length_filter_le _ _
    have HXe := Lib.hid hX; have HMe := Lib.hid hM
    clear hX hM
    go_upto_region 6 with (fail)
    refine sg6 (by kernel_rfl) _ _ wf5 wf5 Bn n0 n1 n2 A c L W X M (by rw [HNe.out]; exact HXe.out) (by omega) HMe.out (by omega) ⟨Below.refl _ _, HN.out, HX.out⟩ rfl rfl rfl rfl ?_
    intro x wf6 A8 c8 h8 hcl hst
    simp only [Eng.setAll, Act.put, List.setIfInBounds_toArray, List.set_cons_succ, List.set_cons_zero]
    rw [h8]
    have hb := hst.f
    replace HN := Lib.hid hst.n
    have HC := Lib.hid hcl
    clear h8 hst hcl HX
    replace HV := Lib.hid (HV.out.below hb)
    replace HB := Lib.hid (HB.out.trans (hb.mono HB.out.size))
    clear hb
    have cn0 : wf6.cell? ⟨Bn, 0, none⟩ = some (.int .i64 n0) := HN.out.cell 0
    have cn1 : wf6.cell? ⟨Bn, 1, none⟩ = some (.int .i64 n1) := HN.out.cell 1
    obtain ⟨r, n', E, h1, h2, h3, h4, h5, h6⟩ := HV.out
    obtain ⟨p, FB, hp, hbag, hmap, hFB⟩ := h2.bagAt okwg
    rw [h3.cts (by rw [List.length_map]; omega), HXe.out] at hmap
    have HBag := Lib.hid hbag; have HMap := Lib.hid hmap; have HFB := Lib.hid hFB; have HP := Lib.hid hp
    have hBnc := lt_of_heap HN.out
    clear h1 h2 h3 h4 h5 h6 hbag hmap hFB hp
    go_wp2_with fail
    refine (Between_ (.pointer (some ⟨h, 0, none⟩)) (.inr ⟨h, rfl⟩) web get n0 n1 wf6).mono ?_
    rintro e wf7 ⟨rfl, hf, hz, b1, b2, b3, b4, b5⟩
    have kn : ∀ (W : World) (f : Fn) (a b : Array Value), (binOp .eql 58 (.func f a b) .nilFunc).run Tryz.prog W = .ok (.bool false) W := fun W f a b => run_eql_func_nil W f a b Tryz.underlying58
    have hb := hf.below (Nat.le_refl _) (fun _ _ h => h)
    replace HN := Lib.hid (HN.out.fr hf (fun _ _ h => h)); replace HC := Lib.hid (HC.out.below hb)
    replace HB := Lib.hid (HB.out.trans (hb.mono HB.out.size))
    replace HMap := Lib.hid (HMap.out.below hb)
    replace HBag := Lib.hid (show BagAt _ web get p wf7 from fun Z hZ => HBag.out Z (hb.trans (hZ.mono hb.size)))
    have HZ := Lib.hid hz
    have H1 := Lib.hid b1; have H2 := Lib.hid b2; have H3 := Lib.hid b3; have H4 := Lib.hid b4; have H5 := Lib.hid b5
    generalize wf6.heap.size = Nc at *
    clear hf hz b1 b2 b3 b4 b5 cn0 cn1 hb
    go_wp2_with fail
    have hbg := Bk.new wf7 #[.slice none 0 0] TCs
    have hfg := Fr.alloc (fun _ => False) wf7 (.cells #[.slice none 0 0] TCs)
    have hz0 : (wf7.alloc (.cells #[.slice none 0 0] TCs)).heap.size = wf7.heap.size + 1 := by simp
    generalize wf7.alloc (.cells #[.slice none 0 0] TCs) = W0 at *
    have HBg := Lib.hid hbg; have HFg := Lib.hid hfg; have HZ0 := Lib.hid hz0
    have hb := hfg.below (Nat.le_refl _) (fun _ _ h => h)
    have hseq := Between_seq ((Nc + 3) :: (Nc + 4) :: FB) _ Nc (Nc + 1) (Nc + 2) (Nc + 3) (Nc + 4) web get n0 n1 p HP.out X FB W0 (fun Z hZ => HBag.out Z (hb.trans (hZ.mono hb.size))) (HMap.out.below hb) (H1.out.fr hfg (fun _ _ h => h)) (H2.out.fr hfg (fun _ _ h => h)) (H3.out.fr hfg (fun _ _ h => h)) (H4.out.fr hfg (fun _ _ h => h)) (H5.out.fr hfg (fun _ _ h => h)) (fun b hb => by simp [hb]) (by simp) (by simp) (fun b hb => by
      have := HZ.out; have := HZ0.out
      rcases List.mem_cons.1 hb with rfl | hb
      · omega
      · rcases List.mem_cons.1 hb with rfl | hb
        · omega
        · have := HFB.out b hb; omega)
    rw [HMe.out] at hseq
    clear hbg hfg hz0 kn hb
    refine (wpIn_wide (n := 3)).1 ?_
    refine range_P' (n := 3) (a₁ := ?fr) (gf := 72) (lb := #[.pointer (some ⟨Nc, 0, none⟩), .pointer (some ⟨Nc + 1, 0, none⟩), .pointer (some ⟨Nc + 2, 0, none⟩), .pointer (some ⟨Nc + 3, 0, none⟩), .pointer (some ⟨Nc + 4, 0, none⟩)]) rfl (enters_of Tryz.func72 (by kernel_rfl) rfl)
      hseq (fun b hb => by
        have := HZ0.out; have := HZ.out
        rcases List.mem_cons.1 hb with rfl | hb
        · omega
        · rcases List.mem_cons.1 hb with rfl | hb
          · omega
          · have := HFB.out b hb; omega) (fun _ => rfl)
      (fun (pre : List (Int × Int)) (W : World) => BG wf7.heap.size (W0.heap.size + 2 + 4) wf7.heap.size Bn wf7 W n0 n1 n2 pre ∧ (pre = [] ∨ (pre.length : Int) < n2) ∧ W0.heap.size ≤ W.heap.size)
      (fun k (_ : List (Int × Int)) (W : World) => (k = .exit 0 ∧ ∃ pre, BG wf7.heap.size (W0.heap.size + 2 + 4) wf7.heap.size Bn wf7 W n0 n1 n2 pre ∧ pre <+: M ∧ 1 ≤ pre.length ∧ n2 ≤ pre.length ∧ (pre.length = 1 ∨ (pre.length : Int) ≤ n2)) ∧ W0.heap.size ≤ W.heap.size)
      ?abI ?abX ?st ?assign ?body ?done ?stop
    case abI =>
      intro pre A C h hf
      have := HZ0.out; have := HZ.out
      exact ⟨⟨h.1.c.abide hf (by omega) (fun h => by have := h.1; omega) (Nat.le_refl _) (by have := h.2.2; omega), h.1.n.fr hf (fun b hb h => by have e : b = Bn := List.mem_singleton.1 hb; have hh : W0.heap.size ≤ b := h.1; omega)⟩, h.2.1, Nat.le_trans h.2.2 hf.size⟩
    case abX =>
      intro k pre A C h hf
      have hz := HZ0.out; have := HZ.out
      obtain ⟨⟨rfl, pr, h1, h2⟩, h3⟩ := h
      exact ⟨⟨rfl, pr, ⟨h1.c.abide hf (by omega) (fun h => by have := h.1; omega) (Nat.le_refl _) (by have : W0.heap.size ≤ A.heap.size := h3; omega), h1.n.fr hf (fun b hb h => by have e : b = Bn := List.mem_singleton.1 hb; have hh : W0.heap.size ≤ b := h.1; omega)⟩, h2⟩, Nat.le_trans h3 hf.size⟩
    case st => exact ⟨⟨Coll2.start HBg.out (HFg.out.below (Nat.le_refl _) (fun _ _ h => h)), HN.out.fr HFg.out (fun _ _ h => h)⟩, .inl rfl, Nat.le_refl _⟩
    case assign =>
      intro l m x W K hK
      gi_wp2_with fail
      exact hK
    case body =>
      rintro l m pre x W ⟨hI, hlo, hsz0⟩ hsz hpre rfl ⟨r, hl⟩ hd
      (try dsimp only)
      obtain ⟨xk, xv⟩ := x
      have hml : pre.length < M.length := by have := hpre.length_le; rw [List.length_append, List.length_singleton] at this; omega
      obtain ⟨v, hv, hown, hbel⟩ := hI.c
      have hIn := hI.n
      have cv : W.cell? ⟨wf7.heap.size, 0, none⟩ = some v := hv.cell 0
      have fv := hv.free 0
      have HVv := Lib.hid hv; have HO := Lib.hid hown; have HBe := Lib.hid hbel; have HIn := Lib.hid hIn; have HLo := Lib.hid hlo; have HSz := Lib.hid hsz; have HPre := Lib.hid hpre
      have hown' := hown.alloc (.cells #[.int .i64 xk, .int .i64 xv] TC)
      have hne1 : ¬ Bn = wf7.heap.size := by have := HZ.out; omega
      have hne2 : ¬ wf7.heap.size = Bn := by have := HZ.out; omega
      have hszW : W0.heap.size + 2 + 4 ≤ W.heap.size := hsz
      clear hI hv hown hbel hIn hlo hsz hpre hl hd hsz0
      gi_wp2_with (gi_at_builtin; refine wpListIn_append_own _ rfl (.tmp 44) (.tmp 48) TCs rfl (W0.heap.size + 2 + 4) TC i0 (.agg #[.int .i64 0, .int .i64 0]) 2 16 Tryz.underlying39 hi hz0 hz1_ hz2 rfl (by decide) _ _ _ rfl hown' ⟨W.heap.size, 0, none⟩ 1 1 (pc (xk, xv)) rfl rfl (new_cells W TC (pc (xk, xv))) (by simp [Value.oneCell']) (by unfold maxLen; omega) (by omega) (by simp; omega) ?_)
      intro v' w2 hown1 hgrow _
      obtain ⟨g', cap', rfl⟩ := ownsRow_succ hown1
      obtain ⟨k1, k2, k3⟩ := Coll2.step HVv.out HO.out HBe.out (by have := HZ0.out; omega) (Nat.le_refl _) (by have := HZ0.out; omega) hown1 hgrow
      have cv1 : w2.cell? ⟨wf7.heap.size, 0, none⟩ = some v := k1.cell 0
      have fv1 := k1.free 0
      have hn2 : Bk w2 Bn (n3 n0 n1 n2) TN3 := HIn.out.fr ((Fr.alloc (fun _ => False) W (.cells #[.int .i64 xk, .int .i64 xv] TC)).trans (Fr.grown hgrow (S := fun b => W0.heap.size + 2 + 4 ≤ b) (fun k h => (ownsRow_blk HO.out k h).1)) (fun _ _ h => h.elim) (fun _ _ h => h)) (fun b hb h => by simp at hb; subst hb; have := HZ.out; have := HZ0.out; omega)
      have cn2 : w2.cell? ⟨Bn, 2, none⟩ = some (.int .i64 n2) := hn2.cell 2
      have K2 := Lib.hid k2; have K3 := Lib.hid k3; have HN2 := Lib.hid hn2
      clear k1 k2 k3 hown1 hgrow hown' cv fv hn2
      have hend : Hid (KeptR W0.heap.size (W0.heap.size + 2 + 4) W (w2.setCell ⟨wf7.heap.size, 0, none⟩ (.slice (some ⟨g', 0, none⟩) (pre.length + 1) cap')) ∧ KeptL ((Nc + 3) :: (Nc + 4) :: FB) W (w2.setCell ⟨wf7.heap.size, 0, none⟩ (.slice (some ⟨g', 0, none⟩) (pre.length + 1) cap'))) := by
        have hz := HZ0.out; have hz6 := HZ.out
        refine ⟨KeptR.of_fr K3.out HSz.out (fun b hb e => by have := hb.1; have := hb.2; omega), KeptL.of_fr K3.out (fun b hb => ?_)⟩
        rcases List.mem_cons.1 hb with rfl | hb
        · exact ⟨by omega, by omega⟩
        · rcases List.mem_cons.1 hb with rfl | hb
          · exact ⟨by omega, by omega⟩
          · have := HFB.out b hb; exact ⟨by omega, by omega⟩
      have HNx : Hid (BG wf7.heap.size (W0.heap.size + 2 + 4) wf7.heap.size Bn wf7 (w2.setCell ⟨wf7.heap.size, 0, none⟩ (.slice (some ⟨g', 0, none⟩) (pre.length + 1) cap')) n0 n1 n2 (pre ++ [(xk, xv)])) := ⟨by rw [List.length_append, List.length_singleton, List.flatMap_append]; exact K2.out, HN2.out.fr (Fr.setCell w2 ⟨wf7.heap.size, 0, none⟩ _ (S := (· = wf7.heap.size)) rfl) (fun b hb e => by simp at hb; subst hb; exact hne1 e)⟩
      by_cases hge : n2 ≤ (pre.length : Int) + 1
      · have u1 : decide (n2 ≤ (pre.length : Int) + 1) = true := by simpa using hge
        have u2 : decide (n2 ≤ ((pre.length + 1 : Nat) : Int)) = true := by simp; omega
        have HGe := Lib.hid hge
        clear hge
        gi_wp2_with fail
        refine ⟨hend.out.1, K3.out.size, ⟨rfl, _, HNx.out, HPre.out, by simp, by have := HGe.out; simp; omega, ?_⟩, by have := K3.out.size; omega⟩
        rcases HLo.out with rfl | h
        · exact .inl rfl
        · right; simp; omega
      · have u1 : decide (n2 ≤ (pre.length : Int) + 1) = false := by simpa using hge
        have u2 : decide (n2 ≤ ((pre.length + 1 : Nat) : Int)) = false := by simp; omega
        have HGe := Lib.hid hge
        clear hge
        gi_wp2_with fail
        exact ⟨hend.out.1, K3.out.size, hend.out.2, HNx.out, .inr (by have := HGe.out; simp; omega), by have := K3.out.size; omega⟩
    case done =>
      rintro W hsz ⟨hI, hlo, hsz0⟩ hK
      have hp : M <+: M := List.prefix_refl _
      have hcond : M.length = M.length ∧ (M = [] ∨ (M.length : Int) < n2) ∨ (1 ≤ M.length ∧ n2 ≤ M.length ∧ (M.length = 1 ∨ (M.length : Int) ≤ n2)) := .inl ⟨rfl, hlo⟩
      have hp1 := hp.length_le
      obtain ⟨hG1, hG2⟩ := got_of hp hcond
      obtain ⟨v, hv, hown, hbel⟩ := hI.c
      obtain ⟨Ag, cg, rfl, hSg, -⟩ := Sl.of_own hown
      have HSt2 : Hid (SH W W Bn wf7.heap.size n0 n1 n2 A8 c8 M Ag cg M) := ⟨Below.refl _ _, hI.n, HC.out.below hbel, hv, ⟨hSg, rfl⟩⟩
      have hcw : M.length ≤ c8 ∧ c8 ≤ 9223372036854775807 := by have := HC.out.s.2.1; have := HC.out.s.2.2.1; unfold maxLen at this; omega
      have HK := Lib.hid hK; have HBe := Lib.hid hbel; have HG1 := Lib.hid hG1; have HG2 := Lib.hid hG2; have HSz := Lib.hid hsz
      clear hG1 hG2 hI hv hown hbel hSg hK hcond hp hsz
      go_upto_region 16 with (fail)
      refine sg16 (by kernel_rfl) _ _ W W Bn wf7.heap.size n0 n1 n2 A8 c8 M Ag cg M M.length HSt2.out hp1 hcw.1 hcw.2 _ rfl HG2.out (Lib.hid HG1.out.symm) rfl rfl rfl rfl ?_
      intro z w9 x4_ hst
      simp only [Eng.setAll, Act.put, List.setIfInBounds_toArray, List.set_cons_succ, List.set_cons_zero]
      rw [x4_]
      have HF9 := Lib.hid hst.f
      clear hst x4_ HSt2
      go_wp2_with fail
      try rw [Exit.noGoto_ret]
      have hK9 := (HF9.out.block W0.heap.size (by have := HSz.out; omega)).trans HK.out
      refine ⟨by simp, .inl ⟨_, _, rfl, run_takeDeferred hK9, ?_⟩⟩
      have hf := Fr.putObj w9 W0.heap.size (.deferred none) (S := (· = W0.heap.size)) rfl
      have hz := HZ0.out
      have hz9 := HF9.out.size
      have hzW := HSz.out
      have hzB := HB.out.size
      exact ⟨_, by simp [results, Tryz.results5, go_sem], rfl, HB.out.trans ((HBe.out.mono hzB).trans ((HF9.out.mono (by omega)).trans (hf.below (by omega) (fun k hk e => by omega))))⟩
    case stop =>
      rintro k _ W hsz _ ⟨⟨rfl, pre, hI, hp, h1, h2, h3⟩, hsz0⟩ hK
      have hcond : pre.length = M.length ∧ (pre = [] ∨ (pre.length : Int) < n2) ∨ (1 ≤ pre.length ∧ n2 ≤ pre.length ∧ (pre.length = 1 ∨ (pre.length : Int) ≤ n2)) := .inr ⟨h1, h2, h3⟩
      refine (wpIn_wide (n := 3)).2 ?_
      have hp1 := hp.length_le
      obtain ⟨hG1, hG2⟩ := got_of hp hcond
      obtain ⟨v, hv, hown, hbel⟩ := hI.c
      obtain ⟨Ag, cg, rfl, hSg, -⟩ := Sl.of_own hown
      have HSt2 : Hid (SH W W Bn wf7.heap.size n0 n1 n2 A8 c8 M Ag cg pre) := ⟨Below.refl _ _, hI.n, HC.out.below hbel, hv, ⟨hSg, rfl⟩⟩
      have hcw : M.length ≤ c8 ∧ c8 ≤ 9223372036854775807 := by have := HC.out.s.2.1; have := HC.out.s.2.2.1; unfold maxLen at this; omega
      have HK := Lib.hid hK; have HBe := Lib.hid hbel; have HG1 := Lib.hid hG1; have HG2 := Lib.hid hG2; have HSz := Lib.hid hsz
      clear hG1 hG2 hI hv hown hbel hSg hK hcond hp hsz
      go_upto_region 16 with (fail)
      refine sg16 (by kernel_rfl) _ _ W W Bn wf7.heap.size n0 n1 n2 A8 c8 M Ag cg pre pre.length HSt2.out hp1 hcw.1 hcw.2 _ rfl HG2.out (Lib.hid HG1.out.symm) rfl rfl rfl rfl ?_
      intro z w9 x4_ hst
      simp only [Eng.setAll, Act.put, List.setIfInBounds_toArray, List.set_cons_succ, List.set_cons_zero]
      rw [x4_]
      have HF9 := Lib.hid hst.f
      clear hst x4_ HSt2
      go_wp2_with fail
      try rw [Exit.noGoto_ret]
      have hK9 := (HF9.out.block W0.heap.size (by have := HSz.out; omega)).trans HK.out
      refine ⟨by simp, .inl ⟨_, _, rfl, run_takeDeferred hK9, ?_⟩⟩
      have hf := Fr.putObj w9 W0.heap.size (.deferred none) (S := (· = W0.heap.size)) rfl
      have hz := HZ0.out
      have hz9 := HF9.out.size
      have hzW := HSz.out
      have hzB := HB.out.size
      exact ⟨_, by simp [results, Tryz.results5, go_sem], rfl, HB.out.trans ((HBe.out.mono hzB).trans ((HF9.out.mono (by omega)).trans (hf.below (by omega) (fun k hk e => by omega))))⟩
end Law47
end Go.Proofs.YtgfjpnpbkkadpaaGreat
