/- Layer 19's statements: JoinIs: for every input the answer is true. -/
import Derived.Test.YtkhhdadlpilbmaaLaw19m
namespace Go.Proofs.Ytkhhdadlpilbmaa
open Go.RowKit
namespace Law19
open KeyP PackP SetP SetW SetF Code_ Rank
attribute [local go_sem] Eng.ev Eng.getO_cons Eng.getO_nil
theorem RefAllE {A : Option Addr} {c n : Nat} {l : List Lv} {w : World} (hS : Sl w 1 A l.length c (l.flatMap lvc)) (hR : ∀ x ∈ l, Rd w x) (hlen : (cat l).length ≤ 1000000) (hn : l.length = n) (N : List Sn) (hN : setOf (cat l) = N) :
    Calls Try.prog 50 #[.slice A n c] w (LsPost N w) := hn ▸ hN ▸ Join.RefAll A c l w hS hR hlen
theorem RefMissE {A A2 : Option Addr} {c c2 : Nat} {a b : List Sn} {w : World} (h1 : Ls w A c a) (h2 : Ls w A2 c2 b) (hl1 : a.length ≤ 1000000) (hl2 : b.length ≤ 1000000) (N : List Sn) (hN : miss a b = N) :
    Calls Try.prog 47 #[.slice A a.length c, .slice A2 b.length c2] w (LsPost N w) := hN ▸ Join.RefMissing A A2 c c2 a b w h1 h2 hl1 hl2
/-- Lists of records, and pairs of lists, that lie there. -/
structure JI (w0 w : World) (xs : List Lv) (ys : List (Nat × Lv × Lv)) : Prop where
  x : ∀ q ∈ xs, Rd w q
  y : ∀ q ∈ ys, Sl w 1 (some ⟨q.1, 0, none⟩) 2 2 ([q.2.1, q.2.2].flatMap lvc)
  b : Below w0.heap.size w0 w
theorem JI.below {w0 w w' : World} {xs : List Lv} {ys : List (Nat × Lv × Lv)} (h : JI w0 w xs ys) (hb : Below w.heap.size w w') : JI w0 w' xs ys :=
  ⟨fun q hq => (h.x q hq).below hb, fun q hq => (h.y q hq).fr (Fr.of_below' hb (fun _ => False)) (fun _ _ h => h), h.b.trans (hb.mono h.b.size)⟩
theorem JI.keep {w0 w w' : World} {xs : List Lv} {ys : List (Nat × Lv × Lv)} (h : JI w0 w xs ys) (hf : Fr (fun _ => False) w w') : JI w0 w' xs ys := h.below (hf.below (Nat.le_refl _) (fun _ _ h => h))
theorem JI.add {w0 w : World} {xs : List Lv} {ys : List (Nat × Lv × Lv)} (h : JI w0 w xs ys) {A : Option Addr} {c : Nat} {L : List Sn} (hq : Ls w A c L) : JI w0 w (⟨A, c, L⟩ :: xs) ys :=
  ⟨fun q hq' => by rcases List.mem_cons.1 hq' with rfl | hq'; exact hq; exact h.x q hq', h.y, h.b⟩
theorem JI.pair {w0 w : World} {xs : List Lv} {ys : List (Nat × Lv × Lv)} (h : JI w0 w xs ys) (x y : Lv) : JI w0 (w.alloc (.cells #[.slice x.A x.L.length x.c, .slice y.A y.L.length y.c] TSs)) xs ((w.heap.size, x, y) :: ys) := by
  have h' := h.below ((Below.refl _ w).alloc (Nat.le_refl _) (.cells #[.slice x.A x.L.length x.c, .slice y.A y.L.length y.c] TSs))
  exact ⟨h'.x, fun q hq => by rcases List.mem_cons.1 hq with rfl | hq; exact Join.two_lv w x y; exact h'.y q hq, h'.b⟩
theorem JI.two {w : World} {x y : Lv} (h1 : Rd w x) (h2 : Rd w y) : ∀ q ∈ [x, y], Rd w q := fun q hq => by
  simp at hq
  rcases hq with rfl | rfl <;> assumption
theorem cat2 (x y : Lv) : cat [x, y] = x.L ++ y.L := by simp [cat]
set_option maxRecDepth 100000 in
set_option maxHeartbeats 400000 in
theorem ji6 {ops : Array Oper} (hops : Eng.fnOps Try.f9 6 = ops) (a0 : Act) (Q : Exit → Act → World → Prop) (w0 w : World) (b1 o1 len c j : Nat) (xl yl : Lv) (hblk : b1 < w0.heap.size) (e0 : w0.cell? ⟨b1, o1 + j, none⟩ = some (.slice xl.A xl.L.length xl.c)) (e1 : w0.cell? ⟨b1, o1 + (j + 1), none⟩ = some (.slice yl.A yl.L.length yl.c)) (hj : j + 1 < len) (hlen : len ≤ 9223372036854775807) (hl1 : xl.L.length ≤ 1000) (hl2 : yl.L.length ≤ 1000) (M : List Sn) (hM : miss xl.L yl.L = M) (hst : JI w0 w [xl, yl] [])
    (hn : a0.tmps.size = 87) (h_0 : a0.tmps.getD 0 undef = .slice (some ⟨b1, o1, none⟩) len c) (h_3 : a0.tmps.getD 3 undef = .int .i64 ((j + 1 : Nat) : Int))
    (hpost : ∀ (x : Nat → Value) (w' : World) (A3 : Option Addr) (c3 : Nat), x 4 = .slice A3 M.length c3 → JI w0 w' [⟨A3, c3, M⟩, xl, yl] [] → Q .normal (Eng.setAll a0 [4, 15, 16, 17, 18, 19, 20, 21, 22, 23, 24] x) w') :
    (Code.region 6 ops true).wp Try.prog Q a0 w := by
  simp only [Eng.fnOps, Eng.regOps, Try.f9, Option.bind_some, Option.getD_some, Nat.reduceEqDiff, ↓reduceIte] at hops
  subst hops
  have q1 : IntKind.i64.wrap (j : Int) = (j : Int) := by rw [IntKind.wrap_i64]; omega
  have q2 : (0 : Int) ≤ (j : Int) := by omega
  have q3 : (j : Int) < (len : Int) := by omega
  have q4 : (0 : Int) ≤ (j : Int) + 1 := by omega
  have q5 : (j : Int) + 1 < (len : Int) := by omega
  have HSt := Lib.hid (hst.keep (Fr.drew _ _))
  have hSS : w.drew.cell? ⟨b1, o1 + j, none⟩ = some (.slice xl.A xl.L.length xl.c) ∧ w.drew.cell? ⟨b1, o1 + (j + 1), none⟩ = some (.slice yl.A yl.L.length yl.c) := ⟨(HSt.out.b.cell (p := ⟨b1, _, none⟩) hblk).trans e0, (HSt.out.b.cell (p := ⟨b1, _, none⟩) hblk).trans e1⟩
  refine Eng.regionT (.take 0 (.take 1 (.take 2 (.take 3 (.take 4 (.take 5 (.take 6 (.take 7 (.take 8 (.alt 9 (.take 10 (.done)) (.stop))))))))))) (fun w' => w'.cell? ⟨b1, o1 + j, none⟩ = some (.slice xl.A xl.L.length xl.c) ∧ w'.cell? ⟨b1, o1 + (j + 1), none⟩ = some (.slice yl.A yl.L.length yl.c)) (by kernel_rfl) 87 hn (by kernel_rfl) (by kernel_rfl) (by kernel_rfl) (hSS) (fun a b ha hb => ?_)
  subst ha
  have hb0 : b 0 = .slice (some ⟨b1, o1, none⟩) len c := (hb 0).symm.trans h_0
  have hb3 : b 3 = .int .i64 ((j + 1 : Nat) : Int) := (hb 3).symm.trans h_3
  clear hb h_0 h_3
  have HP := Lib.hid hpost; have HN := Lib.hid hn
  clear hpost hn
  refine Eng.TW.take' (v := ?_) rfl rfl (by decide) (by kernel_rfl) (fun w hw => ?_) ?_
  rotate_left
  · (try dsimp only at hw); go_simp; first | done | with_reducible rfl
  refine Eng.TW.take' (v := ?_) rfl rfl (by decide) (by kernel_rfl) (fun w hw => ?_) ?_
  rotate_left
  · (try dsimp only at hw); go_simp; first | done | with_reducible rfl
  refine Eng.TW.take' (v := ?_) rfl rfl (by decide) (by kernel_rfl) (fun w hw => ?_) ?_
  rotate_left
  · (try dsimp only at hw); go_simp; first | done | with_reducible rfl
  refine Eng.TW.take' (v := ?_) rfl rfl (by decide) (by kernel_rfl) (fun w hw => ?_) ?_
  rotate_left
  · (try dsimp only at hw); go_simp; first | done | with_reducible rfl
  refine Eng.TW.take' (v := ?_) rfl rfl (by decide) (by kernel_rfl) (fun w hw => ?_) ?_
  rotate_left
  · (try dsimp only at hw); go_simp; first | done | with_reducible rfl
  refine Eng.TW.take' (v := ?_) rfl rfl (by decide) (by kernel_rfl) (fun w hw => ?_) ?_
  rotate_left
  · (try dsimp only at hw); go_simp; first | done | with_reducible rfl
  refine Eng.TW.take' (v := ?_) rfl rfl (by decide) (by kernel_rfl) (fun w hw => ?_) ?_
  rotate_left
  · (try dsimp only at hw); go_simp; first | done | with_reducible rfl
  refine Eng.TW.take' (v := ?_) rfl rfl (by decide) (by kernel_rfl) (fun w hw => ?_) ?_
  rotate_left
  · (try dsimp only at hw); go_simp; first | done | with_reducible rfl
  refine Eng.TW.take' (v := ?_) rfl rfl (by decide) (by kernel_rfl) (fun w hw => ?_) ?_
  rotate_left
  · (try dsimp only at hw); go_simp; first | done | with_reducible rfl
  refine Eng.TW.call rfl rfl (by decide) (by kernel_rfl) ?_ (RefMissE (HSt.out.x xl (by simp)) (HSt.out.x yl (by simp)) (by omega) (by omega) M hM) ?_
  · go_simp
  rintro e w2 ⟨A3, c3, rfl, h1, -, h3⟩
  have HSt2 := Lib.hid ((HSt.out.below h3).add h1)
  have hSS : w2.cell? ⟨b1, o1 + j, none⟩ = some (.slice xl.A xl.L.length xl.c) ∧ w2.cell? ⟨b1, o1 + (j + 1), none⟩ = some (.slice yl.A yl.L.length yl.c) := ⟨(HSt2.out.b.cell (p := ⟨b1, _, none⟩) hblk).trans e0, (HSt2.out.b.cell (p := ⟨b1, _, none⟩) hblk).trans e1⟩
  clear h1 h3
  refine ⟨_, rfl, hSS, ?_⟩
  refine Eng.TW.take' (v := ?_) rfl rfl (by decide) (by kernel_rfl) (fun w hw => ?_) ?_
  rotate_left
  · (try dsimp only at hw); go_simp; first | done | with_reducible rfl
  refine Eng.TW.end_ [4, 15, 16, 17, 18, 19, 20, 21, 22, 23, 24] HN.out (by kernel_rfl) (by kernel_rfl) ?_
  exact HP.out _ _ A3 c3 rfl HSt2.out

set_option maxRecDepth 100000 in
set_option maxHeartbeats 4000000 in
theorem ji7 {ops : Array Oper} (hops : Eng.fnOps Try.f9 7 = ops) (a0 : Act) (Q : Exit → Act → World → Prop) (w0 w : World) (b1 o1 len c j : Nat) (xl yl : Lv) (hblk : b1 < w0.heap.size) (e0 : w0.cell? ⟨b1, o1 + j, none⟩ = some (.slice xl.A xl.L.length xl.c)) (e1 : w0.cell? ⟨b1, o1 + (j + 1), none⟩ = some (.slice yl.A yl.L.length yl.c)) (hj : j + 1 < len) (hlen : len ≤ 9223372036854775807) (hl1 : xl.L.length ≤ 1000) (hl2 : yl.L.length ≤ 1000) (M J : List Sn) (hM : miss xl.L yl.L = M) (hJ : setOf (xl.L ++ yl.L) = J) (q : Bool) (hq : decide (miss xl.L yl.L = []) = q) (hq2 : ((M.length : Int) == 0) = q) (A3 : Option Addr) (c3 : Nat) (hst : JI w0 w [⟨A3, c3, M⟩, xl, yl] [])
    (hn : a0.tmps.size = 87) (h_0 : a0.tmps.getD 0 undef = .slice (some ⟨b1, o1, none⟩) len c) (h_3 : a0.tmps.getD 3 undef = .int .i64 ((j + 1 : Nat) : Int)) (h_4 : a0.tmps.getD 4 undef = .slice A3 M.length c3)
    (hpost : ∀ (x : Nat → Value) (w' : World), x 78 = .bool false → Below w0.heap.size w0 w' → Q .normal (Eng.setAll a0 [25, 26, 27, 28, 29, 30, 31, 32, 33, 34, 35, 36, 37, 38, 39, 40, 41, 42, 43, 44, 45, 46, 47, 48, 49, 50, 51, 52, 53, 54, 55, 56, 57, 58, 59, 60, 61, 62, 63, 64, 65, 66, 67, 68, 69, 70, 71, 72, 73, 74, 75, 76, 77, 78] x) w') :
    (Code.region 7 ops true).wp Try.prog Q a0 w := by
  simp only [Eng.fnOps, Eng.regOps, Try.f9, Option.bind_some, Option.getD_some, Nat.reduceEqDiff, ↓reduceIte] at hops
  subst hops
  have q1 : IntKind.i64.wrap (j : Int) = (j : Int) := by rw [IntKind.wrap_i64]; omega
  have q2 : (0 : Int) ≤ (j : Int) := by omega
  have q3 : (j : Int) < (len : Int) := by omega
  have q4 : (0 : Int) ≤ (j : Int) + 1 := by omega
  have q5 : (j : Int) + 1 < (len : Int) := by omega
  have HSt := Lib.hid (hst.keep (Fr.drew _ _))
  have hSS : w.drew.cell? ⟨b1, o1 + j, none⟩ = some (.slice xl.A xl.L.length xl.c) ∧ w.drew.cell? ⟨b1, o1 + (j + 1), none⟩ = some (.slice yl.A yl.L.length yl.c) := ⟨(HSt.out.b.cell (p := ⟨b1, _, none⟩) hblk).trans e0, (HSt.out.b.cell (p := ⟨b1, _, none⟩) hblk).trans e1⟩
  refine Eng.regionT (.take 0 (.take 1 (.take 2 (.take 3 (.take 4 (.take 5 (.take 6 (.take 7 (.take 8 (.take 10 (.take 11 (.take 12 (.take 13 (.take 14 (.take 15 (.take 16 (.take 17 (.take 18 (.alt 9 (.alt 19 (.alt 20 (.alt 21 (.take 22 (.take 23 (.take 24 (.take 25 (.take 26 (.take 27 (.take 28 (.take 29 (.take 30 (.take 31 (.take 32 (.take 34 (.alt 33 (.alt 35 (.take 36 (.take 37 (.take 38 (.take 39 (.take 40 (.take 41 (.take 42 (.take 43 (.take 44 (.take 45 (.take 46 (.take 47 (.take 49 (.take 50 (.take 51 (.alt 48 (.take 52 (.take 53 (.done))) (.stop))))))))))))))))) (.stop)) (.stop)))))))))))))) (.stop)) (.stop)) (.stop)) (.alt 19 (.alt 9 (.alt 20 (.alt 21 (.take 22 (.take 23 (.take 24 (.take 25 (.take 26 (.take 27 (.take 28 (.take 29 (.take 30 (.take 31 (.take 32 (.take 34 (.alt 33 (.alt 35 (.take 36 (.take 37 (.take 38 (.take 39 (.take 40 (.take 41 (.take 42 (.take 43 (.take 44 (.take 45 (.take 46 (.take 47 (.take 49 (.take 50 (.take 51 (.alt 48 (.take 52 (.take 53 (.done))) (.stop))))))))))))))))) (.stop)) (.stop)))))))))))))) (.stop)) (.stop)) (.stop)) (.stop))))))))))))))))))))) (fun w' => w'.cell? ⟨b1, o1 + j, none⟩ = some (.slice xl.A xl.L.length xl.c) ∧ w'.cell? ⟨b1, o1 + (j + 1), none⟩ = some (.slice yl.A yl.L.length yl.c)) (by kernel_rfl) 87 hn (by kernel_rfl) (by kernel_rfl) (by kernel_rfl) (hSS) (fun a b ha hb => ?_)
  subst ha
  have hb0 : b 0 = .slice (some ⟨b1, o1, none⟩) len c := (hb 0).symm.trans h_0
  have hb3 : b 3 = .int .i64 ((j + 1 : Nat) : Int) := (hb 3).symm.trans h_3
  have hb4 : b 4 = .slice A3 M.length c3 := (hb 4).symm.trans h_4
  clear hb h_0 h_3 h_4
  have HP := Lib.hid hpost; have HN := Lib.hid hn
  clear hpost hn
  refine Eng.TW.take' (v := ?_) rfl rfl (by decide) (by kernel_rfl) (fun w hw => ?_) ?_
  rotate_left
  · (try dsimp only at hw); go_simp; first | done | with_reducible rfl
  refine Eng.TW.take' (v := ?_) rfl rfl (by decide) (by kernel_rfl) (fun w hw => ?_) ?_
  rotate_left
  · (try dsimp only at hw); go_simp; first | done | with_reducible rfl
  refine Eng.TW.take' (v := ?_) rfl rfl (by decide) (by kernel_rfl) (fun w hw => ?_) ?_
  rotate_left
  · (try dsimp only at hw); go_simp; first | done | with_reducible rfl
  refine Eng.TW.take' (v := ?_) rfl rfl (by decide) (by kernel_rfl) (fun w hw => ?_) ?_
  rotate_left
  · (try dsimp only at hw); go_simp; first | done | with_reducible rfl
  refine Eng.TW.take' (v := ?_) rfl rfl (by decide) (by kernel_rfl) (fun w hw => ?_) ?_
  rotate_left
  · (try dsimp only at hw); go_simp; first | done | with_reducible rfl
  refine Eng.TW.take' (v := ?_) rfl rfl (by decide) (by kernel_rfl) (fun w hw => ?_) ?_
  rotate_left
  · (try dsimp only at hw); go_simp; first | done | with_reducible rfl
  refine Eng.TW.take' (v := ?_) rfl rfl (by decide) (by kernel_rfl) (fun w hw => ?_) ?_
  rotate_left
  · (try dsimp only at hw); go_simp; first | done | with_reducible rfl
  refine Eng.TW.take' (v := ?_) rfl rfl (by decide) (by kernel_rfl) (fun w hw => ?_) ?_
  rotate_left
  · (try dsimp only at hw); go_simp; first | done | with_reducible rfl
  refine Eng.TW.take' (v := ?_) rfl rfl (by decide) (by kernel_rfl) (fun w hw => ?_) ?_
  rotate_left
  · (try dsimp only at hw); go_simp; first | done | with_reducible rfl
  refine Eng.TW.take' (v := ?_) rfl rfl (by decide) (by kernel_rfl) (fun w hw => ?_) ?_
  rotate_left
  · (try dsimp only at hw); go_simp; first | done | with_reducible rfl
  refine Eng.TW.take' (v := ?_) rfl rfl (by decide) (by kernel_rfl) (fun w hw => ?_) ?_
  rotate_left
  · (try dsimp only at hw); go_simp; first | done | with_reducible rfl
  refine Eng.TW.take' (v := ?_) rfl rfl (by decide) (by kernel_rfl) (fun w hw => ?_) ?_
  rotate_left
  · (try dsimp only at hw); go_simp; first | done | with_reducible rfl
  refine Eng.TW.take' (v := ?_) rfl rfl (by decide) (by kernel_rfl) (fun w hw => ?_) ?_
  rotate_left
  · (try dsimp only at hw); go_simp; first | done | with_reducible rfl
  refine Eng.TW.take' (v := ?_) rfl rfl (by decide) (by kernel_rfl) (fun w hw => ?_) ?_
  rotate_left
  · (try dsimp only at hw); go_simp; first | done | with_reducible rfl
  refine Eng.TW.take' (v := ?_) rfl rfl (by decide) (by kernel_rfl) (fun w hw => ?_) ?_
  rotate_left
  · (try dsimp only at hw); go_simp; first | done | with_reducible rfl
  refine Eng.TW.take' (v := ?_) rfl rfl (by decide) (by kernel_rfl) (fun w hw => ?_) ?_
  rotate_left
  · (try dsimp only at hw); go_simp; first | done | with_reducible rfl
  refine Eng.TW.take' (v := ?_) rfl rfl (by decide) (by kernel_rfl) (fun w hw => ?_) ?_
  rotate_left
  · (try dsimp only at hw); go_simp; first | done | with_reducible rfl
  refine Eng.TW.take' (v := ?_) rfl rfl (by decide) (by kernel_rfl) (fun w hw => ?_) ?_
  rotate_left
  · (try dsimp only at hw); go_simp; first | done | with_reducible rfl
  refine Eng.TW.both ?_ ?_
  · refine Eng.TW.call rfl rfl (by decide) (by kernel_rfl) ?_ (JoinE (HSt.out.x xl (by simp)) (HSt.out.x yl (by simp)) (by omega) J hJ) ?_
    · go_simp
    rintro e w2 ⟨A4, c4, rfl, h1, -, h3⟩
    have HSt2 := Lib.hid ((HSt.out.below h3).add h1)
    have hSS : w2.cell? ⟨b1, o1 + j, none⟩ = some (.slice xl.A xl.L.length xl.c) ∧ w2.cell? ⟨b1, o1 + (j + 1), none⟩ = some (.slice yl.A yl.L.length yl.c) := ⟨(HSt2.out.b.cell (p := ⟨b1, _, none⟩) hblk).trans e0, (HSt2.out.b.cell (p := ⟨b1, _, none⟩) hblk).trans e1⟩
    clear h1 h3
    refine ⟨_, rfl, hSS, ?_⟩
    refine Eng.TW.step rfl rfl (by decide) (by kernel_rfl) (by go_simp; first | done | with_reducible rfl) (⟨((HSt2.out.pair xl yl).b.cell (p := ⟨b1, _, none⟩) hblk).trans e0, ((HSt2.out.pair xl yl).b.cell (p := ⟨b1, _, none⟩) hblk).trans e1⟩) ?_
    have HSt3 := Lib.hid (HSt2.out.pair xl yl)
    have hSS : ((w2).alloc (.cells #[.slice xl.A xl.L.length xl.c, .slice yl.A yl.L.length yl.c] TSs)).cell? ⟨b1, o1 + j, none⟩ = some (.slice xl.A xl.L.length xl.c) ∧ ((w2).alloc (.cells #[.slice xl.A xl.L.length xl.c, .slice yl.A yl.L.length yl.c] TSs)).cell? ⟨b1, o1 + (j + 1), none⟩ = some (.slice yl.A yl.L.length yl.c) := ⟨(HSt3.out.b.cell (p := ⟨b1, _, none⟩) hblk).trans e0, (HSt3.out.b.cell (p := ⟨b1, _, none⟩) hblk).trans e1⟩
    refine Eng.TW.call rfl rfl (by decide) (by kernel_rfl) ?_ (RefAllE (l := [xl, yl]) (HSt3.out.y _ (List.mem_cons_self ..)) (JI.two (HSt3.out.x xl (by simp)) (HSt3.out.x yl (by simp))) (by rw [cat2, List.length_append]; omega) rfl J (by rw [cat2]; exact hJ)) ?_
    · go_simp
    rintro e w4 ⟨A5, c5, rfl, h1, -, h3⟩
    have HSt4 := Lib.hid ((HSt3.out.below h3).add h1)
    have hSS : w4.cell? ⟨b1, o1 + j, none⟩ = some (.slice xl.A xl.L.length xl.c) ∧ w4.cell? ⟨b1, o1 + (j + 1), none⟩ = some (.slice yl.A yl.L.length yl.c) := ⟨(HSt4.out.b.cell (p := ⟨b1, _, none⟩) hblk).trans e0, (HSt4.out.b.cell (p := ⟨b1, _, none⟩) hblk).trans e1⟩
    clear h1 h3
    refine ⟨_, rfl, hSS, ?_⟩
    refine Eng.TW.call rfl rfl (by decide) (by kernel_rfl) ?_ (SameT (HSt4.out.x _ (List.mem_cons_of_mem _ (List.mem_cons_self ..))) (HSt4.out.x _ (List.mem_cons_self ..)) rfl) ?_
    · go_simp
    rintro e w5 ⟨rfl, hf⟩
    have HSt5 := Lib.hid (HSt4.out.keep hf)
    have hSS : w5.cell? ⟨b1, o1 + j, none⟩ = some (.slice xl.A xl.L.length xl.c) ∧ w5.cell? ⟨b1, o1 + (j + 1), none⟩ = some (.slice yl.A yl.L.length yl.c) := ⟨(HSt5.out.b.cell (p := ⟨b1, _, none⟩) hblk).trans e0, (HSt5.out.b.cell (p := ⟨b1, _, none⟩) hblk).trans e1⟩
    clear hf
    refine ⟨_, rfl, hSS, ?_⟩
    refine Eng.TW.take' (v := ?_) rfl rfl (by decide) (by kernel_rfl) (fun w hw => ?_) ?_
    rotate_left
    · (try dsimp only at hw); go_simp; first | done | with_reducible rfl
    refine Eng.TW.take' (v := ?_) rfl rfl (by decide) (by kernel_rfl) (fun w hw => ?_) ?_
    rotate_left
    · (try dsimp only at hw); go_simp; first | done | with_reducible rfl
    refine Eng.TW.take' (v := ?_) rfl rfl (by decide) (by kernel_rfl) (fun w hw => ?_) ?_
    rotate_left
    · (try dsimp only at hw); go_simp; first | done | with_reducible rfl
    refine Eng.TW.take' (v := ?_) rfl rfl (by decide) (by kernel_rfl) (fun w hw => ?_) ?_
    rotate_left
    · (try dsimp only at hw); go_simp; first | done | with_reducible rfl
    refine Eng.TW.take' (v := ?_) rfl rfl (by decide) (by kernel_rfl) (fun w hw => ?_) ?_
    rotate_left
    · (try dsimp only at hw); go_simp; first | done | with_reducible rfl
    refine Eng.TW.take' (v := ?_) rfl rfl (by decide) (by kernel_rfl) (fun w hw => ?_) ?_
    rotate_left
    · (try dsimp only at hw); go_simp; first | done | with_reducible rfl
    refine Eng.TW.take' (v := ?_) rfl rfl (by decide) (by kernel_rfl) (fun w hw => ?_) ?_
    rotate_left
    · (try dsimp only at hw); go_simp; first | done | with_reducible rfl
    refine Eng.TW.take' (v := ?_) rfl rfl (by decide) (by kernel_rfl) (fun w hw => ?_) ?_
    rotate_left
    · (try dsimp only at hw); go_simp; first | done | with_reducible rfl
    refine Eng.TW.take' (v := ?_) rfl rfl (by decide) (by kernel_rfl) (fun w hw => ?_) ?_
    rotate_left
    · (try dsimp only at hw); go_simp; first | done | with_reducible rfl
    refine Eng.TW.take' (v := ?_) rfl rfl (by decide) (by kernel_rfl) (fun w hw => ?_) ?_
    rotate_left
    · (try dsimp only at hw); go_simp; first | done | with_reducible rfl
    refine Eng.TW.take' (v := ?_) rfl rfl (by decide) (by kernel_rfl) (fun w hw => ?_) ?_
    rotate_left
    · (try dsimp only at hw); go_simp; first | done | with_reducible rfl
    refine Eng.TW.take' (v := ?_) rfl rfl (by decide) (by kernel_rfl) (fun w hw => ?_) ?_
    rotate_left
    · (try dsimp only at hw); go_simp; first | done | with_reducible rfl
    refine Eng.TW.call rfl rfl (by decide) (by kernel_rfl) ?_ (MissE (HSt5.out.x xl (by simp)) (HSt5.out.x yl (by simp)) (by omega) (by omega) M hM) ?_
    · go_simp
    rintro e w6 ⟨A6, c6, rfl, h1, -, h3⟩
    have HSt6 := Lib.hid ((HSt5.out.below h3).add h1)
    have hSS : w6.cell? ⟨b1, o1 + j, none⟩ = some (.slice xl.A xl.L.length xl.c) ∧ w6.cell? ⟨b1, o1 + (j + 1), none⟩ = some (.slice yl.A yl.L.length yl.c) := ⟨(HSt6.out.b.cell (p := ⟨b1, _, none⟩) hblk).trans e0, (HSt6.out.b.cell (p := ⟨b1, _, none⟩) hblk).trans e1⟩
    clear h1 h3
    refine ⟨_, rfl, hSS, ?_⟩
    refine Eng.TW.call rfl rfl (by decide) (by kernel_rfl) ?_ (SameT (HSt6.out.x _ (List.mem_cons_self ..)) (HSt6.out.x ⟨A3, c3, M⟩ (by simp)) rfl) ?_
    · go_simp
    rintro e w7 ⟨rfl, hf⟩
    have HSt7 := Lib.hid (HSt6.out.keep hf)
    have hSS : w7.cell? ⟨b1, o1 + j, none⟩ = some (.slice xl.A xl.L.length xl.c) ∧ w7.cell? ⟨b1, o1 + (j + 1), none⟩ = some (.slice yl.A yl.L.length yl.c) := ⟨(HSt7.out.b.cell (p := ⟨b1, _, none⟩) hblk).trans e0, (HSt7.out.b.cell (p := ⟨b1, _, none⟩) hblk).trans e1⟩
    clear hf
    refine ⟨_, rfl, hSS, ?_⟩
    refine Eng.TW.take' (v := ?_) rfl rfl (by decide) (by kernel_rfl) (fun w hw => ?_) ?_
    rotate_left
    · (try dsimp only at hw); go_simp; first | done | with_reducible rfl
    refine Eng.TW.take' (v := ?_) rfl rfl (by decide) (by kernel_rfl) (fun w hw => ?_) ?_
    rotate_left
    · (try dsimp only at hw); go_simp; first | done | with_reducible rfl
    refine Eng.TW.take' (v := ?_) rfl rfl (by decide) (by kernel_rfl) (fun w hw => ?_) ?_
    rotate_left
    · (try dsimp only at hw); go_simp; first | done | with_reducible rfl
    refine Eng.TW.take' (v := ?_) rfl rfl (by decide) (by kernel_rfl) (fun w hw => ?_) ?_
    rotate_left
    · (try dsimp only at hw); go_simp; first | done | with_reducible rfl
    refine Eng.TW.take' (v := ?_) rfl rfl (by decide) (by kernel_rfl) (fun w hw => ?_) ?_
    rotate_left
    · (try dsimp only at hw); go_simp; first | done | with_reducible rfl
    refine Eng.TW.take' (v := ?_) rfl rfl (by decide) (by kernel_rfl) (fun w hw => ?_) ?_
    rotate_left
    · (try dsimp only at hw); go_simp; first | done | with_reducible rfl
    refine Eng.TW.take' (v := ?_) rfl rfl (by decide) (by kernel_rfl) (fun w hw => ?_) ?_
    rotate_left
    · (try dsimp only at hw); go_simp; first | done | with_reducible rfl
    refine Eng.TW.take' (v := ?_) rfl rfl (by decide) (by kernel_rfl) (fun w hw => ?_) ?_
    rotate_left
    · (try dsimp only at hw); go_simp; first | done | with_reducible rfl
    refine Eng.TW.take' (v := ?_) rfl rfl (by decide) (by kernel_rfl) (fun w hw => ?_) ?_
    rotate_left
    · (try dsimp only at hw); go_simp; first | done | with_reducible rfl
    refine Eng.TW.take' (v := ?_) rfl rfl (by decide) (by kernel_rfl) (fun w hw => ?_) ?_
    rotate_left
    · (try dsimp only at hw); go_simp; first | done | with_reducible rfl
    refine Eng.TW.take' (v := ?_) rfl rfl (by decide) (by kernel_rfl) (fun w hw => ?_) ?_
    rotate_left
    · (try dsimp only at hw); go_simp; first | done | with_reducible rfl
    refine Eng.TW.take' (v := ?_) rfl rfl (by decide) (by kernel_rfl) (fun w hw => ?_) ?_
    rotate_left
    · (try dsimp only at hw); go_simp; first | done | with_reducible rfl
    refine Eng.TW.take' (v := ?_) rfl rfl (by decide) (by kernel_rfl) (fun w hw => ?_) ?_
    rotate_left
    · (try dsimp only at hw); go_simp; first | done | with_reducible rfl
    refine Eng.TW.take' (v := ?_) rfl rfl (by decide) (by kernel_rfl) (fun w hw => ?_) ?_
    rotate_left
    · (try dsimp only at hw); go_simp; first | done | with_reducible rfl
    refine Eng.TW.take' (v := ?_) rfl rfl (by decide) (by kernel_rfl) (fun w hw => ?_) ?_
    rotate_left
    · (try dsimp only at hw); go_simp; first | done | with_reducible rfl
    refine Eng.TW.call rfl rfl (by decide) (by kernel_rfl) ?_ (CoversB (HSt7.out.x xl (by simp)) (HSt7.out.x yl (by simp)) (by omega) (by omega) q hq) ?_
    · go_simp
    rintro e w8 ⟨rfl, hb⟩
    have HSt8 := Lib.hid (HSt7.out.below hb)
    have hSS : w8.cell? ⟨b1, o1 + j, none⟩ = some (.slice xl.A xl.L.length xl.c) ∧ w8.cell? ⟨b1, o1 + (j + 1), none⟩ = some (.slice yl.A yl.L.length yl.c) := ⟨(HSt8.out.b.cell (p := ⟨b1, _, none⟩) hblk).trans e0, (HSt8.out.b.cell (p := ⟨b1, _, none⟩) hblk).trans e1⟩
    clear hb
    refine ⟨_, rfl, hSS, ?_⟩
    refine Eng.TW.take' (v := ?_) rfl rfl (by decide) (by kernel_rfl) (fun w hw => ?_) ?_
    rotate_left
    · (try dsimp only at hw); go_simp; first | done | with_reducible rfl
    refine Eng.TW.take' (v := ?_) rfl rfl (by decide) (by kernel_rfl) (fun w hw => ?_) ?_
    rotate_left
    · (try dsimp only at hw); go_simp; first | done | with_reducible rfl
    refine Eng.TW.end_ [25, 26, 27, 28, 29, 30, 31, 32, 33, 34, 35, 36, 37, 38, 39, 40, 41, 42, 43, 44, 45, 46, 47, 48, 49, 50, 51, 52, 53, 54, 55, 56, 57, 58, 59, 60, 61, 62, 63, 64, 65, 66, 67, 68, 69, 70, 71, 72, 73, 74, 75, 76, 77, 78] HN.out (by kernel_rfl) (by kernel_rfl) ?_
    exact HP.out _ _ rfl HSt8.out.b
  refine Eng.TW.step rfl rfl (by decide) (by kernel_rfl) (by go_simp; first | done | with_reducible rfl) (⟨((HSt.out.pair xl yl).b.cell (p := ⟨b1, _, none⟩) hblk).trans e0, ((HSt.out.pair xl yl).b.cell (p := ⟨b1, _, none⟩) hblk).trans e1⟩) ?_
  have HSt2 := Lib.hid (HSt.out.pair xl yl)
  have hSS : ((w.drew).alloc (.cells #[.slice xl.A xl.L.length xl.c, .slice yl.A yl.L.length yl.c] TSs)).cell? ⟨b1, o1 + j, none⟩ = some (.slice xl.A xl.L.length xl.c) ∧ ((w.drew).alloc (.cells #[.slice xl.A xl.L.length xl.c, .slice yl.A yl.L.length yl.c] TSs)).cell? ⟨b1, o1 + (j + 1), none⟩ = some (.slice yl.A yl.L.length yl.c) := ⟨(HSt2.out.b.cell (p := ⟨b1, _, none⟩) hblk).trans e0, (HSt2.out.b.cell (p := ⟨b1, _, none⟩) hblk).trans e1⟩
  refine Eng.TW.call rfl rfl (by decide) (by kernel_rfl) ?_ (JoinE (HSt2.out.x xl (by simp)) (HSt2.out.x yl (by simp)) (by omega) J hJ) ?_
  · go_simp
  rintro e w3 ⟨A4, c4, rfl, h1, -, h3⟩
  have HSt3 := Lib.hid ((HSt2.out.below h3).add h1)
  have hSS : w3.cell? ⟨b1, o1 + j, none⟩ = some (.slice xl.A xl.L.length xl.c) ∧ w3.cell? ⟨b1, o1 + (j + 1), none⟩ = some (.slice yl.A yl.L.length yl.c) := ⟨(HSt3.out.b.cell (p := ⟨b1, _, none⟩) hblk).trans e0, (HSt3.out.b.cell (p := ⟨b1, _, none⟩) hblk).trans e1⟩
  clear h1 h3
  refine ⟨_, rfl, hSS, ?_⟩
  refine Eng.TW.call rfl rfl (by decide) (by kernel_rfl) ?_ (RefAllE (l := [xl, yl]) (HSt3.out.y _ (List.mem_cons_self ..)) (JI.two (HSt3.out.x xl (by simp)) (HSt3.out.x yl (by simp))) (by rw [cat2, List.length_append]; omega) rfl J (by rw [cat2]; exact hJ)) ?_
  · go_simp
  rintro e w4 ⟨A5, c5, rfl, h1, -, h3⟩
  have HSt4 := Lib.hid ((HSt3.out.below h3).add h1)
  have hSS : w4.cell? ⟨b1, o1 + j, none⟩ = some (.slice xl.A xl.L.length xl.c) ∧ w4.cell? ⟨b1, o1 + (j + 1), none⟩ = some (.slice yl.A yl.L.length yl.c) := ⟨(HSt4.out.b.cell (p := ⟨b1, _, none⟩) hblk).trans e0, (HSt4.out.b.cell (p := ⟨b1, _, none⟩) hblk).trans e1⟩
  clear h1 h3
  refine ⟨_, rfl, hSS, ?_⟩
  refine Eng.TW.call rfl rfl (by decide) (by kernel_rfl) ?_ (SameT (HSt4.out.x _ (List.mem_cons_of_mem _ (List.mem_cons_self ..))) (HSt4.out.x _ (List.mem_cons_self ..)) rfl) ?_
  · go_simp
  rintro e w5 ⟨rfl, hf⟩
  have HSt5 := Lib.hid (HSt4.out.keep hf)
  have hSS : w5.cell? ⟨b1, o1 + j, none⟩ = some (.slice xl.A xl.L.length xl.c) ∧ w5.cell? ⟨b1, o1 + (j + 1), none⟩ = some (.slice yl.A yl.L.length yl.c) := ⟨(HSt5.out.b.cell (p := ⟨b1, _, none⟩) hblk).trans e0, (HSt5.out.b.cell (p := ⟨b1, _, none⟩) hblk).trans e1⟩
  clear hf
  refine ⟨_, rfl, hSS, ?_⟩
  refine Eng.TW.take' (v := ?_) rfl rfl (by decide) (by kernel_rfl) (fun w hw => ?_) ?_
  rotate_left
  · (try dsimp only at hw); go_simp; first | done | with_reducible rfl
  refine Eng.TW.take' (v := ?_) rfl rfl (by decide) (by kernel_rfl) (fun w hw => ?_) ?_
  rotate_left
  · (try dsimp only at hw); go_simp; first | done | with_reducible rfl
  refine Eng.TW.take' (v := ?_) rfl rfl (by decide) (by kernel_rfl) (fun w hw => ?_) ?_
  rotate_left
  · (try dsimp only at hw); go_simp; first | done | with_reducible rfl
  refine Eng.TW.take' (v := ?_) rfl rfl (by decide) (by kernel_rfl) (fun w hw => ?_) ?_
  rotate_left
  · (try dsimp only at hw); go_simp; first | done | with_reducible rfl
  refine Eng.TW.take' (v := ?_) rfl rfl (by decide) (by kernel_rfl) (fun w hw => ?_) ?_
  rotate_left
  · (try dsimp only at hw); go_simp; first | done | with_reducible rfl
  refine Eng.TW.take' (v := ?_) rfl rfl (by decide) (by kernel_rfl) (fun w hw => ?_) ?_
  rotate_left
  · (try dsimp only at hw); go_simp; first | done | with_reducible rfl
  refine Eng.TW.take' (v := ?_) rfl rfl (by decide) (by kernel_rfl) (fun w hw => ?_) ?_
  rotate_left
  · (try dsimp only at hw); go_simp; first | done | with_reducible rfl
  refine Eng.TW.take' (v := ?_) rfl rfl (by decide) (by kernel_rfl) (fun w hw => ?_) ?_
  rotate_left
  · (try dsimp only at hw); go_simp; first | done | with_reducible rfl
  refine Eng.TW.take' (v := ?_) rfl rfl (by decide) (by kernel_rfl) (fun w hw => ?_) ?_
  rotate_left
  · (try dsimp only at hw); go_simp; first | done | with_reducible rfl
  refine Eng.TW.take' (v := ?_) rfl rfl (by decide) (by kernel_rfl) (fun w hw => ?_) ?_
  rotate_left
  · (try dsimp only at hw); go_simp; first | done | with_reducible rfl
  refine Eng.TW.take' (v := ?_) rfl rfl (by decide) (by kernel_rfl) (fun w hw => ?_) ?_
  rotate_left
  · (try dsimp only at hw); go_simp; first | done | with_reducible rfl
  refine Eng.TW.take' (v := ?_) rfl rfl (by decide) (by kernel_rfl) (fun w hw => ?_) ?_
  rotate_left
  · (try dsimp only at hw); go_simp; first | done | with_reducible rfl
  refine Eng.TW.call rfl rfl (by decide) (by kernel_rfl) ?_ (MissE (HSt5.out.x xl (by simp)) (HSt5.out.x yl (by simp)) (by omega) (by omega) M hM) ?_
  · go_simp
  rintro e w6 ⟨A6, c6, rfl, h1, -, h3⟩
  have HSt6 := Lib.hid ((HSt5.out.below h3).add h1)
  have hSS : w6.cell? ⟨b1, o1 + j, none⟩ = some (.slice xl.A xl.L.length xl.c) ∧ w6.cell? ⟨b1, o1 + (j + 1), none⟩ = some (.slice yl.A yl.L.length yl.c) := ⟨(HSt6.out.b.cell (p := ⟨b1, _, none⟩) hblk).trans e0, (HSt6.out.b.cell (p := ⟨b1, _, none⟩) hblk).trans e1⟩
  clear h1 h3
  refine ⟨_, rfl, hSS, ?_⟩
  refine Eng.TW.call rfl rfl (by decide) (by kernel_rfl) ?_ (SameT (HSt6.out.x _ (List.mem_cons_self ..)) (HSt6.out.x ⟨A3, c3, M⟩ (by simp)) rfl) ?_
  · go_simp
  rintro e w7 ⟨rfl, hf⟩
  have HSt7 := Lib.hid (HSt6.out.keep hf)
  have hSS : w7.cell? ⟨b1, o1 + j, none⟩ = some (.slice xl.A xl.L.length xl.c) ∧ w7.cell? ⟨b1, o1 + (j + 1), none⟩ = some (.slice yl.A yl.L.length yl.c) := ⟨(HSt7.out.b.cell (p := ⟨b1, _, none⟩) hblk).trans e0, (HSt7.out.b.cell (p := ⟨b1, _, none⟩) hblk).trans e1⟩
  clear hf
  refine ⟨_, rfl, hSS, ?_⟩
  refine Eng.TW.take' (v := ?_) rfl rfl (by decide) (by kernel_rfl) (fun w hw => ?_) ?_
  rotate_left
  · (try dsimp only at hw); go_simp; first | done | with_reducible rfl
  refine Eng.TW.take' (v := ?_) rfl rfl (by decide) (by kernel_rfl) (fun w hw => ?_) ?_
  rotate_left
  · (try dsimp only at hw); go_simp; first | done | with_reducible rfl
  refine Eng.TW.take' (v := ?_) rfl rfl (by decide) (by kernel_rfl) (fun w hw => ?_) ?_
  rotate_left
  · (try dsimp only at hw); go_simp; first | done | with_reducible rfl
  refine Eng.TW.take' (v := ?_) rfl rfl (by decide) (by kernel_rfl) (fun w hw => ?_) ?_
  rotate_left
  · (try dsimp only at hw); go_simp; first | done | with_reducible rfl
  refine Eng.TW.take' (v := ?_) rfl rfl (by decide) (by kernel_rfl) (fun w hw => ?_) ?_
  rotate_left
  · (try dsimp only at hw); go_simp; first | done | with_reducible rfl
  refine Eng.TW.take' (v := ?_) rfl rfl (by decide) (by kernel_rfl) (fun w hw => ?_) ?_
  rotate_left
  · (try dsimp only at hw); go_simp; first | done | with_reducible rfl
  refine Eng.TW.take' (v := ?_) rfl rfl (by decide) (by kernel_rfl) (fun w hw => ?_) ?_
  rotate_left
  · (try dsimp only at hw); go_simp; first | done | with_reducible rfl
  refine Eng.TW.take' (v := ?_) rfl rfl (by decide) (by kernel_rfl) (fun w hw => ?_) ?_
  rotate_left
  · (try dsimp only at hw); go_simp; first | done | with_reducible rfl
  refine Eng.TW.take' (v := ?_) rfl rfl (by decide) (by kernel_rfl) (fun w hw => ?_) ?_
  rotate_left
  · (try dsimp only at hw); go_simp; first | done | with_reducible rfl
  refine Eng.TW.take' (v := ?_) rfl rfl (by decide) (by kernel_rfl) (fun w hw => ?_) ?_
  rotate_left
  · (try dsimp only at hw); go_simp; first | done | with_reducible rfl
  refine Eng.TW.take' (v := ?_) rfl rfl (by decide) (by kernel_rfl) (fun w hw => ?_) ?_
  rotate_left
  · (try dsimp only at hw); go_simp; first | done | with_reducible rfl
  refine Eng.TW.take' (v := ?_) rfl rfl (by decide) (by kernel_rfl) (fun w hw => ?_) ?_
  rotate_left
  · (try dsimp only at hw); go_simp; first | done | with_reducible rfl
  refine Eng.TW.take' (v := ?_) rfl rfl (by decide) (by kernel_rfl) (fun w hw => ?_) ?_
  rotate_left
  · (try dsimp only at hw); go_simp; first | done | with_reducible rfl
  refine Eng.TW.take' (v := ?_) rfl rfl (by decide) (by kernel_rfl) (fun w hw => ?_) ?_
  rotate_left
  · (try dsimp only at hw); go_simp; first | done | with_reducible rfl
  refine Eng.TW.take' (v := ?_) rfl rfl (by decide) (by kernel_rfl) (fun w hw => ?_) ?_
  rotate_left
  · (try dsimp only at hw); go_simp; first | done | with_reducible rfl
  refine Eng.TW.call rfl rfl (by decide) (by kernel_rfl) ?_ (CoversB (HSt7.out.x xl (by simp)) (HSt7.out.x yl (by simp)) (by omega) (by omega) q hq) ?_
  · go_simp
  rintro e w8 ⟨rfl, hb⟩
  have HSt8 := Lib.hid (HSt7.out.below hb)
  have hSS : w8.cell? ⟨b1, o1 + j, none⟩ = some (.slice xl.A xl.L.length xl.c) ∧ w8.cell? ⟨b1, o1 + (j + 1), none⟩ = some (.slice yl.A yl.L.length yl.c) := ⟨(HSt8.out.b.cell (p := ⟨b1, _, none⟩) hblk).trans e0, (HSt8.out.b.cell (p := ⟨b1, _, none⟩) hblk).trans e1⟩
  clear hb
  refine ⟨_, rfl, hSS, ?_⟩
  refine Eng.TW.take' (v := ?_) rfl rfl (by decide) (by kernel_rfl) (fun w hw => ?_) ?_
  rotate_left
  · (try dsimp only at hw); go_simp; first | done | with_reducible rfl
  refine Eng.TW.take' (v := ?_) rfl rfl (by decide) (by kernel_rfl) (fun w hw => ?_) ?_
  rotate_left
  · (try dsimp only at hw); go_simp; first | done | with_reducible rfl
  refine Eng.TW.end_ [25, 26, 27, 28, 29, 30, 31, 32, 33, 34, 35, 36, 37, 38, 39, 40, 41, 42, 43, 44, 45, 46, 47, 48, 49, 50, 51, 52, 53, 54, 55, 56, 57, 58, 59, 60, 61, 62, 63, 64, 65, 66, 67, 68, 69, 70, 71, 72, 73, 74, 75, 76, 77, 78] HN.out (by kernel_rfl) (by kernel_rfl) ?_
  exact HP.out _ _ rfl HSt8.out.b

theorem cat_le {l : List Lv} (h : ∀ x ∈ l, x.L.length ≤ 12) : (cat l).length ≤ l.length * 12 := by
  induction l with
  | nil => simp [cat]
  | cons x l ih =>
    have h1 := h x (by simp)
    have h2 := ih (fun y hy => h y (by simp [hy]))
    show (x.L ++ cat l).length ≤ _
    rw [List.length_append, List.length_cons]; omega
theorem fews_len {l : List Lv} (h : Join.fewsB l = true) : l.length ≤ 8 ∧ ∀ x ∈ l, x.L.length ≤ 12 := by
  unfold Join.fewsB at h
  simp only [Bool.and_eq_true, decide_eq_true_eq] at h
  refine ⟨h.2, fun x hx => ?_⟩
  have h1 := h.1
  rw [List.take_of_length_le h.2, List.all_eq_true] at h1
  exact few_len (h1 x hx)
set_option maxRecDepth 100000 in
set_option maxHeartbeats 2000000 in
theorem is_ (A0 : Option Addr) (c0 : Nat) (l : List Lv) (w : World) (hS : Sl w 1 A0 l.length c0 (l.flatMap lvc)) (hR : ∀ x ∈ l, Rd w x) :
    Calls Try.prog 9 #[.slice A0 l.length c0] w fun e w' => e = .returned (.bool true) ∧ Below w.heap.size w w' := by
  have HS := Lib.hid hS; have HR := Lib.hid hR
  clear hS hR
  go_enter Try.func9, Try.ntmps9
  go_wp2_with fail
  refine (Join.Few A0 c0 l w HS.out HR.out).mono ?_
  rintro e w1 ⟨rfl, hf⟩
  have HB := Lib.hid (hf.below (Nat.le_refl _) (fun _ _ h => h))
  clear hf
  cases hq : Join.fewsB l with
  | false =>
    go_wp2_with fail
    refine (awake w1).mono ?_
    rintro e w2 ⟨rfl, hb⟩
    replace HB := Lib.hid (HB.out.trans (hb.mono HB.out.size))
    clear hb
    go_wp2_with fail
    go_ret
    exact ⟨rfl, HB.out⟩
  | true =>
    obtain ⟨hl8, hl12⟩ := fews_len hq
    have HL12 := Lib.hid hl12
    have HCl : Hid ((cat l).length ≤ 1000000) := by have := cat_le hl12; show _ ≤ _; omega
    clear hq hl12
    go_wp2_with fail
    go_loopg [3, 4] l.length (fun gk i _ wr => ∃ j : Nat, i = .int .i64 ((j + 1 : Nat) : Int) ∧ j ≤ l.length ∧ gk = l.length - j ∧ Below w.heap.size w wr)
    case atStart => exact ⟨0, rfl, Nat.zero_le _, rfl, HB.out⟩
    case round =>
      clear HB
      obtain ⟨j, rfl, hk, hg, hbel⟩ := hrel
      have HG := Lib.hid hg; have HB := Lib.hid hbel
      have hszw : w.heap.size ≤ wr.heap.size := hbel.size
      clear hg hbel
      by_cases hlt : j + 1 < l.length
      · obtain ⟨b1, o1, rfl, hb1, c1⟩ := HS.out.at hlt (by omega)
        have hlt' : j < l.length := by omega
        have he0 := HB.out.cell (p := ⟨b1, o1 + j, none⟩) hb1
        have he1 := HB.out.cell (p := ⟨b1, o1 + (j + 1), none⟩) hb1
        rw [c1 j _ (lv_at hlt')] at he0
        rw [c1 (j + 1) _ (lv_at hlt)] at he1
        have E0 := Lib.hid he0; have E1 := Lib.hid he1
        have hbr : b1 < wr.heap.size := by omega
        have HX := Lib.hid ((HR.out _ (List.getElem_mem hlt')).below HB.out)
        have HY := Lib.hid ((HR.out _ (List.getElem_mem hlt)).below HB.out)
        have hx := HL12.out _ (List.getElem_mem hlt')
        have hy := HL12.out _ (List.getElem_mem hlt)
        clear c1 he0 he1 hb1
        generalize l[j] = xl at *
        generalize l[j + 1] = yl at *
        obtain ⟨M, hM⟩ : ∃ M, Hid (miss xl.L yl.L = M) := ⟨_, Lib.hid rfl⟩
        obtain ⟨J, hJ⟩ : ∃ J, Hid (setOf (xl.L ++ yl.L) = J) := ⟨_, Lib.hid rfl⟩
        have HQ : Hid (((M.length : Int) == 0) = decide (miss xl.L yl.L = [])) := by
          show _ = _
          rw [hM.out]
          cases M with
          | nil => rfl
          | cons x l => simp; omega
        have q2 : decide (((j + 1 : Nat) : Int) < (l.length : Int)) = true := by simp; omega
        have hl64 : l.length ≤ 9223372036854775807 := by omega
        go_upto_region 6 with (fail)
        refine ji6 (by kernel_rfl) _ _ wr wr b1 o1 _ _ j xl yl hbr E0.out E1.out hlt hl64 (by omega) (by omega) M hM.out ⟨JI.two HX.out HY.out, by simp, Below.refl _ _⟩ rfl rfl rfl ?_
        intro x w2 A3 c3 x4 hst
        simp only [Eng.setAll, Act.put, List.setIfInBounds_toArray, List.set_cons_succ, List.set_cons_zero]
        rw [x4]
        have HSt := Lib.hid hst
        have hbr2 : b1 < w2.heap.size := by have := HSt.out.b.size; omega
        clear x4 hst
        go_upto_region 7 with (fail)
        refine ji7 (by kernel_rfl) _ _ w2 w2 b1 o1 _ _ j xl yl hbr2 ((HSt.out.b.cell (p := ⟨b1, _, none⟩) hbr).trans E0.out) ((HSt.out.b.cell (p := ⟨b1, _, none⟩) hbr).trans E1.out) hlt hl64 (by omega) (by omega) M J hM.out hJ.out _ rfl HQ.out A3 c3 ⟨HSt.out.x, by simp, Below.refl _ _⟩ rfl rfl rfl rfl ?_
        intro x w3 x78 hb
        simp only [Eng.setAll, Act.put, List.setIfInBounds_toArray, List.set_cons_succ, List.set_cons_zero]
        rw [x78]
        replace HB := Lib.hid ((HB.out.trans (HSt.out.b.mono hszw)).trans (hb.mono (by have := HSt.out.b.size; omega)))
        clear x78 hb
        go_wp2_with fail
        go_roundg (l.length - (j + 1))
        case rel => exact ⟨j + 1, by go_num, by omega, rfl, HB.out⟩
        case measure => have := HG.out; omega
      · have q2 : decide (((j + 1 : Nat) : Int) < (l.length : Int)) = false := by simp; omega
        have z1 : ¬ (j + 1 < l.length) := hlt
        have hRr : ∀ x ∈ l, Rd wr x := fun x hx => (HR.out x hx).below HB.out
        have HA := Lib.hid (AllE (HS.out.fr (Fr.of_below' HB.out (fun _ => False)) (fun _ _ h => h)) hRr HCl.out rfl _ rfl)
        clear hRr
        go_wp2_with fail
        refine HA.out.mono ?_
        rintro e w4 ⟨A4, c4, rfl, hls, -, hb⟩
        have H1 := Lib.hid hls
        have HB4 := Lib.hid (HB.out.trans (hb.mono hszw))
        clear hls hb HA HB
        have hRr : ∀ x ∈ l, Rd w4 x := fun x hx => (HR.out x hx).below HB4.out
        have HA := Lib.hid (RefAllE (HS.out.fr (Fr.of_below' HB4.out (fun _ => False)) (fun _ _ h => h)) hRr HCl.out rfl _ rfl)
        clear hRr
        go_wp2_with fail
        refine HA.out.mono ?_
        rintro e w5 ⟨A5, c5, rfl, hls, -, hb⟩
        have HT := Lib.hid (SameT (H1.out.below hb) hls rfl)
        have HB5 := Lib.hid (HB4.out.trans (hb.mono HB4.out.size))
        clear hls hb HA HB4 H1
        go_wp2_with fail
        refine HT.out.mono ?_
        rintro e w6 ⟨rfl, hf⟩
        have HB6 := Lib.hid (HB5.out.trans (hf.below HB5.out.size (fun _ _ h => h)))
        clear hf HB5 HT
        go_wp2_with fail
        refine (awake w6).mono ?_
        rintro e w7 ⟨rfl, hb⟩
        have HB7 := Lib.hid (HB6.out.trans (hb.mono HB6.out.size))
        clear hb HB6
        go_wp2_with fail
        go_ret
        exact ⟨rfl, HB7.out⟩
end Law19
end Go.Proofs.Ytkhhdadlpilbmaa
