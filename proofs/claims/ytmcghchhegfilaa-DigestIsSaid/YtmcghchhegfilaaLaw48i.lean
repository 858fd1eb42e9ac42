/- Layer 48's statements: DigestIs: for every input the answer is true. -/
import Derived.Test.YtmcghchhegfilaaLaw48r
import Derived.Deep.MidRow
namespace Go.Proofs.Ytmcghchhegfilaa
open Go.RowKit
namespace Law48
open KeyP PackP SetP SetW SetF Code_ Rank DigW
attribute [local go_sem] Eng.ev Eng.getO_cons Eng.getO_nil
/-- Lists of records and of numbers that lie there. -/
structure DI (w0 w : World) (xs : List Lv) (ys : List (Option Addr × Nat × List Int)) : Prop where
  x : ∀ q ∈ xs, Rd w q
  y : ∀ q ∈ ys, Il w q.1 q.2.1 q.2.2
  b : Below w0.heap.size w0 w
theorem DI.below {w0 w w' : World} {xs : List Lv} {ys : List (Option Addr × Nat × List Int)} (h : DI w0 w xs ys) (hb : Below w.heap.size w w') : DI w0 w' xs ys :=
  ⟨fun q hq => (h.x q hq).below hb, fun q hq => (h.y q hq).below hb, h.b.trans (hb.mono h.b.size)⟩
theorem DI.keep {w0 w w' : World} {xs : List Lv} {ys : List (Option Addr × Nat × List Int)} (h : DI w0 w xs ys) (hf : Fr (fun _ => False) w w') : DI w0 w' xs ys := h.below (hf.below (Nat.le_refl _) (fun _ _ h => h))
theorem DI.add {w0 w : World} {xs : List Lv} {ys : List (Option Addr × Nat × List Int)} (h : DI w0 w xs ys) {A : Option Addr} {c : Nat} {L : List Sn} (hq : Ls w A c L) : DI w0 w (⟨A, c, L⟩ :: xs) ys :=
  ⟨fun q hq' => by rcases List.mem_cons.1 hq' with rfl | hq'; exact hq; exact h.x q hq', h.y, h.b⟩
theorem DI.adi {w0 w : World} {xs : List Lv} {ys : List (Option Addr × Nat × List Int)} (h : DI w0 w xs ys) {A : Option Addr} {c : Nat} {L : List Int} (hq : Il w A c L) : DI w0 w xs ((A, c, L) :: ys) :=
  ⟨h.x, fun q hq' => by rcases List.mem_cons.1 hq' with rfl | hq'; exact hq; exact h.y q hq', h.b⟩
set_option maxRecDepth 100000 in
set_option maxHeartbeats 400000 in
theorem di6 {ops : Array Oper} (hops : Eng.fnOps Try.f3 6 = ops) (a0 : Act) (Q : Exit → Act → World → Prop) (w0 w : World) (b1 o1 len c k : Nat) (n : Int) (hn : in64 n) (r : Nat) (hr : Dig.part n = r) (hblk : b1 < w0.heap.size) (e0 : w0.cell? ⟨b1, o1 + k, none⟩ = some (.int .i64 n)) (hk : k < len) (hst : DI w0 w [] [])
    (hn : a0.tmps.size = 64) (h_2 : a0.tmps.getD 2 undef = .slice (some ⟨b1, o1, none⟩) len c) (h_7 : a0.tmps.getD 7 undef = .int .i64 (k : Int))
    (hpost : ∀ (x : Nat → Value) (w' : World), x 33 = .bool false → DI w0 w' [] [] → Q .normal (Eng.setAll a0 [23, 24, 25, 26, 27, 28, 29, 30, 31, 32, 33] x) w') :
    (Code.region 6 ops true).wp Try.prog Q a0 w := by
  simp only [Eng.fnOps, Eng.regOps, Try.f3, Option.bind_some, Option.getD_some, Nat.reduceEqDiff, ↓reduceIte, Nat.reduceBEq] at hops
  subst hops
  have q1 : (0 : Int) ≤ (k : Int) := by omega
  have q2 : (k : Int) < (len : Int) := by omega
  have HSt := Lib.hid (hst.keep (Fr.drew _ _))
  have hSS : w.drew.cell? ⟨b1, o1 + k, none⟩ = some (.int .i64 n) := (HSt.out.b.cell (p := ⟨b1, _, none⟩) hblk).trans e0
  refine Eng.regionT (.take 0 (.take 1 (.take 2 (.take 3 (.take 5 (.take 6 (.take 7 (.take 8 (.alt 4 (.alt 9 (.take 10 (.done)) (.stop)) (.stop)))))))))) (fun w' => w'.cell? ⟨b1, o1 + k, none⟩ = some (.int .i64 n)) (by kernel_rfl) 64 hn (by kernel_rfl) (by kernel_rfl) (by kernel_rfl) (hSS) (fun a b ha hb => ?_)
  subst ha
  have hb2 : b 2 = .slice (some ⟨b1, o1, none⟩) len c := (hb 2).symm.trans h_2
  have hb7 : b 7 = .int .i64 (k : Int) := (hb 7).symm.trans h_7
  clear hb h_2 h_7
  have HP := Lib.hid hpost; have HN := Lib.hid hn
  clear hpost hn
  refine Eng.TW.take' (v := ?_) rfl rfl (by decide) (by kernel_rfl) (fun w hw => ?_) ?_
  rotate_left
  · (try dsimp only at hw); go_simp; first | done | with_reducible rfl
  refine Eng.TW.take' (v := ?_) rfl rfl (by decide) (by kernel_rfl) (fun w hw => ?_) ?_
  rotate_left
  · (try dsimp only at hw); go_simp; first | done | with_reducible rfl
  refine Eng.TW.take' (v := ?_) rfl rfl (by decide) (by kernel_rfl) (fun w hw => ?_) ?_
  rotate_left
  · (try dsimp only at hw); go_simp; first | done | with_reducible rfl
  refine Eng.TW.take' (v := ?_) rfl rfl (by decide) (by kernel_rfl) (fun w hw => ?_) ?_
  rotate_left
  · (try dsimp only at hw); go_simp; first | done | with_reducible rfl
  refine Eng.TW.take' (v := ?_) rfl rfl (by decide) (by kernel_rfl) (fun w hw => ?_) ?_
  rotate_left
  · (try dsimp only at hw); go_simp; first | done | with_reducible rfl
  refine Eng.TW.take' (v := ?_) rfl rfl (by decide) (by kernel_rfl) (fun w hw => ?_) ?_
  rotate_left
  · (try dsimp only at hw); go_simp; first | done | with_reducible rfl
  refine Eng.TW.take' (v := ?_) rfl rfl (by decide) (by kernel_rfl) (fun w hw => ?_) ?_
  rotate_left
  · (try dsimp only at hw); go_simp; first | done | with_reducible rfl
  refine Eng.TW.take' (v := ?_) rfl rfl (by decide) (by kernel_rfl) (fun w hw => ?_) ?_
  rotate_left
  · (try dsimp only at hw); go_simp; first | done | with_reducible rfl
  refine Eng.TW.call rfl rfl (by decide) (by kernel_rfl) ?_ (PartR hn r hr _) ?_
  · go_simp
  rintro e w2 ⟨rfl, hb⟩
  have HSt2 := Lib.hid (HSt.out.below hb)
  have hSS : w2.cell? ⟨b1, o1 + k, none⟩ = some (.int .i64 n) := (HSt2.out.b.cell (p := ⟨b1, _, none⟩) hblk).trans e0
  clear hb
  refine ⟨_, rfl, hSS, ?_⟩
  refine Eng.TW.call rfl rfl (by decide) (by kernel_rfl) ?_ (RefPartR hn r hr _) ?_
  · go_simp
  rintro e w3 ⟨rfl, hb⟩
  have HSt3 := Lib.hid (HSt2.out.below hb)
  have hSS : w3.cell? ⟨b1, o1 + k, none⟩ = some (.int .i64 n) := (HSt3.out.b.cell (p := ⟨b1, _, none⟩) hblk).trans e0
  clear hb
  refine ⟨_, rfl, hSS, ?_⟩
  refine Eng.TW.take' (v := ?_) rfl rfl (by decide) (by kernel_rfl) (fun w hw => ?_) ?_
  rotate_left
  · (try dsimp only at hw); go_simp; first | done | with_reducible rfl
  refine Eng.TW.end_ [23, 24, 25, 26, 27, 28, 29, 30, 31, 32, 33] HN.out (by kernel_rfl) (by kernel_rfl) ?_
  exact HP.out _ _ rfl HSt3.out

/-- A digest that lies in a row of cells is loaded whole. -/
theorem ldD {w : World} {B o : Nat} {f : Nat → Int} (h : w.rangeAt B o (dcs f)) : (Instr.loadAt TDg (.pointer (some ⟨B, o, none⟩))).run Try.prog w = .ok (dv f) w :=
  run_loadAt_mid w B o TDg (dcs f) _ h Try.underlying25 rfl (by kernel_rfl)
theorem ldN {w : World} {B o : Nat} {f : Nat → Int} (h : w.rangeAt B o (dcs f)) : (do pure (Next.value (← Instr.loadAt TDg (.pointer (some ⟨B, o, none⟩)))) : Sem Next).run Try.prog w = .ok (Next.value (dv f)) w := by
  rw [Sem.run_bind, ldD h]; rfl
theorem dcs_at (f : Nat → Int) {j : Nat} {v : Value} (h : (dcs f)[j]? = some v) : j < 16 ∧ v = .int .i64 (f j) := by
  have hj : j < 16 := by have := (List.getElem?_eq_some_iff.1 h).1; simpa using this
  refine ⟨hj, ?_⟩
  rcases c16 hj with rfl | rfl | rfl | rfl | rfl | rfl | rfl | rfl | rfl | rfl | rfl | rfl | rfl | rfl | rfl | rfl <;> exact (Option.some.inj h).symm
theorem dgs {w0 w : World} {B : Nat} {f g : Nat → Int} (h : Below w0.heap.size w0 w) (hb : B < w0.heap.size) (e0 : ∀ j, j < 16 → w0.cell? ⟨B, j, none⟩ = some (.int .i64 (f j))) (e1 : ∀ j, j < 16 → w0.cell? ⟨B, 16 + j, none⟩ = some (.int .i64 (g j))) : w.rangeAt B 0 (dcs f) ∧ w.rangeAt B 16 (dcs g) := by
  refine ⟨fun j v hv => ?_, fun j v hv => ?_⟩
  · obtain ⟨hj, rfl⟩ := dcs_at f hv
    rw [Nat.zero_add]; exact (h.cell (p := ⟨B, j, none⟩) hb).trans (e0 j hj)
  · obtain ⟨hj, rfl⟩ := dcs_at g hv
    exact (h.cell (p := ⟨B, 16 + j, none⟩) hb).trans (e1 j hj)

set_option maxRecDepth 100000 in
set_option maxHeartbeats 8000000 in
theorem di8 {ops : Array Oper} (hops : Eng.fnOps Try.f3 8 = ops) (a0 : Act) (Q : Exit → Act → World → Prop) (w0 w : World) (B : Nat) (f g F : Nat → Int) (A0 : Option Addr) (c0 : Nat) (a : List Sn) (A1 : Option Addr) (c1 : Nat) (l : List Int) (D : List Int) (X : List Sn) (hF : dgI (setOf a) = F) (hD : dto f g 16 = D) (hX : Dig.pick l (setOf a) = X) (hq : ∀ W : World, (binOp .eql TDg (dv F) (dv F)).run Try.prog W = .ok (.bool true) W) (hl : a.length ≤ 20) (hblk : B < w0.heap.size) (e0 : ∀ j < 16, w0.cell? ⟨B, j, none⟩ = some (.int .i64 (f j))) (e1 : ∀ j < 16, w0.cell? ⟨B, 16 + j, none⟩ = some (.int .i64 (g j))) (hst : DI w0 w [⟨A0, c0, a⟩] [(A1, c1, l)])
    (hn : a0.tmps.size = 64) (h_0 : a0.tmps.getD 0 undef = .slice A0 a.length c0) (h_2 : a0.tmps.getD 2 undef = .slice A1 l.length c1) (h_4 : a0.tmps.getD 4 undef = .pointer (some ⟨B, 0, none⟩))
    (hpost : ∀ (x : Nat → Value) (w' : World), x 6 = .bool true → Below w0.heap.size w0 w' → Q .normal (Eng.setAll a0 [6, 34, 35, 36, 37, 38, 39, 40, 41, 42, 43, 44, 45, 46, 47, 48, 49, 50, 51, 52, 53, 54, 55, 56, 57, 58, 59, 60, 61, 62, 63] x) w') :
    (Code.region 8 ops true).wp Try.prog Q a0 w := by
  simp only [Eng.fnOps, Eng.regOps, Try.f3, Option.bind_some, Option.getD_some, Nat.reduceEqDiff, ↓reduceIte, Nat.reduceBEq] at hops
  subst hops
  have HSt := Lib.hid (hst.keep (Fr.drew _ _))
  have hSS : w.drew.rangeAt B 0 (dcs f) ∧ w.drew.rangeAt B 16 (dcs g) := dgs HSt.out.b hblk e0 e1
  refine Eng.regionT (.take 0 (.take 2 (.alt 1 (.alt 3 (.take 4 (.take 5 (.take 6 (.take 7 (.take 8 (.take 9 (.take 11 (.take 12 (.take 13 (.take 14 (.alt 10 (.alt 15 (.alt 16 (.take 17 (.take 18 (.take 19 (.take 20 (.take 22 (.take 23 (.alt 21 (.alt 24 (.alt 25 (.take 26 (.take 27 (.alt 28 (.take 29 (.take 30 (.done))) (.stop)))) (.stop)) (.stop)) (.stop)))))))) (.stop)) (.stop)) (.stop)))))))))))) (.stop)) (.stop)))) (fun w' => w'.rangeAt B 0 (dcs f) ∧ w'.rangeAt B 16 (dcs g)) (by kernel_rfl) 64 hn (by kernel_rfl) (by kernel_rfl) (by kernel_rfl) (hSS) (fun a b ha hb => ?_)
  subst ha
  have hb0 : b 0 = .slice A0 a.length c0 := (hb 0).symm.trans h_0
  have hb2 : b 2 = .slice A1 l.length c1 := (hb 2).symm.trans h_2
  have hb4 : b 4 = .pointer (some ⟨B, 0, none⟩) := (hb 4).symm.trans h_4
  clear hb h_0 h_2 h_4
  have HP := Lib.hid hpost; have HN := Lib.hid hn
  clear hpost hn
  refine Eng.TW.take' (v := ?_) rfl rfl (by decide) (by kernel_rfl) (fun w hw => ?_) ?_
  rotate_left
  · (try dsimp only at hw); go_simp; first | done | with_reducible rfl
  refine Eng.TW.take' (v := ?_) rfl rfl (by decide) (by kernel_rfl) (fun w hw => ?_) ?_
  rotate_left
  · (try dsimp only at hw); go_simp; first | done | with_reducible rfl
  refine Eng.TW.call rfl rfl (by decide) (by kernel_rfl) ?_ (OfE (L := a) (HSt.out.x ⟨A0, c0, a⟩ (by simp)) (by omega) F hF) ?_
  · go_simp
  rintro e w2 ⟨rfl, hb⟩
  have HSt2 := Lib.hid (HSt.out.below hb)
  have hSS : w2.rangeAt B 0 (dcs f) ∧ w2.rangeAt B 16 (dcs g) := dgs HSt2.out.b hblk e0 e1
  clear hb
  refine ⟨_, rfl, hSS, ?_⟩
  refine Eng.TW.call rfl rfl (by decide) (by kernel_rfl) ?_ (RefOfE (L := a) (HSt2.out.x ⟨A0, c0, a⟩ (by simp)) (by omega) F hF) ?_
  · go_simp
  rintro e w3 ⟨rfl, hb⟩
  have HSt3 := Lib.hid (HSt2.out.below hb)
  have hSS : w3.rangeAt B 0 (dcs f) ∧ w3.rangeAt B 16 (dcs g) := dgs HSt3.out.b hblk e0 e1
  clear hb
  refine ⟨_, rfl, hSS, ?_⟩
  refine Eng.TW.take' (v := ?_) rfl rfl (by decide) (by kernel_rfl) (fun w hw => ?_) ?_
  rotate_left
  · (try dsimp only at hw); go_simp; first | done | with_reducible rfl
  refine Eng.TW.take' (v := ?_) rfl rfl (by decide) (by kernel_rfl) (fun w hw => ?_) ?_
  rotate_left
  · (try dsimp only at hw); go_simp; first | done | with_reducible rfl
  refine Eng.TW.take' (v := ?_) rfl rfl (by decide) (by kernel_rfl) (fun w hw => ?_) ?_
  rotate_left
  · (try dsimp only at hw); go_simp; first | done | with_reducible rfl
  refine Eng.TW.take' (v := dv f) rfl rfl (by decide) (by kernel_rfl) (fun w hw => ?_) ?_
  · exact Eq.trans (congrArg (fun s => Sem.run _ s w) rfl) (ldN hw.1)
  refine Eng.TW.take' (v := ?_) rfl rfl (by decide) (by kernel_rfl) (fun w hw => ?_) ?_
  rotate_left
  · (try dsimp only at hw); go_simp; first | done | with_reducible rfl
  refine Eng.TW.take' (v := dv g) rfl rfl (by decide) (by kernel_rfl) (fun w hw => ?_) ?_
  · exact Eq.trans (congrArg (fun s => Sem.run _ s w) rfl) (ldN hw.2)
  refine Eng.TW.take' (v := ?_) rfl rfl (by decide) (by kernel_rfl) (fun w hw => ?_) ?_
  rotate_left
  · (try dsimp only at hw); go_simp; first | done | with_reducible rfl
  refine Eng.TW.take' (v := dv f) rfl rfl (by decide) (by kernel_rfl) (fun w hw => ?_) ?_
  · exact Eq.trans (congrArg (fun s => Sem.run _ s w) rfl) (ldN hw.1)
  refine Eng.TW.take' (v := ?_) rfl rfl (by decide) (by kernel_rfl) (fun w hw => ?_) ?_
  rotate_left
  · (try dsimp only at hw); go_simp; first | done | with_reducible rfl
  refine Eng.TW.take' (v := dv g) rfl rfl (by decide) (by kernel_rfl) (fun w hw => ?_) ?_
  · exact Eq.trans (congrArg (fun s => Sem.run _ s w) rfl) (ldN hw.2)
  refine Eng.TW.call rfl rfl (by decide) (by kernel_rfl) ?_ (DifferE f g D hD _) ?_
  · go_simp
  rintro e w4 ⟨A3, c3, rfl, h1, -, h3⟩
  have HSt4 := Lib.hid ((HSt3.out.below h3).adi h1)
  have hSS : w4.rangeAt B 0 (dcs f) ∧ w4.rangeAt B 16 (dcs g) := dgs HSt4.out.b hblk e0 e1
  clear h1 h3
  refine ⟨_, rfl, hSS, ?_⟩
  refine Eng.TW.call rfl rfl (by decide) (by kernel_rfl) ?_ (RefDifferE f g D hD _) ?_
  · go_simp
  rintro e w5 ⟨A4, c4, rfl, h1, -, h3⟩
  have HSt5 := Lib.hid ((HSt4.out.below h3).adi h1)
  have hSS : w5.rangeAt B 0 (dcs f) ∧ w5.rangeAt B 16 (dcs g) := dgs HSt5.out.b hblk e0 e1
  clear h1 h3
  refine ⟨_, rfl, hSS, ?_⟩
  refine Eng.TW.call rfl rfl (by decide) (by kernel_rfl) ?_ (SameI (HSt5.out.y (A3, c3, D) (by simp)) (HSt5.out.y (A4, c4, D) (by simp)) rfl) ?_
  · go_simp
  rintro e w6 ⟨rfl, hf⟩
  have HSt6 := Lib.hid (HSt5.out.keep hf)
  have hSS : w6.rangeAt B 0 (dcs f) ∧ w6.rangeAt B 16 (dcs g) := dgs HSt6.out.b hblk e0 e1
  clear hf
  refine ⟨_, rfl, hSS, ?_⟩
  refine Eng.TW.take' (v := ?_) rfl rfl (by decide) (by kernel_rfl) (fun w hw => ?_) ?_
  rotate_left
  · (try dsimp only at hw); go_simp; first | done | with_reducible rfl
  refine Eng.TW.take' (v := ?_) rfl rfl (by decide) (by kernel_rfl) (fun w hw => ?_) ?_
  rotate_left
  · (try dsimp only at hw); go_simp; first | done | with_reducible rfl
  refine Eng.TW.take' (v := ?_) rfl rfl (by decide) (by kernel_rfl) (fun w hw => ?_) ?_
  rotate_left
  · (try dsimp only at hw); go_simp; first | done | with_reducible rfl
  refine Eng.TW.take' (v := ?_) rfl rfl (by decide) (by kernel_rfl) (fun w hw => ?_) ?_
  rotate_left
  · (try dsimp only at hw); go_simp; first | done | with_reducible rfl
  refine Eng.TW.take' (v := ?_) rfl rfl (by decide) (by kernel_rfl) (fun w hw => ?_) ?_
  rotate_left
  · (try dsimp only at hw); go_simp; first | done | with_reducible rfl
  refine Eng.TW.take' (v := ?_) rfl rfl (by decide) (by kernel_rfl) (fun w hw => ?_) ?_
  rotate_left
  · (try dsimp only at hw); go_simp; first | done | with_reducible rfl
  refine Eng.TW.call rfl rfl (by decide) (by kernel_rfl) ?_ (PickE (L := a) (HSt6.out.y (A1, c1, l) (by simp)) (HSt6.out.x ⟨A0, c0, a⟩ (by simp)) (by omega) X hX) ?_
  · go_simp
  rintro e w7 ⟨A5, c5, rfl, h1, -, h3⟩
  have HSt7 := Lib.hid ((HSt6.out.below h3).add h1)
  have hSS : w7.rangeAt B 0 (dcs f) ∧ w7.rangeAt B 16 (dcs g) := dgs HSt7.out.b hblk e0 e1
  clear h1 h3
  refine ⟨_, rfl, hSS, ?_⟩
  refine Eng.TW.call rfl rfl (by decide) (by kernel_rfl) ?_ (RefPickE (L := a) (HSt7.out.y (A1, c1, l) (by simp)) (HSt7.out.x ⟨A0, c0, a⟩ (by simp)) (by omega) X hX) ?_
  · go_simp
  rintro e w8 ⟨A6, c6, rfl, h1, -, h3⟩
  have HSt8 := Lib.hid ((HSt7.out.below h3).add h1)
  have hSS : w8.rangeAt B 0 (dcs f) ∧ w8.rangeAt B 16 (dcs g) := dgs HSt8.out.b hblk e0 e1
  clear h1 h3
  refine ⟨_, rfl, hSS, ?_⟩
  refine Eng.TW.call rfl rfl (by decide) (by kernel_rfl) ?_ (SameT (HSt8.out.x ⟨A5, c5, X⟩ (by simp)) (HSt8.out.x ⟨A6, c6, X⟩ (by simp)) rfl) ?_
  · go_simp
  rintro e w9 ⟨rfl, hf⟩
  have HSt9 := Lib.hid (HSt8.out.keep hf)
  have hSS : w9.rangeAt B 0 (dcs f) ∧ w9.rangeAt B 16 (dcs g) := dgs HSt9.out.b hblk e0 e1
  clear hf
  refine ⟨_, rfl, hSS, ?_⟩
  refine Eng.TW.take' (v := ?_) rfl rfl (by decide) (by kernel_rfl) (fun w hw => ?_) ?_
  rotate_left
  · (try dsimp only at hw); go_simp; first | done | with_reducible rfl
  refine Eng.TW.take' (v := ?_) rfl rfl (by decide) (by kernel_rfl) (fun w hw => ?_) ?_
  rotate_left
  · (try dsimp only at hw); go_simp; first | done | with_reducible rfl
  refine Eng.TW.call rfl rfl (by decide) (by kernel_rfl) ?_ (awake _) ?_
  · go_simp
  rintro e w10 ⟨rfl, hb⟩
  have HSt10 := Lib.hid (HSt9.out.below hb)
  have hSS : w10.rangeAt B 0 (dcs f) ∧ w10.rangeAt B 16 (dcs g) := dgs HSt10.out.b hblk e0 e1
  clear hb
  refine ⟨_, rfl, hSS, ?_⟩
  refine Eng.TW.take' (v := ?_) rfl rfl (by decide) (by kernel_rfl) (fun w hw => ?_) ?_
  rotate_left
  · (try dsimp only at hw); go_simp; first | done | with_reducible rfl
  refine Eng.TW.take' (v := ?_) rfl rfl (by decide) (by kernel_rfl) (fun w hw => ?_) ?_
  rotate_left
  · (try dsimp only at hw); go_simp; first | done | with_reducible rfl
  refine Eng.TW.end_ [6, 34, 35, 36, 37, 38, 39, 40, 41, 42, 43, 44, 45, 46, 47, 48, 49, 50, 51, 52, 53, 54, 55, 56, 57, 58, 59, 60, 61, 62, 63] HN.out (by kernel_rfl) (by kernel_rfl) ?_
  exact HP.out _ _ rfl HSt10.out.b

theorem at2 (f g : Nat → Int) {j : Nat} (h : j < 16) : (#[.int .i64 (f 0), .int .i64 (f 1), .int .i64 (f 2), .int .i64 (f 3), .int .i64 (f 4), .int .i64 (f 5), .int .i64 (f 6), .int .i64 (f 7), .int .i64 (f 8), .int .i64 (f 9), .int .i64 (f 10), .int .i64 (f 11), .int .i64 (f 12), .int .i64 (f 13), .int .i64 (f 14), .int .i64 (f 15), .int .i64 (g 0), .int .i64 (g 1), .int .i64 (g 2), .int .i64 (g 3), .int .i64 (g 4), .int .i64 (g 5), .int .i64 (g 6), .int .i64 (g 7), .int .i64 (g 8), .int .i64 (g 9), .int .i64 (g 10), .int .i64 (g 11), .int .i64 (g 12), .int .i64 (g 13), .int .i64 (g 14), .int .i64 (g 15)] : Array Value)[j]? = some (.int .i64 (f j)) := by
  rcases c16 h with rfl | rfl | rfl | rfl | rfl | rfl | rfl | rfl | rfl | rfl | rfl | rfl | rfl | rfl | rfl | rfl <;> rfl
theorem at2' (f g : Nat → Int) {j : Nat} (h : j < 16) : (#[.int .i64 (f 0), .int .i64 (f 1), .int .i64 (f 2), .int .i64 (f 3), .int .i64 (f 4), .int .i64 (f 5), .int .i64 (f 6), .int .i64 (f 7), .int .i64 (f 8), .int .i64 (f 9), .int .i64 (f 10), .int .i64 (f 11), .int .i64 (f 12), .int .i64 (f 13), .int .i64 (f 14), .int .i64 (f 15), .int .i64 (g 0), .int .i64 (g 1), .int .i64 (g 2), .int .i64 (g 3), .int .i64 (g 4), .int .i64 (g 5), .int .i64 (g 6), .int .i64 (g 7), .int .i64 (g 8), .int .i64 (g 9), .int .i64 (g 10), .int .i64 (g 11), .int .i64 (g 12), .int .i64 (g 13), .int .i64 (g 14), .int .i64 (g 15)] : Array Value)[16 + j]? = some (.int .i64 (g j)) := by
  rcases c16 h with rfl | rfl | rfl | rfl | rfl | rfl | rfl | rfl | rfl | rfl | rfl | rfl | rfl | rfl | rfl | rfl <;> rfl
set_option maxRecDepth 100000 in
set_option maxHeartbeats 4000000 in
theorem is_ (A0 A1 : Option Addr) (c0 c1 : Nat) (a : List Sn) (l : List Int) (f g : Nat → Int) (w : World) (h0 : Ls w A0 c0 a) (h1 : Il w A1 c1 l) (hl : ∀ x ∈ l, in64 x) :
    Calls Try.prog 3 #[.slice A0 a.length c0, .agg #[.int .i64 (f 0), .int .i64 (f 1), .int .i64 (f 2), .int .i64 (f 3), .int .i64 (f 4), .int .i64 (f 5), .int .i64 (f 6), .int .i64 (f 7), .int .i64 (f 8), .int .i64 (f 9), .int .i64 (f 10), .int .i64 (f 11), .int .i64 (f 12), .int .i64 (f 13), .int .i64 (f 14), .int .i64 (f 15), .int .i64 (g 0), .int .i64 (g 1), .int .i64 (g 2), .int .i64 (g 3), .int .i64 (g 4), .int .i64 (g 5), .int .i64 (g 6), .int .i64 (g 7), .int .i64 (g 8), .int .i64 (g 9), .int .i64 (g 10), .int .i64 (g 11), .int .i64 (g 12), .int .i64 (g 13), .int .i64 (g 14), .int .i64 (g 15)], .slice A1 l.length c1] w fun e w' => e = .returned (.bool true) ∧ Below w.heap.size w w' := by
  have s2 := Bk.new w #[.int .i64 (f 0), .int .i64 (f 1), .int .i64 (f 2), .int .i64 (f 3), .int .i64 (f 4), .int .i64 (f 5), .int .i64 (f 6), .int .i64 (f 7), .int .i64 (f 8), .int .i64 (f 9), .int .i64 (f 10), .int .i64 (f 11), .int .i64 (f 12), .int .i64 (f 13), .int .i64 (f 14), .int .i64 (f 15), .int .i64 (g 0), .int .i64 (g 1), .int .i64 (g 2), .int .i64 (g 3), .int .i64 (g 4), .int .i64 (g 5), .int .i64 (g 6), .int .i64 (g 7), .int .i64 (g 8), .int .i64 (g 9), .int .i64 (g 10), .int .i64 (g 11), .int .i64 (g 12), .int .i64 (g 13), .int .i64 (g 14), .int .i64 (g 15)] 26
  have s3 := Fr.alloc (fun _ => False) w (.cells #[.int .i64 (f 0), .int .i64 (f 1), .int .i64 (f 2), .int .i64 (f 3), .int .i64 (f 4), .int .i64 (f 5), .int .i64 (f 6), .int .i64 (f 7), .int .i64 (f 8), .int .i64 (f 9), .int .i64 (f 10), .int .i64 (f 11), .int .i64 (f 12), .int .i64 (f 13), .int .i64 (f 14), .int .i64 (f 15), .int .i64 (g 0), .int .i64 (g 1), .int .i64 (g 2), .int .i64 (g 3), .int .i64 (g 4), .int .i64 (g 5), .int .i64 (g 6), .int .i64 (g 7), .int .i64 (g 8), .int .i64 (g 9), .int .i64 (g 10), .int .i64 (g 11), .int .i64 (g 12), .int .i64 (g 13), .int .i64 (g 14), .int .i64 (g 15)] 26)
  have hz : (w.alloc (.cells #[.int .i64 (f 0), .int .i64 (f 1), .int .i64 (f 2), .int .i64 (f 3), .int .i64 (f 4), .int .i64 (f 5), .int .i64 (f 6), .int .i64 (f 7), .int .i64 (f 8), .int .i64 (f 9), .int .i64 (f 10), .int .i64 (f 11), .int .i64 (f 12), .int .i64 (f 13), .int .i64 (f 14), .int .i64 (f 15), .int .i64 (g 0), .int .i64 (g 1), .int .i64 (g 2), .int .i64 (g 3), .int .i64 (g 4), .int .i64 (g 5), .int .i64 (g 6), .int .i64 (g 7), .int .i64 (g 8), .int .i64 (g 9), .int .i64 (g 10), .int .i64 (g 11), .int .i64 (g 12), .int .i64 (g 13), .int .i64 (g 14), .int .i64 (g 15)] 26)).heap.size = w.heap.size + 1 := World.size_alloc _ _
  have HA := Lib.hid (h0.keep s3); have HI := Lib.hid (h1.below (s3.below (Nat.le_refl _) (fun _ _ h => h)))
  have HB := Lib.hid (s3.below (Nat.le_refl _) (fun _ _ h => h))
  have E0 := Lib.hid (fun (j : Nat) (h : j < 16) => (s2.cell j).trans (at2 f g h))
  have E1 := Lib.hid (fun (j : Nat) (h : j < 16) => (s2.cell (16 + j)).trans (at2' f g h))
  have HZ := Lib.hid hz; have HL := Lib.hid hl
  clear h0 h1 s2 s3 hz hl
  go_enter Try.func3, Try.ntmps3
  go_upto_region 1 with (fail)
  generalize (w.alloc (.cells #[.int .i64 (f 0), .int .i64 (f 1), .int .i64 (f 2), .int .i64 (f 3), .int .i64 (f 4), .int .i64 (f 5), .int .i64 (f 6), .int .i64 (f 7), .int .i64 (f 8), .int .i64 (f 9), .int .i64 (f 10), .int .i64 (f 11), .int .i64 (f 12), .int .i64 (f 13), .int .i64 (f 14), .int .i64 (f 15), .int .i64 (g 0), .int .i64 (g 1), .int .i64 (g 2), .int .i64 (g 3), .int .i64 (g 4), .int .i64 (g 5), .int .i64 (g 6), .int .i64 (g 7), .int .i64 (g 8), .int .i64 (g 9), .int .i64 (g 10), .int .i64 (g 11), .int .i64 (g 12), .int .i64 (g 13), .int .i64 (g 14), .int .i64 (g 15)] 26)) = wa at *
  go_wp2_with fail
  refine (SetF.Few _ _ 20 a wa HA.out.s).mono ?_
  rintro e wb ⟨rfl, hf⟩
  have hb := hf.below (Nat.le_refl _) (fun _ _ h => h)
  have hbz := hb.size
  rw [HZ.out] at hbz
  replace HA := Lib.hid (HA.out.below hb); replace HI := Lib.hid (HI.out.below hb); replace HB := Lib.hid (HB.out.trans (hb.mono (by rw [HZ.out]; omega)))
  have HE := Lib.hid hb
  clear hf hb
  cases hq : fewB a 20 with
  | false =>
    go_wp2_with fail
    refine (awake wb).mono ?_
    rintro e w2 ⟨rfl, hb⟩
    replace HB := Lib.hid (HB.out.trans (hb.mono HB.out.size))
    clear hb
    go_wp2_with fail
    go_ret
    exact ⟨rfl, HB.out⟩
  | true =>
    have hl20 := few_len hq
    clear hq
    by_cases hp : l.length ≤ 20
    · have q0 : decide ((l.length : Int) > 20) = false := by simp; omega
      go_wp2_with fail
      go_loopg [7] l.length (fun gk i wr => ∃ k : Nat, i = .int .i64 k ∧ k ≤ l.length ∧ gk = l.length - k ∧ Below wb.heap.size wb wr)
      case atStart => exact ⟨0, rfl, Nat.zero_le _, rfl, Below.refl _ _⟩
      case round =>
        obtain ⟨k, rfl, hk, hg, hbel⟩ := hrel
        have HG := Lib.hid hg; have HBr := Lib.hid hbel
        have hszw := hbel.size
        clear hg hbel q0
        by_cases hlt : k < l.length
        · have HIr := Lib.hid (HI.out.below HBr.out)
          obtain ⟨b1, o1, rfl, hb1, c1'⟩ := HIr.out.s.at hlt (by omega)
          have d1 : wr.cell? ⟨b1, o1 + k, none⟩ = some (.int .i64 l[k]) := c1' k _ (ints_at hlt)
          have H64 := HL.out _ (List.getElem_mem hlt)
          have D1 := Lib.hid d1
          clear c1' d1
          generalize l[k] = n at *
          have q2 : decide ((k : Int) < (l.length : Int)) = true := by simp; omega
          go_upto_region 6 with (fail)
          refine di6 (by kernel_rfl) _ _ wr wr b1 o1 _ _ k n H64 _ rfl hb1 D1.out hlt ⟨by simp, by simp, Below.refl _ _⟩ rfl rfl rfl ?_
          intro x w2 h3 hst
          simp only [Eng.setAll, Act.put, List.setIfInBounds_toArray, List.set_cons_succ, List.set_cons_zero]
          rw [h3]
          have HSt := Lib.hid hst
          clear h3 hst
          go_wp2_with fail
          go_roundg (l.length - (k + 1))
          case rel => exact ⟨k + 1, by go_num, by omega, rfl, HBr.out.trans (HSt.out.b.mono hszw)⟩
          case measure => have := HG.out; omega
        · obtain rfl : k = l.length := by omega
          have q2 : decide ((l.length : Int) < (l.length : Int)) = false := by simp
          have hblk : w.heap.size < wr.heap.size := by omega
          have hq : ∀ W : World, (binOp .eql TDg (dv (dgI (setOf a))) (dv (dgI (setOf a)))).run Try.prog W = .ok (.bool true) W := fun W => by rw [eql_dg, eqD_iff.2 (fun _ _ => rfl)]
          have HQ := Lib.hid hq
          clear hq
          have hlb : w.heap.size < wb.heap.size := by omega
          have hla : w.heap.size < wa.heap.size := by rw [HZ.out]; omega
          have HX0 : Hid (∀ j < 16, wr.cell? ⟨w.heap.size, j, none⟩ = some (.int .i64 (f j))) := fun j hj => (HBr.out.cell (p := ⟨w.heap.size, j, none⟩) hlb).trans ((HE.out.cell (p := ⟨w.heap.size, j, none⟩) hla).trans (E0.out j hj))
          have HX1 : Hid (∀ j < 16, wr.cell? ⟨w.heap.size, 16 + j, none⟩ = some (.int .i64 (g j))) := fun j hj => (HBr.out.cell (p := ⟨w.heap.size, 16 + j, none⟩) hlb).trans ((HE.out.cell (p := ⟨w.heap.size, 16 + j, none⟩) hla).trans (E1.out j hj))
          go_upto_region 8 with (fail)
          refine di8 (by kernel_rfl) _ _ wr wr w.heap.size f g _ A0 c0 a A1 c1 l _ _ rfl rfl rfl HQ.out hl20 hblk HX0.out HX1.out ⟨fun q hq => by simp at hq; subst hq; exact HA.out.below HBr.out, fun q hq => by simp at hq; subst hq; exact HI.out.below HBr.out, Below.refl _ _⟩ rfl rfl rfl rfl ?_
          intro x w2 h3 hst
          simp only [Eng.setAll, Act.put, List.setIfInBounds_toArray, List.set_cons_succ, List.set_cons_zero]
          rw [h3]
          have HSt := Lib.hid hst
          clear h3 hst
          go_wp2_with fail
          go_ret
          exact ⟨rfl, (HB.out.trans (HBr.out.mono (by omega))).trans (HSt.out.mono (by omega))⟩
    · have q0 : decide ((l.length : Int) > 20) = true := by simp; omega
      go_wp2_with fail
      refine (awake wb).mono ?_
      rintro e w2 ⟨rfl, hb⟩
      replace HB := Lib.hid (HB.out.trans (hb.mono HB.out.size))
      clear hb
      go_wp2_with fail
      go_ret
      exact ⟨rfl, HB.out⟩
end Law48
end Go.Proofs.Ytmcghchhegfilaa
