/- Layer 25's statements: HistPlays: for every input the answer is true. -/
import Derived.Test.YtolpdgaomlhgdaaLaw25s
namespace Go.Proofs.Ytolpdgaomlhgdaa
open Go.RowKit
namespace Law25
open HistP BagP Bag Wide Bucket Hist Ref25
attribute [local go_sem] Eng.ev Eng.getO_cons Eng.getO_nil
theorem sum_add_le {k m : Int} {L : List (Int × Int)} (h : Ok L) (hm : 0 ≤ m) : sumL (addL k m L) ≤ sumL L + m := by
  unfold addL
  split
  · rw [sumL_set _ _ h.srt]; omega
  · omega
theorem sum_take_le {k : Int} {L : List (Int × Int)} (h : Ok L) : sumL (takeL k 1 L) ≤ sumL L := by
  unfold takeL
  split
  · rw [sumL_set _ _ h.srt]; omega
  · omega
theorem sum_all_le : ∀ (o : List (Int × Int)) {L : List (Int × Int)}, Ok L → Pos o → sumL (addAll o L) ≤ sumL L + sumL o ∧ Ok (addAll o L)
  | [], L, h, _ => ⟨by simp [addAll, sumL], h⟩
  | (k, m) :: t, L, h, hp => by
    have hm := hp (k, m) (by simp)
    dsimp only at hm
    have h1 := sum_all_le t (h.add k m) (fun p hq => hp p (by simp [hq]))
    have h2 := sum_add_le (k := k) h (show 0 ≤ m by omega)
    have h3 : sumL ((k, m) :: t) = m + sumL t := by simp [sumL]
    exact ⟨by have := h1.1; show sumL (addAll t (addL k m L)) ≤ _; omega, h1.2⟩
theorem sum_of_le (l : List Int) : sumL (ofH l).1 ≤ l.length ∧ Ok (ofH l).1 := by
  unfold ofH
  suffices h : ∀ (l : List Int) (x : HS), Ok x.1 → sumL (l.foldl (fun x d => addH d x) x).1 ≤ sumL x.1 + l.length ∧ Ok (l.foldl (fun x d => addH d x) x).1 by
    have := h l ([], (0, 0)) Ok.nil
    simpa [sumL] using this
  intro l
  induction l with
  | nil => intro x h; exact ⟨by simp, h⟩
  | cons d l ih =>
    intro x h
    have h1 := ih (addH d x) (h.add _ _)
    have h2 := sum_add_le (k := bk d) (m := 1) h (by omega)
    refine ⟨?_, h1.2⟩
    have := h1.1
    simp only [List.foldl_cons, List.length_cons]
    have e : (addH d x).1 = addL (bk d) 1 x.1 := rfl
    rw [e] at this
    omega
theorem len_le {L : List (Int × Int)} (h : Ok L) : (L.length : Int) ≤ sumL L := by
  have : ∀ {L : List (Int × Int)}, Pos L → (L.length : Int) ≤ sumL L := by
    intro L
    induction L with
    | nil => intro _; simp [sumL]
    | cons p t ih =>
      intro hp
      have h1 := hp p (by simp)
      have h2 := ih (fun q hq => hp q (by simp [hq]))
      simp only [List.length_cons, sumL]
      omega
  exact this h.pos
/-- The histogram, the document's, the act. -/
structure SA (w0 w : World) (B Bx Ba : Nat) (x z : HS) (F Fx : List Nat) (y : Ac) : Prop where
  zs : Zs w0.heap.size w0 w [F, Fx, [Ba]]
  h : HB w B x F
  r : RH w Bx z Fx
  a : Bk w Ba #[.int .i64 y.k, .int .i64 y.d, .slice y.A y.L.length y.c] TAct
section
variable {w0 w w' : World} {B Bx Ba : Nat} {x z x' : HS} {F Fx : List Nat} {y : Ac}
theorem SA.fr (h : SA w0 w B Bx Ba x z F Fx y) (hf : Fr (fun _ => False) w w') : SA w0 w' B Bx Ba x z F Fx y :=
  ⟨h.zs.fr hf, h.h.fr hf (fun _ _ h => h), h.r.fr hf (fun _ _ h => h), h.a.frF hf⟩
theorem SA.turnH {F' : List Nat} (h : SA w0 w B Bx Ba x z F Fx y) (k : HB w' B x' F') (t : Tn F F' w w') : SA w0 w' B Bx Ba x' z F' Fx y :=
  ⟨h.zs.turn [] [Fx, [Ba]] t, k, h.r.fr t.fr (h.zs.ap 0 1 rfl rfl (by decide)), h.a.fr t.fr (h.zs.ap 0 2 rfl rfl (by decide))⟩
theorem SA.turnR {F' : List Nat} (h : SA w0 w B Bx Ba x z F Fx y) (k : RH w' Bx x' F') (t : Tn Fx F' w w') : SA w0 w' B Bx Ba x x' F F' y :=
  ⟨h.zs.turn [F] [[Ba]] t, h.h.fr t.fr (h.zs.ap 1 0 rfl rfl (by decide)), k, h.a.fr t.fr (h.zs.ap 1 2 rfl rfl (by decide))⟩
theorem SA.drop (h : SA w0 w B Bx Ba x z F Fx y) (hl : x.1.length < 144115188075855871) {bb : Bool} (hb : Hid (okD y.d x = bb)) : Calls Try.prog 65 #[.pointer (some ⟨B, 0, none⟩), .int .i64 y.d] w fun e w' => e = .returned (.bool bb) ∧ ∃ F', SA w0 w' B Bx Ba (dropH y.d x) z F' Fx y := by
  refine (Hist.Drop B y.d x F w h.h hl).mono ?_
  rintro e w' ⟨he, F', k, t⟩
  exact ⟨by rw [he, hb.out], F', h.turnH k t⟩
theorem SA.dropX (h : SA w0 w B Bx Ba x z F Fx y) (hl : z.1.length ≤ 1000000) {bb : Bool} (hb : Hid (okD y.d z = bb)) : Calls Try.prog 66 #[.pointer (some ⟨Bx, 0, none⟩), .int .i64 y.d] w fun e w' => e = .returned (.bool bb) ∧ ∃ F', SA w0 w' B Bx Ba x (dropH y.d z) F F' y := by
  refine (Ref25.Drop Bx y.d z Fx w h.r hl).mono ?_
  rintro e w' ⟨he, F', k, t⟩
  exact ⟨by rw [he, hb.out], F', h.turnR k t⟩
end
set_option maxRecDepth 100000 in
set_option maxHeartbeats 400000 in
theorem p15 {ops : Array Oper} (hops : Eng.fnOps Try.f12 15 = ops) (a0 : Act) (Q : Exit → Act → World → Prop) (w0 w : World) (B Bx Ba : Nat) (x_ : HS) (F Fx : List Nat) (y : Ac) (bb : Bool) (hst : SA w0 w B Bx Ba x_ x_ F Fx y) (hl : x_.1.length ≤ 1000000) (hb : Hid (okD y.d x_ = bb))
    (hn : a0.tmps.size = 160) (h_5 : a0.tmps.getD 5 undef = .pointer (some ⟨B, 0, none⟩)) (h_6 : a0.tmps.getD 6 undef = .pointer (some ⟨Bx, 0, none⟩)) (h_7 : a0.tmps.getD 7 undef = .pointer none) (h_9 : a0.tmps.getD 9 undef = .pointer (some ⟨Ba, 0, none⟩))
    (hpost : ∀ (x : Nat → Value) (w' : World) (F' Fx' : List Nat), x 69 = .bool false → SA w0 w' B Bx Ba (dropH y.d x_) (dropH y.d x_) F' Fx' y → Q .normal (Eng.setAll a0 [55, 56, 57, 58, 59, 60, 61, 62, 63, 64, 65, 66, 67, 68, 69] x) w') :
    (Code.region 15 ops true).wp Try.prog Q a0 w := by
  simp only [Eng.fnOps, Eng.regOps, Try.f12, Option.bind_some, Option.getD_some, Nat.reduceEqDiff, ↓reduceIte, Nat.reduceBEq] at hops
  subst hops
  have kq : (bb != bb) = false := by simp
  have HSt := Lib.hid (hst.fr (Fr.drew _ _))
  have hSS : w.drew.cell? ⟨Ba, 1, none⟩ = some (.int .i64 y.d) := HSt.out.a.cell 1
  refine Eng.regionN [(0, true), (1, true), (2, true), (4, true), (5, true), (6, true), (3, false), (7, false), (8, true), (9, true), (10, true), (11, true), (12, true), (13, false), (14, true)] (fun w' => w'.cell? ⟨Ba, 1, none⟩ = some (.int .i64 y.d)) (by kernel_rfl) 160 hn (by kernel_rfl) rfl (by kernel_rfl) (hSS) (fun a b ha hb => ?_)
  subst ha
  have hb5 : b 5 = .pointer (some ⟨B, 0, none⟩) := (hb 5).symm.trans h_5
  have hb6 : b 6 = .pointer (some ⟨Bx, 0, none⟩) := (hb 6).symm.trans h_6
  have hb7 : b 7 = .pointer none := (hb 7).symm.trans h_7
  have hb9 : b 9 = .pointer (some ⟨Ba, 0, none⟩) := (hb 9).symm.trans h_9
  clear hb h_5 h_6 h_7 h_9
  have HP := Lib.hid hpost; have HN := Lib.hid hn
  clear hpost hn
  refine Eng.Sch.take (v := ?_) rfl rfl (by decide) (by kernel_rfl) (fun w hw => ?_) ?_
  rotate_left
  · (try dsimp only at hw); go_simp; first | done | with_reducible rfl
  refine Eng.Sch.take (v := ?_) rfl rfl (by decide) (by kernel_rfl) (fun w hw => ?_) ?_
  rotate_left
  · (try dsimp only at hw); go_simp; first | done | with_reducible rfl
  refine Eng.Sch.take (v := ?_) rfl rfl (by decide) (by kernel_rfl) (fun w hw => ?_) ?_
  rotate_left
  · (try dsimp only at hw); go_simp; first | done | with_reducible rfl
  refine Eng.Sch.take (v := ?_) rfl rfl (by decide) (by kernel_rfl) (fun w hw => ?_) ?_
  rotate_left
  · (try dsimp only at hw); go_simp; first | done | with_reducible rfl
  refine Eng.Sch.take (v := ?_) rfl rfl (by decide) (by kernel_rfl) (fun w hw => ?_) ?_
  rotate_left
  · (try dsimp only at hw); go_simp; first | done | with_reducible rfl
  refine Eng.Sch.take (v := ?_) rfl rfl (by decide) (by kernel_rfl) (fun w hw => ?_) ?_
  rotate_left
  · (try dsimp only at hw); go_simp; first | done | with_reducible rfl
  refine Eng.Sch.call rfl rfl (by decide) (by kernel_rfl) ?_ (HSt.out.drop (by omega) hb) ?_
  · go_simp
  rintro e w2 ⟨rfl, F2, hT⟩
  have HSt1 := Lib.hid (hT)
  have hSS : w2.cell? ⟨Ba, 1, none⟩ = some (.int .i64 y.d) := HSt1.out.a.cell 1
  clear hT
  refine ⟨_, rfl, hSS, ?_⟩
  refine Eng.Sch.call rfl rfl (by decide) (by kernel_rfl) ?_ (HSt1.out.dropX hl hb) ?_
  · go_simp
  rintro e w3 ⟨rfl, F3, hT⟩
  have HSt2 := Lib.hid (hT)
  have hSS : w3.cell? ⟨Ba, 1, none⟩ = some (.int .i64 y.d) := HSt2.out.a.cell 1
  clear hT
  refine ⟨_, rfl, hSS, ?_⟩
  refine Eng.Sch.take (v := ?_) rfl rfl (by decide) (by kernel_rfl) (fun w hw => ?_) ?_
  rotate_left
  · (try dsimp only at hw); go_simp; first | done | with_reducible rfl
  refine Eng.Sch.take (v := ?_) rfl rfl (by decide) (by kernel_rfl) (fun w hw => ?_) ?_
  rotate_left
  · (try dsimp only at hw); go_simp; first | done | with_reducible rfl
  refine Eng.Sch.take (v := ?_) rfl rfl (by decide) (by kernel_rfl) (fun w hw => ?_) ?_
  rotate_left
  · (try dsimp only at hw); go_simp; first | done | with_reducible rfl
  refine Eng.Sch.take (v := ?_) rfl rfl (by decide) (by kernel_rfl) (fun w hw => ?_) ?_
  rotate_left
  · (try dsimp only at hw); go_simp; first | done | with_reducible rfl
  refine Eng.Sch.take (v := ?_) rfl rfl (by decide) (by kernel_rfl) (fun w hw => ?_) ?_
  rotate_left
  · (try dsimp only at hw); go_simp; first | done | with_reducible rfl
  refine Eng.Sch.call rfl rfl (by decide) (by kernel_rfl) ?_ (Drop_none y.d _) ?_
  · go_simp
  rintro e w4 ⟨rfl, hf⟩
  have HSt3 := Lib.hid (HSt2.out.fr hf)
  have hSS : w4.cell? ⟨Ba, 1, none⟩ = some (.int .i64 y.d) := HSt3.out.a.cell 1
  clear hf
  refine ⟨_, rfl, hSS, ?_⟩
  refine Eng.Sch.take (v := ?_) rfl rfl (by decide) (by kernel_rfl) (fun w hw => ?_) ?_
  rotate_left
  · (try dsimp only at hw); go_simp; first | done | with_reducible rfl
  refine Eng.Sch.end_ [55, 56, 57, 58, 59, 60, 61, 62, 63, 64, 65, 66, 67, 68, 69] HN.out (by kernel_rfl) (by kernel_rfl) ?_
  exact HP.out _ _ _ _ rfl HSt3.out

end Law25
end Go.Proofs.Ytolpdgaomlhgdaa
