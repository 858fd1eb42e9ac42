/- Layer 25's statements: same, Few. -/
import Derived.Test.YtolpdgaomlhgdaaLaw25
import Derived.Test.YtolpdgaomlhgdaaRef25b
namespace Go.Proofs.Ytolpdgaomlhgdaa
open Go.RowKit
namespace Law25
open HistP BagP Bag Wide Bucket Hist Ref25
attribute [local go_sem] Eng.ev Eng.getO_cons Eng.getO_nil
abbrev TAct : TypeId := 107
/-- An act. -/
structure Ac where
  k : Int
  d : Int
  A : Option Addr
  c : Nat
  L : List Int
abbrev ac (a : Ac) : List Value := [.int .i64 a.k, .int .i64 a.d, .slice a.A a.L.length a.c]
theorem ac_len (a : Ac) : (ac a).length = 3 := rfl
/-- Its durations can be read. -/
def Rd (w : World) (a : Ac) : Prop := Sl w 1 a.A a.L.length a.c (ints a.L)
def few (l : List Ac) : Bool := (l.take 30).all (fun a => decide (a.L.length ≤ 12)) && decide (l.length ≤ 30)
set_option maxRecDepth 100000 in
theorem Few (A : Option Addr) (c : Nat) (l : List Ac) (w : World) (hS : Sl w 3 A l.length c (l.flatMap ac)) (hl : ∀ a ∈ l, a.L.length ≤ 9223372036854775807) :
    Calls Try.prog 62 #[.slice A l.length c] w fun e w' => e = .returned (.bool (few l)) ∧ w = w' := by
  have hlen : l.length ≤ 9223372036854775807 := by have := hS.2.1; have := hS.2.2.1; unfold maxLen at this; omega
  have HS := Lib.hid hS; have HL := Lib.hid hl
  clear hS hl
  go_enter Try.func62, Try.ntmps62
  go_wp2_with fail
  go_loopg [3] l.length (fun gk i wr => ∃ k : Nat, i = .int .i64 k ∧ k ≤ l.length ∧ k ≤ 30 ∧ gk = l.length - k ∧ (l.take k).all (fun a => decide (a.L.length ≤ 12)) = true ∧ w = wr)
  case atStart => exact ⟨0, rfl, Nat.zero_le _, by omega, rfl, rfl, rfl⟩
  case round =>
    obtain ⟨k, rfl, hk, hk30, hg, hall, rfl⟩ := hrel
    have HG := Lib.hid hg; have HAll := Lib.hid hall
    clear hg hall
    by_cases hlt : k < l.length
    · by_cases h30 : k < 30
      · obtain ⟨b1, o1, rfl, hb1, hc1⟩ := HS.out.at hlt (by omega)
        have d1 : w.cell? ⟨b1, o1 + k * 3 + 1 + 1, none⟩ = some (.slice l[k].A l[k].L.length l[k].c) := hc1 (k * 3 + 2) _ (by rw [flat_at ac_len hlt (by omega)]; rfl)
        have hl1 := HL.out _ (List.getElem_mem hlt)
        have HT : Hid ((l.take (k + 1)).all (fun a => decide (a.L.length ≤ 12)) = decide (l[k].L.length ≤ 12)) := by
          show _ = _
          rw [List.take_succ_eq_append_getElem hlt, List.all_append, HAll.out]; simp
        have HT2 : Hid (decide (l[k].L.length ≤ 12) = false → few l = false) := fun h => by
          unfold few
          have : (l.take 30).all (fun a => decide (a.L.length ≤ 12)) = false := by
            rw [Bool.eq_false_iff]; intro hx
            rw [List.all_eq_true] at hx
            have := hx l[k] (List.mem_take_iff_getElem.2 ⟨k, by omega, rfl⟩)
            rw [this] at h; cases h
          rw [this]; rfl
        clear hc1
        generalize l[k].A = Ak at *
        generalize l[k].c = ck at *
        generalize l[k].L.length = n at *
        by_cases h12 : n ≤ 12
        · have t1 : decide ((12 : Int) < (n : Int)) = false := by simp; omega
          go_wp2_with fail
          go_roundg (l.length - (k + 1))
          case rel => exact ⟨k + 1, by go_num, by omega, by omega, rfl, by rw [HT.out]; simpa using h12, rfl⟩
          case measure => have := HG.out; omega
        · have t1 : decide ((12 : Int) < (n : Int)) = true := by simp; omega
          go_wp2_with fail
          go_ret
          exact ⟨by rw [HT2.out (by simpa using h12)]; rfl, rfl⟩
      · obtain rfl : k = 30 := by omega
        go_wp2_with fail
        go_ret
        exact ⟨by unfold few; rw [HAll.out]; simp; omega, rfl⟩
    · obtain rfl : k = l.length := by omega
      go_wp2_with fail
      go_ret
      exact ⟨by unfold few; rw [List.take_of_length_le (by omega)]; have := HAll.out; rw [List.take_length] at this; rw [this]; simp; omega, rfl⟩
/-- A histogram and the document's, the same. -/
structure SX (w : World) (B Bx : Nat) (x : HS) (F Fx : List Nat) (A : Option Addr) (c : Nat) : Prop where
  h : HB w B x F
  r : RH w Bx x Fx
  hd : Bk w Bx #[.slice A x.1.length c, .int .i64 x.2.1, .int .i64 x.2.2] Ref25.TR
  row : Sl w 2 A x.1.length c (x.1.flatMap pc)
theorem SX.fr {w w' : World} {B Bx : Nat} {x : HS} {F Fx : List Nat} {A : Option Addr} {c : Nat} (h : SX w B Bx x F Fx A c) (hf : Fr (fun _ => False) w w') : SX w' B Bx x F Fx A c :=
  ⟨h.h.fr hf (fun _ _ h => h), h.r.fr hf (fun _ _ h => h), h.hd.frF hf, h.row.fr hf (fun _ _ h => h)⟩
set_option maxRecDepth 100000 in
set_option maxHeartbeats 400000 in
theorem s1 {ops : Array Oper} (hops : Eng.fnOps Try.f71 1 = ops) (a0 : Act) (Q : Exit → Act → World → Prop) (w : World) (B Bx : Nat) (L : List (Int × Int)) (s t : Int) (F Fx : List Nat) (A : Option Addr) (c : Nat) (hst : SX w B Bx (L, (s, t)) F Fx A c) (hlen : L.length ≤ 1000000)
    (hn : a0.tmps.size = 31) (h_0 : a0.tmps.getD 0 undef = .pointer (some ⟨B, 0, none⟩)) (h_1 : a0.tmps.getD 1 undef = .pointer (some ⟨Bx, 0, none⟩))
    (hpost : ∀ (x : Nat → Value) (w' : World), x 4 = .bool true → Fr (fun _ => False) w w' → Q .normal (Eng.setAll a0 [4, 5, 6, 7, 8, 9, 10, 11, 12, 13, 14, 15, 16, 17, 18, 19, 20, 21, 22, 23, 24, 25, 26, 27, 28, 29, 30] x) w') :
    (Code.region 1 ops true).wp Try.prog Q a0 w := by
  simp only [Eng.fnOps, Eng.regOps, Try.f71, Option.bind_some, Option.getD_some, Nat.reduceEqDiff, ↓reduceIte, Nat.reduceBEq] at hops
  subst hops
  have q1 : (sumL L == sumL L) = true := by simp
  have q2 : (s == s) = true := by simp
  have q3 : (t == t) = true := by simp
  have HSt := Lib.hid (hst.fr (Fr.drew _ _))
  have hSS : w.drew.cell? ⟨Bx, 0, none⟩ = some (.slice A L.length c) ∧ w.drew.cell? ⟨Bx, 1, none⟩ = some (.int .i64 s) ∧ w.drew.cell? ⟨Bx, 2, none⟩ = some (.int .i64 t) := ⟨HSt.out.hd.cell 0, HSt.out.hd.cell 1, HSt.out.hd.cell 2⟩
  refine Eng.regionN [(0, true), (2, true), (3, true), (4, true), (1, false), (5, false), (6, true), (7, true), (8, true), (10, true), (11, true), (12, true), (13, true), (9, false), (14, true), (15, true), (16, true), (17, true), (19, true), (20, true), (21, true), (22, true), (23, true), (18, false), (24, false), (25, true), (26, true)] (fun w' => w'.cell? ⟨Bx, 0, none⟩ = some (.slice A L.length c) ∧ w'.cell? ⟨Bx, 1, none⟩ = some (.int .i64 s) ∧ w'.cell? ⟨Bx, 2, none⟩ = some (.int .i64 t)) (by kernel_rfl) 31 hn (by kernel_rfl) rfl (by kernel_rfl) (hSS) (fun a b ha hb => ?_)
  subst ha
  have hb0 : b 0 = .pointer (some ⟨B, 0, none⟩) := (hb 0).symm.trans h_0
  have hb1 : b 1 = .pointer (some ⟨Bx, 0, none⟩) := (hb 1).symm.trans h_1
  clear hb h_0 h_1
  have HP := Lib.hid hpost; have HN := Lib.hid hn
  clear hpost hn
  refine Eng.Sch.take (v := ?_) rfl rfl (by decide) (by kernel_rfl) (fun w hw => ?_) ?_
  rotate_left
  · (try dsimp only at hw); go_simp; first | done | with_reducible rfl
  refine Eng.Sch.take (v := ?_) rfl rfl (by decide) (by kernel_rfl) (fun w hw => ?_) ?_
  rotate_left
  · (try dsimp only at hw); go_simp; first | done | with_reducible rfl
  refine Eng.Sch.take (v := ?_) rfl rfl (by decide) (by kernel_rfl) (fun w hw => ?_) ?_
  rotate_left
  · (try dsimp only at hw); go_simp; first | done | with_reducible rfl
  refine Eng.Sch.take (v := ?_) rfl rfl (by decide) (by kernel_rfl) (fun w hw => ?_) ?_
  rotate_left
  · (try dsimp only at hw); go_simp; first | done | with_reducible rfl
  refine Eng.Sch.call rfl rfl (by decide) (by kernel_rfl) ?_ (Hist.Len B _ F _ HSt.out.h) ?_
  · go_simp
  rintro e w_1 ⟨rfl, rfl⟩
  refine ⟨_, rfl, hSS, ?_⟩
  refine Eng.Sch.call rfl rfl (by decide) (by kernel_rfl) ?_ (HSt.out.r.bagLen) ?_
  · go_simp
  rintro e w_1 ⟨rfl, rfl⟩
  refine ⟨_, rfl, hSS, ?_⟩
  refine Eng.Sch.take (v := ?_) rfl rfl (by decide) (by kernel_rfl) (fun w hw => ?_) ?_
  rotate_left
  · (try dsimp only at hw); go_simp; first | done | with_reducible rfl
  refine Eng.Sch.take (v := ?_) rfl rfl (by decide) (by kernel_rfl) (fun w hw => ?_) ?_
  rotate_left
  · (try dsimp only at hw); go_simp; first | done | with_reducible rfl
  refine Eng.Sch.take (v := ?_) rfl rfl (by decide) (by kernel_rfl) (fun w hw => ?_) ?_
  rotate_left
  · (try dsimp only at hw); go_simp; first | done | with_reducible rfl
  refine Eng.Sch.take (v := ?_) rfl rfl (by decide) (by kernel_rfl) (fun w hw => ?_) ?_
  rotate_left
  · (try dsimp only at hw); go_simp; first | done | with_reducible rfl
  refine Eng.Sch.take (v := ?_) rfl rfl (by decide) (by kernel_rfl) (fun w hw => ?_) ?_
  rotate_left
  · (try dsimp only at hw); go_simp; first | done | with_reducible rfl
  refine Eng.Sch.take (v := ?_) rfl rfl (by decide) (by kernel_rfl) (fun w hw => ?_) ?_
  rotate_left
  · (try dsimp only at hw); go_simp; first | done | with_reducible rfl
  refine Eng.Sch.take (v := ?_) rfl rfl (by decide) (by kernel_rfl) (fun w hw => ?_) ?_
  rotate_left
  · (try dsimp only at hw); go_simp; first | done | with_reducible rfl
  refine Eng.Sch.call rfl rfl (by decide) (by kernel_rfl) ?_ (Hist.Sum B _ F _ HSt.out.h) ?_
  · go_simp
  rintro e w2 ⟨rfl, hf⟩
  have HF2 := Lib.hid hf
  have HSt1 := Lib.hid (HSt.out.fr hf)
  have hSS : w2.cell? ⟨Bx, 0, none⟩ = some (.slice A L.length c) ∧ w2.cell? ⟨Bx, 1, none⟩ = some (.int .i64 s) ∧ w2.cell? ⟨Bx, 2, none⟩ = some (.int .i64 t) := ⟨HSt1.out.hd.cell 0, HSt1.out.hd.cell 1, HSt1.out.hd.cell 2⟩
  clear hf
  refine ⟨_, rfl, hSS, ?_⟩
  refine Eng.Sch.take (v := ?_) rfl rfl (by decide) (by kernel_rfl) (fun w hw => ?_) ?_
  rotate_left
  · (try dsimp only at hw); go_simp; first | done | with_reducible rfl
  refine Eng.Sch.take (v := ?_) rfl rfl (by decide) (by kernel_rfl) (fun w hw => ?_) ?_
  rotate_left
  · (try dsimp only at hw); go_simp; first | done | with_reducible rfl
  refine Eng.Sch.take (v := ?_) rfl rfl (by decide) (by kernel_rfl) (fun w hw => ?_) ?_
  rotate_left
  · (try dsimp only at hw); go_simp; first | done | with_reducible rfl
  refine Eng.Sch.take (v := ?_) rfl rfl (by decide) (by kernel_rfl) (fun w hw => ?_) ?_
  rotate_left
  · (try dsimp only at hw); go_simp; first | done | with_reducible rfl
  refine Eng.Sch.take (v := ?_) rfl rfl (by decide) (by kernel_rfl) (fun w hw => ?_) ?_
  rotate_left
  · (try dsimp only at hw); go_simp; first | done | with_reducible rfl
  refine Eng.Sch.take (v := ?_) rfl rfl (by decide) (by kernel_rfl) (fun w hw => ?_) ?_
  rotate_left
  · (try dsimp only at hw); go_simp; first | done | with_reducible rfl
  refine Eng.Sch.take (v := ?_) rfl rfl (by decide) (by kernel_rfl) (fun w hw => ?_) ?_
  rotate_left
  · (try dsimp only at hw); go_simp; first | done | with_reducible rfl
  refine Eng.Sch.take (v := ?_) rfl rfl (by decide) (by kernel_rfl) (fun w hw => ?_) ?_
  rotate_left
  · (try dsimp only at hw); go_simp; first | done | with_reducible rfl
  refine Eng.Sch.take (v := ?_) rfl rfl (by decide) (by kernel_rfl) (fun w hw => ?_) ?_
  rotate_left
  · (try dsimp only at hw); go_simp; first | done | with_reducible rfl
  refine Eng.Sch.call rfl rfl (by decide) (by kernel_rfl) ?_ (Hist.Buckets B _ F _ HSt1.out.h (Nat.le_trans hlen (by decide))) ?_
  · go_simp
  rintro e w3 ⟨A3, c3, rfl, hS3, -, hf3⟩
  have HS3 := Lib.hid hS3; have HF3 := Lib.hid (HF2.out.to hf3)
  have HSt2 := Lib.hid (HSt1.out.fr hf3)
  have hSS : w3.cell? ⟨Bx, 0, none⟩ = some (.slice A L.length c) ∧ w3.cell? ⟨Bx, 1, none⟩ = some (.int .i64 s) ∧ w3.cell? ⟨Bx, 2, none⟩ = some (.int .i64 t) := ⟨HSt2.out.hd.cell 0, HSt2.out.hd.cell 1, HSt2.out.hd.cell 2⟩
  clear hS3 hf3
  refine ⟨_, rfl, hSS, ?_⟩
  refine Eng.Sch.call rfl rfl (by decide) (by kernel_rfl) ?_ (Ref13.Same A3 A c3 c L L _ L.length L.length rfl rfl HS3.out HSt2.out.row rfl) ?_
  · go_simp
  rintro e w4 ⟨rfl, hf4⟩
  have HF4 := Lib.hid ((Fr.drew _ _).to (HF3.out.to hf4))
  have HSt3 := Lib.hid (HSt2.out.fr hf4)
  have hSS : w4.cell? ⟨Bx, 0, none⟩ = some (.slice A L.length c) ∧ w4.cell? ⟨Bx, 1, none⟩ = some (.int .i64 s) ∧ w4.cell? ⟨Bx, 2, none⟩ = some (.int .i64 t) := ⟨HSt3.out.hd.cell 0, HSt3.out.hd.cell 1, HSt3.out.hd.cell 2⟩
  clear hf4
  refine ⟨_, rfl, hSS, ?_⟩
  refine Eng.Sch.take (v := ?_) rfl rfl (by decide) (by kernel_rfl) (fun w hw => ?_) ?_
  rotate_left
  · (try dsimp only at hw); go_simp; first | done | with_reducible rfl
  refine Eng.Sch.take (v := ?_) rfl rfl (by decide) (by kernel_rfl) (fun w hw => ?_) ?_
  rotate_left
  · (try dsimp only at hw); go_simp; first | done | with_reducible rfl
  refine Eng.Sch.end_ [4, 5, 6, 7, 8, 9, 10, 11, 12, 13, 14, 15, 16, 17, 18, 19, 20, 21, 22, 23, 24, 25, 26, 27, 28, 29, 30] HN.out (by kernel_rfl) (by kernel_rfl) ?_
  exact HP.out _ _ rfl HF4.out

set_option maxRecDepth 100000 in
theorem same (w : World) (B Bx : Nat) (x : HS) (F Fx : List Nat) (h : HB w B x F) (r : RH w Bx x Fx) (hlen : x.1.length ≤ 1000000) :
    Calls Try.prog 71 #[.pointer (some ⟨B, 0, none⟩), .pointer (some ⟨Bx, 0, none⟩)] w fun e w' => e = .returned (.bool true) ∧ Fr (fun _ => False) w w' := by
  obtain ⟨A, c, hb, hS, -, -⟩ := r.b
  have HX : Hid (SX w B Bx x F Fx A c) := ⟨h, r, hb, hS⟩
  clear h r hb hS
  obtain ⟨L, s, t⟩ := x
  go_enter Try.func71, Try.ntmps71
  go_upto_region 1 with (fail)
  refine s1 (by kernel_rfl) _ _ w B Bx L s t F Fx A c HX.out hlen rfl rfl rfl ?_
  intro y w1 hx hf
  simp only [Eng.setAll, Act.put, List.setIfInBounds_toArray, List.set_cons_succ, List.set_cons_zero]
  rw [hx]
  have HF := Lib.hid hf
  clear hf hx HX
  go_wp2_with fail
  go_ret
  exact ⟨rfl, HF.out⟩
end Law25
end Go.Proofs.Ytolpdgaomlhgdaa
