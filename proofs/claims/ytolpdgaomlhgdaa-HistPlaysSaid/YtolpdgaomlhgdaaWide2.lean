/- Sums of durations, and the document's: Less, Of, and the document's. -/
import Derived.Test.YtolpdgaomlhgdaaWide
import Derived.Deep.LoopGhost
import Derived.Test.YtolpdgaomlhgdaaRef01
namespace Go.Proofs.Ytolpdgaomlhgdaa
open Go.RowKit
namespace Wide
open HistP
attribute [local go_sem] Eng.ev Eng.getO_cons Eng.getO_nil
/-- Two blocks of two cells that a call made. -/
structure W2 (w0 w : World) (B1 B2 : Nat) (a b : Int × Int) : Prop where
  b1 : Bk w B1 #[.int .i64 a.1, .int .i64 a.2] TS
  b2 : Bk w B2 #[.int .i64 b.1, .int .i64 b.2] TS
  fr : Fr (fun _ => False) w0 w
  n1 : w0.heap.size ≤ B1
  n2 : w0.heap.size ≤ B2
  ne : B1 ≠ B2
theorem W2.frF {w0 w w' : World} {B1 B2 : Nat} {a b : Int × Int} (h : W2 w0 w B1 B2 a b) (hf : Fr (fun _ => False) w w') : W2 w0 w' B1 B2 a b :=
  ⟨h.b1.frF hf, h.b2.frF hf, h.fr.to hf, h.n1, h.n2, h.ne⟩
theorem W2.set1 {w0 w : World} {B1 B2 : Nat} {a b : Int × Int} (h : W2 w0 w B1 B2 a b) (c : Int × Int) : W2 w0 ((w.setCell ⟨B1, 0, none⟩ (.int .i64 c.1)).setCell ⟨B1, 1, none⟩ (.int .i64 c.2)) B1 B2 c b :=
  ⟨(h.b1.set 0 _).set 1 _, (h.b2.other (a := ⟨B1, 0, none⟩) h.ne _).other (a := ⟨B1, 1, none⟩) h.ne _, (h.fr.set_new h.n1 _).set_new h.n1 _, h.n1, h.n2, h.ne⟩
theorem W2.set2 {w0 w : World} {B1 B2 : Nat} {a b : Int × Int} (h : W2 w0 w B1 B2 a b) (c : Int × Int) : W2 w0 ((w.setCell ⟨B2, 0, none⟩ (.int .i64 c.1)).setCell ⟨B2, 1, none⟩ (.int .i64 c.2)) B1 B2 a c :=
  ⟨(h.b1.other (a := ⟨B2, 0, none⟩) (fun e => h.ne e.symm) _).other (a := ⟨B2, 1, none⟩) (fun e => h.ne e.symm) _, (h.b2.set 0 _).set 1 _, (h.fr.set_new h.n2 _).set_new h.n2 _, h.n1, h.n2, h.ne⟩
theorem W2.start {w w1 : World} {a b : Int × Int} (hf : Fr (fun _ => False) ((w.alloc (.cells #[.int .i64 a.1, .int .i64 a.2] TS)).alloc (.cells #[.int .i64 b.1, .int .i64 b.2] TS)) w1) : W2 w w1 w.heap.size (w.heap.size + 1) a b := by
  obtain ⟨h1, h2, h3⟩ := two hf
  exact ⟨h1, h2, h3, Nat.le_refl _, by omega, by omega⟩
theorem W2.new (w : World) (a b : Int × Int) : W2 w ((w.alloc (.cells #[.int .i64 a.1, .int .i64 a.2] TS)).alloc (.cells #[.int .i64 b.1, .int .i64 b.2] TS)) w.heap.size (w.heap.size + 1) a b := W2.start (Fr.refl _ _)
set_option maxRecDepth 100000 in
set_option maxHeartbeats 400000 in
theorem l1 {ops : Array Oper} (hops : Eng.fnOps Try.f103 1 = ops) (a0 : Act) (Q : Exit → Act → World → Prop) (w0 w : World) (B1 B2 : Nat) (h l u v : Int) (hst : W2 w0 w B1 B2 (h, l) (u, v)) (ha : HistP.May (h, l)) (hb : HistP.May (u, v))
    (hn : a0.tmps.size = 28) (h_2 : a0.tmps.getD 2 undef = .pointer (some ⟨B1, 0, none⟩)) (h_3 : a0.tmps.getD 3 undef = .pointer (some ⟨B2, 0, none⟩))
    (hpost : ∀ (x : Nat → Value) (w' : World), W2 w0 w' B1 B2 (h, l) (u, v) → Q .normal (Eng.setAll a0 [5, 6, 7, 8] x) w') :
    (Code.region 1 ops true).wp Try.prog Q a0 w := by
  simp only [Eng.fnOps, Eng.regOps, Try.f103, Option.bind_some, Option.getD_some, Nat.reduceEqDiff, ↓reduceIte, Nat.reduceBEq] at hops
  subst hops
  have hne := hst.ne
  have hne2 := fun e => hst.ne (Eq.symm e)
  have HSt := Lib.hid (hst.frF (Fr.drew _ _))
  have hSS : w.drew.cell? ⟨B1, 0, none⟩ = some (.int .i64 h) ∧ w.drew.cell? ⟨B1, 1, none⟩ = some (.int .i64 l) ∧ w.drew.cell? ⟨B2, 0, none⟩ = some (.int .i64 u) ∧ w.drew.cell? ⟨B2, 1, none⟩ = some (.int .i64 v) ∧ w.drew.frozen? ⟨B1, 0, none⟩ = false ∧ w.drew.frozen? ⟨B1, 1, none⟩ = false ∧ w.drew.frozen? ⟨B2, 0, none⟩ = false ∧ w.drew.frozen? ⟨B2, 1, none⟩ = false := ⟨HSt.out.b1.cell 0, HSt.out.b1.cell 1, HSt.out.b2.cell 0, HSt.out.b2.cell 1, HSt.out.b1.free 0, HSt.out.b1.free 1, HSt.out.b2.free 0, HSt.out.b2.free 1⟩
  refine Eng.regionN [(0, true), (2, true), (1, false), (3, false), (4, false), (5, false)] (fun w' => w'.cell? ⟨B1, 0, none⟩ = some (.int .i64 h) ∧ w'.cell? ⟨B1, 1, none⟩ = some (.int .i64 l) ∧ w'.cell? ⟨B2, 0, none⟩ = some (.int .i64 u) ∧ w'.cell? ⟨B2, 1, none⟩ = some (.int .i64 v) ∧ w'.frozen? ⟨B1, 0, none⟩ = false ∧ w'.frozen? ⟨B1, 1, none⟩ = false ∧ w'.frozen? ⟨B2, 0, none⟩ = false ∧ w'.frozen? ⟨B2, 1, none⟩ = false) (by kernel_rfl) 28 hn (by kernel_rfl) rfl (by kernel_rfl) (hSS) (fun a b ha hb => ?_)
  subst ha
  have hb2 : b 2 = .pointer (some ⟨B1, 0, none⟩) := (hb 2).symm.trans h_2
  have hb3 : b 3 = .pointer (some ⟨B2, 0, none⟩) := (hb 3).symm.trans h_3
  clear hb h_2 h_3
  have HP := Lib.hid hpost; have HN := Lib.hid hn
  clear hpost hn
  refine Eng.Sch.take (v := ?_) rfl rfl (by decide) (by kernel_rfl) (fun w hw => ?_) ?_
  rotate_left
  · (try dsimp only at hw); go_simp; first | done | with_reducible rfl
  refine Eng.Sch.take (v := ?_) rfl rfl (by decide) (by kernel_rfl) (fun w hw => ?_) ?_
  rotate_left
  · (try dsimp only at hw); go_simp; first | done | with_reducible rfl
  refine Eng.Sch.call rfl rfl (by decide) (by kernel_rfl) ?_ (right (h, l) ha _) ?_
  · go_simp
  rintro e w2 ⟨rfl, hf⟩
  have HSt1 := Lib.hid (HSt.out.frF hf)
  have hSS : w2.cell? ⟨B1, 0, none⟩ = some (.int .i64 h) ∧ w2.cell? ⟨B1, 1, none⟩ = some (.int .i64 l) ∧ w2.cell? ⟨B2, 0, none⟩ = some (.int .i64 u) ∧ w2.cell? ⟨B2, 1, none⟩ = some (.int .i64 v) ∧ w2.frozen? ⟨B1, 0, none⟩ = false ∧ w2.frozen? ⟨B1, 1, none⟩ = false ∧ w2.frozen? ⟨B2, 0, none⟩ = false ∧ w2.frozen? ⟨B2, 1, none⟩ = false := ⟨HSt1.out.b1.cell 0, HSt1.out.b1.cell 1, HSt1.out.b2.cell 0, HSt1.out.b2.cell 1, HSt1.out.b1.free 0, HSt1.out.b1.free 1, HSt1.out.b2.free 0, HSt1.out.b2.free 1⟩
  clear hf
  refine ⟨_, rfl, hSS, ?_⟩
  refine Eng.Sch.call rfl rfl (by decide) (by kernel_rfl) ?_ (right (u, v) hb _) ?_
  · go_simp
  rintro e w3 ⟨rfl, hf⟩
  have HSt2 := Lib.hid (HSt1.out.frF hf)
  have hSS : w3.cell? ⟨B1, 0, none⟩ = some (.int .i64 h) ∧ w3.cell? ⟨B1, 1, none⟩ = some (.int .i64 l) ∧ w3.cell? ⟨B2, 0, none⟩ = some (.int .i64 u) ∧ w3.cell? ⟨B2, 1, none⟩ = some (.int .i64 v) ∧ w3.frozen? ⟨B1, 0, none⟩ = false ∧ w3.frozen? ⟨B1, 1, none⟩ = false ∧ w3.frozen? ⟨B2, 0, none⟩ = false ∧ w3.frozen? ⟨B2, 1, none⟩ = false := ⟨HSt2.out.b1.cell 0, HSt2.out.b1.cell 1, HSt2.out.b2.cell 0, HSt2.out.b2.cell 1, HSt2.out.b1.free 0, HSt2.out.b1.free 1, HSt2.out.b2.free 0, HSt2.out.b2.free 1⟩
  clear hf
  refine ⟨_, rfl, hSS, ?_⟩
  refine Eng.Sch.step0 rfl rfl (by kernel_rfl) (by go_simp; first | done | with_reducible rfl) (⟨(HSt2.out.set1 (h, l)).b1.cell 0, (HSt2.out.set1 (h, l)).b1.cell 1, (HSt2.out.set1 (h, l)).b2.cell 0, (HSt2.out.set1 (h, l)).b2.cell 1, (HSt2.out.set1 (h, l)).b1.free 0, (HSt2.out.set1 (h, l)).b1.free 1, (HSt2.out.set1 (h, l)).b2.free 0, (HSt2.out.set1 (h, l)).b2.free 1⟩) ?_
  have HSt3 := Lib.hid (HSt2.out.set1 (h, l))
  have hSS : ((w3.setCell ⟨B1, 0, none⟩ (.int .i64 h)).setCell ⟨B1, 1, none⟩ (.int .i64 l)).cell? ⟨B1, 0, none⟩ = some (.int .i64 h) ∧ ((w3.setCell ⟨B1, 0, none⟩ (.int .i64 h)).setCell ⟨B1, 1, none⟩ (.int .i64 l)).cell? ⟨B1, 1, none⟩ = some (.int .i64 l) ∧ ((w3.setCell ⟨B1, 0, none⟩ (.int .i64 h)).setCell ⟨B1, 1, none⟩ (.int .i64 l)).cell? ⟨B2, 0, none⟩ = some (.int .i64 u) ∧ ((w3.setCell ⟨B1, 0, none⟩ (.int .i64 h)).setCell ⟨B1, 1, none⟩ (.int .i64 l)).cell? ⟨B2, 1, none⟩ = some (.int .i64 v) ∧ ((w3.setCell ⟨B1, 0, none⟩ (.int .i64 h)).setCell ⟨B1, 1, none⟩ (.int .i64 l)).frozen? ⟨B1, 0, none⟩ = false ∧ ((w3.setCell ⟨B1, 0, none⟩ (.int .i64 h)).setCell ⟨B1, 1, none⟩ (.int .i64 l)).frozen? ⟨B1, 1, none⟩ = false ∧ ((w3.setCell ⟨B1, 0, none⟩ (.int .i64 h)).setCell ⟨B1, 1, none⟩ (.int .i64 l)).frozen? ⟨B2, 0, none⟩ = false ∧ ((w3.setCell ⟨B1, 0, none⟩ (.int .i64 h)).setCell ⟨B1, 1, none⟩ (.int .i64 l)).frozen? ⟨B2, 1, none⟩ = false := ⟨HSt3.out.b1.cell 0, HSt3.out.b1.cell 1, HSt3.out.b2.cell 0, HSt3.out.b2.cell 1, HSt3.out.b1.free 0, HSt3.out.b1.free 1, HSt3.out.b2.free 0, HSt3.out.b2.free 1⟩
  refine Eng.Sch.step0 rfl rfl (by kernel_rfl) (by go_simp; first | done | with_reducible rfl) (⟨(HSt3.out.set2 (u, v)).b1.cell 0, (HSt3.out.set2 (u, v)).b1.cell 1, (HSt3.out.set2 (u, v)).b2.cell 0, (HSt3.out.set2 (u, v)).b2.cell 1, (HSt3.out.set2 (u, v)).b1.free 0, (HSt3.out.set2 (u, v)).b1.free 1, (HSt3.out.set2 (u, v)).b2.free 0, (HSt3.out.set2 (u, v)).b2.free 1⟩) ?_
  have HSt4 := Lib.hid (HSt3.out.set2 (u, v))
  have hSS : ((((w3.setCell ⟨B1, 0, none⟩ (.int .i64 h)).setCell ⟨B1, 1, none⟩ (.int .i64 l)).setCell ⟨B2, 0, none⟩ (.int .i64 u)).setCell ⟨B2, 1, none⟩ (.int .i64 v)).cell? ⟨B1, 0, none⟩ = some (.int .i64 h) ∧ ((((w3.setCell ⟨B1, 0, none⟩ (.int .i64 h)).setCell ⟨B1, 1, none⟩ (.int .i64 l)).setCell ⟨B2, 0, none⟩ (.int .i64 u)).setCell ⟨B2, 1, none⟩ (.int .i64 v)).cell? ⟨B1, 1, none⟩ = some (.int .i64 l) ∧ ((((w3.setCell ⟨B1, 0, none⟩ (.int .i64 h)).setCell ⟨B1, 1, none⟩ (.int .i64 l)).setCell ⟨B2, 0, none⟩ (.int .i64 u)).setCell ⟨B2, 1, none⟩ (.int .i64 v)).cell? ⟨B2, 0, none⟩ = some (.int .i64 u) ∧ ((((w3.setCell ⟨B1, 0, none⟩ (.int .i64 h)).setCell ⟨B1, 1, none⟩ (.int .i64 l)).setCell ⟨B2, 0, none⟩ (.int .i64 u)).setCell ⟨B2, 1, none⟩ (.int .i64 v)).cell? ⟨B2, 1, none⟩ = some (.int .i64 v) ∧ ((((w3.setCell ⟨B1, 0, none⟩ (.int .i64 h)).setCell ⟨B1, 1, none⟩ (.int .i64 l)).setCell ⟨B2, 0, none⟩ (.int .i64 u)).setCell ⟨B2, 1, none⟩ (.int .i64 v)).frozen? ⟨B1, 0, none⟩ = false ∧ ((((w3.setCell ⟨B1, 0, none⟩ (.int .i64 h)).setCell ⟨B1, 1, none⟩ (.int .i64 l)).setCell ⟨B2, 0, none⟩ (.int .i64 u)).setCell ⟨B2, 1, none⟩ (.int .i64 v)).frozen? ⟨B1, 1, none⟩ = false ∧ ((((w3.setCell ⟨B1, 0, none⟩ (.int .i64 h)).setCell ⟨B1, 1, none⟩ (.int .i64 l)).setCell ⟨B2, 0, none⟩ (.int .i64 u)).setCell ⟨B2, 1, none⟩ (.int .i64 v)).frozen? ⟨B2, 0, none⟩ = false ∧ ((((w3.setCell ⟨B1, 0, none⟩ (.int .i64 h)).setCell ⟨B1, 1, none⟩ (.int .i64 l)).setCell ⟨B2, 0, none⟩ (.int .i64 u)).setCell ⟨B2, 1, none⟩ (.int .i64 v)).frozen? ⟨B2, 1, none⟩ = false := ⟨HSt4.out.b1.cell 0, HSt4.out.b1.cell 1, HSt4.out.b2.cell 0, HSt4.out.b2.cell 1, HSt4.out.b1.free 0, HSt4.out.b1.free 1, HSt4.out.b2.free 0, HSt4.out.b2.free 1⟩
  refine Eng.Sch.end_ [5, 6, 7, 8] HN.out (by kernel_rfl) (by kernel_rfl) ?_
  exact HP.out _ _ HSt4.out

set_option maxRecDepth 100000 in
theorem Less (a b : Int × Int) (ha : HistP.May a) (hb : HistP.May b) (w : World) : Calls Try.prog 103 #[sv a, sv b] w fun e w' => e = .returned (.bool (lessS a b)) ∧ Fr (fun _ => False) w w' := by
  obtain ⟨h, l⟩ := a
  obtain ⟨u, v⟩ := b
  have HA := Lib.hid ha; have HB := Lib.hid hb
  have HW := Lib.hid (W2.new w (h, l) (u, v))
  have HE : Hid (lessS (h, l) (u, v) = decide (h < u ∨ h = u ∧ l < v)) := rfl
  clear ha hb
  go_enter Try.func103, Try.ntmps103
  go_upto_region 1 with (fail)
  refine l1 (by kernel_rfl) _ _ w _ w.heap.size (w.heap.size + 1) h l u v HW.out HA.out HB.out rfl rfl rfl ?_
  intro x w' hst
  simp only [Eng.setAll, Act.put, List.setIfInBounds_toArray, List.set_cons_succ, List.set_cons_zero]
  obtain ⟨c0, c1, -, -⟩ := Bk.cells hst.b1
  obtain ⟨d0, d1, -, -⟩ := Bk.cells hst.b2
  dsimp only at c0 c1 d0 d1
  have HF := Lib.hid hst.fr
  clear hst HW
  by_cases h1 : h < u
  · go_wp2_with fail
    go_ret
    exact ⟨by rw [HE.out]; simp [h1], HF.out⟩
  · have t1 : decide (h < u) = false := by simpa using h1
    by_cases h2 : h = u
    · have t2 : (h == u) = true := by simpa using h2
      have H2 := Lib.hid h2
      clear h2
      by_cases h3 : l < v
      all_goals
        go_wp2_with fail
        go_ret
        exact ⟨by rw [HE.out]; simp [h1, h3, H2.out], HF.out⟩
    · have t2 : (h == u) = false := by simpa using h2
      have H2 := Lib.hid h2
      clear h2
      go_wp2_with fail
      go_ret
      exact ⟨by rw [HE.out]; simp [h1, H2.out], HF.out⟩
theorem sum_snoc (l : List Int) {k : Nat} (h : k < l.length) : sumS (l.take (k + 1)) = addS (sumS (l.take k)) l[k] := by
  unfold sumS; rw [List.take_succ_eq_append_getElem h, List.foldl_append]; rfl
set_option maxRecDepth 100000 in
theorem Of (A : Option Addr) (c : Nat) (l : List Int) (w : World) (hS : Sl w 1 A l.length c (ints l)) : Calls Try.prog 104 #[.slice A l.length c] w (PostS (sumS l) w) := by
  have hlen : l.length ≤ 9223372036854775807 := by have := hS.2.1; have := hS.2.2.1; unfold maxLen at this; omega
  have HS := Lib.hid hS
  have HW := Lib.hid (W2.new w (0, 0) (0, 0))
  clear hS
  go_enter Try.func104, Try.ntmps104
  go_wp2_with fail
  go_loopg [5, 8] l.length (fun gk _ i wr => ∃ k : Nat, i = .int .i64 k ∧ k ≤ l.length ∧ gk = l.length - k ∧ W2 w wr w.heap.size (w.heap.size + 1) (0, 0) (sumS (l.take k)))
  case atStart => exact ⟨0, rfl, Nat.zero_le _, rfl, HW.out⟩
  case round =>
    clear HW
    obtain ⟨k, rfl, hk, hg, hst⟩ := hrel
    have HG := Lib.hid hg; have HSt := Lib.hid hst
    clear hg hst
    by_cases hlt : k < l.length
    · obtain ⟨b1, o1, rfl, hb1, c1⟩ := HS.out.at hlt (by omega)
      have e1 : wr.cell? ⟨b1, o1 + k, none⟩ = some (.int .i64 l[k]) := (World.cell?_of_block (w := w) (a := ⟨b1, _, none⟩) (HSt.out.fr.block b1 hb1 (fun h => h))).trans (c1 k _ (by simp [ints, hlt]))
      have hm : HistP.May (sumS (l.take k)) := May.sum _ May.zero
      have HAd := fun w => Lib.hid (Add (sumS (l.take k)) l[k] hm w)
      have HSn := Lib.hid (sum_snoc l hlt)
      obtain ⟨d0, d1, g0, g1⟩ := Bk.cells HSt.out.b2
      generalize hs : sumS (l.take k) = s at *
      clear hs c1
      generalize l[k] = x at *
      obtain ⟨h, lo⟩ := s
      dsimp only at d0 d1
      go_wp2_with fail
      refine (HAd _).out.mono ?_
      rintro e w2 ⟨rfl, hf⟩
      have H2 := Lib.hid (HSt.out.frF hf)
      have H3 := Lib.hid (H2.out.set2 (addS (h, lo) x))
      clear d0 d1 g0 g1 hf
      obtain ⟨d0, d1, g0, g1⟩ := Bk.cells H2.out.b2
      generalize addS (h, lo) x = s at *
      obtain ⟨h', lo'⟩ := s
      dsimp only at d0 d1
      go_wp2_with fail
      go_roundg (l.length - (k + 1))
      case rel => exact ⟨k + 1, by go_num, by omega, rfl, by rw [HSn.out]; exact H3.out⟩
      case measure => have := HG.out; omega
    · obtain rfl : k = l.length := by omega
      rw [List.take_length] at HSt
      obtain ⟨c0, c1, f0, f1⟩ := Bk.cells HSt.out.b1
      obtain ⟨d0, d1, g0, g1⟩ := Bk.cells HSt.out.b2
      have hm := Lib.hid (show True from trivial)
      generalize sumS l = s at *
      obtain ⟨h, lo⟩ := s
      dsimp only at d0 d1 c0 c1
      go_wp2_with fail
      exact bodyPost_ret (results_cell_row rfl _ _ w.heap.size TS _ (0, 0) _ rfl ((HSt.out.b1.set 0 _).set 1 _) Try.underlying100 rfl (by kernel_rfl)) rfl ⟨rfl, (HSt.out.fr.set_new (Nat.le_refl _) _).set_new (Nat.le_refl _) _⟩
end Wide
end Go.Proofs.Ytolpdgaomlhgdaa
