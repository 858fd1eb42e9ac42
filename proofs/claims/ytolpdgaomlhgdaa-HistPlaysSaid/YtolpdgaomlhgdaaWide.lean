/- Sums of durations, and the document's: the walks. -/
import Derived.Test.YtolpdgaomlhgdaaSat
import Derived.Test.YtolpdgaomlhgdaaEng
import Derived.Deep.QuietTactic
import Derived.BigQuiet
import Derived.Laws.Rows
import Derived.Lib.Hide
import Derived.Outline
import Derived.IntWalk
import Derived.Deep.DeepCutAuto
import Derived.Deep.CutBlock
import Derived.StillTailTactics
import Derived.Deep.RegionWith
import Derived.RegionTactic
namespace Go.Proofs.Ytolpdgaomlhgdaa
open Go.RowKit
theorem Fr.set_new {w w1 : World} (hf : Fr (fun _ => False) w w1) {a : Addr} (h : w.heap.size ≤ a.block) (u : Value) : Fr (fun _ => False) w (w1.setCell a u) :=
  hf.trans (Fr.setCell w1 a u (S := (· = a.block)) rfl) (fun _ _ h => h) (fun i hi e => by have e : i = a.block := e; omega)
theorem Bk.other {w : World} {B : Nat} {c : Array Value} {t : TypeId} (h : Bk w B c t) {a : Addr} (hne : a.block ≠ B) (u : Value) : Bk (w.setCell a u) B c t :=
  h.fr (Fr.setCell w a u (S := (· = a.block)) rfl) (fun b hb => by simp at hb; subst hb; exact fun e => hne e.symm)
theorem Fr.to {w w1 w2 : World} (h : Fr (fun _ => False) w w1) (k : Fr (fun _ => False) w1 w2) : Fr (fun _ => False) w w2 := h.trans k (fun _ _ h => h) (fun _ _ h => h)
theorem Bk.frF {w w' : World} {B : Nat} {c : Array Value} {t : TypeId} (h : Bk w B c t) (hf : Fr (fun _ => False) w w') : Bk w' B c t := h.fr hf (fun _ _ h => h)
namespace Wide
open HistP
abbrev TS : TypeId := 100
abbrev sv (s : Int × Int) : Value := .agg #[.int .i64 s.1, .int .i64 s.2]
abbrev PostS (s : Int × Int) (w : World) (e : Ending) (w' : World) : Prop := e = .returned (sv s) ∧ Fr (fun _ => False) w w'
theorem May (s : Int × Int) (hs : HistP.May s) (w : World) : Calls Try.prog 129 #[sv s] w fun e w' => e = .returned (.bool true) ∧ Fr (fun _ => False) w w' := by
  obtain ⟨h, l⟩ := s
  obtain ⟨h0, h1, h2, h3⟩ := hs
  dsimp only at *
  go_enter Try.func129, Try.ntmps129
  go_wp2
  go_ret
  exact ⟨rfl, Fr.alloc _ _ _⟩
set_option maxRecDepth 100000 in
theorem right (s : Int × Int) (hs : HistP.May s) (w : World) : Calls Try.prog 119 #[sv s] w (PostS s w) := by
  have HM := fun w => Lib.hid (May s hs w)
  obtain ⟨h, l⟩ := s
  clear hs
  go_enter Try.func119, Try.ntmps119
  go_wp2_with fail
  refine (HM _).out.mono ?_
  rintro e w1 ⟨rfl, hf⟩
  have b1 : Bk w1 w.heap.size #[.int .i64 h, .int .i64 l] TS := ((Bk.new w _ _).frF (Fr.alloc _ _ _)).frF hf
  have b2 : Bk w1 (w.heap.size + 1) #[.int .i64 0, .int .i64 0] TS := by
    have := (Bk.new (w.alloc (.cells #[.int .i64 h, .int .i64 l] TS)) #[.int .i64 0, .int .i64 0] TS).frF hf
    rwa [World.size_alloc] at this
  have c0 : w1.cell? ⟨w.heap.size, 0, none⟩ = some (.int .i64 h) := b1.cell 0
  have c1 : w1.cell? ⟨w.heap.size, 1, none⟩ = some (.int .i64 l) := b1.cell 1
  have d0 : w1.cell? ⟨w.heap.size + 1, 0, none⟩ = some (.int .i64 0) := b2.cell 0
  have d1 : w1.cell? ⟨w.heap.size + 1, 1, none⟩ = some (.int .i64 0) := b2.cell 1
  have f0 := b2.free 0
  have f1 := b2.free 1
  have HF := Lib.hid (((Fr.alloc _ _ _).to (Fr.alloc _ _ _)).to hf); have HB2 := Lib.hid b2
  clear hf b1 b2 HM
  go_wp2_with fail
  exact bodyPost_ret (results_cell_row rfl _ _ (w.heap.size + 1) TS _ (0, 0) _ rfl ((HB2.out.set 0 _).set 1 _) Try.underlying100 rfl (by kernel_rfl)) rfl ⟨rfl, (HF.out.set_new (by simp) _).set_new (by simp) _⟩
theorem duration (d : Int) (w : World) : Calls Try.prog 120 #[.int .i64 d] w fun e w' => e = .returned (.int .i64 (cl d)) ∧ w = w' := by
  have HC := Lib.hid (Sat.Clamp d 0 4611686018427387904 w)
  have HE := Lib.hid (show clamp d 0 4611686018427387904 = cl d from rfl)
  generalize clamp d 0 4611686018427387904 = x at *
  go_enter Try.func120, Try.ntmps120
  go_wp2_with fail
  refine HC.out.mono ?_
  rintro e w1 ⟨rfl, rfl⟩
  go_wp2_with fail
  go_ret
  exact ⟨by rw [← HE.out]; rfl, rfl⟩
theorem greatest (w : World) : Calls Try.prog 121 #[] w (PostS (4294967296, 4611686018427387903) w) := by
  go_enter Try.func121, Try.ntmps121
  go_wp2
  exact bodyPost_ret (results_cell_row rfl _ _ w.heap.size TS _ (0, 0) _ rfl (heap_new _ _) Try.underlying100 rfl (by kernel_rfl)) rfl ⟨rfl, Fr.alloc _ _ _⟩
/-- Two blocks of two cells that a call made first. -/
theorem two {w w1 : World} {a b c d : Value} (hf : Fr (fun _ => False) ((w.alloc (.cells #[a, b] TS)).alloc (.cells #[c, d] TS)) w1) : Bk w1 w.heap.size #[a, b] TS ∧ Bk w1 (w.heap.size + 1) #[c, d] TS ∧ Fr (fun _ => False) w w1 := by
  refine ⟨((Bk.new w _ _).frF (Fr.alloc _ _ _)).frF hf, ?_, ((Fr.alloc _ _ _).to (Fr.alloc _ _ _)).to hf⟩
  have := (Bk.new (w.alloc (.cells #[a, b] TS)) #[c, d] TS).frF hf
  rwa [World.size_alloc] at this
theorem Bk.cells {w : World} {B : Nat} {a b : Value} {t : TypeId} (h : Bk w B #[a, b] t) : w.cell? ⟨B, 0, none⟩ = some a ∧ w.cell? ⟨B, 1, none⟩ = some b ∧ w.frozen? ⟨B, 0, none⟩ = false ∧ w.frozen? ⟨B, 1, none⟩ = false :=
  ⟨h.cell 0, h.cell 1, h.free 0, h.free 1⟩
set_option maxRecDepth 100000 in
theorem Add (s : Int × Int) (d : Int) (hs : HistP.May s) (w : World) : Calls Try.prog 100 #[sv s, .int .i64 d] w (PostS (addS s d) w) := by
  have HR := fun w => Lib.hid (right s hs w)
  obtain ⟨h, l⟩ := s
  obtain ⟨h0, h1, h2, h3⟩ := hs
  dsimp only at h0 h1 h2 h3
  have hc := cl_rng d
  have HDu : Hid (∀ w, Calls Try.prog 120 #[.int .i64 d] w fun e w' => e = .returned (.int .i64 (cl d)) ∧ w' = w) := fun w => (duration d w).mono (fun _ _ h => ⟨h.1, h.2.symm⟩)
  have HE : Hid (addS (h, l) d = if 4294967296 < h + (l + cl d) / 4611686018427387904 then (4294967296, 4611686018427387903) else (h + (l + cl d) / 4611686018427387904, (l + cl d) % 4611686018427387904)) := rfl
  generalize cl d = x at *
  go_enter Try.func100, Try.ntmps100
  go_wp2_with fail
  refine (HR _).out.mono ?_
  rintro e w1 ⟨rfl, hf⟩
  obtain ⟨b1, b2, hf⟩ := two hf
  obtain ⟨c0, c1, f0, f1⟩ := Bk.cells b1
  have HB1 := Lib.hid ((b1.set 0 (.int .i64 h)).set 1 (.int .i64 l)); have HB2 := Lib.hid ((b2.other (a := ⟨w.heap.size, 0, none⟩) (by simp) (.int .i64 h)).other (a := ⟨w.heap.size, 1, none⟩) (by simp) (.int .i64 l))
  have HF := Lib.hid ((hf.set_new (a := ⟨w.heap.size, 0, none⟩) (Nat.le_refl _) (.int .i64 h)).set_new (a := ⟨w.heap.size, 1, none⟩) (Nat.le_refl _) (.int .i64 l))
  clear hf b1 b2 HR
  go_upto_region 2 with (fail)
  clear c0 c1 f0 f1
  generalize (w1.setCell ⟨w.heap.size, 0, none⟩ (.int .i64 h)).setCell ⟨w.heap.size, 1, none⟩ (.int .i64 l) = w2 at *
  obtain ⟨c0, c1, f0, f1⟩ := Bk.cells HB1.out
  obtain ⟨d0, d1, g0, g1⟩ := Bk.cells HB2.out
  go_quiet (first | (go_at_call 120; refine Calls.quiet_of_same (HDu.out _)))
  have hm : 0 ≤ (l + x) / 4611686018427387904 ∧ (l + x) / 4611686018427387904 ≤ 1 := by omega
  have HB3 := Lib.hid (((HB1.out.frF (Fr.drewN _ w2 nq)).set 0 (.int .i64 (h + (l + x) / 4611686018427387904))).set 1 (.int .i64 ((l + x) % 4611686018427387904)))
  have HB4 := Lib.hid (((HB2.out.frF (Fr.drewN _ w2 nq)).other (a := ⟨w.heap.size, 0, none⟩) (by simp) (.int .i64 (h + (l + x) / 4611686018427387904))).other (a := ⟨w.heap.size, 1, none⟩) (by simp) (.int .i64 ((l + x) % 4611686018427387904)))
  have HF4 := Lib.hid (((HF.out.to (Fr.drewN _ w2 nq)).set_new (a := ⟨w.heap.size, 0, none⟩) (Nat.le_refl _) (.int .i64 (h + (l + x) / 4611686018427387904))).set_new (a := ⟨w.heap.size, 1, none⟩) (Nat.le_refl _) (.int .i64 ((l + x) % 4611686018427387904)))
  go_upto_region 5 with (fail)
  generalize ((w2.drewN nq).setCell ⟨w.heap.size, 0, none⟩ (.int .i64 (h + (l + x) / 4611686018427387904))).setCell ⟨w.heap.size, 1, none⟩ (.int .i64 ((l + x) % 4611686018427387904)) = w3 at *
  clear c0 c1 f0 f1 d0 d1 g0 g1
  obtain ⟨c0, c1, f0, f1⟩ := Bk.cells HB3.out
  obtain ⟨d0, d1, g0, g1⟩ := Bk.cells HB4.out
  by_cases hg : 4294967296 < h + (l + x) / 4611686018427387904
  · rw [if_pos hg] at HE
    go_wp2_with fail
    refine (greatest _).mono ?_
    rintro e w4 ⟨rfl, hf4⟩
    have HB5 := Lib.hid (HB4.out.frF hf4); have HF5 := Lib.hid (HF4.out.to hf4)
    clear c0 c1 f0 f1 d0 d1 g0 g1 hf4
    obtain ⟨d0, d1, g0, g1⟩ := Bk.cells HB5.out
    go_wp2_with fail
    exact bodyPost_ret (results_cell_row rfl _ _ (w.heap.size + 1) TS _ (0, 0) _ rfl ((HB5.out.set 0 _).set 1 _) Try.underlying100 rfl (by kernel_rfl)) rfl ⟨by rw [HE.out]; rfl, (HF5.out.set_new (by simp) _).set_new (by simp) _⟩
  · rw [if_neg hg] at HE
    go_wp2_with fail
    exact bodyPost_ret (results_cell_row rfl _ _ (w.heap.size + 1) TS _ (0, 0) _ rfl ((HB4.out.set 0 _).set 1 _) Try.underlying100 rfl (by kernel_rfl)) rfl ⟨by rw [HE.out]; rfl, (HF4.out.set_new (by simp) _).set_new (by simp) _⟩
set_option maxRecDepth 100000 in
theorem Sub (s : Int × Int) (d : Int) (hs : HistP.May s) (w : World) : Calls Try.prog 105 #[sv s, .int .i64 d] w (PostS (subS s d) w) := by
  have HR := fun w => Lib.hid (right s hs w)
  obtain ⟨h, l⟩ := s
  obtain ⟨h0, h1, h2, h3⟩ := hs
  dsimp only at h0 h1 h2 h3
  have hc := cl_rng d
  have HDu : Hid (∀ w, Calls Try.prog 120 #[.int .i64 d] w fun e w' => e = .returned (.int .i64 (cl d)) ∧ w' = w) := fun w => (duration d w).mono (fun _ _ h => ⟨h.1, h.2.symm⟩)
  have HE : Hid (subS (h, l) d = if l - cl d < 0 then (if h - 1 < 0 then (0, 0) else (h - 1, l - cl d + 4611686018427387904)) else (h, l - cl d)) := rfl
  generalize cl d = x at *
  go_enter Try.func105, Try.ntmps105
  go_wp2_with fail
  refine (HR _).out.mono ?_
  rintro e w1 ⟨rfl, hf⟩
  obtain ⟨b1, b2, hf⟩ := two hf
  obtain ⟨c0, c1, f0, f1⟩ := Bk.cells b1
  have HB1 := Lib.hid ((b1.set 0 (.int .i64 h)).set 1 (.int .i64 l)); have HB2 := Lib.hid ((b2.other (a := ⟨w.heap.size, 0, none⟩) (by simp) (.int .i64 h)).other (a := ⟨w.heap.size, 1, none⟩) (by simp) (.int .i64 l))
  have HF := Lib.hid ((hf.set_new (a := ⟨w.heap.size, 0, none⟩) (Nat.le_refl _) (.int .i64 h)).set_new (a := ⟨w.heap.size, 1, none⟩) (Nat.le_refl _) (.int .i64 l))
  clear hf b1 b2 HR
  go_upto_region 2 with (fail)
  clear c0 c1 f0 f1
  generalize (w1.setCell ⟨w.heap.size, 0, none⟩ (.int .i64 h)).setCell ⟨w.heap.size, 1, none⟩ (.int .i64 l) = w2 at *
  obtain ⟨c0, c1, f0, f1⟩ := Bk.cells HB1.out
  obtain ⟨d0, d1, g0, g1⟩ := Bk.cells HB2.out
  have hw := IntWalk.i64_in (l - x) (by omega)
  go_region_with (first | (go_at_call 120; refine (HDu.out _).mono ?_; rintro e w4 ⟨rfl, rfl⟩))
  all_goals
    go_upto_region 3 with (fail)
    clear hw
    have HB3 := Lib.hid ((HB1.out.set 1 (.int .i64 (l - x))).frF (Fr.drew _ _)); have HB4 := Lib.hid ((HB2.out.other (a := ⟨w.heap.size, 1, none⟩) (by simp) (.int .i64 (l - x))).frF (Fr.drew _ _)); have HF4 := Lib.hid ((HF.out.set_new (a := ⟨w.heap.size, 1, none⟩) (Nat.le_refl _) (.int .i64 (l - x))).to (Fr.drew _ _))
    clear c0 c1 f0 f1 d0 d1 g0 g1 HB1 HB2 HF
    generalize (w2.setCell ⟨w.heap.size, 1, none⟩ (.int .i64 (l - x))).drew = w3 at *
    obtain ⟨c0, c1, f0, f1⟩ := Bk.cells HB3.out
    obtain ⟨d0, d1, g0, g1⟩ := Bk.cells HB4.out
    by_cases hg : l - x < 0
    · rw [if_pos hg] at HE
      by_cases hk : h - 1 < 0
      · rw [if_pos hk] at HE
        go_wp2_with fail
        exact bodyPost_ret (results_cell_row rfl _ _ (w.heap.size + 1) TS _ (0, 0) _ rfl (by refine Bk.set (Bk.set (c := #[.int .i64 0, .int .i64 0]) ?_ 0 _) 1 _; (repeat (refine Bk.other ?_ (by simp) _)); exact HB4.out) Try.underlying100 rfl (by kernel_rfl)) rfl ⟨by rw [HE.out]; rfl, by (repeat (refine Fr.set_new ?_ (by simp) _)); exact HF4.out⟩
      · rw [if_neg hk] at HE
        go_wp2_with fail
        exact bodyPost_ret (results_cell_row rfl _ _ (w.heap.size + 1) TS _ (0, 0) _ rfl (by refine Bk.set (Bk.set (c := #[.int .i64 0, .int .i64 0]) ?_ 0 _) 1 _; (repeat (refine Bk.other ?_ (by simp) _)); exact HB4.out) Try.underlying100 rfl (by kernel_rfl)) rfl ⟨by rw [HE.out]; rfl, by (repeat (refine Fr.set_new ?_ (by simp) _)); exact HF4.out⟩
    · rw [if_neg hg] at HE
      go_wp2_with fail
      exact bodyPost_ret (results_cell_row rfl _ _ (w.heap.size + 1) TS _ (0, 0) _ rfl (by refine Bk.set (Bk.set (c := #[.int .i64 0, .int .i64 0]) ?_ 0 _) 1 _; (repeat (refine Bk.other ?_ (by simp) _)); exact HB4.out) Try.underlying100 rfl (by kernel_rfl)) rfl ⟨by rw [HE.out]; rfl, by (repeat (refine Fr.set_new ?_ (by simp) _)); exact HF4.out⟩
end Wide
end Go.Proofs.Ytolpdgaomlhgdaa
