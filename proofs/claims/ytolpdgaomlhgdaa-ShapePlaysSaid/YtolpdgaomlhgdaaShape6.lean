/- Shapes: Of, and the greatest numbers. -/
import Derived.Test.YtolpdgaomlhgdaaShape5
namespace Go.Proofs.Ytolpdgaomlhgdaa
open Go.RowKit
namespace Shape
open BagP Bag ShapeP Fm
theorem six {w : World} {Br : Nat} {a0 a1 a2 a3 a4 a5 : Value} (h : Bk w Br #[a0, a1, a2, a3, a4, a5] TSp) (v0 v1 v2 v3 v4 v5 : Value) :
    Bk ((((((w.setCell ⟨Br, 0, none⟩ v0).setCell ⟨Br, 1, none⟩ v1).setCell ⟨Br, 2, none⟩ v2).setCell ⟨Br, 3, none⟩ v3).setCell ⟨Br, 4, none⟩ v4).setCell ⟨Br, 5, none⟩ v5) Br #[v0, v1, v2, v3, v4, v5] TSp ∧
    Fr (· = Br) w ((((((w.setCell ⟨Br, 0, none⟩ v0).setCell ⟨Br, 1, none⟩ v1).setCell ⟨Br, 2, none⟩ v2).setCell ⟨Br, 3, none⟩ v3).setCell ⟨Br, 4, none⟩ v4).setCell ⟨Br, 5, none⟩ v5) := by
  have fs : ∀ (w : World) (o : Nat) (u : Value), Fr (· = Br) w (w.setCell ⟨Br, o, none⟩ u) := fun w o u => Fr.setCell w ⟨Br, o, none⟩ u rfl
  have tr : ∀ {a b d : World}, Fr (· = Br) a b → Fr (· = Br) b d → Fr (· = Br) a d := fun h k => h.trans k (fun _ _ h => h) (fun _ _ h => h)
  exact ⟨(((((h.set 0 v0).set 1 v1).set 2 v2).set 3 v3).set 4 v4).set 5 v5, tr (tr (tr (tr (tr (fs w 0 v0) (fs _ 1 v1)) (fs _ 2 v2)) (fs _ 3 v3)) (fs _ 4 v4)) (fs _ 5 v5)⟩
set_option maxRecDepth 100000 in
set_option maxHeartbeats 1000000 in
theorem Of (A : Option Addr) (c : Nat) (ys : List Pl) (w : World) (hS : Sl w 6 A ys.length c (ys.flatMap plc)) (hwf : ∀ x ∈ ys, okK x.k) (hy : ys.length ≤ 1000) :
    Calls Try.prog 77 #[.slice A ys.length c] w (ShPost (ys.map Pl.k) w) := by
  have f0 : Fr (fun _ => False) w ((w.alloc (.cells zeroS TSp)).alloc (.cells zeroV TV)) := (Fr.alloc _ _ _).trans (Fr.alloc (fun _ => False) _ _) (fun _ _ h => h) (fun _ _ h => h)
  have hb0 : Bk ((w.alloc (.cells zeroS TSp)).alloc (.cells zeroV TV)) w.heap.size zeroS TSp := (Bk.new w zeroS TSp).fr (Fr.alloc (fun _ => False) _ _) (fun _ _ h => h)
  have hv0 : VB ((w.alloc (.cells zeroS TSp)).alloc (.cells zeroV TV)) (w.heap.size + 1) 0 [] [w.heap.size + 1] := by
    have := VB.new (w.alloc (.cells zeroS TSp)) 0
    rwa [World.size_alloc] at this
  have ha1 : Ar ((w.alloc (.cells zeroS TSp)).alloc (.cells zeroV TV)) none 0 [] [w.heap.size + 1] := ⟨Sl.empty _ _, fun h => absurd rfl h⟩
  have ha2 : Ar ((w.alloc (.cells zeroS TSp)).alloc (.cells zeroV TV)) A c ys [w.heap.size + 1] := ⟨hS.fr f0 (fun _ _ h => h), fun hne a ha e => by
    have hne' : ys.flatMap plc ≠ [] := fun e => by
      have := congrArg List.length e
      rw [flat_length plc_len] at this
      exact hne (List.eq_nil_of_length_eq_zero (by simp at this; omega))
    have := hS.lt hne' a ha
    simp at e; omega⟩
  have HAp := Lib.hid (Apply (w.heap.size + 1) 0 [] [w.heap.size + 1] none A 0 c [] ys _ hv0 ha1 ha2 (by simp) hwf (by simp) hy (by simp; omega) (by simp; omega))
  have HB0 := Lib.hid hb0; have HF0 := Lib.hid f0
  clear hS hwf f0 hb0 hv0 ha1 ha2
  go_enter Try.func77, Try.ntmps77
  go_wp2_with fail
  refine HAp.out.mono ?_
  rintro e w1 ⟨rfl, F', hv, ht⟩
  have hv1 : VB w1 (w.heap.size + 1) (0 + 3 * (([] : List Pl).length + ys.length)) (ys.map Pl.k) F' := hv
  have HS := Lib.hid (Shape_ (w.heap.size + 1) _ (ys.map Pl.k) F' w1 hv1 (by simp; omega))
  have hb1 := HB0.out.fr ht.fr (fun b hb e => by simp at hb e; omega)
  have f1 := HF0.out.trans ht.fr (T := fun _ => False) (fun _ _ h => h) (fun i hi e => by simp at e; omega)
  have HB1 := Lib.hid hb1; have HF1 := Lib.hid f1
  have hlt := lt_of_heap hb1
  clear hv hv1 ht hb1 f1 HB0 HF0 HAp
  go_wp2_with fail
  refine HS.out.mono ?_
  rintro e w2 ⟨x, A1, c1, A2, c2, rfl, hx, s1, s2, r1, r2, f2⟩
  have hb2 := HB1.out.fr f2 (fun _ _ h => h)
  obtain ⟨n_, r_, o_, y_, D, Fn⟩ := x
  have z0 : w2.cell? ⟨w.heap.size, 0, none⟩ = some (.int .i64 0) := hb2.cell 0
  have z1 : w2.cell? ⟨w.heap.size, 1, none⟩ = some (.int .i64 0) := hb2.cell 1
  have z2 : w2.cell? ⟨w.heap.size, 2, none⟩ = some (.int .i64 0) := hb2.cell 2
  have z3 : w2.cell? ⟨w.heap.size, 3, none⟩ = some (.int .i64 0) := hb2.cell 3
  have z4 : w2.cell? ⟨w.heap.size, 4, none⟩ = some (.slice none 0 0) := hb2.cell 4
  have z5 : w2.cell? ⟨w.heap.size, 5, none⟩ = some (.slice none 0 0) := hb2.cell 5
  have g0 := hb2.free 0; have g1 := hb2.free 1; have g2 := hb2.free 2; have g3 := hb2.free 3; have g4 := hb2.free 4; have g5 := hb2.free 5
  have HX := Lib.hid hx; have H1 := Lib.hid s1; have H2 := Lib.hid s2; have R1 := Lib.hid r1; have R2 := Lib.hid r2
  have HF2 := Lib.hid (HF1.out.trans f2 (T := fun _ => False) (fun _ _ h => h) (fun _ _ h => h))
  have HB2 := Lib.hid (six hb2 (.int .i64 n_) (.int .i64 r_) (.int .i64 o_) (.int .i64 y_) (.slice A1 D.length c1) (.slice A2 Fn.length c2))
  clear hb2 hx s1 s2 r1 r2 f2 HS HB1
  go_wp2_with fail
  have hsz := HB2.out.2.size
  have hf1 := HF1.out.size
  exact bodyPost_ret (results_cell_row rfl _ _ w.heap.size TSp _ (0, 0) _ rfl HB2.out.1 Try.underlying117 rfl (by kernel_rfl)) rfl ⟨⟨n_, r_, o_, y_, D, Fn⟩, A1, c1, A2, c2, rfl, HX.out,
    H1.out.fr HB2.out.2 (fun a ha e => by have := R1.out a ha; omega), H2.out.fr HB2.out.2 (fun a ha e => by have := R2.out a ha; omega), fun a ha => by have := R1.out a ha; omega, fun a ha => by have := R2.out a ha; omega, HF2.out.trans HB2.out.2 (fun _ _ h => h) (fun i hi e => by omega)⟩
theorem two_cells {w : World} {k : Nat} {L : List (Int × Int)} {b o : Nat} (hk : k < L.length) (hc : ∀ j u, (L.flatMap pc)[j]? = some u → w.cell? ⟨b, o + j, none⟩ = some u) :
    w.cell? ⟨b, o + k * 2, none⟩ = some (.int .i64 L[k].1) ∧ w.cell? ⟨b, o + k * 2 + 1, none⟩ = some (.int .i64 L[k].2) := by
  have key : ∀ j u, j < 2 → (pc L[k])[j]? = some u → w.cell? ⟨b, o + (k * 2 + j), none⟩ = some u := fun j u hj hu => hc _ u (by rw [flat_at pc_len hk hj]; exact hu)
  exact ⟨key 0 _ (by omega) rfl, key 1 _ (by omega) rfl⟩
set_option maxRecDepth 100000 in
theorem greatest (A : Option Addr) (c : Nat) (L : List (Int × Int)) (w : World) (hS : Cs w A c L) : Calls Try.prog 111 #[.slice A L.length c] w fun e w' => e = .returned (.int .i64 (great L)) ∧ Fr (fun _ => False) w w' := by
  have hlen : L.length ≤ 9223372036854775807 := by have := hS.2.1; have := hS.2.2.1; unfold maxLen at this; omega
  have HS := Lib.hid hS
  clear hS
  go_enter Try.func111, Try.ntmps111
  go_wp2_with fail
  go_loopg [3, 4, 5, 8] L.length (fun gk m_ _ _ i wr => ∃ k : Nat, m_ = .int .i64 (great (L.take k)) ∧ i = .int .i64 k ∧ k ≤ L.length ∧ gk = L.length - k ∧ Fr (fun _ => False) w wr)
  case atStart => exact ⟨0, rfl, rfl, Nat.zero_le _, rfl, Fr.refl _ _⟩
  case round =>
    obtain ⟨k, rfl, rfl, hk, hg, hfr⟩ := hrel
    have HG := Lib.hid hg; have HFr := Lib.hid hfr
    clear hg hfr
    by_cases hlt : k < L.length
    · obtain ⟨b1, o1, rfl, hb1, hc1⟩ := (HS.out.fr HFr.out (fun _ _ h => h)).at hlt (by omega)
      obtain ⟨d0, d1⟩ := two_cells hlt hc1
      have hT : L.take (k + 1) = L.take k ++ [L[k]] := List.take_succ_eq_append_getElem hlt
      have HF2 := fun v => Lib.hid (HFr.out.trans (Fr.alloc (fun _ => False) wr v) (T := fun _ => False) (fun _ _ h => h) (fun _ _ h => h))
      by_cases hk0 : k = 0
      · have q : ((k : Int) == 0) = true := by simp [hk0]
        have HE : Hid (great (L.take (k + 1)) = L[k].1) := by show _ = _; rw [hT]; subst hk0; simp [great]
        have HK0 := Lib.hid hk0
        clear hT hc1 hk0
        generalize L[k] = x at *
        obtain ⟨x1, x2⟩ := x
        dsimp only at d0 d1 HE
        generalize great (L.take k) = g at *
        go_wp2_with fail
        go_roundg (L.length - (k + 1))
        case rel => exact ⟨k + 1, by rw [HE.out], by go_num, by omega, rfl, (HF2 _).out⟩
        case measure => have := HG.out; omega
      · have q : ((k : Int) == 0) = false := by simp [hk0]
        have HE : Hid (great (L.take (k + 1)) = max (great (L.take k)) L[k].1) := by
          show _ = _
          rw [hT]; exact great_snoc (fun e => hk0 (by have := congrArg List.length e; rw [List.length_take] at this; simp only [List.length_nil] at this; omega)) _
        have HK0 := Lib.hid hk0
        clear hT hc1 hk0
        generalize L[k] = x at *
        obtain ⟨x1, x2⟩ := x
        dsimp only at d0 d1 HE
        generalize great (L.take k) = g at *
        by_cases hgt : g < x1
        · have hd : decide (g < x1) = true := by simpa using hgt
          have HM : Hid (max g x1 = x1) := by show _ = _; omega
          clear hgt
          go_wp2_with fail
          go_roundg (L.length - (k + 1))
          case rel => exact ⟨k + 1, by rw [HE.out, HM.out], by go_num, by omega, rfl, (HF2 _).out⟩
          case measure => have := HG.out; omega
        · have hd : decide (g < x1) = false := by simpa using hgt
          have HM : Hid (max g x1 = g) := by show _ = _; omega
          clear hgt
          go_wp2_with fail
          go_roundg (L.length - (k + 1))
          case rel => exact ⟨k + 1, by rw [HE.out, HM.out], by go_num, by omega, rfl, (HF2 _).out⟩
          case measure => have := HG.out; omega
    · obtain rfl : k = L.length := by omega
      have HE : Hid (L.take L.length = L) := List.take_length
      go_wp2_with fail
      go_ret
      exact ⟨by rw [HE.out]; rfl, HFr.out⟩
set_option maxRecDepth 100000 in
theorem Deepest (x : Shp) (A1 A2 : Option Addr) (c1 c2 : Nat) (w : World) (hS : Cs w A1 c1 x.D) : Calls Try.prog 79 #[shv x A1 A2 c1 c2] w fun e w' => e = .returned (.int .i64 (great x.D)) ∧ Fr (fun _ => False) w w' := by
  have fa := Fr.alloc (fun _ => False) w (.cells (sha x A1 A2 c1 c2) TSp)
  have HG := Lib.hid (greatest A1 c1 x.D (w.alloc (.cells (sha x A1 A2 c1 c2) TSp)) (hS.fr fa (fun _ _ h => h)))
  have HF := Lib.hid fa
  clear hS fa
  obtain ⟨n_, r_, o_, y_, D, Fn⟩ := x
  dsimp only at HG
  go_enter Try.func79, Try.ntmps79
  go_wp2_with fail
  refine HG.out.mono ?_
  rintro e w1 ⟨rfl, hf⟩
  have HF1 := Lib.hid (HF.out.trans hf (T := fun _ => False) (fun _ _ h => h) (fun _ _ h => h))
  clear hf HG HF
  go_wp2_with fail
  go_ret
  exact ⟨rfl, HF1.out⟩
set_option maxRecDepth 100000 in
theorem Widest (x : Shp) (A1 A2 : Option Addr) (c1 c2 : Nat) (w : World) (hS : Cs w A2 c2 x.F) : Calls Try.prog 81 #[shv x A1 A2 c1 c2] w fun e w' => e = .returned (.int .i64 (great x.F)) ∧ Fr (fun _ => False) w w' := by
  have fa := Fr.alloc (fun _ => False) w (.cells (sha x A1 A2 c1 c2) TSp)
  have HG := Lib.hid (greatest A2 c2 x.F (w.alloc (.cells (sha x A1 A2 c1 c2) TSp)) (hS.fr fa (fun _ _ h => h)))
  have HF := Lib.hid fa
  clear hS fa
  obtain ⟨n_, r_, o_, y_, D, Fn⟩ := x
  dsimp only at HG
  go_enter Try.func81, Try.ntmps81
  go_wp2_with fail
  refine HG.out.mono ?_
  rintro e w1 ⟨rfl, hf⟩
  have HF1 := Lib.hid (HF.out.trans hf (T := fun _ => False) (fun _ _ h => h) (fun _ _ h => h))
  clear hf HG HF
  go_wp2_with fail
  go_ret
  exact ⟨rfl, HF1.out⟩
end Shape
end Go.Proofs.Ytolpdgaomlhgdaa
