/- May a record be: the program's and the document's. -/
import Derived.Test.YtkhhdadlpilbmaaName
namespace Go.Proofs.Ytkhhdadlpilbmaa
open Go.RowKit
namespace Name
open KeyP PackP Vari SetW
def mayN (x : Sn) : Int := if mayB x then 0 else 1
theorem mayN_ok {x : Sn} (h : May x) : mayN x = 0 := by unfold mayN; rw [may_iff.2 h]; rfl
theorem mayN_no {x : Sn} (h : ¬ May x) : mayN x = 1 := by
  unfold mayN
  have : mayB x = false := by
    cases hb : mayB x with
    | false => rfl
    | true => exact absurd (may_iff.1 hb) h
  rw [this]; rfl

set_option maxRecDepth 100000 in
set_option maxHeartbeats 1000000 in
theorem May_ (x : Sn) (hx : x.ok) (w : World) : Calls Try.prog 145 #[x.v] w fun e w' => e = .returned (.int .i64 (mayN x)) ∧ Fr (fun _ => False) w w' := by
  obtain ⟨t, i, p, r, s, o, b, d, g⟩ := x
  have H1 := Lib.hid (fun W : World => named s hx.s W)
  have H2 := Lib.hid (fun W : World => named o hx.o W)
  have HA := Lib.hid (At.box (Bk.new w (Sn.arr ⟨t, i, p, r, s, o, b, d, g⟩) TSn))
  have HF := Lib.hid (Fr.alloc (fun _ => False) w (.cells (Sn.arr ⟨t, i, p, r, s, o, b, d, g⟩) TSn))
  clear hx
  have hm : True := trivial
  by_cases k0 : 0 < t
  case neg =>
    have t0 : decide (0 < t) = false := by simp; omega
    have HE := Lib.hid (mayN_no (x := ⟨t, i, p, r, s, o, b, d, g⟩) (fun h => k0 h.t))
    clear hm
    go_enter Try.func145, Try.ntmps145
    go_wp2_with fail
    go_ret
    exact ⟨by rw [HE.out]; rfl, HF.out⟩
  have t0 : decide (0 < t) = true := by simp; omega
  by_cases k1 : 0 < i
  case neg =>
    have t1 : decide (0 < i) = false := by simp; omega
    have HE := Lib.hid (mayN_no (x := ⟨t, i, p, r, s, o, b, d, g⟩) (fun h => k1 h.i))
    clear hm
    go_enter Try.func145, Try.ntmps145
    go_wp2_with fail
    go_ret
    exact ⟨by rw [HE.out]; rfl, HF.out⟩
  have t1 : decide (0 < i) = true := by simp; omega
  by_cases k2 : 0 ≤ p
  case neg =>
    have t2 : decide (0 ≤ p) = false := by simp; omega
    have HE := Lib.hid (mayN_no (x := ⟨t, i, p, r, s, o, b, d, g⟩) (fun h => k2 h.p))
    clear hm
    go_enter Try.func145, Try.ntmps145
    go_wp2_with fail
    go_ret
    exact ⟨by rw [HE.out]; rfl, HF.out⟩
  have t2 : decide (0 ≤ p) = true := by simp; omega
  by_cases k3 : 0 ≤ r
  case neg =>
    have t3 : decide (0 ≤ r) = false := by simp; omega
    have HE := Lib.hid (mayN_no (x := ⟨t, i, p, r, s, o, b, d, g⟩) (fun h => k3 h.r))
    clear hm
    go_enter Try.func145, Try.ntmps145
    go_wp2_with fail
    go_ret
    exact ⟨by rw [HE.out]; rfl, HF.out⟩
  have t3 : decide (0 ≤ r) = true := by simp; omega
  by_cases n0 : nameB s = true
  case neg =>
    have n0' : nameB s = false := by simpa using n0
    have HE := Lib.hid (mayN_no (x := ⟨t, i, p, r, s, o, b, d, g⟩) (fun h => n0 h.s))
    clear hm
    go_enter Try.func145, Try.ntmps145
    go_wp2_with fail
    refine (H1.out _).mono ?_
    rintro e w1 ⟨rfl, hb⟩
    have HA1 := Lib.hid (HA.out.fr (Fr.of_below' hb (fun _ => False)) (fun h => h))
    have HF1 := Lib.hid (HF.out.trans (Fr.of_below' hb (fun _ => False)) (T := fun _ => False) (fun _ _ h => h) (fun _ _ h => h))
    clear hb
    have c1_5 : w1.cell? ⟨w.heap.size, 5, none⟩ = some (.string o) := HA1.out 5 _ rfl
    have c1_6 : w1.cell? ⟨w.heap.size, 6, none⟩ = some (.int .i64 b) := HA1.out 6 _ rfl
    go_wp2_with fail
    go_ret
    exact ⟨by rw [HE.out]; rfl, HF1.out⟩
  by_cases n1 : nameB o = true
  case neg =>
    have n1' : nameB o = false := by simpa using n1
    have HE := Lib.hid (mayN_no (x := ⟨t, i, p, r, s, o, b, d, g⟩) (fun h => n1 h.o))
    clear hm
    go_enter Try.func145, Try.ntmps145
    go_wp2_with fail
    refine (H1.out _).mono ?_
    rintro e w1 ⟨rfl, hb⟩
    have HA1 := Lib.hid (HA.out.fr (Fr.of_below' hb (fun _ => False)) (fun h => h))
    have HF1 := Lib.hid (HF.out.trans (Fr.of_below' hb (fun _ => False)) (T := fun _ => False) (fun _ _ h => h) (fun _ _ h => h))
    clear hb
    have c1_5 : w1.cell? ⟨w.heap.size, 5, none⟩ = some (.string o) := HA1.out 5 _ rfl
    have c1_6 : w1.cell? ⟨w.heap.size, 6, none⟩ = some (.int .i64 b) := HA1.out 6 _ rfl
    go_wp2_with fail
    refine (H2.out _).mono ?_
    rintro e w2 ⟨rfl, hb⟩
    have HA2 := Lib.hid (HA1.out.fr (Fr.of_below' hb (fun _ => False)) (fun h => h))
    have HF2 := Lib.hid (HF1.out.trans (Fr.of_below' hb (fun _ => False)) (T := fun _ => False) (fun _ _ h => h) (fun _ _ h => h))
    clear hb
    have c2_6 : w2.cell? ⟨w.heap.size, 6, none⟩ = some (.int .i64 b) := HA2.out 6 _ rfl
    go_wp2_with fail
    go_ret
    exact ⟨by rw [HE.out]; rfl, HF2.out⟩
  by_cases k4 : -4611686018427387904 ≤ b
  case neg =>
    have t4 : decide (b < -4611686018427387904) = true := by simp; omega
    have HE := Lib.hid (mayN_no (x := ⟨t, i, p, r, s, o, b, d, g⟩) (fun h => k4 h.b1))
    clear hm
    go_enter Try.func145, Try.ntmps145
    go_wp2_with fail
    refine (H1.out _).mono ?_
    rintro e w1 ⟨rfl, hb⟩
    have HA1 := Lib.hid (HA.out.fr (Fr.of_below' hb (fun _ => False)) (fun h => h))
    have HF1 := Lib.hid (HF.out.trans (Fr.of_below' hb (fun _ => False)) (T := fun _ => False) (fun _ _ h => h) (fun _ _ h => h))
    clear hb
    have c1_5 : w1.cell? ⟨w.heap.size, 5, none⟩ = some (.string o) := HA1.out 5 _ rfl
    have c1_6 : w1.cell? ⟨w.heap.size, 6, none⟩ = some (.int .i64 b) := HA1.out 6 _ rfl
    go_wp2_with fail
    refine (H2.out _).mono ?_
    rintro e w2 ⟨rfl, hb⟩
    have HA2 := Lib.hid (HA1.out.fr (Fr.of_below' hb (fun _ => False)) (fun h => h))
    have HF2 := Lib.hid (HF1.out.trans (Fr.of_below' hb (fun _ => False)) (T := fun _ => False) (fun _ _ h => h) (fun _ _ h => h))
    clear hb
    have c2_6 : w2.cell? ⟨w.heap.size, 6, none⟩ = some (.int .i64 b) := HA2.out 6 _ rfl
    go_wp2_with fail
    go_ret
    exact ⟨by rw [HE.out]; rfl, HF2.out⟩
  have t4 : decide (b < -4611686018427387904) = false := by simp; omega
  by_cases k5 : b < 4611686018427387904
  case neg =>
    have t5 : decide (4611686018427387903 < b) = true := by simp; omega
    have HE := Lib.hid (mayN_no (x := ⟨t, i, p, r, s, o, b, d, g⟩) (fun h => k5 h.b2))
    clear hm
    go_enter Try.func145, Try.ntmps145
    go_wp2_with fail
    refine (H1.out _).mono ?_
    rintro e w1 ⟨rfl, hb⟩
    have HA1 := Lib.hid (HA.out.fr (Fr.of_below' hb (fun _ => False)) (fun h => h))
    have HF1 := Lib.hid (HF.out.trans (Fr.of_below' hb (fun _ => False)) (T := fun _ => False) (fun _ _ h => h) (fun _ _ h => h))
    clear hb
    have c1_5 : w1.cell? ⟨w.heap.size, 5, none⟩ = some (.string o) := HA1.out 5 _ rfl
    have c1_6 : w1.cell? ⟨w.heap.size, 6, none⟩ = some (.int .i64 b) := HA1.out 6 _ rfl
    go_wp2_with fail
    refine (H2.out _).mono ?_
    rintro e w2 ⟨rfl, hb⟩
    have HA2 := Lib.hid (HA1.out.fr (Fr.of_below' hb (fun _ => False)) (fun h => h))
    have HF2 := Lib.hid (HF1.out.trans (Fr.of_below' hb (fun _ => False)) (T := fun _ => False) (fun _ _ h => h) (fun _ _ h => h))
    clear hb
    have c2_6 : w2.cell? ⟨w.heap.size, 6, none⟩ = some (.int .i64 b) := HA2.out 6 _ rfl
    go_wp2_with fail
    go_ret
    exact ⟨by rw [HE.out]; rfl, HF2.out⟩
  have t5 : decide (4611686018427387903 < b) = false := by simp; omega
  have hmay : May ⟨t, i, p, r, s, o, b, d, g⟩ := ⟨k0, k1, k2, k3, n0, n1, k4, k5⟩
  have HE := Lib.hid (mayN_ok hmay)
  clear hm
  go_enter Try.func145, Try.ntmps145
  go_wp2_with fail
  refine (H1.out _).mono ?_
  rintro e w1 ⟨rfl, hb⟩
  have HA1 := Lib.hid (HA.out.fr (Fr.of_below' hb (fun _ => False)) (fun h => h))
  have HF1 := Lib.hid (HF.out.trans (Fr.of_below' hb (fun _ => False)) (T := fun _ => False) (fun _ _ h => h) (fun _ _ h => h))
  clear hb
  have c1_5 : w1.cell? ⟨w.heap.size, 5, none⟩ = some (.string o) := HA1.out 5 _ rfl
  have c1_6 : w1.cell? ⟨w.heap.size, 6, none⟩ = some (.int .i64 b) := HA1.out 6 _ rfl
  go_wp2_with fail
  refine (H2.out _).mono ?_
  rintro e w2 ⟨rfl, hb⟩
  have HA2 := Lib.hid (HA1.out.fr (Fr.of_below' hb (fun _ => False)) (fun h => h))
  have HF2 := Lib.hid (HF1.out.trans (Fr.of_below' hb (fun _ => False)) (T := fun _ => False) (fun _ _ h => h) (fun _ _ h => h))
  clear hb
  have c2_6 : w2.cell? ⟨w.heap.size, 6, none⟩ = some (.int .i64 b) := HA2.out 6 _ rfl
  go_wp2_with fail
  go_ret
  exact ⟨by rw [HE.out]; rfl, HF2.out⟩
set_option maxRecDepth 100000 in
set_option maxHeartbeats 1000000 in
theorem RefMay (x : Sn) (hx : x.ok) (w : World) : Calls Try.prog 138 #[x.v] w fun e w' => e = .returned (.int .i64 (mayN x)) ∧ Fr (fun _ => False) w w' := by
  obtain ⟨t, i, p, r, s, o, b, d, g⟩ := x
  have H1 := Lib.hid (fun W : World => RefName s hx.s W)
  have H2 := Lib.hid (fun W : World => RefName o hx.o W)
  have HA := Lib.hid (At.box (Bk.new w (Sn.arr ⟨t, i, p, r, s, o, b, d, g⟩) TSn))
  have HF := Lib.hid (Fr.alloc (fun _ => False) w (.cells (Sn.arr ⟨t, i, p, r, s, o, b, d, g⟩) TSn))
  clear hx
  have hm : True := trivial
  by_cases k0 : 0 < t
  case neg =>
    have t0 : decide (t < 1) = true := by simp; omega
    have HE := Lib.hid (mayN_no (x := ⟨t, i, p, r, s, o, b, d, g⟩) (fun h => k0 h.t))
    clear hm
    go_enter Try.func138, Try.ntmps138
    go_wp2_with fail
    go_ret
    exact ⟨by rw [HE.out]; rfl, HF.out⟩
  have t0 : decide (t < 1) = false := by simp; omega
  by_cases k1 : 0 < i
  case neg =>
    have t1 : decide (i < 1) = true := by simp; omega
    have HE := Lib.hid (mayN_no (x := ⟨t, i, p, r, s, o, b, d, g⟩) (fun h => k1 h.i))
    clear hm
    go_enter Try.func138, Try.ntmps138
    go_wp2_with fail
    go_ret
    exact ⟨by rw [HE.out]; rfl, HF.out⟩
  have t1 : decide (i < 1) = false := by simp; omega
  by_cases k2 : 0 ≤ p
  case neg =>
    have t2 : decide (p < 0) = true := by simp; omega
    have HE := Lib.hid (mayN_no (x := ⟨t, i, p, r, s, o, b, d, g⟩) (fun h => k2 h.p))
    clear hm
    go_enter Try.func138, Try.ntmps138
    go_wp2_with fail
    go_ret
    exact ⟨by rw [HE.out]; rfl, HF.out⟩
  have t2 : decide (p < 0) = false := by simp; omega
  by_cases k3 : 0 ≤ r
  case neg =>
    have t3 : decide (r < 0) = true := by simp; omega
    have HE := Lib.hid (mayN_no (x := ⟨t, i, p, r, s, o, b, d, g⟩) (fun h => k3 h.r))
    clear hm
    go_enter Try.func138, Try.ntmps138
    go_wp2_with fail
    go_ret
    exact ⟨by rw [HE.out]; rfl, HF.out⟩
  have t3 : decide (r < 0) = false := by simp; omega
  by_cases n0 : nameB s = true
  case neg =>
    have n0' : nameB s = false := by simpa using n0
    have HE := Lib.hid (mayN_no (x := ⟨t, i, p, r, s, o, b, d, g⟩) (fun h => n0 h.s))
    clear hm
    go_enter Try.func138, Try.ntmps138
    go_wp2_with fail
    refine (H1.out _).mono ?_
    rintro e w1 ⟨rfl, rfl⟩
    go_wp2_with fail
    go_ret
    exact ⟨by rw [HE.out]; rfl, HF.out⟩
  by_cases n1 : nameB o = true
  case neg =>
    have n1' : nameB o = false := by simpa using n1
    have HE := Lib.hid (mayN_no (x := ⟨t, i, p, r, s, o, b, d, g⟩) (fun h => n1 h.o))
    clear hm
    go_enter Try.func138, Try.ntmps138
    go_wp2_with fail
    refine (H1.out _).mono ?_
    rintro e w1 ⟨rfl, rfl⟩
    go_wp2_with fail
    refine (H2.out _).mono ?_
    rintro e w2 ⟨rfl, rfl⟩
    go_wp2_with fail
    go_ret
    exact ⟨by rw [HE.out]; rfl, HF.out⟩
  by_cases k4 : -4611686018427387904 ≤ b
  case neg =>
    have t4 : decide (b < -4611686018427387904) = true := by simp; omega
    have HE := Lib.hid (mayN_no (x := ⟨t, i, p, r, s, o, b, d, g⟩) (fun h => k4 h.b1))
    clear hm
    go_enter Try.func138, Try.ntmps138
    go_wp2_with fail
    refine (H1.out _).mono ?_
    rintro e w1 ⟨rfl, rfl⟩
    go_wp2_with fail
    refine (H2.out _).mono ?_
    rintro e w2 ⟨rfl, rfl⟩
    go_wp2_with fail
    go_ret
    exact ⟨by rw [HE.out]; rfl, HF.out⟩
  have t4 : decide (b < -4611686018427387904) = false := by simp; omega
  by_cases k5 : b < 4611686018427387904
  case neg =>
    have t5 : decide (4611686018427387904 ≤ b) = true := by simp; omega
    have HE := Lib.hid (mayN_no (x := ⟨t, i, p, r, s, o, b, d, g⟩) (fun h => k5 h.b2))
    clear hm
    go_enter Try.func138, Try.ntmps138
    go_wp2_with fail
    refine (H1.out _).mono ?_
    rintro e w1 ⟨rfl, rfl⟩
    go_wp2_with fail
    refine (H2.out _).mono ?_
    rintro e w2 ⟨rfl, rfl⟩
    go_wp2_with fail
    go_ret
    exact ⟨by rw [HE.out]; rfl, HF.out⟩
  have t5 : decide (4611686018427387904 ≤ b) = false := by simp; omega
  have hmay : May ⟨t, i, p, r, s, o, b, d, g⟩ := ⟨k0, k1, k2, k3, n0, n1, k4, k5⟩
  have HE := Lib.hid (mayN_ok hmay)
  clear hm
  go_enter Try.func138, Try.ntmps138
  go_wp2_with fail
  refine (H1.out _).mono ?_
  rintro e w1 ⟨rfl, rfl⟩
  go_wp2_with fail
  refine (H2.out _).mono ?_
  rintro e w2 ⟨rfl, rfl⟩
  go_wp2_with fail
  go_ret
  exact ⟨by rw [HE.out]; rfl, HF.out⟩
end Name
end Go.Proofs.Ytkhhdadlpilbmaa
