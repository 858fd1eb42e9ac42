/- Sums of 32 bits: the program's, and the document's. -/
import Derived.Test.YtmcghchhegfilaaCrcP
import Derived.Test.YtmcghchhegfilaaKey
import Derived.Test.YtmcghchhegfilaaRngs
import Derived.Laws.BitsAllLaws
namespace Go.Proofs.Ytmcghchhegfilaa
open Go.RowKit
namespace Crc
open KeyP
theorem xor32 {a b : Nat} (ha : a < 4294967296) (hb : b < 4294967296) : bits .xor .u32 (a : Int) (b : Int) = ((a ^^^ b : Nat) : Int) := u32_xor_nat a b ha hb
theorem half (c : Nat) : (c : Int) / 2 = ((c / 2 : Nat) : Int) := by omega
theorem sixt (c : Nat) : (c : Int) / 16 = ((c / 16 : Nat) : Int) := by omega
theorem and1 {c : Nat} (h : c < 4294967296) : bits .and .u32 (c : Int) 1 = ((c % 2 : Nat) : Int) := by
  rw [show (1 : Int) = ((1 : Nat) : Int) from rfl, u32_and_nat _ _ h (by decide), nat_mask1]
theorem and15 {c : Nat} (h : c < 4294967296) : bits .and .u32 (c : Int) 15 = ((c % 16 : Nat) : Int) := by
  rw [show (15 : Int) = ((15 : Nat) : Int) from rfl, u32_and_nat _ _ h (by decide), nat_mask4]
set_option maxRecDepth 100000 in
theorem step {c : Nat} (hc : c < 4294967296) (w : World) : Calls Try.prog 124 #[.int .u32 (c : Int)] w fun e w' => e = .returned (.int .u32 ((stp c : Nat) : Int)) ∧ w' = w := by
  have h1 := and1 hc
  go_enter Try.func124, Try.ntmps124
  go_wp2_with fail
  go_ret
  refine ⟨?_, rfl⟩
  unfold stp
  rcases Nat.mod_two_eq_zero_or_one c with h | h
  · rw [show (c : Int) % 2 = 0 by omega, if_neg (by omega), show (-(0 : Int)) % 4294967296 = 0 from rfl, show bits .and .u32 2197175160 0 = ((0 : Nat) : Int) by rfl, half, xor32 (by omega) (by omega), Nat.xor_zero]; rfl
  · rw [show (c : Int) % 2 = 1 by omega, if_pos h, show (-(1 : Int)) % 4294967296 = 4294967295 from rfl, show bits .and .u32 2197175160 4294967295 = ((2197175160 : Nat) : Int) by rfl, half, xor32 (by omega) (by omega)]; rfl
set_option maxRecDepth 100000 in
theorem steps4 {c : Nat} (hc : c < 4294967296) (w : World) : Calls Try.prog 116 #[.int .u32 (c : Int), .int .i64 4] w fun e w' => e = .returned (.int .u32 ((stps 4 c : Nat) : Int)) ∧ w' = w := by
  have H1 := Lib.hid (step hc w)
  have H2 := Lib.hid (step (stp_lt hc) w)
  have H3 := Lib.hid (step (stp_lt (stp_lt hc)) w)
  have H4 := Lib.hid (step (stp_lt (stp_lt (stp_lt hc))) w)
  have HE : Hid (stps 4 c = stp (stp (stp (stp c)))) := rfl
  rw [HE]
  clear hc HE
  generalize stp c = c1 at *
  generalize stp c1 = c2 at *
  generalize stp c2 = c3 at *
  generalize stp c3 = c4 at *
  go_enter Try.func116, Try.ntmps116
  go_wp2_with fail
  refine wp_loop_rounds 5 ?_
  rw [rounds_succ]; go_wp2_with fail
  refine H1.out.mono ?_
  rintro e w1 ⟨rfl, rfl⟩
  go_wp2_with fail
  rw [rounds_succ]; go_wp2_with fail
  refine H2.out.mono ?_
  rintro e w1 ⟨rfl, rfl⟩
  go_wp2_with fail
  rw [rounds_succ]; go_wp2_with fail
  refine H3.out.mono ?_
  rintro e w1 ⟨rfl, rfl⟩
  go_wp2_with fail
  rw [rounds_succ]; go_wp2_with fail
  refine H4.out.mono ?_
  rintro e w1 ⟨rfl, rfl⟩
  go_wp2_with fail
  rw [rounds_succ]; go_wp2_with fail
  go_ret
  exact ⟨rfl, rfl⟩
/-- Four steps of a number. -/
def tb (z : Int) : Int := ((stps 4 z.toNat : Nat) : Int)
theorem stepsI {z : Int} (h0 : 0 ≤ z) (h1 : z < 16) (w : World) : Calls Try.prog 116 #[.int .u32 z, .int .i64 4] w fun e w' => e = .returned (.int .u32 (tb z)) ∧ w' = w := by
  have := steps4 (c := z.toNat) (by omega) w
  rw [show ((z.toNat : Nat) : Int) = z by omega] at this
  exact this
/-- The table. -/
def tbs : Array Value := #[.int .u32 (tb 0), .int .u32 (tb 1), .int .u32 (tb 2), .int .u32 (tb 3), .int .u32 (tb 4), .int .u32 (tb 5), .int .u32 (tb 6), .int .u32 (tb 7), .int .u32 (tb 8), .int .u32 (tb 9), .int .u32 (tb 10), .int .u32 (tb 11), .int .u32 (tb 12), .int .u32 (tb 13), .int .u32 (tb 14), .int .u32 (tb 15)]
set_option maxRecDepth 100000 in
theorem table (w : World) : Calls Try.prog 103 #[] w fun e w' => e = .returned (.agg tbs) ∧ Below w.heap.size w w' := by
  have H := Lib.hid (fun (z : Int) (h0 : 0 ≤ z) (h1 : z < 16) (W : World) => stepsI h0 h1 W)
  have HB := Lib.hid (fun (c d : Array Value) => ((Below.refl w.heap.size w).alloc (Nat.le_refl _) (.cells c 145)).alloc (by simp) (.cells d 145))
  go_enter Try.func103, Try.ntmps103
  go_wp2_with fail
  refine wp_loop_rounds 17 ?_
  iterate 16
    rw [rounds_succ]; go_wp2_with fail
    refine (H.out _ (by decide) (by decide) _).mono ?_
    rintro e w1 ⟨rfl, rfl⟩
    go_wp2_with fail
  rw [rounds_succ]; go_wp2_with fail
  refine bodyPost_ret (results_cell_row rfl _ _ w.heap.size 145 tbs (0, 0) _ rfl ?_ Try.underlying145 rfl (by kernel_rfl)) rfl ⟨rfl, ?_⟩
  · first | exact (heap_alloc_old _ _ (by simp)).trans (heap_alloc_new w _) | (refine Eq.trans (heap_alloc_old _ _ ?_) (heap_alloc_new w _); simp)
  · exact HB.out _ _
end Crc
end Go.Proofs.Ytmcghchhegfilaa
