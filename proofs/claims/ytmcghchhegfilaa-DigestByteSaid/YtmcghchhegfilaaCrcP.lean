/- Sums of 32 bits, plain: steps, by halves of bytes, what differs in one byte. No program is named. -/
import Derived.Test.YtmcghchhegfilaaWorld
namespace Go.Proofs.Ytmcghchhegfilaa
namespace Crc
/-- A step. -/
def stp (c : Nat) : Nat := if c % 2 = 1 then c / 2 ^^^ 2197175160 else c / 2
def stps : Nat → Nat → Nat
  | 0, c => c
  | n + 1, c => stps n (stp c)
def byt (c : Nat) (b : UInt8) : Nat := stps 8 (c ^^^ b.toNat)
def run (c : Nat) (l : List UInt8) : Nat := l.foldl byt c
/-- The sum of bytes behind others, whose sum is known. -/
def more (s : Nat) (l : List UInt8) : Nat := run (s ^^^ 4294967295) l ^^^ 4294967295
def sum (l : List UInt8) : Nat := more 0 l
theorem xor_lt {a b : Nat} (ha : a < 4294967296) (hb : b < 4294967296) : a ^^^ b < 4294967296 := Nat.xor_lt_two_pow (n := 32) ha hb
theorem stp_lt {c : Nat} (h : c < 4294967296) : stp c < 4294967296 := by
  unfold stp
  split
  · exact xor_lt (by omega) (by omega)
  · omega
theorem stps_lt {n c : Nat} (h : c < 4294967296) : stps n c < 4294967296 := by
  induction n generalizing c with
  | zero => exact h
  | succ n ih => exact ih (stp_lt h)
theorem stp_xor (a b : Nat) : stp (a ^^^ b) = stp a ^^^ stp b := by
  have h2 : (a ^^^ b) / 2 = a / 2 ^^^ b / 2 := Nat.xor_div_two
  have h1 : (a ^^^ b) % 2 = (a + b) % 2 := by
    have h := Nat.xor_mod_two_pow (a := a) (b := b) (n := 1)
    rw [Nat.pow_one] at h
    rw [h]
    rcases Nat.mod_two_eq_zero_or_one a with ha | ha <;> rcases Nat.mod_two_eq_zero_or_one b with hb | hb <;> rw [ha, hb] <;> (first | (show 0 = _; omega) | (show 1 = _; omega))
  unfold stp
  rw [h2, h1]
  by_cases ha : a % 2 = 1
  · by_cases hb : b % 2 = 1
    · rw [if_neg (by omega), if_pos ha, if_pos hb, Nat.xor_assoc, Nat.xor_comm 2197175160, Nat.xor_assoc, Nat.xor_self, Nat.xor_zero]
    · rw [if_pos (by omega), if_pos ha, if_neg hb, Nat.xor_assoc, Nat.xor_assoc, Nat.xor_comm (b / 2)]
  · by_cases hb : b % 2 = 1
    · rw [if_pos (by omega), if_neg ha, if_pos hb, Nat.xor_assoc]
    · rw [if_neg (by omega), if_neg ha, if_neg hb]
theorem stps_xor (n a b : Nat) : stps n (a ^^^ b) = stps n a ^^^ stps n b := by
  induction n generalizing a b with
  | zero => rfl
  | succ n ih => show stps n _ = stps n _ ^^^ stps n _; rw [stp_xor, ih]
theorem stps_add (m n c : Nat) : stps (m + n) c = stps n (stps m c) := by
  induction m generalizing c with
  | zero => rw [Nat.zero_add]; rfl
  | succ m ih => rw [Nat.succ_add]; exact ih (stp c)
theorem stps_even (n m : Nat) : stps n (2 ^ n * m) = m := by
  induction n with
  | zero => show 2 ^ 0 * m = m; omega
  | succ n ih =>
    show stps n (stp _) = m
    have e : 2 ^ (n + 1) * m = 2 * (2 ^ n * m) := by rw [Nat.pow_succ]; rw [Nat.mul_comm (2 ^ n) 2, Nat.mul_assoc]
    have : stp (2 ^ (n + 1) * m) = 2 ^ n * m := by unfold stp; rw [e, if_neg (by omega)]; omega
    rw [this, ih]
theorem split4 (c : Nat) : 16 * (c / 16) ^^^ c % 16 = c := by
  have h : 16 * (c / 16) + c % 16 = 16 * (c / 16) ^^^ c % 16 := by
    have := Nat.two_pow_add_eq_or_of_lt (i := 4) (b := c % 16) (by omega) (c / 16)
    rw [show (16 : Nat) = 2 ^ 4 from rfl]
    rw [this]
    refine Nat.eq_of_testBit_eq (fun i => ?_)
    rw [Nat.testBit_or, Nat.testBit_xor]
    by_cases hi : i < 4
    · have : (2 ^ 4 * (c / 2 ^ 4)).testBit i = false := by rw [Nat.testBit_two_pow_mul]; simp; omega
      rw [this]; simp
    · have : (c % 2 ^ 4).testBit i = false := Nat.testBit_lt_two_pow (Nat.lt_of_lt_of_le (Nat.mod_lt _ (by decide)) (Nat.pow_le_pow_right (by decide) (by omega)))
      rw [this]; simp
  rw [← h]; omega
/-- Four steps at once. -/
theorem four (c : Nat) : stps 4 c = c / 16 ^^^ stps 4 (c % 16) := by
  have h := stps_xor 4 (16 * (c / 16)) (c % 16)
  rw [split4] at h
  rw [h, show 16 * (c / 16) = 2 ^ 4 * (c / 16) from rfl, stps_even]
theorem eight (c : Nat) : stps 8 c = stps 4 (stps 4 c) := stps_add 4 4 c
theorem run_lt {c : Nat} {l : List UInt8} (h : c < 4294967296) : run c l < 4294967296 := by
  induction l generalizing c with
  | nil => exact h
  | cons b l ih => exact ih (stps_lt (xor_lt h (by have := b.toNat_lt; omega)))
theorem more_lt {s : Nat} {l : List UInt8} (h : s < 4294967296) : more s l < 4294967296 := xor_lt (run_lt (xor_lt h (by omega))) (by omega)
theorem sum_lt (l : List UInt8) : sum l < 4294967296 := more_lt (by omega)
theorem run_app (c : Nat) (a b : List UInt8) : run c (a ++ b) = run (run c a) b := List.foldl_append
theorem more_more (s : Nat) (a b : List UInt8) : more (more s a) b = more s (a ++ b) := by
  unfold more
  rw [run_app, Nat.xor_assoc, Nat.xor_self, Nat.xor_zero]
theorem more_nil (s : Nat) : more s [] = s := by
  show (s ^^^ 4294967295) ^^^ 4294967295 = s
  rw [Nat.xor_assoc, Nat.xor_self, Nat.xor_zero]
theorem more_sum (a b : List UInt8) : more (sum a) b = sum (a ++ b) := more_more 0 a b
theorem stp_zero {d : Nat} (hd : d < 4294967296) (h : stp d = 0) : d = 0 := by
  unfold stp at h
  split at h
  · have : d / 2 = 2197175160 := by
      have h2 := congrArg (· ^^^ 2197175160) h
      simp only [Nat.xor_assoc, Nat.xor_self, Nat.xor_zero, Nat.zero_xor] at h2
      exact h2
    omega
  · omega
theorem stps_zero {n d : Nat} (hd : d < 4294967296) (h : stps n d = 0) : d = 0 := by
  induction n generalizing d with
  | zero => exact h
  | succ n ih => exact stp_zero hd (ih (stp_lt hd) h)
theorem xor_zero_iff {a b : Nat} (h : a ^^^ b = 0) : a = b := by
  have h2 := congrArg (· ^^^ b) h
  simp only [Nat.xor_assoc, Nat.xor_self, Nat.xor_zero, Nat.zero_xor] at h2
  exact h2
theorem xor_cancel {a b c : Nat} (h : a ^^^ c = b ^^^ c) : a = b := by
  have h2 := congrArg (· ^^^ c) h
  simp only [Nat.xor_assoc, Nat.xor_self, Nat.xor_zero] at h2
  exact h2
theorem stps_inj {n a b : Nat} (ha : a < 4294967296) (hb : b < 4294967296) (h : stps n a = stps n b) : a = b := by
  refine xor_zero_iff (stps_zero (n := n) (xor_lt ha hb) ?_)
  rw [stps_xor, h, Nat.xor_self]
theorem run_inj {l : List UInt8} {a b : Nat} (ha : a < 4294967296) (hb : b < 4294967296) (h : run a l = run b l) : a = b := by
  induction l generalizing a b with
  | nil => exact h
  | cons c l ih =>
    have hc : c.toNat < 4294967296 := by have := c.toNat_lt; omega
    exact xor_cancel (stps_inj (n := 8) (xor_lt ha hc) (xor_lt hb hc) (ih (stps_lt (xor_lt ha hc)) (stps_lt (xor_lt hb hc)) h))
/-- What differs in one byte differs in its sum. -/
theorem sum_byte {u v : List UInt8} {b c : UInt8} (h : sum (u ++ b :: v) = sum (u ++ c :: v)) : b = c := by
  unfold sum more at h
  have h := xor_cancel h
  rw [run_app, run_app] at h
  have hr : run (0 ^^^ 4294967295) u < 4294967296 := run_lt (xor_lt (by omega) (by omega))
  have hb : b.toNat < 4294967296 := by have := b.toNat_lt; omega
  have hc : c.toNat < 4294967296 := by have := c.toNat_lt; omega
  have h2 := run_inj (l := v) (stps_lt (xor_lt hr hb)) (stps_lt (xor_lt hr hc)) h
  have h3 := stps_inj (n := 8) (xor_lt hr hb) (xor_lt hr hc) h2
  rw [Nat.xor_comm, Nat.xor_comm _ c.toNat] at h3
  exact UInt8.toNat_inj.1 (xor_cancel h3)
end Crc
end Go.Proofs.Ytmcghchhegfilaa
