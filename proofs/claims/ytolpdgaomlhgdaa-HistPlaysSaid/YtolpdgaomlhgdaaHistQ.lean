/- Buckets, histograms and ranks, plain. No program is named. -/
import Derived.Test.YtolpdgaomlhgdaaHistP
namespace Go.Proofs.Ytolpdgaomlhgdaa
namespace HistP
open BagP
def bits (n : Nat) : Nat := if n = 0 then 0 else n.log2 + 1
theorem bits_eq {n k : Nat} (h : n < 2 ^ k) (h2 : k = 0 ∨ 2 ^ (k - 1) ≤ n) : bits n = k := by
  unfold bits
  by_cases hn : n = 0
  · subst hn
    rw [if_pos rfl]
    rcases h2 with h2 | h2
    · exact h2.symm
    · have := Nat.two_pow_pos (k - 1); omega
  · rw [if_neg hn]
    have h1 : n.log2 < k := (Nat.log2_lt hn).2 h
    rcases h2 with h2 | h2
    · omega
    · have : k - 1 ≤ n.log2 := (Nat.le_log2 hn).2 h2
      omega
theorem bits_lt (n : Nat) : n < 2 ^ bits n := by
  unfold bits
  by_cases hn : n = 0
  · subst hn; simp
  · rw [if_neg hn]; exact (Nat.log2_lt hn).1 (by omega)
theorem bits_le {n : Nat} (hn : n ≠ 0) : 2 ^ (bits n - 1) ≤ n := by
  unfold bits
  rw [if_neg hn]
  exact (Nat.le_log2 hn).1 (by omega)
theorem bits_zero {n : Nat} : bits n = 0 ↔ n = 0 := by
  unfold bits; split <;> simp_all
theorem bits_mono {a b : Nat} (h : a ≤ b) : bits a ≤ bits b := by
  by_cases ha : a = 0
  · subst ha; simp [bits]
  · have hb : b ≠ 0 := by omega
    unfold bits
    rw [if_neg ha, if_neg hb]
    have : a.log2 ≤ b.log2 := (Nat.le_log2 hb).2 (Nat.le_trans ((Nat.le_log2 ha).1 (Nat.le_refl _)) h)
    omega
/-- The bucket of a duration. -/
def bk (d : Int) : Int := (bits (cl d).toNat : Nat)
theorem bk_rng (d : Int) : 0 ≤ bk d ∧ bk d ≤ 63 := by
  have hc := cl_rng d
  refine ⟨by unfold bk; omega, ?_⟩
  have h : bits (cl d).toNat ≤ bits 4611686018427387904 := bits_mono (by omega)
  have h2 : bits 4611686018427387904 = 63 := bits_eq (by decide) (.inr (by decide))
  unfold bk; omega
theorem bk_mono {a b : Int} (h : a ≤ b) : bk a ≤ bk b := by
  have : bits (cl a).toNat ≤ bits (cl b).toNat := bits_mono (by unfold cl clamp; omega)
  unfold bk; omega
/-- The bounds of a bucket. -/
def bnd (k : Int) : Int × Int × Bool :=
  if k < 0 ∨ 63 < k then (0, 0, false) else if k = 0 then (0, 0, true) else if k = 63 then (4611686018427387904, 4611686018427387904, true) else (2 ^ (k - 1).toNat, 2 ^ k.toNat - 1, true)
theorem pow62 {n : Nat} (h : n ≤ 62) : (1 : Int) ≤ 2 ^ n ∧ (2 : Int) ^ n ≤ 4611686018427387904 := by
  have h1 : 2 ^ n ≤ 2 ^ 62 := Nat.pow_le_pow_right (by decide) h
  have h2 := Nat.two_pow_pos n
  have e : ((2 ^ n : Nat) : Int) = 2 ^ n := by simp
  have e2 : (2 : Nat) ^ 62 = 4611686018427387904 := by decide
  rw [← e]
  omega
theorem bk_bnd (d : Int) : (bnd (bk d)).1 ≤ cl d ∧ cl d ≤ (bnd (bk d)).2.1 ∧ (bnd (bk d)).2.2 = true := by
  have hr := bk_rng d
  have hc := cl_rng d
  have hlt := bits_lt (cl d).toNat
  have hk : (bk d).toNat = bits (cl d).toNat := by unfold bk; omega
  unfold bnd
  rw [if_neg (by omega)]
  by_cases h0 : bk d = 0
  · rw [if_pos h0]
    have : (cl d).toNat = 0 := bits_zero.1 (by unfold bk at h0; omega)
    exact ⟨by dsimp only; omega, by dsimp only; omega, rfl⟩
  · rw [if_neg h0]
    have hn : (cl d).toNat ≠ 0 := fun e => h0 (by unfold bk; rw [e]; rfl)
    have hle := bits_le hn
    rw [← hk] at hlt hle
    have e1 : ((2 ^ (bk d - 1).toNat : Nat) : Int) = 2 ^ (bk d - 1).toNat := by simp
    have e2 : ((2 ^ (bk d).toNat : Nat) : Int) = 2 ^ (bk d).toNat := by simp
    have e3 : (bk d).toNat - 1 = (bk d - 1).toNat := by omega
    rw [e3] at hle
    by_cases h63 : bk d = 63
    · rw [if_pos h63]
      rw [h63] at hle
      have : (2 : Nat) ^ ((63 : Int) - 1).toNat = 4611686018427387904 := by decide
      exact ⟨by dsimp only; omega, by dsimp only; omega, rfl⟩
    · rw [if_neg h63]
      refine ⟨?_, ?_, rfl⟩
      · dsimp only; rw [← e1]; omega
      · dsimp only; rw [← e2]; omega
theorem pow_mono {a b : Nat} (h : a ≤ b) : (2 : Int) ^ a ≤ 2 ^ b := by
  have h1 : 2 ^ a ≤ 2 ^ b := Nat.pow_le_pow_right (by decide) h
  have e : ((2 ^ a : Nat) : Int) = 2 ^ a := by simp
  have e2 : ((2 ^ b : Nat) : Int) = 2 ^ b := by simp
  rw [← e, ← e2]; omega
theorem bnd_mono {a b : Int} (h0 : 0 ≤ a) (h : a ≤ b) (h1 : b ≤ 63) : (bnd a).1 ≤ (bnd b).1 ∧ (bnd a).2.1 ≤ (bnd b).2.1 := by
  unfold bnd
  rw [if_neg (show ¬ (a < 0 ∨ 63 < a) by omega), if_neg (show ¬ (b < 0 ∨ 63 < b) by omega)]
  by_cases ha : a = 0
  · rw [if_pos ha]
    by_cases hb : b = 0
    · rw [if_pos hb]; simp
    · rw [if_neg hb]
      by_cases hb3 : b = 63
      · rw [if_pos hb3]; simp
      · rw [if_neg hb3]
        have := pow62 (n := (b - 1).toNat) (by omega)
        have := pow62 (n := b.toNat) (by omega)
        exact ⟨by dsimp only; omega, by dsimp only; omega⟩
  · rw [if_neg ha, if_neg (show ¬ b = 0 by omega)]
    by_cases ha3 : a = 63
    · rw [if_pos ha3, if_pos (show b = 63 by omega)]; simp
    · rw [if_neg ha3]
      by_cases hb3 : b = 63
      · rw [if_pos hb3]
        have := pow62 (n := (a - 1).toNat) (by omega)
        have := pow62 (n := a.toNat) (by omega)
        exact ⟨by dsimp only; omega, by dsimp only; omega⟩
      · rw [if_neg hb3]
        have := pow_mono (a := (a - 1).toNat) (b := (b - 1).toNat) (by omega)
        have := pow_mono (a := a.toNat) (b := b.toNat) (by omega)
        exact ⟨by dsimp only; omega, by dsimp only; omega⟩
/-- A histogram: its bag, and its sum. -/
abbrev HS := List (Int × Int) × (Int × Int)
def addH (d : Int) (x : HS) : HS := (addL (bk d) 1 x.1, addS x.2 d)
def okD (d : Int) (x : HS) : Bool := !lessS x.2 (addS (0, 0) d) && okT (bk d) 1 x.1
def dropH (d : Int) (x : HS) : HS := if okD d x then (takeL (bk d) 1 x.1, subS x.2 d) else x
def addAll (o : List (Int × Int)) (L : List (Int × Int)) : List (Int × Int) := o.foldl (fun L p => addL p.1 p.2 L) L
def mergeH (o x : HS) : HS := (addAll o.1 x.1, bothS x.2 o.2)
def ofH (l : List Int) : HS := l.foldl (fun x d => addH d x) ([], (0, 0))
def rank (n p : Int) : Int := max 1 (n / 1000 * clamp p 0 1000 + (n % 1000 * clamp p 0 1000 + 999) / 1000)
def findQ : Int → List (Int × Int) → Option Int
  | _, [] => none
  | r, (k, m) :: t => if r ≤ m then some k else findQ (r - m) t
def quant (x : HS) (p : Int) : Int × Int × Bool :=
  match findQ (rank (sumL x.1) p) x.1 with
  | some k => bnd k
  | none => (0, 0, false)
theorem rank_is {n p r : Int} (hn : 0 ≤ n) (h1 : 1 ≤ r) (hr : r ≤ max 1 n) (hlo : r = 1 ∨ (r - 1) * 1000 < n * clamp p 0 1000) (hhi : ¬ (r < n ∧ r * 1000 < n * clamp p 0 1000)) : r = rank n p := by
  have hc : 0 ≤ clamp p 0 1000 ∧ clamp p 0 1000 ≤ 1000 := by unfold clamp; omega
  unfold rank
  generalize clamp p 0 1000 = c at *
  have e : n * c = 1000 * (n / 1000 * c) + n % 1000 * c := by
    have : n = 1000 * (n / 1000) + n % 1000 := by omega
    conv => lhs; rw [this]
    rw [Int.add_mul, Int.mul_assoc]
  have hq : n * c ≤ n * 1000 := Int.mul_le_mul_of_nonneg_left hc.2 hn
  have hq0 : 0 ≤ n * c := Int.mul_nonneg hn hc.1
  have hb : 0 ≤ n % 1000 * c := Int.mul_nonneg (by omega) hc.1
  rw [e] at hlo hhi hq hq0
  generalize n / 1000 * c = A at *
  generalize n % 1000 * c = B at *
  omega
theorem rank_rng {n p : Int} (hn : 1 ≤ n) : 1 ≤ rank n p ∧ rank n p ≤ n := by
  have hc : 0 ≤ clamp p 0 1000 ∧ clamp p 0 1000 ≤ 1000 := by unfold clamp; omega
  unfold rank
  generalize clamp p 0 1000 = c at *
  have h1 : n / 1000 * c ≤ n / 1000 * 1000 := Int.mul_le_mul_of_nonneg_left hc.2 (by omega)
  have h2 : n % 1000 * c ≤ n % 1000 * 1000 := Int.mul_le_mul_of_nonneg_left hc.2 (by omega)
  generalize n / 1000 * c = A at *
  generalize n % 1000 * c = B at *
  omega
theorem rank_mono {n p q : Int} (hn : 0 ≤ n) (h : clamp p 0 1000 ≤ clamp q 0 1000) : rank n p ≤ rank n q := by
  unfold rank
  generalize clamp p 0 1000 = a at *
  generalize clamp q 0 1000 = b at *
  have h1 : n / 1000 * a ≤ n / 1000 * b := Int.mul_le_mul_of_nonneg_left h (by omega)
  have h2 : n % 1000 * a ≤ n % 1000 * b := Int.mul_le_mul_of_nonneg_left h (by omega)
  omega
theorem findQ_some : ∀ {L : List (Int × Int)} {r : Int}, 1 ≤ r → r ≤ sumL L → ∃ k, findQ r L = some k := by
  intro L
  induction L with
  | nil => intro r h1 h2; simp [sumL] at h2; omega
  | cons p t ih =>
    obtain ⟨k, m⟩ := p
    intro r h1 h2
    unfold findQ
    by_cases h : r ≤ m
    · exact ⟨k, by rw [if_pos h]⟩
    · rw [if_neg h]
      have : sumL ((k, m) :: t) = m + sumL t := by simp [sumL]
      exact ih (by omega) (by omega)
end HistP
end Go.Proofs.Ytolpdgaomlhgdaa
