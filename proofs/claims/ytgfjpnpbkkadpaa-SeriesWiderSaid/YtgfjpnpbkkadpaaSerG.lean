/- Wider windows, plain. No program is named. -/
import Derived.Test.YtgfjpnpbkkadpaaSers2
namespace Go.Proofs.Ytgfjpnpbkkadpaa
open Go.RowKit
namespace Ser
open KeyP PackP SetP SetW SetF BagP Name ClsW
theorem cnt_at {L : List (Int × Int)} (hs : Srt L) {i : Nat} (hi : i < L.length) : cnt L[i].1 L = L[i].2 := by
  induction L generalizing i with
  | nil => simp at hi
  | cons p t ih =>
    obtain ⟨h1, h2⟩ := List.pairwise_cons.1 hs
    cases i with
    | zero => rw [List.getElem_cons_zero, cnt_cons, if_pos (sameK_refl _)]
    | succ i =>
      have hi' : i < t.length := by simpa using hi
      rw [List.getElem_cons_succ, cnt_cons, if_neg (by rw [sameK_gt (h1 _ (List.getElem_mem hi'))]; simp)]
      exact ih h2 hi'
theorem sumQ_app (f : Int → Bool) (a b : List (Int × Int)) : sumQ f (a ++ b) = sumQ f a + sumQ f b := by
  induction a with
  | nil => simp [sumQ]
  | cons p t ih => simp only [List.cons_append, sumQ]; rw [ih]; omega
theorem sumQ_take (f : Int → Bool) {a : List (Int × Int)} {k : Nat} (hk : k < a.length) : sumQ f (a.take (k + 1)) = sumQ f (a.take k) + if f a[k].1 then a[k].2 else 0 := by
  rw [List.take_succ_eq_append_getElem hk, sumQ_app]; simp [sumQ]
theorem sumQ_nn (f : Int → Bool) {a : List (Int × Int)} (h : ∀ p ∈ a, 1 ≤ p.2) : 0 ≤ sumQ f a ∧ sumQ f a ≤ sumL a := by
  induction a with
  | nil => simp [sumQ, sumL]
  | cons p t ih => have h1 := h p (by simp); have h2 := ih (fun q hq => h q (by simp [hq])); simp only [sumQ, sumL]; split <;> omega
theorem sumQ_pre (f : Int → Bool) {a : List (Int × Int)} (h : ∀ p ∈ a, 1 ≤ p.2) (k : Nat) : 0 ≤ sumQ f (a.take k) ∧ sumQ f (a.take k) ≤ sumL a := by
  have h1 := sumQ_nn f (a := a.take k) (fun p hp => h p (List.take_subset _ _ hp))
  have h2 := sumL_pre h k
  omega
theorem sl_wide (L : List Sn) {W T : Int} (hW : 1 ≤ W) (hT : 1 ≤ T) (k : Nm) : sl (L.map (pr (W * T))) k = (sl (L.map (pr W)) k).map (fun x => slot x T) := by
  unfold sl
  induction L with
  | nil => rfl
  | cons x L ih =>
    simp only [List.map_cons, List.filter_cons]
    have e1 : (pr (W * T) x).1 = (pr W x).1 := rfl
    rw [e1]
    split
    · simp only [List.map_cons]; rw [ih]; congr 1; exact (slot_slot x.b hW hT).symm
    · exact ih
/-- The sums of the narrower windows are the wider ones'. -/
theorem wide_sum (L : List Sn) (hl : L.length ≤ 1000000) {W T : Int} (hW : 1 ≤ W) (hT : 1 ≤ T) (k : Nm) {i : Nat} (hi : i < (cts (L.map (pr (W * T))) k).length) :
    sumQ (fun x => decide (slot x T = (cts (L.map (pr (W * T))) k)[i].1)) (cts (L.map (pr W)) k) = (cts (L.map (pr (W * T))) k)[i].2 := by
  have hs := (cts_bg (L.map (pr (W * T))) (by rw [List.length_map]; exact hl) k).ok.srt
  rw [← cnt_at hs hi]
  generalize (cts (L.map (pr (W * T))) k)[i].1 = y
  unfold cts
  rw [wider (fun x => slot x T) y (Nat.le_trans (sl_len _ k) (by rw [List.length_map]; exact hl)), sl_wide L hW hT]
theorem cts_in (L : List Sn) (hl : L.length ≤ 1000000) (W : Int) (h : ∀ x ∈ L, in64 x.b) (k : Nm) : ∀ p ∈ cts (L.map (pr W)) k, in64 p.1 := by
  intro p hp
  have hb := cts_bg (L.map (pr W)) (by rw [List.length_map]; exact hl) k
  obtain ⟨i, hi, rfl⟩ := List.mem_iff_getElem.1 hp
  have hc := cnt_at hb.ok.srt hi
  rw [hb.cnt] at hc
  have hpos := hb.ok.pos _ (List.getElem_mem hi)
  have hm : (cts (L.map (pr W)) k)[i].1 ∈ sl (L.map (pr W)) k := List.count_pos_iff.1 (by omega)
  have := mem_sl.1 hm
  obtain ⟨x, hx, he⟩ := List.mem_map.1 this
  have e2 : slot x.b W = (cts (L.map (pr W)) k)[i].1 := congrArg Prod.snd he
  rw [← e2]
  obtain ⟨h1, h2⟩ := h x hx
  have := slot_range (a := x.b) (w := W) (n := 9223372036854775808) (by omega) (by omega) (by omega)
  exact ⟨by omega, by omega⟩
end Ser
end Go.Proofs.Ytgfjpnpbkkadpaa
