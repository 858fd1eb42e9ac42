/- What the shape of a set's places adds up to, plain. No program is named. -/
import Derived.Test.YtgfjpnpbkkadpaaGreatCls1
import Derived.Test.YtgfjpnpbkkadpaaGreatShapeP
namespace Go.Proofs.YtgfjpnpbkkadpaaGreat
open Go.RowKit
namespace ShSum
open KeyP PackP SetP Cls ShapeP BagP
/-- A place's kind. -/
def k3 (S : List Sn) (x : Sn) : K3 := ((cdt S x).1, (cdt S x).2.1, ((fan S x : Nat) : Int))
def ks (S : List Sn) : List K3 := S.map (k3 S)
/-- Numbers, each as often as it is there. -/
def wL : List (Int × Int) → Int
  | [] => 0
  | p :: t => p.1 * p.2 + wL t
theorem lt_of {a b : Int} (h : Ord.lt a b = true) : a < b := of_decide_eq_true h
theorem wL_ins (x v : Int) : ∀ {L : List (Int × Int)}, Srt L → wL (insL x v L) = wL L - x * cnt x L + x * v
  | [], _ => by simp [insL, wL, cnt_nil]
  | (a, b) :: t, hs => by
    have hs' := List.pairwise_cons.1 hs
    rw [insL, cnt_cons, wL]
    by_cases h1 : Ord.lt x a = true
    · rw [if_pos h1, wL, wL, sameK_lt h1, if_neg (by simp), cnt_low (fun p hp => Ord.tr _ _ _ h1 (hs'.1 p hp))]
      dsimp only; omega
    · rw [if_neg h1]
      by_cases h2 : Ord.lt a x = true
      · rw [if_pos h2, wL, wL_ins x v hs'.2, sameK_gt h2, if_neg (by simp)]
        dsimp only; omega
      · have e := Ord.tri a x (by simpa using h2) (by simpa using h1); subst e
        rw [if_neg h2, wL, if_pos (sameK_refl _)]
        dsimp only; omega
theorem wL_add {x : Int} {L : List (Int × Int)} (h : Ok L) (hk : okA 1 L = true) : wL (addL x 1 L) = wL L + x := by
  have hc := h.pos.cnt x
  unfold addL setL
  rw [if_pos hk, if_neg (by omega), wL_ins x _ h.srt, Int.mul_add]
  omega
theorem fan_w : ∀ (n : Nat) (l : List K3), l.length = n → n < 1000000 → ∃ L, IsBag kf qf l L ∧ wL L = (l.map kf).sum
  | 0, l, h, _ => by
    obtain rfl := List.length_eq_zero_iff.1 h
    exact ⟨[], IsBag.nil, rfl⟩
  | n + 1, l, h, hn => by
    rcases List.eq_nil_or_concat l with rfl | ⟨s, k, rfl⟩
    · simp at h
    · rw [List.concat_eq_append] at h ⊢
      rw [List.length_append, List.length_singleton] at h
      obtain ⟨L, hL, hw⟩ := fan_w n s (by omega) (by omega)
      have hs := hL.sum; have hr := cn_range qf s
      have hk : okA 1 L = true := by unfold okA; simp; omega
      refine ⟨_, hL.add (by omega) k rfl, ?_⟩
      rw [wL_add hL.ok hk, hw, List.map_append, List.sum_append]
      simp
theorem fan_sum {l : List K3} {L : List (Int × Int)} (h : IsBag kf qf l L) (hl : l.length < 1000000) : wL L = (l.map kf).sum := by
  obtain ⟨M, hM, hw⟩ := fan_w _ l rfl hl
  rw [h.ext hM, hw]
theorem mono {D : List (Int × Int)} (hs : Srt D) {i j : Nat} (hij : i < j) (hj : j < D.length) : D[i].1 < D[j].1 := lt_of (List.pairwise_iff_getElem.1 hs i j (by omega) hj hij)
theorem contig {D : List (Int × Int)} (hs : Srt D) (hp : ∀ p ∈ D, 1 ≤ p.1) (hd : ∀ p ∈ D, 1 < p.1 → ∃ q ∈ D, q.1 = p.1 - 1) : ∀ (i : Nat) (h : i < D.length), D[i].1 = i + 1
  | 0, h => by
    have h1 := hp _ (List.getElem_mem h)
    refine Classical.byContradiction (fun hc => ?_)
    obtain ⟨q, hq, e⟩ := hd _ (List.getElem_mem h) (by simp at hc; omega)
    obtain ⟨j, hj, rfl⟩ := List.getElem_of_mem hq
    rcases Nat.eq_zero_or_pos j with rfl | h0
    · omega
    · have := mono hs h0 hj; omega
  | n + 1, h => by
    have ih := contig hs hp hd n (by omega)
    have h1 := mono hs (show n < n + 1 by omega) h
    refine Classical.byContradiction (fun hc => ?_)
    obtain ⟨q, hq, e⟩ := hd _ (List.getElem_mem h) (by omega)
    obtain ⟨j, hj, rfl⟩ := List.getElem_of_mem hq
    by_cases hjn : j ≤ n
    · rcases Nat.eq_or_lt_of_le hjn with rfl | h2
      · push_cast at hc; omega
      · have := mono hs h2 (show n < D.length by omega); push_cast at hc; omega
    · rcases Nat.eq_or_lt_of_le (show n + 1 ≤ j by omega) with rfl | h2
      · omega
      · have := mono hs h2 hj; omega
theorem mem_cnt {L : List (Int × Int)} (hs : Srt L) {p : Int × Int} (hp : p ∈ L) : cnt p.1 L = p.2 := by
  induction L with
  | nil => simp at hp
  | cons a t ih =>
    obtain ⟨h1, h2⟩ := List.pairwise_cons.1 hs
    rw [cnt_cons]
    rcases List.mem_cons.1 hp with rfl | hp
    · rw [sameK_refl]; rfl
    · rw [sameK_gt (h1 p hp), if_neg (by simp), ih h2 hp]
theorem cnt_mem {L : List (Int × Int)} {x : Int} (h : cnt x L ≠ 0) : ∃ q ∈ L, q.1 = x := by
  induction L with
  | nil => exact absurd rfl h
  | cons a t ih =>
    rw [cnt_cons] at h
    by_cases e : sameK x a.1 = true
    · exact ⟨a, by simp, (sameK_iff.1 e).symm⟩
    · rw [if_neg e] at h
      obtain ⟨q, hq, h2⟩ := ih h
      exact ⟨q, by simp [hq], h2⟩
section
variable {S : List Sn}
theorem d_pos (hs : Srs S) {x : Sn} (hx : x ∈ S) (hc : (cdt S x).1 ≠ 3) : 1 ≤ (cdt S x).2.1 := by
  unfold cdt at hc ⊢
  cases hT : T S x.t x.i with
  | none => rw [hT] at hc; exact absurd rfl hc
  | some u =>
    have := T_pos (nx_mem hs hx) hT
    show (1 : Int) ≤ ((u.d : Nat) : Int)
    omega
theorem d_qd (hs : Srs S) {x : Sn} (hx : x ∈ S) : qd (k3 S x) = !((cdt S x).1 == 3) := by
  show decide (0 < (cdt S x).2.1) = _
  by_cases hc : (cdt S x).1 = 3
  · rw [cdt_three hc]; rfl
  · have := d_pos hs hx hc
    rw [decide_eq_true (by omega)]; simpa using hc
theorem d_down (hs : Srs S) {x : Sn} (hx : x ∈ S) (h : 1 < (cdt S x).2.1) : ∃ y ∈ S, (cdt S y).2.1 = (cdt S x).2.1 - 1 := by
  rw [cdt_step hs hx] at h ⊢
  cases hn : nx S x.t x.p with
  | none => rw [hn] at h; dsimp only at h; omega
  | some y =>
    rw [hn] at h
    dsimp only at h ⊢
    obtain ⟨h1, h2, h3⟩ := nx_some hn
    split at h
    · dsimp only at h; omega
    · rename_i hc; rw [if_neg hc]; exact ⟨y, h1, by dsimp only; omega⟩
theorem cn_cls3 (l : List Sn) : cn (cls 1) (l.map (k3 S)) + cn (cls 2) (l.map (k3 S)) + cn (cls 3) (l.map (k3 S)) = l.length := by
  induction l with
  | nil => rfl
  | cons a t ih =>
    rw [List.map_cons, cn_cons, cn_cons, cn_cons, List.length_cons]
    have : (if cls 1 (k3 S a) then (1 : Int) else 0) + (if cls 2 (k3 S a) then 1 else 0) + (if cls 3 (k3 S a) then 1 else 0) = 1 := by
      rcases cdt_cls (L := S) a with h | h | h <;> simp [cls, k3, h]
    push_cast
    omega
theorem cn_qd (hs : Srs S) : ∀ (l : List Sn), (∀ x ∈ l, x ∈ S) → cn qd (l.map (k3 S)) = cn (cls 1) (l.map (k3 S)) + cn (cls 2) (l.map (k3 S))
  | [], _ => rfl
  | a :: t, h => by
    rw [List.map_cons, cn_cons, cn_cons, cn_cons, cn_qd hs t (fun x hx => h x (by simp [hx])), d_qd hs (h a (by simp))]
    have : (if (!((cdt S a).1 == 3)) = true then (1 : Int) else 0) = (if cls 1 (k3 S a) then 1 else 0) + (if cls 2 (k3 S a) then 1 else 0) := by
      rcases cdt_cls (L := S) a with h | h | h <;> simp [cls, k3, h]
    omega
theorem cast_sum (g : Sn → Nat) : ∀ l : List Sn, (l.map (fun x => ((g x : Nat) : Int))).sum = ((l.map g).sum : Nat)
  | [] => rfl
  | a :: t => by rw [List.map_cons, List.map_cons, List.sum_cons, List.sum_cons, cast_sum g t]; push_cast; rfl
/-- How many have their parent there. -/
def bel (S : List Sn) : List Sn := S.filter (fun y => (nx S y.t y.p).isSome)
/-- What the law wants. -/
structure Sm (S : List Sn) (x : Shp) : Prop where
  n : x.n = S.length
  cl : x.r + x.o + x.c = x.n
  dp : sumL x.D = x.r + x.o
  fs : sumL x.F = x.n
  fw : wL x.F = (bel S).length
  di : ∀ (i : Nat) (h : i < x.D.length), x.D[i].1 = i + 1
  dm : Pos x.D
  fm : Pos x.F
  ff : ∀ p ∈ x.F, 0 ≤ p.1
  fo : Srt x.F
  b : 0 ≤ x.r ∧ 0 ≤ x.o ∧ 0 ≤ x.c ∧ x.D.length ≤ S.length ∧ x.F.length ≤ S.length
theorem sm_of {x : Shp} (hs : Srs S) (hl : S.length < 1000000) (h : IsShp (ks S) x) : Sm S x := by
  have hlen : (ks S).length = S.length := List.length_map _
  have hk : ∀ p ∈ x.D, ∃ y ∈ S, (cdt S y).2.1 = p.1 ∧ 1 ≤ p.1 := fun p hp => by
    have h1 := mem_cnt h.D.ok.srt hp
    have h2 := h.D.ok.pos p hp
    rw [h.D.cnt] at h1
    have h3 : 0 < (ks S).countP (fun k => qd k && (p.1 == kd k)) := by unfold cn at h1; omega
    obtain ⟨k, hk, h4⟩ := List.countP_pos_iff.1 h3
    obtain ⟨y, hy, rfl⟩ := List.mem_map.1 hk
    rw [Bool.and_eq_true] at h4
    have h5 : p.1 = (cdt S y).2.1 := by simpa [kd, k3] using h4.2
    have h6 : 0 < (cdt S y).2.1 := of_decide_eq_true h4.1
    exact ⟨y, hy, h5.symm, by omega⟩
  have hd : ∀ p ∈ x.D, 1 < p.1 → ∃ q ∈ x.D, q.1 = p.1 - 1 := fun p hp h1 => by
    obtain ⟨y, hy, h2, -⟩ := hk p hp
    obtain ⟨z, hz, h3⟩ := d_down hs hy (by omega)
    refine cnt_mem ?_
    rw [h.D.cnt]
    have := cn_pos (p := fun k => qd k && (p.1 - 1 == kd k)) (List.mem_map_of_mem (f := k3 S) hz) (by
      have e1 : qd (k3 S z) = true := by show decide (0 < (cdt S z).2.1) = true; rw [decide_eq_true_eq]; omega
      have e2 : kd (k3 S z) = p.1 - 1 := by show (cdt S z).2.1 = _; omega
      rw [e1, e2]; simp)
    have : cn (fun k => qd k && (p.1 - 1 == kd k)) (ks S) ≥ 1 := this
    omega
  refine ⟨by rw [h.n, hlen], ?_, ?_, ?_, ?_, contig h.D.ok.srt (fun p hp => (hk p hp).choose_spec.2.2) hd, h.D.ok.pos, h.F.ok.pos, fun p hp => ?_, h.F.ok.srt, ?_⟩
  · rw [h.n, h.r, h.o, h.c, hlen]; exact cn_cls3 S
  · rw [h.D.sum, h.r, h.o]; exact cn_qd hs S (fun _ hx => hx)
  · rw [h.F.sum, h.n]; exact cn_true (ks S)
  · rw [fan_sum h.F (by omega)]
    have : (ks S).map kf = S.map (fun y => ((fan S y : Nat) : Int)) := by unfold ks; rw [List.map_map]; rfl
    rw [this, cast_sum, fans_sum hs]; rfl
  · have h1 := mem_cnt h.F.ok.srt hp
    have h2 := h.F.ok.pos p hp
    rw [h.F.cnt] at h1
    have h3 : 0 < (ks S).countP (fun k => qf k && (p.1 == kf k)) := by unfold cn at h1; omega
    obtain ⟨k, hk, h4⟩ := List.countP_pos_iff.1 h3
    obtain ⟨y, hy, rfl⟩ := List.mem_map.1 hk
    have h5 : p.1 = ((fan S y : Nat) : Int) := by simpa [qf, kf, k3] using h4
    omega
  · have e1 := h.D.len; have e2 := h.F.len
    have r1 := cn_range (cls 1) (ks S); have r2 := cn_range (cls 2) (ks S); have r3 := cn_range (cls 3) (ks S)
    rw [h.r, h.o, h.c]
    omega
end
theorem sum_take {L : List (Int × Int)} {k : Nat} (hk : k < L.length) : sumL (L.take (k + 1)) = sumL (L.take k) + L[k].2 := by
  rw [List.take_succ_eq_append_getElem hk, sumL_append]; simp [sumL]
theorem wL_app (A B : List (Int × Int)) : wL (A ++ B) = wL A + wL B := by
  induction A with
  | nil => simp [wL]
  | cons p t ih => simp only [List.cons_append, wL, ih]; omega
theorem w_take {L : List (Int × Int)} {k : Nat} (hk : k < L.length) : wL (L.take (k + 1)) = wL (L.take k) + L[k].1 * L[k].2 := by
  rw [List.take_succ_eq_append_getElem hk, wL_app]; simp [wL]
theorem sum_nn {L : List (Int × Int)} (h : Pos L) : 0 ≤ sumL L := by
  induction L with
  | nil => exact Int.le_refl _
  | cons p t ih => have := h p (by simp); have := ih (fun q hq => h q (by simp [hq])); simp only [sumL]; omega
theorem w_nn {L : List (Int × Int)} (h : Pos L) (h0 : ∀ p ∈ L, 0 ≤ p.1) : 0 ≤ wL L := by
  induction L with
  | nil => exact Int.le_refl _
  | cons p t ih =>
    have h1 := h p (by simp); have h2 := ih (fun q hq => h q (by simp [hq])) (fun q hq => h0 q (by simp [hq]))
    have h3 := Int.mul_nonneg (h0 p (by simp)) (show 0 ≤ p.2 by omega)
    simp only [wL]; omega
theorem sum_le {L : List (Int × Int)} (h : Pos L) (k : Nat) : 0 ≤ sumL (L.take k) ∧ sumL (L.take k) ≤ sumL L := by
  have e := sumL_append (L.take k) (L.drop k)
  rw [List.take_append_drop] at e
  have h1 := sum_nn (L := L.take k) (fun q hq => h q (List.mem_of_mem_take hq)); have h2 := sum_nn (L := L.drop k) (fun q hq => h q (List.mem_of_mem_drop hq))
  omega
theorem w_le {L : List (Int × Int)} (h : Pos L) (h0 : ∀ p ∈ L, 0 ≤ p.1) (k : Nat) : 0 ≤ wL (L.take k) ∧ wL (L.take k) ≤ wL L := by
  have e := wL_app (L.take k) (L.drop k)
  rw [List.take_append_drop] at e
  have h1 := w_nn (L := L.take k) (fun q hq => h q (List.mem_of_mem_take hq)) (fun q hq => h0 q (List.mem_of_mem_take hq)); have h2 := w_nn (L := L.drop k) (fun q hq => h q (List.mem_of_mem_drop hq)) (fun q hq => h0 q (List.mem_of_mem_drop hq))
  omega
theorem great_n : ∀ (n : Nat) (D : List (Int × Int)), D.length = n → (∀ (i : Nat) (h : i < D.length), D[i].1 = i + 1) → great D = D.length
  | 0, D, e, _ => by
    obtain rfl := List.length_eq_zero_iff.1 e
    rfl
  | n + 1, D, e, h => by
    rcases List.eq_nil_or_concat D with rfl | ⟨s, p, rfl⟩
    · rfl
    · rw [List.concat_eq_append] at h e ⊢
      rw [List.length_append, List.length_singleton] at e
      have hp : p.1 = s.length + 1 := by
        have := h s.length (by simp)
        simpa using this
      by_cases hs : s = []
      · subst hs; show p.1 = _; rw [hp]; simp
      · rw [great_snoc hs]
        have ih := great_n n s (by omega) (fun i hi => by
          have := h i (by rw [List.length_append]; omega)
          rwa [List.getElem_append_left hi] at this)
        rw [ih, hp, List.length_append, List.length_singleton]
        push_cast; omega
theorem great_of {D : List (Int × Int)} (h : ∀ (i : Nat) (h : i < D.length), D[i].1 = i + 1) : great D = D.length := great_n _ D rfl h
end ShSum
end Go.Proofs.YtgfjpnpbkkadpaaGreat
