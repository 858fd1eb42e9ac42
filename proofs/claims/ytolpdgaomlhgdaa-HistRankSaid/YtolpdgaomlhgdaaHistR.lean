/- The duration of a rank, plain. No program is named. -/
import Derived.Test.YtolpdgaomlhgdaaHistG
namespace Go.Proofs.Ytolpdgaomlhgdaa
namespace HistP
open BagP
def lowR (d : Int) (out : List Int) : Nat := (out.takeWhile (fun x => decide (x ≤ d))).length
def insR (d : Int) (out : List Int) : List Int := out.take (lowR d out) ++ d :: out.drop (lowR d out)
def rise (l : List Int) : List Int := l.foldl (fun out d => insR (cl d) out) []
theorem lowR_le (d : Int) (out : List Int) : lowR d out ≤ out.length := (List.takeWhile_prefix _).length_le
theorem lowR_cons (d x : Int) (out : List Int) : lowR d (x :: out) = if x ≤ d then lowR d out + 1 else 0 := by
  unfold lowR; rw [List.takeWhile_cons]; by_cases h : x ≤ d <;> simp [h]
theorem lowR_at (d : Int) : ∀ (out : List Int) (k : Nat), (∀ i (h : i < out.length), i < k → out[i] ≤ d) → (k = out.length ∨ ∃ h : k < out.length, ¬ out[k] ≤ d) → lowR d out = k
  | [], k, _, h => by
    rcases h with h | ⟨h, _⟩
    · simp at h; subst h; rfl
    · simp at h
  | x :: out, 0, _, h => by
    rw [lowR_cons]
    rcases h with h | ⟨_, h⟩
    · simp at h
    · have h' : ¬ x ≤ d := h
      rw [if_neg h']
  | x :: out, k + 1, h0, h => by
    have h1 : x ≤ d := h0 0 (by simp) (by omega)
    rw [lowR_cons, if_pos h1, lowR_at d out k (fun i hi hk => h0 (i + 1) (by simpa using hi) (by omega))]
    rcases h with h | ⟨hl, h⟩
    · exact .inl (by simpa using h)
    · exact .inr ⟨by simpa using hl, h⟩
theorem insR_cons (d x : Int) (out : List Int) : insR d (x :: out) = if x ≤ d then x :: insR d out else d :: x :: out := by
  unfold insR
  rw [lowR_cons]
  by_cases h : x ≤ d
  · rw [if_pos h, if_pos h]; rfl
  · rw [if_neg h, if_neg h]; rfl
theorem insR_perm (d : Int) (out : List Int) : (insR d out).Perm (d :: out) := by
  unfold insR
  refine List.perm_middle.trans ?_
  rw [List.take_append_drop]
theorem insR_srt (d : Int) : ∀ out : List Int, out.Pairwise (· ≤ ·) → (insR d out).Pairwise (· ≤ ·) := by
  intro out
  induction out with
  | nil => intro _; simp [insR]
  | cons x out ih =>
    intro hs
    have hs' := List.pairwise_cons.1 hs
    rw [insR_cons]
    by_cases h : x ≤ d
    · rw [if_pos h, List.pairwise_cons]
      refine ⟨fun y hy => ?_, ih hs'.2⟩
      rcases List.mem_cons.1 ((insR_perm d out).mem_iff.1 hy) with rfl | hy
      · exact h
      · exact hs'.1 y hy
    · rw [if_neg h, List.pairwise_cons]
      refine ⟨fun y hy => ?_, hs⟩
      rcases List.mem_cons.1 hy with rfl | hy
      · omega
      · have := hs'.1 y hy; omega
theorem rise_is (l : List Int) : (rise l).Pairwise (· ≤ ·) ∧ (rise l).Perm (l.map cl) := by
  unfold rise
  suffices h : ∀ (l out : List Int), out.Pairwise (· ≤ ·) → (l.foldl (fun out d => insR (cl d) out) out).Pairwise (· ≤ ·) ∧ (l.foldl (fun out d => insR (cl d) out) out).Perm (out ++ l.map cl) by
    have := h l [] List.Pairwise.nil
    simpa using this
  intro l
  induction l with
  | nil => intro out h; exact ⟨h, by simp⟩
  | cons d l ih =>
    intro out h
    have := ih (insR (cl d) out) (insR_srt _ _ h)
    refine ⟨this.1, this.2.trans ?_⟩
    rw [List.map_cons]
    refine ((insR_perm (cl d) out).append_right _).trans ?_
    exact List.perm_middle.symm
theorem rise_len (l : List Int) : (rise l).length = l.length := by rw [(rise_is l).2.length_eq, List.length_map]
theorem rise_snoc (l : List Int) {k : Nat} (h : k < l.length) : rise (l.take (k + 1)) = insR (cl l[k]) (rise (l.take k)) := by
  unfold rise; rw [List.take_succ_eq_append_getElem h, List.foldl_append]; rfl
theorem cl_cl (d : Int) : cl (cl d) = cl d := by unfold cl clamp; omega
theorem bk_cl (d : Int) : bk (cl d) = bk d := by unfold bk; rw [cl_cl]
theorem rise_mem {l : List Int} {d : Int} (h : d ∈ rise l) : cl d = d := by
  obtain ⟨x, -, rfl⟩ := List.mem_map.1 ((rise_is l).2.mem_iff.1 h)
  exact cl_cl x
theorem sorted_ext : ∀ a b : List Int, a.Pairwise (· ≤ ·) → b.Pairwise (· ≤ ·) → (∀ x, a.count x = b.count x) → a = b := by
  intro a
  induction a with
  | nil =>
    intro b _ _ h
    cases b with
    | nil => rfl
    | cons y b => have := h y; simp at this
  | cons x a ih =>
    intro b ha hb h
    cases b with
    | nil => have := h x; simp at this
    | cons y b =>
      have ha' := List.pairwise_cons.1 ha
      have hb' := List.pairwise_cons.1 hb
      have hx : x ∈ y :: b := List.count_pos_iff.1 (by rw [← h x]; simp)
      have hy : y ∈ x :: a := List.count_pos_iff.1 (by rw [h y]; simp)
      have e : x = y := by
        rcases List.mem_cons.1 hx with e | hx
        · exact e
        · rcases List.mem_cons.1 hy with e | hy
          · exact e.symm
          · have := hb'.1 x hx; have := ha'.1 y hy; omega
      subst e
      rw [ih b ha'.2 hb'.2 (fun z => ?_)]
      have := h z
      rw [List.count_cons, List.count_cons] at this
      omega
/-- A bag, laid out. -/
def expL (L : List (Int × Int)) : List Int := L.flatMap (fun p => List.replicate p.2.toNat p.1)
theorem mem_expL {L : List (Int × Int)} {y : Int} (h : y ∈ expL L) : ∃ p ∈ L, p.1 = y := by
  unfold expL at h
  obtain ⟨p, hp, hy⟩ := List.mem_flatMap.1 h
  exact ⟨p, hp, (List.eq_of_mem_replicate hy).symm⟩
theorem expL_srt : ∀ {L : List (Int × Int)}, Srt L → (expL L).Pairwise (· ≤ ·)
  | [], _ => List.Pairwise.nil
  | (k, m) :: t, h => by
    have h' := List.pairwise_cons.1 h
    show (List.replicate m.toNat k ++ expL t).Pairwise (· ≤ ·)
    refine List.pairwise_append.2 ⟨?_, expL_srt h'.2, fun x hx y hy => ?_⟩
    · exact List.pairwise_replicate.2 (.inr (Int.le_refl _))
    · obtain ⟨p, hp, rfl⟩ := mem_expL hy
      rw [List.eq_of_mem_replicate hx]
      have := h'.1 p hp
      rw [ltInt] at this
      have : k < p.1 := by simpa using this
      omega
theorem expL_count (y : Int) : ∀ {L : List (Int × Int)}, Srt L → Pos L → (((expL L).count y : Nat) : Int) = cnt y L
  | [], _, _ => by simp [expL, cnt_nil]
  | (k, m) :: t, hs, hp => by
    have hs' := List.pairwise_cons.1 hs
    have ih := expL_count y hs'.2 (fun p h => hp p (by simp [h]))
    have hm := hp (k, m) (by simp)
    dsimp only at hm
    have hlow : ∀ p ∈ t, k < p.1 := fun p hq => by have := hs'.1 p hq; rw [ltInt] at this; simpa using this
    show (((List.replicate m.toNat k ++ expL t).count y : Nat) : Int) = _
    rw [List.count_append, List.count_replicate, cnt_cons]
    by_cases hy : y = k
    · subst hy
      rw [sameK_refl, if_pos rfl, if_pos (by simp)]
      rw [cnt_low' hlow] at ih
      omega
    · rw [sameK_ne hy, if_neg (show ¬ (k == y) = true by rw [beq_iff_eq]; exact fun e => hy e.symm), if_neg (show ¬ false = true by simp)]
      omega
theorem findQ_exp : ∀ {L : List (Int × Int)} {r : Int}, Pos L → 1 ≤ r → findQ r L = (expL L)[(r - 1).toNat]?
  | [], r, _, _ => by simp [findQ, expL]
  | (k, m) :: t, r, hp, hr => by
    have hm := hp (k, m) (by simp)
    dsimp only at hm
    show (if r ≤ m then some k else findQ (r - m) t) = (List.replicate m.toNat k ++ expL t)[(r - 1).toNat]?
    by_cases h : r ≤ m
    · rw [if_pos h, List.getElem?_append_left (by simp; omega), List.getElem?_replicate, if_pos (by omega)]
    · rw [if_neg h, findQ_exp (fun p h => hp p (by simp [h])) (by omega), List.getElem?_append_right (by simp; omega), List.length_replicate]
      congr 1
      omega
theorem pairwise_map_bk {l : List Int} (h : l.Pairwise (· ≤ ·)) : (l.map bk).Pairwise (· ≤ ·) := by
  rw [List.pairwise_map]
  exact h.imp (fun {a b} h => bk_mono h)
theorem Good.exp {x : HS} {l : List Int} (h : Good x l) : expL x.1 = (rise l).map bk := by
  refine sorted_ext _ _ (expL_srt h.ok.srt) (pairwise_map_bk (rise_is l).1) (fun y => ?_)
  have h1 := expL_count y h.ok.srt h.ok.pos
  rw [h.cnt] at h1
  have h2 : ((rise l).map bk).count y = (l.map bk).count y := by
    rw [((rise_is l).2.map bk).count_eq, List.map_map]
    congr 1
    exact List.map_congr_left (fun d _ => bk_cl d)
  omega
/-- The answer for a rank. -/
theorem Good.rank {x : HS} {l : List Int} (h : Good x l) (hl : l ≠ []) (p : Int) :
    ∃ (i : Nat) (hi : i < (rise l).length), (i : Int) = HistP.rank l.length p - 1 ∧ quant x p = bnd (bk (rise l)[i]) := by
  have hn : 1 ≤ (l.length : Int) := by have := List.length_pos_iff.2 hl; omega
  have hr := rank_rng (p := p) hn
  refine ⟨(HistP.rank l.length p - 1).toNat, by rw [rise_len]; omega, by omega, ?_⟩
  unfold quant
  rw [h.sum, findQ_exp h.ok.pos hr.1, h.exp, List.getElem?_map, List.getElem?_eq_getElem (by rw [rise_len]; omega)]
  rfl
theorem rank_law {x : HS} {l : List Int} (h : Good x l) (hl : l ≠ []) {p q : Int} (hpq : clamp p 0 1000 ≤ clamp q 0 1000) :
    ∃ (i : Nat) (hi : i < (rise l).length), (i : Int) = HistP.rank l.length p - 1 ∧ (quant x p).2.2 = true ∧ (quant x q).2.2 = true ∧ (quant x p).1 ≤ (rise l)[i] ∧ (rise l)[i] ≤ (quant x p).2.1 ∧ (quant x p).1 ≤ (quant x q).1 ∧ (quant x p).2.1 ≤ (quant x q).2.1 := by
  obtain ⟨i, hi, ei, ep⟩ := h.rank hl p
  obtain ⟨j, hj, ej, eq⟩ := h.rank hl q
  have hm := rank_mono (n := l.length) (by omega) hpq
  have b1 := bk_bnd (rise l)[i]
  have b2 := bk_bnd (rise l)[j]
  rw [rise_mem (List.getElem_mem hi)] at b1
  have hle : (rise l)[i] ≤ (rise l)[j] := by
    rcases Nat.lt_or_ge i j with h1 | h1
    · exact List.pairwise_iff_getElem.1 (rise_is l).1 i j hi hj h1
    · have : i = j := by omega
      subst this; exact Int.le_refl _
  have hb := bnd_mono (bk_rng (rise l)[i]).1 (bk_mono hle) (bk_rng (rise l)[j]).2
  rw [ep, eq]
  exact ⟨i, hi, ei, b1.2.2, b2.2.2, b1.1, b1.2.1, hb.1, hb.2⟩
theorem rank_small {n c : Int} (h0 : 0 ≤ n) (h1 : n ≤ 40) (hc : 0 ≤ c ∧ c ≤ 1000) : HistP.rank n c = max 1 ((n * c + 999) / 1000) := by
  have hcc : clamp c 0 1000 = c := by unfold clamp; omega
  unfold HistP.rank
  rw [hcc, show n / 1000 = 0 by omega, show n % 1000 = n by omega, Int.zero_mul, Int.zero_add]
end HistP
end Go.Proofs.Ytolpdgaomlhgdaa
