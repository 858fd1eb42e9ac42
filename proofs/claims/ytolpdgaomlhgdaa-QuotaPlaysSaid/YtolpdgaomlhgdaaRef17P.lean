/- The document's answer for layer 17, plain: traces in a list. No program is named. -/
import Derived.Test.YtolpdgaomlhgdaaQuotaQ
namespace Go.Proofs.Ytolpdgaomlhgdaa
namespace QuotaP
open BagP
/-- The counts and the list say the same. -/
structure Rel (L : List (Int × Int)) (T : List Int) : Prop where
  cnt : ∀ t, cnt t L = T.count t
  sum : sumL L = T.length
theorem Rel.nil : Rel [] [] := ⟨fun t => by rw [cnt_nil]; simp, by simp [sumL]⟩
def okS (all tr : Int) (l T : List Int) : Bool := decide (l = [] ∨ ((T.length : Int) + l.length ≤ all ∧ ∀ t ∈ l, (((T ++ l).count t : Nat) : Int) ≤ tr))
theorem Rel.ok {L : List (Int × Int)} {T : List Int} (h : Rel L T) (hc : Cs L) (all tr : Int) (l : List Int) : okM all tr l L = okS all tr l T := by
  rw [Bool.eq_iff_iff, okM_iff all tr l hc]
  unfold okS
  rw [decide_eq_true_iff, h.sum]
  constructor
  · rintro (e | ⟨h1, h2⟩)
    · exact .inl e
    · exact .inr ⟨h1, fun t ht => by have := h2 t ht; rw [h.cnt] at this; rw [List.count_append]; omega⟩
  · rintro (e | ⟨h1, h2⟩)
    · exact .inl e
    · exact .inr ⟨h1, fun t ht => by have := h2 t ht; rw [List.count_append] at this; rw [h.cnt]; omega⟩
theorem Rel.add {L : List (Int × Int)} {T : List Int} (h : Rel L T) (hc : Cs L) (l : List Int) : Rel (QuotaP.addM l L) (T ++ l) :=
  ⟨fun t => by rw [cnt_addM l t hc, h.cnt, List.count_append]; omega, by rw [sum_addM l hc, h.sum, List.length_append]; omega⟩
theorem Rel.drop1 {L : List (Int × Int)} {T : List Int} (h : Rel L T) (hc : Cs L) (t : Int) : Rel (dropO t L) (T.erase t) := by
  refine ⟨fun y => ?_, ?_⟩
  · rw [cnt_drop, h.cnt, h.cnt, List.count_erase]
    by_cases e : y = t
    · subst e
      simp only [beq_self_eq_true, ↓reduceIte, true_and]
      split <;> omega
    · rw [if_neg (by simp [e]), if_neg (by simpa using fun e' => e e'.symm)]; simp
  · rw [sum_drop hc, h.cnt, h.sum, List.length_erase]
    by_cases e : t ∈ T
    · have := List.count_pos_iff.2 e
      have := List.length_pos_of_mem e
      rw [if_neg (by omega), if_pos e]; omega
    · rw [List.count_eq_zero_of_not_mem e, if_neg e]; simp
def eraM (l T : List Int) : List Int := l.foldl (fun T t => T.erase t) T
theorem Rel.drop (l : List Int) : ∀ {L : List (Int × Int)} {T : List Int}, Rel L T → Cs L → Rel (QuotaP.dropM l L) (eraM l T) := by
  induction l with
  | nil => intro L T h _; exact h
  | cons t l ih => intro L T h hc; exact ih (h.drop1 hc t) (hc.drop t)
/-- A trace put in its place. -/
def low (t : Int) (out : List Int) : Nat := (out.takeWhile (fun x => decide (x < t))).length
def insT (t : Int) (out : List Int) : List Int := if out[low t out]? = some t then out else out.take (low t out) ++ t :: out.drop (low t out)
def trT (T : List Int) : List Int := T.foldl (fun out t => insT t out) []
theorem trT_snoc (T : List Int) (t : Int) : trT (T ++ [t]) = insT t (trT T) := by simp [trT]
theorem low_cons (t x : Int) (out : List Int) : low t (x :: out) = if x < t then low t out + 1 else 0 := by
  unfold low; rw [List.takeWhile_cons]; by_cases h : x < t <;> simp [h]
theorem low_le (t : Int) (out : List Int) : low t out ≤ out.length := by unfold low; exact (List.takeWhile_prefix _).length_le
theorem insT_nil (t : Int) : insT t [] = [t] := by simp [insT, low]
theorem insT_cons (t x : Int) (out : List Int) : insT t (x :: out) = if x < t then x :: insT t out else if x = t then x :: out else t :: x :: out := by
  unfold insT
  rw [low_cons]
  by_cases h : x < t
  · rw [if_pos h, if_pos h]
    simp only [List.getElem?_cons_succ, List.take_succ_cons, List.drop_succ_cons, List.cons_append]
    split <;> rfl
  · rw [if_neg h, if_neg h]
    simp only [List.getElem?_cons_zero, List.take_zero, List.drop_zero, List.nil_append, Option.some.injEq]
theorem mem_insT (t y : Int) : ∀ out : List Int, y ∈ insT t out ↔ y = t ∨ y ∈ out := by
  intro out
  induction out with
  | nil => simp [insT_nil]
  | cons x out ih =>
    rw [insT_cons]
    by_cases h : x < t
    · rw [if_pos h, List.mem_cons, ih, List.mem_cons]
      constructor
      · rintro (e | e | e)
        · exact .inr (.inl e)
        · exact .inl e
        · exact .inr (.inr e)
      · rintro (e | e | e)
        · exact .inr (.inl e)
        · exact .inl e
        · exact .inr (.inr e)
    · rw [if_neg h]
      by_cases e : x = t
      · rw [if_pos e, List.mem_cons]
        constructor
        · exact .inr
        · rintro (h | h)
          · exact .inl (h.trans e.symm)
          · exact h
      · rw [if_neg e]; simp
theorem srt_insT (t : Int) : ∀ out : List Int, out.Pairwise (· < ·) → (insT t out).Pairwise (· < ·) := by
  intro out
  induction out with
  | nil => intro _; simp [insT_nil]
  | cons x out ih =>
    intro hs
    have hs' := List.pairwise_cons.1 hs
    rw [insT_cons]
    by_cases h : x < t
    · rw [if_pos h, List.pairwise_cons]
      refine ⟨fun y hy => ?_, ih hs'.2⟩
      rcases (mem_insT t y out).1 hy with rfl | hy
      · exact h
      · exact hs'.1 y hy
    · rw [if_neg h]
      by_cases e : x = t
      · rw [if_pos e]; exact hs
      · rw [if_neg e, List.pairwise_cons]
        refine ⟨fun y hy => ?_, hs⟩
        rcases List.mem_cons.1 hy with rfl | hy
        · omega
        · have := hs'.1 y hy; omega
theorem srt_ext_int : ∀ (a b : List Int), a.Pairwise (· < ·) → b.Pairwise (· < ·) → (∀ x, x ∈ a ↔ x ∈ b) → a = b := by
  intro a
  induction a with
  | nil =>
    intro b _ _ h
    cases b with
    | nil => rfl
    | cons y b => exact absurd ((h y).2 (by simp)) (by simp)
  | cons x a ih =>
    intro b ha hb h
    cases b with
    | nil => exact absurd ((h x).1 (by simp)) (by simp)
    | cons y b =>
      have ha' := List.pairwise_cons.1 ha
      have hb' := List.pairwise_cons.1 hb
      have e : x = y := by
        rcases List.mem_cons.1 ((h x).1 (by simp)) with e | hx
        · exact e
        · rcases List.mem_cons.1 ((h y).2 (by simp)) with e | hy
          · exact e.symm
          · have := hb'.1 x hx; have := ha'.1 y hy; omega
      subst e
      rw [ih b ha'.2 hb'.2 (fun z => ?_)]
      have hz := h z
      simp only [List.mem_cons] at hz
      constructor
      · intro hm
        rcases hz.1 (.inr hm) with e | hb
        · have := ha'.1 z hm; omega
        · exact hb
      · intro hm
        rcases hz.2 (.inr hm) with e | hb
        · have := hb'.1 z hm; omega
        · exact hb
theorem trT_srt (T : List Int) : (trT T).Pairwise (· < ·) ∧ ∀ x, x ∈ trT T ↔ x ∈ T := by
  unfold trT
  suffices h : ∀ (T out : List Int), out.Pairwise (· < ·) → (T.foldl (fun out t => insT t out) out).Pairwise (· < ·) ∧ ∀ x, x ∈ T.foldl (fun out t => insT t out) out ↔ x ∈ T ∨ x ∈ out by
    have := h T [] List.Pairwise.nil
    exact ⟨this.1, fun x => by rw [this.2]; simp⟩
  intro T
  induction T with
  | nil => intro out h; exact ⟨h, by simp⟩
  | cons t T ih =>
    intro out h
    have := ih (insT t out) (srt_insT t out h)
    refine ⟨this.1, fun x => ?_⟩
    rw [List.foldl_cons, this.2, mem_insT, List.mem_cons]
    constructor
    · rintro (h | h | h)
      · exact .inl (.inr h)
      · exact .inl (.inl h)
      · exact .inr h
    · rintro ((h | h) | h)
      · exact .inr (.inl h)
      · exact .inl h
      · exact .inr (.inr h)
theorem Rel.keys {L : List (Int × Int)} {T : List Int} (h : Rel L T) (hc : Cs L) : L.map (·.1) = trT T := by
  refine srt_ext_int _ _ ?_ (trT_srt T).1 (fun x => ?_)
  · have hs : L.Pairwise (fun a b => Ord.lt a.1 b.1 = true) := hc.srt
    rw [List.pairwise_map]
    exact hs.imp (fun {a b} h => by simpa [Ord.lt] using h)
  · rw [(trT_srt T).2, List.mem_map]
    constructor
    · rintro ⟨p, hp, rfl⟩
      have h1 := cnt_of_mem hc.srt p hp
      have h2 := hc.pos p hp
      rw [h.cnt] at h1
      exact List.count_pos_iff.1 (by omega)
    · intro hx
      have := List.count_pos_iff.2 hx
      have h1 := h.cnt x
      unfold BagP.cnt at h1
      cases hg : getL x L with
      | none => rw [hg] at h1; simp at h1; omega
      | some v => exact ⟨(x, v), getL_mem hg, rfl⟩
end QuotaP
end Go.Proofs.Ytolpdgaomlhgdaa
