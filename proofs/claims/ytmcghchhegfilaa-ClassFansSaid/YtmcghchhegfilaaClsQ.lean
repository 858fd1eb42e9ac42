/- Places of spans by chains up to what is known, and all fans together, plain. No program is named. -/
import Derived.Test.YtmcghchhegfilaaClsP
namespace Go.Proofs.Ytmcghchhegfilaa
open Go.RowKit
namespace Cls
open KeyP PackP SetP
section
variable {L : List Sn} {t : Int}
theorem T_c {i : Int} {u : Up} (h : T L t i = some u) : u.c = 1 ∨ u.c = 2 := by
  obtain ⟨e, k1, k2, k3, k4⟩ := way_T (L := L) (t := t) i
  cases hb : (way L t (L.length + 1) [] i).2 with
  | true => unfold T at h; rw [(k4 hb).2] at h; cases h
  | false =>
    have := (k3 hb).2 L.length (Nat.le_refl _)
    unfold T at h
    rw [h] at this
    rw [Option.some.inj this, adv_c]
    unfold top; dsimp only; split
    · exact .inl rfl
    · exact .inr rfl
theorem cdt_three {x : Sn} (h : (cdt L x).1 = 3) : cdt L x = (3, 0, 0) := by
  unfold cdt at h ⊢
  cases hT : T L x.t x.i with
  | none => rfl
  | some u => rw [hT] at h; have h2 : u.c = 3 := h; rcases T_c hT with hc | hc <;> omega
theorem cdt_cls (x : Sn) : (cdt L x).1 = 1 ∨ (cdt L x).1 = 2 ∨ (cdt L x).1 = 3 := by
  unfold cdt
  cases hT : T L x.t x.i with
  | none => exact .inr (.inr rfl)
  | some u => rcases T_c hT with hc | hc <;> simp [hc]
/-- One below. -/
def low3 (u : Int × Int × Int) : Int × Int × Int := (u.1, if u.1 = 3 then 0 else u.2.1 + 1, u.2.2)
theorem low_cdt {y : Sn} : low3 (cdt L y) = if (cdt L y).1 = 3 then (3, 0, 0) else ((cdt L y).1, (cdt L y).2.1 + 1, (cdt L y).2.2) := by
  by_cases h : (cdt L y).1 = 3
  · rw [if_pos h, cdt_three h]; rfl
  · rw [if_neg h]; unfold low3; rw [if_neg h]
variable (L t)
/-- The chain up to one that is known, or comes again. -/
def cw (K : Int → Bool) : Nat → List Sn → Int → List Sn × Int
  | 0, out, i => (out, i)
  | n + 1, out, i => match nx L t i with
    | none => (out, i)
    | some x => if K i || (fnd x out).isSome then (out, i) else cw K n (out ++ [x]) x.p
variable {L t}
theorem cw_way (n : Nat) (out : List Sn) (i : Int) : (cw L t (fun _ => false) n out i).1 = (way L t n out i).1 := by
  induction n generalizing out i with
  | zero => rfl
  | succ n ih =>
    unfold cw way
    cases nx L t i with
    | none => rfl
    | some x =>
      dsimp only
      rw [Bool.false_or]
      cases hf : (fnd x out).isSome with
      | true => rfl
      | false => exact ih _ _
theorem cw_spec {K : Int → Bool} {n : Nat} {i0 i : Int} {out : List Sn} (h : Ch L t i0 out i) (hn : out.Nodup) (hf : L.length < n + out.length) :
    Ch L t i0 (cw L t K n out i).1 (cw L t K n out i).2 ∧ (cw L t K n out i).1.Nodup ∧ (nx L t (cw L t K n out i).2 = none ∨ ((nx L t (cw L t K n out i).2).isSome = true ∧ (K (cw L t K n out i).2 = true ∨ ∃ y ∈ (cw L t K n out i).1, y.i = (cw L t K n out i).2))) := by
  induction n generalizing out i with
  | zero => exact absurd (sub_len hn (fun x hx => (h.mem x hx).1)) (by omega)
  | succ n ih =>
    unfold cw
    cases hx : nx L t i with
    | none => exact ⟨h, hn, .inl hx⟩
    | some x =>
      dsimp only
      by_cases hK : K i = true
      · rw [if_pos (by rw [hK]; rfl)]
        exact ⟨h, hn, .inr ⟨by rw [hx]; rfl, .inl hK⟩⟩
      · by_cases hf2 : (fnd x out).isSome = true
        · rw [if_pos (by rw [hf2, Bool.or_true])]
          obtain ⟨y, hy⟩ := Option.isSome_iff_exists.1 hf2
          obtain ⟨h1, h2⟩ := fnd_some hy
          refine ⟨h, hn, .inr ⟨by rw [hx]; rfl, .inr ⟨y, h1, ?_⟩⟩⟩
          rw [(one_iff.1 h2).2, (nx_some hx).2.2]
        · rw [if_neg (by simp [hK, hf2])]
          refine ih (h.snoc hx) ?_ (by rw [List.length_append, List.length_singleton]; omega)
          rw [List.nodup_append]
          refine ⟨hn, by simp, fun a ha b hb e => ?_⟩
          simp at hb; subst hb; subst e
          have : fnd a out = none := by
            cases hq : fnd a out with
            | none => rfl
            | some q => rw [hq] at hf2; exact absurd rfl hf2
          have := fnd_none this a ha
          rw [one_refl] at this; cases this
/-- What is above a chain. -/
def abv (L : List Sn) (K : Int → Bool) (z : Sn) (e : Int) : Int × Int × Int := match nx L z.t e with
  | some y => if K e then cdt L y else (3, 0, 0)
  | none => if z.p = 0 then (1, 0, z.i) else (2, 0, z.i)
theorem last_cdt (hs : Srs L) {K : Int → Bool} {i e : Int} {s : List Sn} {z : Sn} (h : Ch L t i (s ++ [z]) e)
    (he : nx L t e = none ∨ ((nx L t e).isSome = true ∧ (K e = true ∨ ∃ y ∈ s ++ [z], y.i = e))) : cdt L z = low3 (abv L K z e) := by
  have hp := ch_last h
  obtain ⟨hz, hzt, -⟩ := h.mem z (by simp)
  rw [cdt_step hs hz]
  unfold abv
  rw [hzt, hp]
  cases hn : nx L t e with
  | none => dsimp only; by_cases h0 : z.p = 0 <;> simp [h0, hp ▸ h0, low3]
  | some y =>
    dsimp only
    rw [← low_cdt]
    cases hK : K e with
    | true => rfl
    | false =>
      rw [hn] at he
      rcases he with he | ⟨-, he | ⟨q, hq, hqe⟩⟩
      · cases he
      · rw [hK] at he; cases he
      · have hT := T_ring' h hq hqe
        obtain ⟨-, y2, y3⟩ := nx_some hn
        have : cdt L y = (3, 0, 0) := by unfold cdt; rw [y2, y3, hT]
        rw [this]; rfl
theorem prev_cdt (hs : Srs L) {i e : Int} {s q : List Sn} {y z : Sn} (h : Ch L t i (s ++ y :: z :: q) e) : cdt L y = low3 (cdt L z) := by
  obtain ⟨hy, hyt, -⟩ := h.mem y (by simp)
  obtain ⟨-, h2⟩ := h.split
  cases h2 with
  | cons hx hc =>
    cases hc with
    | cons hx2 hc2 => rw [cdt_step hs hy, hyt, hx2, low_cdt]
/-- What a span's chain says of its place. -/
theorem cdt_way (hs : Srs L) {x : Sn} (hx : x ∈ L) : ∃ s z, (way L x.t (L.length + 1) [] x.i).1 = s ++ [z] ∧ z ∈ L ∧ z.t = x.t ∧ ((nx L x.t z.p).isSome = true ↔ (cdt L x).1 = 3) ∧ ((cdt L x).1 ≠ 3 → (cdt L x).2.1 = ((s.length + 1 : Nat) : Int)) ∧ (cdt L x).2.1 ≤ (L.length : Int) ∧ 0 ≤ (cdt L x).2.1 := by
  obtain ⟨e, h1, h2, h3, h4⟩ := way_T (L := L) (t := x.t) x.i
  have hr := ref_at hs hx
  unfold refAt at hr
  generalize way L x.t (L.length + 1) [] x.i = r at *
  obtain ⟨r, b⟩ := r
  dsimp only at *
  have hl := sub_len h2 (fun x hx => (h1.mem x hx).1)
  rcases List.eq_nil_or_concat r with rfl | ⟨s, z, rfl⟩
  · cases h1
    rw [nx_mem hs hx] at h3
    cases b with
    | true => obtain ⟨⟨y, hy, -⟩, -⟩ := h4 rfl; cases hy
    | false => cases (h3 rfl).1
  rw [List.concat_eq_append] at *
  have hp := ch_last h1
  obtain ⟨hz, hzt, -⟩ := h1.mem z (by simp)
  refine ⟨s, z, rfl, hz, hzt, ?_⟩
  rw [List.length_append, List.length_singleton] at hl
  cases b with
  | true =>
    rw [if_pos (Bool.true_or _)] at hr
    rw [← hr]
    obtain ⟨⟨y, hy, hye⟩, -⟩ := h4 rfl
    obtain ⟨-, -, k3⟩ := h1.mem y hy
    refine ⟨⟨fun _ => rfl, fun _ => ?_⟩, fun h => absurd rfl h, by show (0 : Int) ≤ _; omega, Int.le_refl 0⟩
    rw [hp, ← hye, k3]; rfl
  | false =>
    rw [if_neg (by simp)] at hr
    have hn := (h3 rfl).1
    rw [← hr]
    have hc : (match (s ++ [z]).getLast? with | some y => if y.p = 0 then (1 : Int) else 2 | none => 2) ≠ 3 := by
      rw [List.getLast?_append]; simp only [List.getLast?_singleton, Option.some_or]; split <;> decide
    refine ⟨⟨fun h => ?_, fun h => absurd h hc⟩, fun _ => ?_, ?_, ?_⟩
    · rw [hp, hn] at h; cases h
    · dsimp only; rw [List.length_append, List.length_singleton]
    · dsimp only; rw [List.length_append, List.length_singleton]; omega
    · dsimp only; omega
theorem cnt_one (hs : Srs L) (t i : Int) : (L.filter (fun x => decide (x.t = t) && decide (x.i = i))).length = if (nx L t i).isSome then 1 else 0 := by
  unfold nx
  induction L with
  | nil => rfl
  | cons a L ih =>
    obtain ⟨h1, h2⟩ := List.pairwise_cons.1 hs
    rw [List.filter_cons, List.find?_cons]
    cases hc : (decide (a.t = t) && decide (a.i = i)) with
    | true =>
      have : L.filter (fun x => decide (x.t = t) && decide (x.i = i)) = [] := by
        rw [List.filter_eq_nil_iff]
        intro y hy hq
        rw [Bool.and_eq_true, decide_eq_true_eq, decide_eq_true_eq] at hc hq
        have := bef_ne (h1 y hy)
        rw [one_iff.2 ⟨hc.1.trans hq.1.symm, hc.2.trans hq.2.symm⟩] at this; cases this
      rw [if_pos rfl, this]; rfl
    | false => rw [if_neg (by simp)]; exact ih h2
theorem sum_add {α : Type} (f g : α → Nat) (L : List α) : (L.map (fun x => f x + g x)).sum = (L.map f).sum + (L.map g).sum := by
  induction L with
  | nil => rfl
  | cons a L ih => simp only [List.map_cons, List.sum_cons]; rw [ih]; omega
theorem sum_cnt {α : Type} (p : α → Bool) (L : List α) : (L.map (fun x => if p x then 1 else 0)).sum = (L.filter p).length := by
  induction L with
  | nil => rfl
  | cons a L ih =>
    rw [List.map_cons, List.sum_cons, List.filter_cons, ih]
    cases p a <;> simp; omega
/-- All fans together are the spans whose parent is there. -/
theorem fans_of (hs : Srs L) (M : List Sn) : (L.map (fun x => (M.filter (fun y => decide (y.t = x.t) && decide (y.p = x.i))).length)).sum = (M.filter (fun y => (nx L y.t y.p).isSome)).length := by
  induction M with
  | nil => show (L.map (fun _ => 0)).sum = 0; rw [List.map_const', List.sum_replicate_nat]; omega
  | cons y M ih =>
    have e : (fun x : Sn => ((y :: M).filter (fun y => decide (y.t = x.t) && decide (y.p = x.i))).length) = (fun x : Sn => (if (decide (x.t = y.t) && decide (x.i = y.p)) then 1 else 0) + (M.filter (fun y => decide (y.t = x.t) && decide (y.p = x.i))).length) := by
      funext x
      rw [List.filter_cons, decide_eq_decide.2 (⟨Eq.symm, Eq.symm⟩ : y.t = x.t ↔ x.t = y.t), decide_eq_decide.2 (⟨Eq.symm, Eq.symm⟩ : y.p = x.i ↔ x.i = y.p)]
      cases (decide (x.t = y.t) && decide (x.i = y.p)) <;> simp; omega
    rw [e, sum_add, ih, sum_cnt, cnt_one hs, List.filter_cons]
    cases (nx L y.t y.p).isSome <;> simp; omega
theorem fans_sum (hs : Srs L) : (L.map (fun x => fan L x)).sum = (L.filter (fun y => (nx L y.t y.p).isSome)).length := fans_of hs L
theorem fan_le (x : Sn) : fan L x ≤ L.length := List.length_filter_le _ _
end
end Cls
end Go.Proofs.Ytmcghchhegfilaa
