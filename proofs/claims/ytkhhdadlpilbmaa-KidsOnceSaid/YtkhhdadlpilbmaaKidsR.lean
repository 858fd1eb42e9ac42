/- Spans by their parents, plain: each is a kid of just its parent. -/
import Derived.Test.YtkhhdadlpilbmaaKidsP
namespace Go.Proofs.Ytkhhdadlpilbmaa
open Go.RowKit
namespace KidsP
open KeyP SetP

theorem snocInd' {α : Type} {p : List α → Prop} (l : List α) (h0 : p []) (h1 : ∀ l a, p l → p (l ++ [a])) : p l := by
  have key : ∀ n (l : List α), l.length = n → p l := by
    intro n
    induction n with
    | zero => intro l h; rw [List.eq_nil_of_length_eq_zero h]; exact h0
    | succ n ih =>
      intro l h
      have hne : l ≠ [] := fun e => by rw [e] at h; simp at h
      rw [← List.dropLast_concat_getLast hne]
      exact h1 _ _ (ih _ (by rw [List.length_dropLast]; omega))
  exact key _ l rfl
def addP (P : List Int) (p : Int) : List Int := if p ∈ P then P else P ++ [p]
def parsL (l : List Sn) : List Int := (l.map (fun s : Sn => s.p)).foldl addP []
theorem parsL_snoc (l : List Sn) (x : Sn) : parsL (l ++ [x]) = addP (parsL l) x.p := by
  unfold parsL; rw [List.map_append, List.foldl_append]; rfl
theorem mem_addP {P : List Int} {p q : Int} : q ∈ addP P p ↔ q ∈ P ∨ q = p := by
  unfold addP
  by_cases h : p ∈ P
  · rw [if_pos h]
    exact ⟨.inl, fun h' => h'.elim id (fun e => e ▸ h)⟩
  · rw [if_neg h, List.mem_append, List.mem_singleton]
/-- How many spans of a trace have their parent among these. -/
def cntP (P : List Int) (l : List Sn) : Nat := (l.filter (fun x => decide (x.p ∈ P))).length
theorem cntP_nil (l : List Sn) : cntP [] l = 0 := by unfold cntP; rw [List.length_eq_zero_iff, List.filter_eq_nil_iff]; simp
theorem cntP_add {P : List Int} {p : Int} (h : p ∉ P) (l : List Sn) : cntP (P ++ [p]) l = cntP P l + (l.filter (fun x => decide (x.p = p))).length := by
  unfold cntP
  induction l with
  | nil => rfl
  | cons a l ih =>
    rw [List.filter_cons, List.filter_cons, List.filter_cons]
    by_cases h1 : a.p ∈ P
    · have h2 : a.p ≠ p := fun e => h (e ▸ h1)
      simp [h1, h2] at ih ⊢; omega
    · by_cases h2 : a.p = p
      · simp [h1, h2, h] at ih ⊢; omega
      · simp [h1, h2] at ih ⊢; omega
theorem ofP_ofT (t p : Int) (L : List Sn) : ofP t p L = (ofT t L).filter (fun x => decide (x.p = p)) := by
  unfold ofP ofT
  rw [List.filter_filter]
  apply List.filter_congr
  intro x _
  rw [Bool.and_comm]
theorem cntP_all {P : List Int} {l : List Sn} (h : ∀ x ∈ l, x.p ∈ P) : cntP P l = l.length := by
  unfold cntP
  rw [List.filter_eq_self.2 (fun x hx => by simpa using h x hx)]
theorem kids_len_eq (t p : Int) (L : List Sn) : (kids t p L).length = ((ofT t L).filter (fun x => decide (x.p = p))).length := by
  unfold kids; rw [List.length_map, ofP_ofT]
theorem cntP_le (P : List Int) (l : List Sn) : cntP P l ≤ l.length := List.length_filter_le _ _
theorem ofT_mem {t : Int} {L : List Sn} {x : Sn} : x ∈ ofT t L ↔ x ∈ L ∧ x.t = t := by unfold ofT; rw [List.mem_filter]; simp
theorem ofT_srt {t : Int} {L : List Sn} (hs : Srs L) : (ofT t L).Pairwise (fun a b => a.i < b.i) := by
  refine (hs.filter _).imp_of_mem (fun {a b} ha hb h => ?_)
  have h1 := (List.mem_filter.1 ha).2
  have h2 := (List.mem_filter.1 hb).2
  simp only [bef, Bool.or_eq_true, Bool.and_eq_true, decide_eq_true_eq] at h h1 h2
  omega
/-- Whose parent none of the spans has, has no kids. -/
theorem kids_none {t p : Int} {L : List Sn} (h : ∀ x ∈ ofT t L, x.p ≠ p) : kids t p L = [] := by
  unfold kids
  rw [ofP_ofT, List.filter_eq_nil_iff.2 (fun x hx => by simpa using h x hx)]; rfl
end KidsP
end Go.Proofs.Ytkhhdadlpilbmaa
