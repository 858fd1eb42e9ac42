/- Go's maps from int to int, as lists in order of their keys. -/
import Derived.Test.YtdpngmgaomghoaaGreatRngs
import Derived.Test.YtdpngmgaomghoaaGreatKB
import Derived.Test.YtdpngmgaomghoaaGreatProg
namespace Go.Proofs.YtdpngmgaomghoaaGreat
open Tryz
open Go.RowKit
abbrev wfI (k : Int) : Prop := (Lit.int .i64 k).wf = true
abbrev mE (p : Int × Int) : Lit × DataW Unit := (.int .i64 p.1, .lit (.int .i64 p.2))
abbrev mD (L : List (Int × Int)) : DataW Unit := .map (L.map mE)
theorem sameKey_int (a b : Int) : (Lit.int .i64 a).sameKey (.int .i64 b) = sameK b a := by
 unfold Lit.sameKey
 by_cases h : a = b
 ·subst h; simp [sameK_refl]
 ·rw [sameK_ne (fun e => h e.symm)]; simp [h]
theorem filter_map (k : Int) (L : List (Int × Int)) : (L.map mE).filter (fun p => !p.1.sameKey (.int .i64 k)) = (delL k L).map mE := by
 unfold delL
 induction L with
 | nil => rfl
 | cons p t ih => rw [List.map_cons, List.filter_cons, List.filter_cons, ih, sameKey_int]; split <;> simp
theorem mD_del (k : Int) (L : List (Int × Int)) : (mD L).del (.int .i64 k) = mD (delL k L) := congrArg DataW.map (filter_map k L)
theorem insert_map (k v : Int) : ∀ L : List (Int × Int), (∀ p ∈ L, p.1 ≠ k) → DataW.insert (mE (k, v)) (L.map mE) = (insL k v L).map mE
 | [], _ => rfl
 | (a, b) :: t, h => by
  have h1 : a ≠ k := h (a, b) (by simp)
  have ih := insert_map k v t (fun p hp => h p (by simp [hp]))
  rw [List.map_cons, DataW.insert, insL, ltInt, ltInt]
  by_cases hlt : k < a
  ·simp [Lit.before, hlt]
  ·have h2 : a < k := by omega
   simp only [Lit.before, hlt, h2, decide_false, decide_true, if_true]
   rw [if_neg (by simp), if_neg (by simp), List.map_cons, ih]
theorem insL_del (k v : Int) : ∀ {L : List (Int × Int)}, Srt L → insL k v (delL k L) = insL k v L := by
 intro L hs
 refine srt_ext (srt_insL _ (srt_delL _ hs)).1 (srt_insL _ hs).1 (fun x => ?_)
 rw [getL_ins, getL_ins, getL_del]
 split <;> rfl
theorem mD_put (k v : Int) {L : List (Int × Int)} (hs : Srt L) : (mD L).put (.int .i64 k) (.lit (.int .i64 v)) = mD (insL k v L) := by
 refine congrArg DataW.map ?_
 rw [filter_map]
 have h2 := insert_map k v (delL k L) (fun p hp e => by
  have := (List.mem_filter.1 hp).2
  rw [e, sameK_refl] at this; cases this)
 rw [insL_del k v hs] at h2
 exact h2
theorem mD_at (k z : Int) (L : List (Int × Int)) : (mD L).atKey (.int .i64 k) (.lit (.int .i64 z)) = .lit (.int .i64 ((getL k L).getD z)) := by
 unfold DataW.atKey mD
 dsimp only
 induction L with
 | nil => rfl
 | cons p t ih =>
  rw [List.map_cons, List.find?_cons, getL_cons, sameKey_int]
  by_cases h : sameK k p.1 = true
  ·rw [h, if_pos rfl]; rfl
  ·rw [Bool.not_eq_true] at h; rw [h, if_neg (by simp)]; exact ih
def GM (w : World) (r : Nat) (L : List (Int × Int)) : Prop := Srt L ∧ (∀ p ∈ L, wfI p.1 ∧ wfI p.2) ∧ L.length < 1000000000 ∧ w.ownsMap prog 3 (plainElem prog 3) r L.length (mD L)
theorem GM.fr {S : Nat → Prop} {w w' : World} {r : Nat} {L : List (Int × Int)} (h : GM w r L) (hf : Fr S w w') (hs : ∀ b ∈ [r], ¬ S b) : GM w' r L := by
 obtain ⟨h1, h2, h3, h4⟩ := h
 have hlt := h4.lt
 obtain ⟨es, clock, hb, F, hsz, hD⟩ := h4
 exact ⟨h1, h2, h3, es, clock, (hf.block r hlt (hs r (by simp))).trans hb, F, hsz, hD⟩
theorem GM.lt {w : World} {r : Nat} {L : List (Int × Int)} (h : GM w r L) : r < w.heap.size := h.2.2.2.lt
theorem GM.new (w : World) : GM (w.alloc (.map #[] 0)) w.heap.size [] := ⟨List.Pairwise.nil, by simp, by simp, World.ownsMap_made w _ _ _⟩
theorem keyI {k : Int} (h : wfI k) : keyOf prog 3 (.int .i64 k) = some (.int .i64 k) := Maps.keyOf_int_mk underlying3 h
theorem zeroI (w : World) : (zeroValue 3).run prog w = .ok (.int .i64 0) w := by kernel_rfl
theorem GM.tight {w : World} {r n : Nat} {L : List (Int × Int)} (h : w.ownsMap prog 3 (plainElem prog 3) r n (mD L)) : w.ownsMap prog 3 (plainElem prog 3) r L.length (mD L) := by
 obtain ⟨es, clock, hb, F, hsz, hD⟩ := h
 refine ⟨es, clock, hb, F, ?_, hD⟩
 simp only [mD, DataW.map.injEq] at hD
 have := congrArg List.length hD
 rw [length_sorted] at this
 simp at this
 omega
section
variable {T : TypeId} (hT : prog.underlying T = some (.map 3 3))
include hT
theorem GM.look {w : World} {r : Nat} {L : List (Int × Int)} (h : GM w r L) {k : Int} (hk : wfI k) : (Instr.lookup T (.map (some r)) (.int .i64 k) false).run prog w = .ok (.int .i64 ((getL k L).getD 0)) w := by
 obtain ⟨c, hrun, hat, -⟩ := h.2.2.2.lookup_int (Maps.int_keyed underlying3) hT underlying3 (zeroI w) (keyI hk)
 rw [mD_at] at hat
 simp only [DataW.lit.injEq, Lit.int.injEq, true_and] at hat
 rw [hat]; exact hrun
theorem GM.upd {w : World} {r : Nat} {L : List (Int × Int)} (h : GM w r L) {k v : Int} (hk : wfI k) (hv : wfI v) (hl : L.length ≤ 100000000) : ∃ w', (Instr.mapUpdate T (.map (some r)) (.int .i64 k) (.int .i64 v)).run prog w = .ok () w' ∧ GM w' r (insL k v L) ∧ Fr (· = r) w w' := by
 obtain ⟨h1, h2, h3, h4⟩ := h
 obtain ⟨w', hrun, hown, hg⟩ := h4.update (Maps.int_keyed underlying3) hT (by unfold maxLen; omega) (keyI hk) (plainElem_int underlying3 hv)
 rw [mD_put k v h1] at hown
 have hil := insL_len' k v L
 refine ⟨w', hrun, ⟨(srt_insL _ h1).1, fun p hp => ?_, by omega, GM.tight hown⟩, Fr.grown hg (fun k e => by cases e; rfl)⟩
 rcases (srt_insL v h1).2 p hp with e | e
 ·have : getL p.1 (insL k v L) = some p.2 := mem_getL (srt_insL _ h1).1 hp
  rw [getL_ins, e, if_pos (sameK_refl _)] at this
  cases this
  exact ⟨e ▸ hk, hv⟩
 ·exact h2 p e
theorem GM.del {w : World} {r : Nat} {L : List (Int × Int)} (h : GM w r L) {k : Int} (hk : wfI k) (ty : TypeId) : ∃ w', (Builtin.delete_ #[T, 3] ty #[.map (some r), .int .i64 k]).run prog w = .ok (.tuple #[]) w' ∧ GM w' r (delL k L) ∧ Fr (· = r) w w' := by
 obtain ⟨h1, h2, h3, h4⟩ := h
 obtain ⟨w', hrun, hown, hg⟩ := h4.drop (Maps.int_keyed underlying3) hT (keyI hk) ty
 rw [mD_del] at hown
 refine ⟨w', hrun, ⟨srt_delL _ h1, fun p hp => h2 p (List.mem_filter.1 hp).1, Nat.lt_of_le_of_lt (delL_len' _ _) h3, GM.tight hown⟩, Fr.grown hg.grown (fun k e => by cases e; rfl)⟩
end
namespace QuotaP
open BagP
def okO (all tr t : Int) (L : List (Int × Int)) : Bool := decide (sumL L < all ∧ cnt t L < tr)
def addO (t : Int) (L : List (Int × Int)) : List (Int × Int) := insL t (cnt t L + 1) L
def dropO (t : Int) (L : List (Int × Int)) : List (Int × Int) := if cnt t L = 0 then L else setL t (cnt t L - 1) L
def oneL (all tr t : Int) (L : List (Int × Int)) : List (Int × Int) := if okO all tr t L then addO t L else L
def addM (l : List Int) (L : List (Int × Int)) : List (Int × Int) := l.foldl (fun L t => addO t L) L
def dropM (l : List Int) (L : List (Int × Int)) : List (Int × Int) := l.foldl (fun L t => dropO t L) L
structure Cs (L : List (Int × Int)) : Prop where
 srt : Srt L
 pos : Pos L
theorem len_sum : ∀ {L : List (Int × Int)}, Pos L → (L.length : Int) ≤ sumL L := by
 intro L
 induction L with
 | nil => intro _; simp [sumL]
 | cons p t ih => intro hp; have h1 := hp p (by simp); have h2 := ih (fun q hq => hp q (by simp [hq])); simp only [sumL, List.length_cons]; omega
theorem Cs.nil : Cs [] := ⟨List.Pairwise.nil, fun p h => by simp at h⟩
theorem addO_set {t : Int} {L : List (Int × Int)} (h : Cs L) : addO t L = setL t (cnt t L + 1) L := by
 have := (h.pos.cnt t).1
 unfold addO setL; rw [if_neg (by omega)]
theorem Cs.add {L : List (Int × Int)} (h : Cs L) (t : Int) : Cs (addO t L) := by
 rw [addO_set h]; exact ⟨setL_srt _ _ h.srt, setL_pos h.pos (by have := (h.pos.cnt t).1; omega)⟩
theorem Cs.drop {L : List (Int × Int)} (h : Cs L) (t : Int) : Cs (dropO t L) := by
 unfold dropO; split
 ·exact h
 ·exact ⟨setL_srt _ _ h.srt, setL_pos h.pos (by have := (h.pos.cnt t).1; omega)⟩
theorem cnt_add {L : List (Int × Int)} (h : Cs L) (t y : Int) : cnt y (addO t L) = cnt y L + (if y = t then 1 else 0) := by
 rw [addO_set h, cnt_set]
 by_cases e : y = t
 ·subst e; simp [sameK_refl]
 ·rw [sameK_ne e]; simp [e]
theorem cnt_drop {L : List (Int × Int)} (t y : Int) : cnt y (dropO t L) = if y = t ∧ cnt t L ≠ 0 then cnt y L - 1 else cnt y L := by
 unfold dropO
 by_cases h0 : cnt t L = 0
 ·rw [if_pos h0, if_neg (by simp [h0])]
 ·rw [if_neg h0, cnt_set]
  by_cases e : y = t
  ·subst e; simp [sameK_refl, h0]
  ·rw [sameK_ne e]; simp [e]
theorem sum_add {L : List (Int × Int)} (h : Cs L) (t : Int) : sumL (addO t L) = sumL L + 1 := by
 rw [addO_set h, sumL_set _ _ h.srt]; omega
theorem sum_drop {L : List (Int × Int)} (h : Cs L) (t : Int) : sumL (dropO t L) = if cnt t L = 0 then sumL L else sumL L - 1 := by
 unfold dropO; split
 ·rfl
 ·rw [sumL_set _ _ h.srt]; omega
theorem Cs.addM (l : List Int) : ∀ {L : List (Int × Int)}, Cs L → Cs (addM l L) := by
 induction l with
 | nil => intro L h; exact h
 | cons t l ih => intro L h; exact ih (h.add t)
theorem Cs.dropM (l : List Int) : ∀ {L : List (Int × Int)}, Cs L → Cs (dropM l L) := by
 induction l with
 | nil => intro L h; exact h
 | cons t l ih => intro L h; exact ih (h.drop t)
theorem cnt_addM (l : List Int) (y : Int) : ∀ {L : List (Int × Int)}, Cs L → cnt y (QuotaP.addM l L) = cnt y L + l.count y := by
 induction l with
 | nil => intro L h; simp [QuotaP.addM]
 | cons t l ih =>
  intro L h
  show cnt y (QuotaP.addM l (addO t L)) = _
  rw [ih (h.add t), cnt_add h, List.count_cons]
  by_cases e : y = t
  ·subst e; simp; omega
  ·have : (t == y) = false := by simp; exact fun h => e h.symm
   simp [e, this]
theorem cnt_dropM (l : List Int) (y : Int) : ∀ {L : List (Int × Int)}, Cs L → cnt y (QuotaP.dropM l L) = max 0 (cnt y L - l.count y) := by
 induction l with
 | nil => intro L h; have := (h.pos.cnt y).1; simp [QuotaP.dropM]; omega
 | cons t l ih =>
  intro L h
  have := (h.pos.cnt y).1
  show cnt y (QuotaP.dropM l (dropO t L)) = _
  rw [ih (h.drop t), cnt_drop, List.count_cons]
  by_cases e : y = t
  ·subst e
   by_cases h0 : cnt y L = 0
   ·simp [h0]; omega
   ·simp [h0]; omega
  ·have : (t == y) = false := by simp; exact fun h => e h.symm
   simp [e, this]
theorem dropM_addM (l : List Int) {L : List (Int × Int)} (h : Cs L) : QuotaP.dropM l (QuotaP.addM l L) = L := by
 refine bag_ext (Cs.dropM l (Cs.addM l h)).srt h.srt (Cs.dropM l (Cs.addM l h)).pos h.pos (fun y => ?_)
 rw [cnt_dropM l y (Cs.addM l h), cnt_addM l y h]
 have := (h.pos.cnt y).1
 omega
theorem sum_addM (l : List Int) : ∀ {L : List (Int × Int)}, Cs L → sumL (QuotaP.addM l L) = sumL L + l.length := by
 induction l with
 | nil => intro L h; simp [QuotaP.addM]
 | cons t l ih =>
  intro L h
  show sumL (QuotaP.addM l (addO t L)) = _
  rw [ih (h.add t), sum_add h, List.length_cons]; omega
def okM (all tr : Int) : List Int → List (Int × Int) → Bool
 | [], _ => true
 | t :: l, L => okO all tr t L && okM all tr l (addO t L)
theorem okM_iff (all tr : Int) (l : List Int) : ∀ {L : List (Int × Int)}, Cs L → (okM all tr l L = true ↔ l = [] ∨ (sumL L + l.length ≤ all ∧ ∀ t ∈ l, cnt t L + l.count t ≤ tr)) := by
 induction l with
 | nil => intro L h; simp [okM]
 | cons t l ih =>
  intro L h
  have h0 := (h.pos.cnt t).1
  rw [okM, Bool.and_eq_true, ih (h.add t), okO, decide_eq_true_eq, sum_add h]
  constructor
  ·rintro ⟨⟨h1, h2⟩, h3⟩
   refine .inr ⟨?_, fun y hy => ?_⟩
   ·rcases h3 with rfl | ⟨h3, -⟩
    ·simp; omega
    ·simp; omega
   ·rcases h3 with rfl | ⟨-, h4⟩
    ·simp at hy; subst hy; simp; omega
    ·rw [List.count_cons]
     by_cases e : y = t
     ·subst e
      by_cases hm : y ∈ l
      ·have := h4 y hm; rw [cnt_add h, if_pos rfl] at this; simp; omega
      ·rw [List.count_eq_zero_of_not_mem hm]; simp; omega
     ·have hm : y ∈ l := by rcases List.mem_cons.1 hy with h | h; exact absurd h e; exact h
      have := h4 y hm
      rw [cnt_add h, if_neg e] at this
      have e' : (t == y) = false := by simp; exact fun h => e h.symm
      simp [e']; omega
  ·rintro (h1 | ⟨h1, h2⟩)
   ·cases h1
   ·have h3 := h2 t (by simp)
    rw [List.count_cons] at h3
    simp at h1 h3
    refine ⟨⟨by omega, by omega⟩, ?_⟩
    by_cases hl : l = []
    ·exact .inl hl
    ·refine .inr ⟨by omega, fun y hy => ?_⟩
     have h4 := h2 y (by simp [hy])
     rw [List.count_cons] at h4
     rw [cnt_add h]
     by_cases e : y = t
     ·subst e; simp at h4 ⊢; omega
     ·have e' : (t == y) = false := by simp; exact fun h => e h.symm
      simp [e, e'] at h4 ⊢; omega
theorem okM_append (all tr : Int) (a b : List Int) : ∀ L : List (Int × Int), okM all tr (a ++ b) L = (okM all tr a L && okM all tr b (QuotaP.addM a L)) := by
 induction a with
 | nil => intro L; simp [okM, QuotaP.addM]
 | cons t a ih => intro L; rw [List.cons_append, okM, okM, ih, Bool.and_assoc]; rfl
def addA (all tr : Int) (l : List Int) (L : List (Int × Int)) : List (Int × Int) := if okM all tr l L then QuotaP.addM l L else L
end QuotaP
namespace QuotaP
open BagP
theorem cnt_of_mem : ∀ {L : List (Int × Int)}, Srt L → ∀ p ∈ L, cnt p.1 L = p.2 := by
 intro L
 induction L with
 | nil => intro _ p hp; simp at hp
 | cons q t ih =>
  intro hs p hp
  have hs' := List.pairwise_cons.1 hs
  rw [cnt_cons]
  rcases List.mem_cons.1 hp with rfl | hp
  ·rw [if_pos (sameK_refl _)]
  ·have hl := hs'.1 p hp
   rw [sameK_ne (by rintro e; rw [← e, Ord.irr] at hl; cases hl), if_neg (by simp)]
   exact ih hs'.2 p hp
end QuotaP
end Go.Proofs.YtdpngmgaomghoaaGreat
