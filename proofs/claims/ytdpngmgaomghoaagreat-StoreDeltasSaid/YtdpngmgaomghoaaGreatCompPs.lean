/- What deltas say of keys, plain: sides, what is composed, and what the document says of it. -/
import Derived.Test.YtdpngmgaomghoaaGreatPackPs
import Derived.Test.YtdpngmgaomghoaaGreatDeltas
namespace Go.Proofs.YtdpngmgaomghoaaGreat
open Go.RowKit
namespace Comp
open KeyP PackP SetP
section
variable {O1 I1 O2 I2 : List Sn}
end
end Comp
end Go.Proofs.YtdpngmgaomghoaaGreat
namespace Go.Proofs.YtdpngmgaomghoaaGreat
open Go.RowKit
namespace Comp
open KeyP PackP SetP SetW Delta
theorem isB_iff {L : List Sn} : isB L = true ↔ Ok L := by unfold isB; rw [decide_eq_true_eq, ok_iff]
theorem rightB_iff {O I : List Sn} : rightB O I = true ↔ Ok O ∧ Ok I ∧ ∀ x ∈ O, x ∉ I := by
  unfold rightB
  rw [Bool.and_eq_true, Bool.and_eq_true, isB_iff, isB_iff, Bool.not_eq_true', List.any_eq_false]
  simp only [decide_eq_true_eq]
theorem wout_mem {M L : List Sn} {x : Sn} : x ∈ wout M L ↔ x ∈ L ∧ x ∉ M := by unfold wout; rw [List.mem_filter]; simp
theorem wout_srs {M L : List Sn} (h : Srs L) : Srs (wout M L) := h.filter _
theorem wout_ok {M L : List Sn} (h : Ok L) : Ok (wout M L) := h.filter _
theorem takeOut_eq : ∀ {O M : List Sn}, Srs O → Srs M → takeOut M O = if O.all (fun x => decide (x ∈ M)) then some (wout O M) else none
  | [], M, _, _ => by
    show some M = if true = true then some (wout [] M) else none
    rw [if_pos rfl]
    exact congrArg some (List.filter_eq_self.2 (by simp)).symm
  | x :: O, M, hO, hM => by
    obtain ⟨h1, h2⟩ := List.pairwise_cons.1 hO
    show (if x ∈ M then takeOut (SetP.out x.t x.i M) O else none) = _
    rw [List.all_cons]
    by_cases hx : x ∈ M
    · rw [if_pos hx, decide_eq_true hx, Bool.true_and, takeOut_eq h2 (out_srs hM)]
      have ha : (O.all fun y => decide (y ∈ SetP.out x.t x.i M)) = O.all fun y => decide (y ∈ M) := by
        rw [Bool.eq_iff_iff, List.all_eq_true, List.all_eq_true]
        refine ⟨fun h y hy => ?_, fun h y hy => ?_⟩
        · have := h y hy; rw [decide_eq_true_eq] at *; exact (out_mem.1 this).1
        · have := h y hy; rw [decide_eq_true_eq] at *
          exact out_mem.2 ⟨this, fun e => by have := bef_ne' (h1 y hy); rw [one_iff.2 e] at this; cases this⟩
      have hw : wout O (SetP.out x.t x.i M) = wout (x :: O) M := by
        refine srs_ext (wout_srs (out_srs hM)) (wout_srs hM) (fun y => ?_)
        rw [wout_mem, wout_mem, out_mem, List.mem_cons, not_or]
        refine ⟨fun ⟨⟨a, b⟩, c⟩ => ⟨a, fun e => b (by subst e; exact ⟨rfl, rfl⟩), c⟩, fun ⟨a, b, c⟩ => ⟨⟨a, fun e => b (srs_uni hM a hx (one_iff.2 e))⟩, c⟩⟩
      rw [ha, hw]
    · rw [if_neg hx, decide_eq_false hx, Bool.false_and, if_neg (by simp)]
theorem fnd_ins {x y : Sn} {N : List Sn} (hN : Srs N) (h : one x y = false) : (fnd y (ins x N)).isSome = (fnd y N).isSome := by
  cases h1 : fnd y (ins x N) with
  | some z =>
    obtain ⟨a, b⟩ := fnd_some h1
    rcases (ins_mem hN).1 a with rfl | ⟨c, d⟩
    · rw [h] at b; cases b
    · rw [fnd_mem hN c b]
  | none =>
    cases h2 : fnd y N with
    | none => rfl
    | some z =>
      obtain ⟨a, b⟩ := fnd_some h2
      have hz : one z x = false := by
        cases hc : one z x with
        | false => rfl
        | true => rw [one_iff] at b hc; have : one x y = true := one_iff.2 (by omega); rw [h] at this; cases this
      have := fnd_none h1 z ((ins_mem hN).2 (.inr ⟨a, hz⟩))
      rw [b] at this; cases this
theorem putIn_eq : ∀ {I N : List Sn}, Srs I → Srs N → putIn N I = if I.any (fun x => (fnd x N).isSome) then none else some (I.foldl (fun N x => ins x N) N)
  | [], N, _, _ => rfl
  | x :: I, N, hI, hN => by
    obtain ⟨h1, h2⟩ := List.pairwise_cons.1 hI
    show (if (fnd x N).isSome then none else putIn (ins x N) I) = _
    rw [List.any_cons, List.foldl_cons]
    by_cases hx : (fnd x N).isSome = true
    · rw [if_pos hx, hx, Bool.true_or, if_pos rfl]
    · rw [if_neg hx, Bool.eq_false_iff.2 hx, Bool.false_or, putIn_eq h2 (ins_srs hN)]
      have ha : (I.any fun y => (fnd y (ins x N)).isSome) = I.any fun y => (fnd y N).isSome := by
        rw [Bool.eq_iff_iff, List.any_eq_true, List.any_eq_true]
        exact ⟨fun ⟨y, hy, h⟩ => ⟨y, hy, by rwa [fnd_ins hN (bef_ne (h1 y hy))] at h⟩, fun ⟨y, hy, h⟩ => ⟨y, hy, by rwa [fnd_ins hN (bef_ne (h1 y hy))]⟩⟩
      rw [ha]
/-- The document's: what a set becomes. -/
def refA (L O I : List Sn) : List Sn × Int :=
  if isB L && rightB O I then (if (wout L O).length ≠ 0 then ([], 7) else if I.any (fun x => (fnd x (wout O L)).isSome) then ([], 8) else (I.foldl (fun N x => ins x N) (wout O L), 0)) else ([], 2)
theorem apply_ref (L O I : List Sn) : applyP L O I = refA L O I := by
  unfold applyP refA
  by_cases h : (isB L && rightB O I) = true
  · rw [if_pos h, if_pos h]
    obtain ⟨h1, h2⟩ := Bool.and_eq_true_iff.1 h
    have hL := isB_iff.1 h1
    obtain ⟨hO, hI, -⟩ := rightB_iff.1 h2
    rw [takeOut_eq hO.srs hL.srs]
    by_cases h3 : (O.all fun x => decide (x ∈ L)) = true
    · have e : wout L O = [] := by
        unfold wout
        rw [List.filter_eq_nil_iff]
        intro x hx
        have := List.all_eq_true.1 h3 x hx
        simpa using this
      rw [if_pos h3, e, if_neg (by simp)]
      show (match putIn (wout O L) I with | none => (([] : List Sn), (8 : Int)) | some N => (N, 0)) = _
      rw [putIn_eq hI.srs (wout_srs hL.srs)]
      by_cases h4 : (I.any fun x => (fnd x (wout O L)).isSome) = true
      · rw [if_pos h4, if_pos h4]
      · rw [if_neg h4, if_neg h4]
    · rw [if_neg h3]
      show (([], 7) : List Sn × Int) = _
      have e : (wout L O).length ≠ 0 := fun e => h3 (List.all_eq_true.2 (fun x hx => by
        rw [decide_eq_true_eq]
        refine Decidable.byContradiction (fun hn => ?_)
        have : x ∈ wout L O := wout_mem.2 ⟨hx, hn⟩
        rw [List.length_eq_zero_iff.1 e] at this; cases this))
      rw [if_pos e]
  · rw [if_neg h, if_neg h]
/-- Does a delta say something of a key? -/
def says (O I : List Sn) (z : Sn) : Bool := (fnd z O).isSome || (fnd z I).isSome
def addNew (O I : List Sn) (L M : List Sn) : List Sn := M.foldl (fun L z => if says O I z then L else ins z L) L
theorem addNew_srs (O I : List Sn) : ∀ {M L : List Sn}, Srs L → Srs (addNew O I L M)
  | [], _, h => h
  | z :: M, L, h => by
    unfold addNew
    rw [List.foldl_cons]
    refine addNew_srs O I (M := M) ?_
    split
    · exact h
    · exact ins_srs h
theorem addNew_mem (O I : List Sn) {y : Sn} : ∀ {M L : List Sn}, Srs L → Srs M → (y ∈ addNew O I L M ↔ (y ∈ L ∧ ∀ z ∈ M, says O I z = false → one y z = false) ∨ (y ∈ M ∧ says O I y = false))
  | [], L, _, _ => by simp [addNew]
  | z :: M, L, hL, hM => by
    obtain ⟨h1, h2⟩ := List.pairwise_cons.1 hM
    show y ∈ addNew O I (if says O I z then L else ins z L) M ↔ _
    cases hs : says O I z with
    | true =>
      rw [if_pos rfl, addNew_mem O I hL h2]
      constructor
      · rintro (⟨a, b⟩ | ⟨a, b⟩)
        · refine .inl ⟨a, fun x hx hn => ?_⟩
          rcases List.mem_cons.1 hx with rfl | hx
          · rw [hs] at hn; cases hn
          · exact b x hx hn
        · exact .inr ⟨by simp [a], b⟩
      · rintro (⟨a, b⟩ | ⟨a, b⟩)
        · exact .inl ⟨a, fun x hx => b x (by simp [hx])⟩
        · rcases List.mem_cons.1 a with rfl | a
          · rw [hs] at b; cases b
          · exact .inr ⟨a, b⟩
    | false =>
      rw [if_neg (by simp), addNew_mem O I (ins_srs hL) h2, ins_mem hL]
      constructor
      · rintro (⟨rfl | ⟨a, a'⟩, b⟩ | ⟨a, b⟩)
        · exact .inr ⟨by simp, hs⟩
        · refine .inl ⟨a, fun x hx hn => ?_⟩
          rcases List.mem_cons.1 hx with rfl | hx
          · exact a'
          · exact b x hx hn
        · exact .inr ⟨by simp [a], b⟩
      · rintro (⟨a, b⟩ | ⟨a, b⟩)
        · exact .inl ⟨.inr ⟨a, b z (by simp) hs⟩, fun x hx => b x (by simp [hx])⟩
        · rcases List.mem_cons.1 a with rfl | a
          · exact .inl ⟨.inl rfl, fun x hx _ => bef_ne (h1 x hx)⟩
          · exact .inr ⟨a, b⟩
section
variable {O1 I1 O2 I2 : List Sn}
end
/-! The laws. -/
theorem bet_right {A B : List Sn} (hA : Ok A) (hB : Ok B) : rightB (wout B A) (wout A B) = true := by
  rw [rightB_iff]
  exact ⟨wout_ok hA, wout_ok hB, fun x h1 h2 => (wout_mem.1 h1).2 (wout_mem.1 h2).1⟩
theorem foldl_ins_mem {y : Sn} : ∀ {I N : List Sn}, Srs N → Srs I → (y ∈ I.foldl (fun N x => ins x N) N ↔ (y ∈ N ∧ ∀ z ∈ I, one y z = false) ∨ y ∈ I)
  | [], N, _, _ => by simp
  | x :: I, N, hN, hI => by
    obtain ⟨h1, h2⟩ := List.pairwise_cons.1 hI
    rw [List.foldl_cons, foldl_ins_mem (ins_srs hN) h2, ins_mem hN]
    constructor
    · rintro (⟨rfl | ⟨a, b⟩, c⟩ | a)
      · exact .inr (by simp)
      · exact .inl ⟨a, fun z hz => by rcases List.mem_cons.1 hz with rfl | hz; exact b; exact c z hz⟩
      · exact .inr (by simp [a])
    · rintro (⟨a, b⟩ | a)
      · exact .inl ⟨.inr ⟨a, b x (by simp)⟩, fun z hz => b z (by simp [hz])⟩
      · rcases List.mem_cons.1 a with rfl | a
        · exact .inl ⟨.inl rfl, fun z hz => bef_ne (h1 z hz)⟩
        · exact .inr a
theorem foldl_ins_srs : ∀ {I N : List Sn}, Srs N → Srs (I.foldl (fun N x => ins x N) N)
  | [], _, h => h
  | x :: I, N, h => foldl_ins_srs (I := I) (ins_srs (x := x) h)
/-- What is between two sets makes the one of the other. -/
theorem apply_bet {A B : List Sn} (hA : Ok A) (hB : Ok B) : applyP A (wout B A) (wout A B) = (B, 0) := by
  rw [apply_ref]
  unfold refA
  have e1 : wout A (wout B A) = [] := by
    unfold wout
    rw [List.filter_eq_nil_iff]
    intro x hx
    simp [(List.mem_filter.1 hx).1]
  rw [isB_iff.2 hA, bet_right hA hB, Bool.and_self, if_pos rfl, e1, if_neg (by simp), if_neg]
  · congr 1
    refine srs_ext (foldl_ins_srs (wout_srs hA.srs)) hB.srs (fun y => ?_)
    rw [foldl_ins_mem (wout_srs hA.srs) (wout_srs hB.srs), wout_mem, wout_mem, wout_mem]
    constructor
    · rintro (⟨⟨a, b⟩, -⟩ | ⟨a, -⟩)
      · exact Decidable.byContradiction (fun hn => b ⟨a, hn⟩)
      · exact a
    · intro hy
      by_cases ha : y ∈ A
      · refine .inl ⟨⟨ha, fun e => e.2 hy⟩, fun z hz => ?_⟩
        cases ho : one y z with
        | false => rfl
        | true =>
          obtain ⟨h1, h2⟩ := wout_mem.1 hz
          rw [srs_uni hB.srs hy h1 ho] at ha; exact absurd ha h2
      · exact .inr ⟨hy, ha⟩
  · intro e
    obtain ⟨x, hx, h⟩ := List.any_eq_true.1 e
    obtain ⟨u, hu⟩ := Option.isSome_iff_exists.1 h
    obtain ⟨h1, h2⟩ := fnd_some hu
    obtain ⟨h3, h4⟩ := wout_mem.1 h1
    obtain ⟨h5, h6⟩ := wout_mem.1 hx
    have hub : u ∈ B := Decidable.byContradiction (fun hn => h4 (wout_mem.2 ⟨h3, hn⟩))
    rw [srs_uni hB.srs hub h5 h2] at h3
    exact h6 h3
theorem wout_self (A : List Sn) : wout A A = [] := by
  unfold wout
  rw [List.filter_eq_nil_iff]
  intro x hx
  simp [hx]
end Comp
end Go.Proofs.YtdpngmgaomghoaaGreat
