/- What deltas say of keys, plain: sides, what is composed, and what the document says of it. -/
import Derived.Test.YtdpngmgaomghoaaGreatPackPs
import Derived.Test.YtdpngmgaomghoaaGreatDelta
import Derived.Sort.CutIn
namespace Go.Proofs.YtdpngmgaomghoaaGreat
open Go.RowKit
namespace Comp
open KeyP PackP SetP
section
variable {O1 I1 O2 I2 : List Sn}
end
end Comp
end Go.Proofs.YtdpngmgaomghoaaGreat
namespace Go.Proofs.YtdpngmgaomghoaaGreat
open Go.RowKit
namespace Comp
open KeyP PackP SetP SetW Delta
theorem isB_iff {L : List Sn} : isB L = true ↔ Ok L := by unfold isB; rw [decide_eq_true_eq, ok_iff]
theorem wout_mem {M L : List Sn} {x : Sn} : x ∈ wout M L ↔ x ∈ L ∧ x ∉ M := by unfold wout; rw [List.mem_filter]; simp
theorem wout_srs {M L : List Sn} (h : Srs L) : Srs (wout M L) := h.filter _
theorem fnd_ins {x y : Sn} {N : List Sn} (hN : Srs N) (h : one x y = false) : (fnd y (ins x N)).isSome = (fnd y N).isSome := by
 cases h1 : fnd y (ins x N) with
 | some z =>
  obtain ⟨a, b⟩ := fnd_some h1
  rcases (ins_mem hN).1 a with rfl | ⟨c, d⟩
  ·rw [h] at b; cases b
  ·rw [fnd_mem hN c b]
 | none =>
  cases h2 : fnd y N with
  | none => rfl
  | some z =>
   obtain ⟨a, b⟩ := fnd_some h2
   have hz : one z x = false := by
    cases hc : one z x with
    | false => rfl
    | true => rw [one_iff] at b hc; have : one x y = true := one_iff.2 (by omega); rw [h] at this; cases this
   have := fnd_none h1 z ((ins_mem hN).2 (.inr ⟨a, hz⟩))
   rw [b] at this; cases this
def says (O I : List Sn) (z : Sn) : Bool := (fnd z O).isSome || (fnd z I).isSome
def addNew (O I : List Sn) (L M : List Sn) : List Sn := M.foldl (fun L z => if says O I z then L else ins z L) L
theorem addNew_srs (O I : List Sn) : ∀ {M L : List Sn}, Srs L → Srs (addNew O I L M)
 | [], _, h => h
 | z :: M, L, h => by
  unfold addNew
  rw [List.foldl_cons]
  refine addNew_srs O I (M := M) ?_
  split
  ·exact h
  ·exact ins_srs h
theorem addNew_mem (O I : List Sn) {y : Sn} : ∀ {M L : List Sn}, Srs L → Srs M → (y ∈ addNew O I L M ↔ (y ∈ L ∧ ∀ z ∈ M, says O I z = false → one y z = false) ∨ (y ∈ M ∧ says O I y = false))
 | [], L, _, _ => by simp [addNew]
 | z :: M, L, hL, hM => by
  obtain ⟨h1, h2⟩ := List.pairwise_cons.1 hM
  show y ∈ addNew O I (if says O I z then L else ins z L) M ↔ _
  cases hs : says O I z with
  | true =>
   rw [if_pos rfl, addNew_mem O I hL h2]
   constructor
   ·rintro (⟨a, b⟩ | ⟨a, b⟩)
    ·refine .inl ⟨a, fun x hx hn => ?_⟩
     rcases List.mem_cons.1 hx with rfl | hx
     ·rw [hs] at hn; cases hn
     ·exact b x hx hn
    ·exact .inr ⟨by simp [a], b⟩
   ·rintro (⟨a, b⟩ | ⟨a, b⟩)
    ·exact .inl ⟨a, fun x hx => b x (by simp [hx])⟩
    ·rcases List.mem_cons.1 a with rfl | a
     ·rw [hs] at b; cases b
     ·exact .inr ⟨a, b⟩
  | false =>
   rw [if_neg (by simp), addNew_mem O I (ins_srs hL) h2, ins_mem hL]
   constructor
   ·rintro (⟨rfl | ⟨a, a'⟩, b⟩ | ⟨a, b⟩)
    ·exact .inr ⟨by simp, hs⟩
    ·refine .inl ⟨a, fun x hx hn => ?_⟩
     rcases List.mem_cons.1 hx with rfl | hx
     ·exact a'
     ·exact b x hx hn
    ·exact .inr ⟨by simp [a], b⟩
   ·rintro (⟨a, b⟩ | ⟨a, b⟩)
    ·exact .inl ⟨.inr ⟨a, b z (by simp) hs⟩, fun x hx => b x (by simp [hx])⟩
    ·rcases List.mem_cons.1 a with rfl | a
     ·exact .inl ⟨.inl rfl, fun x hx _ => bef_ne (h1 x hx)⟩
     ·exact .inr ⟨a, b⟩
section
variable {O1 I1 O2 I2 : List Sn}
end
theorem foldl_ins_mem {y : Sn} : ∀ {I N : List Sn}, Srs N → Srs I → (y ∈ I.foldl (fun N x => ins x N) N ↔ (y ∈ N ∧ ∀ z ∈ I, one y z = false) ∨ y ∈ I)
 | [], N, _, _ => by simp
 | x :: I, N, hN, hI => by
  obtain ⟨h1, h2⟩ := List.pairwise_cons.1 hI
  rw [List.foldl_cons, foldl_ins_mem (ins_srs hN) h2, ins_mem hN]
  constructor
  ·rintro (⟨rfl | ⟨a, b⟩, c⟩ | a)
   ·exact .inr (by simp)
   ·exact .inl ⟨a, fun z hz => by rcases List.mem_cons.1 hz with rfl | hz; exact b; exact c z hz⟩
   ·exact .inr (by simp [a])
  ·rintro (⟨a, b⟩ | a)
   ·exact .inl ⟨.inr ⟨a, b x (by simp)⟩, fun z hz => b z (by simp [hz])⟩
   ·rcases List.mem_cons.1 a with rfl | a
    ·exact .inl ⟨.inl rfl, fun z hz => bef_ne (h1 z hz)⟩
    ·exact .inr a
theorem foldl_ins_srs : ∀ {I N : List Sn}, Srs N → Srs (I.foldl (fun N x => ins x N) N)
 | [], _, h => h
 | x :: I, _N, h => foldl_ins_srs (I := I) (ins_srs (x := x) h)
theorem wout_self (A : List Sn) : wout A A = [] := by
 unfold wout
 rw [List.filter_eq_nil_iff]
 intro x hx
 simp [hx]
end Comp
end Go.Proofs.YtdpngmgaomghoaaGreat
