/- Rounds of loops over functions: what a round keeps; figures of depth. -/
import Derived.Test.YtkhhdadlpilbmaaTree2
import Derived.RangeFuncNested
import Derived.RangeFuncBound
namespace Go.Proofs.Ytkhhdadlpilbmaa
open Go.RowKit
theorem room_of_none {F : Fence} (hd : F.depth = none) (k : Nat) : F.room k := fun d h => by rw [hd] at h; cases h
theorem round_anyDepth {F : Fence} (hd : F.depth = none) {m m' : Nat} {P : Program} {l : Nat} {f : FuncId} {tmps : Array Value} {assign body : Code} {w : World} {R : Ending → World → Prop}
    (h : RoundIn F m P l f tmps assign body w R) : RoundIn F m' P l f tmps assign body w R := ⟨h.1, fun c cs _ => h.2 c cs (room_of_none hd _)⟩
theorem yield_anyDepth {F : Fence} (hd : F.depth = none) {m : Nat} (m' : Nat) {P : Program} {l : Nat} {args : Array Value} {W : World} {R : Ending → World → Prop} (h : YieldAt F m P l args W R) : YieldAt F m' P l args W R := by
  obtain ⟨fn, tmps, assign, body, hy, hR⟩ := h
  exact ⟨fn, tmps, assign, body, hy, round_anyDepth hd hR⟩
/-- These blocks lie as they lay. -/
def Kept (S : List Nat) (W W' : World) : Prop := ∀ b ∈ S, W'.heap[b]? = W.heap[b]?
theorem Kept.refl (S : List Nat) (W : World) : Kept S W W := fun _ _ => rfl
theorem Kept.trans {S : List Nat} {A B C : World} (h : Kept S A B) (k : Kept S B C) : Kept S A C := fun b hb => (k b hb).trans (h b hb)
theorem Kept.of_fr {S : List Nat} {T : Nat → Prop} {A B : World} (h : Fr T A B) (hs : ∀ b ∈ S, b < A.heap.size ∧ ¬ T b) : Kept S A B := fun b hb => h.block b (hs b hb).1 (hs b hb).2
theorem kept_b {S : List Nat} {w : World} (hS : ∀ b ∈ S, b < w.heap.size) (W : World) (l : Nat) (o o' : Obj) (hl : w.heap.size ≤ l) (_ : W.heap[l]? = some o) (_ : o.isCells = false) (_ : o.isWalk = false) : Kept S W (W.putObj l o') :=
  fun b hb => World.putObj_heap_other (fun e => by have := hS b hb; omega)
/-- Those keys that are not below one. -/
def geL {κ ν : Type} [Ord κ] (k : κ) (l : List (κ × ν)) : List (κ × ν) := l.filter (fun p => !Ord.lt p.1 k)
theorem geL_skip {κ ν : Type} [Ord κ] {k kf : κ} {v : ν} {A B : List (κ × ν)} (hs : Srt (A ++ (k, v) :: B)) (h : Ord.lt k kf = true) : geL kf (A ++ (k, v) :: B) = geL kf B := by
  have hm := Srt.mid hs
  have : A.filter (fun p => !Ord.lt p.1 kf) = [] := by
    rw [List.filter_eq_nil_iff]; intro p hp; simp [Ord.tr _ _ _ (hm.1 p hp) h]
  unfold geL
  rw [List.filter_append, this, List.nil_append, List.filter_cons]; simp [h]
theorem geL_keep {κ ν : Type} [Ord κ] {k kf : κ} {v : ν} {A B : List (κ × ν)} (hs : Srt (A ++ (k, v) :: B)) (h : Ord.lt k kf = false) : geL kf (A ++ (k, v) :: B) = geL kf A ++ (k, v) :: B := by
  have hm := Srt.mid hs
  have : B.filter (fun p => !Ord.lt p.1 kf) = B := by
    rw [List.filter_eq_self]; intro p hp
    cases h' : Ord.lt p.1 kf with
    | false => rfl
    | true => have := Ord.tr _ _ _ (hm.2 p hp) h'; rw [h] at this; cases this
  unfold geL
  rw [List.filter_append, List.filter_cons, this]; simp [h]
end Go.Proofs.Ytkhhdadlpilbmaa
