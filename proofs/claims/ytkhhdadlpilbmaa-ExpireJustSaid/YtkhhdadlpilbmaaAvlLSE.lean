/- The maps in order (avl) at one instance: a map as an object among others. -/
import Derived.Test.YtkhhdadlpilbmaaAvlKSE
import Derived.Test.YtkhhdadlpilbmaaZone
namespace Go.Proofs.Ytkhhdadlpilbmaa
open Go.RowKit
namespace AvlSE
theorem MapB.frz {S : Nat → Prop} {w w' : World} {B : Nat} {L : List (ByteArray × Unit)} {F : List Nat} (h : MapB w B L F) (hf : Fr S w w') (hs : ∀ b ∈ B :: F, ¬ S b) : MapB w' B L F :=
  h.fr hf (hs B (by simp)) (fun b hb => hs b (by simp [hb]))
theorem Turned.tn {B : Nat} {F : List Nat} {L' : List (ByteArray × Unit)} {w w' : World} (h : Turned B F L' w w') (hB : B < w.heap.size) : ∃ F', MapB w' B L' F' ∧ Tn (B :: F) (B :: F') w w' := by
  obtain ⟨F', h1, h2, h3⟩ := h
  refine ⟨F', h1, h3.mono (fun i _ hi => by simpa using hi), fun x hx => ?_⟩
  have hl := h1.lt
  rcases List.mem_cons.1 hx with rfl | hx
  · exact ⟨.inl (by simp), hl.1⟩
  · exact ⟨(h2 x hx).elim (fun h => .inl (by simp [h])) .inr, hl.2 x hx⟩
theorem MapB.new_tn (w : World) : MapB (w.alloc (.cells #[.pointer none, .int .i64 0] 63 (0, 0))) w.heap.size [] [] := MapB.new w
theorem MapB.ltz {w : World} {B : Nat} {L : List (ByteArray × Unit)} {F : List Nat} (h : MapB w B L F) : ∀ b ∈ B :: F, b < w.heap.size := by
  have := h.lt
  intro b hb
  rcases List.mem_cons.1 hb with rfl | hb
  · exact this.1
  · exact this.2 b hb
end AvlSE
end Go.Proofs.Ytkhhdadlpilbmaa
