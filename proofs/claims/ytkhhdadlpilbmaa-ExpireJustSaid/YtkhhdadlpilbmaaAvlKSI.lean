/- The maps in order (avl) at one instance: a map that lies in a block of its own. -/
import Derived.Test.YtkhhdadlpilbmaaAvlJSI
import Derived.Test.YtkhhdadlpilbmaaLst
namespace Go.Proofs.Ytkhhdadlpilbmaa
open Go.RowKit
namespace AvlSI

/-- Block B is a map with the pairs L, in the blocks F. -/
def MapB (w : World) (B : Nat) (L : List (ByteArray × Int)) (F : List Nat) : Prop :=
  ∃ r, w.heap[B]? = some (.cells #[.pointer r, .int .i64 L.length] 26 (0, 0)) ∧ MapIn w r L F ∧ B ∉ F
theorem MapB.fr {S : Nat → Prop} {w w' : World} {B : Nat} {L : List (ByteArray × Int)} {F : List Nat} (h : MapB w B L F) (hf : Fr S w w') (h1 : ¬ S B) (hs : ∀ b ∈ F, ¬ S b) : MapB w' B L F := by
  obtain ⟨r, hB, hM, hn⟩ := h
  exact ⟨r, (hf.block B (lt_of_heap hB) h1).trans hB, hM.fr hf hs, hn⟩
theorem MapB.mapP {w : World} {B : Nat} {L : List (ByteArray × Int)} {F : List Nat} (h : MapB w B L F) : MapP w (some ⟨B, 0, none⟩) L F := by
  obtain ⟨r, hB, hM, hn⟩ := h
  exact .inr ⟨B, 0, r, rfl, cell_of_block hB 0, hM⟩
theorem MapB.lt {w : World} {B : Nat} {L : List (ByteArray × Int)} {F : List Nat} (h : MapB w B L F) : B < w.heap.size ∧ ∀ b ∈ F, b < w.heap.size := by
  obtain ⟨r, hB, hM, hn⟩ := h
  exact ⟨lt_of_heap hB, hM.lt⟩
theorem MapB.srt {w : World} {B : Nat} {L : List (ByteArray × Int)} {F : List Nat} (h : MapB w B L F) : Srt L := by
  obtain ⟨r, hB, hM, hn⟩ := h
  exact hM.srt
theorem MapB.new (w : World) : MapB (w.alloc (.cells #[.pointer none, .int .i64 0] 26 (0, 0))) w.heap.size [] [] :=
  ⟨none, heap_new _ _, MapIn.nil _, by simp⟩

/-- A map in block B has become another one. -/
def Turned (B : Nat) (F : List Nat) (L' : List (ByteArray × Int)) (w w' : World) : Prop :=
  ∃ F', MapB w' B L' F' ∧ (∀ x ∈ F', x ∈ F ∨ w.heap.size ≤ x) ∧ Fr (fun x => x = B ∨ x ∈ F) w w'

theorem PutB (B : Nat) (k : ByteArray) (v : Int) (L : List (ByteArray × Int)) (F : List Nat) (w : World) (h : MapB w B L F) (sz : L.length < 144115188075855872) :
    Calls Try.prog 70 #[.pointer (some ⟨B, 0, none⟩), .string k, .int .i64 v] w fun e w' => e = .returned (.bool (!hasL k L)) ∧ Turned B F (insL k v L) w w' := by
  have hlt := h.lt
  obtain ⟨r, hB, hM, hn⟩ := h
  refine (Put B 0 _ _ k v r L F w hB rfl rfl hM hn sz).mono ?_
  rintro e w' ⟨r', F', rfl, h1, h2, h3, h4⟩
  refine ⟨rfl, F', ⟨r', h1, h2, fun hx => ?_⟩, h3, h4⟩
  rcases h3 B hx with h | h
  · exact hn h
  · omega
theorem DropB (B : Nat) (k : ByteArray) (L : List (ByteArray × Int)) (F : List Nat) (w : World) (h : MapB w B L F) (sz : L.length < 144115188075855872) :
    Calls Try.prog 64 #[.pointer (some ⟨B, 0, none⟩), .string k] w fun e w' => e = .returned (.bool (hasL k L)) ∧ Turned B F (delL k L) w w' := by
  obtain ⟨r, hB, hM, hn⟩ := h
  refine (Drop B 0 _ _ k r L F w hB rfl rfl hM hn sz).mono ?_
  rintro e w' ⟨r', F', rfl, h1, h2, h3, h4⟩
  exact ⟨rfl, F', ⟨r', h1, h2, fun hx => hn (h3 B hx)⟩, fun x hx => .inl (h3 x hx), h4⟩
theorem GetB (B : Nat) (k : ByteArray) (L : List (ByteArray × Int)) (F : List Nat) (w : World) (h : MapB w B L F) :
    Calls Try.prog 74 #[.pointer (some ⟨B, 0, none⟩), .string k] w (GetPost k L w) := by
  obtain ⟨r, hB, hM, hn⟩ := h
  exact Get_map k B 0 r L F w hM (cell_of_block hB 0)
theorem LenB (B : Nat) (L : List (ByteArray × Int)) (F : List Nat) (w : World) (h : MapB w B L F) :
    Calls Try.prog 87 #[.pointer (some ⟨B, 0, none⟩)] w fun e w' => e = .returned (.int .i64 L.length) ∧ w = w' := by
  obtain ⟨r, hB, hM, hn⟩ := h
  exact Len B 0 _ w (cell_of_block hB 1)
end AvlSI
end Go.Proofs.Ytkhhdadlpilbmaa
