/- The maps in order (avl) at one instance: a map that lies in a block of its own. -/
import Derived.Test.YtolpdgaomlhgdaaAvlJII
import Derived.Test.YtolpdgaomlhgdaaLst
namespace Go.Proofs.Ytolpdgaomlhgdaa
open Go.RowKit
namespace AvlII

/-- Block B is a map with the pairs L, in the blocks F. -/
def MapB (w : World) (B : Nat) (L : List (Int × Int)) (F : List Nat) : Prop :=
  ∃ r, w.heap[B]? = some (.cells #[.pointer r, .int .i64 L.length] 51 (0, 0)) ∧ MapIn w r L F ∧ B ∉ F
theorem MapB.fr {S : Nat → Prop} {w w' : World} {B : Nat} {L : List (Int × Int)} {F : List Nat} (h : MapB w B L F) (hf : Fr S w w') (h1 : ¬ S B) (hs : ∀ b ∈ F, ¬ S b) : MapB w' B L F := by
  obtain ⟨r, hB, hM, hn⟩ := h
  exact ⟨r, (hf.block B (lt_of_heap hB) h1).trans hB, hM.fr hf hs, hn⟩
theorem MapB.mapP {w : World} {B : Nat} {L : List (Int × Int)} {F : List Nat} (h : MapB w B L F) : MapP w (some ⟨B, 0, none⟩) L F := by
  obtain ⟨r, hB, hM, hn⟩ := h
  exact .inr ⟨B, 0, r, rfl, cell_of_block hB 0, hM⟩
theorem MapB.lt {w : World} {B : Nat} {L : List (Int × Int)} {F : List Nat} (h : MapB w B L F) : B < w.heap.size ∧ ∀ b ∈ F, b < w.heap.size := by
  obtain ⟨r, hB, hM, hn⟩ := h
  exact ⟨lt_of_heap hB, hM.lt⟩
theorem MapB.srt {w : World} {B : Nat} {L : List (Int × Int)} {F : List Nat} (h : MapB w B L F) : Srt L := by
  obtain ⟨r, hB, hM, hn⟩ := h
  exact hM.srt
theorem MapB.new (w : World) : MapB (w.alloc (.cells #[.pointer none, .int .i64 0] 51 (0, 0))) w.heap.size [] [] :=
  ⟨none, heap_new _ _, MapIn.nil _, by simp⟩

/-- A map in block B has become another one. -/
def Turned (B : Nat) (F : List Nat) (L' : List (Int × Int)) (w w' : World) : Prop :=
  ∃ F', MapB w' B L' F' ∧ (∀ x ∈ F', x ∈ F ∨ w.heap.size ≤ x) ∧ Fr (fun x => x = B ∨ x ∈ F) w w'

theorem PutB (B : Nat) (k : Int) (v : Int) (L : List (Int × Int)) (F : List Nat) (w : World) (h : MapB w B L F) (sz : L.length < 144115188075855872) :
    Calls Try.prog 31 #[.pointer (some ⟨B, 0, none⟩), .int .i64 k, .int .i64 v] w fun e w' => e = .returned (.bool (!hasL k L)) ∧ Turned B F (insL k v L) w w' := by
  have hlt := h.lt
  obtain ⟨r, hB, hM, hn⟩ := h
  refine (Put B 0 _ _ k v r L F w hB rfl rfl hM hn sz).mono ?_
  rintro e w' ⟨r', F', rfl, h1, h2, h3, h4⟩
  refine ⟨rfl, F', ⟨r', h1, h2, fun hx => ?_⟩, h3, h4⟩
  rcases h3 B hx with h | h
  · exact hn h
  · omega
theorem DropB (B : Nat) (k : Int) (L : List (Int × Int)) (F : List Nat) (w : World) (h : MapB w B L F) (sz : L.length < 144115188075855872) :
    Calls Try.prog 33 #[.pointer (some ⟨B, 0, none⟩), .int .i64 k] w fun e w' => e = .returned (.bool (hasL k L)) ∧ Turned B F (delL k L) w w' := by
  obtain ⟨r, hB, hM, hn⟩ := h
  refine (Drop B 0 _ _ k r L F w hB rfl rfl hM hn sz).mono ?_
  rintro e w' ⟨r', F', rfl, h1, h2, h3, h4⟩
  exact ⟨rfl, F', ⟨r', h1, h2, fun hx => hn (h3 B hx)⟩, fun x hx => .inl (h3 x hx), h4⟩
theorem GetB (B : Nat) (k : Int) (L : List (Int × Int)) (F : List Nat) (w : World) (h : MapB w B L F) :
    Calls Try.prog 35 #[.pointer (some ⟨B, 0, none⟩), .int .i64 k] w (GetPost k L w) := by
  obtain ⟨r, hB, hM, hn⟩ := h
  exact Get_map k B 0 r L F w hM (cell_of_block hB 0)
theorem LenB (B : Nat) (L : List (Int × Int)) (F : List Nat) (w : World) (h : MapB w B L F) :
    Calls Try.prog 38 #[.pointer (some ⟨B, 0, none⟩)] w fun e w' => e = .returned (.int .i64 L.length) ∧ w = w' := by
  obtain ⟨r, hB, hM, hn⟩ := h
  exact Len B 0 _ w (cell_of_block hB 1)
theorem LastB (B : Nat) (L : List (Int × Int)) (F : List Nat) (w : World) (h : MapB w B L F) :
    Calls Try.prog 37 #[.pointer (some ⟨B, 0, none⟩)] w (LastPost L w) := by
  obtain ⟨t, rfl, -, hI, ht⟩ := h.mapP.top
  exact Last _ t w hI ht
theorem Last_none (w : World) : Calls Try.prog 37 #[.pointer none] w (LastPost ([] : List (Int × Int)) w) := Last _ .nil w trivial (top_none w)
theorem KeysB (B : Nat) (L : List (Int × Int)) (F : List Nat) (w : World) (h : MapB w B L F) (hlen : L.length ≤ 1000000000000) :
    Calls Try.prog 39 #[.pointer (some ⟨B, 0, none⟩)] w fun e W' => ∃ v, e = .returned v ∧ W'.ownsRow w.heap.size 3 1 v L.length (L.map (fun x => .int .i64 x.1)) ∧ Below w.heap.size w W' :=
  Keys _ L F w h.mapP h.lt.2 hlen
theorem Keys_none (w : World) : Calls Try.prog 39 #[.pointer none] w fun e W' => ∃ v, e = .returned v ∧ W'.ownsRow w.heap.size 3 1 v 0 [] ∧ Below w.heap.size w W' :=
  Keys none [] [] w (.inl ⟨rfl, rfl, rfl⟩) (by simp) (by simp)
/-- How deep a map is. -/
theorem DepthB (B : Nat) (L : List (Int × Int)) (F : List Nat) (w : World) (h : MapB w B L F) : ∃ d : Nat, (lst d).1 ≤ L.length ∧ L.length < 2 ^ d ∧ d ≤ L.length ∧
    ∀ w', MapB w' B L F → (∀ x ∈ F, w'.heap[x]? = w.heap[x]?) → w'.heap[B]? = w.heap[B]? → Calls Try.prog 42 #[.pointer (some ⟨B, 0, none⟩)] w' fun e w'' => e = .returned (.int .i64 d) ∧ w' = w'' := by
  obtain ⟨r, hB, ⟨t, rfl, rfl, rfl, hI, nd, wd, bal, hs⟩, hn⟩ := h
  have h1 := lst_size wd bal
  have h2 := wd.dep_le
  have h3 := wd.dep0
  refine ⟨t.dep.toNat, by rw [AT.toL_length]; exact h1.1, by rw [AT.toL_length]; exact h1.2, by rw [AT.toL_length]; omega, fun w' _ hF hB' => ?_⟩
  have hI' : In w' t := In.kept (S := t.fp) hI (fun b hb => hF b hb) (fun _ h => h)
  have := Depth (some ⟨B, 0, none⟩) t w' hI' (top _ _ w' rfl (cell_of_block (hB'.trans hB) 0))
  rwa [show (t.dep.toNat : Int) = t.dep by omega]
theorem Depth_none (w : World) : Calls Try.prog 42 #[.pointer none] w fun e w' => e = .returned (.int .i64 0) ∧ w = w' := Depth none .nil w trivial (top_none w)

end AvlII
end Go.Proofs.Ytolpdgaomlhgdaa
