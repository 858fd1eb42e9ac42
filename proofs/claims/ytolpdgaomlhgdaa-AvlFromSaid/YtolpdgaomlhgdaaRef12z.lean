/- The document's answer for layer 12: a map as an object among others. -/
import Derived.Test.YtolpdgaomlhgdaaRef12c
import Derived.Test.YtolpdgaomlhgdaaZone
namespace Go.Proofs.Ytolpdgaomlhgdaa
open Go.RowKit
namespace Ref12
abbrev TMap : TypeId := 56
abbrev RM (w : World) (B : Nat) (L : List (Int × Int)) (F : List Nat) : Prop := SB w B TMap 2 pc L F
theorem RM.turn {w w' : World} {B : Nat} {L L' : List (Int × Int)} {F : List Nat} {A' : Option Addr} {c' : Nat} (h : RM w B L F)
    (h1 : w'.heap[B]? = some (.cells #[.slice A' L'.length c'] 56 (0, 0))) (h2 : Sl w' 2 A' L'.length c' (pcells L')) (h3 : ∀ a, A' = some a → w.heap.size ≤ a.block ∧ a.block < w'.heap.size) (hf : Fr (· = B) w w') :
    ∃ F', RM w' B L' F' ∧ Tn F F' w w' := by
  obtain ⟨A, c, hB, hS, rfl, hA⟩ := h
  have hlt := lt_of_heap hB
  refine ⟨B :: ablk A', ⟨A', c', h1, h2, rfl, fun a ha => ⟨by have := (h3 a ha).1; omega, (h3 a ha).2⟩⟩, hf.mono (fun i _ e => by simp [e]), fun x hx => ?_⟩
  rcases List.mem_cons.1 hx with rfl | hx
  · exact ⟨.inl (by simp), lt_of_heap h1⟩
  · obtain ⟨a, ha, rfl⟩ := mem_ablk.1 hx
    exact ⟨.inr (h3 a ha).1, (h3 a ha).2⟩
theorem PutZ (B : Nat) (k v : Int) (L : List (Int × Int)) (F : List Nat) (w : World) (h : RM w B L F) (hs : Srt L) (hlen : L.length ≤ 1000000) :
    Calls Try.prog 32 #[.pointer (some ⟨B, 0, none⟩), .int .i64 k, .int .i64 v] w fun e w' => e = .returned (.bool (!hasL k L)) ∧ ∃ F', RM w' B (insL k v L) F' ∧ Tn F F' w w' := by
  obtain ⟨A, c, hB, hS, hF, hA⟩ := id h
  refine (Put B A c k v L w hB hS (fun a ha => (hA a ha).2) hs hlen).mono ?_
  rintro e w' ⟨A', c', rfl, h1, h2, h3, h4⟩
  exact ⟨rfl, h.turn h1 h2 h3 h4⟩
theorem DropZ (B : Nat) (k : Int) (L : List (Int × Int)) (F : List Nat) (w : World) (h : RM w B L F) (hlen : L.length ≤ 1000000) :
    Calls Try.prog 34 #[.pointer (some ⟨B, 0, none⟩), .int .i64 k] w fun e w' => e = .returned (.bool (hasL k L)) ∧ ∃ F', RM w' B (delL k L) F' ∧ Tn F F' w w' := by
  obtain ⟨A, c, hB, hS, hF, hA⟩ := id h
  refine (Drop B A c k L w hB hS (fun a ha => (hA a ha).2) hlen).mono ?_
  rintro e w' ⟨A', c', rfl, h1, h2, h3, h4⟩
  exact ⟨rfl, h.turn h1 h2 h3 h4⟩
end Ref12
end Go.Proofs.Ytolpdgaomlhgdaa
