/- A store, and the document's store beside it. -/
import Derived.Test.YtdpngmgaomghoaaGreatR18
namespace Go.Proofs.YtdpngmgaomghoaaGreat
open Go.RowKit
namespace Ref18
open Name KeyP PackP SetP SetW SetF Delta Sto Law18
structure AR (w0 w : World) (B : Nat) (f : Cf) (L : List Sn) (F : List Nat) (R : Nat) (g : Cf) (M : List Sn) (A : Option Addr) (c : Nat) (D : List (Nat × Array Value × TypeId)) (K : List (Option Addr × Nat × List Sn)) : Prop where
 z : AZ w0 w B f L F D K
 r : RS w R g M A c
 n : R ∉ F
 m : M ≠ [] → ∀ a, A = some a → a.block ∉ F
 b : w0.heap.size ≤ R
 d : ∀ p ∈ D, p.1 ≠ R
section
variable {w0 w w' : World} {B : Nat} {f f' : Cf} {L L' : List Sn} {F F' : List Nat} {R : Nat} {g g' : Cf} {M M' : List Sn} {A A' : Option Addr} {c c' : Nat} {D : List (Nat × Array Value × TypeId)} {K : List (Option Addr × Nat × List Sn)}
theorem AR.below (h : AR w0 w B f L F R g M A c D K) (hb : Below w.heap.size w w') : AR w0 w' B f L F R g M A c D K := ⟨h.z.below hb, h.r.below hb, h.n, h.m, h.b, h.d⟩
theorem AR.fr (h : AR w0 w B f L F R g M A c D K) (hf : Fr (fun _ => False) w w') : AR w0 w' B f L F R g M A c D K := h.below (hf.below (Nat.le_refl _) (fun _ _ h => h))
end
end Ref18
end Go.Proofs.YtdpngmgaomghoaaGreat
