/- Layer 48's statements: the document's functions at what they give. -/
import Derived.Test.YtmcghchhegfilaaLaw48b
import Derived.Test.YtmcghchhegfilaaDigR
namespace Go.Proofs.Ytmcghchhegfilaa
open Go.RowKit
namespace Law48
open KeyP PackP SetP SetW SetF Code_ Rank DigW
attribute [local go_sem] Eng.ev Eng.getO_cons Eng.getO_nil
theorem RefOfE {A : Option Addr} {c : Nat} {L : List Sn} {w : World} (hS : Ls w A c L) (hlen : L.length ≤ 1000) (f : Nat → Int) (hf : dgI (setOf L) = f) :
    Calls Try.prog 15 #[.slice A L.length c] w fun e w' => e = .returned (dv f) ∧ Below w.heap.size w w' := hf ▸ RefOf A c L w hS hlen
theorem RefDifferE (f g : Nat → Int) (D : List Int) (hD : dto f g 16 = D) (w : World) : Calls Try.prog 18 #[dv f, dv g] w (InPost D w) := hD ▸ RefDiffer f g w
theorem RefPickE {A0 : Option Addr} {c0 : Nat} {l : List Int} {A : Option Addr} {c : Nat} {L : List Sn} {w : World} (hl : Il w A0 c0 l) (hS : Ls w A c L) (hlen : L.length ≤ 1000000) (X : List Sn) (hX : Dig.pick l (setOf L) = X) :
    Calls Try.prog 21 #[.slice A0 l.length c0, .slice A L.length c] w (LsPost X w) := RefPick A0 c0 l A c L w hl hS hlen X hX
end Law48
end Go.Proofs.Ytmcghchhegfilaa
