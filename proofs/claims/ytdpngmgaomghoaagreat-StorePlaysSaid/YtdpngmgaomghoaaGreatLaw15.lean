/- Layer 15's statements: what must come, whatever the arguments are. -/
import Derived.Test.YtdpngmgaomghoaaGreatCS
import Derived.Test.YtdpngmgaomghoaaGreatAvlSD2
namespace Go.Proofs.YtdpngmgaomghoaaGreat
open Go.RowKit
theorem Bk.below {w w' : World} {B : Nat} {c : Array Value} {t : TypeId} (h : Bk w B c t) (hb : Below w.heap.size w w') : Bk w' B c t := h.fr (Fr.of_below' hb (fun _ => False)) (fun _ _ h => h)
namespace Law15
open KeyP PackP SetP SetW SetF Delta Comp
attribute [local go_sem] Eng.ev Eng.getO_cons Eng.getO_nil
instance (n : Int) : Decidable (in64 n) := by unfold in64; infer_instance
end Law15
end Go.Proofs.YtdpngmgaomghoaaGreat
