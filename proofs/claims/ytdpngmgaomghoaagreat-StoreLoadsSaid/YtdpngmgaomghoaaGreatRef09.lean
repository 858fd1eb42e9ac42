/- A record's bytes: the document's. -/
import Derived.Test.YtdpngmgaomghoaaGreatCodes
import Derived.Test.YtdpngmgaomghoaaGreatEngs
namespace Go.Proofs.YtdpngmgaomghoaaGreat
open Go.RowKit
namespace Ref09
open KeyP PackP Vari SetW Pack Name Code_
attribute [local go_sem] Eng.ev Eng.getO_cons Eng.getO_nil
theorem Sl.many (w : World) (t : TypeId) (cs : List Value) (sz n : Nat) (hn : n ≤ 1000000) (hs : cs.length = n * sz) : Sl (w.alloc (.cells cs.toArray t)) sz (some ⟨w.heap.size, 0, none⟩) n n cs := by
 refine ⟨by omega, Nat.le_refl _, by unfold maxLen; omega, (by simp), fun _ => ⟨_, 0, rfl, fun i u hu => ?_⟩⟩
 rw [Nat.zero_add, cell_of_block (heap_new w _)]
 simpa using hu
end Ref09
end Go.Proofs.YtdpngmgaomghoaaGreat
