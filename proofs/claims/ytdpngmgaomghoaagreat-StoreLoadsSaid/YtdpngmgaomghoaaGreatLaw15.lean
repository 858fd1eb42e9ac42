/- Layer 15's statements: what must come, whatever the arguments are. -/
import Derived.Test.YtdpngmgaomghoaaGreatCompPs
import Derived.Test.YtdpngmgaomghoaaGreatAvlSD2
import Derived.Test.YtdpngmgaomghoaaGreatRngs
import Derived.Test.YtdpngmgaomghoaaGreatTrees
import Derived.Test.YtdpngmgaomghoaaGreatEngs
import Derived.RangeFuncBox
import Derived.Maps.AppendAt
import Derived.Sort.CutIn
namespace Go.Proofs.YtdpngmgaomghoaaGreat
open Go.RowKit
namespace Law15
open KeyP PackP SetP SetW SetF Delta Comp
attribute [local go_sem] Eng.ev Eng.getO_cons Eng.getO_nil
instance (n : Int) : Decidable (in64 n) := by unfold in64; infer_instance
end Law15
end Go.Proofs.YtdpngmgaomghoaaGreat
