/- The maps in order (avl) at one instance: Keys. -/
import Derived.Test.YtkhhdadlpilbmaaAvlISE
import Derived.RangeFuncBox
import Derived.Maps.AppendAt
namespace Go.Proofs.Ytkhhdadlpilbmaa
open Go.RowKit Go.Shelf
attribute [local go_sem] Oper.semAt_some
namespace AvlSE

theorem infoK : (Try.prog.info? 9).map (fun i => (i.zero, i.size, i.bytes)) = some (some (.string ByteArray.empty), 1, 16) := by kernel_rfl

end AvlSE
end Go.Proofs.Ytkhhdadlpilbmaa
