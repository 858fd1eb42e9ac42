/- Go's maps from int to int, as lists in order of their keys. -/
import Derived.Test.YtgfjpnpbkkadpaaGreatRngs
import Derived.Test.YtgfjpnpbkkadpaaGreatTrees
import Derived.Test.YtgfjpnpbkkadpaaGreatProg
import Derived.Maps.OwnOps
import Derived.Maps.OwnSet
namespace Go.Proofs.YtgfjpnpbkkadpaaGreat
open Go.RowKit

abbrev wfI (k : Int) : Prop := (Lit.int .i64 k).wf = true

theorem keyI {k : Int} (h : wfI k) : keyOf Tryz.prog 3 (.int .i64 k) = some (.int .i64 k) := Maps.keyOf_int_mk Tryz.underlying3 h
theorem zeroI (w : World) : (zeroValue 3).run Tryz.prog w = .ok (.int .i64 0) w := by kernel_rfl
section
variable {T : TypeId} (hT : Tryz.prog.underlying T = some (.map 3 3))
include hT
end
end Go.Proofs.YtgfjpnpbkkadpaaGreat
