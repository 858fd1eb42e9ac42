/- Facts on the loaded program that every row asks for. -/
import Derived.Test.YtgfjpnpbkkadpaaGreatOpen
import Derived.Test.YtgfjpnpbkkadpaaGreatChecked
import Derived.ProofKit
import Derived.ChangeOld
namespace Go.Proofs.YtgfjpnpbkkadpaaGreat
open Go.ChangeShapes Go.WideShapes Go.ChangeAt Go.RowKit Go.Deep
theorem own : ownKnob Tryz.prog.godebug = none := by kernel_rfl
theorem laidOut : laidOutB Tryz.prog = true := by kernel_rfl
theorem cellsI : Tryz.prog.cellsOf 3 = 1 := by kernel_rfl
end Go.Proofs.YtgfjpnpbkkadpaaGreat
