/- Facts on the loaded program that every row asks for. -/
import Derived.Test.YtgfjpnpbkkadpaaOpen
import Derived.Test.YtgfjpnpbkkadpaaChecked
import Derived.ProofKit
import Derived.ChangeOld
namespace Go.Proofs.Ytgfjpnpbkkadpaa
open Go.ChangeShapes Go.WideShapes Go.ChangeAt Go.RowKit Go.Deep
theorem own : ownKnob Try.prog.godebug = none := by kernel_rfl
theorem laidOut : laidOutB Try.prog = true := by kernel_rfl
theorem cellsI : Try.prog.cellsOf 3 = 1 := by kernel_rfl
end Go.Proofs.Ytgfjpnpbkkadpaa
