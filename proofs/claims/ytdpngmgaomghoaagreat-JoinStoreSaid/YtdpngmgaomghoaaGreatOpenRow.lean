/- Facts on the loaded program that every row asks for. -/
import Derived.Test.YtdpngmgaomghoaaGreatOpen
import Derived.Test.YtdpngmgaomghoaaGreatChecked
import Derived.ProofKit
import Derived.ChangeOld
namespace Go.Proofs.YtdpngmgaomghoaaGreat
open Go.ChangeShapes Go.WideShapes Go.ChangeAt Go.RowKit Go.Deep
theorem own : ownKnob Tryz.prog.godebug = none := by kernel_rfl
theorem laidOut : laidOutB Tryz.prog = true := by kernel_rfl
end Go.Proofs.YtdpngmgaomghoaaGreat
