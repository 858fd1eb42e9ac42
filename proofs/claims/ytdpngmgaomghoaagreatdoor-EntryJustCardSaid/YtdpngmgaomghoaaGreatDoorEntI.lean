/- Lists in order, plain: where one comes in. No program is named. -/
import Derived.Test.YtdpngmgaomghoaaGreatDoorEntQ
namespace Go.Proofs.YtdpngmgaomghoaaGreatDoor
open Go.RowKit
namespace EntP
section
variable {α β:Type}
end
end EntP
end Go.Proofs.YtdpngmgaomghoaaGreatDoor
