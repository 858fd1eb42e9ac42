/- Buckets, histograms and ranks, plain. No program is named. -/
import Derived.Test.YtdpngmgaomghoaaGreatDoorKB
namespace Go.Proofs.YtdpngmgaomghoaaGreatDoor
namespace HistP
open BagP
abbrev HS:=List (Int × Int) × (Int × Int)
end HistP
end Go.Proofs.YtdpngmgaomghoaaGreatDoor
