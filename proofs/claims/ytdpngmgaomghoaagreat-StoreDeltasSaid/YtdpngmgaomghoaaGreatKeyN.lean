/- Keys: how many blocks their functions lay. -/
import Derived.Test.YtdpngmgaomghoaaGreatKey
namespace Go.Proofs.YtdpngmgaomghoaaGreat
open Go.RowKit
namespace Key
open KeyP
end Key
end Go.Proofs.YtdpngmgaomghoaaGreat
