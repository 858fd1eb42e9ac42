/- What a delta says of a key, as a value. -/
import Derived.Test.YtdpngmgaomghoaaGreatBase
namespace Go.Proofs.YtdpngmgaomghoaaGreat
structure Sd where
 m : Bool
 a : Option Addr
 b : Option Addr
end Go.Proofs.YtdpngmgaomghoaaGreat
