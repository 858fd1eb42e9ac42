/- The document's answer for layer 1, as far as it is used: lists that are the same. -/
import Derived.Test.YtdpngmgaomghoaaGreatBase
import Derived.Test.YtdpngmgaomghoaaGreatProg
import Derived.Deep.LoopGhost
import Derived.BigQuiet
import Derived.Lib.Hide
import Derived.WalkSpells
import Derived.WalkLawsBesides
namespace Go.Proofs.YtdpngmgaomghoaaGreat
open Go.RowKit
abbrev ints (l:List Int):List Value:=l.map (Value.int .i64)
end Go.Proofs.YtdpngmgaomghoaaGreat
