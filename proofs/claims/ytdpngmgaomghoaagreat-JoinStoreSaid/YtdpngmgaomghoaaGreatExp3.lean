/- What is past: what ends below a time. -/
import Derived.Test.YtdpngmgaomghoaaGreatExp
import Derived.Test.YtdpngmgaomghoaaGreatRngs
import Derived.Deep.CutBlock
import Derived.Shelf.Abstract
import Derived.RangeFuncCalls
import Derived.RangeFuncBound
import Derived.RangeFuncLeaves
import Derived.TacticsInMore
import Derived.Sort.AtCallIn
import Derived.Maps.OwnIn
namespace Go.Proofs.YtdpngmgaomghoaaGreat
open Go.RowKit Go.Shelf
attribute [local go_sem] Oper.semAt_some
namespace Exp
open KeyP ExpP
end Exp
end Go.Proofs.YtdpngmgaomghoaaGreat
