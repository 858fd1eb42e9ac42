/- The document's index of what is past: dropping, putting, asking. -/
import Derived.Test.YtdpngmgaomghoaaGreatExpP
import Derived.Test.YtdpngmgaomghoaaGreatRngs
import Derived.Test.YtdpngmgaomghoaaGreatOpens
import Derived.Test.YtdpngmgaomghoaaGreatEngs
import Derived.RegionTactic
import Derived.Outline
import Derived.Lib.Hide
import Derived.WalkSpells
import Derived.WalkLawsBesides
import Derived.Deep.LoopGhost
import Derived.Deep.QuietTactic
import Derived.BigQuiet
import Derived.OwnWalk
import Derived.IntWalk
import Derived.Deep.DeepCutAuto
import Derived.Deep.CutBlock
namespace Go.Proofs.YtdpngmgaomghoaaGreat
open Go.RowKit
namespace Ref16
open KeyP ExpP
end Ref16
end Go.Proofs.YtdpngmgaomghoaaGreat
namespace Go.Proofs.YtdpngmgaomghoaaGreat
open Go.RowKit
namespace Ref16
open KeyP ExpP
attribute [local go_sem] Eng.ev Eng.getO_cons Eng.getO_nil
end Ref16
end Go.Proofs.YtdpngmgaomghoaaGreat
