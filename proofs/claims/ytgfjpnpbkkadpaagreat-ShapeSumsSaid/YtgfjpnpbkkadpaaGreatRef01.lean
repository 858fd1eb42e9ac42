/- The document's answer for layer 1, as far as it is used: lists that are the same. -/
import Derived.Test.YtgfjpnpbkkadpaaGreatBase
import Derived.Test.YtgfjpnpbkkadpaaGreatProg
import Derived.Deep.LoopGhost
import Derived.Deep.QuietTactic
import Derived.BigQuiet
import Derived.Outline
import Derived.Lib.Hide
import Derived.WalkSpells
import Derived.WalkLawsBesides
namespace Go.Proofs.YtgfjpnpbkkadpaaGreat
open Go.RowKit


end Go.Proofs.YtgfjpnpbkkadpaaGreat
