/- The document's answer for layer 1, as far as it is used: lists that are the same. -/
import Derived.Test.YtgfjpnpbkkadpaaGreatSl
import Derived.Test.YtgfjpnpbkkadpaaGreatProg
import Derived.Deep.LoopGhost
import Derived.Deep.QuietTactic
import Derived.BigQuiet
import Derived.Outline
import Derived.Lib.Hide
import Derived.WalkSpells
import Derived.WalkLawsBesides
namespace Go.Proofs.YtgfjpnpbkkadpaaGreat
open Go.RowKit

abbrev ints (l : List Int) : List Value := l.map (Value.int .i64)
theorem ints_at {l : List Int} {k : Nat} (h : k < l.length) : (ints l)[k]? = some (.int .i64 l[k]) := by simp [h]

end Go.Proofs.YtgfjpnpbkkadpaaGreat
