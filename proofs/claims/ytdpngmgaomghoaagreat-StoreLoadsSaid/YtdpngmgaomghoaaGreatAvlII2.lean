/- The maps in order (avl) at one instance: giving the keys to a loop's body. -/
import Derived.Test.YtdpngmgaomghoaaGreatTrees
import Derived.Test.YtdpngmgaomghoaaGreatProg
import Derived.RegionTactic
import Derived.ChangeAlike
import Derived.StillTailTactics
import Derived.Outline
import Derived.Lib.Hide
import Derived.WalkSpells
import Derived.WalkLawsBesides
import Derived.Deep.LoopGhost
import Derived.RangeFuncNested
import Derived.RangeFuncBound
import Derived.RangeFuncCalls
import Derived.RangeFuncLeaves
import Derived.Shelf.Abstract
import Derived.OwnWalkIn
import Derived.TacticsInMore
import Derived.Stop.RegionWithIn
import Derived.Sort.QuietIn
namespace Go.Proofs.YtdpngmgaomghoaaGreat
open Go.RowKit Go.Shelf
attribute [local go_sem] Oper.semAt_some
namespace AvlII
abbrev encs (x : Int × Int) : Array Value := #[.int .i64 x.1, .int .i64 x.2]
section
variable (l : Nat) (LL : List (Int × Int)) (FP : List Nat) (J Jx : List (Int × Int) → World → Prop)
 (hJd : ∀ pre W W', J pre W → W'.heap = W.heap → W'.os = W.os → W'.tape = W.tape → W'.output = W.output → J pre W')
 (hY : ∀ m pre x W, J pre W → pre ++ [x] <+: LL → YieldAt Fence.wide m Tryz.prog l (encs x) W fun e W' =>
  (e = .returned (.bool true) ∧ J (pre ++ [x]) W' ∧ Kept FP W W') ∨ (e = .returned (.bool false) ∧ Jx (pre ++ [x]) W'))
include hJd hY
end
end AvlII
end Go.Proofs.YtdpngmgaomghoaaGreat
