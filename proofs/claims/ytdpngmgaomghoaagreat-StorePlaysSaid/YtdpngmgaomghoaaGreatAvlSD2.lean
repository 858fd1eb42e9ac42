/- The maps in order (avl) at one instance: giving the keys to a loop's body. -/
import Derived.Test.YtdpngmgaomghoaaGreatTrees
import Derived.Test.YtdpngmgaomghoaaGreatRngs
import Derived.Test.YtdpngmgaomghoaaGreatEngs
import Derived.Test.YtdpngmgaomghoaaGreatProg
import Derived.StillTailTactics
import Derived.Lib.Hide
import Derived.WalkSpells
import Derived.WalkLawsBesides
import Derived.Deep.DeepCutAuto
import Derived.Shelf.Abstract
import Derived.OwnWalkIn
import Derived.Sort.QuietIn
namespace Go.Proofs.YtdpngmgaomghoaaGreat
open Tryz
open Go.RowKit Go.Shelf
attribute [local go_sem] Oper.semAt_some
namespace AvlSD
abbrev encs (x : ByteArray × Sd) : Array Value := #[.string x.1, .agg #[.bool x.2.m, .pointer x.2.a, .pointer x.2.b]]
section
variable (l : Nat) (LL : List (ByteArray × Sd)) (FP : List Nat) (J Jx : List (ByteArray × Sd) → World → Prop)
 (hJd : ∀ pre W W', J pre W → W'.heap = W.heap → W'.os = W.os → W'.tape = W.tape → W'.output = W.output → J pre W')
 (hY : ∀ m pre x W, J pre W → pre ++ [x] <+: LL → YieldAt Fence.wide m prog l (encs x) W fun e W' =>
  (e = .returned (.bool true) ∧ J (pre ++ [x]) W' ∧ Kept FP W W') ∨ (e = .returned (.bool false) ∧ Jx (pre ++ [x]) W'))
include hJd hY
end
end AvlSD
end Go.Proofs.YtdpngmgaomghoaaGreat
