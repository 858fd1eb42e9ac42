/-
  No cell of these rows narrows 'for every input' (looked for: loops, veiled, ifaces, maps, wideKeys, modest, calm, conditions, laid).
  DERIVED. THE GIVEN ROWS OF THIS SEAT. 13 by the template 'for every input the law returns true; each argument reads behind the call as it read before'; 0 by the template 'total and deterministic' (their statements: YtolpdgaomlhgdaaTotals.lean).
  GIVEN WITH THE SEED: the statements are not yours to turn. If you find one false, say at which input.
  Laid BY PROGRAM, IN A SANDBOX (cutbox-rows.mjs): the forced cells as the released guide's own fill.sh prints them over the translation d77d40ea64b9eb6f… (all of the seat's roots in one cut). By AI agents, Wed Nov 11 2026. No macro, syntax, notation, axiom, sorry.
-/
import Derived.Test.YtolpdgaomlhgdaaChecked
import GoSem.Claim
import GoSem.ClaimJoined
import GoSem.ClaimMapViews
import Derived.JoinedTies
import Derived.KernelRfl
namespace Go.Proofs.Ytolpdgaomlhgdaa
/- THE CELL 'sum', in the pinned program and in every row, IS THE sha256 OF THE DUMP (.gsa) THAT YtolpdgaomlhgdaaProg.lean LOADS. Nothing in Lean hashes anything: it is a label: what it is worth is what the hold of that sum in a sandbox is worth. -/
noncomputable def Try.pinned : Pinned := { name := "ytolpdgaomlhgdaa", sum := "d77d40ea64b9eb6f926ef164a33c4167ecd65ffa147b75cb7d6e34a69fd4dbcb", checked := Try.checked }
namespace Rows
def none {H : Type} : Left H := { results := [], args := [] }

/-- 'gossamerlaw17.QuotaPlays': WHATEVER THE INPUT: true; the input reads as it did. -/
def quotaPlaysSpec : ChangeSpec := { name := "quotaPlays", fn := fun _ => fun
  | [d1, d2, d3] => { results := [.lit (.bool true)], args := [d1, d2, d3] }
  | _ => none }
def quotaPlaysRow : OpenClaim := { program := "ytolpdgaomlhgdaa", sum := "d77d40ea64b9eb6f926ef164a33c4167ecd65ffa147b75cb7d6e34a69fd4dbcb", func := "gossamer/gossamerlaw17.QuotaPlays", spec := "quotaPlays", unfollowed := true, recurses := true, plainKeys := false, apart := false }
def QuotaPlaysSaid : Prop := quotaPlaysRow.holds Try.pinned (OpenSpec.ofChange quotaPlaysSpec)

/-- ITS FALSE NEIGHBOUR: 'it returns false'. Refute it at one input. -/
def quotaPlaysWrong : ChangeSpec := { name := "quotaPlays", fn := fun _ => fun
  | [d1, d2, d3] => { results := [.lit (.bool false)], args := [d1, d2, d3] }
  | _ => none }
def QuotaPlaysWrongFalsely : Prop := quotaPlaysRow.holds Try.pinned (OpenSpec.ofChange quotaPlaysWrong)

/-- 'gossamerlaw17.QuotaHolds': WHATEVER THE INPUT: true; the input reads as it did. -/
def quotaHoldsSpec : ChangeSpec := { name := "quotaHolds", fn := fun _ => fun
  | [d1, d2, d3] => { results := [.lit (.bool true)], args := [d1, d2, d3] }
  | _ => none }
def quotaHoldsRow : OpenClaim := { program := "ytolpdgaomlhgdaa", sum := "d77d40ea64b9eb6f926ef164a33c4167ecd65ffa147b75cb7d6e34a69fd4dbcb", func := "gossamer/gossamerlaw17.QuotaHolds", spec := "quotaHolds", unfollowed := true, recurses := true, plainKeys := false, apart := false }
def QuotaHoldsSaid : Prop := quotaHoldsRow.holds Try.pinned (OpenSpec.ofChange quotaHoldsSpec)

/-- ITS FALSE NEIGHBOUR: 'it returns false'. Refute it at one input. -/
def quotaHoldsWrong : ChangeSpec := { name := "quotaHolds", fn := fun _ => fun
  | [d1, d2, d3] => { results := [.lit (.bool false)], args := [d1, d2, d3] }
  | _ => none }
def QuotaHoldsWrongFalsely : Prop := quotaHoldsRow.holds Try.pinned (OpenSpec.ofChange quotaHoldsWrong)

/-- 'gossamerlaw12.AvlPlays': WHATEVER THE INPUT: true; the input reads as it did. -/
def avlPlaysSpec : ChangeSpec := { name := "avlPlays", fn := fun _ => fun
  | [d] => { results := [.lit (.bool true)], args := [d] }
  | _ => none }
def avlPlaysRow : OpenClaim := { program := "ytolpdgaomlhgdaa", sum := "d77d40ea64b9eb6f926ef164a33c4167ecd65ffa147b75cb7d6e34a69fd4dbcb", func := "gossamer/gossamerlaw12.AvlPlays", spec := "avlPlays", unfollowed := true, recurses := true, plainKeys := false, apart := false }
def AvlPlaysSaid : Prop := avlPlaysRow.holds Try.pinned (OpenSpec.ofChange avlPlaysSpec)

/-- ITS FALSE NEIGHBOUR: 'it returns false'. Refute it at one input. -/
def avlPlaysWrong : ChangeSpec := { name := "avlPlays", fn := fun _ => fun
  | [d] => { results := [.lit (.bool false)], args := [d] }
  | _ => none }
def AvlPlaysWrongFalsely : Prop := avlPlaysRow.holds Try.pinned (OpenSpec.ofChange avlPlaysWrong)

/-- 'gossamerlaw12.AvlAll': WHATEVER THE INPUT: true; the input reads as it did. -/
def avlAllSpec : ChangeSpec := { name := "avlAll", fn := fun _ => fun
  | [d] => { results := [.lit (.bool true)], args := [d] }
  | _ => none }
def avlAllRow : OpenClaim := { program := "ytolpdgaomlhgdaa", sum := "d77d40ea64b9eb6f926ef164a33c4167ecd65ffa147b75cb7d6e34a69fd4dbcb", func := "gossamer/gossamerlaw12.AvlAll", spec := "avlAll", unfollowed := true, recurses := true, plainKeys := false, apart := false }
def AvlAllSaid : Prop := avlAllRow.holds Try.pinned (OpenSpec.ofChange avlAllSpec)

/-- ITS FALSE NEIGHBOUR: 'it returns false'. Refute it at one input. -/
def avlAllWrong : ChangeSpec := { name := "avlAll", fn := fun _ => fun
  | [d] => { results := [.lit (.bool false)], args := [d] }
  | _ => none }
def AvlAllWrongFalsely : Prop := avlAllRow.holds Try.pinned (OpenSpec.ofChange avlAllWrong)

/-- 'gossamerlaw12.AvlFrom': WHATEVER THE INPUT: true; the input reads as it did. -/
def avlFromSpec : ChangeSpec := { name := "avlFrom", fn := fun _ => fun
  | [d1, d2, d3] => { results := [.lit (.bool true)], args := [d1, d2, d3] }
  | _ => none }
def avlFromRow : OpenClaim := { program := "ytolpdgaomlhgdaa", sum := "d77d40ea64b9eb6f926ef164a33c4167ecd65ffa147b75cb7d6e34a69fd4dbcb", func := "gossamer/gossamerlaw12.AvlFrom", spec := "avlFrom", unfollowed := true, recurses := true, plainKeys := false, apart := false }
def AvlFromSaid : Prop := avlFromRow.holds Try.pinned (OpenSpec.ofChange avlFromSpec)

/-- ITS FALSE NEIGHBOUR: 'it returns false'. Refute it at one input. -/
def avlFromWrong : ChangeSpec := { name := "avlFrom", fn := fun _ => fun
  | [d1, d2, d3] => { results := [.lit (.bool false)], args := [d1, d2, d3] }
  | _ => none }
def AvlFromWrongFalsely : Prop := avlFromRow.holds Try.pinned (OpenSpec.ofChange avlFromWrong)

/-- 'gossamerlaw13.BagPlays': WHATEVER THE INPUT: true; the input reads as it did. -/
def bagPlaysSpec : ChangeSpec := { name := "bagPlays", fn := fun _ => fun
  | [d] => { results := [.lit (.bool true)], args := [d] }
  | _ => none }
def bagPlaysRow : OpenClaim := { program := "ytolpdgaomlhgdaa", sum := "d77d40ea64b9eb6f926ef164a33c4167ecd65ffa147b75cb7d6e34a69fd4dbcb", func := "gossamer/gossamerlaw13.BagPlays", spec := "bagPlays", unfollowed := true, recurses := true, plainKeys := false, apart := false }
def BagPlaysSaid : Prop := bagPlaysRow.holds Try.pinned (OpenSpec.ofChange bagPlaysSpec)

/-- ITS FALSE NEIGHBOUR: 'it returns false'. Refute it at one input. -/
def bagPlaysWrong : ChangeSpec := { name := "bagPlays", fn := fun _ => fun
  | [d] => { results := [.lit (.bool false)], args := [d] }
  | _ => none }
def BagPlaysWrongFalsely : Prop := bagPlaysRow.holds Try.pinned (OpenSpec.ofChange bagPlaysWrong)

/-- 'gossamerlaw13.BagSums': WHATEVER THE INPUT: true; the input reads as it did. -/
def bagSumsSpec : ChangeSpec := { name := "bagSums", fn := fun _ => fun
  | [d1, d2, d3] => { results := [.lit (.bool true)], args := [d1, d2, d3] }
  | _ => none }
def bagSumsRow : OpenClaim := { program := "ytolpdgaomlhgdaa", sum := "d77d40ea64b9eb6f926ef164a33c4167ecd65ffa147b75cb7d6e34a69fd4dbcb", func := "gossamer/gossamerlaw13.BagSums", spec := "bagSums", unfollowed := true, recurses := true, plainKeys := false, apart := false }
def BagSumsSaid : Prop := bagSumsRow.holds Try.pinned (OpenSpec.ofChange bagSumsSpec)

/-- ITS FALSE NEIGHBOUR: 'it returns false'. Refute it at one input. -/
def bagSumsWrong : ChangeSpec := { name := "bagSums", fn := fun _ => fun
  | [d1, d2, d3] => { results := [.lit (.bool false)], args := [d1, d2, d3] }
  | _ => none }
def BagSumsWrongFalsely : Prop := bagSumsRow.holds Try.pinned (OpenSpec.ofChange bagSumsWrong)

/-- 'gossamerlaw13.BagAll': WHATEVER THE INPUT: true; the input reads as it did. -/
def bagAllSpec : ChangeSpec := { name := "bagAll", fn := fun _ => fun
  | [d1, d2] => { results := [.lit (.bool true)], args := [d1, d2] }
  | _ => none }
def bagAllRow : OpenClaim := { program := "ytolpdgaomlhgdaa", sum := "d77d40ea64b9eb6f926ef164a33c4167ecd65ffa147b75cb7d6e34a69fd4dbcb", func := "gossamer/gossamerlaw13.BagAll", spec := "bagAll", unfollowed := true, recurses := true, plainKeys := false, apart := false }
def BagAllSaid : Prop := bagAllRow.holds Try.pinned (OpenSpec.ofChange bagAllSpec)

/-- ITS FALSE NEIGHBOUR: 'it returns false'. Refute it at one input. -/
def bagAllWrong : ChangeSpec := { name := "bagAll", fn := fun _ => fun
  | [d1, d2] => { results := [.lit (.bool false)], args := [d1, d2] }
  | _ => none }
def BagAllWrongFalsely : Prop := bagAllRow.holds Try.pinned (OpenSpec.ofChange bagAllWrong)

/-- 'gossamerlaw25.HistRank': WHATEVER THE INPUT: true; the input reads as it did. -/
def histRankSpec : ChangeSpec := { name := "histRank", fn := fun _ => fun
  | [d1, d2, d3] => { results := [.lit (.bool true)], args := [d1, d2, d3] }
  | _ => none }
def histRankRow : OpenClaim := { program := "ytolpdgaomlhgdaa", sum := "d77d40ea64b9eb6f926ef164a33c4167ecd65ffa147b75cb7d6e34a69fd4dbcb", func := "gossamer/gossamerlaw25.HistRank", spec := "histRank", unfollowed := true, recurses := true, plainKeys := false, apart := false }
def HistRankSaid : Prop := histRankRow.holds Try.pinned (OpenSpec.ofChange histRankSpec)

/-- ITS FALSE NEIGHBOUR: 'it returns false'. Refute it at one input. -/
def histRankWrong : ChangeSpec := { name := "histRank", fn := fun _ => fun
  | [d1, d2, d3] => { results := [.lit (.bool false)], args := [d1, d2, d3] }
  | _ => none }
def HistRankWrongFalsely : Prop := histRankRow.holds Try.pinned (OpenSpec.ofChange histRankWrong)

/-- 'gossamerlaw25.HistPlays': WHATEVER THE INPUT: true; the input reads as it did. -/
def histPlaysSpec : ChangeSpec := { name := "histPlays", fn := fun _ => fun
  | [d1, d2] => { results := [.lit (.bool true)], args := [d1, d2] }
  | _ => none }
def histPlaysRow : OpenClaim := { program := "ytolpdgaomlhgdaa", sum := "d77d40ea64b9eb6f926ef164a33c4167ecd65ffa147b75cb7d6e34a69fd4dbcb", func := "gossamer/gossamerlaw25.HistPlays", spec := "histPlays", unfollowed := true, recurses := true, plainKeys := false, apart := false }
def HistPlaysSaid : Prop := histPlaysRow.holds Try.pinned (OpenSpec.ofChange histPlaysSpec)

/-- ITS FALSE NEIGHBOUR: 'it returns false'. Refute it at one input. -/
def histPlaysWrong : ChangeSpec := { name := "histPlays", fn := fun _ => fun
  | [d1, d2] => { results := [.lit (.bool false)], args := [d1, d2] }
  | _ => none }
def HistPlaysWrongFalsely : Prop := histPlaysRow.holds Try.pinned (OpenSpec.ofChange histPlaysWrong)

/-- 'gossamerlaw25.HistBack': WHATEVER THE INPUT: true; the input reads as it did. -/
def histBackSpec : ChangeSpec := { name := "histBack", fn := fun _ => fun
  | [d1, d2] => { results := [.lit (.bool true)], args := [d1, d2] }
  | _ => none }
def histBackRow : OpenClaim := { program := "ytolpdgaomlhgdaa", sum := "d77d40ea64b9eb6f926ef164a33c4167ecd65ffa147b75cb7d6e34a69fd4dbcb", func := "gossamer/gossamerlaw25.HistBack", spec := "histBack", unfollowed := true, recurses := true, plainKeys := false, apart := false }
def HistBackSaid : Prop := histBackRow.holds Try.pinned (OpenSpec.ofChange histBackSpec)

/-- ITS FALSE NEIGHBOUR: 'it returns false'. Refute it at one input. -/
def histBackWrong : ChangeSpec := { name := "histBack", fn := fun _ => fun
  | [d1, d2] => { results := [.lit (.bool false)], args := [d1, d2] }
  | _ => none }
def HistBackWrongFalsely : Prop := histBackRow.holds Try.pinned (OpenSpec.ofChange histBackWrong)

/-- 'gossamerlaw23.ShapeIs': WHATEVER THE INPUT: true; the input reads as it did. -/
def shapeIsSpec : ChangeSpec := { name := "shapeIs", fn := fun _ => fun
  | [d1, d2] => { results := [.lit (.bool true)], args := [d1, d2] }
  | _ => none }
def shapeIsRow : OpenClaim := { program := "ytolpdgaomlhgdaa", sum := "d77d40ea64b9eb6f926ef164a33c4167ecd65ffa147b75cb7d6e34a69fd4dbcb", func := "gossamer/gossamerlaw23.ShapeIs", spec := "shapeIs", unfollowed := true, recurses := true, plainKeys := false, apart := false }
def ShapeIsSaid : Prop := shapeIsRow.holds Try.pinned (OpenSpec.ofChange shapeIsSpec)

/-- ITS FALSE NEIGHBOUR: 'it returns false'. Refute it at one input. -/
def shapeIsWrong : ChangeSpec := { name := "shapeIs", fn := fun _ => fun
  | [d1, d2] => { results := [.lit (.bool false)], args := [d1, d2] }
  | _ => none }
def ShapeIsWrongFalsely : Prop := shapeIsRow.holds Try.pinned (OpenSpec.ofChange shapeIsWrong)

/-- 'gossamerlaw23.ShapePlays': WHATEVER THE INPUT: true; the input reads as it did. -/
def shapePlaysSpec : ChangeSpec := { name := "shapePlays", fn := fun _ => fun
  | [d] => { results := [.lit (.bool true)], args := [d] }
  | _ => none }
def shapePlaysRow : OpenClaim := { program := "ytolpdgaomlhgdaa", sum := "d77d40ea64b9eb6f926ef164a33c4167ecd65ffa147b75cb7d6e34a69fd4dbcb", func := "gossamer/gossamerlaw23.ShapePlays", spec := "shapePlays", unfollowed := true, recurses := true, plainKeys := false, apart := false }
def ShapePlaysSaid : Prop := shapePlaysRow.holds Try.pinned (OpenSpec.ofChange shapePlaysSpec)

/-- ITS FALSE NEIGHBOUR: 'it returns false'. Refute it at one input. -/
def shapePlaysWrong : ChangeSpec := { name := "shapePlays", fn := fun _ => fun
  | [d] => { results := [.lit (.bool false)], args := [d] }
  | _ => none }
def ShapePlaysWrongFalsely : Prop := shapePlaysRow.holds Try.pinned (OpenSpec.ofChange shapePlaysWrong)

/- THE SECOND FORM. 'bulk': how many values and letters a reading holds, each counted each time it is reached (what is shared counts as often as it is met; a slice's spare places count too). A statement '..UptoSaid' is the law's where the arguments, and the package variables that the reading takes, are together of bulk at most 1048576: NARROWER than '..Said'. Prove '..Said' where nothing that the law and all that it calls make is longer than what came in: it says more and counts as full. Else prove '..UptoSaid'. A law counts once. -/
mutual
def uptoBulk {H : Type} : DataW H → Nat
  | .lit (.string bytes) => bytes.length + 1
  | .lit _ => 1
  | .nil => 1
  | .ptr d => uptoBulk d + 1
  | .slice elems spare => uptoBulkAll elems + uptoBulkAll spare + 1
  | .agg parts => uptoBulkAll parts + 1
  | .iface _ d => uptoBulk d + 1
  | .map entries => uptoBulkEntries entries + 1
  | .held _ => 1
def uptoBulkAll {H : Type} : List (DataW H) → Nat
  | [] => 0
  | d :: r => uptoBulk d + uptoBulkAll r
def uptoBulkEntries {H : Type} : List (Lit × DataW H) → Nat
  | [] => 0
  | x :: r => uptoBulkEntry x + uptoBulkEntries r
def uptoBulkEntry {H : Type} : Lit × DataW H → Nat
  | (.string bytes, d) => bytes.length + uptoBulk d + 1
  | (_, d) => uptoBulk d + 1
 end
def uptoSmall : (H : Type) → List (DataW H) → Bool := fun _ ds => decide (uptoBulkAll ds ≤ 1048576)
def OpenSpec.upto (s : _root_.Go.ChangeSpec) : _root_.Go.OpenSpec := { _root_.Go.OpenSpec.ofChange s with cond := some uptoSmall }

/-- 'gossamerlaw17.QuotaPlays', WHERE WHAT IT READS IS OF BULK AT MOST 1048576: true; the input reads as it did. -/
def quotaPlaysUptoRow : OpenClaim := { program := "ytolpdgaomlhgdaa", sum := "d77d40ea64b9eb6f926ef164a33c4167ecd65ffa147b75cb7d6e34a69fd4dbcb", func := "gossamer/gossamerlaw17.QuotaPlays", spec := "quotaPlays", unfollowed := true, recurses := true, plainKeys := false, apart := false, narrowed := true }
def QuotaPlaysUptoSaid : Prop := quotaPlaysUptoRow.holds Try.pinned (OpenSpec.upto quotaPlaysSpec)

/-- 'gossamerlaw17.QuotaHolds', WHERE WHAT IT READS IS OF BULK AT MOST 1048576: true; the input reads as it did. -/
def quotaHoldsUptoRow : OpenClaim := { program := "ytolpdgaomlhgdaa", sum := "d77d40ea64b9eb6f926ef164a33c4167ecd65ffa147b75cb7d6e34a69fd4dbcb", func := "gossamer/gossamerlaw17.QuotaHolds", spec := "quotaHolds", unfollowed := true, recurses := true, plainKeys := false, apart := false, narrowed := true }
def QuotaHoldsUptoSaid : Prop := quotaHoldsUptoRow.holds Try.pinned (OpenSpec.upto quotaHoldsSpec)

/-- 'gossamerlaw12.AvlPlays', WHERE WHAT IT READS IS OF BULK AT MOST 1048576: true; the input reads as it did. -/
def avlPlaysUptoRow : OpenClaim := { program := "ytolpdgaomlhgdaa", sum := "d77d40ea64b9eb6f926ef164a33c4167ecd65ffa147b75cb7d6e34a69fd4dbcb", func := "gossamer/gossamerlaw12.AvlPlays", spec := "avlPlays", unfollowed := true, recurses := true, plainKeys := false, apart := false, narrowed := true }
def AvlPlaysUptoSaid : Prop := avlPlaysUptoRow.holds Try.pinned (OpenSpec.upto avlPlaysSpec)

/-- 'gossamerlaw12.AvlAll', WHERE WHAT IT READS IS OF BULK AT MOST 1048576: true; the input reads as it did. -/
def avlAllUptoRow : OpenClaim := { program := "ytolpdgaomlhgdaa", sum := "d77d40ea64b9eb6f926ef164a33c4167ecd65ffa147b75cb7d6e34a69fd4dbcb", func := "gossamer/gossamerlaw12.AvlAll", spec := "avlAll", unfollowed := true, recurses := true, plainKeys := false, apart := false, narrowed := true }
def AvlAllUptoSaid : Prop := avlAllUptoRow.holds Try.pinned (OpenSpec.upto avlAllSpec)

/-- 'gossamerlaw12.AvlFrom', WHERE WHAT IT READS IS OF BULK AT MOST 1048576: true; the input reads as it did. -/
def avlFromUptoRow : OpenClaim := { program := "ytolpdgaomlhgdaa", sum := "d77d40ea64b9eb6f926ef164a33c4167ecd65ffa147b75cb7d6e34a69fd4dbcb", func := "gossamer/gossamerlaw12.AvlFrom", spec := "avlFrom", unfollowed := true, recurses := true, plainKeys := false, apart := false, narrowed := true }
def AvlFromUptoSaid : Prop := avlFromUptoRow.holds Try.pinned (OpenSpec.upto avlFromSpec)

/-- 'gossamerlaw13.BagPlays', WHERE WHAT IT READS IS OF BULK AT MOST 1048576: true; the input reads as it did. -/
def bagPlaysUptoRow : OpenClaim := { program := "ytolpdgaomlhgdaa", sum := "d77d40ea64b9eb6f926ef164a33c4167ecd65ffa147b75cb7d6e34a69fd4dbcb", func := "gossamer/gossamerlaw13.BagPlays", spec := "bagPlays", unfollowed := true, recurses := true, plainKeys := false, apart := false, narrowed := true }
def BagPlaysUptoSaid : Prop := bagPlaysUptoRow.holds Try.pinned (OpenSpec.upto bagPlaysSpec)

/-- 'gossamerlaw13.BagSums', WHERE WHAT IT READS IS OF BULK AT MOST 1048576: true; the input reads as it did. -/
def bagSumsUptoRow : OpenClaim := { program := "ytolpdgaomlhgdaa", sum := "d77d40ea64b9eb6f926ef164a33c4167ecd65ffa147b75cb7d6e34a69fd4dbcb", func := "gossamer/gossamerlaw13.BagSums", spec := "bagSums", unfollowed := true, recurses := true, plainKeys := false, apart := false, narrowed := true }
def BagSumsUptoSaid : Prop := bagSumsUptoRow.holds Try.pinned (OpenSpec.upto bagSumsSpec)

/-- 'gossamerlaw13.BagAll', WHERE WHAT IT READS IS OF BULK AT MOST 1048576: true; the input reads as it did. -/
def bagAllUptoRow : OpenClaim := { program := "ytolpdgaomlhgdaa", sum := "d77d40ea64b9eb6f926ef164a33c4167ecd65ffa147b75cb7d6e34a69fd4dbcb", func := "gossamer/gossamerlaw13.BagAll", spec := "bagAll", unfollowed := true, recurses := true, plainKeys := false, apart := false, narrowed := true }
def BagAllUptoSaid : Prop := bagAllUptoRow.holds Try.pinned (OpenSpec.upto bagAllSpec)

/-- 'gossamerlaw25.HistRank', WHERE WHAT IT READS IS OF BULK AT MOST 1048576: true; the input reads as it did. -/
def histRankUptoRow : OpenClaim := { program := "ytolpdgaomlhgdaa", sum := "d77d40ea64b9eb6f926ef164a33c4167ecd65ffa147b75cb7d6e34a69fd4dbcb", func := "gossamer/gossamerlaw25.HistRank", spec := "histRank", unfollowed := true, recurses := true, plainKeys := false, apart := false, narrowed := true }
def HistRankUptoSaid : Prop := histRankUptoRow.holds Try.pinned (OpenSpec.upto histRankSpec)

/-- 'gossamerlaw25.HistPlays', WHERE WHAT IT READS IS OF BULK AT MOST 1048576: true; the input reads as it did. -/
def histPlaysUptoRow : OpenClaim := { program := "ytolpdgaomlhgdaa", sum := "d77d40ea64b9eb6f926ef164a33c4167ecd65ffa147b75cb7d6e34a69fd4dbcb", func := "gossamer/gossamerlaw25.HistPlays", spec := "histPlays", unfollowed := true, recurses := true, plainKeys := false, apart := false, narrowed := true }
def HistPlaysUptoSaid : Prop := histPlaysUptoRow.holds Try.pinned (OpenSpec.upto histPlaysSpec)

/-- 'gossamerlaw25.HistBack', WHERE WHAT IT READS IS OF BULK AT MOST 1048576: true; the input reads as it did. -/
def histBackUptoRow : OpenClaim := { program := "ytolpdgaomlhgdaa", sum := "d77d40ea64b9eb6f926ef164a33c4167ecd65ffa147b75cb7d6e34a69fd4dbcb", func := "gossamer/gossamerlaw25.HistBack", spec := "histBack", unfollowed := true, recurses := true, plainKeys := false, apart := false, narrowed := true }
def HistBackUptoSaid : Prop := histBackUptoRow.holds Try.pinned (OpenSpec.upto histBackSpec)

/-- 'gossamerlaw23.ShapeIs', WHERE WHAT IT READS IS OF BULK AT MOST 1048576: true; the input reads as it did. -/
def shapeIsUptoRow : OpenClaim := { program := "ytolpdgaomlhgdaa", sum := "d77d40ea64b9eb6f926ef164a33c4167ecd65ffa147b75cb7d6e34a69fd4dbcb", func := "gossamer/gossamerlaw23.ShapeIs", spec := "shapeIs", unfollowed := true, recurses := true, plainKeys := false, apart := false, narrowed := true }
def ShapeIsUptoSaid : Prop := shapeIsUptoRow.holds Try.pinned (OpenSpec.upto shapeIsSpec)

/-- 'gossamerlaw23.ShapePlays', WHERE WHAT IT READS IS OF BULK AT MOST 1048576: true; the input reads as it did. -/
def shapePlaysUptoRow : OpenClaim := { program := "ytolpdgaomlhgdaa", sum := "d77d40ea64b9eb6f926ef164a33c4167ecd65ffa147b75cb7d6e34a69fd4dbcb", func := "gossamer/gossamerlaw23.ShapePlays", spec := "shapePlays", unfollowed := true, recurses := true, plainKeys := false, apart := false, narrowed := true }
def ShapePlaysUptoSaid : Prop := shapePlaysUptoRow.holds Try.pinned (OpenSpec.upto shapePlaysSpec)

end Rows
end Go.Proofs.Ytolpdgaomlhgdaa
