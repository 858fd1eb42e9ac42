/-
  No cell of these rows narrows 'for every input' (looked for: loops, veiled, ifaces, maps, wideKeys, modest, calm, conditions, laid).
  DERIVED. THE GIVEN ROWS OF THIS SEAT. 11 by the template 'for every input the law returns true; each argument reads behind the call as it read before'; 0 by the template 'total and deterministic' (their statements: YtkhhdadlpilbmaaTotals.lean).
  GIVEN WITH THE SEED: the statements are not yours to turn. If you find one false, say at which input.
  Laid BY PROGRAM, IN A SANDBOX (cutbox-rows.mjs): the forced cells as the released guide's own fill.sh prints them over the translation 6230a5706e42b85c… (all of the seat's roots in one cut). By AI agents, Wed Nov 11 2026. No macro, syntax, notation, axiom, sorry.
-/
import Derived.Test.YtkhhdadlpilbmaaChecked
import GoSem.Claim
import GoSem.ClaimJoined
import GoSem.ClaimMapViews
import Derived.JoinedTies
import Derived.KernelRfl
namespace Go.Proofs.Ytkhhdadlpilbmaa
/- THE CELL 'sum', in the pinned program and in every row, IS THE sha256 OF THE DUMP (.gsa) THAT YtkhhdadlpilbmaaProg.lean LOADS. Nothing in Lean hashes anything: it is a label: what it is worth is what the hold of that sum in a sandbox is worth. -/
noncomputable def Try.pinned : Pinned := { name := "ytkhhdadlpilbmaa", sum := "6230a5706e42b85c8f5a78400b956d90cbe0fb5f81cb92efd5b5bd594b6bf007", checked := Try.checked }
namespace Rows
def none {H : Type} : Left H := { results := [], args := [] }

/-- 'gossamerlaw20.KidsPlays': WHATEVER THE INPUT: true; the input reads as it did. -/
def kidsPlaysSpec : ChangeSpec := { name := "kidsPlays", fn := fun _ => fun
  | [d] => { results := [.lit (.bool true)], args := [d] }
  | _ => none }
def kidsPlaysRow : OpenClaim := { program := "ytkhhdadlpilbmaa", sum := "6230a5706e42b85c8f5a78400b956d90cbe0fb5f81cb92efd5b5bd594b6bf007", func := "gossamer/gossamerlaw20.KidsPlays", spec := "kidsPlays", unfollowed := true, recurses := true, apart := false }
def KidsPlaysSaid : Prop := kidsPlaysRow.holds Try.pinned (OpenSpec.ofChange kidsPlaysSpec)

/-- ITS FALSE NEIGHBOUR: 'it returns false'. Refute it at one input. -/
def kidsPlaysWrong : ChangeSpec := { name := "kidsPlays", fn := fun _ => fun
  | [d] => { results := [.lit (.bool false)], args := [d] }
  | _ => none }
def KidsPlaysWrongFalsely : Prop := kidsPlaysRow.holds Try.pinned (OpenSpec.ofChange kidsPlaysWrong)

/-- 'gossamerlaw20.KidsGiven': WHATEVER THE INPUT: true; the input reads as it did. -/
def kidsGivenSpec : ChangeSpec := { name := "kidsGiven", fn := fun _ => fun
  | [d1, d2] => { results := [.lit (.bool true)], args := [d1, d2] }
  | _ => none }
def kidsGivenRow : OpenClaim := { program := "ytkhhdadlpilbmaa", sum := "6230a5706e42b85c8f5a78400b956d90cbe0fb5f81cb92efd5b5bd594b6bf007", func := "gossamer/gossamerlaw20.KidsGiven", spec := "kidsGiven", unfollowed := true, recurses := true, apart := false }
def KidsGivenSaid : Prop := kidsGivenRow.holds Try.pinned (OpenSpec.ofChange kidsGivenSpec)

/-- ITS FALSE NEIGHBOUR: 'it returns false'. Refute it at one input. -/
def kidsGivenWrong : ChangeSpec := { name := "kidsGiven", fn := fun _ => fun
  | [d1, d2] => { results := [.lit (.bool false)], args := [d1, d2] }
  | _ => none }
def KidsGivenWrongFalsely : Prop := kidsGivenRow.holds Try.pinned (OpenSpec.ofChange kidsGivenWrong)

/-- 'gossamerlaw20.KidsOnce': WHATEVER THE INPUT: true; the input reads as it did. -/
def kidsOnceSpec : ChangeSpec := { name := "kidsOnce", fn := fun _ => fun
  | [d] => { results := [.lit (.bool true)], args := [d] }
  | _ => none }
def kidsOnceRow : OpenClaim := { program := "ytkhhdadlpilbmaa", sum := "6230a5706e42b85c8f5a78400b956d90cbe0fb5f81cb92efd5b5bd594b6bf007", func := "gossamer/gossamerlaw20.KidsOnce", spec := "kidsOnce", unfollowed := true, recurses := true, apart := false }
def KidsOnceSaid : Prop := kidsOnceRow.holds Try.pinned (OpenSpec.ofChange kidsOnceSpec)

/-- ITS FALSE NEIGHBOUR: 'it returns false'. Refute it at one input. -/
def kidsOnceWrong : ChangeSpec := { name := "kidsOnce", fn := fun _ => fun
  | [d] => { results := [.lit (.bool false)], args := [d] }
  | _ => none }
def KidsOnceWrongFalsely : Prop := kidsOnceRow.holds Try.pinned (OpenSpec.ofChange kidsOnceWrong)

/-- 'gossamerlaw16.ExpireIs': WHATEVER THE INPUT: true; the input reads as it did. -/
def expireIsSpec : ChangeSpec := { name := "expireIs", fn := fun _ => fun
  | [d1, d2, d3] => { results := [.lit (.bool true)], args := [d1, d2, d3] }
  | _ => none }
def expireIsRow : OpenClaim := { program := "ytkhhdadlpilbmaa", sum := "6230a5706e42b85c8f5a78400b956d90cbe0fb5f81cb92efd5b5bd594b6bf007", func := "gossamer/gossamerlaw16.ExpireIs", spec := "expireIs", unfollowed := true, recurses := true, apart := false }
def ExpireIsSaid : Prop := expireIsRow.holds Try.pinned (OpenSpec.ofChange expireIsSpec)

/-- ITS FALSE NEIGHBOUR: 'it returns false'. Refute it at one input. -/
def expireIsWrong : ChangeSpec := { name := "expireIs", fn := fun _ => fun
  | [d1, d2, d3] => { results := [.lit (.bool false)], args := [d1, d2, d3] }
  | _ => none }
def ExpireIsWrongFalsely : Prop := expireIsRow.holds Try.pinned (OpenSpec.ofChange expireIsWrong)

/-- 'gossamerlaw16.ExpirePlays': WHATEVER THE INPUT: true; the input reads as it did. -/
def expirePlaysSpec : ChangeSpec := { name := "expirePlays", fn := fun _ => fun
  | [d1, d2] => { results := [.lit (.bool true)], args := [d1, d2] }
  | _ => none }
def expirePlaysRow : OpenClaim := { program := "ytkhhdadlpilbmaa", sum := "6230a5706e42b85c8f5a78400b956d90cbe0fb5f81cb92efd5b5bd594b6bf007", func := "gossamer/gossamerlaw16.ExpirePlays", spec := "expirePlays", unfollowed := true, recurses := true, apart := false }
def ExpirePlaysSaid : Prop := expirePlaysRow.holds Try.pinned (OpenSpec.ofChange expirePlaysSpec)

/-- ITS FALSE NEIGHBOUR: 'it returns false'. Refute it at one input. -/
def expirePlaysWrong : ChangeSpec := { name := "expirePlays", fn := fun _ => fun
  | [d1, d2] => { results := [.lit (.bool false)], args := [d1, d2] }
  | _ => none }
def ExpirePlaysWrongFalsely : Prop := expirePlaysRow.holds Try.pinned (OpenSpec.ofChange expirePlaysWrong)

/-- 'gossamerlaw16.ExpireJust': WHATEVER THE INPUT: true; the input reads as it did. -/
def expireJustSpec : ChangeSpec := { name := "expireJust", fn := fun _ => fun
  | [d1, d2, d3] => { results := [.lit (.bool true)], args := [d1, d2, d3] }
  | _ => none }
def expireJustRow : OpenClaim := { program := "ytkhhdadlpilbmaa", sum := "6230a5706e42b85c8f5a78400b956d90cbe0fb5f81cb92efd5b5bd594b6bf007", func := "gossamer/gossamerlaw16.ExpireJust", spec := "expireJust", unfollowed := true, recurses := true, apart := false }
def ExpireJustSaid : Prop := expireJustRow.holds Try.pinned (OpenSpec.ofChange expireJustSpec)

/-- ITS FALSE NEIGHBOUR: 'it returns false'. Refute it at one input. -/
def expireJustWrong : ChangeSpec := { name := "expireJust", fn := fun _ => fun
  | [d1, d2, d3] => { results := [.lit (.bool false)], args := [d1, d2, d3] }
  | _ => none }
def ExpireJustWrongFalsely : Prop := expireJustRow.holds Try.pinned (OpenSpec.ofChange expireJustWrong)

/-- 'gossamerlaw19.JoinIs': WHATEVER THE INPUT: true; the input reads as it did. -/
def joinIsSpec : ChangeSpec := { name := "joinIs", fn := fun _ => fun
  | [d] => { results := [.lit (.bool true)], args := [d] }
  | _ => none }
def joinIsRow : OpenClaim := { program := "ytkhhdadlpilbmaa", sum := "6230a5706e42b85c8f5a78400b956d90cbe0fb5f81cb92efd5b5bd594b6bf007", func := "gossamer/gossamerlaw19.JoinIs", spec := "joinIs", inPlace := ["internal/abi.NoEscape", "internal/bytealg.abigen_runtime_cmpstring"], unfollowed := true, recurses := true, apart := false }
def JoinIsSaid : Prop := joinIsRow.holds Try.pinned (OpenSpec.ofChange joinIsSpec)

/-- ITS FALSE NEIGHBOUR: 'it returns false'. Refute it at one input. -/
def joinIsWrong : ChangeSpec := { name := "joinIs", fn := fun _ => fun
  | [d] => { results := [.lit (.bool false)], args := [d] }
  | _ => none }
def JoinIsWrongFalsely : Prop := joinIsRow.holds Try.pinned (OpenSpec.ofChange joinIsWrong)

/-- 'gossamerlaw19.JoinOrder': WHATEVER THE INPUT: true; the input reads as it did. -/
def joinOrderSpec : ChangeSpec := { name := "joinOrder", fn := fun _ => fun
  | [d1, d2, d3] => { results := [.lit (.bool true)], args := [d1, d2, d3] }
  | _ => none }
def joinOrderRow : OpenClaim := { program := "ytkhhdadlpilbmaa", sum := "6230a5706e42b85c8f5a78400b956d90cbe0fb5f81cb92efd5b5bd594b6bf007", func := "gossamer/gossamerlaw19.JoinOrder", spec := "joinOrder", inPlace := ["internal/abi.NoEscape", "internal/bytealg.abigen_runtime_cmpstring"], unfollowed := true, recurses := true, apart := false }
def JoinOrderSaid : Prop := joinOrderRow.holds Try.pinned (OpenSpec.ofChange joinOrderSpec)

/-- ITS FALSE NEIGHBOUR: 'it returns false'. Refute it at one input. -/
def joinOrderWrong : ChangeSpec := { name := "joinOrder", fn := fun _ => fun
  | [d1, d2, d3] => { results := [.lit (.bool false)], args := [d1, d2, d3] }
  | _ => none }
def JoinOrderWrongFalsely : Prop := joinOrderRow.holds Try.pinned (OpenSpec.ofChange joinOrderWrong)

/-- 'gossamerlaw19.JoinMissing': WHATEVER THE INPUT: true; the input reads as it did. -/
def joinMissingSpec : ChangeSpec := { name := "joinMissing", fn := fun _ => fun
  | [d1, d2] => { results := [.lit (.bool true)], args := [d1, d2] }
  | _ => none }
def joinMissingRow : OpenClaim := { program := "ytkhhdadlpilbmaa", sum := "6230a5706e42b85c8f5a78400b956d90cbe0fb5f81cb92efd5b5bd594b6bf007", func := "gossamer/gossamerlaw19.JoinMissing", spec := "joinMissing", inPlace := ["internal/abi.NoEscape", "internal/bytealg.abigen_runtime_cmpstring"], unfollowed := true, recurses := true, apart := false }
def JoinMissingSaid : Prop := joinMissingRow.holds Try.pinned (OpenSpec.ofChange joinMissingSpec)

/-- ITS FALSE NEIGHBOUR: 'it returns false'. Refute it at one input. -/
def joinMissingWrong : ChangeSpec := { name := "joinMissing", fn := fun _ => fun
  | [d1, d2] => { results := [.lit (.bool false)], args := [d1, d2] }
  | _ => none }
def JoinMissingWrongFalsely : Prop := joinMissingRow.holds Try.pinned (OpenSpec.ofChange joinMissingWrong)

/-- 'gossamerlaw15.DeltaMakes': WHATEVER THE INPUT: true; the input reads as it did. -/
def deltaMakesSpec : ChangeSpec := { name := "deltaMakes", fn := fun _ => fun
  | [d1, d2] => { results := [.lit (.bool true)], args := [d1, d2] }
  | _ => none }
def deltaMakesRow : OpenClaim := { program := "ytkhhdadlpilbmaa", sum := "6230a5706e42b85c8f5a78400b956d90cbe0fb5f81cb92efd5b5bd594b6bf007", func := "gossamer/gossamerlaw15.DeltaMakes", spec := "deltaMakes", inPlace := ["internal/abi.NoEscape", "internal/bytealg.abigen_runtime_cmpstring"], unfollowed := true, recurses := true, apart := false }
def DeltaMakesSaid : Prop := deltaMakesRow.holds Try.pinned (OpenSpec.ofChange deltaMakesSpec)

/-- ITS FALSE NEIGHBOUR: 'it returns false'. Refute it at one input. -/
def deltaMakesWrong : ChangeSpec := { name := "deltaMakes", fn := fun _ => fun
  | [d1, d2] => { results := [.lit (.bool false)], args := [d1, d2] }
  | _ => none }
def DeltaMakesWrongFalsely : Prop := deltaMakesRow.holds Try.pinned (OpenSpec.ofChange deltaMakesWrong)

/-- 'gossamerlaw15.DeltaOneBehind': WHATEVER THE INPUT: true; the input reads as it did. -/
def deltaOneBehindSpec : ChangeSpec := { name := "deltaOneBehind", fn := fun _ => fun
  | [d1, d2, d3] => { results := [.lit (.bool true)], args := [d1, d2, d3] }
  | _ => none }
def deltaOneBehindRow : OpenClaim := { program := "ytkhhdadlpilbmaa", sum := "6230a5706e42b85c8f5a78400b956d90cbe0fb5f81cb92efd5b5bd594b6bf007", func := "gossamer/gossamerlaw15.DeltaOneBehind", spec := "deltaOneBehind", inPlace := ["internal/abi.NoEscape", "internal/bytealg.abigen_runtime_cmpstring"], unfollowed := true, recurses := true, apart := false }
def DeltaOneBehindSaid : Prop := deltaOneBehindRow.holds Try.pinned (OpenSpec.ofChange deltaOneBehindSpec)

/-- ITS FALSE NEIGHBOUR: 'it returns false'. Refute it at one input. -/
def deltaOneBehindWrong : ChangeSpec := { name := "deltaOneBehind", fn := fun _ => fun
  | [d1, d2, d3] => { results := [.lit (.bool false)], args := [d1, d2, d3] }
  | _ => none }
def DeltaOneBehindWrongFalsely : Prop := deltaOneBehindRow.holds Try.pinned (OpenSpec.ofChange deltaOneBehindWrong)

/- THE SECOND FORM. 'bulk': how many values and letters a reading holds, each counted each time it is reached (what is shared counts as often as it is met; a slice's spare places count too). A statement '..UptoSaid' is the law's where the arguments, and the package variables that the reading takes, are together of bulk at most 1048576: NARROWER than '..Said'. Prove '..Said' where nothing that the law and all that it calls make is longer than what came in: it says more and counts as full. Else prove '..UptoSaid'. A law counts once. -/
mutual
def uptoBulk {H : Type} : DataW H → Nat
  | .lit (.string bytes) => bytes.length + 1
  | .lit _ => 1
  | .nil => 1
  | .ptr d => uptoBulk d + 1
  | .slice elems spare => uptoBulkAll elems + uptoBulkAll spare + 1
  | .agg parts => uptoBulkAll parts + 1
  | .iface _ d => uptoBulk d + 1
  | .map entries => uptoBulkEntries entries + 1
  | .held _ => 1
def uptoBulkAll {H : Type} : List (DataW H) → Nat
  | [] => 0
  | d :: r => uptoBulk d + uptoBulkAll r
def uptoBulkEntries {H : Type} : List (Lit × DataW H) → Nat
  | [] => 0
  | x :: r => uptoBulkEntry x + uptoBulkEntries r
def uptoBulkEntry {H : Type} : Lit × DataW H → Nat
  | (.string bytes, d) => bytes.length + uptoBulk d + 1
  | (_, d) => uptoBulk d + 1
 end
def uptoSmall : (H : Type) → List (DataW H) → Bool := fun _ ds => decide (uptoBulkAll ds ≤ 1048576)
def OpenSpec.upto (s : _root_.Go.ChangeSpec) : _root_.Go.OpenSpec := { _root_.Go.OpenSpec.ofChange s with cond := some uptoSmall }

/-- 'gossamerlaw20.KidsPlays', WHERE WHAT IT READS IS OF BULK AT MOST 1048576: true; the input reads as it did. -/
def kidsPlaysUptoRow : OpenClaim := { program := "ytkhhdadlpilbmaa", sum := "6230a5706e42b85c8f5a78400b956d90cbe0fb5f81cb92efd5b5bd594b6bf007", func := "gossamer/gossamerlaw20.KidsPlays", spec := "kidsPlays", unfollowed := true, recurses := true, apart := false, narrowed := true }
def KidsPlaysUptoSaid : Prop := kidsPlaysUptoRow.holds Try.pinned (OpenSpec.upto kidsPlaysSpec)

/-- 'gossamerlaw20.KidsGiven', WHERE WHAT IT READS IS OF BULK AT MOST 1048576: true; the input reads as it did. -/
def kidsGivenUptoRow : OpenClaim := { program := "ytkhhdadlpilbmaa", sum := "6230a5706e42b85c8f5a78400b956d90cbe0fb5f81cb92efd5b5bd594b6bf007", func := "gossamer/gossamerlaw20.KidsGiven", spec := "kidsGiven", unfollowed := true, recurses := true, apart := false, narrowed := true }
def KidsGivenUptoSaid : Prop := kidsGivenUptoRow.holds Try.pinned (OpenSpec.upto kidsGivenSpec)

/-- 'gossamerlaw20.KidsOnce', WHERE WHAT IT READS IS OF BULK AT MOST 1048576: true; the input reads as it did. -/
def kidsOnceUptoRow : OpenClaim := { program := "ytkhhdadlpilbmaa", sum := "6230a5706e42b85c8f5a78400b956d90cbe0fb5f81cb92efd5b5bd594b6bf007", func := "gossamer/gossamerlaw20.KidsOnce", spec := "kidsOnce", unfollowed := true, recurses := true, apart := false, narrowed := true }
def KidsOnceUptoSaid : Prop := kidsOnceUptoRow.holds Try.pinned (OpenSpec.upto kidsOnceSpec)

/-- 'gossamerlaw16.ExpireIs', WHERE WHAT IT READS IS OF BULK AT MOST 1048576: true; the input reads as it did. -/
def expireIsUptoRow : OpenClaim := { program := "ytkhhdadlpilbmaa", sum := "6230a5706e42b85c8f5a78400b956d90cbe0fb5f81cb92efd5b5bd594b6bf007", func := "gossamer/gossamerlaw16.ExpireIs", spec := "expireIs", unfollowed := true, recurses := true, apart := false, narrowed := true }
def ExpireIsUptoSaid : Prop := expireIsUptoRow.holds Try.pinned (OpenSpec.upto expireIsSpec)

/-- 'gossamerlaw16.ExpirePlays', WHERE WHAT IT READS IS OF BULK AT MOST 1048576: true; the input reads as it did. -/
def expirePlaysUptoRow : OpenClaim := { program := "ytkhhdadlpilbmaa", sum := "6230a5706e42b85c8f5a78400b956d90cbe0fb5f81cb92efd5b5bd594b6bf007", func := "gossamer/gossamerlaw16.ExpirePlays", spec := "expirePlays", unfollowed := true, recurses := true, apart := false, narrowed := true }
def ExpirePlaysUptoSaid : Prop := expirePlaysUptoRow.holds Try.pinned (OpenSpec.upto expirePlaysSpec)

/-- 'gossamerlaw16.ExpireJust', WHERE WHAT IT READS IS OF BULK AT MOST 1048576: true; the input reads as it did. -/
def expireJustUptoRow : OpenClaim := { program := "ytkhhdadlpilbmaa", sum := "6230a5706e42b85c8f5a78400b956d90cbe0fb5f81cb92efd5b5bd594b6bf007", func := "gossamer/gossamerlaw16.ExpireJust", spec := "expireJust", unfollowed := true, recurses := true, apart := false, narrowed := true }
def ExpireJustUptoSaid : Prop := expireJustUptoRow.holds Try.pinned (OpenSpec.upto expireJustSpec)

/-- 'gossamerlaw19.JoinIs', WHERE WHAT IT READS IS OF BULK AT MOST 1048576: true; the input reads as it did. -/
def joinIsUptoRow : OpenClaim := { program := "ytkhhdadlpilbmaa", sum := "6230a5706e42b85c8f5a78400b956d90cbe0fb5f81cb92efd5b5bd594b6bf007", func := "gossamer/gossamerlaw19.JoinIs", spec := "joinIs", inPlace := ["internal/abi.NoEscape", "internal/bytealg.abigen_runtime_cmpstring"], unfollowed := true, recurses := true, apart := false, narrowed := true }
def JoinIsUptoSaid : Prop := joinIsUptoRow.holds Try.pinned (OpenSpec.upto joinIsSpec)

/-- 'gossamerlaw19.JoinOrder', WHERE WHAT IT READS IS OF BULK AT MOST 1048576: true; the input reads as it did. -/
def joinOrderUptoRow : OpenClaim := { program := "ytkhhdadlpilbmaa", sum := "6230a5706e42b85c8f5a78400b956d90cbe0fb5f81cb92efd5b5bd594b6bf007", func := "gossamer/gossamerlaw19.JoinOrder", spec := "joinOrder", inPlace := ["internal/abi.NoEscape", "internal/bytealg.abigen_runtime_cmpstring"], unfollowed := true, recurses := true, apart := false, narrowed := true }
def JoinOrderUptoSaid : Prop := joinOrderUptoRow.holds Try.pinned (OpenSpec.upto joinOrderSpec)

/-- 'gossamerlaw19.JoinMissing', WHERE WHAT IT READS IS OF BULK AT MOST 1048576: true; the input reads as it did. -/
def joinMissingUptoRow : OpenClaim := { program := "ytkhhdadlpilbmaa", sum := "6230a5706e42b85c8f5a78400b956d90cbe0fb5f81cb92efd5b5bd594b6bf007", func := "gossamer/gossamerlaw19.JoinMissing", spec := "joinMissing", inPlace := ["internal/abi.NoEscape", "internal/bytealg.abigen_runtime_cmpstring"], unfollowed := true, recurses := true, apart := false, narrowed := true }
def JoinMissingUptoSaid : Prop := joinMissingUptoRow.holds Try.pinned (OpenSpec.upto joinMissingSpec)

/-- 'gossamerlaw15.DeltaMakes', WHERE WHAT IT READS IS OF BULK AT MOST 1048576: true; the input reads as it did. -/
def deltaMakesUptoRow : OpenClaim := { program := "ytkhhdadlpilbmaa", sum := "6230a5706e42b85c8f5a78400b956d90cbe0fb5f81cb92efd5b5bd594b6bf007", func := "gossamer/gossamerlaw15.DeltaMakes", spec := "deltaMakes", inPlace := ["internal/abi.NoEscape", "internal/bytealg.abigen_runtime_cmpstring"], unfollowed := true, recurses := true, apart := false, narrowed := true }
def DeltaMakesUptoSaid : Prop := deltaMakesUptoRow.holds Try.pinned (OpenSpec.upto deltaMakesSpec)

/-- 'gossamerlaw15.DeltaOneBehind', WHERE WHAT IT READS IS OF BULK AT MOST 1048576: true; the input reads as it did. -/
def deltaOneBehindUptoRow : OpenClaim := { program := "ytkhhdadlpilbmaa", sum := "6230a5706e42b85c8f5a78400b956d90cbe0fb5f81cb92efd5b5bd594b6bf007", func := "gossamer/gossamerlaw15.DeltaOneBehind", spec := "deltaOneBehind", inPlace := ["internal/abi.NoEscape", "internal/bytealg.abigen_runtime_cmpstring"], unfollowed := true, recurses := true, apart := false, narrowed := true }
def DeltaOneBehindUptoSaid : Prop := deltaOneBehindUptoRow.holds Try.pinned (OpenSpec.upto deltaOneBehindSpec)

end Rows
end Go.Proofs.Ytkhhdadlpilbmaa
