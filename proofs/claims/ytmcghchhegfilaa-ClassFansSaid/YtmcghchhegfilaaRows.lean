/-
  No cell of these rows narrows 'for every input' (looked for: loops, veiled, ifaces, maps, wideKeys, modest, calm, conditions, laid).
  DERIVED. THE GIVEN ROWS OF THIS SEAT. 7 by the template 'for every input the law returns true; each argument reads behind the call as it read before'; 0 by the template 'total and deterministic' (their statements: YtmcghchhegfilaaTotals.lean).
  GIVEN WITH THE SEED: the statements are not yours to turn. If you find one false, say at which input.
  Laid BY PROGRAM, IN A SANDBOX (cutbox-rows.mjs): the forced cells as the released guide's own fill.sh prints them over the translation 7cb3a8b66c3a36df… (all of the seat's roots in one cut). By AI agents, Wed Nov 11 2026. No macro, syntax, notation, axiom, sorry.
-/
import Derived.Test.YtmcghchhegfilaaChecked
import GoSem.Claim
import GoSem.ClaimJoined
import GoSem.ClaimMapViews
import Derived.JoinedTies
import Derived.KernelRfl
namespace Go.Proofs.Ytmcghchhegfilaa
/- THE CELL 'sum', in the pinned program and in every row, IS THE sha256 OF THE DUMP (.gsa) THAT YtmcghchhegfilaaProg.lean LOADS. Nothing in Lean hashes anything: it is a label: what it is worth is what the hold of that sum in a sandbox is worth. -/
noncomputable def Try.pinned : Pinned := { name := "ytmcghchhegfilaa", sum := "7cb3a8b66c3a36df902b7678a90321dac3b1925bcfd6bf6d98544947b18a0954", checked := Try.checked }
namespace Rows
def none {H : Type} : Left H := { results := [], args := [] }

/-- 'gossamerlaw48.DigestIs': WHATEVER THE INPUT: true; the input reads as it did. -/
def digestIsSpec : ChangeSpec := { name := "digestIs", fn := fun _ => fun
  | [d1, d2, d3] => { results := [.lit (.bool true)], args := [d1, d2, d3] }
  | _ => none }
def digestIsRow : OpenClaim := { program := "ytmcghchhegfilaa", sum := "7cb3a8b66c3a36df902b7678a90321dac3b1925bcfd6bf6d98544947b18a0954", func := "gossamer/gossamerlaw48.DigestIs", spec := "digestIs", inPlace := ["internal/abi.NoEscape", "internal/bytealg.abigen_runtime_cmpstring"], unfollowed := true, recurses := true, apart := false }
def DigestIsSaid : Prop := digestIsRow.holds Try.pinned (OpenSpec.ofChange digestIsSpec)

/-- ITS FALSE NEIGHBOUR: 'it returns false'. Refute it at one input. -/
def digestIsWrong : ChangeSpec := { name := "digestIs", fn := fun _ => fun
  | [d1, d2, d3] => { results := [.lit (.bool false)], args := [d1, d2, d3] }
  | _ => none }
def DigestIsWrongFalsely : Prop := digestIsRow.holds Try.pinned (OpenSpec.ofChange digestIsWrong)

/-- 'gossamerlaw48.DigestSame': WHATEVER THE INPUT: true; the input reads as it did. -/
def digestSameSpec : ChangeSpec := { name := "digestSame", fn := fun _ => fun
  | [d1, d2] => { results := [.lit (.bool true)], args := [d1, d2] }
  | _ => none }
def digestSameRow : OpenClaim := { program := "ytmcghchhegfilaa", sum := "7cb3a8b66c3a36df902b7678a90321dac3b1925bcfd6bf6d98544947b18a0954", func := "gossamer/gossamerlaw48.DigestSame", spec := "digestSame", inPlace := ["internal/abi.NoEscape", "internal/bytealg.abigen_runtime_cmpstring"], unfollowed := true, recurses := true, apart := false }
def DigestSameSaid : Prop := digestSameRow.holds Try.pinned (OpenSpec.ofChange digestSameSpec)

/-- ITS FALSE NEIGHBOUR: 'it returns false'. Refute it at one input. -/
def digestSameWrong : ChangeSpec := { name := "digestSame", fn := fun _ => fun
  | [d1, d2] => { results := [.lit (.bool false)], args := [d1, d2] }
  | _ => none }
def DigestSameWrongFalsely : Prop := digestSameRow.holds Try.pinned (OpenSpec.ofChange digestSameWrong)

/-- 'gossamerlaw48.DigestAfter': WHATEVER THE INPUT: true; the input reads as it did. -/
def digestAfterSpec : ChangeSpec := { name := "digestAfter", fn := fun _ => fun
  | [d1, d2] => { results := [.lit (.bool true)], args := [d1, d2] }
  | _ => none }
def digestAfterRow : OpenClaim := { program := "ytmcghchhegfilaa", sum := "7cb3a8b66c3a36df902b7678a90321dac3b1925bcfd6bf6d98544947b18a0954", func := "gossamer/gossamerlaw48.DigestAfter", spec := "digestAfter", inPlace := ["internal/abi.NoEscape", "internal/bytealg.abigen_runtime_cmpstring"], unfollowed := true, recurses := true, apart := false }
def DigestAfterSaid : Prop := digestAfterRow.holds Try.pinned (OpenSpec.ofChange digestAfterSpec)

/-- ITS FALSE NEIGHBOUR: 'it returns false'. Refute it at one input. -/
def digestAfterWrong : ChangeSpec := { name := "digestAfter", fn := fun _ => fun
  | [d1, d2] => { results := [.lit (.bool false)], args := [d1, d2] }
  | _ => none }
def DigestAfterWrongFalsely : Prop := digestAfterRow.holds Try.pinned (OpenSpec.ofChange digestAfterWrong)

/-- 'gossamerlaw48.DigestByte': WHATEVER THE INPUT: true; the input reads as it did. -/
def digestByteSpec : ChangeSpec := { name := "digestByte", fn := fun _ => fun
  | [d1, d2, d3] => { results := [.lit (.bool true)], args := [d1, d2, d3] }
  | _ => none }
def digestByteRow : OpenClaim := { program := "ytmcghchhegfilaa", sum := "7cb3a8b66c3a36df902b7678a90321dac3b1925bcfd6bf6d98544947b18a0954", func := "gossamer/gossamerlaw48.DigestByte", spec := "digestByte", inPlace := ["internal/abi.NoEscape", "internal/bytealg.abigen_runtime_cmpstring"], unfollowed := true, recurses := true, apart := false }
def DigestByteSaid : Prop := digestByteRow.holds Try.pinned (OpenSpec.ofChange digestByteSpec)

/-- ITS FALSE NEIGHBOUR: 'it returns false'. Refute it at one input. -/
def digestByteWrong : ChangeSpec := { name := "digestByte", fn := fun _ => fun
  | [d1, d2, d3] => { results := [.lit (.bool false)], args := [d1, d2, d3] }
  | _ => none }
def DigestByteWrongFalsely : Prop := digestByteRow.holds Try.pinned (OpenSpec.ofChange digestByteWrong)

/-- 'gossamerlaw21.ClassIs': WHATEVER THE INPUT: true; the input reads as it did. -/
def classIsSpec : ChangeSpec := { name := "classIs", fn := fun _ => fun
  | [d1, d2, d3] => { results := [.lit (.bool true)], args := [d1, d2, d3] }
  | _ => none }
def classIsRow : OpenClaim := { program := "ytmcghchhegfilaa", sum := "7cb3a8b66c3a36df902b7678a90321dac3b1925bcfd6bf6d98544947b18a0954", func := "gossamer/gossamerlaw21.ClassIs", spec := "classIs", inPlace := ["internal/abi.NoEscape", "internal/bytealg.abigen_runtime_cmpstring"], unfollowed := true, recurses := true, apart := false }
def ClassIsSaid : Prop := classIsRow.holds Try.pinned (OpenSpec.ofChange classIsSpec)

/-- ITS FALSE NEIGHBOUR: 'it returns false'. Refute it at one input. -/
def classIsWrong : ChangeSpec := { name := "classIs", fn := fun _ => fun
  | [d1, d2, d3] => { results := [.lit (.bool false)], args := [d1, d2, d3] }
  | _ => none }
def ClassIsWrongFalsely : Prop := classIsRow.holds Try.pinned (OpenSpec.ofChange classIsWrong)

/-- 'gossamerlaw21.ClassBelow': WHATEVER THE INPUT: true; the input reads as it did. -/
def classBelowSpec : ChangeSpec := { name := "classBelow", fn := fun _ => fun
  | [d] => { results := [.lit (.bool true)], args := [d] }
  | _ => none }
def classBelowRow : OpenClaim := { program := "ytmcghchhegfilaa", sum := "7cb3a8b66c3a36df902b7678a90321dac3b1925bcfd6bf6d98544947b18a0954", func := "gossamer/gossamerlaw21.ClassBelow", spec := "classBelow", inPlace := ["internal/abi.NoEscape", "internal/bytealg.abigen_runtime_cmpstring"], unfollowed := true, recurses := true, apart := false }
def ClassBelowSaid : Prop := classBelowRow.holds Try.pinned (OpenSpec.ofChange classBelowSpec)

/-- ITS FALSE NEIGHBOUR: 'it returns false'. Refute it at one input. -/
def classBelowWrong : ChangeSpec := { name := "classBelow", fn := fun _ => fun
  | [d] => { results := [.lit (.bool false)], args := [d] }
  | _ => none }
def ClassBelowWrongFalsely : Prop := classBelowRow.holds Try.pinned (OpenSpec.ofChange classBelowWrong)

/-- 'gossamerlaw21.ClassFans': WHATEVER THE INPUT: true; the input reads as it did. -/
def classFansSpec : ChangeSpec := { name := "classFans", fn := fun _ => fun
  | [d] => { results := [.lit (.bool true)], args := [d] }
  | _ => none }
def classFansRow : OpenClaim := { program := "ytmcghchhegfilaa", sum := "7cb3a8b66c3a36df902b7678a90321dac3b1925bcfd6bf6d98544947b18a0954", func := "gossamer/gossamerlaw21.ClassFans", spec := "classFans", inPlace := ["internal/abi.NoEscape", "internal/bytealg.abigen_runtime_cmpstring"], unfollowed := true, recurses := true, apart := false }
def ClassFansSaid : Prop := classFansRow.holds Try.pinned (OpenSpec.ofChange classFansSpec)

/-- ITS FALSE NEIGHBOUR: 'it returns false'. Refute it at one input. -/
def classFansWrong : ChangeSpec := { name := "classFans", fn := fun _ => fun
  | [d] => { results := [.lit (.bool false)], args := [d] }
  | _ => none }
def ClassFansWrongFalsely : Prop := classFansRow.holds Try.pinned (OpenSpec.ofChange classFansWrong)

/- THE SECOND FORM. 'bulk': how many values and letters a reading holds, each counted each time it is reached (what is shared counts as often as it is met; a slice's spare places count too). A statement '..UptoSaid' is the law's where the arguments, and the package variables that the reading takes, are together of bulk at most 1048576: NARROWER than '..Said'. Prove '..Said' where nothing that the law and all that it calls make is longer than what came in: it says more and counts as full. Else prove '..UptoSaid'. A law counts once. -/
mutual
def uptoBulk {H : Type} : DataW H → Nat
  | .lit (.string bytes) => bytes.length + 1
  | .lit _ => 1
  | .nil => 1
  | .ptr d => uptoBulk d + 1
  | .slice elems spare => uptoBulkAll elems + uptoBulkAll spare + 1
  | .agg parts => uptoBulkAll parts + 1
  | .iface _ d => uptoBulk d + 1
  | .map entries => uptoBulkEntries entries + 1
  | .held _ => 1
def uptoBulkAll {H : Type} : List (DataW H) → Nat
  | [] => 0
  | d :: r => uptoBulk d + uptoBulkAll r
def uptoBulkEntries {H : Type} : List (Lit × DataW H) → Nat
  | [] => 0
  | x :: r => uptoBulkEntry x + uptoBulkEntries r
def uptoBulkEntry {H : Type} : Lit × DataW H → Nat
  | (.string bytes, d) => bytes.length + uptoBulk d + 1
  | (_, d) => uptoBulk d + 1
 end
def uptoSmall : (H : Type) → List (DataW H) → Bool := fun _ ds => decide (uptoBulkAll ds ≤ 1048576)
def OpenSpec.upto (s : _root_.Go.ChangeSpec) : _root_.Go.OpenSpec := { _root_.Go.OpenSpec.ofChange s with cond := some uptoSmall }

/-- 'gossamerlaw48.DigestIs', WHERE WHAT IT READS IS OF BULK AT MOST 1048576: true; the input reads as it did. -/
def digestIsUptoRow : OpenClaim := { program := "ytmcghchhegfilaa", sum := "7cb3a8b66c3a36df902b7678a90321dac3b1925bcfd6bf6d98544947b18a0954", func := "gossamer/gossamerlaw48.DigestIs", spec := "digestIs", inPlace := ["internal/abi.NoEscape", "internal/bytealg.abigen_runtime_cmpstring"], unfollowed := true, recurses := true, apart := false, narrowed := true }
def DigestIsUptoSaid : Prop := digestIsUptoRow.holds Try.pinned (OpenSpec.upto digestIsSpec)

/-- 'gossamerlaw48.DigestSame', WHERE WHAT IT READS IS OF BULK AT MOST 1048576: true; the input reads as it did. -/
def digestSameUptoRow : OpenClaim := { program := "ytmcghchhegfilaa", sum := "7cb3a8b66c3a36df902b7678a90321dac3b1925bcfd6bf6d98544947b18a0954", func := "gossamer/gossamerlaw48.DigestSame", spec := "digestSame", inPlace := ["internal/abi.NoEscape", "internal/bytealg.abigen_runtime_cmpstring"], unfollowed := true, recurses := true, apart := false, narrowed := true }
def DigestSameUptoSaid : Prop := digestSameUptoRow.holds Try.pinned (OpenSpec.upto digestSameSpec)

/-- 'gossamerlaw48.DigestAfter', WHERE WHAT IT READS IS OF BULK AT MOST 1048576: true; the input reads as it did. -/
def digestAfterUptoRow : OpenClaim := { program := "ytmcghchhegfilaa", sum := "7cb3a8b66c3a36df902b7678a90321dac3b1925bcfd6bf6d98544947b18a0954", func := "gossamer/gossamerlaw48.DigestAfter", spec := "digestAfter", inPlace := ["internal/abi.NoEscape", "internal/bytealg.abigen_runtime_cmpstring"], unfollowed := true, recurses := true, apart := false, narrowed := true }
def DigestAfterUptoSaid : Prop := digestAfterUptoRow.holds Try.pinned (OpenSpec.upto digestAfterSpec)

/-- 'gossamerlaw48.DigestByte', WHERE WHAT IT READS IS OF BULK AT MOST 1048576: true; the input reads as it did. -/
def digestByteUptoRow : OpenClaim := { program := "ytmcghchhegfilaa", sum := "7cb3a8b66c3a36df902b7678a90321dac3b1925bcfd6bf6d98544947b18a0954", func := "gossamer/gossamerlaw48.DigestByte", spec := "digestByte", inPlace := ["internal/abi.NoEscape", "internal/bytealg.abigen_runtime_cmpstring"], unfollowed := true, recurses := true, apart := false, narrowed := true }
def DigestByteUptoSaid : Prop := digestByteUptoRow.holds Try.pinned (OpenSpec.upto digestByteSpec)

/-- 'gossamerlaw21.ClassIs', WHERE WHAT IT READS IS OF BULK AT MOST 1048576: true; the input reads as it did. -/
def classIsUptoRow : OpenClaim := { program := "ytmcghchhegfilaa", sum := "7cb3a8b66c3a36df902b7678a90321dac3b1925bcfd6bf6d98544947b18a0954", func := "gossamer/gossamerlaw21.ClassIs", spec := "classIs", inPlace := ["internal/abi.NoEscape", "internal/bytealg.abigen_runtime_cmpstring"], unfollowed := true, recurses := true, apart := false, narrowed := true }
def ClassIsUptoSaid : Prop := classIsUptoRow.holds Try.pinned (OpenSpec.upto classIsSpec)

/-- 'gossamerlaw21.ClassBelow', WHERE WHAT IT READS IS OF BULK AT MOST 1048576: true; the input reads as it did. -/
def classBelowUptoRow : OpenClaim := { program := "ytmcghchhegfilaa", sum := "7cb3a8b66c3a36df902b7678a90321dac3b1925bcfd6bf6d98544947b18a0954", func := "gossamer/gossamerlaw21.ClassBelow", spec := "classBelow", inPlace := ["internal/abi.NoEscape", "internal/bytealg.abigen_runtime_cmpstring"], unfollowed := true, recurses := true, apart := false, narrowed := true }
def ClassBelowUptoSaid : Prop := classBelowUptoRow.holds Try.pinned (OpenSpec.upto classBelowSpec)

/-- 'gossamerlaw21.ClassFans', WHERE WHAT IT READS IS OF BULK AT MOST 1048576: true; the input reads as it did. -/
def classFansUptoRow : OpenClaim := { program := "ytmcghchhegfilaa", sum := "7cb3a8b66c3a36df902b7678a90321dac3b1925bcfd6bf6d98544947b18a0954", func := "gossamer/gossamerlaw21.ClassFans", spec := "classFans", inPlace := ["internal/abi.NoEscape", "internal/bytealg.abigen_runtime_cmpstring"], unfollowed := true, recurses := true, apart := false, narrowed := true }
def ClassFansUptoSaid : Prop := classFansUptoRow.holds Try.pinned (OpenSpec.upto classFansSpec)

end Rows
end Go.Proofs.Ytmcghchhegfilaa
