/-
  No cell of these rows narrows 'for every input' (looked for: loops, veiled, ifaces, maps, wideKeys, modest, calm, conditions, laid).
  DERIVED. THE GIVEN ROWS OF THIS SEAT. 10 by the template 'for every input the law returns true; each argument reads behind the call as it read before'; 0 by the template 'total and deterministic' (their statements: YtgfjpnpbkkadpaaGreatTotals.lean).
  GIVEN WITH THE SEED: the statements are not yours to turn. If you find one false, say at which input.
  Laid BY PROGRAM, IN A SANDBOX (cutbox-rows.mjs): the forced cells as the released guide's own fill.sh prints them over the translation 1dd55a7a03b06303… (all of the seat's roots in one cut). By AI agents, Wed Nov 11 2026. No macro, syntax, notation, axiom, sorry.
-/
import Derived.Test.YtgfjpnpbkkadpaaGreatChecked
import GoSem.Claim
import GoSem.ClaimJoined
import GoSem.ClaimMapViews
import Derived.JoinedTies
import Derived.KernelRfl
namespace Go.Proofs.YtgfjpnpbkkadpaaGreat
/- THE CELL 'sum', in the pinned program and in every row, IS THE sha256 OF THE DUMP (.gsa) THAT YtgfjpnpbkkadpaaGreatProg.lean LOADS. Nothing in Lean hashes anything: it is a label: what it is worth is what the hold of that sum in a sandbox is worth. -/
noncomputable def Tryz.pinned : Pinned := { name := "ytgfjpnpbkkadpaagreat", sum := "1dd55a7a03b06303128a62104d3a167200849d92f011fc0fa8046b6f9e71d339", checked := Tryz.checked }
namespace Rows
def none {H : Type} : Left H := { results := [], args := [] }

/-- 'gossamerlaw47.SeriesPlays': WHATEVER THE INPUT: true; the input reads as it did. -/
def seriesPlaysSpec : ChangeSpec := { name := "seriesPlays", fn := fun _ => fun
  | [d1, d2] => { results := [.lit (.bool true)], args := [d1, d2] }
  | _ => none }
def seriesPlaysRow : OpenClaim := { program := "ytgfjpnpbkkadpaagreat", sum := "1dd55a7a03b06303128a62104d3a167200849d92f011fc0fa8046b6f9e71d339", func := "gossamer/gossamerlaw47.SeriesPlays", spec := "seriesPlays", inPlace := ["internal/abi.NoEscape", "internal/bytealg.abigen_runtime_cmpstring"], unfollowed := true, recurses := true, plainKeys := false, apart := false }
def SeriesPlaysSaid : Prop := seriesPlaysRow.holds Tryz.pinned (OpenSpec.ofChange seriesPlaysSpec)

/-- ITS FALSE NEIGHBOUR: 'it returns false'. Refute it at one input. -/
def seriesPlaysWrong : ChangeSpec := { name := "seriesPlays", fn := fun _ => fun
  | [d1, d2] => { results := [.lit (.bool false)], args := [d1, d2] }
  | _ => none }
def SeriesPlaysWrongFalsely : Prop := seriesPlaysRow.holds Tryz.pinned (OpenSpec.ofChange seriesPlaysWrong)

/-- 'gossamerlaw47.SeriesFinds': WHATEVER THE INPUT: true; the input reads as it did. -/
def seriesFindsSpec : ChangeSpec := { name := "seriesFinds", fn := fun _ => fun
  | [d1, d2] => { results := [.lit (.bool true)], args := [d1, d2] }
  | _ => none }
def seriesFindsRow : OpenClaim := { program := "ytgfjpnpbkkadpaagreat", sum := "1dd55a7a03b06303128a62104d3a167200849d92f011fc0fa8046b6f9e71d339", func := "gossamer/gossamerlaw47.SeriesFinds", spec := "seriesFinds", inPlace := ["internal/abi.NoEscape", "internal/bytealg.abigen_runtime_cmpstring"], unfollowed := true, recurses := true, plainKeys := false, apart := false }
def SeriesFindsSaid : Prop := seriesFindsRow.holds Tryz.pinned (OpenSpec.ofChange seriesFindsSpec)

/-- ITS FALSE NEIGHBOUR: 'it returns false'. Refute it at one input. -/
def seriesFindsWrong : ChangeSpec := { name := "seriesFinds", fn := fun _ => fun
  | [d1, d2] => { results := [.lit (.bool false)], args := [d1, d2] }
  | _ => none }
def SeriesFindsWrongFalsely : Prop := seriesFindsRow.holds Tryz.pinned (OpenSpec.ofChange seriesFindsWrong)

/-- 'gossamerlaw47.SeriesGiven': WHATEVER THE INPUT: true; the input reads as it did. -/
def seriesGivenSpec : ChangeSpec := { name := "seriesGiven", fn := fun _ => fun
  | [d1, d2, d3] => { results := [.lit (.bool true)], args := [d1, d2, d3] }
  | _ => none }
def seriesGivenRow : OpenClaim := { program := "ytgfjpnpbkkadpaagreat", sum := "1dd55a7a03b06303128a62104d3a167200849d92f011fc0fa8046b6f9e71d339", func := "gossamer/gossamerlaw47.SeriesGiven", spec := "seriesGiven", inPlace := ["internal/abi.NoEscape", "internal/bytealg.abigen_runtime_cmpstring"], unfollowed := true, recurses := true, plainKeys := false, apart := false }
def SeriesGivenSaid : Prop := seriesGivenRow.holds Tryz.pinned (OpenSpec.ofChange seriesGivenSpec)

/-- ITS FALSE NEIGHBOUR: 'it returns false'. Refute it at one input. -/
def seriesGivenWrong : ChangeSpec := { name := "seriesGiven", fn := fun _ => fun
  | [d1, d2, d3] => { results := [.lit (.bool false)], args := [d1, d2, d3] }
  | _ => none }
def SeriesGivenWrongFalsely : Prop := seriesGivenRow.holds Tryz.pinned (OpenSpec.ofChange seriesGivenWrong)

/-- 'gossamerlaw22.DredPlays': WHATEVER THE INPUT: true; the input reads as it did. -/
def dredPlaysSpec : ChangeSpec := { name := "dredPlays", fn := fun _ => fun
  | [d] => { results := [.lit (.bool true)], args := [d] }
  | _ => none }
def dredPlaysRow : OpenClaim := { program := "ytgfjpnpbkkadpaagreat", sum := "1dd55a7a03b06303128a62104d3a167200849d92f011fc0fa8046b6f9e71d339", func := "gossamer/gossamerlaw22.DredPlays", spec := "dredPlays", inPlace := ["internal/abi.NoEscape", "internal/bytealg.abigen_runtime_cmpstring"], unfollowed := true, recurses := true, plainKeys := false, apart := false }
def DredPlaysSaid : Prop := dredPlaysRow.holds Tryz.pinned (OpenSpec.ofChange dredPlaysSpec)

/-- ITS FALSE NEIGHBOUR: 'it returns false'. Refute it at one input. -/
def dredPlaysWrong : ChangeSpec := { name := "dredPlays", fn := fun _ => fun
  | [d] => { results := [.lit (.bool false)], args := [d] }
  | _ => none }
def DredPlaysWrongFalsely : Prop := dredPlaysRow.holds Tryz.pinned (OpenSpec.ofChange dredPlaysWrong)

/-- 'gossamerlaw22.DredShifts': WHATEVER THE INPUT: true; the input reads as it did. -/
def dredShiftsSpec : ChangeSpec := { name := "dredShifts", fn := fun _ => fun
  | [d] => { results := [.lit (.bool true)], args := [d] }
  | _ => none }
def dredShiftsRow : OpenClaim := { program := "ytgfjpnpbkkadpaagreat", sum := "1dd55a7a03b06303128a62104d3a167200849d92f011fc0fa8046b6f9e71d339", func := "gossamer/gossamerlaw22.DredShifts", spec := "dredShifts", inPlace := ["internal/abi.NoEscape", "internal/bytealg.abigen_runtime_cmpstring"], unfollowed := true, recurses := true, plainKeys := false, apart := false }
def DredShiftsSaid : Prop := dredShiftsRow.holds Tryz.pinned (OpenSpec.ofChange dredShiftsSpec)

/-- ITS FALSE NEIGHBOUR: 'it returns false'. Refute it at one input. -/
def dredShiftsWrong : ChangeSpec := { name := "dredShifts", fn := fun _ => fun
  | [d] => { results := [.lit (.bool false)], args := [d] }
  | _ => none }
def DredShiftsWrongFalsely : Prop := dredShiftsRow.holds Tryz.pinned (OpenSpec.ofChange dredShiftsWrong)

/-- 'gossamerlaw22.DredSteps': WHATEVER THE INPUT: true; the input reads as it did. -/
def dredStepsSpec : ChangeSpec := { name := "dredSteps", fn := fun _ => fun
  | [d] => { results := [.lit (.bool true)], args := [d] }
  | _ => none }
def dredStepsRow : OpenClaim := { program := "ytgfjpnpbkkadpaagreat", sum := "1dd55a7a03b06303128a62104d3a167200849d92f011fc0fa8046b6f9e71d339", func := "gossamer/gossamerlaw22.DredSteps", spec := "dredSteps", inPlace := ["internal/abi.NoEscape", "internal/bytealg.abigen_runtime_cmpstring"], unfollowed := true, recurses := true, plainKeys := false, apart := false }
def DredStepsSaid : Prop := dredStepsRow.holds Tryz.pinned (OpenSpec.ofChange dredStepsSpec)

/-- ITS FALSE NEIGHBOUR: 'it returns false'. Refute it at one input. -/
def dredStepsWrong : ChangeSpec := { name := "dredSteps", fn := fun _ => fun
  | [d] => { results := [.lit (.bool false)], args := [d] }
  | _ => none }
def DredStepsWrongFalsely : Prop := dredStepsRow.holds Tryz.pinned (OpenSpec.ofChange dredStepsWrong)

/-- 'gossamerlaw22.DredGiven': WHATEVER THE INPUT: true; the input reads as it did. -/
def dredGivenSpec : ChangeSpec := { name := "dredGiven", fn := fun _ => fun
  | [d1, d2, d3] => { results := [.lit (.bool true)], args := [d1, d2, d3] }
  | _ => none }
def dredGivenRow : OpenClaim := { program := "ytgfjpnpbkkadpaagreat", sum := "1dd55a7a03b06303128a62104d3a167200849d92f011fc0fa8046b6f9e71d339", func := "gossamer/gossamerlaw22.DredGiven", spec := "dredGiven", inPlace := ["internal/abi.NoEscape", "internal/bytealg.abigen_runtime_cmpstring"], unfollowed := true, recurses := true, plainKeys := false, apart := false }
def DredGivenSaid : Prop := dredGivenRow.holds Tryz.pinned (OpenSpec.ofChange dredGivenSpec)

/-- ITS FALSE NEIGHBOUR: 'it returns false'. Refute it at one input. -/
def dredGivenWrong : ChangeSpec := { name := "dredGiven", fn := fun _ => fun
  | [d1, d2, d3] => { results := [.lit (.bool false)], args := [d1, d2, d3] }
  | _ => none }
def DredGivenWrongFalsely : Prop := dredGivenRow.holds Tryz.pinned (OpenSpec.ofChange dredGivenWrong)

/-- 'gossamerlaw22.DredFinds': WHATEVER THE INPUT: true; the input reads as it did. -/
def dredFindsSpec : ChangeSpec := { name := "dredFinds", fn := fun _ => fun
  | [d] => { results := [.lit (.bool true)], args := [d] }
  | _ => none }
def dredFindsRow : OpenClaim := { program := "ytgfjpnpbkkadpaagreat", sum := "1dd55a7a03b06303128a62104d3a167200849d92f011fc0fa8046b6f9e71d339", func := "gossamer/gossamerlaw22.DredFinds", spec := "dredFinds", inPlace := ["internal/abi.NoEscape", "internal/bytealg.abigen_runtime_cmpstring"], unfollowed := true, recurses := true, plainKeys := false, apart := false }
def DredFindsSaid : Prop := dredFindsRow.holds Tryz.pinned (OpenSpec.ofChange dredFindsSpec)

/-- ITS FALSE NEIGHBOUR: 'it returns false'. Refute it at one input. -/
def dredFindsWrong : ChangeSpec := { name := "dredFinds", fn := fun _ => fun
  | [d] => { results := [.lit (.bool false)], args := [d] }
  | _ => none }
def DredFindsWrongFalsely : Prop := dredFindsRow.holds Tryz.pinned (OpenSpec.ofChange dredFindsWrong)

/-- 'gossamerlaw23.ShapeSums': WHATEVER THE INPUT: true; the input reads as it did. -/
def shapeSumsSpec : ChangeSpec := { name := "shapeSums", fn := fun _ => fun
  | [d] => { results := [.lit (.bool true)], args := [d] }
  | _ => none }
def shapeSumsRow : OpenClaim := { program := "ytgfjpnpbkkadpaagreat", sum := "1dd55a7a03b06303128a62104d3a167200849d92f011fc0fa8046b6f9e71d339", func := "gossamer/gossamerlaw23.ShapeSums", spec := "shapeSums", inPlace := ["internal/abi.NoEscape", "internal/bytealg.abigen_runtime_cmpstring"], unfollowed := true, recurses := true, plainKeys := false, apart := false }
def ShapeSumsSaid : Prop := shapeSumsRow.holds Tryz.pinned (OpenSpec.ofChange shapeSumsSpec)

/-- ITS FALSE NEIGHBOUR: 'it returns false'. Refute it at one input. -/
def shapeSumsWrong : ChangeSpec := { name := "shapeSums", fn := fun _ => fun
  | [d] => { results := [.lit (.bool false)], args := [d] }
  | _ => none }
def ShapeSumsWrongFalsely : Prop := shapeSumsRow.holds Tryz.pinned (OpenSpec.ofChange shapeSumsWrong)

/-- 'gossamerlaw23.ShapeFollows': WHATEVER THE INPUT: true; the input reads as it did. -/
def shapeFollowsSpec : ChangeSpec := { name := "shapeFollows", fn := fun _ => fun
  | [d] => { results := [.lit (.bool true)], args := [d] }
  | _ => none }
def shapeFollowsRow : OpenClaim := { program := "ytgfjpnpbkkadpaagreat", sum := "1dd55a7a03b06303128a62104d3a167200849d92f011fc0fa8046b6f9e71d339", func := "gossamer/gossamerlaw23.ShapeFollows", spec := "shapeFollows", inPlace := ["internal/abi.NoEscape", "internal/bytealg.abigen_runtime_cmpstring"], unfollowed := true, recurses := true, plainKeys := false, apart := false }
def ShapeFollowsSaid : Prop := shapeFollowsRow.holds Tryz.pinned (OpenSpec.ofChange shapeFollowsSpec)

/-- ITS FALSE NEIGHBOUR: 'it returns false'. Refute it at one input. -/
def shapeFollowsWrong : ChangeSpec := { name := "shapeFollows", fn := fun _ => fun
  | [d] => { results := [.lit (.bool false)], args := [d] }
  | _ => none }
def ShapeFollowsWrongFalsely : Prop := shapeFollowsRow.holds Tryz.pinned (OpenSpec.ofChange shapeFollowsWrong)

/- THE SECOND FORM. 'bulk': how many values and letters a reading holds, each counted each time it is reached (what is shared counts as often as it is met; a slice's spare places count too). A statement '..UptoSaid' is the law's where the arguments, and the package variables that the reading takes, are together of bulk at most 1048576: NARROWER than '..Said'. Prove '..Said' where nothing that the law and all that it calls make is longer than what came in: it says more and counts as full. Else prove '..UptoSaid'. A law counts once. -/
mutual
def uptoBulk {H : Type} : DataW H → Nat
  | .lit (.string bytes) => bytes.length + 1
  | .lit _ => 1
  | .nil => 1
  | .ptr d => uptoBulk d + 1
  | .slice elems spare => uptoBulkAll elems + uptoBulkAll spare + 1
  | .agg parts => uptoBulkAll parts + 1
  | .iface _ d => uptoBulk d + 1
  | .map entries => uptoBulkEntries entries + 1
  | .held _ => 1
def uptoBulkAll {H : Type} : List (DataW H) → Nat
  | [] => 0
  | d :: r => uptoBulk d + uptoBulkAll r
def uptoBulkEntries {H : Type} : List (Lit × DataW H) → Nat
  | [] => 0
  | x :: r => uptoBulkEntry x + uptoBulkEntries r
def uptoBulkEntry {H : Type} : Lit × DataW H → Nat
  | (.string bytes, d) => bytes.length + uptoBulk d + 1
  | (_, d) => uptoBulk d + 1
 end
def uptoSmall : (H : Type) → List (DataW H) → Bool := fun _ ds => decide (uptoBulkAll ds ≤ 1048576)
def OpenSpec.upto (s : _root_.Go.ChangeSpec) : _root_.Go.OpenSpec := { _root_.Go.OpenSpec.ofChange s with cond := some uptoSmall }

/-- 'gossamerlaw47.SeriesPlays', WHERE WHAT IT READS IS OF BULK AT MOST 1048576: true; the input reads as it did. -/
def seriesPlaysUptoRow : OpenClaim := { program := "ytgfjpnpbkkadpaagreat", sum := "1dd55a7a03b06303128a62104d3a167200849d92f011fc0fa8046b6f9e71d339", func := "gossamer/gossamerlaw47.SeriesPlays", spec := "seriesPlays", inPlace := ["internal/abi.NoEscape", "internal/bytealg.abigen_runtime_cmpstring"], unfollowed := true, recurses := true, plainKeys := false, apart := false, narrowed := true }
def SeriesPlaysUptoSaid : Prop := seriesPlaysUptoRow.holds Tryz.pinned (OpenSpec.upto seriesPlaysSpec)

/-- 'gossamerlaw47.SeriesFinds', WHERE WHAT IT READS IS OF BULK AT MOST 1048576: true; the input reads as it did. -/
def seriesFindsUptoRow : OpenClaim := { program := "ytgfjpnpbkkadpaagreat", sum := "1dd55a7a03b06303128a62104d3a167200849d92f011fc0fa8046b6f9e71d339", func := "gossamer/gossamerlaw47.SeriesFinds", spec := "seriesFinds", inPlace := ["internal/abi.NoEscape", "internal/bytealg.abigen_runtime_cmpstring"], unfollowed := true, recurses := true, plainKeys := false, apart := false, narrowed := true }
def SeriesFindsUptoSaid : Prop := seriesFindsUptoRow.holds Tryz.pinned (OpenSpec.upto seriesFindsSpec)

/-- 'gossamerlaw47.SeriesGiven', WHERE WHAT IT READS IS OF BULK AT MOST 1048576: true; the input reads as it did. -/
def seriesGivenUptoRow : OpenClaim := { program := "ytgfjpnpbkkadpaagreat", sum := "1dd55a7a03b06303128a62104d3a167200849d92f011fc0fa8046b6f9e71d339", func := "gossamer/gossamerlaw47.SeriesGiven", spec := "seriesGiven", inPlace := ["internal/abi.NoEscape", "internal/bytealg.abigen_runtime_cmpstring"], unfollowed := true, recurses := true, plainKeys := false, apart := false, narrowed := true }
def SeriesGivenUptoSaid : Prop := seriesGivenUptoRow.holds Tryz.pinned (OpenSpec.upto seriesGivenSpec)

/-- 'gossamerlaw22.DredPlays', WHERE WHAT IT READS IS OF BULK AT MOST 1048576: true; the input reads as it did. -/
def dredPlaysUptoRow : OpenClaim := { program := "ytgfjpnpbkkadpaagreat", sum := "1dd55a7a03b06303128a62104d3a167200849d92f011fc0fa8046b6f9e71d339", func := "gossamer/gossamerlaw22.DredPlays", spec := "dredPlays", inPlace := ["internal/abi.NoEscape", "internal/bytealg.abigen_runtime_cmpstring"], unfollowed := true, recurses := true, plainKeys := false, apart := false, narrowed := true }
def DredPlaysUptoSaid : Prop := dredPlaysUptoRow.holds Tryz.pinned (OpenSpec.upto dredPlaysSpec)

/-- 'gossamerlaw22.DredShifts', WHERE WHAT IT READS IS OF BULK AT MOST 1048576: true; the input reads as it did. -/
def dredShiftsUptoRow : OpenClaim := { program := "ytgfjpnpbkkadpaagreat", sum := "1dd55a7a03b06303128a62104d3a167200849d92f011fc0fa8046b6f9e71d339", func := "gossamer/gossamerlaw22.DredShifts", spec := "dredShifts", inPlace := ["internal/abi.NoEscape", "internal/bytealg.abigen_runtime_cmpstring"], unfollowed := true, recurses := true, plainKeys := false, apart := false, narrowed := true }
def DredShiftsUptoSaid : Prop := dredShiftsUptoRow.holds Tryz.pinned (OpenSpec.upto dredShiftsSpec)

/-- 'gossamerlaw22.DredSteps', WHERE WHAT IT READS IS OF BULK AT MOST 1048576: true; the input reads as it did. -/
def dredStepsUptoRow : OpenClaim := { program := "ytgfjpnpbkkadpaagreat", sum := "1dd55a7a03b06303128a62104d3a167200849d92f011fc0fa8046b6f9e71d339", func := "gossamer/gossamerlaw22.DredSteps", spec := "dredSteps", inPlace := ["internal/abi.NoEscape", "internal/bytealg.abigen_runtime_cmpstring"], unfollowed := true, recurses := true, plainKeys := false, apart := false, narrowed := true }
def DredStepsUptoSaid : Prop := dredStepsUptoRow.holds Tryz.pinned (OpenSpec.upto dredStepsSpec)

/-- 'gossamerlaw22.DredGiven', WHERE WHAT IT READS IS OF BULK AT MOST 1048576: true; the input reads as it did. -/
def dredGivenUptoRow : OpenClaim := { program := "ytgfjpnpbkkadpaagreat", sum := "1dd55a7a03b06303128a62104d3a167200849d92f011fc0fa8046b6f9e71d339", func := "gossamer/gossamerlaw22.DredGiven", spec := "dredGiven", inPlace := ["internal/abi.NoEscape", "internal/bytealg.abigen_runtime_cmpstring"], unfollowed := true, recurses := true, plainKeys := false, apart := false, narrowed := true }
def DredGivenUptoSaid : Prop := dredGivenUptoRow.holds Tryz.pinned (OpenSpec.upto dredGivenSpec)

/-- 'gossamerlaw22.DredFinds', WHERE WHAT IT READS IS OF BULK AT MOST 1048576: true; the input reads as it did. -/
def dredFindsUptoRow : OpenClaim := { program := "ytgfjpnpbkkadpaagreat", sum := "1dd55a7a03b06303128a62104d3a167200849d92f011fc0fa8046b6f9e71d339", func := "gossamer/gossamerlaw22.DredFinds", spec := "dredFinds", inPlace := ["internal/abi.NoEscape", "internal/bytealg.abigen_runtime_cmpstring"], unfollowed := true, recurses := true, plainKeys := false, apart := false, narrowed := true }
def DredFindsUptoSaid : Prop := dredFindsUptoRow.holds Tryz.pinned (OpenSpec.upto dredFindsSpec)

/-- 'gossamerlaw23.ShapeSums', WHERE WHAT IT READS IS OF BULK AT MOST 1048576: true; the input reads as it did. -/
def shapeSumsUptoRow : OpenClaim := { program := "ytgfjpnpbkkadpaagreat", sum := "1dd55a7a03b06303128a62104d3a167200849d92f011fc0fa8046b6f9e71d339", func := "gossamer/gossamerlaw23.ShapeSums", spec := "shapeSums", inPlace := ["internal/abi.NoEscape", "internal/bytealg.abigen_runtime_cmpstring"], unfollowed := true, recurses := true, plainKeys := false, apart := false, narrowed := true }
def ShapeSumsUptoSaid : Prop := shapeSumsUptoRow.holds Tryz.pinned (OpenSpec.upto shapeSumsSpec)

/-- 'gossamerlaw23.ShapeFollows', WHERE WHAT IT READS IS OF BULK AT MOST 1048576: true; the input reads as it did. -/
def shapeFollowsUptoRow : OpenClaim := { program := "ytgfjpnpbkkadpaagreat", sum := "1dd55a7a03b06303128a62104d3a167200849d92f011fc0fa8046b6f9e71d339", func := "gossamer/gossamerlaw23.ShapeFollows", spec := "shapeFollows", inPlace := ["internal/abi.NoEscape", "internal/bytealg.abigen_runtime_cmpstring"], unfollowed := true, recurses := true, plainKeys := false, apart := false, narrowed := true }
def ShapeFollowsUptoSaid : Prop := shapeFollowsUptoRow.holds Tryz.pinned (OpenSpec.upto shapeFollowsSpec)

end Rows
end Go.Proofs.YtgfjpnpbkkadpaaGreat
