/-
  No cell of these rows narrows 'for every input' (looked for: loops, veiled, ifaces, maps, wideKeys, modest, calm, conditions, laid).
  DERIVED. THE GIVEN ROWS OF THIS SEAT. 10 by the template 'for every input the law returns true; each argument reads behind the call as it read before'; 0 by the template 'total and deterministic' (their statements: YtdpngmgaomghoaaGreatTotals.lean).
  GIVEN WITH THE SEED: the statements are not yours to turn. If you find one false, say at which input.
  Laid BY PROGRAM, IN A SANDBOX (cutbox-rows.mjs): the forced cells as the released guide's own fill.sh prints them over the translation 552d4ddcfe78a79d… (all of the seat's roots in one cut). By AI agents, Wed Nov 11 2026. No macro, syntax, notation, axiom, sorry.
-/
import Derived.Test.YtdpngmgaomghoaaGreatChecked
import GoSem.Claim
import GoSem.ClaimJoined
import GoSem.ClaimMapViews
import Derived.JoinedTies
import Derived.KernelRfl
namespace Go.Proofs.YtdpngmgaomghoaaGreat
/- THE CELL 'sum', in the pinned program and in every row, IS THE sha256 OF THE DUMP (.gsa) THAT YtdpngmgaomghoaaGreatProg.lean LOADS. Nothing in Lean hashes anything: it is a label: what it is worth is what the hold of that sum in a sandbox is worth. -/
noncomputable def Tryz.pinned : Pinned := { name := "ytdpngmgaomghoaagreat", sum := "552d4ddcfe78a79ddaf010a53a889e655eb72bfdb4dd29dabfdb01c7f0d2c6e6", checked := Tryz.checked }
namespace Rows
def none {H : Type} : Left H := { results := [], args := [] }

/-- 'gossamerlaw19.JoinStore': WHATEVER THE INPUT: true; the input reads as it did. -/
def joinStoreSpec : ChangeSpec := { name := "joinStore", fn := fun _ => fun
  | [d1, d2, d3] => { results := [.lit (.bool true)], args := [d1, d2, d3] }
  | _ => none }
def joinStoreRow : OpenClaim := { program := "ytdpngmgaomghoaagreat", sum := "552d4ddcfe78a79ddaf010a53a889e655eb72bfdb4dd29dabfdb01c7f0d2c6e6", func := "gossamer/gossamerlaw19.JoinStore", spec := "joinStore", inPlace := ["internal/abi.NoEscape", "internal/bytealg.abigen_runtime_cmpstring"], unfollowed := true, recurses := true, apart := false }
def JoinStoreSaid : Prop := joinStoreRow.holds Tryz.pinned (OpenSpec.ofChange joinStoreSpec)

/-- ITS FALSE NEIGHBOUR: 'it returns false'. Refute it at one input. -/
def joinStoreWrong : ChangeSpec := { name := "joinStore", fn := fun _ => fun
  | [d1, d2, d3] => { results := [.lit (.bool false)], args := [d1, d2, d3] }
  | _ => none }
def JoinStoreWrongFalsely : Prop := joinStoreRow.holds Tryz.pinned (OpenSpec.ofChange joinStoreWrong)

/-- 'gossamerlaw26.OpsPlays': WHATEVER THE INPUT: true; the input reads as it did. -/
def opsPlaysSpec : ChangeSpec := { name := "opsPlays", fn := fun _ => fun
  | [d1, d2] => { results := [.lit (.bool true)], args := [d1, d2] }
  | _ => none }
def opsPlaysRow : OpenClaim := { program := "ytdpngmgaomghoaagreat", sum := "552d4ddcfe78a79ddaf010a53a889e655eb72bfdb4dd29dabfdb01c7f0d2c6e6", func := "gossamer/gossamerlaw26.OpsPlays", spec := "opsPlays", inPlace := ["internal/abi.NoEscape", "internal/bytealg.abigen_runtime_cmpstring", "internal/bytealg.IndexByteString", "internal/bytealg.IndexString"], unfollowed := true, recurses := true, named := ["internal/bytealg.MaxLen"], apart := false }
def OpsPlaysSaid : Prop := opsPlaysRow.holds Tryz.pinned (OpenSpec.ofChange opsPlaysSpec)

/-- ITS FALSE NEIGHBOUR: 'it returns false'. Refute it at one input. -/
def opsPlaysWrong : ChangeSpec := { name := "opsPlays", fn := fun _ => fun
  | [d1, d2] => { results := [.lit (.bool false)], args := [d1, d2] }
  | _ => none }
def OpsPlaysWrongFalsely : Prop := opsPlaysRow.holds Tryz.pinned (OpenSpec.ofChange opsPlaysWrong)

/-- 'gossamerlaw26.OpsSums': WHATEVER THE INPUT: true; the input reads as it did. -/
def opsSumsSpec : ChangeSpec := { name := "opsSums", fn := fun _ => fun
  | [d] => { results := [.lit (.bool true)], args := [d] }
  | _ => none }
def opsSumsRow : OpenClaim := { program := "ytdpngmgaomghoaagreat", sum := "552d4ddcfe78a79ddaf010a53a889e655eb72bfdb4dd29dabfdb01c7f0d2c6e6", func := "gossamer/gossamerlaw26.OpsSums", spec := "opsSums", inPlace := ["internal/abi.NoEscape", "internal/bytealg.abigen_runtime_cmpstring", "internal/bytealg.IndexByteString", "internal/bytealg.IndexString"], unfollowed := true, recurses := true, named := ["internal/bytealg.MaxLen"], apart := false }
def OpsSumsSaid : Prop := opsSumsRow.holds Tryz.pinned (OpenSpec.ofChange opsSumsSpec)

/-- ITS FALSE NEIGHBOUR: 'it returns false'. Refute it at one input. -/
def opsSumsWrong : ChangeSpec := { name := "opsSums", fn := fun _ => fun
  | [d] => { results := [.lit (.bool false)], args := [d] }
  | _ => none }
def OpsSumsWrongFalsely : Prop := opsSumsRow.holds Tryz.pinned (OpenSpec.ofChange opsSumsWrong)

/-- 'gossamerlaw26.OpsFinds': WHATEVER THE INPUT: true; the input reads as it did. -/
def opsFindsSpec : ChangeSpec := { name := "opsFinds", fn := fun _ => fun
  | [d] => { results := [.lit (.bool true)], args := [d] }
  | _ => none }
def opsFindsRow : OpenClaim := { program := "ytdpngmgaomghoaagreat", sum := "552d4ddcfe78a79ddaf010a53a889e655eb72bfdb4dd29dabfdb01c7f0d2c6e6", func := "gossamer/gossamerlaw26.OpsFinds", spec := "opsFinds", inPlace := ["internal/abi.NoEscape", "internal/bytealg.abigen_runtime_cmpstring", "internal/bytealg.IndexByteString", "internal/bytealg.IndexString"], unfollowed := true, recurses := true, named := ["internal/bytealg.MaxLen"], apart := false }
def OpsFindsSaid : Prop := opsFindsRow.holds Tryz.pinned (OpenSpec.ofChange opsFindsSpec)

/-- ITS FALSE NEIGHBOUR: 'it returns false'. Refute it at one input. -/
def opsFindsWrong : ChangeSpec := { name := "opsFinds", fn := fun _ => fun
  | [d] => { results := [.lit (.bool false)], args := [d] }
  | _ => none }
def OpsFindsWrongFalsely : Prop := opsFindsRow.holds Tryz.pinned (OpenSpec.ofChange opsFindsWrong)

/-- 'gossamerlaw18.StoreTicks': WHATEVER THE INPUT: true; the input reads as it did. -/
def storeTicksSpec : ChangeSpec := { name := "storeTicks", fn := fun _ => fun
  | [d1, d2, d3] => { results := [.lit (.bool true)], args := [d1, d2, d3] }
  | _ => none }
def storeTicksRow : OpenClaim := { program := "ytdpngmgaomghoaagreat", sum := "552d4ddcfe78a79ddaf010a53a889e655eb72bfdb4dd29dabfdb01c7f0d2c6e6", func := "gossamer/gossamerlaw18.StoreTicks", spec := "storeTicks", inPlace := ["internal/abi.NoEscape", "internal/bytealg.abigen_runtime_cmpstring"], unfollowed := true, recurses := true, apart := false }
def StoreTicksSaid : Prop := storeTicksRow.holds Tryz.pinned (OpenSpec.ofChange storeTicksSpec)

/-- ITS FALSE NEIGHBOUR: 'it returns false'. Refute it at one input. -/
def storeTicksWrong : ChangeSpec := { name := "storeTicks", fn := fun _ => fun
  | [d1, d2, d3] => { results := [.lit (.bool false)], args := [d1, d2, d3] }
  | _ => none }
def StoreTicksWrongFalsely : Prop := storeTicksRow.holds Tryz.pinned (OpenSpec.ofChange storeTicksWrong)

/-- 'gossamerlaw18.StoreTells': WHATEVER THE INPUT: true; the input reads as it did. -/
def storeTellsSpec : ChangeSpec := { name := "storeTells", fn := fun _ => fun
  | [d1, d2, d3] => { results := [.lit (.bool true)], args := [d1, d2, d3] }
  | _ => none }
def storeTellsRow : OpenClaim := { program := "ytdpngmgaomghoaagreat", sum := "552d4ddcfe78a79ddaf010a53a889e655eb72bfdb4dd29dabfdb01c7f0d2c6e6", func := "gossamer/gossamerlaw18.StoreTells", spec := "storeTells", inPlace := ["internal/abi.NoEscape", "internal/bytealg.abigen_runtime_cmpstring"], unfollowed := true, recurses := true, apart := false }
def StoreTellsSaid : Prop := storeTellsRow.holds Tryz.pinned (OpenSpec.ofChange storeTellsSpec)

/-- ITS FALSE NEIGHBOUR: 'it returns false'. Refute it at one input. -/
def storeTellsWrong : ChangeSpec := { name := "storeTells", fn := fun _ => fun
  | [d1, d2, d3] => { results := [.lit (.bool false)], args := [d1, d2, d3] }
  | _ => none }
def StoreTellsWrongFalsely : Prop := storeTellsRow.holds Tryz.pinned (OpenSpec.ofChange storeTellsWrong)

/-- 'gossamerlaw18.StoreFull': WHATEVER THE INPUT: true; the input reads as it did. -/
def storeFullSpec : ChangeSpec := { name := "storeFull", fn := fun _ => fun
  | [d1, d2] => { results := [.lit (.bool true)], args := [d1, d2] }
  | _ => none }
def storeFullRow : OpenClaim := { program := "ytdpngmgaomghoaagreat", sum := "552d4ddcfe78a79ddaf010a53a889e655eb72bfdb4dd29dabfdb01c7f0d2c6e6", func := "gossamer/gossamerlaw18.StoreFull", spec := "storeFull", inPlace := ["internal/abi.NoEscape", "internal/bytealg.abigen_runtime_cmpstring"], unfollowed := true, recurses := true, apart := false }
def StoreFullSaid : Prop := storeFullRow.holds Tryz.pinned (OpenSpec.ofChange storeFullSpec)

/-- ITS FALSE NEIGHBOUR: 'it returns false'. Refute it at one input. -/
def storeFullWrong : ChangeSpec := { name := "storeFull", fn := fun _ => fun
  | [d1, d2] => { results := [.lit (.bool false)], args := [d1, d2] }
  | _ => none }
def StoreFullWrongFalsely : Prop := storeFullRow.holds Tryz.pinned (OpenSpec.ofChange storeFullWrong)

/-- 'gossamerlaw18.StoreLoads': WHATEVER THE INPUT: true; the input reads as it did. -/
def storeLoadsSpec : ChangeSpec := { name := "storeLoads", fn := fun _ => fun
  | [d1, d2, d3] => { results := [.lit (.bool true)], args := [d1, d2, d3] }
  | _ => none }
def storeLoadsRow : OpenClaim := { program := "ytdpngmgaomghoaagreat", sum := "552d4ddcfe78a79ddaf010a53a889e655eb72bfdb4dd29dabfdb01c7f0d2c6e6", func := "gossamer/gossamerlaw18.StoreLoads", spec := "storeLoads", inPlace := ["internal/abi.NoEscape", "internal/bytealg.abigen_runtime_cmpstring"], unfollowed := true, recurses := true, apart := false }
def StoreLoadsSaid : Prop := storeLoadsRow.holds Tryz.pinned (OpenSpec.ofChange storeLoadsSpec)

/-- ITS FALSE NEIGHBOUR: 'it returns false'. Refute it at one input. -/
def storeLoadsWrong : ChangeSpec := { name := "storeLoads", fn := fun _ => fun
  | [d1, d2, d3] => { results := [.lit (.bool false)], args := [d1, d2, d3] }
  | _ => none }
def StoreLoadsWrongFalsely : Prop := storeLoadsRow.holds Tryz.pinned (OpenSpec.ofChange storeLoadsWrong)

/-- 'gossamerlaw18.StorePlays': WHATEVER THE INPUT: true; the input reads as it did. -/
def storePlaysSpec : ChangeSpec := { name := "storePlays", fn := fun _ => fun
  | [d1, d2] => { results := [.lit (.bool true)], args := [d1, d2] }
  | _ => none }
def storePlaysRow : OpenClaim := { program := "ytdpngmgaomghoaagreat", sum := "552d4ddcfe78a79ddaf010a53a889e655eb72bfdb4dd29dabfdb01c7f0d2c6e6", func := "gossamer/gossamerlaw18.StorePlays", spec := "storePlays", inPlace := ["internal/abi.NoEscape", "internal/bytealg.abigen_runtime_cmpstring"], unfollowed := true, recurses := true, apart := false }
def StorePlaysSaid : Prop := storePlaysRow.holds Tryz.pinned (OpenSpec.ofChange storePlaysSpec)

/-- ITS FALSE NEIGHBOUR: 'it returns false'. Refute it at one input. -/
def storePlaysWrong : ChangeSpec := { name := "storePlays", fn := fun _ => fun
  | [d1, d2] => { results := [.lit (.bool false)], args := [d1, d2] }
  | _ => none }
def StorePlaysWrongFalsely : Prop := storePlaysRow.holds Tryz.pinned (OpenSpec.ofChange storePlaysWrong)

/-- 'gossamerlaw18.StoreDeltas': WHATEVER THE INPUT: true; the input reads as it did. -/
def storeDeltasSpec : ChangeSpec := { name := "storeDeltas", fn := fun _ => fun
  | [d1, d2] => { results := [.lit (.bool true)], args := [d1, d2] }
  | _ => none }
def storeDeltasRow : OpenClaim := { program := "ytdpngmgaomghoaagreat", sum := "552d4ddcfe78a79ddaf010a53a889e655eb72bfdb4dd29dabfdb01c7f0d2c6e6", func := "gossamer/gossamerlaw18.StoreDeltas", spec := "storeDeltas", inPlace := ["internal/abi.NoEscape", "internal/bytealg.abigen_runtime_cmpstring"], unfollowed := true, recurses := true, apart := false }
def StoreDeltasSaid : Prop := storeDeltasRow.holds Tryz.pinned (OpenSpec.ofChange storeDeltasSpec)

/-- ITS FALSE NEIGHBOUR: 'it returns false'. Refute it at one input. -/
def storeDeltasWrong : ChangeSpec := { name := "storeDeltas", fn := fun _ => fun
  | [d1, d2] => { results := [.lit (.bool false)], args := [d1, d2] }
  | _ => none }
def StoreDeltasWrongFalsely : Prop := storeDeltasRow.holds Tryz.pinned (OpenSpec.ofChange storeDeltasWrong)

/- THE SECOND FORM. 'bulk': how many values and letters a reading holds, each counted each time it is reached (what is shared counts as often as it is met; a slice's spare places count too). A statement '..UptoSaid' is the law's where the arguments, and the package variables that the reading takes, are together of bulk at most 1048576: NARROWER than '..Said'. Prove '..Said' where nothing that the law and all that it calls make is longer than what came in: it says more and counts as full. Else prove '..UptoSaid'. A law counts once. -/
mutual
def uptoBulk {H : Type} : DataW H → Nat
  | .lit (.string bytes) => bytes.length + 1
  | .lit _ => 1
  | .nil => 1
  | .ptr d => uptoBulk d + 1
  | .slice elems spare => uptoBulkAll elems + uptoBulkAll spare + 1
  | .agg parts => uptoBulkAll parts + 1
  | .iface _ d => uptoBulk d + 1
  | .map entries => uptoBulkEntries entries + 1
  | .held _ => 1
def uptoBulkAll {H : Type} : List (DataW H) → Nat
  | [] => 0
  | d :: r => uptoBulk d + uptoBulkAll r
def uptoBulkEntries {H : Type} : List (Lit × DataW H) → Nat
  | [] => 0
  | x :: r => uptoBulkEntry x + uptoBulkEntries r
def uptoBulkEntry {H : Type} : Lit × DataW H → Nat
  | (.string bytes, d) => bytes.length + uptoBulk d + 1
  | (_, d) => uptoBulk d + 1
 end
def uptoSmall : (H : Type) → List (DataW H) → Bool := fun _ ds => decide (uptoBulkAll ds ≤ 1048576)
def OpenSpec.upto (s : _root_.Go.ChangeSpec) : _root_.Go.OpenSpec := { _root_.Go.OpenSpec.ofChange s with cond := some uptoSmall }

/-- 'gossamerlaw19.JoinStore', WHERE WHAT IT READS IS OF BULK AT MOST 1048576: true; the input reads as it did. -/
def joinStoreUptoRow : OpenClaim := { program := "ytdpngmgaomghoaagreat", sum := "552d4ddcfe78a79ddaf010a53a889e655eb72bfdb4dd29dabfdb01c7f0d2c6e6", func := "gossamer/gossamerlaw19.JoinStore", spec := "joinStore", inPlace := ["internal/abi.NoEscape", "internal/bytealg.abigen_runtime_cmpstring"], unfollowed := true, recurses := true, apart := false, narrowed := true }
def JoinStoreUptoSaid : Prop := joinStoreUptoRow.holds Tryz.pinned (OpenSpec.upto joinStoreSpec)

/-- 'gossamerlaw26.OpsPlays', WHERE WHAT IT READS IS OF BULK AT MOST 1048576: true; the input reads as it did. -/
def opsPlaysUptoRow : OpenClaim := { program := "ytdpngmgaomghoaagreat", sum := "552d4ddcfe78a79ddaf010a53a889e655eb72bfdb4dd29dabfdb01c7f0d2c6e6", func := "gossamer/gossamerlaw26.OpsPlays", spec := "opsPlays", inPlace := ["internal/abi.NoEscape", "internal/bytealg.abigen_runtime_cmpstring", "internal/bytealg.IndexByteString", "internal/bytealg.IndexString"], unfollowed := true, recurses := true, named := ["internal/bytealg.MaxLen"], apart := false, narrowed := true }
def OpsPlaysUptoSaid : Prop := opsPlaysUptoRow.holds Tryz.pinned (OpenSpec.upto opsPlaysSpec)

/-- 'gossamerlaw26.OpsSums', WHERE WHAT IT READS IS OF BULK AT MOST 1048576: true; the input reads as it did. -/
def opsSumsUptoRow : OpenClaim := { program := "ytdpngmgaomghoaagreat", sum := "552d4ddcfe78a79ddaf010a53a889e655eb72bfdb4dd29dabfdb01c7f0d2c6e6", func := "gossamer/gossamerlaw26.OpsSums", spec := "opsSums", inPlace := ["internal/abi.NoEscape", "internal/bytealg.abigen_runtime_cmpstring", "internal/bytealg.IndexByteString", "internal/bytealg.IndexString"], unfollowed := true, recurses := true, named := ["internal/bytealg.MaxLen"], apart := false, narrowed := true }
def OpsSumsUptoSaid : Prop := opsSumsUptoRow.holds Tryz.pinned (OpenSpec.upto opsSumsSpec)

/-- 'gossamerlaw26.OpsFinds', WHERE WHAT IT READS IS OF BULK AT MOST 1048576: true; the input reads as it did. -/
def opsFindsUptoRow : OpenClaim := { program := "ytdpngmgaomghoaagreat", sum := "552d4ddcfe78a79ddaf010a53a889e655eb72bfdb4dd29dabfdb01c7f0d2c6e6", func := "gossamer/gossamerlaw26.OpsFinds", spec := "opsFinds", inPlace := ["internal/abi.NoEscape", "internal/bytealg.abigen_runtime_cmpstring", "internal/bytealg.IndexByteString", "internal/bytealg.IndexString"], unfollowed := true, recurses := true, named := ["internal/bytealg.MaxLen"], apart := false, narrowed := true }
def OpsFindsUptoSaid : Prop := opsFindsUptoRow.holds Tryz.pinned (OpenSpec.upto opsFindsSpec)

/-- 'gossamerlaw18.StoreTicks', WHERE WHAT IT READS IS OF BULK AT MOST 1048576: true; the input reads as it did. -/
def storeTicksUptoRow : OpenClaim := { program := "ytdpngmgaomghoaagreat", sum := "552d4ddcfe78a79ddaf010a53a889e655eb72bfdb4dd29dabfdb01c7f0d2c6e6", func := "gossamer/gossamerlaw18.StoreTicks", spec := "storeTicks", inPlace := ["internal/abi.NoEscape", "internal/bytealg.abigen_runtime_cmpstring"], unfollowed := true, recurses := true, apart := false, narrowed := true }
def StoreTicksUptoSaid : Prop := storeTicksUptoRow.holds Tryz.pinned (OpenSpec.upto storeTicksSpec)

/-- 'gossamerlaw18.StoreTells', WHERE WHAT IT READS IS OF BULK AT MOST 1048576: true; the input reads as it did. -/
def storeTellsUptoRow : OpenClaim := { program := "ytdpngmgaomghoaagreat", sum := "552d4ddcfe78a79ddaf010a53a889e655eb72bfdb4dd29dabfdb01c7f0d2c6e6", func := "gossamer/gossamerlaw18.StoreTells", spec := "storeTells", inPlace := ["internal/abi.NoEscape", "internal/bytealg.abigen_runtime_cmpstring"], unfollowed := true, recurses := true, apart := false, narrowed := true }
def StoreTellsUptoSaid : Prop := storeTellsUptoRow.holds Tryz.pinned (OpenSpec.upto storeTellsSpec)

/-- 'gossamerlaw18.StoreFull', WHERE WHAT IT READS IS OF BULK AT MOST 1048576: true; the input reads as it did. -/
def storeFullUptoRow : OpenClaim := { program := "ytdpngmgaomghoaagreat", sum := "552d4ddcfe78a79ddaf010a53a889e655eb72bfdb4dd29dabfdb01c7f0d2c6e6", func := "gossamer/gossamerlaw18.StoreFull", spec := "storeFull", inPlace := ["internal/abi.NoEscape", "internal/bytealg.abigen_runtime_cmpstring"], unfollowed := true, recurses := true, apart := false, narrowed := true }
def StoreFullUptoSaid : Prop := storeFullUptoRow.holds Tryz.pinned (OpenSpec.upto storeFullSpec)

/-- 'gossamerlaw18.StoreLoads', WHERE WHAT IT READS IS OF BULK AT MOST 1048576: true; the input reads as it did. -/
def storeLoadsUptoRow : OpenClaim := { program := "ytdpngmgaomghoaagreat", sum := "552d4ddcfe78a79ddaf010a53a889e655eb72bfdb4dd29dabfdb01c7f0d2c6e6", func := "gossamer/gossamerlaw18.StoreLoads", spec := "storeLoads", inPlace := ["internal/abi.NoEscape", "internal/bytealg.abigen_runtime_cmpstring"], unfollowed := true, recurses := true, apart := false, narrowed := true }
def StoreLoadsUptoSaid : Prop := storeLoadsUptoRow.holds Tryz.pinned (OpenSpec.upto storeLoadsSpec)

/-- 'gossamerlaw18.StorePlays', WHERE WHAT IT READS IS OF BULK AT MOST 1048576: true; the input reads as it did. -/
def storePlaysUptoRow : OpenClaim := { program := "ytdpngmgaomghoaagreat", sum := "552d4ddcfe78a79ddaf010a53a889e655eb72bfdb4dd29dabfdb01c7f0d2c6e6", func := "gossamer/gossamerlaw18.StorePlays", spec := "storePlays", inPlace := ["internal/abi.NoEscape", "internal/bytealg.abigen_runtime_cmpstring"], unfollowed := true, recurses := true, apart := false, narrowed := true }
def StorePlaysUptoSaid : Prop := storePlaysUptoRow.holds Tryz.pinned (OpenSpec.upto storePlaysSpec)

/-- 'gossamerlaw18.StoreDeltas', WHERE WHAT IT READS IS OF BULK AT MOST 1048576: true; the input reads as it did. -/
def storeDeltasUptoRow : OpenClaim := { program := "ytdpngmgaomghoaagreat", sum := "552d4ddcfe78a79ddaf010a53a889e655eb72bfdb4dd29dabfdb01c7f0d2c6e6", func := "gossamer/gossamerlaw18.StoreDeltas", spec := "storeDeltas", inPlace := ["internal/abi.NoEscape", "internal/bytealg.abigen_runtime_cmpstring"], unfollowed := true, recurses := true, apart := false, narrowed := true }
def StoreDeltasUptoSaid : Prop := storeDeltasUptoRow.holds Tryz.pinned (OpenSpec.upto storeDeltasSpec)

end Rows
end Go.Proofs.YtdpngmgaomghoaaGreat
