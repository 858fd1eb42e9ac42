/-
  DERIVED. GIVEN WITH THE SEED: THE CARDS: each row of YtdpngmgaomghoaaGreatDoorRows.lean that lists a variable, with what it lists TIED to the program's text (the seventh form; the later family's looks); each row that meets fmt, with fmt's text TOLD by the authors' own Lean function (tested against real Go, not proved from fmt's source: count such statements apart). THE CARD IS WHAT COUNTS. Prove the row's statement (the work); the ties are given (YtdpngmgaomghoaaGreatDoorTie.lean); close each card by the builder's one call (the guide's Derived/Test/ToyasCard.lean, 'card_holds'). Laid BY PROGRAM, IN A SANDBOX (cutbox-door.mjs). By AI agents, Wed Nov 11 2026. No macro, syntax, notation, axiom, sorry.
-/
import Derived.Test.YtdpngmgaomghoaaGreatDoorRows
import GoSem.ClaimSeven
namespace Go.Proofs.YtdpngmgaomghoaaGreatDoor
namespace Rows

/-- THE TIED CARD OF 'gossamerlaw28.EntryPlays'. -/
def entryPlaysCard : Claim7 := { stood := { row := entryPlaysRow, standIns := [], harness := (true, "f688daae7cf675870532a074e4557b7a95d66fc59ca62a12f109d8c957b30e25"), looks := false }, kinds := [], alts := [], laidByText := true, laidKinds := [.data, .pinned], laidTests := true, laidLooks := .later }
def EntryPlaysCardSaid : Prop := Claim7.holds Tryz.pinned (.plain (OpenSpec.ofChange entryPlaysSpec)) entryPlaysCard

/-- THE TIED CARD OF 'gossamerlaw28.EntryJust'. -/
def entryJustCard : Claim7 := { stood := { row := entryJustRow, standIns := [], harness := (true, "f688daae7cf675870532a074e4557b7a95d66fc59ca62a12f109d8c957b30e25"), looks := false }, kinds := [], alts := [], laidByText := true, laidKinds := [.data, .pinned], laidTests := true, laidLooks := .later }
def EntryJustCardSaid : Prop := Claim7.holds Tryz.pinned (.plain (OpenSpec.ofChange entryJustSpec)) entryJustCard

/-- THE TIED CARD OF 'gossamerlaw28.EntryFinds'. -/
def entryFindsCard : Claim7 := { stood := { row := entryFindsRow, standIns := [], harness := (true, "f688daae7cf675870532a074e4557b7a95d66fc59ca62a12f109d8c957b30e25"), looks := false }, kinds := [], alts := [], laidByText := true, laidKinds := [.data, .pinned], laidTests := true, laidLooks := .later }
def EntryFindsCardSaid : Prop := Claim7.holds Tryz.pinned (.plain (OpenSpec.ofChange entryFindsSpec)) entryFindsCard

/-- THE TIED CARD OF 'gossamerlaw28.EntryGiven'. -/
def entryGivenCard : Claim7 := { stood := { row := entryGivenRow, standIns := [], harness := (true, "f688daae7cf675870532a074e4557b7a95d66fc59ca62a12f109d8c957b30e25"), looks := false }, kinds := [], alts := [], laidByText := true, laidKinds := [.data, .pinned], laidTests := true, laidLooks := .later }
def EntryGivenCardSaid : Prop := Claim7.holds Tryz.pinned (.plain (OpenSpec.ofChange entryGivenSpec)) entryGivenCard

/-- THE SECOND FORM's CARD OF 'gossamerlaw28.EntryPlays'. -/
def entryPlaysUptoCard : Claim7 := { stood := { row := entryPlaysUptoRow, standIns := [], harness := (true, "f688daae7cf675870532a074e4557b7a95d66fc59ca62a12f109d8c957b30e25"), looks := false }, kinds := [], alts := [], laidByText := true, laidKinds := [.data, .pinned], laidTests := true, laidLooks := .later }
def EntryPlaysUptoCardSaid : Prop := Claim7.holds Tryz.pinned (.plain (OpenSpec.upto entryPlaysSpec)) entryPlaysUptoCard

/-- THE SECOND FORM's CARD OF 'gossamerlaw28.EntryJust'. -/
def entryJustUptoCard : Claim7 := { stood := { row := entryJustUptoRow, standIns := [], harness := (true, "f688daae7cf675870532a074e4557b7a95d66fc59ca62a12f109d8c957b30e25"), looks := false }, kinds := [], alts := [], laidByText := true, laidKinds := [.data, .pinned], laidTests := true, laidLooks := .later }
def EntryJustUptoCardSaid : Prop := Claim7.holds Tryz.pinned (.plain (OpenSpec.upto entryJustSpec)) entryJustUptoCard

/-- THE SECOND FORM's CARD OF 'gossamerlaw28.EntryFinds'. -/
def entryFindsUptoCard : Claim7 := { stood := { row := entryFindsUptoRow, standIns := [], harness := (true, "f688daae7cf675870532a074e4557b7a95d66fc59ca62a12f109d8c957b30e25"), looks := false }, kinds := [], alts := [], laidByText := true, laidKinds := [.data, .pinned], laidTests := true, laidLooks := .later }
def EntryFindsUptoCardSaid : Prop := Claim7.holds Tryz.pinned (.plain (OpenSpec.upto entryFindsSpec)) entryFindsUptoCard

/-- THE SECOND FORM's CARD OF 'gossamerlaw28.EntryGiven'. -/
def entryGivenUptoCard : Claim7 := { stood := { row := entryGivenUptoRow, standIns := [], harness := (true, "f688daae7cf675870532a074e4557b7a95d66fc59ca62a12f109d8c957b30e25"), looks := false }, kinds := [], alts := [], laidByText := true, laidKinds := [.data, .pinned], laidTests := true, laidLooks := .later }
def EntryGivenUptoCardSaid : Prop := Claim7.holds Tryz.pinned (.plain (OpenSpec.upto entryGivenSpec)) entryGivenUptoCard
end Rows
end Go.Proofs.YtdpngmgaomghoaaGreatDoor
