/- The document's entries: All. -/
import Derived.Test.YtdpngmgaomghoaaGreatDoorRef28
namespace Go.Proofs.YtdpngmgaomghoaaGreatDoor
open Go.RowKit
namespace Rf28
open BagP KeyP EntP OpsP PackP SetP SetW SetF Sli Name Pack Delta
open Ent (TI TIs ints infoI TE TEs En EL infoE)
attribute [local go_sem] Eng.ev Eng.getO_cons Eng.getO_nil
section
variable {nb h By m:Nat} {w0 w w':World} {L:List Sn} {R:List Nat} {y:Sn} {rows:List Value} {v v':Value} {e:En}
end
end Rf28
end Go.Proofs.YtdpngmgaomghoaaGreatDoor
