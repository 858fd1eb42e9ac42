/- The document's operations: Of, One, Same. -/
import Derived.Test.YtdpngmgaomghoaaGreatRef26s
namespace Go.Proofs.YtdpngmgaomghoaaGreat
open Go.RowKit
namespace Rf26
open BagP HistP OpsP KeyP PackP SetP SetW SetF Sli Name Pack Delta ClsW
open Ops (TO TOs infoO Tl OL opc AllPost rc mays applyR)
attribute [local go_sem] Eng.ev Eng.getO_cons Eng.getO_nil
theorem cellK {w w':World} {b o:Nat} {v:Value} (h:w.cell? ⟨b,o,none⟩=some v) (hf:Fr (fun _=>False) w w'):w'.cell? ⟨b,o,none⟩=some v:=
 (World.cell?_of_block (w:=w) (a:=⟨b,o,none⟩) (hf.block b (World.block_lt_of_cell? w ⟨b,o,none⟩ h) (fun h=>h))).trans h
end Rf26
end Go.Proofs.YtdpngmgaomghoaaGreat
