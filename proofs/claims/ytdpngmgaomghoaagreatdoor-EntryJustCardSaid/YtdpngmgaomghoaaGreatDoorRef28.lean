/- The document's entries: one, may, Traces. -/
import Derived.Test.YtdpngmgaomghoaaGreatDoorEntB
import Derived.Test.YtdpngmgaomghoaaGreatDoorEntI
namespace Go.Proofs.YtdpngmgaomghoaaGreatDoor
open Go.RowKit
namespace Rf28
open BagP KeyP EntP OpsP PackP SetP SetW SetF Sli Name Pack Delta
open Ent (bg bg_app bg_one mays apE TI TIs ints infoI TE TEs En EL)
attribute [local go_sem] Eng.ev Eng.getO_cons Eng.getO_nil
theorem cellK {w w':World} {b o:Nat} {v:Value} (h:w.cell? ⟨b,o,none⟩=some v) (hf:Fr (fun _=>False) w w'):w'.cell? ⟨b,o,none⟩=some v:=
 (World.cell?_of_block (w:=w) (a:=⟨b,o,none⟩) (hf.block b (World.block_lt_of_cell? w ⟨b,o,none⟩ h) (fun h=>h))).trans h
theorem ints_at {l:List Int} {k:Nat} (hk:k<l.length):(ints l)[k]? =some (.int .i64 l[k]):=by simp [hk]
end Rf28
end Go.Proofs.YtdpngmgaomghoaaGreatDoor
