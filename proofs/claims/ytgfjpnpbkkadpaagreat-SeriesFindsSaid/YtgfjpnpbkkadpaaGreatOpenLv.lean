/- Lists of lists of records that came in. -/
import Derived.Test.YtgfjpnpbkkadpaaGreatOpen
import Derived.Test.YtgfjpnpbkkadpaaGreatOpenSpan
import Derived.Test.YtgfjpnpbkkadpaaGreatSetFs
import Derived.ProofKit
namespace Go.Proofs.YtgfjpnpbkkadpaaGreat
open Go.ChangeShapes Go.WideShapes Go.ChangeAt Go.RowKit Go.Deep
theorem open_Lv {H : Type} {enc : TypeId × Value → H} {w : World} {n : Nat} {cs : List Value} {y : DataW H × List MemPlace} (h : DataW.trod enc Tryz.prog w 0 (fun _ => true) true n 27 cs = some y) :
    ∃ x : SetF.Lv, cs = SetF.lvc x ∧ SetF.Rd w x := by
  obtain ⟨A, c, L, hcs, hS, hG⟩ := open_sl Tryz.underlying27 cells_Span (by omega) SetW.scs Sn.ok SetW.scs_len (fun n cs' y h => open_Span h) h
  exact ⟨⟨A, c, L⟩, hcs, hS, hG⟩
end Go.Proofs.YtgfjpnpbkkadpaaGreat
