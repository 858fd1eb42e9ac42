/- The document's kept record; which record goes ahead. -/
import Derived.Test.YtdpngmgaomghoaaGreatDoorRank
namespace Go.Proofs.YtdpngmgaomghoaaGreatDoor
open Go.RowKit
namespace Ref10
open KeyP PackP Vari SetW Name Code_ Rank
attribute [local go_sem] Eng.ev Eng.getO_cons Eng.getO_nil
theorem frs {w W:World} {R k:Nat} {u:Value} (h:Fr (fun b=>b=R) w W):Fr (fun b=>b=R) w (W.setCell ⟨R,k,none⟩ u):=h.trans (Fr.setCell W ⟨R,k,none⟩ u (S:=fun b=>b=R) rfl) (fun _ _ h=>h) (fun _ _ h=>h)
theorem bks {w:World} {R:Nat} {v0 v1 v2 v3 v4 v5 v6 v7 v8 u0 u1 u2 u3 u4 u5 u6 u7 u8:Value} (h:Bk w R #[v0,v1,v2,v3,v4,v5,v6,v7,v8] TSn):Bk (((((((((w.setCell ⟨R,0,none⟩ u0).setCell ⟨R,1,none⟩ u1).setCell ⟨R,2,none⟩ u2).setCell ⟨R,3,none⟩ u3).setCell ⟨R,4,none⟩ u4).setCell ⟨R,5,none⟩ u5).setCell ⟨R,6,none⟩ u6).setCell ⟨R,7,none⟩ u7).setCell ⟨R,8,none⟩ u8) R #[u0,u1,u2,u3,u4,u5,u6,u7,u8] TSn:=by
 have:=((((((((h.set 0 u0).set 1 u1).set 2 u2).set 3 u3).set 4 u4).set 5 u5).set 6 u6).set 7 u7).set 8 u8
 simp only [List.setIfInBounds_toArray,List.set_cons_succ,List.set_cons_zero] at this
 exact this
end Ref10
end Go.Proofs.YtdpngmgaomghoaaGreatDoor
