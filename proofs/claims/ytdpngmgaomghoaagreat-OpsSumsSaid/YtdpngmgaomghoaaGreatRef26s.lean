/- The document's operations: Find, Hist, set. -/
import Derived.Test.YtdpngmgaomghoaaGreatOpsNO
import Derived.Test.YtdpngmgaomghoaaGreatRef25
namespace Go.Proofs.YtdpngmgaomghoaaGreat
open Go.RowKit
namespace Rf26
open BagP HistP OpsP KeyP PackP SetP SetW SetF Sli Name Pack Delta
attribute [local go_sem] Eng.ev Eng.getO_cons Eng.getO_nil
structure It where
 n:Nm
 x:HS
 A:Option Addr
 c:Nat
theorem bl_eq (a b:ByteArray):(a.toList==b.toList)=decide (a=b):=by
 by_cases h:a=b
 ·subst h;simp
 ·have:a.toList≠b.toList:=fun e=>h (str_ext e)
  simp [h,this]
section
variable {k:Nm} {x:HS} {P:List It} {put:Bool} {y:It} {t G:Vw}
end
end Rf26
namespace Rf26
open BagP HistP OpsP KeyP PackP SetP SetW SetF Sli Name Pack Delta
open Ops (mays)
attribute [local go_sem] Eng.ev Eng.getO_cons Eng.getO_nil
section
variable {w0 w w':World} {h B:Nat} {R0 R:List Nat} {D D0:List It}
end
end Rf26
namespace Rf26
open BagP HistP OpsP KeyP PackP SetP SetW SetF Sli Name Pack Delta
open Ops (TO TOs infoO Tl OL opc)
attribute [local go_sem] Eng.ev Eng.getO_cons Eng.getO_nil
section
variable {w1 w w':World} {T:List Tl} {v v':Value} {y:It} {Bx:Nat}
end
end Rf26
end Go.Proofs.YtdpngmgaomghoaaGreat
