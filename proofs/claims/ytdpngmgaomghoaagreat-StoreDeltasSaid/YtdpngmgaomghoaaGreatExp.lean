/- What is past: the index as an object in memory. -/
import Derived.Test.YtdpngmgaomghoaaGreatExpP
import Derived.Test.YtdpngmgaomghoaaGreatAvlSI2
import Derived.Test.YtdpngmgaomghoaaGreatAvlSE2
import Derived.Test.YtdpngmgaomghoaaGreatKey
import Derived.Deep.RegionWith
import Derived.Deep.DeepCutAuto
namespace Go.Proofs.YtdpngmgaomghoaaGreat
open Go.RowKit
namespace Exp
open KeyP ExpP
attribute [local go_sem] Eng.ev Eng.getO_cons Eng.getO_nil
section
variable {w w' : World} {B : Nat} {M : List It} {K : List (ByteArray × Unit)} {r1 r2 : Option Addr} {F1 F2 : List Nat}
end
theorem KeyEnd' {k : ByteArray} {v : Int} (hk : k.size = 16) (hv : wf64 v) (w : World) : Calls Tryz.prog 209 #[.int .i64 v, .string k] w fun e w' => e = .returned (.string (ek (k, v))) ∧ Fr (fun _ => False) w w' :=
  (Key.End hv k (by omega) w).mono (fun _ _ ⟨h, hb⟩ => ⟨h, (Fr.of_below hb).mono (fun i hi h => by omega)⟩)


end Exp
end Go.Proofs.YtdpngmgaomghoaaGreat
namespace Go.Proofs.YtdpngmgaomghoaaGreat
open Go.RowKit
namespace Exp
open KeyP ExpP
end Exp
end Go.Proofs.YtdpngmgaomghoaaGreat
