/- The document's histograms: the walks. -/
import Derived.Test.YtdpngmgaomghoaaGreatHists
namespace Go.Proofs.YtdpngmgaomghoaaGreat
open Go.RowKit
namespace Ref25
open HistP BagP Bag Wide Bucket
attribute [local go_sem] Eng.ev Eng.getO_cons Eng.getO_nil
section
variable {w w' w0:World} {B:Nat} {x y:HS} {F F0:List Nat}
end
end Ref25
end Go.Proofs.YtdpngmgaomghoaaGreat
