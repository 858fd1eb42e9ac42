/- What a delta says of a key, as a value. -/
import Derived.Test.YtkhhdadlpilbmaaGreatWorld
namespace Go.Proofs.YtkhhdadlpilbmaaGreat
/-- Whether anything, what goes out, and what comes in. -/
structure Sd where
  m : Bool
  a : Option Addr
  b : Option Addr
end Go.Proofs.YtkhhdadlpilbmaaGreat
