/- Lists of records joined: the program's and the document's; what is missing: the document's. -/
import Derived.Test.YtdpngmgaomghoaaGreatSetFs
namespace Go.Proofs.YtdpngmgaomghoaaGreat
open Go.RowKit
namespace Join
open KeyP PackP SetP SetW SetF Code_ Rank
attribute [local go_sem] Eng.ev Eng.getO_cons Eng.getO_nil
end Join
end Go.Proofs.YtdpngmgaomghoaaGreat
namespace Go.Proofs.YtdpngmgaomghoaaGreat
open Go.RowKit
namespace Join
open KeyP PackP SetP SetW SetF Code_ Rank
attribute [local go_sem] Eng.ev Eng.getO_cons Eng.getO_nil
end Join
end Go.Proofs.YtdpngmgaomghoaaGreat
