/- A span's place, as a value. -/
import Derived.Test.YtgfjpnpbkkadpaaGreatBase
namespace Go.Proofs.YtgfjpnpbkkadpaaGreat
structure Pq where
 t:Int
 i:Int
 c:Int
 d:Int
 p:Int
 f:Int
deriving DecidableEq
open Go.RowKit
abbrev Pq.cs (x:Pq):List Value:= [.int .i64 x.t,.int .i64 x.i,.int .i64 x.c,.int .i64 x.d,.int .i64 x.p,.int .i64 x.f]
abbrev Pq.arr (x:Pq):Array Value:= #[.int .i64 x.t,.int .i64 x.i,.int .i64 x.c,.int .i64 x.d,.int .i64 x.p,.int .i64 x.f]
abbrev Pq.v (x:Pq):Value:=.agg x.arr
end Go.Proofs.YtgfjpnpbkkadpaaGreat
