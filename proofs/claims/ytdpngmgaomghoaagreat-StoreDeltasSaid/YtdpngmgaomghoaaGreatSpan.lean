/- Records of spans, as values. -/
import Derived.Test.YtdpngmgaomghoaaGreatOpens
namespace Go.Proofs.YtdpngmgaomghoaaGreat
open Go.RowKit
/-- A record of a span. -/
structure Sn where
  t : Int
  i : Int
  p : Int
  r : Int
  s : ByteArray
  o : ByteArray
  b : Int
  d : Int
  g : Bool
abbrev Sn.cs (x : Sn) : List Value := [.int .i64 x.t, .int .i64 x.i, .int .i64 x.p, .int .i64 x.r, .string x.s, .string x.o, .int .i64 x.b, .int .i64 x.d, .bool x.g]
abbrev Sn.arr (x : Sn) : Array Value := #[.int .i64 x.t, .int .i64 x.i, .int .i64 x.p, .int .i64 x.r, .string x.s, .string x.o, .int .i64 x.b, .int .i64 x.d, .bool x.g]
abbrev Sn.v (x : Sn) : Value := .agg x.arr
def in64 (n : Int) : Prop := -9223372036854775808 ≤ n ∧ n ≤ 9223372036854775807
/-- Its numbers and texts are of their types. -/
structure Sn.ok (x : Sn) : Prop where
  t : in64 x.t
  i : in64 x.i
  p : in64 x.p
  r : in64 x.r
  b : in64 x.b
  d : in64 x.d
  s : x.s.size ≤ maxLen
  o : x.o.size ≤ maxLen
end Go.Proofs.YtdpngmgaomghoaaGreat
