/- What becomes of sets of records: the program's: is it a set, may it be, what is between. -/
import Derived.Test.YtdpngmgaomghoaaGreatSetFs
import Derived.Test.YtdpngmgaomghoaaGreatSli
namespace Go.Proofs.YtdpngmgaomghoaaGreat
open Go.RowKit Go.Shelf
namespace Delta
open KeyP PackP SetP SetW SetF Sli
attribute [local go_sem] Eng.ev Eng.getO_cons Eng.getO_nil
abbrev TDl : TypeId := 35
def isB (L : List Sn) : Bool := decide (setOf L = L)
structure Dl where
 A1 : Option Addr
 c1 : Nat
 O : List Sn
 A2 : Option Addr
 c2 : Nat
 I : List Sn
abbrev Dl.arr (d : Dl) : Array Value := #[.slice d.A1 d.O.length d.c1, .slice d.A2 d.I.length d.c2]
abbrev Dl.v (d : Dl) : Value := .agg d.arr
structure RdD (w : World) (d : Dl) : Prop where
 o : Ls w d.A1 d.c1 d.O
 i : Ls w d.A2 d.c2 d.I
theorem RdD.keep {w w' : World} {d : Dl} (h : RdD w d) (hf : Fr (fun _ => False) w w') : RdD w' d := ⟨h.o.keep hf, h.i.keep hf⟩
end Delta
end Go.Proofs.YtdpngmgaomghoaaGreat
