/- What becomes of sets of records: the program's: is it a set, may it be, what is between. -/
import Derived.Test.YtdpngmgaomghoaaGreatSetFs
import Derived.Test.YtdpngmgaomghoaaGreatSli
import Derived.Sort.CutIn
namespace Go.Proofs.YtdpngmgaomghoaaGreat
open Go.RowKit Go.Shelf
namespace Delta
open KeyP PackP SetP SetW SetF Sli
attribute [local go_sem] Eng.ev Eng.getO_cons Eng.getO_nil
abbrev TDl : TypeId := 35
structure Dl where
 A1 : Option Addr
 c1 : Nat
 O : List Sn
 A2 : Option Addr
 c2 : Nat
 I : List Sn
abbrev Dl.arr (d : Dl) : Array Value := #[.slice d.A1 d.O.length d.c1, .slice d.A2 d.I.length d.c2]
abbrev Dl.v (d : Dl) : Value := .agg d.arr
structure RdD (w : World) (d : Dl) : Prop where
 o : Ls w d.A1 d.c1 d.O
 i : Ls w d.A2 d.c2 d.I
theorem RdD.keep {w w' : World} {d : Dl} (h : RdD w d) (hf : Fr (fun _ => False) w w') : RdD w' d := ⟨h.o.keep hf, h.i.keep hf⟩
end Delta
end Go.Proofs.YtdpngmgaomghoaaGreat
namespace Go.Proofs.YtdpngmgaomghoaaGreat
open Go.RowKit
namespace Delta
open KeyP PackP SetP SetW SetF Sli
attribute [local go_sem] Eng.ev Eng.getO_cons Eng.getO_nil
def DlPost (O I : List Sn) (w : World) (e : Ending) (w' : World) : Prop := ∃ A1 c1 A2 c2, e = .returned (Dl.mk A1 c1 O A2 c2 I).v ∧ RdD w' ⟨A1, c1, O, A2, c2, I⟩ ∧ Below w.heap.size w w'
theorem result {w w5 : World} {A3 A4 : Option Addr} {c3 c4 : Nat} {O I : List Sn} {G : Prop} (hr : Bk w5 w.heap.size #[.slice none 0 0, .slice none 0 0] TDl) (h1 : Ls w5 A3 c3 O) (h2 : Ls w5 A4 c4 I) (hb : Below w.heap.size w w5) (n3 : ∀ q, A3 = some q → w.heap.size < q.block) (n4 : ∀ q, A4 = some q → w.heap.size < q.block)
  (hK : ∀ w', Bk w' w.heap.size #[.slice A3 O.length c3, .slice A4 I.length c4] TDl → DlPost O I w (.returned (Dl.mk A3 c3 O A4 c4 I).v) w' → w' = (w5.setCell ⟨w.heap.size, 0, none⟩ (.slice A3 O.length c3)).setCell ⟨w.heap.size, 1, none⟩ (.slice A4 I.length c4) → G) : G := by
 have hf : Fr (fun k => k = w.heap.size) w5 ((w5.setCell ⟨w.heap.size, 0, none⟩ (.slice A3 O.length c3)).setCell ⟨w.heap.size, 1, none⟩ (.slice A4 I.length c4)) :=
  (Fr.setCell w5 ⟨w.heap.size, 0, none⟩ (.slice A3 O.length c3) (S := fun k => k = w.heap.size) rfl).trans (Fr.setCell _ ⟨w.heap.size, 1, none⟩ (.slice A4 I.length c4) (S := fun k => k = w.heap.size) rfl) (fun _ _ h => h) (fun _ _ h => h)
 refine hK _ ?_ ⟨A3, c3, A4, c4, rfl, ⟨h1.fr hf (fun q hq e => by have := n3 q hq; omega), h2.fr hf (fun q hq e => by have := n4 q hq; omega)⟩, hb.trans (hf.below hb.size (fun k hk e => by omega))⟩ rfl
 have := (hr.set 0 (.slice A3 O.length c3)).set 1 (.slice A4 I.length c4)
 simpa using this
end Delta
end Go.Proofs.YtdpngmgaomghoaaGreat
