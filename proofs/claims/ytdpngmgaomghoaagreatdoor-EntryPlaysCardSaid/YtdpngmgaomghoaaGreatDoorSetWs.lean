/- Sets of records, the document's: what is ahead, where a key is, one more, without some. -/
import Derived.Test.YtdpngmgaomghoaaGreatDoorSetP
import Derived.Test.YtdpngmgaomghoaaGreatDoorRngs
import Derived.Deep.CutBlock
namespace Go.Proofs.YtdpngmgaomghoaaGreatDoor
open Tryz
open Go.RowKit
namespace SetW
open SetP
attribute [local go_sem] Eng.ev Eng.getO_cons Eng.getO_nil
abbrev TSn:TypeId:=48
abbrev TSs:TypeId:=31
abbrev scs (x:Sn):List Value:=x.cs
theorem scs_len (x:Sn):(scs x).length=9:=rfl
theorem infoS:(prog.info? TSn).map (fun i=>(i.zero,i.size,i.bytes))=some (some (.agg #[.int .i64 0,.int .i64 0,.int .i64 0,.int .i64 0,.string ByteArray.empty,.string ByteArray.empty,.int .i64 0,.int .i64 0,.bool false]),9,88):=by kernel_rfl
def At (w:World) (b o:Nat) (x:Sn):Prop:=∀j u,x.cs[j]? =some u→w.cell? ⟨b,o+j,none⟩=some u
theorem at9 {w:World} {b o:Nat} {x:Sn} (h:At w b o x):w.cell? ⟨b,o,none⟩=some (.int .i64 x.t)∧w.cell? ⟨b,o+1,none⟩=some (.int .i64 x.i)∧w.cell? ⟨b,o+1+1,none⟩=some (.int .i64 x.p)∧w.cell? ⟨b,o+1+1+1,none⟩=some (.int .i64 x.r)∧w.cell? ⟨b,o+1+1+1+1,none⟩=some (.string x.s)∧w.cell? ⟨b,o+1+1+1+1+1,none⟩=some (.string x.o)∧w.cell? ⟨b,o+1+1+1+1+1+1,none⟩=some (.int .i64 x.b)∧w.cell? ⟨b,o+1+1+1+1+1+1+1,none⟩=some (.int .i64 x.d)∧w.cell? ⟨b,o+1+1+1+1+1+1+1+1,none⟩=some (.bool x.g):=⟨h 0 _ rfl,h 1 _ rfl,h 2 _ rfl,h 3 _ rfl,h 4 _ rfl,h 5 _ rfl,h 6 _ rfl,h 7 _ rfl,h 8 _ rfl⟩
theorem at0 {w:World} {b:Nat} {x:Sn} (h:At w b 0 x):w.cell? ⟨b,0,none⟩=some (.int .i64 x.t)∧w.cell? ⟨b,1,none⟩=some (.int .i64 x.i)∧w.cell? ⟨b,2,none⟩=some (.int .i64 x.p)∧w.cell? ⟨b,3,none⟩=some (.int .i64 x.r)∧w.cell? ⟨b,4,none⟩=some (.string x.s)∧w.cell? ⟨b,5,none⟩=some (.string x.o)∧w.cell? ⟨b,6,none⟩=some (.int .i64 x.b)∧w.cell? ⟨b,7,none⟩=some (.int .i64 x.d)∧w.cell? ⟨b,8,none⟩=some (.bool x.g):=⟨h 0 _ rfl,h 1 _ rfl,h 2 _ rfl,h 3 _ rfl,h 4 _ rfl,h 5 _ rfl,h 6 _ rfl,h 7 _ rfl,h 8 _ rfl⟩
theorem At.lt {w:World} {b o:Nat} {x:Sn} (h:At w b o x):b<w.heap.size:=World.block_lt_of_cell? w ⟨b,o+0,none⟩ (h 0 _ rfl)
theorem At.fr {S:Nat→Prop} {w w':World} {b o:Nat} {x:Sn} (h:At w b o x) (hf:Fr S w w') (hs:¬S b):At w' b o x:=fun j u hu=>(World.cell?_of_block (w:=w) (a:=⟨b,o+j,none⟩) (hf.block b h.lt hs)).trans (h j u hu)
theorem At.row {w:World} {b o:Nat} {L:List Sn} (hc:∀j u,(L.flatMap scs)[j]? =some u→w.cell? ⟨b,o+j,none⟩=some u) {k:Nat} (hk:k<L.length):At w b (o+k*9) L[k]:=fun j u hu=>by
 rw [Nat.add_assoc]
 refine hc _ u ?_
 have hj:j<9:=(List.getElem?_eq_some_iff.1 hu).1
 rw [flat_at scs_len hk hj];exact hu
theorem At.box {w:World} {B:Nat} {x:Sn} (h:Bk w B x.arr TSn):At w B 0 x:=fun j u hu=>by
 rw [h.cell,Nat.zero_add]
 have:x.arr[j]? =x.cs[j]? :=by show x.cs.toArray[j]? =_;simp
 rw [this];exact hu
theorem At.keep {w w':World} {b o:Nat} {x:Sn} (h:At w b o x) (hf:Fr (fun _=>False) w w'):At w' b o x:=h.fr hf (fun h=>h)
end SetW
namespace SetW
open SetP
def OwnPost (M:List Sn) (w:World) (e:Ending) (w':World):Prop:=∃v,e=.returned v∧w'.ownsRow w.heap.size TSn 9 v M.length (M.flatMap scs)∧Below w.heap.size w w'
end SetW
end Go.Proofs.YtdpngmgaomghoaaGreatDoor
