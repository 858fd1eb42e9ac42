/- Sets of records, the document's: what is ahead, where a key is, one more, without some. -/
import Derived.Test.YtdpngmgaomghoaaGreatSetP
import Derived.Test.YtdpngmgaomghoaaGreatRngs
import Derived.Test.YtdpngmgaomghoaaGreatEngs
import Derived.Test.YtdpngmgaomghoaaGreatOpens
import Derived.RegionTactic
import Derived.Outline
import Derived.Lib.Hide
import Derived.WalkSpells
import Derived.WalkLawsBesides
import Derived.Deep.LoopGhost
import Derived.Deep.QuietTactic
import Derived.BigQuiet
import Derived.OwnWalk
import Derived.IntWalk
import Derived.Laws.StructEq
import Derived.Deep.RegionWith
import Derived.Deep.DeepCutAuto
import Derived.Deep.CutBlock
namespace Go.Proofs.YtdpngmgaomghoaaGreat
open Go.RowKit
namespace SetW
open SetP
attribute [local go_sem] Eng.ev Eng.getO_cons Eng.getO_nil
abbrev TSn : TypeId := 29
abbrev TSs : TypeId := 22
abbrev scs (x : Sn) : List Value := x.cs
theorem scs_len (x : Sn) : (scs x).length = 9 := rfl
theorem infoS : (Tryz.prog.info? TSn).map (fun i => (i.zero, i.size, i.bytes)) = some (some (.agg #[.int .i64 0, .int .i64 0, .int .i64 0, .int .i64 0, .string ByteArray.empty, .string ByteArray.empty, .int .i64 0, .int .i64 0, .bool false]), 9, 88) := by kernel_rfl
def eqS (a b : Sn) : Bool := decide (a = b)
theorem eqS_iff {a b : Sn} : eqS a b = true ↔ a = b := by unfold eqS; simp
theorem eqS_ne {a b : Sn} (h : a ≠ b) : eqS a b = false := by unfold eqS; simpa using h
theorem eq_parts (t i p r b d t' i' p' r' b' d' : Int) (s o s' o' : ByteArray) (g g' : Bool) (w : World) : (binOp .eql TSn (.agg #[.int .i64 t, .int .i64 i, .int .i64 p, .int .i64 r, .string s, .string o, .int .i64 b, .int .i64 d, .bool g]) (.agg #[.int .i64 t', .int .i64 i', .int .i64 p', .int .i64 r', .string s', .string o', .int .i64 b', .int .i64 d', .bool g'])).run Tryz.prog w
  = .ok (.bool (eqS ⟨t, i, p, r, s, o, b, d, g⟩ ⟨t', i', p', r', s', o', b', d', g'⟩)) w := by
 unfold eqS
 have hS : Tryz.prog.underlying TSn = some (.struct (Tryz.prog.fieldsOf TSn)) := by kernel_rfl
 have hp : Tryz.prog.stoodInHeld TSn = false := by kernel_rfl
 rw [run_eql_struct, show (10000 : Nat) = 9999 + 1 from rfl, run_equalIn_agg w 9999 TSn _ _ hS hp]
 simp only [Program.fieldsOf, Tryz.underlying29]
 go_simp
 have es : s.toList = s'.toList ↔ s = s' := ⟨str_ext, fun h => by rw [h]⟩
 have eo : o.toList = o'.toList ↔ o = o' := ⟨str_ext, fun h => by rw [h]⟩
 simp only [es, eo]
 clear es eo hS hp
 (repeat' split) <;> simp_all
theorem neq_parts (t i p r b d t' i' p' r' b' d' : Int) (s o s' o' : ByteArray) (g g' : Bool) (w : World) : (binOp .neq TSn (.agg #[.int .i64 t, .int .i64 i, .int .i64 p, .int .i64 r, .string s, .string o, .int .i64 b, .int .i64 d, .bool g]) (.agg #[.int .i64 t', .int .i64 i', .int .i64 p', .int .i64 r', .string s', .string o', .int .i64 b', .int .i64 d', .bool g'])).run Tryz.prog w
  = .ok (.bool (!eqS ⟨t, i, p, r, s, o, b, d, g⟩ ⟨t', i', p', r', s', o', b', d', g'⟩)) w := by
 unfold eqS
 have hS : Tryz.prog.underlying TSn = some (.struct (Tryz.prog.fieldsOf TSn)) := by kernel_rfl
 have hp : Tryz.prog.stoodInHeld TSn = false := by kernel_rfl
 rw [run_neq_struct, show (10000 : Nat) = 9999 + 1 from rfl, run_equalIn_agg w 9999 TSn _ _ hS hp]
 simp only [Program.fieldsOf, Tryz.underlying29]
 go_simp
 have es : s.toList = s'.toList ↔ s = s' := ⟨str_ext, fun h => by rw [h]⟩
 have eo : o.toList = o'.toList ↔ o = o' := ⟨str_ext, fun h => by rw [h]⟩
 simp only [es, eo]
 clear es eo hS hp
 (repeat' split) <;> simp_all
set_option maxRecDepth 100000 in
theorem Before (a b : Sn) (w : World) : Calls Tryz.prog 193 #[a.v, b.v] w fun e w' => e = .returned (.bool (bef a b)) ∧ Fr (fun _ => False) w w' := by
 obtain ⟨t, i, p, r, s, o, u, d, g⟩ := a
 obtain ⟨t', i', p', r', s', o', u', d', g'⟩ := b
 have HF : Hid (Fr (fun _ => False) w ((w.alloc (.cells (Sn.arr ⟨t, i, p, r, s, o, u, d, g⟩) TSn)).alloc (.cells (Sn.arr ⟨t', i', p', r', s', o', u', d', g'⟩) TSn))) := (Fr.alloc _ _ _).trans (Fr.alloc (fun _ => False) _ _) (fun _ _ h => h) (fun _ _ h => h)
 unfold bef
 dsimp only
 by_cases h1 : t < t'
 ·have q1 : decide (t < t') = true := by simpa using h1
  rw [q1, Bool.true_or]
  clear h1
  go_enter Tryz.func193, Tryz.ntmps193
  go_wp2_with fail
  go_ret
  exact ⟨rfl, HF.out⟩
 ·have q1 : decide (t < t') = false := by simpa using h1
  rw [q1, Bool.false_or]
  by_cases h2 : t = t'
  ·subst h2
   clear h1
   simp only [decide_true, Bool.true_and]
   go_enter Tryz.func193, Tryz.ntmps193
   go_wp2_with fail
   go_ret
   exact ⟨rfl, HF.out⟩
  ·have q2 : (t == t') = false := by simpa using h2
   have e2 : decide (t = t') = false := by simpa using h2
   rw [e2, Bool.false_and]
   clear h1 h2 e2
   go_enter Tryz.func193, Tryz.ntmps193
   go_wp2_with fail
   go_ret
   exact ⟨rfl, HF.out⟩
def At (w : World) (b o : Nat) (x : Sn) : Prop := ∀ j u, x.cs[j]? = some u → w.cell? ⟨b, o + j, none⟩ = some u
theorem At.lt {w : World} {b o : Nat} {x : Sn} (h : At w b o x) : b < w.heap.size := World.block_lt_of_cell? w ⟨b, o + 0, none⟩ (h 0 _ rfl)
theorem At.fr {S : Nat → Prop} {w w' : World} {b o : Nat} {x : Sn} (h : At w b o x) (hf : Fr S w w') (hs : ¬ S b) : At w' b o x := fun j u hu => (World.cell?_of_block (w := w) (a := ⟨b, o + j, none⟩) (hf.block b h.lt hs)).trans (h j u hu)
theorem At.row {w : World} {b o : Nat} {L : List Sn} (hc : ∀ j u, (L.flatMap scs)[j]? = some u → w.cell? ⟨b, o + j, none⟩ = some u) {k : Nat} (hk : k < L.length) : At w b (o + k * 9) L[k] := fun j u hu => by
 rw [Nat.add_assoc]
 refine hc _ u ?_
 have hj : j < 9 := (List.getElem?_eq_some_iff.1 hu).1
 rw [flat_at scs_len hk hj]; exact hu
theorem At.box {w : World} {B : Nat} {x : Sn} (h : Bk w B x.arr TSn) : At w B 0 x := fun j u hu => by
 rw [h.cell, Nat.zero_add]
 have : x.arr[j]? = x.cs[j]? := by show x.cs.toArray[j]? = _; simp
 rw [this]; exact hu
theorem At.keep {w w' : World} {b o : Nat} {x : Sn} (h : At w b o x) (hf : Fr (fun _ => False) w w') : At w' b o x := h.fr hf (fun h => h)
structure At2 (w0 w : World) (b o b' o' : Nat) (x y : Sn) : Prop where
 a : At w b o x
 b : At w b' o' y
 f : Fr (fun _ => False) w0 w
theorem At2.fr {w0 w w' : World} {b o b' o' : Nat} {x y : Sn} (h : At2 w0 w b o b' o' x y) (hf : Fr (fun _ => False) w w') : At2 w0 w' b o b' o' x y := ⟨h.a.fr hf (fun h => h), h.b.fr hf (fun h => h), h.f.trans hf (fun _ _ h => h) (fun _ _ h => h)⟩
end SetW
end Go.Proofs.YtdpngmgaomghoaaGreat
namespace Go.Proofs.YtdpngmgaomghoaaGreat
open Go.RowKit
namespace SetW
open SetP
def OwnPost (M : List Sn) (w : World) (e : Ending) (w' : World) : Prop := ∃ v, e = .returned v ∧ w'.ownsRow w.heap.size TSn 9 v M.length (M.flatMap scs) ∧ Below w.heap.size w w'
def wout (M L : List Sn) : List Sn := L.filter (fun y => !decide (y ∈ M))
end SetW
end Go.Proofs.YtdpngmgaomghoaaGreat
