/- Sets of records, the document's: what is ahead, where a key is, one more, without some. -/
import Derived.Test.YtgfjpnpbkkadpaaSetP
import Derived.Test.YtgfjpnpbkkadpaaRngs
import Derived.Test.YtgfjpnpbkkadpaaEngs
import Derived.Test.YtgfjpnpbkkadpaaOpenRow
import Derived.RegionTactic
import Derived.Outline
import Derived.Lib.Hide
import Derived.WalkSpells
import Derived.WalkLawsBesides
import Derived.Deep.LoopGhost
import Derived.Deep.QuietTactic
import Derived.BigQuiet
import Derived.OwnWalk
import Derived.IntWalk
import Derived.Laws.StructEq
import Derived.Deep.RegionWith
import Derived.Deep.DeepCutAuto
import Derived.Deep.CutBlock
namespace Go.Proofs.Ytgfjpnpbkkadpaa
open Go.RowKit
namespace SetW
open SetP
attribute [local go_sem] Eng.ev Eng.getO_cons Eng.getO_nil
abbrev TSn : TypeId := 36
abbrev TSs : TypeId := 24
abbrev scs (x : Sn) : List Value := x.cs
theorem scs_len (x : Sn) : (scs x).length = 9 := rfl
theorem infoS : (Try.prog.info? TSn).map (fun i => (i.zero, i.size, i.bytes)) = some (some (.agg #[.int .i64 0, .int .i64 0, .int .i64 0, .int .i64 0, .string ByteArray.empty, .string ByteArray.empty, .int .i64 0, .int .i64 0, .bool false]), 9, 88) := by kernel_rfl
/-- Are records the same? -/
def eqS (a b : Sn) : Bool := decide (a = b)
theorem eqS_iff {a b : Sn} : eqS a b = true ↔ a = b := by unfold eqS; simp
theorem eqS_ne {a b : Sn} (h : a ≠ b) : eqS a b = false := by unfold eqS; simpa using h
/-- Records are the same, if all their parts are. -/
theorem eq_parts (t i p r b d t' i' p' r' b' d' : Int) (s o s' o' : ByteArray) (g g' : Bool) (w : World) : (binOp .eql TSn (.agg #[.int .i64 t, .int .i64 i, .int .i64 p, .int .i64 r, .string s, .string o, .int .i64 b, .int .i64 d, .bool g]) (.agg #[.int .i64 t', .int .i64 i', .int .i64 p', .int .i64 r', .string s', .string o', .int .i64 b', .int .i64 d', .bool g'])).run Try.prog w
    = .ok (.bool (eqS ⟨t, i, p, r, s, o, b, d, g⟩ ⟨t', i', p', r', s', o', b', d', g'⟩)) w := by
  unfold eqS
  have hS : Try.prog.underlying TSn = some (.struct (Try.prog.fieldsOf TSn)) := by kernel_rfl
  have hp : Try.prog.stoodInHeld TSn = false := by kernel_rfl
  rw [run_eql_struct, show (10000 : Nat) = 9999 + 1 from rfl, run_equalIn_agg w 9999 TSn _ _ hS hp]
  simp only [Program.fieldsOf, Try.underlying36]
  go_simp
  have es : s.toList = s'.toList ↔ s = s' := ⟨str_ext, fun h => by rw [h]⟩
  have eo : o.toList = o'.toList ↔ o = o' := ⟨str_ext, fun h => by rw [h]⟩
  simp only [es, eo]
  clear es eo hS hp
  (repeat' split) <;> simp_all
theorem neq_parts (t i p r b d t' i' p' r' b' d' : Int) (s o s' o' : ByteArray) (g g' : Bool) (w : World) : (binOp .neq TSn (.agg #[.int .i64 t, .int .i64 i, .int .i64 p, .int .i64 r, .string s, .string o, .int .i64 b, .int .i64 d, .bool g]) (.agg #[.int .i64 t', .int .i64 i', .int .i64 p', .int .i64 r', .string s', .string o', .int .i64 b', .int .i64 d', .bool g'])).run Try.prog w
    = .ok (.bool (!eqS ⟨t, i, p, r, s, o, b, d, g⟩ ⟨t', i', p', r', s', o', b', d', g'⟩)) w := by
  unfold eqS
  have hS : Try.prog.underlying TSn = some (.struct (Try.prog.fieldsOf TSn)) := by kernel_rfl
  have hp : Try.prog.stoodInHeld TSn = false := by kernel_rfl
  rw [run_neq_struct, show (10000 : Nat) = 9999 + 1 from rfl, run_equalIn_agg w 9999 TSn _ _ hS hp]
  simp only [Program.fieldsOf, Try.underlying36]
  go_simp
  have es : s.toList = s'.toList ↔ s = s' := ⟨str_ext, fun h => by rw [h]⟩
  have eo : o.toList = o'.toList ↔ o = o' := ⟨str_ext, fun h => by rw [h]⟩
  simp only [es, eo]
  clear es eo hS hp
  (repeat' split) <;> simp_all
/-- A record lies there. -/
def At (w : World) (b o : Nat) (x : Sn) : Prop := ∀ j u, x.cs[j]? = some u → w.cell? ⟨b, o + j, none⟩ = some u
theorem At.lt {w : World} {b o : Nat} {x : Sn} (h : At w b o x) : b < w.heap.size := World.block_lt_of_cell? w ⟨b, o + 0, none⟩ (h 0 _ rfl)
theorem At.fr {S : Nat → Prop} {w w' : World} {b o : Nat} {x : Sn} (h : At w b o x) (hf : Fr S w w') (hs : ¬ S b) : At w' b o x := fun j u hu => (World.cell?_of_block (w := w) (a := ⟨b, o + j, none⟩) (hf.block b h.lt hs)).trans (h j u hu)
theorem At.row {w : World} {b o : Nat} {L : List Sn} (hc : ∀ j u, (L.flatMap scs)[j]? = some u → w.cell? ⟨b, o + j, none⟩ = some u) {k : Nat} (hk : k < L.length) : At w b (o + k * 9) L[k] := fun j u hu => by
  rw [Nat.add_assoc]
  refine hc _ u ?_
  have hj : j < 9 := (List.getElem?_eq_some_iff.1 hu).1
  rw [flat_at scs_len hk hj]; exact hu
theorem At.box {w : World} {B : Nat} {x : Sn} (h : Bk w B x.arr TSn) : At w B 0 x := fun j u hu => by
  rw [h.cell, Nat.zero_add]
  have : x.arr[j]? = x.cs[j]? := by show x.cs.toArray[j]? = _; simp
  rw [this]; exact hu
theorem At.keep {w w' : World} {b o : Nat} {x : Sn} (h : At w b o x) (hf : Fr (fun _ => False) w w') : At w' b o x := h.fr hf (fun h => h)
/-- Two records lie there. -/
structure At2 (w0 w : World) (b o b' o' : Nat) (x y : Sn) : Prop where
  a : At w b o x
  b : At w b' o' y
  f : Fr (fun _ => False) w0 w
theorem At2.fr {w0 w w' : World} {b o b' o' : Nat} {x y : Sn} (h : At2 w0 w b o b' o' x y) (hf : Fr (fun _ => False) w w') : At2 w0 w' b o b' o' x y := ⟨h.a.fr hf (fun h => h), h.b.fr hf (fun h => h), h.f.trans hf (fun _ _ h => h) (fun _ _ h => h)⟩
/-- Where a key is. -/
def pos (x : Sn) (L : List Sn) : Option Nat := L.findIdx? (fun y => one y x)
def posI (x : Sn) (L : List Sn) : Int := match pos x L with
  | some k => k
  | none => -1
theorem pos_at {x : Sn} : ∀ {L : List Sn} {k : Nat}, (∀ y ∈ L.take k, one y x = false) → (h : k < L.length) → one L[k] x = true → pos x L = some k
  | [], k, _, h, _ => by simp at h
  | a :: L, 0, _, _, h1 => by
    have h1' : one a x = true := h1
    unfold pos; rw [List.findIdx?_cons, h1']; rfl
  | a :: L, k + 1, h0, h, h1 => by
    have ha := h0 a (by simp)
    have ih := pos_at (x := x) (L := L) (k := k) (fun y hy => h0 y (by simp [hy])) (by simpa using h) h1
    unfold pos at ih ⊢
    rw [List.findIdx?_cons, ha, ih]; rfl
theorem pos_none {x : Sn} {L : List Sn} (h : ∀ y ∈ L, one y x = false) : pos x L = none := by
  unfold pos; rw [List.findIdx?_eq_none_iff]; exact h
theorem pos_fnd {x : Sn} : ∀ {L : List Sn}, (∃ k, ∃ h : k < L.length, pos x L = some k ∧ fnd x L = some L[k]) ∨ (pos x L = none ∧ fnd x L = none)
  | [] => .inr ⟨rfl, rfl⟩
  | a :: L => by
    unfold pos fnd
    rw [List.findIdx?_cons, List.find?_cons]
    cases h : one a x with
    | true => exact .inl ⟨0, by simp, rfl, rfl⟩
    | false =>
      rcases pos_fnd (x := x) (L := L) with ⟨k, hk, h1, h2⟩ | ⟨h1, h2⟩
      · unfold pos at h1; unfold fnd at h2
        exact .inl ⟨k + 1, by simpa using hk, by rw [h1]; rfl, h2⟩
      · unfold pos at h1; unfold fnd at h2
        exact .inr ⟨by rw [h1]; rfl, h2⟩
/-- The state of a collecting loop, beside a record in a box. -/
structure CS (w wr : World) (Bx : Nat) (z : Sn) (v : Value) (P : List Sn) : Prop where
  own : wr.ownsRow (Bx + 1) TSn 9 v P.length (P.flatMap scs)
  bel : Below w.heap.size w wr
  box : At wr Bx 0 z
  sz : w.heap.size ≤ wr.heap.size
  bx : w.heap.size ≤ Bx
theorem CS.fr {w wr w' : World} {Bx : Nat} {z : Sn} {v : Value} {P : List Sn} (h : CS w wr Bx z v P) (hf : Fr (fun _ => False) wr w') : CS w w' Bx z v P :=
  ⟨ownsRow_fr h.own hf (fun _ _ h => h), h.bel.trans (hf.below h.sz (fun _ _ h => h)), h.box.keep hf, Nat.le_trans h.sz hf.size, h.bx⟩
end SetW
end Go.Proofs.Ytgfjpnpbkkadpaa
namespace Go.Proofs.Ytgfjpnpbkkadpaa
open Go.RowKit
namespace SetW
open SetP
theorem takeWhile_app' {p : Sn → Bool} : ∀ {A B : List Sn}, (∀ q ∈ A, p q = true) → (A ++ B).takeWhile p = A ++ B.takeWhile p
  | [], _, _ => rfl
  | a :: A, B, h => by
    rw [List.cons_append, List.takeWhile_cons, h a (by simp), takeWhile_app' (fun q hq => h q (by simp [hq]))]; rfl
theorem takeWhile_take' {p : Sn → Bool} {L : List Sn} {j : Nat} (h1 : ∀ y ∈ L.take j, p y = true) (h2 : ∀ h : j < L.length, p L[j] = false) : L.takeWhile p = L.take j := by
  have h4 : (L.drop j).takeWhile p = [] := by
    by_cases hl : j < L.length
    · rw [List.drop_eq_getElem_cons hl, List.takeWhile_cons, h2 hl]; rfl
    · rw [List.drop_eq_nil_of_le (by omega)]; rfl
  have h5 := takeWhile_app' (p := p) (A := L.take j) (B := L.drop j) h1
  rw [List.take_append_drop, h4, List.append_nil] at h5
  exact h5
theorem filter_snoc {p : Sn → Bool} {L : List Sn} {k : Nat} (h : k < L.length) : (L.take (k + 1)).filter p = (L.take k).filter p ++ if p L[k] then [L[k]] else [] := by
  rw [List.take_succ_eq_append_getElem h, List.filter_append]
  congr 1
  by_cases hp : p L[k] = true <;> simp [hp]
def OwnPost (M : List Sn) (w : World) (e : Ending) (w' : World) : Prop := ∃ v, e = .returned v ∧ w'.ownsRow w.heap.size TSn 9 v M.length (M.flatMap scs) ∧ Below w.heap.size w w'
/-- Records without some. -/
def wout (M L : List Sn) : List Sn := L.filter (fun y => !decide (y ∈ M))
end SetW
end Go.Proofs.Ytgfjpnpbkkadpaa
