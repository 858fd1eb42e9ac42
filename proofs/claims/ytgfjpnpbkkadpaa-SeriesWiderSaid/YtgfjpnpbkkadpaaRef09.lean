/- A record's bytes: the document's. -/
import Derived.Test.YtgfjpnpbkkadpaaCodes
import Derived.Test.YtgfjpnpbkkadpaaEngs
namespace Go.Proofs.Ytgfjpnpbkkadpaa
open Go.RowKit
namespace Ref09
open KeyP PackP Vari SetW Pack Name Code_
attribute [local go_sem] Eng.ev Eng.getO_cons Eng.getO_nil
/-- A part. -/
structure Pt where
  k : Int
  n : Int
  s : ByteArray
abbrev Pt.cs (x : Pt) : List Value := [.int .i64 x.k, .int .i64 x.n, .string x.s]
abbrev Pt.arr (x : Pt) : Array Value := #[.int .i64 x.k, .int .i64 x.n, .string x.s]
abbrev Pt.v (x : Pt) : Value := .agg x.arr
def Pt.bs (x : Pt) : List UInt8 := if x.k = 1 then nb x.n else if x.k = 2 then vb (zz x.n) else if x.k = 3 then tb x.s else if x.k = 4 then gb (x.n == 1) else []
structure Pt.ok (x : Pt) : Prop where
  n : in64 x.n
  s : x.s.size ≤ 24
theorem Pt.len {x : Pt} (h : x.ok) : x.bs.length ≤ 25 := by
  have h1 := nb_len h.n; have h2 := vb_len10 (zz_lt h.n); have h3 := tb_len h.s
  unfold Pt.bs
  split
  · omega
  · split
    · omega
    · split
      · omega
      · split
        · simp [gb]
        · simp
theorem Sl.many (w : World) (t : TypeId) (cs : List Value) (sz n : Nat) (hn : n ≤ 1000000) (hs : cs.length = n * sz) : Sl (w.alloc (.cells cs.toArray t)) sz (some ⟨w.heap.size, 0, none⟩) n n cs := by
  refine ⟨by omega, Nat.le_refl _, by unfold maxLen; omega, (by simp), fun _ => ⟨_, 0, rfl, fun i u hu => ?_⟩⟩
  rw [Nat.zero_add, cell_of_block (heap_new w _)]
  simpa using hu
theorem tb_ks (s : ByteArray) : ks (nb (s.size : Int)) ++ s = ks (tb s) := by
  rw [← ks_of s, ks_app, ks_of]
  unfold tb
  rw [nb_ge (by omega)]; rfl
abbrev pcs (x : Pt) : List Value := x.cs
theorem pcs_len (x : Pt) : (pcs x).length = 3 := rfl
theorem flat_len (l : List Pt) (h : ∀ x ∈ l, x.ok) : (l.flatMap Pt.bs).length ≤ 25 * l.length := by
  induction l with
  | nil => simp
  | cons a l ih =>
    have h1 := Pt.len (h a (by simp)); have h2 := ih (fun x hx => h x (by simp [hx]))
    rw [List.flatMap_cons, List.length_append, List.length_cons]; omega
def oneI (g : Bool) : Int := if g then 1 else 0
/-- A record's parts. -/
def partsOf (x : Sn) : List Pt := [⟨1, x.t, ByteArray.empty⟩, ⟨1, x.i, ByteArray.empty⟩, ⟨1, x.p, ByteArray.empty⟩, ⟨1, x.r, ByteArray.empty⟩, ⟨3, 0, x.s⟩, ⟨3, 0, x.o⟩, ⟨2, x.b, ByteArray.empty⟩, ⟨2, x.d, ByteArray.empty⟩, ⟨4, oneI x.g, ByteArray.empty⟩]
theorem parts_enc (x : Sn) : (partsOf x).flatMap Pt.bs = enc x := by
  have h : (oneI x.g == 1) = x.g := by cases x.g <;> rfl
  unfold partsOf enc
  simp only [List.flatMap_cons, List.flatMap_nil, List.append_nil]
  simp only [Pt.bs, h]
  simp
theorem parts_ok {x : Sn} (hx : x.ok) (hs : x.s.size ≤ 24) (ho : x.o.size ≤ 24) : ∀ y ∈ partsOf x, y.ok ∧ (y.k = 1 ∨ y.k = 2 ∨ y.k = 3 ∨ y.k = 4) := by
  have h0 : in64 0 := by unfold in64; omega
  have h1 : in64 (oneI x.g) := by cases x.g <;> (unfold oneI in64; simp)
  have hz : ByteArray.empty.size ≤ 24 := by decide
  intro y hy
  simp only [partsOf, List.mem_cons, List.not_mem_nil, or_false] at hy
  rcases hy with rfl | rfl | rfl | rfl | rfl | rfl | rfl | rfl | rfl
  · exact ⟨⟨hx.t, hz⟩, .inl rfl⟩
  · exact ⟨⟨hx.i, hz⟩, .inl rfl⟩
  · exact ⟨⟨hx.p, hz⟩, .inl rfl⟩
  · exact ⟨⟨hx.r, hz⟩, .inl rfl⟩
  · exact ⟨⟨h0, hs⟩, .inr (.inr (.inl rfl))⟩
  · exact ⟨⟨h0, ho⟩, .inr (.inr (.inl rfl))⟩
  · exact ⟨⟨hx.b, hz⟩, .inr (.inl rfl)⟩
  · exact ⟨⟨hx.d, hz⟩, .inr (.inl rfl)⟩
  · exact ⟨⟨h1, hz⟩, .inr (.inr (.inr rfl))⟩
/-- The record lies there. -/
structure XS (w0 w : World) (B : Nat) (x : Sn) : Prop where
  a : At w B 0 x
  f : Fr (fun _ => False) w0 w
theorem XS.fr {w0 w w' : World} {B : Nat} {x : Sn} (h : XS w0 w B x) (hf : Fr (fun _ => False) w w') : XS w0 w' B x := ⟨h.a.keep hf, h.f.trans hf (fun _ _ h => h) (fun _ _ h => h)⟩
end Ref09
end Go.Proofs.Ytgfjpnpbkkadpaa
