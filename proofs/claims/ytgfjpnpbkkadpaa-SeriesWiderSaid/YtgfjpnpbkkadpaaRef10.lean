/- The document's kept record; which record goes ahead. -/
import Derived.Test.YtgfjpnpbkkadpaaRank
namespace Go.Proofs.Ytgfjpnpbkkadpaa
open Go.RowKit
namespace Ref10
open KeyP PackP Vari SetW Name Code_ Rank
attribute [local go_sem] Eng.ev Eng.getO_cons Eng.getO_nil
/-- The record, and the result's block. -/
structure RS (w0 w : World) (B R : Nat) (x : Sn) (c : Array Value) : Prop where
  a : At w B 0 x
  r : Bk w R c TSn
  f : Fr (fun _ => False) w0 w
  n : w0.heap.size ≤ R
  nb : B ≠ R
theorem RS.fr {w0 w w' : World} {B R : Nat} {x : Sn} {c : Array Value} (h : RS w0 w B R x c) (hf : Fr (fun _ => False) w w') : RS w0 w' B R x c := ⟨h.a.keep hf, h.r.fr hf (fun _ _ h => h), h.f.trans hf (fun _ _ h => h) (fun _ _ h => h), h.n, h.nb⟩
/-- The result is stored. -/
structure RT (w0 w : World) (B R : Nat) (x : Sn) : Prop where
  a : At w B 0 x
  r : Bk w R (Sat2.keptS x).arr TSn
  f : Fr (fun _ => False) w0 w
theorem frs {w W : World} {R k : Nat} {u : Value} (h : Fr (fun b => b = R) w W) : Fr (fun b => b = R) w (W.setCell ⟨R, k, none⟩ u) := h.trans (Fr.setCell W ⟨R, k, none⟩ u (S := fun b => b = R) rfl) (fun _ _ h => h) (fun _ _ h => h)
theorem bks {w : World} {R : Nat} {v0 v1 v2 v3 v4 v5 v6 v7 v8 u0 u1 u2 u3 u4 u5 u6 u7 u8 : Value} (h : Bk w R #[v0, v1, v2, v3, v4, v5, v6, v7, v8] TSn) : Bk (((((((((w.setCell ⟨R, 0, none⟩ u0).setCell ⟨R, 1, none⟩ u1).setCell ⟨R, 2, none⟩ u2).setCell ⟨R, 3, none⟩ u3).setCell ⟨R, 4, none⟩ u4).setCell ⟨R, 5, none⟩ u5).setCell ⟨R, 6, none⟩ u6).setCell ⟨R, 7, none⟩ u7).setCell ⟨R, 8, none⟩ u8) R #[u0, u1, u2, u3, u4, u5, u6, u7, u8] TSn := by
  have := ((((((((h.set 0 u0).set 1 u1).set 2 u2).set 3 u3).set 4 u4).set 5 u5).set 6 u6).set 7 u7).set 8 u8
  simp only [List.setIfInBounds_toArray, List.set_cons_succ, List.set_cons_zero] at this
  exact this
theorem RS.store {w0 w : World} {B R : Nat} {x : Sn} {v0 v1 v2 v3 v4 v5 v6 v7 v8 : Value} (h : RS w0 w B R x #[v0, v1, v2, v3, v4, v5, v6, v7, v8]) : RT w0 ((((((((((w).setCell ⟨R, 0, none⟩ (.int .i64 x.t)).setCell ⟨R, 1, none⟩ (.int .i64 x.i)).setCell ⟨R, 2, none⟩ (.int .i64 x.p)).setCell ⟨R, 3, none⟩ (.int .i64 x.r)).setCell ⟨R, 4, none⟩ (.string x.s)).setCell ⟨R, 5, none⟩ (.string x.o)).setCell ⟨R, 6, none⟩ (.int .i64 x.b)).setCell ⟨R, 7, none⟩ (.int .i64 (Sat2.kd x.d))).setCell ⟨R, 8, none⟩ (.bool x.g)) B R x :=
  have hf := frs (frs (frs (frs (frs (frs (frs (frs (frs (Fr.refl (fun b => b = R) w)))))))))
  ⟨h.a.fr hf h.nb, bks h.r, h.f.trans hf (fun _ _ h => h) (fun k hk e => by have := h.n; omega)⟩
theorem less_drop {l m : List UInt8} : ∀ (k : Nat), l.take k = m.take k → k ≤ l.length → k ≤ m.length → Op.bytesLess l m = Op.bytesLess (l.drop k) (m.drop k)
  | 0, _, _, _ => rfl
  | k + 1, h, h1, h2 => by
    cases l with
    | nil => simp at h1
    | cons a l =>
      cases m with
      | nil => simp at h2
      | cons b m =>
        rw [List.take_succ_cons, List.take_succ_cons, List.cons.injEq] at h
        obtain ⟨rfl, h⟩ := h
        rw [List.drop_succ_cons, List.drop_succ_cons, ← less_drop k h (by simpa using h1) (by simpa using h2)]
        simp [Op.bytesLess]
theorem less_at {l m : List UInt8} {k : Nat} (h : l.take k = m.take k) (h1 : k < l.length) (h2 : k < m.length) : Op.bytesLess l m = (decide (l[k] < m[k]) || (l[k] == m[k] && Op.bytesLess (l.drop (k + 1)) (m.drop (k + 1)))) := by
  rw [less_drop k h (by omega) (by omega), List.drop_eq_getElem_cons h1, List.drop_eq_getElem_cons h2]; rfl
theorem bts_len {x : Sn} (hx : x.ok) : (bts x).length ≤ 111 := by
  unfold bts
  split
  · rename_i h
    exact enc_len (may_iff.1 (by rw [kp_may]; exact h)) (kp_ok hx)
  · simp
end Ref10
end Go.Proofs.Ytgfjpnpbkkadpaa
