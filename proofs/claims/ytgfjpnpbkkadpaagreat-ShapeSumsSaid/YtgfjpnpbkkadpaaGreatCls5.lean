/- The place of one span: the program's. -/
import Derived.Test.YtgfjpnpbkkadpaaGreatCls3
namespace Go.Proofs.YtgfjpnpbkkadpaaGreat
open Go.RowKit
namespace ClsF
open KeyP PackP SetP SetW SetF Cls ClsW ClsS
attribute [local go_sem] Eng.ev Eng.getO_cons Eng.getO_nil
end ClsF
end Go.Proofs.YtgfjpnpbkkadpaaGreat
namespace Go.Proofs.YtgfjpnpbkkadpaaGreat
open Go.RowKit
namespace ClsF
open KeyP PackP SetP SetW SetF Cls ClsW ClsS Pack
attribute [local go_sem] Eng.ev Eng.getO_cons Eng.getO_nil
end ClsF
end Go.Proofs.YtgfjpnpbkkadpaaGreat
namespace Go.Proofs.YtgfjpnpbkkadpaaGreat
open Go.RowKit
namespace ClsF
open KeyP PackP SetP SetW SetF Cls ClsW ClsS Pack
attribute [local go_sem] Eng.ev Eng.getO_cons Eng.getO_nil


end ClsF
end Go.Proofs.YtgfjpnpbkkadpaaGreat
namespace Go.Proofs.YtgfjpnpbkkadpaaGreat
open Go.RowKit
namespace ClsF
open KeyP PackP SetP SetW SetF Cls ClsW ClsS
attribute [local go_sem] Eng.ev Eng.getO_cons Eng.getO_nil


end ClsF
end Go.Proofs.YtgfjpnpbkkadpaaGreat
namespace Go.Proofs.YtgfjpnpbkkadpaaGreat
open Go.RowKit
namespace ClsF
open KeyP PackP SetP SetW SetF Cls ClsW ClsS
attribute [local go_sem] Eng.ev Eng.getO_cons Eng.getO_nil
/-- A place's cells. -/
abbrev AtP (w : World) (b o : Nat) (p : Pc) : Prop := ∀ j u, p.cs[j]? = some u → w.cell? ⟨b, o + j, none⟩ = some u
theorem pcs_at {l : List Pc} {k : Nat} (h : k < l.length) {j : Nat} (hj : j < 6) : (pcs l)[k * 6 + j]? = l[k].cs[j]? := by
  induction l generalizing k with
  | nil => simp at h
  | cons a l ih =>
    have e : pcs (a :: l) = a.cs ++ pcs l := rfl
    rw [e]
    cases k with
    | zero => rw [Nat.zero_mul, Nat.zero_add, List.getElem?_append_left (by exact hj)]; rfl
    | succ k =>
      rw [List.getElem?_append_right (by show 6 ≤ _; omega), show (k + 1) * 6 + j - a.cs.length = k * 6 + j by show _ - 6 = _; omega]
      exact ih (by simpa using h)
theorem AtP.row {w : World} {b o : Nat} {l : List Pc} (hc : ∀ j u, (pcs l)[j]? = some u → w.cell? ⟨b, o + j, none⟩ = some u) {k : Nat} (hk : k < l.length) : AtP w b (o + k * 6) l[k] := fun j u hu => by
  rw [Nat.add_assoc]
  refine hc _ u ?_
  have hj : j < 6 := (List.getElem?_eq_some_iff.1 hu).1
  rw [pcs_at hk hj]; exact hu
theorem AtP.lt {w : World} {b o : Nat} {p : Pc} (h : AtP w b o p) : b < w.heap.size := by
  have := h 0 _ rfl
  simp only [World.cell?] at this
  rcases Nat.lt_or_ge b w.heap.size with h1 | h1
  · exact h1
  · rw [Array.getElem?_eq_none h1] at this; cases this
theorem AtP.keep {w w' : World} {b o : Nat} {p : Pc} (h : AtP w b o p) (hf : Fr (fun _ => False) w w') : AtP w' b o p := fun j u hu => by
  have h1 := h j u hu
  rw [← h1]
  simp only [World.cell?]
  rw [hf.block b h.lt (fun h => h)]
end ClsF
end Go.Proofs.YtgfjpnpbkkadpaaGreat
namespace Go.Proofs.YtgfjpnpbkkadpaaGreat
open Go.RowKit
namespace ClsF
open KeyP PackP SetP SetW SetF Cls ClsW ClsS
attribute [local go_sem] Eng.ev Eng.getO_cons Eng.getO_nil
/-- Where a span's place is. -/
def fdI (P : List Pc) (t i : Int) : Int := match P.findIdx? (fun p => decide (p.t = t) && decide (p.i = i)) with
  | some k => k
  | none => -1
theorem fd_at {P : List Pc} {t i : Int} {k : Nat} (hk : k < P.length) (hn : ∀ p ∈ P.take k, ¬ (p.t = t ∧ p.i = i)) (h1 : P[k].t = t) (h2 : P[k].i = i) : fdI P t i = (k : Int) := by
  have : P.findIdx? (fun p => decide (p.t = t) && decide (p.i = i)) = some k := by
    rw [List.findIdx?_eq_some_iff_getElem]
    refine ⟨hk, by simp [h1, h2], fun j hj => ?_⟩
    have := hn P[j] (List.mem_take_iff_getElem.2 ⟨j, by omega, rfl⟩)
    simpa using this
  unfold fdI; rw [this]
theorem fd_none {P : List Pc} {t i : Int} (hn : ∀ p ∈ P, ¬ (p.t = t ∧ p.i = i)) : fdI P t i = -1 := by
  have : P.findIdx? (fun p => decide (p.t = t) && decide (p.i = i)) = none := by
    rw [List.findIdx?_eq_none_iff]
    intro p hp
    have := hn p hp
    simpa using this
  unfold fdI; rw [this]
set_option maxRecDepth 100000 in
set_option maxHeartbeats 1000000 in
theorem FindP (A : Option Addr) (c : Nat) (P : List Pc) (t i : Int) (w : World) (hS : Sl w 6 A P.length c (pcs P)) :
    Calls Tryz.prog 39 #[.slice A P.length c, .int .i64 t, .int .i64 i] w fun e w' => e = .returned (.int .i64 (fdI P t i)) ∧ Fr (fun _ => False) w w' := by
  have hlen : P.length ≤ 9223372036854775807 := by have := hS.2.1; have := hS.2.2.1; unfold maxLen at this; omega
  have HS := Lib.hid hS
  clear hS
  go_enter Tryz.func39, Tryz.ntmps39
  go_wp2_with fail
  go_loopg [7] P.length (fun gk n wr => ∃ k : Nat, n = .int .i64 k ∧ k ≤ P.length ∧ gk = P.length - k ∧ (∀ p ∈ P.take k, ¬ (p.t = t ∧ p.i = i)) ∧ Fr (fun _ => False) w wr)
  case atStart => exact ⟨0, rfl, Nat.zero_le _, rfl, by simp, Fr.refl _ _⟩
  case round =>
    obtain ⟨k, rfl, hk, hg, hno, hf⟩ := hrel
    have HG := Lib.hid hg; have HF := Lib.hid hf; have HNo := Lib.hid hno
    clear hg hf hno
    by_cases hlt : k < P.length
    · obtain ⟨b1, o1, rfl, hb1, c1⟩ := HS.out.at hlt (by omega)
      have HA := Lib.hid ((AtP.row c1 hlt).keep HF.out)
      have HP : Hid (P[k].t = t → P[k].i = i → fdI P t i = k) := fun h1 h2 => fd_at hlt HNo.out h1 h2
      have HT : Hid (¬ (P[k].t = t ∧ P[k].i = i) → ∀ p ∈ P.take (k + 1), ¬ (p.t = t ∧ p.i = i)) := fun h p hp => by
        rw [List.take_succ_eq_append_getElem hlt, List.mem_append] at hp
        rcases hp with hp | hp
        · exact HNo.out p hp
        · simp only [List.mem_singleton] at hp; rw [hp]; exact h
      clear c1 hb1
      generalize P[k] = y at *
      have q1 : (0 : Int) ≤ (k : Int) := by omega
      have q2 : decide ((k : Int) < (P.length : Int)) = true := by simp; omega
      have yc0 : wr.cell? ⟨b1, o1 + k * 6, none⟩ = some (.int .i64 y.t) := HA.out 0 _ rfl
      have yc1 : wr.cell? ⟨b1, o1 + k * 6 + 1, none⟩ = some (.int .i64 y.i) := HA.out 1 _ rfl
      have yc2 : wr.cell? ⟨b1, o1 + k * 6 + 1 + 1, none⟩ = some (.int .i64 y.c) := HA.out 2 _ rfl
      have yc3 : wr.cell? ⟨b1, o1 + k * 6 + 1 + 1 + 1, none⟩ = some (.int .i64 y.d) := HA.out 3 _ rfl
      have yc4 : wr.cell? ⟨b1, o1 + k * 6 + 1 + 1 + 1 + 1, none⟩ = some (.int .i64 y.p) := HA.out 4 _ rfl
      have yc5 : wr.cell? ⟨b1, o1 + k * 6 + 1 + 1 + 1 + 1 + 1, none⟩ = some (.int .i64 y.f) := HA.out 5 _ rfl
      cases ht : (y.t == t) with
      | false =>
        have HE : Hid (∀ p ∈ P.take (k + 1), ¬ (p.t = t ∧ p.i = i)) := HT.out (fun h => by rw [h.1] at ht; simp at ht)
        go_wp2_with fail
        go_roundg (P.length - (k + 1))
        case rel => exact ⟨k + 1, by go_num, by omega, rfl, HE.out, HF.out⟩
        case measure => have := HG.out; omega
      | true =>
        have ht' : y.t = t := by simpa using ht
        have HTe := Lib.hid ht'
        clear ht'
        cases hi : (y.i == i) with
        | false =>
          have HE : Hid (∀ p ∈ P.take (k + 1), ¬ (p.t = t ∧ p.i = i)) := HT.out (fun h => by rw [h.2] at hi; simp at hi)
          go_wp2_with fail
          go_roundg (P.length - (k + 1))
          case rel => exact ⟨k + 1, by go_num, by omega, rfl, HE.out, HF.out⟩
          case measure => have := HG.out; omega
        | true =>
          have HE := Lib.hid (HP.out HTe.out (by simpa using hi))
          go_wp2_with fail
          go_ret
          exact ⟨by rw [HE.out]; rfl, HF.out⟩
    · obtain rfl : k = P.length := by omega
      have h := HNo.out
      rw [List.take_length] at h
      have HE := Lib.hid (fd_none h)
      clear h
      go_wp2_with fail
      go_ret
      exact ⟨by rw [HE.out]; rfl, HF.out⟩

end ClsF
end Go.Proofs.YtgfjpnpbkkadpaaGreat
