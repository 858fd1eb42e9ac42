/- Bytes of numbers, of records; which record goes ahead: plain. -/
import Derived.Test.YtkhhdadlpilbmaaSetP
namespace Go.Proofs.Ytkhhdadlpilbmaa
open Go.RowKit
namespace PackP
open KeyP SetP
/-- The bytes of a number of 64 bits. -/
def vb (u : Nat) : List UInt8 := if u < 128 then [UInt8.ofNat u] else UInt8.ofNat (u % 128 + 128) :: vb (u / 128)
termination_by u
decreasing_by omega
theorem vb_lt {u : Nat} (h : u < 128) : vb u = [UInt8.ofNat u] := by rw [vb, if_pos h]
theorem vb_ge {u : Nat} (h : ¬ u < 128) : vb u = UInt8.ofNat (u % 128 + 128) :: vb (u / 128) := by rw [vb, if_neg h]
theorem of_inj {a b : Nat} (ha : a < 256) (hb : b < 256) (h : UInt8.ofNat a = UInt8.ofNat b) : a = b := by
  have := congrArg UInt8.toNat h
  rw [UInt8.toNat_ofNat', UInt8.toNat_ofNat'] at this; omega
theorem vb_inj : ∀ (u v : Nat) (s t : List UInt8), vb u ++ s = vb v ++ t → u = v ∧ s = t := by
  intro u
  induction u using Nat.strongRecOn with
  | _ u ih =>
    intro v s t h
    by_cases hu : u < 128
    · by_cases hv : v < 128
      · rw [vb_lt hu, vb_lt hv, List.singleton_append, List.singleton_append, List.cons.injEq] at h
        exact ⟨of_inj (by omega) (by omega) h.1, h.2⟩
      · rw [vb_lt hu, vb_ge hv, List.singleton_append, List.cons_append, List.cons.injEq] at h
        have := of_inj (by omega) (by omega) h.1; omega
    · by_cases hv : v < 128
      · rw [vb_ge hu, vb_lt hv, List.singleton_append, List.cons_append, List.cons.injEq] at h
        have := of_inj (by omega) (by omega) h.1; omega
      · rw [vb_ge hu, vb_ge hv, List.cons_append, List.cons_append, List.cons.injEq] at h
        have h1 := of_inj (by omega) (by omega) h.1
        obtain ⟨h2, h3⟩ := ih (u / 128) (by omega) (v / 128) s t h.2
        exact ⟨by omega, h3⟩
theorem vb_len : ∀ (k u : Nat), u < 128 ^ (k + 1) → (vb u).length ≤ k + 1
  | 0, u, h => by rw [vb_lt (by omega)]; simp
  | k + 1, u, h => by
    by_cases hu : u < 128
    · rw [vb_lt hu]; simp
    · rw [vb_ge hu, List.length_cons]
      have := vb_len k (u / 128) (by rw [Nat.div_lt_iff_lt_mul (by omega)]; rw [Nat.pow_succ] at h; exact h)
      omega
theorem vb_len10 {u : Nat} (h : u < 18446744073709551616) : (vb u).length ≤ 10 := vb_len 9 u (by omega)
/-- Twice a number, or minus twice it less 1. -/
def zz (n : Int) : Nat := (if n < 0 then -(2 * n) - 1 else 2 * n).toNat
theorem zz_lt {n : Int} (h : in64 n) : zz n < 18446744073709551616 := by unfold zz; unfold in64 at h; split <;> omega
theorem zz_inj {a b : Int} (h : zz a = zz b) : a = b := by unfold zz at h; split at h <;> split at h <;> omega
/-- The bytes of a number that is not below 0. -/
def nb (n : Int) : List UInt8 := if n < 0 then [] else vb n.toNat
theorem nb_ge {n : Int} (h : 0 ≤ n) : nb n = vb n.toNat := by unfold nb; rw [if_neg (by omega)]
theorem nb_len {n : Int} (h : in64 n) : (nb n).length ≤ 10 := by
  unfold nb; unfold in64 at h
  split
  · simp
  · exact vb_len10 (by omega)
theorem nb_inj {a b : Int} (ha : 0 ≤ a) (hb : 0 ≤ b) {s t : List UInt8} (h : nb a ++ s = nb b ++ t) : a = b ∧ s = t := by
  rw [nb_ge ha, nb_ge hb] at h
  obtain ⟨h1, h2⟩ := vb_inj _ _ _ _ h
  exact ⟨by omega, h2⟩
/-- The bytes of a text, with how many there are ahead. -/
def tb (s : ByteArray) : List UInt8 := vb s.size ++ s.data.toList
theorem tb_inj {a b : ByteArray} {s t : List UInt8} (h : tb a ++ s = tb b ++ t) : a = b ∧ s = t := by
  unfold tb at h
  rw [List.append_assoc, List.append_assoc] at h
  obtain ⟨h1, h2⟩ := vb_inj _ _ _ _ h
  obtain ⟨h3, h4⟩ := List.append_inj h2 h1
  exact ⟨ByteArray.ext (Array.ext' h3), h4⟩
theorem tb_len {s : ByteArray} (h : s.size ≤ 24) : (tb s).length ≤ 25 := by
  unfold tb
  rw [vb_lt (by omega), List.length_append, List.length_singleton]
  have : s.data.toList.length = s.size := rfl
  omega
def gb (g : Bool) : List UInt8 := [if g then 1 else 0]
theorem gb_inj {a b : Bool} (h : gb a = gb b) : a = b := by revert h; cases a <;> cases b <;> simp [gb]
/-- The bytes of a record. -/
def enc (x : Sn) : List UInt8 := nb x.t ++ (nb x.i ++ (nb x.p ++ (nb x.r ++ (tb x.s ++ (tb x.o ++ (vb (zz x.b) ++ (vb (zz x.d) ++ gb x.g)))))))
/-- A text is a name. -/
def nameB (s : ByteArray) : Bool := s.data.toList.all (fun c => decide (33 ≤ c.toNat) && decide (c.toNat ≤ 126)) && (decide (1 ≤ s.size) && decide (s.size ≤ 24))
/-- A record may be. -/
def mayB (x : Sn) : Bool := decide (0 < x.t) && (decide (0 < x.i) && (decide (0 ≤ x.p) && (decide (0 ≤ x.r) && (nameB x.s && (nameB x.o && (decide (-4611686018427387904 ≤ x.b) && decide (x.b < 4611686018427387904)))))))
structure May (x : Sn) : Prop where
  t : 0 < x.t
  i : 0 < x.i
  p : 0 ≤ x.p
  r : 0 ≤ x.r
  s : nameB x.s = true
  o : nameB x.o = true
  b1 : -4611686018427387904 ≤ x.b
  b2 : x.b < 4611686018427387904
theorem may_iff {x : Sn} : mayB x = true ↔ May x := by
  unfold mayB
  simp only [Bool.and_eq_true, decide_eq_true_eq]
  exact ⟨fun ⟨h1, h2, h3, h4, h5, h6, h7, h8⟩ => ⟨h1, h2, h3, h4, h5, h6, h7, h8⟩, fun ⟨h1, h2, h3, h4, h5, h6, h7, h8⟩ => ⟨h1, h2, h3, h4, h5, h6, h7, h8⟩⟩
theorem name_size {s : ByteArray} (h : nameB s = true) : 1 ≤ s.size ∧ s.size ≤ 24 := by
  unfold nameB at h
  simp only [Bool.and_eq_true, decide_eq_true_eq] at h
  exact h.2
theorem enc_inj {x y : Sn} (hx : May x) (hy : May y) (h : enc x = enc y) : x = y := by
  unfold enc at h
  obtain ⟨h1, h⟩ := nb_inj (Int.le_of_lt hx.t) (Int.le_of_lt hy.t) h
  obtain ⟨h2, h⟩ := nb_inj (Int.le_of_lt hx.i) (Int.le_of_lt hy.i) h
  obtain ⟨h3, h⟩ := nb_inj hx.p hy.p h
  obtain ⟨h4, h⟩ := nb_inj hx.r hy.r h
  obtain ⟨h5, h⟩ := tb_inj h
  obtain ⟨h6, h⟩ := tb_inj h
  obtain ⟨h7, h⟩ := vb_inj _ _ _ _ h
  obtain ⟨h8, h⟩ := vb_inj _ _ _ _ h
  have h9 := gb_inj h
  have h7 := zz_inj h7
  have h8 := zz_inj h8
  cases x; cases y; simp_all
theorem enc_len {x : Sn} (hx : May x) (hk : x.ok) : (enc x).length ≤ 111 := by
  unfold enc
  have := nb_len hk.t; have := nb_len hk.i; have := nb_len hk.p; have := nb_len hk.r
  have := tb_len (name_size hx.s).2; have := tb_len (name_size hx.o).2
  have := vb_len10 (zz_lt hk.b); have := vb_len10 (zz_lt hk.d)
  simp only [List.length_append]
  have : (gb x.g).length = 1 := rfl
  omega
/-- A duration, held at its ends. -/
def kdr (d : Int) : Int := max 0 (min d 4611686018427387904)
def kp (x : Sn) : Sn := { x with d := kdr x.d }
theorem kdr_in (n : Int) : 0 ≤ kdr n ∧ kdr n ≤ 4611686018427387904 := by unfold kdr; omega
theorem kdr_kdr (n : Int) : kdr (kdr n) = kdr n := by unfold kdr; omega
theorem kp_kp (x : Sn) : kp (kp x) = kp x := by unfold kp; simp only [kdr_kdr]
theorem kp_ok {x : Sn} (h : x.ok) : (kp x).ok := ⟨h.t, h.i, h.p, h.r, h.b, by have := kdr_in x.d; show in64 (kdr x.d); unfold in64; omega, h.s, h.o⟩
theorem kp_may (x : Sn) : mayB (kp x) = mayB x := rfl
theorem kp_one (x y : Sn) : one (kp x) y = one x y := rfl
/-- The bytes of a record that may be, when it is kept; else none. -/
def bts (x : Sn) : List UInt8 := if mayB x then enc (kp x) else []
theorem bts_kp (x : Sn) : bts (kp x) = bts x := by unfold bts; rw [kp_may, kp_kp]
/-- A record goes ahead of another one. -/
def nwr (x y : Sn) : Bool := decide (y.r < x.r) || (decide (x.r = y.r) && Op.bytesLess (bts y) (bts x))
theorem nwr_kp (x y : Sn) : nwr (kp x) (kp y) = nwr x y := by unfold nwr; rw [bts_kp, bts_kp]; rfl
theorem nwr_irr (x : Sn) : nwr x x = false := by unfold nwr; rw [Bl.irr]; simp
theorem nwr_tr {x y z : Sn} (h1 : nwr x y = true) (h2 : nwr y z = true) : nwr x z = true := by
  simp only [nwr, Bool.or_eq_true, Bool.and_eq_true, decide_eq_true_eq] at *
  rcases h1 with h1 | ⟨h1, h3⟩
  · rcases h2 with h2 | ⟨h2, h4⟩
    · exact .inl (by omega)
    · exact .inl (by omega)
  · rcases h2 with h2 | ⟨h2, h4⟩
    · exact .inl (by omega)
    · exact .inr ⟨by omega, Bl.tr _ _ _ h4 h3⟩
theorem nwr_asym {x y : Sn} (h : nwr x y = true) : nwr y x = false := by
  cases h' : nwr y x with
  | false => rfl
  | true => have := nwr_tr h h'; rw [nwr_irr] at this; cases this
/-- Of two records that may be, neither of which goes ahead, the kept ones are one. -/
theorem nwr_tri {x y : Sn} (hx : mayB x = true) (hy : mayB y = true) (h1 : nwr x y = false) (h2 : nwr y x = false) : kp x = kp y := by
  simp only [nwr, Bool.or_eq_false_iff, Bool.and_eq_false_iff, decide_eq_false_iff_not] at h1 h2
  have e : x.r = y.r := by omega
  have b1 : Op.bytesLess (bts y) (bts x) = false := h1.2.resolve_left (fun h => h e)
  have b2 : Op.bytesLess (bts x) (bts y) = false := h2.2.resolve_left (fun h => h e.symm)
  have hb := Bl.tri _ _ b1 b2
  unfold bts at hb
  rw [hx, hy] at hb
  exact (enc_inj (may_iff.1 (by rw [kp_may]; exact hy)) (may_iff.1 (by rw [kp_may]; exact hx)) hb).symm
/-- One more record in a set. -/
def put (L : List Sn) (x : Sn) : List Sn := if mayB x then (match fnd x L with | none => ins (kp x) L | some z => if nwr (kp x) z then ins (kp x) L else L) else L
/-- The set of records. -/
def setOf (l : List Sn) : List Sn := l.foldl put []
end PackP
end Go.Proofs.Ytkhhdadlpilbmaa
