/- A forest in the heap: spans, places and fans by their keys; how it is planted. -/
import Derived.Test.YtgfjpnpbkkadpaaGreatDels
import Derived.Test.YtgfjpnpbkkadpaaGreatClsPs
import Derived.Test.YtgfjpnpbkkadpaaGreatMp
namespace Go.Proofs.YtgfjpnpbkkadpaaGreat
open Tryz
open Go.RowKit
namespace ClsF
open KeyP PackP SetP SetW SetF Cls ClsW
attribute [local go_sem] Eng.ev Eng.getO_cons Eng.getO_nil
abbrev TPl : TypeId := 91
abbrev Pc := Pq
end ClsF
namespace ClsS
open KeyP
instance decBA : DecidableEq ByteArray := fun x y => if h : x.data = y.data then isTrue (ByteArray.ext h) else isFalse (fun e => h (by rw [e]))
instance decMem (n : ByteArray) (l : List ByteArray) : Decidable (n ∈ l) := decidable_of_iff (l.any (fun x => decide (x = n)) = true) (by simp)
end ClsS
namespace ClsF
open KeyP PackP SetP SetW SetF Cls ClsW ClsS
attribute [local go_sem] Eng.ev Eng.getO_cons Eng.getO_nil
abbrev pcs (l : List Pc) : List Value := l.flatMap Pq.cs
end ClsF
namespace ClsF
open KeyP PackP SetP SetW SetF Cls ClsW ClsS
attribute [local go_sem] Eng.ev Eng.getO_cons Eng.getO_nil
def eqP (a b : Pc) : Bool := decide (a.t = b.t ∧ a.i = b.i ∧ a.c = b.c ∧ a.d = b.d ∧ a.p = b.p ∧ a.f = b.f)
theorem eqP_iff {a b : Pc} : eqP a b = true ↔ a = b := by
 cases a; cases b; simp [eqP]
theorem neq_pc (t i c d p f t' i' c' d' p' f' : Int) (w : World) : (binOp .neq TPl (.agg #[.int .i64 t, .int .i64 i, .int .i64 c, .int .i64 d, .int .i64 p, .int .i64 f]) (.agg #[.int .i64 t', .int .i64 i', .int .i64 c', .int .i64 d', .int .i64 p', .int .i64 f'])).run prog w = .ok (.bool (!eqP ⟨t, i, c, d, p, f⟩ ⟨t', i', c', d', p', f'⟩)) w := by
 unfold eqP
 have hS : prog.underlying TPl = some (.struct (prog.fieldsOf TPl)) := by kernel_rfl
 have hp : prog.stoodInHeld TPl = false := by kernel_rfl
 rw [run_neq_struct, show (10000 : Nat) = 9999 + 1 from rfl, run_equalIn_agg w 9999 TPl _ _ hS hp]
 simp only [Program.fieldsOf, underlying91]
 go_simp
 clear hS hp
 (repeat' split) <;> simp_all
abbrev AtP (w : World) (b o : Nat) (p : Pc) : Prop := ∀ j u, p.cs[j]? = some u → w.cell? ⟨b, o + j, none⟩ = some u
theorem pcs_at {l : List Pc} {k : Nat} (h : k < l.length) {j : Nat} (hj : j < 6) : (pcs l)[k * 6 + j]? = l[k].cs[j]? := by
 induction l generalizing k with
 | nil => simp at h
 | cons a l ih =>
  have e : pcs (a :: l) = a.cs ++ pcs l := rfl
  rw [e]
  cases k with
  | zero => rw [Nat.zero_mul, Nat.zero_add, List.getElem?_append_left (by exact hj)]; rfl
  | succ k =>
   rw [List.getElem?_append_right (by show 6 ≤ _; omega), show (k + 1) * 6 + j - a.cs.length = k * 6 + j by show _ - 6 = _; omega]
   exact ih (by simpa using h)
theorem AtP.row {w : World} {b o : Nat} {l : List Pc} (hc : ∀ j u, (pcs l)[j]? = some u → w.cell? ⟨b, o + j, none⟩ = some u) {k : Nat} (hk : k < l.length) : AtP w b (o + k * 6) l[k] := fun j u hu => by
 rw [Nat.add_assoc]
 refine hc _ u ?_
 have hj : j < 6 := (List.getElem?_eq_some_iff.1 hu).1
 rw [pcs_at hk hj]; exact hu
theorem AtP.lt {w : World} {b o : Nat} {p : Pc} (h : AtP w b o p) : b < w.heap.size := by
 have := h 0 _ rfl
 simp only [World.cell?] at this
 rcases Nat.lt_or_ge b w.heap.size with h1 | h1
 ·exact h1
 ·rw [Array.getElem?_eq_none h1] at this; cases this
theorem AtP.keep {w w' : World} {b o : Nat} {p : Pc} (h : AtP w b o p) (hf : Fr (fun _ => False) w w') : AtP w' b o p := fun j u hu => by
 have h1 := h j u hu
 rw [← h1]
 simp only [World.cell?]
 rw [hf.block b h.lt (fun h => h)]
end ClsF
set_option maxRecDepth 100000
set_option maxHeartbeats 1000000
namespace ClsF
open KeyP PackP SetP SetW SetF Cls ClsW ClsS
attribute [local go_sem] Eng.ev Eng.getO_cons Eng.getO_nil
def fdI (P : List Pc) (t i : Int) : Int := match P.findIdx? (fun p => decide (p.t = t) && decide (p.i = i)) with
 | some k => k
 | none => -1
theorem fd_at {P : List Pc} {t i : Int} {k : Nat} (hk : k < P.length) (hn : ∀ p ∈ P.take k, ¬ (p.t = t ∧ p.i = i)) (h1 : P[k].t = t) (h2 : P[k].i = i) : fdI P t i = (k : Int) := by
 have : P.findIdx? (fun p => decide (p.t = t) && decide (p.i = i)) = some k := by
  rw [List.findIdx?_eq_some_iff_getElem]
  refine ⟨hk, by simp [h1, h2], fun j hj => ?_⟩
  have := hn P[j] (List.mem_take_iff_getElem.2 ⟨j, by omega, rfl⟩)
  simpa using this
 unfold fdI; rw [this]
theorem fd_none {P : List Pc} {t i : Int} (hn : ∀ p ∈ P, ¬ (p.t = t ∧ p.i = i)) : fdI P t i = -1 := by
 have : P.findIdx? (fun p => decide (p.t = t) && decide (p.i = i)) = none := by
  rw [List.findIdx?_eq_none_iff]
  intro p hp
  have := hn p hp
  simpa using this
 unfold fdI; rw [this]
theorem FindP (A : Option Addr) (c : Nat) (P : List Pc) (t i : Int) (w : World) (hS : Sl w 6 A P.length c (pcs P)) :
  Calls prog 39 #[.slice A P.length c, .int .i64 t, .int .i64 i] w fun e w' => e = .returned (.int .i64 (fdI P t i)) ∧ Fr (fun _ => False) w w' := by
 have hlen : P.length ≤ 9223372036854775807 := by have := hS.2.1; have := hS.2.2.1; unfold maxLen at this; omega
 have HS := Lib.hid hS
 clear hS
 go_enter func39, ntmps39
 go_wp2_with fail
 go_loopg [7] P.length (fun gk n wr => ∃ k : Nat, n = .int .i64 k ∧ k ≤ P.length ∧ gk = P.length - k ∧ (∀ p ∈ P.take k, ¬ (p.t = t ∧ p.i = i)) ∧ Fr (fun _ => False) w wr)
 case atStart => exact ⟨0, rfl, Nat.zero_le _, rfl, by simp, Fr.refl _ _⟩
 case round =>
  obtain ⟨k, rfl, hk, hg, hno, hf⟩ := hrel
  have HG := Lib.hid hg; have HF := Lib.hid hf; have HNo := Lib.hid hno
  clear hg hf hno
  by_cases hlt : k < P.length
  ·obtain ⟨b1, o1, rfl, hb1, c1⟩ := HS.out.at hlt (by omega)
   have HA := Lib.hid ((AtP.row c1 hlt).keep HF.out)
   have HP : Hid (P[k].t = t → P[k].i = i → fdI P t i = k) := fun h1 h2 => fd_at hlt HNo.out h1 h2
   have HT : Hid (¬ (P[k].t = t ∧ P[k].i = i) → ∀ p ∈ P.take (k + 1), ¬ (p.t = t ∧ p.i = i)) := fun h p hp => by
    rw [List.take_succ_eq_append_getElem hlt, List.mem_append] at hp
    rcases hp with hp | hp
    ·exact HNo.out p hp
    ·simp only [List.mem_singleton] at hp; rw [hp]; exact h
   clear c1 hb1
   generalize P[k] = y at *
   have q1 : (0 : Int) ≤ (k : Int) := by omega
   have q2 : decide ((k : Int) < (P.length : Int)) = true := by simp; omega
   have yc0 : wr.cell? ⟨b1, o1 + k * 6, none⟩ = some (.int .i64 y.t) := HA.out 0 _ rfl
   have yc1 : wr.cell? ⟨b1, o1 + k * 6 + 1, none⟩ = some (.int .i64 y.i) := HA.out 1 _ rfl
   have yc2 : wr.cell? ⟨b1, o1 + k * 6 + 1 + 1, none⟩ = some (.int .i64 y.c) := HA.out 2 _ rfl
   have yc3 : wr.cell? ⟨b1, o1 + k * 6 + 1 + 1 + 1, none⟩ = some (.int .i64 y.d) := HA.out 3 _ rfl
   have yc4 : wr.cell? ⟨b1, o1 + k * 6 + 1 + 1 + 1 + 1, none⟩ = some (.int .i64 y.p) := HA.out 4 _ rfl
   have yc5 : wr.cell? ⟨b1, o1 + k * 6 + 1 + 1 + 1 + 1 + 1, none⟩ = some (.int .i64 y.f) := HA.out 5 _ rfl
   cases ht : (y.t == t) with
   | false =>
    have HE : Hid (∀ p ∈ P.take (k + 1), ¬ (p.t = t ∧ p.i = i)) := HT.out (fun h => by rw [h.1] at ht; simp at ht)
    go_wp2_with fail
    go_roundg (P.length - (k + 1))
    case rel => exact ⟨k + 1, by go_num, by omega, rfl, HE.out, HF.out⟩
    case measure => have := HG.out; omega
   | true =>
    have ht' : y.t = t := by simpa using ht
    have HTe := Lib.hid ht'
    clear ht'
    cases hi : (y.i == i) with
    | false =>
     have HE : Hid (∀ p ∈ P.take (k + 1), ¬ (p.t = t ∧ p.i = i)) := HT.out (fun h => by rw [h.2] at hi; simp at hi)
     go_wp2_with fail
     go_roundg (P.length - (k + 1))
     case rel => exact ⟨k + 1, by go_num, by omega, rfl, HE.out, HF.out⟩
     case measure => have := HG.out; omega
    | true =>
     have HE := Lib.hid (HP.out HTe.out (by simpa using hi))
     go_wp2_with fail
     go_ret
     exact ⟨by rw [HE.out]; rfl, HF.out⟩
  ·obtain rfl : k = P.length := by omega
   have h := HNo.out
   rw [List.take_length] at h
   have HE := Lib.hid (fd_none h)
   clear h
   go_wp2_with fail
   go_ret
   exact ⟨by rw [HE.out]; rfl, HF.out⟩
structure PR2 (w0 w : World) (b o b' o' : Nat) (p q : Pc) : Prop where
 a : AtP w b o p
 b : AtP w b' o' q
 f : Fr (fun _ => False) w0 w
theorem PR2.fr {w0 w w' : World} {b o b' o' : Nat} {p q : Pc} (H : PR2 w0 w b o b' o' p q) (hf : Fr (fun _ => False) w w') : PR2 w0 w' b o b' o' p q := ⟨H.a.keep hf, H.b.keep hf, H.f.trans hf (fun _ _ h => h) (fun _ _ h => h)⟩
theorem sp6 {ops : Array Oper} (hops : Eng.fnOps Tryz.f35 6 = ops) (a0 : Act) (Q : Exit → Act → World → Prop) (w0 w : World) (b1 o1 len c b2 o2 len2 c2 k : Nat) (y z : Pc) (hst : PR2 w0 w b1 (o1 + k * 6) b2 (o2 + k * 6) y z) (hk : k < len) (hk2 : k < len2) (hlen : len ≤ 9223372036854775807) (hlen2 : len2 ≤ 9223372036854775807)
  (hn : a0.tmps.size = 32) (h_0 : a0.tmps.getD 0 undef = .slice (some ⟨b1, o1, none⟩) len c) (h_1 : a0.tmps.getD 1 undef = .slice (some ⟨b2, o2, none⟩) len2 c2) (h_5 : a0.tmps.getD 5 undef = .int .i64 (k : Int))
  (hpost : ∀ (x : Nat → Value) (w' : World), x 31 = .bool (!eqP y z) → PR2 w0 w' b1 (o1 + k * 6) b2 (o2 + k * 6) y z → Q .normal (Eng.setAll a0 [23, 24, 25, 26, 27, 28, 29, 30, 31] x) w') :
  (Code.region 6 ops true).wp prog Q a0 w := by
 simp only [Eng.fnOps, Eng.regOps, Tryz.f35, Option.bind_some, Option.getD_some, Nat.reduceEqDiff, ↓reduceIte, Nat.reduceBEq] at hops
 subst hops
 have q1 : (0 : Int) ≤ (k : Int) := by omega
 have q2 : (k : Int) < (len : Int) := by omega
 have q4 : (k : Int) < (len2 : Int) := by omega
 have hq := fun W : World => neq_pc y.t y.i y.c y.d y.p y.f z.t z.i z.c z.d z.p z.f W
 have HSt := Lib.hid (hst.fr (Fr.drew _ _))
 refine Eng.regionN [(0, true), (1, true), (2, true), (3, true), (4, true), (5, true), (6, true), (7, true), (8, true)] (fun w' => w'.cell? ⟨b1, o1 + k * 6, none⟩ = some (.int .i64 y.t) ∧ w'.cell? ⟨b1, o1 + k * 6 + 1, none⟩ = some (.int .i64 y.i) ∧ w'.cell? ⟨b1, o1 + k * 6 + 1 + 1, none⟩ = some (.int .i64 y.c) ∧ w'.cell? ⟨b1, o1 + k * 6 + 1 + 1 + 1, none⟩ = some (.int .i64 y.d) ∧ w'.cell? ⟨b1, o1 + k * 6 + 1 + 1 + 1 + 1, none⟩ = some (.int .i64 y.p) ∧ w'.cell? ⟨b1, o1 + k * 6 + 1 + 1 + 1 + 1 + 1, none⟩ = some (.int .i64 y.f) ∧ w'.cell? ⟨b2, o2 + k * 6, none⟩ = some (.int .i64 z.t) ∧ w'.cell? ⟨b2, o2 + k * 6 + 1, none⟩ = some (.int .i64 z.i) ∧ w'.cell? ⟨b2, o2 + k * 6 + 1 + 1, none⟩ = some (.int .i64 z.c) ∧ w'.cell? ⟨b2, o2 + k * 6 + 1 + 1 + 1, none⟩ = some (.int .i64 z.d) ∧ w'.cell? ⟨b2, o2 + k * 6 + 1 + 1 + 1 + 1, none⟩ = some (.int .i64 z.p) ∧ w'.cell? ⟨b2, o2 + k * 6 + 1 + 1 + 1 + 1 + 1, none⟩ = some (.int .i64 z.f)) (by kernel_rfl) 32 hn (by kernel_rfl) rfl (by kernel_rfl) (⟨HSt.out.a 0 _ rfl, HSt.out.a 1 _ rfl, HSt.out.a 2 _ rfl, HSt.out.a 3 _ rfl, HSt.out.a 4 _ rfl, HSt.out.a 5 _ rfl, HSt.out.b 0 _ rfl, HSt.out.b 1 _ rfl, HSt.out.b 2 _ rfl, HSt.out.b 3 _ rfl, HSt.out.b 4 _ rfl, HSt.out.b 5 _ rfl⟩) (fun a b ha hb => ?_)
 subst ha
 have hb0 : b 0 = .slice (some ⟨b1, o1, none⟩) len c := (hb 0).symm.trans h_0
 have hb1 : b 1 = .slice (some ⟨b2, o2, none⟩) len2 c2 := (hb 1).symm.trans h_1
 have hb5 : b 5 = .int .i64 (k : Int) := (hb 5).symm.trans h_5
 clear hb h_0 h_1 h_5
 have HP := Lib.hid hpost; have HN := Lib.hid hn
 clear hpost hn
 iterate 9 (refine Eng.Sch.tk ?_)
 refine Eng.Sch.end_ [23, 24, 25, 26, 27, 28, 29, 30, 31] HN.out (by kernel_rfl) (by kernel_rfl) ?_
 exact HP.out _ _ rfl HSt.out
theorem SameP (A B : Option Addr) (ca cb : Nat) (P Q : List Pc) (w : World) (n m : Nat) (hn : P.length = n) (hm : Q.length = m) (ha : Sl w 6 A n ca (pcs P)) (hb : Sl w 6 B m cb (pcs Q)) :
  Calls prog 35 #[.slice A n ca, .slice B m cb] w fun e w' => e = .returned (.bool (decide (P = Q))) ∧ Fr (fun _ => False) w w' := by
 have la : n ≤ 9223372036854775807 := by have := ha.2.1; have := ha.2.2.1; unfold maxLen at this; omega
 have lb : m ≤ 9223372036854775807 := by have := hb.2.1; have := hb.2.2.1; unfold maxLen at this; omega
 have HA := Lib.hid ha; have HB := Lib.hid hb; have HN := Lib.hid hn; have HM := Lib.hid hm
 clear ha hb hn hm
 go_enter func35, ntmps35
 by_cases hl : n = m
 ·subst hl
  have q0 : ((n : Int) != (n : Int)) = false := by simp
  go_wp2_with fail
  go_loopg [5] n (fun gk i wr => ∃ k : Nat, i = .int .i64 k ∧ k ≤ n ∧ gk = n - k ∧ P.take k = Q.take k ∧ Fr (fun _ => False) w wr)
  case atStart => exact ⟨0, rfl, Nat.zero_le _, rfl, rfl, Fr.refl _ _⟩
  case round =>
   obtain ⟨k, rfl, hk, hg, heq, hf⟩ := hrel
   have HG := Lib.hid hg; have HE := Lib.hid heq; have HF := Lib.hid hf
   clear hg heq hf
   by_cases hlt : k < n
   ·have hp : k < P.length := by rw [HN.out]; exact hlt
    have hq : k < Q.length := by rw [HM.out]; exact hlt
    obtain ⟨b1, o1, rfl, hb1, c1⟩ := HA.out.at hlt (by omega)
    obtain ⟨b2, o2, rfl, hb2, c2⟩ := HB.out.at hlt (by omega)
    have H1 := Lib.hid ((AtP.row c1 hp).keep HF.out); have H2 := Lib.hid ((AtP.row c2 hq).keep HF.out)
    have HT : Hid (P[k] = Q[k] → P.take (k + 1) = Q.take (k + 1)) := fun h => by rw [List.take_succ_eq_append_getElem hp, List.take_succ_eq_append_getElem hq, HE.out, h]
    have HD : Hid (P[k] ≠ Q[k] → decide (P = Q) = false) := fun h => decide_eq_false (fun e => h (by subst e; rfl))
    clear c1 c2 hb1 hb2
    generalize P[k] = y at *
    generalize Q[k] = z at *
    have q2 : decide ((k : Int) < (n : Int)) = true := by simp; omega
    go_upto_region 6 with (fail)
    refine sp6 (by kernel_rfl) _ _ wr wr b1 o1 _ ca b2 o2 _ cb k y z ⟨H1.out, H2.out, Fr.refl _ _⟩ hlt hlt la la rfl rfl rfl rfl ?_
    intro x w2 h17 hst
    simp only [Eng.setAll, Act.put, List.setIfInBounds_toArray, List.set_cons_succ, List.set_cons_zero]
    rw [h17]
    have HSt := Lib.hid hst
    clear h17 hst
    cases he : eqP y z with
    | true =>
     have HE2 := Lib.hid (HT.out (eqP_iff.1 he))
     clear he q2
     go_wp2_with fail
     go_roundg (n - (k + 1))
     case rel => exact ⟨k + 1, by go_num, by omega, rfl, HE2.out, HF.out.trans HSt.out.f (fun _ _ h => h) (fun _ _ h => h)⟩
     case measure => have := HG.out; omega
    | false =>
     have HE2 := Lib.hid (HD.out (fun e => by rw [eqP_iff.2 e] at he; cases he))
     clear he q2
     go_wp2_with fail
     go_ret
     exact ⟨by rw [HE2.out]; rfl, HF.out.trans HSt.out.f (fun _ _ h => h) (fun _ _ h => h)⟩
   ·obtain rfl : k = n := by omega
    have h := HE.out
    rw [List.take_of_length_le (by rw [HN.out]; exact Nat.le_refl _), List.take_of_length_le (by rw [HM.out]; exact Nat.le_refl _)] at h
    have HD : Hid (decide (P = Q) = true) := decide_eq_true h
    have q2 : decide ((k : Int) < (k : Int)) = false := by simp
    clear h
    go_wp2_with fail
    go_ret
    exact ⟨by rw [HD.out]; rfl, HF.out⟩
 ·have q0 : ((n : Int) != (m : Int)) = true := by simp; omega
  have HD : Hid (decide (P = Q) = false) := decide_eq_false (fun e => hl (by rw [← HN.out, ← HM.out, e]))
  go_wp2_with fail
  go_ret
  exact ⟨by rw [HD.out]; rfl, Fr.refl _ _⟩
end ClsF
end Go.Proofs.YtgfjpnpbkkadpaaGreat
