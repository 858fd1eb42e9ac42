/- The document's dred: whether a trace is touched, and how many places are of touched traces. -/
import Derived.Test.YtgfjpnpbkkadpaaGreatDrd5
namespace Go.Proofs.YtgfjpnpbkkadpaaGreat
open Tryz
set_option maxRecDepth 100000
set_option maxHeartbeats 2000000
open Go.RowKit
namespace Ref22
open KeyP PackP SetP SetW SetF Sli Delta KidsP Cls KdO Fst Drd Wrk
attribute [local go_sem] Eng.ev Eng.getO_cons Eng.getO_nil
theorem pcs_at {l : List Pq} {k : Nat} (h : k < l.length) {j : Nat} (hj : j < 6) : (Wrk.pcs l)[k * 6 + j]? = l[k].cs[j]? := by
 have := flat_at (f := Pq.cs) (sz := 6) (fun _ => rfl) h (j := j) hj
 exact this
def tou (t : Int) (l : List Sn) : Bool := l.any (fun x => decide (x.t = t))
theorem tou_snoc {t : Int} {l : List Sn} {k : Nat} (h : k < l.length) : tou t (l.take (k + 1)) = (tou t (l.take k) || decide (l[k].t = t)) := by
 unfold tou
 rw [List.take_succ_eq_append_getElem h, List.any_append]
 simp
theorem tou_yes {t : Int} {l : List Sn} {x : Sn} (h : x ∈ l) (e : x.t = t) : tou t l = true := List.any_eq_true.2 ⟨x, h, decide_eq_true e⟩
theorem touched {A1 A2 : Option Addr} {k1 k2 : Nat} {O I : List Sn} (t : Int) (w : World) (h : RdD w ⟨A1, k1, O, A2, k2, I⟩) (h1 : O.length ≤ 100000) (h2 : I.length ≤ 100000) : Calls prog 93 #[.agg #[.slice A1 O.length k1, .slice A2 I.length k2], .int .i64 t] w fun e w' => e = .returned (.bool (tou t O || tou t I)) ∧ Fr (fun _ => False) w w' := by
 have hf := Fr.alloc (fun _ => False) w (.cells #[.slice A1 O.length k1, .slice A2 I.length k2] TDl)
 have hb := Bk.new w #[.slice A1 O.length k1, .slice A2 I.length k2] TDl
 have HO := Lib.hid (h.o.keep hf); have HI := Lib.hid (h.i.keep hf); have HF := Lib.hid hf
 have z0 := hb.cell 0; have z1 := hb.cell 1
 simp only [List.getElem?_toArray, List.getElem?_cons_zero, List.getElem?_cons_succ] at z0 z1
 clear h hf hb
 go_enter func93, ntmps93
 go_upto_region 1 with (fail)
 generalize (w.alloc (.cells #[.slice A1 O.length k1, .slice A2 I.length k2] TDl)) = w1 at *
 go_wp2_with fail
 go_loopg [5] O.length (fun gk i wr => ∃ k : Nat, i = .int .i64 k ∧ k ≤ O.length ∧ gk = O.length - k ∧ wr = w1 ∧ tou t (O.take k) = false)
 case atStart => exact ⟨0, rfl, Nat.zero_le _, rfl, rfl, rfl⟩
 case round =>
  obtain ⟨k, rfl, hk, hg, rfl, hno⟩ := hrel
  have HG := Lib.hid hg; have HNo := Lib.hid hno
  clear hg hno
  have qk : IntKind.i64.wrap ((k : Int) + 1) = (k : Int) + 1 := by rw [IntKind.wrap_i64]; omega
  by_cases hlt : k < O.length
  ·obtain ⟨b1, o1, rfl, hb1, c1⟩ := HO.out.s.at hlt (by omega)
   have x0 : wr.cell? ⟨b1, o1 + k * 9, none⟩ = some (.int .i64 O[k].t) := (SetW.At.row c1 hlt) 0 _ rfl
   have HSn := Lib.hid (tou_snoc (t := t) hlt)
   have HM := Lib.hid (List.getElem_mem hlt)
   clear c1 hb1
   generalize O[k] = y at *
   have q1 : decide ((k : Int) < (O.length : Int)) = true := by simp; omega
   have q2 : (0 : Int) ≤ (k : Int) := by omega
   have q3 : (k : Int) < (O.length : Int) := by omega
   by_cases e : y.t = t
   ·have q9 : (y.t == t) = true := by simp [e]
    have HE : Hid ((tou t O || tou t I) = true) := by show _ = _; rw [tou_yes HM.out e]; rfl
    clear e
    go_wp2_with fail
    go_ret
    exact ⟨by rw [HE.out]; rfl, HF.out⟩
   ·have q9 : (y.t == t) = false := by simp [e]
    have HN2 : Hid (tou t (O.take (k + 1)) = false) := by show _ = _; rw [HSn.out, HNo.out, decide_eq_false e]; rfl
    clear e
    go_wp2_with fail
    go_roundg (O.length - (k + 1))
    case rel => exact ⟨k + 1, by go_num, by omega, rfl, rfl, HN2.out⟩
    case measure => have := HG.out; omega
  ·have hke : k = O.length := by omega
   have q1 : decide ((k : Int) < (O.length : Int)) = false := by simp; omega
   have HNO : Hid (tou t O = false) := by have := HNo.out; rwa [hke, List.take_length] at this
   clear hke HNo HG
   go_wp2_with fail
   clear q1 qk
   go_loopg [6] I.length (fun gk i wz => ∃ k : Nat, i = .int .i64 k ∧ k ≤ I.length ∧ gk = I.length - k ∧ wz = wr ∧ tou t (I.take k) = false)
   case atStart => exact ⟨0, rfl, Nat.zero_le _, rfl, rfl, rfl⟩
   case round =>
    rename_i wo
    obtain ⟨k, rfl, hk, hg, rfl, hno⟩ := hrel
    have HG := Lib.hid hg; have HNo := Lib.hid hno
    clear hg hno
    have qk : IntKind.i64.wrap ((k : Int) + 1) = (k : Int) + 1 := by rw [IntKind.wrap_i64]; omega
    by_cases hlt : k < I.length
    ·obtain ⟨b1, o1, rfl, hb1, c1⟩ := HI.out.s.at hlt (by omega)
     have x0 : wr.cell? ⟨b1, o1 + k * 9, none⟩ = some (.int .i64 I[k].t) := (SetW.At.row c1 hlt) 0 _ rfl
     have HSn := Lib.hid (tou_snoc (t := t) hlt)
     have HM := Lib.hid (List.getElem_mem hlt)
     clear c1 hb1
     generalize I[k] = y at *
     have q1 : decide ((k : Int) < (I.length : Int)) = true := by simp; omega
     have q2 : (0 : Int) ≤ (k : Int) := by omega
     have q3 : (k : Int) < (I.length : Int) := by omega
     by_cases e : y.t = t
     ·have q9 : (y.t == t) = true := by simp [e]
      have HE : Hid ((tou t O || tou t I) = true) := by show _ = _; rw [tou_yes HM.out e, Bool.or_true]
      clear e
      go_wp2_with fail
      go_ret
      exact ⟨by rw [HE.out]; rfl, HF.out⟩
     ·have q9 : (y.t == t) = false := by simp [e]
      have HN2 : Hid (tou t (I.take (k + 1)) = false) := by show _ = _; rw [HSn.out, HNo.out, decide_eq_false e]; rfl
      clear e
      go_wp2_with fail
      go_roundg (I.length - (k + 1))
      case rel => exact ⟨k + 1, by go_num, by omega, rfl, rfl, HN2.out⟩
      case measure => have := HG.out; omega
    ·have hke : k = I.length := by omega
     have q1 : decide ((k : Int) < (I.length : Int)) = false := by simp; omega
     have HE : Hid ((tou t O || tou t I) = false) := by
      have := HNo.out
      rw [hke, List.take_length] at this
      show _ = _
      rw [HNO.out, this]; rfl
     go_wp2_with fail
     go_ret
     exact ⟨by rw [HE.out]; rfl, HF.out⟩
def sizeP (P : List Pq) (O I : List Sn) : Nat := (P.filter (fun p => tou p.t O || tou p.t I)).length
theorem sizeP_snoc {P : List Pq} {O I : List Sn} {k : Nat} (h : k < P.length) : sizeP (P.take (k + 1)) O I = sizeP (P.take k) O I + if (tou P[k].t O || tou P[k].t I) = true then 1 else 0 := by
 unfold sizeP
 rw [List.take_succ_eq_append_getElem h, List.filter_append, List.length_append, List.filter_cons]
 cases (tou P[k].t O || tou P[k].t I) <;> rfl
theorem sizeP_le (P : List Pq) (O I : List Sn) : sizeP P O I ≤ P.length := List.length_filter_le _ _
theorem sizeP_eq (L O I : List Sn) : sizeP (L.map (plq L)) O I = siz L (O ++ I) := by
 unfold sizeP siz tou
 rw [List.filter_map, List.length_map]
 congr 1
 apply List.filter_congr
 intro y _
 show (O.any (fun x => decide (x.t = y.t)) || I.any (fun x => decide (x.t = y.t))) = _
 rw [List.any_append]
structure ZR (w0 w : World) (Bd : Nat) (A1 : Option Addr) (k1 : Nat) (O : List Sn) (A2 : Option Addr) (k2 : Nat) (I : List Sn) (b o : Nat) (t : Int) : Prop where
 r : Fr (fun _ => False) w0 w
 d : RdD w ⟨A1, k1, O, A2, k2, I⟩
 bk : Bk w Bd #[.slice A1 O.length k1, .slice A2 I.length k2] TDl
 c : w.cell? ⟨b, o, none⟩ = some (.int .i64 t)
theorem ZR.fr {w0 w w' : World} {Bd : Nat} {A1 : Option Addr} {k1 : Nat} {O : List Sn} {A2 : Option Addr} {k2 : Nat} {I : List Sn} {b o : Nat} {t : Int} (h : ZR w0 w Bd A1 k1 O A2 k2 I b o t) (hf : Fr (fun _ => False) w w') : ZR w0 w' Bd A1 k1 O A2 k2 I b o t :=
 ⟨h.r.trans hf (fun _ _ h => h) (fun _ _ h => h), h.d.keep hf, h.bk.fr hf (fun _ _ h => h), (World.cell?_of_block (w := w) (a := ⟨b, o, none⟩) (hf.block b (World.block_lt_of_cell? w ⟨b, o, none⟩ h.c) (fun h => h))).trans h.c⟩
theorem ZR.b2 {w0 w : World} {Bd : Nat} {A1 : Option Addr} {k1 : Nat} {O : List Sn} {A2 : Option Addr} {k2 : Nat} {I : List Sn} {b o : Nat} {t : Int} (h : ZR w0 w Bd A1 k1 O A2 k2 I b o t) : w.cell? ⟨Bd, 0, none⟩ = some (.slice A1 O.length k1) ∧ w.cell? ⟨Bd, 1, none⟩ = some (.slice A2 I.length k2) := ⟨h.bk.cell 0, h.bk.cell 1⟩
theorem sz5 {ops : Array Oper} (hops : Eng.fnOps Tryz.f43 5 = ops) (a0 : Act) (Q : Exit → Act → World → Prop) (w0 w : World) (Bd : Nat) (A1 : Option Addr) (k1 : Nat) (O : List Sn) (A2 : Option Addr) (k2 : Nat) (I : List Sn) (b1 o1 len c k : Nat) (t : Int) (q : Bool) (hk : k < len) (hlen : len ≤ 1000000) (h1 : O.length ≤ 100000) (h2 : I.length ≤ 100000) (hq : (tou t O || tou t I) = q) (hst : ZR w0 w Bd A1 k1 O A2 k2 I b1 (o1 + k * 6) t)
  (hn : a0.tmps.size = 23) (h_0 : a0.tmps.getD 0 undef = .slice (some ⟨b1, o1, none⟩) len c) (h_3 : a0.tmps.getD 3 undef = .pointer (some ⟨Bd, 0, none⟩)) (h_6 : a0.tmps.getD 6 undef = .int .i64 (k : Int))
  (hpost : ∀ (x : Nat → Value) (w' : World), x 19 = .bool q → Fr (fun _ => False) w0 w' → Q .normal (Eng.setAll a0 [13, 14, 15, 16, 17, 18, 19] x) w') :
  (Code.region 5 ops true).wp prog Q a0 w := by
 simp only [Eng.fnOps, Eng.regOps, Tryz.f43, Option.bind_some, Option.getD_some, Nat.reduceEqDiff, ↓reduceIte, Nat.reduceBEq] at hops
 subst hops
 have q1 : (0 : Int) ≤ (k : Int) := by omega
 have q2 : (k : Int) < (len : Int) := by omega
 have HSt := Lib.hid (hst.fr (Fr.drew _ _))
 refine Eng.regionT (.take 0 (.take 1 (.take 2 (.take 3 (.take 4 (.take 5 (.alt 6 (.done) (.stop)))))))) (fun w' => w'.cell? ⟨Bd, 0, none⟩ = some (.slice A1 O.length k1) ∧ w'.cell? ⟨Bd, 1, none⟩ = some (.slice A2 I.length k2) ∧ w'.cell? ⟨b1, o1 + k * 6, none⟩ = some (.int .i64 t)) (by kernel_rfl) 23 hn (by kernel_rfl) (by kernel_rfl) (by kernel_rfl) (⟨HSt.out.b2.1, HSt.out.b2.2, HSt.out.c⟩) (fun a b ha hb => ?_)
 subst ha
 have hb0 : b 0 = .slice (some ⟨b1, o1, none⟩) len c := (hb 0).symm.trans h_0
 have hb3 : b 3 = .pointer (some ⟨Bd, 0, none⟩) := (hb 3).symm.trans h_3
 have hb6 : b 6 = .int .i64 (k : Int) := (hb 6).symm.trans h_6
 clear hb h_0 h_3 h_6
 have HP := Lib.hid hpost; have HN := Lib.hid hn
 clear hpost hn
 iterate 6 (refine Eng.TW.tk ?_)
 refine Eng.TW.call rfl rfl (by decide) (by kernel_rfl) ?_ (touched t w.drew HSt.out.d h1 h2) ?_
 ·go_simp
 rintro e w2 ⟨rfl, hf1⟩
 rw [hq]
 have HSt2 := Lib.hid (HSt.out.fr hf1)
 clear hf1
 refine ⟨_, rfl, ⟨HSt2.out.b2.1, HSt2.out.b2.2, HSt2.out.c⟩, ?_⟩
 refine Eng.TW.end_ [13, 14, 15, 16, 17, 18, 19] HN.out (by kernel_rfl) (by kernel_rfl) ?_
 exact HP.out _ _ rfl HSt2.out.r
theorem Size {A A1 A2 : Option Addr} {c k1 k2 n : Nat} {O I : List Sn} {P : List Pq} (w : World) (hn : P.length = n) (hs : Sl w 6 A n c (Wrk.pcs P)) (h : RdD w ⟨A1, k1, O, A2, k2, I⟩) (h1 : O.length ≤ 100000) (h2 : I.length ≤ 100000) (h3 : n ≤ 100000) : Calls prog 43 #[.slice A n c, .agg #[.slice A1 O.length k1, .slice A2 I.length k2]] w fun e w' => e = .returned (.int .i64 (sizeP P O I)) ∧ Fr (fun _ => False) w w' := by
 subst hn
 have hf := Fr.alloc (fun _ => False) w (.cells #[.slice A1 O.length k1, .slice A2 I.length k2] TDl)
 have HBk := Lib.hid (Bk.new w #[.slice A1 O.length k1, .slice A2 I.length k2] TDl)
 have HD := Lib.hid (h.keep hf); have HS := Lib.hid (hs.fr hf (fun _ _ h => h)); have HF := Lib.hid hf
 clear h hf hs
 go_enter func43, ntmps43
 go_upto_region 1 with (fail)
 generalize (w.alloc (.cells #[.slice A1 O.length k1, .slice A2 I.length k2] TDl)) = w1 at *
 go_wp2_with fail
 go_loopg [5, 6] P.length (fun gk v i wr => ∃ k : Nat, i = .int .i64 k ∧ k ≤ P.length ∧ gk = P.length - k ∧ v = .int .i64 ((sizeP (P.take k) O I : Nat) : Int) ∧ Fr (fun _ => False) w1 wr)
 case atStart => exact ⟨0, rfl, Nat.zero_le _, rfl, rfl, Fr.refl _ _⟩
 case round =>
  obtain ⟨k, rfl, hk, hg, rfl, hf⟩ := hrel
  have HG := Lib.hid hg; have HF1 := Lib.hid hf
  clear hg hf
  have qk : IntKind.i64.wrap ((k : Int) + 1) = (k : Int) + 1 := by rw [IntKind.wrap_i64]; omega
  by_cases hlt : k < P.length
  ·obtain ⟨b1, o1, rfl, hb1, c1⟩ := (HS.out.fr HF1.out (fun _ _ h => h)).at hlt (by omega)
   have x0 : wr.cell? ⟨b1, o1 + k * 6, none⟩ = some (.int .i64 P[k].t) := by
    have h1 : (Wrk.pcs P)[k * 6 + 0]? = some (.int .i64 P[k].t) := pcs_at hlt (by omega)
    exact c1 _ _ h1
   have HSn := Lib.hid (sizeP_snoc (O := O) (I := I) hlt)
   have HLe := Lib.hid (sizeP_le (P.take k) O I)
   have hm : sizeP (P.take k) O I ≤ 100000 := Nat.le_trans HLe.out (Nat.le_trans (List.length_take_le _ _) (by omega))
   have HX := Lib.hid x0
   clear c1 hb1 x0 HLe
   generalize P[k] = y at *
   generalize sizeP (P.take k) O I = m at *
   obtain ⟨q, hq⟩ : ∃ q, (tou y.t O || tou y.t I) = q := ⟨_, rfl⟩
   rw [hq] at HSn
   have q1 : decide ((k : Int) < (P.length : Int)) = true := by simp; omega
   have qm : IntKind.i64.wrap ((m : Int) + 1) = (m : Int) + 1 := by rw [IntKind.wrap_i64]; omega
   go_upto_region 5 with (fail)
   refine sz5 (by kernel_rfl) _ _ wr wr w.heap.size A1 k1 O A2 k2 I b1 o1 P.length c k y.t q hlt (by omega) h1 h2 hq ⟨Fr.refl _ _, HD.out.keep HF1.out, HBk.out.fr HF1.out (fun _ _ h => h), HX.out⟩ rfl rfl rfl rfl ?_
   intro x_ w2 hx hf2
   simp only [Eng.setAll, Act.put, List.setIfInBounds_toArray, List.set_cons_succ, List.set_cons_zero, hx]
   have HF2 := Lib.hid (HF1.out.trans hf2 (T := fun _ => False) (fun _ _ h => h) (fun _ _ h => h))
   clear hx hf2 hq HX
   cases q with
   | true =>
    have HS2 : Hid (sizeP (P.take (k + 1)) O I = m + 1) := HSn.out
    clear HSn
    go_wp2_with fail
    go_roundg (P.length - (k + 1))
    case rel => exact ⟨k + 1, by go_num, by omega, rfl, by rw [HS2.out]; go_num, HF2.out⟩
    case measure => have := HG.out; omega
   | false =>
    have HS2 : Hid (sizeP (P.take (k + 1)) O I = m) := HSn.out
    clear HSn
    go_wp2_with fail
    go_roundg (P.length - (k + 1))
    case rel => exact ⟨k + 1, by go_num, by omega, rfl, by rw [HS2.out], HF2.out⟩
    case measure => have := HG.out; omega
  ·have hke : k = P.length := by omega
   have q1 : decide ((k : Int) < (P.length : Int)) = false := by simp; omega
   have HE : Hid (sizeP (P.take k) O I = sizeP P O I) := by show _ = _; rw [hke, List.take_length]
   rw [HE.out]
   go_wp2_with fail
   go_ret
   exact ⟨rfl, HF.out.trans HF1.out (fun _ _ h => h) (fun _ _ h => h)⟩
end Ref22
end Go.Proofs.YtgfjpnpbkkadpaaGreat
