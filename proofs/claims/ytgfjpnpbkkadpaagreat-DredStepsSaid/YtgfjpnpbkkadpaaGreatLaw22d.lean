/- Layer 22's statements: DredSteps: for every input the answer is true. -/
import Derived.Test.YtgfjpnpbkkadpaaGreatLaw22s
import Derived.Test.YtgfjpnpbkkadpaaGreatRef22
namespace Go.Proofs.YtgfjpnpbkkadpaaGreat
open Tryz
set_option maxRecDepth 100000
set_option maxHeartbeats 4000000
open Go.RowKit
namespace Law22
open KeyP PackP SetP SetW SetF Sli Delta KidsP Cls KdO Fst Drd Wrk
attribute [local go_sem] Eng.ev Eng.getO_cons Eng.getO_nil
structure SQ (A X : World) (Bd : Nat) (x : Dl) (P : List Pq) (n : Nat) (a : Option (Option Addr × Nat)) : Prop where
 r : Fr (fun _ => False) A X
 d : RdD X x
 bk : Bk X Bd x.arr TDl
 a : ∀ A1 c1, a = some (A1, c1) → Sl X 6 A1 n c1 (pcs P)
section
variable {A X Y : World} {Bd : Nat} {x : Dl} {P : List Pq} {n : Nat} {a : Option (Option Addr × Nat)}
theorem SQ.fr (h : SQ A X Bd x P n a) (hf : Fr (fun _ => False) X Y) : SQ A Y Bd x P n a :=
 ⟨h.r.trans hf (fun _ _ h => h) (fun _ _ h => h), h.d.keep hf, h.bk.fr hf (fun _ _ h => h), fun A1 c1 e => (h.a A1 c1 e).fr hf (fun _ _ h => h)⟩
theorem SQ.ta (h : SQ A X Bd x P n none) (hf : Fr (fun _ => False) X Y) {A1 : Option Addr} {c1 : Nat} (hs : Sl Y 6 A1 n c1 (pcs P)) : SQ A Y Bd x P n (some (A1, c1)) :=
 ⟨(h.fr hf).r, (h.fr hf).d, (h.fr hf).bk, fun A2 c2 e => by cases e; exact hs⟩
theorem SQ.b2 (h : SQ A X Bd x P n a) : X.cell? ⟨Bd, 0, none⟩ = some (.slice x.A1 x.O.length x.c1) ∧ X.cell? ⟨Bd, 1, none⟩ = some (.slice x.A2 x.I.length x.c2) := ⟨h.bk.cell 0, h.bk.cell 1⟩
end
theorem ds10 {ops : Array Oper} (hops : Eng.fnOps Tryz.f8 10 = ops) (a0 : Act) (Q : Exit → Act → World → Prop) (w0 w : World) (B Bd : Nat) (x : Dl) (L : List Sn) (F : List Nat) (P : List Pq) (n m : Nat) (hF : FB w0 B (L.map br) (pm (L.map br)) F) (hl : L.length ≤ 900) (hP : L.map (plq L) = P) (hn : P.length = n) (hn9 : n ≤ 900) (h1 : x.O.length ≤ 100000) (h2 : x.I.length ≤ 100000) (hm : Ref22.sizeP P x.O x.I = m) (hst : SQ w0 w Bd x P n none)
  (hn : a0.tmps.size = 60) (h_3 : a0.tmps.getD 3 undef = .pointer (some ⟨B, 0, none⟩)) (h_7 : a0.tmps.getD 7 undef = .pointer (some ⟨Bd, 0, none⟩))
  (hpost : ∀ (x_ : Nat → Value) (w' : World), x_ 8 = .int .i64 (m : Int) → Fr (fun _ => False) w0 w' → Q .normal (Eng.setAll a0 [8, 30, 31, 32] x_) w') :
  (Code.region 10 ops true).wp prog Q a0 w := by
 simp only [Eng.fnOps, Eng.regOps, Tryz.f8, Option.bind_some, Option.getD_some, Nat.reduceEqDiff, ↓reduceIte, Nat.reduceBEq] at hops
 subst hops
 have HSt := Lib.hid (hst.fr (Fr.drew _ _))
 refine Eng.regionT (.take 1 (.alt 0 (.alt 2 (.take 3 (.done)) (.stop)) (.stop))) (fun w' => w'.cell? ⟨Bd, 0, none⟩ = some (.slice x.A1 x.O.length x.c1) ∧ w'.cell? ⟨Bd, 1, none⟩ = some (.slice x.A2 x.I.length x.c2)) (by kernel_rfl) 60 hn (by kernel_rfl) (by kernel_rfl) (by kernel_rfl) (⟨HSt.out.b2.1, HSt.out.b2.2⟩) (fun a b ha hb => ?_)
 subst ha
 have hb3 : b 3 = .pointer (some ⟨B, 0, none⟩) := (hb 3).symm.trans h_3
 have hb7 : b 7 = .pointer (some ⟨Bd, 0, none⟩) := (hb 7).symm.trans h_7
 clear hb h_3 h_7
 have HP := Lib.hid hpost; have HN := Lib.hid hn
 clear hpost hn
 refine Eng.TW.tk ?_
 refine Eng.TW.call rfl rfl (by decide) (by kernel_rfl) ?_ (PlacesF (hF.fr HSt.out.r (fun _ _ h => h)) (by omega) P hP n hn) ?_
 ·go_simp
 rintro e w2 ⟨P1, p1, rfl, hs1, hf1⟩
 have HSt2 := Lib.hid (HSt.out.ta hf1 hs1)
 clear hf1 hs1
 refine ⟨_, rfl, ⟨HSt2.out.b2.1, HSt2.out.b2.2⟩, ?_⟩
 refine Eng.TW.call rfl rfl (by decide) (by kernel_rfl) ?_ (Ref22.Size w2 hn (HSt2.out.a _ _ rfl) HSt2.out.d h1 h2 (by omega)) ?_
 ·go_simp
 rintro e w3 ⟨rfl, hf1⟩
 rw [hm]
 have HSt3 := Lib.hid (HSt2.out.fr hf1)
 clear hf1
 refine ⟨_, rfl, ⟨HSt3.out.b2.1, HSt3.out.b2.2⟩, ?_⟩
 refine Eng.TW.tk ?_
 refine Eng.TW.end_ [8, 30, 31, 32] HN.out (by kernel_rfl) (by kernel_rfl) ?_
 exact HP.out _ _ rfl HSt3.out.r
theorem ds12 {ops : Array Oper} (hops : Eng.fnOps Tryz.f8 12 = ops) (a0 : Act) (Q : Exit → Act → World → Prop) (w0 w : World) (B Bd : Nat) (x : Dl) (L : List Sn) (F : List Nat) (P : List Pq) (n m : Nat) (hF : FB w0 B (L.map br) (pm (L.map br)) F) (hl : L.length ≤ 900) (hP : L.map (plq L) = P) (hn : P.length = n) (hn9 : n ≤ 900) (h1 : x.O.length ≤ 100000) (h2 : x.I.length ≤ 100000) (hm : Ref22.sizeP P x.O x.I = m) (m0 : Nat) (N : Int) (hN0 : 0 ≤ N) (hN1 : N ≤ 4 * ((m0 : Int) + (m : Int))) (hm0 : m0 ≤ 900) (hm9 : m ≤ 900) (hst : SQ w0 w Bd x P n none)
  (hn : a0.tmps.size = 60) (h_3 : a0.tmps.getD 3 undef = .pointer (some ⟨B, 0, none⟩)) (h_7 : a0.tmps.getD 7 undef = .pointer (some ⟨Bd, 0, none⟩)) (h_8 : a0.tmps.getD 8 undef = .int .i64 (m0 : Int)) (h_10 : a0.tmps.getD 10 undef = .int .i64 N) (h_11 : a0.tmps.getD 11 undef = .int .i64 0)
  (hpost : ∀ (x_ : Nat → Value) (w' : World), x_ 54 = .bool false → Fr (fun _ => False) w0 w' → Q .normal (Eng.setAll a0 [39, 40, 41, 42, 43, 44, 45, 46, 47, 48, 49, 50, 51, 52, 53, 54] x_) w') :
  (Code.region 12 ops true).wp prog Q a0 w := by
 simp only [Eng.fnOps, Eng.regOps, Tryz.f8, Option.bind_some, Option.getD_some, Nat.reduceEqDiff, ↓reduceIte, Nat.reduceBEq] at hops
 subst hops
 have q1 : decide (N < 0) = false := by simp; omega
 have q2 : IntKind.i64.wrap ((m0 : Int) + (m : Int)) = (m0 : Int) + (m : Int) := by rw [IntKind.wrap_i64]; omega
 have q3 : IntKind.i64.wrap (4 * ((m0 : Int) + (m : Int))) = 4 * ((m0 : Int) + (m : Int)) := by rw [IntKind.wrap_i64]; omega
 have q4 : decide (4 * ((m0 : Int) + (m : Int)) < N) = false := by simp; omega
 have q5 : decide (N > 4 * ((m0 : Int) + (m : Int))) = false := by simp; omega
 have HSt := Lib.hid (hst.fr (Fr.drew _ _))
 refine Eng.regionT (.take 0 (.take 1 (.take 2 (.take 3 (.take 4 (.take 5 (.take 6 (.take 7 (.take 8 (.take 10 (.alt 9 (.alt 11 (.take 12 (.take 13 (.take 14 (.take 15 (.done))))) (.stop)) (.stop)))))))))))) (fun w' => w'.cell? ⟨Bd, 0, none⟩ = some (.slice x.A1 x.O.length x.c1) ∧ w'.cell? ⟨Bd, 1, none⟩ = some (.slice x.A2 x.I.length x.c2)) (by kernel_rfl) 60 hn (by kernel_rfl) (by kernel_rfl) (by kernel_rfl) (⟨HSt.out.b2.1, HSt.out.b2.2⟩) (fun a b ha hb => ?_)
 subst ha
 have hb3 : b 3 = .pointer (some ⟨B, 0, none⟩) := (hb 3).symm.trans h_3
 have hb7 : b 7 = .pointer (some ⟨Bd, 0, none⟩) := (hb 7).symm.trans h_7
 have hb8 : b 8 = .int .i64 (m0 : Int) := (hb 8).symm.trans h_8
 have hb10 : b 10 = .int .i64 N := (hb 10).symm.trans h_10
 have hb11 : b 11 = .int .i64 0 := (hb 11).symm.trans h_11
 clear hb h_3 h_7 h_8 h_10 h_11
 have HP := Lib.hid hpost; have HN := Lib.hid hn
 clear hpost hn
 iterate 10 (refine Eng.TW.tk ?_)
 refine Eng.TW.call rfl rfl (by decide) (by kernel_rfl) ?_ (PlacesF (hF.fr HSt.out.r (fun _ _ h => h)) (by omega) P hP n hn) ?_
 ·go_simp
 rintro e w2 ⟨P1, p1, rfl, hs1, hf1⟩
 have HSt2 := Lib.hid (HSt.out.ta hf1 hs1)
 clear hf1 hs1
 refine ⟨_, rfl, ⟨HSt2.out.b2.1, HSt2.out.b2.2⟩, ?_⟩
 refine Eng.TW.call rfl rfl (by decide) (by kernel_rfl) ?_ (Ref22.Size w2 hn (HSt2.out.a _ _ rfl) HSt2.out.d h1 h2 (by omega)) ?_
 ·go_simp
 rintro e w3 ⟨rfl, hf1⟩
 rw [hm]
 have HSt3 := Lib.hid (HSt2.out.fr hf1)
 clear hf1
 refine ⟨_, rfl, ⟨HSt3.out.b2.1, HSt3.out.b2.2⟩, ?_⟩
 iterate 4 (refine Eng.TW.tk ?_)
 refine Eng.TW.end_ [39, 40, 41, 42, 43, 44, 45, 46, 47, 48, 49, 50, 51, 52, 53, 54] HN.out (by kernel_rfl) (by kernel_rfl) ?_
 exact HP.out _ _ rfl HSt3.out.r
theorem steps (A0 : Option Addr) (c0 : Nat) (l : List Lv) (w : World) (h : LL w A0 c0 l) : Calls prog 8 #[.slice A0 l.length c0] w fun e w' => e = .returned (.bool true) ∧ Below w.heap.size w w' := by
 have HL := Lib.hid h
 clear h
 go_enter func8, ntmps8
 go_wp2_with fail
 refine (few A0 c0 l w HL.out).mono ?_
 rintro e w1 ⟨rfl, hf⟩
 have HB := Lib.hid (hf.below (Nat.le_refl _) (fun _ _ h => h))
 have HL1 := Lib.hid (HL.out.keep hf)
 clear hf HL
 cases hq : fewL l with
 | false =>
  clear hq
  go_wp2_with fail
  refine (awake w1).mono ?_
  rintro e w2 ⟨rfl, hb⟩
  replace HB := Lib.hid (HB.out.trans (hb.mono HB.out.size))
  clear hb
  go_wp2_with fail
  go_ret
  exact ⟨rfl, HB.out⟩
 | true =>
  obtain ⟨hl8, hl20⟩ := fewL_len hq
  have HL20 := Lib.hid hl20
  clear hq hl20
  go_upto_region 4 with (fail)
  have hfv := Fv.new w1
  have HB2 := Lib.hid (HB.out.trans (hfv.b.mono HB.out.size))
  have HF2 := Lib.hid hfv.f
  have HL2 := Lib.hid (HL1.out.below (hfv.b))
  have hz2 : (w1.alloc (.cells #[.pointer none, .int .i64 0, .pointer none, .int .i64 0, .pointer none, .int .i64 0] KdO.TX)).heap.size = w1.heap.size + 1 := by simp
  have HZ1 := Lib.hid HB.out.size
  clear hfv HB HL1
  generalize (w1.alloc (.cells #[.pointer none, .int .i64 0, .pointer none, .int .i64 0, .pointer none, .int .i64 0] KdO.TX)) = w2 at *
  obtain ⟨B, hB⟩ : ∃ B, w1.heap.size = B := ⟨_, rfl⟩
  rw [hB] at HF2 hz2 HZ1 ⊢
  have HZ2 := Lib.hid hz2
  clear hB hz2
  go_wp2_with fail
  refine (sets A0 c0 l w2 HL2.out (by omega) (fun x hx => Nat.le_trans (HL20.out x hx) (by omega))).mono ?_
  rintro e w3 ⟨A1, c1, m, rfl, h1, h2, h3, h4, h5⟩
  have hml : m.length = l.length := by have := congrArg List.length h2; simpa using this
  have HM := Lib.hid (LB.of (B := B) h1 h2 HL20.out h3 h4 (by have := HZ2.out; omega))
  have HB3 := Lib.hid (HB2.out.trans (h5.mono HB2.out.size))
  have HF3 : Hid (FL_ w3 w3 B ⟨none, 0, []⟩ [B]) := ⟨⟨HF2.out.fr (Fr.of_below' h5 (fun _ => False)) (fun _ _ h => h), Fr.refl _ _, by simp⟩, Ls.nil _, by simp, As.nil, by simp⟩
  have HBw : Hid (w.heap.size ≤ B) := HZ1.out
  have hm8 : m.length ≤ 8 := by rw [hml]; exact hl8
  clear hml h1 h2 h3 h4 h5 HB2 HF2 HL2 HZ1 HZ2 HL20
  have HW3 : Hid (B < w3.heap.size) := HF3.out.f.f.lt B (by simp)
  go_wp2_with fail
  go_loopg [5, 6] m.length (fun gk v i wr => ∃ (k : Nat) (p : Lv) (F : List Nat), i = .int .i64 k ∧ k ≤ m.length ∧ gk = m.length - k ∧ v = .slice p.A p.L.length p.c ∧ FL_ w3 wr B p F)
  case atStart => exact ⟨0, ⟨none, 0, []⟩, [B], rfl, Nat.zero_le _, rfl, rfl, HF3.out⟩
  case round =>
   clear HF3
   obtain ⟨k, p, F, rfl, hk, hg, rfl, hfl⟩ := hrel
   have HG := Lib.hid hg; have HFL := Lib.hid hfl
   clear hg hfl
   by_cases hlt : k < m.length
   ·have q1 : decide ((k : Int) < (m.length : Int)) = true := by simp; omega
    obtain ⟨b1, o1, rfl, hb1, c1'⟩ := HM.out.s.at hlt (by omega)
    have HE3 : Hid (w3.cell? ⟨b1, o1 + k, none⟩ = some (.slice m[k].A m[k].L.length m[k].c)) := c1' k _ (lv_at hlt)
    have hbB : b1 ≠ B := HM.out.n ⟨b1, o1, none⟩ rfl
    have HX3 := Lib.hid (HM.out.r _ (List.getElem_mem hlt))
    have HXn := Lib.hid (HM.out.k _ (List.getElem_mem hlt))
    have HXa := Lib.hid (HM.out.a _ (List.getElem_mem hlt))
    have HCl : Hid (∀ {X : World}, Fr (fun b => b = B) w3 X → X.cell? ⟨b1, o1 + k, none⟩ = some (.slice m[k].A m[k].L.length m[k].c)) := fun hf => (World.cell?_of_block (w := w3) (a := ⟨b1, o1 + k, none⟩) (hf.block b1 hb1 (fun e => hbB e))).trans HE3.out
    clear c1' hb1 hbB HE3
    generalize m[k] = x at *
    have e0 := HCl.out HFL.out.f.r
    have HX := Lib.hid (HX3.out.fr HFL.out.f.r (fun a ha e => HXn.out a ha e))
    have HP := Lib.hid HFL.out.ls
    have q2 : (0 : Int) ≤ (k : Int) := by omega
    have q3 : (k : Int) < (m.length : Int) := by omega
    have hpl := HFL.out.l
    have hxl := HXa.out.2
    go_wp2_with fail
    refine (BetweenN p.A x.A p.c x.c p.L x.L wr HP.out HX.out (by omega) (by omega)).mono ?_
    rw [HFL.out.s.ok.set, HXa.out.1.ok.set]
    rintro e w4 ⟨D1, d1, D2, d2, rfl, hd, hb, hn1, hn2⟩
    have hFO := HFL.out.f
    have hap : ApD ⟨D1, d1, wout x.L p.L, D2, d2, wout p.L x.L⟩ F := apD_new (lo := wr.heap.size) (fun b hb => hFO.f.lt b hb) (fun _ a ha => hn1 a ha) (fun _ a ha => hn2 a ha)
    have HAq := Lib.hid hap
    have lo1 : (wout x.L p.L).length ≤ 900 := by have := List.length_filter_le (fun y => !decide (y ∈ x.L)) p.L; unfold wout; omega
    have lo2 : (wout p.L x.L).length ≤ 900 := by have := List.length_filter_le (fun y => !decide (y ∈ p.L)) x.L; unfold wout; omega
    have HFw : Hid (∀ b ∈ F, b < wr.heap.size) := fun b hb => hFO.f.lt b hb
    have HS4 : Hid (wr.heap.size ≤ w4.heap.size) := hb.size
    have HF4 := Lib.hid (hFO.keep (Fr.of_below' hb _))
    have HD4 := Lib.hid hd
    have HAs := Lib.hid HFL.out.s
    have HGp := Lib.hid (Ls.gd HFL.out.q)
    clear hd hb hn1 hn2 hFO hap e0 HX HP HFL
    go_upto_region 10 with (fail)
    have HBk := Lib.hid (Bk.new w4 (Dl.mk D1 d1 (wout x.L p.L) D2 d2 (wout p.L x.L)).arr TDl)
    have hfr := Fr.alloc (fun _ => False) w4 (.cells (Dl.mk D1 d1 (wout x.L p.L) D2 d2 (wout p.L x.L)).arr TDl)
    have HF5 := Lib.hid (HF4.out.keep hfr)
    have HD5 := Lib.hid (HD4.out.keep hfr)
    clear hfr HF4 HD4
    generalize (w4.alloc (.cells #[.slice D1 (wout x.L p.L).length d1, .slice D2 (wout p.L x.L).length d2] TDl)) = w5 at *
    have hs1 : siz p.L (wout x.L p.L ++ wout p.L x.L) ≤ 900 := Nat.le_trans (List.length_filter_le _ _) hpl
    have hs2 : siz x.L (wout x.L p.L ++ wout p.L x.L) ≤ 900 := Nat.le_trans (List.length_filter_le _ _) hxl
    have HZ1 := Lib.hid (Ref22.sizeP_eq p.L (wout x.L p.L) (wout p.L x.L))
    have HZ2 := Lib.hid (Ref22.sizeP_eq x.L (wout x.L p.L) (wout p.L x.L))
    refine ds10 (by kernel_rfl) _ _ w5 w5 B w4.heap.size ⟨D1, d1, wout x.L p.L, D2, d2, wout p.L x.L⟩ p.L F _ _ _ HF5.out.f hpl rfl rfl (by rw [List.length_map]; exact hpl) (Nat.le_trans lo1 (by omega)) (Nat.le_trans lo2 (by omega)) HZ1.out ⟨Fr.refl _ _, HD5.out, HBk.out, by simp⟩ rfl rfl rfl ?_
    intro x_ w6 hx8 hf6
    simp only [Eng.setAll, Act.put, List.setIfInBounds_toArray, List.set_cons_succ, List.set_cons_zero, hx8]
    have HF6 := Lib.hid (HF5.out.keep hf6); have HD6 := Lib.hid (HD5.out.keep hf6); have HBk6 := Lib.hid (HBk.out.fr hf6 (fun _ _ h => h))
    have HAp := Lib.hid (ApplyF HF6.out HAs.out HXa.out.1 HGp.out (Ls.gd HX3.out) (by omega) (by omega) HD6.out HAq.out)
    have z0 := HBk6.out.cell 0; have z1 := HBk6.out.cell 1
    simp only [List.getElem?_toArray, List.getElem?_cons_zero, List.getElem?_cons_succ] at z0 z1
    clear hf6 hx8 HF5 HD5 HBk HF6
    go_wp2_with fail
    refine HAp.out.mono ?_
    rintro e w7 ⟨A3, c3, A4, c4, N, F', rfl, g1, ht, -, -, -, -, hN0, hN1⟩
    have hfa := Fr.alloc (fun _ => False) w7 (.cells #[.slice A3 (mvd p.L x.L).length c3, .slice A4 (mvd x.L p.L).length c4] TSh)
    have HF7 := Lib.hid (g1.keep hfa)
    have HD7 := Lib.hid ((HD6.out.ap HAq.out ht).keep hfa)
    have HBk7 := Lib.hid ((HBk6.out.fr ht.fr (fun _ h1 h2 => by have := List.mem_singleton.1 h1; have := HFw.out _ h2; have := HS4.out; omega)).fr hfa (fun _ _ h => h))
    have HN := Lib.hid hN0; have HN2 := Lib.hid hN1
    clear g1 ht hfa HAp HD6 HBk6 z0 z1 hN0 hN1
    go_upto_region 12 with (fail)
    generalize (w7.alloc (.cells #[.slice A3 (mvd p.L x.L).length c3, .slice A4 (mvd x.L p.L).length c4] TSh)) = w8 at *
    refine ds12 (by kernel_rfl) _ _ w8 w8 B w4.heap.size ⟨D1, d1, wout x.L p.L, D2, d2, wout p.L x.L⟩ x.L F' _ _ _ HF7.out.f hxl rfl rfl (by rw [List.length_map]; exact hxl) (Nat.le_trans lo1 (by omega)) (Nat.le_trans lo2 (by omega)) HZ2.out (siz p.L (wout x.L p.L ++ wout p.L x.L)) N HN.out (by have := HN2.out; omega) hs1 hs2 ⟨Fr.refl _ _, HD7.out, HBk7.out, by simp⟩ rfl rfl rfl rfl rfl rfl ?_
    intro x_ w9 hx54 hf9
    simp only [Eng.setAll, Act.put, List.setIfInBounds_toArray, List.set_cons_succ, List.set_cons_zero, hx54]
    have HF9 : Hid (FL_ w3 w9 B x F') := ⟨HF7.out.keep hf9, HX3.out, HXn.out, HXa.out.1, hxl⟩
    have e7 := HCl.out HF9.out.f.r
    have qk : IntKind.i64.wrap ((k : Int) + 1) = (k : Int) + 1 := by rw [IntKind.wrap_i64]; omega
    clear hf9 hx54 HF7 HD7 HBk7 HN HN2 HZ1 HZ2 HAq HFw HS4 hs1 hs2 lo1 lo2
    go_wp2_with fail
    go_roundg (m.length - (k + 1))
    case rel => exact ⟨k + 1, x, F', by go_num, by omega, rfl, rfl, HF9.out⟩
    case measure => have := HG.out; omega
   ·have hke : k = m.length := by omega
    subst hke
    have q1 : decide ((m.length : Int) < (m.length : Int)) = false := by simp
    have HBr : Hid (Below w.heap.size w wr) := HB3.out.trans (HFL.out.f.r.below HB3.out.size (fun b hb e => by have := HBw.out; omega))
    clear HFL
    go_wp2_with fail
    refine (awake wr).mono ?_
    rintro e w9 ⟨rfl, hb⟩
    have HBz := Lib.hid (HBr.out.trans (hb.mono HBr.out.size))
    clear hb
    go_wp2_with fail
    go_ret
    exact ⟨rfl, HBz.out⟩
end Law22
end Go.Proofs.YtgfjpnpbkkadpaaGreat
