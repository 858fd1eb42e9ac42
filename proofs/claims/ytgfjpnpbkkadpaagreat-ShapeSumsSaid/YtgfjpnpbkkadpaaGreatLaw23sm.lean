/- Layer 23's statements: ShapeSums: for every input the answer is true. -/
import Derived.Test.YtgfjpnpbkkadpaaGreatLaw23s
namespace Go.Proofs.YtgfjpnpbkkadpaaGreat
open Go.RowKit
namespace Law23
open KeyP PackP SetP SetW SetF Cls ClsW ClsS ClsF Pack Shape ShSum Bag BagP
attribute [local go_sem] Eng.ev Eng.getO_cons Eng.getO_nil
/-- How many have their parent there, of the first. -/
def bel2 (M : List Sn) (k : Nat) : Nat := ((M.take k).filter (fun y => (nx M y.t y.p).isSome)).length
theorem bel2_le (M : List Sn) (k : Nat) : bel2 M k ≤ M.length := Nat.le_trans (List.length_filter_le _ _) (List.length_take_le' _ _)
theorem bel2_s {M : List Sn} {k : Nat} (hk : k < M.length) : bel2 M (k + 1) = bel2 M k + if (nx M M[k].t M[k].p).isSome then 1 else 0 := by
  unfold bel2
  rw [List.take_succ_eq_append_getElem hk, List.filter_append, List.length_append]
  congr 1
  cases h : (nx M M[k].t M[k].p).isSome <;> simp [List.filter_cons, h]
theorem wr64 {n m : Int} (e : n = m) (h : 0 ≤ m) (h2 : m ≤ 1000000) : wrap64 n = m := by subst e; unfold wrap64; omega
theorem wr_ {n : Int} (h : 0 ≤ n) (h2 : n ≤ 1000000) : IntKind.i64.wrap n = n := by rw [IntKind.wrap_i64]; omega
set_option maxRecDepth 100000 in
set_option maxHeartbeats 8000000 in
theorem sums (A : Option Addr) (c : Nat) (L : List Sn) (w0 : World) (hL : Ls w0 A c L) :
    Calls Tryz.prog 11 #[.slice A L.length c] w0 fun e w' => e = .returned (.bool true) ∧ Below w0.heap.size w0 w' := by
  have HL := Lib.hid hL; have HL0 := Lib.hid hL
  clear hL
  go_enter Tryz.func11, Tryz.ntmps11
  go_wp2_with fail
  refine (SetF.Few A c 30 L w0 HL.out.s).mono ?_
  rintro e w1 ⟨rfl, hf⟩
  have HB1 := Lib.hid (hf.below (Nat.le_refl _) (fun _ _ h => h)); have HL1 := Lib.hid (HL.out.keep hf)
  clear hf HL
  cases hq : fewB L 30 with
  | false =>
    go_wp2_with fail
    refine (awake w1).mono ?_
    rintro e w2 ⟨rfl, hf⟩
    have HB2 := Lib.hid (HB1.out.trans (hf.below HB1.out.size (fun _ _ h => h)))
    clear hf
    go_wp2_with fail
    go_ret
    exact ⟨rfl, HB2.out⟩
  | true =>
    have hl := few_len hq
    clear hq
    have hsl := spn_len' L
    have HSr := Lib.hid (spn_srs L)
    have HSp := Lib.hid (fun (W : World) (h : Ls W A c L) => RefSpans A c L W h (by omega))
    obtain ⟨M, hM⟩ : ∃ M, spn L = M := ⟨_, rfl⟩
    obtain ⟨P, hP⟩ : ∃ P, plcs M = P := ⟨_, rfl⟩
    obtain ⟨n, hn⟩ : ∃ n, P.length = n := ⟨_, rfl⟩
    have hnM : n = M.length := by rw [← hn, ← hP, List.length_map]
    rw [hM] at hsl HSr HSp
    have HOf := Lib.hid (Law21.OfE HL1.out (by omega) P (by rw [hM, hP]) n hn)
    have HPe := Lib.hid hP
    have HnM := Lib.hid hnM
    have hn30 : n ≤ 30 := by omega
    clear hM hP hn hnM
    go_wp2_with fail
    refine HOf.out.mono ?_
    rintro e w2 ⟨Ap, cp, rfl, hp, hb⟩
    have HB2 := Lib.hid (HB1.out.trans (hb.mono HB1.out.size)); have HPl := Lib.hid hp
    clear hp hb HB1 HL1 HOf
    go_wp2_with fail
    refine (ShOf HPl.out HPe.out HSr.out (by omega)).mono ?_
    rintro e w3 ⟨z, A1, c1, A2, c2, rfl, hsm, hd, hg, hb⟩
    have HSm := Lib.hid hsm
    have hf4 := Fr.alloc (fun _ => False) w3 (.cells (sha z A1 A2 c1 c2) TSp)
    have HX : Hid (SX w0 (w3.alloc (.cells (sha z A1 A2 c1 c2) TSp)) w3.heap.size z A1 c1 A2 c2 Ap cp n P) :=
      ⟨(HB2.out.trans (hb.mono HB2.out.size)).trans (hf4.below (Nat.le_trans HB2.out.size hb.size) (fun _ _ h => h)), Bk.new _ _ _, hd.fr hf4 (fun _ _ h => h), hg.fr hf4 (fun _ _ h => h), (HPl.out.below hb).below (hf4.below (Nat.le_refl _) (fun _ _ h => h))⟩
    clear hd hg hb hf4 hsm HB2 HPl
    go_upto_region 5 with (fail)
    obtain ⟨Bx, hBx⟩ : ∃ b, w3.heap.size = b := ⟨_, rfl⟩
    rw [hBx] at HX ⊢
    generalize hgg : w3.alloc (.cells (sha z A1 A2 c1 c2) TSp) = w4 at *
    clear hgg hBx
    have hbnd := HSm.out.b
    have hdl : z.D.length ≤ 30 := by omega
    have hfl : z.F.length ≤ 30 := by omega
    have HBd : Hid (sumL z.D ≤ 30 ∧ sumL z.F ≤ 30 ∧ wL z.F ≤ 30) := by
      have h1 := HSm.out.dp; have h2 := HSm.out.fs; have h3 := HSm.out.fw; have h4 := HSm.out.n; have h5 := HSm.out.cl
      have h6 : (bel M).length ≤ M.length := List.length_filter_le _ _
      show _ ∧ _ ∧ _
      omega
    clear hbnd
    go_wp2_with fail
    go_loopg [5, 9] z.D.length (fun gk s i wr => ∃ k : Nat, i = .int .i64 k ∧ s = .int .i64 (sumL (z.D.take k)) ∧ k ≤ z.D.length ∧ gk = z.D.length - k ∧ SX w0 wr Bx z A1 c1 A2 c2 Ap cp n P)
    case atStart => exact ⟨0, rfl, rfl, Nat.zero_le _, rfl, HX.out⟩
    case round =>
      clear HX
      obtain ⟨k, rfl, rfl, hk, hg, hx⟩ := hrel
      have HG := Lib.hid hg; have HX := Lib.hid hx
      clear hg hx
      have x4 : wr.cell? ⟨Bx, 4, none⟩ = some (.slice A1 z.D.length c1) := HX.out.b.cell 4
      by_cases hlt : k < z.D.length
      · obtain ⟨b1, o1, rfl, hb1, cc⟩ := HX.out.d.at hlt (by omega)
        obtain ⟨u0, v0⟩ := pc_at hlt cc
        rw [HSm.out.di k hlt] at u0
        have hv1 := HSm.out.dm _ (List.getElem_mem hlt)
        have hsu := sum_take hlt
        have hs2 := sum_le HSm.out.dm (k + 1)
        have hdp := HBd.out.1
        generalize z.D[k].2 = v at *
        have q1 : (0 : Int) ≤ (k : Int) := by omega
        have q2 : decide ((k : Int) < (z.D.length : Int)) = true := by simp; omega
        have q3 : wrap64 ((k : Int) + 1) = (k : Int) + 1 := by unfold wrap64; omega
        have q4 : wrap64 (sumL (z.D.take k) + v) = sumL (z.D.take (k + 1)) := wr64 hsu.symm hs2.1 (Int.le_trans hs2.2 (Int.le_trans hdp (by decide)))
        have HQ4 := Lib.hid q4
        have q5 : decide (v < 1) = false := by simp; omega
        have q6 : (k : Int) < (z.D.length : Int) := Int.ofNat_lt.2 hlt
        clear hb1 cc hsu hs2 hdp hv1 q4
        go_wp2_with fail
        go_roundg (z.D.length - (k + 1))
        case rel => exact ⟨k + 1, by go_num, by first | rfl | rw [HQ4.out], by omega, rfl, HX.out⟩
        case measure => have := HG.out; omega
      · obtain rfl : k = z.D.length := by omega
        have q2 : decide ((z.D.length : Int) < (z.D.length : Int)) = false := by simp
        have hds : sumL (z.D.take z.D.length) = z.r + z.o := by rw [List.take_length]; exact HSm.out.dp
        rw [hds]
        clear hds HG
        go_wp2_with fail
        clear x4
        go_loopg [6, 7, 10] z.F.length (fun gk s t i wr => ∃ k : Nat, i = .int .i64 k ∧ s = .int .i64 (sumL (z.F.take k)) ∧ t = .int .i64 (wL (z.F.take k)) ∧ k ≤ z.F.length ∧ gk = z.F.length - k ∧ SX w0 wr Bx z A1 c1 A2 c2 Ap cp n P)
        case atStart => exact ⟨0, rfl, rfl, rfl, Nat.zero_le _, rfl, HX.out⟩
        case round =>
          clear HX
          obtain ⟨k, rfl, rfl, rfl, hk2, hg, hx⟩ := hrel
          have HG := Lib.hid hg; have HX := Lib.hid hx
          clear hg hx
          have x5 : wr.cell? ⟨Bx, 5, none⟩ = some (.slice A2 z.F.length c2) := HX.out.b.cell 5
          by_cases hlt2 : k < z.F.length
          · obtain ⟨b1, o1, rfl, hb1, cc⟩ := HX.out.g.at hlt2 (by omega)
            obtain ⟨u0, v0⟩ := pc_at hlt2 cc
            have hv1 := HSm.out.fm _ (List.getElem_mem hlt2)
            have hu1 := HSm.out.ff _ (List.getElem_mem hlt2)
            have hsu := sum_take hlt2
            have hs1 := sum_le HSm.out.fm k
            have hs2 := sum_le HSm.out.fm (k + 1)
            have hwu := w_take hlt2
            have hw1 := w_le HSm.out.fm HSm.out.ff k
            have hw2 := w_le HSm.out.fm HSm.out.ff (k + 1)
            have hdp := HBd.out
            have HSC : Hid (SC w0 wr Bx z A1 c1 (some ⟨b1, o1, none⟩) c2 Ap cp n P b1 (o1 + k * 2) z.F[k].1 z.F[k].2) := ⟨HX.out, u0, v0⟩
            have HR17 : Hid (∀ (W : World) (Q : Exit → Act → World → Prop) (a0 : Act), SC w0 W Bx z A1 c1 (some ⟨b1, o1, none⟩) c2 Ap cp n P b1 (o1 + k * 2) z.F[k].1 z.F[k].2 → a0.tmps.size = 192 → a0.tmps.getD 4 undef = .pointer (some ⟨Bx, 0, none⟩) → a0.tmps.getD 10 undef = .int .i64 k →
                (∀ (x : Nat → Value) (w' : World), x 119 = .bool false → SX w0 w' Bx z A1 c1 (some ⟨b1, o1, none⟩) c2 Ap cp n P → Q .normal (Eng.setAll a0 [84, 85, 86, 87, 88, 89, 90, 91, 92, 93, 94, 95, 96, 97, 98, 99, 100, 101, 102, 103, 104, 105, 106, 107, 108, 109, 110, 111, 112, 113, 114, 115, 116, 117, 118, 119] x) w') →
                (Code.region 17 (Eng.fnOps Tryz.f11 17) true).wp Tryz.prog Q a0 W) := fun W Q a0 hs h0 h4 h10 hp => by
              have e1 : decide (z.F[k].2 < 1) = false := by simp; omega
              have e2 : decide (z.F[k].1 < 0) = false := by simp; omega
              cases k with
              | zero =>
                have hs' := hs
                rw [Nat.zero_mul, Nat.add_zero] at hs'
                exact ss17o rfl a0 Q w0 W Bx z A1 c1 c2 Ap cp n P b1 o1 _ _ hs' hlt2 e1 e2 h0 h4 h10 (fun x w' h k => hp x w' h k.s)
              | succ j =>
                have hm := mono HSm.out.fo (show j < j + 1 by omega) hlt2
                have e3 : decide (z.F[j + 1].1 ≤ z.F[j].1) = false := by simp; omega
                obtain ⟨b2, o2, e4, -, cc2⟩ := hs.s.g.at (show j < z.F.length by omega) (by omega)
                cases e4
                exact ss17 rfl a0 Q w0 W Bx z A1 c1 c2 Ap cp n P b1 o1 j _ _ _ ⟨hs, (pc_at (show j < z.F.length by omega) cc2).1⟩ hlt2 (by omega) e1 e2 e3 h0 h4 h10 (fun x w' h k => hp x w' h k.s)
            have hm0 := Int.mul_nonneg hu1 (show 0 ≤ z.F[k].2 by omega)
            have q7 : IntKind.i64.wrap (z.F[k].1 * z.F[k].2) = z.F[k].1 * z.F[k].2 := wr_ (by omega) (by omega)
            have q8 : IntKind.i64.wrap (wL (z.F.take k) + z.F[k].1 * z.F[k].2) = wL (z.F.take k) + z.F[k].1 * z.F[k].2 := wr_ (by omega) (by omega)
            have HWu := Lib.hid hwu
            have q4 : wrap64 (sumL (z.F.take k) + z.F[k].2) = sumL (z.F.take (k + 1)) := wr64 hsu.symm hs2.1 (Int.le_trans hs2.2 (Int.le_trans hdp.2.1 (by decide)))
            have HQ4 := Lib.hid q4
            have HQ78 : Hid (IntKind.i64.wrap (z.F[k].1 * z.F[k].2) = z.F[k].1 * z.F[k].2 ∧ IntKind.i64.wrap (wL (z.F.take k) + z.F[k].1 * z.F[k].2) = wL (z.F.take k) + z.F[k].1 * z.F[k].2) := ⟨q7, q8⟩
            clear hb1 cc hsu hs1 hs2 hwu hw1 hw2 hdp hv1 hu1 q7 q8 hm0 q4
            generalize z.F[k].1 = u at *
            generalize z.F[k].2 = v at *
            have q1 : (0 : Int) ≤ (k : Int) := by omega
            have q2 : decide ((k : Int) < (z.F.length : Int)) = true := by simp; omega
            have q3 : wrap64 ((k : Int) + 1) = (k : Int) + 1 := by unfold wrap64; omega
            have q6 : (k : Int) < (z.F.length : Int) := Int.ofNat_lt.2 hlt2
            go_upto_region 16 with (fail)
            refine ss16 (by kernel_rfl) _ _ w0 wr Bx z A1 c1 c2 Ap cp n P b1 o1 k u v _ HSC.out hlt2 HQ78.out.1 HQ78.out.2 (by simp) rfl rfl rfl ?_
            intro x w6 h7 hst
            simp only [Eng.setAll, Act.put, List.setIfInBounds_toArray, List.set_cons_succ, List.set_cons_zero]
            rw [h7]
            have HSC2 := Lib.hid hst
            clear h7 hst HSC HX u0 v0 x5
            go_upto_region 17 with (fail)
            refine HR17.out w6 _ _ HSC2.out (by simp) rfl rfl ?_
            intro x w7 h119 hst
            simp only [Eng.setAll, Act.put, List.setIfInBounds_toArray, List.set_cons_succ, List.set_cons_zero]
            rw [h119, ← HWu.out]
            have HX6 := Lib.hid hst
            clear h119 hst HSC2 HR17
            go_wp2_with fail
            go_roundg (z.F.length - (k + 1))
            case rel => exact ⟨k + 1, by go_num, by first | rfl | rw [HQ4.out], rfl, by omega, rfl, HX6.out⟩
            case measure => have := HG.out; omega
          · obtain rfl : k = z.F.length := by omega
            have q2 : decide ((z.F.length : Int) < (z.F.length : Int)) = false := by simp
            have hds : sumL (z.F.take z.F.length) = (n : Int) := by rw [List.take_length, HSm.out.fs, HSm.out.n, HnM.out]
            have hdw : wL (z.F.take z.F.length) = ((bel M).length : Int) := by rw [List.take_length]; exact HSm.out.fw
            rw [hds, hdw]
            have HSp2 := Lib.hid (HSp.out wr (HL0.out.below HX.out.f))
            clear hds hdw HG HSp
            go_wp2_with fail
            refine HSp2.out.mono ?_
            rintro e w6 ⟨A9, c9, rfl, hls, -, hb⟩
            have HX6 := Lib.hid (HX.out.below hb); have HLs := Lib.hid hls
            clear hls hb HX x5 HSp2
            go_wp2_with fail
            go_loopg [8, 12] M.length (fun gk s i wr => ∃ k : Nat, i = .int .i64 k ∧ s = .int .i64 ((bel2 M k : Nat) : Int) ∧ k ≤ M.length ∧ gk = M.length - k ∧ SX w0 wr Bx z A1 c1 A2 c2 Ap cp n P ∧ Ls wr A9 c9 M)
            case atStart => exact ⟨0, rfl, rfl, Nat.zero_le _, rfl, HX6.out, HLs.out⟩
            case round =>
              clear HX6 HLs
              obtain ⟨k, rfl, rfl, hk3, hg, hx, hls⟩ := hrel
              have HG := Lib.hid hg; have HX := Lib.hid hx; have HLs := Lib.hid hls
              clear hg hx hls
              by_cases hlt3 : k < M.length
              · obtain ⟨b1, o1, rfl, hb1, cc⟩ := HLs.out.s.at hlt3 (by omega)
                have HAt := Lib.hid (At.row cc hlt3)
                have HB2 := Lib.hid (bel2_s hlt3)
                have hb2 := bel2_le M k
                have HFd : Hid (decide (fdI P M[k].t M[k].p ≥ 0) = (nx M M[k].t M[k].p).isSome) := by
                  show _ = _
                  rw [← HPe.out, Bool.eq_iff_iff, decide_eq_true_eq]
                  exact Law21.fd_iff
                clear cc hb1
                generalize M[k] = y at *
                generalize hkk : fdI P y.t y.p = kk at *
                have HKk := Lib.hid hkk
                clear hkk
                have q1 : (0 : Int) ≤ (k : Int) := by omega
                have q2 : decide ((k : Int) < (M.length : Int)) = true := by simp; omega
                have q3 : wrap64 ((k : Int) + 1) = (k : Int) + 1 := by unfold wrap64; omega
                have q4 : wrap64 (((bel2 M k : Nat) : Int) + 1) = ((bel2 M k : Nat) : Int) + 1 := by unfold wrap64; omega
                go_upto_region 23 with (fail)
                refine ss23 (by kernel_rfl) _ _ w0 wr Bx z A1 c1 A2 c2 Ap cp n P b1 o1 c9 M.length k M y kk ⟨HX.out, HLs.out, HAt.out⟩ hlt3 (by omega) HKk.out (by simp) rfl rfl rfl ?_
                intro x w7 h140 hst
                simp only [Eng.setAll, Act.put, List.setIfInBounds_toArray, List.set_cons_succ, List.set_cons_zero]
                rw [h140, HFd.out]
                have HX7 := Lib.hid hst.s; have HL7 := Lib.hid hst.l
                clear h140 hst HX HLs HAt HFd HKk
                cases hq : (nx M y.t y.p).isSome with
                | true =>
                  rw [hq] at HB2
                  have HBe : Hid (((bel2 M (k + 1) : Nat) : Int) = ((bel2 M k : Nat) : Int) + 1) := by have := HB2.out; show _ = _; rw [this]; rfl
                  clear hq HB2
                  go_wp2_with fail
                  go_roundg (M.length - (k + 1))
                  case rel => exact ⟨k + 1, by go_num, by rw [HBe.out], by omega, rfl, HX7.out, HL7.out⟩
                  case measure => have := HG.out; omega
                | false =>
                  rw [hq] at HB2
                  have HBe : Hid (bel2 M (k + 1) = bel2 M k) := HB2.out
                  clear hq HB2
                  go_wp2_with fail
                  go_roundg (M.length - (k + 1))
                  case rel => exact ⟨k + 1, by go_num, by rw [HBe.out], by omega, rfl, HX7.out, HL7.out⟩
                  case measure => have := HG.out; omega
              · obtain rfl : k = M.length := by omega
                have q2 : decide ((M.length : Int) < (M.length : Int)) = false := by simp
                have hbl : bel2 M M.length = (bel M).length := by unfold bel2 bel; rw [List.take_length]
                rw [hbl]
                have hbb := HSm.out.b; have hzn := HSm.out.n; have hcl := HSm.out.cl; have hnm := HnM.out
                have HE : Hid (z.n = (n : Int) ∧ IntKind.i64.wrap (z.r + z.o) = z.r + z.o ∧ IntKind.i64.wrap (z.r + z.o + z.c) = z.r + z.o + z.c ∧ z.r + z.o + z.c = (n : Int)) := ⟨by omega, wr_ (by omega) (by omega), wr_ (by omega) (by omega), by omega⟩
                clear hbl HG hbb hzn hcl hnm
                go_upto_region 25 with (fail)
                refine ss25 (by kernel_rfl) _ _ w0 wr Bx z A1 c1 A2 c2 Ap cp n P HX.out _ HE.out.1 HE.out.2.1 HE.out.2.2.1 HE.out.2.2.2 (great_of HSm.out.di) (by simp) rfl rfl rfl rfl rfl rfl ?_
                intro x w7 h2 hst
                simp only [Eng.setAll, Act.put, List.setIfInBounds_toArray, List.set_cons_succ, List.set_cons_zero]
                rw [h2]
                have HBz := Lib.hid hst.f
                clear h2 hst HX HLs
                go_wp2_with fail
                go_ret
                exact ⟨rfl, HBz.out⟩
end Law23
end Go.Proofs.YtgfjpnpbkkadpaaGreat
