/- Layer 25's statements: HistRank: for every input the answer is true. -/
import Derived.Test.YtolpdgaomlhgdaaLaw25b
import Derived.Test.YtolpdgaomlhgdaaHistR
namespace Go.Proofs.Ytolpdgaomlhgdaa
open Go.RowKit
namespace Law25
open HistP BagP Bag Wide Bucket Hist
abbrev TIs : TypeId := 40
theorem cells_int (T : List Int) : ∀ u ∈ ints T, u.oneCell' = true := by
  intro u hu
  simp only [List.mem_map] at hu
  obtain ⟨p, -, rfl⟩ := hu; rfl
set_option maxRecDepth 100000 in
set_option maxHeartbeats 2000000 in
theorem rankL (A : Option Addr) (c : Nat) (l : List Int) (p q : Int) (w : World) (hSl : Sl w 1 A l.length c (ints l)) :
    Calls Try.prog 11 #[.slice A l.length c, .int .i64 p, .int .i64 q] w fun e w' => e = .returned (.bool true) ∧ Below w.heap.size w w' := by
  have la : l.length ≤ 9223372036854775807 := by have := hSl.2.1; have := hSl.2.2.1; unfold maxLen at this; omega
  have HA := Lib.hid (awake w)
  by_cases h40 : 40 < l.length
  · have t1 : decide ((40 : Int) < (l.length : Int)) = true := by simp; omega
    clear hSl
    go_enter Try.func11, Try.ntmps11
    go_wp2_with fail
    refine HA.out.mono ?_
    rintro e w1 ⟨rfl, hb⟩
    have HB := Lib.hid hb
    clear hb
    go_wp2_with fail
    go_ret
    exact ⟨rfl, HB.out⟩
  · have t1 : decide ((40 : Int) < (l.length : Int)) = false := by simp; omega
    have hl40 : l.length ≤ 40 := by omega
    by_cases h0 : l.length = 0
    · have t2 : ((l.length : Int) == 0) = true := by rw [beq_iff_eq]; omega
      have H0 := Lib.hid h0
      clear hSl h40 h0
      go_enter Try.func11, Try.ntmps11
      go_wp2_with fail
      refine HA.out.mono ?_
      rintro e w1 ⟨rfl, hb⟩
      have HB := Lib.hid hb
      clear hb
      go_wp2_with fail
      go_ret
      exact ⟨rfl, HB.out⟩
    · have t2 : ((l.length : Int) == 0) = false := by rw [beq_eq_false_iff_ne]; omega
      have hl1 : 1 ≤ l.length := by omega
      have hne : Hid (l ≠ []) := by rintro rfl; simp at hl1
      obtain ⟨i0, hi, hz0, hz1, hz2⟩ := info_parts Ref12.infoI
      have HS := Lib.hid hSl
      clear hSl h40 h0 HA
      go_enter Try.func11, Try.ntmps11
      go_wp2_with fail
      clear t1 t2
      go_loopg [7, 8, 9, 10, 11] l.length (fun gk v i _ _ _ wr => ∃ j : Nat, i = .int .i64 j ∧ j ≤ l.length ∧ gk = l.length - j ∧ wr.ownsRow w.heap.size TI 1 v (rise (l.take j)).length (ints (rise (l.take j))) ∧ Below w.heap.size w wr)
      case atStart => exact ⟨0, rfl, Nat.zero_le _, rfl, World.ownsRow_nil _ _ _ _, Below.refl _ _⟩
      case round =>
        obtain ⟨j, rfl, hj, hg, hown, hbel⟩ := hrel
        have HG := Lib.hid hg; have HBe := Lib.hid hbel; have HOw := Lib.hid hown
        have hszw : w.heap.size ≤ wr.heap.size := hbel.size
        clear hg hbel hown
        obtain ⟨wo, rfl⟩ : ∃ wo : World, wo = wr := ⟨_, rfl⟩
        by_cases hlt : j < l.length
        · obtain ⟨b1, o1, rfl, hb1, c1⟩ := HS.out.at hlt (by omega)
          have dj : wo.cell? ⟨b1, o1 + j, none⟩ = some (.int .i64 l[j]) := (HBe.out.cell (p := ⟨b1, _, none⟩) hb1).trans (c1 j _ (by simp [ints, hlt]))
          have HSn := Lib.hid (rise_snoc l hlt)
          have hol : (rise (l.take j)).length ≤ j := by rw [rise_len]; simp; omega
          have HCl := Lib.hid (Ref03.Clamp l[j] 0 4611686018427387904 wo)
          have HX : Hid (clamp l[j] 0 4611686018427387904 = cl l[j]) := rfl
          rw [HX.out] at HCl
          clear c1 HX
          generalize cl l[j] = d at *
          generalize l[j] = x0 at *
          generalize rise (l.take j) = out at *
          obtain ⟨A1, ca, hv, hS1, hA1⟩ := Sl.of_own HOw.out
          subst hv
          have HS1 := Lib.hid hS1
          have HA1 : Hid (∀ a, A1 = some a → a.block < wo.heap.size) := fun a ha => (hA1 a ha).2.2
          have hca : out.length ≤ ca ∧ ca ≤ 9223372036854775807 := by have := hS1.2.1; have := hS1.2.2.1; unfold maxLen at this; omega
          clear hS1 hA1
          go_wp2_with fail
          refine HCl.out.mono ?_
          rintro e w1 ⟨rfl, rfl⟩
          clear dj HCl
          go_wp2_with fail
          go_loopg [10] out.length (fun gk i wq => ∃ k : Nat, i = .int .i64 k ∧ k ≤ out.length ∧ gk = out.length - k ∧ wo = wq ∧ ∀ i (h : i < out.length), i < k → out[i] ≤ d)
          case atStart => exact ⟨0, rfl, Nat.zero_le _, rfl, rfl, fun i h h' => by omega⟩
          case round =>
            obtain ⟨k, rfl, hk, hg2, rfl, hlow⟩ := hrel
            have HG2 := Lib.hid hg2; have HLow := Lib.hid hlow
            clear hg2 hlow
            by_cases hgo : ∃ h : k < out.length, out[k] ≤ d
            · obtain ⟨hlk, hx⟩ := hgo
              obtain ⟨b2, o2, rfl, hb2, c2⟩ := HS1.out.at hlk (by omega)
              have dk : wo.cell? ⟨b2, o2 + k, none⟩ = some (.int .i64 out[k]) := c2 k _ (by simp [ints, hlk])
              have HX : Hid (∀ i (h : i < out.length), i < k + 1 → out[i] ≤ d) := fun i h hi => by
                rcases Nat.lt_succ_iff_lt_or_eq.1 hi with hi | rfl
                · exact HLow.out i h hi
                · exact hx
              clear c2
              generalize out[k] = x at *
              go_wp2_with fail
              go_roundg (out.length - (k + 1))
              case rel => exact ⟨k + 1, by go_num, by omega, rfl, rfl, HX.out⟩
              case measure => have := HG2.out; omega
            · have HK : Hid (lowR d out = k) := lowR_at d out k HLow.out (by
                by_cases h : k < out.length
                · exact .inr ⟨h, fun hx => hgo ⟨h, hx⟩⟩
                · exact .inl (by omega))
              have HIn : Hid (insR d out = out.take k ++ d :: out.drop k) := by show _ = _; unfold insR; rw [HK.out]
              have hS1 : Sl wo 1 A1 k ca (ints (out.take k)) := by have := HS1.out.take (k := k) hk; rwa [Nat.mul_one, ← List.map_take] at this
              have hft : ∀ h : k < out.length, ∃ b2 o2, A1 = some ⟨b2, o2, none⟩ ∧ wo.cell? ⟨b2, o2 + k, none⟩ = some (.int .i64 out[k]) ∧ ¬ out[k] ≤ d := fun h => by
                obtain ⟨b2, o2, e2, -, c2⟩ := HS1.out.at h (by omega)
                exact ⟨b2, o2, e2, c2 k _ (by simp [ints, h]), fun hx => hgo ⟨h, hx⟩⟩
              have HFt := Lib.hid hft
              clear hft hgo HLow HK
              by_cases hlk : k < out.length
              all_goals
                first
                  | (obtain ⟨b2, o2, rfl, dk, hnx⟩ := HFt.out hlk; generalize out[k] = x at *)
                  | (have t3 : decide (k < out.length) = false := by simp; omega)
                go_wp2_with (at_builtin; refine wpList_append_sl _ rfl (.tmp 56) (.tmp 59) TIs rfl wo.heap.size TI i0 (.int .i64 0) 1 8 Try.underlying40 hi hz0 hz1 hz2 rfl (by decide) _ _ _ rfl (World.ownsRow_nil _ _ _ _) _ _ _ _ rfl hS1 (cells_int _) ?_ ?_ (Nat.le_refl _) ?_)
                · unfold maxLen; omega
                · omega
                intro v1 w1 hown1 hgrow1
                have hb1' : Below wo.heap.size wo w1 := (Below.refl _ _).grown hgrow1 (Nat.le_refl _) (fun k e => by simp [Value.ownBlock] at e)
                have hown1' := hown1.alloc (.cells #[.int .i64 d] TI)
                have HB1 := Lib.hid hb1'; have HK1 := Lib.hid (ownsRow_blk hown1)
                have hsz1 : wo.heap.size ≤ w1.heap.size := hb1'.size
                (try clear dk)
                (try clear t3)
                clear hb1' hgrow1 hown1 hS1
                go_wp2_with (at_builtin; refine wpList_append_sl _ rfl (.tmp 61) (.tmp 63) TIs rfl wo.heap.size TI i0 (.int .i64 0) 1 8 Try.underlying40 hi hz0 hz1 hz2 rfl (by decide) _ _ _ rfl hown1' _ _ _ _ rfl (Sl.one w1 TI [.int .i64 d] 1 rfl) (by simp [Value.oneCell']) ?_ ?_ ?_ ?_)
                · unfold maxLen; omega
                · omega
                · simp; omega
                intro v2 w2 hown2 hgrow2
                have hb2' : Below wo.heap.size wo w2 := (HB1.out.alloc hsz1 _).grown hgrow2 (by simp; omega) (fun k e => (HK1.out k e).1)
                have hS3 := (HS1.out.below hb2' HA1.out).drop (k := k) hk
                rw [Nat.mul_one, ← List.map_drop] at hS3
                have HB2 := Lib.hid hb2'; have HK2 := Lib.hid (ownsRow_blk hown2)
                have hsz2 : wo.heap.size ≤ w2.heap.size := hb2'.size
                clear hb2' hgrow2 hown1' HB1 HK1 hsz1
                go_wp2_with (at_builtin; refine wpList_append_sl _ rfl (.tmp 65) (.tmp 68) TIs rfl wo.heap.size TI i0 (.int .i64 0) 1 8 Try.underlying40 hi hz0 hz1 hz2 rfl (by decide) _ _ _ rfl hown2 _ _ _ _ ?_ hS3 (cells_int _) ?_ ?_ ?_ ?_)
                any_goals (unfold maxLen; omega)
                any_goals omega
                all_goals
                  intro v3 w3 hown3 hgrow3
                  have hb3 : Below wo.heap.size wo w3 := HB2.out.grown hgrow3 hsz2 (fun k e => (HK2.out k e).1)
                  have HB3 := Lib.hid (HBe.out.trans (hb3.mono hszw)); have HO3 := Lib.hid (ownsRow_base hown3 hszw)
                  have HL : Hid ((out.take k ++ d :: out.drop k).length = k + 1 + (out.length - k)) := by show _ = _; simp; omega
                  clear hb3 hgrow3 hown3 hown2 hS3
                  go_wp2_with fail
                  go_roundg (l.length - (j + 1))
                  case rel => exact ⟨j + 1, by go_num, by omega, rfl, by rw [HSn.out, HIn.out, HL.out]; simpa [List.append_assoc] using HO3.out, HB3.out⟩
                  case measure => have := HG.out; omega
        · obtain rfl : j = l.length := by omega
          rw [List.take_length] at HOw
          obtain ⟨A1, ca, hv, hS1, hA1⟩ := Sl.of_own HOw.out
          subst hv
          have HS1 := Lib.hid hS1
          have hFw : Fr (fun _ => False) w wo := Fr.of_below' HBe.out _
          have HFw := Lib.hid hFw
          have HGd := Lib.hid (HistP.Good.ofH l (by omega))
          have hrl := rise_len l
          have HRl := Lib.hid hrl
          clear hS1 hA1 hrl hFw
          rcases Int.lt_trichotomy p q with hpq | rfl | hpq
          · have hcm : clamp (clamp p 0 1000) 0 1000 = clamp p 0 1000 := by unfold clamp; omega
            have hcM : clamp (clamp q 0 1000) 0 1000 = clamp q 0 1000 := by unfold clamp; omega
            have hcr : 0 ≤ clamp p 0 1000 ∧ clamp p 0 1000 ≤ 1000 := by unfold clamp; omega
            have hle : clamp p 0 1000 ≤ clamp q 0 1000 := by unfold clamp; omega
            obtain ⟨i, hil, hir, h1, h2, h3, h4, h5, h6⟩ := rank_law HGd.out hne.out (p := clamp p 0 1000) (q := clamp q 0 1000) (by rw [hcm, hcM]; exact hle)
            have hrs := rank_small (n := (l.length : Int)) (c := clamp p 0 1000) (by omega) (by omega) hcr
            have C1 := fun w => Lib.hid (Ref03.Clamp p 0 1000 w)
            have C2 := fun w => Lib.hid (Ref03.Clamp q 0 1000 w)
            clear hcm hcM hle
            generalize clamp p 0 1000 = ca at *
            generalize clamp q 0 1000 = cb at *
            have hq0 : 0 ≤ (l.length : Int) * ca := Int.mul_nonneg (by omega) hcr.1
            have hq1 : (l.length : Int) * ca ≤ (l.length : Int) * 1000 := Int.mul_le_mul_of_nonneg_left hcr.2 (by omega)
            rw [hrs] at hir
            obtain ⟨b2, o2, rfl, hb2, c2⟩ := HS1.out.at hil (by omega)
            have HCe : Hid (∀ w', Fr (fun _ => False) wo w' → w'.cell? ⟨b2, o2 + i, none⟩ = some (.int .i64 (rise l)[i])) := fun w' hf => (World.cell?_of_block (w := wo) (a := ⟨b2, _, none⟩) (hf.block b2 hb2 (fun h => h))).trans (c2 i _ (by simp [ints, hil]))
            generalize (rise l)[i] = y at *
            clear c2 hrs
            go_wp2_with fail
            refine (C1 _).out.mono ?_
            rintro e w1 ⟨rfl, rfl⟩
            go_wp2_with fail
            refine (C2 _).out.mono ?_
            rintro e w1 ⟨rfl, rfl⟩
            go_wp2_with fail
            refine (Hist.Of A c l wo (HS.out.fr HFw.out (fun _ _ h => h)) (by omega)).mono ?_
            rintro e w2 ⟨rfl, F2, hb, hF2, hf2⟩
            have H2 : Hid (S1 w w2 wo.heap.size (ofH l) F2) := ⟨hb, fun b hb => Nat.le_trans hszw (hF2 b hb).1, HFw.out.to hf2⟩
            have HF2 := Lib.hid hf2
            clear hb hF2 hf2 C1 C2
            generalize wo.heap.size = Bh at *
            have Q1 := fun w' hf => Lib.hid (Hist.Quantile Bh ca _ F2 w' (H2.out.fr (w' := w') hf).h)
            have Q2 := fun w' hf => Lib.hid (Hist.Quantile Bh cb _ F2 w' (H2.out.fr (w' := w') hf).h)
            generalize quant (ofH l) ca = qa at *
            generalize quant (ofH l) cb = qb at *
            obtain ⟨la1, ha1, oa1⟩ := qa
            obtain ⟨lb1, hb1, ob1⟩ := qb
            dsimp only at h1 h2 h3 h4 h5 h6
            subst h1 h2
            go_wp2_with fail
            refine (Q1 _ (Fr.refl _ _)).out.mono ?_
            rintro e w3 ⟨rfl, hf3⟩
            have HF3 := Lib.hid hf3
            clear hf3
            go_wp2_with fail
            refine (Q2 _ HF3.out).out.mono ?_
            rintro e w4 ⟨rfl, hf4⟩
            have HF4 := Lib.hid (HF3.out.to hf4)
            clear hf4 HF3 Q1 Q2
            have dk := HCe.out _ (HF2.out.to HF4.out)
            have hFin := H2.out.f.to HF4.out
            have HFin := Lib.hid hFin
            clear hFin HCe
            by_cases hV : 1 < ((l.length : Int) * ca + 999) / 1000
            · have hval : ((l.length : Int) * ca + 999) / 1000 = (i : Int) + 1 := by omega
              have hi0 : (1 : Int) < (i : Int) + 1 := by omega
              have hi1 : (i : Int) < ((rise l).length : Int) := by omega
              have hi2 : (0 : Int) ≤ (i : Int) := by omega
              clear hV hir hq0
              go_wp2_with fail
              refine (awake w4).mono ?_
              rintro e w5 ⟨rfl, hb5⟩
              have HBl := Lib.hid ((HFin.out.below (Nat.le_refl _) (fun _ _ h => h)).trans (hb5.mono HFin.out.size))
              clear hb5
              go_wp2_with fail
              go_ret
              exact ⟨rfl, HBl.out⟩
            · obtain rfl : i = 0 := by omega
              have hV2 : ¬ 1 < ((l.length : Int) * ca + 999) / 1000 := hV
              have hi1 : (0 : Int) < ((rise l).length : Int) := by omega
              have hi3 : 0 < (rise l).length := hil
              rw [Nat.add_zero] at dk
              clear hir
              go_wp2_with fail
              all_goals
                refine (awake w4).mono ?_
                rintro e w5 ⟨rfl, hb5⟩
                have HBl := Lib.hid ((HFin.out.below (Nat.le_refl _) (fun _ _ h => h)).trans (hb5.mono HFin.out.size))
                clear hb5
                go_wp2_with fail
                go_ret
                exact ⟨rfl, HBl.out⟩
          · have hcm : clamp (clamp p 0 1000) 0 1000 = clamp p 0 1000 := by unfold clamp; omega
            have hcM : clamp (clamp p 0 1000) 0 1000 = clamp p 0 1000 := by unfold clamp; omega
            have hcr : 0 ≤ clamp p 0 1000 ∧ clamp p 0 1000 ≤ 1000 := by unfold clamp; omega
            have hle : clamp p 0 1000 ≤ clamp p 0 1000 := by unfold clamp; omega
            obtain ⟨i, hil, hir, h1, h2, h3, h4, h5, h6⟩ := rank_law HGd.out hne.out (p := clamp p 0 1000) (q := clamp p 0 1000) (Int.le_refl _)
            have hrs := rank_small (n := (l.length : Int)) (c := clamp p 0 1000) (by omega) (by omega) hcr
            have C1 := fun w => Lib.hid (Ref03.Clamp p 0 1000 w)
            have C2 := fun w => Lib.hid (Ref03.Clamp p 0 1000 w)
            clear hcm hcM hle
            generalize clamp p 0 1000 = ca at *
            have hq0 : 0 ≤ (l.length : Int) * ca := Int.mul_nonneg (by omega) hcr.1
            have hq1 : (l.length : Int) * ca ≤ (l.length : Int) * 1000 := Int.mul_le_mul_of_nonneg_left hcr.2 (by omega)
            rw [hrs] at hir
            obtain ⟨b2, o2, rfl, hb2, c2⟩ := HS1.out.at hil (by omega)
            have HCe : Hid (∀ w', Fr (fun _ => False) wo w' → w'.cell? ⟨b2, o2 + i, none⟩ = some (.int .i64 (rise l)[i])) := fun w' hf => (World.cell?_of_block (w := wo) (a := ⟨b2, _, none⟩) (hf.block b2 hb2 (fun h => h))).trans (c2 i _ (by simp [ints, hil]))
            generalize (rise l)[i] = y at *
            clear c2 hrs
            go_wp2_with fail
            refine (C1 _).out.mono ?_
            rintro e w1 ⟨rfl, rfl⟩
            go_wp2_with fail
            refine (C2 _).out.mono ?_
            rintro e w1 ⟨rfl, rfl⟩
            go_wp2_with fail
            refine (Hist.Of A c l wo (HS.out.fr HFw.out (fun _ _ h => h)) (by omega)).mono ?_
            rintro e w2 ⟨rfl, F2, hb, hF2, hf2⟩
            have H2 : Hid (S1 w w2 wo.heap.size (ofH l) F2) := ⟨hb, fun b hb => Nat.le_trans hszw (hF2 b hb).1, HFw.out.to hf2⟩
            have HF2 := Lib.hid hf2
            clear hb hF2 hf2 C1 C2
            generalize wo.heap.size = Bh at *
            have Q1 := fun w' hf => Lib.hid (Hist.Quantile Bh ca _ F2 w' (H2.out.fr (w' := w') hf).h)
            have Q2 := fun w' hf => Lib.hid (Hist.Quantile Bh ca _ F2 w' (H2.out.fr (w' := w') hf).h)
            generalize quant (ofH l) ca = qa at *
            obtain ⟨la1, ha1, oa1⟩ := qa
            dsimp only at h1 h2 h3 h4 h5 h6
            subst h1
            clear h2
            go_wp2_with fail
            refine (Q1 _ (Fr.refl _ _)).out.mono ?_
            rintro e w3 ⟨rfl, hf3⟩
            have HF3 := Lib.hid hf3
            clear hf3
            go_wp2_with fail
            refine (Q2 _ HF3.out).out.mono ?_
            rintro e w4 ⟨rfl, hf4⟩
            have HF4 := Lib.hid (HF3.out.to hf4)
            clear hf4 HF3 Q1 Q2
            have dk := HCe.out _ (HF2.out.to HF4.out)
            have hFin := H2.out.f.to HF4.out
            have HFin := Lib.hid hFin
            clear hFin HCe
            by_cases hV : 1 < ((l.length : Int) * ca + 999) / 1000
            · have hval : ((l.length : Int) * ca + 999) / 1000 = (i : Int) + 1 := by omega
              have hi0 : (1 : Int) < (i : Int) + 1 := by omega
              have hi1 : (i : Int) < ((rise l).length : Int) := by omega
              have hi2 : (0 : Int) ≤ (i : Int) := by omega
              clear hV hir hq0
              go_wp2_with fail
              refine (awake w4).mono ?_
              rintro e w5 ⟨rfl, hb5⟩
              have HBl := Lib.hid ((HFin.out.below (Nat.le_refl _) (fun _ _ h => h)).trans (hb5.mono HFin.out.size))
              clear hb5
              go_wp2_with fail
              go_ret
              exact ⟨rfl, HBl.out⟩
            · obtain rfl : i = 0 := by omega
              have hV2 : ¬ 1 < ((l.length : Int) * ca + 999) / 1000 := hV
              have hi1 : (0 : Int) < ((rise l).length : Int) := by omega
              have hi3 : 0 < (rise l).length := hil
              rw [Nat.add_zero] at dk
              clear hir
              go_wp2_with fail
              all_goals
                refine (awake w4).mono ?_
                rintro e w5 ⟨rfl, hb5⟩
                have HBl := Lib.hid ((HFin.out.below (Nat.le_refl _) (fun _ _ h => h)).trans (hb5.mono HFin.out.size))
                clear hb5
                go_wp2_with fail
                go_ret
                exact ⟨rfl, HBl.out⟩
          · have hcm : clamp (clamp q 0 1000) 0 1000 = clamp q 0 1000 := by unfold clamp; omega
            have hcM : clamp (clamp p 0 1000) 0 1000 = clamp p 0 1000 := by unfold clamp; omega
            have hcr : 0 ≤ clamp q 0 1000 ∧ clamp q 0 1000 ≤ 1000 := by unfold clamp; omega
            have hle : clamp q 0 1000 ≤ clamp p 0 1000 := by unfold clamp; omega
            obtain ⟨i, hil, hir, h1, h2, h3, h4, h5, h6⟩ := rank_law HGd.out hne.out (p := clamp q 0 1000) (q := clamp p 0 1000) (by rw [hcm, hcM]; exact hle)
            have hrs := rank_small (n := (l.length : Int)) (c := clamp q 0 1000) (by omega) (by omega) hcr
            have C1 := fun w => Lib.hid (Ref03.Clamp q 0 1000 w)
            have C2 := fun w => Lib.hid (Ref03.Clamp p 0 1000 w)
            clear hcm hcM hle
            generalize clamp q 0 1000 = ca at *
            generalize clamp p 0 1000 = cb at *
            have hq0 : 0 ≤ (l.length : Int) * ca := Int.mul_nonneg (by omega) hcr.1
            have hq1 : (l.length : Int) * ca ≤ (l.length : Int) * 1000 := Int.mul_le_mul_of_nonneg_left hcr.2 (by omega)
            rw [hrs] at hir
            obtain ⟨b2, o2, rfl, hb2, c2⟩ := HS1.out.at hil (by omega)
            have HCe : Hid (∀ w', Fr (fun _ => False) wo w' → w'.cell? ⟨b2, o2 + i, none⟩ = some (.int .i64 (rise l)[i])) := fun w' hf => (World.cell?_of_block (w := wo) (a := ⟨b2, _, none⟩) (hf.block b2 hb2 (fun h => h))).trans (c2 i _ (by simp [ints, hil]))
            generalize (rise l)[i] = y at *
            clear c2 hrs
            go_wp2_with fail
            refine (C1 _).out.mono ?_
            rintro e w1 ⟨rfl, rfl⟩
            go_wp2_with fail
            refine (C2 _).out.mono ?_
            rintro e w1 ⟨rfl, rfl⟩
            go_wp2_with fail
            refine (Hist.Of A c l wo (HS.out.fr HFw.out (fun _ _ h => h)) (by omega)).mono ?_
            rintro e w2 ⟨rfl, F2, hb, hF2, hf2⟩
            have H2 : Hid (S1 w w2 wo.heap.size (ofH l) F2) := ⟨hb, fun b hb => Nat.le_trans hszw (hF2 b hb).1, HFw.out.to hf2⟩
            have HF2 := Lib.hid hf2
            clear hb hF2 hf2 C1 C2
            generalize wo.heap.size = Bh at *
            have Q1 := fun w' hf => Lib.hid (Hist.Quantile Bh ca _ F2 w' (H2.out.fr (w' := w') hf).h)
            have Q2 := fun w' hf => Lib.hid (Hist.Quantile Bh cb _ F2 w' (H2.out.fr (w' := w') hf).h)
            generalize quant (ofH l) ca = qa at *
            generalize quant (ofH l) cb = qb at *
            obtain ⟨la1, ha1, oa1⟩ := qa
            obtain ⟨lb1, hb1, ob1⟩ := qb
            dsimp only at h1 h2 h3 h4 h5 h6
            subst h1 h2
            go_wp2_with fail
            refine (Q1 _ (Fr.refl _ _)).out.mono ?_
            rintro e w3 ⟨rfl, hf3⟩
            have HF3 := Lib.hid hf3
            clear hf3
            go_wp2_with fail
            refine (Q2 _ HF3.out).out.mono ?_
            rintro e w4 ⟨rfl, hf4⟩
            have HF4 := Lib.hid (HF3.out.to hf4)
            clear hf4 HF3 Q1 Q2
            have dk := HCe.out _ (HF2.out.to HF4.out)
            have hFin := H2.out.f.to HF4.out
            have HFin := Lib.hid hFin
            clear hFin HCe
            by_cases hV : 1 < ((l.length : Int) * ca + 999) / 1000
            · have hval : ((l.length : Int) * ca + 999) / 1000 = (i : Int) + 1 := by omega
              have hi0 : (1 : Int) < (i : Int) + 1 := by omega
              have hi1 : (i : Int) < ((rise l).length : Int) := by omega
              have hi2 : (0 : Int) ≤ (i : Int) := by omega
              clear hV hir hq0
              go_wp2_with fail
              refine (awake w4).mono ?_
              rintro e w5 ⟨rfl, hb5⟩
              have HBl := Lib.hid ((HFin.out.below (Nat.le_refl _) (fun _ _ h => h)).trans (hb5.mono HFin.out.size))
              clear hb5
              go_wp2_with fail
              go_ret
              exact ⟨rfl, HBl.out⟩
            · obtain rfl : i = 0 := by omega
              have hV2 : ¬ 1 < ((l.length : Int) * ca + 999) / 1000 := hV
              have hi1 : (0 : Int) < ((rise l).length : Int) := by omega
              have hi3 : 0 < (rise l).length := hil
              rw [Nat.add_zero] at dk
              clear hir
              go_wp2_with fail
              all_goals
                refine (awake w4).mono ?_
                rintro e w5 ⟨rfl, hb5⟩
                have HBl := Lib.hid ((HFin.out.below (Nat.le_refl _) (fun _ _ h => h)).trans (hb5.mono HFin.out.size))
                clear hb5
                go_wp2_with fail
                go_ret
                exact ⟨rfl, HBl.out⟩
end Law25
end Go.Proofs.Ytolpdgaomlhgdaa
