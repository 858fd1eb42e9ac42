/- Layer 48's statements: DigestSame: for every input the answer is true: the walk. -/
import Derived.Test.YtmcghchhegfilaaLaw48s
namespace Go.Proofs.Ytmcghchhegfilaa
open Go.RowKit
namespace Law48
open KeyP PackP SetP SetW SetF Code_ Rank DigW
attribute [local go_sem] Eng.ev Eng.getO_cons Eng.getO_nil
set_option maxRecDepth 100000 in
set_option maxHeartbeats 8000000 in
theorem same (A0 A1 : Option Addr) (c0 c1 : Nat) (a : List Sn) (o : List Int) (w : World) (h0 : Ls w A0 c0 a) (h1 : Shuf.By w A1 c1 o) :
    Calls Try.prog 4 #[.slice A0 a.length c0, .slice A1 o.length c1] w fun e w' => e = .returned (.bool true) ∧ Below w.heap.size w w' := by
  obtain ⟨i0, hi, hz0, hz1, hz2⟩ := info_parts infoS
  have HA := Lib.hid h0; have HO := Lib.hid h1
  have HB := Lib.hid (Below.refl w.heap.size w)
  have hol : o.length ≤ 9223372036854775807 := by have := h1.s.2.1; have := h1.s.2.2.1; unfold maxLen at this; omega
  clear h0 h1
  go_enter Try.func4, Try.ntmps4
  go_wp2_with fail
  refine (SetF.Few _ _ 20 a w HA.out.s).mono ?_
  rintro e w1 ⟨rfl, hf⟩
  have hb := hf.below (Nat.le_refl _) (fun _ _ h => h)
  clear hf
  replace HA := Lib.hid (HA.out.below hb)
  replace HO := Lib.hid (HO.out.below hb)
  replace HB := Lib.hid (HB.out.trans (hb.mono HB.out.size))
  clear hb
  cases hq : fewB a 20 with
  | false =>
      go_wp2_with fail
      refine (awake w1).mono ?_
      rintro e w2 ⟨rfl, hb⟩
      replace HA := Lib.hid (HA.out.below hb)
      replace HO := Lib.hid (HO.out.below hb)
      replace HB := Lib.hid (HB.out.trans (hb.mono HB.out.size))
      clear hb
      go_wp2_with fail
      go_ret
      exact ⟨rfl, HB.out⟩
  | true =>
      have hq_a := few_len hq
      clear hq
      by_cases hp : o.length ≤ 40
      ·
        obtain ⟨M, hM⟩ : ∃ M, setOf a = M := ⟨_, rfl⟩
        obtain ⟨fd, hf⟩ : ∃ f, dgI (setOf a) = f := ⟨_, rfl⟩
        have hMM : setOf M = M := by rw [← hM, setOf_idem]
        have hfM : dgI (setOf M) = fd := by rw [hMM, ← hM, hf]
        have lM : M.length ≤ a.length := by rw [← hM]; exact setOf_len a
        have hMf : dgI M = fd := by rw [← hM, hf]
        have EM := Lib.hid hM; have EF := Lib.hid hf; have EMM := Lib.hid hMM; have EFM := Lib.hid hfM; have EMf := Lib.hid hMf
        clear hM hf hMM hfM hMf
        go_wp2_with fail
        refine (OfE (L := a) HA.out (by omega) fd EF.out).mono ?_
        rintro e w2 ⟨rfl, hb⟩
        replace HA := Lib.hid (HA.out.below hb)
        replace HO := Lib.hid (HO.out.below hb)
        replace HB := Lib.hid (HB.out.trans (hb.mono HB.out.size))
        clear hb
        go_wp2_with fail
        have hb := (Below.refl w2.heap.size w2).alloc (Nat.le_refl _) (.cells (dar fd) TDg)
        have HD : Hid (Bx (w2.alloc (.cells (dar fd) TDg)) w2.heap.size fd) := ⟨Bk.new w2 (dar fd) TDg⟩
        generalize (w2.alloc (.cells (dar fd) TDg)) = w3 at *
        replace HA := Lib.hid (HA.out.below hb)
        replace HO := Lib.hid (HO.out.below hb)
        replace HB := Lib.hid (HB.out.trans (hb.mono HB.out.size))
        clear hb
        refine (Shuf.Shuffled A0 A1 c0 c1 a o w3 HA.out.s HO.out (by omega)).mono ?_
        rintro e w4 ⟨S, hperm, v, rfl, hown, hb⟩
        have hsz0 := hb.size
        have HA3 := HA; have HD3 := HD; have HB3 := HB; have hb34 := Lib.hid hb
        replace HA := Lib.hid (HA.out.below hb)
        replace HO := Lib.hid (HO.out.below hb)
        replace HD := Lib.hid (HD.out.below hb)
        replace HB := Lib.hid (HB.out.trans (hb.mono HB.out.size))
        clear hb
        have HOw := Lib.hid hown
        have hSl : S.length = a.length := hperm.length_eq
        have HSm : Hid (∀ x ∈ S, x ∈ a) := fun x hx => hperm.mem_iff.1 hx
        have HSo : Hid (∀ x ∈ S ++ a, x.ok) := fun x hx => by
          rcases List.mem_append.1 hx with h | h
          · exact HA.out.ok x (HSm.out x h)
          · exact HA.out.ok x h
        clear hown hperm
        go_wp2_with (at_builtin; refine wpList_append_sl _ rfl (.tmp 26) (.tmp 27) TSs rfl w3.heap.size TSn i0 (.agg #[.int .i64 0, .int .i64 0, .int .i64 0, .int .i64 0, .string ByteArray.empty, .string ByteArray.empty, .int .i64 0, .int .i64 0, .bool false]) 9 88 Try.underlying22 hi hz0 hz1 hz2 rfl (by decide) _ _ _ rfl HOw.out _ _ _ _ rfl HA.out.s (cells_one _) ?_ ?_ ?_ ?_)
        · unfold maxLen; omega
        · omega
        · exact hsz0
        intro v2 w5 hown2 hgrow2
        have hb : Below w3.heap.size w4 w5 := (Below.refl _ w4).grown hgrow2 hsz0 (fun k e => (ownsRow_blk HOw.out k e).1)
        obtain ⟨A6, c6, hv2, h6, -⟩ := Sl.of_own hown2
        subst hv2
        have hb5 := hb34.out.trans hb
        replace HA := Lib.hid (HA3.out.below hb5)
        replace HD := Lib.hid (HD3.out.below hb5)
        replace HB := Lib.hid (HB3.out.trans (hb5.mono HB3.out.size))
        have hE5 : dgI (setOf (S ++ a)) = fd := by rw [set_shuf HSm.out, EF.out]
        have hl5 : (S ++ a).length = a.length + a.length := by rw [List.length_append, hSl]
        have HAl : Hid (Ls w5 A6 c6 (S ++ a)) := ⟨by rw [hl5, List.flatMap_append]; exact h6, HSo.out⟩
        generalize S ++ a = bb at *
        rw [← hl5]
        have HL5 := Lib.hid hl5
        clear hl5
        have E5 := Lib.hid hE5
        have hDs : w2.heap.size < w5.heap.size := lt_of_heap HD.out.h
        clear h6 hown2 hb hb5 hE5 HA3 HD3 HB3 hb34 HOw HSm HSo HO hSl hgrow2 hsz0
        go_wp2_with fail
        go_loopg [7, 8, 9, 10, 11] 16 (fun gk m_ k_ _ _ _ wr => ∃ k : Nat, k_ = .int .i64 k ∧ k ≤ 16 ∧ gk = 16 - k ∧ m_ = .int .i64 ((sumTo M k : Nat) : Int) ∧ Below w5.heap.size w5 wr)
        case atStart => exact ⟨0, rfl, Nat.zero_le _, rfl, rfl, Below.refl _ _⟩
        case round =>
          obtain ⟨k, rfl, hk, hg, rfl, hbel⟩ := hrel
          have HGk := Lib.hid hg
          replace HA := Lib.hid (HA.out.below hbel); replace HD := Lib.hid (HD.out.below hbel); replace HAl := Lib.hid (HAl.out.below hbel)
          have HB0 := Lib.hid hbel
          have hDs2 := hbel.size
          clear hg hbel
          obtain ⟨wo, rfl⟩ : ∃ wo : World, wo = wr := ⟨_, rfl⟩
          by_cases hlt : k < 16
          · have q2 : decide ((k : Int) < 16) = true := by simp; omega
            have hsm := sumTo_le M k
            have hsm2 : k * M.length ≤ 16 * 20 := Nat.mul_le_mul (by omega) (by omega)
            obtain ⟨X, hX⟩ : ∃ X, Dig.own k M = X := ⟨_, rfl⟩
            have hXl : X.length ≤ M.length := by rw [← hX]; exact List.length_filter_le _ _
            have HSn : Hid (sumTo M (k + 1) = sumTo M k + X.length) := by show _ = _; rw [sumTo_succ, hX]
            have EX : Hid (Dig.pick [(k : Int)] (setOf a) = X) := by show _ = _; rw [EM.out, Dig.pick_one, hX]
            obtain ⟨g, hgx⟩ : ∃ g, dgI (setOf X) = g := ⟨_, rfl⟩
            have Hg : Hid (∀ j, g j = if j = k then fd k else 0) := fun j => by rw [← hgx, ← hX, dg_own M EMM.out j k, EMf.out]
            have Eg := Lib.hid hgx
            clear hX hgx
            generalize sumTo M k = s at *
            go_wp2_with fail
            have hb := (Below.refl wo.heap.size wo).alloc (Nat.le_refl _) (.cells #[.int .i64 (k : Int)] TI)
            have HQ := Lib.hid (Il.lit wo [(k : Int)] #[.int .i64 (k : Int)] rfl 1 rfl (by simp))
            generalize (wo.alloc (.cells #[.int .i64 (k : Int)] TI)) = y1 at *
            replace HA := Lib.hid (HA.out.below hb)
            replace HD := Lib.hid (HD.out.below hb)
            replace HAl := Lib.hid (HAl.out.below hb)
            replace HB0 := Lib.hid (HB0.out.trans (hb.mono HB0.out.size))
            clear hb
            refine (PickE (l := [(k : Int)]) HQ.out HA.out (by omega) X EX.out).mono ?_
            rintro e y2 ⟨A7, c7, rfl, hls, -, hb⟩
            replace HA := Lib.hid (HA.out.below hb)
            replace HD := Lib.hid (HD.out.below hb)
            replace HAl := Lib.hid (HAl.out.below hb)
            replace HQ := Lib.hid (HQ.out.below hb)
            replace HB0 := Lib.hid (HB0.out.trans (hb.mono HB0.out.size))
            clear hb
            have HX := Lib.hid hls
            clear hls
            clear HQ
            go_wp2_with fail
            refine (OfE (L := X) HX.out (by omega) g Eg.out).mono ?_
            rintro e y3 ⟨rfl, hb⟩
            replace HA := Lib.hid (HA.out.below hb)
            replace HD := Lib.hid (HD.out.below hb)
            replace HAl := Lib.hid (HAl.out.below hb)
            replace HX := Lib.hid (HX.out.below hb)
            replace HB0 := Lib.hid (HB0.out.trans (hb.mono HB0.out.size))
            clear hb
            clear HX
            go_wp2_with fail
            have hb := (Below.refl y3.heap.size y3).alloc (Nat.le_refl _) (.cells (dar g) TDg)
            have HE : Hid (Bx (y3.alloc (.cells (dar g) TDg)) y3.heap.size g) := ⟨Bk.new y3 (dar g) TDg⟩
            generalize (y3.alloc (.cells (dar g) TDg)) = y4 at *
            replace HA := Lib.hid (HA.out.below hb)
            replace HD := Lib.hid (HD.out.below hb)
            replace HAl := Lib.hid (HAl.out.below hb)
            replace HB0 := Lib.hid (HB0.out.trans (hb.mono HB0.out.size))
            clear hb
            have HBB : Hid (B2 y4 y4 w2.heap.size y3.heap.size fd g) := ⟨HE.out.h, HD.out.h, Fr.refl _ _⟩
            clear HE q2
            go_wp2_with fail
            go_loopg [11] 16 (fun gk j_ wr => ∃ j : Nat, j_ = .int .i64 j ∧ j ≤ 16 ∧ gk = 16 - j ∧ B2 y4 wr w2.heap.size y3.heap.size fd g)
            case atStart => exact ⟨0, rfl, Nat.zero_le _, rfl, HBB.out⟩
            case round =>
              clear HBB
              obtain ⟨j, rfl, hj, hg, hbb⟩ := hrel
              have HGj := Lib.hid hg; have HBB := Lib.hid hbb
              clear hg hbb
              by_cases hltj : j < 16
              · have q3 : decide ((j : Int) < 16) = true := by simp; omega
                have hgj := Hg.out j
                by_cases hjk : j = k
                · rw [if_pos hjk, ← hjk] at hgj
                  subst hjk
                  go_upto_region 16 with (fail)
                  refine ds16a (by kernel_rfl) _ _ y4 wr w2.heap.size y3.heap.size fd g j hltj hgj HBB.out rfl rfl rfl rfl rfl ?_
                  intro x w9 h4 hst
                  simp only [Eng.setAll, Act.put, List.setIfInBounds_toArray, List.set_cons_succ, List.set_cons_zero]
                  rw [h4]
                  have HSt := Lib.hid hst
                  clear h4 hst
                  go_wp2_with fail
                  go_roundg (16 - (j + 1))
                  case rel => exact ⟨j + 1, by go_num, by omega, rfl, HSt.out⟩
                  case measure => have := HGj.out; omega
                · rw [if_neg hjk] at hgj
                  go_upto_region 16 with (fail)
                  refine ds16b (by kernel_rfl) _ _ y4 wr w2.heap.size y3.heap.size fd g j k hltj hjk hgj HBB.out rfl rfl rfl rfl ?_
                  intro x w9 h4 hst
                  simp only [Eng.setAll, Act.put, List.setIfInBounds_toArray, List.set_cons_succ, List.set_cons_zero]
                  rw [h4]
                  have HSt := Lib.hid hst
                  clear h4 hst
                  go_wp2_with fail
                  go_roundg (16 - (j + 1))
                  case rel => exact ⟨j + 1, by go_num, by omega, rfl, HSt.out⟩
                  case measure => have := HGj.out; omega
              · obtain rfl : j = 16 := by omega
                have q3 : decide (((16 : Nat) : Int) < 16) = false := by decide
                go_wp2_with fail
                go_roundg (16 - (k + 1))
                case rel => exact ⟨k + 1, by go_num, by omega, rfl, by rw [HSn.out]; simp, HB0.out.trans (HBB.out.f.below HB0.out.size (fun _ _ h => h))⟩
                case measure => have := HGk.out; omega
          · obtain rfl : k = 16 := by omega
            have q2 : decide (((16 : Nat) : Int) < 16) = false := by decide
            have hq : ∀ W : World, (binOp .eql TDg (dv fd) (dv fd)).run Try.prog W = .ok (.bool true) W := fun W => by rw [eql_dg, eqD_iff.2 (fun _ _ => rfl)]
            have HQ := Lib.hid hq
            have hD0 : dto fd fd 16 = [] := dto_same (eqD_iff.2 (fun _ _ => rfl))
            have HD0 := Lib.hid hD0
            have HE0 : Hid (∀ j < 16, wo.cell? ⟨w2.heap.size, j, none⟩ = some (.int .i64 (fd j))) := fun j hj => (HD.out.h.cell j).trans (dar_at fd hj)
            clear hq hD0
            rw [sumTo_all]
            go_upto_region 18 with (fail)
            refine ds18 (by kernel_rfl) _ _ wo wo w2.heap.size fd A0 c0 a A6 c6 bb M E5.out EM.out EFM.out HD0.out HQ.out hq_a (by have := HL5.out; omega) (by omega) (by omega) HE0.out ⟨fun q hq => by simp at hq; rcases hq with rfl | rfl; exact HA.out; exact HAl.out, by simp, Below.refl _ _⟩ rfl rfl rfl rfl rfl ?_
            intro x w9 h4 hst
            simp only [Eng.setAll, Act.put, List.setIfInBounds_toArray, List.set_cons_succ, List.set_cons_zero]
            rw [h4]
            have HSt := Lib.hid hst
            clear h4 hst
            go_wp2_with fail
            go_ret
            exact ⟨rfl, (HB.out.trans (HB0.out.mono HB.out.size)).trans (HSt.out.mono (Nat.le_trans HB.out.size hDs2))⟩
      · have q1 : decide ((o.length : Int) > 40) = true := by simp; omega
        go_wp2_with fail
        refine (awake w1).mono ?_
        rintro e w2 ⟨rfl, hb⟩
        replace HA := Lib.hid (HA.out.below hb)
        replace HO := Lib.hid (HO.out.below hb)
        replace HB := Lib.hid (HB.out.trans (hb.mono HB.out.size))
        clear hb
        go_wp2_with fail
        go_ret
        exact ⟨rfl, HB.out⟩
end Law48
end Go.Proofs.Ytmcghchhegfilaa
