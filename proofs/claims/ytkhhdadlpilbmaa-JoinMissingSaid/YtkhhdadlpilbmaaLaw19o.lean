/- Layer 19's statements: JoinOrder: for every input the answer is true. -/
import Derived.Test.YtkhhdadlpilbmaaLaw19
namespace Go.Proofs.Ytkhhdadlpilbmaa
open Go.RowKit
namespace Law19
open KeyP PackP SetP SetW SetF Code_ Rank
attribute [local go_sem] Eng.ev Eng.getO_cons Eng.getO_nil
theorem few_len {L : List Sn} {n : Nat} (h : fewB L n = true) : L.length ≤ n := by unfold fewB at h; simp at h; exact h.2
set_option maxRecDepth 100000 in
set_option maxHeartbeats 2000000 in
theorem order (A0 A1 A2 : Option Addr) (c0 c1 c2 : Nat) (a b c : List Sn) (w : World) (h0 : Ls w A0 c0 a) (h1 : Ls w A1 c1 b) (h2 : Ls w A2 c2 c) :
    Calls Try.prog 10 #[.slice A0 a.length c0, .slice A1 b.length c1, .slice A2 c.length c2] w fun e w' => e = .returned (.bool true) ∧ Below w.heap.size w w' := by
  have HA := Lib.hid h0; have HC := Lib.hid h1; have HD := Lib.hid h2
  have HB := Lib.hid (Below.refl w.heap.size w)
  have l1 := setOf_len (a ++ b); have l2 := setOf_len (b ++ c)
  rw [List.length_append] at l1 l2
  clear h0 h1 h2
  go_enter Try.func10, Try.ntmps10
  go_wp2_with fail
  refine (SetF.Few _ _ 20 a w HA.out.s).mono ?_
  rintro e w1 ⟨rfl, hf⟩
  have hb := hf.below (Nat.le_refl _) (fun _ _ h => h)
  clear hf
  replace HA := Lib.hid (HA.out.below hb)
  replace HC := Lib.hid (HC.out.below hb)
  replace HD := Lib.hid (HD.out.below hb)
  replace HB := Lib.hid (HB.out.trans (hb.mono HB.out.size))
  clear hb
  cases hq : fewB a 20 with
  | false =>
      go_wp2_with fail
      refine (awake w1).mono ?_
      rintro e w2 ⟨rfl, hb⟩
      replace HA := Lib.hid (HA.out.below hb)
      replace HC := Lib.hid (HC.out.below hb)
      replace HD := Lib.hid (HD.out.below hb)
      replace HB := Lib.hid (HB.out.trans (hb.mono HB.out.size))
      clear hb
      go_wp2_with fail
      go_ret
      exact ⟨rfl, HB.out⟩
  | true =>
      have hq_a := few_len hq
      go_wp2_with fail
      refine (SetF.Few _ _ 20 b w1 HC.out.s).mono ?_
      rintro e w2 ⟨rfl, hf⟩
      have hb := hf.below (Nat.le_refl _) (fun _ _ h => h)
      clear hf
      replace HA := Lib.hid (HA.out.below hb)
      replace HC := Lib.hid (HC.out.below hb)
      replace HD := Lib.hid (HD.out.below hb)
      replace HB := Lib.hid (HB.out.trans (hb.mono HB.out.size))
      clear hb
      cases hq : fewB b 20 with
      | false =>
          go_wp2_with fail
          refine (awake w2).mono ?_
          rintro e w3 ⟨rfl, hb⟩
          replace HA := Lib.hid (HA.out.below hb)
          replace HC := Lib.hid (HC.out.below hb)
          replace HD := Lib.hid (HD.out.below hb)
          replace HB := Lib.hid (HB.out.trans (hb.mono HB.out.size))
          clear hb
          go_wp2_with fail
          go_ret
          exact ⟨rfl, HB.out⟩
      | true =>
          have hq_b := few_len hq
          go_wp2_with fail
          refine (SetF.Few _ _ 20 c w2 HD.out.s).mono ?_
          rintro e w3 ⟨rfl, hf⟩
          have hb := hf.below (Nat.le_refl _) (fun _ _ h => h)
          clear hf
          replace HA := Lib.hid (HA.out.below hb)
          replace HC := Lib.hid (HC.out.below hb)
          replace HD := Lib.hid (HD.out.below hb)
          replace HB := Lib.hid (HB.out.trans (hb.mono HB.out.size))
          clear hb
          cases hq : fewB c 20 with
          | false =>
              go_wp2_with fail
              refine (awake w3).mono ?_
              rintro e w4 ⟨rfl, hb⟩
              replace HA := Lib.hid (HA.out.below hb)
              replace HC := Lib.hid (HC.out.below hb)
              replace HD := Lib.hid (HD.out.below hb)
              replace HB := Lib.hid (HB.out.trans (hb.mono HB.out.size))
              clear hb
              go_wp2_with fail
              go_ret
              exact ⟨rfl, HB.out⟩
          | true =>
              have hq_c := few_len hq
              obtain ⟨X, hX⟩ : ∃ X, Hid (setOf (a ++ b) = X) := ⟨_, Lib.hid rfl⟩
              obtain ⟨Y, hY⟩ : ∃ Y, Hid (setOf (b ++ c) = Y) := ⟨_, Lib.hid rfl⟩
              rw [hX.out] at l1
              rw [hY.out] at l2
              go_wp2_with fail
              refine (JoinE HA.out HC.out (by omega) X hX.out).mono ?_
              rintro e w4 ⟨A3, c3, rfl, hls, -, hb⟩
              replace HA := Lib.hid (HA.out.below hb)
              replace HC := Lib.hid (HC.out.below hb)
              replace HD := Lib.hid (HD.out.below hb)
              replace HB := Lib.hid (HB.out.trans (hb.mono HB.out.size))
              clear hb
              have HX := Lib.hid hls
              clear hls
              go_wp2_with fail
              refine (JoinE HC.out HA.out (by omega) X ((setOf_comm b a).trans hX.out)).mono ?_
              rintro e w5 ⟨A4, c4, rfl, hls, -, hb⟩
              replace HA := Lib.hid (HA.out.below hb)
              replace HC := Lib.hid (HC.out.below hb)
              replace HD := Lib.hid (HD.out.below hb)
              replace HX := Lib.hid (HX.out.below hb)
              replace HB := Lib.hid (HB.out.trans (hb.mono HB.out.size))
              clear hb
              have H1 := Lib.hid hls
              clear hls
              go_wp2_with fail
              refine (SameT HX.out H1.out rfl).mono ?_
              rintro e w6 ⟨rfl, hf⟩
              have hb := hf.below (Nat.le_refl _) (fun _ _ h => h)
              clear hf
              replace HA := Lib.hid (HA.out.below hb)
              replace HC := Lib.hid (HC.out.below hb)
              replace HD := Lib.hid (HD.out.below hb)
              replace HX := Lib.hid (HX.out.below hb)
              replace H1 := Lib.hid (H1.out.below hb)
              replace HB := Lib.hid (HB.out.trans (hb.mono HB.out.size))
              clear hb
              clear H1
              go_wp2_with fail
              refine (JoinE HX.out HD.out (by omega) _ rfl).mono ?_
              rintro e w7 ⟨A5, c5, rfl, hls, -, hb⟩
              replace HA := Lib.hid (HA.out.below hb)
              replace HC := Lib.hid (HC.out.below hb)
              replace HD := Lib.hid (HD.out.below hb)
              replace HX := Lib.hid (HX.out.below hb)
              replace HB := Lib.hid (HB.out.trans (hb.mono HB.out.size))
              clear hb
              have H1 := Lib.hid hls
              clear hls
              go_wp2_with fail
              refine (JoinE HC.out HD.out (by omega) Y hY.out).mono ?_
              rintro e w8 ⟨A6, c6, rfl, hls, -, hb⟩
              replace HA := Lib.hid (HA.out.below hb)
              replace HC := Lib.hid (HC.out.below hb)
              replace HD := Lib.hid (HD.out.below hb)
              replace HX := Lib.hid (HX.out.below hb)
              replace H1 := Lib.hid (H1.out.below hb)
              replace HB := Lib.hid (HB.out.trans (hb.mono HB.out.size))
              clear hb
              have H2 := Lib.hid hls
              clear hls
              go_wp2_with fail
              refine (JoinE HA.out H2.out (by omega) _ (by rw [← hX.out, ← hY.out]; exact (join_tr a b c).symm : _ = setOf (X ++ c))).mono ?_
              rintro e w9 ⟨A7, c7, rfl, hls, -, hb⟩
              replace HA := Lib.hid (HA.out.below hb)
              replace HC := Lib.hid (HC.out.below hb)
              replace HD := Lib.hid (HD.out.below hb)
              replace HX := Lib.hid (HX.out.below hb)
              replace H1 := Lib.hid (H1.out.below hb)
              replace H2 := Lib.hid (H2.out.below hb)
              replace HB := Lib.hid (HB.out.trans (hb.mono HB.out.size))
              clear hb
              have H3 := Lib.hid hls
              clear hls
              go_wp2_with fail
              refine (SameT H1.out H3.out rfl).mono ?_
              rintro e w10 ⟨rfl, hf⟩
              have hb := hf.below (Nat.le_refl _) (fun _ _ h => h)
              clear hf
              replace HA := Lib.hid (HA.out.below hb)
              replace HC := Lib.hid (HC.out.below hb)
              replace HD := Lib.hid (HD.out.below hb)
              replace HX := Lib.hid (HX.out.below hb)
              replace H1 := Lib.hid (H1.out.below hb)
              replace H2 := Lib.hid (H2.out.below hb)
              replace H3 := Lib.hid (H3.out.below hb)
              replace HB := Lib.hid (HB.out.trans (hb.mono HB.out.size))
              clear hb
              clear H1 H2 H3
              go_wp2_with fail
              refine (JoinE HX.out HX.out (by omega) X (by rw [← hX.out]; exact join_same a b)).mono ?_
              rintro e w11 ⟨A8, c8, rfl, hls, -, hb⟩
              replace HA := Lib.hid (HA.out.below hb)
              replace HC := Lib.hid (HC.out.below hb)
              replace HD := Lib.hid (HD.out.below hb)
              replace HX := Lib.hid (HX.out.below hb)
              replace HB := Lib.hid (HB.out.trans (hb.mono HB.out.size))
              clear hb
              have H1 := Lib.hid hls
              clear hls
              go_wp2_with fail
              refine (SameT H1.out HX.out rfl).mono ?_
              rintro e w12 ⟨rfl, hf⟩
              have hb := hf.below (Nat.le_refl _) (fun _ _ h => h)
              clear hf
              replace HA := Lib.hid (HA.out.below hb)
              replace HC := Lib.hid (HC.out.below hb)
              replace HD := Lib.hid (HD.out.below hb)
              replace HX := Lib.hid (HX.out.below hb)
              replace H1 := Lib.hid (H1.out.below hb)
              replace HB := Lib.hid (HB.out.trans (hb.mono HB.out.size))
              clear hb
              clear H1
              go_wp2_with fail
              refine (JoinE HX.out HA.out (by omega) X (by rw [← hX.out]; exact join_again a b)).mono ?_
              rintro e w13 ⟨A9, c9, rfl, hls, -, hb⟩
              replace HA := Lib.hid (HA.out.below hb)
              replace HC := Lib.hid (HC.out.below hb)
              replace HD := Lib.hid (HD.out.below hb)
              replace HX := Lib.hid (HX.out.below hb)
              replace HB := Lib.hid (HB.out.trans (hb.mono HB.out.size))
              clear hb
              have H1 := Lib.hid hls
              clear hls
              go_wp2_with fail
              refine (SameT H1.out HX.out rfl).mono ?_
              rintro e w14 ⟨rfl, hf⟩
              have hb := hf.below (Nat.le_refl _) (fun _ _ h => h)
              clear hf
              replace HA := Lib.hid (HA.out.below hb)
              replace HC := Lib.hid (HC.out.below hb)
              replace HD := Lib.hid (HD.out.below hb)
              replace HX := Lib.hid (HX.out.below hb)
              replace H1 := Lib.hid (H1.out.below hb)
              replace HB := Lib.hid (HB.out.trans (hb.mono HB.out.size))
              clear hb
              clear H1
              go_wp2_with fail
              have hb := (Below.refl w14.heap.size w14).alloc (Nat.le_refl _) (.cells #[.slice A0 a.length c0, .slice A1 b.length c1, .slice A2 c.length c2] TSs)
              have H3 : Hid (L3 (w14.alloc (.cells #[.slice A0 a.length c0, .slice A1 b.length c1, .slice A2 c.length c2] TSs)) w14.heap.size ⟨A0, c0, a⟩ ⟨A1, c1, b⟩ ⟨A2, c2, c⟩) := ⟨three_lv w14 ⟨A0, c0, a⟩ ⟨A1, c1, b⟩ ⟨A2, c2, c⟩⟩
              generalize (w14.alloc (.cells #[.slice A0 a.length c0, .slice A1 b.length c1, .slice A2 c.length c2] TSs)) = w15 at *
              replace HA := Lib.hid (HA.out.below hb)
              replace HC := Lib.hid (HC.out.below hb)
              replace HD := Lib.hid (HD.out.below hb)
              replace HX := Lib.hid (HX.out.below hb)
              replace HB := Lib.hid (HB.out.trans (hb.mono HB.out.size))
              clear hb
              refine (AllE H3.out.s (L3.rd HA.out HC.out HD.out) (by simp [cat]; omega) rfl _ rfl).mono ?_
              rintro e w16 ⟨A10, c10, rfl, hls, -, hb⟩
              replace HA := Lib.hid (HA.out.below hb)
              replace HC := Lib.hid (HC.out.below hb)
              replace HD := Lib.hid (HD.out.below hb)
              replace HX := Lib.hid (HX.out.below hb)
              replace H3 := Lib.hid (H3.out.below hb)
              replace HB := Lib.hid (HB.out.trans (hb.mono HB.out.size))
              clear hb
              have H1 := Lib.hid hls
              clear hls
              go_wp2_with fail
              refine (JoinE HX.out HD.out (by omega) _ rfl).mono ?_
              rintro e w17 ⟨A11, c11, rfl, hls, -, hb⟩
              replace HA := Lib.hid (HA.out.below hb)
              replace HC := Lib.hid (HC.out.below hb)
              replace HD := Lib.hid (HD.out.below hb)
              replace HX := Lib.hid (HX.out.below hb)
              replace H3 := Lib.hid (H3.out.below hb)
              replace H1 := Lib.hid (H1.out.below hb)
              replace HB := Lib.hid (HB.out.trans (hb.mono HB.out.size))
              clear hb
              have H2 := Lib.hid hls
              clear hls
              go_wp2_with fail
              refine (SameT H1.out H2.out (by rw [← hX.out, setOf_app_l]; simp [cat])).mono ?_
              rintro e w18 ⟨rfl, hf⟩
              have hb := hf.below (Nat.le_refl _) (fun _ _ h => h)
              clear hf
              replace HA := Lib.hid (HA.out.below hb)
              replace HC := Lib.hid (HC.out.below hb)
              replace HD := Lib.hid (HD.out.below hb)
              replace HX := Lib.hid (HX.out.below hb)
              replace H3 := Lib.hid (H3.out.below hb)
              replace H1 := Lib.hid (H1.out.below hb)
              replace H2 := Lib.hid (H2.out.below hb)
              replace HB := Lib.hid (HB.out.trans (hb.mono HB.out.size))
              clear hb
              go_wp2_with fail
              refine (awake w18).mono ?_
              rintro e w19 ⟨rfl, hb⟩
              replace HA := Lib.hid (HA.out.below hb)
              replace HC := Lib.hid (HC.out.below hb)
              replace HD := Lib.hid (HD.out.below hb)
              replace HX := Lib.hid (HX.out.below hb)
              replace H3 := Lib.hid (H3.out.below hb)
              replace H1 := Lib.hid (H1.out.below hb)
              replace H2 := Lib.hid (H2.out.below hb)
              replace HB := Lib.hid (HB.out.trans (hb.mono HB.out.size))
              clear hb
              go_wp2_with fail
              go_ret
              exact ⟨rfl, HB.out⟩
end Law19
end Go.Proofs.Ytkhhdadlpilbmaa
