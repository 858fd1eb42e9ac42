/- Layer 48's statements: DigestMeets: for every input the answer is true. -/
import Derived.Test.YtmcghchhegfilaaGreatLaw48r
namespace Go.Proofs.YtmcghchhegfilaaGreat
open Go.RowKit
namespace Law48
open KeyP PackP SetP SetW SetF Code_ Rank DigW
attribute [local go_sem] Eng.ev Eng.getO_cons Eng.getO_nil
set_option maxRecDepth 100000 in
set_option maxHeartbeats 1000000 in
theorem RefMeet {A A2 : Option Addr} {c c2 : Nat} {a b : List Sn} {w : World} (h1 : Ls w A c a) (h2 : Ls w A2 c2 b) (hl1 : a.length ≤ 1000) (hl2 : b.length ≤ 1000) (D : List Int) (X Y J K : List Sn)
    (hD : dto (dgI (setOf a)) (dgI (setOf b)) 16 = D) (hX : Dig.pick D (setOf a) = X) (hY : Dig.pick D (setOf b) = Y) (hJ : setOf (a ++ Y) = J) (hK : setOf (b ++ X) = K) (n : Nat) (hn : X.length + Y.length = n) :
    Calls Tryz.prog 7 #[.slice A a.length c, .slice A2 b.length c2] w (MtPost J K n w) := by
  have HA := Lib.hid h1; have HC := Lib.hid h2
  have HB := Lib.hid (Below.refl w.heap.size w)
  have lx := pick_len hX; have ly := pick_len hY
  obtain ⟨f, hf⟩ : ∃ f, dgI (setOf a) = f := ⟨_, rfl⟩
  obtain ⟨g, hg⟩ : ∃ g, dgI (setOf b) = g := ⟨_, rfl⟩
  rw [hf, hg] at hD
  have E1 := Lib.hid hf; have E2 := Lib.hid hg; have ED := Lib.hid hD; have EX := Lib.hid hX; have EY := Lib.hid hY; have EJ := Lib.hid hJ; have EK := Lib.hid hK
  have En : Hid ((X.length : Int) + (Y.length : Int) = (n : Int)) := by show _ = _; omega
  clear h1 h2 hf hg hD hX hY hJ hK hn
  go_enter Tryz.func7, Tryz.ntmps7
  go_wp2_with fail
  refine (RefOfE HA.out (by omega) f E1.out).mono ?_
  rintro e w1 ⟨rfl, hb⟩
  replace HA := Lib.hid (HA.out.below hb)
  replace HC := Lib.hid (HC.out.below hb)
  replace HB := Lib.hid (HB.out.trans (hb.mono HB.out.size))
  clear hb
  go_wp2_with fail
  refine (RefOfE HC.out (by omega) g E2.out).mono ?_
  rintro e w2 ⟨rfl, hb⟩
  replace HA := Lib.hid (HA.out.below hb)
  replace HC := Lib.hid (HC.out.below hb)
  replace HB := Lib.hid (HB.out.trans (hb.mono HB.out.size))
  clear hb
  go_wp2_with fail
  refine (RefDifferE f g D ED.out _).mono ?_
  rintro e w3 ⟨A3, c3, rfl, hls, -, hb⟩
  replace HA := Lib.hid (HA.out.below hb)
  replace HC := Lib.hid (HC.out.below hb)
  replace HB := Lib.hid (HB.out.trans (hb.mono HB.out.size))
  clear hb
  have HD := Lib.hid hls
  clear hls
  go_wp2_with fail
  refine (RefPickE HD.out HA.out (by omega) X EX.out).mono ?_
  rintro e w4 ⟨A4, c4, rfl, hls, -, hb⟩
  replace HA := Lib.hid (HA.out.below hb)
  replace HC := Lib.hid (HC.out.below hb)
  replace HD := Lib.hid (HD.out.below hb)
  replace HB := Lib.hid (HB.out.trans (hb.mono HB.out.size))
  clear hb
  have HX := Lib.hid hls
  clear hls
  go_wp2_with fail
  refine (RefPickE HD.out HC.out (by omega) Y EY.out).mono ?_
  rintro e w5 ⟨A5, c5, rfl, hls, -, hb⟩
  replace HA := Lib.hid (HA.out.below hb)
  replace HC := Lib.hid (HC.out.below hb)
  replace HD := Lib.hid (HD.out.below hb)
  replace HX := Lib.hid (HX.out.below hb)
  replace HB := Lib.hid (HB.out.trans (hb.mono HB.out.size))
  clear hb
  have HY := Lib.hid hls
  clear hls
  go_wp2_with fail
  have hb := (Below.refl w5.heap.size w5).alloc (Nat.le_refl _) (.cells #[.slice A a.length c, .slice A5 Y.length c5] TSs)
  have H3 : Hid (L2 (w5.alloc (.cells #[.slice A a.length c, .slice A5 Y.length c5] TSs)) w5.heap.size ⟨A, c, a⟩ ⟨A5, c5, Y⟩) := ⟨Join.two_lv w5 ⟨A, c, a⟩ ⟨A5, c5, Y⟩⟩
  generalize (w5.alloc (.cells #[.slice A a.length c, .slice A5 Y.length c5] TSs)) = w6 at *
  replace HA := Lib.hid (HA.out.below hb)
  replace HC := Lib.hid (HC.out.below hb)
  replace HD := Lib.hid (HD.out.below hb)
  replace HX := Lib.hid (HX.out.below hb)
  replace HY := Lib.hid (HY.out.below hb)
  replace HB := Lib.hid (HB.out.trans (hb.mono HB.out.size))
  clear hb
  refine (RefAllE H3.out.s (L2.rd HA.out HY.out) (by simp [cat]; omega) rfl J (by simpa [cat] using EJ.out)).mono ?_
  rintro e w7 ⟨A6, c6, rfl, hls, -, hb⟩
  replace HA := Lib.hid (HA.out.below hb)
  replace HC := Lib.hid (HC.out.below hb)
  replace HD := Lib.hid (HD.out.below hb)
  replace HX := Lib.hid (HX.out.below hb)
  replace HY := Lib.hid (HY.out.below hb)
  replace H3 := Lib.hid (H3.out.below hb)
  replace HB := Lib.hid (HB.out.trans (hb.mono HB.out.size))
  clear hb
  have HJ := Lib.hid hls
  clear hls
  clear H3
  go_wp2_with fail
  have hb := (Below.refl w7.heap.size w7).alloc (Nat.le_refl _) (.cells #[.slice A2 b.length c2, .slice A4 X.length c4] TSs)
  have H3 : Hid (L2 (w7.alloc (.cells #[.slice A2 b.length c2, .slice A4 X.length c4] TSs)) w7.heap.size ⟨A2, c2, b⟩ ⟨A4, c4, X⟩) := ⟨Join.two_lv w7 ⟨A2, c2, b⟩ ⟨A4, c4, X⟩⟩
  generalize (w7.alloc (.cells #[.slice A2 b.length c2, .slice A4 X.length c4] TSs)) = w8 at *
  replace HA := Lib.hid (HA.out.below hb)
  replace HC := Lib.hid (HC.out.below hb)
  replace HD := Lib.hid (HD.out.below hb)
  replace HX := Lib.hid (HX.out.below hb)
  replace HY := Lib.hid (HY.out.below hb)
  replace HJ := Lib.hid (HJ.out.below hb)
  replace HB := Lib.hid (HB.out.trans (hb.mono HB.out.size))
  clear hb
  refine (RefAllE H3.out.s (L2.rd HC.out HX.out) (by simp [cat]; omega) rfl K (by simpa [cat] using EK.out)).mono ?_
  rintro e w9 ⟨A7, c7, rfl, hls, -, hb⟩
  replace HA := Lib.hid (HA.out.below hb)
  replace HC := Lib.hid (HC.out.below hb)
  replace HD := Lib.hid (HD.out.below hb)
  replace HX := Lib.hid (HX.out.below hb)
  replace HY := Lib.hid (HY.out.below hb)
  replace HJ := Lib.hid (HJ.out.below hb)
  replace H3 := Lib.hid (H3.out.below hb)
  replace HB := Lib.hid (HB.out.trans (hb.mono HB.out.size))
  clear hb
  have HK := Lib.hid hls
  clear hls
  clear H3
  have qn := En.out
  go_wp2_with fail
  exact bodyPost_ret (results_tmp3 rfl _ _ _) rfl ⟨A6, c6, A7, c7, rfl, HJ.out, HK.out, HB.out⟩
set_option maxRecDepth 100000 in
set_option maxHeartbeats 4000000 in
theorem meets (A0 A1 : Option Addr) (c0 c1 : Nat) (a b : List Sn) (w : World) (h0 : Ls w A0 c0 a) (h1 : Ls w A1 c1 b) :
    Calls Tryz.prog 3 #[.slice A0 a.length c0, .slice A1 b.length c1] w fun e w' => e = .returned (.bool true) ∧ Below w.heap.size w w' := by
  have HA := Lib.hid h0; have HC := Lib.hid h1
  have HB := Lib.hid (Below.refl w.heap.size w)
  clear h0 h1
  go_enter Tryz.func3, Tryz.ntmps3
  go_wp2_with fail
  refine (SetF.Few _ _ 20 a w HA.out.s).mono ?_
  rintro e w1 ⟨rfl, hf⟩
  have hb := hf.below (Nat.le_refl _) (fun _ _ h => h)
  clear hf
  replace HA := Lib.hid (HA.out.below hb)
  replace HC := Lib.hid (HC.out.below hb)
  replace HB := Lib.hid (HB.out.trans (hb.mono HB.out.size))
  clear hb
  cases hq : fewB a 20 with
  | false =>
      go_wp2_with fail
      refine (awake w1).mono ?_
      rintro e w2 ⟨rfl, hb⟩
      replace HA := Lib.hid (HA.out.below hb)
      replace HC := Lib.hid (HC.out.below hb)
      replace HB := Lib.hid (HB.out.trans (hb.mono HB.out.size))
      clear hb
      go_wp2_with fail
      go_ret
      exact ⟨rfl, HB.out⟩
  | true =>
      have hq_a := few_len hq
      clear hq
      go_wp2_with fail
      refine (SetF.Few _ _ 20 b w1 HC.out.s).mono ?_
      rintro e w2 ⟨rfl, hf⟩
      have hb := hf.below (Nat.le_refl _) (fun _ _ h => h)
      clear hf
      replace HA := Lib.hid (HA.out.below hb)
      replace HC := Lib.hid (HC.out.below hb)
      replace HB := Lib.hid (HB.out.trans (hb.mono HB.out.size))
      clear hb
      cases hq : fewB b 20 with
      | false =>
          go_wp2_with fail
          refine (awake w2).mono ?_
          rintro e w3 ⟨rfl, hb⟩
          replace HA := Lib.hid (HA.out.below hb)
          replace HC := Lib.hid (HC.out.below hb)
          replace HB := Lib.hid (HB.out.trans (hb.mono HB.out.size))
          clear hb
          go_wp2_with fail
          go_ret
          exact ⟨rfl, HB.out⟩
      | true =>
          have hq_b := few_len hq
          clear hq
          obtain ⟨D, hD⟩ : ∃ D, dto (dgI (setOf a)) (dgI (setOf b)) 16 = D := ⟨_, rfl⟩
          obtain ⟨X, hX⟩ : ∃ X, Dig.pick D (setOf a) = X := ⟨_, rfl⟩
          obtain ⟨Y, hY⟩ : ∃ Y, Dig.pick D (setOf b) = Y := ⟨_, rfl⟩
          obtain ⟨J, hJ⟩ : ∃ J, setOf (a ++ Y) = J := ⟨_, rfl⟩
          obtain ⟨K, hK⟩ : ∃ K, setOf (b ++ X) = K := ⟨_, rfl⟩
          obtain ⟨n, hn⟩ : ∃ n, X.length + Y.length = n := ⟨_, rfl⟩
          have ED1 := Lib.hid hD; have EX := Lib.hid hX; have EY := Lib.hid hY; have EJ := Lib.hid hJ; have EK := Lib.hid hK; have En := Lib.hid hn
          clear hD hX hY hJ hK hn
          go_wp2_with fail
          refine (Meet HA.out HC.out (by omega) (by omega) D X Y J K ED1.out EX.out EY.out EJ.out EK.out n En.out).mono ?_
          rintro e w3 ⟨A3, c3, A4, c4, rfl, hx, hy, hb⟩
          replace HA := Lib.hid (HA.out.below hb)
          replace HC := Lib.hid (HC.out.below hb)
          replace HB := Lib.hid (HB.out.trans (hb.mono HB.out.size))
          clear hb
          have HJ := Lib.hid hx; have HK := Lib.hid hy
          clear hx hy
          go_wp2_with fail
          refine (RefMeet HA.out HC.out (by omega) (by omega) D X Y J K ED1.out EX.out EY.out EJ.out EK.out n En.out).mono ?_
          rintro e w4 ⟨A5, c5, A6, c6, rfl, hx, hy, hb⟩
          replace HA := Lib.hid (HA.out.below hb)
          replace HC := Lib.hid (HC.out.below hb)
          replace HJ := Lib.hid (HJ.out.below hb)
          replace HK := Lib.hid (HK.out.below hb)
          replace HB := Lib.hid (HB.out.trans (hb.mono HB.out.size))
          clear hb
          have HP := Lib.hid hx; have HQ := Lib.hid hy
          clear hx hy
          go_wp2_with fail
          refine (SameT HJ.out HP.out rfl).mono ?_
          rintro e w5 ⟨rfl, hf⟩
          have hb := hf.below (Nat.le_refl _) (fun _ _ h => h)
          clear hf
          replace HA := Lib.hid (HA.out.below hb)
          replace HC := Lib.hid (HC.out.below hb)
          replace HJ := Lib.hid (HJ.out.below hb)
          replace HK := Lib.hid (HK.out.below hb)
          replace HP := Lib.hid (HP.out.below hb)
          replace HQ := Lib.hid (HQ.out.below hb)
          replace HB := Lib.hid (HB.out.trans (hb.mono HB.out.size))
          clear hb
          go_wp2_with fail
          refine (SameT HK.out HQ.out rfl).mono ?_
          rintro e w6 ⟨rfl, hf⟩
          have hb := hf.below (Nat.le_refl _) (fun _ _ h => h)
          clear hf
          replace HA := Lib.hid (HA.out.below hb)
          replace HC := Lib.hid (HC.out.below hb)
          replace HJ := Lib.hid (HJ.out.below hb)
          replace HK := Lib.hid (HK.out.below hb)
          replace HP := Lib.hid (HP.out.below hb)
          replace HQ := Lib.hid (HQ.out.below hb)
          replace HB := Lib.hid (HB.out.trans (hb.mono HB.out.size))
          clear hb
          go_wp2_with fail
          refine (awake w6).mono ?_
          rintro e w7 ⟨rfl, hb⟩
          replace HA := Lib.hid (HA.out.below hb)
          replace HC := Lib.hid (HC.out.below hb)
          replace HJ := Lib.hid (HJ.out.below hb)
          replace HK := Lib.hid (HK.out.below hb)
          replace HP := Lib.hid (HP.out.below hb)
          replace HQ := Lib.hid (HQ.out.below hb)
          replace HB := Lib.hid (HB.out.trans (hb.mono HB.out.size))
          clear hb
          go_wp2_with fail
          go_ret
          exact ⟨rfl, HB.out⟩
end Law48
end Go.Proofs.YtmcghchhegfilaaGreat
