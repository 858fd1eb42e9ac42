/- Layer 48's statements: DigestAfter: for every input the answer is true. -/
import Derived.Test.YtmcghchhegfilaaLaw48b
namespace Go.Proofs.Ytmcghchhegfilaa
open Go.RowKit
namespace Law48
open KeyP PackP SetP SetW SetF Code_ Rank DigW
attribute [local go_sem] Eng.ev Eng.getO_cons Eng.getO_nil
theorem n_or {a b X Y : List Sn} {D : List Int} (hD : dto (dgI (setOf a)) (dgI (setOf b)) 16 = D) (hX : Dig.pick D (setOf a) = X) (hY : Dig.pick D (setOf b) = Y) (h : ¬ 0 < X.length + Y.length) : D = [] := by
  subst hX; subst hY
  rw [dto_dgI] at hD
  have h1 : Dig.pick D (setOf a) = [] := List.eq_nil_of_length_eq_zero (by omega)
  have h2 : Dig.pick D (setOf b) = [] := List.eq_nil_of_length_eq_zero (by omega)
  rw [← hD]
  cases hd : Dig.differ (Dig.dig (setOf a)) (Dig.dig (setOf b)) with
  | nil => rfl
  | cons k l =>
    exfalso
    have hk : k ∈ Dig.differ (Dig.dig (setOf a)) (Dig.dig (setOf b)) := by rw [hd]; simp
    have hkD : (k : Int) ∈ D := by rw [← hD]; exact Dig.mem_ofN.2 hk
    have hne := (Dig.differ_mem.1 hk).2
    have ho : ∀ L : List Sn, Dig.pick D L = [] → Dig.own k L = [] := fun L hL => by
      unfold Dig.own
      rw [List.filter_eq_nil_iff]
      intro x hx hp
      rw [decide_eq_true_eq] at hp
      have : x ∈ Dig.pick D L := Dig.pick_mem.2 ⟨hx, by rw [hp]; exact hkD⟩
      rw [hL] at this; simp at this
    apply hne
    unfold Dig.dig
    rw [ho _ h1, ho _ h2]
set_option maxRecDepth 100000 in
set_option maxHeartbeats 4000000 in
theorem after (A0 A1 : Option Addr) (c0 c1 : Nat) (a b : List Sn) (w : World) (h0 : Ls w A0 c0 a) (h1 : Ls w A1 c1 b) :
    Calls Try.prog 5 #[.slice A0 a.length c0, .slice A1 b.length c1] w fun e w' => e = .returned (.bool true) ∧ Below w.heap.size w w' := by
  have HA := Lib.hid h0; have HC := Lib.hid h1
  have HB := Lib.hid (Below.refl w.heap.size w)
  clear h0 h1
  go_enter Try.func5, Try.ntmps5
  go_wp2_with fail
  refine (SetF.Few _ _ 20 a w HA.out.s).mono ?_
  rintro e w1 ⟨rfl, hf⟩
  have hb := hf.below (Nat.le_refl _) (fun _ _ h => h)
  clear hf
  replace HA := Lib.hid (HA.out.below hb)
  replace HC := Lib.hid (HC.out.below hb)
  replace HB := Lib.hid (HB.out.trans (hb.mono HB.out.size))
  clear hb
  cases hq : fewB a 20 with
  | false =>
      go_wp2_with fail
      refine (awake w1).mono ?_
      rintro e w2 ⟨rfl, hb⟩
      replace HA := Lib.hid (HA.out.below hb)
      replace HC := Lib.hid (HC.out.below hb)
      replace HB := Lib.hid (HB.out.trans (hb.mono HB.out.size))
      clear hb
      go_wp2_with fail
      go_ret
      exact ⟨rfl, HB.out⟩
  | true =>
      have hq_a := few_len hq
      clear hq
      go_wp2_with fail
      refine (SetF.Few _ _ 20 b w1 HC.out.s).mono ?_
      rintro e w2 ⟨rfl, hf⟩
      have hb := hf.below (Nat.le_refl _) (fun _ _ h => h)
      clear hf
      replace HA := Lib.hid (HA.out.below hb)
      replace HC := Lib.hid (HC.out.below hb)
      replace HB := Lib.hid (HB.out.trans (hb.mono HB.out.size))
      clear hb
      cases hq : fewB b 20 with
      | false =>
          go_wp2_with fail
          refine (awake w2).mono ?_
          rintro e w3 ⟨rfl, hb⟩
          replace HA := Lib.hid (HA.out.below hb)
          replace HC := Lib.hid (HC.out.below hb)
          replace HB := Lib.hid (HB.out.trans (hb.mono HB.out.size))
          clear hb
          go_wp2_with fail
          go_ret
          exact ⟨rfl, HB.out⟩
      | true =>
          have hq_b := few_len hq
          clear hq
          obtain ⟨D, hD⟩ : ∃ D, dto (dgI (setOf a)) (dgI (setOf b)) 16 = D := ⟨_, rfl⟩
          obtain ⟨X, hX⟩ : ∃ X, Dig.pick D (setOf a) = X := ⟨_, rfl⟩
          obtain ⟨Y, hY⟩ : ∃ Y, Dig.pick D (setOf b) = Y := ⟨_, rfl⟩
          obtain ⟨J, hJ⟩ : ∃ J, setOf (a ++ Y) = J := ⟨_, rfl⟩
          obtain ⟨K, hK⟩ : ∃ K, setOf (b ++ X) = K := ⟨_, rfl⟩
          obtain ⟨n, hn⟩ : ∃ n, X.length + Y.length = n := ⟨_, rfl⟩
          have M := mt hD hX hY hJ hK
          have lx := pick_len hX; have ly := pick_len hY
          have lj := setOf_len (a ++ Y); have lk := setOf_len (b ++ X)
          rw [List.length_append] at lj lk
          rw [hJ] at lj
          rw [hK] at lk
          obtain ⟨f, hf⟩ : ∃ f, dgI (setOf a) = f := ⟨_, rfl⟩
          obtain ⟨g, hg⟩ : ∃ g, dgI (setOf b) = g := ⟨_, rfl⟩
          obtain ⟨f2, hf2⟩ : ∃ f, dgI (setOf J) = f := ⟨_, rfl⟩
          obtain ⟨g2, hg2⟩ : ∃ g, dgI (setOf K) = g := ⟨_, rfl⟩
          obtain ⟨PJ, hPJ⟩ : ∃ L, Dig.pick D (setOf J) = L := ⟨_, rfl⟩
          have hPK : Dig.pick D (setOf K) = PJ := by rw [← hPJ]; exact M.p.symm
          have hJ0 : Dig.pick [] (setOf J) = [] := Dig.pick_nil _
          have hK0 : Dig.pick [] (setOf K) = [] := Dig.pick_nil _
          have hJ2 : setOf (J ++ []) = J := by rw [List.append_nil]; exact M.sj
          have hK2 : setOf (K ++ []) = K := by rw [List.append_nil]; exact M.sk
          have hee : eqD f2 g2 = true := by rw [← hf2, ← hg2, eqD_iff]; exact M.d
          have hno := fun h => n_or hD hX hY (by rw [hn]; exact h)
          have hDf := hD
          rw [hf, hg] at hDf
          have E1 := Lib.hid hf; have E2 := Lib.hid hg; have E3 := Lib.hid hf2; have E4 := Lib.hid hg2; have ED := Lib.hid hDf; have ED1 := Lib.hid hD; have EX := Lib.hid hX; have EY := Lib.hid hY; have EJ := Lib.hid hJ; have EK := Lib.hid hK; have En := Lib.hid hn
          have HM := Lib.hid M; have EPJ := Lib.hid hPJ; have EPK := Lib.hid hPK; have EJ0 := Lib.hid hJ0; have EK0 := Lib.hid hK0; have EJ2 := Lib.hid hJ2; have EK2 := Lib.hid hK2; have HNo := Lib.hid hno
          have HEq := Lib.hid (fun W : World => eql_dg f2 g2 W)
          rw [hee] at HEq
          clear hf hg hf2 hg2 hDf hD hX hY hJ hK hn M hPJ hPK hJ0 hK0 hJ2 hK2 hno hee
          go_wp2_with fail
          refine (OfE HA.out (by omega) f E1.out).mono ?_
          rintro e w3 ⟨rfl, hb⟩
          replace HA := Lib.hid (HA.out.below hb)
          replace HC := Lib.hid (HC.out.below hb)
          replace HB := Lib.hid (HB.out.trans (hb.mono HB.out.size))
          clear hb
          go_wp2_with fail
          refine (OfE HC.out (by omega) g E2.out).mono ?_
          rintro e w4 ⟨rfl, hb⟩
          replace HA := Lib.hid (HA.out.below hb)
          replace HC := Lib.hid (HC.out.below hb)
          replace HB := Lib.hid (HB.out.trans (hb.mono HB.out.size))
          clear hb
          go_wp2_with fail
          refine (DifferE f g D ED.out _).mono ?_
          rintro e w5 ⟨A2, c2, rfl, hls, -, hb⟩
          replace HA := Lib.hid (HA.out.below hb)
          replace HC := Lib.hid (HC.out.below hb)
          replace HB := Lib.hid (HB.out.trans (hb.mono HB.out.size))
          clear hb
          have HD := Lib.hid hls
          clear hls
          go_wp2_with fail
          refine (Meet HA.out HC.out (by omega) (by omega) D X Y J K ED1.out EX.out EY.out EJ.out EK.out n En.out).mono ?_
          rintro e w6 ⟨A3, c3, A4, c4, rfl, hx, hy, hb⟩
          replace HA := Lib.hid (HA.out.below hb)
          replace HC := Lib.hid (HC.out.below hb)
          replace HD := Lib.hid (HD.out.below hb)
          replace HB := Lib.hid (HB.out.trans (hb.mono HB.out.size))
          clear hb
          have HJ := Lib.hid hx; have HK := Lib.hid hy
          clear hx hy
          go_wp2_with fail
          refine (Meet HJ.out HK.out (by omega) (by omega) [] [] [] J K HM.out.z EJ0.out EK0.out EJ2.out EK2.out 0 rfl).mono ?_
          rintro e w7 ⟨A5, c5, A6, c6, rfl, hx, hy, hb⟩
          replace HA := Lib.hid (HA.out.below hb)
          replace HC := Lib.hid (HC.out.below hb)
          replace HD := Lib.hid (HD.out.below hb)
          replace HJ := Lib.hid (HJ.out.below hb)
          replace HK := Lib.hid (HK.out.below hb)
          replace HB := Lib.hid (HB.out.trans (hb.mono HB.out.size))
          clear hb
          have HP := Lib.hid hx; have HQ := Lib.hid hy
          clear hx hy
          go_wp2_with fail
          refine (OfE HJ.out (by omega) f2 E3.out).mono ?_
          rintro e w8 ⟨rfl, hb⟩
          replace HA := Lib.hid (HA.out.below hb)
          replace HC := Lib.hid (HC.out.below hb)
          replace HD := Lib.hid (HD.out.below hb)
          replace HJ := Lib.hid (HJ.out.below hb)
          replace HK := Lib.hid (HK.out.below hb)
          replace HP := Lib.hid (HP.out.below hb)
          replace HQ := Lib.hid (HQ.out.below hb)
          replace HB := Lib.hid (HB.out.trans (hb.mono HB.out.size))
          clear hb
          go_wp2_with fail
          refine (OfE HK.out (by omega) g2 E4.out).mono ?_
          rintro e w9 ⟨rfl, hb⟩
          replace HA := Lib.hid (HA.out.below hb)
          replace HC := Lib.hid (HC.out.below hb)
          replace HD := Lib.hid (HD.out.below hb)
          replace HJ := Lib.hid (HJ.out.below hb)
          replace HK := Lib.hid (HK.out.below hb)
          replace HP := Lib.hid (HP.out.below hb)
          replace HQ := Lib.hid (HQ.out.below hb)
          replace HB := Lib.hid (HB.out.trans (hb.mono HB.out.size))
          clear hb
          have heq := HEq.out
          go_wp2_with fail
          refine (PickE HD.out HJ.out (by omega) PJ EPJ.out).mono ?_
          rintro e w10 ⟨A7, c7, rfl, hls, -, hb⟩
          replace HA := Lib.hid (HA.out.below hb)
          replace HC := Lib.hid (HC.out.below hb)
          replace HD := Lib.hid (HD.out.below hb)
          replace HJ := Lib.hid (HJ.out.below hb)
          replace HK := Lib.hid (HK.out.below hb)
          replace HP := Lib.hid (HP.out.below hb)
          replace HQ := Lib.hid (HQ.out.below hb)
          replace HB := Lib.hid (HB.out.trans (hb.mono HB.out.size))
          clear hb
          have H1 := Lib.hid hls
          clear hls
          clear heq
          go_wp2_with fail
          refine (PickE HD.out HK.out (by omega) PJ EPK.out).mono ?_
          rintro e w11 ⟨A8, c8, rfl, hls, -, hb⟩
          replace HA := Lib.hid (HA.out.below hb)
          replace HC := Lib.hid (HC.out.below hb)
          replace HD := Lib.hid (HD.out.below hb)
          replace HJ := Lib.hid (HJ.out.below hb)
          replace HK := Lib.hid (HK.out.below hb)
          replace HP := Lib.hid (HP.out.below hb)
          replace HQ := Lib.hid (HQ.out.below hb)
          replace H1 := Lib.hid (H1.out.below hb)
          replace HB := Lib.hid (HB.out.trans (hb.mono HB.out.size))
          clear hb
          have H2 := Lib.hid hls
          clear hls
          go_wp2_with fail
          refine (SameT H1.out H2.out rfl).mono ?_
          rintro e w12 ⟨rfl, hf⟩
          have hb := hf.below (Nat.le_refl _) (fun _ _ h => h)
          clear hf
          replace HA := Lib.hid (HA.out.below hb)
          replace HC := Lib.hid (HC.out.below hb)
          replace HD := Lib.hid (HD.out.below hb)
          replace HJ := Lib.hid (HJ.out.below hb)
          replace HK := Lib.hid (HK.out.below hb)
          replace HP := Lib.hid (HP.out.below hb)
          replace HQ := Lib.hid (HQ.out.below hb)
          replace H1 := Lib.hid (H1.out.below hb)
          replace H2 := Lib.hid (H2.out.below hb)
          replace HB := Lib.hid (HB.out.trans (hb.mono HB.out.size))
          clear hb
          clear H1 H2
          go_wp2_with fail
          have hb := (Below.refl w12.heap.size w12).alloc (Nat.le_refl _) (.cells #[.slice A0 a.length c0, .slice A3 J.length c3] TSs)
          have H3 : Hid (L2 (w12.alloc (.cells #[.slice A0 a.length c0, .slice A3 J.length c3] TSs)) w12.heap.size ⟨A0, c0, a⟩ ⟨A3, c3, J⟩) := ⟨Join.two_lv w12 ⟨A0, c0, a⟩ ⟨A3, c3, J⟩⟩
          generalize (w12.alloc (.cells #[.slice A0 a.length c0, .slice A3 J.length c3] TSs)) = w13 at *
          replace HA := Lib.hid (HA.out.below hb)
          replace HC := Lib.hid (HC.out.below hb)
          replace HD := Lib.hid (HD.out.below hb)
          replace HJ := Lib.hid (HJ.out.below hb)
          replace HK := Lib.hid (HK.out.below hb)
          replace HP := Lib.hid (HP.out.below hb)
          replace HQ := Lib.hid (HQ.out.below hb)
          replace HB := Lib.hid (HB.out.trans (hb.mono HB.out.size))
          clear hb
          refine (RefAllE H3.out.s (L2.rd HA.out HJ.out) (by simp [cat]; omega) rfl J (by simpa [cat] using HM.out.aj)).mono ?_
          rintro e w14 ⟨A9, c9, rfl, hls, -, hb⟩
          replace HA := Lib.hid (HA.out.below hb)
          replace HC := Lib.hid (HC.out.below hb)
          replace HD := Lib.hid (HD.out.below hb)
          replace HJ := Lib.hid (HJ.out.below hb)
          replace HK := Lib.hid (HK.out.below hb)
          replace HP := Lib.hid (HP.out.below hb)
          replace HQ := Lib.hid (HQ.out.below hb)
          replace H3 := Lib.hid (H3.out.below hb)
          replace HB := Lib.hid (HB.out.trans (hb.mono HB.out.size))
          clear hb
          have H1 := Lib.hid hls
          clear hls
          go_wp2_with fail
          refine (SameT H1.out HJ.out rfl).mono ?_
          rintro e w15 ⟨rfl, hf⟩
          have hb := hf.below (Nat.le_refl _) (fun _ _ h => h)
          clear hf
          replace HA := Lib.hid (HA.out.below hb)
          replace HC := Lib.hid (HC.out.below hb)
          replace HD := Lib.hid (HD.out.below hb)
          replace HJ := Lib.hid (HJ.out.below hb)
          replace HK := Lib.hid (HK.out.below hb)
          replace HP := Lib.hid (HP.out.below hb)
          replace HQ := Lib.hid (HQ.out.below hb)
          replace H3 := Lib.hid (H3.out.below hb)
          replace H1 := Lib.hid (H1.out.below hb)
          replace HB := Lib.hid (HB.out.trans (hb.mono HB.out.size))
          clear hb
          clear H1 H3
          go_wp2_with fail
          have hb := (Below.refl w15.heap.size w15).alloc (Nat.le_refl _) (.cells #[.slice A1 b.length c1, .slice A4 K.length c4] TSs)
          have H3 : Hid (L2 (w15.alloc (.cells #[.slice A1 b.length c1, .slice A4 K.length c4] TSs)) w15.heap.size ⟨A1, c1, b⟩ ⟨A4, c4, K⟩) := ⟨Join.two_lv w15 ⟨A1, c1, b⟩ ⟨A4, c4, K⟩⟩
          generalize (w15.alloc (.cells #[.slice A1 b.length c1, .slice A4 K.length c4] TSs)) = w16 at *
          replace HA := Lib.hid (HA.out.below hb)
          replace HC := Lib.hid (HC.out.below hb)
          replace HD := Lib.hid (HD.out.below hb)
          replace HJ := Lib.hid (HJ.out.below hb)
          replace HK := Lib.hid (HK.out.below hb)
          replace HP := Lib.hid (HP.out.below hb)
          replace HQ := Lib.hid (HQ.out.below hb)
          replace HB := Lib.hid (HB.out.trans (hb.mono HB.out.size))
          clear hb
          refine (RefAllE H3.out.s (L2.rd HC.out HK.out) (by simp [cat]; omega) rfl K (by simpa [cat] using HM.out.bk)).mono ?_
          rintro e w17 ⟨A9, c9, rfl, hls, -, hb⟩
          replace HA := Lib.hid (HA.out.below hb)
          replace HC := Lib.hid (HC.out.below hb)
          replace HD := Lib.hid (HD.out.below hb)
          replace HJ := Lib.hid (HJ.out.below hb)
          replace HK := Lib.hid (HK.out.below hb)
          replace HP := Lib.hid (HP.out.below hb)
          replace HQ := Lib.hid (HQ.out.below hb)
          replace H3 := Lib.hid (H3.out.below hb)
          replace HB := Lib.hid (HB.out.trans (hb.mono HB.out.size))
          clear hb
          have H1 := Lib.hid hls
          clear hls
          go_wp2_with fail
          refine (SameT H1.out HK.out rfl).mono ?_
          rintro e w18 ⟨rfl, hf⟩
          have hb := hf.below (Nat.le_refl _) (fun _ _ h => h)
          clear hf
          replace HA := Lib.hid (HA.out.below hb)
          replace HC := Lib.hid (HC.out.below hb)
          replace HD := Lib.hid (HD.out.below hb)
          replace HJ := Lib.hid (HJ.out.below hb)
          replace HK := Lib.hid (HK.out.below hb)
          replace HP := Lib.hid (HP.out.below hb)
          replace HQ := Lib.hid (HQ.out.below hb)
          replace H3 := Lib.hid (H3.out.below hb)
          replace H1 := Lib.hid (H1.out.below hb)
          replace HB := Lib.hid (HB.out.trans (hb.mono HB.out.size))
          clear hb
          clear H1 H3
          go_wp2_with fail
          refine (SameT HP.out HJ.out rfl).mono ?_
          rintro e w19 ⟨rfl, hf⟩
          have hb := hf.below (Nat.le_refl _) (fun _ _ h => h)
          clear hf
          replace HA := Lib.hid (HA.out.below hb)
          replace HC := Lib.hid (HC.out.below hb)
          replace HD := Lib.hid (HD.out.below hb)
          replace HJ := Lib.hid (HJ.out.below hb)
          replace HK := Lib.hid (HK.out.below hb)
          replace HP := Lib.hid (HP.out.below hb)
          replace HQ := Lib.hid (HQ.out.below hb)
          replace HB := Lib.hid (HB.out.trans (hb.mono HB.out.size))
          clear hb
          go_wp2_with fail
          refine (SameT HQ.out HK.out rfl).mono ?_
          rintro e w20 ⟨rfl, hf⟩
          have hb := hf.below (Nat.le_refl _) (fun _ _ h => h)
          clear hf
          replace HA := Lib.hid (HA.out.below hb)
          replace HC := Lib.hid (HC.out.below hb)
          replace HD := Lib.hid (HD.out.below hb)
          replace HJ := Lib.hid (HJ.out.below hb)
          replace HK := Lib.hid (HK.out.below hb)
          replace HP := Lib.hid (HP.out.below hb)
          replace HQ := Lib.hid (HQ.out.below hb)
          replace HB := Lib.hid (HB.out.trans (hb.mono HB.out.size))
          clear hb
          clear HP HQ HJ HK
          by_cases hn : 0 < n
          ·
            have q1 : decide ((n : Int) > 0) = true := by simp; omega
            go_wp2_with fail
            refine (awake w20).mono ?_
            rintro e w21 ⟨rfl, hb⟩
            replace HA := Lib.hid (HA.out.below hb)
            replace HC := Lib.hid (HC.out.below hb)
            replace HD := Lib.hid (HD.out.below hb)
            replace HB := Lib.hid (HB.out.trans (hb.mono HB.out.size))
            clear hb
            go_wp2_with fail
            go_ret
            exact ⟨rfl, HB.out⟩
          ·
            have q1 : decide ((n : Int) > 0) = false := by simp; omega
            obtain rfl := HNo.out hn
            go_wp2_with fail
            refine (awake w20).mono ?_
            rintro e w21 ⟨rfl, hb⟩
            replace HA := Lib.hid (HA.out.below hb)
            replace HC := Lib.hid (HC.out.below hb)
            replace HD := Lib.hid (HD.out.below hb)
            replace HB := Lib.hid (HB.out.trans (hb.mono HB.out.size))
            clear hb
            go_wp2_with fail
            go_ret
            exact ⟨rfl, HB.out⟩
end Law48
end Go.Proofs.Ytmcghchhegfilaa
