/- Layer 19's statements: JoinMissing: for every input the answer is true. -/
import Derived.Test.YtkhhdadlpilbmaaLaw19o
namespace Go.Proofs.Ytkhhdadlpilbmaa
open Go.RowKit
namespace Law19
open KeyP PackP SetP SetW SetF Code_ Rank
attribute [local go_sem] Eng.ev Eng.getO_cons Eng.getO_nil
theorem one_sl {w : World} {b1 o1 c : Nat} {M : List Sn} (h : Ls w (some ⟨b1, o1, none⟩) c M) {k : Nat} (hk : k < M.length) : Ls w (some ⟨b1, o1 + k * 9, none⟩) (c - k) [M[k]] := by
  have h1 := h.s.2.1
  have h2 := (h.s.drop (k := k) (by omega)).take (k := 1) (by omega)
  rw [if_neg (by omega), flat_drop scs_len, flat_take scs_len, List.drop_eq_getElem_cons hk, List.take_succ_cons, List.take_zero] at h2
  have he : (some (⟨b1, o1, none⟩ : Addr)).map (·.add (k * 9)) = some ⟨b1, o1 + k * 9, none⟩ := by
    simp only [Option.map_some, Addr.add]
    split
    · rename_i h; rw [h]; rfl
    · rfl
  rw [he] at h2
  refine ⟨by simpa using h2, fun x hx => ?_⟩
  simp at hx; subst hx
  exact h.ok _ (List.getElem_mem hk)
set_option maxRecDepth 100000 in
set_option maxHeartbeats 2000000 in
theorem missing (A0 A1 : Option Addr) (c0 c1 : Nat) (a b : List Sn) (w : World) (h0 : Ls w A0 c0 a) (h1 : Ls w A1 c1 b) :
    Calls Try.prog 11 #[.slice A0 a.length c0, .slice A1 b.length c1] w fun e w' => e = .returned (.bool true) ∧ Below w.heap.size w w' := by
  have HA := Lib.hid h0; have HC := Lib.hid h1
  have HB := Lib.hid (Below.refl w.heap.size w)
  have l1 := setOf_len (a ++ b); have l2 := miss_len a b
  rw [List.length_append] at l1
  clear h0 h1
  go_enter Try.func11, Try.ntmps11
  go_wp2_with fail
  refine (SetF.Few _ _ 20 a w HA.out.s).mono ?_
  rintro e w1 ⟨rfl, hf⟩
  have hb := hf.below (Nat.le_refl _) (fun _ _ h => h)
  clear hf
  replace HA := Lib.hid (HA.out.below hb)
  replace HC := Lib.hid (HC.out.below hb)
  replace HB := Lib.hid (HB.out.trans (hb.mono HB.out.size))
  clear hb
  cases hq : fewB a 20 with
  | false =>
      go_wp2_with fail
      refine (awake w1).mono ?_
      rintro e w2 ⟨rfl, hb⟩
      replace HA := Lib.hid (HA.out.below hb)
      replace HC := Lib.hid (HC.out.below hb)
      replace HB := Lib.hid (HB.out.trans (hb.mono HB.out.size))
      clear hb
      go_wp2_with fail
      go_ret
      exact ⟨rfl, HB.out⟩
  | true =>
      have hq_a := few_len hq
      go_wp2_with fail
      refine (SetF.Few _ _ 20 b w1 HC.out.s).mono ?_
      rintro e w2 ⟨rfl, hf⟩
      have hb := hf.below (Nat.le_refl _) (fun _ _ h => h)
      clear hf
      replace HA := Lib.hid (HA.out.below hb)
      replace HC := Lib.hid (HC.out.below hb)
      replace HB := Lib.hid (HB.out.trans (hb.mono HB.out.size))
      clear hb
      cases hq : fewB b 20 with
      | false =>
          go_wp2_with fail
          refine (awake w2).mono ?_
          rintro e w3 ⟨rfl, hb⟩
          replace HA := Lib.hid (HA.out.below hb)
          replace HC := Lib.hid (HC.out.below hb)
          replace HB := Lib.hid (HB.out.trans (hb.mono HB.out.size))
          clear hb
          go_wp2_with fail
          go_ret
          exact ⟨rfl, HB.out⟩
      | true =>
          have hq_b := few_len hq
          obtain ⟨X, hX⟩ : ∃ X, Hid (setOf (a ++ b) = X) := ⟨_, Lib.hid rfl⟩
          obtain ⟨M, hM⟩ : ∃ M, Hid (miss a b = M) := ⟨_, Lib.hid rfl⟩
          rw [hX.out] at l1
          rw [hM.out] at l2
          go_wp2_with fail
          refine (MissE HA.out HC.out (by omega) (by omega) M hM.out).mono ?_
          rintro e w3 ⟨A3, c3, rfl, hls, -, hb⟩
          replace HA := Lib.hid (HA.out.below hb)
          replace HC := Lib.hid (HC.out.below hb)
          replace HB := Lib.hid (HB.out.trans (hb.mono HB.out.size))
          clear hb
          have HM := Lib.hid hls
          clear hls
          go_wp2_with fail
          refine (JoinE HA.out HM.out (by omega) X (by rw [← hM.out, join_miss, hX.out])).mono ?_
          rintro e w4 ⟨A4, c4, rfl, hls, -, hb⟩
          replace HA := Lib.hid (HA.out.below hb)
          replace HC := Lib.hid (HC.out.below hb)
          replace HM := Lib.hid (HM.out.below hb)
          replace HB := Lib.hid (HB.out.trans (hb.mono HB.out.size))
          clear hb
          have HX := Lib.hid hls
          clear hls
          go_wp2_with fail
          refine (JoinE HA.out HC.out (by omega) X hX.out).mono ?_
          rintro e w5 ⟨A5, c5, rfl, hls, -, hb⟩
          replace HA := Lib.hid (HA.out.below hb)
          replace HC := Lib.hid (HC.out.below hb)
          replace HM := Lib.hid (HM.out.below hb)
          replace HX := Lib.hid (HX.out.below hb)
          replace HB := Lib.hid (HB.out.trans (hb.mono HB.out.size))
          clear hb
          have H1 := Lib.hid hls
          clear hls
          go_wp2_with fail
          refine (SameT HX.out H1.out rfl).mono ?_
          rintro e w6 ⟨rfl, hf⟩
          have hb := hf.below (Nat.le_refl _) (fun _ _ h => h)
          clear hf
          replace HA := Lib.hid (HA.out.below hb)
          replace HC := Lib.hid (HC.out.below hb)
          replace HM := Lib.hid (HM.out.below hb)
          replace HX := Lib.hid (HX.out.below hb)
          replace H1 := Lib.hid (H1.out.below hb)
          replace HB := Lib.hid (HB.out.trans (hb.mono HB.out.size))
          clear hb
          clear H1
          go_wp2_with fail
          refine (CoversB HX.out HC.out (by omega) (by omega) true (by rw [← hX.out, covers_r]; simp)).mono ?_
          rintro e w7 ⟨rfl, hb⟩
          replace HA := Lib.hid (HA.out.below hb)
          replace HC := Lib.hid (HC.out.below hb)
          replace HM := Lib.hid (HM.out.below hb)
          replace HX := Lib.hid (HX.out.below hb)
          replace HB := Lib.hid (HB.out.trans (hb.mono HB.out.size))
          clear hb
          go_wp2_with fail
          refine (CoversB HX.out HA.out (by omega) (by omega) true (by rw [← hX.out, covers_l]; simp)).mono ?_
          rintro e w8 ⟨rfl, hb⟩
          replace HA := Lib.hid (HA.out.below hb)
          replace HC := Lib.hid (HC.out.below hb)
          replace HM := Lib.hid (HM.out.below hb)
          replace HX := Lib.hid (HX.out.below hb)
          replace HB := Lib.hid (HB.out.trans (hb.mono HB.out.size))
          clear hb
          have q1 : ((M.length : Int) == 0) = decide (M = []) := by
            cases M with
            | nil => rfl
            | cons x l => simp; omega
          go_wp2_with fail
          refine (CoversB HA.out HC.out (by omega) (by omega) (decide (M = [])) (by rw [hM.out])).mono ?_
          rintro e w9 ⟨rfl, hb⟩
          replace HA := Lib.hid (HA.out.below hb)
          replace HC := Lib.hid (HC.out.below hb)
          replace HM := Lib.hid (HM.out.below hb)
          replace HX := Lib.hid (HX.out.below hb)
          replace HB := Lib.hid (HB.out.trans (hb.mono HB.out.size))
          clear hb
          cases hq2 : decide (M = [])
          all_goals rw [hq2] at q1; clear hq2
          all_goals
            go_wp2_with fail
            go_loopg [7] M.length (fun gk i wr => ∃ k : Nat, i = .int .i64 k ∧ k ≤ M.length ∧ gk = M.length - k ∧ Below w9.heap.size w9 wr)
            case atStart => exact ⟨0, rfl, Nat.zero_le _, rfl, Below.refl _ _⟩
            case round =>
              obtain ⟨k, rfl, hk, hg, hb⟩ := hrel
              have HG := Lib.hid hg
              clear hg q1
              replace HA := Lib.hid (HA.out.below hb)
              replace HM := Lib.hid (HM.out.below hb)
              replace HB := Lib.hid (HB.out.trans (hb.mono HB.out.size))
              have HB0 := Lib.hid hb
              clear hb HX HC
              by_cases hlt : k < M.length
              · obtain ⟨b1, o1, rfl, hb1, c1⟩ := HM.out.s.at hlt (by omega)
                have H1 := Lib.hid (one_sl HM.out hlt)
                have hcap := HM.out.s.2.1; have hcap2 := HM.out.s.2.2.1
                unfold maxLen at hcap2
                have HNe : Hid (decide (miss a [M[k]] = []) = false) := by
                  show _ = _
                  rw [show miss a [M[k]] = [M[k]] from by rw [miss_one (a := a) (b := b) (by rw [hM.out]; exact List.getElem_mem hlt)]]
                  simp
                clear c1 hb1
                have q2 : decide ((k : Int) < (M.length : Int)) = true := by simp; omega
                have q3 : wrap64 ((k : Int) + 1) = (k : Int) + 1 := by unfold wrap64; omega
                go_wp2_with fail
                refine (CoversB HA.out H1.out (by omega) (by simp) false HNe.out).mono ?_
                rintro e w9 ⟨rfl, hb⟩
                replace HB0 := Lib.hid (HB0.out.trans (hb.mono HB0.out.size))
                clear hb HB
                go_wp2_with fail
                go_roundg (M.length - (k + 1))
                case rel => exact ⟨k + 1, by go_num, by omega, rfl, HB0.out⟩
                case measure => have := HG.out; omega
              · obtain rfl : k = M.length := by omega
                have q2 : decide ((M.length : Int) < (M.length : Int)) = false := by simp
                go_wp2_with fail
                refine (awake wr).mono ?_
                rintro e w9 ⟨rfl, hb⟩
                replace HB := Lib.hid (HB.out.trans (hb.mono HB.out.size))
                clear hb
                go_wp2_with fail
                go_ret
                exact ⟨rfl, HB.out⟩
end Law19
end Go.Proofs.Ytkhhdadlpilbmaa
