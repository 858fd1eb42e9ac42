/- Layer 12's statements: AvlPlays: the map and the document's map, side by side. -/
import Derived.Test.YtolpdgaomlhgdaaLaw12ra
import Derived.Test.YtolpdgaomlhgdaaLaw12rb
import Derived.Test.YtolpdgaomlhgdaaLaw12rc
namespace Go.Proofs.Ytolpdgaomlhgdaa
open Go.RowKit
namespace Law12
open Ref12

set_option maxRecDepth 100000 in
set_option maxHeartbeats 2000000 in
theorem plays (A0 : Option Addr) (c0 : Nat) (acts : List (Int × Int × Int)) (w : World) (hS0 : Sl w 3 A0 acts.length c0 (acts.flatMap ac)) :
    Calls Try.prog 5 #[.slice A0 acts.length c0] w fun e w' => e = .returned (.bool true) ∧ Below w.heap.size w w' := by
  by_cases hlen : 120 < acts.length
  · have HA := Lib.hid (awake w)
    clear hS0
    have t1 : (120 : Int) < (acts.length : Int) := by omega
    go_enter Try.func5, Try.ntmps5
    go_wp2_with fail
    refine HA.out.mono ?_
    rintro e w1 ⟨rfl, hb⟩
    have HB := Lib.hid hb
    clear hb
    go_wp2_with fail
    go_ret
    exact ⟨rfl, HB.out⟩
  · have hl : acts.length ≤ 120 := by omega
    have HL0 := Lib.hid hS0
    have t0 : decide ((120 : Int) < (acts.length : Int)) = false := by simp; omega
    clear hS0 hlen
    go_enter Try.func5, Try.ntmps5
    go_wp2_with fail
    go_loopg [6, 7, 8, 9, 10, 11, 12, 13, 14, 15, 16, 17] acts.length (fun gk i _ _ _ _ _ _ _ _ _ _ _ wr => ∃ (j : Nat) (L : List (Int × Int)) (F : List Nat) (A : Option Addr) (c : Nat), i = .int .i64 j ∧ j ≤ acts.length ∧ gk = acts.length - j ∧ L.length ≤ j ∧ St w.heap.size w.heap.size (w.heap.size + 1) L F L A c w wr)
    case atStart => exact ⟨0, [], [], none, 0, rfl, Nat.zero_le _, rfl, Nat.le_refl _, St.new w⟩
    case round =>
      obtain ⟨j, L, F, A, c, rfl, hj, hg, hLl, hst⟩ := hrel
      have HG := Lib.hid hg; have HSt := Lib.hid hst
      clear hg hst
      by_cases hlt : j < acts.length
      · skip
        obtain ⟨b1, o1, rfl, hb1, hcs⟩ := HL0.out.at hlt (by omega)
        have d0 : wr.cell? ⟨b1, o1 + j * 3, none⟩ = some (.int .i64 acts[j].1) := (HSt.out.bel.cell (p := ⟨b1, _, none⟩) hb1).trans (hcs (j * 3) _ (by rw [← Nat.add_zero (j * 3), flat_at ac_len hlt (by omega)]; rfl))
        have d1 : wr.cell? ⟨b1, o1 + j * 3 + 1, none⟩ = some (.int .i64 acts[j].2.1) := (HSt.out.bel.cell (p := ⟨b1, _, none⟩) hb1).trans (hcs (j * 3 + 1) _ (by rw [flat_at ac_len hlt (by omega)]; rfl))
        have d2 : wr.cell? ⟨b1, o1 + j * 3 + 1 + 1, none⟩ = some (.int .i64 acts[j].2.2) := (HSt.out.bel.cell (p := ⟨b1, _, none⟩) hb1).trans (hcs (j * 3 + 2) _ (by rw [flat_at ac_len hlt (by omega)]; rfl))
        clear hcs
        generalize acts[j] = x at *
        obtain ⟨kd, key, val⟩ := x
        dsimp only at d0 d1 d2
        have HAc := Lib.hid (Ac.new HSt.out (kd, key, val))
        have HSt1 := Lib.hid (HSt.out.fr (Fr.alloc _ wr (.cells #[.int .i64 kd, .int .i64 key, .int .i64 val] 58)))
        go_upto_region 10 with (fail)
        clear d0 d1 d2
        go_cut [65] (fun s65 wc => s65 = .bool false ∧ ∃ F2 A2 c2, St w.heap.size w.heap.size (w.heap.size + 1) (stepL (kd, key, val) L) F2 (stepL (kd, key, val) L) A2 c2 w wc ∧ Ac wr.heap.size w.heap.size (w.heap.size + 1) F2 (kd, key, val) wc)
        case first =>
          by_cases h1 : kd = 1
          · have k1 : (kd == 1) = true := by simp [h1]
            have k2 : (kd == 2) = false := by simp [h1]
            have HL := Lib.hid (show stepL (kd, key, val) L = insL key val L by simp [stepL, h1])
            refine r10_put (by kernel_rfl) _ _ w.heap.size w.heap.size (w.heap.size + 1) wr.heap.size kd key val L F A c w _ HSt1.out HAc.out (by omega) k1 k2 rfl rfl rfl rfl (fun _ _ _ _ _ h => h) ?_
            intro x w' F2 A2 c2 hx hst hac
            simp only [Eng.setAll, Act.put, List.setIfInBounds_toArray, List.set_cons_succ, List.set_cons_zero]
            rw [hx]
            have HX1 := Lib.hid hst; have HX2 := Lib.hid hac
            clear hst hac hx h1
            go_wp2_with fail
            go_meet
            exact ⟨rfl, _, _, _, (by rw [HL.out]; exact HX1.out), HX2.out⟩
          · by_cases h2 : kd = 2
            · have k1 : (kd == 1) = false := by simp [h2]
              have k2 : (kd == 2) = true := by simp [h2]
              have HL := Lib.hid (show stepL (kd, key, val) L = delL key L by simp [stepL, h2])
              refine r10_drop (by kernel_rfl) _ _ w.heap.size w.heap.size (w.heap.size + 1) wr.heap.size kd key val L F A c w _ HSt1.out HAc.out (by omega) k1 k2 rfl rfl rfl rfl (fun _ _ _ _ _ h => h) ?_
              intro x w' F2 A2 c2 hx hst hac
              simp only [Eng.setAll, Act.put, List.setIfInBounds_toArray, List.set_cons_succ, List.set_cons_zero]
              rw [hx]
              have HX1 := Lib.hid hst; have HX2 := Lib.hid hac
              clear hst hac hx h1 h2
              go_wp2_with fail
              go_meet
              exact ⟨rfl, _, _, _, (by rw [HL.out]; exact HX1.out), HX2.out⟩
            · have k1 : (kd == 1) = false := by simp [h1]
              have k2 : (kd == 2) = false := by simp [h2]
              have HL := Lib.hid (show stepL (kd, key, val) L = L by simp [stepL, h1, h2])
              refine r10_none (by kernel_rfl) _ _ w.heap.size w.heap.size (w.heap.size + 1) wr.heap.size kd key val L F A c w _ HSt1.out HAc.out (by omega) k1 k2 rfl rfl (fun _ _ _ _ _ h => h) ?_
              intro x w' F2 A2 c2 hx hst hac
              simp only [Eng.setAll, Act.put, List.setIfInBounds_toArray, List.set_cons_succ, List.set_cons_zero]
              rw [hx]
              have HX1 := Lib.hid hst; have HX2 := Lib.hid hac
              clear hst hac hx h1 h2
              go_wp2_with fail
              go_meet
              exact ⟨rfl, _, _, _, (by rw [HL.out]; exact HX1.out), HX2.out⟩
        case rest =>
          obtain ⟨rfl, F2, A2, c2, hst2, hac2⟩ := hcut
          have hMl : (stepL (kd, key, val) L).length ≤ j + 1 := Nat.le_trans (stepL_len _ _) (by omega)
          generalize stepL (kd, key, val) L = M at *
          obtain ⟨e0, e1, e2⟩ := hac2.cells
          dsimp only at e0 e1 e2
          have HG1 := Lib.hid (AvlII.GetB w.heap.size val M F2 wc hst2.map)
          have HG2 := Lib.hid (Ref12.Get (w.heap.size + 1) A2 c2 val M wc hst2.box hst2.row)
          unfold AvlII.GetPost at HG1
          unfold Ref12.GetPost at HG2
          have HLa := Lib.hid (AvlII.LastB w.heap.size M F2 wc hst2.map)
          unfold AvlII.LastPost at HLa
          have HSt2 := Lib.hid hst2; have HAc2 := Lib.hid hac2
          clear hst2 hac2 HSt HAc HSt1
          generalize (getL val M).getD 0 = gv at *
          generalize (getL val M).isSome = gb at *
          have q1 : (gv != gv) = false := by simp
          have q2 : (gb != gb) = false := by simp
          have HLast := Lib.hid (show (M = [] → (M.getLast?.map (·.1)).getD 0 = 0 ∧ M.getLast?.isSome = false) ∧ (∀ h : 0 < M.length, (M.getLast?.map (·.1)).getD 0 = (M[M.length - 1]'(by omega)).1 ∧ M.getLast?.isSome = true) from
            ⟨fun e => by subst e; simp, fun h => by rw [List.getLast?_eq_getElem?, List.getElem?_eq_getElem (by omega)]; simp⟩)
          generalize (M.getLast?.map (·.1)).getD 0 = kl at *
          generalize M.getLast?.isSome = ql at *
          go_upto_region 15 with (first | (go_at_call 35; refine HG1.out.mono ?_; rintro e w1 ⟨rfl, rfl⟩) | (go_at_call 36; refine HG2.out.mono ?_; rintro e w1 ⟨rfl, rfl⟩) | (go_at_call 37; refine HLa.out.mono ?_; rintro e w1 ⟨rfl, rfl⟩))
          clear HG1 HG2 HLa e0 e1 e2
          have hMm : M.length ≤ 121 := by omega
          go_cut [144] (fun s144 wd => s144 = .bool false ∧ St w.heap.size w.heap.size (w.heap.size + 1) M F2 M A2 c2 w wd ∧ Ac wr.heap.size w.heap.size (w.heap.size + 1) F2 (kd, key, val) wd)
          case first =>
            by_cases hM0 : 0 < M.length
            · obtain ⟨hkl, hql⟩ := HLast.out.2 hM0
              subst hql
              have HKL := Lib.hid hkl
              clear hkl
              refine r15_last (by kernel_rfl) _ _ w.heap.size w.heap.size (w.heap.size + 1) wr.heap.size gv kl gb (kd, key, val) M F2 A2 c2 w _ HSt2.out HAc2.out (by omega) hM0 HKL.out rfl rfl rfl rfl rfl rfl rfl rfl rfl (fun _ _ _ _ _ h => h) ?_
              intro x w' hx hst hac
              simp only [Eng.setAll, Act.put, List.setIfInBounds_toArray, List.set_cons_succ, List.set_cons_zero]
              rw [hx]
              have HX1 := Lib.hid hst; have HX2 := Lib.hid hac
              clear hst hac hx
              go_wp2_with fail
              go_meet
              exact ⟨rfl, HX1.out, HX2.out⟩
            · have hM1 : M = [] := List.eq_nil_of_length_eq_zero (by omega)
              obtain ⟨rfl, rfl⟩ := HLast.out.1 hM1
              refine r15_none (by kernel_rfl) _ _ w.heap.size w.heap.size (w.heap.size + 1) wr.heap.size gv 0 gb (kd, key, val) M F2 A2 c2 w _ HSt2.out HAc2.out (by omega) hM1 rfl rfl rfl rfl rfl rfl rfl rfl rfl (fun _ _ _ _ _ h => h) ?_
              intro x w' hx hst hac
              simp only [Eng.setAll, Act.put, List.setIfInBounds_toArray, List.set_cons_succ, List.set_cons_zero]
              rw [hx]
              have HX1 := Lib.hid hst; have HX2 := Lib.hid hac
              clear hst hac hx hM1
              go_wp2_with fail
              go_meet
              exact ⟨rfl, HX1.out, HX2.out⟩
          case rest =>
            obtain ⟨rfl, hst3, hac3⟩ := hcut
            obtain ⟨e0, e1, e2⟩ := hac3.cells
            dsimp only at e0 e1 e2
            obtain ⟨dd, hd1, hd2, hd4, hd3⟩ := AvlII.DepthB w.heap.size M F2 wc hst3.map
            have HD := Lib.hid (hd3 wc hst3.map (fun _ _ => rfl) rfl)
            have HLs := Lib.hid (Ref12.Least dd wc (by omega))
            have HLn := Lib.hid (AvlII.LenB w.heap.size M F2 wc hst3.map)
            have g1 : ((lst (min dd 80)).1 : Int) ≤ (M.length : Int) := by have := (lst_mono (Nat.min_le_left dd 80)).1; omega
            have g2 : 0 < M.length → 1 ≤ dd := fun h => by
              rcases Nat.eq_zero_or_pos dd with e | e
              · subst e; rw [Nat.pow_zero] at hd2; omega
              · exact e
            generalize (lst (min dd 80)).1 = ls at *
            have HSt3 := Lib.hid hst3; have HAc3 := Lib.hid hac3
            clear hst3 hac3 hd1 hd2 hd3 hd4 HSt2 HAc2 HLast
            have HK := Lib.hid (AvlII.Keys_none wc)
            have q6 : ¬ (M.length : Int) < (ls : Int) := by omega
            by_cases hM0 : 0 < M.length
            · have q7 : (0 : Int) < (M.length : Int) := by omega
              have q8 : ¬ (dd : Int) < 1 := by have := g2 hM0; omega
              clear g2
              go_wp2_with fail
              refine HD.out.mono ?_
              rintro e w1 ⟨rfl, rfl⟩
              go_wp2_with fail
              refine HLs.out.mono ?_
              rintro e w1 ⟨rfl, rfl⟩
              go_wp2_with fail
              refine HLn.out.mono ?_
              rintro e w1 ⟨rfl, rfl⟩
              go_wp2_with fail
              refine HLn.out.mono ?_
              rintro e w1 ⟨rfl, rfl⟩
              go_wp2_with fail
              refine HD.out.mono ?_
              rintro e w1 ⟨rfl, rfl⟩
              go_wp2_with fail
              refine (AvlII.Get_none key wc).mono ?_
              rintro e w1 ⟨rfl, rfl⟩
              go_wp2_with fail
              refine (AvlII.Last_none wc).mono ?_
              rintro e w1 ⟨rfl, rfl⟩
              go_wp2_with fail
              refine (AvlII.Put_none key 1 wc).mono ?_
              rintro e w1 ⟨rfl, rfl⟩
              go_wp2_with fail
              refine (AvlII.Drop_none key wc).mono ?_
              rintro e w1 ⟨rfl, rfl⟩
              go_wp2_with fail
              refine (AvlII.Len_none wc).mono ?_
              rintro e w1 ⟨rfl, rfl⟩
              go_wp2_with fail
              refine (AvlII.Depth_none wc).mono ?_
              rintro e w1 ⟨rfl, rfl⟩
              go_wp2_with fail
              refine HK.out.mono ?_
              rintro e w6 ⟨v6, rfl, hown6, hb6⟩
              obtain ⟨A6, c6, rfl, -, -⟩ := Sl.of_own hown6
              have HB6 := Lib.hid hb6
              clear hown6 hb6
              go_wp2_with fail
              go_roundg (acts.length - (j + 1))
              case rel => exact ⟨j + 1, M, F2, A2, c2, by go_num, by omega, rfl, hMl, HSt3.out.below HB6.out⟩
              case measure => have := HG.out; omega
            · have q7 : ¬ (0 : Int) < (M.length : Int) := by omega
              clear g2
              go_wp2_with fail
              refine HD.out.mono ?_
              rintro e w1 ⟨rfl, rfl⟩
              go_wp2_with fail
              refine HLs.out.mono ?_
              rintro e w1 ⟨rfl, rfl⟩
              go_wp2_with fail
              refine HLn.out.mono ?_
              rintro e w1 ⟨rfl, rfl⟩
              go_wp2_with fail
              refine HLn.out.mono ?_
              rintro e w1 ⟨rfl, rfl⟩
              go_wp2_with fail
              refine (AvlII.Get_none key wc).mono ?_
              rintro e w1 ⟨rfl, rfl⟩
              go_wp2_with fail
              refine (AvlII.Last_none wc).mono ?_
              rintro e w1 ⟨rfl, rfl⟩
              go_wp2_with fail
              refine (AvlII.Put_none key 1 wc).mono ?_
              rintro e w1 ⟨rfl, rfl⟩
              go_wp2_with fail
              refine (AvlII.Drop_none key wc).mono ?_
              rintro e w1 ⟨rfl, rfl⟩
              go_wp2_with fail
              refine (AvlII.Len_none wc).mono ?_
              rintro e w1 ⟨rfl, rfl⟩
              go_wp2_with fail
              refine (AvlII.Depth_none wc).mono ?_
              rintro e w1 ⟨rfl, rfl⟩
              go_wp2_with fail
              refine HK.out.mono ?_
              rintro e w6 ⟨v6, rfl, hown6, hb6⟩
              obtain ⟨A6, c6, rfl, -, -⟩ := Sl.of_own hown6
              have HB6 := Lib.hid hb6
              clear hown6 hb6
              go_wp2_with fail
              go_roundg (acts.length - (j + 1))
              case rel => exact ⟨j + 1, M, F2, A2, c2, by go_num, by omega, rfl, hMl, HSt3.out.below HB6.out⟩
              case measure => have := HG.out; omega
      · have HA := Lib.hid (awake wr)
        go_wp2_with fail
        refine HA.out.mono ?_
        rintro e w1 ⟨rfl, hb⟩
        have HB := Lib.hid hb
        clear hb
        go_wp2_with fail
        go_ret
        exact ⟨rfl, HSt.out.bel.trans (HB.out.mono HSt.out.n0le)⟩
end Law12
end Go.Proofs.Ytolpdgaomlhgdaa
