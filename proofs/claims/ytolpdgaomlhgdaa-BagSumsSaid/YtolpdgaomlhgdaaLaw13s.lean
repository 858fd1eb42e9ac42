/- Layer 13's statements: BagSums: for every input the answer is true. -/
import Derived.Test.YtolpdgaomlhgdaaLaw13sr
namespace Go.Proofs.Ytolpdgaomlhgdaa
open Go.RowKit
namespace Law13
open BagP Bag

theorem back {x m : Int} {L : List (Int × Int)} (h : Ok L) (hk : okA m L = true) : okT x m (addL x m L) = true ∧ takeL x m (addL x m L) = L := by
  have hk' := hk
  simp only [okA, decide_eq_true_eq] at hk'
  have h0 := h.pos.cnt x
  have e : addL x m L = setL x (cnt x L + m) L := by simp [addL, hk]
  have c1 : cnt x (setL x (cnt x L + m) L) = cnt x L + m := by rw [cnt_set, if_pos (sameK_refl _)]
  have e2 : okT x m (addL x m L) = true := by rw [e, okT, c1]; simp; omega
  refine ⟨e2, ?_⟩
  unfold takeL
  rw [e2, if_pos rfl, e, c1, show cnt x L + m - m = cnt x L by omega]
  exact setL_back h.srt h.pos (by omega)
theorem sum_take {L : List (Int × Int)} (h : Ok L) {j : Nat} (hlt : j < L.length) : sumL (L.take (j + 1)) = sumL (L.take j) + L[j].2 ∧ 0 ≤ sumL (L.take j) ∧ 1 ≤ L[j].2 ∧ sumL (L.take j) + L[j].2 ≤ 4611686018427387904 := by
  have hs1 : sumL (L.take (j + 1)) = sumL (L.take j) + L[j].2 := by rw [List.take_succ_eq_append_getElem hlt, sumL_append]; simp [sumL]
  have e : sumL L = sumL (L.take (j + 1)) + sumL (L.drop (j + 1)) := by rw [← sumL_append, List.take_append_drop]
  have p1 : Pos (L.take j) := fun p hp => h.pos p (List.mem_of_mem_take hp)
  have p2 : Pos (L.drop (j + 1)) := fun p hp => h.pos p (List.mem_of_mem_drop hp)
  have h1 := (p1.cnt 0).2.2
  have h2 := (p2.cnt 0).2.2
  have h3 := h.pos _ (List.getElem_mem hlt)
  have h4 := h.most
  omega

set_option maxRecDepth 100000 in
set_option maxHeartbeats 2000000 in
theorem sums (A0 : Option Addr) (c0 : Nat) (acts : List (Int × Int × Int)) (xx mm : Int) (w : World) (hS0 : Sl w 3 A0 acts.length c0 (acts.flatMap ac)) :
    Calls Try.prog 9 #[.slice A0 acts.length c0, .int .i64 xx, .int .i64 mm] w fun e w' => e = .returned (.bool true) ∧ Below w.heap.size w w' := by
  by_cases hlen : 60 < acts.length
  · have HA := Lib.hid (awake w)
    clear hS0
    have t1 : decide ((60 : Int) < (acts.length : Int)) = true := by simp; omega
    go_enter Try.func9, Try.ntmps9
    go_wp2_with fail
    refine HA.out.mono ?_
    rintro e w1 ⟨rfl, hb⟩
    have HB := Lib.hid hb
    clear hb
    go_wp2_with fail
    go_ret
    exact ⟨rfl, HB.out⟩
  · have hl : acts.length ≤ 60 := by omega
    have HL0 := Lib.hid hS0
    have t0 : decide ((60 : Int) < (acts.length : Int)) = false := by simp; omega
    clear hS0 hlen
    go_enter Try.func9, Try.ntmps9
    go_wp2_with fail
    go_loopg [8] acts.length (fun gk i wr => ∃ (j : Nat) (L : List (Int × Int)) (FB : List Nat), i = .int .i64 j ∧ j ≤ acts.length ∧ gk = acts.length - j ∧ L.length ≤ j ∧ S1 w.heap.size w.heap.size L FB [] w wr)
    case atStart => exact ⟨0, [], [w.heap.size], rfl, Nat.zero_le _, rfl, Nat.le_refl _, (Zs.start w).alloc _, BagZ.new w⟩
    case round =>
      obtain ⟨j, L, FB, rfl, hj, hg, hLl, hst⟩ := hrel
      have HG := Lib.hid hg; have HSt := Lib.hid hst
      clear hg hst
      by_cases hlt : j < acts.length
      · obtain ⟨b1, o1, rfl, hb1, hcs⟩ := HL0.out.at hlt (by omega)
        have HC : Hid (w.cell? ⟨b1, o1 + j * 3 + 1, none⟩ = some (.int .i64 acts[j].2.1) ∧ w.cell? ⟨b1, o1 + j * 3 + 1 + 1, none⟩ = some (.int .i64 acts[j].2.2)) :=
          ⟨hcs (j * 3 + 1) _ (by rw [flat_at ac_len hlt (by omega)]; rfl), hcs (j * 3 + 2) _ (by rw [flat_at ac_len hlt (by omega)]; rfl)⟩
        have d0 : wr.cell? ⟨b1, o1 + j * 3, none⟩ = some (.int .i64 acts[j].1) := (HSt.out.zs.bel.cell (p := ⟨b1, _, none⟩) hb1).trans (hcs (j * 3) _ (by rw [← Nat.add_zero (j * 3), flat_at ac_len hlt (by omega)]; rfl))
        clear hcs
        generalize acts[j] = y at *
        obtain ⟨kd, yx, ym⟩ := y
        dsimp only at d0 HC
        by_cases hk : kd = 2
        · have k2 : (kd == 2) = true := by simp [hk]
          clear hk
          go_upto_region 8 with (fail)
          refine s8 (by kernel_rfl) _ _ w.heap.size w.heap.size b1 o1 c0 acts.length j yx ym L FB [] w _ HSt.out hb1 hlt (by omega) HC.out.1 HC.out.2 rfl rfl rfl rfl ?_
          intro x w' F' hst _
          simp only [Eng.setAll, Act.put, List.setIfInBounds_toArray, List.set_cons_succ, List.set_cons_zero]
          have HX := Lib.hid hst
          clear hst d0
          go_wp2_with fail
          go_roundg (acts.length - (j + 1))
          case rel => exact ⟨j + 1, _, F', by go_num, by omega, rfl, Nat.le_trans (takeL_len _ _ _) (by omega), HX.out⟩
          case measure => have := HG.out; omega
        · have k2 : (kd == 2) = false := by simp [hk]
          clear hk
          go_upto_region 9 with (fail)
          refine s9 (by kernel_rfl) _ _ w.heap.size w.heap.size b1 o1 c0 acts.length j yx ym L FB [] w _ HSt.out hb1 hlt (by omega) HC.out.1 HC.out.2 rfl rfl rfl rfl ?_
          intro x w' F' hst _
          simp only [Eng.setAll, Act.put, List.setIfInBounds_toArray, List.set_cons_succ, List.set_cons_zero]
          have HX := Lib.hid hst
          clear hst d0
          go_wp2_with fail
          go_roundg (acts.length - (j + 1))
          case rel => exact ⟨j + 1, _, F', by go_num, by omega, rfl, Nat.le_trans (addL_len _ _ _) (by omega), HX.out⟩
          case measure => have := HG.out; omega
      · have hLm : L.length ≤ 60 := by omega
        have HOk := Lib.hid HSt.out.bb.ok
        go_wp2_with fail
        refine (CountsZ w.heap.size L FB wr HSt.out.bb (by omega)).mono ?_
        rintro e w1 ⟨v, rfl, hown, hb⟩
        obtain ⟨A, c, rfl, hS, hA⟩ := Sl.of_own hown
        have hS1 : S1 w.heap.size w.heap.size L FB [ablk A] w w1 :=
          ⟨HSt.out.zs.snoc (Fr.of_below' hb _) (fun x hx => by obtain ⟨a, ha, rfl⟩ := mem_ablk.1 hx; exact ⟨(hA a ha).1, (hA a ha).2.2⟩), HSt.out.bb.fr (Fr.of_below' hb (fun _ => False)) (fun _ _ h => h)⟩
        have HS1 := Lib.hid hS1; have HRow := Lib.hid hS
        clear HSt hown hb hA hS1 hS
        obtain ⟨wo, rfl⟩ : ∃ wo : World, wo = w1 := ⟨_, rfl⟩
        go_wp2_with fail
        go_loopg [10, 11] L.length (fun gk s i wl => ∃ j : Nat, i = .int .i64 j ∧ j ≤ L.length ∧ gk = L.length - j ∧ s = .int .i64 (sumL (L.take j)) ∧ ∃ m, wl = wo.drewN m)
        case atStart => exact ⟨0, rfl, Nat.zero_le _, rfl, rfl, 0, rfl⟩
        case round =>
          obtain ⟨k, rfl, hk, hg', rfl, m, rfl⟩ := hrel
          have HG' := Lib.hid hg'
          clear hg'
          by_cases hlt2 : k < L.length
          · obtain ⟨b2, o2, rfl, -, c1⟩ := HRow.out.at hlt2 (by omega)
            have g1 : (wo.drewN m).cell? ⟨b2, o2 + k * 2, none⟩ = some (.int .i64 L[k].1) := c1 (k * 2) _ (by rw [← Nat.add_zero (k * 2), flat_at pc_len hlt2 (by omega)]; rfl)
            have g2 : (wo.drewN m).cell? ⟨b2, o2 + k * 2 + 1, none⟩ = some (.int .i64 L[k].2) := c1 (k * 2 + 1) _ (by rw [flat_at pc_len hlt2 (by omega)]; rfl)
            obtain ⟨st1, st2, st3, st4⟩ := sum_take HOk.out hlt2
            have HT := Lib.hid st1
            have i0 : (0 : Int) ≤ (k : Int) := by omega
            have i1 : (k : Int) < (L.length : Int) := by omega
            by_cases hk0 : 0 < k
            · have g3 : (wo.drewN m).cell? ⟨b2, o2 + (k - 1) * 2, none⟩ = some (.int .i64 (L[k - 1]'(by omega)).1) := c1 ((k - 1) * 2) _ (by rw [← Nat.add_zero ((k - 1) * 2), flat_at pc_len (by omega) (by omega)]; rfl)
              have hlt3 : (L[k - 1]'(by omega)).1 < L[k].1 := by
                have := (List.pairwise_iff_getElem.1 HOk.out.srt) (k - 1) k (by omega) hlt2 (by omega)
                rw [ltInt] at this; simpa using this
              have i2 : (0 : Int) < (k : Int) := by omega
              have i3 : IntKind.i64.wrap ((k : Int) - 1) = ((k - 1 : Nat) : Int) := by rw [IntWalk.i64_in _ (by omega)]; omega
              have i4 : ((k - 1 : Nat) : Int) < (L.length : Int) := by omega
              generalize (L[k - 1]'(by omega)).1 = p1 at *
              generalize L[k].1 = p2 at *
              generalize L[k].2 = p3 at *
              generalize sumL (L.take k) = s at *
              have i5 : ¬ p3 < 1 := by omega
              have i6 : ¬ p2 ≤ p1 := by omega
              generalize hwm : wo.drewN m = wm at *
              have HW := Lib.hid hwm
              clear hwm c1 st1
              go_upto_region 16 with (fail)
              go_quiet (fail)
              go_wp2_with fail
              go_roundg (L.length - (k + 1))
              case rel => exact ⟨k + 1, by go_num, by omega, rfl, by rw [HT.out], m + nq, by rw [← HW.out]; simp [World.drewN, Nat.add_assoc]⟩
              case measure => have := HG'.out; omega
            · have i2 : ¬ (0 : Int) < (k : Int) := by omega
              have i2' : decide ((0 : Int) < (k : Int)) = false := by simp; omega
              generalize L[k].1 = p2 at *
              generalize L[k].2 = p3 at *
              generalize sumL (L.take k) = s at *
              have i5 : ¬ p3 < 1 := by omega
              generalize hwm : wo.drewN m = wm at *
              have HW := Lib.hid hwm
              clear hwm c1 st1
              go_upto_region 16 with (fail)
              go_quiet (fail)
              go_wp2_with fail
              go_roundg (L.length - (k + 1))
              case rel => exact ⟨k + 1, by go_num, by omega, rfl, by rw [HT.out], m + nq, by rw [← HW.out]; simp [World.drewN, Nat.add_assoc]⟩
              case measure => have := HG'.out; omega
          · obtain rfl : k = L.length := by omega
            rw [List.take_length]
            have HS2 := Lib.hid (HS1.out.fr (Fr.drewN (fun _ => False) wo m))
            have HR2 : Hid (Sl (wo.drewN m) 2 A L.length c (L.flatMap pc)) := HRow.out
            have HLe := Lib.hid (LenZ w.heap.size L FB _ HS2.out.bb)
            generalize wo.drewN m = wm at *
            have q1 : (sumL L != sumL L) = false := by simp
            have HAd := Lib.hid (AddZ w.heap.size xx mm L FB wm HS2.out.bb (by omega))
            cases hok : okA mm L with
            | true =>
              rw [hok] at HAd
              obtain ⟨bk1, bk2⟩ := back (x := xx) HOk.out hok
              have HB1 := Lib.hid bk1; have HB2 := Lib.hid bk2
              have hal : (addL xx mm L).length ≤ 61 := Nat.le_trans (addL_len _ _ _) (by omega)
              clear hok bk1 bk2
              go_wp2_with fail
              refine HLe.out.mono ?_
              rintro e w2 ⟨rfl, rfl⟩
              go_wp2_with fail
              refine HAd.out.mono ?_
              rintro e w2 ⟨rfl, hT⟩
              obtain ⟨F2, hst2, hf2⟩ := HS2.out.turn hT
              have HS3 := Lib.hid hst2
              have HR3 := Lib.hid (HR2.out.fr hf2 (fun a ha => HS2.out.zs.ap 0 1 rfl rfl (by decide) a.block (mem_ablk.2 ⟨a, ha, rfl⟩)))
              clear hT hst2 hf2
              have HTk := Lib.hid (TakeZ w.heap.size xx mm _ F2 w2 HS3.out.bb (by omega))
              rw [HB1.out, HB2.out] at HTk
              go_wp2_with fail
              refine HTk.out.mono ?_
              rintro e w3 ⟨rfl, hT⟩
              obtain ⟨F3, hst3, hf3⟩ := HS3.out.turn hT
              have HS4 := Lib.hid hst3
              have HR4 := Lib.hid (HR3.out.fr hf3 (fun a ha => HS3.out.zs.ap 0 1 rfl rfl (by decide) a.block (mem_ablk.2 ⟨a, ha, rfl⟩)))
              clear hT hst3 hf3
              go_wp2_with fail
              refine (CountsZ w.heap.size L F3 w3 HS4.out.bb (by omega)).mono ?_
              rintro e w5 ⟨v5, rfl, hown5, hb5⟩
              obtain ⟨A5, c5, rfl, hS5, -⟩ := Sl.of_own hown5
              have HS5 := Lib.hid (HS4.out.fr (Fr.of_below' hb5 _)); have HR5 := Lib.hid (HR4.out.fr (Fr.of_below' hb5 (fun _ => False)) (fun _ _ h => h)); have HN5 := Lib.hid hS5
              clear hown5 hb5 hS5
              go_wp2_with fail
              refine (Ref13.Same A5 A c5 c L L w5 L.length L.length rfl rfl HN5.out HR5.out rfl).mono ?_
              rintro e w6 ⟨rfl, hf6⟩
              have HS6 := Lib.hid (HS5.out.fr hf6)
              clear hf6
              go_wp2_with fail
              refine (awake w6).mono ?_
              rintro e w7 ⟨rfl, hb7⟩
              have HB7 := Lib.hid hb7
              clear hb7
              go_wp2_with fail
              go_ret
              exact ⟨rfl, HS6.out.zs.bel.trans (HB7.out.mono HS6.out.zs.n0le)⟩
            | false =>
              rw [hok] at HAd
              have HB2 := Lib.hid (show addL xx mm L = L by simp [addL, hok])
              clear hok
              rw [HB2.out] at HAd
              go_wp2_with fail
              refine HLe.out.mono ?_
              rintro e w2 ⟨rfl, rfl⟩
              go_wp2_with fail
              refine HAd.out.mono ?_
              rintro e w2 ⟨rfl, hT⟩
              obtain ⟨F2, hst2, hf2⟩ := HS2.out.turn hT
              have HS4 := Lib.hid hst2
              have HR4 := Lib.hid (HR2.out.fr hf2 (fun a ha => HS2.out.zs.ap 0 1 rfl rfl (by decide) a.block (mem_ablk.2 ⟨a, ha, rfl⟩)))
              clear hT hst2 hf2
              go_wp2_with fail
              refine (CountsZ w.heap.size L F2 w2 HS4.out.bb (by omega)).mono ?_
              rintro e w5 ⟨v5, rfl, hown5, hb5⟩
              obtain ⟨A5, c5, rfl, hS5, -⟩ := Sl.of_own hown5
              have HS5 := Lib.hid (HS4.out.fr (Fr.of_below' hb5 _)); have HR5 := Lib.hid (HR4.out.fr (Fr.of_below' hb5 (fun _ => False)) (fun _ _ h => h)); have HN5 := Lib.hid hS5
              clear hown5 hb5 hS5
              go_wp2_with fail
              refine (Ref13.Same A5 A c5 c L L w5 L.length L.length rfl rfl HN5.out HR5.out rfl).mono ?_
              rintro e w6 ⟨rfl, hf6⟩
              have HS6 := Lib.hid (HS5.out.fr hf6)
              clear hf6
              go_wp2_with fail
              refine (awake w6).mono ?_
              rintro e w7 ⟨rfl, hb7⟩
              have HB7 := Lib.hid hb7
              clear hb7
              go_wp2_with fail
              go_ret
              exact ⟨rfl, HS6.out.zs.bel.trans (HB7.out.mono HS6.out.zs.n0le)⟩
end Law13
end Go.Proofs.Ytolpdgaomlhgdaa
