/- Layer 13's statements: BagPlays: for every input the answer is true. -/
import Derived.Test.YtolpdgaomlhgdaaLaw13rb
import Derived.Test.YtolpdgaomlhgdaaLaw13rc
import Derived.Test.YtolpdgaomlhgdaaLaw13rd
namespace Go.Proofs.Ytolpdgaomlhgdaa
open Go.RowKit
namespace Law13
open BagP Bag

set_option maxRecDepth 100000 in
set_option maxHeartbeats 2000000 in
theorem plays (A0 : Option Addr) (c0 : Nat) (acts : List (Int × Int × Int)) (w : World) (hS0 : Sl w 3 A0 acts.length c0 (acts.flatMap ac)) :
    Calls Try.prog 8 #[.slice A0 acts.length c0] w fun e w' => e = .returned (.bool true) ∧ Below w.heap.size w w' := by
  by_cases hlen : 60 < acts.length
  · have HA := Lib.hid (awake w)
    clear hS0
    have t1 : decide ((60 : Int) < (acts.length : Int)) = true := by simp; omega
    go_enter Try.func8, Try.ntmps8
    go_wp2_with fail
    refine HA.out.mono ?_
    rintro e w1 ⟨rfl, hb⟩
    have HB := Lib.hid hb
    clear hb
    go_wp2_with fail
    go_ret
    exact ⟨rfl, HB.out⟩
  · have hl : acts.length ≤ 60 := by omega
    have HL0 := Lib.hid hS0
    have t0 : decide ((60 : Int) < (acts.length : Int)) = false := by simp; omega
    clear hS0 hlen
    go_enter Try.func8, Try.ntmps8
    go_wp2_with fail
    go_loopg [6, 7, 8, 9, 10, 11] acts.length (fun gk i _ _ _ _ _ wr => ∃ (j : Nat) (L : List (Int × Int)) (FB FX : List Nat), i = .int .i64 j ∧ j ≤ acts.length ∧ gk = acts.length - j ∧ L.length ≤ j ∧ Zs w.heap.size w wr [FB, FX] ∧ BagZ wr w.heap.size L FB ∧ Ref13.RB wr (w.heap.size + 1) L FX)
    case atStart =>
      have fa := fun (w : World) (o : Obj) => Fr.alloc (fun _ => False) w o
      have nn : ∀ G : List Nat, ∀ b ∈ G, ¬ False := fun _ _ _ h => h
      have z := ((Zs.start w).alloc (.cells #[.pointer none, .int .i64 0, .int .i64 0] TBag)).alloc (.cells #[.slice none 0 0] Ref13.TR)
      have b1 := (BagZ.new w).fr (fa _ (.cells #[.slice none 0 0] Ref13.TR)) (nn _)
      have b2 := Bk.new (w.alloc (.cells #[.pointer none, .int .i64 0, .int .i64 0] TBag)) #[.slice none 0 0] Ref13.TR
      simp only [World.size_alloc, List.nil_append, List.cons_append] at z b2
      exact ⟨0, [], [w.heap.size], [w.heap.size + 1], rfl, Nat.zero_le _, rfl, Nat.le_refl _, z, b1, none, 0, b2, Sl.empty _ _, rfl, by simp⟩
    case round =>
      obtain ⟨j, L, FB, FX, rfl, hj, hg, hLl, hzs, hbb, hbx⟩ := hrel
      have HG := Lib.hid hg; have HZ := Lib.hid hzs; have HB := Lib.hid hbb; have HX := Lib.hid hbx
      have HOk := Lib.hid hbb.ok
      clear hg hzs hbb hbx
      by_cases hlt : j < acts.length
      · obtain ⟨b1, o1, rfl, hb1, hcs⟩ := HL0.out.at hlt (by omega)
        have d0 : wr.cell? ⟨b1, o1 + j * 3, none⟩ = some (.int .i64 acts[j].1) := (HZ.out.bel.cell (p := ⟨b1, _, none⟩) hb1).trans (hcs (j * 3) _ (by rw [← Nat.add_zero (j * 3), flat_at ac_len hlt (by omega)]; rfl))
        have d1 : wr.cell? ⟨b1, o1 + j * 3 + 1, none⟩ = some (.int .i64 acts[j].2.1) := (HZ.out.bel.cell (p := ⟨b1, _, none⟩) hb1).trans (hcs (j * 3 + 1) _ (by rw [flat_at ac_len hlt (by omega)]; rfl))
        have d2 : wr.cell? ⟨b1, o1 + j * 3 + 1 + 1, none⟩ = some (.int .i64 acts[j].2.2) := (HZ.out.bel.cell (p := ⟨b1, _, none⟩) hb1).trans (hcs (j * 3 + 2) _ (by rw [flat_at ac_len hlt (by omega)]; rfl))
        clear hcs
        generalize acts[j] = y at *
        obtain ⟨kd, xx, mm⟩ := y
        dsimp only at d0 d1 d2
        have HSt1 : Hid (SP w.heap.size w.heap.size (w.heap.size + 1) wr.heap.size kd xx mm L L FB FX w (wr.alloc (.cells #[.int .i64 kd, .int .i64 xx, .int .i64 mm] TAct))) :=
          ⟨HZ.out.alloc _, HB.out.fr (Fr.alloc (fun _ => False) _ _) (fun _ _ h => h), HX.out.fr (Fr.alloc (fun _ => False) _ _) (fun _ _ h => h), Bk.new _ _ _⟩
        go_upto_region 10 with (fail)
        clear d0 d1 d2
        go_cut [63] (fun s63 wc => s63 = .bool false ∧ ∃ FB' FX', SP w.heap.size w.heap.size (w.heap.size + 1) wr.heap.size kd xx mm (stepB (kd, xx, mm) L) (stepB (kd, xx, mm) L) FB' FX' w wc)
        case first =>
          by_cases h1 : kd = 1
          · have k1 : (kd == 1) = true := by simp [h1]
            have k2 : (kd == 2) = false := by simp [h1]
            have HL := Lib.hid (show stepB (kd, xx, mm) L = addL xx mm L by simp [stepB, h1])
            clear h1
            refine p10a (by kernel_rfl) _ _ w.heap.size w.heap.size (w.heap.size + 1) wr.heap.size kd xx mm L FB FX w _ HSt1.out HOk.out (by omega) k1 k2 rfl rfl rfl rfl ?_
            intro x w' FB' FX' hx hst
            simp only [Eng.setAll, Act.put, List.setIfInBounds_toArray, List.set_cons_succ, List.set_cons_zero]
            rw [hx]
            have HX1 := Lib.hid hst
            clear hst hx
            go_wp2_with fail
            go_meet
            exact ⟨rfl, _, _, by rw [HL.out]; exact HX1.out⟩
          · by_cases h2 : kd = 2
            · have k1 : (kd == 1) = false := by simp [h2]
              have k2 : (kd == 2) = true := by simp [h2]
              have HL := Lib.hid (show stepB (kd, xx, mm) L = takeL xx mm L by simp [stepB, h2])
              clear h1 h2
              refine p10t (by kernel_rfl) _ _ w.heap.size w.heap.size (w.heap.size + 1) wr.heap.size kd xx mm L FB FX w _ HSt1.out HOk.out (by omega) k1 k2 rfl rfl rfl rfl ?_
              intro x w' FB' FX' hx hst
              simp only [Eng.setAll, Act.put, List.setIfInBounds_toArray, List.set_cons_succ, List.set_cons_zero]
              rw [hx]
              have HX1 := Lib.hid hst
              clear hst hx
              go_wp2_with fail
              go_meet
              exact ⟨rfl, _, _, by rw [HL.out]; exact HX1.out⟩
            · have k1 : (kd == 1) = false := by simp [h1]
              have k2 : (kd == 2) = false := by simp [h2]
              have HL := Lib.hid (show stepB (kd, xx, mm) L = L by simp [stepB, h1, h2])
              clear h1 h2
              refine p10n (by kernel_rfl) _ _ w.heap.size w.heap.size (w.heap.size + 1) wr.heap.size kd xx mm L FB FX w _ HSt1.out HOk.out (by omega) k1 k2 rfl rfl ?_
              intro x w' FB' FX' hx hst
              simp only [Eng.setAll, Act.put, List.setIfInBounds_toArray, List.set_cons_succ, List.set_cons_zero]
              rw [hx]
              have HX1 := Lib.hid hst
              clear hst hx
              go_wp2_with fail
              go_meet
              exact ⟨rfl, _, _, by rw [HL.out]; exact HX1.out⟩
        case rest =>
          obtain ⟨rfl, FB2, FX2, hst⟩ := hcut
          have hMl : (stepB (kd, xx, mm) L).length ≤ j + 1 := Nat.le_trans (stepB_len _ _) (by omega)
          clear HSt1 HZ HB HX HOk
          generalize stepB (kd, xx, mm) L = M at *
          have HSt := Lib.hid hst
          clear hst
          have HLa := Lib.hid (LastZ w.heap.size M FB2 wc HSt.out.bb)
          unfold AvlII.LastPost at HLa
          have HLast := Lib.hid (show (M = [] → (M.getLast?.map (·.1)).getD 0 = 0 ∧ M.getLast?.isSome = false) ∧ (∀ h : 0 < M.length, (M.getLast?.map (·.1)).getD 0 = (M[M.length - 1]'(by omega)).1 ∧ M.getLast?.isSome = true) from
            ⟨fun e => by subst e; simp, fun h => by rw [List.getLast?_eq_getElem?, List.getElem?_eq_getElem (by omega)]; simp⟩)
          generalize (M.getLast?.map (·.1)).getD 0 = kl at *
          generalize M.getLast?.isSome = ql at *
          go_upto_region 13 with (first | (go_at_call 50; refine HLa.out.mono ?_; rintro e w1 ⟨rfl, rfl⟩))
          clear HLa
          obtain ⟨AX, cX, hhd, hrow, -, -⟩ := HSt.out.bx
          have HQ : Hid (SQ w.heap.size w.heap.size (w.heap.size + 1) wr.heap.size kd xx mm M FB2 FX2 AX cX w wc) := ⟨HSt.out, hhd, hrow⟩
          clear hhd hrow
          go_cut [138] (fun s138 wd => s138 = .bool false ∧ SP w.heap.size w.heap.size (w.heap.size + 1) wr.heap.size kd xx mm M M FB2 FX2 w wd)
          case first =>
            by_cases hM0 : 0 < M.length
            · obtain ⟨hkl, hql⟩ := HLast.out.2 hM0
              subst hql
              have HKL := Lib.hid hkl
              clear hkl
              refine p13l (by kernel_rfl) _ _ w.heap.size w.heap.size (w.heap.size + 1) wr.heap.size kd xx mm kl M FB2 FX2 AX cX w _ HQ.out (by omega) hM0 HKL.out rfl rfl rfl rfl rfl rfl ?_
              intro x w' hx hst
              simp only [Eng.setAll, Act.put, List.setIfInBounds_toArray, List.set_cons_succ, List.set_cons_zero]
              rw [hx]
              have HX1 := Lib.hid hst
              clear hst hx
              go_wp2_with fail
              go_meet
              exact ⟨rfl, HX1.out⟩
            · have hM1 : M.length = 0 := by omega
              obtain ⟨rfl, rfl⟩ := HLast.out.1 (List.eq_nil_of_length_eq_zero hM1)
              refine p13e (by kernel_rfl) _ _ w.heap.size w.heap.size (w.heap.size + 1) wr.heap.size kd xx mm 0 M FB2 FX2 AX cX w _ HQ.out (by omega) hM1 rfl rfl rfl rfl rfl rfl ?_
              intro x w' hx hst
              simp only [Eng.setAll, Act.put, List.setIfInBounds_toArray, List.set_cons_succ, List.set_cons_zero]
              rw [hx]
              have HX1 := Lib.hid hst
              clear hst hx hM1
              go_wp2_with fail
              go_meet
              exact ⟨rfl, HX1.out⟩
          case rest =>
            clear HQ HSt HLast
            obtain ⟨rfl, hst⟩ := hcut
            have HSt := Lib.hid hst
            clear hst
            have HLn := fun w => Lib.hid (Last_none w)
            unfold AvlII.LastPost at HLn
            go_upto_region 16 with (first | (go_at_call 50; refine (HLn _).out.mono ?_; rintro e w1 ⟨rfl, rfl⟩))
            clear HLn
            refine p16 (by kernel_rfl) _ _ w.heap.size w.heap.size (w.heap.size + 1) wr.heap.size kd xx mm M M FB2 FX2 w _ HSt.out rfl rfl rfl rfl ?_
            intro x w' hx hst
            simp only [Eng.setAll, Act.put, List.setIfInBounds_toArray, List.set_cons_succ, List.set_cons_zero]
            rw [hx]
            have HX1 := Lib.hid hst
            clear hst hx
            go_wp2_with fail
            go_roundg (acts.length - (j + 1))
            case rel => exact ⟨j + 1, M, FB2, FX2, by go_num, by omega, rfl, hMl, HX1.out.zs.less (by simp), HX1.out.bb, HX1.out.bx⟩
            case measure => have := HG.out; omega
      · have HA := Lib.hid (awake wr)
        go_wp2_with fail
        refine HA.out.mono ?_
        rintro e w1 ⟨rfl, hb⟩
        have HBe := Lib.hid hb
        clear hb
        go_wp2_with fail
        go_ret
        exact ⟨rfl, HZ.out.bel.trans (HBe.out.mono HZ.out.n0le)⟩
end Law13
end Go.Proofs.Ytolpdgaomlhgdaa
