/- Deltas: the document's: what two come to. -/
import Derived.Test.YtkhhdadlpilbmaaGreatRefD3
namespace Go.Proofs.YtkhhdadlpilbmaaGreat
open Go.RowKit
namespace RefD
open KeyP PackP SetP SetW SetF Delta Comp
attribute [local go_sem] Eng.ev Eng.getO_cons Eng.getO_nil
set_option maxRecDepth 100000 in
set_option maxHeartbeats 8000000 in
theorem Compose (d1 d2 : Dl) (w : World) (h1 : RdD w d1) (h2 : RdD w d2) (l1 : d1.O.length ≤ 400000) (l2 : d1.I.length ≤ 400000) (l3 : d2.O.length ≤ 400000) (l4 : d2.I.length ≤ 400000) :
    Calls Tryz.prog 20 #[d1.v, d2.v] w (CmpPost (composeP d1.O d1.I d2.O d2.I) w) := by
  rw [compose_ref (fun x hx => ⟨(h1.o.ok x hx).t, (h1.o.ok x hx).i⟩) (fun x hx => ⟨(h1.i.ok x hx).t, (h1.i.ok x hx).i⟩) (fun x hx => ⟨(h2.o.ok x hx).t, (h2.o.ok x hx).i⟩) (fun x hx => ⟨(h2.i.ok x hx).t, (h2.i.ok x hx).i⟩)]
  have HK1 : Hid (KC w (((w.alloc (.cells d1.arr TDl)).alloc (.cells d2.arr TDl)).alloc (.cells #[.slice none 0 0, .slice none 0 0] TDl)) w.heap.size d1 d2) := by
    have fa := fun (w : World) (o : Obj) => Fr.alloc (fun _ => False) w o
    have nn : ∀ G : List Nat, ∀ b ∈ G, ¬ False := fun _ _ _ h => h
    have e2 := Bk.new (w.alloc (.cells d1.arr TDl)) d2.arr TDl
    have e3 := Bk.new ((w.alloc (.cells d1.arr TDl)).alloc (.cells d2.arr TDl)) #[.slice none 0 0, .slice none 0 0] TDl
    simp only [World.size_alloc] at e2 e3
    exact ⟨((Bk.new w d1.arr TDl).fr (fa _ _) (nn _)).fr (fa _ _) (nn _), e2.fr (fa _ _) (nn _), e3, (((h1.keep (fa _ _)).keep (fa _ _)).keep (fa _ _)), (((h2.keep (fa _ _)).keep (fa _ _)).keep (fa _ _)),
      (((Below.refl _ w).alloc (Nat.le_refl _) _).alloc (by simp) _).alloc (by simp; omega) _, by simp⟩
  have HOk1 := Lib.hid h1.o.ok; have HOk2 := Lib.hid h2.i.ok; have HOk3 := Lib.hid h2.o.ok; have HOk4 := Lib.hid h1.i.ok
  have HE : Hid (refC d1.O d1.I d2.O d2.I = if rightB d1.O d1.I && rightB d2.O d2.I then
    (if d2.O.any (fun z => says d1.O d1.I z && !decide (z ∈ d1.I)) then (([], []), (7 : Int))
     else if d2.I.any (fun z => match fnd z d1.I with | none => false | some u => !decide (u ∈ d2.O)) then (([], []), 8)
     else ((wout (addNew d2.O d2.I d2.I d1.I) (addNew d1.O d1.I d1.O d2.O), wout (addNew d1.O d1.I d1.O d2.O) (addNew d2.O d2.I d2.I d1.I)), 0))
  else (([], []), 2)) := rfl
  generalize refC d1.O d1.I d2.O d2.I = res at *
  have kz := kz
  clear h1 h2
  go_enter Tryz.func20, Tryz.ntmps20
  go_upto_region 1 with (fail)
  generalize (((w.alloc (.cells d1.arr TDl)).alloc (.cells d2.arr TDl)).alloc (.cells #[.slice none 0 0, .slice none 0 0] TDl)) = w1 at *
  generalize hn : w.heap.size = n at *
  generalize hr4 : n + 1 + 1 = r4 at *
  have a0 : w1.cell? ⟨n, 0, none⟩ = some (.slice d1.A1 d1.O.length d1.c1) := HK1.out.b1.cell 0
  have a1 : w1.cell? ⟨n, 1, none⟩ = some (.slice d1.A2 d1.I.length d1.c2) := HK1.out.b1.cell 1
  go_wp2_with fail
  refine (Right d1 w1 HK1.out.l1 (by omega) (by omega)).mono ?_
  rintro e w2 ⟨rfl, hb⟩
  have HK2 := Lib.hid (HK1.out.below hb)
  clear hb HK1 a0 a1
  cases hr1 : rightB d1.O d1.I with
  | false =>
    have HE2 : Hid (res = (([], []), 2)) := by show _ = _; rw [HE.out, hr1]; rfl
    have c0 : w2.cell? ⟨r4, 0, none⟩ = some (.slice none 0 0) := by rw [← hr4]; exact HK2.out.b4.cell 0
    have c1 : w2.cell? ⟨r4, 1, none⟩ = some (.slice none 0 0) := by rw [← hr4]; exact HK2.out.b4.cell 1
    have f0 : w2.frozen? ⟨r4, 0, none⟩ = false := by rw [← hr4]; exact HK2.out.b4.free 0
    have f1 : w2.frozen? ⟨r4, 1, none⟩ = false := by rw [← hr4]; exact HK2.out.b4.free 1
    obtain ⟨x4, xb, -⟩ := ret4 HK2.out.b4 HK2.out.bel HK2.out.sz hr4 (.slice none 0 0) (.slice none 0 0)
    go_wp2_with fail
    exact bodyPost_ret (AvlSD.results_row_tmp (p := 4) (u := 5) (ty := TDl) rfl _ _ r4 TDl _ (0, 0) _ rfl x4 Tryz.underlying24 rfl (by kernel_rfl)) rfl (cmp_end HE2.out hn.symm xb)
  | true =>
    have e0 : w2.cell? ⟨n + 1, 0, none⟩ = some (.slice d2.A1 d2.O.length d2.c1) := HK2.out.b2.cell 0
    have e1 : w2.cell? ⟨n + 1, 1, none⟩ = some (.slice d2.A2 d2.I.length d2.c2) := HK2.out.b2.cell 1
    go_wp2_with fail
    refine (Right d2 w2 HK2.out.l2 (by omega) (by omega)).mono ?_
    rintro e w3 ⟨rfl, hb⟩
    have HK3 := Lib.hid (HK2.out.below hb)
    clear hb HK2 e0 e1
    cases hr2 : rightB d2.O d2.I with
    | false =>
      have HE2 : Hid (res = (([], []), 2)) := by show _ = _; rw [HE.out, hr1, hr2]; rfl
      have c0 : w3.cell? ⟨r4, 0, none⟩ = some (.slice none 0 0) := by rw [← hr4]; exact HK3.out.b4.cell 0
      have c1 : w3.cell? ⟨r4, 1, none⟩ = some (.slice none 0 0) := by rw [← hr4]; exact HK3.out.b4.cell 1
      have f0 : w3.frozen? ⟨r4, 0, none⟩ = false := by rw [← hr4]; exact HK3.out.b4.free 0
      have f1 : w3.frozen? ⟨r4, 1, none⟩ = false := by rw [← hr4]; exact HK3.out.b4.free 1
      obtain ⟨x4, xb, -⟩ := ret4 HK3.out.b4 HK3.out.bel HK3.out.sz hr4 (.slice none 0 0) (.slice none 0 0)
      go_wp2_with fail
      exact bodyPost_ret (AvlSD.results_row_tmp (p := 4) (u := 5) (ty := TDl) rfl _ _ r4 TDl _ (0, 0) _ rfl x4 Tryz.underlying24 rfl (by kernel_rfl)) rfl (cmp_end HE2.out hn.symm xb)
    | true =>
      have hs1 : Srs d1.O := (rightB_iff.1 hr1).1.srs
      have hs2 : Srs d2.I := (rightB_iff.1 hr2).2.1.srs
      have HS1 := Lib.hid hs1; have HS2 := Lib.hid hs2
      rw [hr1, hr2, Bool.and_true, if_pos rfl] at HE
      clear hr1 hr2 hs1 hs2
      have e0 : w3.cell? ⟨n + 1, 0, none⟩ = some (.slice d2.A1 d2.O.length d2.c1) := HK3.out.b2.cell 0
      have e1 : w3.cell? ⟨n + 1, 1, none⟩ = some (.slice d2.A2 d2.I.length d2.c2) := HK3.out.b2.cell 1
      go_wp2_with fail
      clear e0 e1
      go_loopg [6] d2.O.length (fun gk i wr => ∃ k : Nat, i = .int .i64 k ∧ k ≤ d2.O.length ∧ gk = d2.O.length - k ∧ (∀ y ∈ d2.O.take k, (says d1.O d1.I y && !decide (y ∈ d1.I)) = false) ∧ KC w wr n d1 d2)
      case atStart => exact ⟨0, rfl, Nat.zero_le _, rfl, by simp, HK3.out⟩
      case round =>
        clear HK3
        obtain ⟨k, rfl, hk, hg, hall, hkc⟩ := hrel
        have HG := Lib.hid hg; have HAll := Lib.hid hall; have HK := Lib.hid hkc
        have e0 : wr.cell? ⟨n + 1, 0, none⟩ = some (.slice d2.A1 d2.O.length d2.c1) := hkc.b2.cell 0
        have e1 : wr.cell? ⟨n + 1, 1, none⟩ = some (.slice d2.A2 d2.I.length d2.c2) := hkc.b2.cell 1
        clear hg hall hkc
        by_cases hlt : k < d2.O.length
        · obtain ⟨b1, o1, hA1, hb1, c1⟩ := HK.out.l2.o.s.at hlt (by omega)
          have HA1e := Lib.hid hA1
          clear hA1
          have HA := Lib.hid (At.row c1 hlt)
          have HSn : Hid ((says d1.O d1.I d2.O[k] && !decide (d2.O[k] ∈ d1.I)) = false → ∀ y ∈ d2.O.take (k + 1), (says d1.O d1.I y && !decide (y ∈ d1.I)) = false) := fun h => any_snoc (p := fun y => says d1.O d1.I y && !decide (y ∈ d1.I)) HAll.out hlt h
          have HHit : Hid ((says d1.O d1.I d2.O[k] && !decide (d2.O[k] ∈ d1.I)) = true → res = (([], []), 7)) := fun h => by rw [HE.out, if_pos (any_hit (p := fun y => says d1.O d1.I y && !decide (y ∈ d1.I)) hlt h)]
          clear c1 hb1
          generalize d2.O[k] = z at *
          have q2 : decide ((k : Int) < (d2.O.length : Int)) = true := by simp; omega
          go_upto_region 6 with (fail)
          clear e0 e1
          cases hs : says d1.O d1.I z with
          | false =>
            rw [hs, Bool.false_and] at HSn
            have HN := Lib.hid (HSn.out rfl)
            refine rc6a (by kernel_rfl) _ _ w wr n d1 d2 b1 o1 k z HA1e.out hlt (by omega) ⟨HK.out, HA.out⟩ hs rfl rfl rfl rfl ?_
            intro x w5 x46 hkc
            simp only [Eng.setAll, Act.put, List.setIfInBounds_toArray, List.set_cons_succ, List.set_cons_zero]
            rw [x46]
            have HK5 := Lib.hid hkc
            clear x46 hkc hs
            go_wp2_with fail
            go_roundg (d2.O.length - (k + 1))
            case rel => exact ⟨k + 1, by go_num, by omega, rfl, HN.out, HK5.out⟩
            case measure => have := HG.out; omega
          | true =>
            rw [hs, Bool.true_and] at HSn HHit
            refine rc6b (by kernel_rfl) _ _ w wr n d1 d2 b1 o1 k z HA1e.out hlt (by omega) ⟨HK.out, HA.out⟩ hs rfl rfl rfl rfl ?_
            intro x w5 x46 hkc
            simp only [Eng.setAll, Act.put, List.setIfInBounds_toArray, List.set_cons_succ, List.set_cons_zero]
            rw [x46]
            have HK5 := Lib.hid hkc
            clear x46 hkc hs
            cases hin : decide (z ∈ d1.I) with
            | true =>
              rw [hin] at HSn
              have HN := Lib.hid (HSn.out rfl)
              go_wp2_with fail
              go_roundg (d2.O.length - (k + 1))
              case rel => exact ⟨k + 1, by go_num, by omega, rfl, HN.out, HK5.out⟩
              case measure => have := HG.out; omega
            | false =>
              rw [hin] at HHit
              have HE2 := Lib.hid (HHit.out rfl)
              have c0 : w5.cell? ⟨r4, 0, none⟩ = some (.slice none 0 0) := by rw [← hr4]; exact HK5.out.b4.cell 0
              have c1 : w5.cell? ⟨r4, 1, none⟩ = some (.slice none 0 0) := by rw [← hr4]; exact HK5.out.b4.cell 1
              have f0 : w5.frozen? ⟨r4, 0, none⟩ = false := by rw [← hr4]; exact HK5.out.b4.free 0
              have f1 : w5.frozen? ⟨r4, 1, none⟩ = false := by rw [← hr4]; exact HK5.out.b4.free 1
              obtain ⟨x4, xb, -⟩ := ret4 HK5.out.b4 HK5.out.bel HK5.out.sz hr4 (.slice none 0 0) (.slice none 0 0)
              go_wp2_with fail
              exact bodyPost_ret (AvlSD.results_row_tmp (p := 4) (u := 5) (ty := TDl) rfl _ _ r4 TDl _ (0, 0) _ rfl x4 Tryz.underlying24 rfl (by kernel_rfl)) rfl (cmp_end HE2.out hn.symm xb)
        · obtain rfl : k = d2.O.length := by omega
          have q2 : decide ((d2.O.length : Int) < (d2.O.length : Int)) = false := by simp
          rw [any_all (p := fun y => says d1.O d1.I y && !decide (y ∈ d1.I)) HAll.out, if_neg (by simp)] at HE
          obtain ⟨wo, rfl⟩ : ∃ wo : World, wo = wr := ⟨_, rfl⟩
          have HK0 := HK
          clear HG HAll HK
          go_wp2_with fail
          clear e0 e1
          go_loopg [7] d2.I.length (fun gk i wr => ∃ k : Nat, i = .int .i64 k ∧ k ≤ d2.I.length ∧ gk = d2.I.length - k ∧ (∀ y ∈ d2.I.take k, (match fnd y d1.I with | none => false | some u => !decide (u ∈ d2.O)) = false) ∧ KC w wr n d1 d2)
          case atStart => exact ⟨0, rfl, Nat.zero_le _, rfl, by simp, HK0.out⟩
          case round =>
            clear HK0
            obtain ⟨k, rfl, hk, hg, hall, hkc⟩ := hrel
            have HG := Lib.hid hg; have HAll := Lib.hid hall; have HK := Lib.hid hkc
            have e0 : wr.cell? ⟨n + 1, 0, none⟩ = some (.slice d2.A1 d2.O.length d2.c1) := hkc.b2.cell 0
            have e1 : wr.cell? ⟨n + 1, 1, none⟩ = some (.slice d2.A2 d2.I.length d2.c2) := hkc.b2.cell 1
            clear hg hall hkc
            by_cases hlt : k < d2.I.length
            · obtain ⟨b1, o1, hA1, hb1, c1⟩ := HK.out.l2.i.s.at hlt (by omega)
              have HA1e := Lib.hid hA1
              clear hA1
              have HA := Lib.hid (At.row c1 hlt)
              have HSn : Hid ((match fnd d2.I[k] d1.I with | none => false | some u => !decide (u ∈ d2.O)) = false → ∀ y ∈ d2.I.take (k + 1), (match fnd y d1.I with | none => false | some u => !decide (u ∈ d2.O)) = false) := fun h => any_snoc (p := fun y => match fnd y d1.I with | none => false | some u => !decide (u ∈ d2.O)) HAll.out hlt h
              have HHit : Hid ((match fnd d2.I[k] d1.I with | none => false | some u => !decide (u ∈ d2.O)) = true → res = (([], []), 8)) := fun h => by rw [HE.out, if_pos (any_hit (p := fun y => match fnd y d1.I with | none => false | some u => !decide (u ∈ d2.O)) hlt h)]
              clear c1 hb1
              generalize d2.I[k] = z at *
              have q2 : decide ((k : Int) < (d2.I.length : Int)) = true := by simp; omega
              go_upto_region 11 with (fail)
              clear e0 e1
              refine rc11 (by kernel_rfl) _ _ w wr n d1 d2 b1 o1 k z HA1e.out hlt (by omega) ⟨HK.out, HA.out⟩ rfl rfl rfl rfl ?_
              intro x w5 x8 hkc
              simp only [Eng.setAll, Act.put, List.setIfInBounds_toArray, List.set_cons_succ, List.set_cons_zero]
              rw [x8]
              have HK5 := Lib.hid hkc
              clear x8 hkc HK HA
              go_upto_region 12 with (fail)
              cases hfn : fnd z d1.I with
              | none =>
                rw [hfn] at HSn
                have HN := Lib.hid (HSn.out rfl)
                rw [posI_none hfn]
                refine rc12a (by kernel_rfl) _ _ w w5 n d1 d2 HK5.out rfl rfl ?_
                intro x w6 x75 hkc
                simp only [Eng.setAll, Act.put, List.setIfInBounds_toArray, List.set_cons_succ, List.set_cons_zero]
                rw [x75]
                have HK6 := Lib.hid hkc
                clear x75 hkc hfn HK5
                go_wp2_with fail
                go_roundg (d2.I.length - (k + 1))
                case rel => exact ⟨k + 1, by go_num, by omega, rfl, HN.out, HK6.out⟩
                case measure => have := HG.out; omega
              | some u =>
                rw [hfn] at HSn HHit
                obtain ⟨j, hj, hp, rfl⟩ := posI_some hfn
                obtain ⟨b2, o2, hA2, hb2, c2⟩ := HK5.out.l1.i.s.at hj (by omega)
                have HA2e := Lib.hid hA2
                clear hA2
                have HA2 := Lib.hid (At.row c2 hj)
                rw [hp]
                refine rc12b (by kernel_rfl) _ _ w w5 n d1 d2 b2 o2 j d1.I[j] HA2e.out hj (by omega) ⟨HK5.out, HA2.out⟩ rfl rfl rfl rfl ?_
                intro x w6 x75 hkc
                simp only [Eng.setAll, Act.put, List.setIfInBounds_toArray, List.set_cons_succ, List.set_cons_zero]
                rw [x75]
                have HK6 := Lib.hid hkc
                clear x75 hkc hfn HK5 HA2 c2 hb2
                cases hin : decide (d1.I[j] ∈ d2.O) with
                | true =>
                  have HN := Lib.hid (HSn.out (by show (!decide (d1.I[j] ∈ d2.O)) = false; rw [hin]; rfl))
                  go_wp2_with fail
                  go_roundg (d2.I.length - (k + 1))
                  case rel => exact ⟨k + 1, by go_num, by omega, rfl, HN.out, HK6.out⟩
                  case measure => have := HG.out; omega
                | false =>
                  have HE2 := Lib.hid (HHit.out (by show (!decide (d1.I[j] ∈ d2.O)) = true; rw [hin]; rfl))
                  have c0 : w6.cell? ⟨r4, 0, none⟩ = some (.slice none 0 0) := by rw [← hr4]; exact HK6.out.b4.cell 0
                  have c1 : w6.cell? ⟨r4, 1, none⟩ = some (.slice none 0 0) := by rw [← hr4]; exact HK6.out.b4.cell 1
                  have f0 : w6.frozen? ⟨r4, 0, none⟩ = false := by rw [← hr4]; exact HK6.out.b4.free 0
                  have f1 : w6.frozen? ⟨r4, 1, none⟩ = false := by rw [← hr4]; exact HK6.out.b4.free 1
                  obtain ⟨x4, xb, -⟩ := ret4 HK6.out.b4 HK6.out.bel HK6.out.sz hr4 (.slice none 0 0) (.slice none 0 0)
                  go_wp2_with fail
                  exact bodyPost_ret (AvlSD.results_row_tmp (p := 4) (u := 5) (ty := TDl) rfl _ _ r4 TDl _ (0, 0) _ rfl x4 Tryz.underlying24 rfl (by kernel_rfl)) rfl (cmp_end HE2.out hn.symm xb)
            · obtain rfl : k = d2.I.length := by omega
              have q2 : decide ((d2.I.length : Int) < (d2.I.length : Int)) = false := by simp
              rw [any_all (p := fun y => match fnd y d1.I with | none => false | some u => !decide (u ∈ d2.O)) HAll.out, if_neg (by simp)] at HE
              obtain ⟨wo, rfl⟩ : ∃ wo : World, wo = wr := ⟨_, rfl⟩
              go_upto_region 14 with (fail)
              clear e0 e1 HAll HG
              refine rc14 (by kernel_rfl) _ _ w wo n d1 d2 HK.out rfl rfl rfl ?_
              intro x w7 x9 x10 hkc
              simp only [Eng.setAll, Act.put, List.setIfInBounds_toArray, List.set_cons_succ, List.set_cons_zero]
              rw [x9, x10]
              have HK7 := Lib.hid hkc
              clear x9 x10 hkc HK
              have e0 : w7.cell? ⟨n + 1, 0, none⟩ = some (.slice d2.A1 d2.O.length d2.c1) := HK7.out.b2.cell 0
              have e1 : w7.cell? ⟨n + 1, 1, none⟩ = some (.slice d2.A2 d2.I.length d2.c2) := HK7.out.b2.cell 1
              go_wp2_with fail
              clear e0 e1
              go_loopg [9, 11] d2.O.length (fun gk v i wr => ∃ k : Nat, i = .int .i64 k ∧ k ≤ d2.O.length ∧ gk = d2.O.length - k ∧ KC w wr n d1 d2 ∧ ∃ A c, v = .slice A (addNew d1.O d1.I d1.O (d2.O.take k)).length c ∧ SetF.Ls wr A c (addNew d1.O d1.I d1.O (d2.O.take k)) ∧ (addNew d1.O d1.I d1.O (d2.O.take k)).length ≤ d1.O.length + k)
              case atStart => exact ⟨0, rfl, Nat.zero_le _, rfl, HK7.out, d1.A1, d1.c1, rfl, HK7.out.l1.o, Nat.le_refl _⟩
              case round =>
                clear HK7
                obtain ⟨k, rfl, hk, hg, hkc, A5, c5, rfl, hls, hln⟩ := hrel
                have HG := Lib.hid hg; have HK := Lib.hid hkc; have HN := Lib.hid hls
                have a0 : wr.cell? ⟨n, 0, none⟩ = some (.slice d1.A1 d1.O.length d1.c1) := hkc.b1.cell 0
                have a1 : wr.cell? ⟨n, 1, none⟩ = some (.slice d1.A2 d1.I.length d1.c2) := hkc.b1.cell 1
                have e0 : wr.cell? ⟨n + 1, 0, none⟩ = some (.slice d2.A1 d2.O.length d2.c1) := hkc.b2.cell 0
                have e1 : wr.cell? ⟨n + 1, 1, none⟩ = some (.slice d2.A2 d2.I.length d2.c2) := hkc.b2.cell 1
                clear hg hkc hls
                by_cases hlt : k < d2.O.length
                · obtain ⟨b1, o1, hA1, hb1, c1⟩ := HK.out.l2.o.s.at hlt (by omega)
                  have HA1e := Lib.hid hA1
                  clear hA1
                  have HA := Lib.hid (At.row c1 hlt)
                  have HYo := Lib.hid (HOk3.out _ (List.getElem_mem hlt))
                  have HSn : Hid (addNew d1.O d1.I d1.O (d2.O.take (k + 1)) = if says d1.O d1.I d2.O[k] then addNew d1.O d1.I d1.O (d2.O.take k) else ins d2.O[k] (addNew d1.O d1.I d1.O (d2.O.take k))) := foldl_snoc' _ _ hlt
                  have hsN := addNew_srs d1.O d1.I (M := d2.O.take k) HS1.out
                  clear c1 hb1
                  generalize d2.O[k] = z at *
                  generalize addNew d1.O d1.I d1.O (d2.O.take k) = N at *
                  have HLn := Lib.hid (SetP.ins_len z hsN)
                  have q1 : (0 : Int) ≤ (k : Int) := by omega
                  have q2 : decide ((k : Int) < (d2.O.length : Int)) = true := by simp; omega
                  have q3 : (k : Int) < (d2.O.length : Int) := by omega
                  clear hsN
                  go_upto_region 18 with (fail)
                  clear a0 a1 e0 e1
                  obtain ⟨q, hq⟩ : ∃ q, says d1.O d1.I z = q := ⟨_, rfl⟩
                  refine rc18 (by kernel_rfl) _ _ wr w wr n d1 d2 b1 o1 k z HA1e.out hlt (by omega) ⟨HK.out, HA.out, Fr.refl _ _⟩ q hq rfl rfl rfl rfl ?_
                  intro x w8 x95 hkc hf
                  simp only [Eng.setAll, Act.put, List.setIfInBounds_toArray, List.set_cons_succ, List.set_cons_zero]
                  rw [x95]
                  rw [hq] at HSn
                  have HK8 := Lib.hid hkc; have HN8 := Lib.hid (HN.out.keep hf); have HA8 := Lib.hid (HA.out.keep hf)
                  clear x95 hkc hf hq HK HN HA
                  cases q with
                  | true =>
                    rw [if_pos rfl] at HSn
                    go_wp2_with fail
                    go_roundg (d2.O.length - (k + 1))
                    case rel => exact ⟨k + 1, by go_num, by omega, rfl, HK8.out, A5, c5, by rw [HSn.out], by rw [HSn.out]; exact HN8.out, by rw [HSn.out]; omega⟩
                    case measure => have := HG.out; omega
                  | false =>
                    rw [if_neg (by simp)] at HSn
                    have e0 : w8.cell? ⟨n + 1, 0, none⟩ = some (.slice d2.A1 d2.O.length d2.c1) := HK8.out.b2.cell 0
                    have e1 : w8.cell? ⟨n + 1, 1, none⟩ = some (.slice d2.A2 d2.I.length d2.c2) := HK8.out.b2.cell 1
                    rw [HA1e.out] at e0
                    have zc0 : w8.cell? ⟨b1, o1 + k * 9, none⟩ = some (.int .i64 z.t) := HA8.out 0 _ rfl
                    have zc1 : w8.cell? ⟨b1, o1 + k * 9 + 1, none⟩ = some (.int .i64 z.i) := HA8.out 1 _ rfl
                    have zc2 : w8.cell? ⟨b1, o1 + k * 9 + 1 + 1, none⟩ = some (.int .i64 z.p) := HA8.out 2 _ rfl
                    have zc3 : w8.cell? ⟨b1, o1 + k * 9 + 1 + 1 + 1, none⟩ = some (.int .i64 z.r) := HA8.out 3 _ rfl
                    have zc4 : w8.cell? ⟨b1, o1 + k * 9 + 1 + 1 + 1 + 1, none⟩ = some (.string z.s) := HA8.out 4 _ rfl
                    have zc5 : w8.cell? ⟨b1, o1 + k * 9 + 1 + 1 + 1 + 1 + 1, none⟩ = some (.string z.o) := HA8.out 5 _ rfl
                    have zc6 : w8.cell? ⟨b1, o1 + k * 9 + 1 + 1 + 1 + 1 + 1 + 1, none⟩ = some (.int .i64 z.b) := HA8.out 6 _ rfl
                    have zc7 : w8.cell? ⟨b1, o1 + k * 9 + 1 + 1 + 1 + 1 + 1 + 1 + 1, none⟩ = some (.int .i64 z.d) := HA8.out 7 _ rfl
                    have zc8 : w8.cell? ⟨b1, o1 + k * 9 + 1 + 1 + 1 + 1 + 1 + 1 + 1 + 1, none⟩ = some (.bool z.g) := HA8.out 8 _ rfl
                    go_wp2_with fail
                    refine (InsertL HN8.out HYo.out (by omega)).mono ?_
                    rintro e w9 ⟨A7, c7, rfl, hls, -, hb⟩
                    have HK9 := Lib.hid (HK8.out.below hb); have HN9 := Lib.hid hls
                    clear hb hls HK8 HN8 HA8 e0 e1 zc0 zc1 zc2 zc3 zc4 zc5 zc6 zc7 zc8
                    go_wp2_with fail
                    go_roundg (d2.O.length - (k + 1))
                    case rel => exact ⟨k + 1, by go_num, by omega, rfl, HK9.out, A7, c7, by rw [HSn.out], by rw [HSn.out]; exact HN9.out, by rw [HSn.out]; have := HLn.out; omega⟩
                    case measure => have := HG.out; omega
                · obtain rfl : k = d2.O.length := by omega
                  have q2 : decide ((d2.O.length : Int) < (d2.O.length : Int)) = false := by simp
                  rw [List.take_length] at HN hln
                  rw [List.take_length]
                  obtain ⟨wo, rfl⟩ : ∃ wo : World, wo = wr := ⟨_, rfl⟩
                  have HK0 := HK
                  have HLo : Hid ((addNew d1.O d1.I d1.O d2.O).length ≤ 1000000) := by show _ ≤ _; omega
                  have HNO := Lib.hid HN.out.s
                  obtain ⟨P, hP⟩ : ∃ P, addNew d1.O d1.I d1.O d2.O = P := ⟨_, rfl⟩
                  rw [hP] at HN HLo HE
                  rw [hP]
                  clear HG HK hln hP HNO
                  go_wp2_with fail
                  clear a0 a1 e0 e1
                  go_loopg [10, 12] d1.I.length (fun gk v i wr => ∃ k : Nat, i = .int .i64 k ∧ k ≤ d1.I.length ∧ gk = d1.I.length - k ∧ KC w wr n d1 d2 ∧ SetF.Ls wr A5 c5 P ∧ ∃ A c, v = .slice A (addNew d2.O d2.I d2.I (d1.I.take k)).length c ∧ SetF.Ls wr A c (addNew d2.O d2.I d2.I (d1.I.take k)) ∧ (addNew d2.O d2.I d2.I (d1.I.take k)).length ≤ d2.I.length + k)
                  case atStart => exact ⟨0, rfl, Nat.zero_le _, rfl, HK0.out, HN.out, d2.A2, d2.c2, rfl, HK0.out.l2.i, Nat.le_refl _⟩
                  case round =>
                    clear HK0 HN
                    obtain ⟨k, rfl, hk, hg, hkc, hlp, A6, c6, rfl, hls, hln⟩ := hrel
                    have HG := Lib.hid hg; have HK := Lib.hid hkc; have HN := Lib.hid hls; have HP := Lib.hid hlp
                    have a0 : wr.cell? ⟨n, 0, none⟩ = some (.slice d1.A1 d1.O.length d1.c1) := hkc.b1.cell 0
                    have a1 : wr.cell? ⟨n, 1, none⟩ = some (.slice d1.A2 d1.I.length d1.c2) := hkc.b1.cell 1
                    have e0 : wr.cell? ⟨n + 1, 0, none⟩ = some (.slice d2.A1 d2.O.length d2.c1) := hkc.b2.cell 0
                    have e1 : wr.cell? ⟨n + 1, 1, none⟩ = some (.slice d2.A2 d2.I.length d2.c2) := hkc.b2.cell 1
                    clear hg hkc hls hlp
                    by_cases hlt : k < d1.I.length
                    · obtain ⟨b1, o1, hA1, hb1, c1⟩ := HK.out.l1.i.s.at hlt (by omega)
                      have HA1e := Lib.hid hA1
                      clear hA1
                      have HA := Lib.hid (At.row c1 hlt)
                      have HYo := Lib.hid (HOk4.out _ (List.getElem_mem hlt))
                      have HSn : Hid (addNew d2.O d2.I d2.I (d1.I.take (k + 1)) = if says d2.O d2.I d1.I[k] then addNew d2.O d2.I d2.I (d1.I.take k) else ins d1.I[k] (addNew d2.O d2.I d2.I (d1.I.take k))) := foldl_snoc' _ _ hlt
                      have hsN := addNew_srs d2.O d2.I (M := d1.I.take k) HS2.out
                      clear c1 hb1
                      generalize d1.I[k] = z at *
                      generalize addNew d2.O d2.I d2.I (d1.I.take k) = N at *
                      have HLn := Lib.hid (SetP.ins_len z hsN)
                      have q1 : (0 : Int) ≤ (k : Int) := by omega
                      have q2 : decide ((k : Int) < (d1.I.length : Int)) = true := by simp; omega
                      have q3 : (k : Int) < (d1.I.length : Int) := by omega
                      clear hsN
                      go_upto_region 23 with (fail)
                      clear a0 a1 e0 e1
                      obtain ⟨q, hq⟩ : ∃ q, says d2.O d2.I z = q := ⟨_, rfl⟩
                      refine rc23 (by kernel_rfl) _ _ wr w wr n d1 d2 b1 o1 k z HA1e.out hlt (by omega) ⟨HK.out, HA.out, Fr.refl _ _⟩ q hq rfl rfl rfl rfl ?_
                      intro x w8 x117 hkc hf
                      simp only [Eng.setAll, Act.put, List.setIfInBounds_toArray, List.set_cons_succ, List.set_cons_zero]
                      rw [x117]
                      rw [hq] at HSn
                      have HK8 := Lib.hid hkc; have HN8 := Lib.hid (HN.out.keep hf); have HA8 := Lib.hid (HA.out.keep hf); have HP8 := Lib.hid (HP.out.keep hf)
                      clear x117 hkc hf hq HK HN HA HP
                      cases q with
                      | true =>
                        rw [if_pos rfl] at HSn
                        go_wp2_with fail
                        go_roundg (d1.I.length - (k + 1))
                        case rel => exact ⟨k + 1, by go_num, by omega, rfl, HK8.out, HP8.out, A6, c6, by rw [HSn.out], by rw [HSn.out]; exact HN8.out, by rw [HSn.out]; omega⟩
                        case measure => have := HG.out; omega
                      | false =>
                        rw [if_neg (by simp)] at HSn
                        have a0 : w8.cell? ⟨n, 0, none⟩ = some (.slice d1.A1 d1.O.length d1.c1) := HK8.out.b1.cell 0
                        have a1 : w8.cell? ⟨n, 1, none⟩ = some (.slice d1.A2 d1.I.length d1.c2) := HK8.out.b1.cell 1
                        rw [HA1e.out] at a1
                        have zc0 : w8.cell? ⟨b1, o1 + k * 9, none⟩ = some (.int .i64 z.t) := HA8.out 0 _ rfl
                        have zc1 : w8.cell? ⟨b1, o1 + k * 9 + 1, none⟩ = some (.int .i64 z.i) := HA8.out 1 _ rfl
                        have zc2 : w8.cell? ⟨b1, o1 + k * 9 + 1 + 1, none⟩ = some (.int .i64 z.p) := HA8.out 2 _ rfl
                        have zc3 : w8.cell? ⟨b1, o1 + k * 9 + 1 + 1 + 1, none⟩ = some (.int .i64 z.r) := HA8.out 3 _ rfl
                        have zc4 : w8.cell? ⟨b1, o1 + k * 9 + 1 + 1 + 1 + 1, none⟩ = some (.string z.s) := HA8.out 4 _ rfl
                        have zc5 : w8.cell? ⟨b1, o1 + k * 9 + 1 + 1 + 1 + 1 + 1, none⟩ = some (.string z.o) := HA8.out 5 _ rfl
                        have zc6 : w8.cell? ⟨b1, o1 + k * 9 + 1 + 1 + 1 + 1 + 1 + 1, none⟩ = some (.int .i64 z.b) := HA8.out 6 _ rfl
                        have zc7 : w8.cell? ⟨b1, o1 + k * 9 + 1 + 1 + 1 + 1 + 1 + 1 + 1, none⟩ = some (.int .i64 z.d) := HA8.out 7 _ rfl
                        have zc8 : w8.cell? ⟨b1, o1 + k * 9 + 1 + 1 + 1 + 1 + 1 + 1 + 1 + 1, none⟩ = some (.bool z.g) := HA8.out 8 _ rfl
                        go_wp2_with fail
                        refine (InsertL HN8.out HYo.out (by omega)).mono ?_
                        rintro e w9 ⟨A7, c7, rfl, hls, -, hb⟩
                        have HK9 := Lib.hid (HK8.out.below hb); have HN9 := Lib.hid hls; have HP9 := Lib.hid (HP8.out.below hb)
                        clear hb hls HK8 HN8 HA8 HP8 a0 a1 zc0 zc1 zc2 zc3 zc4 zc5 zc6 zc7 zc8
                        go_wp2_with fail
                        go_roundg (d1.I.length - (k + 1))
                        case rel => exact ⟨k + 1, by go_num, by omega, rfl, HK9.out, HP9.out, A7, c7, by rw [HSn.out], by rw [HSn.out]; exact HN9.out, by rw [HSn.out]; have := HLn.out; omega⟩
                        case measure => have := HG.out; omega
                    · obtain rfl : k = d1.I.length := by omega
                      have q2 : decide ((d1.I.length : Int) < (d1.I.length : Int)) = false := by simp
                      rw [List.take_length] at HN hln
                      rw [List.take_length]
                      have hLi : (addNew d2.O d2.I d2.I d1.I).length ≤ 1000000 := by omega
                      obtain ⟨Q, hQ⟩ : ∃ Q, addNew d2.O d2.I d2.I d1.I = Q := ⟨_, rfl⟩
                      rw [hQ] at HN hLi HE
                      rw [hQ]
                      have HLi := Lib.hid hLi
                      clear HG hln hQ hLi
                      go_wp2_with fail
                      refine (WithoutL HP.out HN.out HLo.out).mono ?_
                      rintro e w9 ⟨A7, c7, rfl, hls, ho, hb⟩
                      have hn7 : ∀ q, A7 = some q → n < q.block ∧ q.block ≠ r4 := by
                        obtain ⟨A', c', he, -, h3⟩ := Sl.of_own ho
                        cases he
                        exact fun q hq => by have := (h3 q hq).1; have := HK.out.sz; omega
                      have HN7 := Lib.hid hn7
                      have HO := Lib.hid hls; have HK9 := Lib.hid (HK.out.below hb); have HP9 := Lib.hid (HP.out.below hb); have HN9 := Lib.hid (HN.out.below hb)
                      clear hn7 ho hls hb HK HP HN
                      go_wp2_with fail
                      refine (WithoutL HN9.out HP9.out HLi.out).mono ?_
                      rintro e w10 ⟨A8, c8, rfl, hls, ho, hb⟩
                      have hn8 : ∀ q, A8 = some q → n < q.block ∧ q.block ≠ r4 := by
                        obtain ⟨A', c', he, -, h3⟩ := Sl.of_own ho
                        cases he
                        exact fun q hq => by have := (h3 q hq).1; have := HK9.out.sz; omega
                      have HN8 := Lib.hid hn8
                      have HI := Lib.hid hls; have HK10 := Lib.hid (HK9.out.below hb); have HO10 := Lib.hid (HO.out.below hb)
                      clear hn8 ho hls hb HK9 HP9 HN9 HO
                      generalize wout Q P = O at *
                      generalize wout P Q = I at *
                      have kb : ∀ W : World, (Instr.build TDl #[(0, .slice A7 O.length c7), (1, .slice A8 I.length c8)]).run Tryz.prog W = .ok (.agg #[.slice A7 O.length c7, .slice A8 I.length c8]) W := fun W => by kernel_rfl
                      have c0 : w10.cell? ⟨r4, 0, none⟩ = some (.slice none 0 0) := by rw [← hr4]; exact HK10.out.b4.cell 0
                      have c1 : w10.cell? ⟨r4, 1, none⟩ = some (.slice none 0 0) := by rw [← hr4]; exact HK10.out.b4.cell 1
                      have f0 : w10.frozen? ⟨r4, 0, none⟩ = false := by rw [← hr4]; exact HK10.out.b4.free 0
                      have f1 : w10.frozen? ⟨r4, 1, none⟩ = false := by rw [← hr4]; exact HK10.out.b4.free 1
                      obtain ⟨x4, xb, xf⟩ := ret4 HK10.out.b4 HK10.out.bel HK10.out.sz hr4 (.slice A7 O.length c7) (.slice A8 I.length c8)
                      have X4 := Lib.hid x4; have XB := Lib.hid xb; have XF := Lib.hid xf
                      clear x4 xb xf e0 e1
                      go_wp2_with fail
                      refine bodyPost_ret (AvlSD.results_row_tmp (p := 4) (u := 5) (ty := TDl) rfl _ _ r4 TDl _ (0, 0) _ rfl X4.out Tryz.underlying24 rfl (by kernel_rfl)) rfl ?_
                      rw [HE.out]
                      exact ⟨A7, c7, A8, c8, rfl, ⟨HO10.out.fr XF.out (fun q hq e => (HN7.out q hq).2 e), HI.out.fr XF.out (fun q hq e => (HN8.out q hq).2 e)⟩, by rw [hn]; exact XB.out⟩
end RefD
end Go.Proofs.YtkhhdadlpilbmaaGreat
