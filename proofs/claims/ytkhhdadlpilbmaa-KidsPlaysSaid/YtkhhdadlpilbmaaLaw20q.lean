/- Layer 20's statements: KidsPlays: for every input the answer is true. -/
import Derived.Test.YtkhhdadlpilbmaaLaw20p
namespace Go.Proofs.Ytkhhdadlpilbmaa
open Go.RowKit
namespace Law20
open KeyP SetP KidsP Kds
def PPost (w : World) (B Bx : Nat) (n : Nat) (wr : World) : Prop := ∃ L F FX, Zs w.heap.size w wr [F, FX] ∧ IB wr B L F ∧ Ref20.RX wr Bx L FX ∧ L.length ≤ n
theorem start (w : World) : PPost w w.heap.size (w.heap.size + 1) 0 ((w.alloc (.cells (cellsX none 0 none 0) TX)).alloc (.cells #[.slice none 0 0] Ref20.TR)) := by
  have z := ((Zs.start w).alloc (.cells (cellsX none 0 none 0) TX)).alloc (.cells #[.slice none 0 0] Ref20.TR)
  have h1 := (IB.new w).fr (Fr.alloc (fun _ => False) _ (.cells #[.slice none 0 0] Ref20.TR)) (fun _ _ h => h)
  have h2 := RX_new (w.alloc (.cells (cellsX none 0 none 0) TX))
  simp only [World.size_alloc, List.nil_append, List.cons_append] at z h2
  exact ⟨_, _, _, z, h1, h2, by simp⟩
set_option maxRecDepth 100000 in
set_option maxHeartbeats 2000000 in
theorem plays (A0 : Option Addr) (c0 : Nat) (acts : List Ac) (w : World) (hS0 : Sl w 10 A0 acts.length c0 (acts.flatMap ac)) (hG : ∀ a ∈ acts, a.s.ok) :
    Calls Try.prog 3 #[.slice A0 acts.length c0] w fun e w' => e = .returned (.bool true) ∧ Below w.heap.size w w' := by
  by_cases hfew : 40 < acts.length
  · have t1 : decide (40 < acts.length) = true := by simpa using hfew
    have t2 : decide ((40 : Int) < (acts.length : Int)) = true := by simp; omega
    have HA := Lib.hid (awake w)
    clear hfew hS0 hG
    go_enter Try.func3, Try.ntmps3
    go_wp2_with fail
    refine HA.out.mono ?_
    rintro e w1 ⟨rfl, hb⟩
    have HB := Lib.hid hb
    clear hb
    go_wp2_with fail
    go_ret
    exact ⟨rfl, HB.out.below (Nat.le_refl _) (fun _ _ h => h)⟩
  · have t1 : decide (40 < acts.length) = false := by simpa using hfew
    have t2 : decide ((40 : Int) < (acts.length : Int)) = false := by simp; omega
    have hl : acts.length ≤ 40 := by omega
    have HL0 := Lib.hid hS0; have HGa := Lib.hid hG
    have HS0 := Lib.hid (start w)
    clear hS0 hfew hG
    go_enter Try.func3, Try.ntmps3
    go_wp2_with fail
    generalize (w.alloc (.cells (cellsX none 0 none 0) TX)).alloc (.cells #[.slice none 0 0] Ref20.TR) = w3 at *
    generalize hB : w.heap.size = B at *
    have HBB := Lib.hid hB
    clear hB
    generalize B + 1 = Bx at *
    go_loopg [6, 7, 8, 9, 10, 11, 12, 13, 14, 15] acts.length (fun gk i _ _ _ _ _ _ _ _ _ wr => ∃ j : Nat, i = .int .i64 j ∧ j ≤ acts.length ∧ gk = acts.length - j ∧ PPost w B Bx j wr)
    case atStart => exact ⟨0, rfl, Nat.zero_le _, rfl, HS0.out⟩
    case round =>
      clear HS0
      obtain ⟨j, rfl, hj, hg, L, F, FX, hz, hi, hx, hln⟩ := hrel
      have HG := Lib.hid hg; have HZ := Lib.hid hz; have HI := Lib.hid hi; have HR := Lib.hid hx; have HLn0 := Lib.hid hln
      have hll : L.length ≤ 40 := by omega
      clear hg hz hi hx hln
      by_cases hlt : j < acts.length
      · obtain ⟨b1, o1, rfl, hb1, hcs⟩ := HL0.out.at hlt (by omega)
        have d0 : wr.cell? ⟨b1, o1 + j * 10, none⟩ = some (.int .i64 acts[j].k) := (HZ.out.bel.cell (p := ⟨b1, _, none⟩) hb1).trans (hcs (j * 10) _ (by rw [← Nat.add_zero (j * 10), flat_at ac_len hlt (by omega)]; rfl))
        have e0 : wr.cell? ⟨b1, o1 + j * 10 + 1, none⟩ = some (.int .i64 acts[j].s.t) := (HZ.out.bel.cell (p := ⟨b1, _, none⟩) hb1).trans (hcs (j * 10 + 1) _ (by rw [flat_at ac_len hlt (by omega)]; rfl))
        have e1 : wr.cell? ⟨b1, o1 + j * 10 + 1 + 1, none⟩ = some (.int .i64 acts[j].s.i) := (HZ.out.bel.cell (p := ⟨b1, _, none⟩) hb1).trans (hcs (j * 10 + 2) _ (by rw [flat_at ac_len hlt (by omega)]; rfl))
        have e2 : wr.cell? ⟨b1, o1 + j * 10 + 1 + 1 + 1, none⟩ = some (.int .i64 acts[j].s.p) := (HZ.out.bel.cell (p := ⟨b1, _, none⟩) hb1).trans (hcs (j * 10 + 3) _ (by rw [flat_at ac_len hlt (by omega)]; rfl))
        have e3 : wr.cell? ⟨b1, o1 + j * 10 + 1 + 1 + 1 + 1, none⟩ = some (.int .i64 acts[j].s.r) := (HZ.out.bel.cell (p := ⟨b1, _, none⟩) hb1).trans (hcs (j * 10 + 4) _ (by rw [flat_at ac_len hlt (by omega)]; rfl))
        have e4 : wr.cell? ⟨b1, o1 + j * 10 + 1 + 1 + 1 + 1 + 1, none⟩ = some (.string acts[j].s.s) := (HZ.out.bel.cell (p := ⟨b1, _, none⟩) hb1).trans (hcs (j * 10 + 5) _ (by rw [flat_at ac_len hlt (by omega)]; rfl))
        have e5 : wr.cell? ⟨b1, o1 + j * 10 + 1 + 1 + 1 + 1 + 1 + 1, none⟩ = some (.string acts[j].s.o) := (HZ.out.bel.cell (p := ⟨b1, _, none⟩) hb1).trans (hcs (j * 10 + 6) _ (by rw [flat_at ac_len hlt (by omega)]; rfl))
        have e6 : wr.cell? ⟨b1, o1 + j * 10 + 1 + 1 + 1 + 1 + 1 + 1 + 1, none⟩ = some (.int .i64 acts[j].s.b) := (HZ.out.bel.cell (p := ⟨b1, _, none⟩) hb1).trans (hcs (j * 10 + 7) _ (by rw [flat_at ac_len hlt (by omega)]; rfl))
        have e7 : wr.cell? ⟨b1, o1 + j * 10 + 1 + 1 + 1 + 1 + 1 + 1 + 1 + 1, none⟩ = some (.int .i64 acts[j].s.d) := (HZ.out.bel.cell (p := ⟨b1, _, none⟩) hb1).trans (hcs (j * 10 + 8) _ (by rw [flat_at ac_len hlt (by omega)]; rfl))
        have e8 : wr.cell? ⟨b1, o1 + j * 10 + 1 + 1 + 1 + 1 + 1 + 1 + 1 + 1 + 1, none⟩ = some (.bool acts[j].s.g) := (HZ.out.bel.cell (p := ⟨b1, _, none⟩) hb1).trans (hcs (j * 10 + 9) _ (by rw [flat_at ac_len hlt (by omega)]; rfl))
        have HGy := Lib.hid (HGa.out _ (List.getElem_mem hlt))
        have HD0 := Lib.hid (hcs (j * 10) (.int .i64 acts[j].k) (by rw [← Nat.add_zero (j * 10), flat_at ac_len hlt (by omega)]; rfl))
        clear hcs
        generalize acts[j] = y at *
        obtain ⟨kd, q⟩ := y
        dsimp only at d0 e0 e1 e2 e3 e4 e5 e6 e7 e8 HGy HD0
        have HSt1 : Hid (S3 w (wr.alloc (.cells q.arr TSn)) B Bx wr.heap.size L F FX q) :=
          ⟨HZ.out.alloc _, HI.out.fr (Fr.alloc (fun _ => False) _ _) (fun _ _ h => h), HR.out.fr (Fr.alloc (fun _ => False) _ _) (fun _ _ h => h), Bk.new _ _ _⟩
        have HSrs := Lib.hid HI.out.rel.1
        have HGd : Hid (gd q) := ok_gd HGy.out
        clear HZ HI HR
        go_upto_region 10 with (fail)
        clear d0 e0 e1 e2 e3 e4 e5 e6 e7 e8
        generalize (wr.alloc (.cells q.arr TSn)) = W1 at *
        generalize wr.heap.size = Ba at *
        have d0 : W1.cell? ⟨b1, o1 + j * 10, none⟩ = some (.int .i64 kd) := (HSt1.out.zs.bel.cell (p := ⟨b1, _, none⟩) hb1).trans HD0.out
        by_cases h1 : kd = 2
        · have k1 : (kd == 2) = true := by simp [h1]
          clear h1
          go_upto_region 11 with (fail)
          refine kp11 (by kernel_rfl) _ _ w _ B Bx Ba L F FX q HSt1.out HGd.out HSrs.out (by omega) rfl rfl rfl rfl rfl ?_
          intro x wk x58 hst
          simp only [Eng.setAll, Act.put, List.setIfInBounds_toArray, List.set_cons_succ, List.set_cons_zero]
          rw [x58]
          obtain ⟨F2, FX2, hst⟩ := hst
          have HX := Lib.hid hst
          clear hst x58 HSt1 d0
          have HLn : Hid ((out q.t q.i L).length ≤ j + 1) := by have := out_len q.t q.i L; have := HLn0.out; show _ ≤ _; omega
          have hsz : (out q.t q.i L).length < 1000000 := by have := HLn.out; omega
          generalize out q.t q.i L = L2 at *
          obtain ⟨wo, rfl⟩ : ∃ wo : World, wo = wk := ⟨_, rfl⟩
          have kc0 : wo.cell? ⟨Ba, 0, none⟩ = some (.int .i64 q.t) := HX.out.at 0 _ rfl
          have kc1 : wo.cell? ⟨Ba, 1, none⟩ = some (.int .i64 q.i) := HX.out.at 1 _ rfl
          have kc2 : wo.cell? ⟨Ba, 2, none⟩ = some (.int .i64 q.p) := HX.out.at 2 _ rfl
          have HS4 : Hid (S4 w (wo.alloc (.cells #[.int .i64 q.i, .int .i64 q.p, .int .i64 0, .int .i64 q.t] TI)) B Bx Ba wo.heap.size L2 F2 FX2 q [q.i, q.p, 0, q.t]) := ⟨HX.out.fr (Fr.alloc _ _ _), Bk.new _ _ _⟩
          have HAs : Hid (∀ k (h : k < [q.i, q.p, 0, q.t].length), wf64 ([q.i, q.p, 0, q.t][k])) := fun k h => by
            have h1 := HGd.out
            match k, h with
            | 0, _ => exact h1.2.1
            | 1, _ => exact h1.2.2
            | 2, _ => exact wf 0
            | 3, _ => exact h1.1
          go_wp2_with fail
          generalize wo.alloc (.cells #[.int .i64 q.i, .int .i64 q.p, .int .i64 0, .int .i64 q.t] TI) = W2 at *
          generalize wo.heap.size = Bq at *
          generalize hAS : [q.i, q.p, 0, q.t] = AS at *
          have hAl : AS.length = 4 := by rw [← hAS]; rfl
          have HAl := Lib.hid hAl
          clear kc0 kc1 kc2 HX hAS hAl
          go_loopg [9, 10, 11, 12, 13, 14, 15] 4 (fun gk i _ _ _ _ _ _ wq => ∃ k : Nat, i = .int .i64 k ∧ k ≤ 4 ∧ gk = 4 - k ∧ S4 w wq B Bx Ba Bq L2 F2 FX2 q AS)
          case atStart => exact ⟨0, rfl, by omega, rfl, HS4.out⟩
          case round =>
            clear HS4
            obtain ⟨k, rfl, hk, hg2, hst4⟩ := hrel
            have HG2 := Lib.hid hg2; have H4 := Lib.hid hst4
            clear hg2 hst4
            by_cases hlk : k < 4
            · have u1 : decide (k < 4) = true := by simpa using hlk
              have u2 : decide ((k : Int) < 4) = true := by simp; omega
              have hk2 : Hid (k < AS.length) := by rw [HAl.out]; exact hlk
              obtain ⟨z, hz⟩ : ∃ z, Hid (AS[k]'hk2.out = z) := ⟨_, Lib.hid rfl⟩
              have wz : wf64 z := by rw [← hz.out]; exact HAs.out k hk2.out
              go_upto_region 20 with (fail)
              refine kp20 (by kernel_rfl) _ _ w _ B Bx Ba Bq L2 F2 FX2 q AS k z H4.out hlk hk2 hz HGd.out wz hsz rfl rfl rfl rfl rfl ?_
              intro x w20 x10 x11 hst
              simp only [Eng.setAll, Act.put, List.setIfInBounds_toArray, List.set_cons_succ, List.set_cons_zero]
              rw [x10, x11]
              have H5 := Lib.hid hst
              clear hst x10 x11 H4
              go_upto_region 21 with (fail)
              refine kp21 (by kernel_rfl) _ _ w _ B Bx Ba Bq L2 F2 FX2 q AS k z H5.out hlk hk2 hz HGd.out wz hsz rfl rfl rfl rfl rfl ?_
              intro x w21 x12 x13 hst
              simp only [Eng.setAll, Act.put, List.setIfInBounds_toArray, List.set_cons_succ, List.set_cons_zero]
              rw [x12, x13]
              have H6 := Lib.hid hst
              clear hst x12 x13 H5
              go_upto_region 22 with (fail)
              refine kp22 (by kernel_rfl) _ _ w _ B Bx Ba Bq L2 F2 FX2 q AS k z H6.out hlk hk2 hz HGd.out wz hsz rfl rfl rfl rfl rfl ?_
              intro x w22 x15 hst
              simp only [Eng.setAll, Act.put, List.setIfInBounds_toArray, List.set_cons_succ, List.set_cons_zero]
              rw [x15]
              have H7 := Lib.hid hst
              clear hst x15 H6
              generalize ((fnd (sn q.t z 0) L2).map (·.p)).getD 0 = e1 at *
              generalize (fnd (sn q.t z 0) L2).isSome = b1 at *
              go_upto_region 23 with (fail)
              refine kp23 (by kernel_rfl) _ _ w _ B Bx Ba Bq L2 F2 FX2 q AS k z H7.out hlk hk2 hz e1 b1 HGd.out wz hsz rfl rfl rfl rfl rfl rfl rfl rfl rfl rfl rfl rfl ?_
              intro x w23 x152 hst
              simp only [Eng.setAll, Act.put, List.setIfInBounds_toArray, List.set_cons_succ, List.set_cons_zero]
              rw [x152]
              have H8 := Lib.hid hst
              clear hst x152 H7
              go_wp2_with fail
              go_roundg (4 - (k + 1))
              case rel => exact ⟨k + 1, by go_num, by omega, rfl, H8.out⟩
              case measure => have := HG2.out; omega
            · obtain rfl : k = 4 := by omega
              go_upto_region 25 with (fail)
              refine kp25 (by kernel_rfl) _ _ w _ B Bx Ba L2 F2 FX2 q H4.out.s HGd.out hsz rfl rfl rfl rfl rfl ?_
              intro x w25 x169 hst
              simp only [Eng.setAll, Act.put, List.setIfInBounds_toArray, List.set_cons_succ, List.set_cons_zero]
              rw [x169]
              have H9 := Lib.hid hst
              clear hst x169 H4
              go_wp2_with fail
              go_roundg (acts.length - (j + 1))
              case rel => exact ⟨j + 1, by go_num, by omega, rfl, L2, F2, FX2, H9.out.zs.less (by simp), H9.out.i, H9.out.x, HLn.out⟩
              case measure => have := HG.out; omega
        · have k1 : (kd == 2) = false := by simp [h1]
          clear h1
          have HBc : Hid (Kds.At W1 Ba 0 q) := HSt1.out.at
          have f0 : W1.cell? ⟨Ba, 0, none⟩ = some (.int .i64 q.t) := HBc.out 0 _ rfl
          have f1 : W1.cell? ⟨Ba, 1, none⟩ = some (.int .i64 q.i) := HBc.out 1 _ rfl
          have f2 : W1.cell? ⟨Ba, 2, none⟩ = some (.int .i64 q.p) := HBc.out 2 _ rfl
          have f3 : W1.cell? ⟨Ba, 3, none⟩ = some (.int .i64 q.r) := HBc.out 3 _ rfl
          have f4 : W1.cell? ⟨Ba, 4, none⟩ = some (.string q.s) := HBc.out 4 _ rfl
          have f5 : W1.cell? ⟨Ba, 5, none⟩ = some (.string q.o) := HBc.out 5 _ rfl
          have f6 : W1.cell? ⟨Ba, 6, none⟩ = some (.int .i64 q.b) := HBc.out 6 _ rfl
          have f7 : W1.cell? ⟨Ba, 7, none⟩ = some (.int .i64 q.d) := HBc.out 7 _ rfl
          have f8 : W1.cell? ⟨Ba, 8, none⟩ = some (.bool q.g) := HBc.out 8 _ rfl
          go_wp2_with fail
          refine (HSt1.out.put HGd.out (by omega)).mono ?_
          rintro e w4 ⟨rfl, F2, h⟩
          have H4 := Lib.hid h
          clear h f0 f1 f2 f3 f4 f5 f6 f7 f8 HBc HSt1 d0
          have HBc : Hid (Kds.At w4 Ba 0 q) := H4.out.at
          have f0 : w4.cell? ⟨Ba, 0, none⟩ = some (.int .i64 q.t) := HBc.out 0 _ rfl
          have f1 : w4.cell? ⟨Ba, 1, none⟩ = some (.int .i64 q.i) := HBc.out 1 _ rfl
          have f2 : w4.cell? ⟨Ba, 2, none⟩ = some (.int .i64 q.p) := HBc.out 2 _ rfl
          have f3 : w4.cell? ⟨Ba, 3, none⟩ = some (.int .i64 q.r) := HBc.out 3 _ rfl
          have f4 : w4.cell? ⟨Ba, 4, none⟩ = some (.string q.s) := HBc.out 4 _ rfl
          have f5 : w4.cell? ⟨Ba, 5, none⟩ = some (.string q.o) := HBc.out 5 _ rfl
          have f6 : w4.cell? ⟨Ba, 6, none⟩ = some (.int .i64 q.b) := HBc.out 6 _ rfl
          have f7 : w4.cell? ⟨Ba, 7, none⟩ = some (.int .i64 q.d) := HBc.out 7 _ rfl
          have f8 : w4.cell? ⟨Ba, 8, none⟩ = some (.bool q.g) := HBc.out 8 _ rfl
          go_wp2_with fail
          refine (H4.out.put (by omega)).mono ?_
          rintro e w5 ⟨rfl, FX2, h⟩
          have HX0 := Lib.hid h
          clear h f0 f1 f2 f3 f4 f5 f6 f7 f8 HBc H4
          have HBc : Hid (Kds.At w5 Ba 0 q) := HX0.out.at
          have f0 : w5.cell? ⟨Ba, 0, none⟩ = some (.int .i64 q.t) := HBc.out 0 _ rfl
          have f1 : w5.cell? ⟨Ba, 1, none⟩ = some (.int .i64 q.i) := HBc.out 1 _ rfl
          have f2 : w5.cell? ⟨Ba, 2, none⟩ = some (.int .i64 q.p) := HBc.out 2 _ rfl
          have f3 : w5.cell? ⟨Ba, 3, none⟩ = some (.int .i64 q.r) := HBc.out 3 _ rfl
          have f4 : w5.cell? ⟨Ba, 4, none⟩ = some (.string q.s) := HBc.out 4 _ rfl
          have f5 : w5.cell? ⟨Ba, 5, none⟩ = some (.string q.o) := HBc.out 5 _ rfl
          have f6 : w5.cell? ⟨Ba, 6, none⟩ = some (.int .i64 q.b) := HBc.out 6 _ rfl
          have f7 : w5.cell? ⟨Ba, 7, none⟩ = some (.int .i64 q.d) := HBc.out 7 _ rfl
          have f8 : w5.cell? ⟨Ba, 8, none⟩ = some (.bool q.g) := HBc.out 8 _ rfl
          go_wp2_with fail
          refine (Kds.Put_none q w5).mono ?_
          rintro e wk ⟨rfl, hf⟩
          have HX := Lib.hid (HX0.out.fr hf)
          clear hf f0 f1 f2 f3 f4 f5 f6 f7 f8 HBc HX0
          have HLn : Hid ((putK q L).length ≤ j + 1) := by have := putK_len q HSrs.out; have := HLn0.out; show _ ≤ _; omega
          have hsz : (putK q L).length < 1000000 := by have := HLn.out; omega
          generalize putK q L = L2 at *
          obtain ⟨wo, rfl⟩ : ∃ wo : World, wo = wk := ⟨_, rfl⟩
          have kc0 : wo.cell? ⟨Ba, 0, none⟩ = some (.int .i64 q.t) := HX.out.at 0 _ rfl
          have kc1 : wo.cell? ⟨Ba, 1, none⟩ = some (.int .i64 q.i) := HX.out.at 1 _ rfl
          have kc2 : wo.cell? ⟨Ba, 2, none⟩ = some (.int .i64 q.p) := HX.out.at 2 _ rfl
          have HS4 : Hid (S4 w (wo.alloc (.cells #[.int .i64 q.i, .int .i64 q.p, .int .i64 0, .int .i64 q.t] TI)) B Bx Ba wo.heap.size L2 F2 FX2 q [q.i, q.p, 0, q.t]) := ⟨HX.out.fr (Fr.alloc _ _ _), Bk.new _ _ _⟩
          have HAs : Hid (∀ k (h : k < [q.i, q.p, 0, q.t].length), wf64 ([q.i, q.p, 0, q.t][k])) := fun k h => by
            have h1 := HGd.out
            match k, h with
            | 0, _ => exact h1.2.1
            | 1, _ => exact h1.2.2
            | 2, _ => exact wf 0
            | 3, _ => exact h1.1
          go_wp2_with fail
          generalize wo.alloc (.cells #[.int .i64 q.i, .int .i64 q.p, .int .i64 0, .int .i64 q.t] TI) = W2 at *
          generalize wo.heap.size = Bq at *
          generalize hAS : [q.i, q.p, 0, q.t] = AS at *
          have hAl : AS.length = 4 := by rw [← hAS]; rfl
          have HAl := Lib.hid hAl
          clear kc0 kc1 kc2 HX hAS hAl
          go_loopg [9, 10, 11, 12, 13, 14, 15] 4 (fun gk i _ _ _ _ _ _ wq => ∃ k : Nat, i = .int .i64 k ∧ k ≤ 4 ∧ gk = 4 - k ∧ S4 w wq B Bx Ba Bq L2 F2 FX2 q AS)
          case atStart => exact ⟨0, rfl, by omega, rfl, HS4.out⟩
          case round =>
            clear HS4
            obtain ⟨k, rfl, hk, hg2, hst4⟩ := hrel
            have HG2 := Lib.hid hg2; have H4 := Lib.hid hst4
            clear hg2 hst4
            by_cases hlk : k < 4
            · have u1 : decide (k < 4) = true := by simpa using hlk
              have u2 : decide ((k : Int) < 4) = true := by simp; omega
              have hk2 : Hid (k < AS.length) := by rw [HAl.out]; exact hlk
              obtain ⟨z, hz⟩ : ∃ z, Hid (AS[k]'hk2.out = z) := ⟨_, Lib.hid rfl⟩
              have wz : wf64 z := by rw [← hz.out]; exact HAs.out k hk2.out
              go_upto_region 20 with (fail)
              refine kp20 (by kernel_rfl) _ _ w _ B Bx Ba Bq L2 F2 FX2 q AS k z H4.out hlk hk2 hz HGd.out wz hsz rfl rfl rfl rfl rfl ?_
              intro x w20 x10 x11 hst
              simp only [Eng.setAll, Act.put, List.setIfInBounds_toArray, List.set_cons_succ, List.set_cons_zero]
              rw [x10, x11]
              have H5 := Lib.hid hst
              clear hst x10 x11 H4
              go_upto_region 21 with (fail)
              refine kp21 (by kernel_rfl) _ _ w _ B Bx Ba Bq L2 F2 FX2 q AS k z H5.out hlk hk2 hz HGd.out wz hsz rfl rfl rfl rfl rfl ?_
              intro x w21 x12 x13 hst
              simp only [Eng.setAll, Act.put, List.setIfInBounds_toArray, List.set_cons_succ, List.set_cons_zero]
              rw [x12, x13]
              have H6 := Lib.hid hst
              clear hst x12 x13 H5
              go_upto_region 22 with (fail)
              refine kp22 (by kernel_rfl) _ _ w _ B Bx Ba Bq L2 F2 FX2 q AS k z H6.out hlk hk2 hz HGd.out wz hsz rfl rfl rfl rfl rfl ?_
              intro x w22 x15 hst
              simp only [Eng.setAll, Act.put, List.setIfInBounds_toArray, List.set_cons_succ, List.set_cons_zero]
              rw [x15]
              have H7 := Lib.hid hst
              clear hst x15 H6
              generalize ((fnd (sn q.t z 0) L2).map (·.p)).getD 0 = e1 at *
              generalize (fnd (sn q.t z 0) L2).isSome = b1 at *
              go_upto_region 23 with (fail)
              refine kp23 (by kernel_rfl) _ _ w _ B Bx Ba Bq L2 F2 FX2 q AS k z H7.out hlk hk2 hz e1 b1 HGd.out wz hsz rfl rfl rfl rfl rfl rfl rfl rfl rfl rfl rfl rfl ?_
              intro x w23 x152 hst
              simp only [Eng.setAll, Act.put, List.setIfInBounds_toArray, List.set_cons_succ, List.set_cons_zero]
              rw [x152]
              have H8 := Lib.hid hst
              clear hst x152 H7
              go_wp2_with fail
              go_roundg (4 - (k + 1))
              case rel => exact ⟨k + 1, by go_num, by omega, rfl, H8.out⟩
              case measure => have := HG2.out; omega
            · obtain rfl : k = 4 := by omega
              go_upto_region 25 with (fail)
              refine kp25 (by kernel_rfl) _ _ w _ B Bx Ba L2 F2 FX2 q H4.out.s HGd.out hsz rfl rfl rfl rfl rfl ?_
              intro x w25 x169 hst
              simp only [Eng.setAll, Act.put, List.setIfInBounds_toArray, List.set_cons_succ, List.set_cons_zero]
              rw [x169]
              have H9 := Lib.hid hst
              clear hst x169 H4
              go_wp2_with fail
              go_roundg (acts.length - (j + 1))
              case rel => exact ⟨j + 1, by go_num, by omega, rfl, L2, F2, FX2, H9.out.zs.less (by simp), H9.out.i, H9.out.x, HLn.out⟩
              case measure => have := HG.out; omega
      · obtain rfl : j = acts.length := by omega
        go_wp2_with fail
        refine (awake wr).mono ?_
        rintro e w8 ⟨rfl, hf⟩
        have HF := Lib.hid hf
        clear hf
        go_wp2_with fail
        go_ret
        exact ⟨rfl, (HZ.out.fr HF.out).bel⟩
end Law20
end Go.Proofs.Ytkhhdadlpilbmaa
