/- Layer 47's statements: SeriesFinds: for every input the answer is true. -/
import Derived.Test.YtgfjpnpbkkadpaaGreatLaw47
import Derived.Test.YtgfjpnpbkkadpaaGreatSers2
import Derived.Test.YtgfjpnpbkkadpaaGreatSetFs
import Derived.Test.YtgfjpnpbkkadpaaGreatDeltas
namespace Go.Proofs.YtgfjpnpbkkadpaaGreat
open Go.RowKit
namespace Law47
open KeyP PackP SetP SetW SetF BagP Bag Mk Delta ClsW Ser
attribute [local go_sem] Eng.ev Eng.getO_cons Eng.getO_nil
theorem few_len {L : List Sn} {n : Nat} (h : fewB L n = true) : L.length ≤ n := by unfold fewB at h; simp at h; exact h.2
theorem bl_eq (a b : ByteArray) : (a.toList == b.toList) = decide (a = b) := by
  cases h : (a.toList == b.toList) with
  | true => exact (decide_eq_true (str_ext (by simpa using h))).symm
  | false => exact (decide_eq_false (fun e => by subst e; simp at h)).symm
theorem lv_at {l : List Lv} {k : Nat} (hk : k < l.length) : (l.flatMap lvc)[k]? = some (.slice l[k].A l[k].L.length l[k].c) := by
  have := flat_at lvc_len hk (j := 0) (by omega)
  rw [Nat.mul_one, Nat.add_zero] at this
  rw [this]; rfl
theorem spn_len' (L : List Sn) : (spn L).length ≤ L.length := Nat.le_trans (alive_len _) (setOf_len L)
theorem BetE {A A2 : Option Addr} {c c2 : Nat} {a b : List Sn} {w : World} (h1 : Ls w A c a) (h2 : Ls w A2 c2 b) (hl1 : a.length ≤ 1000) (hl2 : b.length ≤ 1000) (ha : PackP.Ok a) (hb : PackP.Ok b) :
    Calls Tryz.prog 25 #[.slice A a.length c, .slice A2 b.length c2] w (DlPost (wout b a) (wout a b) w) := by
  have := Between A A2 c c2 a b w h1 h2 (by omega) (by omega)
  rwa [ha.set, hb.set] at this
/-- The list of what is next, for a round. -/
structure NR (w0 w : World) (b o : Nat) (y : Sn) : Prop where
  a : At w b o y
  f : Fr (fun _ => False) w0 w
theorem NR.fr {w0 w w' : World} {b o : Nat} {y : Sn} (H : NR w0 w b o y) (hf : Fr (fun _ => False) w w') : NR w0 w' b o y := ⟨H.a.keep hf, H.f.trans hf (fun _ _ h => h) (fun _ _ h => h)⟩
set_option maxRecDepth 100000 in
set_option maxHeartbeats 400000 in
theorem sf16 {ops : Array Oper} (hops : Eng.fnOps Tryz.f4 16 = ops) (a0 : Act) (Q : Exit → Act → World → Prop) (w0 w : World) (b1 o1 len c k : Nat) (y : Sn) (hst : NR w0 w b1 (o1 + k * 9) y) (hk : k < len) (hlen : len ≤ 9223372036854775807)
    (hn : a0.tmps.size = 120) (h_8 : a0.tmps.getD 8 undef = .slice (some ⟨b1, o1, none⟩) len c) (h_9 : a0.tmps.getD 9 undef = .int .i64 (k : Int))
    (hpost : ∀ (x : Nat → Value) (w' : World), x 10 = .string y.s → x 11 = .string y.o → NR w0 w' b1 (o1 + k * 9) y → Q .normal (Eng.setAll a0 [10, 11, 52, 53, 54, 55, 56, 57, 58, 59, 60, 61] x) w') :
    (Code.region 16 ops true).wp Tryz.prog Q a0 w := by
  simp only [Eng.fnOps, Eng.regOps, Tryz.f4, Option.bind_some, Option.getD_some, Nat.reduceEqDiff, ↓reduceIte, Nat.reduceBEq] at hops
  subst hops
  have q1 : (0 : Int) ≤ (k : Int) := by omega
  have q2 : (k : Int) < (len : Int) := by omega
  have HSt := Lib.hid (hst.fr (Fr.drew _ _))
  have hSS : w.drew.cell? ⟨b1, o1 + k * 9, none⟩ = some (.int .i64 y.t) ∧ w.drew.cell? ⟨b1, o1 + k * 9 + 1, none⟩ = some (.int .i64 y.i) ∧ w.drew.cell? ⟨b1, o1 + k * 9 + 1 + 1, none⟩ = some (.int .i64 y.p) ∧ w.drew.cell? ⟨b1, o1 + k * 9 + 1 + 1 + 1, none⟩ = some (.int .i64 y.r) ∧ w.drew.cell? ⟨b1, o1 + k * 9 + 1 + 1 + 1 + 1, none⟩ = some (.string y.s) ∧ w.drew.cell? ⟨b1, o1 + k * 9 + 1 + 1 + 1 + 1 + 1, none⟩ = some (.string y.o) ∧ w.drew.cell? ⟨b1, o1 + k * 9 + 1 + 1 + 1 + 1 + 1 + 1, none⟩ = some (.int .i64 y.b) ∧ w.drew.cell? ⟨b1, o1 + k * 9 + 1 + 1 + 1 + 1 + 1 + 1 + 1, none⟩ = some (.int .i64 y.d) ∧ w.drew.cell? ⟨b1, o1 + k * 9 + 1 + 1 + 1 + 1 + 1 + 1 + 1 + 1, none⟩ = some (.bool y.g) := ⟨HSt.out.a 0 _ rfl, HSt.out.a 1 _ rfl, HSt.out.a 2 _ rfl, HSt.out.a 3 _ rfl, HSt.out.a 4 _ rfl, HSt.out.a 5 _ rfl, HSt.out.a 6 _ rfl, HSt.out.a 7 _ rfl, HSt.out.a 8 _ rfl⟩
  refine Eng.regionN [(0, true), (1, true), (2, true), (3, true), (4, true), (5, true), (6, true), (7, true), (8, true), (9, true), (10, true), (11, true)] (fun w' => w'.cell? ⟨b1, o1 + k * 9, none⟩ = some (.int .i64 y.t) ∧ w'.cell? ⟨b1, o1 + k * 9 + 1, none⟩ = some (.int .i64 y.i) ∧ w'.cell? ⟨b1, o1 + k * 9 + 1 + 1, none⟩ = some (.int .i64 y.p) ∧ w'.cell? ⟨b1, o1 + k * 9 + 1 + 1 + 1, none⟩ = some (.int .i64 y.r) ∧ w'.cell? ⟨b1, o1 + k * 9 + 1 + 1 + 1 + 1, none⟩ = some (.string y.s) ∧ w'.cell? ⟨b1, o1 + k * 9 + 1 + 1 + 1 + 1 + 1, none⟩ = some (.string y.o) ∧ w'.cell? ⟨b1, o1 + k * 9 + 1 + 1 + 1 + 1 + 1 + 1, none⟩ = some (.int .i64 y.b) ∧ w'.cell? ⟨b1, o1 + k * 9 + 1 + 1 + 1 + 1 + 1 + 1 + 1, none⟩ = some (.int .i64 y.d) ∧ w'.cell? ⟨b1, o1 + k * 9 + 1 + 1 + 1 + 1 + 1 + 1 + 1 + 1, none⟩ = some (.bool y.g)) (by kernel_rfl) 120 hn (by kernel_rfl) rfl (by kernel_rfl) (hSS) (fun a b ha hb => ?_)
  subst ha
  have hb8 : b 8 = .slice (some ⟨b1, o1, none⟩) len c := (hb 8).symm.trans h_8
  have hb9 : b 9 = .int .i64 (k : Int) := (hb 9).symm.trans h_9
  clear hb h_8 h_9
  have HP := Lib.hid hpost; have HN := Lib.hid hn
  clear hpost hn
  refine Eng.Sch.take (v := ?_) rfl rfl (by decide) (by kernel_rfl) (fun w hw => ?_) ?_
  rotate_left
  · (try dsimp only at hw); go_simp; first | done | with_reducible rfl
  refine Eng.Sch.take (v := ?_) rfl rfl (by decide) (by kernel_rfl) (fun w hw => ?_) ?_
  rotate_left
  · (try dsimp only at hw); go_simp; first | done | with_reducible rfl
  refine Eng.Sch.take (v := ?_) rfl rfl (by decide) (by kernel_rfl) (fun w hw => ?_) ?_
  rotate_left
  · (try dsimp only at hw); go_simp; first | done | with_reducible rfl
  refine Eng.Sch.take (v := ?_) rfl rfl (by decide) (by kernel_rfl) (fun w hw => ?_) ?_
  rotate_left
  · (try dsimp only at hw); go_simp; first | done | with_reducible rfl
  refine Eng.Sch.take (v := ?_) rfl rfl (by decide) (by kernel_rfl) (fun w hw => ?_) ?_
  rotate_left
  · (try dsimp only at hw); go_simp; first | done | with_reducible rfl
  refine Eng.Sch.take (v := ?_) rfl rfl (by decide) (by kernel_rfl) (fun w hw => ?_) ?_
  rotate_left
  · (try dsimp only at hw); go_simp; first | done | with_reducible rfl
  refine Eng.Sch.take (v := ?_) rfl rfl (by decide) (by kernel_rfl) (fun w hw => ?_) ?_
  rotate_left
  · (try dsimp only at hw); go_simp; first | done | with_reducible rfl
  refine Eng.Sch.take (v := ?_) rfl rfl (by decide) (by kernel_rfl) (fun w hw => ?_) ?_
  rotate_left
  · (try dsimp only at hw); go_simp; first | done | with_reducible rfl
  refine Eng.Sch.take (v := ?_) rfl rfl (by decide) (by kernel_rfl) (fun w hw => ?_) ?_
  rotate_left
  · (try dsimp only at hw); go_simp; first | done | with_reducible rfl
  refine Eng.Sch.take (v := ?_) rfl rfl (by decide) (by kernel_rfl) (fun w hw => ?_) ?_
  rotate_left
  · (try dsimp only at hw); go_simp; first | done | with_reducible rfl
  refine Eng.Sch.take (v := ?_) rfl rfl (by decide) (by kernel_rfl) (fun w hw => ?_) ?_
  rotate_left
  · (try dsimp only at hw); go_simp; first | done | with_reducible rfl
  refine Eng.Sch.take (v := ?_) rfl rfl (by decide) (by kernel_rfl) (fun w hw => ?_) ?_
  rotate_left
  · (try dsimp only at hw); go_simp; first | done | with_reducible rfl
  refine Eng.Sch.end_ [10, 11, 52, 53, 54, 55, 56, 57, 58, 59, 60, 61] HN.out (by kernel_rfl) (by kernel_rfl) ?_
  exact HP.out _ _ rfl rfl HSt.out

set_option maxRecDepth 100000 in
set_option maxHeartbeats 8000000 in
theorem finds (W : Int) (A0 : Option Addr) (c0 : Nat) (l : List Lv) (w : World) (hS : Sl w 1 A0 l.length c0 (l.flatMap lvc)) (hR : ∀ x ∈ l, Rd w x) :
    Calls Tryz.prog 4 #[.int .i64 W, .slice A0 l.length c0] w fun e w' => e = .returned (.bool true) ∧ Below w.heap.size w w' := by
  have HSl := Lib.hid hS; have HR := Lib.hid hR
  have HB := Lib.hid (Below.refl w.heap.size w)
  have hl64 : l.length ≤ 9223372036854775807 := by have := hS.2.1; have := hS.2.2.1; unfold maxLen at this; omega
  clear hS hR
  go_enter Tryz.func4, Tryz.ntmps4
  by_cases h8 : l.length > 8
  · have q0 : decide ((l.length : Int) > 8) = true := by simp; omega
    go_wp2_with fail
    refine (awake w).mono ?_
    rintro e w1 ⟨rfl, hb⟩
    replace HB := Lib.hid (HB.out.trans (hb.mono HB.out.size))
    clear hb
    go_wp2_with fail
    go_ret
    exact ⟨rfl, HB.out⟩
  · have q0 : decide ((l.length : Int) > 8) = false := by simp; omega
    have h8' : l.length ≤ 8 := by omega
    clear h8
    go_wp2_with fail
    refine (NewV W w w HB.out [] (by simp)).mono ?_
    rintro e w1 ⟨h, rfl, hv, -, hb⟩
    have HV := Lib.hid hv
    clear hv hb HB
    go_wp2_with fail
    go_loopg [6, 7] l.length (fun gk v i wr => ∃ (k : Nat) (P : List Sn) (Ap : Option Addr) (cp : Nat), i = .int .i64 k ∧ v = .slice Ap P.length cp ∧ k ≤ l.length ∧ gk = l.length - k ∧ Ls wr Ap cp P ∧ PackP.Ok P ∧ P.length ≤ 20 ∧ VS w wr h W (40 * k) (P.map (pr W)) [])
    case atStart => exact ⟨0, [], none, 0, rfl, rfl, Nat.zero_le _, rfl, Ls.nil _, ⟨List.Pairwise.nil, by simp, by simp⟩, by simp, HV.out⟩
    case round =>
      clear HV
      obtain ⟨k, P, Ap, cp, rfl, rfl, hk, hg, hls, hok, hpl, hv⟩ := hrel
      obtain ⟨wo, hwo⟩ : ∃ wo, wo = wr := ⟨_, rfl⟩
      subst hwo
      have HG := Lib.hid hg; have HP := Lib.hid hls; have HOk := Lib.hid hok; have HV := Lib.hid hv; have HB := Lib.hid hv.bel
      clear hg hls hok hv
      by_cases hlt : k < l.length
      · obtain ⟨b1, o1, rfl, hb1, c1⟩ := HSl.out.at hlt (by omega)
        have e0 := c1 k _ (lv_at hlt)
        have HR1 := Lib.hid (HR.out _ (List.getElem_mem hlt))
        clear c1
        generalize l[k] = xl at *
        have HE : Hid (∀ W', Below w.heap.size w W' → W'.cell? ⟨b1, o1 + k, none⟩ = some (.slice xl.A xl.L.length xl.c)) := fun W' hW => (hW.cell (p := ⟨b1, _, none⟩) hb1).trans e0
        have HX := Lib.hid (HR1.out.below HB.out)
        clear e0 HR1
        have q1 : (0 : Int) ≤ (k : Int) := by omega
        have q2 : decide ((k : Int) < (l.length : Int)) = true := by simp; omega
        have q3 : (k : Int) < (l.length : Int) := by omega
        have e0 := HE.out _ HB.out
        go_wp2_with fail
        refine (SetF.Few _ _ 20 xl.L wo HX.out.s).mono ?_
        rintro e wf1 ⟨rfl, hf⟩
        have hb := hf.below (Nat.le_refl _) (fun _ _ h => h)
        clear hf
        replace HP := Lib.hid (HP.out.below hb)
        replace HV := Lib.hid (HV.out.below hb)
        replace HX := Lib.hid (HX.out.below hb)
        replace HB := Lib.hid (HB.out.trans (hb.mono HB.out.size))
        clear hb
        clear e0
        cases hq : fewB xl.L 20 with
        | false =>
          go_wp2_with fail
          refine (awake wf1).mono ?_
          rintro e wf2 ⟨rfl, hb⟩
          replace HP := Lib.hid (HP.out.below hb)
          replace HV := Lib.hid (HV.out.below hb)
          replace HX := Lib.hid (HX.out.below hb)
          replace HB := Lib.hid (HB.out.trans (hb.mono HB.out.size))
          clear hb
          go_wp2_with fail
          go_ret
          exact ⟨rfl, HB.out⟩
        | true =>
          have hq_x := few_len hq
          clear hq
          have hsl := Nat.le_trans (spn_len' xl.L) hq_x
          have e0 := HE.out _ HB.out
          have HSp := Lib.hid (RefSpans xl.A xl.c xl.L wf1 HX.out (by omega))
          have HOkN := Lib.hid (spn_okL xl.L)
          obtain ⟨N, hN⟩ : ∃ N, spn xl.L = N := ⟨_, rfl⟩
          rw [hN] at HSp hsl HOkN
          have HNe := Lib.hid hN
          clear hN
          go_wp2_with fail
          refine (HSp.out).mono ?_
          rintro e wf2 ⟨An, cn, rfl, hls, -, hb⟩
          replace HP := Lib.hid (HP.out.below hb)
          replace HV := Lib.hid (HV.out.below hb)
          replace HX := Lib.hid (HX.out.below hb)
          replace HB := Lib.hid (HB.out.trans (hb.mono HB.out.size))
          clear hb
          have HN := Lib.hid hls
          clear hls HSp e0
          go_wp2_with fail
          refine (BetE HP.out HN.out (by omega) (by omega) HOk.out HOkN.out).mono ?_
          rintro e wf3 ⟨A6, c6, A7, c7, rfl, hd, hb⟩
          replace HP := Lib.hid (HP.out.below hb)
          replace HV := Lib.hid (HV.out.below hb)
          replace HX := Lib.hid (HX.out.below hb)
          replace HN := Lib.hid (HN.out.below hb)
          replace HB := Lib.hid (HB.out.trans (hb.mono HB.out.size))
          clear hb
          have HD := Lib.hid hd
          clear hd
          have HMo : Hid ((mays (wout N P) && (mays (wout P N) && outB (P.map (pr W)) ((wout N P).map (pr W)))) = true) := by
            show _ = _
            rw [mays_ok (L := wout N P) (fun x hx => HOk.out.may x (List.mem_filter.1 hx).1), mays_ok (L := wout P N) (fun x hx => HOkN.out.may x (List.mem_filter.1 hx).1), bet_out]; rfl
          have lo : (wout N P).length ≤ 20 := Nat.le_trans (List.length_filter_le _ _) hpl
          have li : (wout P N).length ≤ 20 := Nat.le_trans (List.length_filter_le _ _) hsl
          go_wp2_with fail
          refine (ApplyT h W (40 * k) (P.map (pr W)) [] ⟨A6, c6, wout N P, A7, c7, wout P N⟩ w wf3 HV.out HD.out (by show (wout N P).length ≤ _; omega) (by show (wout P N).length ≤ _; omega) (by omega) (by rw [List.length_map]; omega) true HMo.out (N.map (pr W)) (fun _ qk hp => bet_in HOk.out.srs HOkN.out.srs hp) (fun h => by cases h)).mono ?_
          rintro e wf4 ⟨rfl, hv, hk, hf⟩
          replace HV := Lib.hid hv
          replace HX := Lib.hid (hk _ _ _ HX.out)
          replace HN := Lib.hid (hk _ _ _ HN.out)
          replace HB := Lib.hid (HB.out.trans (hf.below HB.out.size (fun k hk hm => by have := hm.1; omega)))
          clear hv hk hf
          clear HP HD HMo
          replace HV := Lib.hid (HV.out.up (m' := 40 * (k + 1)) (by show 40 * k + (wout N P).length + (wout P N).length ≤ _; omega))
          have hm0 : (0 : Int) ≤ 0 := by omega
          go_wp2_with fail
          go_loopg [9] N.length (fun gk i wr => ∃ k2 : Nat, i = .int .i64 k2 ∧ k2 ≤ N.length ∧ gk = N.length - k2 ∧ Below wf4.heap.size wf4 wr)
          case atStart => exact ⟨0, rfl, Nat.zero_le _, rfl, Below.refl _ _⟩
          case round =>
            obtain ⟨k2, rfl, hk2, hg2, hb⟩ := hrel
            obtain ⟨w2o, hw2o⟩ : ∃ wo, wo = wr := ⟨_, rfl⟩
            subst hw2o
            have HG2 := Lib.hid hg2
            clear hg2
            replace HX := Lib.hid (HX.out.below hb); replace HN := Lib.hid (HN.out.below hb); replace HV := Lib.hid (HV.out.below hb)
            replace HB := Lib.hid (HB.out.trans (hb.mono HB.out.size))
            have HBw := Lib.hid hb
            clear hb
            by_cases hlt2 : k2 < N.length
            · obtain ⟨bn, on, rfl, hbn, c2⟩ := HN.out.s.at hlt2 (by omega)
              have HY := Lib.hid (At.row c2 hlt2)
              have HYo := Lib.hid (HN.out.ok _ (List.getElem_mem hlt2))
              clear c2 hbn
              generalize N[k2] = y at *
              have hn64 : N.length ≤ 9223372036854775807 := by omega
              have q4 : decide ((k2 : Int) < (N.length : Int)) = true := by simp; omega
              go_upto_region 16 with (fail)
              refine sf16 (by kernel_rfl) _ _ w2o w2o bn on _ cn k2 y ⟨HY.out, Fr.refl _ _⟩ hlt2 hn64 rfl rfl rfl ?_
              intro x wf20 h17 h18 hst
              simp only [Eng.setAll, Act.put, List.setIfInBounds_toArray, List.set_cons_succ, List.set_cons_zero]
              rw [h17, h18]
              have hb := hst.f.below (Nat.le_refl _) (fun _ _ h => h)
              clear h17 h18 hst HY
              replace HX := Lib.hid (HX.out.below hb); replace HN := Lib.hid (HN.out.below hb); replace HV := Lib.hid (HV.out.below hb)
              replace HBw := Lib.hid (HBw.out.trans (hb.mono HBw.out.size)); replace HB := Lib.hid (HB.out.trans (hb.mono HB.out.size))
              clear hb
              have hoks : Ser.okN (y.s, y.o) := ⟨HYo.out.s, HYo.out.o⟩
              obtain ⟨X, hX⟩ : ∃ X, cts (N.map (pr W)) (y.s, y.o) = X := ⟨_, rfl⟩
              have hXs := cts_sum N W (by omega) y.s y.o
              have hXp := cts_pos N W (by omega) y.s y.o
              have hXl := cts_len (N.map (pr W)) (by rw [List.length_map]; omega) (y.s, y.o)
              rw [List.length_map] at hXl
              rw [hX] at hXs hXp hXl
              have HXs := Lib.hid hXs; have HXp := Lib.hid hXp; have HXe := Lib.hid hX
              clear hX hXs hXp
              go_wp2_with fail
              refine (CountsT y.s y.o HV.out (by rw [List.length_map]; omega) hoks X HXe.out X.length rfl).mono ?_
              rintro e wf21 ⟨A8, c8, rfl, hcl, hb⟩
              replace HBw := Lib.hid (HBw.out.trans (hb.mono HBw.out.size))
              replace HX := Lib.hid (HX.out.below hb)
              replace HN := Lib.hid (HN.out.below hb)
              replace HV := Lib.hid (HV.out.below hb)
              replace HB := Lib.hid (HB.out.trans (hb.mono HB.out.size))
              clear hb
              have HC := Lib.hid hcl
              clear hcl
              go_wp2_with fail
              go_loopg [13, 14] X.length (fun gk v i wr => ∃ j : Nat, i = .int .i64 j ∧ v = .int .i64 (sumL (X.take j)) ∧ j ≤ X.length ∧ gk = X.length - j ∧ wf21 = wr)
              case atStart => exact ⟨0, rfl, rfl, Nat.zero_le _, rfl, rfl⟩
              case round =>
                obtain ⟨j, rfl, rfl, hj, hg3, rfl⟩ := hrel
                have HG3 := Lib.hid hg3
                clear hg3
                by_cases hlt3 : j < X.length
                · obtain ⟨b8, o8, rfl, hb8, c8'⟩ := HC.out.s.at hlt3 (by omega)
                  have d2 : wf21.cell? ⟨b8, o8 + j * 2 + 1, none⟩ = some (.int .i64 X[j].2) := c8' (j * 2 + 1) _ (by rw [flat_at pc_len hlt3 (by omega)]; rfl)
                  have hst := sumL_take hlt3
                  have hp1 := sumL_pre HXp.out j
                  have hp2 := sumL_pre HXp.out (j + 1)
                  have hxs := HXs.out
                  have hnl := nm_len N y.s y.o
                  have q5 : (0 : Int) ≤ (j : Int) := by omega
                  have q6 : decide ((j : Int) < (X.length : Int)) = true := by simp; omega
                  have q7 : (j : Int) < (X.length : Int) := by omega
                  have q8 : IntKind.i64.wrap (sumL (X.take j) + X[j].2) = sumL (X.take (j + 1)) := by rw [← hst, IntKind.wrap_i64]; omega
                  clear c8' hb8 hst hp1 hp2 hxs hnl
                  generalize X[j] = p at *
                  go_wp2_with fail
                  go_roundg (X.length - (j + 1))
                  case rel => exact ⟨j + 1, by go_num, rfl, by omega, rfl, rfl⟩
                  case measure => have := HG3.out; omega
                · obtain rfl : j = X.length := by omega
                  have q6 : decide ((X.length : Int) < (X.length : Int)) = false := by simp
                  rw [List.take_length, HXs.out]
                  have hnl := nm_len N y.s y.o
                  go_wp2_with fail
                  go_loopg [13, 15] N.length (fun gk v i wr => ∃ j : Nat, i = .int .i64 j ∧ v = .int .i64 ((nm N y.s y.o : Int) - (nm (N.take j) y.s y.o : Int)) ∧ j ≤ N.length ∧ gk = N.length - j ∧ wf21 = wr)
                  case atStart => exact ⟨0, rfl, by simp [nm], Nat.zero_le _, rfl, rfl⟩
                  case round =>
                    obtain ⟨j, rfl, rfl, hj, hg4, rfl⟩ := hrel
                    have HG4 := Lib.hid hg4
                    clear hg4 HG3
                    by_cases hlt4 : j < N.length
                    · obtain ⟨bn', on', hbe, hbn', c9⟩ := HN.out.s.at hlt4 (by omega)
                      cases hbe
                      have HZ := Lib.hid (At.row c9 hlt4)
                      have HNt := Lib.hid (nm_take hlt4 y.s y.o)
                      have hl1 := nm_le N y.s y.o (j + 1)
                      have hl0 := nm_le N y.s y.o j
                      clear c9 hbn'
                      generalize N[j] = z at *
                      have q5 : (0 : Int) ≤ (j : Int) := by omega
                      have q7 : decide ((j : Int) < (N.length : Int)) = true := by simp; omega
                      have q8 : (j : Int) < (N.length : Int) := by omega
                      have zc0 : wf21.cell? ⟨bn, on + j * 9, none⟩ = some (.int .i64 z.t) := HZ.out 0 _ rfl
                      have zc1 : wf21.cell? ⟨bn, on + j * 9 + 1, none⟩ = some (.int .i64 z.i) := HZ.out 1 _ rfl
                      have zc2 : wf21.cell? ⟨bn, on + j * 9 + 1 + 1, none⟩ = some (.int .i64 z.p) := HZ.out 2 _ rfl
                      have zc3 : wf21.cell? ⟨bn, on + j * 9 + 1 + 1 + 1, none⟩ = some (.int .i64 z.r) := HZ.out 3 _ rfl
                      have zc4 : wf21.cell? ⟨bn, on + j * 9 + 1 + 1 + 1 + 1, none⟩ = some (.string z.s) := HZ.out 4 _ rfl
                      have zc5 : wf21.cell? ⟨bn, on + j * 9 + 1 + 1 + 1 + 1 + 1, none⟩ = some (.string z.o) := HZ.out 5 _ rfl
                      have zc6 : wf21.cell? ⟨bn, on + j * 9 + 1 + 1 + 1 + 1 + 1 + 1, none⟩ = some (.int .i64 z.b) := HZ.out 6 _ rfl
                      have zc7 : wf21.cell? ⟨bn, on + j * 9 + 1 + 1 + 1 + 1 + 1 + 1 + 1, none⟩ = some (.int .i64 z.d) := HZ.out 7 _ rfl
                      have zc8 : wf21.cell? ⟨bn, on + j * 9 + 1 + 1 + 1 + 1 + 1 + 1 + 1 + 1, none⟩ = some (.bool z.g) := HZ.out 8 _ rfl
                      cases hzs : (z.s.toList == y.s.toList) with
                      | false =>
                        have hne : (nm (N.take (j + 1)) y.s y.o) = nm (N.take j) y.s y.o := by rw [HNt.out, ← bl_eq z.s y.s, hzs]; rfl
                        go_wp2_with fail
                        go_roundg (N.length - (j + 1))
                        case rel => exact ⟨j + 1, by go_num, by rw [hne], by omega, rfl, rfl⟩
                        case measure => have := HG4.out; omega
                      | true =>
                        cases hzo : (z.o.toList == y.o.toList) with
                        | false =>
                          have hne : (nm (N.take (j + 1)) y.s y.o) = nm (N.take j) y.s y.o := by rw [HNt.out, ← bl_eq z.s y.s, hzs, ← bl_eq z.o y.o, hzo]; rfl
                          go_wp2_with fail
                          go_roundg (N.length - (j + 1))
                          case rel => exact ⟨j + 1, by go_num, by rw [hne], by omega, rfl, rfl⟩
                          case measure => have := HG4.out; omega
                        | true =>
                          have hne : (nm (N.take (j + 1)) y.s y.o) = nm (N.take j) y.s y.o + 1 := by rw [HNt.out, ← bl_eq z.s y.s, hzs, ← bl_eq z.o y.o, hzo]; rfl
                          have q9 : IntKind.i64.wrap ((nm N y.s y.o : Int) - (nm (N.take j) y.s y.o : Int) - 1) = (nm N y.s y.o : Int) - (nm (N.take (j + 1)) y.s y.o : Int) := by rw [IntKind.wrap_i64]; omega
                          go_wp2_with fail
                          go_roundg (N.length - (j + 1))
                          case rel => exact ⟨j + 1, by go_num, by rw [hne]; exact congrArg (Value.int .i64) (by omega), by omega, rfl, rfl⟩
                          case measure => have := HG4.out; omega
                    · obtain rfl : j = N.length := by omega
                      rw [List.take_length, Int.sub_self]
                      have q7 : decide ((N.length : Int) < (N.length : Int)) = false := by simp
                      have e0 := HE.out _ HB.out
                      clear HG4
                      go_wp2_with fail
                      refine (Of W y.s y.o xl.A xl.c xl.L wf21 HX.out (by omega) hoks X (by rw [HNe.out]; exact HXe.out) X.length rfl).mono ?_
                      rintro e wf22 ⟨A9, c9, rfl, hcl, hb⟩
                      replace HBw := Lib.hid (HBw.out.trans (hb.mono HBw.out.size))
                      replace HX := Lib.hid (HX.out.below hb)
                      replace HN := Lib.hid (HN.out.below hb)
                      replace HV := Lib.hid (HV.out.below hb)
                      replace HC := Lib.hid (HC.out.below hb)
                      replace HB := Lib.hid (HB.out.trans (hb.mono HB.out.size))
                      clear hb
                      have HC2 := Lib.hid hcl
                      clear hcl e0
                      go_wp2_with fail
                      refine (SameC HC.out HC2.out).mono ?_
                      rintro e wf23 ⟨rfl, hf⟩
                      have hb := hf.below (Nat.le_refl _) (fun _ _ h => h)
                      clear hf
                      replace HBw := Lib.hid (HBw.out.trans (hb.mono HBw.out.size))
                      replace HX := Lib.hid (HX.out.below hb)
                      replace HN := Lib.hid (HN.out.below hb)
                      replace HV := Lib.hid (HV.out.below hb)
                      replace HC := Lib.hid (HC.out.below hb)
                      replace HC2 := Lib.hid (HC2.out.below hb)
                      replace HB := Lib.hid (HB.out.trans (hb.mono HB.out.size))
                      clear hb
                      go_wp2_with fail
                      go_roundg (N.length - (k2 + 1))
                      case rel => exact ⟨k2 + 1, by go_num, by omega, rfl, HBw.out⟩
                      case measure => have := HG2.out; omega
            · obtain rfl : k2 = N.length := by omega
              have q4 : decide ((N.length : Int) < (N.length : Int)) = false := by simp
              clear HG2
              go_wp2_with fail
              go_roundg (l.length - (k + 1))
              case rel => exact ⟨k + 1, N, An, cn, by go_num, rfl, by omega, rfl, HN.out, HOkN.out, hsl, HV.out⟩
              case measure => have := HG.out; omega
      · obtain rfl : k = l.length := by omega
        have q2 : decide ((l.length : Int) < (l.length : Int)) = false := by simp
        go_wp2_with fail
        refine (awake wo).mono ?_
        rintro e wg1 ⟨rfl, hb⟩
        replace HB := Lib.hid (HB.out.trans (hb.mono HB.out.size))
        clear hb
        go_wp2_with fail
        go_ret
        exact ⟨rfl, HB.out⟩
end Law47
end Go.Proofs.YtgfjpnpbkkadpaaGreat
