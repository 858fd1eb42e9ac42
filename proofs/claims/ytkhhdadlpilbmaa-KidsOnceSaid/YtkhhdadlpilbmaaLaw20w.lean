/- Layer 20's statements: KidsOnce: for every input the answer is true. -/
import Derived.Test.YtkhhdadlpilbmaaLaw20o
namespace Go.Proofs.Ytkhhdadlpilbmaa
open Go.RowKit
namespace Law20
open KeyP SetP KidsP Kds
/-- The index after some acts. -/
def OPost (w : World) (B : Nat) (n : Nat) (wr : World) : Prop := ∃ L F, SO w wr B L F ∧ L.length ≤ n
theorem fnd_of {t : Int} {L : List Sn} (hs : Srs L) {k : Nat} (hk : k < (ofT t L).length) : fnd (sn t (ofT t L)[k].i 0) L = some (ofT t L)[k] := by
  have hm := ofT_mem.1 (List.getElem_mem hk)
  exact fnd_mem hs hm.1 (one_iff.2 ⟨hm.2, rfl⟩)
theorem fan_of {t : Int} {L : List Sn} {k : Nat} (hk : k < (ofT t L).length) : 1 ≤ (kids t (ofT t L)[k].p L).length := by
  rw [kids_len_eq]
  exact List.length_pos_of_mem (List.mem_filter.2 ⟨List.getElem_mem hk, by simp⟩)
theorem parsL_len (l : List Sn) : (parsL l).length ≤ l.length := by
  refine snocInd' (p := fun l => (parsL l).length ≤ l.length) l (by simp [parsL]) (fun l x ih => ?_)
  rw [parsL_snoc, List.length_append, List.length_singleton]
  unfold addP
  split
  · omega
  · rw [List.length_append, List.length_singleton]; omega
theorem parsL_mem (l : List Sn) : ∀ x ∈ l, x.p ∈ parsL l := by
  refine snocInd' (p := fun l => ∀ x ∈ l, x.p ∈ parsL l) l (by simp) (fun l x ih y hy => ?_)
  rw [parsL_snoc, mem_addP]
  rcases List.mem_append.1 hy with hy | hy
  · exact .inl (ih y hy)
  · simp at hy; exact .inr (by rw [hy])
theorem parsL_of (l : List Sn) : ∀ q ∈ parsL l, ∃ x ∈ l, x.p = q := by
  refine snocInd' (p := fun l => ∀ q ∈ parsL l, ∃ x ∈ l, x.p = q) l (by simp [parsL]) (fun l x ih q hq => ?_)
  rw [parsL_snoc, mem_addP] at hq
  rcases hq with hq | rfl
  · obtain ⟨y, hy, e⟩ := ih q hq
    exact ⟨y, by simp [hy], e⟩
  · exact ⟨x, by simp, rfl⟩
set_option maxRecDepth 100000 in
set_option maxHeartbeats 2000000 in
theorem once (A0 : Option Addr) (c0 : Nat) (acts : List Ac) (w : World) (hS0 : Sl w 10 A0 acts.length c0 (acts.flatMap ac)) (hG : ∀ a ∈ acts, a.s.ok) :
    Calls Try.prog 5 #[.slice A0 acts.length c0] w fun e w' => e = .returned (.bool true) ∧ Below w.heap.size w w' := by
  obtain ⟨i0, hi, hz0, hz1_, hz2⟩ := info_parts Kds.infoN
  by_cases hfew : 40 < acts.length
  · have t1 : decide (40 < acts.length) = true := by simpa using hfew
    have t2 : decide ((40 : Int) < (acts.length : Int)) = true := by simp; omega
    have HA := Lib.hid (awake w)
    clear hfew hS0 hG
    go_enter Try.func5, Try.ntmps5
    go_wp2_with fail
    refine HA.out.mono ?_
    rintro e w1 ⟨rfl, hb⟩
    have HB := Lib.hid hb
    clear hb
    go_wp2_with fail
    go_ret
    exact ⟨rfl, HB.out.below (Nat.le_refl _) (fun _ _ h => h)⟩
  · have t1 : decide (40 < acts.length) = false := by simpa using hfew
    have t2 : decide ((40 : Int) < (acts.length : Int)) = false := by simp; omega
    have hl : acts.length ≤ 40 := by omega
    have HL0 := Lib.hid hS0; have HGa := Lib.hid hG
    have HS0 : Hid (SO w (w.alloc (.cells (cellsX none 0 none 0) TX)) w.heap.size [] [w.heap.size]) := ⟨(Zs.start w).alloc _, IB.new w⟩
    clear hS0 hfew hG
    go_enter Try.func5, Try.ntmps5
    go_wp2_with fail
    generalize w.alloc (.cells (cellsX none 0 none 0) TX) = w3 at *
    generalize hB : w.heap.size = B at *
    have HBB := Lib.hid hB
    clear hB
    go_loopg [4] acts.length (fun gk i wr => ∃ j : Nat, i = .int .i64 j ∧ j ≤ acts.length ∧ gk = acts.length - j ∧ OPost w B j wr)
    case atStart => exact ⟨0, rfl, Nat.zero_le _, rfl, [], _, HS0.out, by simp⟩
    case round =>
      clear HS0
      obtain ⟨j, rfl, hj, hg, L, F, hst, hln⟩ := hrel
      have HG := Lib.hid hg; have HSt := Lib.hid hst; have HLn0 := Lib.hid hln
      have hll : L.length ≤ 40 := by omega
      clear hg hst hln
      by_cases hlt : j < acts.length
      · obtain ⟨b1, o1, rfl, hb1, hcs⟩ := HL0.out.at hlt (by omega)
        have d0 : wr.cell? ⟨b1, o1 + j * 10, none⟩ = some (.int .i64 acts[j].k) := HSt.out.old hb1 (hcs (j * 10) _ (by rw [← Nat.add_zero (j * 10), flat_at ac_len hlt (by omega)]; rfl))
        have E0 : w.cell? ⟨b1, o1 + j * 10 + 1, none⟩ = some (.int .i64 acts[j].s.t) := hcs (j * 10 + 1) _ (by rw [flat_at ac_len hlt (by omega)]; rfl)
        have E1 : w.cell? ⟨b1, o1 + j * 10 + 1 + 1, none⟩ = some (.int .i64 acts[j].s.i) := hcs (j * 10 + 2) _ (by rw [flat_at ac_len hlt (by omega)]; rfl)
        have E2 : w.cell? ⟨b1, o1 + j * 10 + 1 + 1 + 1, none⟩ = some (.int .i64 acts[j].s.p) := hcs (j * 10 + 3) _ (by rw [flat_at ac_len hlt (by omega)]; rfl)
        have E3 : w.cell? ⟨b1, o1 + j * 10 + 1 + 1 + 1 + 1, none⟩ = some (.int .i64 acts[j].s.r) := hcs (j * 10 + 4) _ (by rw [flat_at ac_len hlt (by omega)]; rfl)
        have E4 : w.cell? ⟨b1, o1 + j * 10 + 1 + 1 + 1 + 1 + 1, none⟩ = some (.string acts[j].s.s) := hcs (j * 10 + 5) _ (by rw [flat_at ac_len hlt (by omega)]; rfl)
        have E5 : w.cell? ⟨b1, o1 + j * 10 + 1 + 1 + 1 + 1 + 1 + 1, none⟩ = some (.string acts[j].s.o) := hcs (j * 10 + 6) _ (by rw [flat_at ac_len hlt (by omega)]; rfl)
        have E6 : w.cell? ⟨b1, o1 + j * 10 + 1 + 1 + 1 + 1 + 1 + 1 + 1, none⟩ = some (.int .i64 acts[j].s.b) := hcs (j * 10 + 7) _ (by rw [flat_at ac_len hlt (by omega)]; rfl)
        have E7 : w.cell? ⟨b1, o1 + j * 10 + 1 + 1 + 1 + 1 + 1 + 1 + 1 + 1, none⟩ = some (.int .i64 acts[j].s.d) := hcs (j * 10 + 8) _ (by rw [flat_at ac_len hlt (by omega)]; rfl)
        have E8 : w.cell? ⟨b1, o1 + j * 10 + 1 + 1 + 1 + 1 + 1 + 1 + 1 + 1 + 1, none⟩ = some (.bool acts[j].s.g) := hcs (j * 10 + 9) _ (by rw [flat_at ac_len hlt (by omega)]; rfl)
        have HGy := Lib.hid (HGa.out _ (List.getElem_mem hlt))
        clear hcs
        generalize acts[j] = y at *
        obtain ⟨kd, q⟩ := y
        dsimp only at d0 E0 E1 E2 E3 E4 E5 E6 E7 E8 HGy
        have HGd : Hid (gd q) := ok_gd HGy.out
        by_cases h1 : kd = 2
        · have k1 : (kd == 2) = true := by simp [h1]
          have HE0 := Lib.hid E0; have HE1 := Lib.hid E1
          clear h1 E0 E1 E2 E3 E4 E5 E6 E7 E8
          go_upto_region 8 with (fail)
          refine ko8 (by kernel_rfl) _ _ w _ B L F b1 o1 acts.length c0 j q.t q.i HSt.out hlt (by omega) hb1 HE0.out HE1.out HGd.out.1 HGd.out.2.1 (by omega) rfl rfl rfl rfl ?_
          intro x wk F2 hst
          simp only [Eng.setAll, Act.put, List.setIfInBounds_toArray, List.set_cons_succ, List.set_cons_zero]
          have HX := Lib.hid hst
          clear hst HSt d0
          go_wp2_with fail
          go_roundg (acts.length - (j + 1))
          case rel => exact ⟨j + 1, by go_num, by omega, rfl, _, F2, HX.out, by have := out_len q.t q.i L; have := HLn0.out; omega⟩
          case measure => have := HG.out; omega
        · have k1 : (kd == 2) = false := by simp [h1]
          clear h1
          have HSrs := Lib.hid HSt.out.i.rel.1
          have f0 := HSt.out.old hb1 E0
          have f1 := HSt.out.old hb1 E1
          have f2 := HSt.out.old hb1 E2
          have f3 := HSt.out.old hb1 E3
          have f4 := HSt.out.old hb1 E4
          have f5 := HSt.out.old hb1 E5
          have f6 := HSt.out.old hb1 E6
          have f7 := HSt.out.old hb1 E7
          have f8 := HSt.out.old hb1 E8
          clear E0 E1 E2 E3 E4 E5 E6 E7 E8
          go_wp2_with fail
          refine (HSt.out.put HGd.out (by omega)).mono ?_
          rintro e w4 ⟨rfl, F2, h⟩
          have HX := Lib.hid h
          clear h f0 f1 f2 f3 f4 f5 f6 f7 f8 HSt d0
          go_wp2_with fail
          go_roundg (acts.length - (j + 1))
          case rel => exact ⟨j + 1, by go_num, by omega, rfl, _, F2, HX.out, by have := putK_len q HSrs.out; have := HLn0.out; omega⟩
          case measure => have := HG.out; omega
      · obtain rfl : j = acts.length := by omega
        obtain ⟨wo, rfl⟩ : ∃ wo : World, wo = wr := ⟨_, rfl⟩
        have HSrs := Lib.hid HSt.out.i.rel.1; have HGdL := Lib.hid HSt.out.i.rel.2.1
        have hsz : L.length < 1000000 := by omega
        clear hj HG HLn0
        go_wp2_with fail
        go_loopg [5, 6, 7, 8, 9, 10, 11, 12] acts.length (fun gk i _ _ _ _ _ _ _ wq => ∃ j : Nat, i = .int .i64 j ∧ j ≤ acts.length ∧ gk = acts.length - j ∧ SO w wq B L F)
        case atStart => exact ⟨0, rfl, Nat.zero_le _, rfl, HSt.out⟩
        case round =>
          clear HSt
          obtain ⟨j, rfl, hj, hg, hst⟩ := hrel
          have HG := Lib.hid hg; have HSt := Lib.hid hst
          clear hg hst
          by_cases hlt : j < acts.length
          · obtain ⟨b1, o1, rfl, hb1, hcs⟩ := HL0.out.at hlt (by omega)
            have E0 : w.cell? ⟨b1, o1 + j * 10 + 1, none⟩ = some (.int .i64 acts[j].s.t) := hcs (j * 10 + 1) _ (by rw [flat_at ac_len hlt (by omega)]; rfl)
            have E2 : w.cell? ⟨b1, o1 + j * 10 + 1 + 2, none⟩ = some (.int .i64 acts[j].s.p) := hcs (j * 10 + 3) _ (by rw [flat_at ac_len hlt (by omega)]; rfl)
            have HGd : Hid (gd acts[j].s) := ok_gd (HGa.out _ (List.getElem_mem hlt))
            have HE2 := Lib.hid E2
            have d0 := HSt.out.old hb1 E0
            clear hcs E0 E2
            generalize acts[j].s = q at *
            go_wp2_with fail
            refine (KSpans B L F q.t _ HSt.out.i HGd.out.1 (by omega)).mono ?_
            rintro e w5 ⟨A1, n1, rfl, hS, hf⟩
            have H5 := Lib.hid (HSt.out.fr hf); have HS1 := Lib.hid hS
            clear hS hf HSt d0
            have hml : (spans q.t L).length ≤ 40 := by have : (spans q.t L).length ≤ L.length := by { unfold spans ofT; rw [List.length_map]; exact List.length_filter_le _ _ }; omega
            have hme : (ofT q.t L).length = (spans q.t L).length := (List.length_map _).symm
            have HMe := Lib.hid hme
            have HMi : Hid (∀ k (h : k < (ofT q.t L).length) (h2 : k < (spans q.t L).length), (spans q.t L)[k] = (ofT q.t L)[k].i) := fun k h h2 => by simp [spans]
            clear hme
            generalize hM : spans q.t L = M at *
            clear hM
            go_wp2_with fail
            obtain ⟨A2, n2, hAn⟩ : ∃ A2 n2, Hid ((Value.slice none 0 0 : Value) = .slice A2 0 n2) := ⟨none, 0, Lib.hid rfl⟩
            obtain ⟨wp, rfl⟩ : ∃ wp : World, wp = w5 := ⟨_, rfl⟩
            go_loopg [8, 9, 10, 11, 12] M.length (fun gk v sm i _ _ wq => ∃ k : Nat, i = .int .i64 k ∧ k ≤ M.length ∧ gk = M.length - k ∧ sm = .int .i64 (cntP (parsL ((ofT q.t L).take k)) (ofT q.t L) : Nat) ∧ wq.ownsRow wp.heap.size TI 1 v (parsL ((ofT q.t L).take k)).length (ints (parsL ((ofT q.t L).take k))) ∧ Below wp.heap.size wp wq)
            case atStart => exact ⟨0, rfl, Nat.zero_le _, rfl, by rw [List.take_zero, show parsL [] = [] from rfl, cntP_nil]; rfl, World.ownsRow_nil _ _ _ _, Below.refl _ _⟩
            case round =>
              obtain ⟨k, rfl, hk, hg2, rfl, hown, hbel⟩ := hrel
              have HG2 := Lib.hid hg2; have HO := Lib.hid hown; have HBe := Lib.hid hbel
              have hpl : (parsL ((ofT q.t L).take k)).length ≤ k := Nat.le_trans (parsL_len _) (by rw [List.length_take]; omega)
              have hcl := cntP_le (parsL ((ofT q.t L).take k)) (ofT q.t L)
              have H6 := Lib.hid (H5.out.fr (Fr.of_below' hbel _)); have HS2 := Lib.hid (HS1.out.fr (Fr.of_below' hbel (fun _ => False)) (fun _ _ h => h))
              have hszp : wp.heap.size ≤ wr.heap.size := hbel.size
              clear hg2 hown hbel
              by_cases hlk : k < M.length
              · have hk' : k < (ofT q.t L).length := by have := HMe.out; omega
                have HFn := fnd_of HSrs.out hk'
                have hfan := fan_of hk'
                rw [← HMi.out k hk' hlk] at HFn
                have HSn := Lib.hid (show parsL ((ofT q.t L).take (k + 1)) = addP (parsL ((ofT q.t L).take k)) (ofT q.t L)[k].p by rw [List.take_succ_eq_append_getElem hk', parsL_snoc])
                have hsg := HGdL.out _ (ofT_mem.1 (List.getElem_mem hk')).1
                have HLt : Hid (∀ h : 0 < k, M[k - 1]'(by omega) < M[k]) := fun h => by
                  rw [HMi.out k hk' hlk, HMi.out (k - 1) (by omega) (by omega)]
                  exact List.pairwise_iff_getElem.1 (ofT_srt HSrs.out) (k - 1) k (by omega) hk' (by omega)
                have hzi : M[k] = (ofT q.t L)[k].i := HMi.out k hk' hlk
                have wz : wf64 M[k] := by rw [hzi]; exact hsg.2.1
                have wp_ : wf64 (ofT q.t L)[k].p := hsg.2.2
                have HPa := Kds.Parent B L F q.t M[k] wr H6.out.i HGd.out.1 wz
                rw [HFn] at HPa
                dsimp only [Option.map_some, Option.getD_some, Option.isSome_some] at HPa
                have HPa := Lib.hid HPa
                obtain ⟨b2, o2, rfl, hb2, c2⟩ := HS2.out.at hlk (by omega)
                have dM : wr.cell? ⟨b2, o2 + k, none⟩ = some (.int .i64 M[k]) := c2 k _ (ints_at hlk)
                obtain ⟨z1, hz1⟩ : ∃ z1, Hid (M[k] = z1) := ⟨_, Lib.hid rfl⟩
                have HPp := Lib.hid wp_
                clear c2 hb2 HFn hsg hzi
                generalize (ofT q.t L)[k].p = p at *
                generalize hP : parsL ((ofT q.t L).take k) = P at *
                have HP := Lib.hid hP
                clear hP
                have HZ1 : Hid (M[k] = z1) := hz1
                rw [hz1.out] at dM HPa wz
                go_wp2_with fail
                refine HPa.out.mono ?_
                rintro e w7 ⟨rfl, hf⟩
                obtain ⟨Ap, cp, rfl, hSp, -⟩ := Sl.of_own HO.out
                have H7 : Hid (SB2 w wr w7 B L F (some ⟨b2, o2, none⟩) n1 M Ap cp P) := ⟨H6.out.fr hf, HS2.out.fr hf (fun _ _ h => h), hSp.fr hf (fun _ _ h => h), hf⟩
                obtain ⟨nf, hnf⟩ : ∃ nf, Hid ((kids q.t p L).length = nf) := ⟨_, Lib.hid rfl⟩
                have hfan' : 1 ≤ nf := by rw [← hnf.out]; exact hfan
                clear hf hSp HPa dM hfan H6
                by_cases hk0 : k = 0
                · have HK0 := Lib.hid hk0
                  clear hk0
                  go_upto_region 21 with (fail)
                  refine ko21a (by kernel_rfl) _ _ w wr _ B L F b2 o2 n1 Ap cp k M P q.t p H7.out HGd.out.1 wp_ hsz hlk (by omega) nf hnf hfan' HK0.out rfl rfl rfl rfl rfl rfl ?_
                  intro x w8 x100 hst
                  simp only [Eng.setAll, Act.put, List.setIfInBounds_toArray, List.set_cons_succ, List.set_cons_zero]
                  rw [x100]
                  have H8 := Lib.hid hst
                  clear hst x100 H7
                  have HO8 := Lib.hid (ownsRow_fr HO.out H8.out.f (fun _ _ h => h))
                  have HB8 := Lib.hid (HBe.out.trans (H8.out.f.below hszp (fun _ _ h => h)))
                  have hsz8 : wp.heap.size ≤ w8.heap.size := Nat.le_trans hszp H8.out.f.size
                  go_wp2_with fail
                  refine (has_ Ap cp P p w8 _ rfl H8.out.p).mono ?_
                  rintro e w_ ⟨rfl, rfl⟩
                  generalize (Value.slice Ap P.length cp : Value) = v at *
                  by_cases hin : p ∈ P
                  · have HE : Hid (parsL ((ofT q.t L).take (k + 1)) = P) := by show _ = _; rw [HSn.out]; unfold addP; rw [if_pos hin]
                    rw [decide_eq_true hin]
                    clear hin
                    go_wp2_with fail
                    go_roundg (M.length - (k + 1))
                    case rel => exact ⟨k + 1, by go_num, by omega, rfl, by rw [HE.out], by rw [HE.out]; exact HO8.out, HB8.out⟩
                    case measure => have := HG2.out; omega
                  · have HE : Hid (parsL ((ofT q.t L).take (k + 1)) = P ++ [p]) := by show _ = _; rw [HSn.out]; unfold addP; rw [if_neg hin]
                    have HCn : Hid (cntP (P ++ [p]) (ofT q.t L) = cntP P (ofT q.t L) + nf) := by show _ = _; rw [cntP_add hin, ← kids_len_eq, hnf.out]
                    have hcl2 := cntP_le (P ++ [p]) (ofT q.t L)
                    rw [HCn.out, HMe.out] at hcl2
                    rw [decide_eq_false hin]
                    have hown1' := HO8.out.alloc (.cells #[.int .i64 p] TI)
                    have HK1 := Lib.hid (ownsRow_blk HO8.out)
                    clear hin
                    go_wp2_with (at_builtin; refine wpList_append_sl _ rfl (.tmp 105) (.tmp 107) TInts rfl wp.heap.size TI i0 (.int .i64 0) 1 8 Try.underlying43 hi hz0 hz1_ hz2 rfl (by decide) _ _ _ rfl hown1' _ _ _ _ rfl (Sl.one w8 TI [.int .i64 p] 1 rfl) (by simp [Value.oneCell']) ?_ ?_ ?_ ?_)
                    · unfold maxLen; omega
                    · omega
                    · first | omega | (simp; omega)
                    intro v1 w1 hown1 hgrow1
                    have HO1 := Lib.hid hown1
                    have HB1 := Lib.hid ((HB8.out.alloc hsz8 _).grown hgrow1 (by simp; omega) (fun k e => (HK1.out k e).1))
                    have f1 : Fr (fun b => wp.heap.size ≤ b) w8 w1 := (Fr.alloc (fun _ => False) w8 _).trans (Fr.grown hgrow1 (S := fun b => wp.heap.size ≤ b) (fun k e => (HK1.out k e).1)) (fun _ _ h => h.elim) (fun _ _ h => h)
                    have H10 : Hid (SO w w1 B L F) := ⟨H8.out.s.zs.frS f1 (fun k hk h => by have := H5.out.zs.n0le; omega), H8.out.s.i.fr f1 (fun b hb h => by have := H5.out.i.lt b hb; omega)⟩
                    clear hown1 hgrow1 hown1' f1
                    have hFan := Kds.Fan B L F q.t p w1 H10.out.i HGd.out.1 wp_ (by omega)
                    rw [hnf.out] at hFan
                    have HFan := Lib.hid hFan
                    clear hFan
                    have hq0 : (0 : Int) ≤ (cntP P (ofT q.t L) : Nat) := by omega
                    generalize cntP P (ofT q.t L) = cn at *
                    go_wp2_with fail
                    refine HFan.out.mono ?_
                    rintro e w10 ⟨rfl, hf⟩
                    have HF := Lib.hid hf
                    clear hf HFan
                    go_wp2_with fail
                    go_roundg (M.length - (k + 1))
                    case rel => exact ⟨k + 1, by go_num, by omega, rfl, by rw [HE.out, HCn.out]; go_num, by rw [HE.out, ints, List.map_append, List.length_append]; exact ownsRow_fr HO1.out HF.out (fun _ _ h => h), HB1.out.trans (HF.out.below (by have := HB1.out.size; omega) (fun _ _ h => h))⟩
                    case measure => have := HG2.out; omega
                · obtain ⟨z2, hy2⟩ : ∃ z2, Hid (M[k - 1]'(by omega) = z2) := ⟨_, Lib.hid rfl⟩
                  go_upto_region 21 with (fail)
                  refine ko21b (by kernel_rfl) _ _ w wr _ B L F b2 o2 n1 Ap cp k M P q.t p H7.out HGd.out.1 wp_ hsz hlk (by omega) nf hnf hfan' (by omega) z1 z2 HZ1 hy2 (by have := HLt.out (by omega); rw [hz1.out, hy2.out] at this; exact this) rfl rfl rfl rfl rfl rfl rfl ?_
                  intro x w8 x100 hst
                  simp only [Eng.setAll, Act.put, List.setIfInBounds_toArray, List.set_cons_succ, List.set_cons_zero]
                  rw [x100]
                  have H8 := Lib.hid hst
                  clear hst x100 H7
                  have HO8 := Lib.hid (ownsRow_fr HO.out H8.out.f (fun _ _ h => h))
                  have HB8 := Lib.hid (HBe.out.trans (H8.out.f.below hszp (fun _ _ h => h)))
                  have hsz8 : wp.heap.size ≤ w8.heap.size := Nat.le_trans hszp H8.out.f.size
                  go_wp2_with fail
                  refine (has_ Ap cp P p w8 _ rfl H8.out.p).mono ?_
                  rintro e w_ ⟨rfl, rfl⟩
                  generalize (Value.slice Ap P.length cp : Value) = v at *
                  by_cases hin : p ∈ P
                  · have HE : Hid (parsL ((ofT q.t L).take (k + 1)) = P) := by show _ = _; rw [HSn.out]; unfold addP; rw [if_pos hin]
                    rw [decide_eq_true hin]
                    clear hin
                    go_wp2_with fail
                    go_roundg (M.length - (k + 1))
                    case rel => exact ⟨k + 1, by go_num, by omega, rfl, by rw [HE.out], by rw [HE.out]; exact HO8.out, HB8.out⟩
                    case measure => have := HG2.out; omega
                  · have HE : Hid (parsL ((ofT q.t L).take (k + 1)) = P ++ [p]) := by show _ = _; rw [HSn.out]; unfold addP; rw [if_neg hin]
                    have HCn : Hid (cntP (P ++ [p]) (ofT q.t L) = cntP P (ofT q.t L) + nf) := by show _ = _; rw [cntP_add hin, ← kids_len_eq, hnf.out]
                    have hcl2 := cntP_le (P ++ [p]) (ofT q.t L)
                    rw [HCn.out, HMe.out] at hcl2
                    rw [decide_eq_false hin]
                    have hown1' := HO8.out.alloc (.cells #[.int .i64 p] TI)
                    have HK1 := Lib.hid (ownsRow_blk HO8.out)
                    clear hin
                    go_wp2_with (at_builtin; refine wpList_append_sl _ rfl (.tmp 105) (.tmp 107) TInts rfl wp.heap.size TI i0 (.int .i64 0) 1 8 Try.underlying43 hi hz0 hz1_ hz2 rfl (by decide) _ _ _ rfl hown1' _ _ _ _ rfl (Sl.one w8 TI [.int .i64 p] 1 rfl) (by simp [Value.oneCell']) ?_ ?_ ?_ ?_)
                    · unfold maxLen; omega
                    · omega
                    · first | omega | (simp; omega)
                    intro v1 w1 hown1 hgrow1
                    have HO1 := Lib.hid hown1
                    have HB1 := Lib.hid ((HB8.out.alloc hsz8 _).grown hgrow1 (by simp; omega) (fun k e => (HK1.out k e).1))
                    have f1 : Fr (fun b => wp.heap.size ≤ b) w8 w1 := (Fr.alloc (fun _ => False) w8 _).trans (Fr.grown hgrow1 (S := fun b => wp.heap.size ≤ b) (fun k e => (HK1.out k e).1)) (fun _ _ h => h.elim) (fun _ _ h => h)
                    have H10 : Hid (SO w w1 B L F) := ⟨H8.out.s.zs.frS f1 (fun k hk h => by have := H5.out.zs.n0le; omega), H8.out.s.i.fr f1 (fun b hb h => by have := H5.out.i.lt b hb; omega)⟩
                    clear hown1 hgrow1 hown1' f1
                    have hFan := Kds.Fan B L F q.t p w1 H10.out.i HGd.out.1 wp_ (by omega)
                    rw [hnf.out] at hFan
                    have HFan := Lib.hid hFan
                    clear hFan
                    have hq0 : (0 : Int) ≤ (cntP P (ofT q.t L) : Nat) := by omega
                    generalize cntP P (ofT q.t L) = cn at *
                    go_wp2_with fail
                    refine HFan.out.mono ?_
                    rintro e w10 ⟨rfl, hf⟩
                    have HF := Lib.hid hf
                    clear hf HFan
                    go_wp2_with fail
                    go_roundg (M.length - (k + 1))
                    case rel => exact ⟨k + 1, by go_num, by omega, rfl, by rw [HE.out, HCn.out]; go_num, by rw [HE.out, ints, List.map_append, List.length_append]; exact ownsRow_fr HO1.out HF.out (fun _ _ h => h), HB1.out.trans (HF.out.below (by have := HB1.out.size; omega) (fun _ _ h => h))⟩
                    case measure => have := HG2.out; omega
              · obtain rfl : k = M.length := by omega
                rw [show (ofT q.t L).take M.length = ofT q.t L by rw [List.take_of_length_le (by have := HMe.out; omega)]] at HO
                have hsm : cntP (parsL ((ofT q.t L).take M.length)) (ofT q.t L) = M.length := by
                  rw [show (ofT q.t L).take M.length = ofT q.t L by rw [List.take_of_length_le (by have := HMe.out; omega)], cntP_all (parsL_mem _)]; exact HMe.out
                rw [hsm]
                have HKn : Hid (q.p ∉ parsL (ofT q.t L) → kids q.t q.p L = []) := fun h => kids_none (fun x hx e => h (e ▸ parsL_mem _ x hx))
                clear hsm hpl hcl
                generalize parsL (ofT q.t L) = P at *
                obtain ⟨Ap, cp, rfl, hSp, -⟩ := Sl.of_own HO.out
                have H7 : Hid (SB2 w wr wr B L F A1 n1 M Ap cp P) := ⟨H6.out, HS2.out, hSp, Fr.refl _ _⟩
                clear hSp H6
                have dq : wr.cell? ⟨b1, o1 + j * 10 + 1 + 2, none⟩ = some (.int .i64 q.p) := H7.out.s.old hb1 HE2.out
                have q3 : ((M.length : Int) != (M.length : Int)) = false := by simp
                by_cases hin : q.p ∈ P
                · have HD := Lib.hid (decide_eq_true hin)
                  clear hin
                  go_wp2_with fail
                  refine (has_ Ap cp P q.p wr _ rfl H7.out.p).mono ?_
                  rintro e w_ ⟨rfl, rfl⟩
                  rw [HD.out]
                  go_wp2_with fail
                  go_roundg (acts.length - (j + 1))
                  case rel => exact ⟨j + 1, by go_num, by omega, rfl, H7.out.s⟩
                  case measure => have := HG.out; omega
                · have HD := Lib.hid (decide_eq_false hin)
                  have hF := Kds.Fan B L F q.t q.p wr H7.out.s.i HGd.out.1 HGd.out.2.2 (by omega)
                  rw [HKn.out hin] at hF
                  have HF := Lib.hid hF
                  clear hin hF
                  go_wp2_with fail
                  refine (has_ Ap cp P q.p wr _ rfl H7.out.p).mono ?_
                  rintro e w_ ⟨rfl, rfl⟩
                  rw [HD.out]
                  go_wp2_with fail
                  refine HF.out.mono ?_
                  rintro e w9 ⟨rfl, hf⟩
                  have H9 := Lib.hid (H7.out.s.fr hf)
                  clear hf dq
                  go_wp2_with fail
                  go_roundg (acts.length - (j + 1))
                  case rel => exact ⟨j + 1, by go_num, by omega, rfl, H9.out⟩
                  case measure => have := HG.out; omega
          · obtain rfl : j = acts.length := by omega
            go_wp2_with fail
            refine (awake _).mono ?_
            rintro e w8 ⟨rfl, hf⟩
            have HF := Lib.hid hf
            clear hf
            go_wp2_with fail
            go_ret
            exact ⟨rfl, (HSt.out.fr HF.out).zs.bel⟩
end Law20
end Go.Proofs.Ytkhhdadlpilbmaa
