/- Layer 17's statements: QuotaPlays: for every input the answer is true. -/
import Derived.Test.YtolpdgaomlhgdaaLaw17r
namespace Go.Proofs.Ytolpdgaomlhgdaa
open Go.RowKit
namespace Law17
open BagP QuotaP Quota
theorem S2.wf {w0 w : World} {B r Bx Bn Bl : Nat} {all tr : Int} {L : List (Int × Int)} {T : List Int} {FX : List Nat} (h : S2 w0 w B r Bx Bn Bl all tr L T FX) : ∀ t ∈ trT T, wfI t := by
  intro t ht
  rw [← h.rel.keys h.q.cs] at ht
  obtain ⟨p, hp, rfl⟩ := List.mem_map.1 ht
  exact (h.q.gm.2.1 p hp).1
def PPost (w : World) (B r Bx Bn Bl : Nat) (all tr : Int) (m : Int) (wr : World) : Prop := ∃ L T FX, S2 w wr B r Bx Bn Bl all tr L T FX ∧ sumL L ≤ m
set_option maxRecDepth 100000 in
set_option maxHeartbeats 2000000 in
theorem plays (all tr : Int) (A0 : Option Addr) (c0 : Nat) (acts : List Ac) (w : World) (hS0 : Sl w 2 A0 acts.length c0 (acts.flatMap ac)) (hG : ∀ a ∈ acts, Rd w a) :
    Calls Try.prog 3 #[.int .i64 all, .int .i64 tr, .slice A0 acts.length c0] w fun e w' => e = .returned (.bool true) ∧ Below w.heap.size w w' := by
  have HFew := Lib.hid (Few A0 c0 acts w hS0 (fun a ha => by have := (hG a ha).1.2.1; have := (hG a ha).1.2.2.1; unfold maxLen at this; omega))
  by_cases hfew : few acts = false
  · rw [hfew] at HFew
    have HA := Lib.hid (awake w)
    clear hfew hS0 hG
    go_enter Try.func3, Try.ntmps3
    go_wp2_with fail
    refine HFew.out.mono ?_
    rintro e w1 ⟨rfl, rfl⟩
    go_wp2_with fail
    refine HA.out.mono ?_
    rintro e w1 ⟨rfl, hb⟩
    have HB := Lib.hid hb
    clear hb
    go_wp2_with fail
    go_ret
    exact ⟨rfl, HB.out⟩
  · have hfew : few acts = true := by simpa using hfew
    rw [hfew] at HFew
    have hl : acts.length ≤ 30 := by unfold few at hfew; simp at hfew; exact hfew.2
    have H12 : Hid (∀ a ∈ acts, a.L.length ≤ 12) := fun a ha => by
      unfold few at hfew; simp only [Bool.and_eq_true, List.all_eq_true, decide_eq_true_eq] at hfew
      rw [List.take_of_length_le hl] at hfew
      exact hfew.1 a ha
    have HL0 := Lib.hid hS0; have HGa := Lib.hid hG
    clear hS0 hfew hG
    go_enter Try.func3, Try.ntmps3
    go_wp2_with fail
    refine HFew.out.mono ?_
    rintro e w1 ⟨rfl, rfl⟩
    clear HFew
    go_wp2_with fail
    refine (New all tr w).mono ?_
    rintro e w1 ⟨F, rfl, ⟨r, hq, rfl⟩, hF, hb⟩
    have HZ1 := Lib.hid ((Zs.start w).snoc (F := [w.heap.size + 1, r]) (Fr.of_below' hb _) hF)
    have HQ1 := Lib.hid hq
    generalize w.heap.size + 1 = B at *
    clear hq hF hb
    go_wp2_with fail
    refine (Ref17.New all tr w1).mono ?_
    rintro e w2 ⟨rfl, hbk, hsz, hb⟩
    have hf2 : Fr (fun _ => False) w1 w2 := Fr.of_below' hb _
    have HS : Hid (S2 w ((w2.alloc (.cells #[.int .i64 0, .int .i64 0, .int .i64 0, .map none] TQ)).alloc (.cells #[.pointer none, .pointer (some ⟨w2.heap.size, 0, none⟩)] 25)) B r w1.heap.size w2.heap.size (w2.heap.size + 1) (max all 0) (max tr 0) [] [] [w1.heap.size]) := by
      have fa := fun (w : World) (o : Obj) => Fr.alloc (fun _ => False) w o
      have z1 := HZ1.out.snoc (F := [w1.heap.size]) hf2 (fun x hx => by simp at hx; subst hx; omega)
      have z2 := (z1.alloc (.cells #[.int .i64 0, .int .i64 0, .int .i64 0, .map none] TQ)).alloc (.cells #[.pointer none, .pointer (some ⟨w2.heap.size, 0, none⟩)] 25)
      have b1 := (Bk.new w2 #[.int .i64 0, .int .i64 0, .int .i64 0, .map none] TQ).fr (fa _ (.cells #[.pointer none, .pointer (some ⟨w2.heap.size, 0, none⟩)] 25)) (fun _ _ h => h)
      have b2 := Bk.new (w2.alloc (.cells #[.int .i64 0, .int .i64 0, .int .i64 0, .map none] TQ)) #[.pointer none, .pointer (some ⟨w2.heap.size, 0, none⟩)] 25
      simp only [World.size_alloc, List.nil_append, List.cons_append] at z2 b2
      have fz := ((hf2.trans (fa w2 (.cells #[.int .i64 0, .int .i64 0, .int .i64 0, .map none] TQ)) (T := fun _ => False) (fun _ _ h => h) (fun _ _ h => h)).trans (fa _ (.cells #[.pointer none, .pointer (some ⟨w2.heap.size, 0, none⟩)] 25)) (T := fun _ => False) (fun _ _ h => h) (fun _ _ h => h))
      have fz2 := ((fa w2 (.cells #[.int .i64 0, .int .i64 0, .int .i64 0, .map none] TQ)).trans (fa _ (.cells #[.pointer none, .pointer (some ⟨w2.heap.size, 0, none⟩)] 25)) (T := fun _ => False) (fun _ _ h => h) (fun _ _ h => h))
      exact ⟨z2, HQ1.out.fr fz (fun h => h) (fun h => h), ⟨none, 0, hbk.fr fz2 (fun _ _ h => h), Sl.empty _ _, rfl, by simp⟩, b1, b2, Rel.nil⟩
    clear HZ1 HQ1 hbk hsz hb hf2
    generalize w1.heap.size = Bx at *
    go_wp2_with fail
    generalize (w2.alloc (.cells #[.int .i64 0, .int .i64 0, .int .i64 0, .map none] TQ)).alloc (.cells #[.pointer none, .pointer (some ⟨w2.heap.size, 0, none⟩)] 25) = w3 at *
    generalize w2.heap.size + 1 = Bl at *
    generalize w2.heap.size = Bn at *
    go_loopg [10, 11, 12, 13] acts.length (fun gk i _ _ _ wr => ∃ j : Nat, i = .int .i64 j ∧ j ≤ acts.length ∧ gk = acts.length - j ∧ PPost w B r Bx Bn Bl (max all 0) (max tr 0) (12 * j) wr)
    case atStart => exact ⟨0, rfl, Nat.zero_le _, rfl, [], [], _, HS.out, by simp [sumL]⟩
    case round =>
      clear HS
      obtain ⟨j, rfl, hj, hg, L, T, FX, hst, hsm⟩ := hrel
      have HG := Lib.hid hg; have HSt := Lib.hid hst; have HSm := Lib.hid hsm
      clear hg hst hsm
      obtain ⟨wo, rfl⟩ : ∃ wo : World, wo = wr := ⟨_, rfl⟩
      by_cases hlt : j < acts.length
      · obtain ⟨b1, o1, rfl, hb1, hcs⟩ := HL0.out.at hlt (by omega)
        have HD : Hid (∀ w', Below w.heap.size w w' → w'.cell? ⟨b1, o1 + j * 2, none⟩ = some (.int .i64 acts[j].k) ∧ w'.cell? ⟨b1, o1 + j * 2 + 1, none⟩ = some (.slice acts[j].A acts[j].L.length acts[j].c)) := fun w' hb =>
          ⟨(hb.cell (p := ⟨b1, _, none⟩) hb1).trans (hcs (j * 2) _ (by rw [← Nat.add_zero (j * 2), flat_at ac_len hlt (by omega)]; rfl)), (hb.cell (p := ⟨b1, _, none⟩) hb1).trans (hcs (j * 2 + 1) _ (by rw [flat_at ac_len hlt (by omega)]; rfl))⟩
        have HR := Lib.hid (HGa.out _ (List.getElem_mem hlt))
        have HTw := Lib.hid (H12.out _ (List.getElem_mem hlt))
        clear hcs
        generalize acts[j] = y at *
        have hTl : (T.length : Int) ≤ 360 := by have := HSt.out.rel.sum; have := HSm.out; omega
        obtain ⟨d0, d1⟩ := HD.out _ HSt.out.zs.bel
        have HE1 := Lib.hid (HD.out w (Below.refl _ _)).2
        go_upto_if 38 with (fail)
        go_cut [38] (fun _ wc => PPost w B r Bx Bn Bl (max all 0) (max tr 0) (12 * (j + 1)) wc)
        case first =>
          by_cases hk : y.k = 2
          · have k1 : (y.k == 2) = true := by simp [hk]
            clear hk
            go_wp2_with fail
            refine (HSt.out.s1.drop HR.out).mono ?_
            rintro e w3 ⟨rfl, hq3⟩
            have HQ3 := Lib.hid hq3
            clear hq3 d0 d1
            obtain ⟨d0, d1⟩ := HD.out _ HQ3.out.zs.bel
            go_wp2_with fail
            refine (HQ3.out.dropX HR.out (by omega)).mono ?_
            rintro e w4 ⟨rfl, F4, hq4⟩
            have H3 : Hid (PPost w B r Bx Bn Bl (max all 0) (max tr 0) (12 * (j + 1)) w4) := ⟨_, _, _, hq4.s2 (HSt.out.rel.drop _ HSt.out.q.cs), by have := sum_dropM_le (y.L.map (·.t)) HSt.out.q.cs; have := HSm.out; omega⟩
            clear hq4
            go_wp2_with fail
            go_meet
            exact H3.out
          · have k1 : (y.k == 2) = false := by simp [hk]
            clear hk
            have hTw := HTw.out
            cases hok : okM (max all 0) (max tr 0) (y.L.map (·.t)) L
            all_goals
              have HOk := Lib.hid hok
              have HOs := Lib.hid ((HSt.out.rel.ok HSt.out.q.cs (max all 0) (max tr 0) (y.L.map (·.t))).symm.trans hok)
              clear hok
              go_upto_region 11 with (fail)
              refine p11 (by kernel_rfl) _ _ w wo B r Bx Bn Bl b1 o1 c0 acts.length j (max all 0) (max tr 0) y L T FX _ HSt.out.s1 hb1 hlt HR.out HE1.out (by have := HSm.out; omega) (by omega) HOk HOs rfl rfl rfl rfl rfl ?_
              intro x w' FX' hx hst
              simp only [Eng.setAll, Act.put, List.setIfInBounds_toArray, List.set_cons_succ, List.set_cons_zero]
              rw [hx]
              have H3 : Hid (PPost w B r Bx Bn Bl (max all 0) (max tr 0) (12 * (j + 1)) w') := by
                first
                  | exact ⟨_, _, _, hst.s2 HSt.out.rel, by have := HSm.out; simp; omega⟩
                  | exact ⟨_, _, _, hst.s2 (HSt.out.rel.add HSt.out.q.cs _), by simp only [↓reduceIte]; rw [sum_addM _ HSt.out.q.cs, List.length_map]; have := HSm.out; omega⟩
              clear hst hx
              go_wp2_with fail
              go_meet
              exact H3.out
        case rest =>
          clear HSt HSm d0 d1 hTl HTw
          obtain ⟨M, T2, FX2, hst, hsm⟩ := hcut
          have HSt := Lib.hid hst; have HSm := Lib.hid hsm
          have hTl : T2.length ≤ 360 := by have := hst.rel.sum; omega
          clear hst hsm
          go_wp2_with fail
          refine (Ref17.Traces Bx (max all 0) (max tr 0) T2 FX2 _ HSt.out.x (by omega)).mono ?_
          rintro e w2 ⟨v, rfl, hown, hb⟩
          obtain ⟨AT, cT, rfl, hS, -⟩ := Sl.of_own hown
          have hst2 := HSt.out.fr (Fr.of_below' hb _)
          obtain ⟨AX, cX, hhd, -, -, -⟩ := hst2.x
          have H3 : Hid (S3 w w2 B r Bx Bn Bl (max all 0) (max tr 0) M T2 FX2 AX cX AT cT) := ⟨hst2, hhd, hS⟩
          have htl : (trT T2).length ≤ T2.length := Ref17.trT_len T2
          clear hown hb hS hst2 hhd HSt
          go_upto_region 14 with (fail)
          refine p14 (by kernel_rfl) _ _ w w2 B r Bx Bn Bl (max all 0) (max tr 0) M T2 FX2 AX AT cX cT H3.out rfl rfl rfl rfl ?_
          intro x w' hx hst
          simp only [Eng.setAll, Act.put, List.setIfInBounds_toArray, List.set_cons_succ, List.set_cons_zero]
          rw [hx]
          have H4 := Lib.hid hst
          clear hst hx H3
          go_wp2_with fail
          go_loopg [12] (trT T2).length (fun gk i wq => ∃ k : Nat, i = .int .i64 k ∧ k ≤ (trT T2).length ∧ gk = (trT T2).length - k ∧ S3 w wq B r Bx Bn Bl (max all 0) (max tr 0) M T2 FX2 AX cX AT cT)
          case atStart => exact ⟨0, rfl, Nat.zero_le _, rfl, H4.out⟩
          case round =>
            clear H4
            obtain ⟨k, rfl, hk, hg2, hs3⟩ := hrel
            have HG2 := Lib.hid hg2; have H4 := Lib.hid hs3
            clear hg2 hs3
            by_cases hlk : k < (trT T2).length
            · obtain ⟨b2, o2, rfl, hb2, hc2⟩ := H4.out.t.at hlk (by omega)
              have HC : Hid (∀ w', Fr (fun _ => False) wr w' → w'.cell? ⟨b2, o2 + k, none⟩ = some (.int .i64 (trT T2)[k])) := fun w' hf =>
                (World.cell?_of_block (w := wr) (a := ⟨b2, _, none⟩) (hf.block b2 hb2 (fun h => h))).trans (hc2 k _ (by simp [ints, hlk]))
              have HWt := Lib.hid (H4.out.s.wf _ (List.getElem_mem hlk))
              clear hc2
              generalize (trT T2)[k] = t at *
              go_upto_region 19 with (fail)
              refine p19 (by kernel_rfl) _ _ w wr B r Bx Bn Bl (max all 0) (max tr 0) M T2 FX2 AX (some ⟨b2, o2, none⟩) cX cT H4.out k t b2 o2 rfl hlk HWt.out HC.out rfl rfl rfl rfl rfl ?_
              intro x w' hx hst
              simp only [Eng.setAll, Act.put, List.setIfInBounds_toArray, List.set_cons_succ, List.set_cons_zero]
              rw [hx]
              have H5 := Lib.hid hst
              clear hst hx H4 HC
              go_wp2_with fail
              go_roundg ((trT T2).length - (k + 1))
              case rel => exact ⟨k + 1, by go_num, by omega, rfl, H5.out⟩
              case measure => have := HG2.out; omega
            · obtain rfl : k = (trT T2).length := by omega
              obtain ⟨wp, rfl⟩ : ∃ wp : World, wp = wr := ⟨_, rfl⟩
              go_wp2_with fail
              go_loopg [13] 2 (fun gk i wq => ∃ k : Nat, i = .int .i64 k ∧ k ≤ 2 ∧ gk = 2 - k ∧ S3 w wq B r Bx Bn Bl (max all 0) (max tr 0) M T2 FX2 AX cX AT cT)
              case atStart => exact ⟨0, rfl, Nat.zero_le _, rfl, H4.out⟩
              case round =>
                clear H4
                obtain ⟨k, rfl, hk, hg3, hs3⟩ := hrel
                have HG3 := Lib.hid hg3; have H4 := Lib.hid hs3
                clear hg3 hs3
                by_cases hlk : k < 2
                · obtain ⟨p, hp⟩ : ∃ p, (#[Value.pointer none, .pointer (some ⟨Bn, 0, none⟩)])[k]? = some (.pointer p) := by
                    match k, hlk with
                    | 0, _ => exact ⟨none, rfl⟩
                    | 1, _ => exact ⟨some ⟨Bn, 0, none⟩, rfl⟩
                  have HP := Lib.hid hp
                  clear hp
                  go_upto_region 24 with (fail)
                  refine p24 (by kernel_rfl) _ _ w wr B r Bx Bn Bl b1 o1 c0 acts.length j (max all 0) (max tr 0) M T2 FX2 AX AT cX cT H4.out y hb1 hlt HR.out HE1.out k p hlk HP.out rfl rfl rfl rfl rfl ?_
                  intro x w' hst
                  simp only [Eng.setAll, Act.put, List.setIfInBounds_toArray, List.set_cons_succ, List.set_cons_zero]
                  have H5 := Lib.hid hst
                  clear hst H4
                  go_upto_region 25 with (fail)
                  refine p25 (by kernel_rfl) _ _ w w' B r Bx Bn Bl b1 o1 c0 acts.length j (max all 0) (max tr 0) M T2 FX2 AX AT cX cT H5.out y hb1 hlt HR.out HE1.out k p hlk HP.out rfl rfl rfl rfl rfl ?_
                  intro x2 w'' hx hst
                  simp only [Eng.setAll, Act.put, List.setIfInBounds_toArray, List.set_cons_succ, List.set_cons_zero]
                  rw [hx]
                  have H6 := Lib.hid hst
                  clear hst hx H5
                  go_wp2_with fail
                  go_roundg (2 - (k + 1))
                  case rel => exact ⟨k + 1, by go_num, by omega, rfl, H6.out⟩
                  case measure => have := HG3.out; omega
                · obtain rfl : k = 2 := by omega
                  go_wp2_with fail
                  go_roundg (acts.length - (j + 1))
                  case rel => exact ⟨j + 1, by go_num, by omega, rfl, M, T2, FX2, H4.out.s, HSm.out⟩
                  case measure => have := HG.out; omega
      · obtain rfl : j = acts.length := by omega
        have HA := Lib.hid (awake wo)
        go_wp2_with fail
        refine HA.out.mono ?_
        rintro e w2 ⟨rfl, hb⟩
        have HB := Lib.hid (HSt.out.zs.bel.trans (hb.mono HSt.out.zs.n0le))
        clear hb
        go_wp2_with fail
        go_ret
        exact ⟨rfl, HB.out⟩
end Law17
end Go.Proofs.Ytolpdgaomlhgdaa
