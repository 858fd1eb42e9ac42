/- Layer 25's statements: HistPlays: for every input the answer is true. -/
import Derived.Test.YtolpdgaomlhgdaaLaw25p
namespace Go.Proofs.Ytolpdgaomlhgdaa
open Go.RowKit
namespace Law25
open HistP BagP Bag Wide Bucket Hist Ref25
def PPost (w : World) (B Bx : Nat) (m : Int) (wr : World) : Prop := ∃ x F Fx, Zs w.heap.size w wr [F, Fx] ∧ HB wr B x F ∧ RH wr Bx x Fx ∧ sumL x.1 ≤ m
theorem SA.post {w w' : World} {B Bx Ba : Nat} {x : HS} {F Fx : List Nat} {y : Ac} {m : Int} (h : SA w w' B Bx Ba x x F Fx y) (hm : sumL x.1 ≤ m) : PPost w B Bx m w' := ⟨x, F, Fx, h.zs.less (by simp), h.h, h.r, hm⟩
set_option maxRecDepth 100000 in
set_option maxHeartbeats 2000000 in
theorem plays (A0 : Option Addr) (c0 : Nat) (acts : List Ac) (p : Int) (w : World) (hS0 : Sl w 3 A0 acts.length c0 (acts.flatMap ac)) (hG : ∀ a ∈ acts, Rd w a) :
    Calls Try.prog 12 #[.slice A0 acts.length c0, .int .i64 p] w fun e w' => e = .returned (.bool true) ∧ Below w.heap.size w w' := by
  have HFew := Lib.hid (Few A0 c0 acts w hS0 (fun a ha => by have := (hG a ha).2.1; have := (hG a ha).2.2.1; unfold maxLen at this; omega))
  by_cases hfew : few acts = false
  · rw [hfew] at HFew
    have HA := Lib.hid (awake w)
    clear hfew hS0 hG
    go_enter Try.func12, Try.ntmps12
    go_wp2_with fail
    refine HFew.out.mono ?_
    rintro e w1 ⟨rfl, rfl⟩
    go_wp2_with fail
    refine HA.out.mono ?_
    rintro e w1 ⟨rfl, hb⟩
    have HB := Lib.hid hb
    clear hb
    go_wp2_with fail
    go_ret
    exact ⟨rfl, HB.out⟩
  · have hfew : few acts = true := by simpa using hfew
    rw [hfew] at HFew
    have hl : acts.length ≤ 30 := by unfold few at hfew; simp at hfew; exact hfew.2
    have H12 : Hid (∀ a ∈ acts, a.L.length ≤ 12) := fun a ha => by
      unfold few at hfew; simp only [Bool.and_eq_true, List.all_eq_true, decide_eq_true_eq] at hfew
      rw [List.take_of_length_le hl] at hfew
      exact hfew.1 a ha
    have HL0 := Lib.hid hS0; have HGa := Lib.hid hG
    clear hS0 hfew hG
    have HS0 : Hid (PPost w w.heap.size (w.heap.size + 1) 0 ((w.alloc (.cells #[.pointer none, .int .i64 0, .int .i64 0, .int .i64 0, .int .i64 0] TH)).alloc (.cells #[.slice none 0 0, .int .i64 0, .int .i64 0] Ref25.TR))) := by
      have z := ((Zs.start w).alloc (.cells #[.pointer none, .int .i64 0, .int .i64 0, .int .i64 0, .int .i64 0] TH)).alloc (.cells #[.slice none 0 0, .int .i64 0, .int .i64 0] Ref25.TR)
      have h1 := (HB.new w).fr (Fr.alloc (fun _ => False) _ (.cells #[.slice none 0 0, .int .i64 0, .int .i64 0] Ref25.TR)) (fun _ _ h => h)
      have h2 := RH.new (w.alloc (.cells #[.pointer none, .int .i64 0, .int .i64 0, .int .i64 0, .int .i64 0] TH))
      simp only [World.size_alloc, List.nil_append, List.cons_append] at z h2
      exact ⟨_, _, _, z, h1, h2, by simp [sumL]⟩
    go_enter Try.func12, Try.ntmps12
    go_wp2_with fail
    refine HFew.out.mono ?_
    rintro e w1 ⟨rfl, rfl⟩
    clear HFew
    go_wp2_with fail
    generalize (w.alloc (.cells #[.pointer none, .int .i64 0, .int .i64 0, .int .i64 0, .int .i64 0] TH)).alloc (.cells #[.slice none 0 0, .int .i64 0, .int .i64 0] Ref25.TR) = w3 at *
    generalize hB : w.heap.size = B at *
    have HBB := Lib.hid hB
    clear hB
    generalize B + 1 = Bx at *
    go_loopg [8, 9, 10, 11, 12, 13, 14, 15, 16, 17, 18] acts.length (fun gk i _ _ _ _ _ _ _ _ _ _ wr => ∃ j : Nat, i = .int .i64 j ∧ j ≤ acts.length ∧ gk = acts.length - j ∧ PPost w B Bx (12 * j) wr)
    case atStart => exact ⟨0, rfl, Nat.zero_le _, rfl, HS0.out⟩
    case round =>
      clear HS0
      obtain ⟨j, rfl, hj, hg, x, F, Fx, hz, hh, hr, hsm⟩ := hrel
      have HG := Lib.hid hg; have HZ := Lib.hid hz; have HH := Lib.hid hh; have HR := Lib.hid hr; have HSm := Lib.hid hsm
      have hln : x.1.length ≤ 360 := by have := len_le hh.ok; omega
      clear hg hz hh hr hsm
      by_cases hlt : j < acts.length
      · obtain ⟨b1, o1, rfl, hb1, hcs⟩ := HL0.out.at hlt (by omega)
        have d0 : wr.cell? ⟨b1, o1 + j * 3, none⟩ = some (.int .i64 acts[j].k) := (HZ.out.bel.cell (p := ⟨b1, _, none⟩) hb1).trans (hcs (j * 3) _ (by rw [← Nat.add_zero (j * 3), flat_at ac_len hlt (by omega)]; rfl))
        have d1 : wr.cell? ⟨b1, o1 + j * 3 + 1, none⟩ = some (.int .i64 acts[j].d) := (HZ.out.bel.cell (p := ⟨b1, _, none⟩) hb1).trans (hcs (j * 3 + 1) _ (by rw [flat_at ac_len hlt (by omega)]; rfl))
        have d2 : wr.cell? ⟨b1, o1 + j * 3 + 1 + 1, none⟩ = some (.slice acts[j].A acts[j].L.length acts[j].c) := (HZ.out.bel.cell (p := ⟨b1, _, none⟩) hb1).trans (hcs (j * 3 + 2) _ (by rw [flat_at ac_len hlt (by omega)]; rfl))
        have HRd := Lib.hid (HGa.out _ (List.getElem_mem hlt))
        have HTw := Lib.hid (H12.out _ (List.getElem_mem hlt))
        clear hcs
        generalize acts[j] = y at *
        have HSt1 : Hid (SA w (wr.alloc (.cells #[.int .i64 y.k, .int .i64 y.d, .slice y.A y.L.length y.c] TAct)) B Bx wr.heap.size x x F Fx y) :=
          ⟨HZ.out.alloc _, HH.out.fr (Fr.alloc (fun _ => False) _ _) (fun _ _ h => h), HR.out.fr (Fr.alloc (fun _ => False) _ _) (fun _ _ h => h), Bk.new _ _ _⟩
        clear HZ HH HR
        go_upto_block 2 with (fail)
        clear d0 d1 d2
        go_cut [39] (fun _ wc => ∃ (x' : HS) (F' Fx' : List Nat), SA w wc B Bx wr.heap.size x' x' F' Fx' y ∧ sumL x'.1 ≤ 12 * ((j : Int) + 1))
        case first =>
          have c1 : (wr.alloc (.cells #[.int .i64 y.k, .int .i64 y.d, .slice y.A y.L.length y.c] TAct)).cell? ⟨wr.heap.size, 1, none⟩ = some (.int .i64 y.d) := HSt1.out.a.cell 1
          have c2 : (wr.alloc (.cells #[.int .i64 y.k, .int .i64 y.d, .slice y.A y.L.length y.c] TAct)).cell? ⟨wr.heap.size, 2, none⟩ = some (.slice y.A y.L.length y.c) := HSt1.out.a.cell 2
          clear c1 c2
          generalize (wr.alloc (.cells #[.int .i64 y.k, .int .i64 y.d, .slice y.A y.L.length y.c] TAct)) = W1 at *
          generalize wr.heap.size = Ba at *
          have c1 : W1.cell? ⟨Ba, 1, none⟩ = some (.int .i64 y.d) := HSt1.out.a.cell 1
          by_cases h1 : y.k = 1
          · have k1 : (y.k == 1) = true := by simp [h1]
            clear h1
            go_wp2_with fail
            refine (Hist.Add B y.d x F W1 HSt1.out.h (by omega)).mono ?_
            rintro e w4 ⟨rfl, F4, hb4, ht4⟩
            have H4 := Lib.hid (HSt1.out.turnH hb4 ht4)
            clear hb4 ht4 c1
            have c1 : w4.cell? ⟨Ba, 1, none⟩ = some (.int .i64 y.d) := H4.out.a.cell 1
            go_wp2_with fail
            refine (Ref25.Add Bx y.d x Fx w4 H4.out.r (by omega)).mono ?_
            rintro e w5 ⟨rfl, F5, hb5, ht5⟩
            have H5 := Lib.hid (H4.out.turnR hb5 ht5)
            clear hb5 ht5 c1 H4
            have c1 : w5.cell? ⟨Ba, 1, none⟩ = some (.int .i64 y.d) := H5.out.a.cell 1
            have hsl : sumL (addH y.d x).1 ≤ 12 * ((j : Int) + 1) := by have := sum_add_le (k := bk y.d) (m := 1) HSt1.out.h.ok (by omega); have := HSm.out; show sumL (addL (bk y.d) 1 x.1) ≤ _; omega
            have HSl := Lib.hid hsl
            clear hsl
            go_wp2_with fail
            refine (Hist.Add_none y.d w5).mono ?_
            rintro e w6 ⟨rfl, rfl⟩
            go_wp2_with fail
            go_meet
            exact ⟨_, _, _, H5.out, HSl.out⟩
          · have k1 : (y.k == 1) = false := by simp [h1]
            clear h1
            by_cases h2 : y.k = 2
            · have k2 : (y.k == 2) = true := by simp [h2]
              clear h2
              have HSl : Hid (sumL (dropH y.d x).1 ≤ 12 * ((j : Int) + 1)) := by
                have h1 := sum_take_le (k := bk y.d) HSt1.out.h.ok
                have h2 := HSm.out
                show sumL (dropH y.d x).1 ≤ _
                unfold dropH
                split
                · dsimp only; omega
                · omega
              go_upto_region 15 with (fail)
              refine p15 (by kernel_rfl) _ _ w W1 B Bx Ba x F Fx y _ HSt1.out (by omega) (Lib.hid rfl) rfl rfl rfl rfl rfl ?_
              intro x2 w4 F4 Fx4 hx hst
              simp only [Eng.setAll, Act.put, List.setIfInBounds_toArray, List.set_cons_succ, List.set_cons_zero]
              rw [hx]
              have H4 := Lib.hid hst
              clear hst hx
              go_wp2_with fail
              go_meet
              exact ⟨_, _, _, H4.out, HSl.out⟩
            · have k2 : (y.k == 2) = false := by simp [h2]
              clear h2
              by_cases h3 : y.k = 3
              · have k3 : (y.k == 3) = true := by simp [h3]
                clear h3 c1
                have c2 : W1.cell? ⟨Ba, 2, none⟩ = some (.slice y.A y.L.length y.c) := HSt1.out.a.cell 2
                have hso := sum_of_le y.L
                have hlo := len_le hso.2
                have htw := HTw.out
                have HSl : Hid (sumL (mergeH (ofH y.L) x).1 ≤ 12 * ((j : Int) + 1)) := by
                  have h1 := (sum_all_le (ofH y.L).1 HSt1.out.h.ok hso.2.pos).1
                  have h2 := HSm.out
                  show sumL (addAll (ofH y.L).1 x.1) ≤ _
                  omega
                have hll : x.1.length + (ofH y.L).1.length < 1000000 := by omega
                clear hso hlo
                go_wp2_with fail
                refine (Hist.Of y.A y.c y.L W1 (HRd.out.fr (Fr.of_below' HSt1.out.zs.bel (fun _ => False)) (fun _ _ h => h)) (by omega)).mono ?_
                rintro e w4 ⟨rfl, Fo, hbo, hFo, hfo⟩
                have H4 := Lib.hid (HSt1.out.fr hfo)
                have HMg := Lib.hid (Hist.Merge B W1.heap.size x (ofH y.L) F Fo w4 H4.out.h hbo hll (fun i hi hx => by have := (hFo i hi).1; have := HSt1.out.h.lt i hx; omega))
                clear hbo hFo hfo c2
                generalize W1.heap.size = Bo at *
                go_wp2_with fail
                refine HMg.out.mono ?_
                rintro e w5 ⟨rfl, F5, hb5, ht5⟩
                have H5 := Lib.hid (H4.out.turnH hb5 ht5)
                clear hb5 ht5 HMg H4
                have c2 : w5.cell? ⟨Ba, 2, none⟩ = some (.slice y.A y.L.length y.c) := H5.out.a.cell 2
                go_wp2_with fail
                refine (Ref25.Of y.A y.c y.L w5 (HRd.out.fr (Fr.of_below' H5.out.zs.bel (fun _ => False)) (fun _ _ h => h)) (by omega)).mono ?_
                rintro e w6 ⟨rfl, Fr6, hb6, hF6, hf6⟩
                have H6 := Lib.hid (H5.out.fr hf6)
                have HMg := Lib.hid (Ref25.Merge_any Bx w5.heap.size x (ofH y.L) Fx Fr6 w6 H6.out.r hb6 hll (.inl (fun hx => by have := (hF6 _ hx).1; have := H5.out.r.lt Bx H5.out.r.mem; omega)))
                clear hb6 hF6 hf6 c2 H5
                generalize w5.heap.size = Br at *
                go_wp2_with fail
                refine HMg.out.mono ?_
                rintro e w7 ⟨rfl, F7, hb7, ht7⟩
                have H7 := Lib.hid (H6.out.turnR hb7 ht7)
                clear hb7 ht7 HMg H6
                go_wp2_with fail
                refine (Hist.Merge_to_none _ w7).mono ?_
                rintro e w8 ⟨rfl, rfl⟩
                go_wp2_with fail
                refine (Hist.Merge_of_none B w7).mono ?_
                rintro e w8 ⟨rfl, rfl⟩
                go_wp2_with fail
                go_meet
                exact ⟨_, _, _, H7.out, HSl.out⟩
              · have k3 : (y.k == 3) = false := by simp [h3]
                clear h3
                go_wp2_with fail
                go_meet
                exact ⟨_, _, _, HSt1.out, by have := HSm.out; omega⟩
        case rest =>
          obtain ⟨x', F', Fx', hst, hsm⟩ := hcut
          have H2 := Lib.hid hst; have HSm2 := Lib.hid hsm
          have hln2 : x'.1.length ≤ 372 := by have := len_le hst.h.ok; omega
          clear hst hsm HSt1
          have Q1 := Lib.hid (Hist.Quantile B p x' F' _ H2.out.h)
          go_wp2_with fail
          refine Q1.out.mono ?_
          rintro e w4 ⟨rfl, hf4⟩
          have H4 := Lib.hid (H2.out.fr hf4)
          clear hf4 H2 Q1
          have Q2 := Lib.hid (Ref25.Quantile Bx p x' Fx' w4 H4.out.r (by have := HSm2.out; omega))
          go_wp2_with fail
          refine Q2.out.mono ?_
          rintro e w5 ⟨rfl, hf5⟩
          have H5 := Lib.hid (H4.out.fr hf5)
          clear hf5 H4 Q2
          have Q3 := Lib.hid (Hist.Quantile_none p w5)
          go_wp2_with fail
          refine Q3.out.mono ?_
          rintro e w6 ⟨rfl, rfl⟩
          clear Q3
          have Q4 := Lib.hid (same w5 B Bx x' F' Fx' H5.out.h H5.out.r (by omega))
          generalize quant x' p = qq at *
          obtain ⟨q1, q2, q3⟩ := qq
          have k1 : (q1 != q1) = false := by simp
          have k2 : (q2 != q2) = false := by simp
          have k3 : (q3 != q3) = false := by simp
          go_wp2_with fail
          refine Q4.out.mono ?_
          rintro e w7 ⟨rfl, hf7⟩
          have H7 := Lib.hid (H5.out.fr hf7)
          clear hf7 H5 Q4
          go_wp2_with fail
          refine (Hist.Len_none w7).mono ?_
          rintro e w8 ⟨rfl, rfl⟩
          go_wp2_with fail
          refine (Hist.Sum_none w7).mono ?_
          rintro e w8 ⟨rfl, hf8⟩
          have H8 := Lib.hid (H7.out.fr hf8)
          clear hf8 H7
          go_wp2_with fail
          refine (Hist.Buckets_none w8).mono ?_
          rintro e w9 ⟨rfl, rfl⟩
          go_wp2_with fail
          go_roundg (acts.length - (j + 1))
          case rel => exact ⟨j + 1, by go_num, by omega, rfl, H8.out.post (by have := HSm2.out; omega)⟩
          case measure => have := HG.out; omega
      · obtain rfl : j = acts.length := by omega
        have HM1 := Lib.hid (Hist.Merge_self B x F wr HH.out (by omega))
        go_wp2_with fail
        refine HM1.out.mono ?_
        rintro e w4 ⟨rfl, F4, hb4, ht4⟩
        have H4 := Lib.hid hb4
        have HZ4 := Lib.hid (HZ.out.turn [] [Fx] ht4)
        have HR4 := Lib.hid (HR.out.fr ht4.fr (HZ.out.ap 0 1 rfl rfl (by decide)))
        clear hb4 ht4 HM1
        have HM2 := Lib.hid (Ref25.Merge_any Bx Bx x x Fx Fx w4 HR4.out HR4.out (by omega) (.inr rfl))
        go_wp2_with fail
        refine HM2.out.mono ?_
        rintro e w5 ⟨rfl, F5, hb5, ht5⟩
        have HR5 := Lib.hid hb5
        have HZ5 := Lib.hid (HZ4.out.turn [F4] [] ht5)
        have H5 := Lib.hid (H4.out.fr ht5.fr (HZ4.out.ap 1 0 rfl rfl (by decide)))
        clear hb5 ht5 HM2
        have hlm : (mergeH x x).1.length ≤ 1000 := by have := addAll_len x.1 x.1; show (addAll x.1 x.1).length ≤ 1000; omega
        have HSa := Lib.hid (same w5 B Bx _ F4 F5 H5.out HR5.out (by omega))
        go_wp2_with fail
        refine HSa.out.mono ?_
        rintro e w6 ⟨rfl, hf6⟩
        have HF6 := Lib.hid (HZ5.out.fr hf6)
        clear hf6 HSa
        go_wp2_with fail
        refine (awake w6).mono ?_
        rintro e w7 ⟨rfl, hb7⟩
        have HBl := Lib.hid (HF6.out.bel.trans (hb7.mono HF6.out.n0le))
        clear hb7
        go_wp2_with fail
        go_ret
        exact ⟨rfl, by first | exact HBl.out | (rw [HBB.out]; exact HBl.out) | (rw [← HBB.out]; exact HBl.out)⟩
end Law25
end Go.Proofs.Ytolpdgaomlhgdaa
