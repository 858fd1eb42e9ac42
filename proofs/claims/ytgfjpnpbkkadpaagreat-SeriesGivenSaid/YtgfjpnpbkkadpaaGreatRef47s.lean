/- gossamerref47.Slot, Counts, Of. -/
import Derived.Test.YtgfjpnpbkkadpaaGreatSers2
import Derived.Test.YtgfjpnpbkkadpaaGreatBags
import Derived.Test.YtgfjpnpbkkadpaaGreatSetFs
namespace Go.Proofs.YtgfjpnpbkkadpaaGreat
open Go.RowKit
namespace Ref47
open KeyP PackP SetP SetW SetF BagP Bag Mk Delta ClsW Ser
attribute [local go_sem] Eng.ev Eng.getO_cons Eng.getO_nil
set_option maxRecDepth 100000 in
theorem Slot (a W : Int) (w : World) (ha : in64 a) : Calls Tryz.prog 60 #[.int .i64 a, .int .i64 W] w fun e w' => e = .returned (.int .i64 (slot a W)) ∧ w = w' := by
  by_cases hW : W < 1
  · by_cases hn : 0 ≤ a
    · have h0 : slot a W = a := by unfold slot; rw [show max W 1 = 1 by omega]; simp
      have h1 := h0
      obtain ⟨ha1, ha2⟩ := ha
      have t0 : decide (a ≥ 0) = true := by simp; omega
      clear h0
      go_enter Tryz.func60, Tryz.ntmps60
      go_wp2_with fail
      go_ret
      refine ⟨?_, rfl⟩
      show Ending.returned (.int .i64 (a)) = _
      exact congrArg (fun n => Ending.returned (.int .i64 n)) (by exact h1.symm)
    · have h0 : slot a W = a := by unfold slot; rw [show max W 1 = 1 by omega]; simp
      have h1 := h0
      obtain ⟨ha1, ha2⟩ := ha
      have t0 : decide (a ≥ 0) = false := by simp; omega
      have m1 : wrap64 (a + 1) = a + 1 := by unfold wrap64; omega
      have m2 : wrap64 (-(a + 1)) = -(a + 1) := by unfold wrap64; omega
      clear h0
      go_enter Tryz.func60, Tryz.ntmps60
      go_wp2_with fail
      go_ret
      refine ⟨?_, rfl⟩
      show Ending.returned (.int .i64 (wrap64 (-wrap64 (-(a + 1) + 1)))) = _
      exact congrArg (fun n => Ending.returned (.int .i64 n)) (by unfold wrap64; omega)
  · by_cases hn : 0 ≤ a
    · have h0 := slot_ref a W
      have hs64 := slot64 W ha
      obtain ⟨hs1, hs2⟩ := hs64
      rw [if_pos hn, show max W 1 = W by omega] at h0
      have h1 := h0
      have t0 : decide (a ≥ 0) = true := by simp; omega
      clear ha
      clear h0
      go_enter Tryz.func60, Tryz.ntmps60
      go_wp2_with fail
      go_ret
      refine ⟨?_, rfl⟩
      show Ending.returned (.int .i64 (a.tdiv W)) = _
      exact congrArg (fun n => Ending.returned (.int .i64 n)) (by rfl)
    · have h0 := slot_ref a W
      have hs64 := slot64 W ha
      obtain ⟨hs1, hs2⟩ := hs64
      rw [if_neg hn, show max W 1 = W by omega] at h0
      have hin := tdiv_in (a := -(a + 1)) (m := W) ⟨by have := ha.2; have := ha.1; omega, by have := ha.2; have := ha.1; omega⟩ (by omega)
      have hnn : 0 ≤ (-(a + 1)).tdiv W := by rw [Int.tdiv_eq_ediv_of_nonneg (by omega)]; exact Int.ediv_nonneg (by omega) (by omega)
      rw [Int.neg_tdiv] at h0 hin hnn
      have h1 := h0
      obtain ⟨ha1, ha2⟩ := ha
      have t0 : decide (a ≥ 0) = false := by simp; omega
      have m1 : wrap64 (a + 1) = a + 1 := by unfold wrap64; omega
      have m2 : wrap64 (-(a + 1)) = -(a + 1) := by unfold wrap64; omega
      clear h0
      go_enter Tryz.func60, Tryz.ntmps60
      go_wp2_with fail
      go_ret
      refine ⟨?_, rfl⟩
      show Ending.returned (.int .i64 (wrap64 (-wrap64 (-(a + 1).tdiv W + 1)))) = _
      exact congrArg (fun n => Ending.returned (.int .i64 n)) (by generalize (a + 1).tdiv W = t at *; unfold wrap64; omega)
theorem sl_snoc (q : List Pq) (p : Pq) (k : Nm) : sl (q ++ [p]) k = sl q k ++ if p.1 = k then [p.2] else [] := by
  unfold sl
  rw [List.filter_append, List.map_append, List.filter_cons]
  by_cases h : p.1 = k <;> simp [h]
theorem cts_snoc (q : List Pq) (p : Pq) (k : Nm) : cts (q ++ [p]) k = if p.1 = k then addL p.2 1 (cts q k) else cts q k := by
  unfold cts
  rw [sl_snoc]
  by_cases h : p.1 = k
  · rw [if_pos h, if_pos h, bagL_snoc]
  · rw [if_neg h, if_neg h, List.append_nil]
theorem bl_eq (a b : ByteArray) : (a.toList == b.toList) = decide (a = b) := by
  cases h : (a.toList == b.toList) with
  | true => exact (decide_eq_true (str_ext (by simpa using h))).symm
  | false => exact (decide_eq_false (fun e => by subst e; simp at h)).symm
set_option maxRecDepth 100000 in
set_option maxHeartbeats 2000000 in
theorem Counts (W : Int) (s o : ByteArray) (A : Option Addr) (c : Nat) (L : List Sn) (w : World) (hS : Ls w A c L) (hlen : L.length ≤ 1000) (X : List (Int × Int)) (hX : cts (L.map (pr W)) (s, o) = X) (m : Nat) (hm : X.length = m) :
    Calls Tryz.prog 18 #[.int .i64 W, .string s, .string o, .slice A L.length c] w fun e w' => ∃ A' c', e = .returned (.slice A' m c') ∧ Cl w' A' c' m X ∧ Below w.heap.size w w' := by
  have HXe := Lib.hid hX; have HM := Lib.hid hm; have HS := Lib.hid hS
  clear hX hm hS
  have kb : ∀ W : World, (Instr.build Ref13.TR #[]).run Tryz.prog W = .ok (.agg #[.slice none 0 0]) W := fun W => by kernel_rfl
  have z := (Zs.start w).alloc (.cells #[.slice none 0 0] Ref13.TR)
  have b2 := Bk.new w #[.slice none 0 0] Ref13.TR
  simp only [List.nil_append] at z
  have HZ := Lib.hid z
  have HR : Hid (Ref13.RB (w.alloc (.cells #[.slice none 0 0] Ref13.TR)) w.heap.size [] [w.heap.size]) := ⟨none, 0, b2, Sl.empty _ _, rfl, by simp⟩
  clear z b2
  go_enter Tryz.func18, Tryz.ntmps18
  go_upto_region 2 with (fail)
  generalize (w.alloc (.cells #[.slice none 0 0] Ref13.TR)) = w1 at *
  clear kb
  go_wp2_with fail
  go_loopg [10] L.length (fun gk n wr => ∃ (i : Nat) (Fb : List Nat), n = .int .i64 i ∧ i ≤ L.length ∧ gk = L.length - i ∧ Zs w.heap.size w wr [Fb] ∧ Ref13.RB wr w.heap.size (cts ((L.take i).map (pr W)) (s, o)) Fb)
  case atStart => exact ⟨0, _, rfl, Nat.zero_le _, rfl, HZ.out, by simpa [cts, sl, bagL] using HR.out⟩
  case round =>
    clear HZ HR
    obtain ⟨i, Fb, rfl, hi, hg, hz, hr⟩ := hrel
    have HG := Lib.hid hg; have HZ := Lib.hid hz; have HR := Lib.hid hr
    clear hg hz hr
    by_cases hlt : i < L.length
    · have HSr := Lib.hid (HS.out.below HZ.out.bel)
      obtain ⟨b1, o1, rfl, hb1, c1⟩ := HSr.out.s.at hlt (by omega)
      have HA := Lib.hid (At.row c1 hlt)
      have HY := Lib.hid (HSr.out.ok _ (List.getElem_mem hlt))
      have HTk := Lib.hid (take_map (pr W) L i hlt)
      have hbg := cts_bg ((L.take i).map (pr W)) (by rw [List.length_map, List.length_take]; omega) (s, o)
      have hcl := cts_len ((L.take i).map (pr W)) (by rw [List.length_map, List.length_take]; omega) (s, o)
      rw [List.length_map, List.length_take] at hcl
      have HOk := Lib.hid hbg.ok
      clear c1 hb1 HSr hbg
      generalize L[i] = y at *
      have q1 : (0 : Int) ≤ (i : Int) := by omega
      have q2 : decide ((i : Int) < (L.length : Int)) = true := by simp; omega
      have q3 : (i : Int) < (L.length : Int) := by omega
      have HSn := Lib.hid (cts_snoc ((L.take i).map (pr W)) (pr W y) (s, o))
      rw [← HTk.out] at HSn
      have yc0 : wr.cell? ⟨b1, o1 + i * 9, none⟩ = some (.int .i64 y.t) := HA.out 0 _ rfl
      have yc1 : wr.cell? ⟨b1, o1 + i * 9 + 1, none⟩ = some (.int .i64 y.i) := HA.out 1 _ rfl
      have yc2 : wr.cell? ⟨b1, o1 + i * 9 + 1 + 1, none⟩ = some (.int .i64 y.p) := HA.out 2 _ rfl
      have yc3 : wr.cell? ⟨b1, o1 + i * 9 + 1 + 1 + 1, none⟩ = some (.int .i64 y.r) := HA.out 3 _ rfl
      have yc4 : wr.cell? ⟨b1, o1 + i * 9 + 1 + 1 + 1 + 1, none⟩ = some (.string y.s) := HA.out 4 _ rfl
      have yc5 : wr.cell? ⟨b1, o1 + i * 9 + 1 + 1 + 1 + 1 + 1, none⟩ = some (.string y.o) := HA.out 5 _ rfl
      have yc6 : wr.cell? ⟨b1, o1 + i * 9 + 1 + 1 + 1 + 1 + 1 + 1, none⟩ = some (.int .i64 y.b) := HA.out 6 _ rfl
      have yc7 : wr.cell? ⟨b1, o1 + i * 9 + 1 + 1 + 1 + 1 + 1 + 1 + 1, none⟩ = some (.int .i64 y.d) := HA.out 7 _ rfl
      have yc8 : wr.cell? ⟨b1, o1 + i * 9 + 1 + 1 + 1 + 1 + 1 + 1 + 1 + 1, none⟩ = some (.bool y.g) := HA.out 8 _ rfl
      cases hs1 : (y.s.toList == s.toList) with
      | false =>
        have hne : cts ((L.take (i + 1)).map (pr W)) (s, o) = cts ((L.take i).map (pr W)) (s, o) := by
          rw [HSn.out, if_neg]
          intro e
          have := congrArg Prod.fst e
          rw [bl_eq, decide_eq_false_iff_not] at hs1
          exact hs1 this
        go_wp2_with fail
        go_roundg (L.length - (i + 1))
        case rel => exact ⟨i + 1, Fb, by go_num, by omega, rfl, HZ.out, by rw [hne]; exact HR.out⟩
        case measure => have := HG.out; omega
      | true =>
        cases hs2 : (y.o.toList == o.toList) with
        | false =>
          have hne : cts ((L.take (i + 1)).map (pr W)) (s, o) = cts ((L.take i).map (pr W)) (s, o) := by
            rw [HSn.out, if_neg]
            intro e
            have := congrArg Prod.snd e
            rw [bl_eq, decide_eq_false_iff_not] at hs2
            exact hs2 this
          go_wp2_with fail
          go_roundg (L.length - (i + 1))
          case rel => exact ⟨i + 1, Fb, by go_num, by omega, rfl, HZ.out, by rw [hne]; exact HR.out⟩
          case measure => have := HG.out; omega
        | true =>
          have hne : cts ((L.take (i + 1)).map (pr W)) (s, o) = addL (slot y.b W) 1 (cts ((L.take i).map (pr W)) (s, o)) := by
            rw [HSn.out, if_pos]; · rfl
            rw [bl_eq, decide_eq_true_eq] at hs1 hs2
            show (y.s, y.o) = _
            rw [hs1, hs2]
          have HNe := Lib.hid hne
          clear hne
          go_wp2_with fail
          refine (Slot y.b W wr HY.out.b).mono ?_
          rintro e w3 ⟨rfl, rfl⟩
          go_wp2_with fail
          refine (Ref13.Add w.heap.size (slot y.b W) 1 _ Fb wr HR.out HOk.out (by omega)).mono ?_
          rintro e w4 ⟨rfl, Fb', hr, ht⟩
          have HZ4 := Lib.hid (HZ.out.turn [] [] ht)
          have HR4 : Hid (Ref13.RB w4 w.heap.size (cts ((L.take (i + 1)).map (pr W)) (s, o)) Fb') := by show Ref13.RB _ _ _ _; rw [HNe.out]; exact hr
          clear hr ht HZ HR HNe HA HTk HSn hs1 hs2 yc0 yc1 yc2 yc3 yc4 yc5 yc6 yc7 yc8
          go_wp2_with fail
          go_roundg (L.length - (i + 1))
          case rel => exact ⟨i + 1, Fb', by go_num, by omega, rfl, HZ4.out, HR4.out⟩
          case measure => have := HG.out; omega
    · obtain rfl : i = L.length := by omega
      rw [List.take_length, HXe.out] at HR
      obtain ⟨A2, c2, h1, h2, h3, h4⟩ := HR.out
      have H2 := Lib.hid h2
      have e0 : wr.cell? ⟨w.heap.size, 0, none⟩ = some (.slice A2 X.length c2) := h1.cell 0
      have q2 : decide ((L.length : Int) < (L.length : Int)) = false := by simp
      clear h1 h2 h3 h4 HR
      rw [HM.out] at e0 H2
      go_wp2_with fail
      go_ret
      exact ⟨A2, c2, rfl, ⟨H2.out, HM.out⟩, HZ.out.bel⟩
set_option maxRecDepth 100000 in
theorem Of (W : Int) (s o : ByteArray) (A : Option Addr) (c : Nat) (L : List Sn) (w : World) (hS : Ls w A c L) (hlen : L.length ≤ 1000) (X : List (Int × Int)) (hX : cts ((spn L).map (pr W)) (s, o) = X) (m : Nat) (hm : X.length = m) :
    Calls Tryz.prog 28 #[.int .i64 W, .string s, .string o, .slice A L.length c] w fun e w' => ∃ A' c', e = .returned (.slice A' m c') ∧ Cl w' A' c' m X ∧ Below w.heap.size w w' := by
  have HSp := Lib.hid (RefSpans A c L w hS (by omega))
  have hsl : (spn L).length ≤ 1000 := Nat.le_trans (Nat.le_trans (alive_len _) (setOf_len L)) hlen
  have HX := Lib.hid hX
  generalize spn L = M at *
  clear hS hX
  go_enter Tryz.func28, Tryz.ntmps28
  go_wp2_with fail
  refine HSp.out.mono ?_
  rintro e w1 ⟨A1, c1, rfl, hls, -, hb⟩
  have HC := Lib.hid (Counts W s o A1 c1 M w1 hls hsl X HX.out m hm)
  have HB := Lib.hid hb
  clear hls hb HSp
  go_wp2_with fail
  refine HC.out.mono ?_
  rintro e w2 ⟨A2, c2, rfl, hcl, hb⟩
  have HCl := Lib.hid hcl; have HB2 := Lib.hid (HB.out.trans (hb.mono HB.out.size))
  clear hcl hb HC
  go_wp2_with fail
  go_ret
  exact ⟨A2, c2, rfl, HCl.out, HB2.out⟩
end Ref47
end Go.Proofs.YtgfjpnpbkkadpaaGreat
