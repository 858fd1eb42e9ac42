/- gossamerref47.Slot, Counts, Of. -/
import Derived.Test.YtgfjpnpbkkadpaaGreatSers2
import Derived.Test.YtgfjpnpbkkadpaaGreatBags
import Derived.Test.YtgfjpnpbkkadpaaGreatSetFs
import Derived.Test.YtgfjpnpbkkadpaaGreatCodes
namespace Go.Proofs.YtgfjpnpbkkadpaaGreat
open Go.RowKit
namespace Ref47
open KeyP PackP SetP SetW SetF BagP Bag Mk Delta ClsW Ser
attribute [local go_sem] Eng.ev Eng.getO_cons Eng.getO_nil
set_option maxRecDepth 100000 in
theorem Slot (a W : Int) (w : World) (ha : in64 a) : Calls Tryz.prog 60 #[.int .i64 a, .int .i64 W] w fun e w' => e = .returned (.int .i64 (slot a W)) ∧ w = w' := by
  by_cases hW : W < 1
  · by_cases hn : 0 ≤ a
    · have h0 : slot a W = a := by unfold slot; rw [show max W 1 = 1 by omega]; simp
      have h1 := h0
      obtain ⟨ha1, ha2⟩ := ha
      have t0 : decide (a ≥ 0) = true := by simp; omega
      clear h0
      go_enter Tryz.func60, Tryz.ntmps60
      go_wp2_with fail
      go_ret
      refine ⟨?_, rfl⟩
      show Ending.returned (.int .i64 (a)) = _
      exact congrArg (fun n => Ending.returned (.int .i64 n)) (by exact h1.symm)
    · have h0 : slot a W = a := by unfold slot; rw [show max W 1 = 1 by omega]; simp
      have h1 := h0
      obtain ⟨ha1, ha2⟩ := ha
      have t0 : decide (a ≥ 0) = false := by simp; omega
      have m1 : wrap64 (a + 1) = a + 1 := by unfold wrap64; omega
      have m2 : wrap64 (-(a + 1)) = -(a + 1) := by unfold wrap64; omega
      clear h0
      go_enter Tryz.func60, Tryz.ntmps60
      go_wp2_with fail
      go_ret
      refine ⟨?_, rfl⟩
      show Ending.returned (.int .i64 (wrap64 (-wrap64 (-(a + 1) + 1)))) = _
      exact congrArg (fun n => Ending.returned (.int .i64 n)) (by unfold wrap64; omega)
  · by_cases hn : 0 ≤ a
    · have h0 := slot_ref a W
      have hs64 := slot64 W ha
      obtain ⟨hs1, hs2⟩ := hs64
      rw [if_pos hn, show max W 1 = W by omega] at h0
      have h1 := h0
      have t0 : decide (a ≥ 0) = true := by simp; omega
      clear ha
      clear h0
      go_enter Tryz.func60, Tryz.ntmps60
      go_wp2_with fail
      go_ret
      refine ⟨?_, rfl⟩
      show Ending.returned (.int .i64 (a.tdiv W)) = _
      exact congrArg (fun n => Ending.returned (.int .i64 n)) (by rfl)
    · have h0 := slot_ref a W
      have hs64 := slot64 W ha
      obtain ⟨hs1, hs2⟩ := hs64
      rw [if_neg hn, show max W 1 = W by omega] at h0
      have hin := tdiv_in (a := -(a + 1)) (m := W) ⟨by have := ha.2; have := ha.1; omega, by have := ha.2; have := ha.1; omega⟩ (by omega)
      have hnn : 0 ≤ (-(a + 1)).tdiv W := by rw [Int.tdiv_eq_ediv_of_nonneg (by omega)]; exact Int.ediv_nonneg (by omega) (by omega)
      rw [Int.neg_tdiv] at h0 hin hnn
      have h1 := h0
      obtain ⟨ha1, ha2⟩ := ha
      have t0 : decide (a ≥ 0) = false := by simp; omega
      have m1 : wrap64 (a + 1) = a + 1 := by unfold wrap64; omega
      have m2 : wrap64 (-(a + 1)) = -(a + 1) := by unfold wrap64; omega
      clear h0
      go_enter Tryz.func60, Tryz.ntmps60
      go_wp2_with fail
      go_ret
      refine ⟨?_, rfl⟩
      show Ending.returned (.int .i64 (wrap64 (-wrap64 (-(a + 1).tdiv W + 1)))) = _
      exact congrArg (fun n => Ending.returned (.int .i64 n)) (by generalize (a + 1).tdiv W = t at *; unfold wrap64; omega)
theorem sl_snoc (q : List Pq) (p : Pq) (k : Nm) : sl (q ++ [p]) k = sl q k ++ if p.1 = k then [p.2] else [] := by
  unfold sl
  rw [List.filter_append, List.map_append, List.filter_cons]
  by_cases h : p.1 = k <;> simp [h]
theorem cts_snoc (q : List Pq) (p : Pq) (k : Nm) : cts (q ++ [p]) k = if p.1 = k then addL p.2 1 (cts q k) else cts q k := by
  unfold cts
  rw [sl_snoc]
  by_cases h : p.1 = k
  · rw [if_pos h, if_pos h, bagL_snoc]
  · rw [if_neg h, if_neg h, List.append_nil]
theorem bl_eq (a b : ByteArray) : (a.toList == b.toList) = decide (a = b) := by
  cases h : (a.toList == b.toList) with
  | true => exact (decide_eq_true (str_ext (by simpa using h))).symm
  | false => exact (decide_eq_false (fun e => by subst e; simp at h)).symm
set_option maxRecDepth 100000 in
set_option maxHeartbeats 2000000 in
theorem Counts (W : Int) (s o : ByteArray) (A : Option Addr) (c : Nat) (L : List Sn) (w : World) (hS : Ls w A c L) (hlen : L.length ≤ 1000) (X : List (Int × Int)) (hX : cts (L.map (pr W)) (s, o) = X) (m : Nat) (hm : X.length = m) :
    Calls Tryz.prog 18 #[.int .i64 W, .string s, .string o, .slice A L.length c] w fun e w' => ∃ A' c', e = .returned (.slice A' m c') ∧ Cl w' A' c' m X ∧ Below w.heap.size w w' := by
  have HXe := Lib.hid hX; have HM := Lib.hid hm; have HS := Lib.hid hS
  clear hX hm hS
  have kb : ∀ W : World, (Instr.build Ref13.TR #[]).run Tryz.prog W = .ok (.agg #[.slice none 0 0]) W := fun W => by kernel_rfl
  have z := (Zs.start w).alloc (.cells #[.slice none 0 0] Ref13.TR)
  have b2 := Bk.new w #[.slice none 0 0] Ref13.TR
  simp only [List.nil_append] at z
  have HZ := Lib.hid z
  have HR : Hid (Ref13.RB (w.alloc (.cells #[.slice none 0 0] Ref13.TR)) w.heap.size [] [w.heap.size]) := ⟨none, 0, b2, Sl.empty _ _, rfl, by simp⟩
  clear z b2
  go_enter Tryz.func18, Tryz.ntmps18
  go_upto_region 2 with (fail)
  generalize (w.alloc (.cells #[.slice none 0 0] Ref13.TR)) = w1 at *
  clear kb
  go_wp2_with fail
  go_loopg [10] L.length (fun gk n wr => ∃ (i : Nat) (Fb : List Nat), n = .int .i64 i ∧ i ≤ L.length ∧ gk = L.length - i ∧ Zs w.heap.size w wr [Fb] ∧ Ref13.RB wr w.heap.size (cts ((L.take i).map (pr W)) (s, o)) Fb)
  case atStart => exact ⟨0, _, rfl, Nat.zero_le _, rfl, HZ.out, by simpa [cts, sl, bagL] using HR.out⟩
  case round =>
    clear HZ HR
    obtain ⟨i, Fb, rfl, hi, hg, hz, hr⟩ := hrel
    have HG := Lib.hid hg; have HZ := Lib.hid hz; have HR := Lib.hid hr
    clear hg hz hr
    by_cases hlt : i < L.length
    · have HSr := Lib.hid (HS.out.below HZ.out.bel)
      obtain ⟨b1, o1, rfl, hb1, c1⟩ := HSr.out.s.at hlt (by omega)
      have HA := Lib.hid (At.row c1 hlt)
      have HY := Lib.hid (HSr.out.ok _ (List.getElem_mem hlt))
      have HTk := Lib.hid (take_map (pr W) L i hlt)
      have hbg := cts_bg ((L.take i).map (pr W)) (by rw [List.length_map, List.length_take]; omega) (s, o)
      have hcl := cts_len ((L.take i).map (pr W)) (by rw [List.length_map, List.length_take]; omega) (s, o)
      rw [List.length_map, List.length_take] at hcl
      have HOk := Lib.hid hbg.ok
      clear c1 hb1 HSr hbg
      generalize L[i] = y at *
      have q1 : (0 : Int) ≤ (i : Int) := by omega
      have q2 : decide ((i : Int) < (L.length : Int)) = true := by simp; omega
      have q3 : (i : Int) < (L.length : Int) := by omega
      have HSn := Lib.hid (cts_snoc ((L.take i).map (pr W)) (pr W y) (s, o))
      rw [← HTk.out] at HSn
      have yc0 : wr.cell? ⟨b1, o1 + i * 9, none⟩ = some (.int .i64 y.t) := HA.out 0 _ rfl
      have yc1 : wr.cell? ⟨b1, o1 + i * 9 + 1, none⟩ = some (.int .i64 y.i) := HA.out 1 _ rfl
      have yc2 : wr.cell? ⟨b1, o1 + i * 9 + 1 + 1, none⟩ = some (.int .i64 y.p) := HA.out 2 _ rfl
      have yc3 : wr.cell? ⟨b1, o1 + i * 9 + 1 + 1 + 1, none⟩ = some (.int .i64 y.r) := HA.out 3 _ rfl
      have yc4 : wr.cell? ⟨b1, o1 + i * 9 + 1 + 1 + 1 + 1, none⟩ = some (.string y.s) := HA.out 4 _ rfl
      have yc5 : wr.cell? ⟨b1, o1 + i * 9 + 1 + 1 + 1 + 1 + 1, none⟩ = some (.string y.o) := HA.out 5 _ rfl
      have yc6 : wr.cell? ⟨b1, o1 + i * 9 + 1 + 1 + 1 + 1 + 1 + 1, none⟩ = some (.int .i64 y.b) := HA.out 6 _ rfl
      have yc7 : wr.cell? ⟨b1, o1 + i * 9 + 1 + 1 + 1 + 1 + 1 + 1 + 1, none⟩ = some (.int .i64 y.d) := HA.out 7 _ rfl
      have yc8 : wr.cell? ⟨b1, o1 + i * 9 + 1 + 1 + 1 + 1 + 1 + 1 + 1 + 1, none⟩ = some (.bool y.g) := HA.out 8 _ rfl
      cases hs1 : (y.s.toList == s.toList) with
      | false =>
        have hne : cts ((L.take (i + 1)).map (pr W)) (s, o) = cts ((L.take i).map (pr W)) (s, o) := by
          rw [HSn.out, if_neg]
          intro e
          have := congrArg Prod.fst e
          rw [bl_eq, decide_eq_false_iff_not] at hs1
          exact hs1 this
        go_wp2_with fail
        go_roundg (L.length - (i + 1))
        case rel => exact ⟨i + 1, Fb, by go_num, by omega, rfl, HZ.out, by rw [hne]; exact HR.out⟩
        case measure => have := HG.out; omega
      | true =>
        cases hs2 : (y.o.toList == o.toList) with
        | false =>
          have hne : cts ((L.take (i + 1)).map (pr W)) (s, o) = cts ((L.take i).map (pr W)) (s, o) := by
            rw [HSn.out, if_neg]
            intro e
            have := congrArg Prod.snd e
            rw [bl_eq, decide_eq_false_iff_not] at hs2
            exact hs2 this
          go_wp2_with fail
          go_roundg (L.length - (i + 1))
          case rel => exact ⟨i + 1, Fb, by go_num, by omega, rfl, HZ.out, by rw [hne]; exact HR.out⟩
          case measure => have := HG.out; omega
        | true =>
          have hne : cts ((L.take (i + 1)).map (pr W)) (s, o) = addL (slot y.b W) 1 (cts ((L.take i).map (pr W)) (s, o)) := by
            rw [HSn.out, if_pos]; · rfl
            rw [bl_eq, decide_eq_true_eq] at hs1 hs2
            show (y.s, y.o) = _
            rw [hs1, hs2]
          have HNe := Lib.hid hne
          clear hne
          go_wp2_with fail
          refine (Slot y.b W wr HY.out.b).mono ?_
          rintro e w3 ⟨rfl, rfl⟩
          go_wp2_with fail
          refine (Ref13.Add w.heap.size (slot y.b W) 1 _ Fb wr HR.out HOk.out (by omega)).mono ?_
          rintro e w4 ⟨rfl, Fb', hr, ht⟩
          have HZ4 := Lib.hid (HZ.out.turn [] [] ht)
          have HR4 : Hid (Ref13.RB w4 w.heap.size (cts ((L.take (i + 1)).map (pr W)) (s, o)) Fb') := by show Ref13.RB _ _ _ _; rw [HNe.out]; exact hr
          clear hr ht HZ HR HNe HA HTk HSn hs1 hs2 yc0 yc1 yc2 yc3 yc4 yc5 yc6 yc7 yc8
          go_wp2_with fail
          go_roundg (L.length - (i + 1))
          case rel => exact ⟨i + 1, Fb', by go_num, by omega, rfl, HZ4.out, HR4.out⟩
          case measure => have := HG.out; omega
    · obtain rfl : i = L.length := by omega
      rw [List.take_length, HXe.out] at HR
      obtain ⟨A2, c2, h1, h2, h3, h4⟩ := HR.out
      have H2 := Lib.hid h2
      have e0 : wr.cell? ⟨w.heap.size, 0, none⟩ = some (.slice A2 X.length c2) := h1.cell 0
      have q2 : decide ((L.length : Int) < (L.length : Int)) = false := by simp
      clear h1 h2 h3 h4 HR
      rw [HM.out] at e0 H2
      go_wp2_with fail
      go_ret
      exact ⟨A2, c2, rfl, ⟨H2.out, HM.out⟩, HZ.out.bel⟩
set_option maxRecDepth 100000 in
theorem Of (W : Int) (s o : ByteArray) (A : Option Addr) (c : Nat) (L : List Sn) (w : World) (hS : Ls w A c L) (hlen : L.length ≤ 1000) (X : List (Int × Int)) (hX : cts ((spn L).map (pr W)) (s, o) = X) (m : Nat) (hm : X.length = m) :
    Calls Tryz.prog 28 #[.int .i64 W, .string s, .string o, .slice A L.length c] w fun e w' => ∃ A' c', e = .returned (.slice A' m c') ∧ Cl w' A' c' m X ∧ Below w.heap.size w w' := by
  have HSp := Lib.hid (RefSpans A c L w hS (by omega))
  have hsl : (spn L).length ≤ 1000 := Nat.le_trans (Nat.le_trans (alive_len _) (setOf_len L)) hlen
  have HX := Lib.hid hX
  generalize spn L = M at *
  clear hS hX
  go_enter Tryz.func28, Tryz.ntmps28
  go_wp2_with fail
  refine HSp.out.mono ?_
  rintro e w1 ⟨A1, c1, rfl, hls, -, hb⟩
  have HC := Lib.hid (Counts W s o A1 c1 M w1 hls hsl X HX.out m hm)
  have HB := Lib.hid hb
  clear hls hb HSp
  go_wp2_with fail
  refine HC.out.mono ?_
  rintro e w2 ⟨A2, c2, rfl, hcl, hb⟩
  have HCl := Lib.hid hcl; have HB2 := Lib.hid (HB.out.trans (hb.mono HB.out.size))
  clear hcl hb HC
  go_wp2_with fail
  go_ret
  exact ⟨A2, c2, rfl, HCl.out, HB2.out⟩
end Ref47
end Go.Proofs.YtgfjpnpbkkadpaaGreat
namespace Go.Proofs.YtgfjpnpbkkadpaaGreat
open Go.RowKit
namespace Ref47
open KeyP PackP SetP SetW SetF BagP Bag Mk Delta ClsW Ser
attribute [local go_sem] Eng.ev Eng.getO_cons Eng.getO_nil
theorem cell_lt {w : World} {b o : Nat} {v : Value} (h : w.cell? ⟨b, o, none⟩ = some v) : b < w.heap.size := by
  simp only [World.cell?] at h
  rcases Nat.lt_or_ge b w.heap.size with h1 | h1
  · exact h1
  · rw [Array.getElem?_eq_none h1] at h; cases h
theorem cell_fr {S : Nat → Prop} {w w' : World} {b o : Nat} {v : Value} (h : w.cell? ⟨b, o, none⟩ = some v) (hf : Fr S w w') (hs : ¬ S b) : w'.cell? ⟨b, o, none⟩ = some v := by
  rw [← h]
  simp only [World.cell?]
  rw [hf.block b (cell_lt h) hs]
/-- A count's row, and the best one's box. -/
structure PQ (w0 w : World) (b o Bb : Nat) (y a c : Int) : Prop where
  r : w.cell? ⟨b, o + 1, none⟩ = some (.int .i64 y)
  k : Bk w Bb #[.int .i64 a, .int .i64 c] TC
  f : Fr (fun _ => False) w0 w
theorem PQ.fr {w0 w w' : World} {b o Bb : Nat} {y a c : Int} (H : PQ w0 w b o Bb y a c) (hf : Fr (fun _ => False) w w') : PQ w0 w' b o Bb y a c := ⟨cell_fr H.r hf (fun h => h), H.k.fr hf (fun _ _ h => h), H.f.trans hf (fun _ _ h => h) (fun _ _ h => h)⟩
set_option maxRecDepth 100000 in
set_option maxHeartbeats 400000 in
theorem rp5 {ops : Array Oper} (hops : Eng.fnOps Tryz.f20 5 = ops) (a0 : Act) (Q : Exit → Act → World → Prop) (w0 w : World) (b1 o1 len c k Bb : Nat) (y a' c' : Int) (hst : PQ w0 w b1 (o1 + k * 2) Bb y a' c') (hk : k < len) (hlen : len ≤ 9223372036854775807)
    (hn : a0.tmps.size = 29) (h_0 : a0.tmps.getD 0 undef = .slice (some ⟨b1, o1, none⟩) len c) (h_4 : a0.tmps.getD 4 undef = .pointer (some ⟨Bb, 0, none⟩)) (h_5 : a0.tmps.getD 5 undef = .int .i64 (k : Int))
    (hpost : ∀ (x : Nat → Value) (w' : World), x 20 = .bool (decide (y > c')) → PQ w0 w' b1 (o1 + k * 2) Bb y a' c' → Q .normal (Eng.setAll a0 [13, 14, 15, 16, 17, 18, 19, 20] x) w') :
    (Code.region 5 ops true).wp Tryz.prog Q a0 w := by
  simp only [Eng.fnOps, Eng.regOps, Tryz.f20, Option.bind_some, Option.getD_some, Nat.reduceEqDiff, ↓reduceIte, Nat.reduceBEq] at hops
  subst hops
  have q1 : (0 : Int) ≤ (k : Int) := by omega
  have q2 : (k : Int) < (len : Int) := by omega
  have HSt := Lib.hid (hst.fr (Fr.drew _ _))
  have hSS : w.drew.cell? ⟨b1, o1 + k * 2 + 1, none⟩ = some (.int .i64 y) ∧ w.drew.cell? ⟨Bb, 1, none⟩ = some (.int .i64 c') := ⟨HSt.out.r, HSt.out.k.cell 1⟩
  refine Eng.regionN [(0, true), (1, true), (2, true), (3, true), (4, true), (5, true), (6, true), (7, true)] (fun w' => w'.cell? ⟨b1, o1 + k * 2 + 1, none⟩ = some (.int .i64 y) ∧ w'.cell? ⟨Bb, 1, none⟩ = some (.int .i64 c')) (by kernel_rfl) 29 hn (by kernel_rfl) rfl (by kernel_rfl) (hSS) (fun a b ha hb => ?_)
  subst ha
  have hb0 : b 0 = .slice (some ⟨b1, o1, none⟩) len c := (hb 0).symm.trans h_0
  have hb4 : b 4 = .pointer (some ⟨Bb, 0, none⟩) := (hb 4).symm.trans h_4
  have hb5 : b 5 = .int .i64 (k : Int) := (hb 5).symm.trans h_5
  clear hb h_0 h_4 h_5
  have HP := Lib.hid hpost; have HN := Lib.hid hn
  clear hpost hn
  refine Eng.Sch.take (v := ?_) rfl rfl (by decide) (by kernel_rfl) (fun w hw => ?_) ?_
  rotate_left
  · (try dsimp only at hw); go_simp; first | done | with_reducible rfl
  refine Eng.Sch.take (v := ?_) rfl rfl (by decide) (by kernel_rfl) (fun w hw => ?_) ?_
  rotate_left
  · (try dsimp only at hw); go_simp; first | done | with_reducible rfl
  refine Eng.Sch.take (v := ?_) rfl rfl (by decide) (by kernel_rfl) (fun w hw => ?_) ?_
  rotate_left
  · (try dsimp only at hw); go_simp; first | done | with_reducible rfl
  refine Eng.Sch.take (v := ?_) rfl rfl (by decide) (by kernel_rfl) (fun w hw => ?_) ?_
  rotate_left
  · (try dsimp only at hw); go_simp; first | done | with_reducible rfl
  refine Eng.Sch.take (v := ?_) rfl rfl (by decide) (by kernel_rfl) (fun w hw => ?_) ?_
  rotate_left
  · (try dsimp only at hw); go_simp; first | done | with_reducible rfl
  refine Eng.Sch.take (v := ?_) rfl rfl (by decide) (by kernel_rfl) (fun w hw => ?_) ?_
  rotate_left
  · (try dsimp only at hw); go_simp; first | done | with_reducible rfl
  refine Eng.Sch.take (v := ?_) rfl rfl (by decide) (by kernel_rfl) (fun w hw => ?_) ?_
  rotate_left
  · (try dsimp only at hw); go_simp; first | done | with_reducible rfl
  refine Eng.Sch.take (v := ?_) rfl rfl (by decide) (by kernel_rfl) (fun w hw => ?_) ?_
  rotate_left
  · (try dsimp only at hw); go_simp; first | done | with_reducible rfl
  refine Eng.Sch.end_ [13, 14, 15, 16, 17, 18, 19, 20] HN.out (by kernel_rfl) (by kernel_rfl) ?_
  exact HP.out _ _ rfl HSt.out

theorem pk_take {X : List (Int × Int)} {k : Nat} (hk : k < X.length) : peakL (X.take (k + 1)) = Ser.pk (peakL (X.take k)) X[k] := by
  rw [List.take_succ_eq_append_getElem hk, peakL_snoc]
theorem two {w : World} {B : Nat} {a c a2 c2 : Int} (h : Bk w B #[.int .i64 a, .int .i64 c] TC) : Bk ((w.setCell ⟨B, 0, none⟩ (.int .i64 a2)).setCell ⟨B, 0 + 1, none⟩ (.int .i64 c2)) B #[.int .i64 a2, .int .i64 c2] TC := (h.set 0 _).set (0 + 1) _
theorem two_fr (w : World) (B : Nat) (u v : Value) : Fr (· = B) w ((w.setCell ⟨B, 0, none⟩ u).setCell ⟨B, 0 + 1, none⟩ v) := (Fr.setCell w ⟨B, 0, none⟩ u (S := (· = B)) rfl).trans (Fr.setCell _ ⟨B, 0 + 1, none⟩ v (S := (· = B)) rfl) (fun _ _ h => h) (fun _ _ h => h)
def PeakPost (X : List (Int × Int)) (w : World) (e : Ending) (w' : World) : Prop := e = .returned (.tuple #[.agg #[.int .i64 (peakL X).1, .int .i64 (peakL X).2], .bool (decide (0 < X.length))]) ∧ Below w.heap.size w w'
set_option maxRecDepth 100000 in
set_option maxHeartbeats 2000000 in
theorem Peak (A : Option Addr) (c n : Nat) (X : List (Int × Int)) (w : World) (hC : Cl w A c n X) : Calls Tryz.prog 20 #[.slice A n c] w (PeakPost X w) := by
  obtain ⟨hs, rfl⟩ := hC
  have hlen : X.length ≤ 9223372036854775807 := by have := hs.2.1; have := hs.2.2.1; unfold maxLen at this; omega
  have f1 := Fr.alloc (fun _ => False) w (.cells #[.int .i64 0, .int .i64 0] TC)
  have f2 := Fr.alloc (fun _ => False) (w.alloc (.cells #[.int .i64 0, .int .i64 0] TC)) (.cells #[.int .i64 0, .int .i64 0] TC)
  have HF := Lib.hid (f1.trans f2 (T := fun _ => False) (fun _ _ h => h) (fun _ _ h => h))
  have HR := Lib.hid ((Bk.new w #[.int .i64 0, .int .i64 0] TC).fr f2 (fun _ _ h => h))
  have hk := Bk.new (w.alloc (.cells #[.int .i64 0, .int .i64 0] TC)) #[.int .i64 0, .int .i64 0] TC
  rw [World.size_alloc] at hk
  have HK := Lib.hid hk
  have HS := Lib.hid hs
  have kb : ∀ W : World, (Instr.build TC #[]).run Tryz.prog W = .ok (.agg #[.int .i64 0, .int .i64 0]) W := fun W => by kernel_rfl
  clear f1 f2 hk hs
  go_enter Tryz.func20, Tryz.ntmps20
  go_upto_region 2 with (fail)
  generalize ((w.alloc (.cells #[.int .i64 0, .int .i64 0] TC)).alloc (.cells #[.int .i64 0, .int .i64 0] TC)) = w1 at *
  clear kb
  go_wp2_with fail
  go_loopg [5] X.length (fun gk n wr => ∃ k : Nat, n = .int .i64 k ∧ k ≤ X.length ∧ gk = X.length - k ∧ Bk wr (w.heap.size + 1) #[.int .i64 (peakL (X.take k)).1, .int .i64 (peakL (X.take k)).2] TC ∧ Fr (· = w.heap.size + 1) w1 wr)
  case atStart => exact ⟨0, rfl, Nat.zero_le _, rfl, HK.out, Fr.refl _ _⟩
  case round =>
    clear HK
    obtain ⟨k, rfl, hk, hg, hbk, hf⟩ := hrel
    have HG := Lib.hid hg; have HK := Lib.hid hbk; have HF1 := Lib.hid hf
    clear hg hbk hf
    have HR1 := Lib.hid (HR.out.fr HF1.out (fun b hb e => by simp at hb; omega))
    by_cases hlt : k < X.length
    · obtain ⟨b1, o1, rfl, hb1, c1⟩ := HS.out.at hlt (by omega)
      have d1 : wr.cell? ⟨b1, o1 + k * 2, none⟩ = some (.int .i64 X[k].1) := cell_fr (cell_fr (c1 (k * 2) _ (by rw [← Nat.add_zero (k * 2), flat_at pc_len hlt (by omega)]; rfl)) HF.out (fun h => h)) HF1.out (by omega)
      have d2 : wr.cell? ⟨b1, o1 + k * 2 + 1, none⟩ = some (.int .i64 X[k].2) := cell_fr (cell_fr (c1 (k * 2 + 1) _ (by rw [flat_at pc_len hlt (by omega)]; rfl)) HF.out (fun h => h)) HF1.out (by omega)
      have HPk := Lib.hid (pk_take hlt)
      have D1 := Lib.hid d1; have D2 := Lib.hid d2
      clear c1 hb1 d1 d2
      generalize X[k] = y at *
      generalize peakL (X.take k) = bst at *
      obtain ⟨y1, y2⟩ := y
      obtain ⟨a1, a2⟩ := bst
      dsimp only at D1 D2 HK
      have q1 : (0 : Int) ≤ (k : Int) := by omega
      have q2 : decide ((k : Int) < (X.length : Int)) = true := by simp; omega
      have q3 : (k : Int) < (X.length : Int) := by omega
      go_upto_region 5 with (fail)
      refine rp5 (by kernel_rfl) _ _ wr wr b1 o1 _ c k (w.heap.size + 1) y2 a1 a2 ⟨D2.out, HK.out, Fr.refl _ _⟩ hlt hlen rfl rfl rfl rfl ?_
      intro x w3 h17 hst
      simp only [Eng.setAll, Act.put, List.setIfInBounds_toArray, List.set_cons_succ, List.set_cons_zero]
      rw [h17]
      have HK3 := Lib.hid hst.k; have HF3 := Lib.hid (HF1.out.trans hst.f (fun _ _ h => h) (fun _ _ h => h.elim))
      have e1 : w3.cell? ⟨b1, o1 + k * 2, none⟩ = some (.int .i64 y1) := cell_fr D1.out hst.f (fun h => h)
      have e2 : w3.cell? ⟨b1, o1 + k * 2 + 1, none⟩ = some (.int .i64 y2) := cell_fr D2.out hst.f (fun h => h)
      clear h17 hst
      cases hgt : decide (y2 > a2) with
      | false =>
        have hgt' : ¬ y2 > a2 := by simpa using hgt
        have hne : peakL (X.take (k + 1)) = (a1, a2) := by rw [HPk.out, Ser.pk, if_neg hgt']
        go_wp2_with fail
        go_roundg (X.length - (k + 1))
        case rel => exact ⟨k + 1, by go_num, by omega, rfl, by rw [hne]; exact HK3.out, HF3.out⟩
        case measure => have := HG.out; omega
      | true =>
        have hgt' : y2 > a2 := by simpa using hgt
        have hne : peakL (X.take (k + 1)) = (y1, y2) := by rw [HPk.out, Ser.pk, if_pos hgt']
        have k0 : w3.cell? ⟨w.heap.size + 1, 0, none⟩ = some (.int .i64 a1) := HK3.out.cell 0
        have k1 : w3.cell? ⟨w.heap.size + 1, 1, none⟩ = some (.int .i64 a2) := HK3.out.cell 1
        have g0 := HK3.out.free 0
        have g1 := HK3.out.free 1
        go_wp2_with fail
        have ht := two_fr w3 (w.heap.size + 1) (.int .i64 y1) (.int .i64 y2)
        go_roundg (X.length - (k + 1))
        case rel => exact ⟨k + 1, by go_num, by omega, rfl, by rw [hne]; exact two HK3.out, HF3.out.trans ht (fun _ _ h => h) (fun _ _ h => h)⟩
        case measure => have := HG.out; omega
    · obtain rfl : k = X.length := by omega
      have q2 : decide ((X.length : Int) < (X.length : Int)) = false := by simp
      rw [List.take_length] at HK
      have k0 : wr.cell? ⟨w.heap.size + 1, 0, none⟩ = some (.int .i64 (peakL X).1) := HK.out.cell 0
      have k1 : wr.cell? ⟨w.heap.size + 1, 1, none⟩ = some (.int .i64 (peakL X).2) := HK.out.cell 1
      have r0 : wr.cell? ⟨w.heap.size, 0, none⟩ = some (.int .i64 0) := HR1.out.cell 0
      have r1 : wr.cell? ⟨w.heap.size, 1, none⟩ = some (.int .i64 0) := HR1.out.cell 1
      have g0 := HR1.out.free 0
      have g1 := HR1.out.free 1
      have hd : decide ((X.length : Int) > 0) = decide (0 < X.length) := decide_eq_decide.2 (by omega)
      clear HS HG
      have hbf := HF.out.below (Nat.le_refl _) (fun _ _ h => h)
      obtain ⟨b, hb⟩ : ∃ b, peakL X = b := ⟨_, rfl⟩
      rw [hb] at k0 k1
      have HBk := Lib.hid (two (a2 := b.1) (c2 := b.2) HR1.out)
      have HBt := Lib.hid (two_fr wr w.heap.size (.int .i64 b.1) (.int .i64 b.2))
      have HPe := Lib.hid hb
      clear hb
      go_wp2_with fail
      refine bodyPost_ret (results_row_slot rfl _ _ w.heap.size TC _ _ _ rfl rfl HBk.out Tryz.underlying42 rfl (by kernel_rfl)) rfl ⟨by rw [HPe.out]; first | done | rfl, ?_⟩
      exact (hbf.trans (HF1.out.below hbf.size (fun k hk e => by omega))).trans (HBt.out.below (by have := HF1.out.size; have := hbf.size; omega) (fun k hk e => by omega))
end Ref47
end Go.Proofs.YtgfjpnpbkkadpaaGreat
namespace Go.Proofs.YtgfjpnpbkkadpaaGreat
open Go.RowKit
namespace Ref47
open Name KeyP PackP SetP SetW SetF BagP Bag Mk Delta ClsW Ser
attribute [local go_sem] Eng.ev Eng.getO_cons Eng.getO_nil
abbrev TRV : TypeId := 29
/-- The document's view in block B: records, in no order. -/
def RV (w : World) (B : Nat) (W : Int) (l : List Sn) : Prop := ∃ A c, Bk w B #[.int .i64 W, .slice A l.length c] TRV ∧ Ls w A c l
theorem RV.lt {w : World} {B : Nat} {W : Int} {l : List Sn} (H : RV w B W l) : B < w.heap.size := by obtain ⟨A, c, h, -⟩ := H; exact lt_of_heap h
theorem apB {w : World} {B : Nat} {W : Int} {v : Value} (h : Bk w B #[.int .i64 W, v] TRV) (hv : ∀ s, v ≠ .string s) {A : Option Addr} {c : Nat} {L : List Sn} (hL : Ls w A c L) : ∀ a, A = some a → L ≠ [] → ¬ a.block = B := by
  intro a ha hne hm
  have hlt : 0 < L.length := List.length_pos_iff.2 hne
  obtain ⟨b, o, rfl, -, hc⟩ := hL.s.at hlt (by omega)
  cases ha
  have h4 := At.row (k := 0) hc hlt 4 _ rfl
  subst hm
  rw [h.cell] at h4
  have := (Array.getElem?_eq_some_iff.1 h4).1
  have ho : o + 0 * 9 + 4 = 0 ∨ o + 0 * 9 + 4 = 1 := by simp at this; omega
  rcases ho with ho | ho
  · omega
  · rw [ho] at h4; cases h4; exact hv _ rfl
theorem RV.keepL {w w' : World} {B : Nat} {W : Int} {l : List Sn} (H : RV w B W l) (hf : Fr (· = B) w w') {A : Option Addr} {c : Nat} {L : List Sn} (hL : Ls w A c L) : Ls w' A c L := by
  obtain ⟨A1, c1, h, -⟩ := H
  exact keepV hL hf (fun a ha hne e => apB h (fun s e => by cases e) hL a ha hne e)
theorem RV.fr {S : Nat → Prop} {w w' : World} {B : Nat} {W : Int} {l : List Sn} (H : RV w B W l) (hf : Fr S w w') (hB : ¬ S B) (hS : ∀ A c, Ls w A c l → ∀ a, A = some a → l ≠ [] → ¬ S a.block) : RV w' B W l := by
  obtain ⟨A, c, h1, h2⟩ := H
  exact ⟨A, c, h1.fr hf (fun b hb => by simp at hb; subst hb; exact hB), keepV h2 hf (hS A c h2)⟩
theorem RV.keep {w w' : World} {B : Nat} {W : Int} {l : List Sn} (H : RV w B W l) (hf : Fr (fun _ => False) w w') : RV w' B W l := H.fr hf (fun h => h) (fun _ _ _ _ _ _ h => h)
theorem mays_take {L : List Sn} {i : Nat} (hi : i < L.length) : mays (L.take (i + 1)) = (mays (L.take i) && !(mayN L[i] != 0)) := by
  unfold mays
  rw [List.take_succ_eq_append_getElem hi, List.any_append]
  simp [Bool.not_or]
theorem mays_no {L : List Sn} {i : Nat} (hi : i < L.length) (h : (mayN L[i] != 0) = true) : mays L = false := by
  unfold mays
  have : L.any (fun x => mayN x != 0) = true := List.any_eq_true.2 ⟨L[i], List.getElem_mem hi, h⟩
  rw [this]; rfl
/-- Is a record's place that of another one? -/
def eqp (W : Int) (x y : Sn) : Bool := decide (y.s = x.s) && (decide (y.o = x.o) && decide (slot y.b W = slot x.b W))
theorem eqp_iff {W : Int} {x y : Sn} : eqp W x y = true ↔ pr W y = pr W x := by
  unfold eqp pr; simp [Prod.ext_iff, and_assoc]
theorem eraseP_take {p : Sn → Bool} {l : List Sn} {j : Nat} (hj : j < l.length) : (l.take (j + 1)).eraseP p = if (l.take j).any p then (l.take j).eraseP p ++ [l[j]] else if p l[j] then (l.take j).eraseP p else (l.take j).eraseP p ++ [l[j]] := by
  rw [List.take_succ_eq_append_getElem hj, List.eraseP_append]
  cases h : (l.take j).any p with
  | true => simp
  | false =>
    have h2 : (l.take j).eraseP p = l.take j := List.eraseP_of_forall_not (fun a ha hp => by have := List.any_eq_false.1 h a ha; exact this hp)
    rw [h2]
    cases hp : p l[j] <;> simp [List.eraseP_cons, hp]
theorem any_take {p : Sn → Bool} {l : List Sn} {j : Nat} (hj : j < l.length) : (l.take (j + 1)).any p = ((l.take j).any p || p l[j]) := by
  rw [List.take_succ_eq_append_getElem hj, List.any_append]; simp
theorem erase_perm {W : Int} {x : Sn} {l : List Sn} (h : l.any (eqp W x) = true) : (l.map (pr W)).Perm ((l.eraseP (eqp W x)).map (pr W) ++ [pr W x]) := by
  obtain ⟨a, l1, l2, h1, h2, h3, h4⟩ := List.exists_of_eraseP (List.any_eq_true.1 h |>.choose_spec.1) (List.any_eq_true.1 h |>.choose_spec.2)
  rw [h4, h3, List.map_append, List.map_cons, List.map_append, eqp_iff.1 h2]
  exact (List.perm_middle).trans (List.perm_append_comm (l₁ := [pr W x]))
theorem not_any {W : Int} {x : Sn} {l : List Sn} (h : l.any (eqp W x) = false) : pr W x ∉ l.map (pr W) := by
  intro hm
  obtain ⟨y, hy, he⟩ := List.mem_map.1 hm
  have := List.any_eq_false.1 h y hy
  exact this (eqp_iff.2 he)
theorem bl2 (a b : ByteArray) (v : Bool) (h : decide (a = b) = v) : (a.toList == b.toList) = v := (bl_eq a b).trans h
/-- In a round of rounds: the row of a record, the other one's box, the view's block. -/
structure RX (w0 w : World) (b o Bx Bv : Nat) (y x : Sn) (W : Int) : Prop where
  y : At w b o y
  x : At w Bx 0 x
  v : w.cell? ⟨Bv, 0, none⟩ = some (.int .i64 W)
  f : Fr (fun _ => False) w0 w
theorem RX.fr {w0 w w' : World} {b o Bx Bv : Nat} {y x : Sn} {W : Int} (H : RX w0 w b o Bx Bv y x W) (hf : Fr (fun _ => False) w w') : RX w0 w' b o Bx Bv y x W := ⟨H.y.keep hf, H.x.keep hf, cell_fr H.v hf (fun h => h), H.f.trans hf (fun _ _ h => h) (fun _ _ h => h)⟩
theorem At0 {w : World} {B : Nat} {x : Sn} (h : At w B 0 x) {j : Nat} {u : Value} (hu : x.cs[j]? = some u) : w.cell? ⟨B, j, none⟩ = some u := by have := h j u hu; rwa [Nat.zero_add] at this
theorem SlotR (a W s : Int) (w : World) (ha : in64 a) (hs : slot a W = s) : Calls Tryz.prog 60 #[.int .i64 a, .int .i64 W] w fun e w' => e = .returned (.int .i64 s) ∧ Fr (fun _ => False) w w' := by
  subst hs
  exact (Slot a W w ha).mono (fun e w' h => ⟨h.1, by rw [h.2]; exact Fr.refl _ _⟩)
set_option maxRecDepth 100000 in
set_option maxHeartbeats 400000 in
theorem ra21a {ops : Array Oper} (hops : Eng.fnOps Tryz.f17 21 = ops) (a0 : Act) (Q : Exit → Act → World → Prop) (w0 w : World) (b1 o1 len c j Bx Bv : Nat) (y x : Sn) (W : Int) (hst : RX w0 w b1 (o1 + j * 9) Bx Bv y x W) (hk : j < len) (hlen : len ≤ 9223372036854775807) 
    (hn : a0.tmps.size = 126) (h_11 : a0.tmps.getD 11 undef = .bool true)
    (hpost : ∀ (x_ : Nat → Value) (w' : World), x_ 105 = .bool false → RX w0 w' b1 (o1 + j * 9) Bx Bv y x W → Q .normal (Eng.setAll a0 [64, 65, 66, 67, 68, 69, 70, 71, 72, 73, 74, 75, 76, 77, 78, 79, 80, 81, 82, 83, 84, 85, 86, 87, 88, 89, 90, 91, 92, 93, 94, 95, 96, 97, 98, 99, 100, 101, 102, 103, 104, 105] x_) w') :
    (Code.region 21 ops true).wp Tryz.prog Q a0 w := by
  simp only [Eng.fnOps, Eng.regOps, Tryz.f17, Option.bind_some, Option.getD_some, Nat.reduceEqDiff, ↓reduceIte, Nat.reduceBEq] at hops
  subst hops
  have q1 : (0 : Int) ≤ (j : Int) := by omega
  have q2 : (j : Int) < (len : Int) := by omega
  have HSt := Lib.hid (hst.fr (Fr.drew _ _))
  have hSS : w.drew.cell? ⟨b1, o1 + j * 9, none⟩ = some (.int .i64 y.t) ∧ w.drew.cell? ⟨b1, o1 + j * 9 + 1, none⟩ = some (.int .i64 y.i) ∧ w.drew.cell? ⟨b1, o1 + j * 9 + 1 + 1, none⟩ = some (.int .i64 y.p) ∧ w.drew.cell? ⟨b1, o1 + j * 9 + 1 + 1 + 1, none⟩ = some (.int .i64 y.r) ∧ w.drew.cell? ⟨b1, o1 + j * 9 + 1 + 1 + 1 + 1, none⟩ = some (.string y.s) ∧ w.drew.cell? ⟨b1, o1 + j * 9 + 1 + 1 + 1 + 1 + 1, none⟩ = some (.string y.o) ∧ w.drew.cell? ⟨b1, o1 + j * 9 + 1 + 1 + 1 + 1 + 1 + 1, none⟩ = some (.int .i64 y.b) ∧ w.drew.cell? ⟨b1, o1 + j * 9 + 1 + 1 + 1 + 1 + 1 + 1 + 1, none⟩ = some (.int .i64 y.d) ∧ w.drew.cell? ⟨b1, o1 + j * 9 + 1 + 1 + 1 + 1 + 1 + 1 + 1 + 1, none⟩ = some (.bool y.g) ∧ w.drew.cell? ⟨Bx, 4, none⟩ = some (.string x.s) ∧ w.drew.cell? ⟨Bx, 5, none⟩ = some (.string x.o) ∧ w.drew.cell? ⟨Bx, 6, none⟩ = some (.int .i64 x.b) ∧ w.drew.cell? ⟨Bv, 0, none⟩ = some (.int .i64 W) := ⟨HSt.out.y 0 _ rfl, HSt.out.y 1 _ rfl, HSt.out.y 2 _ rfl, HSt.out.y 3 _ rfl, HSt.out.y 4 _ rfl, HSt.out.y 5 _ rfl, HSt.out.y 6 _ rfl, HSt.out.y 7 _ rfl, HSt.out.y 8 _ rfl, At0 HSt.out.x (j := 4) rfl, At0 HSt.out.x (j := 5) rfl, At0 HSt.out.x (j := 6) rfl, HSt.out.v⟩
  refine Eng.regionN [(0, true), (1, true), (2, true), (3, true), (4, true), (5, true), (6, true), (7, true), (8, true), (9, true), (10, true), (11, true), (12, true), (13, true), (14, true), (15, true), (16, true), (17, true), (18, true), (19, true), (20, true), (21, true), (22, true), (23, true), (24, true), (25, true), (26, true), (27, true), (28, true), (29, true), (30, true), (31, true), (32, true), (33, true), (34, true), (35, true), (36, true), (37, true), (38, true), (39, true), (40, true), (41, true)] (fun w' => w'.cell? ⟨b1, o1 + j * 9, none⟩ = some (.int .i64 y.t) ∧ w'.cell? ⟨b1, o1 + j * 9 + 1, none⟩ = some (.int .i64 y.i) ∧ w'.cell? ⟨b1, o1 + j * 9 + 1 + 1, none⟩ = some (.int .i64 y.p) ∧ w'.cell? ⟨b1, o1 + j * 9 + 1 + 1 + 1, none⟩ = some (.int .i64 y.r) ∧ w'.cell? ⟨b1, o1 + j * 9 + 1 + 1 + 1 + 1, none⟩ = some (.string y.s) ∧ w'.cell? ⟨b1, o1 + j * 9 + 1 + 1 + 1 + 1 + 1, none⟩ = some (.string y.o) ∧ w'.cell? ⟨b1, o1 + j * 9 + 1 + 1 + 1 + 1 + 1 + 1, none⟩ = some (.int .i64 y.b) ∧ w'.cell? ⟨b1, o1 + j * 9 + 1 + 1 + 1 + 1 + 1 + 1 + 1, none⟩ = some (.int .i64 y.d) ∧ w'.cell? ⟨b1, o1 + j * 9 + 1 + 1 + 1 + 1 + 1 + 1 + 1 + 1, none⟩ = some (.bool y.g) ∧ w'.cell? ⟨Bx, 4, none⟩ = some (.string x.s) ∧ w'.cell? ⟨Bx, 5, none⟩ = some (.string x.o) ∧ w'.cell? ⟨Bx, 6, none⟩ = some (.int .i64 x.b) ∧ w'.cell? ⟨Bv, 0, none⟩ = some (.int .i64 W)) (by kernel_rfl) 126 hn (by kernel_rfl) rfl (by kernel_rfl) (hSS) (fun a b ha hb => ?_)
  subst ha
  have hb11 : b 11 = .bool true := (hb 11).symm.trans h_11
  clear hb h_11
  have HP := Lib.hid hpost; have HN := Lib.hid hn
  clear hpost hn
  refine Eng.Sch.take (v := ?_) rfl rfl (by decide) (by kernel_rfl) (fun w hw => ?_) ?_
  rotate_left
  · (try dsimp only at hw); go_simp; first | done | with_reducible rfl
  refine Eng.Sch.take (v := ?_) rfl rfl (by decide) (by kernel_rfl) (fun w hw => ?_) ?_
  rotate_left
  · (try dsimp only at hw); go_simp; first | done | with_reducible rfl
  refine Eng.Sch.take (v := ?_) rfl rfl (by decide) (by kernel_rfl) (fun w hw => ?_) ?_
  rotate_left
  · (try dsimp only at hw); go_simp; first | done | with_reducible rfl
  refine Eng.Sch.skip rfl rfl (by decide) (by kernel_rfl) ?_
  refine Eng.Sch.skip rfl rfl (by decide) (by kernel_rfl) ?_
  refine Eng.Sch.skip rfl rfl (by decide) (by kernel_rfl) ?_
  refine Eng.Sch.skip rfl rfl (by decide) (by kernel_rfl) ?_
  refine Eng.Sch.skip rfl rfl (by decide) (by kernel_rfl) ?_
  refine Eng.Sch.skip rfl rfl (by decide) (by kernel_rfl) ?_
  refine Eng.Sch.skip rfl rfl (by decide) (by kernel_rfl) ?_
  refine Eng.Sch.skip rfl rfl (by decide) (by kernel_rfl) ?_
  refine Eng.Sch.take (v := ?_) rfl rfl (by decide) (by kernel_rfl) (fun w hw => ?_) ?_
  rotate_left
  · (try dsimp only at hw); go_simp; first | done | with_reducible rfl
  refine Eng.Sch.take (v := ?_) rfl rfl (by decide) (by kernel_rfl) (fun w hw => ?_) ?_
  rotate_left
  · (try dsimp only at hw); go_simp; first | done | with_reducible rfl
  refine Eng.Sch.skip rfl rfl (by decide) (by kernel_rfl) ?_
  refine Eng.Sch.skip rfl rfl (by decide) (by kernel_rfl) ?_
  refine Eng.Sch.skip rfl rfl (by decide) (by kernel_rfl) ?_
  refine Eng.Sch.skip rfl rfl (by decide) (by kernel_rfl) ?_
  refine Eng.Sch.skip rfl rfl (by decide) (by kernel_rfl) ?_
  refine Eng.Sch.skip rfl rfl (by decide) (by kernel_rfl) ?_
  refine Eng.Sch.skip rfl rfl (by decide) (by kernel_rfl) ?_
  refine Eng.Sch.skip rfl rfl (by decide) (by kernel_rfl) ?_
  refine Eng.Sch.take (v := ?_) rfl rfl (by decide) (by kernel_rfl) (fun w hw => ?_) ?_
  rotate_left
  · (try dsimp only at hw); go_simp; first | done | with_reducible rfl
  refine Eng.Sch.take (v := ?_) rfl rfl (by decide) (by kernel_rfl) (fun w hw => ?_) ?_
  rotate_left
  · (try dsimp only at hw); go_simp; first | done | with_reducible rfl
  refine Eng.Sch.skip rfl rfl (by decide) (by kernel_rfl) ?_
  refine Eng.Sch.skip rfl rfl (by decide) (by kernel_rfl) ?_
  refine Eng.Sch.skip rfl rfl (by decide) (by kernel_rfl) ?_
  refine Eng.Sch.skip rfl rfl (by decide) (by kernel_rfl) ?_
  refine Eng.Sch.skip rfl rfl (by decide) (by kernel_rfl) ?_
  refine Eng.Sch.skip rfl rfl (by decide) (by kernel_rfl) ?_
  refine Eng.Sch.skip rfl rfl (by decide) (by kernel_rfl) ?_
  refine Eng.Sch.skip rfl rfl (by decide) (by kernel_rfl) ?_
  refine Eng.Sch.skip rfl rfl (by decide) (by kernel_rfl) ?_
  refine Eng.Sch.skip rfl rfl (by decide) (by kernel_rfl) ?_
  refine Eng.Sch.skip rfl rfl (by decide) (by kernel_rfl) ?_
  refine Eng.Sch.skip rfl rfl (by decide) (by kernel_rfl) ?_
  refine Eng.Sch.skip rfl rfl (by decide) (by kernel_rfl) ?_
  refine Eng.Sch.skip rfl rfl (by decide) (by kernel_rfl) ?_
  refine Eng.Sch.skip rfl rfl (by decide) (by kernel_rfl) ?_
  refine Eng.Sch.skip rfl rfl (by decide) (by kernel_rfl) ?_
  refine Eng.Sch.skip rfl rfl (by decide) (by kernel_rfl) ?_
  refine Eng.Sch.skip rfl rfl (by decide) (by kernel_rfl) ?_
  refine Eng.Sch.take (v := ?_) rfl rfl (by decide) (by kernel_rfl) (fun w hw => ?_) ?_
  rotate_left
  · (try dsimp only at hw); go_simp; first | done | with_reducible rfl
  refine Eng.Sch.end_ [64, 65, 66, 67, 68, 69, 70, 71, 72, 73, 74, 75, 76, 77, 78, 79, 80, 81, 82, 83, 84, 85, 86, 87, 88, 89, 90, 91, 92, 93, 94, 95, 96, 97, 98, 99, 100, 101, 102, 103, 104, 105] HN.out (by kernel_rfl) (by kernel_rfl) ?_
  exact HP.out _ _ rfl HSt.out

set_option maxRecDepth 100000 in
set_option maxHeartbeats 400000 in
theorem ra21b {ops : Array Oper} (hops : Eng.fnOps Tryz.f17 21 = ops) (a0 : Act) (Q : Exit → Act → World → Prop) (w0 w : World) (b1 o1 len c j Bx Bv : Nat) (y x : Sn) (W : Int) (hst : RX w0 w b1 (o1 + j * 9) Bx Bv y x W) (hk : j < len) (hlen : len ≤ 9223372036854775807) (h1 : (y.s.toList == x.s.toList) = false) 
    (hn : a0.tmps.size = 126) (h_7 : a0.tmps.getD 7 undef = .slice (some ⟨b1, o1, none⟩) len c) (h_9 : a0.tmps.getD 9 undef = .pointer (some ⟨Bx, 0, none⟩)) (h_11 : a0.tmps.getD 11 undef = .bool false) (h_12 : a0.tmps.getD 12 undef = .int .i64 (j : Int))
    (hpost : ∀ (x_ : Nat → Value) (w' : World), x_ 105 = .bool false → RX w0 w' b1 (o1 + j * 9) Bx Bv y x W → Q .normal (Eng.setAll a0 [64, 65, 66, 67, 68, 69, 70, 71, 72, 73, 74, 75, 76, 77, 78, 79, 80, 81, 82, 83, 84, 85, 86, 87, 88, 89, 90, 91, 92, 93, 94, 95, 96, 97, 98, 99, 100, 101, 102, 103, 104, 105] x_) w') :
    (Code.region 21 ops true).wp Tryz.prog Q a0 w := by
  simp only [Eng.fnOps, Eng.regOps, Tryz.f17, Option.bind_some, Option.getD_some, Nat.reduceEqDiff, ↓reduceIte, Nat.reduceBEq] at hops
  subst hops
  have q1 : (0 : Int) ≤ (j : Int) := by omega
  have q2 : (j : Int) < (len : Int) := by omega
  have HSt := Lib.hid (hst.fr (Fr.drew _ _))
  have hSS : w.drew.cell? ⟨b1, o1 + j * 9, none⟩ = some (.int .i64 y.t) ∧ w.drew.cell? ⟨b1, o1 + j * 9 + 1, none⟩ = some (.int .i64 y.i) ∧ w.drew.cell? ⟨b1, o1 + j * 9 + 1 + 1, none⟩ = some (.int .i64 y.p) ∧ w.drew.cell? ⟨b1, o1 + j * 9 + 1 + 1 + 1, none⟩ = some (.int .i64 y.r) ∧ w.drew.cell? ⟨b1, o1 + j * 9 + 1 + 1 + 1 + 1, none⟩ = some (.string y.s) ∧ w.drew.cell? ⟨b1, o1 + j * 9 + 1 + 1 + 1 + 1 + 1, none⟩ = some (.string y.o) ∧ w.drew.cell? ⟨b1, o1 + j * 9 + 1 + 1 + 1 + 1 + 1 + 1, none⟩ = some (.int .i64 y.b) ∧ w.drew.cell? ⟨b1, o1 + j * 9 + 1 + 1 + 1 + 1 + 1 + 1 + 1, none⟩ = some (.int .i64 y.d) ∧ w.drew.cell? ⟨b1, o1 + j * 9 + 1 + 1 + 1 + 1 + 1 + 1 + 1 + 1, none⟩ = some (.bool y.g) ∧ w.drew.cell? ⟨Bx, 4, none⟩ = some (.string x.s) ∧ w.drew.cell? ⟨Bx, 5, none⟩ = some (.string x.o) ∧ w.drew.cell? ⟨Bx, 6, none⟩ = some (.int .i64 x.b) ∧ w.drew.cell? ⟨Bv, 0, none⟩ = some (.int .i64 W) := ⟨HSt.out.y 0 _ rfl, HSt.out.y 1 _ rfl, HSt.out.y 2 _ rfl, HSt.out.y 3 _ rfl, HSt.out.y 4 _ rfl, HSt.out.y 5 _ rfl, HSt.out.y 6 _ rfl, HSt.out.y 7 _ rfl, HSt.out.y 8 _ rfl, At0 HSt.out.x (j := 4) rfl, At0 HSt.out.x (j := 5) rfl, At0 HSt.out.x (j := 6) rfl, HSt.out.v⟩
  refine Eng.regionN [(0, true), (1, true), (2, true), (3, true), (4, true), (5, true), (6, true), (7, true), (8, true), (9, true), (10, true), (11, true), (12, true), (13, true), (14, true), (15, true), (16, true), (17, true), (18, true), (19, true), (20, true), (21, true), (22, true), (23, true), (24, true), (25, true), (26, true), (27, true), (28, true), (29, true), (30, true), (31, true), (32, true), (33, true), (34, true), (35, true), (36, true), (37, true), (38, true), (39, true), (40, true), (41, true)] (fun w' => w'.cell? ⟨b1, o1 + j * 9, none⟩ = some (.int .i64 y.t) ∧ w'.cell? ⟨b1, o1 + j * 9 + 1, none⟩ = some (.int .i64 y.i) ∧ w'.cell? ⟨b1, o1 + j * 9 + 1 + 1, none⟩ = some (.int .i64 y.p) ∧ w'.cell? ⟨b1, o1 + j * 9 + 1 + 1 + 1, none⟩ = some (.int .i64 y.r) ∧ w'.cell? ⟨b1, o1 + j * 9 + 1 + 1 + 1 + 1, none⟩ = some (.string y.s) ∧ w'.cell? ⟨b1, o1 + j * 9 + 1 + 1 + 1 + 1 + 1, none⟩ = some (.string y.o) ∧ w'.cell? ⟨b1, o1 + j * 9 + 1 + 1 + 1 + 1 + 1 + 1, none⟩ = some (.int .i64 y.b) ∧ w'.cell? ⟨b1, o1 + j * 9 + 1 + 1 + 1 + 1 + 1 + 1 + 1, none⟩ = some (.int .i64 y.d) ∧ w'.cell? ⟨b1, o1 + j * 9 + 1 + 1 + 1 + 1 + 1 + 1 + 1 + 1, none⟩ = some (.bool y.g) ∧ w'.cell? ⟨Bx, 4, none⟩ = some (.string x.s) ∧ w'.cell? ⟨Bx, 5, none⟩ = some (.string x.o) ∧ w'.cell? ⟨Bx, 6, none⟩ = some (.int .i64 x.b) ∧ w'.cell? ⟨Bv, 0, none⟩ = some (.int .i64 W)) (by kernel_rfl) 126 hn (by kernel_rfl) rfl (by kernel_rfl) (hSS) (fun a b ha hb => ?_)
  subst ha
  have hb7 : b 7 = .slice (some ⟨b1, o1, none⟩) len c := (hb 7).symm.trans h_7
  have hb9 : b 9 = .pointer (some ⟨Bx, 0, none⟩) := (hb 9).symm.trans h_9
  have hb11 : b 11 = .bool false := (hb 11).symm.trans h_11
  have hb12 : b 12 = .int .i64 (j : Int) := (hb 12).symm.trans h_12
  clear hb h_7 h_9 h_11 h_12
  have HP := Lib.hid hpost; have HN := Lib.hid hn
  clear hpost hn
  refine Eng.Sch.take (v := ?_) rfl rfl (by decide) (by kernel_rfl) (fun w hw => ?_) ?_
  rotate_left
  · (try dsimp only at hw); go_simp; first | done | with_reducible rfl
  refine Eng.Sch.take (v := ?_) rfl rfl (by decide) (by kernel_rfl) (fun w hw => ?_) ?_
  rotate_left
  · (try dsimp only at hw); go_simp; first | done | with_reducible rfl
  refine Eng.Sch.take (v := ?_) rfl rfl (by decide) (by kernel_rfl) (fun w hw => ?_) ?_
  rotate_left
  · (try dsimp only at hw); go_simp; first | done | with_reducible rfl
  refine Eng.Sch.take (v := ?_) rfl rfl (by decide) (by kernel_rfl) (fun w hw => ?_) ?_
  rotate_left
  · (try dsimp only at hw); go_simp; first | done | with_reducible rfl
  refine Eng.Sch.take (v := ?_) rfl rfl (by decide) (by kernel_rfl) (fun w hw => ?_) ?_
  rotate_left
  · (try dsimp only at hw); go_simp; first | done | with_reducible rfl
  refine Eng.Sch.take (v := ?_) rfl rfl (by decide) (by kernel_rfl) (fun w hw => ?_) ?_
  rotate_left
  · (try dsimp only at hw); go_simp; first | done | with_reducible rfl
  refine Eng.Sch.take (v := ?_) rfl rfl (by decide) (by kernel_rfl) (fun w hw => ?_) ?_
  rotate_left
  · (try dsimp only at hw); go_simp; first | done | with_reducible rfl
  refine Eng.Sch.take (v := ?_) rfl rfl (by decide) (by kernel_rfl) (fun w hw => ?_) ?_
  rotate_left
  · (try dsimp only at hw); go_simp; first | done | with_reducible rfl
  refine Eng.Sch.take (v := ?_) rfl rfl (by decide) (by kernel_rfl) (fun w hw => ?_) ?_
  rotate_left
  · (try dsimp only at hw); go_simp; first | done | with_reducible rfl
  refine Eng.Sch.take (v := ?_) rfl rfl (by decide) (by kernel_rfl) (fun w hw => ?_) ?_
  rotate_left
  · (try dsimp only at hw); go_simp; first | done | with_reducible rfl
  refine Eng.Sch.take (v := ?_) rfl rfl (by decide) (by kernel_rfl) (fun w hw => ?_) ?_
  rotate_left
  · (try dsimp only at hw); go_simp; first | done | with_reducible rfl
  refine Eng.Sch.take (v := ?_) rfl rfl (by decide) (by kernel_rfl) (fun w hw => ?_) ?_
  rotate_left
  · (try dsimp only at hw); go_simp; first | done | with_reducible rfl
  refine Eng.Sch.take (v := ?_) rfl rfl (by decide) (by kernel_rfl) (fun w hw => ?_) ?_
  rotate_left
  · (try dsimp only at hw); go_simp; first | done | with_reducible rfl
  refine Eng.Sch.skip rfl rfl (by decide) (by kernel_rfl) ?_
  refine Eng.Sch.skip rfl rfl (by decide) (by kernel_rfl) ?_
  refine Eng.Sch.skip rfl rfl (by decide) (by kernel_rfl) ?_
  refine Eng.Sch.skip rfl rfl (by decide) (by kernel_rfl) ?_
  refine Eng.Sch.skip rfl rfl (by decide) (by kernel_rfl) ?_
  refine Eng.Sch.skip rfl rfl (by decide) (by kernel_rfl) ?_
  refine Eng.Sch.skip rfl rfl (by decide) (by kernel_rfl) ?_
  refine Eng.Sch.skip rfl rfl (by decide) (by kernel_rfl) ?_
  refine Eng.Sch.take (v := ?_) rfl rfl (by decide) (by kernel_rfl) (fun w hw => ?_) ?_
  rotate_left
  · (try dsimp only at hw); go_simp; first | done | with_reducible rfl
  refine Eng.Sch.take (v := ?_) rfl rfl (by decide) (by kernel_rfl) (fun w hw => ?_) ?_
  rotate_left
  · (try dsimp only at hw); go_simp; first | done | with_reducible rfl
  refine Eng.Sch.skip rfl rfl (by decide) (by kernel_rfl) ?_
  refine Eng.Sch.skip rfl rfl (by decide) (by kernel_rfl) ?_
  refine Eng.Sch.skip rfl rfl (by decide) (by kernel_rfl) ?_
  refine Eng.Sch.skip rfl rfl (by decide) (by kernel_rfl) ?_
  refine Eng.Sch.skip rfl rfl (by decide) (by kernel_rfl) ?_
  refine Eng.Sch.skip rfl rfl (by decide) (by kernel_rfl) ?_
  refine Eng.Sch.skip rfl rfl (by decide) (by kernel_rfl) ?_
  refine Eng.Sch.skip rfl rfl (by decide) (by kernel_rfl) ?_
  refine Eng.Sch.skip rfl rfl (by decide) (by kernel_rfl) ?_
  refine Eng.Sch.skip rfl rfl (by decide) (by kernel_rfl) ?_
  refine Eng.Sch.skip rfl rfl (by decide) (by kernel_rfl) ?_
  refine Eng.Sch.skip rfl rfl (by decide) (by kernel_rfl) ?_
  refine Eng.Sch.skip rfl rfl (by decide) (by kernel_rfl) ?_
  refine Eng.Sch.skip rfl rfl (by decide) (by kernel_rfl) ?_
  refine Eng.Sch.skip rfl rfl (by decide) (by kernel_rfl) ?_
  refine Eng.Sch.skip rfl rfl (by decide) (by kernel_rfl) ?_
  refine Eng.Sch.skip rfl rfl (by decide) (by kernel_rfl) ?_
  refine Eng.Sch.skip rfl rfl (by decide) (by kernel_rfl) ?_
  refine Eng.Sch.take (v := ?_) rfl rfl (by decide) (by kernel_rfl) (fun w hw => ?_) ?_
  rotate_left
  · (try dsimp only at hw); go_simp; first | done | with_reducible rfl
  refine Eng.Sch.end_ [64, 65, 66, 67, 68, 69, 70, 71, 72, 73, 74, 75, 76, 77, 78, 79, 80, 81, 82, 83, 84, 85, 86, 87, 88, 89, 90, 91, 92, 93, 94, 95, 96, 97, 98, 99, 100, 101, 102, 103, 104, 105] HN.out (by kernel_rfl) (by kernel_rfl) ?_
  exact HP.out _ _ rfl HSt.out

set_option maxRecDepth 100000 in
set_option maxHeartbeats 400000 in
theorem ra21c {ops : Array Oper} (hops : Eng.fnOps Tryz.f17 21 = ops) (a0 : Act) (Q : Exit → Act → World → Prop) (w0 w : World) (b1 o1 len c j Bx Bv : Nat) (y x : Sn) (W : Int) (hst : RX w0 w b1 (o1 + j * 9) Bx Bv y x W) (hk : j < len) (hlen : len ≤ 9223372036854775807) (h1 : (y.s.toList == x.s.toList) = true) (h2 : (y.o.toList == x.o.toList) = false) 
    (hn : a0.tmps.size = 126) (h_7 : a0.tmps.getD 7 undef = .slice (some ⟨b1, o1, none⟩) len c) (h_9 : a0.tmps.getD 9 undef = .pointer (some ⟨Bx, 0, none⟩)) (h_11 : a0.tmps.getD 11 undef = .bool false) (h_12 : a0.tmps.getD 12 undef = .int .i64 (j : Int))
    (hpost : ∀ (x_ : Nat → Value) (w' : World), x_ 105 = .bool false → RX w0 w' b1 (o1 + j * 9) Bx Bv y x W → Q .normal (Eng.setAll a0 [64, 65, 66, 67, 68, 69, 70, 71, 72, 73, 74, 75, 76, 77, 78, 79, 80, 81, 82, 83, 84, 85, 86, 87, 88, 89, 90, 91, 92, 93, 94, 95, 96, 97, 98, 99, 100, 101, 102, 103, 104, 105] x_) w') :
    (Code.region 21 ops true).wp Tryz.prog Q a0 w := by
  simp only [Eng.fnOps, Eng.regOps, Tryz.f17, Option.bind_some, Option.getD_some, Nat.reduceEqDiff, ↓reduceIte, Nat.reduceBEq] at hops
  subst hops
  have q1 : (0 : Int) ≤ (j : Int) := by omega
  have q2 : (j : Int) < (len : Int) := by omega
  have HSt := Lib.hid (hst.fr (Fr.drew _ _))
  have hSS : w.drew.cell? ⟨b1, o1 + j * 9, none⟩ = some (.int .i64 y.t) ∧ w.drew.cell? ⟨b1, o1 + j * 9 + 1, none⟩ = some (.int .i64 y.i) ∧ w.drew.cell? ⟨b1, o1 + j * 9 + 1 + 1, none⟩ = some (.int .i64 y.p) ∧ w.drew.cell? ⟨b1, o1 + j * 9 + 1 + 1 + 1, none⟩ = some (.int .i64 y.r) ∧ w.drew.cell? ⟨b1, o1 + j * 9 + 1 + 1 + 1 + 1, none⟩ = some (.string y.s) ∧ w.drew.cell? ⟨b1, o1 + j * 9 + 1 + 1 + 1 + 1 + 1, none⟩ = some (.string y.o) ∧ w.drew.cell? ⟨b1, o1 + j * 9 + 1 + 1 + 1 + 1 + 1 + 1, none⟩ = some (.int .i64 y.b) ∧ w.drew.cell? ⟨b1, o1 + j * 9 + 1 + 1 + 1 + 1 + 1 + 1 + 1, none⟩ = some (.int .i64 y.d) ∧ w.drew.cell? ⟨b1, o1 + j * 9 + 1 + 1 + 1 + 1 + 1 + 1 + 1 + 1, none⟩ = some (.bool y.g) ∧ w.drew.cell? ⟨Bx, 4, none⟩ = some (.string x.s) ∧ w.drew.cell? ⟨Bx, 5, none⟩ = some (.string x.o) ∧ w.drew.cell? ⟨Bx, 6, none⟩ = some (.int .i64 x.b) ∧ w.drew.cell? ⟨Bv, 0, none⟩ = some (.int .i64 W) := ⟨HSt.out.y 0 _ rfl, HSt.out.y 1 _ rfl, HSt.out.y 2 _ rfl, HSt.out.y 3 _ rfl, HSt.out.y 4 _ rfl, HSt.out.y 5 _ rfl, HSt.out.y 6 _ rfl, HSt.out.y 7 _ rfl, HSt.out.y 8 _ rfl, At0 HSt.out.x (j := 4) rfl, At0 HSt.out.x (j := 5) rfl, At0 HSt.out.x (j := 6) rfl, HSt.out.v⟩
  refine Eng.regionN [(0, true), (1, true), (2, true), (3, true), (4, true), (5, true), (6, true), (7, true), (8, true), (9, true), (10, true), (11, true), (12, true), (13, true), (14, true), (15, true), (16, true), (17, true), (18, true), (19, true), (20, true), (21, true), (22, true), (23, true), (24, true), (25, true), (26, true), (27, true), (28, true), (29, true), (30, true), (31, true), (32, true), (33, true), (34, true), (35, true), (36, true), (37, true), (38, true), (39, true), (40, true), (41, true)] (fun w' => w'.cell? ⟨b1, o1 + j * 9, none⟩ = some (.int .i64 y.t) ∧ w'.cell? ⟨b1, o1 + j * 9 + 1, none⟩ = some (.int .i64 y.i) ∧ w'.cell? ⟨b1, o1 + j * 9 + 1 + 1, none⟩ = some (.int .i64 y.p) ∧ w'.cell? ⟨b1, o1 + j * 9 + 1 + 1 + 1, none⟩ = some (.int .i64 y.r) ∧ w'.cell? ⟨b1, o1 + j * 9 + 1 + 1 + 1 + 1, none⟩ = some (.string y.s) ∧ w'.cell? ⟨b1, o1 + j * 9 + 1 + 1 + 1 + 1 + 1, none⟩ = some (.string y.o) ∧ w'.cell? ⟨b1, o1 + j * 9 + 1 + 1 + 1 + 1 + 1 + 1, none⟩ = some (.int .i64 y.b) ∧ w'.cell? ⟨b1, o1 + j * 9 + 1 + 1 + 1 + 1 + 1 + 1 + 1, none⟩ = some (.int .i64 y.d) ∧ w'.cell? ⟨b1, o1 + j * 9 + 1 + 1 + 1 + 1 + 1 + 1 + 1 + 1, none⟩ = some (.bool y.g) ∧ w'.cell? ⟨Bx, 4, none⟩ = some (.string x.s) ∧ w'.cell? ⟨Bx, 5, none⟩ = some (.string x.o) ∧ w'.cell? ⟨Bx, 6, none⟩ = some (.int .i64 x.b) ∧ w'.cell? ⟨Bv, 0, none⟩ = some (.int .i64 W)) (by kernel_rfl) 126 hn (by kernel_rfl) rfl (by kernel_rfl) (hSS) (fun a b ha hb => ?_)
  subst ha
  have hb7 : b 7 = .slice (some ⟨b1, o1, none⟩) len c := (hb 7).symm.trans h_7
  have hb9 : b 9 = .pointer (some ⟨Bx, 0, none⟩) := (hb 9).symm.trans h_9
  have hb11 : b 11 = .bool false := (hb 11).symm.trans h_11
  have hb12 : b 12 = .int .i64 (j : Int) := (hb 12).symm.trans h_12
  clear hb h_7 h_9 h_11 h_12
  have HP := Lib.hid hpost; have HN := Lib.hid hn
  clear hpost hn
  refine Eng.Sch.take (v := ?_) rfl rfl (by decide) (by kernel_rfl) (fun w hw => ?_) ?_
  rotate_left
  · (try dsimp only at hw); go_simp; first | done | with_reducible rfl
  refine Eng.Sch.take (v := ?_) rfl rfl (by decide) (by kernel_rfl) (fun w hw => ?_) ?_
  rotate_left
  · (try dsimp only at hw); go_simp; first | done | with_reducible rfl
  refine Eng.Sch.take (v := ?_) rfl rfl (by decide) (by kernel_rfl) (fun w hw => ?_) ?_
  rotate_left
  · (try dsimp only at hw); go_simp; first | done | with_reducible rfl
  refine Eng.Sch.take (v := ?_) rfl rfl (by decide) (by kernel_rfl) (fun w hw => ?_) ?_
  rotate_left
  · (try dsimp only at hw); go_simp; first | done | with_reducible rfl
  refine Eng.Sch.take (v := ?_) rfl rfl (by decide) (by kernel_rfl) (fun w hw => ?_) ?_
  rotate_left
  · (try dsimp only at hw); go_simp; first | done | with_reducible rfl
  refine Eng.Sch.take (v := ?_) rfl rfl (by decide) (by kernel_rfl) (fun w hw => ?_) ?_
  rotate_left
  · (try dsimp only at hw); go_simp; first | done | with_reducible rfl
  refine Eng.Sch.take (v := ?_) rfl rfl (by decide) (by kernel_rfl) (fun w hw => ?_) ?_
  rotate_left
  · (try dsimp only at hw); go_simp; first | done | with_reducible rfl
  refine Eng.Sch.take (v := ?_) rfl rfl (by decide) (by kernel_rfl) (fun w hw => ?_) ?_
  rotate_left
  · (try dsimp only at hw); go_simp; first | done | with_reducible rfl
  refine Eng.Sch.take (v := ?_) rfl rfl (by decide) (by kernel_rfl) (fun w hw => ?_) ?_
  rotate_left
  · (try dsimp only at hw); go_simp; first | done | with_reducible rfl
  refine Eng.Sch.take (v := ?_) rfl rfl (by decide) (by kernel_rfl) (fun w hw => ?_) ?_
  rotate_left
  · (try dsimp only at hw); go_simp; first | done | with_reducible rfl
  refine Eng.Sch.take (v := ?_) rfl rfl (by decide) (by kernel_rfl) (fun w hw => ?_) ?_
  rotate_left
  · (try dsimp only at hw); go_simp; first | done | with_reducible rfl
  refine Eng.Sch.take (v := ?_) rfl rfl (by decide) (by kernel_rfl) (fun w hw => ?_) ?_
  rotate_left
  · (try dsimp only at hw); go_simp; first | done | with_reducible rfl
  refine Eng.Sch.take (v := ?_) rfl rfl (by decide) (by kernel_rfl) (fun w hw => ?_) ?_
  rotate_left
  · (try dsimp only at hw); go_simp; first | done | with_reducible rfl
  refine Eng.Sch.take (v := ?_) rfl rfl (by decide) (by kernel_rfl) (fun w hw => ?_) ?_
  rotate_left
  · (try dsimp only at hw); go_simp; first | done | with_reducible rfl
  refine Eng.Sch.take (v := ?_) rfl rfl (by decide) (by kernel_rfl) (fun w hw => ?_) ?_
  rotate_left
  · (try dsimp only at hw); go_simp; first | done | with_reducible rfl
  refine Eng.Sch.take (v := ?_) rfl rfl (by decide) (by kernel_rfl) (fun w hw => ?_) ?_
  rotate_left
  · (try dsimp only at hw); go_simp; first | done | with_reducible rfl
  refine Eng.Sch.take (v := ?_) rfl rfl (by decide) (by kernel_rfl) (fun w hw => ?_) ?_
  rotate_left
  · (try dsimp only at hw); go_simp; first | done | with_reducible rfl
  refine Eng.Sch.take (v := ?_) rfl rfl (by decide) (by kernel_rfl) (fun w hw => ?_) ?_
  rotate_left
  · (try dsimp only at hw); go_simp; first | done | with_reducible rfl
  refine Eng.Sch.take (v := ?_) rfl rfl (by decide) (by kernel_rfl) (fun w hw => ?_) ?_
  rotate_left
  · (try dsimp only at hw); go_simp; first | done | with_reducible rfl
  refine Eng.Sch.take (v := ?_) rfl rfl (by decide) (by kernel_rfl) (fun w hw => ?_) ?_
  rotate_left
  · (try dsimp only at hw); go_simp; first | done | with_reducible rfl
  refine Eng.Sch.take (v := ?_) rfl rfl (by decide) (by kernel_rfl) (fun w hw => ?_) ?_
  rotate_left
  · (try dsimp only at hw); go_simp; first | done | with_reducible rfl
  refine Eng.Sch.take (v := ?_) rfl rfl (by decide) (by kernel_rfl) (fun w hw => ?_) ?_
  rotate_left
  · (try dsimp only at hw); go_simp; first | done | with_reducible rfl
  refine Eng.Sch.take (v := ?_) rfl rfl (by decide) (by kernel_rfl) (fun w hw => ?_) ?_
  rotate_left
  · (try dsimp only at hw); go_simp; first | done | with_reducible rfl
  refine Eng.Sch.skip rfl rfl (by decide) (by kernel_rfl) ?_
  refine Eng.Sch.skip rfl rfl (by decide) (by kernel_rfl) ?_
  refine Eng.Sch.skip rfl rfl (by decide) (by kernel_rfl) ?_
  refine Eng.Sch.skip rfl rfl (by decide) (by kernel_rfl) ?_
  refine Eng.Sch.skip rfl rfl (by decide) (by kernel_rfl) ?_
  refine Eng.Sch.skip rfl rfl (by decide) (by kernel_rfl) ?_
  refine Eng.Sch.skip rfl rfl (by decide) (by kernel_rfl) ?_
  refine Eng.Sch.skip rfl rfl (by decide) (by kernel_rfl) ?_
  refine Eng.Sch.skip rfl rfl (by decide) (by kernel_rfl) ?_
  refine Eng.Sch.skip rfl rfl (by decide) (by kernel_rfl) ?_
  refine Eng.Sch.skip rfl rfl (by decide) (by kernel_rfl) ?_
  refine Eng.Sch.skip rfl rfl (by decide) (by kernel_rfl) ?_
  refine Eng.Sch.skip rfl rfl (by decide) (by kernel_rfl) ?_
  refine Eng.Sch.skip rfl rfl (by decide) (by kernel_rfl) ?_
  refine Eng.Sch.skip rfl rfl (by decide) (by kernel_rfl) ?_
  refine Eng.Sch.skip rfl rfl (by decide) (by kernel_rfl) ?_
  refine Eng.Sch.skip rfl rfl (by decide) (by kernel_rfl) ?_
  refine Eng.Sch.skip rfl rfl (by decide) (by kernel_rfl) ?_
  refine Eng.Sch.take (v := ?_) rfl rfl (by decide) (by kernel_rfl) (fun w hw => ?_) ?_
  rotate_left
  · (try dsimp only at hw); go_simp; first | done | with_reducible rfl
  refine Eng.Sch.end_ [64, 65, 66, 67, 68, 69, 70, 71, 72, 73, 74, 75, 76, 77, 78, 79, 80, 81, 82, 83, 84, 85, 86, 87, 88, 89, 90, 91, 92, 93, 94, 95, 96, 97, 98, 99, 100, 101, 102, 103, 104, 105] HN.out (by kernel_rfl) (by kernel_rfl) ?_
  exact HP.out _ _ rfl HSt.out

set_option maxRecDepth 100000 in
set_option maxHeartbeats 400000 in
theorem ra21d {ops : Array Oper} (hops : Eng.fnOps Tryz.f17 21 = ops) (a0 : Act) (Q : Exit → Act → World → Prop) (w0 w : World) (b1 o1 len c j Bx Bv : Nat) (y x : Sn) (W : Int) (hst : RX w0 w b1 (o1 + j * 9) Bx Bv y x W) (hk : j < len) (hlen : len ≤ 9223372036854775807) (h1 : (y.s.toList == x.s.toList) = true) (h2 : (y.o.toList == x.o.toList) = true) (hy : in64 y.b) (hx : in64 x.b) (s1 s2 : Int) (hs1 : slot y.b W = s1) (hs2 : slot x.b W = s2) 
    (hn : a0.tmps.size = 126) (h_0 : a0.tmps.getD 0 undef = .pointer (some ⟨Bv, 0, none⟩)) (h_7 : a0.tmps.getD 7 undef = .slice (some ⟨b1, o1, none⟩) len c) (h_9 : a0.tmps.getD 9 undef = .pointer (some ⟨Bx, 0, none⟩)) (h_11 : a0.tmps.getD 11 undef = .bool false) (h_12 : a0.tmps.getD 12 undef = .int .i64 (j : Int))
    (hpost : ∀ (x_ : Nat → Value) (w' : World), x_ 105 = .bool (s1 == s2) → RX w0 w' b1 (o1 + j * 9) Bx Bv y x W → Q .normal (Eng.setAll a0 [64, 65, 66, 67, 68, 69, 70, 71, 72, 73, 74, 75, 76, 77, 78, 79, 80, 81, 82, 83, 84, 85, 86, 87, 88, 89, 90, 91, 92, 93, 94, 95, 96, 97, 98, 99, 100, 101, 102, 103, 104, 105] x_) w') :
    (Code.region 21 ops true).wp Tryz.prog Q a0 w := by
  simp only [Eng.fnOps, Eng.regOps, Tryz.f17, Option.bind_some, Option.getD_some, Nat.reduceEqDiff, ↓reduceIte, Nat.reduceBEq] at hops
  subst hops
  have q1 : (0 : Int) ≤ (j : Int) := by omega
  have q2 : (j : Int) < (len : Int) := by omega
  have HSt := Lib.hid (hst.fr (Fr.drew _ _))
  have hSS : w.drew.cell? ⟨b1, o1 + j * 9, none⟩ = some (.int .i64 y.t) ∧ w.drew.cell? ⟨b1, o1 + j * 9 + 1, none⟩ = some (.int .i64 y.i) ∧ w.drew.cell? ⟨b1, o1 + j * 9 + 1 + 1, none⟩ = some (.int .i64 y.p) ∧ w.drew.cell? ⟨b1, o1 + j * 9 + 1 + 1 + 1, none⟩ = some (.int .i64 y.r) ∧ w.drew.cell? ⟨b1, o1 + j * 9 + 1 + 1 + 1 + 1, none⟩ = some (.string y.s) ∧ w.drew.cell? ⟨b1, o1 + j * 9 + 1 + 1 + 1 + 1 + 1, none⟩ = some (.string y.o) ∧ w.drew.cell? ⟨b1, o1 + j * 9 + 1 + 1 + 1 + 1 + 1 + 1, none⟩ = some (.int .i64 y.b) ∧ w.drew.cell? ⟨b1, o1 + j * 9 + 1 + 1 + 1 + 1 + 1 + 1 + 1, none⟩ = some (.int .i64 y.d) ∧ w.drew.cell? ⟨b1, o1 + j * 9 + 1 + 1 + 1 + 1 + 1 + 1 + 1 + 1, none⟩ = some (.bool y.g) ∧ w.drew.cell? ⟨Bx, 4, none⟩ = some (.string x.s) ∧ w.drew.cell? ⟨Bx, 5, none⟩ = some (.string x.o) ∧ w.drew.cell? ⟨Bx, 6, none⟩ = some (.int .i64 x.b) ∧ w.drew.cell? ⟨Bv, 0, none⟩ = some (.int .i64 W) := ⟨HSt.out.y 0 _ rfl, HSt.out.y 1 _ rfl, HSt.out.y 2 _ rfl, HSt.out.y 3 _ rfl, HSt.out.y 4 _ rfl, HSt.out.y 5 _ rfl, HSt.out.y 6 _ rfl, HSt.out.y 7 _ rfl, HSt.out.y 8 _ rfl, At0 HSt.out.x (j := 4) rfl, At0 HSt.out.x (j := 5) rfl, At0 HSt.out.x (j := 6) rfl, HSt.out.v⟩
  refine Eng.regionN [(0, true), (1, true), (2, true), (3, true), (4, true), (5, true), (6, true), (7, true), (8, true), (9, true), (10, true), (11, true), (12, true), (13, true), (14, true), (15, true), (16, true), (17, true), (18, true), (19, true), (20, true), (21, true), (22, true), (23, true), (24, true), (25, true), (26, true), (27, true), (28, true), (29, true), (30, true), (31, true), (33, true), (34, true), (35, true), (36, true), (37, true), (38, true), (32, false), (39, false), (40, true), (41, true)] (fun w' => w'.cell? ⟨b1, o1 + j * 9, none⟩ = some (.int .i64 y.t) ∧ w'.cell? ⟨b1, o1 + j * 9 + 1, none⟩ = some (.int .i64 y.i) ∧ w'.cell? ⟨b1, o1 + j * 9 + 1 + 1, none⟩ = some (.int .i64 y.p) ∧ w'.cell? ⟨b1, o1 + j * 9 + 1 + 1 + 1, none⟩ = some (.int .i64 y.r) ∧ w'.cell? ⟨b1, o1 + j * 9 + 1 + 1 + 1 + 1, none⟩ = some (.string y.s) ∧ w'.cell? ⟨b1, o1 + j * 9 + 1 + 1 + 1 + 1 + 1, none⟩ = some (.string y.o) ∧ w'.cell? ⟨b1, o1 + j * 9 + 1 + 1 + 1 + 1 + 1 + 1, none⟩ = some (.int .i64 y.b) ∧ w'.cell? ⟨b1, o1 + j * 9 + 1 + 1 + 1 + 1 + 1 + 1 + 1, none⟩ = some (.int .i64 y.d) ∧ w'.cell? ⟨b1, o1 + j * 9 + 1 + 1 + 1 + 1 + 1 + 1 + 1 + 1, none⟩ = some (.bool y.g) ∧ w'.cell? ⟨Bx, 4, none⟩ = some (.string x.s) ∧ w'.cell? ⟨Bx, 5, none⟩ = some (.string x.o) ∧ w'.cell? ⟨Bx, 6, none⟩ = some (.int .i64 x.b) ∧ w'.cell? ⟨Bv, 0, none⟩ = some (.int .i64 W)) (by kernel_rfl) 126 hn (by kernel_rfl) rfl (by kernel_rfl) (hSS) (fun a b ha hb => ?_)
  subst ha
  have hb0 : b 0 = .pointer (some ⟨Bv, 0, none⟩) := (hb 0).symm.trans h_0
  have hb7 : b 7 = .slice (some ⟨b1, o1, none⟩) len c := (hb 7).symm.trans h_7
  have hb9 : b 9 = .pointer (some ⟨Bx, 0, none⟩) := (hb 9).symm.trans h_9
  have hb11 : b 11 = .bool false := (hb 11).symm.trans h_11
  have hb12 : b 12 = .int .i64 (j : Int) := (hb 12).symm.trans h_12
  clear hb h_0 h_7 h_9 h_11 h_12
  have HP := Lib.hid hpost; have HN := Lib.hid hn
  clear hpost hn
  refine Eng.Sch.take (v := ?_) rfl rfl (by decide) (by kernel_rfl) (fun w hw => ?_) ?_
  rotate_left
  · (try dsimp only at hw); go_simp; first | done | with_reducible rfl
  refine Eng.Sch.take (v := ?_) rfl rfl (by decide) (by kernel_rfl) (fun w hw => ?_) ?_
  rotate_left
  · (try dsimp only at hw); go_simp; first | done | with_reducible rfl
  refine Eng.Sch.take (v := ?_) rfl rfl (by decide) (by kernel_rfl) (fun w hw => ?_) ?_
  rotate_left
  · (try dsimp only at hw); go_simp; first | done | with_reducible rfl
  refine Eng.Sch.take (v := ?_) rfl rfl (by decide) (by kernel_rfl) (fun w hw => ?_) ?_
  rotate_left
  · (try dsimp only at hw); go_simp; first | done | with_reducible rfl
  refine Eng.Sch.take (v := ?_) rfl rfl (by decide) (by kernel_rfl) (fun w hw => ?_) ?_
  rotate_left
  · (try dsimp only at hw); go_simp; first | done | with_reducible rfl
  refine Eng.Sch.take (v := ?_) rfl rfl (by decide) (by kernel_rfl) (fun w hw => ?_) ?_
  rotate_left
  · (try dsimp only at hw); go_simp; first | done | with_reducible rfl
  refine Eng.Sch.take (v := ?_) rfl rfl (by decide) (by kernel_rfl) (fun w hw => ?_) ?_
  rotate_left
  · (try dsimp only at hw); go_simp; first | done | with_reducible rfl
  refine Eng.Sch.take (v := ?_) rfl rfl (by decide) (by kernel_rfl) (fun w hw => ?_) ?_
  rotate_left
  · (try dsimp only at hw); go_simp; first | done | with_reducible rfl
  refine Eng.Sch.take (v := ?_) rfl rfl (by decide) (by kernel_rfl) (fun w hw => ?_) ?_
  rotate_left
  · (try dsimp only at hw); go_simp; first | done | with_reducible rfl
  refine Eng.Sch.take (v := ?_) rfl rfl (by decide) (by kernel_rfl) (fun w hw => ?_) ?_
  rotate_left
  · (try dsimp only at hw); go_simp; first | done | with_reducible rfl
  refine Eng.Sch.take (v := ?_) rfl rfl (by decide) (by kernel_rfl) (fun w hw => ?_) ?_
  rotate_left
  · (try dsimp only at hw); go_simp; first | done | with_reducible rfl
  refine Eng.Sch.take (v := ?_) rfl rfl (by decide) (by kernel_rfl) (fun w hw => ?_) ?_
  rotate_left
  · (try dsimp only at hw); go_simp; first | done | with_reducible rfl
  refine Eng.Sch.take (v := ?_) rfl rfl (by decide) (by kernel_rfl) (fun w hw => ?_) ?_
  rotate_left
  · (try dsimp only at hw); go_simp; first | done | with_reducible rfl
  refine Eng.Sch.take (v := ?_) rfl rfl (by decide) (by kernel_rfl) (fun w hw => ?_) ?_
  rotate_left
  · (try dsimp only at hw); go_simp; first | done | with_reducible rfl
  refine Eng.Sch.take (v := ?_) rfl rfl (by decide) (by kernel_rfl) (fun w hw => ?_) ?_
  rotate_left
  · (try dsimp only at hw); go_simp; first | done | with_reducible rfl
  refine Eng.Sch.take (v := ?_) rfl rfl (by decide) (by kernel_rfl) (fun w hw => ?_) ?_
  rotate_left
  · (try dsimp only at hw); go_simp; first | done | with_reducible rfl
  refine Eng.Sch.take (v := ?_) rfl rfl (by decide) (by kernel_rfl) (fun w hw => ?_) ?_
  rotate_left
  · (try dsimp only at hw); go_simp; first | done | with_reducible rfl
  refine Eng.Sch.take (v := ?_) rfl rfl (by decide) (by kernel_rfl) (fun w hw => ?_) ?_
  rotate_left
  · (try dsimp only at hw); go_simp; first | done | with_reducible rfl
  refine Eng.Sch.take (v := ?_) rfl rfl (by decide) (by kernel_rfl) (fun w hw => ?_) ?_
  rotate_left
  · (try dsimp only at hw); go_simp; first | done | with_reducible rfl
  refine Eng.Sch.take (v := ?_) rfl rfl (by decide) (by kernel_rfl) (fun w hw => ?_) ?_
  rotate_left
  · (try dsimp only at hw); go_simp; first | done | with_reducible rfl
  refine Eng.Sch.take (v := ?_) rfl rfl (by decide) (by kernel_rfl) (fun w hw => ?_) ?_
  rotate_left
  · (try dsimp only at hw); go_simp; first | done | with_reducible rfl
  refine Eng.Sch.take (v := ?_) rfl rfl (by decide) (by kernel_rfl) (fun w hw => ?_) ?_
  rotate_left
  · (try dsimp only at hw); go_simp; first | done | with_reducible rfl
  refine Eng.Sch.take (v := ?_) rfl rfl (by decide) (by kernel_rfl) (fun w hw => ?_) ?_
  rotate_left
  · (try dsimp only at hw); go_simp; first | done | with_reducible rfl
  refine Eng.Sch.take (v := ?_) rfl rfl (by decide) (by kernel_rfl) (fun w hw => ?_) ?_
  rotate_left
  · (try dsimp only at hw); go_simp; first | done | with_reducible rfl
  refine Eng.Sch.take (v := ?_) rfl rfl (by decide) (by kernel_rfl) (fun w hw => ?_) ?_
  rotate_left
  · (try dsimp only at hw); go_simp; first | done | with_reducible rfl
  refine Eng.Sch.take (v := ?_) rfl rfl (by decide) (by kernel_rfl) (fun w hw => ?_) ?_
  rotate_left
  · (try dsimp only at hw); go_simp; first | done | with_reducible rfl
  refine Eng.Sch.take (v := ?_) rfl rfl (by decide) (by kernel_rfl) (fun w hw => ?_) ?_
  rotate_left
  · (try dsimp only at hw); go_simp; first | done | with_reducible rfl
  refine Eng.Sch.take (v := ?_) rfl rfl (by decide) (by kernel_rfl) (fun w hw => ?_) ?_
  rotate_left
  · (try dsimp only at hw); go_simp; first | done | with_reducible rfl
  refine Eng.Sch.take (v := ?_) rfl rfl (by decide) (by kernel_rfl) (fun w hw => ?_) ?_
  rotate_left
  · (try dsimp only at hw); go_simp; first | done | with_reducible rfl
  refine Eng.Sch.take (v := ?_) rfl rfl (by decide) (by kernel_rfl) (fun w hw => ?_) ?_
  rotate_left
  · (try dsimp only at hw); go_simp; first | done | with_reducible rfl
  refine Eng.Sch.take (v := ?_) rfl rfl (by decide) (by kernel_rfl) (fun w hw => ?_) ?_
  rotate_left
  · (try dsimp only at hw); go_simp; first | done | with_reducible rfl
  refine Eng.Sch.take (v := ?_) rfl rfl (by decide) (by kernel_rfl) (fun w hw => ?_) ?_
  rotate_left
  · (try dsimp only at hw); go_simp; first | done | with_reducible rfl
  refine Eng.Sch.take (v := ?_) rfl rfl (by decide) (by kernel_rfl) (fun w hw => ?_) ?_
  rotate_left
  · (try dsimp only at hw); go_simp; first | done | with_reducible rfl
  refine Eng.Sch.take (v := ?_) rfl rfl (by decide) (by kernel_rfl) (fun w hw => ?_) ?_
  rotate_left
  · (try dsimp only at hw); go_simp; first | done | with_reducible rfl
  refine Eng.Sch.take (v := ?_) rfl rfl (by decide) (by kernel_rfl) (fun w hw => ?_) ?_
  rotate_left
  · (try dsimp only at hw); go_simp; first | done | with_reducible rfl
  refine Eng.Sch.take (v := ?_) rfl rfl (by decide) (by kernel_rfl) (fun w hw => ?_) ?_
  rotate_left
  · (try dsimp only at hw); go_simp; first | done | with_reducible rfl
  refine Eng.Sch.take (v := ?_) rfl rfl (by decide) (by kernel_rfl) (fun w hw => ?_) ?_
  rotate_left
  · (try dsimp only at hw); go_simp; first | done | with_reducible rfl
  refine Eng.Sch.take (v := ?_) rfl rfl (by decide) (by kernel_rfl) (fun w hw => ?_) ?_
  rotate_left
  · (try dsimp only at hw); go_simp; first | done | with_reducible rfl
  refine Eng.Sch.call rfl rfl (by decide) (by kernel_rfl) ?_ (SlotR y.b W s1 _ hy hs1) ?_
  · go_simp
  rintro e w2 ⟨rfl, hf1⟩
  have HSt1 := Lib.hid (HSt.out.fr hf1)
  have hSS : w2.cell? ⟨b1, o1 + j * 9, none⟩ = some (.int .i64 y.t) ∧ w2.cell? ⟨b1, o1 + j * 9 + 1, none⟩ = some (.int .i64 y.i) ∧ w2.cell? ⟨b1, o1 + j * 9 + 1 + 1, none⟩ = some (.int .i64 y.p) ∧ w2.cell? ⟨b1, o1 + j * 9 + 1 + 1 + 1, none⟩ = some (.int .i64 y.r) ∧ w2.cell? ⟨b1, o1 + j * 9 + 1 + 1 + 1 + 1, none⟩ = some (.string y.s) ∧ w2.cell? ⟨b1, o1 + j * 9 + 1 + 1 + 1 + 1 + 1, none⟩ = some (.string y.o) ∧ w2.cell? ⟨b1, o1 + j * 9 + 1 + 1 + 1 + 1 + 1 + 1, none⟩ = some (.int .i64 y.b) ∧ w2.cell? ⟨b1, o1 + j * 9 + 1 + 1 + 1 + 1 + 1 + 1 + 1, none⟩ = some (.int .i64 y.d) ∧ w2.cell? ⟨b1, o1 + j * 9 + 1 + 1 + 1 + 1 + 1 + 1 + 1 + 1, none⟩ = some (.bool y.g) ∧ w2.cell? ⟨Bx, 4, none⟩ = some (.string x.s) ∧ w2.cell? ⟨Bx, 5, none⟩ = some (.string x.o) ∧ w2.cell? ⟨Bx, 6, none⟩ = some (.int .i64 x.b) ∧ w2.cell? ⟨Bv, 0, none⟩ = some (.int .i64 W) := ⟨HSt1.out.y 0 _ rfl, HSt1.out.y 1 _ rfl, HSt1.out.y 2 _ rfl, HSt1.out.y 3 _ rfl, HSt1.out.y 4 _ rfl, HSt1.out.y 5 _ rfl, HSt1.out.y 6 _ rfl, HSt1.out.y 7 _ rfl, HSt1.out.y 8 _ rfl, At0 HSt1.out.x (j := 4) rfl, At0 HSt1.out.x (j := 5) rfl, At0 HSt1.out.x (j := 6) rfl, HSt1.out.v⟩
  refine ⟨_, rfl, hSS, ?_⟩
  refine Eng.Sch.call rfl rfl (by decide) (by kernel_rfl) ?_ (SlotR x.b W s2 _ hx hs2) ?_
  · go_simp
  rintro e w3 ⟨rfl, hf2⟩
  have HSt2 := Lib.hid (HSt1.out.fr hf2)
  have hSS : w3.cell? ⟨b1, o1 + j * 9, none⟩ = some (.int .i64 y.t) ∧ w3.cell? ⟨b1, o1 + j * 9 + 1, none⟩ = some (.int .i64 y.i) ∧ w3.cell? ⟨b1, o1 + j * 9 + 1 + 1, none⟩ = some (.int .i64 y.p) ∧ w3.cell? ⟨b1, o1 + j * 9 + 1 + 1 + 1, none⟩ = some (.int .i64 y.r) ∧ w3.cell? ⟨b1, o1 + j * 9 + 1 + 1 + 1 + 1, none⟩ = some (.string y.s) ∧ w3.cell? ⟨b1, o1 + j * 9 + 1 + 1 + 1 + 1 + 1, none⟩ = some (.string y.o) ∧ w3.cell? ⟨b1, o1 + j * 9 + 1 + 1 + 1 + 1 + 1 + 1, none⟩ = some (.int .i64 y.b) ∧ w3.cell? ⟨b1, o1 + j * 9 + 1 + 1 + 1 + 1 + 1 + 1 + 1, none⟩ = some (.int .i64 y.d) ∧ w3.cell? ⟨b1, o1 + j * 9 + 1 + 1 + 1 + 1 + 1 + 1 + 1 + 1, none⟩ = some (.bool y.g) ∧ w3.cell? ⟨Bx, 4, none⟩ = some (.string x.s) ∧ w3.cell? ⟨Bx, 5, none⟩ = some (.string x.o) ∧ w3.cell? ⟨Bx, 6, none⟩ = some (.int .i64 x.b) ∧ w3.cell? ⟨Bv, 0, none⟩ = some (.int .i64 W) := ⟨HSt2.out.y 0 _ rfl, HSt2.out.y 1 _ rfl, HSt2.out.y 2 _ rfl, HSt2.out.y 3 _ rfl, HSt2.out.y 4 _ rfl, HSt2.out.y 5 _ rfl, HSt2.out.y 6 _ rfl, HSt2.out.y 7 _ rfl, HSt2.out.y 8 _ rfl, At0 HSt2.out.x (j := 4) rfl, At0 HSt2.out.x (j := 5) rfl, At0 HSt2.out.x (j := 6) rfl, HSt2.out.v⟩
  refine ⟨_, rfl, hSS, ?_⟩
  refine Eng.Sch.take (v := ?_) rfl rfl (by decide) (by kernel_rfl) (fun w hw => ?_) ?_
  rotate_left
  · (try dsimp only at hw); go_simp; first | done | with_reducible rfl
  refine Eng.Sch.take (v := ?_) rfl rfl (by decide) (by kernel_rfl) (fun w hw => ?_) ?_
  rotate_left
  · (try dsimp only at hw); go_simp; first | done | with_reducible rfl
  refine Eng.Sch.end_ [64, 65, 66, 67, 68, 69, 70, 71, 72, 73, 74, 75, 76, 77, 78, 79, 80, 81, 82, 83, 84, 85, 86, 87, 88, 89, 90, 91, 92, 93, 94, 95, 96, 97, 98, 99, 100, 101, 102, 103, 104, 105] HN.out (by kernel_rfl) (by kernel_rfl) ?_
  exact HP.out _ _ rfl HSt2.out

/-- What becomes of the document's view by a delta. -/
structure ROut (Bv : Nat) (W : Int) (l O I : List Sn) (w w' : World) (l2 : List Sn) (b : Bool) : Prop where
  v : RV w' Bv W l2
  f : Fr (· = Bv) w w'
  hb : b = (mays O && (mays I && outB (l.map (pr W)) (O.map (pr W))))
  no : b = false → l2 = l
  yes : b = true → ∃ lk, l2 = lk ++ I ∧ (lk.map (pr W) ++ O.map (pr W)).Perm (l.map (pr W))
def RPost (Bv : Nat) (W : Int) (l O I : List Sn) (w : World) (e : Ending) (w' : World) : Prop := ∃ b l2, e = .returned (.bool b) ∧ ROut Bv W l O I w w' l2 b
set_option maxRecDepth 100000 in
set_option maxHeartbeats 4000000 in
theorem Apply (Bv : Nat) (W : Int) (l : List Sn) (d : Dl) (w : World) (H : RV w Bv W l) (hd : RdD w d) (hlo : d.O.length ≤ 1000) (hli : d.I.length ≤ 1000) (hll : l.length ≤ 10000) :
    Calls Tryz.prog 17 #[.pointer (some ⟨Bv, 0, none⟩), d.v] w (RPost Bv W l d.O d.I w) := by
  obtain ⟨i0, hi, hz0, hz1, hz2⟩ := info_parts infoS
  have hf := Fr.alloc (fun _ => False) w (.cells d.arr TDl)
  have HV := Lib.hid (H.keep hf)
  have HD := Lib.hid (hd.keep hf)
  have hbk := Bk.new w d.arr TDl
  have HBk := Lib.hid hbk
  have HF := Lib.hid hf
  have hvl := H.lt
  obtain ⟨A1, c1, O, A2, c2, I⟩ := d
  dsimp only at hlo hli HD
  clear hf H hd hbk
  go_enter Tryz.func17, Tryz.ntmps17
  go_upto_region 1 with (fail)
  generalize (w.alloc (.cells #[.slice A1 O.length c1, .slice A2 I.length c2] TDl)) = w1 at *
  generalize hBd : w.heap.size = Bd at HBk ⊢
  go_wp2_with fail
  go_loopg [5] O.length (fun gk n wr => ∃ i : Nat, n = .int .i64 i ∧ i ≤ O.length ∧ gk = O.length - i ∧ mays (O.take i) = true ∧ Fr (fun _ => False) w1 wr)
  case atStart => exact ⟨0, rfl, Nat.zero_le _, rfl, by simp [mays], Fr.refl _ _⟩
  case round =>
    obtain ⟨i, rfl, hil, hg, hmy, hf⟩ := hrel
    have HG := Lib.hid hg; have HF1 := Lib.hid hf; have HMy := Lib.hid hmy
    clear hg hf hmy
    have HBk1 := Lib.hid (HBk.out.fr HF1.out (fun _ _ h => h))
    have HD1 := Lib.hid (HD.out.keep HF1.out)
    have e0 : wr.cell? ⟨Bd, 0, none⟩ = some (.slice A1 O.length c1) := HBk1.out.cell 0
    by_cases hlt : i < O.length
    · obtain ⟨b1, o1, hAe, hb1, c1'⟩ := HD1.out.o.s.at hlt (by omega)
      have HA := Lib.hid (At.row c1' hlt)
      have HY := Lib.hid (HD1.out.o.ok _ (List.getElem_mem hlt))
      have HTk := Lib.hid (mays_take hlt)
      have HNo := Lib.hid (mays_no hlt)
      clear c1' hb1
      generalize O[i] = y at *
      obtain rfl := hAe
      have q1 : (0 : Int) ≤ (i : Int) := by omega
      have q2 : decide ((i : Int) < (O.length : Int)) = true := by simp; omega
      have q3 : (i : Int) < (O.length : Int) := by omega
      have yc0 : wr.cell? ⟨b1, o1 + i * 9, none⟩ = some (.int .i64 y.t) := HA.out 0 _ rfl
      have yc1 : wr.cell? ⟨b1, o1 + i * 9 + 1, none⟩ = some (.int .i64 y.i) := HA.out 1 _ rfl
      have yc2 : wr.cell? ⟨b1, o1 + i * 9 + 1 + 1, none⟩ = some (.int .i64 y.p) := HA.out 2 _ rfl
      have yc3 : wr.cell? ⟨b1, o1 + i * 9 + 1 + 1 + 1, none⟩ = some (.int .i64 y.r) := HA.out 3 _ rfl
      have yc4 : wr.cell? ⟨b1, o1 + i * 9 + 1 + 1 + 1 + 1, none⟩ = some (.string y.s) := HA.out 4 _ rfl
      have yc5 : wr.cell? ⟨b1, o1 + i * 9 + 1 + 1 + 1 + 1 + 1, none⟩ = some (.string y.o) := HA.out 5 _ rfl
      have yc6 : wr.cell? ⟨b1, o1 + i * 9 + 1 + 1 + 1 + 1 + 1 + 1, none⟩ = some (.int .i64 y.b) := HA.out 6 _ rfl
      have yc7 : wr.cell? ⟨b1, o1 + i * 9 + 1 + 1 + 1 + 1 + 1 + 1 + 1, none⟩ = some (.int .i64 y.d) := HA.out 7 _ rfl
      have yc8 : wr.cell? ⟨b1, o1 + i * 9 + 1 + 1 + 1 + 1 + 1 + 1 + 1 + 1, none⟩ = some (.bool y.g) := HA.out 8 _ rfl
      go_wp2_with fail
      refine (RefMay y HY.out wr).mono ?_
      rintro e w3 ⟨rfl, hf⟩
      have HF3 := Lib.hid (HF1.out.trans hf (fun _ _ h => h) (fun _ _ h => h))
      clear hf HA HY e0 yc0 yc1 yc2 yc3 yc4 yc5 yc6 yc7 yc8
      cases hmy : (mayN y != 0) with
      | true =>
        have HNo2 := Lib.hid (HNo.out hmy)
        go_wp2_with fail
        go_ret
        exact ⟨false, l, rfl, HV.out.keep HF3.out, HF.out.trans HF3.out (fun _ _ h => h.elim) (fun _ _ h => h.elim), by rw [HNo2.out]; rfl, fun _ => rfl, fun h => by cases h⟩
      | false =>
        go_wp2_with fail
        go_roundg (O.length - (i + 1))
        case rel => exact ⟨i + 1, by go_num, by omega, rfl, by rw [HTk.out, HMy.out, hmy]; rfl, HF3.out⟩
        case measure => have := HG.out; omega
    · obtain rfl : i = O.length := by omega
      rw [List.take_length] at HMy
      have q2 : decide ((O.length : Int) < (O.length : Int)) = false := by simp
      have HMO := Lib.hid HMy.out
      have HV2 := Lib.hid (HV.out.keep HF1.out)
      have HF2 := Lib.hid (HF.out.trans HF1.out (T := fun _ => False) (fun _ _ h => h) (fun _ _ h => h))
      clear HV HD HBk HF HF1 HMy HG
      obtain ⟨w2, hw2⟩ : ∃ w2, w2 = wr := ⟨_, rfl⟩
      subst hw2
      have HV := HV2; have HD := HD1; have HBk := HBk1; have HF := HF2
      clear HV2 HD1 HBk1 HF2
      go_wp2_with fail
      clear e0
      go_loopg [6] I.length (fun gk n wr => ∃ i : Nat, n = .int .i64 i ∧ i ≤ I.length ∧ gk = I.length - i ∧ mays (I.take i) = true ∧ Fr (fun _ => False) w2 wr)
      case atStart => exact ⟨0, rfl, Nat.zero_le _, rfl, by simp [mays], Fr.refl _ _⟩
      case round =>
        obtain ⟨i, rfl, hil, hg, hmy, hf⟩ := hrel
        have HG := Lib.hid hg; have HF1 := Lib.hid hf; have HMy := Lib.hid hmy
        clear hg hf hmy
        have HBk1 := Lib.hid (HBk.out.fr HF1.out (fun _ _ h => h))
        have HD1 := Lib.hid (HD.out.keep HF1.out)
        have e0 : wr.cell? ⟨Bd, 1, none⟩ = some (.slice A2 I.length c2) := HBk1.out.cell 1
        by_cases hlt : i < I.length
        · obtain ⟨b1, o1, hAe, hb1, c1'⟩ := HD1.out.i.s.at hlt (by omega)
          have HA := Lib.hid (At.row c1' hlt)
          have HY := Lib.hid (HD1.out.i.ok _ (List.getElem_mem hlt))
          have HTk := Lib.hid (mays_take hlt)
          have HNo := Lib.hid (mays_no hlt)
          clear c1' hb1
          generalize I[i] = y at *
          obtain rfl := hAe
          have q1 : (0 : Int) ≤ (i : Int) := by omega
          have q2 : decide ((i : Int) < (I.length : Int)) = true := by simp; omega
          have q3 : (i : Int) < (I.length : Int) := by omega
          have yc0 : wr.cell? ⟨b1, o1 + i * 9, none⟩ = some (.int .i64 y.t) := HA.out 0 _ rfl
          have yc1 : wr.cell? ⟨b1, o1 + i * 9 + 1, none⟩ = some (.int .i64 y.i) := HA.out 1 _ rfl
          have yc2 : wr.cell? ⟨b1, o1 + i * 9 + 1 + 1, none⟩ = some (.int .i64 y.p) := HA.out 2 _ rfl
          have yc3 : wr.cell? ⟨b1, o1 + i * 9 + 1 + 1 + 1, none⟩ = some (.int .i64 y.r) := HA.out 3 _ rfl
          have yc4 : wr.cell? ⟨b1, o1 + i * 9 + 1 + 1 + 1 + 1, none⟩ = some (.string y.s) := HA.out 4 _ rfl
          have yc5 : wr.cell? ⟨b1, o1 + i * 9 + 1 + 1 + 1 + 1 + 1, none⟩ = some (.string y.o) := HA.out 5 _ rfl
          have yc6 : wr.cell? ⟨b1, o1 + i * 9 + 1 + 1 + 1 + 1 + 1 + 1, none⟩ = some (.int .i64 y.b) := HA.out 6 _ rfl
          have yc7 : wr.cell? ⟨b1, o1 + i * 9 + 1 + 1 + 1 + 1 + 1 + 1 + 1, none⟩ = some (.int .i64 y.d) := HA.out 7 _ rfl
          have yc8 : wr.cell? ⟨b1, o1 + i * 9 + 1 + 1 + 1 + 1 + 1 + 1 + 1 + 1, none⟩ = some (.bool y.g) := HA.out 8 _ rfl
          go_wp2_with fail
          refine (RefMay y HY.out wr).mono ?_
          rintro e w3 ⟨rfl, hf⟩
          have HF3 := Lib.hid (HF1.out.trans hf (fun _ _ h => h) (fun _ _ h => h))
          clear hf HA HY e0 yc0 yc1 yc2 yc3 yc4 yc5 yc6 yc7 yc8
          cases hmy : (mayN y != 0) with
          | true =>
            have HNo2 := Lib.hid (HNo.out hmy)
            go_wp2_with fail
            go_ret
            exact ⟨false, l, rfl, HV.out.keep HF3.out, HF.out.trans HF3.out (fun _ _ h => h.elim) (fun _ _ h => h.elim), by rw [HMO.out, HNo2.out]; rfl, fun _ => rfl, fun h => by cases h⟩
          | false =>
            go_wp2_with fail
            go_roundg (I.length - (i + 1))
            case rel => exact ⟨i + 1, by go_num, by omega, rfl, by rw [HTk.out, HMy.out, hmy]; rfl, HF3.out⟩
            case measure => have := HG.out; omega
        · obtain rfl : i = I.length := by omega
          rw [List.take_length] at HMy
          have q2 : decide ((I.length : Int) < (I.length : Int)) = false := by simp
          have HMI := Lib.hid HMy.out
          have HV2 := Lib.hid (HV.out.keep HF1.out)
          have HF2 := Lib.hid (HF.out.trans HF1.out (T := fun _ => False) (fun _ _ h => h) (fun _ _ h => h))
          clear HV HD HBk HF HF1 HMy HG
          obtain ⟨w3, hw3⟩ : ∃ w3, w3 = wr := ⟨_, rfl⟩
          subst hw3
          have HV := HV2; have HD := HD1; have HBk := HBk1; have HF := HF2
          clear HV2 HD1 HBk1 HF2
          obtain ⟨Al, cl, hvb, hvl2⟩ := HV.out
          have HVb := Lib.hid hvb; have HLl := Lib.hid hvl2
          have v1 : w3.cell? ⟨Bv, 1, none⟩ = some (.slice Al l.length cl) := hvb.cell 1
          clear hvb hvl2
          go_wp2_with fail
          go_loopg [7, 8] O.length (fun gk v n wr => ∃ (k : Nat) (A : Option Addr) (c : Nat) (lk : List Sn), n = .int .i64 k ∧ v = .slice A lk.length c ∧ k ≤ O.length ∧ gk = O.length - k ∧ Ls wr A c lk ∧ lk.length ≤ l.length ∧ (lk.map (pr W) ++ (O.take k).map (pr W)).Perm (l.map (pr W)) ∧ Fr (fun _ => False) w3 wr)
          case atStart => exact ⟨0, Al, cl, l, rfl, rfl, Nat.zero_le _, rfl, HLl.out, Nat.le_refl _, by simp, Fr.refl _ _⟩
          case round =>
            obtain ⟨k, A, c, lk, rfl, rfl, hk, hg, hls, hlk, hp, hf⟩ := hrel
            have HG := Lib.hid hg; have HLk := Lib.hid hls; have HP := Lib.hid hp; have HF3 := Lib.hid hf
            clear hg hls hp hf
            obtain ⟨wo, hwo⟩ : ∃ wo, wo = wr := ⟨_, rfl⟩
            subst hwo
            have HBo := Lib.hid (HBk.out.fr HF3.out (fun _ _ h => h))
            have HDo := Lib.hid (HD.out.keep HF3.out)
            have HVo := Lib.hid (HVb.out.fr HF3.out (fun _ _ h => h))
            have e0 : wo.cell? ⟨Bd, 0, none⟩ = some (.slice A1 O.length c1) := HBo.out.cell 0
            by_cases hlt : k < O.length
            · obtain ⟨b1, o1, hAe, hb1, c1'⟩ := HDo.out.o.s.at hlt (by omega)
              have HA := Lib.hid (At.row c1' hlt)
              have HX := Lib.hid (HDo.out.o.ok _ (List.getElem_mem hlt))
              have HTk := Lib.hid (take_map (pr W) O k hlt)
              have HNo : Hid (pr W O[k] ∉ lk.map (pr W) → outB (l.map (pr W)) (O.map (pr W)) = false) := fun hm => outB_no (k := k) (by simpa using hlt) (by rw [← List.map_take]; exact HP.out) (by simpa using hm)
              clear c1' hb1
              generalize O[k] = x at *
              obtain rfl := hAe
              have q1 : (0 : Int) ≤ (k : Int) := by omega
              have q2 : decide ((k : Int) < (O.length : Int)) = true := by simp; omega
              have q3 : (k : Int) < (O.length : Int) := by omega
              have xc0 : wo.cell? ⟨b1, o1 + k * 9, none⟩ = some (.int .i64 x.t) := HA.out 0 _ rfl
              have xc1 : wo.cell? ⟨b1, o1 + k * 9 + 1, none⟩ = some (.int .i64 x.i) := HA.out 1 _ rfl
              have xc2 : wo.cell? ⟨b1, o1 + k * 9 + 1 + 1, none⟩ = some (.int .i64 x.p) := HA.out 2 _ rfl
              have xc3 : wo.cell? ⟨b1, o1 + k * 9 + 1 + 1 + 1, none⟩ = some (.int .i64 x.r) := HA.out 3 _ rfl
              have xc4 : wo.cell? ⟨b1, o1 + k * 9 + 1 + 1 + 1 + 1, none⟩ = some (.string x.s) := HA.out 4 _ rfl
              have xc5 : wo.cell? ⟨b1, o1 + k * 9 + 1 + 1 + 1 + 1 + 1, none⟩ = some (.string x.o) := HA.out 5 _ rfl
              have xc6 : wo.cell? ⟨b1, o1 + k * 9 + 1 + 1 + 1 + 1 + 1 + 1, none⟩ = some (.int .i64 x.b) := HA.out 6 _ rfl
              have xc7 : wo.cell? ⟨b1, o1 + k * 9 + 1 + 1 + 1 + 1 + 1 + 1 + 1, none⟩ = some (.int .i64 x.d) := HA.out 7 _ rfl
              have xc8 : wo.cell? ⟨b1, o1 + k * 9 + 1 + 1 + 1 + 1 + 1 + 1 + 1 + 1, none⟩ = some (.bool x.g) := HA.out 8 _ rfl
              go_upto_region 16 with (fail)
              have hfa := Fr.alloc (fun _ => False) wo (.cells x.arr TSn)
              have HXb := Lib.hid (At.box (Bk.new wo x.arr TSn))
              have HL4 := Lib.hid (HLk.out.keep hfa)
              have HV4 : Hid ((wo.alloc (.cells x.arr TSn)).cell? ⟨Bv, 0, none⟩ = some (.int .i64 W)) := cell_fr (HVo.out.cell 0) hfa (fun h => h)
              have HF4 := Lib.hid (HF3.out.trans hfa (T := fun _ => False) (fun _ _ h => h) (fun _ _ h => h))
              clear hfa HA e0 xc0 xc1 xc2 xc3 xc4 xc5 xc6 xc7 xc8
              generalize (wo.alloc (.cells x.arr TSn)) = w4 at *
              generalize wo.heap.size = Bx at *
              go_wp2_with fail
              go_loopg [10, 11, 12] lk.length (fun gk v g n wr => ∃ j : Nat, n = .int .i64 j ∧ g = .bool ((lk.take j).any (eqp W x)) ∧ j ≤ lk.length ∧ gk = lk.length - j ∧ wr.ownsRow w4.heap.size TSn 9 v ((lk.take j).eraseP (eqp W x)).length (((lk.take j).eraseP (eqp W x)).flatMap scs) ∧ Below w4.heap.size w4 wr)
              case atStart => exact ⟨0, rfl, by simp, Nat.zero_le _, rfl, World.ownsRow_nil _ _ _ _, Below.refl _ _⟩
              case round =>
                obtain ⟨j, rfl, rfl, hj, hg4, hown, hbel⟩ := hrel
                have HG4 := Lib.hid hg4; have HO := Lib.hid hown; have HBe := Lib.hid hbel
                have hszw : w4.heap.size ≤ wr.heap.size := hbel.size
                clear hg4 hown hbel
                have hfw := Fr.of_below' HBe.out (fun _ => False)
                have HVr := Lib.hid (cell_fr HV4.out hfw (fun h => h))
                by_cases hlt4 : j < lk.length
                · have HLr := Lib.hid (HL4.out.keep hfw)
                  obtain ⟨b2, o2, hAe, hb2, c2'⟩ := HLr.out.s.at hlt4 (by omega)
                  have HA := Lib.hid (At.row c2' hlt4)
                  have HXr := Lib.hid (HXb.out.keep hfw)
                  have HY := Lib.hid (HLr.out.ok _ (List.getElem_mem hlt4))
                  have HEt := Lib.hid (eraseP_take (p := eqp W x) hlt4)
                  have HAt := Lib.hid (any_take (p := eqp W x) hlt4)
                  have hel : ((lk.take j).eraseP (eqp W x)).length ≤ j := Nat.le_trans List.length_eraseP_le (by rw [List.length_take]; omega)
                  have hl64 : lk.length ≤ 9223372036854775807 := by omega
                  clear c2' hb2 hfw HLr
                  generalize lk[j] = y at *
                  generalize (lk.take j).eraseP (eqp W x) = N at *
                  obtain rfl := hAe
                  have q4 : (0 : Int) ≤ (j : Int) := by omega
                  have q5 : decide ((j : Int) < (lk.length : Int)) = true := by simp; omega
                  have q6 : (j : Int) < (lk.length : Int) := by omega
                  cases hga : (lk.take j).any (eqp W x) with
                  | true =>
                    rw [hga] at HEt HAt
                    go_upto_region 21 with (fail)
                    refine ra21a (by kernel_rfl) _ _ wr wr b2 o2 _ c j Bx Bv y x W ⟨HA.out, HXr.out, HVr.out, Fr.refl _ _⟩ hlt4 hl64 rfl rfl ?_
                    intro x_ w6 h17 hst
                    simp only [Eng.setAll, Act.put, List.setIfInBounds_toArray, List.set_cons_succ, List.set_cons_zero]
                    rw [h17]
                    have hf6 := hst.f
                    have HA6 := Lib.hid hst.y
                    have HO6 := Lib.hid (ownsRow_fr HO.out hf6 (fun _ _ h => h))
                    have HB6 := Lib.hid (HBe.out.trans (hf6.below hszw (fun _ _ h => h)))
                    have hsz6 : w4.heap.size ≤ w6.heap.size := HB6.out.size
                    have HK6 := Lib.hid (ownsRow_blk HO6.out)
                    clear h17 hst hf6 HO HA HXr HVr
                    have hown6 := HO6.out.alloc (.cells y.arr TSn)
                    have yc0 : w6.cell? ⟨b2, o2 + j * 9, none⟩ = some (.int .i64 y.t) := HA6.out 0 _ rfl
                    have yc1 : w6.cell? ⟨b2, o2 + j * 9 + 1, none⟩ = some (.int .i64 y.i) := HA6.out 1 _ rfl
                    have yc2 : w6.cell? ⟨b2, o2 + j * 9 + 1 + 1, none⟩ = some (.int .i64 y.p) := HA6.out 2 _ rfl
                    have yc3 : w6.cell? ⟨b2, o2 + j * 9 + 1 + 1 + 1, none⟩ = some (.int .i64 y.r) := HA6.out 3 _ rfl
                    have yc4 : w6.cell? ⟨b2, o2 + j * 9 + 1 + 1 + 1 + 1, none⟩ = some (.string y.s) := HA6.out 4 _ rfl
                    have yc5 : w6.cell? ⟨b2, o2 + j * 9 + 1 + 1 + 1 + 1 + 1, none⟩ = some (.string y.o) := HA6.out 5 _ rfl
                    have yc6 : w6.cell? ⟨b2, o2 + j * 9 + 1 + 1 + 1 + 1 + 1 + 1, none⟩ = some (.int .i64 y.b) := HA6.out 6 _ rfl
                    have yc7 : w6.cell? ⟨b2, o2 + j * 9 + 1 + 1 + 1 + 1 + 1 + 1 + 1, none⟩ = some (.int .i64 y.d) := HA6.out 7 _ rfl
                    have yc8 : w6.cell? ⟨b2, o2 + j * 9 + 1 + 1 + 1 + 1 + 1 + 1 + 1 + 1, none⟩ = some (.bool y.g) := HA6.out 8 _ rfl
                    go_wp2_with (at_builtin; refine wpList_append_sl _ rfl (.tmp 106) (.tmp 111) TSs rfl w4.heap.size TSn i0 (.agg #[.int .i64 0, .int .i64 0, .int .i64 0, .int .i64 0, .string ByteArray.empty, .string ByteArray.empty, .int .i64 0, .int .i64 0, .bool false]) 9 88 Tryz.underlying27 hi hz0 hz1 hz2 rfl (by decide) _ _ _ rfl hown6 _ _ _ _ rfl (Sl.one w6 TSn (scs y) 9 rfl) (by simp [Value.oneCell']) ?_ ?_ ?_ ?_)
                    · unfold maxLen; omega
                    · omega
                    · first | omega | (simp; omega)
                    intro v7 w7 hown7 hgrow7
                    have HO7 := Lib.hid hown7; have HGr7 := Lib.hid hgrow7
                    clear hown7 hgrow7 hown6 HA6 yc0 yc1 yc2 yc3 yc4 yc5 yc6 yc7 yc8
                    go_wp2_with fail
                    go_roundg (lk.length - (j + 1))
                    case rel => exact ⟨j + 1, by go_num, by rw [HAt.out]; rfl, by omega, rfl, by rw [HEt.out, if_pos trivial]; simpa using HO7.out, (HB6.out.alloc hsz6 _).grown HGr7.out (by simp; omega) (fun k e => (HK6.out k e).1)⟩
                    case measure => have := HG4.out; omega
                  | false =>
                    rw [hga] at HEt HAt
                    cases h1 : (y.s.toList == x.s.toList) with
                    | false =>
                      have hp : eqp W x y = false := by unfold eqp; rw [← bl_eq, h1]; rfl
                      rw [hp] at HEt HAt
                      go_upto_region 21 with (fail)
                      refine ra21b (by kernel_rfl) _ _ wr wr b2 o2 _ c j Bx Bv y x W ⟨HA.out, HXr.out, HVr.out, Fr.refl _ _⟩ hlt4 hl64 h1 rfl rfl rfl rfl rfl ?_
                      intro x_ w6 h17 hst
                      simp only [Eng.setAll, Act.put, List.setIfInBounds_toArray, List.set_cons_succ, List.set_cons_zero]
                      rw [h17]
                      have hf6 := hst.f
                      have HA6 := Lib.hid hst.y
                      have HO6 := Lib.hid (ownsRow_fr HO.out hf6 (fun _ _ h => h))
                      have HB6 := Lib.hid (HBe.out.trans (hf6.below hszw (fun _ _ h => h)))
                      have hsz6 : w4.heap.size ≤ w6.heap.size := HB6.out.size
                      have HK6 := Lib.hid (ownsRow_blk HO6.out)
                      clear h17 hst hf6 HO HA HXr HVr
                      have hown6 := HO6.out.alloc (.cells y.arr TSn)
                      have yc0 : w6.cell? ⟨b2, o2 + j * 9, none⟩ = some (.int .i64 y.t) := HA6.out 0 _ rfl
                      have yc1 : w6.cell? ⟨b2, o2 + j * 9 + 1, none⟩ = some (.int .i64 y.i) := HA6.out 1 _ rfl
                      have yc2 : w6.cell? ⟨b2, o2 + j * 9 + 1 + 1, none⟩ = some (.int .i64 y.p) := HA6.out 2 _ rfl
                      have yc3 : w6.cell? ⟨b2, o2 + j * 9 + 1 + 1 + 1, none⟩ = some (.int .i64 y.r) := HA6.out 3 _ rfl
                      have yc4 : w6.cell? ⟨b2, o2 + j * 9 + 1 + 1 + 1 + 1, none⟩ = some (.string y.s) := HA6.out 4 _ rfl
                      have yc5 : w6.cell? ⟨b2, o2 + j * 9 + 1 + 1 + 1 + 1 + 1, none⟩ = some (.string y.o) := HA6.out 5 _ rfl
                      have yc6 : w6.cell? ⟨b2, o2 + j * 9 + 1 + 1 + 1 + 1 + 1 + 1, none⟩ = some (.int .i64 y.b) := HA6.out 6 _ rfl
                      have yc7 : w6.cell? ⟨b2, o2 + j * 9 + 1 + 1 + 1 + 1 + 1 + 1 + 1, none⟩ = some (.int .i64 y.d) := HA6.out 7 _ rfl
                      have yc8 : w6.cell? ⟨b2, o2 + j * 9 + 1 + 1 + 1 + 1 + 1 + 1 + 1 + 1, none⟩ = some (.bool y.g) := HA6.out 8 _ rfl
                      go_wp2_with (at_builtin; refine wpList_append_sl _ rfl (.tmp 106) (.tmp 111) TSs rfl w4.heap.size TSn i0 (.agg #[.int .i64 0, .int .i64 0, .int .i64 0, .int .i64 0, .string ByteArray.empty, .string ByteArray.empty, .int .i64 0, .int .i64 0, .bool false]) 9 88 Tryz.underlying27 hi hz0 hz1 hz2 rfl (by decide) _ _ _ rfl hown6 _ _ _ _ rfl (Sl.one w6 TSn (scs y) 9 rfl) (by simp [Value.oneCell']) ?_ ?_ ?_ ?_)
                      · unfold maxLen; omega
                      · omega
                      · first | omega | (simp; omega)
                      intro v7 w7 hown7 hgrow7
                      have HO7 := Lib.hid hown7; have HGr7 := Lib.hid hgrow7
                      clear hown7 hgrow7 hown6 HA6 yc0 yc1 yc2 yc3 yc4 yc5 yc6 yc7 yc8
                      go_wp2_with fail
                      go_roundg (lk.length - (j + 1))
                      case rel => exact ⟨j + 1, by go_num, by rw [HAt.out]; rfl, by omega, rfl, by rw [HEt.out, if_neg (by simp), if_neg (by simp)]; simpa using HO7.out, (HB6.out.alloc hsz6 _).grown HGr7.out (by simp; omega) (fun k e => (HK6.out k e).1)⟩
                      case measure => have := HG4.out; omega
                    | true =>
                      cases h2 : (y.o.toList == x.o.toList) with
                      | false =>
                        have hp : eqp W x y = false := by unfold eqp; rw [← bl_eq y.o x.o, h2, Bool.false_and, Bool.and_false]
                        rw [hp] at HEt HAt
                        go_upto_region 21 with (fail)
                        refine ra21c (by kernel_rfl) _ _ wr wr b2 o2 _ c j Bx Bv y x W ⟨HA.out, HXr.out, HVr.out, Fr.refl _ _⟩ hlt4 hl64 h1 h2 rfl rfl rfl rfl rfl ?_
                        intro x_ w6 h17 hst
                        simp only [Eng.setAll, Act.put, List.setIfInBounds_toArray, List.set_cons_succ, List.set_cons_zero]
                        rw [h17]
                        have hf6 := hst.f
                        have HA6 := Lib.hid hst.y
                        have HO6 := Lib.hid (ownsRow_fr HO.out hf6 (fun _ _ h => h))
                        have HB6 := Lib.hid (HBe.out.trans (hf6.below hszw (fun _ _ h => h)))
                        have hsz6 : w4.heap.size ≤ w6.heap.size := HB6.out.size
                        have HK6 := Lib.hid (ownsRow_blk HO6.out)
                        clear h17 hst hf6 HO HA HXr HVr
                        have hown6 := HO6.out.alloc (.cells y.arr TSn)
                        have yc0 : w6.cell? ⟨b2, o2 + j * 9, none⟩ = some (.int .i64 y.t) := HA6.out 0 _ rfl
                        have yc1 : w6.cell? ⟨b2, o2 + j * 9 + 1, none⟩ = some (.int .i64 y.i) := HA6.out 1 _ rfl
                        have yc2 : w6.cell? ⟨b2, o2 + j * 9 + 1 + 1, none⟩ = some (.int .i64 y.p) := HA6.out 2 _ rfl
                        have yc3 : w6.cell? ⟨b2, o2 + j * 9 + 1 + 1 + 1, none⟩ = some (.int .i64 y.r) := HA6.out 3 _ rfl
                        have yc4 : w6.cell? ⟨b2, o2 + j * 9 + 1 + 1 + 1 + 1, none⟩ = some (.string y.s) := HA6.out 4 _ rfl
                        have yc5 : w6.cell? ⟨b2, o2 + j * 9 + 1 + 1 + 1 + 1 + 1, none⟩ = some (.string y.o) := HA6.out 5 _ rfl
                        have yc6 : w6.cell? ⟨b2, o2 + j * 9 + 1 + 1 + 1 + 1 + 1 + 1, none⟩ = some (.int .i64 y.b) := HA6.out 6 _ rfl
                        have yc7 : w6.cell? ⟨b2, o2 + j * 9 + 1 + 1 + 1 + 1 + 1 + 1 + 1, none⟩ = some (.int .i64 y.d) := HA6.out 7 _ rfl
                        have yc8 : w6.cell? ⟨b2, o2 + j * 9 + 1 + 1 + 1 + 1 + 1 + 1 + 1 + 1, none⟩ = some (.bool y.g) := HA6.out 8 _ rfl
                        go_wp2_with (at_builtin; refine wpList_append_sl _ rfl (.tmp 106) (.tmp 111) TSs rfl w4.heap.size TSn i0 (.agg #[.int .i64 0, .int .i64 0, .int .i64 0, .int .i64 0, .string ByteArray.empty, .string ByteArray.empty, .int .i64 0, .int .i64 0, .bool false]) 9 88 Tryz.underlying27 hi hz0 hz1 hz2 rfl (by decide) _ _ _ rfl hown6 _ _ _ _ rfl (Sl.one w6 TSn (scs y) 9 rfl) (by simp [Value.oneCell']) ?_ ?_ ?_ ?_)
                        · unfold maxLen; omega
                        · omega
                        · first | omega | (simp; omega)
                        intro v7 w7 hown7 hgrow7
                        have HO7 := Lib.hid hown7; have HGr7 := Lib.hid hgrow7
                        clear hown7 hgrow7 hown6 HA6 yc0 yc1 yc2 yc3 yc4 yc5 yc6 yc7 yc8
                        go_wp2_with fail
                        go_roundg (lk.length - (j + 1))
                        case rel => exact ⟨j + 1, by go_num, by rw [HAt.out]; rfl, by omega, rfl, by rw [HEt.out, if_neg (by simp), if_neg (by simp)]; simpa using HO7.out, (HB6.out.alloc hsz6 _).grown HGr7.out (by simp; omega) (fun k e => (HK6.out k e).1)⟩
                        case measure => have := HG4.out; omega
                      | true =>
                        have hp : eqp W x y = (slot y.b W == slot x.b W) := by unfold eqp; rw [← bl_eq y.s x.s, h1, ← bl_eq y.o x.o, h2, Bool.true_and, Bool.true_and]; rfl
                        rw [hp] at HEt HAt
                        cases h3 : (slot y.b W == slot x.b W) with
                        | false =>
                          rw [h3] at HEt HAt
                          go_upto_region 21 with (fail)
                          refine ra21d (by kernel_rfl) _ _ wr wr b2 o2 _ c j Bx Bv y x W ⟨HA.out, HXr.out, HVr.out, Fr.refl _ _⟩ hlt4 hl64 h1 h2 HY.out.b HX.out.b _ _ rfl rfl rfl rfl rfl rfl rfl rfl ?_
                          intro x_ w6 h17 hst
                          simp only [Eng.setAll, Act.put, List.setIfInBounds_toArray, List.set_cons_succ, List.set_cons_zero]
                          rw [h17, h3]
                          have hf6 := hst.f
                          have HA6 := Lib.hid hst.y
                          have HO6 := Lib.hid (ownsRow_fr HO.out hf6 (fun _ _ h => h))
                          have HB6 := Lib.hid (HBe.out.trans (hf6.below hszw (fun _ _ h => h)))
                          have hsz6 : w4.heap.size ≤ w6.heap.size := HB6.out.size
                          have HK6 := Lib.hid (ownsRow_blk HO6.out)
                          clear h17 hst hf6 HO HA HXr HVr
                          have hown6 := HO6.out.alloc (.cells y.arr TSn)
                          have yc0 : w6.cell? ⟨b2, o2 + j * 9, none⟩ = some (.int .i64 y.t) := HA6.out 0 _ rfl
                          have yc1 : w6.cell? ⟨b2, o2 + j * 9 + 1, none⟩ = some (.int .i64 y.i) := HA6.out 1 _ rfl
                          have yc2 : w6.cell? ⟨b2, o2 + j * 9 + 1 + 1, none⟩ = some (.int .i64 y.p) := HA6.out 2 _ rfl
                          have yc3 : w6.cell? ⟨b2, o2 + j * 9 + 1 + 1 + 1, none⟩ = some (.int .i64 y.r) := HA6.out 3 _ rfl
                          have yc4 : w6.cell? ⟨b2, o2 + j * 9 + 1 + 1 + 1 + 1, none⟩ = some (.string y.s) := HA6.out 4 _ rfl
                          have yc5 : w6.cell? ⟨b2, o2 + j * 9 + 1 + 1 + 1 + 1 + 1, none⟩ = some (.string y.o) := HA6.out 5 _ rfl
                          have yc6 : w6.cell? ⟨b2, o2 + j * 9 + 1 + 1 + 1 + 1 + 1 + 1, none⟩ = some (.int .i64 y.b) := HA6.out 6 _ rfl
                          have yc7 : w6.cell? ⟨b2, o2 + j * 9 + 1 + 1 + 1 + 1 + 1 + 1 + 1, none⟩ = some (.int .i64 y.d) := HA6.out 7 _ rfl
                          have yc8 : w6.cell? ⟨b2, o2 + j * 9 + 1 + 1 + 1 + 1 + 1 + 1 + 1 + 1, none⟩ = some (.bool y.g) := HA6.out 8 _ rfl
                          go_wp2_with (at_builtin; refine wpList_append_sl _ rfl (.tmp 106) (.tmp 111) TSs rfl w4.heap.size TSn i0 (.agg #[.int .i64 0, .int .i64 0, .int .i64 0, .int .i64 0, .string ByteArray.empty, .string ByteArray.empty, .int .i64 0, .int .i64 0, .bool false]) 9 88 Tryz.underlying27 hi hz0 hz1 hz2 rfl (by decide) _ _ _ rfl hown6 _ _ _ _ rfl (Sl.one w6 TSn (scs y) 9 rfl) (by simp [Value.oneCell']) ?_ ?_ ?_ ?_)
                          · unfold maxLen; omega
                          · omega
                          · first | omega | (simp; omega)
                          intro v7 w7 hown7 hgrow7
                          have HO7 := Lib.hid hown7; have HGr7 := Lib.hid hgrow7
                          clear hown7 hgrow7 hown6 HA6 yc0 yc1 yc2 yc3 yc4 yc5 yc6 yc7 yc8
                          go_wp2_with fail
                          go_roundg (lk.length - (j + 1))
                          case rel => exact ⟨j + 1, by go_num, by rw [HAt.out]; rfl, by omega, rfl, by rw [HEt.out, if_neg (by simp), if_neg (by simp)]; simpa using HO7.out, (HB6.out.alloc hsz6 _).grown HGr7.out (by simp; omega) (fun k e => (HK6.out k e).1)⟩
                          case measure => have := HG4.out; omega
                        | true =>
                          rw [h3] at HEt HAt
                          go_upto_region 21 with (fail)
                          refine ra21d (by kernel_rfl) _ _ wr wr b2 o2 _ c j Bx Bv y x W ⟨HA.out, HXr.out, HVr.out, Fr.refl _ _⟩ hlt4 hl64 h1 h2 HY.out.b HX.out.b _ _ rfl rfl rfl rfl rfl rfl rfl rfl ?_
                          intro x_ w6 h17 hst
                          simp only [Eng.setAll, Act.put, List.setIfInBounds_toArray, List.set_cons_succ, List.set_cons_zero]
                          rw [h17, h3]
                          have hf6 := hst.f
                          have HO6 := Lib.hid (ownsRow_fr HO.out hf6 (fun _ _ h => h))
                          have HB6 := Lib.hid (HBe.out.trans (hf6.below hszw (fun _ _ h => h)))
                          clear h17 hst hf6 HO HA HXr HVr
                          go_wp2_with fail
                          go_roundg (lk.length - (j + 1))
                          case rel => exact ⟨j + 1, by go_num, by rw [HAt.out]; rfl, by omega, rfl, by rw [HEt.out, if_neg (by simp), if_pos trivial]; exact HO6.out, HB6.out⟩
                          case measure => have := HG4.out; omega
                · obtain rfl : j = lk.length := by omega
                  rw [List.take_length] at HO
                  rw [List.take_length]
                  have q5 : decide ((lk.length : Int) < (lk.length : Int)) = false := by simp
                  have HF5 := Lib.hid (HF4.out.trans hfw (T := fun _ => False) (fun _ _ h => h) (fun _ _ h => h))
                  cases hga : lk.any (eqp W x) with
                  | false =>
                    have HNo2 := Lib.hid (HNo.out (not_any hga))
                    go_wp2_with fail
                    go_ret
                    exact ⟨false, l, rfl, HV.out.keep HF5.out, HF.out.trans HF5.out (fun _ _ h => h.elim) (fun _ _ h => h.elim), by rw [HMO.out, HMI.out, HNo2.out]; rfl, fun _ => rfl, fun h => by cases h⟩
                  | true =>
                    have HPe := Lib.hid (erase_perm hga)
                    have hel : (lk.eraseP (eqp W x)).length ≤ lk.length := List.length_eraseP_le
                    obtain ⟨A9, c9, hv9, hs9, -⟩ := Sl.of_own HO.out
                    subst hv9
                    have HL9 : Hid (Ls wr A9 c9 (lk.eraseP (eqp W x))) := ⟨hs9, fun z hz => HLk.out.ok z (List.eraseP_subset hz)⟩
                    clear hs9 HO
                    go_wp2_with fail
                    go_roundg (O.length - (k + 1))
                    case rel => exact ⟨k + 1, A9, c9, _, by go_num, rfl, by omega, rfl, HL9.out, by omega, by
                      rw [HTk.out, ← List.append_assoc]
                      refine List.Perm.trans ?_ HP.out
                      rw [List.append_assoc]
                      refine List.Perm.trans (List.Perm.append_left _ List.perm_append_comm) ?_
                      rw [← List.append_assoc]
                      exact (HPe.out.symm).append_right _, HF5.out⟩
                    case measure => have := HG.out; omega
            · obtain rfl : k = O.length := by omega
              rw [List.take_length] at HP
              have q2 : decide ((O.length : Int) < (O.length : Int)) = false := by simp
              have e1 : wo.cell? ⟨Bd, 1, none⟩ = some (.slice A2 I.length c2) := HBo.out.cell 1
              have HDi := Lib.hid HDo.out.i
              clear HLl v1
              go_wp2_with (at_builtin; refine wpList_append_sl _ rfl (.tmp 116) (.tmp 117) TSs rfl wo.heap.size TSn i0 (.agg #[.int .i64 0, .int .i64 0, .int .i64 0, .int .i64 0, .string ByteArray.empty, .string ByteArray.empty, .int .i64 0, .int .i64 0, .bool false]) 9 88 Tryz.underlying27 hi hz0 hz1 hz2 rfl (by decide) _ _ _ rfl (World.ownsRow_nil _ _ _ _) _ _ _ _ rfl HLk.out.s (cells_one _) ?_ ?_ ?_ ?_)
              · unfold maxLen; omega
              · omega
              intro v5 w5 hown5 hgrow5
              have hf5 := Fr.grown hgrow5 (S := fun _ => False) (fun k e => by cases e)
              have HO5 := Lib.hid hown5; have HF5 := Lib.hid hf5
              have e1' : w5.cell? ⟨Bd, 1, none⟩ = some (.slice A2 I.length c2) := cell_fr e1 hf5 (fun h => h)
              have HDi5 := Lib.hid (HDi.out.keep hf5)
              have hs5 := hf5.size
              clear hown5 hgrow5 hf5 e1
              have hszo := HF3.out.size
              have hs3 := HF.out.size
              go_wp2_with (at_builtin; refine wpList_append_sl _ rfl (.tmp 120) (.tmp 122) TSs rfl wo.heap.size TSn i0 (.agg #[.int .i64 0, .int .i64 0, .int .i64 0, .int .i64 0, .string ByteArray.empty, .string ByteArray.empty, .int .i64 0, .int .i64 0, .bool false]) 9 88 Tryz.underlying27 hi hz0 hz1 hz2 rfl (by decide) _ _ _ rfl HO5.out _ _ _ _ rfl HDi5.out.s (cells_one _) ?_ ?_ ?_ ?_)
              · unfold maxLen; omega
              · omega
              · omega
              intro v6 w6 hown6 hgrow6
              have hf6 := Fr.grown hgrow6 (S := fun k => wo.heap.size ≤ k) (fun k e => (ownsRow_blk HO5.out k e).1)
              have HVb6 := Lib.hid ((HVo.out.fr HF5.out (fun _ _ h => h)).fr hf6 (fun b hb h => by simp at hb; omega))
              obtain ⟨A9, c9, hv9, hs9, hb9⟩ := Sl.of_own hown6
              subst hv9
              have HL9 : Hid (Ls w6 A9 c9 (lk ++ I)) := ⟨by rw [List.length_append, List.flatMap_append]; exact hs9, fun z hz => by
                rcases List.mem_append.1 hz with h | h
                · exact HLk.out.ok z h
                · exact HDi5.out.ok z h⟩
              have hb9' : ∀ a, A9 = some a → ¬ a.block = Bv := fun a ha e => by have := (hb9 a ha).1; omega
              have HF6 : Hid (Fr (fun _ => False) w w6) := (((HF.out.trans HF3.out (T := fun _ => False) (fun _ _ h => h) (fun _ _ h => h)).trans HF5.out (T := fun _ => False) (fun _ _ h => h) (fun _ _ h => h)).trans hf6 (T := fun _ => False) (fun _ _ h => h) (fun i hi h => by omega))
              have k1 : w6.cell? ⟨Bv, 1, none⟩ = some (.slice Al l.length cl) := HVb6.out.cell 1
              have g1 := HVb6.out.free 1
              clear hown6 hgrow6 hf6 hs9 hb9 HO5 HDi5 e1'
              go_wp2_with fail
              go_ret
              have hset := Fr.setCell w6 ⟨Bv, 1, none⟩ (.slice A9 (lk.length + I.length) c9) (S := (· = Bv)) rfl
              refine ⟨true, lk ++ I, rfl, ⟨⟨A9, c9, ?_, HL9.out.fr hset hb9'⟩, HF6.out.trans hset (fun _ _ h => h.elim) (fun _ _ h => h), by rw [HMO.out, HMI.out, outB_yes HP.out]; rfl, fun h => (by cases h), fun _ => ⟨lk, rfl, HP.out⟩⟩⟩
              rw [List.length_append]
              exact HVb6.out.set 1 _
end Ref47
end Go.Proofs.YtgfjpnpbkkadpaaGreat
