/- The document's answer for layer 13: a bag as a list of counts. -/
import Derived.Test.YtolpdgaomlhgdaaBag2
import Derived.Test.YtolpdgaomlhgdaaRef12c
import Derived.Deep.DeepCutAuto
import Derived.Deep.CutBlock
namespace Go.Proofs.Ytolpdgaomlhgdaa
open Go.RowKit
namespace Ref13
open BagP Bag
abbrev TR : TypeId := 81
abbrev RB (w : World) (B : Nat) (L : List (Int × Int)) (F : List Nat) : Prop := SB w B TR 2 pc L F
theorem cells_one (L : List (Int × Int)) : ∀ u ∈ L.flatMap pc, u.oneCell' = true := by
  intro u hu
  simp only [List.mem_flatMap, pc, List.mem_cons, List.not_mem_nil, or_false] at hu
  obtain ⟨p, -, rfl | rfl⟩ := hu <;> rfl

set_option maxRecDepth 100000 in
theorem Count (B : Nat) (x : Int) (L : List (Int × Int)) (F : List Nat) (w : World) (h : RB w B L F) :
    Calls Try.prog 56 #[.pointer (some ⟨B, 0, none⟩), .int .i64 x] w fun e w' => e = .returned (.int .i64 (cnt x L)) ∧ w = w' := by
  obtain ⟨A, c, hB, hS, -, -⟩ := h
  have cB : w.cell? ⟨B, 0, none⟩ = some (.slice A L.length c) := hB.cell 0
  have hlen : L.length ≤ 9223372036854775807 := by have := hS.2.1; have := hS.2.2.1; unfold maxLen at this; omega
  clear hB
  go_enter Try.func56, Try.ntmps56
  go_wp2_with fail
  go_loopg [5] L.length (fun gk i wr => w = wr ∧ ∃ j : Nat, i = .int .i64 j ∧ j ≤ L.length ∧ gk = L.length - j ∧ ∀ i (_ : i < j) (h : i < L.length), L[i].1 ≠ x)
  case atStart => exact ⟨rfl, 0, rfl, Nat.zero_le _, rfl, fun i h => by omega⟩
  case round =>
    obtain ⟨rfl, j, rfl, hj, hg, hne⟩ := hrel
    have HG := Lib.hid hg; have HN := Lib.hid hne
    clear hg hne
    by_cases hlt : j < L.length
    · obtain ⟨b1, o1, rfl, -, c1⟩ := hS.at hlt (by omega)
      have d1 : w.cell? ⟨b1, o1 + j * 2, none⟩ = some (.int .i64 L[j].1) := c1 (j * 2) _ (by rw [← Nat.add_zero (j * 2), flat_at pc_len hlt (by omega)]; rfl)
      have d2 : w.cell? ⟨b1, o1 + j * 2 + 1, none⟩ = some (.int .i64 L[j].2) := c1 (j * 2 + 1) _ (by rw [flat_at pc_len hlt (by omega)]; rfl)
      clear c1 hS
      have HGe := Lib.hid (Ref12.get_take_none (k := x) HN.out hlt)
      generalize hx : L[j] = p at *
      obtain ⟨k, y⟩ := p
      have HX := Lib.hid hx
      clear hx
      dsimp only at d1 d2 HGe
      by_cases hxk : k = x
      · have t2 : (k == x) = true := by simp [hxk]
        have HE := Lib.hid (HGe.out hxk)
        clear hxk HGe
        go_wp2_with fail
        go_ret
        exact ⟨by unfold cnt; rw [HE.out]; rfl, rfl⟩
      · have t2 : (k == x) = false := by simp [hxk]
        have HXK := Lib.hid hxk
        clear hxk
        go_wp2_with fail
        go_roundg (L.length - (j + 1))
        case rel =>
          refine ⟨rfl, j + 1, by go_num, by omega, rfl, fun i hi h => ?_⟩
          rcases Nat.lt_succ_iff_lt_or_eq.1 hi with hi | rfl
          · exact HN.out i hi h
          · rw [HX.out]; exact HXK.out
        case measure => have := HG.out; omega
    · have HE := Lib.hid (Ref12.get_none (k := x) (L := L) (fun i h => HN.out i (by omega) h))
      clear hS
      go_wp2_with fail
      go_ret
      exact ⟨by unfold cnt; rw [HE.out]; rfl, rfl⟩

set_option maxRecDepth 100000 in
theorem Len (B : Nat) (L : List (Int × Int)) (F : List Nat) (w : World) (h : RB w B L F) (hok : Ok L) :
    Calls Try.prog 54 #[.pointer (some ⟨B, 0, none⟩)] w fun e w' => e = .returned (.int .i64 (sumL L)) ∧ w = w' := by
  obtain ⟨A, c, hB, hS, -, -⟩ := h
  have cB : w.cell? ⟨B, 0, none⟩ = some (.slice A L.length c) := hB.cell 0
  have hlen : L.length ≤ 9223372036854775807 := by have := hS.2.1; have := hS.2.2.1; unfold maxLen at this; omega
  have HOk := Lib.hid hok
  clear hB hok
  go_enter Try.func54, Try.ntmps54
  go_wp2_with fail
  go_loopg [3, 4] L.length (fun gk n i wr => w = wr ∧ ∃ j : Nat, i = .int .i64 j ∧ j ≤ L.length ∧ gk = L.length - j ∧ n = .int .i64 (sumL (L.take j)))
  case atStart => exact ⟨rfl, 0, rfl, Nat.zero_le _, rfl, rfl⟩
  case round =>
    obtain ⟨rfl, j, rfl, hj, hg, rfl⟩ := hrel
    have HG := Lib.hid hg
    clear hg
    by_cases hlt : j < L.length
    · obtain ⟨b1, o1, rfl, -, c1⟩ := hS.at hlt (by omega)
      have d2 : w.cell? ⟨b1, o1 + j * 2 + 1, none⟩ = some (.int .i64 L[j].2) := c1 (j * 2 + 1) _ (by rw [flat_at pc_len hlt (by omega)]; rfl)
      have hs1 : sumL (L.take (j + 1)) = sumL (L.take j) + L[j].2 := by rw [List.take_succ_eq_append_getElem hlt, sumL_append]; simp [sumL]
      have hb : 0 ≤ sumL (L.take j) ∧ 0 ≤ L[j].2 ∧ sumL (L.take j) + L[j].2 ≤ 4611686018427387904 := by
        have e : sumL L = sumL (L.take (j + 1)) + sumL (L.drop (j + 1)) := by rw [← sumL_append, List.take_append_drop]
        have p1 : Pos (L.take j) := fun p hp => HOk.out.pos p (List.mem_of_mem_take hp)
        have p2 : Pos (L.drop (j + 1)) := fun p hp => HOk.out.pos p (List.mem_of_mem_drop hp)
        have h1 := (p1.cnt 0).2.2
        have h2 := (p2.cnt 0).2.2
        have h3 := HOk.out.pos _ (List.getElem_mem hlt)
        have h4 := HOk.out.most
        omega
      have HS1 := Lib.hid hs1
      clear c1 hS hs1
      generalize L[j].2 = y at *
      generalize sumL (L.take j) = s at *
      go_wp2_with fail
      go_roundg (L.length - (j + 1))
      case rel => exact ⟨rfl, j + 1, by go_num, by omega, rfl, by rw [HS1.out]⟩
      case measure => have := HG.out; omega
    · obtain rfl : j = L.length := by omega
      rw [List.take_length]
      clear hS
      go_wp2_with fail
      go_ret
      exact ⟨rfl, rfl⟩

/-- What the reference makes of it. -/
def refSet (x many : Int) (L : List (Int × Int)) : List (Int × Int) := L.takeWhile (fun p => decide (p.1 < x)) ++ (if 0 < many then [(x, many)] else []) ++ L.filter (fun p => decide (x < p.1))
theorem refSet_eq (x many : Int) (hm : 0 ≤ many) : ∀ {L : List (Int × Int)}, Srt L → refSet x many L = setL x many L
  | [], _ => by
    unfold refSet setL
    by_cases h : many = 0
    · simp [h, delL]
    · have : 0 < many := by omega
      simp [h, this, insL]
  | (a, b) :: t, hs => by
    have hs' := List.pairwise_cons.1 hs
    have ih := refSet_eq x many hm hs'.2
    unfold refSet at ih ⊢
    by_cases h1 : a < x
    · have h2 : ¬ x < a := by omega
      have e1 : ((a, b) :: t).takeWhile (fun p => decide (p.1 < x)) = (a, b) :: t.takeWhile (fun p => decide (p.1 < x)) := by simp [List.takeWhile_cons, h1]
      have e2 : ((a, b) :: t).filter (fun p => decide (x < p.1)) = t.filter (fun p => decide (x < p.1)) := by simp [List.filter_cons, h2]
      rw [e1, e2, List.cons_append, List.cons_append, ih]
      unfold setL
      split
      · rw [delL_cons, sameK_gt (by rw [ltInt]; simpa using h1), if_neg (by simp)]
      · rw [insL, if_neg (by rw [ltInt]; simpa using h2), if_pos (by rw [ltInt]; simpa using h1)]
    · have e1 : ((a, b) :: t).takeWhile (fun p => decide (p.1 < x)) = [] := by simp [List.takeWhile_cons, h1]
      rw [e1, List.nil_append]
      by_cases h2 : x < a
      · have hf : ((a, b) :: t).filter (fun p => decide (x < p.1)) = (a, b) :: t := by
          rw [List.filter_eq_self]
          intro p hp
          rcases List.mem_cons.1 hp with rfl | hp
          · simpa using h2
          · have := hs'.1 p hp; rw [ltInt] at this; simp at *; omega
        rw [hf]
        unfold setL
        by_cases h : many = 0
        · rw [if_pos h, if_neg (by omega), List.nil_append]
          symm
          refine delL_none (fun p hp => ?_)
          rcases List.mem_cons.1 hp with rfl | hp
          · exact sameK_lt (by rw [ltInt]; simpa using h2)
          · have := hs'.1 p hp; rw [ltInt] at this; simp at this
            exact sameK_lt (by rw [ltInt]; simp; omega)
        · rw [if_neg h, if_pos (by omega), insL, if_pos (by rw [ltInt]; simpa using h2)]; rfl
      · obtain rfl : a = x := by omega
        have hf : ((a, b) :: t).filter (fun p => decide (a < p.1)) = t := by
          rw [List.filter_cons, if_neg (by simp), List.filter_eq_self]; intro p hp; have := hs'.1 p hp; rw [ltInt] at this; simpa using this
        rw [hf]
        unfold setL
        by_cases h : many = 0
        · rw [if_pos h, if_neg (by omega), List.nil_append, delL_cons, if_pos (sameK_refl _)]
          symm
          exact delL_none (fun p hp => sameK_lt (hs'.1 p hp))
        · rw [if_neg h, if_pos (by omega), insL, if_neg (by rw [Ord.irr]; simp), if_neg (by rw [Ord.irr]; simp)]; rfl
theorem takeWhile_app {p : Int × Int → Bool} : ∀ {A B : List (Int × Int)}, (∀ q ∈ A, p q = true) → (A ++ B).takeWhile p = A ++ B.takeWhile p
  | [], _, _ => rfl
  | a :: A, B, h => by
    rw [List.cons_append, List.takeWhile_cons, h a (by simp), takeWhile_app (fun q hq => h q (by simp [hq]))]; rfl
theorem takeWhile_take {p : Int × Int → Bool} {L : List (Int × Int)} {j : Nat} (h1 : ∀ i (_ : i < j) (h : i < L.length), p L[i] = true) (h2 : ∀ h : j < L.length, p L[j] = false) : L.takeWhile p = L.take j := by
  have h4 : (L.drop j).takeWhile p = [] := by
    by_cases hl : j < L.length
    · rw [List.drop_eq_getElem_cons hl, List.takeWhile_cons, h2 hl]; rfl
    · rw [List.drop_eq_nil_of_le (by omega)]; rfl
  have h5 := takeWhile_app (p := p) (A := L.take j) (B := L.drop j) (fun q hq => by
    obtain ⟨i, hi, rfl⟩ := List.getElem_of_mem hq
    rw [List.length_take] at hi
    rw [List.getElem_take]; exact h1 i (by omega) (by omega))
  rw [List.take_append_drop, h4, List.append_nil] at h5
  exact h5

set_option maxRecDepth 100000 in
set_option maxHeartbeats 1000000 in
theorem set (B : Nat) (x many : Int) (L : List (Int × Int)) (F : List Nat) (w : World) (h : RB w B L F) (hok : Ok L) (hm : 0 ≤ many) (hlen : L.length ≤ 1000000) :
    Calls Try.prog 96 #[.pointer (some ⟨B, 0, none⟩), .int .i64 x, .int .i64 many] w fun e w' => e = .returned (.tuple #[]) ∧ ∃ F', RB w' B (setL x many L) F' ∧ Tn F F' w w' := by
  obtain ⟨i0, hi, hz0, hz1, hz2⟩ := info_parts infoC
  have HH := Lib.hid h
  have HSrt := Lib.hid (refSet_eq x many hm hok.srt)
  obtain ⟨A, c, hB, hS, -, -⟩ := h
  have hBl := lt_of_heap hB
  have HB := Lib.hid hB; have HS := Lib.hid hS
  clear hB hS hok
  go_enter Try.func96, Try.ntmps96
  go_upto_block 0 with (fail)
  go_cut [6, 7] (fun v _ wc => ∃ P : List (Int × Int), P = L.takeWhile (fun p => decide (p.1 < x)) ∧ wc.ownsRow w.heap.size TC 2 v P.length (P.flatMap pc) ∧ Below w.heap.size w wc)
  case first =>
    go_wp2_with fail
    go_loopg [6, 7] L.length (fun gk v i wr => ∃ j : Nat, i = .int .i64 j ∧ j ≤ L.length ∧ gk = L.length - j ∧ (∀ i (_ : i < j) (h : i < L.length), L[i].1 < x) ∧ wr.ownsRow w.heap.size TC 2 v j ((L.take j).flatMap pc) ∧ Below w.heap.size w wr)
    case atStart => exact ⟨0, rfl, Nat.zero_le _, rfl, fun i h => by omega, World.ownsRow_nil _ _ _ _, Below.refl _ _⟩
    case round =>
      obtain ⟨j, rfl, hj, hg, hlow, hown, hbel⟩ := hrel
      have HG := Lib.hid hg; have HLow := Lib.hid hlow
      have cB : wr.cell? ⟨B, 0, none⟩ = some (.slice A L.length c) := (hbel.cell (p := ⟨B, 0, none⟩) hBl).trans (HB.out.cell 0)
      have hszw : w.heap.size ≤ wr.heap.size := hbel.size
      have HBe := Lib.hid hbel
      clear hg hbel hlow
      by_cases hlt : j < L.length
      · have HSn := Lib.hid (List.take_succ_eq_append_getElem hlt)
        obtain ⟨b1, o1, rfl, hb1, c1⟩ := HS.out.at hlt (by omega)
        have d1 : wr.cell? ⟨b1, o1 + j * 2, none⟩ = some (.int .i64 L[j].1) := (HBe.out.cell (p := ⟨b1, _, none⟩) hb1).trans (c1 (j * 2) _ (by rw [← Nat.add_zero (j * 2), flat_at pc_len hlt (by omega)]; rfl))
        have d2 : wr.cell? ⟨b1, o1 + j * 2 + 1, none⟩ = some (.int .i64 L[j].2) := (HBe.out.cell (p := ⟨b1, _, none⟩) hb1).trans (c1 (j * 2 + 1) _ (by rw [flat_at pc_len hlt (by omega)]; rfl))
        clear c1
        by_cases hx : L[j].1 < x
        · have HX := Lib.hid hx
          generalize hp : L[j] = p at *
          obtain ⟨pk, py⟩ := p
          have HP := Lib.hid hp
          clear hp
          dsimp only at d1 d2 hx
          have hown1' := hown.alloc (.cells #[.int .i64 pk, .int .i64 py] TC)
          have HK1 := Lib.hid (ownsRow_blk hown)
          clear hown
          go_wp2_with (at_builtin; refine wpList_append_sl _ rfl (.tmp 30) (.tmp 38) TCs rfl w.heap.size TC i0 (.agg #[.int .i64 0, .int .i64 0]) 2 16 Try.underlying79 hi hz0 hz1 hz2 rfl (by decide) _ _ _ rfl hown1' _ _ _ _ rfl (Sl.one wr TC (pc (pk, py)) 2 rfl) (by simp [Value.oneCell']) ?_ ?_ ?_ ?_)
          · unfold maxLen; omega
          · omega
          · first | omega | (simp; omega)
          intro v1 w1 hown1 hgrow1
          have HO := Lib.hid hown1; have HGr := Lib.hid hgrow1
          clear hown1 hgrow1 hown1'
          go_wp2_with fail
          go_roundg (L.length - (j + 1))
          case rel =>
            refine ⟨j + 1, by go_num, by omega, rfl, fun i hi h => ?_, by rw [HSn.out]; simpa using HO.out, (HBe.out.alloc hszw _).grown HGr.out (by simp; omega) (fun k e => (HK1.out k e).1)⟩
            rcases Nat.lt_succ_iff_lt_or_eq.1 hi with hi | rfl
            · exact HLow.out i hi h
            · rw [HP.out]; exact HX.out
          case measure => have := HG.out; omega
        · have HW := Lib.hid (takeWhile_take (p := fun p => decide (p.1 < x)) (L := L) (j := j) (fun i hi h => by simpa using HLow.out i hi h) (fun _ => by simpa using hx))
          have HO := Lib.hid hown
          generalize L[j].1 = pk at *
          clear hown d2
          go_wp2_with fail
          go_meet
          exact ⟨_, rfl, by rw [HW.out, List.length_take, Nat.min_eq_left hj]; exact HO.out, HBe.out⟩
      · have HW := Lib.hid (takeWhile_take (p := fun p => decide (p.1 < x)) (L := L) (j := j) (fun i hi h => by simpa using HLow.out i hi h) (fun h => absurd h hlt))
        have HO := Lib.hid hown
        clear hown
        go_wp2_with fail
        go_meet
        exact ⟨_, rfl, by rw [HW.out, List.length_take, Nat.min_eq_left hj]; exact HO.out, HBe.out⟩
  case rest =>
    obtain ⟨P, hP, hown, hbel⟩ := hcut
    have HP := Lib.hid hP; have HBe := Lib.hid hbel
    have hPl : P.length ≤ L.length := by rw [hP]; exact (List.takeWhile_prefix _).length_le
    have hszc : w.heap.size ≤ wc.heap.size := hbel.size
    clear hP hbel
    obtain ⟨wo, rfl⟩ : ∃ wo : World, wo = wc := ⟨_, rfl⟩
    go_upto_if 41 with (fail)
    go_cut [6] (fun v wc => ∃ Q : List (Int × Int), Q = P ++ (if 0 < many then [(x, many)] else []) ∧ wc.ownsRow w.heap.size TC 2 v Q.length (Q.flatMap pc) ∧ Below w.heap.size w wc)
    case first =>
      by_cases hpos : 0 < many
      · have hown1' := hown.alloc (.cells #[.int .i64 x, .int .i64 many] TC)
        have HK1 := Lib.hid (ownsRow_blk hown)
        clear hown
        go_wp2_with (at_builtin; refine wpList_append_sl _ rfl (.tmp 42) (.tmp 46) TCs rfl w.heap.size TC i0 (.agg #[.int .i64 0, .int .i64 0]) 2 16 Try.underlying79 hi hz0 hz1 hz2 rfl (by decide) _ _ _ rfl hown1' _ _ _ _ rfl (Sl.one wo TC (pc (x, many)) 2 rfl) (by simp [Value.oneCell']) ?_ ?_ ?_ ?_)
        · unfold maxLen; omega
        · omega
        · first | omega | (simp; omega)
        intro v1 w1 hown1 hgrow1
        have HO := Lib.hid hown1; have HGr := Lib.hid hgrow1
        clear hown1 hgrow1 hown1'
        go_wp2_with fail
        go_meet
        exact ⟨_, rfl, by rw [if_pos hpos]; simpa using HO.out, (HBe.out.alloc hszc _).grown HGr.out (by simp; omega) (fun k e => (HK1.out k e).1)⟩
      · have HO := Lib.hid hown
        clear hown
        go_wp2_with fail
        go_meet
        exact ⟨_, rfl, by rw [if_neg (by omega), List.append_nil]; exact HO.out, HBe.out⟩
    case rest =>
      clear hown hszc HBe
      obtain ⟨Q, hQ, hown, hbel⟩ := hcut
      have HQ := Lib.hid hQ; have HO := Lib.hid hown; have HBe := Lib.hid hbel
      have hQl : Q.length ≤ L.length + 1 := by rw [hQ]; split <;> simp <;> omega
      clear hQ hown hbel
      go_wp2_with fail
      go_loopg [6, 8] L.length (fun gk v i wr => ∃ j : Nat, i = .int .i64 j ∧ j ≤ L.length ∧ gk = L.length - j ∧ wr.ownsRow w.heap.size TC 2 v (Q ++ (L.take j).filter (fun p => decide (x < p.1))).length ((Q ++ (L.take j).filter (fun p => decide (x < p.1))).flatMap pc) ∧ Below w.heap.size w wr)
      case atStart => exact ⟨0, rfl, Nat.zero_le _, rfl, by simpa using HO.out, HBe.out⟩
      case round =>
        clear HBe HO
        obtain ⟨j, rfl, hj, hg, hown, hbel⟩ := hrel
        have HG := Lib.hid hg
        have cB : wr.cell? ⟨B, 0, none⟩ = some (.slice A L.length c) := (hbel.cell (p := ⟨B, 0, none⟩) hBl).trans (HB.out.cell 0)
        have hszw : w.heap.size ≤ wr.heap.size := hbel.size
        have HBe := Lib.hid hbel
        clear hg hbel
        have hfl : (Q ++ (L.take j).filter (fun p => decide (x < p.1))).length ≤ L.length + 1 + j := by
          have := List.length_filter_le (fun p : Int × Int => decide (x < p.1)) (L.take j)
          simp only [List.length_append, List.length_take] at *; omega
        by_cases hlt : j < L.length
        · have hsn : (L.take (j + 1)).filter (fun p => decide (x < p.1)) = (L.take j).filter (fun p => decide (x < p.1)) ++ (if x < L[j].1 then [L[j]] else []) := by
            rw [List.take_succ_eq_append_getElem hlt, List.filter_append]
            congr 1
            by_cases hx : x < L[j].1 <;> simp [hx]
          have HSn := Lib.hid hsn
          obtain ⟨b1, o1, rfl, hb1, c1⟩ := HS.out.at hlt (by omega)
          have d1 : wr.cell? ⟨b1, o1 + j * 2, none⟩ = some (.int .i64 L[j].1) := (HBe.out.cell (p := ⟨b1, _, none⟩) hb1).trans (c1 (j * 2) _ (by rw [← Nat.add_zero (j * 2), flat_at pc_len hlt (by omega)]; rfl))
          have d2 : wr.cell? ⟨b1, o1 + j * 2 + 1, none⟩ = some (.int .i64 L[j].2) := (HBe.out.cell (p := ⟨b1, _, none⟩) hb1).trans (c1 (j * 2 + 1) _ (by rw [flat_at pc_len hlt (by omega)]; rfl))
          clear c1 hsn
          generalize L[j] = p at *
          obtain ⟨pk, py⟩ := p
          dsimp only at d1 d2 HSn
          generalize hR : Q ++ (L.take j).filter (fun p => decide (x < p.1)) = R at *
          have HR := Lib.hid hR
          clear hR
          by_cases hx : x < pk
          · have hown1' := hown.alloc (.cells #[.int .i64 pk, .int .i64 py] TC)
            have HK1 := Lib.hid (ownsRow_blk hown)
            clear hown
            go_wp2_with (at_builtin; refine wpList_append_sl _ rfl (.tmp 67) (.tmp 75) TCs rfl w.heap.size TC i0 (.agg #[.int .i64 0, .int .i64 0]) 2 16 Try.underlying79 hi hz0 hz1 hz2 rfl (by decide) _ _ _ rfl hown1' _ _ _ _ rfl (Sl.one wr TC (pc (pk, py)) 2 rfl) (by simp [Value.oneCell']) ?_ ?_ ?_ ?_)
            · unfold maxLen; omega
            · omega
            · first | omega | (simp; omega)
            intro v1 w1 hown1 hgrow1
            have HO := Lib.hid hown1; have HGr := Lib.hid hgrow1
            clear hown1 hgrow1 hown1'
            go_wp2_with fail
            go_roundg (L.length - (j + 1))
            case rel => exact ⟨j + 1, by go_num, by omega, rfl, by rw [HSn.out, if_pos hx, ← List.append_assoc, HR.out]; simpa using HO.out, (HBe.out.alloc hszw _).grown HGr.out (by simp; omega) (fun k e => (HK1.out k e).1)⟩
            case measure => have := HG.out; omega
          · have HO := Lib.hid hown
            clear hown
            go_wp2_with fail
            go_roundg (L.length - (j + 1))
            case rel => exact ⟨j + 1, by go_num, by omega, rfl, by rw [HSn.out, if_neg (by omega), List.append_nil, HR.out]; exact HO.out, HBe.out⟩
            case measure => have := HG.out; omega
        · obtain rfl : j = L.length := by omega
          rw [List.take_length] at hown
          have hE : Q ++ L.filter (fun p => decide (x < p.1)) = setL x many L := by
            rw [← HSrt.out, HQ.out, HP.out]; rfl
          rw [hE] at hown
          have fB : wr.frozen? ⟨B, 0, none⟩ = false := (HBe.out.frozen (p := ⟨B, 0, none⟩) hBl).trans (HB.out.free 0)
          have HSt := Lib.hid (HH.out.store HBe.out hown)
          obtain ⟨A3, c3, rfl, -, -⟩ := Sl.of_own hown
          clear hown hE hfl
          go_wp2_with fail
          go_end0
          exact ⟨rfl, HSt.out⟩

theorem RB.refl {w : World} {B : Nat} {L : List (Int × Int)} {F : List Nat} (h : RB w B L F) : ∃ F', RB w B L F' ∧ Tn F F' w w := ⟨F, h, Tn.refl h.lt⟩
set_option maxRecDepth 100000 in
theorem Add (B : Nat) (x many : Int) (L : List (Int × Int)) (F : List Nat) (w : World) (h : RB w B L F) (hok : Ok L) (hlen : L.length ≤ 1000000) :
    Calls Try.prog 47 #[.pointer (some ⟨B, 0, none⟩), .int .i64 x, .int .i64 many] w fun e w' => e = .returned (.bool (okA many L)) ∧ ∃ F', RB w' B (addL x many L) F' ∧ Tn F F' w w' := by
  have hcnt := hok.pos.cnt x
  have hmost := hok.most
  have HH := Lib.hid h
  have HC := Lib.hid (Count B x L F w h)
  have HLe := Lib.hid (Len B L F w h hok)
  by_cases hk : 0 ≤ many ∧ many ≤ 4611686018427387904 - sumL L
  · have HOk := Lib.hid (show okA many L = true by simp [okA, hk])
    have HAdd := Lib.hid (show addL x many L = setL x (cnt x L + many) L by simp [addL, HOk.out])
    have HSet := Lib.hid (set B x (cnt x L + many) L F w h hok (by omega) hlen)
    clear h hok
    generalize cnt x L = n at *
    generalize sumL L = s at *
    have q1 : ¬ many < 0 := by omega
    have q2 : ¬ 4611686018427387904 - s < many := by omega
    go_enter Try.func47, Try.ntmps47
    go_wp2_with fail
    refine HLe.out.mono ?_
    rintro e w1 ⟨rfl, rfl⟩
    go_wp2_with fail
    refine HC.out.mono ?_
    rintro e w1 ⟨rfl, rfl⟩
    go_wp2_with fail
    refine HSet.out.mono ?_
    rintro e w1 ⟨rfl, hp⟩
    have HP := Lib.hid hp
    clear hp
    go_wp2_with fail
    go_ret
    exact ⟨by rw [HOk.out]; rfl, by rw [HAdd.out]; exact HP.out⟩
  · have HOk := Lib.hid (show okA many L = false by simp [okA]; omega)
    have HAdd := Lib.hid (show addL x many L = L by simp [addL, HOk.out])
    clear h HC hok
    generalize cnt x L = n at *
    generalize sumL L = s at *
    by_cases q1 : many < 0
    · go_enter Try.func47, Try.ntmps47
      go_wp2_with fail
      go_ret
      exact ⟨by rw [HOk.out]; rfl, by rw [HAdd.out]; exact RB.refl HH.out⟩
    · have q2 : 4611686018427387904 - s < many := by omega
      go_enter Try.func47, Try.ntmps47
      go_wp2_with fail
      refine HLe.out.mono ?_
      rintro e w1 ⟨rfl, rfl⟩
      go_wp2_with fail
      go_ret
      exact ⟨by rw [HOk.out]; rfl, by rw [HAdd.out]; exact RB.refl HH.out⟩
set_option maxRecDepth 100000 in
theorem Take (B : Nat) (x many : Int) (L : List (Int × Int)) (F : List Nat) (w : World) (h : RB w B L F) (hok : Ok L) (hlen : L.length ≤ 1000000) :
    Calls Try.prog 49 #[.pointer (some ⟨B, 0, none⟩), .int .i64 x, .int .i64 many] w fun e w' => e = .returned (.bool (okT x many L)) ∧ ∃ F', RB w' B (takeL x many L) F' ∧ Tn F F' w w' := by
  have hcnt := hok.pos.cnt x
  have hmost := hok.most
  have HH := Lib.hid h
  have HC := Lib.hid (Count B x L F w h)
  by_cases hk : 0 ≤ many ∧ many ≤ cnt x L
  · have HOk := Lib.hid (show okT x many L = true by simp [okT, hk])
    have HAdd := Lib.hid (show takeL x many L = setL x (cnt x L - many) L by simp [takeL, HOk.out])
    have HSet := Lib.hid (set B x (cnt x L - many) L F w h hok (by omega) hlen)
    clear h hok
    generalize cnt x L = n at *
    generalize sumL L = s at *
    have q1 : ¬ many < 0 := by omega
    have q2 : ¬ n < many := by omega
    go_enter Try.func49, Try.ntmps49
    go_wp2_with fail
    refine HC.out.mono ?_
    rintro e w1 ⟨rfl, rfl⟩
    go_wp2_with fail
    refine HC.out.mono ?_
    rintro e w1 ⟨rfl, rfl⟩
    go_wp2_with fail
    refine HSet.out.mono ?_
    rintro e w1 ⟨rfl, hp⟩
    have HP := Lib.hid hp
    clear hp
    go_wp2_with fail
    go_ret
    exact ⟨by rw [HOk.out]; rfl, by rw [HAdd.out]; exact HP.out⟩
  · have HOk := Lib.hid (show okT x many L = false by simp [okT]; omega)
    have HAdd := Lib.hid (show takeL x many L = L by simp [takeL, HOk.out])
    clear h hok
    generalize cnt x L = n at *
    by_cases q1 : many < 0
    · go_enter Try.func49, Try.ntmps49
      go_wp2_with fail
      go_ret
      exact ⟨by rw [HOk.out]; rfl, by rw [HAdd.out]; exact RB.refl HH.out⟩
    · have q2 : n < many := by omega
      go_enter Try.func49, Try.ntmps49
      go_wp2_with fail
      refine HC.out.mono ?_
      rintro e w1 ⟨rfl, rfl⟩
      go_wp2_with fail
      go_ret
      exact ⟨by rw [HOk.out]; rfl, by rw [HAdd.out]; exact RB.refl HH.out⟩

set_option maxRecDepth 100000 in
/-- Lists of counts that are the same. -/
theorem Same (A B : Option Addr) (ca cb : Nat) (a b : List (Int × Int)) (w : World) (n m : Nat) (hn : n = a.length) (hm : m = b.length) (ha : Sl w 2 A a.length ca (a.flatMap pc)) (hb : Sl w 2 B b.length cb (b.flatMap pc)) (hab : a = b) :
    Calls Try.prog 51 #[.slice A n ca, .slice B m cb] w fun e w' => e = .returned (.bool true) ∧ Fr (fun _ => False) w w' := by
  subst hab
  subst hn
  subst hm
  have la : a.length ≤ 9223372036854775807 := by have := ha.2.1; have := ha.2.2.1; unfold maxLen at this; omega
  have t1 : ((a.length : Int) != (a.length : Int)) = false := by simp
  go_enter Try.func51, Try.ntmps51
  go_wp2_with fail
  go_loopg [5] a.length (fun gk i wr => ∃ k : Nat, i = .int .i64 k ∧ k ≤ a.length ∧ gk = a.length - k ∧ ∃ m, wr = w.drewN m)
  case atStart => exact ⟨0, rfl, Nat.zero_le _, rfl, 0, rfl⟩
  case round =>
    obtain ⟨k, rfl, hk, hg, m, rfl⟩ := hrel
    have HG := Lib.hid hg
    clear hg
    by_cases hlt : k < a.length
    · obtain ⟨b1, o1, rfl, -, c1⟩ := ha.at hlt (by omega)
      obtain ⟨b2, o2, rfl, -, c2⟩ := hb.at hlt (by omega)
      have g1 : (w.drewN m).cell? ⟨b1, o1 + k * 2, none⟩ = some (.int .i64 a[k].1) := c1 (k * 2) _ (by rw [← Nat.add_zero (k * 2), flat_at pc_len hlt (by omega)]; rfl)
      have g2 : (w.drewN m).cell? ⟨b1, o1 + k * 2 + 1, none⟩ = some (.int .i64 a[k].2) := c1 (k * 2 + 1) _ (by rw [flat_at pc_len hlt (by omega)]; rfl)
      have g3 : (w.drewN m).cell? ⟨b2, o2 + k * 2, none⟩ = some (.int .i64 a[k].1) := c2 (k * 2) _ (by rw [← Nat.add_zero (k * 2), flat_at pc_len hlt (by omega)]; rfl)
      have g4 : (w.drewN m).cell? ⟨b2, o2 + k * 2 + 1, none⟩ = some (.int .i64 a[k].2) := c2 (k * 2 + 1) _ (by rw [flat_at pc_len hlt (by omega)]; rfl)
      clear c1 c2 ha hb
      have i1 : (k : Int) < (a.length : Int) := by omega
      have i0 : (0 : Int) ≤ (k : Int) := by omega
      generalize hwm : w.drewN m = wm at *
      have HW := Lib.hid hwm
      clear hwm
      generalize a[k].1 = x at *
      generalize a[k].2 = y at *
      have q1 : (x == x) = true := by simp
      have q2 : (y == y) = true := by simp
      go_upto_region 6 with (fail)
      go_quiet (fail)
      go_wp2_with fail
      go_roundg (a.length - (k + 1))
      case rel => exact ⟨k + 1, by go_num, by omega, rfl, m + nq, by rw [← HW.out]; simp [World.drewN, Nat.add_assoc]⟩
      case measure => have := HG.out; omega
    · clear ha hb
      go_wp2_with fail
      go_ret
      exact ⟨rfl, Fr.drewN _ _ _⟩
end Ref13
end Go.Proofs.Ytolpdgaomlhgdaa
