/- The document's answer for layer 12: getting, keys; the least number of keys of a depth. -/
import Derived.Test.YtolpdgaomlhgdaaRef12b
import Derived.Test.YtolpdgaomlhgdaaLst
namespace Go.Proofs.Ytolpdgaomlhgdaa
open Go.RowKit
namespace Ref12

theorem get_take_none {k : Int} {L : List (Int × Int)} {j : Nat} (h : ∀ i (_ : i < j) (h : i < L.length), L[i].1 ≠ k) (hj : j < L.length) (e : L[j].1 = k) : getL k L = some L[j].2 := by
  have h1 : L = L.take j ++ L[j] :: L.drop (j + 1) := by rw [← List.drop_eq_getElem_cons hj, List.take_append_drop]
  have h2 : L.find? (fun p => sameK k p.1) = some L[j] := by
    rw [List.find?_eq_some_iff_append]
    refine ⟨sameK_iff.2 e.symm, L.take j, L.drop (j + 1), h1, fun p hp => ?_⟩
    obtain ⟨i, hi, rfl⟩ := List.getElem_of_mem hp
    rw [List.length_take] at hi
    rw [List.getElem_take, Bool.not_eq_true', Bool.eq_false_iff]
    exact fun hs => h i (by omega) (by omega) (sameK_iff.1 hs).symm
  unfold getL
  rw [h2]; rfl
theorem get_none {k : Int} {L : List (Int × Int)} (h : ∀ i (h : i < L.length), L[i].1 ≠ k) : getL k L = none := by
  unfold getL
  have : L.find? (fun p => sameK k p.1) = none := by
    rw [List.find?_eq_none]
    intro p hp hs
    obtain ⟨i, hi, rfl⟩ := List.getElem_of_mem hp
    exact h i hi (sameK_iff.1 hs).symm
  rw [this]; rfl

/-- What Get answers. -/
def GetPost (k : Int) (L : List (Int × Int)) (w : World) (e : Ending) (w' : World) : Prop :=
  e = .returned (.tuple #[.int .i64 ((getL k L).getD 0), .bool (getL k L).isSome]) ∧ w = w'

set_option maxRecDepth 100000 in
theorem Get (Bx : Nat) (A : Option Addr) (c : Nat) (k : Int) (L : List (Int × Int)) (w : World) (hB : w.heap[Bx]? = some (.cells #[.slice A L.length c] 56 (0, 0)))
    (hS : Sl w 2 A L.length c (pcells L)) :
    Calls Try.prog 36 #[.pointer (some ⟨Bx, 0, none⟩), .int .i64 k] w (GetPost k L w) := by
  have cB : w.cell? ⟨Bx, 0, none⟩ = some (.slice A L.length c) := cell_of_block hB 0
  have hlen : L.length ≤ 9223372036854775807 := by have := hS.2.1; have := hS.2.2.1; unfold maxLen at this; omega
  clear hB
  go_enter Try.func36, Try.ntmps36
  go_wp2_with fail
  go_loopg [6] L.length (fun gk i wr => w = wr ∧ ∃ j : Nat, i = .int .i64 j ∧ j ≤ L.length ∧ gk = L.length - j ∧ ∀ i (_ : i < j) (h : i < L.length), L[i].1 ≠ k)
  case atStart => exact ⟨rfl, 0, rfl, Nat.zero_le _, rfl, fun i h => by omega⟩
  case round =>
    obtain ⟨rfl, j, rfl, hj, hg, hne⟩ := hrel
    have HG := Lib.hid hg; have HN := Lib.hid hne
    clear hg hne
    by_cases hlt : j < L.length
    · obtain ⟨b1, o1, rfl, -, c1⟩ := hS.at hlt (by omega)
      have d1 : w.cell? ⟨b1, o1 + j * 2, none⟩ = some (.int .i64 L[j].1) := c1 (j * 2) _ (by rw [← Nat.add_zero (j * 2), flat_at pc_len hlt (by omega)]; rfl)
      have d2 : w.cell? ⟨b1, o1 + j * 2 + 1, none⟩ = some (.int .i64 L[j].2) := c1 (j * 2 + 1) _ (by rw [flat_at pc_len hlt (by omega)]; rfl)
      clear c1 hS
      have HGe := Lib.hid (get_take_none (k := k) HN.out hlt)
      generalize hx : L[j] = x at *
      obtain ⟨x, y⟩ := x
      have HX := Lib.hid hx
      clear hx
      dsimp only at d1 d2 HGe
      by_cases hxk : x = k
      · have t2 : (x == k) = true := by simp [hxk]
        have HE := Lib.hid (HGe.out hxk)
        clear hxk HGe
        go_wp2_with fail
        go_ret2
        unfold GetPost
        rw [HE.out]
        exact ⟨rfl, rfl⟩
      · have t2 : (x == k) = false := by simp [hxk]
        have HXK := Lib.hid hxk
        clear hxk
        go_wp2_with fail
        go_roundg (L.length - (j + 1))
        case rel =>
          refine ⟨rfl, j + 1, by go_num, by omega, rfl, fun i hi h => ?_⟩
          rcases Nat.lt_succ_iff_lt_or_eq.1 hi with hi | rfl
          · exact HN.out i hi h
          · rw [HX.out]; exact HXK.out
        case measure => have := HG.out; omega
    · have HE := Lib.hid (get_none (k := k) (L := L) (fun i h => HN.out i (by omega) h))
      clear hS
      go_wp2_with fail
      go_ret2
      unfold GetPost
      rw [HE.out]
      exact ⟨rfl, rfl⟩

theorem infoI : (Try.prog.info? 3).map (fun i => (i.zero, i.size, i.bytes)) = some (some (.int .i64 0), 1, 8) := by kernel_rfl

set_option maxRecDepth 100000 in
set_option maxHeartbeats 400000 in
theorem Keys (Bx : Nat) (A : Option Addr) (c : Nat) (L : List (Int × Int)) (w : World) (hB : w.heap[Bx]? = some (.cells #[.slice A L.length c] 56 (0, 0)))
    (hS : Sl w 2 A L.length c (pcells L)) (hlen : L.length ≤ 1000000) :
    Calls Try.prog 40 #[.pointer (some ⟨Bx, 0, none⟩)] w fun e w' => ∃ v, e = .returned v ∧ w'.ownsRow w.heap.size 3 1 v L.length (ints (L.map (·.1))) ∧ Below w.heap.size w w' := by
  obtain ⟨i0, hi, hz0, hz1, hz2⟩ := info_parts infoI
  have HB := Lib.hid hB; have HS := Lib.hid hS
  have hBx := lt_of_heap hB
  clear hB
  go_enter Try.func40, Try.ntmps40
  go_wp2_with fail
  go_loopg [3, 4] L.length (fun gk v i wr => ∃ j : Nat, i = .int .i64 j ∧ j ≤ L.length ∧ gk = L.length - j ∧ wr.ownsRow w.heap.size 3 1 v j (ints ((L.take j).map (·.1))) ∧ Below w.heap.size w wr)
  case atStart => exact ⟨0, rfl, Nat.zero_le _, rfl, World.ownsRow_nil _ _ _ _, Below.refl _ _⟩
  case round =>
    obtain ⟨j, rfl, hj, hg, hown, hbel⟩ := hrel
    have HG := Lib.hid hg
    have hB1 := (hbel.block Bx hBx).trans HB.out
    have cB : wr.cell? ⟨Bx, 0, none⟩ = some (.slice A L.length c) := cell_of_block hB1 0
    have hszw : w.heap.size ≤ wr.heap.size := hbel.size
    have HBe := Lib.hid hbel
    clear hg hB1 hbel
    by_cases hlt : j < L.length
    · have HSn := Lib.hid (List.take_succ_eq_append_getElem hlt)
      obtain ⟨b1, o1, rfl, hb1, c1⟩ := hS.at hlt (by omega)
      have d1 : wr.cell? ⟨b1, o1 + j * 2, none⟩ = some (.int .i64 L[j].1) := (HBe.out.cell (p := ⟨b1, _, none⟩) hb1).trans (c1 (j * 2) _ (by rw [← Nat.add_zero (j * 2), flat_at pc_len hlt (by omega)]; rfl))
      clear c1 hS
      generalize hx : L[j] = x at *
      obtain ⟨x, y⟩ := x
      clear hx
      dsimp only at d1
      have hown1' := hown.alloc (.cells #[.int .i64 x] 3)
      have HK1 := Lib.hid (ownsRow_blk hown)
      clear hown
      go_wp2_with (at_builtin; refine wpList_append_sl _ rfl (.tmp 14) (.tmp 23) 40 rfl w.heap.size 3 i0 (.int .i64 0) 1 8 Try.underlying40 hi hz0 hz1 hz2 rfl (by decide) _ _ _ rfl hown1' _ _ _ _ rfl (Sl.one wr 3 [.int .i64 x] 1 rfl) (by simp [Value.oneCell']) ?_ ?_ ?_ ?_)
      · unfold maxLen; omega
      · omega
      · simp; omega
      intro v1 w1 hown1 hgrow1
      have HO := Lib.hid hown1; have HGr := Lib.hid hgrow1
      clear hown1 hgrow1 hown1'
      go_wp2_with fail
      go_roundg (L.length - (j + 1))
      case rel => exact ⟨j + 1, by go_num, by omega, rfl, by rw [HSn.out]; simpa using HO.out, (HBe.out.alloc hszw _).grown HGr.out (by simp; omega) (fun k e => (HK1.out k e).1)⟩
      case measure => have := HG.out; omega
    · obtain rfl : j = L.length := by omega
      rw [List.take_length] at hown
      have HO := Lib.hid hown
      clear hown hS
      go_wp2_with fail
      go_ret
      exact ⟨_, rfl, HO.out, HBe.out⟩

set_option maxRecDepth 100000 in
theorem Least (d : Nat) (w : World) (hd : d ≤ 4611686018427387904) :
    Calls Try.prog 41 #[.int .i64 d] w fun e w' => e = .returned (.int .i64 (lst (min d 80)).1) ∧ w = w' := by
  go_enter Try.func41, Try.ntmps41
  go_wp2_with fail
  go_loopg [3, 4, 5, 6] 80 (fun gk x y i _ wr => w = wr ∧ ∃ j : Nat, i = .int .i64 j ∧ j ≤ d ∧ j ≤ 80 ∧ gk = 80 - j ∧ x = .int .i64 (lst j).1 ∧ y = .int .i64 (lst j).2)
  case atStart => exact ⟨rfl, 0, rfl, Nat.zero_le _, by omega, rfl, rfl, rfl⟩
  case round =>
    obtain ⟨rfl, j, rfl, hj, hj2, hg, rfl, rfl⟩ := hrel
    have HG := Lib.hid hg
    clear hg
    have h1 := (lst_mono hj2).1
    have h2 := (lst_mono hj2).2
    have h3 := lst_80
    have h4 := (lst_mono1 80).1
    have HS : Hid (lst (j + 1) = ((lst j).2, (lst j).1 + (lst j).2 + 1)) := rfl
    generalize hx : (lst j).1 = x at *
    generalize hy : (lst j).2 = y at *
    have HX := Lib.hid hx; have HY := Lib.hid hy
    clear hx hy
    have h5 : x ≤ 1152921504606846976 := by omega
    have h6 : y ≤ 1152921504606846976 := by omega
    clear h1 h2 h3 h4
    by_cases hlt : j < d
    · by_cases hl2 : j < 80
      · go_wp2_with fail
        go_roundg (80 - (j + 1))
        case rel => exact ⟨rfl, j + 1, by go_num, by omega, by omega, rfl, by rw [HS.out], by rw [HS.out]; go_num⟩
        case measure => have := HG.out; omega
      · obtain rfl : j = 80 := by omega
        have HM : Hid (min d 80 = 80) := Nat.min_eq_right (by omega)
        go_wp2_with fail
        go_ret
        rw [HM.out, HX.out]
        exact ⟨rfl, rfl⟩
    · obtain rfl : j = d := by omega
      have HM : Hid (min j 80 = j) := Nat.min_eq_left (by omega)
      go_wp2_with fail
      go_ret
      rw [HM.out, HX.out]
      exact ⟨rfl, rfl⟩
end Ref12
end Go.Proofs.Ytolpdgaomlhgdaa
