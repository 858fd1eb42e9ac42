/- Layer 12's statements: what must come, whatever the arguments are. -/
import Derived.Test.YtolpdgaomlhgdaaAvlKII
import Derived.Test.YtolpdgaomlhgdaaRef12c
namespace Go.Proofs.Ytolpdgaomlhgdaa
open Go.RowKit
namespace Law12

def lk (j : Nat) : List (Int × Int) := (List.range j).map (fun (i : Nat) => ((i : Int) + 1, 10 * ((i : Int) + 1)))
theorem lk_put : ∀ j : Nat, j < 7 → insL ((j : Int) + 1) (10 * ((j : Int) + 1)) (lk j) = lk (j + 1) ∧ hasL ((j : Int) + 1) (lk j) = false ∧ (lk j).length = j := by decide
theorem lk_7 : (lk 7).length = 7 ∧ getL 3 (lk 7) = some 30 ∧ (lk 7).getLast? = some (7, 70) ∧ hasL 3 (lk 7) = true ∧ hasL 7 (insL 3 1 (lk 7)) = true ∧ hasL 7 (delL 7 (insL 3 1 (lk 7))) = false ∧
    (delL 7 (delL 7 (insL 3 1 (lk 7)))).map (·.1) = [1, 2, 3, 4, 5, 6] ∧ (insL 3 1 (lk 7)).length = 7 ∧ (delL 7 (insL 3 1 (lk 7))).length = 6 ∧ (delL 7 (delL 7 (insL 3 1 (lk 7)))).length = 6 := by decide

theorem below_turned {B n0 : Nat} {F : List Nat} {L' : List (Int × Int)} {w0 w w' : World} (h : AvlII.Turned B F L' w w') (hb : Below n0 w0 w) (hn : n0 ≤ w.heap.size) (hB : n0 ≤ B) (hF : ∀ x ∈ F, n0 ≤ x) :
    Below n0 w0 w' ∧ ∃ F', AvlII.MapB w' B L' F' ∧ ∀ x ∈ F', n0 ≤ x := by
  obtain ⟨F', h1, h2, h3⟩ := h
  refine ⟨hb.trans (h3.below hn ?_), F', h1, fun x hx => ?_⟩
  · rintro k hk (e | e)
    · omega
    · have := hF k e; omega
  · rcases h2 x hx with e | e
    · exact hF x e
    · omega

set_option maxRecDepth 100000 in
theorem awake (w : World) : Calls Try.prog 30 #[] w fun e w' => e = .returned (.bool true) ∧ Below w.heap.size w w' := by
  go_enter Try.func30, Try.ntmps30
  go_wp2_with fail
  go_loopg [2] 7 (fun gk i wr => ∃ (j : Nat) (F : List Nat), i = .int .i64 ((j : Int) + 1) ∧ j ≤ 7 ∧ gk = 7 - j ∧ AvlII.MapB wr w.heap.size (lk j) F ∧ (∀ x ∈ F, w.heap.size ≤ x) ∧ Below w.heap.size w wr)
  case atStart => exact ⟨0, [], rfl, by omega, rfl, AvlII.MapB.new w, by simp, (Below.refl _ _).alloc (Nat.le_refl _) _⟩
  case round =>
    obtain ⟨j, F, rfl, hj, hg, hM, hF, hb⟩ := hrel
    have HG := Lib.hid hg; have HM := Lib.hid hM; have HF := Lib.hid hF; have HB := Lib.hid hb
    have hsz : w.heap.size ≤ wr.heap.size := hb.size
    clear hg hM hF hb
    by_cases hlt : j < 7
    · obtain ⟨h1, h2, h3⟩ := lk_put j hlt
      have HP := Lib.hid (AvlII.PutB w.heap.size ((j : Int) + 1) (10 * ((j : Int) + 1)) (lk j) F wr HM.out (by omega))
      rw [h1, h2] at HP
      clear h1 h2 h3
      go_wp2_with fail
      refine HP.out.mono ?_
      rintro e w1 ⟨rfl, hT⟩
      have HT := Lib.hid (below_turned hT HB.out hsz (Nat.le_refl _) HF.out)
      clear hT HP
      go_wp2_with fail
      go_roundg (7 - (j + 1))
      case rel =>
        obtain ⟨h1, F', h2, h3⟩ := HT.out
        exact ⟨j + 1, F', by go_num, by omega, rfl, h2, h3, h1⟩
      case measure => have := HG.out; omega
    · obtain rfl : j = 7 := by omega
      obtain ⟨l1, l2, l3, l4, l5, l6, l7, l8, l9, l10⟩ := lk_7
      generalize hL : lk 7 = L at *
      clear hL
      have HGet := Lib.hid (AvlII.GetB w.heap.size 3 L F wr HM.out)
      unfold AvlII.GetPost at HGet
      rw [l2] at HGet
      have HLast := Lib.hid (AvlII.LastB w.heap.size L F wr HM.out)
      unfold AvlII.LastPost at HLast
      rw [l3] at HLast
      have HLen := Lib.hid (AvlII.LenB w.heap.size L F wr HM.out)
      rw [l1] at HLen
      obtain ⟨d, hd1, hd2, -, hd3⟩ := AvlII.DepthB w.heap.size L F wr HM.out
      have HD := Lib.hid (hd3 wr HM.out (fun _ _ => rfl) rfl)
      have hd : d = 3 ∨ d = 4 := by
        rw [l1] at hd1 hd2
        have a1 : ¬ d ≤ 2 := fun h => by have := Nat.pow_le_pow_right (n := 2) (by omega) h; omega
        have a2 : ¬ 5 ≤ d := fun h => by have := (lst_mono h).1; have e : (lst 5).1 = 12 := by decide
                                         omega
        omega
      have HPut := Lib.hid (AvlII.PutB w.heap.size 3 1 L F wr HM.out (by omega))
      rw [l4] at HPut
      have H5 := Lib.hid l5; have H6 := Lib.hid l6; have H7 := Lib.hid l7; have H8 := Lib.hid l8; have H9 := Lib.hid l9; have H10 := Lib.hid l10
      clear l1 l2 l3 l4 l5 l6 l7 l8 l9 l10 hd1 hd2 hd3
      rcases hd with rfl | rfl
      · skip
        go_wp2_with fail
        refine HGet.out.mono ?_
        rintro e w1 ⟨rfl, rfl⟩
        go_wp2_with fail
        refine HLast.out.mono ?_
        rintro e w1 ⟨rfl, rfl⟩
        go_wp2_with fail
        refine HLen.out.mono ?_
        rintro e w1 ⟨rfl, rfl⟩
        go_wp2_with fail
        refine HD.out.mono ?_
        rintro e w1 ⟨rfl, rfl⟩
        go_wp2_with fail
        refine HPut.out.mono ?_
        rintro e w1 ⟨rfl, hT⟩
        obtain ⟨hb1, F1, hM1, hF1⟩ := below_turned hT HB.out hsz (Nat.le_refl _) HF.out
        have hsz1 : w.heap.size ≤ w1.heap.size := hb1.size
        have HDr := Lib.hid (AvlII.DropB w.heap.size 7 _ F1 w1 hM1 (by rw [H8.out]; omega))
        rw [H5.out] at HDr
        have HB1 := Lib.hid hb1; have HF1 := Lib.hid hF1
        clear hT hb1 hM1 hF1
        go_wp2_with fail
        refine HDr.out.mono ?_
        rintro e w2 ⟨rfl, hT⟩
        obtain ⟨hb2, F2, hM2, hF2⟩ := below_turned hT HB1.out hsz1 (Nat.le_refl _) HF1.out
        have hsz2 : w.heap.size ≤ w2.heap.size := hb2.size
        have HDr2 := Lib.hid (AvlII.DropB w.heap.size 7 _ F2 w2 hM2 (by rw [H9.out]; omega))
        rw [H6.out] at HDr2
        have HB2 := Lib.hid hb2; have HF2 := Lib.hid hF2
        clear hT hb2 hM2 hF2
        go_wp2_with fail
        refine HDr2.out.mono ?_
        rintro e w3 ⟨rfl, hT⟩
        obtain ⟨hb3, F3, hM3, hF3⟩ := below_turned hT HB2.out hsz2 (Nat.le_refl _) HF2.out
        have hsz3 : w.heap.size ≤ w3.heap.size := hb3.size
        have HK := Lib.hid (AvlII.KeysB w.heap.size _ F3 w3 hM3 (by rw [H10.out]; omega))
        have HB3 := Lib.hid hb3
        clear hT hb3 hM3 hF3
        go_wp2_with fail
        refine HK.out.mono ?_
        rintro e w4 ⟨v, rfl, hown, hb4⟩
        rw [H10.out] at hown
        obtain ⟨A, c, rfl, hS, hA⟩ := Sl.of_own hown
        have hS' : Sl w4 1 A [(1 : Int), 2, 3, 4, 5, 6].length c (ints [1, 2, 3, 4, 5, 6]) := by
          rw [← H7.out]; simpa [ints, H10.out, Function.comp_def] using hS
        have hS2 := Sl.one w4 3 (ints [1, 2, 3, 4, 5, 6]) 6 rfl
        have HB4 := Lib.hid (HB3.out.trans (hb4.mono hsz3))
        have hsz4 : w.heap.size ≤ w4.heap.size := HB4.out.size
        have HS2 : Hid (Sl (w4.alloc (.cells (ints [1, 2, 3, 4, 5, 6]).toArray 3)) 1 (some ⟨w4.heap.size, 0, none⟩) [(1 : Int), 2, 3, 4, 5, 6].length 6 (ints [1, 2, 3, 4, 5, 6])) := ⟨rfl, Nat.le_refl _, by simp [maxLen], by simp, hS2.2.2.2.2⟩
        have HS1 := Lib.hid (hS'.fr (Fr.alloc (fun _ => False) w4 (.cells (ints [1, 2, 3, 4, 5, 6]).toArray 3)) (fun _ _ h => h))
        clear hown hb4 hS hA hS' hS2
        go_wp2_with fail
        refine (SameInts A _ c 6 [1, 2, 3, 4, 5, 6] [1, 2, 3, 4, 5, 6] _ HS1.out HS2.out).mono ?_
        rintro e w5 ⟨rfl, hf⟩
        have HF5 := Lib.hid hf
        clear hf
        go_wp2_with fail
        go_ret
        refine ⟨rfl, (HB4.out.alloc hsz4 _).trans (HF5.out.below (by simp; omega) (fun _ _ h => h))⟩
      · skip
        go_wp2_with fail
        refine HGet.out.mono ?_
        rintro e w1 ⟨rfl, rfl⟩
        go_wp2_with fail
        refine HLast.out.mono ?_
        rintro e w1 ⟨rfl, rfl⟩
        go_wp2_with fail
        refine HLen.out.mono ?_
        rintro e w1 ⟨rfl, rfl⟩
        go_wp2_with fail
        refine HD.out.mono ?_
        rintro e w1 ⟨rfl, rfl⟩
        go_wp2_with fail
        refine HD.out.mono ?_
        rintro e w1 ⟨rfl, rfl⟩
        go_wp2_with fail
        refine HPut.out.mono ?_
        rintro e w1 ⟨rfl, hT⟩
        obtain ⟨hb1, F1, hM1, hF1⟩ := below_turned hT HB.out hsz (Nat.le_refl _) HF.out
        have hsz1 : w.heap.size ≤ w1.heap.size := hb1.size
        have HDr := Lib.hid (AvlII.DropB w.heap.size 7 _ F1 w1 hM1 (by rw [H8.out]; omega))
        rw [H5.out] at HDr
        have HB1 := Lib.hid hb1; have HF1 := Lib.hid hF1
        clear hT hb1 hM1 hF1
        go_wp2_with fail
        refine HDr.out.mono ?_
        rintro e w2 ⟨rfl, hT⟩
        obtain ⟨hb2, F2, hM2, hF2⟩ := below_turned hT HB1.out hsz1 (Nat.le_refl _) HF1.out
        have hsz2 : w.heap.size ≤ w2.heap.size := hb2.size
        have HDr2 := Lib.hid (AvlII.DropB w.heap.size 7 _ F2 w2 hM2 (by rw [H9.out]; omega))
        rw [H6.out] at HDr2
        have HB2 := Lib.hid hb2; have HF2 := Lib.hid hF2
        clear hT hb2 hM2 hF2
        go_wp2_with fail
        refine HDr2.out.mono ?_
        rintro e w3 ⟨rfl, hT⟩
        obtain ⟨hb3, F3, hM3, hF3⟩ := below_turned hT HB2.out hsz2 (Nat.le_refl _) HF2.out
        have hsz3 : w.heap.size ≤ w3.heap.size := hb3.size
        have HK := Lib.hid (AvlII.KeysB w.heap.size _ F3 w3 hM3 (by rw [H10.out]; omega))
        have HB3 := Lib.hid hb3
        clear hT hb3 hM3 hF3
        go_wp2_with fail
        refine HK.out.mono ?_
        rintro e w4 ⟨v, rfl, hown, hb4⟩
        rw [H10.out] at hown
        obtain ⟨A, c, rfl, hS, hA⟩ := Sl.of_own hown
        have hS' : Sl w4 1 A [(1 : Int), 2, 3, 4, 5, 6].length c (ints [1, 2, 3, 4, 5, 6]) := by
          rw [← H7.out]; simpa [ints, H10.out, Function.comp_def] using hS
        have hS2 := Sl.one w4 3 (ints [1, 2, 3, 4, 5, 6]) 6 rfl
        have HB4 := Lib.hid (HB3.out.trans (hb4.mono hsz3))
        have hsz4 : w.heap.size ≤ w4.heap.size := HB4.out.size
        have HS2 : Hid (Sl (w4.alloc (.cells (ints [1, 2, 3, 4, 5, 6]).toArray 3)) 1 (some ⟨w4.heap.size, 0, none⟩) [(1 : Int), 2, 3, 4, 5, 6].length 6 (ints [1, 2, 3, 4, 5, 6])) := ⟨rfl, Nat.le_refl _, by simp [maxLen], by simp, hS2.2.2.2.2⟩
        have HS1 := Lib.hid (hS'.fr (Fr.alloc (fun _ => False) w4 (.cells (ints [1, 2, 3, 4, 5, 6]).toArray 3)) (fun _ _ h => h))
        clear hown hb4 hS hA hS' hS2
        go_wp2_with fail
        refine (SameInts A _ c 6 [1, 2, 3, 4, 5, 6] [1, 2, 3, 4, 5, 6] _ HS1.out HS2.out).mono ?_
        rintro e w5 ⟨rfl, hf⟩
        have HF5 := Lib.hid hf
        clear hf
        go_wp2_with fail
        go_ret
        refine ⟨rfl, (HB4.out.alloc hsz4 _).trans (HF5.out.below (by simp; omega) (fun _ _ h => h))⟩
end Law12
end Go.Proofs.Ytolpdgaomlhgdaa
