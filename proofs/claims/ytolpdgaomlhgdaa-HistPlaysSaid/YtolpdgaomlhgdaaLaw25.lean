/- Layer 25's statements: what all use. -/
import Derived.Test.YtolpdgaomlhgdaaHist3
import Derived.Test.YtolpdgaomlhgdaaBagZ
namespace Go.Proofs.Ytolpdgaomlhgdaa
open Go.RowKit
namespace Law25
open HistP BagP Bag Wide Bucket Hist
theorem bk_small : bk 1 = 1 ∧ bk 2 = 2 ∧ bk 3 = 2 ∧ bk 100 = 7 := by
  refine ⟨?_, ?_, ?_, ?_⟩
  · exact congrArg Int.ofNat (bits_eq (n := 1) (k := 1) (by decide) (.inr (by decide)))
  · exact congrArg Int.ofNat (bits_eq (n := 2) (k := 2) (by decide) (.inr (by decide)))
  · exact congrArg Int.ofNat (bits_eq (n := 3) (k := 2) (by decide) (.inr (by decide)))
  · exact congrArg Int.ofNat (bits_eq (n := 100) (k := 7) (by decide) (.inr (by decide)))
theorem aw1 : ofH [1, 2, 3] = ([(1, 1), (2, 2)], (0, 6)) := by
  obtain ⟨h1, h2, h3, -⟩ := bk_small
  simp only [ofH, List.foldl_cons, List.foldl_nil, addH, h1, h2, h3]
  decide
theorem aw2 : quant ([(1, 1), (2, 2)], (0, 6)) 500 = (2, 3, true) := by decide
theorem aw3 : okD 2 ([(1, 1), (2, 2)], (0, 6)) = true ∧ dropH 2 ([(1, 1), (2, 2)], (0, 6)) = ([(1, 1), (2, 1)], (0, 4)) := by
  obtain ⟨-, h2, -, -⟩ := bk_small
  have : okD 2 ([(1, 1), (2, 2)], (0, 6)) = true := by simp only [okD, h2]; decide
  refine ⟨this, ?_⟩
  simp only [dropH, this, h2]
  decide
theorem aw4 : okD 100 ([(1, 1), (2, 1)], (0, 4)) = false ∧ dropH 100 ([(1, 1), (2, 1)], (0, 4)) = ([(1, 1), (2, 1)], (0, 4)) := by
  obtain ⟨-, -, -, h⟩ := bk_small
  have : okD 100 ([(1, 1), (2, 1)], (0, 4)) = false := by simp only [okD, h]; decide
  refine ⟨this, ?_⟩
  simp only [dropH, this]
  rfl
set_option maxRecDepth 100000 in
set_option maxHeartbeats 400000 in
theorem awake (w : World) : Calls Try.prog 58 #[] w fun e w' => e = .returned (.bool true) ∧ Below w.heap.size w w' := by
  have HOf := Lib.hid (Hist.Of (some ⟨w.heap.size, 0, none⟩) 3 [1, 2, 3] (w.alloc (.cells #[.int .i64 1, .int .i64 2, .int .i64 3] TI)) (by
    refine ⟨rfl, Nat.le_refl _, by simp [maxLen], by simp, fun _ => ⟨_, 0, rfl, fun i u hu => ?_⟩⟩
    rw [Nat.zero_add, cell_of_block (heap_new w _)]
    simpa [ints] using hu) (by simp))
  rw [aw1] at HOf
  go_enter Try.func58, Try.ntmps58
  go_wp2_with fail
  refine HOf.out.mono ?_
  rintro e w1 ⟨rfl, F, hb, hF, hf⟩
  have H1 : Hid (HB w1 (w.heap.size + 1) ([(1, 1), (2, 2)], (0, 6)) F) := by show HB _ _ _ _; simpa using hb
  have HF1 : Hid (∀ b ∈ F, w.heap.size ≤ b) := fun b hb => by have := (hF b hb).1; simp at this; omega
  have HFr := Lib.hid ((Fr.alloc (fun _ => False) w (.cells #[.int .i64 1, .int .i64 2, .int .i64 3] TI)).to hf)
  clear hb hF hf HOf
  rw [World.size_alloc]
  generalize w.heap.size + 1 = B at *
  have HQ := Lib.hid (Hist.Quantile B 500 _ F w1 H1.out)
  rw [aw2] at HQ
  go_wp2_with fail
  refine HQ.out.mono ?_
  rintro e w2 ⟨rfl, hf⟩
  have H2 := Lib.hid (H1.out.fr hf (fun _ _ h => h)); have HFr2 := Lib.hid (HFr.out.to hf)
  clear hf H1 HFr HQ
  have HD := Lib.hid (Hist.Drop B 2 _ F w2 H2.out (by simp))
  rw [aw3.1, aw3.2] at HD
  go_wp2_with fail
  refine HD.out.mono ?_
  rintro e w3 ⟨rfl, F3, hb3, ht3⟩
  have H3 := Lib.hid hb3
  have HFr3 : Hid (Fr (fun _ => False) w w3) := HFr2.out.trans ht3.fr (fun _ _ h => h) (fun i hi h => by have := HF1.out i h; omega)
  have HF3 : Hid (∀ b ∈ F3, w.heap.size ≤ b) := fun b hb => by
    rcases (ht3.sub b hb).1 with h | h
    · exact HF1.out b h
    · have := HFr2.out.size; omega
  clear hb3 ht3 H2 HFr2 HD HF1
  have HD := Lib.hid (Hist.Drop B 100 _ F3 w3 H3.out (by simp))
  rw [aw4.1, aw4.2] at HD
  go_wp2_with fail
  refine HD.out.mono ?_
  rintro e w4 ⟨rfl, F4, hb4, ht4⟩
  have H4 := Lib.hid hb4
  have HFr4 : Hid (Fr (fun _ => False) w w4) := HFr3.out.trans ht4.fr (fun _ _ h => h) (fun i hi h => by have := HF3.out i h; omega)
  clear hb4 ht4 H3 HFr3 HD HF3
  have HL := Lib.hid (Hist.Len B _ F4 w4 H4.out)
  have hsl : sumL [(1, 1), (2, 1)] = 2 := by decide
  dsimp only at HL
  rw [hsl] at HL
  clear hsl
  have HSu := Lib.hid (Hist.Sum B _ F4 w4 H4.out)
  go_wp2_with fail
  refine HL.out.mono ?_
  rintro e w5 ⟨rfl, rfl⟩
  go_wp2_with fail
  refine HSu.out.mono ?_
  rintro e w5 ⟨rfl, hf⟩
  have H5 := Lib.hid (H4.out.fr hf (fun _ _ h => h)); have HFr5 := Lib.hid (HFr4.out.to hf)
  clear hf H4 HFr4 HL HSu
  have HBu := Lib.hid (Hist.Buckets B _ F4 w5 H5.out (by simp))
  go_wp2_with fail
  refine HBu.out.mono ?_
  rintro e w6 ⟨A, c, rfl, hS, -, hf⟩
  have HS := Lib.hid (hS.fr (Fr.alloc (fun _ => False) w6 (.cells #[.int .i64 1, .int .i64 1, .int .i64 2, .int .i64 1] TC)) (fun _ _ h => h)); have HFr6 := Lib.hid ((HFr5.out.to hf).to (Fr.alloc _ w6 (.cells #[.int .i64 1, .int .i64 1, .int .i64 2, .int .i64 1] TC)))
  clear hS hf H5 HFr5 HBu
  have HSm := Lib.hid (Ref13.Same A (some ⟨w6.heap.size, 0, none⟩) c 2 [(1, 1), (2, 1)] [(1, 1), (2, 1)] _ 2 2 rfl rfl HS.out (by
    refine ⟨rfl, Nat.le_refl _, by simp [maxLen], by simp, fun _ => ⟨_, 0, rfl, fun i u hu => ?_⟩⟩
    rw [Nat.zero_add, cell_of_block (heap_new w6 _)]
    simpa using hu) rfl)
  go_wp2_with fail
  refine HSm.out.mono ?_
  rintro e w7 ⟨rfl, hf⟩
  have HFr7 := Lib.hid (HFr6.out.to hf)
  clear hf
  go_wp2_with fail
  go_ret
  exact ⟨rfl, HFr7.out.below (Nat.le_refl _) (fun _ _ h => h)⟩
end Law25
end Go.Proofs.Ytolpdgaomlhgdaa
