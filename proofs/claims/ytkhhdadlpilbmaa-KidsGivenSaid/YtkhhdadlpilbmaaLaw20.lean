/- Layer 20's statements: awake. -/
import Derived.Test.YtkhhdadlpilbmaaKids4
import Derived.Test.YtkhhdadlpilbmaaRef20b
import Derived.Test.YtkhhdadlpilbmaaRef01
namespace Go.Proofs.Ytkhhdadlpilbmaa
open Go.RowKit
namespace Law20
open KeyP SetP KidsP Kds
theorem sl_row (w : World) (t : TypeId) (cs : List Value) (n sz : Nat) (hs : cs.length = n * sz) (hn : n ≤ maxLen) : Sl (w.alloc (.cells cs.toArray t)) sz (some ⟨w.heap.size, 0, none⟩) n n cs := by
  refine ⟨hs, Nat.le_refl _, hn, (by simp), fun _ => ⟨_, 0, rfl, fun i u hu => ?_⟩⟩
  rw [Nat.zero_add, cell_of_block (heap_new w _)]
  simpa using hu
/-- awake's index. -/
structure A20 (w0 w : World) (B : Nat) (L : List Sn) (F : List Nat) : Prop where
  i : IB w B L F
  f : Fr (fun _ => False) w0 w
  lo : ∀ b ∈ F, w0.heap.size ≤ b
theorem A20.fr {w0 w w' : World} {B : Nat} {L : List Sn} {F : List Nat} (h : A20 w0 w B L F) (hf : Fr (fun _ => False) w w') : A20 w0 w' B L F := ⟨h.i.fr hf (fun _ _ h => h), h.f.trans hf (fun _ _ h => h) (fun _ _ h => h), h.lo⟩
theorem A20.turn {w0 w w' : World} {B : Nat} {L L' : List Sn} {F F' : List Nat} (h : A20 w0 w B L F) (hi : IB w' B L' F') (ht : Tn F F' w w') : A20 w0 w' B L' F' :=
  ⟨hi, h.f.trans ht.fr (fun _ _ h => h) (fun i hi hF => by have := h.lo i hF; omega), fun b hb => by
    rcases (ht.sub b hb).1 with hb | hb
    · exact h.lo b hb
    · have := h.f.size; omega⟩
theorem A20.put {w0 w : World} {B : Nat} {L : List Sn} {F : List Nat} (h : A20 w0 w B L F) (q : Sn) (hq : gd q) (sz : L.length < 1000000) : Calls Try.prog 17 #[.pointer (some ⟨B, 0, none⟩), q.v] w fun e w' => e = .returned (.tuple #[]) ∧ ∃ F', A20 w0 w' B (putK q L) F' :=
  (Kds.Put B L F q w h.i hq sz).mono (fun _ _ ⟨he, F', hi, ht⟩ => ⟨he, F', h.turn hi ht⟩)
theorem A20.drop {w0 w : World} {B : Nat} {L : List Sn} {F : List Nat} (h : A20 w0 w B L F) {t i : Int} (ht : wf64 t) (hi : wf64 i) (sz : L.length < 1000000) : Calls Try.prog 15 #[.pointer (some ⟨B, 0, none⟩), .int .i64 t, .int .i64 i] w fun e w' => e = .returned (.bool (fnd (sn t i 0) L).isSome) ∧ ∃ F', A20 w0 w' B (out t i L) F' :=
  (Kds.Drop B L F t i w h.i ht hi sz).mono (fun _ _ ⟨he, F', hi, ht⟩ => ⟨he, F', h.turn hi ht⟩)
abbrev s21 : Sn := sn 1 2 1
abbrev s31 : Sn := sn 1 3 1
abbrev s32 : Sn := sn 1 3 2
theorem wf (n : Int) (h : -9223372036854775808 ≤ n ∧ n ≤ 9223372036854775807 := by decide) : wf64 n := h
set_option maxRecDepth 100000 in
theorem of_ (i p : Int) (w : World) : Calls Try.prog 63 #[.int .i64 i, .int .i64 p] w fun e w' => e = .returned (sn 1 i p).v ∧ Fr (fun _ => False) w w' := by
  have kb : ∀ W : World, (Instr.build 38 #[(0, .int .i64 1), (1, .int .i64 i), (2, .int .i64 p)]).run Try.prog W = .ok (.agg #[.int .i64 1, .int .i64 i, .int .i64 p, .int .i64 0, .string ByteArray.empty, .string ByteArray.empty, .int .i64 0, .int .i64 0, .bool false]) W := fun W => by kernel_rfl
  go_enter Try.func63, Try.ntmps63
  go_wp2_with fail
  have hh := heap_new w (.cells (sn 1 i p).arr 38)
  exact bodyPost_ret (results_cell_row rfl _ _ w.heap.size 38 _ (0, 0) _ rfl hh Try.underlying38 rfl (by kernel_rfl)) rfl ⟨rfl, Fr.alloc _ _ _⟩
theorem p1 : putK s21 [] = [s21] := rfl
theorem p2 : putK s31 [s21] = [s21, s31] := rfl
theorem p3 : putK s32 [s21, s31] = [s21, s32] := rfl
theorem o1 : out 1 2 [s21, s32] = [s32] := rfl
theorem o2 : out 1 2 [s32] = [s32] := rfl
theorem row3 (w : World) : Sl (w.alloc (.cells #[.int .i64 3] TI)) 1 (some ⟨w.heap.size, 0, none⟩) 1 1 (ints [3]) := sl_row w TI (ints [3]) 1 1 rfl (by simp [maxLen])
theorem g21 : gd s21 := ⟨wf 1, wf 2, wf 1⟩
theorem g31 : gd s31 := ⟨wf 1, wf 3, wf 1⟩
theorem g32 : gd s32 := ⟨wf 1, wf 3, wf 2⟩
theorem SpSl {M : List Int} {w : World} {e : Ending} {w' : World} (h : SpPost M w e w') : ∃ A c, e = .returned (.slice A M.length c) ∧ Sl w' 1 A M.length c (ints M) ∧ Fr (fun _ => False) w w' := by
  obtain ⟨v, he, ho, hb⟩ := h
  obtain ⟨A, c, rfl, hS, -⟩ := Sl.of_own ho
  exact ⟨A, c, he, hS, Fr.of_below' hb _⟩
set_option maxRecDepth 100000 in
set_option maxHeartbeats 1000000 in
theorem awake (w : World) : Calls Try.prog 14 #[] w fun e w' => e = .returned (.bool true) ∧ Fr (fun _ => False) w w' := by
  have H0 : Hid (A20 w (w.alloc (.cells (cellsX none 0 none 0) TX)) w.heap.size [] [w.heap.size]) := ⟨IB.new w, Fr.alloc _ _ _, by simp⟩
  go_enter Try.func14, Try.ntmps14
  go_wp2_with fail
  generalize w.alloc (.cells (cellsX none 0 none 0) TX) = w1 at *
  generalize w.heap.size = B at *
  refine (of_ 2 1 w1).mono ?_
  rintro e w2 ⟨rfl, hf⟩
  have H1 := Lib.hid (H0.out.fr hf)
  clear hf H0
  go_wp2_with fail
  refine (H1.out.put s21 g21 (by simp)).mono ?_
  rintro e w3 ⟨rfl, F2, h⟩
  rw [p1] at h
  have H2 := Lib.hid h
  clear h H1
  go_wp2_with fail
  refine (of_ 3 1 w3).mono ?_
  rintro e w4 ⟨rfl, hf⟩
  have H3 := Lib.hid (H2.out.fr hf)
  clear hf H2
  go_wp2_with fail
  refine (H3.out.put s31 g31 (by simp)).mono ?_
  rintro e w5 ⟨rfl, F3, h⟩
  rw [p2] at h
  have H4 := Lib.hid h
  clear h H3
  go_wp2_with fail
  refine (of_ 3 2 w5).mono ?_
  rintro e w6 ⟨rfl, hf⟩
  have H5 := Lib.hid (H4.out.fr hf)
  clear hf H4
  go_wp2_with fail
  refine (H5.out.put s32 g32 (by simp)).mono ?_
  rintro e w7 ⟨rfl, F4, h⟩
  rw [p3] at h
  have H6 := Lib.hid h
  clear h H5
  go_wp2_with fail
  have HP := Kds.Parent B _ _ 1 3 w7 H6.out.i (wf 1) (wf 3)
  rw [show fnd (sn 1 3 0) [s21, s32] = some s32 from rfl] at HP
  refine HP.mono ?_
  clear HP
  rintro e w8 ⟨rfl, hf⟩
  have H7 := Lib.hid (H6.out.fr hf)
  clear hf H6
  dsimp only [Option.map_some, Option.getD_some, Option.isSome_some]
  go_wp2_with fail
  have HF := Kds.Fan B _ _ 1 1 w8 H7.out.i (wf 1) (wf 1) (by simp)
  rw [show (kids 1 1 [s21, s32]).length = 1 from rfl] at HF
  refine HF.mono ?_
  clear HF
  rintro e w9 ⟨rfl, hf⟩
  have H8 := Lib.hid (H7.out.fr hf)
  clear hf H7
  go_wp2_with fail
  have HF := Kds.Fan B _ _ 1 2 w9 H8.out.i (wf 1) (wf 2) (by simp)
  rw [show (kids 1 2 [s21, s32]).length = 1 from rfl] at HF
  refine HF.mono ?_
  clear HF
  rintro e w10 ⟨rfl, hf⟩
  have H9 := Lib.hid (H8.out.fr hf)
  clear hf H8
  go_wp2_with fail
  have HD := H9.out.drop (wf 1) (wf 2) (by simp)
  rw [o1, show (fnd (sn 1 2 0) [s21, s32]).isSome = true from rfl] at HD
  refine HD.mono ?_
  clear HD
  rintro e w11 ⟨rfl, F5, h⟩
  have H10 := Lib.hid h
  clear h H9
  go_wp2_with fail
  have HD := H10.out.drop (wf 1) (wf 2) (by simp)
  rw [o2, show (fnd (sn 1 2 0) [s32]).isSome = false from rfl] at HD
  refine HD.mono ?_
  clear HD
  rintro e w12 ⟨rfl, F6, h⟩
  have H11 := Lib.hid h
  clear h H10
  go_wp2_with fail
  have HF := Kds.Fan B _ _ 1 1 w12 H11.out.i (wf 1) (wf 1) (by simp)
  rw [show (kids 1 1 [s32]).length = 0 from rfl] at HF
  refine HF.mono ?_
  clear HF
  rintro e w13 ⟨rfl, hf⟩
  have H12 := Lib.hid (H11.out.fr hf)
  clear hf H11
  go_wp2_with fail
  have HS := Kds.Spans B _ _ 1 w13 H12.out.i (wf 1) (by simp)
  rw [show spans 1 [s32] = [3] from rfl] at HS
  refine HS.mono ?_
  clear HS
  rintro e w14 h
  obtain ⟨A1, n1, rfl, hS, hf⟩ := SpSl h
  have H13 := Lib.hid (H12.out.fr hf); have HS := Lib.hid hS
  clear hf hS H12 h
  go_wp2_with fail
  have HA := Lib.hid (Fr.alloc (fun _ => False) w14 (.cells #[.int .i64 3] TI))
  refine (SameInts' A1 _ n1 _ [3] [3] _ _ _ rfl rfl (HS.out.fr HA.out (fun _ _ h => h)) (row3 w14)).mono ?_
  rintro e w15 ⟨rfl, hf⟩
  have HZ := Lib.hid (H13.out.f.trans (HA.out.trans hf (T := fun _ => False) (fun _ _ h => h) (fun _ _ h => h)) (T := fun _ => False) (fun _ _ h => h) (fun _ _ h => h))
  clear hf
  rw [show decide (([3] : List Int) = [3]) = true from rfl]
  go_wp2_with fail
  go_ret
  exact ⟨rfl, HZ.out⟩
end Law20
end Go.Proofs.Ytkhhdadlpilbmaa
