/- The document's index of kids: the kids of one, the spans of a trace. -/
import Derived.Test.YtkhhdadlpilbmaaRef20
namespace Go.Proofs.Ytkhhdadlpilbmaa
open Go.RowKit
namespace Ref20
open KeyP SetP SetW KidsP
abbrev TI : TypeId := 3
def IntsPost (M : List Int) (w : World) (e : Ending) (w' : World) : Prop := ∃ v, e = .returned v ∧ w'.ownsRow w.heap.size TI 1 v M.length (ints M) ∧ Below w.heap.size w w'
theorem kids_snoc (t p : Int) {L : List Sn} {k : Nat} (h : k < L.length) : kids t p (L.take (k + 1)) = kids t p (L.take k) ++ if L[k].t = t ∧ L[k].p = p then [L[k].i] else [] := by
  unfold kids ofP
  rw [filter_snoc h, List.map_append]
  congr 1
  by_cases h1 : L[k].t = t <;> by_cases h2 : L[k].p = p <;> simp [h1, h2]
theorem spans_snoc (t : Int) {L : List Sn} {k : Nat} (h : k < L.length) : spans t (L.take (k + 1)) = spans t (L.take k) ++ if L[k].t = t then [L[k].i] else [] := by
  unfold spans ofT
  rw [filter_snoc h, List.map_append]
  congr 1
  by_cases h1 : L[k].t = t <;> simp [h1]
theorem kids_len (t p : Int) (L : List Sn) : (kids t p L).length ≤ L.length := by unfold kids; rw [List.length_map]; exact List.length_filter_le _ _
theorem spans_len (t : Int) (L : List Sn) : (spans t L).length ≤ L.length := by unfold spans; rw [List.length_map]; exact List.length_filter_le _ _
set_option maxRecDepth 100000 in
theorem Kids (B : Nat) (L : List Sn) (F : List Nat) (t p : Int) (w : World) (h : RX w B L F) (hlen : L.length ≤ 1000000) : Calls Try.prog 22 #[.pointer (some ⟨B, 0, none⟩), .int .i64 t, .int .i64 p] w (IntsPost (kids t p L) w) := by
  obtain ⟨i0, hi, hz0, hz1, hz2⟩ := info_parts infoN
  obtain ⟨A, c, hB, hS, -, -⟩ := h
  have hBl := lt_of_heap hB
  have HB := Lib.hid hB; have HS := Lib.hid hS
  clear hB hS
  go_enter Try.func22, Try.ntmps22
  go_wp2_with fail
  go_loopg [7, 8] L.length (fun gk v i wr => ∃ k : Nat, i = .int .i64 k ∧ k ≤ L.length ∧ gk = L.length - k ∧ wr.ownsRow w.heap.size TI 1 v (kids t p (L.take k)).length (ints (kids t p (L.take k))) ∧ Below w.heap.size w wr)
  case atStart => exact ⟨0, rfl, Nat.zero_le _, rfl, World.ownsRow_nil _ _ _ _, Below.refl _ _⟩
  case round =>
    obtain ⟨k, rfl, hk, hg, hown, hbel⟩ := hrel
    have HG := Lib.hid hg; have HO := Lib.hid hown; have HBe := Lib.hid hbel
    have hszw : w.heap.size ≤ wr.heap.size := hbel.size
    have cB : wr.cell? ⟨B, 0, none⟩ = some (.slice A L.length c) := (hbel.cell (p := ⟨B, 0, none⟩) hBl).trans (HB.out.cell 0)
    have hfl : (kids t p (L.take k)).length ≤ k := Nat.le_trans (kids_len _ _ _) (by rw [List.length_take]; omega)
    clear hg hown hbel
    by_cases hlt : k < L.length
    · obtain ⟨b1, o1, rfl, hb1, c1⟩ := HS.out.at hlt (by omega)
      have HA := Lib.hid ((At.row c1 hlt).fr (Fr.of_below' HBe.out (fun _ => False)) (fun h => h))
      have HSn := Lib.hid (kids_snoc t p hlt)
      clear c1 hb1
      generalize L[k] = y at *
      generalize kids t p (L.take k) = N at *
      have d0 : wr.cell? ⟨b1, o1 + k * 9, none⟩ = some (.int .i64 y.t) := HA.out 0 _ rfl
      have d1 : wr.cell? ⟨b1, o1 + k * 9 + 1, none⟩ = some (.int .i64 y.i) := HA.out 1 _ rfl
      have d2 : wr.cell? ⟨b1, o1 + k * 9 + 2, none⟩ = some (.int .i64 y.p) := HA.out 2 _ rfl
      by_cases h1 : y.t = t
      · have q1 : (y.t == t) = true := by simp [h1]
        by_cases h2 : y.p = p
        · have q2 : (y.p == p) = true := by simp [h2]
          have HE : Hid (kids t p (L.take (k + 1)) = N ++ [y.i]) := by show _ = _; rw [HSn.out, if_pos (by exact ⟨h1, h2⟩)]
          have hown1' := HO.out.alloc (.cells #[.int .i64 y.i] TI)
          have HK1 := Lib.hid (ownsRow_blk HO.out)
          clear h1 h2
          go_wp2_with (at_builtin; refine wpList_append_sl _ rfl (.tmp 40) (.tmp 49) TInts rfl w.heap.size TI i0 (.int .i64 0) 1 8 Try.underlying43 hi hz0 hz1 hz2 rfl (by decide) _ _ _ rfl hown1' _ _ _ _ rfl (Sl.one wr TI [.int .i64 y.i] 1 rfl) (by simp [Value.oneCell']) ?_ ?_ ?_ ?_)
          · unfold maxLen; omega
          · omega
          · first | omega | (simp; omega)
          intro v1 w1 hown1 hgrow1
          have HO1 := Lib.hid hown1; have HGr := Lib.hid hgrow1
          clear hown1 hgrow1 hown1'
          go_wp2_with fail
          go_roundg (L.length - (k + 1))
          case rel => exact ⟨k + 1, by go_num, by omega, rfl, by rw [HE.out, ints, List.map_append, List.length_append]; exact HO1.out, (HBe.out.alloc hszw _).grown HGr.out (by simp; omega) (fun k e => (HK1.out k e).1)⟩
          case measure => have := HG.out; omega
        · have q2 : (y.p == p) = false := by simp [h2]
          have HE : Hid (kids t p (L.take (k + 1)) = N) := by show _ = _; rw [HSn.out, if_neg (by exact fun h => h2 h.2), List.append_nil]
          clear h1 h2
          go_wp2_with fail
          go_roundg (L.length - (k + 1))
          case rel => exact ⟨k + 1, by go_num, by omega, rfl, by rw [HE.out]; exact HO.out, HBe.out⟩
          case measure => have := HG.out; omega
      · have q1 : (y.t == t) = false := by simp [h1]
        have HE : Hid (kids t p (L.take (k + 1)) = N) := by show _ = _; rw [HSn.out, if_neg (by exact fun h => h1 h.1), List.append_nil]
        clear h1
        go_wp2_with fail
        go_roundg (L.length - (k + 1))
        case rel => exact ⟨k + 1, by go_num, by omega, rfl, by rw [HE.out]; exact HO.out, HBe.out⟩
        case measure => have := HG.out; omega
    · obtain rfl : k = L.length := by omega
      rw [List.take_length] at HO
      obtain ⟨A2, c2, rfl, -, -⟩ := Sl.of_own HO.out
      clear hfl
      go_wp2_with fail
      go_ret
      exact ⟨_, rfl, HO.out, HBe.out⟩
set_option maxRecDepth 100000 in
theorem Spans (B : Nat) (L : List Sn) (F : List Nat) (t : Int) (w : World) (h : RX w B L F) (hlen : L.length ≤ 1000000) : Calls Try.prog 25 #[.pointer (some ⟨B, 0, none⟩), .int .i64 t] w (IntsPost (spans t L) w) := by
  obtain ⟨i0, hi, hz0, hz1, hz2⟩ := info_parts infoN
  obtain ⟨A, c, hB, hS, -, -⟩ := h
  have hBl := lt_of_heap hB
  have HB := Lib.hid hB; have HS := Lib.hid hS
  clear hB hS
  go_enter Try.func25, Try.ntmps25
  go_wp2_with fail
  go_loopg [5, 6] L.length (fun gk v i wr => ∃ k : Nat, i = .int .i64 k ∧ k ≤ L.length ∧ gk = L.length - k ∧ wr.ownsRow w.heap.size TI 1 v (spans t (L.take k)).length (ints (spans t (L.take k))) ∧ Below w.heap.size w wr)
  case atStart => exact ⟨0, rfl, Nat.zero_le _, rfl, World.ownsRow_nil _ _ _ _, Below.refl _ _⟩
  case round =>
    obtain ⟨k, rfl, hk, hg, hown, hbel⟩ := hrel
    have HG := Lib.hid hg; have HO := Lib.hid hown; have HBe := Lib.hid hbel
    have hszw : w.heap.size ≤ wr.heap.size := hbel.size
    have cB : wr.cell? ⟨B, 0, none⟩ = some (.slice A L.length c) := (hbel.cell (p := ⟨B, 0, none⟩) hBl).trans (HB.out.cell 0)
    have hfl : (spans t (L.take k)).length ≤ k := Nat.le_trans (spans_len _ _) (by rw [List.length_take]; omega)
    clear hg hown hbel
    by_cases hlt : k < L.length
    · obtain ⟨b1, o1, rfl, hb1, c1⟩ := HS.out.at hlt (by omega)
      have HA := Lib.hid ((At.row c1 hlt).fr (Fr.of_below' HBe.out (fun _ => False)) (fun h => h))
      have HSn := Lib.hid (spans_snoc t hlt)
      clear c1 hb1
      generalize L[k] = y at *
      generalize spans t (L.take k) = N at *
      have d0 : wr.cell? ⟨b1, o1 + k * 9, none⟩ = some (.int .i64 y.t) := HA.out 0 _ rfl
      have d1 : wr.cell? ⟨b1, o1 + k * 9 + 1, none⟩ = some (.int .i64 y.i) := HA.out 1 _ rfl
      have d2 : wr.cell? ⟨b1, o1 + k * 9 + 2, none⟩ = some (.int .i64 y.p) := HA.out 2 _ rfl
      by_cases h1 : y.t = t
      · have q1 : (y.t == t) = true := by simp [h1]
        have HE : Hid (spans t (L.take (k + 1)) = N ++ [y.i]) := by show _ = _; rw [HSn.out, if_pos (by exact h1)]
        have hown1' := HO.out.alloc (.cells #[.int .i64 y.i] TI)
        have HK1 := Lib.hid (ownsRow_blk HO.out)
        clear h1
        go_wp2_with (at_builtin; refine wpList_append_sl _ rfl (.tmp 26) (.tmp 35) TInts rfl w.heap.size TI i0 (.int .i64 0) 1 8 Try.underlying43 hi hz0 hz1 hz2 rfl (by decide) _ _ _ rfl hown1' _ _ _ _ rfl (Sl.one wr TI [.int .i64 y.i] 1 rfl) (by simp [Value.oneCell']) ?_ ?_ ?_ ?_)
        · unfold maxLen; omega
        · omega
        · first | omega | (simp; omega)
        intro v1 w1 hown1 hgrow1
        have HO1 := Lib.hid hown1; have HGr := Lib.hid hgrow1
        clear hown1 hgrow1 hown1'
        go_wp2_with fail
        go_roundg (L.length - (k + 1))
        case rel => exact ⟨k + 1, by go_num, by omega, rfl, by rw [HE.out, ints, List.map_append, List.length_append]; exact HO1.out, (HBe.out.alloc hszw _).grown HGr.out (by simp; omega) (fun k e => (HK1.out k e).1)⟩
        case measure => have := HG.out; omega
      · have q1 : (y.t == t) = false := by simp [h1]
        have HE : Hid (spans t (L.take (k + 1)) = N) := by show _ = _; rw [HSn.out, if_neg (by exact h1), List.append_nil]
        clear h1
        go_wp2_with fail
        go_roundg (L.length - (k + 1))
        case rel => exact ⟨k + 1, by go_num, by omega, rfl, by rw [HE.out]; exact HO.out, HBe.out⟩
        case measure => have := HG.out; omega
    · obtain rfl : k = L.length := by omega
      rw [List.take_length] at HO
      obtain ⟨A2, c2, rfl, -, -⟩ := Sl.of_own HO.out
      clear hfl
      go_wp2_with fail
      go_ret
      exact ⟨_, rfl, HO.out, HBe.out⟩
end Ref20
end Go.Proofs.Ytkhhdadlpilbmaa
