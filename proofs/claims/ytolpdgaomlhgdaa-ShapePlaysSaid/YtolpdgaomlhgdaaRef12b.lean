/- The document's answer for layer 12: dropping, getting, keys. -/
import Derived.Test.YtolpdgaomlhgdaaRef12
namespace Go.Proofs.Ytolpdgaomlhgdaa
open Go.RowKit
namespace Ref12

theorem del_snoc {k : Int} {L : List (Int × Int)} {j : Nat} (h : j < L.length) : delL k (L.take (j + 1)) = if L[j].1 = k then delL k (L.take j) else delL k (L.take j) ++ [L[j]] := by
  rw [List.take_succ_eq_append_getElem h, delL_append, delL_cons]
  by_cases e : L[j].1 = k
  · rw [if_pos e, if_pos (sameK_iff.2 e.symm)]; simp [delL]
  · rw [if_neg e, if_neg (fun h => e (sameK_iff.1 h).symm)]; simp [delL]
theorem del_le (k : Int) (L : List (Int × Int)) : (delL k L).length ≤ L.length := List.length_filter_le _ _
theorem del_lt (k : Int) (L : List (Int × Int)) : decide ((delL k L).length < L.length) = hasL k L := by
  rw [Bool.eq_iff_iff, decide_eq_true_iff, hasL, List.any_eq_true]
  constructor
  · intro h
    refine Classical.byContradiction fun hn => ?_
    have : delL k L = L := delL_none (fun p hp => by
      cases hs : sameK k p.1 with
      | false => rfl
      | true => exact absurd ⟨p, hp, hs⟩ hn)
    rw [this] at h; omega
  · rintro ⟨p, hp, hs⟩
    have := List.length_filter_lt_length_iff_exists (p := fun p : Int × Int => !sameK k p.1) (l := L)
    exact this.2 ⟨p, hp, by simp [hs]⟩

/-- What a call of Drop comes to. -/
def DropPost (Bx : Nat) (k : Int) (L : List (Int × Int)) (w : World) (e : Ending) (w' : World) : Prop :=
  ∃ A' c', e = .returned (.bool (hasL k L)) ∧ w'.heap[Bx]? = some (.cells #[.slice A' (delL k L).length c'] 56 (0, 0)) ∧ Sl w' 2 A' (delL k L).length c' (pcells (delL k L)) ∧ (∀ a, A' = some a → w.heap.size ≤ a.block ∧ a.block < w'.heap.size) ∧ Fr (· = Bx) w w'

set_option maxRecDepth 100000 in
set_option maxHeartbeats 400000 in
theorem Drop (Bx : Nat) (A : Option Addr) (c : Nat) (k : Int) (L : List (Int × Int)) (w : World) (hB : w.heap[Bx]? = some (.cells #[.slice A L.length c] 56 (0, 0)))
    (hS : Sl w 2 A L.length c (pcells L)) (hA : ∀ a, A = some a → a.block < w.heap.size) (hlen : L.length ≤ 1000000) :
    Calls Try.prog 34 #[.pointer (some ⟨Bx, 0, none⟩), .int .i64 k] w (DropPost Bx k L w) := by
  obtain ⟨i0, hi, hz0, hz1, hz2⟩ := info_parts infoP
  have HB := Lib.hid hB; have HS := Lib.hid hS
  have hBx := lt_of_heap hB
  clear hB
  go_enter Try.func34, Try.ntmps34
  go_wp2_with fail
  go_loopg [5, 6] L.length (fun gk v i wr => ∃ j : Nat, i = .int .i64 j ∧ j ≤ L.length ∧ gk = L.length - j ∧ wr.ownsRow w.heap.size 65 2 v (delL k (L.take j)).length (pcells (delL k (L.take j))) ∧ Below w.heap.size w wr)
  case atStart => exact ⟨0, rfl, Nat.zero_le _, rfl, World.ownsRow_nil _ _ _ _, Below.refl _ _⟩
  case round =>
    obtain ⟨j, rfl, hj, hg, hown, hbel⟩ := hrel
    have HG := Lib.hid hg
    have hB1 := (hbel.block Bx hBx).trans HB.out
    have cB : wr.cell? ⟨Bx, 0, none⟩ = some (.slice A L.length c) := cell_of_block hB1 0
    have fB := free_of_block hB1 0
    have hszw : w.heap.size ≤ wr.heap.size := hbel.size
    have HB1 := Lib.hid hB1; have HBe := Lib.hid hbel
    have hdl : (delL k (L.take j)).length ≤ j := Nat.le_trans (del_le _ _) (by rw [List.length_take]; omega)
    clear hg hB1 hbel
    by_cases hlt : j < L.length
    · have hsn := del_snoc (k := k) hlt
      have HSn := Lib.hid hsn
      clear hsn
      obtain ⟨b1, o1, rfl, hb1, c1⟩ := hS.at hlt (by omega)
      have d1 : wr.cell? ⟨b1, o1 + j * 2, none⟩ = some (.int .i64 L[j].1) := (HBe.out.cell (p := ⟨b1, _, none⟩) hb1).trans (c1 (j * 2) _ (by rw [← Nat.add_zero (j * 2), flat_at pc_len hlt (by omega)]; rfl))
      have d2 : wr.cell? ⟨b1, o1 + j * 2 + 1, none⟩ = some (.int .i64 L[j].2) := (HBe.out.cell (p := ⟨b1, _, none⟩) hb1).trans (c1 (j * 2 + 1) _ (by rw [flat_at pc_len hlt (by omega)]; rfl))
      clear c1 hS
      generalize hx : L[j] = x at *
      obtain ⟨x, y⟩ := x
      have HX := Lib.hid hx
      clear hx
      dsimp only at d1 d2 HSn
      by_cases hxk : x = k
      · have t2 : (x != k) = false := by simp [hxk]
        have HXK := Lib.hid hxk
        clear hxk
        go_wp2_with fail
        go_roundg (L.length - (j + 1))
        case rel => exact ⟨j + 1, by go_num, by omega, rfl, by rw [HSn.out, if_pos HXK.out]; exact hown, HBe.out⟩
        case measure => have := HG.out; omega
      · have t2 : (x != k) = true := by simp [hxk]
        have HXK := Lib.hid hxk
        clear hxk
        have hown1' := hown.alloc (.cells #[.int .i64 x, .int .i64 y] 65)
        have HK1 := Lib.hid (ownsRow_blk hown)
        clear hown
        go_wp2_with (at_builtin; refine wpList_append_sl _ rfl (.tmp 27) (.tmp 35) 54 rfl w.heap.size 65 i0 (.agg #[.int .i64 0, .int .i64 0]) 2 16 Try.underlying54 hi hz0 hz1 hz2 rfl (by decide) _ _ _ rfl hown1' _ _ _ _ rfl (Sl.one wr 65 (pc (x, y)) 2 rfl) (by simp [Value.oneCell']) ?_ ?_ ?_ ?_)
        · unfold maxLen; omega
        · omega
        · simp; omega
        intro v1 w1 hown1 hgrow1
        have HO := Lib.hid hown1; have HGr := Lib.hid hgrow1
        clear hown1 hgrow1 hown1'
        go_wp2_with fail
        go_roundg (L.length - (j + 1))
        case rel => exact ⟨j + 1, by go_num, by omega, rfl, by rw [HSn.out, if_neg HXK.out]; simpa using HO.out, (HBe.out.alloc hszw _).grown HGr.out (by simp; omega) (fun k e => (HK1.out k e).1)⟩
        case measure => have := HG.out; omega
    · obtain rfl : j = L.length := by omega
      rw [List.take_length] at hown hdl
      have HK := Lib.hid (ownsRow_blk hown)
      obtain ⟨A3, c3, rfl, hS4, hA4⟩ := Sl.of_own hown
      have HL := Lib.hid (del_lt k L)
      have HS4 := Lib.hid hS4; have HA4 := Lib.hid hA4
      have HX4 : Hid (∀ a, A3 = some a → a.block ≠ Bx) := fun a ha e => by
        obtain ⟨_, _, cc, hcc⟩ := ownsRow_blk hown a.block (hA4 a ha).2.1
        rw [e, HB1.out] at hcc; simp at hcc
      clear hS4 hA4 hown hS
      go_wp2_with fail
      go_ret
      refine ⟨A3, c3, ?_, ?_, ?_, fun a ha => ⟨(HA4.out a ha).1, by simpa [World.setCell] using (HA4.out a ha).2.2⟩, ?_⟩
      · rw [← HL.out]; simp
      · exact heap_setCell_same HB1.out _
      · exact HS4.out.fr (Fr.setCell wr ⟨Bx, 0, none⟩ _ (S := (· = Bx)) rfl) (fun a ha e => HX4.out a ha e)
      · exact ((Fr.of_below HBe.out).mono (T := (· = Bx)) (fun i hi h => by omega)).trans (Fr.setCell wr ⟨Bx, 0, none⟩ _ (S := (· = Bx)) rfl) (fun _ _ h => h) (fun _ _ h => h)
end Ref12
end Go.Proofs.Ytolpdgaomlhgdaa
