/- The document's answer for layer 12: a map as a list of pairs. -/
import Derived.Test.YtolpdgaomlhgdaaRef01
import Derived.Test.YtolpdgaomlhgdaaOrds
import Derived.Test.YtolpdgaomlhgdaaTree2
namespace Go.Proofs.Ytolpdgaomlhgdaa
open Go.RowKit
namespace Ref12

abbrev pc (p : Int × Int) : List Value := [.int .i64 p.1, .int .i64 p.2]
abbrev pcells (L : List (Int × Int)) : List Value := L.flatMap pc
theorem pc_len (p : Int × Int) : (pc p).length = 2 := rfl
theorem pcells_one (L : List (Int × Int)) : ∀ u ∈ pcells L, u.oneCell' = true := by
  intro u hu
  simp only [pcells, List.mem_flatMap, pc, List.mem_cons, List.not_mem_nil, or_false] at hu
  obtain ⟨p, -, rfl | rfl⟩ := hu <;> rfl
theorem infoP : (Try.prog.info? 65).map (fun i => (i.zero, i.size, i.bytes)) = some (some (.agg #[.int .i64 0, .int .i64 0]), 2, 16) := by kernel_rfl

theorem ins_split (k v : Int) : ∀ (L : List (Int × Int)) (j : Nat) (_ : j ≤ L.length), (∀ i (_ : i < j) (h : i < L.length), L[i].1 < k) → (∀ (h : j < L.length), ¬ L[j].1 < k) →
    insL k v L = L.take j ++ (k, v) :: L.drop (if ∃ h : j < L.length, L[j].1 = k then j + 1 else j)
  | [], j, hj, _, _ => by
    obtain rfl : j = 0 := by simpa using hj
    simp [insL]
  | (k', v') :: t, 0, _, _, h2 => by
    have h := h2 (by simp)
    simp only [List.getElem_cons_zero] at h
    by_cases e : k' = k
    · subst e; rw [if_pos ⟨by simp, rfl⟩]; simp [insL, ltInt]
    · rw [if_neg (by rintro ⟨_, h'⟩; exact e h')]
      have : k < k' := by omega
      simp [insL, ltInt, this]
  | (k', v') :: t, j + 1, hj, h1, h2 => by
    have h := h1 0 (by omega) (by simp)
    simp only [List.getElem_cons_zero] at h
    have ih := ins_split k v t j (by simpa using hj) (fun i hi hl => by have := h1 (i + 1) (by omega) (by simpa using hl); simpa using this) (fun hl => by have := h2 (by simpa using hl); simpa using this)
    have e1 : Ord.lt k k' = false := by rw [ltInt]; simp; omega
    have e2 : Ord.lt k' k = true := by rw [ltInt]; simp; omega
    rw [insL, if_neg (by rw [e1]; simp), if_pos e2, ih]
    have : (∃ h : j + 1 < ((k', v') :: t).length, ((k', v') :: t)[j + 1].1 = k) ↔ ∃ h : j < t.length, t[j].1 = k := by
      constructor
      · rintro ⟨h, e⟩; exact ⟨by simpa using h, by simpa using e⟩
      · rintro ⟨h, e⟩; exact ⟨by simpa using h, by simpa using e⟩
    by_cases hx : ∃ h : j < t.length, t[j].1 = k
    · rw [if_pos hx, if_pos (this.2 hx)]; simp
    · rw [if_neg hx, if_neg (fun h => hx (this.1 h))]; simp
theorem has_split (k : Int) (L : List (Int × Int)) (hs : Srt L) (j : Nat) (h1 : ∀ i (_ : i < j) (h : i < L.length), L[i].1 < k) (h2 : ∀ (h : j < L.length), ¬ L[j].1 < k) (hj : j ≤ L.length) :
    hasL k L = decide (∃ h : j < L.length, L[j].1 = k) := by
  rw [Bool.eq_iff_iff, hasL, List.any_eq_true, decide_eq_true_iff]
  constructor
  · rintro ⟨p, hp, he⟩
    obtain ⟨i, hi, rfl⟩ := List.getElem_of_mem hp
    have e := sameK_iff.1 he
    have hij : ¬ i < j := fun h => by have := h1 i h hi; omega
    have hjl : j < L.length := by omega
    refine ⟨hjl, ?_⟩
    have := h2 hjl
    by_cases hij' : i = j
    · subst hij'; exact e.symm
    · have := (List.pairwise_iff_getElem.1 hs) j i hjl hi (by omega)
      rw [ltInt] at this; simp at this; omega
  · rintro ⟨h, e⟩
    exact ⟨L[j], List.getElem_mem h, sameK_iff.2 e.symm⟩

/-- What a call of Put comes to. -/
def PutPost (Bx : Nat) (k v : Int) (L : List (Int × Int)) (w : World) (e : Ending) (w' : World) : Prop :=
  ∃ A' c', e = .returned (.bool (!hasL k L)) ∧ w'.heap[Bx]? = some (.cells #[.slice A' (insL k v L).length c'] 56 (0, 0)) ∧ Sl w' 2 A' (insL k v L).length c' (pcells (insL k v L)) ∧ (∀ a, A' = some a → w.heap.size ≤ a.block ∧ a.block < w'.heap.size) ∧ Fr (· = Bx) w w'

set_option maxRecDepth 100000 in
set_option maxHeartbeats 400000 in
theorem Put (Bx : Nat) (A : Option Addr) (c : Nat) (k v : Int) (L : List (Int × Int)) (w : World) (hB : w.heap[Bx]? = some (.cells #[.slice A L.length c] 56 (0, 0)))
    (hS : Sl w 2 A L.length c (pcells L)) (hA : ∀ a, A = some a → a.block < w.heap.size) (hs : Srt L) (hlen : L.length ≤ 1000000) :
    Calls Try.prog 32 #[.pointer (some ⟨Bx, 0, none⟩), .int .i64 k, .int .i64 v] w (PutPost Bx k v L w) := by
  obtain ⟨i0, hi, hz0, hz1, hz2⟩ := info_parts infoP
  have cB : w.cell? ⟨Bx, 0, none⟩ = some (.slice A L.length c) := cell_of_block hB 0
  have fB := free_of_block hB 0
  have HB := Lib.hid hB; have HS := Lib.hid hS; have HSrt := Lib.hid hs
  have hc1 : L.length ≤ c := hS.2.1
  have hc2 : c ≤ 9223372036854775807 := by have := hS.2.2.1; unfold maxLen at this; omega
  clear hB hs
  go_enter Try.func32, Try.ntmps32
  go_wp2_with fail
  go_loopg [7] L.length (fun gk i wr => w = wr ∧ ∃ j : Nat, i = .int .i64 j ∧ j ≤ L.length ∧ gk = L.length - j ∧ ∀ i (_ : i < j) (h : i < L.length), L[i].1 < k)
  case atStart => exact ⟨rfl, 0, rfl, Nat.zero_le _, rfl, fun i h => by omega⟩
  case round =>
    obtain ⟨rfl, j, rfl, hj, hg, hlow⟩ := hrel
    have HG := Lib.hid hg; have HLow := Lib.hid hlow
    clear hg hlow
    by_cases hlt : j < L.length
    · obtain ⟨b1, o1, rfl, -, c1⟩ := hS.at hlt (by omega)
      have d1 : w.cell? ⟨b1, o1 + j * 2, none⟩ = some (.int .i64 L[j].1) := c1 (j * 2) _ (by rw [← Nat.add_zero (j * 2), flat_at pc_len hlt (by omega)]; rfl)
      clear c1 hS
      generalize hx : L[j].1 = x at *
      have HX := Lib.hid hx
      clear hx
      by_cases hxk : x < k
      · go_wp2_with fail
        go_roundg (L.length - (j + 1))
        case rel =>
          refine ⟨rfl, j + 1, by go_num, by omega, rfl, fun i hi h => ?_⟩
          rcases Nat.lt_succ_iff_lt_or_eq.1 hi with hi | rfl
          · exact HLow.out i hi h
          · rw [HX.out]; exact hxk
        case measure => have := HG.out; omega
      · by_cases hxe : x = k
        · have t2 : (x == k) = true := by simp [hxe]
          have HFin : Hid (insL k v L = L.take j ++ (k, v) :: L.drop (j + 1)) := by
            have := ins_split k v L j hj HLow.out (fun _ => by rw [HX.out]; exact hxk)
            rwa [if_pos ⟨hlt, by rw [HX.out, hxe]⟩] at this
          have HHas : Hid (hasL k L = true) := by
            rw [has_split k L HSrt.out j HLow.out (fun _ => by rw [HX.out]; exact hxk) hj]
            exact decide_eq_true ⟨hlt, by rw [HX.out, hxe]⟩
          clear hxe
          have hS1 := (HS.out.take (k := j) hj)
          rw [flat_take pc_len] at hS1
          go_wp2_with (at_builtin; refine wpList_append_sl _ rfl (.tmp 50) (.tmp 56) 54 rfl w.heap.size 65 i0 (.agg #[.int .i64 0, .int .i64 0]) 2 16 Try.underlying54 hi hz0 hz1 hz2 rfl (by decide) _ _ _ rfl (World.ownsRow_nil _ _ _ _) _ _ _ _ rfl hS1 (pcells_one _) ?_ ?_ (Nat.le_refl _) ?_)
          · unfold maxLen; omega
          · omega
          intro v1 w1 hown1 hgrow1
          have hb1 : Below w.heap.size w w1 := (Below.refl _ _).grown hgrow1 (Nat.le_refl _) (fun k e => by simp [Value.ownBlock] at e)
          have hown1' := hown1.alloc (.cells #[.int .i64 k, .int .i64 v] 65)
          have hbk1 := ownsRow_blk hown1
          have HB1 := Lib.hid hb1; have HK1 := Lib.hid hbk1; have HG1 := Lib.hid hgrow1
          have hsz1 : w.heap.size ≤ w1.heap.size := hb1.size
          clear hb1 hbk1 hgrow1 hown1
          go_wp2_with (at_builtin; refine wpList_append_sl _ rfl (.tmp 58) (.tmp 62) 54 rfl w.heap.size 65 i0 (.agg #[.int .i64 0, .int .i64 0]) 2 16 Try.underlying54 hi hz0 hz1 hz2 rfl (by decide) _ _ _ rfl hown1' _ _ _ _ rfl (Sl.one w1 65 (pc (k, v)) 2 rfl) (by simp [Value.oneCell']) ?_ ?_ ?_ ?_)
          · unfold maxLen; omega
          · omega
          · simp; omega
          intro v2 w2 hown2 hgrow2
          have hb2 : Below w.heap.size w w2 := (HB1.out.alloc hsz1 _).grown hgrow2 (by simp; omega) (fun k e => (HK1.out k e).1)
          have hbk2 := ownsRow_blk hown2
          have cB2 : w2.cell? ⟨Bx, 0, none⟩ = some (.slice (some ⟨b1, o1, none⟩) L.length c) := (hb2.cell (p := ⟨Bx, 0, none⟩) (lt_of_heap HB.out)).trans cB
          have fB2 : w2.frozen? ⟨Bx, 0, none⟩ = false := (hb2.frozen (p := ⟨Bx, 0, none⟩) (lt_of_heap HB.out)).trans fB
          have hS3 := (HS.out.below hb2 hA).drop (k := j + 1) (by omega)
          rw [flat_drop pc_len] at hS3
          have HB2 := Lib.hid hb2; have HK2 := Lib.hid hbk2
          have hsz2 : w.heap.size ≤ w2.heap.size := hb2.size
          clear hb2 hbk2 hgrow2 hown1' HB1 HK1 HG1 hsz1
          go_wp2_with (at_builtin; refine wpList_append_sl _ rfl (.tmp 68) (.tmp 74) 54 rfl w.heap.size 65 i0 (.agg #[.int .i64 0, .int .i64 0]) 2 16 Try.underlying54 hi hz0 hz1 hz2 rfl (by decide) _ _ _ rfl hown2 _ _ _ _ ?_ hS3 (pcells_one _) ?_ ?_ ?_ ?_)
          any_goals (unfold maxLen; omega)
          any_goals omega
          all_goals
            intro v3 w3 hown3 hgrow3
            have hb3 : Below w.heap.size w w3 := HB2.out.grown hgrow3 hsz2 (fun k e => (HK2.out k e).1)
            have hB3 := (hb3.block Bx (lt_of_heap HB.out)).trans HB.out
            obtain ⟨A3, c3, rfl, hS4, hA4⟩ := Sl.of_own hown3
            have cB3 := cell_of_block hB3 0
            have fB3 := free_of_block hB3 0
            have HB3 := Lib.hid hB3; have HBe := Lib.hid hb3; have HS4 := Lib.hid hS4; have HA4 := Lib.hid hA4
            have HX4 : Hid (∀ a, A3 = some a → a.block ≠ Bx) := fun a ha e => by
              obtain ⟨_, _, cc, hcc⟩ := ownsRow_blk hown3 a.block (hA4 a ha).2.1
              rw [e, hB3] at hcc; simp at hcc
            clear hB3 hb3 hS4 hA4 hgrow3 hown3 hown2 hS3 hS1
            go_wp2_with fail
            go_ret
            have hlen' : (insL k v L).length = j + 1 + (L.length - (j + 1)) := by rw [HFin.out]; simp; omega
            have hcs : pcells (insL k v L) = List.flatMap pc (List.take j L) ++ pc (k, v) ++ List.flatMap pc (List.drop (j + 1) L) := by rw [HFin.out]; simp [pcells]
            refine ⟨A3, c3, ?_, ?_, ?_, fun a ha => ⟨(HA4.out a ha).1, by simpa [World.setCell] using (HA4.out a ha).2.2⟩, ?_⟩
            · rw [HHas.out]; rfl
            · refine (heap_setCell_same HB3.out _).trans ?_
              rw [hlen']; rfl
            · have := HS4.out.fr (Fr.setCell w3 ⟨Bx, 0, none⟩ (.slice A3 (j + 1 + (L.length - (j + 1))) c3) (S := (· = Bx)) rfl) (fun a ha e => HX4.out a ha e)
              rw [hlen', hcs]; simpa [List.append_assoc] using this
            · exact ((Fr.of_below HBe.out).mono (T := (· = Bx)) (fun i hi h => by omega)).trans (Fr.setCell w3 ⟨Bx, 0, none⟩ _ (S := (· = Bx)) rfl) (fun _ _ h => h) (fun _ _ h => h)
        · have t2 : (x == k) = false := by simp [hxe]
          have HFin : Hid (insL k v L = L.take j ++ (k, v) :: L.drop j) := by
            have := ins_split k v L j hj HLow.out (fun _ => by rw [HX.out]; exact hxk)
            rwa [if_neg (by rintro ⟨_, h⟩; rw [HX.out] at h; exact hxe h)] at this
          have HHas : Hid (hasL k L = false) := by
            rw [has_split k L HSrt.out j HLow.out (fun _ => by rw [HX.out]; exact hxk) hj]
            exact decide_eq_false (by rintro ⟨_, h⟩; rw [HX.out] at h; exact hxe h)
          clear hxe
          have hS1 := (HS.out.take (k := j) hj)
          rw [flat_take pc_len] at hS1
          go_wp2_with (at_builtin; refine wpList_append_sl _ rfl (.tmp 50) (.tmp 56) 54 rfl w.heap.size 65 i0 (.agg #[.int .i64 0, .int .i64 0]) 2 16 Try.underlying54 hi hz0 hz1 hz2 rfl (by decide) _ _ _ rfl (World.ownsRow_nil _ _ _ _) _ _ _ _ rfl hS1 (pcells_one _) ?_ ?_ (Nat.le_refl _) ?_)
          · unfold maxLen; omega
          · omega
          intro v1 w1 hown1 hgrow1
          have hb1 : Below w.heap.size w w1 := (Below.refl _ _).grown hgrow1 (Nat.le_refl _) (fun k e => by simp [Value.ownBlock] at e)
          have hown1' := hown1.alloc (.cells #[.int .i64 k, .int .i64 v] 65)
          have hbk1 := ownsRow_blk hown1
          have HB1 := Lib.hid hb1; have HK1 := Lib.hid hbk1; have HG1 := Lib.hid hgrow1
          have hsz1 : w.heap.size ≤ w1.heap.size := hb1.size
          clear hb1 hbk1 hgrow1 hown1
          go_wp2_with (at_builtin; refine wpList_append_sl _ rfl (.tmp 58) (.tmp 62) 54 rfl w.heap.size 65 i0 (.agg #[.int .i64 0, .int .i64 0]) 2 16 Try.underlying54 hi hz0 hz1 hz2 rfl (by decide) _ _ _ rfl hown1' _ _ _ _ rfl (Sl.one w1 65 (pc (k, v)) 2 rfl) (by simp [Value.oneCell']) ?_ ?_ ?_ ?_)
          · unfold maxLen; omega
          · omega
          · simp; omega
          intro v2 w2 hown2 hgrow2
          have hb2 : Below w.heap.size w w2 := (HB1.out.alloc hsz1 _).grown hgrow2 (by simp; omega) (fun k e => (HK1.out k e).1)
          have hbk2 := ownsRow_blk hown2
          have cB2 : w2.cell? ⟨Bx, 0, none⟩ = some (.slice (some ⟨b1, o1, none⟩) L.length c) := (hb2.cell (p := ⟨Bx, 0, none⟩) (lt_of_heap HB.out)).trans cB
          have fB2 : w2.frozen? ⟨Bx, 0, none⟩ = false := (hb2.frozen (p := ⟨Bx, 0, none⟩) (lt_of_heap HB.out)).trans fB
          have hS3 := (HS.out.below hb2 hA).drop (k := j) (by omega)
          rw [flat_drop pc_len] at hS3
          have HB2 := Lib.hid hb2; have HK2 := Lib.hid hbk2
          have hsz2 : w.heap.size ≤ w2.heap.size := hb2.size
          clear hb2 hbk2 hgrow2 hown1' HB1 HK1 HG1 hsz1
          go_wp2_with (at_builtin; refine wpList_append_sl _ rfl (.tmp 68) (.tmp 74) 54 rfl w.heap.size 65 i0 (.agg #[.int .i64 0, .int .i64 0]) 2 16 Try.underlying54 hi hz0 hz1 hz2 rfl (by decide) _ _ _ rfl hown2 _ _ _ _ ?_ hS3 (pcells_one _) ?_ ?_ ?_ ?_)
          any_goals (unfold maxLen; omega)
          any_goals omega
          all_goals
            intro v3 w3 hown3 hgrow3
            have hb3 : Below w.heap.size w w3 := HB2.out.grown hgrow3 hsz2 (fun k e => (HK2.out k e).1)
            have hB3 := (hb3.block Bx (lt_of_heap HB.out)).trans HB.out
            obtain ⟨A3, c3, rfl, hS4, hA4⟩ := Sl.of_own hown3
            have cB3 := cell_of_block hB3 0
            have fB3 := free_of_block hB3 0
            have HB3 := Lib.hid hB3; have HBe := Lib.hid hb3; have HS4 := Lib.hid hS4; have HA4 := Lib.hid hA4
            have HX4 : Hid (∀ a, A3 = some a → a.block ≠ Bx) := fun a ha e => by
              obtain ⟨_, _, cc, hcc⟩ := ownsRow_blk hown3 a.block (hA4 a ha).2.1
              rw [e, hB3] at hcc; simp at hcc
            clear hB3 hb3 hS4 hA4 hgrow3 hown3 hown2 hS3 hS1
            go_wp2_with fail
            go_ret
            have hlen' : (insL k v L).length = j + 1 + (L.length - (j)) := by rw [HFin.out]; simp; omega
            have hcs : pcells (insL k v L) = List.flatMap pc (List.take j L) ++ pc (k, v) ++ List.flatMap pc (List.drop (j) L) := by rw [HFin.out]; simp [pcells]
            refine ⟨A3, c3, ?_, ?_, ?_, fun a ha => ⟨(HA4.out a ha).1, by simpa [World.setCell] using (HA4.out a ha).2.2⟩, ?_⟩
            · rw [HHas.out]; rfl
            · refine (heap_setCell_same HB3.out _).trans ?_
              rw [hlen']; rfl
            · have := HS4.out.fr (Fr.setCell w3 ⟨Bx, 0, none⟩ (.slice A3 (j + 1 + (L.length - (j))) c3) (S := (· = Bx)) rfl) (fun a ha e => HX4.out a ha e)
              rw [hlen', hcs]; simpa [List.append_assoc] using this
            · exact ((Fr.of_below HBe.out).mono (T := (· = Bx)) (fun i hi h => by omega)).trans (Fr.setCell w3 ⟨Bx, 0, none⟩ _ (S := (· = Bx)) rfl) (fun _ _ h => h) (fun _ _ h => h)
    · clear hS
      have HFin : Hid (insL k v L = L.take j ++ (k, v) :: L.drop j) := by
        have := ins_split k v L j hj HLow.out (fun h => absurd h hlt)
        rwa [if_neg (by rintro ⟨h, _⟩; exact hlt h)] at this
      have HHas : Hid (hasL k L = false) := by
        rw [has_split k L HSrt.out j HLow.out (fun h => absurd h hlt) hj]
        exact decide_eq_false (by rintro ⟨h, _⟩; exact hlt h)
      have hS1 := (HS.out.take (k := j) hj)
      rw [flat_take pc_len] at hS1
      go_wp2_with (at_builtin; refine wpList_append_sl _ rfl (.tmp 50) (.tmp 56) 54 rfl w.heap.size 65 i0 (.agg #[.int .i64 0, .int .i64 0]) 2 16 Try.underlying54 hi hz0 hz1 hz2 rfl (by decide) _ _ _ rfl (World.ownsRow_nil _ _ _ _) _ _ _ _ rfl hS1 (pcells_one _) ?_ ?_ (Nat.le_refl _) ?_)
      · unfold maxLen; omega
      · omega
      intro v1 w1 hown1 hgrow1
      have hb1 : Below w.heap.size w w1 := (Below.refl _ _).grown hgrow1 (Nat.le_refl _) (fun k e => by simp [Value.ownBlock] at e)
      have hown1' := hown1.alloc (.cells #[.int .i64 k, .int .i64 v] 65)
      have hbk1 := ownsRow_blk hown1
      have HB1 := Lib.hid hb1; have HK1 := Lib.hid hbk1; have HG1 := Lib.hid hgrow1
      have hsz1 : w.heap.size ≤ w1.heap.size := hb1.size
      clear hb1 hbk1 hgrow1 hown1
      go_wp2_with (at_builtin; refine wpList_append_sl _ rfl (.tmp 58) (.tmp 62) 54 rfl w.heap.size 65 i0 (.agg #[.int .i64 0, .int .i64 0]) 2 16 Try.underlying54 hi hz0 hz1 hz2 rfl (by decide) _ _ _ rfl hown1' _ _ _ _ rfl (Sl.one w1 65 (pc (k, v)) 2 rfl) (by simp [Value.oneCell']) ?_ ?_ ?_ ?_)
      · unfold maxLen; omega
      · omega
      · simp; omega
      intro v2 w2 hown2 hgrow2
      have hb2 : Below w.heap.size w w2 := (HB1.out.alloc hsz1 _).grown hgrow2 (by simp; omega) (fun k e => (HK1.out k e).1)
      have hbk2 := ownsRow_blk hown2
      have cB2 : w2.cell? ⟨Bx, 0, none⟩ = some (.slice A L.length c) := (hb2.cell (p := ⟨Bx, 0, none⟩) (lt_of_heap HB.out)).trans cB
      have fB2 : w2.frozen? ⟨Bx, 0, none⟩ = false := (hb2.frozen (p := ⟨Bx, 0, none⟩) (lt_of_heap HB.out)).trans fB
      have hS3 := (HS.out.below hb2 hA).drop (k := j) (by omega)
      rw [flat_drop pc_len] at hS3
      have HB2 := Lib.hid hb2; have HK2 := Lib.hid hbk2
      have hsz2 : w.heap.size ≤ w2.heap.size := hb2.size
      clear hb2 hbk2 hgrow2 hown1' HB1 HK1 HG1 hsz1
      go_wp2_with (at_builtin; refine wpList_append_sl _ rfl (.tmp 68) (.tmp 74) 54 rfl w.heap.size 65 i0 (.agg #[.int .i64 0, .int .i64 0]) 2 16 Try.underlying54 hi hz0 hz1 hz2 rfl (by decide) _ _ _ rfl hown2 _ _ _ _ ?_ hS3 (pcells_one _) ?_ ?_ ?_ ?_)
      any_goals (unfold maxLen; omega)
      any_goals omega
      all_goals
        intro v3 w3 hown3 hgrow3
        have hb3 : Below w.heap.size w w3 := HB2.out.grown hgrow3 hsz2 (fun k e => (HK2.out k e).1)
        have hB3 := (hb3.block Bx (lt_of_heap HB.out)).trans HB.out
        obtain ⟨A3, c3, rfl, hS4, hA4⟩ := Sl.of_own hown3
        have cB3 := cell_of_block hB3 0
        have fB3 := free_of_block hB3 0
        have HB3 := Lib.hid hB3; have HBe := Lib.hid hb3; have HS4 := Lib.hid hS4; have HA4 := Lib.hid hA4
        have HX4 : Hid (∀ a, A3 = some a → a.block ≠ Bx) := fun a ha e => by
          obtain ⟨_, _, cc, hcc⟩ := ownsRow_blk hown3 a.block (hA4 a ha).2.1
          rw [e, hB3] at hcc; simp at hcc
        clear hB3 hb3 hS4 hA4 hgrow3 hown3 hown2 hS3 hS1
        go_wp2_with fail
        go_ret
        have hlen' : (insL k v L).length = j + 1 + (L.length - (j)) := by rw [HFin.out]; simp; omega
        have hcs : pcells (insL k v L) = List.flatMap pc (List.take j L) ++ pc (k, v) ++ List.flatMap pc (List.drop (j) L) := by rw [HFin.out]; simp [pcells]
        refine ⟨A3, c3, ?_, ?_, ?_, fun a ha => ⟨(HA4.out a ha).1, by simpa [World.setCell] using (HA4.out a ha).2.2⟩, ?_⟩
        · rw [HHas.out]; rfl
        · refine (heap_setCell_same HB3.out _).trans ?_
          rw [hlen']; rfl
        · have := HS4.out.fr (Fr.setCell w3 ⟨Bx, 0, none⟩ (.slice A3 (j + 1 + (L.length - (j))) c3) (S := (· = Bx)) rfl) (fun a ha e => HX4.out a ha e)
          rw [hlen', hcs]; simpa [List.append_assoc] using this
        · exact ((Fr.of_below HBe.out).mono (T := (· = Bx)) (fun i hi h => by omega)).trans (Fr.setCell w3 ⟨Bx, 0, none⟩ _ (S := (· = Bx)) rfl) (fun _ _ h => h) (fun _ _ h => h)
end Ref12
end Go.Proofs.Ytolpdgaomlhgdaa
