/- Bags: the walks of their methods. -/
import Derived.Test.YtolpdgaomlhgdaaAvlLII
import Derived.Test.YtolpdgaomlhgdaaBagP
import Derived.Test.YtolpdgaomlhgdaaEng
import Derived.StillTailTactics
import Derived.Deep.DeepCutAuto
namespace Go.Proofs.Ytolpdgaomlhgdaa
open Go.RowKit Go.Shelf
namespace Bag
open BagP

abbrev TBag : TypeId := 76
/-- A bag among the cells c, at off. -/
def BagC (w : World) (c : Array Value) (off : Nat) (L : List (Int × Int)) (F : List Nat) : Prop :=
  ∃ r, c[off]? = some (.pointer r) ∧ c[off + 1]? = some (.int .i64 L.length) ∧ c[off + 2]? = some (.int .i64 (sumL L)) ∧ AvlII.MapIn w r L F ∧ Pos L ∧ sumL L ≤ 4611686018427387904
/-- A bag in block B, at off. -/
def BagIn (w : World) (B off : Nat) (c : Array Value) (TB : TypeId) (L : List (Int × Int)) (F : List Nat) : Prop := Bk w B c TB ∧ BagC w c off L F ∧ B ∉ F
/-- What a method that turns a bag leaves. -/
def BagPost (B off : Nat) (c : Array Value) (TB : TypeId) (L' : List (Int × Int)) (F : List Nat) (w w' : World) : Prop :=
  ∃ c' F', BagIn w' B off c' TB L' F' ∧ c'.size = c.size ∧ (∀ i, i < off ∨ off + 2 < i → c'[i]? = c[i]?) ∧ (∀ x ∈ F', x ∈ F ∨ w.heap.size ≤ x) ∧ Fr (fun x => x = B ∨ x ∈ F) w w'
theorem BagC.fr {S : Nat → Prop} {w w' : World} {c : Array Value} {off : Nat} {L : List (Int × Int)} {F : List Nat} (h : BagC w c off L F) (hf : Fr S w w') (hs : ∀ b ∈ F, ¬ S b) : BagC w' c off L F := by
  obtain ⟨r, h0, h1, h2, hM, h3⟩ := h
  exact ⟨r, h0, h1, h2, hM.fr hf hs, h3⟩
theorem BagIn.fr {S : Nat → Prop} {w w' : World} {B off : Nat} {c : Array Value} {TB : TypeId} {L : List (Int × Int)} {F : List Nat} (h : BagIn w B off c TB L F) (hf : Fr S w w') (hs : ∀ b ∈ B :: F, ¬ S b) : BagIn w' B off c TB L F :=
  ⟨h.1.fr hf (fun b hb => hs b (by simp at hb; simp [hb])), h.2.1.fr hf (fun b hb => hs b (by simp [hb])), h.2.2⟩
theorem BagIn.srt {w : World} {B off : Nat} {c : Array Value} {TB : TypeId} {L : List (Int × Int)} {F : List Nat} (h : BagIn w B off c TB L F) : Srt L := by
  obtain ⟨-, ⟨r, -, -, -, hM, -⟩, -⟩ := h; exact hM.srt
theorem BagIn.pos {w : World} {B off : Nat} {c : Array Value} {TB : TypeId} {L : List (Int × Int)} {F : List Nat} (h : BagIn w B off c TB L F) : Pos L ∧ sumL L ≤ 4611686018427387904 := by
  obtain ⟨-, ⟨r, -, -, -, -, h⟩, -⟩ := h; exact h
theorem BagIn.lt {w : World} {B off : Nat} {c : Array Value} {TB : TypeId} {L : List (Int × Int)} {F : List Nat} (h : BagIn w B off c TB L F) : ∀ b ∈ B :: F, b < w.heap.size := by
  obtain ⟨hB, ⟨r, -, -, -, hM, -⟩, -⟩ := h
  intro b hb
  rcases List.mem_cons.1 hb with rfl | hb
  · exact lt_of_heap hB
  · exact hM.lt b hb
theorem BagIn.mapP {w : World} {B off : Nat} {c : Array Value} {TB : TypeId} {L : List (Int × Int)} {F : List Nat} (h : BagIn w B off c TB L F) : AvlII.MapP w (some ⟨B, off, none⟩) L F := by
  obtain ⟨hB, ⟨r, h0, -, -, hM, -⟩, -⟩ := h
  exact .inr ⟨B, off, r, rfl, (hB.cell off).trans h0, hM⟩

theorem Count_none (x : Int) (w : World) : Calls Try.prog 55 #[.pointer none, .int .i64 x] w fun e w' => e = .returned (.int .i64 0) ∧ w = w' := by
  go_enter Try.func55, Try.ntmps55
  go_wp2
  go_ret
  exact ⟨rfl, rfl⟩
theorem Count (B off : Nat) (c : Array Value) (TB : TypeId) (x : Int) (L : List (Int × Int)) (F : List Nat) (w : World) (h : BagIn w B off c TB L F) :
    Calls Try.prog 55 #[.pointer (some ⟨B, off, none⟩), .int .i64 x] w fun e w' => e = .returned (.int .i64 (cnt x L)) ∧ w = w' := by
  obtain ⟨hB, ⟨r, h0, h1, h2, hM, hp, hm⟩, hn⟩ := h
  have HG := Lib.hid (AvlII.Get_map x B off r L F w hM ((hB.cell off).trans h0))
  unfold AvlII.GetPost at HG
  have HC := Lib.hid (show (getL x L).getD 0 = cnt x L from rfl)
  generalize (getL x L).getD 0 = g at *
  clear hB h0 h1 h2 hM hp hm hn
  go_enter Try.func55, Try.ntmps55
  go_wp2_with fail
  refine HG.out.mono ?_
  rintro e w1 ⟨rfl, rfl⟩
  go_wp2_with fail
  go_ret
  exact ⟨by rw [← HC.out]; rfl, rfl⟩
theorem Len_none (w : World) : Calls Try.prog 53 #[.pointer none] w fun e w' => e = .returned (.int .i64 0) ∧ w = w' := by
  go_enter Try.func53, Try.ntmps53
  go_wp2
  go_ret
  exact ⟨rfl, rfl⟩
theorem Len (B off : Nat) (c : Array Value) (TB : TypeId) (L : List (Int × Int)) (F : List Nat) (w : World) (h : BagIn w B off c TB L F) :
    Calls Try.prog 53 #[.pointer (some ⟨B, off, none⟩)] w fun e w' => e = .returned (.int .i64 (sumL L)) ∧ w = w' := by
  obtain ⟨hB, ⟨r, h0, h1, h2, hM, hp, hm⟩, hn⟩ := h
  have c2 : w.cell? ⟨B, off + 2, none⟩ = some (.int .i64 (sumL L)) := (hB.cell _).trans h2
  clear hB h0 h1 h2 hM hp hm hn
  go_enter Try.func53, Try.ntmps53
  go_wp2
  go_ret
  exact ⟨rfl, rfl⟩
theorem Last_none (w : World) : Calls Try.prog 50 #[.pointer none] w (AvlII.LastPost [] w) := by
  go_enter Try.func50, Try.ntmps50
  go_wp2
  go_ret2
  exact ⟨rfl, rfl⟩
theorem Last (B off : Nat) (c : Array Value) (TB : TypeId) (L : List (Int × Int)) (F : List Nat) (w : World) (h : BagIn w B off c TB L F) :
    Calls Try.prog 50 #[.pointer (some ⟨B, off, none⟩)] w (AvlII.LastPost L w) := by
  obtain ⟨t, rfl, -, hI, ht⟩ := h.mapP.top
  have HL := Lib.hid (AvlII.Last _ t w hI ht)
  clear h hI ht
  unfold AvlII.LastPost at HL ⊢
  generalize (t.toL.getLast?.map (·.1)).getD 0 = g at *
  generalize t.toL.getLast?.isSome = q at *
  go_enter Try.func50, Try.ntmps50
  go_wp2_with fail
  refine HL.out.mono ?_
  rintro e w1 ⟨rfl, rfl⟩
  go_wp2_with fail
  go_ret2
  exact ⟨rfl, rfl⟩

theorem post_of {B off : Nat} {c : Array Value} {TB : TypeId} {L' : List (Int × Int)} {F F' : List Nat} {w w1 w' : World} {s : Int} {r' : Option Addr}
    (h2 : c[off + 2]? = some (.int .i64 s)) (h1 : (c[off + 1]?).isSome = true) (h0 : (c[off]?).isSome = true) (s' : Int)
    (hB : w'.heap[B]? = some (.cells (((c.setIfInBounds (off + 2) (.int .i64 s')).setIfInBounds off (.pointer r')).setIfInBounds (off + 1) (.int .i64 L'.length)) TB (0, 0))) (hM : AvlII.MapIn w' r' L' F') (hs' : s' = sumL L') (hp : Pos L') (hm : sumL L' ≤ 4611686018427387904)
    (hsz : w1.heap.size = w.heap.size) (hF : ∀ x ∈ F', x ∈ F ∨ w1.heap.size ≤ x) (hf0 : Fr (fun x => x = B) w w1) (hf : Fr (fun x => x = B ∨ x ∈ F) w1 w') (hn : B ∉ F) (hlt : B < w.heap.size) : BagPost B off c TB L' F w w' := by
  have g2 : off + 2 < c.size := (Array.getElem?_eq_some_iff.1 h2).1
  have g1 : off + 1 < c.size := by omega
  have g0 : off < c.size := by omega
  refine ⟨_, F', ⟨hB, ⟨r', ?_, ?_, ?_, hM, hp, hm⟩, fun hx => ?_⟩, by simp, fun i hi => ?_, fun x hx => (hF x hx).imp id (fun h => by omega), ?_⟩
  · simp [Array.getElem?_setIfInBounds, g0]
  · simp [Array.getElem?_setIfInBounds, g1]
  · rw [hs']; simp [Array.getElem?_setIfInBounds, g2]
  · rcases hF B hx with h | h
    · exact hn h
    · omega
  · simp only [Array.getElem?_setIfInBounds]
    rw [if_neg (by omega), if_neg (by omega), if_neg (by omega)]
  · exact hf0.trans hf (fun _ _ h => .inl h) (fun _ _ h => h)

set_option maxRecDepth 100000 in
set_option maxHeartbeats 400000 in
theorem set (B off : Nat) (c : Array Value) (TB : TypeId) (x many : Int) (L : List (Int × Int)) (F : List Nat) (w : World) (h : BagIn w B off c TB L F) (hm0 : 0 ≤ many) (hsum : sumL L - cnt x L + many ≤ 4611686018427387904) (sz : L.length < 144115188075855871) :
    Calls Try.prog 95 #[.pointer (some ⟨B, off, none⟩), .int .i64 x, .int .i64 many] w fun e w' => e = .returned (.tuple #[]) ∧ BagPost B off c TB (setL x many L) F w w' := by
  have hcnt := h.pos.1.cnt x
  have hmost := h.pos.2
  have HSum := Lib.hid (sumL_set x many h.srt)
  have HPos := Lib.hid (setL_pos (x := x) (v := many) h.pos.1 hm0)
  have el : Calls Try.prog 55 #[.pointer (some ⟨B, off, none⟩), .int .i64 x] w.drew fun e w' => e = .returned (.int .i64 (cnt x L)) ∧ w' = w.drew := (Count B off c TB x L F w.drew (h.fr (Fr.drew (fun _ => False) w) (fun _ _ h => h))).mono fun e w' ⟨a, b⟩ => ⟨a, b.symm⟩
  obtain ⟨hB, ⟨r, h0, h1, h2, hM, hp, hm⟩, hn⟩ := h
  have c2 : w.drew.cell? ⟨B, off + 2, none⟩ = some (.int .i64 (sumL L)) := (hB.cell _).trans h2
  have cf : w.drew.frozen? ⟨B, off + 2, none⟩ = false := hB.free _
  have hlt := lt_of_heap hB
  have hsn : off + 2 < c.size := (Array.getElem?_eq_some_iff.1 h2).1
  have H0 := Lib.hid h0; have H1 := Lib.hid h1; have H2 := Lib.hid h2; have HM := Lib.hid hM; have HB := Lib.hid hB
  clear h0 h1 h2 hM hp hm hB
  generalize hC : cnt x L = n at *
  generalize hS : sumL L = s at *
  have HC := Lib.hid hC; have HS := Lib.hid hS
  clear hC hS
  have hS : ∃ u, u = Value.int .i64 (s + (many - n)) := ⟨_, rfl⟩
  have hB1 : ((w.setCell ⟨B, off + 2, none⟩ (.int .i64 (s + (many - n)))).drew).heap[B]? = some (.cells (c.setIfInBounds (off + 2) (.int .i64 (s + (many - n)))) TB (0, 0)) := heap_setCell_same HB.out _
  have hf1 : Fr (fun y => y = B) w (w.setCell ⟨B, off + 2, none⟩ (.int .i64 (s + (many - n)))).drew := (Fr.setCell w ⟨B, off + 2, none⟩ _ (S := (· = B)) rfl).trans (Fr.drew (fun _ => False) _) (fun _ _ h => h) (fun _ _ h => h.elim)
  have hM1 := HM.out.fr hf1 (fun b hb e => hn (e ▸ hb))
  have g0 : (c.setIfInBounds (off + 2) (.int .i64 (s + (many - n))))[off]? = some (.pointer r) := by rw [Array.getElem?_setIfInBounds, if_neg (by omega)]; exact H0.out
  have g1 : (c.setIfInBounds (off + 2) (.int .i64 (s + (many - n))))[off + 1]? = some (.int .i64 L.length) := by rw [Array.getElem?_setIfInBounds, if_neg (by omega)]; exact H1.out
  have hsz1 : (w.setCell ⟨B, off + 2, none⟩ (.int .i64 (s + (many - n)))).drew.heap.size = w.heap.size := by simp [World.setCell]
  have HDr := Lib.hid (AvlII.Drop B off _ TB x r L F _ hB1 g0 g1 hM1 hn (by omega))
  have HPu := Lib.hid (AvlII.Put B off _ TB x many r L F _ hB1 g0 g1 hM1 hn (by omega))
  have HF1 := Lib.hid hf1; have HZ1 := Lib.hid hsz1
  clear hS hB1 hf1 hM1 g0 g1 hsz1
  by_cases hz : many = 0
  · have q1 : (many == 0) = true := by simp [hz]
    have HL := Lib.hid (show setL x many L = delL x L by simp [setL, hz])
    have HZ := Lib.hid hz
    clear hz
    go_enter Try.func95, Try.ntmps95
    go_upto_region 0 with (fail)
    refine wp_region_still_tail 12 (by kernel_rfl) (by kernel_rfl) ?_
    simp only [List.take_succ_cons, List.take_zero, List.drop_succ_cons, List.drop_zero]
    change wpStill _ _ w.drew (fun a' => wpList _ _ _ _ a' w.drew) _ _
    iterate 7 still_step
    still_call el
    iterate 4 still_step
    refine wpStill_nil ?_
    clear el
    go_wp2_with fail
    refine HDr.out.mono ?_
    rintro e w2 ⟨r', F', rfl, k1, k2, k3, k4⟩
    have K1 := Lib.hid k1; have K2 := Lib.hid k2; have K3 := Lib.hid k3; have K4 := Lib.hid k4
    clear k1 k2 k3 k4
    go_wp2_with fail
    go_end0
    have hss : s + (many - n) = sumL (setL x many L) := by rw [HSum.out]; have := HC.out; have := HS.out; omega
    refine ⟨rfl, post_of (w1 := (w.setCell ⟨B, off + 2, none⟩ (.int .i64 (s + (many - n)))).drew) H2.out (by rw [H1.out]; rfl) (by rw [H0.out]; rfl) (s + (many - n)) (by rw [HL.out]; exact K1.out) (by rw [HL.out]; exact K2.out) hss HPos.out (by omega) HZ1.out (fun y hy => .inl (K3.out y hy)) HF1.out K4.out hn hlt⟩
  · have q1 : (many == 0) = false := by simp [hz]
    have HL := Lib.hid (show setL x many L = insL x many L by simp [setL, hz])
    clear hz
    go_enter Try.func95, Try.ntmps95
    go_upto_region 0 with (fail)
    refine wp_region_still_tail 12 (by kernel_rfl) (by kernel_rfl) ?_
    simp only [List.take_succ_cons, List.take_zero, List.drop_succ_cons, List.drop_zero]
    change wpStill _ _ w.drew (fun a' => wpList _ _ _ _ a' w.drew) _ _
    iterate 7 still_step
    still_call el
    iterate 4 still_step
    refine wpStill_nil ?_
    clear el
    go_wp2_with fail
    refine HPu.out.mono ?_
    rintro e w2 ⟨r', F', rfl, k1, k2, k3, k4⟩
    have K1 := Lib.hid k1; have K2 := Lib.hid k2; have K3 := Lib.hid k3; have K4 := Lib.hid k4
    clear k1 k2 k3 k4
    go_wp2_with fail
    go_end0
    have hss : s + (many - n) = sumL (setL x many L) := by rw [HSum.out]; have := HC.out; have := HS.out; omega
    refine ⟨rfl, post_of (w1 := (w.setCell ⟨B, off + 2, none⟩ (.int .i64 (s + (many - n)))).drew) H2.out (by rw [H1.out]; rfl) (by rw [H0.out]; rfl) (s + (many - n)) (by rw [HL.out]; exact K1.out) (by rw [HL.out]; exact K2.out) hss HPos.out (by omega) HZ1.out K3.out HF1.out K4.out hn hlt⟩
end Bag
end Go.Proofs.Ytolpdgaomlhgdaa
