/- The maps in order (avl) at one instance: the map's methods that change or look. -/
import Derived.Test.YtkhhdadlpilbmaaAvlESI
import Derived.Deep.LoopGhost
namespace Go.Proofs.Ytkhhdadlpilbmaa
open Go.RowKit
namespace AvlSI

/-- A map in the heap: r is its root, L its pairs in order, F its blocks. -/
def MapIn (w : World) (r : Option Addr) (L : List (ByteArray × Int)) (F : List Nat) : Prop :=
  ∃ t : AT ByteArray Int, t.adr = r ∧ t.toL = L ∧ t.fp = F ∧ In w t ∧ F.Nodup ∧ t.wd ∧ t.bal ∧ Srt L
theorem MapIn.fr {S : Nat → Prop} {w w' : World} {r : Option Addr} {L : List (ByteArray × Int)} {F : List Nat} (h : MapIn w r L F) (hf : Fr S w w') (hs : ∀ b ∈ F, ¬ S b) : MapIn w' r L F := by
  obtain ⟨t, h1, h2, h3, h4, h5⟩ := h
  exact ⟨t, h1, h2, h3, In.fr h4 hf (by rw [h3]; exact hs), h5⟩
theorem MapIn.lt {w : World} {r : Option Addr} {L : List (ByteArray × Int)} {F : List Nat} (h : MapIn w r L F) : ∀ b ∈ F, b < w.heap.size := by
  obtain ⟨t, h1, h2, rfl, h4, h5⟩ := h
  exact In.lt h4
theorem MapIn.srt {w : World} {r : Option Addr} {L : List (ByteArray × Int)} {F : List Nat} (h : MapIn w r L F) : Srt L := by
  obtain ⟨t, -, -, -, -, -, -, -, h⟩ := h
  exact h
theorem MapIn.nil (w : World) : MapIn w none [] [] := ⟨.nil, rfl, rfl, rfl, trivial, List.nodup_nil, trivial, trivial, List.Pairwise.nil⟩

theorem insL_length (k : ByteArray) (v : Int) (n : Nat) {t : AT ByteArray Int} (hs : Srt t.toL) : (insL k v t.toL).length = if (AT.put n k v t).2 then t.toL.length + 1 else t.toL.length := by
  have h1 := (AT.toL_put n k v hs).1
  have h2 := (AT.perm_put n k v t).length_eq
  rw [← h1, AT.toL_length, AT.toL_length, ← AT.fp_length, ← AT.fp_length, h2]
  split <;> simp
theorem delL_length (k : ByteArray) {t : AT ByteArray Int} (hs : Srt t.toL) : (delL k t.toL).length = if (AT.drop k t).2 then t.toL.length - 1 else t.toL.length := by
  rw [(AT.toL_drop k hs).2]
  generalize t.toL = l at hs
  induction l with
  | nil => simp [delL, hasL]
  | cons p l ih =>
    rw [delL_cons, hasL_cons]
    cases h : sameK k p.1 with
    | true =>
      have hn : ∀ q ∈ l, sameK k q.1 = false := fun q hq => by
        have h1 := (List.pairwise_cons.1 hs).1 q hq
        rw [sameK_iff.1 h]
        simp [sameK, h1]
      rw [if_pos rfl, delL_none hn]; simp
    | false =>
      rw [if_neg (by simp), List.length_cons, ih hs.tail, Bool.false_or]
      cases h2 : hasL k l with
      | true =>
        have : 0 < l.length := by cases l with | nil => simp [hasL] at h2 | cons => simp
        simp; omega
      | false => simp

/-- What a call of Put comes to. -/
def PutMPost (B off : Nat) (c : Array Value) (TB : TypeId) (k : ByteArray) (v : Int) (L : List (ByteArray × Int)) (F : List Nat) (w : World) (e : Ending) (w' : World) : Prop :=
  ∃ (r' : Option Addr) (F' : List Nat), e = .returned (.bool (!hasL k L)) ∧ w'.heap[B]? = some (.cells ((c.setIfInBounds off (.pointer r')).setIfInBounds (off + 1) (.int .i64 (insL k v L).length)) TB (0, 0)) ∧
    MapIn w' r' (insL k v L) F' ∧ (∀ x ∈ F', x ∈ F ∨ w.heap.size ≤ x) ∧ Fr (fun x => x = B ∨ x ∈ F) w w'

theorem set_same {c : Array Value} {i : Nat} {u : Value} (h : c[i]? = some u) : c.setIfInBounds i u = c := by
  apply Array.ext_getElem?
  intro j
  rw [Array.getElem?_setIfInBounds]
  split
  · rename_i e; subst e; split
    · exact h.symm
    · rename_i hn; rw [Array.getElem?_eq_none (by omega)] at h; cases h
  · rfl

set_option maxRecDepth 100000 in
theorem Put (B off : Nat) (c : Array Value) (TB : TypeId) (k : ByteArray) (v : Int) (r : Option Addr) (L : List (ByteArray × Int)) (F : List Nat) (w : World)
    (hB : w.heap[B]? = some (.cells c TB (0, 0))) (h0 : c[off]? = some (.pointer r)) (h1 : c[off + 1]? = some (.int .i64 L.length)) (hM : MapIn w r L F) (hBF : B ∉ F) (sz : L.length < 144115188075855872) :
    Calls Try.prog 70 #[.pointer (some ⟨B, off, none⟩), .string k, .int .i64 v] w (PutMPost B off c TB k v L F w) := by
  obtain ⟨t, rfl, rfl, rfl, hI, nd, wd, bal, srt⟩ := hM
  have HC := Lib.hid (put k v t w hI nd wd (by rw [AT.toL_length] at sz; omega))
  have hlen := insL_length k v w.heap.size srt
  have hfp := put_nodup w.heap.size k v nd (In.lt hI)
  have hto := AT.toL_put w.heap.size k v srt
  have hwd : (AT.put w.heap.size k v t).1.wd := AT.wd_put _ k v wd
  have hbal := (AT.bal_put w.heap.size k v wd bal).1
  have hsrt := (srt_insL (k := k) v srt).1
  have c0 : w.cell? ⟨B, off, none⟩ = some (.pointer t.adr) := (cell_of_block hB off).trans h0
  have c1 : w.cell? ⟨B, off + 1, none⟩ = some (.int .i64 t.toL.length) := (cell_of_block hB (off + 1)).trans h1
  have cf := free_of_block hB
  have hBw := lt_of_heap hB
  unfold PutPost at HC
  generalize (AT.put w.heap.size k v t).1 = t' at *
  generalize (AT.put w.heap.size k v t).2 = q at *
  have HL := Lib.hid hlen; have HP := Lib.hid hfp; have HT := Lib.hid hto; have HW := Lib.hid hwd; have HBal := Lib.hid hbal; have HS := Lib.hid hsrt; have HB := Lib.hid hB
  have H1 := Lib.hid h1
  clear hlen hfp hto hwd hbal hsrt hB h0 h1 hI wd bal srt nd
  go_enter Try.func70, Try.ntmps70
  go_wp2_with fail
  refine HC.out.mono ?_
  rintro e w1 ⟨rfl, hI1, hF⟩
  have hB1 := (hF.block B hBw hBF).trans HB.out
  have c1' : w1.cell? ⟨B, off + 1, none⟩ = some (.int .i64 t.toL.length) := (cell_of_block hB1 (off + 1)).trans H1.out
  have c0' : w1.cell? ⟨B, off, none⟩ = some (.pointer t.adr) := by rw [cell_of_block hB1, ← cell_of_block HB.out, c0]
  have cf' := free_of_block hB1
  have HB1 := Lib.hid hB1; have HF1 := Lib.hid hF; have HI1 := Lib.hid hI1
  have hBt : B ∉ t'.fp := fun x => by rcases HP.out.2 B x with e | e; omega; exact hBF e
  clear hB1 hF hI1 c0 c1 cf
  cases q with
  | true =>
    go_wp2_with fail
    go_ret
    have hlen : (insL k v t.toL).length = t.toL.length + 1 := by simpa using HL.out
    refine ⟨t'.adr, t'.fp, ?_, ?_, ⟨t', rfl, HT.out.1, rfl, In.fr HI1.out ((Fr.setCell w1 ⟨B, off, none⟩ _ (S := (· = B)) rfl).trans (Fr.setCell _ ⟨B, off + 1, none⟩ _ (S := (· = B)) rfl) (T := (· = B)) (fun _ _ h => h) (fun _ _ h => h)) (fun x hx e => hBt (e ▸ hx)), HP.out.1, HW.out, HBal.out, HS.out⟩, ?_, ?_⟩
    · rw [← HT.out.2]; rfl
    · refine (heap_setCell_same (heap_setCell_same HB1.out _) _).trans ?_
      rw [hlen]; rfl
    · intro x hx
      rcases HP.out.2 x hx with e | e
      · exact .inr (by omega)
      · exact .inl e
    · exact (HF1.out.trans (Fr.setCell w1 ⟨B, off, none⟩ _ (S := (· = B)) rfl) (T := fun x => x = B ∨ x ∈ t.fp) (fun _ _ h => .inr h) (fun _ _ h => .inl h)).trans (Fr.setCell _ ⟨B, off + 1, none⟩ _ (S := (· = B)) rfl) (fun _ _ h => h) (fun _ _ h => .inl h)
  | false =>
    go_wp2_with fail
    go_ret
    have hlen : (insL k v t.toL).length = t.toL.length := by simpa using HL.out
    refine ⟨t'.adr, t'.fp, ?_, ?_, ⟨t', rfl, HT.out.1, rfl, In.fr HI1.out (Fr.setCell w1 ⟨B, off, none⟩ _ (S := (· = B)) rfl) (fun x hx e => hBt (e ▸ hx)), HP.out.1, HW.out, HBal.out, HS.out⟩, ?_, ?_⟩
    · rw [← HT.out.2]; rfl
    · refine (heap_setCell_same HB1.out _).trans ?_
      rw [hlen, set_same (i := off + 1)]
      rw [Array.getElem?_setIfInBounds, if_neg (by omega)]
      exact H1.out
    · intro x hx
      rcases HP.out.2 x hx with e | e
      · exact .inr (by omega)
      · exact .inl e
    · exact HF1.out.trans (Fr.setCell w1 ⟨B, off, none⟩ _ (S := (· = B)) rfl) (fun _ _ h => .inr h) (fun _ _ h => .inl h)

theorem Put_none (k : ByteArray) (v : Int) (w : World) : Calls Try.prog 70 #[.pointer none, .string k, .int .i64 v] w fun e w' => e = .returned (.bool false) ∧ w = w' := by
  go_enter Try.func70, Try.ntmps70
  go_wp2_with fail
  go_ret
  exact ⟨rfl, rfl⟩

/-- What a call of Drop comes to. -/
def DropMPost (B off : Nat) (c : Array Value) (TB : TypeId) (k : ByteArray) (L : List (ByteArray × Int)) (F : List Nat) (w : World) (e : Ending) (w' : World) : Prop :=
  ∃ (r' : Option Addr) (F' : List Nat), e = .returned (.bool (hasL k L)) ∧ w'.heap[B]? = some (.cells ((c.setIfInBounds off (.pointer r')).setIfInBounds (off + 1) (.int .i64 (delL k L).length)) TB (0, 0)) ∧
    MapIn w' r' (delL k L) F' ∧ (∀ x ∈ F', x ∈ F) ∧ Fr (fun x => x = B ∨ x ∈ F) w w'

set_option maxRecDepth 100000 in
theorem Drop (B off : Nat) (c : Array Value) (TB : TypeId) (k : ByteArray) (r : Option Addr) (L : List (ByteArray × Int)) (F : List Nat) (w : World)
    (hB : w.heap[B]? = some (.cells c TB (0, 0))) (h0 : c[off]? = some (.pointer r)) (h1 : c[off + 1]? = some (.int .i64 L.length)) (hM : MapIn w r L F) (hBF : B ∉ F) (sz : L.length < 144115188075855872) :
    Calls Try.prog 64 #[.pointer (some ⟨B, off, none⟩), .string k] w (DropMPost B off c TB k L F w) := by
  obtain ⟨t, rfl, rfl, rfl, hI, nd, wd, bal, srt⟩ := hM
  have HC := Lib.hid (drop k t w hI nd wd (by rw [AT.toL_length] at sz; omega))
  have hlen := delL_length k srt
  have hfp := AT.sub_drop k nd
  have hto := AT.toL_drop k srt
  have hwd : (AT.drop k t).1.wd := AT.wd_drop k wd
  have hbal := (AT.bal_drop k wd bal).1
  have hsrt := srt_delL k srt
  have c0 : w.cell? ⟨B, off, none⟩ = some (.pointer t.adr) := (cell_of_block hB off).trans h0
  have c1 : w.cell? ⟨B, off + 1, none⟩ = some (.int .i64 t.toL.length) := (cell_of_block hB (off + 1)).trans h1
  have cf := free_of_block hB
  have hBw := lt_of_heap hB
  unfold DropPost at HC
  generalize (AT.drop k t).1 = t' at *
  generalize (AT.drop k t).2 = q at *
  have HL := Lib.hid hlen; have HP := Lib.hid hfp; have HT := Lib.hid hto; have HW := Lib.hid hwd; have HBal := Lib.hid hbal; have HS := Lib.hid hsrt; have HB := Lib.hid hB
  have H1 := Lib.hid h1
  clear hlen hfp hto hwd hbal hsrt hB h0 h1 hI wd bal srt nd
  go_enter Try.func64, Try.ntmps64
  go_wp2_with fail
  refine HC.out.mono ?_
  rintro e w1 ⟨rfl, hI1, hF⟩
  have hB1 := (hF.block B hBw hBF).trans HB.out
  have c1' : w1.cell? ⟨B, off + 1, none⟩ = some (.int .i64 t.toL.length) := (cell_of_block hB1 (off + 1)).trans H1.out
  have c0' : w1.cell? ⟨B, off, none⟩ = some (.pointer t.adr) := by rw [cell_of_block hB1, ← cell_of_block HB.out, c0]
  have cf' := free_of_block hB1
  have HB1 := Lib.hid hB1; have HF1 := Lib.hid hF; have HI1 := Lib.hid hI1
  have hBt : B ∉ t'.fp := fun x => hBF (HP.out.2 B x)
  clear hB1 hF hI1 c0 c1 cf
  have hpos : q = true → 0 < t.toL.length := fun e => by
    have := HT.out.2; rw [e] at this
    cases h : t.toL with
    | nil => rw [h] at this; simp [hasL] at this
    | cons => simp
  cases q with
  | true =>
    have hpos' := hpos rfl
    clear hpos
    go_wp2_with fail
    go_ret
    have hlen : (delL k t.toL).length = t.toL.length - 1 := by simpa using HL.out
    refine ⟨t'.adr, t'.fp, ?_, ?_, ⟨t', rfl, HT.out.1, rfl, In.fr HI1.out ((Fr.setCell w1 ⟨B, off, none⟩ _ (S := (· = B)) rfl).trans (Fr.setCell _ ⟨B, off + 1, none⟩ _ (S := (· = B)) rfl) (T := (· = B)) (fun _ _ h => h) (fun _ _ h => h)) (fun x hx e => hBt (e ▸ hx)), HP.out.1, HW.out, HBal.out, HS.out⟩, ?_, ?_⟩
    · rw [← HT.out.2]; rfl
    · refine (heap_setCell_same (heap_setCell_same HB1.out _) _).trans ?_
      rw [hlen, show ((t.toL.length - 1 : Nat) : Int) = (t.toL.length : Int) - 1 by omega]
    · exact HP.out.2
    · exact (HF1.out.trans (Fr.setCell w1 ⟨B, off, none⟩ _ (S := (· = B)) rfl) (T := fun x => x = B ∨ x ∈ t.fp) (fun _ _ h => .inr h) (fun _ _ h => .inl h)).trans (Fr.setCell _ ⟨B, off + 1, none⟩ _ (S := (· = B)) rfl) (fun _ _ h => h) (fun _ _ h => .inl h)
  | false =>
    go_wp2_with fail
    go_ret
    have hlen : (delL k t.toL).length = t.toL.length := by simpa using HL.out
    refine ⟨t'.adr, t'.fp, ?_, ?_, ⟨t', rfl, HT.out.1, rfl, In.fr HI1.out (Fr.setCell w1 ⟨B, off, none⟩ _ (S := (· = B)) rfl) (fun x hx e => hBt (e ▸ hx)), HP.out.1, HW.out, HBal.out, HS.out⟩, ?_, ?_⟩
    · rw [← HT.out.2]; rfl
    · refine (heap_setCell_same HB1.out _).trans ?_
      rw [hlen, set_same (i := off + 1)]
      rw [Array.getElem?_setIfInBounds, if_neg (by omega)]
      exact H1.out
    · exact HP.out.2
    · exact HF1.out.trans (Fr.setCell w1 ⟨B, off, none⟩ _ (S := (· = B)) rfl) (fun _ _ h => .inr h) (fun _ _ h => .inl h)

theorem Drop_none (k : ByteArray) (w : World) : Calls Try.prog 64 #[.pointer none, .string k] w fun e w' => e = .returned (.bool false) ∧ w = w' := by
  go_enter Try.func64, Try.ntmps64
  go_wp2_with fail
  go_ret
  exact ⟨rfl, rfl⟩


theorem top_none (w : World) : Calls Try.prog 122 #[.pointer none] w fun e w' => e = .returned (.pointer none) ∧ w = w' := by
  go_enter Try.func122, Try.ntmps122
  go_wp2_with fail
  go_ret
  exact ⟨rfl, rfl⟩
theorem top (a : Addr) (r : Option Addr) (w : World) (ha : a.spot = none) (h : w.cell? a = some (.pointer r)) : Calls Try.prog 122 #[.pointer (some a)] w fun e w' => e = .returned (.pointer r) ∧ w = w' := by
  obtain ⟨b, o, s⟩ := a
  dsimp only at ha
  subst ha
  go_enter Try.func122, Try.ntmps122
  go_wp2_with fail
  go_ret
  exact ⟨rfl, rfl⟩
theorem Len_none (w : World) : Calls Try.prog 87 #[.pointer none] w fun e w' => e = .returned (.int .i64 0) ∧ w = w' := by
  go_enter Try.func87, Try.ntmps87
  go_wp2_with fail
  go_ret
  exact ⟨rfl, rfl⟩
theorem Len (B off : Nat) (n : Int) (w : World) (h : w.cell? ⟨B, off + 1, none⟩ = some (.int .i64 n)) : Calls Try.prog 87 #[.pointer (some ⟨B, off, none⟩)] w fun e w' => e = .returned (.int .i64 n) ∧ w = w' := by
  go_enter Try.func87, Try.ntmps87
  go_wp2_with fail
  go_ret
  exact ⟨rfl, rfl⟩
end AvlSI
end Go.Proofs.Ytkhhdadlpilbmaa
