/- The maps in order (avl) at one instance: All and From, as loops range over them. -/
import Derived.Test.YtkhhdadlpilbmaaAvlHSE
import Derived.Test.YtkhhdadlpilbmaaRng
namespace Go.Proofs.Ytkhhdadlpilbmaa
open Go.RowKit Go.Shelf
attribute [local go_sem] Oper.semAt_some
namespace AvlSE

/-- The map behind a pointer: nil, or a map in the heap whose pairs are L, in the blocks F. -/
def MapP (w : World) (p : Option Addr) (L : List (ByteArray × Unit)) (F : List Nat) : Prop :=
  (p = none ∧ L = [] ∧ F = []) ∨ ∃ (B off : Nat) (r : Option Addr), p = some ⟨B, off, none⟩ ∧ w.cell? ⟨B, off, none⟩ = some (.pointer r) ∧ MapIn w r L F
theorem MapP.srt {w : World} {p : Option Addr} {L : List (ByteArray × Unit)} {F : List Nat} (h : MapP w p L F) : Srt L := by
  rcases h with ⟨-, rfl, -⟩ | ⟨_, _, _, -, -, h⟩
  · exact List.Pairwise.nil
  · exact h.srt
theorem MapP.top {w : World} {p : Option Addr} {L : List (ByteArray × Unit)} {F : List Nat} (h : MapP w p L F) : ∃ t : AT ByteArray Unit, t.toL = L ∧ t.fp = F ∧ In w t ∧ Calls Try.prog 136 #[.pointer p] w fun e w' => e = .returned (.pointer t.adr) ∧ w = w' := by
  rcases h with ⟨rfl, rfl, rfl⟩ | ⟨B, off, r, rfl, hc, t, rfl, h2, h3, h4, -⟩
  · exact ⟨.nil, rfl, rfl, trivial, top_none w⟩
  · exact ⟨t, h2, h3, h4, AvlSE.top _ _ w rfl hc⟩
theorem MapP.below {w w' : World} {p : Option Addr} {L : List (ByteArray × Unit)} {F : List Nat} (h : MapP w p L F) (hb : Below w.heap.size w w') : MapP w' p L F := by
  rcases h with h | ⟨B, off, r, rfl, hc, hm⟩
  · exact .inl h
  · have hlt : B < w.heap.size := by
      rcases Nat.lt_or_ge B w.heap.size with h | h
      · exact h
      · rw [World.cell?] at hc; simp [Array.getElem?_eq_none h] at hc
    exact .inr ⟨B, off, r, rfl, (hb.cell (p := ⟨B, off, none⟩) hlt).trans hc, hm.fr (Fr.of_below hb) (fun b hb' => by have := hm.lt b hb'; omega)⟩

set_option maxHeartbeats 1000000 in
theorem All1 (n l : Nat) (FP : List Nat) (J Jx : List (ByteArray × Unit) → World → Prop) (B0 : Nat) (p : Option Addr) (L : List (ByteArray × Unit)) (F : List Nat)
    (hJd : ∀ pre W W', J pre W → W'.heap = W.heap → W'.os = W.os → W'.tape = W.tape → W'.output = W.output → J pre W')
    (hY : ∀ m pre x W, J pre W → pre ++ [x] <+: L → YieldAt Fence.wide m Try.prog l (encs x) W fun e W' =>
      (e = .returned (.bool true) ∧ J (pre ++ [x]) W' ∧ Kept FP W W') ∨ (e = .returned (.bool false) ∧ Jx (pre ++ [x]) W'))
    (W : World) (hc : W.cell? ⟨B0, 0, none⟩ = some (.pointer p)) (hM : MapP W p L F) (hF : ∀ b ∈ F, b ∈ FP) (h0 : J [] W) :
    CallsIn Fence.wide n Try.prog 135 #[.func (.yield l) #[] #[], .pointer (some ⟨B0, 0, none⟩)] W fun e W' => (∃ v, e = .returned v) ∧
      ((∃ ys, ys = L ∧ J ys W') ∨ (∃ pre, pre <+: L ∧ Jx pre W')) := by
  obtain ⟨t, rfl, rfl, hI, ht⟩ := hM.top
  have hp := Lib.hid (give_all l t.toL FP J Jx hJd hY t (n - 1) [] W hI hF h0 (by simp))
  have HT := Lib.hid ht
  clear ht hY hM hI
  have hdd : ∀ k : Nat, (Fence.wide.depth.isSome = true → 1 ≤ k) := fun k h => by cases h
  refine callsIn_of_wp Try.func135 rfl trivial ?_ rfl
  simp only [Try.ntmps135, List.size_toArray, List.length_cons, List.length_nil, Nat.reduceAdd, Nat.reduceSub, Array.replicate_succ, Array.replicate_zero, List.push_toArray, List.append_toArray, List.nil_append, List.cons_append]
  gi_wp2_with fail
  refine ⟨trivial, hdd _, ?_⟩
  refine (callsIn_wide.2 HT.out).mono ?_
  rintro e w1 ⟨rfl, rfl⟩
  gi_wp2_with fail
  refine ⟨trivial, hdd _, ?_⟩
  refine hp.out.mono ?_
  clear hp
  rintro e W1 (⟨rfl, hJ1, _⟩ | ⟨rfl, q, hq, hx⟩)
  · have HJ := Lib.hid hJ1
    clear hJ1
    gi_wp2_with fail
    go_end0
    exact ⟨⟨_, rfl⟩, .inl ⟨_, rfl, by simpa using HJ.out⟩⟩
  · have HX := Lib.hid hx; have HQ := Lib.hid hq
    clear hx hq
    gi_wp2_with fail
    go_end0
    exact ⟨⟨_, rfl⟩, .inr ⟨q, HQ.out, by simpa using HX.out⟩⟩

theorem All (p : Option Addr) (w : World) :
    Calls Try.prog 88 #[.pointer p] w fun e w' => e = .returned (.func (.func 135) #[] #[.pointer (some ⟨w.heap.size, 0, none⟩)]) ∧ w.alloc (.cells #[.pointer p] 180 (0, 0)) = w' := by
  go_enter Try.func88, Try.ntmps88
  go_wp2
  go_ret
  exact ⟨rfl, rfl⟩

theorem All_stops (n : Nat) (FP : List Nat) (B0 : Nat) (p : Option Addr) (L : List (ByteArray × Unit)) (F : List Nat) (w : World)
    (hc : w.cell? ⟨B0, 0, none⟩ = some (.pointer p)) (hB0 : B0 < w.heap.size) (hM : MapP w p L F) (hF : ∀ b ∈ F, b ∈ FP) :
    SeqStopsK Fence.wide n Try.prog 135 #[.pointer (some ⟨B0, 0, none⟩)] encs (Kept FP) (fun ys => ys = L) (fun pre => pre <+: L) L.length w := fun l J Jx W hW hJ _ hY h0 =>
  All1 n l FP J Jx B0 p L F
    (fun pre A B hA e1 e2 e3 e4 => hJ pre A B none hA ⟨e2, e3, e4, by rw [e1]; exact Nat.le_refl _, fun k _ _ => by rw [e1]⟩ (fun r e => by cases e))
    (fun m pre x A hA hl => yield_anyDepth rfl m (hY pre x A hA (by have := hl.length_le; simp at this; omega))) W ((hW.cell (p := ⟨B0, 0, none⟩) hB0).trans hc) (hM.below hW) hF h0

/-- All, as a loop ranges over it. -/
theorem All_seq (FP : List Nat) (B0 : Nat) (p : Option Addr) (L : List (ByteArray × Unit)) (F : List Nat) (w : World)
    (hc : w.cell? ⟨B0, 0, none⟩ = some (.pointer p)) (hB0 : B0 < w.heap.size) (hM : MapP w p L F) (hF : ∀ b ∈ F, b ∈ FP) :
    SeqP Try.prog 135 #[.pointer (some ⟨B0, 0, none⟩)] encs FP 0 L w := fun n l J Jx W hW hJ _ hY h0 => by
  refine (All1 n l FP (fun pre A => J pre A ∧ W.heap.size ≤ A.heap.size) (fun pre A => Jx pre A ∧ W.heap.size ≤ A.heap.size) B0 p L F
    (fun pre A B hA e1 e2 e3 e4 => ⟨hJ pre A B hA.1 ⟨e2, e3, e4, by rw [e1]; exact Nat.le_refl _, fun k _ _ => by rw [e1]⟩, by rw [e1]; exact hA.2⟩)
    (fun m pre x A hA hl => YieldAt.mono (hY m pre x A hA.1 hA.2 hl) ?_) W ((hW.cell (p := ⟨B0, 0, none⟩) hB0).trans hc) (hM.below hW) hF ⟨h0, Nat.le_refl _⟩).mono ?_
  · rintro e W' (⟨rfl, h1, h2, -, h3⟩ | ⟨rfl, h1, -, h3⟩)
    · exact .inl ⟨rfl, ⟨h1, Nat.le_trans hA.2 h3⟩, h2⟩
    · exact .inr ⟨rfl, h1, Nat.le_trans hA.2 h3⟩
  · rintro e W' ⟨hv, (⟨ys, rfl, h1, h2⟩ | ⟨pre, hp, h1, h2⟩)⟩
    · exact ⟨hv, h2, .inl h1⟩
    · exact ⟨hv, h2, .inr ⟨pre, hp, h1⟩⟩

end AvlSE
end Go.Proofs.Ytkhhdadlpilbmaa
