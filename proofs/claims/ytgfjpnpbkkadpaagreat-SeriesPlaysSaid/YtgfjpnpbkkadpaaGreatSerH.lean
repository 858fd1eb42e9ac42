/- A view that nobody made; what is told of views. -/
import Derived.Test.YtgfjpnpbkkadpaaGreatSers2
namespace Go.Proofs.YtgfjpnpbkkadpaaGreat
open Go.RowKit
namespace Ser
open KeyP PackP SetP SetW SetF BagP Bag Mk Delta
/-- A view that nobody made. -/
def NM (v : Value) (w : World) : Prop := ∀ W, Below w.heap.size w W → Calls Tryz.prog 55 #[v] W fun e w' => e = .returned (.bool false) ∧ W = w'
theorem NM.below {v : Value} {w w' : World} (h : NM v w) (hb : Below w.heap.size w w') : NM v w' := fun W hW => h W (hb.trans (hW.mono hb.size))
theorem NM.nil (w : World) : NM (.pointer none) w := fun W _ => made_none W
theorem NM.empty {w : World} {B : Nat} (h : Bk w B #[.int .i64 0, .map none] TVw) : NM (.pointer (some ⟨B, 0, none⟩)) w := fun W hW => made_empty B W ((h.fr (Fr.of_below' hW (fun _ => False)) (fun _ _ h => h)).cell 1)
theorem PeakN {v : Value} {w : World} (h : NM v w) (s o : ByteArray) : Calls Tryz.prog 19 #[v, .string s, .string o] w fun e w' => e = .returned (.tuple #[.agg #[.int .i64 0, .int .i64 0], .bool false]) ∧ Below w.heap.size w w' :=
  (Peak v s o none (.inl rfl) [] [] w (bagAt_not h) (.inl ⟨rfl, rfl, rfl⟩) (by simp)).mono (fun e w' h => h)
theorem CountsN {v : Value} {w : World} (h : NM v w) (s o : ByteArray) : Calls Tryz.prog 22 #[v, .string s, .string o] w fun e w' => ∃ A c, e = .returned (.slice A 0 c) ∧ Below w.heap.size w w' :=
  (Counts v s o none (.inl rfl) [] [] w (bagAt_not h) (.inl ⟨rfl, rfl, rfl⟩) (by simp) (by simp)).mono (fun e w' h => by obtain ⟨A, c, h1, -, h2⟩ := h.cl; exact ⟨A, c, h1, h2⟩)
set_option maxRecDepth 100000 in
theorem ApplyN {v : Value} {w : World} (h : NM v w) (d : Dl) (hO : d.O.length ≤ 1000) (hI : d.I.length ≤ 1000) (b : Bool) (hb : (((d.O.length + d.I.length : Nat) : Int) == 0) = b) : Calls Tryz.prog 16 #[v, d.v] w fun e w' => e = .returned (.bool b) ∧ Below w.heap.size w w' := by
  have hbl : Below w.heap.size w (w.alloc (.cells d.arr TDl)) := (Below.refl _ w).alloc (Nat.le_refl _) _
  have HM := Lib.hid (h _ hbl)
  have hbk := Bk.new w d.arr TDl
  have HB := Lib.hid hbl
  obtain ⟨A1, c1, O, A2, c2, I⟩ := d
  dsimp only at hb hO hI
  have e0 : (w.alloc (.cells #[.slice A1 O.length c1, .slice A2 I.length c2] TDl)).cell? ⟨w.heap.size, 0, none⟩ = some (.slice A1 O.length c1) := hbk.cell 0
  have e1 : (w.alloc (.cells #[.slice A1 O.length c1, .slice A2 I.length c2] TDl)).cell? ⟨w.heap.size, 1, none⟩ = some (.slice A2 I.length c2) := hbk.cell 1
  have q1 : IntKind.i64.wrap ((O.length : Int) + (I.length : Int)) = ((O.length + I.length : Nat) : Int) := by rw [IntKind.wrap_i64]; omega
  have HBe := Lib.hid hb
  clear hbl hbk h hb
  go_enter Tryz.func16, Tryz.ntmps16
  go_upto_region 1 with (fail)
  generalize (w.alloc (.cells #[.slice A1 O.length c1, .slice A2 I.length c2] TDl)) = w1 at *
  go_wp2_with fail
  refine HM.out.mono ?_
  rintro e w2 ⟨rfl, rfl⟩
  generalize O.length + I.length = n at *
  have hb := HBe.out
  go_wp2_with fail
  go_ret
  exact ⟨rfl, HB.out⟩
theorem pk_fold : ∀ (X : List (Int × Int)) (b : Int × Int), b.2 ≤ (X.foldl pk b).2 ∧ ∀ p ∈ X, p.2 ≤ (X.foldl pk b).2
  | [], b => ⟨Int.le_refl _, by simp⟩
  | a :: X, b => by
    obtain ⟨h1, h2⟩ := pk_fold X (pk b a)
    have hm : b.2 ≤ (pk b a).2 ∧ a.2 ≤ (pk b a).2 := by unfold pk; split <;> omega
    rw [List.foldl_cons]
    refine ⟨by omega, fun p hp => ?_⟩
    rcases List.mem_cons.1 hp with rfl | hp
    · omega
    · exact h2 p hp
theorem peak_ge (X : List (Int × Int)) : ∀ p ∈ X, p.2 ≤ (peakL X).2 := (pk_fold X (0, 0)).2
theorem peak_iff {X : List (Int × Int)} (h : ∀ p ∈ X, 1 ≤ p.2) : decide ((peakL X).2 > 0) = decide (0 < X.length) := by
  refine decide_eq_decide.2 ⟨fun h1 => ?_, fun h1 => ?_⟩
  · rcases X with _ | ⟨p, X⟩
    · exact absurd h1 (by decide)
    · simp
  · have h2 := h X[0] (List.getElem_mem h1)
    have h3 := peak_ge X X[0] (List.getElem_mem h1)
    omega
theorem out_ex : ∀ {l q : List Pq}, outB q l = true → ∃ qk, (qk ++ l).Perm q := by
  intro l
  induction l with
  | nil => intro q _; exact ⟨q, by simp⟩
  | cons a l ih =>
    intro q h
    unfold outB at h
    rw [List.all_eq_true] at h
    have ha := h a (by simp)
    simp at ha
    have hm : a ∈ q := List.count_pos_iff.1 (by omega)
    obtain ⟨qk, hk⟩ := ih (q := q.erase a) (by
      unfold outB
      rw [List.all_eq_true]
      intro p hp
      have := h p (by simp [hp])
      simp only [decide_eq_true_eq] at this ⊢
      rw [List.count_cons] at this
      rw [List.count_erase]
      by_cases e : a = p
      · subst e; simp at this ⊢; omega
      · have e' : (a == p) = false := by simpa using e
        have e2 : (p == a) = false := by simpa using fun h => e h.symm
        rw [e'] at this
        simp at this
        simp [e2, e']
        omega)
    refine ⟨qk, ?_⟩
    refine List.Perm.trans ?_ (List.perm_cons_erase hm).symm
    exact List.perm_middle.trans (hk.cons a)
/-- A delta's turn, whatever comes of it. -/
theorem ApplyE (h : Nat) (W : Int) (m : Nat) (q : List Pq) (X : List Nat) (d : Dl) (w0 w : World) (H : VS w0 w h W m q X) (hd : RdD w d) (lO : d.O.length ≤ 100000) (lI : d.I.length ≤ 100000) (lm : m ≤ 100000) (lq : q.length ≤ 100000) :
    Calls Tryz.prog 16 #[.pointer (some ⟨h, 0, none⟩), d.v] w fun e w' => ∃ b q2, e = .returned (.bool b) ∧ VS w0 w' h W (m + d.O.length + d.I.length) q2 X ∧ (∀ A c L, Ls w A c L → Ls w' A c L) ∧ Fr (fun x => w0.heap.size ≤ x ∧ ¬ x ∈ X) w w' ∧
      b = (mays d.O && (mays d.I && outB q (d.O.map (pr W)))) ∧ (b = false → q2 = q) ∧ (b = true → ∃ qk, (qk ++ d.O.map (pr W)).Perm q ∧ q2 = qk ++ d.I.map (pr W)) := by
  cases hb : (mays d.O && (mays d.I && outB q (d.O.map (pr W)))) with
  | false =>
    refine (ApplyT h W m q X d w0 w H hd lO lI lm lq false hb q (fun h => by cases h) (fun _ => rfl)).mono ?_
    rintro e w' ⟨rfl, h1, h2, h3⟩
    exact ⟨false, q, rfl, h1, h2, h3, rfl, fun _ => rfl, fun h => by cases h⟩
  | true =>
    obtain ⟨qk, hqk⟩ : ∃ qk, (qk ++ d.O.map (pr W)).Perm q := out_ex (by
      rw [Bool.and_eq_true, Bool.and_eq_true] at hb; exact hb.2.2)
    refine (ApplyT h W m q X d w0 w H hd lO lI lm lq true hb (qk ++ d.I.map (pr W)) (fun _ qk' hp => ?_) (fun h => by cases h)).mono ?_
    · exact ((List.perm_append_right_iff _).1 (hp.trans hqk.symm)).append_right _
    rintro e w' ⟨rfl, h1, h2, h3⟩
    exact ⟨true, _, rfl, h1, h2, h3, rfl, fun h => (by cases h), fun _ => ⟨qk, hqk, rfl⟩⟩
end Ser
end Go.Proofs.YtgfjpnpbkkadpaaGreat
