/- Shapes: Apply. -/
import Derived.Test.YtolpdgaomlhgdaaShape2
import Derived.Test.YtolpdgaomlhgdaaShape3
import Derived.Deep.CutBlock
namespace Go.Proofs.Ytolpdgaomlhgdaa
open Go.RowKit
namespace Shape
open BagP Bag ShapeP Fm
abbrev TSh : TypeId := 133
abbrev zeroV : Array Value := #[.map none, .map none, .pointer none, .int .i64 0, .int .i64 0, .pointer none, .int .i64 0, .int .i64 0]
/-- A view of the places of l. -/
def VB (w : World) (B n : Nat) (l : List K3) (F : List Nat) : Prop := (Bk w B zeroV TV ∧ l = [] ∧ F = [B]) ∨ ∃ rk rc, VM w B rk rc n l l l l F
/-- Places in a slice, apart from F. -/
def Ar (w : World) (A : Option Addr) (c : Nat) (xs : List Pl) (F : List Nat) : Prop := Sl w 6 A xs.length c (xs.flatMap plc) ∧ (xs ≠ [] → ∀ a, A = some a → a.block ∉ F)
section
variable {w w' : World} {B n m : Nat} {l : List K3} {F F' : List Nat} {A : Option Addr} {c : Nat} {xs : List Pl}
theorem VB.new (w : World) (n : Nat) : VB (w.alloc (.cells zeroV TV)) w.heap.size n [] [w.heap.size] := .inl ⟨Bk.new _ _ _, rfl, rfl⟩
theorem VB.fr {S : Nat → Prop} (h : VB w B n l F) (hf : Fr S w w') (hs : ∀ b ∈ F, ¬ S b) : VB w' B n l F := by
  rcases h with ⟨h1, h2, rfl⟩ | ⟨rk, rc, h⟩
  · exact .inl ⟨h1.fr hf hs, h2, rfl⟩
  · exact .inr ⟨rk, rc, h.fr hf hs⟩
theorem VB.lt (h : VB w B n l F) : ∀ b ∈ F, b < w.heap.size := by
  rcases h with ⟨h1, h2, rfl⟩ | ⟨rk, rc, h⟩
  · intro b hb; simp at hb; subst hb; exact lt_of_heap h1
  · exact h.lt
theorem VB.mem (h : VB w B n l F) : B ∈ F := by
  rcases h with ⟨h1, h2, rfl⟩ | ⟨rk, rc, h⟩
  · simp
  · exact h.mem.1
theorem VM.up {rk rc : Nat} (h : VM w B rk rc n l l l l F) (hn : n ≤ m) (hm : m < 1000000) : VM w B rk rc m l l l l F := by
  obtain ⟨c, L1, L2, G1, G2, h, rfl⟩ := h
  exact ⟨c, L1, L2, G1, G2, { h with km := Shape.FM.mono h.km hn hm, cm := Shape.FM.mono h.cm hn hm }, rfl⟩
theorem VB.up (h : VB w B n l F) (hn : n ≤ m) (hm : m < 1000000) : VB w B m l F := by
  rcases h with h | ⟨rk, rc, h⟩
  · exact .inl h
  · exact .inr ⟨rk, rc, h.up hn hm⟩
theorem VB.rk (h : VB w B n l F) : ∃ mk, RK w B mk l ∧ ((mk = none ∧ Bk w B zeroV TV ∧ l = [] ∧ F = [B]) ∨ ∃ rk rc, mk = some rk ∧ VM w B rk rc n l l l l F) := by
  have hl := h.lt B h.mem
  rcases h with ⟨h1, h2, h3⟩ | ⟨rk, rc, h⟩
  · exact ⟨none, ⟨h1.cell 0, hl, .inl ⟨rfl, h2⟩⟩, .inl ⟨rfl, h1, h2, h3⟩⟩
  · have hc := h.cells.1
    refine ⟨some rk, ⟨hc, hl, .inr ⟨rk, n, rfl, ?_⟩⟩, .inr ⟨rk, rc, rfl, h⟩⟩
    obtain ⟨c, L1, L2, G1, G2, h, rfl⟩ := h
    exact h.km
theorem Ar.step (h : Ar w A c xs F) (ht : Tn F F' w w') : Ar w' A c xs F' := by
  by_cases hx : xs = []
  · subst hx
    obtain ⟨⟨h1, h2, h3, h4, h5⟩, -⟩ := h
    exact ⟨⟨h1, h2, h3, h4, fun h => absurd rfl h⟩, fun h => absurd rfl h⟩
  · have hne : xs.flatMap plc ≠ [] := fun e => by
      have := congrArg List.length e
      rw [flat_length plc_len] at this
      exact hx (List.eq_nil_of_length_eq_zero (by simp at this; omega))
    refine ⟨h.1.fr ht.fr (fun a ha => h.2 hx a ha), fun _ a ha he => ?_⟩
    have hlt := h.1.lt hne a ha
    rcases (ht.sub _ he).1 with e | e
    · exact h.2 hx a ha e
    · omega
theorem Ar.fr (h : Ar w A c xs F) (hf : Fr (fun _ => False) w w') : Ar w' A c xs F := ⟨h.1.fr hf (fun _ _ h => h), h.2⟩
theorem VM.made {wz : World} (h : Bk w B zeroV TV) (hw : ((w.alloc (.map #[] 0)).alloc (.map #[] 0) |>.setCell ⟨B, 0, none⟩ (.map (some w.heap.size))).setCell ⟨B, 1, none⟩ (.map (some (w.heap.size + 1))) = wz) :
    VM wz B w.heap.size (w.heap.size + 1) 0 [] [] [] [] [B, w.heap.size, w.heap.size + 1] ∧ Tn [B] [B, w.heap.size, w.heap.size + 1] w wz := by
  have hlt := lt_of_heap h
  have fa : Fr (fun _ => False) w ((w.alloc (.map #[] 0)).alloc (.map #[] 0)) := (Fr.alloc _ _ _).trans (Fr.alloc (fun _ => False) _ _) (fun _ _ h => h) (fun _ _ h => h)
  have hs2 : ((w.alloc (.map #[] 0)).alloc (.map #[] 0)).heap.size = w.heap.size + 2 := by simp
  have m1 : FM TK kv okK ((w.alloc (.map #[] 0)).alloc (.map #[] 0)) w.heap.size 0 (fun _ => 0) := (FM.new (tk := TK) (kv := kv) (ok := okK) w).fr (Fr.alloc (fun _ => False) _ _) (fun _ _ h => h)
  have m2 : FM TI iv wfI ((w.alloc (.map #[] 0)).alloc (.map #[] 0)) (w.heap.size + 1) 0 (fun _ => 0) := by
    have := FM.new (tk := TI) (kv := iv) (ok := wfI) (w.alloc (.map #[] 0))
    rwa [World.size_alloc] at this
  have h2 : Bk ((w.alloc (.map #[] 0)).alloc (.map #[] 0)) B zeroV TV := h.fr fa (fun _ _ h => h)
  generalize ((w.alloc (.map #[] 0)).alloc (.map #[] 0)) = W at *
  have f1 := Fr.setCell W ⟨B, 0, none⟩ (.map (some w.heap.size)) (S := (· = B)) rfl
  have f2 := Fr.setCell (W.setCell ⟨B, 0, none⟩ (.map (some w.heap.size))) ⟨B, 1, none⟩ (.map (some (w.heap.size + 1))) (S := (· = B)) rfl
  have h4 := (h2.set 0 (.map (some w.heap.size))).set 1 (.map (some (w.heap.size + 1)))
  rw [hw] at f2 h4
  have ff := f1.trans f2 (T := (· = B)) (fun _ _ h => h) (fun _ _ h => h)
  have hz : wz.heap.size = w.heap.size + 2 := by rw [← hw]; simp [World.setCell]; omega
  have hvm : VI wz B w.heap.size (w.heap.size + 1) 0 [] [] [] [] _ [] [] [] [] := ⟨h4, rfl, rfl, rfl, ⟨none, rfl, rfl, rfl, AvlII.MapIn.nil _, fun p h => by simp at h, by simp [sumL]⟩, ⟨none, rfl, rfl, rfl, AvlII.MapIn.nil _, fun p h => by simp at h, by simp [sumL]⟩, IsBag.nil, IsBag.nil,
    (m1.fr ff (fun b hb e => by simp at hb; omega)).to (fun _ _ => rfl), (m2.fr ff (fun b hb e => by simp at hb; omega)).to (fun _ _ => rfl), ⟨by omega, by omega, by omega, by simp, by simp, by omega, by omega, by omega, by simp, by simp, by simp, by simp, by simp, by simp, by simp⟩⟩
  refine ⟨⟨_, [], [], [], [], hvm, rfl⟩, ?_, fun x hx => ?_⟩
  · exact fa.trans ff (fun _ _ h => h.elim) (fun _ _ h => by simp [h])
  · simp at hx
    refine ⟨?_, by omega⟩
    rcases hx with rfl | rfl | rfl
    · exact .inl (by simp)
    · exact .inr (Nat.le_refl _)
    · exact .inr (by omega)
end
theorem eql_map (mk : Option Nat) (w : World) : (binOp .eql TMK (.map mk) (.map none)).run Try.prog w = .ok (.bool mk.isNone) w := by
  cases mk with
  | none => kernel_rfl
  | some r => kernel_rfl
set_option maxRecDepth 100000 in
theorem Apply_none (A1 A2 : Option Addr) (c1 c2 : Nat) (xs ys : List Pl) (w : World) (hS1 : Sl w 6 A1 xs.length c1 (xs.flatMap plc)) (hS2 : Sl w 6 A2 ys.length c2 (ys.flatMap plc)) (hwf : ∀ x ∈ xs, okK x.k) (hx : xs.length ≤ 1000) (hy : ys.length ≤ 1000) :
    Calls Try.prog 84 #[.pointer none, .agg #[.slice A1 xs.length c1, .slice A2 ys.length c2]] w fun e w' => e = .returned (.bool (decide (xs.length + ys.length = 0))) ∧ Fr (fun _ => False) w w' := by
  have fa := Fr.alloc (fun _ => False) w (.cells #[.slice A1 xs.length c1, .slice A2 ys.length c2] TSh)
  have HH := Lib.hid (has_none A1 c1 xs (w.alloc (.cells #[.slice A1 xs.length c1, .slice A2 ys.length c2] TSh)) (hS1.fr fa (fun _ _ h => h)) hwf hx)
  have HBs := Lib.hid (Bk.new w #[.slice A1 xs.length c1, .slice A2 ys.length c2] TSh)
  have HF0 := Lib.hid fa
  have HR : Hid (∀ b, b = ((xs.length : Int) + ys.length == 0) → Ending.returned (.bool b) = .returned (.bool (decide (xs.length + ys.length = 0)))) := fun b hb => by
    have e : ((xs.length : Int) + ys.length == 0) = decide (xs.length + ys.length = 0) := by rw [Bool.eq_iff_iff]; simp only [beq_iff_eq, decide_eq_true_eq]; omega
    rw [hb, e]
  clear hS1 hS2 hwf fa
  go_enter Try.func84, Try.ntmps84
  go_wp2_with fail
  refine HH.out.mono ?_
  rintro e w1 ⟨rfl, hf1⟩
  have HF1 := Lib.hid (HF0.out.trans hf1 (T := fun _ => False) (fun _ _ h => h) (fun _ _ h => h))
  have b1 := HBs.out.fr hf1 (fun _ _ h => h)
  have s0 : w1.cell? ⟨w.heap.size, 0, none⟩ = some (.slice A1 xs.length c1) := b1.cell 0
  have s1 : w1.cell? ⟨w.heap.size, 1, none⟩ = some (.slice A2 ys.length c2) := b1.cell 1
  have hwr : IntKind.i64.wrap ((xs.length : Int) + ys.length) = xs.length + ys.length := IntWalk.i64_in _ (by omega)
  clear b1 hf1 HH HBs HF0
  cases hd : decide (xs.length = 0)
  all_goals
    go_wp2_with fail
    go_ret
    exact ⟨HR.out _ rfl, HF1.out⟩
/-- The view, the shift in a box beside, and the places of both lists. -/
structure AS (w0 : World) (F0 : List Nat) (w : World) (B rk rc n : Nat) (l : List K3) (F : List Nat) (Bs : Nat) (A1 A2 : Option Addr) (c1 c2 : Nat) (xs ys : List Pl) : Prop where
  h : VM w B rk rc n l l l l F
  t : Tn F0 F w0 w
  p : Bk w Bs #[.slice A1 xs.length c1, .slice A2 ys.length c2] TSh
  nb : Bs ∉ F
  a1 : Ar w A1 c1 xs F
  a2 : Ar w A2 c2 ys F
section
variable {w0 w w' : World} {F0 F F' : List Nat} {B rk rc n m : Nat} {l l' : List K3} {Bs : Nat} {A1 A2 : Option Addr} {c1 c2 : Nat} {xs ys : List Pl}
theorem AS.to (h : AS w0 F0 w B rk rc n l F Bs A1 A2 c1 c2 xs ys) (k : VM w' B rk rc m l' l' l' l' F') (t : Tn F F' w w') : AS w0 F0 w' B rk rc m l' F' Bs A1 A2 c1 c2 xs ys :=
  ⟨k, h.t.trans t, h.p.fr t.fr (fun b hb => by simp at hb; subst hb; exact h.nb), fun hx => by
    rcases (t.sub Bs hx).1 with e | e
    · exact h.nb e
    · have := lt_of_heap h.p; omega, h.a1.step t, h.a2.step t⟩
theorem AS.fr (h : AS w0 F0 w B rk rc n l F Bs A1 A2 c1 c2 xs ys) (hf : Fr (fun _ => False) w w') : AS w0 F0 w' B rk rc n l F Bs A1 A2 c1 c2 xs ys := h.to (h.h.fr hf (fun _ _ h => h)) (Tn.of_fr hf h.h.lt)
theorem AS.mk' (hvm : VM w' B rk rc n l l l l F') (t0 : Tn F F w0 w) (t : Tn F F' w w') (b : Bk w Bs #[.slice A1 xs.length c1, .slice A2 ys.length c2] TSh) (nb : Bs ∉ F) (a1 : Ar w A1 c1 xs F) (a2 : Ar w A2 c2 ys F) : AS w0 F w' B rk rc n l F' Bs A1 A2 c1 c2 xs ys :=
  ⟨hvm, t0.trans t, b.fr t.fr (fun b hb => by simp at hb; subst hb; exact nb), fun hx => by
    rcases (t.sub Bs hx).1 with e | e
    · exact nb e
    · have := lt_of_heap b; omega, a1.step t, a2.step t⟩
theorem pl_cells {w : World} {k : Nat} {xs : List Pl} {b o : Nat} (hk : k < xs.length) (hc : ∀ j u, (xs.flatMap plc)[j]? = some u → w.cell? ⟨b, o + j, none⟩ = some u) :
    w.cell? ⟨b, o + k * 6, none⟩ = some (.int .i64 xs[k].t) ∧ w.cell? ⟨b, o + k * 6 + 1, none⟩ = some (.int .i64 xs[k].i) ∧ w.cell? ⟨b, o + k * 6 + 1 + 1, none⟩ = some (.int .i64 xs[k].c) ∧ w.cell? ⟨b, o + k * 6 + 1 + 1 + 1, none⟩ = some (.int .i64 xs[k].d) ∧ w.cell? ⟨b, o + k * 6 + 1 + 1 + 1 + 1, none⟩ = some (.int .i64 xs[k].p) ∧ w.cell? ⟨b, o + k * 6 + 1 + 1 + 1 + 1 + 1, none⟩ = some (.int .i64 xs[k].f) := by
  have key : ∀ j u, j < 6 → (plc xs[k])[j]? = some u → w.cell? ⟨b, o + (k * 6 + j), none⟩ = some u := fun j u hj hu => hc _ u (by rw [flat_at plc_len hk hj]; exact hu)
  exact ⟨key 0 _ (by omega) rfl, key 1 _ (by omega) rfl, key 2 _ (by omega) rfl, key 3 _ (by omega) rfl, key 4 _ (by omega) rfl, key 5 _ (by omega) rfl⟩
end
set_option maxRecDepth 100000 in
set_option maxHeartbeats 1000000 in
theorem Apply (B n : Nat) (l : List K3) (F : List Nat) (A1 A2 : Option Addr) (c1 c2 : Nat) (xs ys : List Pl) (w : World) (h : VB w B n l F) (a1 : Ar w A1 c1 xs F) (a2 : Ar w A2 c2 ys F) (hwf1 : ∀ x ∈ xs, okK x.k) (hwf2 : ∀ x ∈ ys, okK x.k)
    (hx : xs.length ≤ 1000) (hy : ys.length ≤ 1000) (hl : l.length + ys.length < 100000) (hn : n + 3 * (xs.length + ys.length) < 1000000) :
    Calls Try.prog 84 #[.pointer (some ⟨B, 0, none⟩), .agg #[.slice A1 xs.length c1, .slice A2 ys.length c2]] w fun e w' => e = .returned (.bool (hasB l (xs.map Pl.k))) ∧ ∃ F', VB w' B (n + 3 * (xs.length + ys.length)) (appL l (xs.map Pl.k) (ys.map Pl.k)) F' ∧ Tn F F' w w' := by
  obtain ⟨mk, hrk, hcase⟩ := h.rk
  have hFl := h.lt
  have hBF := h.mem
  have fa := Fr.alloc (fun _ => False) w (.cells #[.slice A1 xs.length c1, .slice A2 ys.length c2] TSh)
  have HH := Lib.hid (has B mk l A1 c1 xs (w.alloc (.cells #[.slice A1 xs.length c1, .slice A2 ys.length c2] TSh)) (hrk.fr fa) (a1.fr fa).1 hwf1 hx)
  have HBs := Lib.hid (Bk.new w #[.slice A1 xs.length c1, .slice A2 ys.length c2] TSh)
  have HA1 := Lib.hid (a1.fr fa); have HA2 := Lib.hid (a2.fr fa); have HW1 := Lib.hid hwf1; have HW2 := Lib.hid hwf2
  have HF0 := Lib.hid fa; have HV := Lib.hid (h.fr fa (fun _ _ h => h)); have HRK := Lib.hid (hrk.fr fa); have HFl := Lib.hid hFl
  have HC := Lib.hid hcase
  have hlx1 : 0 ≤ (xs.length : Int) := by omega
  have hne : ¬ w.heap.size = B := fun e => by have := hFl B hBF; omega
  have hne2 : ¬ B = w.heap.size := fun e => hne e.symm
  clear hrk hcase h a1 a2 hwf1 hwf2 fa
  go_enter Try.func84, Try.ntmps84
  go_wp2_with fail
  refine HH.out.mono ?_
  rintro e w1 ⟨rfl, hf1⟩
  have fa1 := HF0.out.trans hf1 (T := fun _ => False) (fun _ _ h => h) (fun _ _ h => h)
  have HF1 := Lib.hid fa1
  have b1 := HBs.out.fr hf1 (fun _ _ h => h)
  have s0 : w1.cell? ⟨w.heap.size, 0, none⟩ = some (.slice A1 xs.length c1) := b1.cell 0
  have s1 : w1.cell? ⟨w.heap.size, 1, none⟩ = some (.slice A2 ys.length c2) := b1.cell 1
  have HB1 := Lib.hid b1; have HA1' := Lib.hid (HA1.out.fr hf1); have HA2' := Lib.hid (HA2.out.fr hf1); have HV1 := Lib.hid (HV.out.fr hf1 (fun _ _ h => h)); have HR1 := Lib.hid (HRK.out.fr hf1)
  clear fa1 hf1 b1 HH HBs HA1 HA2 HF0 HV HRK
  cases hh : hasB l (xs.map Pl.k) with
  | false =>
    have hx0 : xs.length ≠ 0 := fun e => by
      have : xs = [] := List.eq_nil_of_length_eq_zero e
      subst this; cases hh
    have hz : ((xs.length : Int) + ys.length == 0) = false := by simp; omega
    have hwr : IntKind.i64.wrap ((xs.length : Int) + ys.length) = xs.length + ys.length := IntWalk.i64_in _ (by omega)
    have HApp : Hid (appL l (xs.map Pl.k) (ys.map Pl.k) = l) := by show _ = _; unfold appL; rw [hh]; rfl
    go_wp2_with fail
    go_ret
    exact ⟨by rw [hh]; rfl, F, by rw [HApp.out]; exact HV1.out.up (by omega) hn, Tn.of_fr HF1.out HFl.out⟩
  | true =>
    have HApp : Hid (appL l (xs.map Pl.k) (ys.map Pl.k) = dif l (xs.map Pl.k) ++ ys.map Pl.k) := by show _ = _; unfold appL; rw [hh]; rfl
    have HHas := Lib.hid hh
    clear hh
    have q0 := HR1.out.1
    have hbm := eql_map mk
    have hnb : w.heap.size ∉ F := fun e => by have := HFl.out _ e; omega
    have HNb := Lib.hid hnb
    clear hnb
    go_upto_if 30 with (fail)
    clear hbm q0
    go_cut [0, 3] (fun s0 s3 wc => s0 = .pointer (some ⟨B, 0, none⟩) ∧ s3 = .pointer (some ⟨w.heap.size, 0, none⟩) ∧ ∃ rk rc F1, AS w F wc B rk rc n l F1 w.heap.size A1 A2 c1 c2 xs ys)
    case first =>
      rcases HC.out with ⟨rfl, hz, rfl, rfl⟩ | ⟨rk, rc, rfl, hvm⟩
      · have hz1 : Bk w1 B zeroV TV := hz.fr HF1.out (fun _ _ h => h)
        have hz2 : Bk ((w1.alloc (.map #[] 0)).alloc (.map #[] 0)) B zeroV TV := (hz1.fr (Fr.alloc (fun _ => False) _ _) (fun _ _ h => h)).fr (Fr.alloc (fun _ => False) _ _) (fun _ _ h => h)
        have k0 : ((w1.alloc (.map #[] 0)).alloc (.map #[] 0)).cell? ⟨B, 0, none⟩ = some (.map none) := hz2.cell 0
        have g0 := hz2.free 0
        have hz3 := hz2.set 0 (.map (some w1.heap.size))
        have k1 : (((w1.alloc (.map #[] 0)).alloc (.map #[] 0)).setCell ⟨B, 0, none⟩ (.map (some w1.heap.size))).cell? ⟨B, 1, none⟩ = some (.map none) := hz3.cell 1
        have g1 := hz3.free 1
        have hmm := @run_makeMap Try.prog
        have hmade := VM.made hz1 rfl
        have HMade := Lib.hid hmade
        clear hmade hz hz1 hz2 hz3 HC HR1 HV1
        go_wp2_with fail
        go_meet
        exact ⟨rfl, rfl, _, _, _, AS.mk' (HMade.out.1.up (Nat.zero_le _) (by omega)) (Tn.of_fr HF1.out HFl.out) HMade.out.2 HB1.out HNb.out HA1'.out HA2'.out⟩
      · have HM := Lib.hid (hvm.fr HF1.out (fun _ _ h => h))
        clear hvm HC HR1 HV1
        go_wp2_with fail
        go_meet
        exact ⟨rfl, rfl, rk, rc, F, AS.mk' HM.out (Tn.of_fr HF1.out HFl.out) (Tn.refl HM.out.lt) HB1.out HNb.out HA1'.out HA2'.out⟩
    case rest =>
      obtain ⟨rfl, rfl, rk, rc, F1, hcs⟩ := hcut
      have H := Lib.hid hcs
      have s0 : wc.cell? ⟨w.heap.size, 0, none⟩ = some (.slice A1 xs.length c1) := hcs.p.cell 0
      clear hcs HC HR1 HV1 HB1 HA1' HA2' HF1 HNb hne hne2
      have hnx : xs.length ≤ 9223372036854775807 := by omega
      have hny : ys.length ≤ 9223372036854775807 := by omega
      go_wp2_with fail
      clear s0
      go_loopg [6, 42] xs.length (fun gk _ i wr => ∃ (k : Nat) (F2 : List Nat), i = .int .i64 k ∧ k ≤ xs.length ∧ gk = xs.length - k ∧ AS w F wr B rk rc (n + 3 * k) (dif l ((xs.map Pl.k).take k)) F2 w.heap.size A1 A2 c1 c2 xs ys)
      case atStart => exact ⟨0, F1, rfl, Nat.zero_le _, rfl, H.out⟩
      case round =>
        obtain ⟨k, F2, rfl, hk, hg, hst⟩ := hrel
        have HG := Lib.hid hg; have H2 := Lib.hid hst
        clear hg hst H
        by_cases hlt : k < xs.length
        · have HPl := H2.out.a1.1.at hlt (by omega)
          obtain ⟨b1, o1, rfl, hb1, hc1⟩ := HPl
          obtain ⟨d0, d1, d2, d3, d4, d5⟩ := pl_cells hlt hc1
          have hkx := HW1.out _ (List.getElem_mem hlt)
          have hT : (xs.map Pl.k).take (k + 1) = (xs.map Pl.k).take k ++ [xs[k].k] := by rw [List.take_succ_eq_append_getElem (by simpa using hlt)]; simp
          have hD : xs.map Pl.k = (xs.map Pl.k).take k ++ [xs[k].k] ++ (xs.map Pl.k).drop (k + 1) := by rw [← hT, List.take_append_drop]
          have hm : xs[k].k ∈ dif l ((xs.map Pl.k).take k) := by
            have h1 := HHas.out
            rw [hD] at h1
            have h2 := hasB_left h1
            rw [hasB_snoc, Bool.and_eq_true, decide_eq_true_eq] at h2
            exact mem_dif.2 h2.2
          have HT : Hid (dif l ((xs.map Pl.k).take (k + 1)) = (dif l ((xs.map Pl.k).take k)).erase xs[k].k) := by show _ = _; rw [hT, dif_snoc]
          have hln := dif_len ((xs.map Pl.k).take k) l
          have H3 := Lib.hid (H2.out.fr (Fr.alloc (fun _ => False) wr (.cells (pla xs[k]) TP)))
          have HL := Lib.hid (leave B rk rc (n + 3 * k) (dif l ((xs.map Pl.k).take k)) F2 xs[k] (wr.alloc (.cells (pla xs[k]) TP)) H3.out.h hkx hm (by omega) (by omega))
          clear hT hD hm hc1 hkx H2 hln
          generalize dif l ((xs.map Pl.k).take k) = l1 at *
          generalize xs[k] = x at *
          obtain ⟨t, i, c, d, p, f⟩ := x
          dsimp only at d0 d1 d2 d3 d4 d5
          go_wp2_with fail
          refine HL.out.mono ?_
          rintro e w2 ⟨rfl, F3, hv, ht⟩
          have H4 := Lib.hid (H3.out.to hv ht)
          clear hv ht H3 HL d0 d1 d2 d3 d4 d5
          go_wp2_with fail
          go_roundg (xs.length - (k + 1))
          case rel => exact ⟨k + 1, F3, by go_num, by omega, rfl, by rw [HT.out]; exact H4.out⟩
          case measure => have := HG.out; omega
        · obtain rfl : k = xs.length := by omega
          have hE : (xs.map Pl.k).take xs.length = xs.map Pl.k := List.take_of_length_le (by simp)
          rw [hE] at H2
          have s1 : wr.cell? ⟨w.heap.size, 1, none⟩ = some (.slice A2 ys.length c2) := H2.out.p.cell 1
          have hl1 := dif_len (xs.map Pl.k) l
          clear hE
          generalize dif l (xs.map Pl.k) = l1 at *
          obtain ⟨wo, rfl⟩ : ∃ wo, wo = wr := ⟨_, rfl⟩
          go_wp2_with fail
          clear s1
          go_loopg [8, 53] ys.length (fun gk _ i wr => ∃ (k : Nat) (F3 : List Nat), i = .int .i64 k ∧ k ≤ ys.length ∧ gk = ys.length - k ∧ AS w F wr B rk rc (n + 3 * (xs.length + k)) (l1 ++ (ys.map Pl.k).take k) F3 w.heap.size A1 A2 c1 c2 xs ys)
          case atStart => exact ⟨0, F2, rfl, Nat.zero_le _, rfl, by simpa using H2.out⟩
          case round =>
            obtain ⟨k, F3, rfl, hk, hg, hst⟩ := hrel
            have HG := Lib.hid hg; have H5 := Lib.hid hst
            clear hg hst H2
            by_cases hlt : k < ys.length
            · have HPl := H5.out.a2.1.at hlt (by omega)
              obtain ⟨b1, o1, rfl, hb1, hc1⟩ := HPl
              obtain ⟨d0, d1, d2, d3, d4, d5⟩ := pl_cells hlt hc1
              have hkx := HW2.out _ (List.getElem_mem hlt)
              have HT : Hid (l1 ++ (ys.map Pl.k).take (k + 1) = l1 ++ (ys.map Pl.k).take k ++ [ys[k].k]) := by show _ = _; rw [List.take_succ_eq_append_getElem (by simpa using hlt)]; simp
              have hln : (l1 ++ (ys.map Pl.k).take k).length < 100000 := by simp; omega
              have H6 := Lib.hid (H5.out.fr (Fr.alloc (fun _ => False) wr (.cells (pla ys[k]) TP)))
              have HL := Lib.hid (come B rk rc (n + 3 * (xs.length + k)) (l1 ++ (ys.map Pl.k).take k) F3 ys[k] (wr.alloc (.cells (pla ys[k]) TP)) H6.out.h hkx hln (by omega))
              clear hc1 hkx H5 hln
              generalize l1 ++ (ys.map Pl.k).take k = l2 at *
              generalize ys[k] = x at *
              obtain ⟨t, i, c, d, p, f⟩ := x
              dsimp only at d0 d1 d2 d3 d4 d5
              go_wp2_with fail
              refine HL.out.mono ?_
              rintro e w2 ⟨rfl, F4, hv, ht⟩
              have H7 := Lib.hid (H6.out.to hv ht)
              clear hv ht H6 HL d0 d1 d2 d3 d4 d5
              go_wp2_with fail
              go_roundg (ys.length - (k + 1))
              case rel => exact ⟨k + 1, F4, by go_num, by omega, rfl, by rw [HT.out]; exact H7.out⟩
              case measure => have := HG.out; omega
            · obtain rfl : k = ys.length := by omega
              have hE : (ys.map Pl.k).take ys.length = ys.map Pl.k := List.take_of_length_le (by simp)
              rw [hE] at H5
              clear hE
              go_wp2_with fail
              go_ret
              exact ⟨by rw [HHas.out]; rfl, F3, .inr ⟨rk, rc, by rw [HApp.out]; exact H5.out.h⟩, H5.out.t⟩
end Shape
end Go.Proofs.Ytolpdgaomlhgdaa
