/- Layer 25's statements: HistBack: for every input the answer is true. -/
import Derived.Test.YtolpdgaomlhgdaaLaw25
import Derived.Test.YtolpdgaomlhgdaaHistG
namespace Go.Proofs.Ytolpdgaomlhgdaa
open Go.RowKit
namespace Law25
open HistP BagP Bag Wide Bucket Hist
/-- A histogram made since w0. -/
structure S1 (w0 w : World) (B : Nat) (x : HS) (F : List Nat) : Prop where
  h : HB w B x F
  n : ∀ b ∈ F, w0.heap.size ≤ b
  f : Fr (fun _ => False) w0 w
theorem S1.fr {w0 w w' : World} {B : Nat} {x : HS} {F : List Nat} (h : S1 w0 w B x F) (hf : Fr (fun _ => False) w w') : S1 w0 w' B x F := ⟨h.h.fr hf (fun _ _ h => h), h.n, h.f.to hf⟩
theorem S1.to {w0 w w' : World} {B : Nat} {x y : HS} {F F' : List Nat} (h : S1 w0 w B x F) (k : HB w' B y F') (t : Tn F F' w w') : S1 w0 w' B y F' :=
  ⟨k, fun b hb => by
    rcases (t.sub b hb).1 with e | e
    · exact h.n b e
    · have := h.f.size; omega, h.f.trans t.fr (fun _ _ h => h) (fun i hi e => by have := h.n i e; omega)⟩
/-- Two of them, apart. -/
structure S2 (w0 w : World) (B B' : Nat) (x y : HS) (F F' : List Nat) : Prop where
  a : S1 w0 w B x F
  b : S1 w0 w B' y F'
  d : ∀ i ∈ F', ¬ i ∈ F
theorem S2.fr {w0 w w' : World} {B B' : Nat} {x y : HS} {F F' : List Nat} (h : S2 w0 w B B' x y F F') (hf : Fr (fun _ => False) w w') : S2 w0 w' B B' x y F F' := ⟨h.a.fr hf, h.b.fr hf, h.d⟩
theorem S1.with {w0 w w' : World} {B B' : Nat} {x y : HS} {F F' : List Nat} (h : S1 w0 w B x F) (hf : Fr (fun _ => False) w w') (k : HB w' B' y F') (hk : ∀ b ∈ F', w.heap.size ≤ b) : S2 w0 w' B B' x y F F' :=
  ⟨h.fr hf, ⟨k, fun b hb => by have := hk b hb; have := h.f.size; omega, h.f.to hf⟩, fun i hi hx => by have := hk i hi; have := h.h.lt i hx; omega⟩
theorem S2.turnB {w0 w w' : World} {B B' : Nat} {x y z : HS} {F F' G : List Nat} (h : S2 w0 w B B' x y F F') (k : HB w' B' z G) (t : Tn F' G w w') : S2 w0 w' B B' x z F G :=
  ⟨⟨h.a.h.fr t.fr (fun b hb e => h.d b e hb), h.a.n, h.a.f.trans t.fr (fun _ _ h => h) (fun i hi e => by have := h.b.n i e; omega)⟩, h.b.to k t, fun i hi hx => by
    rcases (t.sub i hi).1 with e | e
    · exact h.d i e hx
    · have := h.a.h.lt i hx; omega⟩
theorem ofH_snoc (a b : List Int) {k : Nat} (h : k < b.length) : ofH (a ++ b.take (k + 1)) = addH b[k] (ofH (a ++ b.take k)) := by
  unfold ofH; rw [List.take_succ_eq_append_getElem h, ← List.append_assoc, List.foldl_append]; rfl
theorem len_sum {x : HS} (h : Ok x.1) : (x.1.length : Int) ≤ sumL x.1 := by
  have : ∀ {L : List (Int × Int)}, Pos L → (L.length : Int) ≤ sumL L := by
    intro L
    induction L with
    | nil => intro _; simp [sumL]
    | cons p t ih =>
      intro hp
      have h1 := hp p (by simp)
      have h2 := ih (fun q hq => hp q (by simp [hq]))
      simp only [List.length_cons, sumL]
      omega
  exact this h.pos
/-- What is left when the last ones were dropped. -/
theorem back_step {a b : List Int} {x : HS} {k : Nat} (h : HistP.Good x (a.take (k + 1) ++ b)) (hk : k < a.length) : okD a[k] x = true ∧ HistP.Good (dropH a[k] x) (a.take k ++ b) := by
  refine HistP.Good.drop (h.perm ?_)
  rw [List.take_succ_eq_append_getElem hk]
  simp only [List.append_assoc, List.singleton_append]
  exact List.perm_middle
set_option maxRecDepth 100000 in
set_option maxHeartbeats 1000000 in
theorem back (A A' : Option Addr) (c c' : Nat) (a b : List Int) (w : World) (hSa : Sl w 1 A a.length c (ints a)) (hSb : Sl w 1 A' b.length c' (ints b)) :
    Calls Try.prog 13 #[.slice A a.length c, .slice A' b.length c'] w fun e w' => e = .returned (.bool true) ∧ Below w.heap.size w w' := by
  have la : a.length ≤ 9223372036854775807 := by have := hSa.2.1; have := hSa.2.2.1; unfold maxLen at this; omega
  have lb : b.length ≤ 9223372036854775807 := by have := hSb.2.1; have := hSb.2.2.1; unfold maxLen at this; omega
  by_cases hmany : 40 < a.length ∨ 40 < b.length
  · have HA := Lib.hid (awake w)
    clear hSa hSb
    by_cases h1 : 40 < a.length
    · have t1 : decide ((40 : Int) < (a.length : Int)) = true := by simp; omega
      clear hmany
      go_enter Try.func13, Try.ntmps13
      go_wp2_with fail
      refine HA.out.mono ?_
      rintro e w1 ⟨rfl, hb⟩
      have HB := Lib.hid hb
      clear hb
      go_wp2_with fail
      go_ret
      exact ⟨rfl, HB.out⟩
    · have t1 : decide ((40 : Int) < (a.length : Int)) = false := by simp; omega
      have t2 : decide ((40 : Int) < (b.length : Int)) = true := by simp; omega
      clear hmany
      go_enter Try.func13, Try.ntmps13
      go_wp2_with fail
      refine HA.out.mono ?_
      rintro e w1 ⟨rfl, hb⟩
      have HB := Lib.hid hb
      clear hb
      go_wp2_with fail
      go_ret
      exact ⟨rfl, HB.out⟩
  · have ha : a.length ≤ 40 := by omega
    have hb : b.length ≤ 40 := by omega
    have t1 : decide ((40 : Int) < (a.length : Int)) = false := by simp; omega
    have t2 : decide ((40 : Int) < (b.length : Int)) = false := by simp; omega
    have HSa := Lib.hid hSa; have HSb := Lib.hid hSb
    have HK : Hid (∀ w', Fr (fun _ => False) w w' → Sl w' 1 A a.length c (ints a) ∧ Sl w' 1 A' b.length c' (ints b)) := fun w' hf => ⟨hSa.fr hf (fun _ _ h => h), hSb.fr hf (fun _ _ h => h)⟩
    have HGd : Hid (∀ l : List Int, l.length ≤ 80 → HistP.Good (ofH l) l) := fun l hl => HistP.Good.ofH l (by omega)
    clear hmany hSa hSb
    go_enter Try.func13, Try.ntmps13
    go_wp2_with fail
    refine (Hist.Of A c a w HSa.out (by omega)).mono ?_
    rintro e w1 ⟨rfl, F, hb1, hF, hf⟩
    have H1 : Hid (S1 w w1 w.heap.size (ofH a) F) := ⟨hb1, fun b hb => (hF b hb).1, hf⟩
    clear hb1 hF hf t1 t2
    generalize hBB : w.heap.size = B at *
    have HBB := Lib.hid hBB
    clear hBB
    go_wp2_with fail
    go_loopg [6] b.length (fun gk i wr => ∃ (k : Nat) (F : List Nat), i = .int .i64 k ∧ k ≤ b.length ∧ gk = b.length - k ∧ S1 w wr B (ofH (a ++ b.take k)) F)
    case atStart => exact ⟨0, F, rfl, Nat.zero_le _, rfl, by simpa using H1.out⟩
    case round =>
      clear H1
      obtain ⟨k, F1, rfl, hk, hg, hst⟩ := hrel
      have HG := Lib.hid hg; have HSt := Lib.hid hst
      clear hg hst
      by_cases hlt : k < b.length
      · obtain ⟨b1, o1, rfl, hb1, c1⟩ := HSb.out.at hlt (by omega)
        have e1 : wr.cell? ⟨b1, o1 + k, none⟩ = some (.int .i64 b[k]) := (World.cell?_of_block (w := w) (a := ⟨b1, _, none⟩) (HSt.out.f.block b1 hb1 (fun h => h))).trans (c1 k _ (by simp [ints, hlt]))
        have hgd := HGd.out (a ++ b.take k) (by simp; omega)
        have HAd := Lib.hid (Hist.Add B b[k] _ F1 wr HSt.out.h (by have := len_sum hgd.ok; rw [hgd.sum] at this; simp at this; omega))
        have HSn := Lib.hid (ofH_snoc a b hlt)
        clear c1 hgd
        generalize b[k] = d at *
        go_wp2_with fail
        refine HAd.out.mono ?_
        rintro e w2 ⟨rfl, F2, hb2, ht2⟩
        have H2 := Lib.hid (HSt.out.to hb2 ht2)
        clear hb2 ht2 HAd
        go_wp2_with fail
        go_roundg (b.length - (k + 1))
        case rel => exact ⟨k + 1, F2, by go_num, by omega, rfl, by rw [HSn.out]; exact H2.out⟩
        case measure => have := HG.out; omega
      · obtain rfl : k = b.length := by omega
        rw [List.take_length] at HSt
        have hgab := HGd.out (a ++ b) (by simp; omega)
        have hga := HGd.out a (by omega)
        have hgb := HGd.out b (by omega)
        have hgm := hga.merge hgb (by omega)
        have HEq : Hid (mergeH (ofH b) (ofH a) = ofH (a ++ b)) := hgm.ext hgab (fun _ => rfl) rfl
        have hla := len_sum hga.ok
        rw [hga.sum] at hla
        have hlb := len_sum hgb.ok
        rw [hgb.sum] at hlb
        have HGab := Lib.hid hgab
        clear hgab hga hgb hgm
        go_wp2_with fail
        refine (Hist.Of A c a wr (HK.out _ HSt.out.f).1 (by omega)).mono ?_
        rintro e w2 ⟨rfl, F2, hb2, hF2, hf2⟩
        have H2 : Hid (S2 w w2 B wr.heap.size (ofH (a ++ b)) (ofH a) F1 F2) := HSt.out.with hf2 hb2 (fun b hb => (hF2 b hb).1)
        clear hb2 hF2 hf2 HSt
        generalize wr.heap.size = Bo at *
        go_wp2_with fail
        refine (Hist.Of A' c' b w2 (HK.out _ H2.out.a.f).2 (by omega)).mono ?_
        rintro e w3 ⟨rfl, F3, hb3, hF3, hf3⟩
        have H3 := Lib.hid (H2.out.fr hf3)
        have HMg := Lib.hid (Hist.Merge Bo w2.heap.size (ofH a) (ofH b) F2 F3 w3 H3.out.b.h hb3 (by omega) (fun i hi hx => by have := (hF3 i hi).1; have := H2.out.b.h.lt i hx; omega))
        rw [HEq.out] at HMg
        clear hb3 hF3 hf3 H2
        generalize w2.heap.size = Bm at *
        go_wp2_with fail
        refine HMg.out.mono ?_
        rintro e w4 ⟨rfl, F4, hb4, ht4⟩
        have H4 := Lib.hid (H3.out.turnB hb4 ht4)
        clear hb4 ht4 H3 HMg
        have HLn := Lib.hid (Hist.Len B _ F1 w4 H4.out.a.h)
        rw [HGab.out.sum] at HLn
        have hgl := len_sum HGab.out.ok
        rw [HGab.out.sum] at hgl
        have hcast : ((a ++ b).length : Int) = (a.length : Int) + (b.length : Int) := by simp
        rw [hcast] at HLn hgl
        clear hcast
        have q1 : ((a.length : Int) + (b.length : Int) != (a.length : Int) + (b.length : Int)) = false := by simp
        have HS1 := fun w' hf => Lib.hid (Hist.Sum B _ F1 w' (H4.out.fr (w' := w') hf).a.h)
        have HS2 := fun w' hf => Lib.hid (Hist.Sum Bo _ F4 w' (H4.out.fr (w' := w') hf).b.h)
        have HB1 := fun w' hf => Lib.hid (Hist.Buckets B _ F1 w' (H4.out.fr (w' := w') hf).a.h (by omega))
        have HB2 := fun w' hf => Lib.hid (Hist.Buckets Bo _ F4 w' (H4.out.fr (w' := w') hf).b.h (by omega))
        generalize hX : ofH (a ++ b) = X at *
        have HX := Lib.hid hX
        clear hX
        obtain ⟨L, s1, s2⟩ := X
        dsimp only at hgl HB1 HB2
        go_wp2_with fail
        refine HLn.out.mono ?_
        rintro e w5 ⟨rfl, rfl⟩
        go_wp2_with fail
        refine (HS1 _ (Fr.refl _ _)).out.mono ?_
        rintro e w5 ⟨rfl, hf5⟩
        have HF5 := Lib.hid hf5
        clear hf5
        go_wp2_with fail
        refine (HS2 _ HF5.out).out.mono ?_
        rintro e w6 ⟨rfl, hf6⟩
        have HF6 := Lib.hid (HF5.out.to hf6)
        clear hf6 HF5
        go_wp2_with fail
        refine (HB1 _ HF6.out).out.mono ?_
        rintro e w7 ⟨A1, c1, rfl, hS7, -, hf7⟩
        have HF7 := Lib.hid (HF6.out.to hf7); have HS7 := Lib.hid hS7
        clear hf7 hS7 HF6
        go_wp2_with fail
        refine (HB2 _ HF7.out).out.mono ?_
        rintro e w8 ⟨A2, c2, rfl, hS8, -, hf8⟩
        have HF8 := Lib.hid (HF7.out.to hf8)
        have HSm := Lib.hid (Ref13.Same A1 A2 c1 c2 L L w8 L.length L.length rfl rfl (HS7.out.fr hf8 (fun _ _ h => h)) hS8 rfl)
        clear hf8 hS8 HF7 HS7
        go_wp2_with fail
        refine HSm.out.mono ?_
        rintro e w9 ⟨rfl, hf9⟩
        have H9 := Lib.hid (H4.out.fr (HF8.out.to hf9)).a
        rw [← HX.out] at H9 HGab
        clear hf9 HSm HF8 HS1 HS2 HB1 HB2 H4 HLn q1 HX HEq hgl
        go_wp2_with fail
        go_loopg [8] a.length (fun gk i wr => ∃ (k : Nat) (x : HS) (F : List Nat), i = .int .i64 ((k : Int) - 1) ∧ k ≤ a.length ∧ gk = k ∧ S1 w wr B x F ∧ HistP.Good x (a.take k ++ b))
        case atStart => exact ⟨a.length, _, F1, rfl, Nat.le_refl _, rfl, H9.out, by rw [List.take_length]; exact HGab.out⟩
        case round =>
          clear H9 HGab
          obtain ⟨k, x, F5, rfl, hk, hg, hst, hgx⟩ := hrel
          have HG := Lib.hid hg; have HSt := Lib.hid hst; have HGx := Lib.hid hgx
          clear hg hst hgx
          cases k with
          | succ k =>
            have hlt : k < a.length := by omega
            obtain ⟨b1, o1, rfl, hb1, c1⟩ := HSa.out.at hlt (by omega)
            have e1 : wr.cell? ⟨b1, o1 + k, none⟩ = some (.int .i64 a[k]) := (World.cell?_of_block (w := w) (a := ⟨b1, _, none⟩) (HSt.out.f.block b1 hb1 (fun h => h))).trans (c1 k _ (by simp [ints, hlt]))
            obtain ⟨hok, hgd⟩ := back_step HGx.out hlt
            have hlx := len_sum HGx.out.ok
            rw [HGx.out.sum] at hlx
            have hlx2 : (a.take (k + 1) ++ b).length ≤ 80 := by simp; omega
            have HDr := Lib.hid (Hist.Drop B a[k] x F5 wr HSt.out.h (by omega))
            rw [hok] at HDr
            have HGd2 := Lib.hid hgd
            clear c1 hok hgd hlx hlx2
            generalize a[k] = d at *
            rw [show (((k + 1 : Nat) : Int) - 1) = (k : Int) by omega]
            go_wp2_with fail
            refine HDr.out.mono ?_
            rintro e w10 ⟨rfl, F6, hb10, ht10⟩
            have H10 := Lib.hid (HSt.out.to hb10 ht10)
            clear hb10 ht10 HDr
            go_wp2_with fail
            go_roundg k
            case rel => exact ⟨k, _, F6, rfl, by omega, rfl, H10.out, HGd2.out⟩
            case measure => have := HG.out; omega
          | zero =>
            have hEq : x = ofH b := by
              have h1 := HGx.out
              simp only [List.take_zero, List.nil_append] at h1
              exact h1.ext (HGd.out b (by omega)) (fun _ => rfl) rfl
            subst hEq
            rw [show (((0 : Nat) : Int) - 1) = -1 by rfl]
            have hgb := HGd.out b (by omega)
            have hlx := len_sum hgb.ok
            rw [hgb.sum] at hlx
            clear hgb HGx
            go_wp2_with fail
            refine (Hist.Of A' c' b wr (HK.out _ HSt.out.f).2 (by omega)).mono ?_
            rintro e w2 ⟨rfl, F2, hb2, hF2, hf2⟩
            have H4 : Hid (S2 w w2 B wr.heap.size (ofH b) (ofH b) F5 F2) := HSt.out.with hf2 hb2 (fun b hb => (hF2 b hb).1)
            clear hb2 hF2 hf2 HSt
            generalize wr.heap.size = Bo at *
            have HS1 := fun w' hf => Lib.hid (Hist.Sum B _ F5 w' (H4.out.fr (w' := w') hf).a.h)
            have HS2 := fun w' hf => Lib.hid (Hist.Sum Bo _ F2 w' (H4.out.fr (w' := w') hf).b.h)
            have HB1 := fun w' hf => Lib.hid (Hist.Buckets B _ F5 w' (H4.out.fr (w' := w') hf).a.h (by omega))
            have HB2 := fun w' hf => Lib.hid (Hist.Buckets Bo _ F2 w' (H4.out.fr (w' := w') hf).b.h (by omega))
            generalize ofH b = X at *
            obtain ⟨L, s1, s2⟩ := X
            dsimp only at hlx HB1 HB2
            go_wp2_with fail
            refine (HS1 _ (Fr.refl _ _)).out.mono ?_
            rintro e w5 ⟨rfl, hf5⟩
            have HF5 := Lib.hid hf5
            clear hf5
            go_wp2_with fail
            refine (HS2 _ HF5.out).out.mono ?_
            rintro e w6 ⟨rfl, hf6⟩
            have HF6 := Lib.hid (HF5.out.to hf6)
            clear hf6 HF5
            go_wp2_with fail
            refine (HB1 _ HF6.out).out.mono ?_
            rintro e w7 ⟨A1, c1, rfl, hS7, -, hf7⟩
            have HF7 := Lib.hid (HF6.out.to hf7); have HS7 := Lib.hid hS7
            clear hf7 hS7 HF6
            go_wp2_with fail
            refine (HB2 _ HF7.out).out.mono ?_
            rintro e w8 ⟨A2, c2, rfl, hS8, -, hf8⟩
            have HF8 := Lib.hid (HF7.out.to hf8)
            have HSm := Lib.hid (Ref13.Same A1 A2 c1 c2 L L w8 L.length L.length rfl rfl (HS7.out.fr hf8 (fun _ _ h => h)) hS8 rfl)
            clear hf8 hS8 HF7 HS7
            go_wp2_with fail
            refine HSm.out.mono ?_
            rintro e w9 ⟨rfl, hf9⟩
            have HF9 := Lib.hid (H4.out.a.f.to (HF8.out.to hf9))
            clear hf9 HSm HF8 HS1 HS2 HB1 HB2 H4
            go_wp2_with fail
            refine (awake w9).mono ?_
            rintro e w10 ⟨rfl, hb10⟩
            have HBl := Lib.hid ((HF9.out.below (Nat.le_refl _) (fun _ _ h => h)).trans (hb10.mono HF9.out.size))
            clear hb10
            go_wp2_with fail
            go_ret
            exact ⟨rfl, by first | exact HBl.out | (rw [HBB.out]; exact HBl.out)⟩
end Law25
end Go.Proofs.Ytolpdgaomlhgdaa
