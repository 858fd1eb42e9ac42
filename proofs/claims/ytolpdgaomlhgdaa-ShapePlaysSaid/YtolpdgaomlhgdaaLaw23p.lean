/- Layer 23's statements: ShapePlays: for every input the answer is true. -/
import Derived.Test.YtolpdgaomlhgdaaLaw23a
import Derived.Deep.CutBlock
namespace Go.Proofs.Ytolpdgaomlhgdaa
open Go.RowKit
namespace Law23
open BagP Bag ShapeP Fm Shape Ref23
attribute [local go_sem] Eng.ev Eng.getO_cons Eng.getO_nil
/-- The view, and the document's places. -/
structure PS (w0 w : World) (B n : Nat) (l : List Pl) (F : List Nat) (A : Option Addr) (c : Nat) : Prop where
  v : VB w B n (l.map Pl.k) F
  a : Ar w A c l F
  lo : ∀ b ∈ F, w0.heap.size ≤ b
  f : Below w0.heap.size w0 w
section
variable {w0 w w' : World} {B n : Nat} {l l' : List Pl} {F F' : List Nat} {A A' : Option Addr} {c c' : Nat}
theorem PS.fr (h : PS w0 w B n l F A c) (hf : Fr (fun _ => False) w w') : PS w0 w' B n l F A c :=
  ⟨h.v.fr hf (fun _ _ h => h), h.a.fr hf, h.lo, h.f.trans (hf.below h.f.size (fun _ _ h => h))⟩
theorem not_old {b : Nat} (h : PS w0 w B n l F A c) (hb : b < w0.heap.size) : b ∉ F := fun e => by have := h.lo b e; omega
end
/-- An act's places, apart from the view. -/
theorem Rd.ar {w0 w : World} {y : Sh} (h : Rd w0 y) {B n : Nat} {l : List Pl} {F : List Nat} {A : Option Addr} {c : Nat} (hp : PS w0 w B n l F A c) : Ar w y.A1 y.c1 y.O F ∧ Ar w y.A2 y.c2 y.I F := by
  obtain ⟨h1, h2, -, -⟩ := h
  have key : ∀ (A : Option Addr) (c : Nat) (xs : List Pl), Sl w0 6 A xs.length c (xs.flatMap plc) → Ar w A c xs F := fun A c xs hS => by
    by_cases hx : xs = []
    · subst hx
      obtain ⟨h1, h2, h3, h4, h5⟩ := hS
      exact ⟨⟨h1, h2, h3, h4, fun h => absurd rfl h⟩, fun h => absurd rfl h⟩
    · have hne : xs.flatMap plc ≠ [] := fun e => by
        have := congrArg List.length e
        rw [flat_length plc_len] at this
        exact hx (List.eq_nil_of_length_eq_zero (by simp at this; omega))
      exact ⟨hS.below hp.f (fun a ha => hS.lt hne a ha), fun _ a ha => not_old hp (hS.lt hne a ha)⟩
  exact ⟨key _ _ _ h1, key _ _ _ h2⟩
theorem no_eq (a b : Nat) : (decide (a + b = 0) == ((a : Int) + (b : Int) == 0)) = true := by
  have : ((a : Int) + (b : Int) == 0) = decide (a + b = 0) := by
    rw [Bool.eq_iff_iff, beq_iff_eq, decide_eq_true_eq]; omega
  rw [this]; simp
set_option maxRecDepth 100000 in
set_option maxHeartbeats 400000 in
theorem p13 {ops : Array Oper} (hops : Eng.fnOps Try.f15 13 = ops) (a0 : Act) (Q : Exit → Act → World → Prop) (w : World) (b1 o1 c0 len j : Nat) (y : Sh) (bb : Bool) (hbb : Hid (decide (y.O.length + y.I.length = 0) = bb)) (q4 : (bb == ((y.O.length : Int) + (y.I.length : Int) == 0)) = true) (hj : j < len) (h20 : y.O.length ≤ 20) (h21 : y.I.length ≤ 20) (hk : ∀ x ∈ y.O, okK x.k) (e1 : ∀ w', Fr (fun _ => False) w w' → w'.cell? ⟨b1, o1 + j * 2, none⟩ = some (.slice y.A1 y.O.length y.c1) ∧ w'.cell? ⟨b1, o1 + j * 2 + 1, none⟩ = some (.slice y.A2 y.I.length y.c2)) (hS1 : ∀ w', Fr (fun _ => False) w w' → Sl w' 6 y.A1 y.O.length y.c1 (y.O.flatMap plc)) (hS2 : ∀ w', Fr (fun _ => False) w w' → Sl w' 6 y.A2 y.I.length y.c2 (y.I.flatMap plc))
    (hn : a0.tmps.size = 72) (h_0 : a0.tmps.getD 0 undef = .slice (some ⟨b1, o1, none⟩) len c0) (h_4 : a0.tmps.getD 4 undef = .pointer none) (h_6 : a0.tmps.getD 6 undef = .int .i64 (j : Int))
    (hpost : ∀ (x : Nat → Value) (w' : World), x 70 = .bool false → Fr (fun _ => False) w w' → Q .normal (Eng.setAll a0 [43, 44, 45, 46, 47, 48, 49, 50, 51, 52, 53, 54, 55, 56, 57, 58, 59, 60, 61, 62, 63, 64, 65, 66, 67, 68, 69, 70] x) w') :
    (Code.region 13 ops true).wp Try.prog Q a0 w := by
  simp only [Eng.fnOps, Eng.regOps, Try.f15, Option.bind_some, Option.getD_some, Nat.reduceEqDiff, ↓reduceIte, Nat.reduceBEq] at hops
  subst hops
  have q1 : (0 : Int) ≤ (j : Int) := by omega
  have q2 : (j : Int) < (len : Int) := by omega
  have q5 : (0 : Int) ≤ (y.O.length : Int) := by omega
  have q6 : (0 : Int) ≤ (y.I.length : Int) := by omega
  have q7 : (y.O.length : Int) ≤ 20 := by omega
  have q8 : (y.I.length : Int) ≤ 20 := by omega
  have q9 : IntKind.i64.wrap ((y.O.length : Int) + (y.I.length : Int)) = (y.O.length : Int) + (y.I.length : Int) := IntWalk.i64_in _ (by omega)
  have HSt := Lib.hid (Fr.drew (fun _ => False) w)
  have hSS : w.drew.cell? ⟨b1, o1 + j * 2, none⟩ = some (.slice y.A1 y.O.length y.c1) ∧ w.drew.cell? ⟨b1, o1 + j * 2 + 1, none⟩ = some (.slice y.A2 y.I.length y.c2) := ⟨(e1 _ HSt.out).1, (e1 _ HSt.out).2⟩
  refine Eng.regionT (.take 0 (.take 1 (.take 2 (.take 3 (.take 4 (.take 6 (.take 7 (.take 8 (.take 9 (.take 10 (.take 11 (.take 12 (.take 13 (.take 14 (.take 15 (.take 16 (.take 17 (.take 18 (.take 19 (.alt 5 (.take 20 (.take 21 (.take 22 (.take 24 (.alt 23 (.alt 25 (.take 26 (.take 27 (.done))) (.stop)) (.stop)))))) (.stop))))))))))))))))))))) (fun w' => w'.cell? ⟨b1, o1 + j * 2, none⟩ = some (.slice y.A1 y.O.length y.c1) ∧ w'.cell? ⟨b1, o1 + j * 2 + 1, none⟩ = some (.slice y.A2 y.I.length y.c2)) (by kernel_rfl) 72 hn (by kernel_rfl) (by kernel_rfl) (by kernel_rfl) (hSS) (fun a b ha hb => ?_)
  subst ha
  have hb0 : b 0 = .slice (some ⟨b1, o1, none⟩) len c0 := (hb 0).symm.trans h_0
  have hb4 : b 4 = .pointer none := (hb 4).symm.trans h_4
  have hb6 : b 6 = .int .i64 (j : Int) := (hb 6).symm.trans h_6
  clear hb h_0 h_4 h_6
  have HP := Lib.hid hpost; have HN := Lib.hid hn
  clear hpost hn
  refine Eng.TW.take' (v := ?_) rfl rfl (by decide) (by kernel_rfl) (fun w hw => ?_) ?_
  rotate_left
  · (try dsimp only at hw); go_simp; first | done | with_reducible rfl
  refine Eng.TW.take' (v := ?_) rfl rfl (by decide) (by kernel_rfl) (fun w hw => ?_) ?_
  rotate_left
  · (try dsimp only at hw); go_simp; first | done | with_reducible rfl
  refine Eng.TW.take' (v := ?_) rfl rfl (by decide) (by kernel_rfl) (fun w hw => ?_) ?_
  rotate_left
  · (try dsimp only at hw); go_simp; first | done | with_reducible rfl
  refine Eng.TW.take' (v := ?_) rfl rfl (by decide) (by kernel_rfl) (fun w hw => ?_) ?_
  rotate_left
  · (try dsimp only at hw); go_simp; first | done | with_reducible rfl
  refine Eng.TW.take' (v := ?_) rfl rfl (by decide) (by kernel_rfl) (fun w hw => ?_) ?_
  rotate_left
  · (try dsimp only at hw); go_simp; first | done | with_reducible rfl
  refine Eng.TW.take' (v := ?_) rfl rfl (by decide) (by kernel_rfl) (fun w hw => ?_) ?_
  rotate_left
  · (try dsimp only at hw); go_simp; first | done | with_reducible rfl
  refine Eng.TW.take' (v := ?_) rfl rfl (by decide) (by kernel_rfl) (fun w hw => ?_) ?_
  rotate_left
  · (try dsimp only at hw); go_simp; first | done | with_reducible rfl
  refine Eng.TW.take' (v := ?_) rfl rfl (by decide) (by kernel_rfl) (fun w hw => ?_) ?_
  rotate_left
  · (try dsimp only at hw); go_simp; first | done | with_reducible rfl
  refine Eng.TW.take' (v := ?_) rfl rfl (by decide) (by kernel_rfl) (fun w hw => ?_) ?_
  rotate_left
  · (try dsimp only at hw); go_simp; first | done | with_reducible rfl
  refine Eng.TW.take' (v := ?_) rfl rfl (by decide) (by kernel_rfl) (fun w hw => ?_) ?_
  rotate_left
  · (try dsimp only at hw); go_simp; first | done | with_reducible rfl
  refine Eng.TW.take' (v := ?_) rfl rfl (by decide) (by kernel_rfl) (fun w hw => ?_) ?_
  rotate_left
  · (try dsimp only at hw); go_simp; first | done | with_reducible rfl
  refine Eng.TW.take' (v := ?_) rfl rfl (by decide) (by kernel_rfl) (fun w hw => ?_) ?_
  rotate_left
  · (try dsimp only at hw); go_simp; first | done | with_reducible rfl
  refine Eng.TW.take' (v := ?_) rfl rfl (by decide) (by kernel_rfl) (fun w hw => ?_) ?_
  rotate_left
  · (try dsimp only at hw); go_simp; first | done | with_reducible rfl
  refine Eng.TW.take' (v := ?_) rfl rfl (by decide) (by kernel_rfl) (fun w hw => ?_) ?_
  rotate_left
  · (try dsimp only at hw); go_simp; first | done | with_reducible rfl
  refine Eng.TW.take' (v := ?_) rfl rfl (by decide) (by kernel_rfl) (fun w hw => ?_) ?_
  rotate_left
  · (try dsimp only at hw); go_simp; first | done | with_reducible rfl
  refine Eng.TW.take' (v := ?_) rfl rfl (by decide) (by kernel_rfl) (fun w hw => ?_) ?_
  rotate_left
  · (try dsimp only at hw); go_simp; first | done | with_reducible rfl
  refine Eng.TW.take' (v := ?_) rfl rfl (by decide) (by kernel_rfl) (fun w hw => ?_) ?_
  rotate_left
  · (try dsimp only at hw); go_simp; first | done | with_reducible rfl
  refine Eng.TW.take' (v := ?_) rfl rfl (by decide) (by kernel_rfl) (fun w hw => ?_) ?_
  rotate_left
  · (try dsimp only at hw); go_simp; first | done | with_reducible rfl
  refine Eng.TW.take' (v := ?_) rfl rfl (by decide) (by kernel_rfl) (fun w hw => ?_) ?_
  rotate_left
  · (try dsimp only at hw); go_simp; first | done | with_reducible rfl
  refine Eng.TW.call rfl rfl (by decide) (by kernel_rfl) ?_ (Apply_none y.A1 y.A2 y.c1 y.c2 y.O y.I _ (hS1 _ HSt.out) (hS2 _ HSt.out) hk (by omega) (by omega)) ?_
  · go_simp
  rintro e w2 ⟨rfl, hf⟩
  rw [hbb.out]
  have HSt2 := Lib.hid (HSt.out.trans hf (T := fun _ => False) (fun _ _ h => h) (fun _ _ h => h))
  have hSS : w2.cell? ⟨b1, o1 + j * 2, none⟩ = some (.slice y.A1 y.O.length y.c1) ∧ w2.cell? ⟨b1, o1 + j * 2 + 1, none⟩ = some (.slice y.A2 y.I.length y.c2) := ⟨(e1 _ HSt2.out).1, (e1 _ HSt2.out).2⟩
  clear hf
  refine ⟨_, rfl, hSS, ?_⟩
  refine Eng.TW.take' (v := ?_) rfl rfl (by decide) (by kernel_rfl) (fun w hw => ?_) ?_
  rotate_left
  · (try dsimp only at hw); go_simp; first | done | with_reducible rfl
  refine Eng.TW.take' (v := ?_) rfl rfl (by decide) (by kernel_rfl) (fun w hw => ?_) ?_
  rotate_left
  · (try dsimp only at hw); go_simp; first | done | with_reducible rfl
  refine Eng.TW.take' (v := ?_) rfl rfl (by decide) (by kernel_rfl) (fun w hw => ?_) ?_
  rotate_left
  · (try dsimp only at hw); go_simp; first | done | with_reducible rfl
  refine Eng.TW.take' (v := ?_) rfl rfl (by decide) (by kernel_rfl) (fun w hw => ?_) ?_
  rotate_left
  · (try dsimp only at hw); go_simp; first | done | with_reducible rfl
  refine Eng.TW.call rfl rfl (by decide) (by kernel_rfl) ?_ (Shape_none _) ?_
  · go_simp
  rintro e w3 ⟨rfl, hf⟩
  have HSt3 := Lib.hid (HSt2.out.trans hf (T := fun _ => False) (fun _ _ h => h) (fun _ _ h => h))
  have hSS : w3.cell? ⟨b1, o1 + j * 2, none⟩ = some (.slice y.A1 y.O.length y.c1) ∧ w3.cell? ⟨b1, o1 + j * 2 + 1, none⟩ = some (.slice y.A2 y.I.length y.c2) := ⟨(e1 _ HSt3.out).1, (e1 _ HSt3.out).2⟩
  clear hf
  refine ⟨_, rfl, hSS, ?_⟩
  refine Eng.TW.call rfl rfl (by decide) (by kernel_rfl) ?_ (Ref23.Same ⟨0, 0, 0, 0, [], []⟩ none none none none 0 0 0 0 _ (Sl.empty _ _) (Sl.empty _ _) (Sl.empty _ _) (Sl.empty _ _)) ?_
  · go_simp
  rintro e w4 ⟨rfl, hf⟩
  have HSt4 := Lib.hid (HSt3.out.trans hf (T := fun _ => False) (fun _ _ h => h) (fun _ _ h => h))
  have hSS : w4.cell? ⟨b1, o1 + j * 2, none⟩ = some (.slice y.A1 y.O.length y.c1) ∧ w4.cell? ⟨b1, o1 + j * 2 + 1, none⟩ = some (.slice y.A2 y.I.length y.c2) := ⟨(e1 _ HSt4.out).1, (e1 _ HSt4.out).2⟩
  clear hf
  refine ⟨_, rfl, hSS, ?_⟩
  refine Eng.TW.take' (v := ?_) rfl rfl (by decide) (by kernel_rfl) (fun w hw => ?_) ?_
  rotate_left
  · (try dsimp only at hw); go_simp; first | done | with_reducible rfl
  refine Eng.TW.take' (v := ?_) rfl rfl (by decide) (by kernel_rfl) (fun w hw => ?_) ?_
  rotate_left
  · (try dsimp only at hw); go_simp; first | done | with_reducible rfl
  refine Eng.TW.end_ [43, 44, 45, 46, 47, 48, 49, 50, 51, 52, 53, 54, 55, 56, 57, 58, 59, 60, 61, 62, 63, 64, 65, 66, 67, 68, 69, 70] HN.out (by kernel_rfl) (by kernel_rfl) ?_
  exact HP.out _ _ rfl HSt4.out

set_option maxRecDepth 100000 in
set_option maxHeartbeats 2000000 in
theorem plays (A0 : Option Addr) (c0 : Nat) (acts : List Sh) (w : World) (hS0 : Sl w 2 A0 acts.length c0 (acts.flatMap shc)) (hG : ∀ a ∈ acts, Rd w a) :
    Calls Try.prog 15 #[.slice A0 acts.length c0] w fun e w' => e = .returned (.bool true) ∧ Below w.heap.size w w' := by
  have HFew := Lib.hid (Few A0 c0 acts w hS0 (fun a ha => by have h1 := (hG a ha).1.2.1; have h2 := (hG a ha).1.2.2.1; have h3 := (hG a ha).2.1.2.1; have h4 := (hG a ha).2.1.2.2.1; unfold maxLen at h2 h4; omega))
  by_cases hfew : few acts = false
  · rw [hfew] at HFew
    have HA := Lib.hid (awake w)
    clear hfew hS0 hG
    go_enter Try.func15, Try.ntmps15
    go_wp2_with fail
    refine HFew.out.mono ?_
    rintro e w1 ⟨rfl, rfl⟩
    go_wp2_with fail
    refine HA.out.mono ?_
    rintro e w1 ⟨rfl, hb⟩
    have HB := Lib.hid hb
    clear hb
    go_wp2_with fail
    go_ret
    exact ⟨rfl, HB.out.below (Nat.le_refl _) (fun _ _ h => h)⟩
  · have hfew : few acts = true := by simpa using hfew
    rw [hfew] at HFew
    have hl : acts.length ≤ 20 := by unfold few at hfew; simp at hfew; exact hfew.2
    have H20 : Hid (∀ a ∈ acts, a.O.length ≤ 20 ∧ a.I.length ≤ 20) := fun a ha => by
      unfold few at hfew; simp only [Bool.and_eq_true, List.all_eq_true, decide_eq_true_eq] at hfew
      rw [List.take_of_length_le hl] at hfew
      have := hfew.1 a ha
      simpa [f20] using this
    have HL0 := Lib.hid hS0; have HGa := Lib.hid hG
    have HS : Hid (PS w (w.alloc (.cells zeroV TV)) w.heap.size 0 [] [w.heap.size] none 0) := ⟨VB.new w 0, Ar.nil _ _, by simp, (Below.refl _ _).alloc (Nat.le_refl _) _⟩
    clear hS0 hfew hG
    go_enter Try.func15, Try.ntmps15
    go_wp2_with fail
    refine HFew.out.mono ?_
    rintro e w1 ⟨rfl, rfl⟩
    clear HFew
    go_wp2_with fail
    generalize w.alloc (.cells zeroV TV) = w1 at *
    go_loopg [5, 6, 7, 8, 19] acts.length (fun gk v i _ _ _ wr => ∃ (j n : Nat) (l : List Pl) (F : List Nat) (A : Option Addr) (c : Nat), i = .int .i64 j ∧ j ≤ acts.length ∧ gk = acts.length - j ∧ v = .slice A l.length c ∧ PS w wr w.heap.size n l F A c ∧ l.length ≤ 20 * j ∧ n ≤ 120 * j)
    case atStart => exact ⟨0, 0, [], _, none, 0, rfl, Nat.zero_le _, rfl, rfl, HS.out, by simp, by simp⟩
    case round =>
      clear HS
      obtain ⟨j, n, l, F, A, c, rfl, hj, hg, rfl, hst, hll, hnn⟩ := hrel
      have HG := Lib.hid hg; have HSt := Lib.hid hst; have HLl := Lib.hid hll; have HNn := Lib.hid hnn
      clear hg hst hll hnn
      obtain ⟨wo, rfl⟩ : ∃ wo : World, wo = wr := ⟨_, rfl⟩
      by_cases hlt : j < acts.length
      · obtain ⟨b1, o1, rfl, hb1, hcs⟩ := HL0.out.at hlt (by omega)
        have HD : Hid (∀ w', Below w.heap.size w w' → w'.cell? ⟨b1, o1 + j * 2, none⟩ = some (.slice acts[j].A1 acts[j].O.length acts[j].c1) ∧ w'.cell? ⟨b1, o1 + j * 2 + 1, none⟩ = some (.slice acts[j].A2 acts[j].I.length acts[j].c2)) := fun w' hb =>
          ⟨(hb.cell (p := ⟨b1, _, none⟩) hb1).trans (hcs (j * 2) _ (by rw [← Nat.add_zero (j * 2), flat_at shc_len hlt (by omega)]; rfl)), (hb.cell (p := ⟨b1, _, none⟩) hb1).trans (hcs (j * 2 + 1) _ (by rw [flat_at shc_len hlt (by omega)]; rfl))⟩
        have HR := Lib.hid (HGa.out _ (List.getElem_mem hlt))
        have HTw := Lib.hid (H20.out _ (List.getElem_mem hlt))
        clear hcs
        generalize acts[j] = y at *
        obtain ⟨ar1, ar2⟩ := HR.out.ar HSt.out
        have hO := HTw.out.1; have hI := HTw.out.2
        have HAp := Lib.hid (Ref23.Apply A y.A1 y.A2 c y.c1 y.c2 l y.O y.I wo HSt.out.a.1 ar1.1 ar2.1 (by have := HLl.out; omega) (by omega) (by omega))
        obtain ⟨d0, d1⟩ := HD.out _ HSt.out.f
        have HW := Lib.hid (appR_law l y.O y.I)
        have HLn : Hid ((appR l y.O y.I).1.length ≤ 20 * (j + 1)) := by
          show _ ≤ _
          unfold appR
          cases hr : remR l y.O with
          | none => have := HLl.out; simp; omega
          | some l1 => have := remR_len hr; have := HLl.out; simp; omega
        clear ar1 ar2
        go_wp2_with fail
        refine HAp.out.mono ?_
        rintro e w2 ⟨A', c', rfl, hS', hA', hb2⟩
        have hst2 := HSt.out.fr (Fr.of_below' hb2 _)
        obtain ⟨ar1, ar2⟩ := HR.out.ar hst2
        have hAr' : Ar w2 A' c' (appR l y.O y.I).1 F := ⟨hS', fun hne a ha => by
          rcases hA' with ⟨rfl, hA'⟩ | hA'
          · rw [hA'] at hne; exact HSt.out.a.2 hne a ha
          · intro e; have := hA' a ha; have := HSt.out.v.lt _ e; omega⟩
        have HV := Lib.hid (Shape.Apply w.heap.size n (l.map Pl.k) F y.A1 y.A2 y.c1 y.c2 y.O y.I w2 hst2.v ar1 ar2 HR.out.2.2.1 HR.out.2.2.2 (by omega) (by omega) (by rw [List.length_map]; have := HLl.out; omega) (by have := HNn.out; omega))
        have HArE := Lib.hid hAr'; have HSt2 := Lib.hid hst2
        have HB2 := Lib.hid hb2
        clear d0 d1
        obtain ⟨d0, d1⟩ := HD.out _ hst2.f
        clear hst2 ar1 ar2 hAr' hS' hA' hb2 HAp
        generalize hNx : appR l y.O y.I = NX at *
        obtain ⟨nx, ok⟩ := NX
        have hw1 : ok = hasB (l.map Pl.k) (y.O.map Pl.k) := HW.out.1
        have HW2 : Hid (nx.map Pl.k = appL (l.map Pl.k) (y.O.map Pl.k) (y.I.map Pl.k)) := HW.out.2
        rw [← hw1] at HV
        have HArE : Hid (Ar w2 A' c' nx F) := HArE
        have HLn : Hid (nx.length ≤ 20 * (j + 1)) := HLn
        have q1 : (ok != ok) = false := by simp
        clear hNx hw1 HW
        go_wp2_with fail
        refine HV.out.mono ?_
        rintro e w3 ⟨rfl, F', hv3, ht3⟩
        have HP3 : Hid (PS w w3 w.heap.size (n + 3 * (y.O.length + y.I.length)) nx F' A' c') := by
          refine ⟨by rw [HW2.out]; exact hv3, HArE.out.step ht3, fun b hb => ?_, HSt2.out.f.trans (ht3.fr.below HSt2.out.f.size (fun k hk e => by have := HSt2.out.lo k e; omega))⟩
          rcases (ht3.sub b hb).1 with e | e
          · exact HSt2.out.lo b e
          · have := HSt2.out.f.size; omega
        clear hv3 ht3 HV d0 d1
        have HSh := Lib.hid (Shape_ w.heap.size _ (nx.map Pl.k) F' w3 HP3.out.v (by rw [List.length_map]; have := HLn.out; omega))
        go_wp2_with fail
        refine HSh.out.mono ?_
        rintro e w4 ⟨x, P1, e1, P2, e2, rfl, hI, s1, s2, -, -, hf4⟩
        have HP4 := Lib.hid (HP3.out.fr hf4)
        have HI1 := Lib.hid hI; have HS1 := Lib.hid s1; have HS2 := Lib.hid s2
        clear hI s1 s2 hf4 HSh HP3
        have HO := Lib.hid (Ref23.Of A' c' nx w4 HP4.out.a.1 (by have := HLn.out; omega))
        go_wp2_with fail
        refine HO.out.mono ?_
        rintro e w5 ⟨x2, P3, e3, P4, e4, rfl, hI2, s3, s4, -, -, hf5⟩
        obtain rfl := IsShp.ext HI1.out hI2
        have HP5 := Lib.hid (HP4.out.fr hf5)
        have HSa := Lib.hid (Ref23.Same x P1 P2 P3 P4 e1 e2 e3 e4 w5 (HS1.out.fr hf5 (fun _ _ h => h)) (HS2.out.fr hf5 (fun _ _ h => h)) s3 s4)
        clear hI2 s3 s4 hf5 HO HS1 HS2 HI1 HP4
        go_wp2_with fail
        refine HSa.out.mono ?_
        rintro e w6 ⟨rfl, hf6⟩
        have HP6 := Lib.hid (HP5.out.fr hf6)
        clear hf6 HSa HP5
        go_upto_region 13 with (fail)
        refine p13 (by kernel_rfl) _ _ w6 b1 o1 c0 acts.length j y _ rfl (no_eq _ _) hlt HTw.out.1 HTw.out.2 HR.out.2.2.1
          (fun w' hf => HD.out _ (HP6.out.fr hf).f) (fun w' hf => (HR.out.ar (HP6.out.fr hf)).1.1) (fun w' hf => (HR.out.ar (HP6.out.fr hf)).2.1) rfl rfl rfl rfl ?_
        intro z w7 hz hf7
        simp only [Eng.setAll, Act.put, List.setIfInBounds_toArray, List.set_cons_succ, List.set_cons_zero]
        rw [hz]
        have HP7 := Lib.hid (HP6.out.fr hf7)
        clear hz hf7 HP6
        go_wp2_with fail
        go_roundg (acts.length - (j + 1))
        case rel => exact ⟨j + 1, _, nx, F', A', c', by go_num, by omega, rfl, rfl, HP7.out, HLn.out, by have := HNn.out; omega⟩
        case measure => have := HG.out; omega
      · have HA := Lib.hid (awake wo)
        go_wp2_with fail
        refine HA.out.mono ?_
        rintro e w1 ⟨rfl, hf⟩
        have HB := Lib.hid (HSt.out.fr hf).f
        clear hf
        go_wp2_with fail
        go_ret
        exact ⟨rfl, HB.out⟩
end Law23
end Go.Proofs.Ytolpdgaomlhgdaa
