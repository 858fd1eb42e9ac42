/- Histograms: the walks of their methods. -/
import Derived.Test.YtolpdgaomlhgdaaHistQ
import Derived.Test.YtolpdgaomlhgdaaBucket
import Derived.Test.YtolpdgaomlhgdaaWide2
import Derived.Test.YtolpdgaomlhgdaaBag2
namespace Go.Proofs.Ytolpdgaomlhgdaa
open Go.RowKit
namespace Hist
open HistP BagP Bag Wide Bucket
attribute [local go_sem] Eng.ev Eng.getO_cons Eng.getO_nil
abbrev TH : TypeId := 102
abbrev TI : TypeId := 3
/-- A histogram in block B; its blocks are F. -/
def HB (w : World) (B : Nat) (x : HS) (F : List Nat) : Prop := ∃ c G, BagIn w B 0 c TH x.1 G ∧ F = B :: G ∧ c.size = 5 ∧ c[3]? = some (.int .i64 x.2.1) ∧ c[4]? = some (.int .i64 x.2.2) ∧ HistP.May x.2
section
variable {w w' w0 : World} {B : Nat} {x : HS} {F F0 : List Nat}
theorem HB.fr {S : Nat → Prop} (h : HB w B x F) (hf : Fr S w w') (hs : ∀ b ∈ F, ¬ S b) : HB w' B x F := by
  obtain ⟨c, G, h1, rfl, h2⟩ := h
  exact ⟨c, G, h1.fr hf hs, rfl, h2⟩
theorem HB.lt (h : HB w B x F) : ∀ b ∈ F, b < w.heap.size := by obtain ⟨c, G, h, rfl, -⟩ := h; exact h.lt
theorem HB.ok (h : HB w B x F) : Ok x.1 := by obtain ⟨c, G, h, -⟩ := h; exact h.ok
theorem HB.mem (h : HB w B x F) : B ∈ F := by obtain ⟨c, G, h, rfl, -⟩ := h; simp
theorem HB.may (h : HB w B x F) : HistP.May x.2 := by obtain ⟨c, G, -, -, -, -, -, h⟩ := h; exact h
theorem HB.cells (h : HB w B x F) : w.cell? ⟨B, 3, none⟩ = some (.int .i64 x.2.1) ∧ w.cell? ⟨B, 4, none⟩ = some (.int .i64 x.2.2) ∧ w.frozen? ⟨B, 3, none⟩ = false ∧ w.frozen? ⟨B, 4, none⟩ = false := by
  obtain ⟨c, G, h, -, -, h3, h4, -⟩ := h
  exact ⟨(h.1.cell 3).trans h3, (h.1.cell 4).trans h4, h.1.free 3, h.1.free 4⟩
theorem HB.mapP (h : HB w B x F) : ∃ G, AvlII.MapP w (some ⟨B, 0, none⟩) x.1 G ∧ ∀ b ∈ G, b ∈ F := by
  obtain ⟨c, G, h, rfl, -⟩ := h
  exact ⟨G, h.mapP, fun b hb => by simp [hb]⟩
theorem HB.new (w : World) : HB (w.alloc (.cells #[.pointer none, .int .i64 0, .int .i64 0, .int .i64 0, .int .i64 0] TH)) w.heap.size ([], (0, 0)) [w.heap.size] :=
  ⟨_, [], ⟨heap_new _ _, ⟨none, rfl, rfl, rfl, AvlII.MapIn.nil _, fun p h => by simp at h, by simp [sumL]⟩, by simp⟩, rfl, rfl, rfl, rfl, May.zero⟩
/-- What a bag's method leaves. -/
theorem HB.of_post {c : Array Value} {G : List Nat} {L' : List (Int × Int)} {s : Int × Int} (hc : c.size = 5) (h3 : c[3]? = some (.int .i64 s.1)) (h4 : c[4]? = some (.int .i64 s.2)) (hm : HistP.May s) (hlt : B < w.heap.size) (h : BagPost B 0 c TH L' G w w') :
    ∃ F', HB w' B (L', s) F' ∧ Tn (B :: G) F' w w' := by
  obtain ⟨c', G', h1, h2, hk, hs, hf⟩ := h
  refine ⟨B :: G', ⟨c', G', h1, rfl, h2.trans hc, (hk 3 (by omega)).trans h3, (hk 4 (by omega)).trans h4, hm⟩, hf.mono (fun i _ hi => by simpa using hi), fun x hx => ?_⟩
  have hl := h1.lt x hx
  rcases List.mem_cons.1 hx with rfl | hx
  · exact ⟨.inl (by simp), hl⟩
  · exact ⟨(hs x hx).elim (fun h => .inl (by simp [h])) .inr, hl⟩
/-- The sum is written. -/
theorem HB.setS (h : HB w B x F) {s : Int × Int} (hs : HistP.May s) : HB ((w.setCell ⟨B, 3, none⟩ (.int .i64 s.1)).setCell ⟨B, 4, none⟩ (.int .i64 s.2)) B (x.1, s) F ∧ Tn F F w ((w.setCell ⟨B, 3, none⟩ (.int .i64 s.1)).setCell ⟨B, 4, none⟩ (.int .i64 s.2)) := by
  have hlt := h.lt
  have hB := h.mem
  obtain ⟨c, G, ⟨h1, h2, h3⟩, rfl, h5, h6, h7, h8⟩ := h
  have f1 := (Fr.setCell w ⟨B, 3, none⟩ (.int .i64 s.1) (S := (· = B)) rfl).trans (Fr.setCell (w.setCell ⟨B, 3, none⟩ (.int .i64 s.1)) ⟨B, 4, none⟩ (.int .i64 s.2) (S := (· = B)) rfl) (T := (· = B)) (fun _ _ h => h) (fun _ _ h => h)
  refine ⟨⟨_, G, ⟨(h1.set 3 _).set 4 _, ?_, h3⟩, rfl, by simp [h5], by simp [h5], by simp [h5], hs⟩, f1.mono (fun i _ e => by simp [e]), fun y hy => ⟨.inl hy, Nat.lt_of_lt_of_le (hlt y hy) f1.size⟩⟩
  obtain ⟨r, a0, a1, a2, hM, hP⟩ := h2.fr f1 (fun b hb e => h3 (e ▸ hb))
  exact ⟨r, by simpa using a0, by simpa using a1, by simpa using a2, hM, hP⟩
/-- It has turned since w0. -/
structure HT (w0 : World) (F0 : List Nat) (w : World) (B : Nat) (x : HS) (F : List Nat) : Prop where
  h : HB w B x F
  t : Tn F0 F w0 w
theorem HB.ht (h : HB w B x F) : HT w F w B x F := ⟨h, Tn.refl h.lt⟩
theorem HT.fr (h : HT w0 F0 w B x F) (hf : Fr (fun _ => False) w w') : HT w0 F0 w' B x F := ⟨h.h.fr hf (fun _ _ h => h), h.t.trans (Tn.of_fr hf h.h.lt)⟩
theorem HT.to {y : HS} {F' : List Nat} (h : HT w0 F0 w B x F) (k : HB w' B y F') (t : Tn F F' w w') : HT w0 F0 w' B y F' := ⟨k, h.t.trans t⟩
theorem HT.setS (h : HT w0 F0 w B x F) {s : Int × Int} (hs : HistP.May s) : HT w0 F0 ((w.setCell ⟨B, 3, none⟩ (.int .i64 s.1)).setCell ⟨B, 4, none⟩ (.int .i64 s.2)) B (x.1, s) F := h.to (h.h.setS hs).1 (h.h.setS hs).2
theorem HT.bagAdd (h : HT w0 F0 w B x F) (k m : Int) (sz : x.1.length < 144115188075855871) :
    Calls Try.prog 46 #[.pointer (some ⟨B, 0, none⟩), .int .i64 k, .int .i64 m] w fun e w' => e = .returned (.bool (okA m x.1)) ∧ ∃ F', HT w0 F0 w' B (addL k m x.1, x.2) F' := by
  have hlt := h.h.lt B h.h.mem
  obtain ⟨⟨c, G, h1, rfl, h5, h6, h7, h8⟩, ht⟩ := h
  refine (Bag.Add B 0 c TH k m x.1 G w h1 sz).mono ?_
  rintro e w' ⟨he, hp⟩
  obtain ⟨F', hb, hT⟩ := HB.of_post h5 h6 h7 h8 hlt hp
  exact ⟨he, F', hb, ht.trans hT⟩
theorem HT.bagTake (h : HT w0 F0 w B x F) (k m : Int) (sz : x.1.length < 144115188075855871) :
    Calls Try.prog 48 #[.pointer (some ⟨B, 0, none⟩), .int .i64 k, .int .i64 m] w fun e w' => e = .returned (.bool (okT k m x.1)) ∧ ∃ F', HT w0 F0 w' B (takeL k m x.1, x.2) F' := by
  have hlt := h.h.lt B h.h.mem
  obtain ⟨⟨c, G, h1, rfl, h5, h6, h7, h8⟩, ht⟩ := h
  refine (Bag.Take B 0 c TH k m x.1 G w h1 sz).mono ?_
  rintro e w' ⟨he, hp⟩
  obtain ⟨F', hb, hT⟩ := HB.of_post h5 h6 h7 h8 hlt hp
  exact ⟨he, F', hb, ht.trans hT⟩
end
theorem Len_none (w : World) : Calls Try.prog 72 #[.pointer none] w fun e w' => e = .returned (.int .i64 0) ∧ w = w' := by
  go_enter Try.func72, Try.ntmps72
  go_wp2
  go_ret
  exact ⟨rfl, rfl⟩
theorem Len (B : Nat) (x : HS) (F : List Nat) (w : World) (h : HB w B x F) : Calls Try.prog 72 #[.pointer (some ⟨B, 0, none⟩)] w fun e w' => e = .returned (.int .i64 (sumL x.1)) ∧ w = w' := by
  obtain ⟨c, G, h1, -⟩ := h
  have HL := Lib.hid (Bag.Len B 0 c TH x.1 G w h1)
  clear h1
  generalize sumL x.1 = n at *
  go_enter Try.func72, Try.ntmps72
  go_wp2_with fail
  refine HL.out.mono ?_
  rintro e w1 ⟨rfl, rfl⟩
  go_wp2_with fail
  go_ret
  exact ⟨rfl, rfl⟩
theorem Sum_none (w : World) : Calls Try.prog 73 #[.pointer none] w (PostS (0, 0) w) := by
  go_enter Try.func73, Try.ntmps73
  go_wp2
  exact bodyPost_ret (results_cell_row rfl _ _ w.heap.size TS _ (0, 0) _ rfl (heap_new _ _) Try.underlying100 rfl (by kernel_rfl)) rfl ⟨rfl, Fr.alloc _ _ _⟩
theorem Sum (B : Nat) (x : HS) (F : List Nat) (w : World) (h : HB w B x F) : Calls Try.prog 73 #[.pointer (some ⟨B, 0, none⟩)] w (PostS x.2 w) := by
  obtain ⟨c3, c4, -, -⟩ := (h.fr (Fr.alloc (fun _ => False) w (.cells #[.int .i64 0, .int .i64 0] TS)) (fun _ _ h => h)).cells
  have hne : ¬ w.heap.size = B := fun e => by have := h.lt B h.mem; omega
  clear h
  obtain ⟨L, s, t⟩ := x
  dsimp only at c3 c4 ⊢
  go_enter Try.func73, Try.ntmps73
  go_wp2
  exact bodyPost_ret (results_cell_row rfl _ _ w.heap.size TS _ (0, 0) _ rfl (heap_new _ _) Try.underlying100 rfl (by kernel_rfl)) rfl ⟨rfl, Fr.alloc _ _ _⟩
theorem Buckets_none (w : World) : Calls Try.prog 74 #[.pointer none] w fun e w' => e = .returned (.slice none 0 0) ∧ w = w' := by
  go_enter Try.func74, Try.ntmps74
  go_wp2
  go_ret
  exact ⟨rfl, rfl⟩
theorem Buckets (B : Nat) (x : HS) (F : List Nat) (w : World) (h : HB w B x F) (hlen : x.1.length ≤ 1000000000000) : Calls Try.prog 74 #[.pointer (some ⟨B, 0, none⟩)] w fun e w' => ∃ A c, e = .returned (.slice A x.1.length c) ∧ Sl w' 2 A x.1.length c (x.1.flatMap pc) ∧ (∀ a, A = some a → w.heap.size ≤ a.block ∧ a.block < w'.heap.size) ∧ Fr (fun _ => False) w w' := by
  obtain ⟨c, G, h1, -⟩ := h
  have HL := Lib.hid (Bag.Counts B 0 c TH x.1 G w h1 hlen)
  clear h1
  go_enter Try.func74, Try.ntmps74
  go_wp2_with fail
  refine HL.out.mono ?_
  rintro e w1 ⟨v, rfl, hown, hb⟩
  obtain ⟨A, c, rfl, hS, hA⟩ := Sl.of_own hown
  have HS := Lib.hid hS; have HA := Lib.hid hA; have HB := Lib.hid hb
  clear hown hS hA hb
  go_wp2_with fail
  go_ret
  exact ⟨A, c, rfl, HS.out, fun a ha => ⟨(HA.out a ha).1, (HA.out a ha).2.2⟩, Fr.of_below' HB.out _⟩
theorem Add_none (d : Int) (w : World) : Calls Try.prog 63 #[.pointer none, .int .i64 d] w fun e w' => e = .returned (.tuple #[]) ∧ w = w' := by
  go_enter Try.func63, Try.ntmps63
  go_wp2
  refine bodyPost_ret (results_none rfl _ _ _) rfl ?_
  exact ⟨rfl, rfl⟩
set_option maxRecDepth 100000 in
set_option maxHeartbeats 400000 in
theorem a1 {ops : Array Oper} (hops : Eng.fnOps Try.f63 1 = ops) (a0 : Act) (Q : Exit → Act → World → Prop) (w0 : World) (F0 : List Nat) (w : World) (B : Nat) (x_ : HS) (F : List Nat) (d : Int) (hst : HT w0 F0 w B x_ F) (hlen : x_.1.length < 144115188075855871)
    (hn : a0.tmps.size = 21) (h_0 : a0.tmps.getD 0 undef = .pointer (some ⟨B, 0, none⟩)) (h_1 : a0.tmps.getD 1 undef = .int .i64 d)
    (hpost : ∀ (x : Nat → Value) (w' : World) (F' : List Nat), HT w0 F0 w' B (addL (bk d) 1 x_.1, x_.2) F' → Q .normal (Eng.setAll a0 [6, 7, 8, 9, 10, 11] x) w') :
    (Code.region 1 ops true).wp Try.prog Q a0 w := by
  simp only [Eng.fnOps, Eng.regOps, Try.f63, Option.bind_some, Option.getD_some, Nat.reduceEqDiff, ↓reduceIte, Nat.reduceBEq] at hops
  subst hops
  have HSt := Lib.hid (hst.fr (Fr.drew _ _))
  have hSS : True := trivial
  refine Eng.regionN [(0, true), (1, true), (2, true), (3, true), (4, false), (5, false)] (fun w' => True) (by kernel_rfl) 21 hn (by kernel_rfl) rfl (by kernel_rfl) (hSS) (fun a b ha hb => ?_)
  subst ha
  have hb0 : b 0 = .pointer (some ⟨B, 0, none⟩) := (hb 0).symm.trans h_0
  have hb1 : b 1 = .int .i64 d := (hb 1).symm.trans h_1
  clear hb h_0 h_1
  have HP := Lib.hid hpost; have HN := Lib.hid hn
  clear hpost hn
  refine Eng.Sch.take (v := ?_) rfl rfl (by decide) (by kernel_rfl) (fun w hw => ?_) ?_
  rotate_left
  · (try dsimp only at hw); go_simp; first | done | with_reducible rfl
  refine Eng.Sch.take (v := ?_) rfl rfl (by decide) (by kernel_rfl) (fun w hw => ?_) ?_
  rotate_left
  · (try dsimp only at hw); go_simp; first | done | with_reducible rfl
  refine Eng.Sch.take (v := ?_) rfl rfl (by decide) (by kernel_rfl) (fun w hw => ?_) ?_
  rotate_left
  · (try dsimp only at hw); go_simp; first | done | with_reducible rfl
  refine Eng.Sch.take (v := ?_) rfl rfl (by decide) (by kernel_rfl) (fun w hw => ?_) ?_
  rotate_left
  · (try dsimp only at hw); go_simp; first | done | with_reducible rfl
  refine Eng.Sch.call rfl rfl (by decide) (by kernel_rfl) ?_ (Bucket.Of d _) ?_
  · go_simp
  rintro e w_1 ⟨rfl, rfl⟩
  refine ⟨_, rfl, hSS, ?_⟩
  refine Eng.Sch.call rfl rfl (by decide) (by kernel_rfl) ?_ (HSt.out.bagAdd (bk d) 1 hlen) ?_
  · go_simp
  rintro e w2 ⟨rfl, F2, hT⟩
  have HSt1 := Lib.hid (hT)
  have hSS : True := trivial
  clear hT
  refine ⟨_, rfl, hSS, ?_⟩
  refine Eng.Sch.end_ [6, 7, 8, 9, 10, 11] HN.out (by kernel_rfl) (by kernel_rfl) ?_
  exact HP.out _ _ _ HSt1.out

set_option maxRecDepth 100000 in
theorem Add (B : Nat) (d : Int) (x : HS) (F : List Nat) (w : World) (h : HB w B x F) (hlen : x.1.length < 144115188075855871) : Calls Try.prog 63 #[.pointer (some ⟨B, 0, none⟩), .int .i64 d] w fun e w' => e = .returned (.tuple #[]) ∧ ∃ F', HB w' B (addH d x) F' ∧ Tn F F' w w' := by
  have HH := Lib.hid h.ht
  have HAd := fun w => Lib.hid (Wide.Add x.2 d h.may w)
  have hm := h.may.add d
  have HM := Lib.hid hm
  have HE : Hid (addH d x = (addL (bk d) 1 x.1, addS x.2 d)) := rfl
  clear h hm
  go_enter Try.func63, Try.ntmps63
  go_upto_region 1 with (fail)
  refine a1 (by kernel_rfl) _ _ w F w B x F d HH.out hlen rfl rfl rfl ?_
  intro y w1 F1 hst
  simp only [Eng.setAll, Act.put, List.setIfInBounds_toArray, List.set_cons_succ, List.set_cons_zero]
  have H1 := Lib.hid hst
  obtain ⟨c3, c4, f3, f4⟩ := hst.h.cells
  dsimp only at c3 c4
  generalize addL (bk d) 1 x.1 = L' at *
  clear hst HH
  obtain ⟨L, s, t⟩ := x
  dsimp only at c3 c4 HAd HM HE H1
  go_wp2_with fail
  refine (HAd _).out.mono ?_
  rintro e w2 ⟨rfl, hf⟩
  have H2 := Lib.hid (H1.out.fr hf)
  clear c3 c4 f3 f4 hf H1 HAd
  have H3 := Lib.hid (H2.out.setS HM.out)
  obtain ⟨c3, c4, f3, f4⟩ := H2.out.h.cells
  dsimp only at c3 c4 H3
  generalize addS (s, t) d = s' at *
  obtain ⟨s1, t1⟩ := s'
  dsimp only at H3
  go_wp2_with fail
  go_end0
  exact ⟨rfl, F1, by rw [HE.out]; exact H3.out.h, H3.out.t⟩
set_option maxRecDepth 100000 in
theorem Of (A : Option Addr) (c : Nat) (l : List Int) (w : World) (hS : Sl w 1 A l.length c (ints l)) (hlen : l.length ≤ 1000) : Calls Try.prog 60 #[.slice A l.length c] w fun e w' => e = .returned (.pointer (some ⟨w.heap.size, 0, none⟩)) ∧ ∃ F, HB w' w.heap.size (ofH l) F ∧ (∀ b ∈ F, w.heap.size ≤ b ∧ b < w'.heap.size) ∧ Fr (fun _ => False) w w' := by
  have HS := Lib.hid hS
  have H0 := Lib.hid (HB.new w)
  clear hS
  go_enter Try.func60, Try.ntmps60
  go_wp2_with fail
  go_loopg [5, 10] l.length (fun gk _ i wr => ∃ (k : Nat) (F : List Nat), i = .int .i64 k ∧ k ≤ l.length ∧ gk = l.length - k ∧ HB wr w.heap.size (ofH (l.take k)) F ∧ (ofH (l.take k)).1.length ≤ k ∧ (∀ b ∈ F, w.heap.size ≤ b) ∧ Fr (fun _ => False) w wr)
  case atStart => exact ⟨0, _, rfl, Nat.zero_le _, rfl, H0.out, Nat.le_refl _, by simp, Fr.alloc _ _ _⟩
  case round =>
    clear H0
    obtain ⟨k, F, rfl, hk, hg, hst, hl, hF, hfr⟩ := hrel
    have HG := Lib.hid hg; have HSt := Lib.hid hst; have HF := Lib.hid hF; have HFr := Lib.hid hfr
    clear hg hst hF hfr
    by_cases hlt : k < l.length
    · obtain ⟨b1, o1, rfl, hb1, c1⟩ := HS.out.at hlt (by omega)
      have e1 : wr.cell? ⟨b1, o1 + k, none⟩ = some (.int .i64 l[k]) := (World.cell?_of_block (w := w) (a := ⟨b1, _, none⟩) (HFr.out.block b1 hb1 (fun h => h))).trans (c1 k _ (by simp [ints, hlt]))
      have HAd := Lib.hid (Add w.heap.size l[k] (ofH (l.take k)) F wr HSt.out (by omega))
      have HSn : Hid (ofH (l.take (k + 1)) = addH l[k] (ofH (l.take k))) := by show _ = _; unfold ofH; rw [List.take_succ_eq_append_getElem hlt, List.foldl_append]; rfl
      clear c1
      generalize l[k] = d at *
      go_wp2_with fail
      refine HAd.out.mono ?_
      rintro e w2 ⟨rfl, F2, hb2, ht2⟩
      have H2 := Lib.hid hb2; have HT2 := Lib.hid ht2
      clear hb2 ht2 HAd
      go_wp2_with fail
      go_roundg (l.length - (k + 1))
      case rel =>
        refine ⟨k + 1, F2, by go_num, by omega, rfl, by rw [HSn.out]; exact H2.out, by rw [HSn.out]; exact Nat.le_trans (addL_len _ _ _) (by omega), fun b hb => ?_, ?_⟩
        · have h2 := HFr.out.size
          rcases (HT2.out.sub b hb).1 with h | h
          · exact HF.out b h
          · omega
        · exact HFr.out.trans HT2.out.fr (fun _ _ h => h) (fun i hi h => by have := HF.out i h; omega)
      case measure => have := HG.out; omega
    · obtain rfl : k = l.length := by omega
      rw [List.take_length] at HSt
      go_wp2_with fail
      go_ret
      exact ⟨rfl, F, HSt.out, fun b hb => ⟨HF.out b hb, HSt.out.lt b hb⟩, HFr.out⟩
end Hist
end Go.Proofs.Ytolpdgaomlhgdaa
