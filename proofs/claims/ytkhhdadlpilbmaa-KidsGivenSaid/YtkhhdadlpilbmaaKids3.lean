/- Spans by their parents: how many the kids of one are. -/
import Derived.Test.YtkhhdadlpilbmaaKids2
namespace Go.Proofs.Ytkhhdadlpilbmaa
open Go.RowKit Go.Shelf
attribute [local go_sem] Oper.semAt_some
namespace Kds
open KeyP SetP KidsP
def KidsPost (a : Option Addr) (t p : Int) (w : World) (e : Ending) (w' : World) : Prop := e = .returned (.func (.func 77) #[] #[.pointer (some ⟨w.heap.size, 0, none⟩), .pointer (some ⟨w.heap.size + 1, 0, none⟩), .pointer (some ⟨w.heap.size + 2, 0, none⟩)]) ∧ Gw w w' 3 ∧ Bk w' w.heap.size #[.pointer a] TP ∧ Bk w' (w.heap.size + 1) #[.int .i64 t] TI ∧ Bk w' (w.heap.size + 2) #[.int .i64 p] TI
theorem Kids_ (a : Option Addr) (t p : Int) (w : World) : Calls Try.prog 26 #[.pointer a, .int .i64 t, .int .i64 p] w (KidsPost a t p w) := by
  have HP : Hid (KidsPost a t p w (.returned (.func (.func 77) #[] #[.pointer (some ⟨w.heap.size, 0, none⟩), .pointer (some ⟨w.heap.size + 1, 0, none⟩), .pointer (some ⟨w.heap.size + 2, 0, none⟩)])) (((w.alloc (.cells #[.pointer a] TP)).alloc (.cells #[.int .i64 t] TI)).alloc (.cells #[.int .i64 p] TI))) := by
    have fa := fun (w : World) (o : Obj) => Fr.alloc (fun _ => False) w o
    refine ⟨rfl, ⟨((fa _ _).trans (fa _ _) (T := fun _ => False) (fun _ _ h => h) (fun _ _ h => h)).trans (fa _ _) (fun _ _ h => h) (fun _ _ h => h), by simp⟩, ((Bk.new w _ _).fr (fa _ _) (fun _ _ h => h)).fr (fa _ _) (fun _ _ h => h), ?_, ?_⟩
    · have := (Bk.new (w.alloc (.cells #[.pointer a] TP)) #[.int .i64 t] TI).fr (fa _ (.cells #[.int .i64 p] TI)) (fun _ _ h => h)
      rwa [World.size_alloc] at this
    · have := Bk.new ((w.alloc (.cells #[.pointer a] TP)).alloc (.cells #[.int .i64 t] TI)) #[.int .i64 p] TI
      rwa [World.size_alloc, World.size_alloc] at this
  go_enter Try.func26, Try.ntmps26
  go_wp2_with fail
  go_ret
  exact HP.out
theorem Kids_seq_none (FP : List Nat) (Bx : Nat) (a2 a3 : Value) (w : World) (hx : Bk w Bx #[.pointer none] TP) :
    SeqP Try.prog 77 #[.pointer (some ⟨Bx, 0, none⟩), a2, a3] (fun k : Int => #[.int .i64 k]) FP 8 [] w := by
  intro n l J Jx W hW hJ hJx hY h0
  have c1 := (hx.fr (Fr.of_below' hW (fun _ => False)) (fun _ _ h => h)).cell 0
  have HP : Hid (W.heap.size ≤ (W.alloc (.cells #[.func (.yield l) #[] #[]] TY)).heap.size ∧ (J [] (W.alloc (.cells #[.func (.yield l) #[] #[]] TY)) ∨ ∃ pre, pre <+: [] ∧ Jx pre (W.alloc (.cells #[.func (.yield l) #[] #[]] TY)))) := ⟨by simp, .inl (hJ _ _ _ h0 (Fr.alloc _ _ _))⟩
  have lt1 := lt_of_heap (hx.fr (Fr.of_below' hW (fun _ => False)) (fun _ _ h => h))
  clear hx hW hJ hJx hY h0
  refine callsIn_of_wp_marks Try.func77 rfl trivial ?_ rfl
  simp only [Try.ntmps77, List.size_toArray, List.length_cons, List.length_nil, Nat.reduceAdd, Nat.reduceSub, Array.replicate_succ, Array.replicate_zero, List.push_toArray, List.append_toArray, List.nil_append, List.cons_append]
  refine wpIn_wide.2 ?_
  go_wp2_with fail
  go_step3
  go_wp2_with fail
  rw [Exit.noGoto_ret]
  exact ⟨.tuple #[], by simp [results, Try.results77, go_sem], ⟨_, rfl⟩, HP.out⟩
/-- How many kids have been counted. -/
structure KF (w W1 : World) (N : Nat) (m : Nat) (W : World) : Prop where
  c : Bk W N #[.int .i64 (m : Int)] TI
  b : Below w.heap.size w W
  z : W1.heap.size ≤ W.heap.size
set_option maxRecDepth 100000 in
set_option maxHeartbeats 1000000 in
theorem Fan_of (a : Option Addr) (LL : List Int) (F : List Nat) (t p : Int) (w : World) (hF : ∀ b ∈ F, b < w.heap.size) (hlen : LL.length ≤ 1000000)
    (hq : ∀ W1 Bx Bt Bi, Fr (fun _ => False) w W1 → Bk W1 Bx #[.pointer a] TP → Bk W1 Bt #[.int .i64 t] TI → Bk W1 Bi #[.int .i64 p] TI → SeqP Try.prog 77 #[.pointer (some ⟨Bx, 0, none⟩), .pointer (some ⟨Bt, 0, none⟩), .pointer (some ⟨Bi, 0, none⟩)] (fun k : Int => #[.int .i64 k]) (Bt :: Bi :: F) 8 LL W1) :
    Calls Try.prog 21 #[.pointer a, .int .i64 t, .int .i64 p] w fun e w' => e = .returned (.int .i64 LL.length) ∧ Fr (fun _ => False) w w' := by
  have HQ := Lib.hid hq; have HF := Lib.hid hF; have HLen := Lib.hid hlen
  have HK := fun w => Lib.hid (Kids_ a t p w)
  clear hq hF hlen
  refine (callsIn_wide (n := 3)).1 ?_
  refine callsIn_of_wp_marks Try.func21 rfl trivial ?_ rfl
  simp only [Try.ntmps21, List.size_toArray, List.length_cons, List.length_nil, Nat.reduceAdd, Nat.reduceSub, Array.replicate_succ, Array.replicate_zero, List.push_toArray, List.append_toArray, List.nil_append, List.cons_append]
  refine wpIn_wide.2 ?_
  go_wp2_with fail
  have hN := Bk.new w #[.int .i64 (0 : Int)] TI
  have hfa := Fr.alloc (fun _ => False) w (.cells #[.int .i64 (0 : Int)] TI)
  have hz0 : (w.alloc (.cells #[.int .i64 (0 : Int)] TI)).heap.size = w.heap.size + 1 := by simp
  generalize w.alloc (.cells #[.int .i64 (0 : Int)] TI) = V at *
  refine (HK V).out.mono ?_
  rintro e W1 ⟨rfl, hg, hbx, hbt, hbi⟩
  have hf1 := hfa.trans hg.f (T := fun _ => False) (fun _ _ h => h) (fun _ _ h => h)
  have hseq := HQ.out W1 _ _ _ hf1 hbx hbt hbi
  have hz := hg.z
  rw [hz0] at hseq hz ⊢
  have HZ : Hid (W1.heap.size = w.heap.size + 4) := by show _ = _; omega
  have HN1 : Hid (Bk W1 w.heap.size #[.int .i64 (0 : Int)] TI) := hN.fr hg.f (fun _ _ h => h)
  have HB1 : Hid (Below w.heap.size w W1) := hf1.below (Nat.le_refl _) (fun _ _ h => h)
  clear hN hfa hz0 hg hbx hbt hbi hf1 hz HK
  go_wp2_with fail
  refine (wpIn_wide (n := 3)).1 ?_
  refine range_P' (n := 3) (a₁ := ?fr) (gf := 77) (lb := #[.pointer (some ⟨w.heap.size + 1, 0, none⟩), .pointer (some ⟨w.heap.size + 1 + 1, 0, none⟩), .pointer (some ⟨w.heap.size + 1 + 2, 0, none⟩)]) rfl (enters_of Try.func77 (by kernel_rfl) rfl)
    hseq (fun b hb => by
      have := HZ.out
      rcases List.mem_cons.1 hb with rfl | hb
      · omega
      · rcases List.mem_cons.1 hb with rfl | hb
        · omega
        · have := HF.out b hb; omega) (fun _ => rfl)
    (fun (pre : List Int) (A : World) => KF w W1 w.heap.size pre.length A)
    (fun k (_ : List Int) (A : World) => False)
    (fun pre A C hA hf => ⟨hA.c.fr hf (fun b hb h => by simp at hb; have := h.1; have := HZ.out; omega), hA.b.trans (hf.below (by have := hA.z; have := HZ.out; omega) (fun k hk h => by have := h.1; have := HZ.out; omega)), Nat.le_trans hA.z hf.size⟩)
    (fun k pre A C hA hf => hA.elim)
    ⟨HN1.out, HB1.out, Nat.le_refl _⟩ ?assign ?body ?done ?stop
  case assign =>
    intro l m x W K hK
    gi_wp2
    exact hK
  case body =>
    rintro l2 m pre x W2 hI hsz hpre rfl ⟨r, hl⟩ hd
    (try dsimp only)
    have hml : pre.length < LL.length := by have := hpre.length_le; rw [List.length_append, List.length_singleton] at this; omega
    have HI := Lib.hid hI; have HSz := Lib.hid hsz
    have cc := hI.c.cell 0
    have fc := hI.c.free 0
    have hlen := HLen.out
    clear hI hl hd hpre hsz
    gi_wp2_with fail
    have hn := HZ.out
    have hf := fun u => Fr.setCell W2 ⟨w.heap.size, 0, none⟩ u (S := (· = w.heap.size)) rfl
    refine ⟨KeptR.of_fr (hf _) HSz.out (fun b hb e => by have := hb.1; omega), (hf _).size, KeptL.of_fr (hf _) (fun b hb => ?_), ?_⟩
    · have := HSz.out
      rcases List.mem_cons.1 hb with rfl | hb
      · exact ⟨by omega, by omega⟩
      · rcases List.mem_cons.1 hb with rfl | hb
        · exact ⟨by omega, by omega⟩
        · have := HF.out b hb; exact ⟨by omega, by omega⟩
    · show KF w W1 w.heap.size (pre ++ [x]).length _
      rw [List.length_append, List.length_singleton]
      have := HI.out.z
      exact ⟨by simpa using HI.out.c.set 0 _, HI.out.b.trans ((hf _).below (by omega) (fun k hk e => by omega)), Nat.le_trans HI.out.z (hf _).size⟩
  case done =>
    rintro W3 hsz hI hK
    have cc := hI.c.cell 0
    have HI := Lib.hid hI; have HK := Lib.hid hK
    clear hI hK
    go_wp2_with fail
    try rw [Exit.noGoto_ret]
    refine ⟨by simp, .inl ⟨_, _, rfl, run_takeDeferred HK.out, ?_⟩⟩
    have hn := HZ.out
    have hf := Fr.putObj W3 W1.heap.size (.deferred none) (S := (· = W1.heap.size)) rfl
    exact ⟨_, by simp [results, Try.results21, go_sem], rfl, Fr.of_below' (HI.out.b.trans (hf.below (by omega) (fun k hk e => by omega))) _⟩
  case stop =>
    rintro k pre W3 hsz hpre h hK
    exact h.elim
theorem Fan (B : Nat) (L : List Sn) (F : List Nat) (t p : Int) (w : World) (h : IB w B L F) (wt : wf64 t) (wp : wf64 p) (hlen : L.length ≤ 1000000) : Calls Try.prog 21 #[.pointer (some ⟨B, 0, none⟩), .int .i64 t, .int .i64 p] w fun e w' => e = .returned (.int .i64 (kids t p L).length) ∧ Fr (fun _ => False) w w' :=
  Fan_of (some ⟨B, 0, none⟩) (kids t p L) F t p w h.lt (by unfold kids ofP; rw [List.length_map]; exact Nat.le_trans (List.length_filter_le _ _) hlen) (fun W1 Bx Bt Bi hf hx ht hi =>
    Kids_seq _ B Bx Bt Bi L F t p W1 (h.fr hf (fun _ _ h => h)) hx ht hi wt wp (fun b hb => by simp [hb]) (by simp) (by simp) (fun b hb => by
      rcases List.mem_cons.1 hb with rfl | hb
      · exact lt_of_heap ht
      · rcases List.mem_cons.1 hb with rfl | hb
        · exact lt_of_heap hi
        · exact Nat.lt_of_lt_of_le (h.lt b hb) hf.size))
theorem Fan_none (t p : Int) (w : World) : Calls Try.prog 21 #[.pointer none, .int .i64 t, .int .i64 p] w fun e w' => e = .returned (.int .i64 0) ∧ Fr (fun _ => False) w w' :=
  Fan_of none [] [] t p w (by simp) (by simp) (fun W1 Bx Bt Bi hf hx ht hi => Kids_seq_none _ Bx _ _ W1 hx)
end Kds
end Go.Proofs.Ytkhhdadlpilbmaa
