/- Spans by their parents: the kids of one are given in order. -/
import Derived.Test.YtkhhdadlpilbmaaKids
import Derived.Test.YtkhhdadlpilbmaaColl
import Derived.Deep.CutBlock
import Derived.Shelf.Abstract
import Derived.RangeFuncCalls
import Derived.RangeFuncBound
import Derived.RangeFuncLeaves
import Derived.TacticsInMore
import Derived.Sort.AtCallIn
import Derived.Maps.OwnIn
namespace Go.Proofs.Ytkhhdadlpilbmaa
open Go.RowKit Go.Shelf
namespace Kds
open KeyP SetP KidsP
section
attribute [local go_sem] Eng.ev Eng.getO_cons Eng.getO_nil
abbrev TI : TypeId := 3
abbrev TP : TypeId := 32
abbrev TY : TypeId := 119
/-- So many blocks have been laid. -/
structure Gw (w0 w : World) (m : Nat) : Prop where
  f : Fr (fun _ => False) w0 w
  z : w.heap.size = w0.heap.size + m
theorem Gw.to {w0 w w' : World} {m n : Nat} (h : Gw w0 w m) (hf : Fr (fun _ => False) w w') (hz : w'.heap.size = w.heap.size + n) : Gw w0 w' (m + n) := ⟨h.f.trans hf (fun _ _ h => h) (fun _ _ h => h), by rw [hz, h.z]; omega⟩
theorem Gw.cell {w0 w : World} {m : Nat} (h : Gw w0 w m) {b o : Nat} {u : Value} (hc : w0.cell? ⟨b, o, none⟩ = some u) : w.cell? ⟨b, o, none⟩ = some u :=
  (World.cell?_of_block (w := w0) (a := ⟨b, o, none⟩) (h.f.block b (World.block_lt_of_cell? w0 ⟨b, o, none⟩ hc) (fun h => h))).trans hc
theorem From' (a : Addr) (k : ByteArray) (w : World) (N : Nat) (hz : w.heap.size = N) : Calls Try.prog 78 #[.pointer (some a), .string k] w fun e w' => e = .returned (.func (.func 126) #[] #[.pointer (some ⟨N, 0, none⟩), .pointer (some ⟨N + 1, 0, none⟩)]) ∧ Fr (fun _ => False) w w' ∧ w'.heap.size = w.heap.size + 2 ∧ w'.cell? ⟨N, 0, none⟩ = some (.pointer (some a)) ∧ w'.cell? ⟨N + 1, 0, none⟩ = some (.string k) := by
  subst hz
  refine (AvlSN.From (some a) k w).mono ?_
  rintro e w' ⟨rfl, rfl⟩
  refine ⟨rfl, (Fr.alloc _ _ _).trans (Fr.alloc (fun _ => False) _ _) (fun _ _ h => h) (fun _ _ h => h), by simp, ?_, ?_⟩
  · exact ((Bk.new w _ _).fr (Fr.alloc (fun _ => False) _ _) (fun _ _ h => h)).cell 0
  · have := (Bk.new (w.alloc (.cells #[.pointer (some a)] 165)) #[.string k] 9).cell 0
    rwa [World.size_alloc] at this
set_option maxRecDepth 100000 in
set_option maxHeartbeats 400000 in
theorem k2 {ops : Array Oper} (hops : Eng.fnOps Try.f77 2 = ops) (a0 : Act) (Q : Exit → Act → World → Prop) (w : World) (B Bx Bt Bi : Nat) (t p : Int) (c1 : w.cell? ⟨Bx, 0, none⟩ = some (.pointer (some ⟨B, 0, none⟩))) (c2 : w.cell? ⟨Bt, 0, none⟩ = some (.int .i64 t)) (c3 : w.cell? ⟨Bi, 0, none⟩ = some (.int .i64 p)) (ht : wf64 t) (hp : wf64 p)
    (hn : a0.tmps.size = 49) (h_1 : a0.tmps.getD 1 undef = .pointer (some ⟨Bx, 0, none⟩)) (h_2 : a0.tmps.getD 2 undef = .pointer (some ⟨Bt, 0, none⟩)) (h_3 : a0.tmps.getD 3 undef = .pointer (some ⟨Bi, 0, none⟩))
    (hpost : ∀ (x : Nat → Value) (w' : World), x 20 = .func (.func 126) #[] #[.pointer (some ⟨w.heap.size + 3, 0, none⟩), .pointer (some ⟨w.heap.size + 3 + 1, 0, none⟩)] → Gw w w' 5 → (w'.cell? ⟨w.heap.size + 3, 0, none⟩ = some (.pointer (some ⟨B, 2, none⟩)) ∧ w'.cell? ⟨w.heap.size + 3 + 1, 0, none⟩ = some (.string (key3 t p mn))) → Q .normal (Eng.setAll a0 [14, 15, 16, 17, 18, 19, 20] x) w') :
    (Code.region 2 ops true).wp Try.prog Q a0 w := by
  simp only [Eng.fnOps, Eng.regOps, Try.f77, Option.bind_some, Option.getD_some, Nat.reduceEqDiff, ↓reduceIte, Nat.reduceBEq] at hops
  subst hops
  have HSt := Lib.hid ((⟨Fr.drew _ _, rfl⟩ : Gw w w.drew 0))
  have hSS : w.drew.cell? ⟨Bx, 0, none⟩ = some (.pointer (some ⟨B, 0, none⟩)) ∧ w.drew.cell? ⟨Bt, 0, none⟩ = some (.int .i64 t) ∧ w.drew.cell? ⟨Bi, 0, none⟩ = some (.int .i64 p) := ⟨HSt.out.cell c1, HSt.out.cell c2, HSt.out.cell c3⟩
  refine Eng.regionT (.take 0 (.take 1 (.take 2 (.take 3 (.take 4 (.alt 5 (.alt 6 (.done) (.stop)) (.stop))))))) (fun w' => w'.cell? ⟨Bx, 0, none⟩ = some (.pointer (some ⟨B, 0, none⟩)) ∧ w'.cell? ⟨Bt, 0, none⟩ = some (.int .i64 t) ∧ w'.cell? ⟨Bi, 0, none⟩ = some (.int .i64 p)) (by kernel_rfl) 49 hn (by kernel_rfl) (by kernel_rfl) (by kernel_rfl) (hSS) (fun a b ha hb => ?_)
  subst ha
  have hb1 : b 1 = .pointer (some ⟨Bx, 0, none⟩) := (hb 1).symm.trans h_1
  have hb2 : b 2 = .pointer (some ⟨Bt, 0, none⟩) := (hb 2).symm.trans h_2
  have hb3 : b 3 = .pointer (some ⟨Bi, 0, none⟩) := (hb 3).symm.trans h_3
  clear hb h_1 h_2 h_3
  have HP := Lib.hid hpost; have HN := Lib.hid hn
  clear hpost hn
  refine Eng.TW.take' (v := ?_) rfl rfl (by decide) (by kernel_rfl) (fun w hw => ?_) ?_
  rotate_left
  · (try dsimp only at hw); go_simp; first | done | with_reducible rfl
  refine Eng.TW.take' (v := ?_) rfl rfl (by decide) (by kernel_rfl) (fun w hw => ?_) ?_
  rotate_left
  · (try dsimp only at hw); go_simp; first | done | with_reducible rfl
  refine Eng.TW.take' (v := ?_) rfl rfl (by decide) (by kernel_rfl) (fun w hw => ?_) ?_
  rotate_left
  · (try dsimp only at hw); go_simp; first | done | with_reducible rfl
  refine Eng.TW.take' (v := ?_) rfl rfl (by decide) (by kernel_rfl) (fun w hw => ?_) ?_
  rotate_left
  · (try dsimp only at hw); go_simp; first | done | with_reducible rfl
  refine Eng.TW.take' (v := ?_) rfl rfl (by decide) (by kernel_rfl) (fun w hw => ?_) ?_
  rotate_left
  · (try dsimp only at hw); go_simp; first | done | with_reducible rfl
  refine Eng.TW.call rfl rfl (by decide) (by kernel_rfl) ?_ (Key.link_n ht hp wf_mn _) ?_
  · go_simp
  rintro e w2 ⟨rfl, hf, hz⟩
  have HSt2 := Lib.hid (HSt.out.to hf hz)
  have hSS : w2.cell? ⟨Bx, 0, none⟩ = some (.pointer (some ⟨B, 0, none⟩)) ∧ w2.cell? ⟨Bt, 0, none⟩ = some (.int .i64 t) ∧ w2.cell? ⟨Bi, 0, none⟩ = some (.int .i64 p) := ⟨HSt2.out.cell c1, HSt2.out.cell c2, HSt2.out.cell c3⟩
  clear hf hz
  refine ⟨_, rfl, hSS, ?_⟩
  refine Eng.TW.call rfl rfl (by decide) (by kernel_rfl) ?_ (From' ⟨B, 2, none⟩ (key3 t p mn) _ (w.heap.size + 3) HSt2.out.z) ?_
  · go_simp
  rintro e w3 ⟨rfl, hf, hz, hq1, hq2⟩
  have HSt3 := Lib.hid (HSt2.out.to hf hz)
  have hSS : w3.cell? ⟨Bx, 0, none⟩ = some (.pointer (some ⟨B, 0, none⟩)) ∧ w3.cell? ⟨Bt, 0, none⟩ = some (.int .i64 t) ∧ w3.cell? ⟨Bi, 0, none⟩ = some (.int .i64 p) := ⟨HSt3.out.cell c1, HSt3.out.cell c2, HSt3.out.cell c3⟩
  have HQ := Lib.hid (⟨hq1, hq2⟩ : _ ∧ _)
  clear hf hz hq1 hq2
  refine ⟨_, rfl, hSS, ?_⟩
  refine Eng.TW.end_ [14, 15, 16, 17, 18, 19, 20] HN.out (by kernel_rfl) (by kernel_rfl) ?_
  exact HP.out _ _ rfl HSt3.out HQ.out

end
attribute [local go_sem] Oper.semAt_some
/-! What lies together at a list's head. -/
theorem pre_run {α : Type} {p : α → Bool} : ∀ {L : List α} {m : Nat}, (∀ y ∈ L.take m, p y = true) → L.take m <+: L.takeWhile p
  | [], m, _ => by simp
  | a :: L, 0, _ => by simp
  | a :: L, m + 1, h => by
    rw [List.take_succ_cons, List.takeWhile_cons, h a (by simp), if_pos rfl]
    exact List.cons_prefix_cons.2 ⟨rfl, pre_run (fun y hy => h y (by simp [hy]))⟩
theorem run_stop {α : Type} {p : α → Bool} : ∀ {L : List α} {m : Nat}, (∀ y ∈ L.take m, p y = true) → (∀ h : m < L.length, p L[m] = false) → L.takeWhile p = L.take m
  | [], m, _, _ => by simp
  | a :: L, 0, _, h => by rw [List.takeWhile_cons, show p a = false from h (by simp)]; simp
  | a :: L, m + 1, h, h2 => by
    rw [List.take_succ_cons, List.takeWhile_cons, h a (by simp), if_pos rfl, run_stop (L := L) (m := m) (fun y hy => h y (by simp [hy])) (fun hm => h2 (by simpa using hm))]
abbrev own (t p : Int) : Sn → Bool := fun x => decide (x.t = t) && decide (x.p = p)
/-- Between the rounds: as many have been given. -/
structure KI (J : List Int → World → Prop) (N Bt Bi l : Nat) (t p : Int) (KQ : List Sn) (m : Nat) (W : World) : Prop where
  j : J ((KQ.take m).map (fun s : Sn => s.i)) W
  a : ∀ x ∈ KQ.take m, own t p x = true
  y : Bk W N #[.func (.yield l) #[] #[]] TY
  bt : Bk W Bt #[.int .i64 t] TI
  bi : Bk W Bi #[.int .i64 p] TI
  sz : N + 6 ≤ W.heap.size
theorem KI.fr {J : List Int → World → Prop} {N Bt Bi l : Nat} {t p : Int} {KQ : List Sn} {m : Nat} {W W' : World} {S : Nat → Prop} (h : KI J N Bt Bi l t p KQ m W) (hJ : Abide N (N + 8) J) (hf : Fr S W W') (hS : ∀ b, b < W.heap.size → S b → Rg N (N + 8) b) (h1 : ¬ S N) (h2 : ¬ S Bt) (h3 : ¬ S Bi) : KI J N Bt Bi l t p KQ m W' :=
  ⟨hJ _ _ _ h.j (hf.mono hS), h.a, h.y.fr hf (fun b hb => by simp at hb; subst hb; exact h1), h.bt.fr hf (fun b hb => by simp at hb; subst hb; exact h2), h.bi.fr hf (fun b hb => by simp at hb; subst hb; exact h3), Nat.le_trans h.sz hf.size⟩
/-- No more rounds: all has been given, or no more is wanted. -/
def KX (J Jx : List Int → World → Prop) (N : Nat) (LL : List Int) (k : Code) (A : World) : Prop := (k = .exit 0 ∧ (J LL A ∨ ∃ q, q <+: LL ∧ Jx q A)) ∧ N + 6 ≤ A.heap.size
theorem KX.fr {J Jx : List Int → World → Prop} {N : Nat} {LL : List Int} {k : Code} {A C : World} {S : Nat → Prop} (h : KX J Jx N LL k A) (hJ : Abide N (N + 8) J) (hJx : Abide N (N + 8) Jx) (hf : Fr S A C) (hS : ∀ b, b < A.heap.size → S b → Rg N (N + 8) b) : KX J Jx N LL k C := by
  obtain ⟨⟨rfl, h1⟩, h2⟩ := h
  refine ⟨⟨rfl, ?_⟩, Nat.le_trans h2 hf.size⟩
  rcases h1 with h1 | ⟨q, h3, h4⟩
  · exact .inl (hJ _ _ _ h1 (hf.mono hS))
  · exact .inr ⟨q, h3, hJx _ _ _ h4 (hf.mono hS)⟩
theorem SplitK3 (x : Sn) (hx : gd x) (w : World) : Calls Try.prog 79 #[.string (k3 x)] w fun e w' => e = .returned (.tuple #[.int .i64 x.t, .string (key2 x.p x.i), .bool true]) ∧ Fr (fun _ => False) w w' := Key.SplitEnd hx.1 (kb x.p ++ kb x.i) rfl w
theorem roundIn_in {m l l2 : Nat} {P : Program} {fn : FuncId} {tmps : Array Value} {assign body : Code} {W : World} {R : Ending → World → Prop} (h : RoundIn Fence.wide m P l fn tmps assign body W R) : RoundIn (Fence.wide.inRound l2) m P l fn tmps assign body W R := h
set_option maxRecDepth 100000 in
set_option maxHeartbeats 2000000 in
theorem Kids_seq (FP : List Nat) (B Bx Bt Bi : Nat) (L : List Sn) (F : List Nat) (t p : Int) (w : World) (h : IB w B L F) (hx : Bk w Bx #[.pointer (some ⟨B, 0, none⟩)] TP) (hbt : Bk w Bt #[.int .i64 t] TI) (hbi : Bk w Bi #[.int .i64 p] TI) (wt : wf64 t) (wp : wf64 p) (hF : ∀ b ∈ F, b ∈ FP) (hBt : Bt ∈ FP) (hBi : Bi ∈ FP) (hFP : ∀ b ∈ FP, b < w.heap.size) :
    SeqP Try.prog 77 #[.pointer (some ⟨Bx, 0, none⟩), .pointer (some ⟨Bt, 0, none⟩), .pointer (some ⟨Bi, 0, none⟩)] (fun k : Int => #[.int .i64 k]) FP 8 (kids t p L) w := by
  intro n l J Jx W hW hJ hJx hY h0
  have hfw := Fr.of_below' hW (fun _ => False)
  have h := h.fr hfw (fun _ _ h => h)
  have hx := hx.fr hfw (fun _ _ h => h)
  have hbt := hbt.fr hfw (fun _ _ h => h)
  have hbi := hbi.fr hfw (fun _ _ h => h)
  have hFP : ∀ b ∈ FP, b < W.heap.size := fun b hb => Nat.lt_of_lt_of_le (hFP b hb) hfw.size
  clear hfw hW
  obtain ⟨K, r1, r2, F1, F2, hiy, hr, rfl⟩ := h
  obtain ⟨KL, rfl, hK, hm⟩ := hr.items
  obtain ⟨run1, run2⟩ := kids_run hK hr.g hm wt wp
  rw [ofP_eq hr.s hK hm] at run2
  have hgd : ∀ y ∈ KL.filter (lo3 t p), gd y := fun y hy => hr.g y ((hm y).1 (List.mem_filter.1 hy).1)
  have hMP : AvlSN.MapP W (some ⟨B, 2, none⟩) (KL.map (fun x => (k3 x, ()))) F2 := .inr ⟨B, 2, r2, rfl, hiy.cells.2.2.1, hiy.m2⟩
  have hF2 : ∀ b ∈ F2, b ∈ FP := fun b hb => hF b (by simp [hb])
  generalize hKQ : KL.filter (lo3 t p) = KQ at *
  have hLL : kids t p L = (KQ.takeWhile (own t p)).map (fun s : Sn => s.i) := by show (ofP t p L).map _ = _; rw [← run2]
  rw [hLL] at hY ⊢
  generalize hLs : (KQ.takeWhile (own t p)).map (fun s : Sn => s.i) = LL at *
  have HLs := Lib.hid hLs
  clear hLs
  clear hr hm hK hiy hKQ run2 hF hLL
  have c1 := hx.cell 0; have c2 := hbt.cell 0; have c3 := hbi.cell 0
  have lt1 := lt_of_heap hx; have lt2 := lt_of_heap hbt; have lt3 := lt_of_heap hbi
  have HGd := Lib.hid hgd; have HMP := Lib.hid hMP; have HRun := Lib.hid run1; have HFP := Lib.hid hFP; have HF2 := Lib.hid hF2; have HY := Lib.hid hY; have HJ := Lib.hid hJ; have HJx := Lib.hid hJx; have H0 := Lib.hid h0
  have HBt := Lib.hid hbt; have HBi := Lib.hid hbi
  have HBt2 := Lib.hid hBt; have HBi2 := Lib.hid hBi
  clear hgd hMP run1 hFP hF2 hY hJ hJx h0 hx hbt hbi hBt hBi
  refine callsIn_of_wp_marks Try.func77 rfl trivial ?_ rfl
  simp only [Try.ntmps77, List.size_toArray, List.length_cons, List.length_nil, Nat.reduceAdd, Nat.reduceSub, Array.replicate_succ, Array.replicate_zero, List.push_toArray, List.append_toArray, List.nil_append, List.cons_append]
  refine wpIn_wide.2 ?_
  go_wp2_with fail
  go_step3
  go_wp2_with fail
  go_step3
  go_wp2_with fail
  have hV : Gw W (W.alloc (.cells #[.func (.yield l) #[] #[]] TY)) 1 := ⟨Fr.alloc _ _ _, by simp⟩
  have hy0 := Bk.new W #[.func (.yield l) #[] #[]] TY
  generalize W.alloc (.cells #[.func (.yield l) #[] #[]] TY) = V at *
  refine k2 (by kernel_rfl) _ _ V B Bx Bt Bi t p (hV.cell c1) (hV.cell c2) (hV.cell c3) wt wp rfl rfl rfl rfl ?_
  intro x W1 e20 hG hq
  simp only [Eng.setAll, Act.put, List.setIfInBounds_toArray, List.set_cons_succ, List.set_cons_zero]
  rw [e20]
  have hz := hV.z
  rw [hz] at hq ⊢
  have hG6 : Gw W W1 6 := hV.to hG.f hG.z
  have hy1 : Bk W1 W.heap.size #[.func (.yield l) #[] #[]] TY := hy0.fr hG.f (fun _ _ h => h)
  have HG6 := Lib.hid hG6; have HY1 := Lib.hid hy1; have HQ := Lib.hid hq
  have HBt1 : Hid (Bk W1 Bt #[.int .i64 t] TI) := HBt.out.fr hG6.f (fun _ _ h => h)
  have HBi1 : Hid (Bk W1 Bi #[.int .i64 p] TI) := HBi.out.fr hG6.f (fun _ _ h => h)
  have HMP1 : Hid (AvlSN.MapP W1 (some ⟨B, 2, none⟩) (KL.map (fun x => (k3 x, ()))) F2) := HMP.out.below (hG6.f.below (Nat.le_refl _) (fun _ _ h => h))
  have HJ1 : Hid (J [] W1) := HJ.out _ _ _ H0.out (hG6.f.mono (fun _ _ h => h.elim))
  have n6 : W1.heap.size = W.heap.size + 6 := hG6.z
  have HN := Lib.hid n6
  clear e20 hz hq hG6 hy1 hy0 hG hV HBt HBi HMP H0 n6 c1 c2 c3
  go_wp2_with fail
  have hseq := AvlSN.From_seq ((W.heap.size + 1 + 3 + 1) :: F2) (W.heap.size + 1 + 3) (W.heap.size + 1 + 3 + 1) (key3 t p mn) (some ⟨B, 2, none⟩) (KL.map (fun x => (k3 x, ()))) F2 W1 HQ.out.1 (by have := HN.out; omega) HQ.out.2 (by have := HN.out; omega) (by simp) HMP1.out (fun b hb => by simp [hb])
  rw [HRun.out] at hseq
  refine (wpIn_wide (n := n)).1 ?_
  refine range_P' (n := n) (a₁ := ?fr) (gf := 126) (lb := #[.pointer (some ⟨W.heap.size + 1 + 3, 0, none⟩), .pointer (some ⟨W.heap.size + 1 + 3 + 1, 0, none⟩)]) rfl (enters_of Try.func126 (by kernel_rfl) rfl)
    hseq (fun b hb => by
      rcases List.mem_cons.1 hb with rfl | hb
      · have := HN.out; omega
      · have := HFP.out b (HF2.out b hb); have := HN.out; omega) (fun _ => rfl)
    (fun (pre : List (ByteArray × Unit)) (A : World) => KI J W.heap.size Bt Bi l t p KQ pre.length A)
    (fun k (_ : List (ByteArray × Unit)) (A : World) => KX J Jx W.heap.size LL k A)
    (fun pre A C hA hf => hA.fr HJ.out hf (fun b _ hb => ⟨by have := hb.1; have := HN.out; omega, by have := hb.2; have := HN.out; omega⟩) (fun hb => by have := hb.1; have := HN.out; omega) (fun hb => by have := hb.1; have := HN.out; omega) (fun hb => by have := hb.1; have := HN.out; omega))
    (fun k pre A C hA hf => hA.fr HJ.out HJx.out hf (fun b _ hb => ⟨by have := hb.1; have := HN.out; omega, by have := hb.2; have := HN.out; omega⟩))
    ⟨by simpa using HJ1.out, by simp, HY1.out, HBt1.out, HBi1.out, by have := HN.out; omega⟩ ?assign ?body ?done ?stop
  case assign =>
    intro l m x W K hK
    gi_wp2
    exact hK
  case body =>
    rintro l2 m pre x W2 hI hsz hpre rfl ⟨r, hl⟩ hd
    (try dsimp only)
    have hlt : pre.length < KQ.length := by have := hpre.length_le; rw [List.length_append, List.length_singleton, List.length_map] at this; omega
    have hx : x = (k3 KQ[pre.length], ()) := by
      obtain ⟨t', ht'⟩ := hpre
      have h1 : (KQ.map (fun x => (k3 x, ())))[pre.length]? = some x := by rw [← ht']; simp
      rw [List.getElem?_map, List.getElem?_eq_getElem hlt] at h1
      simpa using h1.symm
    subst hx
    have hg := HGd.out _ (List.getElem_mem hlt)
    have HSp := Lib.hid (SplitK3 KQ[pre.length] hg W2)
    have HSp2 := Lib.hid (fun A : World => Key.Split hg.2.2 hg.2.1 A)
    have HI := Lib.hid hI; have HSz := Lib.hid hsz
    have HTk := Lib.hid (List.take_succ_eq_append_getElem hlt)
    have HStop : Hid (own t p KQ[pre.length] = false → J LL W2) := fun h => by rw [← HLs.out, run_stop HI.out.a (fun _ => h)]; exact HI.out.j
    have HAll : Hid (own t p KQ[pre.length] = true → ∀ x ∈ KQ.take (pre.length + 1), own t p x = true) := fun h x hx => by
      rw [HTk.out, List.mem_append] at hx
      rcases hx with hx | hx
      · exact HI.out.a x hx
      · simp at hx; rw [hx]; exact h
    clear hg hI hl hd hpre hsz
    generalize hy : KQ[pre.length] = y at *
    clear hy
    generalize k3 y = ee at *
    dsimp only at *
    gi_wp2_with fail
    refine ⟨trivial, fun h => (by cases h), CallsIn.inRound _ (callsIn_wide.2 ?_)⟩
    refine HSp.out.mono ?_
    rintro e w1 ⟨rfl, hf1⟩
    have HF1 := Lib.hid hf1
    clear hf1 HSp
    gi_wp2_with fail
    refine ⟨trivial, fun h => (by cases h), CallsIn.inRound _ (callsIn_wide.2 ?_)⟩
    refine (HSp2.out _).mono ?_
    rintro e w2 ⟨rfl, hf2⟩
    have hf := HF1.out.trans hf2 (T := fun _ => False) (fun _ _ h => h) (fun _ _ h => h)
    have hI2 : KI J W.heap.size Bt Bi l t p KQ pre.length w2 := HI.out.fr HJ.out hf (fun _ _ h => h.elim) (fun h => h) (fun h => h) (fun h => h)
    have HF := Lib.hid hf; have HI2 := Lib.hid hI2
    have ct : w2.cell? ⟨Bt, 0, none⟩ = some (.int .i64 t) := hI2.bt.cell 0
    have ci : w2.cell? ⟨Bi, 0, none⟩ = some (.int .i64 p) := hI2.bi.cell 0
    have cy : w2.cell? ⟨W.heap.size, 0, none⟩ = some (.func (.yield l) #[] #[]) := hI2.y.cell 0
    clear hf2 hf hI2 HSp2 HF1
    by_cases h1 : y.t = t
    · by_cases h2 : y.p = p
      · have q1 : (y.t != t) = false := by simp [h1]
        have q2 : (y.p != p) = false := by simp [h2]
        have HOwn : Hid (own t p y = true) := by show _ = _; simp [own, h1, h2]
        have hall := HAll.out HOwn.out
        have hpre2 : (KQ.take pre.length).map (fun s : Sn => s.i) ++ [y.i] <+: LL := by
          have := (pre_run hall).map (fun s : Sn => s.i)
          rwa [HTk.out, List.map_append, HLs.out] at this
        have HAl := Lib.hid hall; have HPre := Lib.hid hpre2
        have hsz2 : W.heap.size + 8 ≤ w2.heap.size := by have := HF.out.size; have := HSz.out; have := HN.out; omega
        obtain ⟨fn, tmps, assign, body, hyy, hR⟩ := HY.out (m - 1) _ y.i w2 HI2.out.j hsz2 hpre2
        have HR := Lib.hid hR
        have HSz2 := Lib.hid hsz2
        clear hall hpre2 hR h1 h2 hsz2
        gi_wp2_with fail
        refine ⟨fun h => (by cases h), roundIn_in (HR.out.mono ?_)⟩
        rintro e W3 (⟨rfl, j3, k3', r3, s3⟩ | ⟨rfl, j3, r3, s3⟩)
        · have HJ3 := Lib.hid j3; have HK3 := Lib.hid k3'; have HR3 := Lib.hid r3; have HS3 := Lib.hid s3
          clear j3 k3' r3 s3 HR hyy ct ci cy
          gi_wp2_with fail
          have hn := HN.out
          have hrg : ∀ b, Rg W1.heap.size (W1.heap.size + 2 + 0) b → Rg W.heap.size (W.heap.size + 8) b := fun b hb => ⟨by have := hb.1; omega, by have := hb.2; omega⟩
          have keep : ∀ b, b < W2.heap.size → W2.heap.size ≤ w2.heap.size → W3.heap[b]? = w2.heap[b]? → W3.heap[b]? = W2.heap[b]? := fun b hb _ e => e.trans (HF.out.block b hb (fun h => h))
          have hw2 := HF.out.size
          refine ⟨fun b hb => keep b (by have := hb.2; have := HSz.out; omega) hw2 (HR3.out b (hrg b hb)), Nat.le_trans hw2 HS3.out, fun b hb => ?_, ?_⟩
          · rcases List.mem_cons.1 hb with rfl | hb
            · exact keep _ (by have := HSz.out; omega) hw2 (HR3.out _ ⟨by omega, by omega⟩)
            · have := HFP.out b (HF2.out b hb)
              exact keep b (by have := HSz.out; omega) hw2 (HK3.out b (HF2.out b hb))
          · show KI J W.heap.size Bt Bi l t p KQ (pre ++ [(ee, ())]).length W3
            rw [List.length_append, List.length_singleton]
            exact ⟨by rw [HTk.out, List.map_append]; exact HJ3.out, HAl.out, (HR3.out _ ⟨Nat.le_refl _, by omega⟩).trans HI2.out.y, (HK3.out _ HBt2.out).trans HI2.out.bt, (HK3.out _ HBi2.out).trans HI2.out.bi, by have := HS3.out; have := HSz2.out; omega⟩
        · have HJ3 := Lib.hid j3; have HR3 := Lib.hid r3; have HS3 := Lib.hid s3
          clear j3 r3 s3 HR hyy ct ci cy
          gi_wp2_with fail
          have hn := HN.out
          have hw2 := HF.out.size
          exact ⟨fun b hb => (HR3.out b ⟨by have := hb.1; omega, by have := hb.2; omega⟩).trans (HF.out.block b (by have := hb.2; have := HSz.out; omega) (fun h => h)), Nat.le_trans hw2 HS3.out, ⟨rfl, .inr ⟨_, HPre.out, HJ3.out⟩⟩, by have := HS3.out; have := HSz2.out; omega⟩
      · have q1 : (y.t != t) = false := by simp [h1]
        have q2 : (y.p != p) = true := by simp [h2]
        have HE := Lib.hid (HStop.out (by simp [own, h2]))
        clear h1 h2
        gi_wp2_with fail
        refine ⟨fun _ h => (by cases h), ?_⟩
        gi_wp2_with fail
        exact ⟨KeptR.of_fr HF.out HSz.out (fun _ _ h => h), HF.out.size, ⟨rfl, .inl (HJ.out _ _ _ HE.out (HF.out.mono (fun _ _ h => h.elim)))⟩, HI2.out.sz⟩
    · have q1 : (y.t != t) = true := by simp [h1]
      have HE := Lib.hid (HStop.out (by simp [own, h1]))
      clear h1
      gi_wp2_with fail
      refine ⟨fun _ h => (by cases h), ?_⟩
      gi_wp2_with fail
      exact ⟨KeptR.of_fr HF.out HSz.out (fun _ _ h => h), HF.out.size, ⟨rfl, .inl (HJ.out _ _ _ HE.out (HF.out.mono (fun _ _ h => h.elim)))⟩, HI2.out.sz⟩
  case done =>
    rintro W3 hsz hI hK
    rw [List.length_map] at hI
    have hj := hI.j
    have hall := hI.a
    rw [List.take_length] at hj hall
    rw [show KQ.map (fun s : Sn => s.i) = LL by rw [← HLs.out, run_stop (m := KQ.length) (by rw [List.take_length]; exact hall) (fun h => absurd h (Nat.lt_irrefl _)), List.take_length]] at hj
    have HJ3 := Lib.hid hj; have HK := Lib.hid hK
    clear hI hj hall hK
    go_wp2_with fail
    try rw [Exit.noGoto_ret]
    refine ⟨by simp, .inl ⟨_, _, rfl, run_takeDeferred HK.out, ?_⟩⟩
    have hn := HN.out
    have hf := Fr.putObj W3 W1.heap.size (.deferred none) (S := Rg W.heap.size (W.heap.size + 8)) ⟨by omega, by omega⟩
    refine ⟨.tuple #[], by simp [results, Try.results77, go_sem], ⟨_, rfl⟩, by have := hf.size; omega, .inl (HJ.out _ _ _ HJ3.out hf)⟩
  case stop =>
    rintro k pre W3 hsz hpre ⟨⟨rfl, hI⟩, hsz0⟩ hK
    have HI3 := Lib.hid hI; have HK := Lib.hid hK
    clear hI hK
    refine (wpIn_wide (n := n)).2 ?_
    go_wp2_with fail
    try rw [Exit.noGoto_ret]
    refine ⟨by simp, .inl ⟨_, _, rfl, run_takeDeferred HK.out, ?_⟩⟩
    have hn := HN.out
    have hf := Fr.putObj W3 W1.heap.size (.deferred none) (S := Rg W.heap.size (W.heap.size + 8)) ⟨by omega, by omega⟩
    refine ⟨.tuple #[], by simp [results, Try.results77, go_sem], ⟨_, rfl⟩, by have := hf.size; omega, ?_⟩
    rcases HI3.out with h | ⟨q, h1, h2⟩
    · exact .inl (HJ.out _ _ _ h hf)
    · exact .inr ⟨q, h1, HJx.out _ _ _ h2 hf⟩
end Kds
end Go.Proofs.Ytkhhdadlpilbmaa
