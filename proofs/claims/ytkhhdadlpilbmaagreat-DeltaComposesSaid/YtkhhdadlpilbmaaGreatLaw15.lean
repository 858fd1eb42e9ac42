/- Layer 15's statements: what must come, whatever the arguments are. -/
import Derived.Test.YtkhhdadlpilbmaaGreatComps2
namespace Go.Proofs.YtkhhdadlpilbmaaGreat
open Go.RowKit
theorem Bk.below {w w' : World} {B : Nat} {c : Array Value} {t : TypeId} (h : Bk w B c t) (hb : Below w.heap.size w w') : Bk w' B c t := h.fr (Fr.of_below' hb (fun _ => False)) (fun _ _ h => h)
namespace Law15
open KeyP PackP SetP SetW SetF Delta Comp
attribute [local go_sem] Eng.ev Eng.getO_cons Eng.getO_nil
theorem SameT {A A2 : Option Addr} {c c2 : Nat} {L M : List Sn} {w : World} (hS : Ls w A c L) (hS2 : Ls w A2 c2 M) (h : L = M) :
    Calls Tryz.prog 10 #[.slice A L.length c, .slice A2 M.length c2] w fun e w' => e = .returned (.bool true) ∧ Fr (fun _ => False) w w' :=
  (SetF.Same A A2 c c2 L M w hS.s hS2.s).mono (fun _ _ ⟨h1, h2⟩ => ⟨by rw [h1, decide_eq_true h], h2⟩)
/-- Are deltas the same? -/
def sameD (d e : Dl) : Bool := decide (d.O = e.O) && decide (d.I = e.I)
theorem results_bool {P : Program} {fn : Func} {p : Tmp} (h : fn.results = #[.tmp p]) (tmps : Array Value) (w : World) : (results fn tmps).run P w = .ok (tmps.getD p undef) w := by simp [results, h]
set_option maxRecDepth 100000 in
set_option maxHeartbeats 1000000 in
theorem SameD (d e : Dl) (w : World) (h1 : RdD w d) (h2 : RdD w e) : Calls Tryz.prog 13 #[d.v, e.v] w fun r w' => r = .returned (.bool (sameD d e)) ∧ Fr (fun _ => False) w w' := by
  have hf := fr2 w (.cells d.arr TDl) (.cells e.arr TDl)
  have HD := Lib.hid (h1.keep hf); have HE := Lib.hid (h2.keep hf)
  have HB1 := Lib.hid ((Bk.new w d.arr TDl).fr (Fr.alloc (fun _ => False) _ (.cells e.arr TDl)) (fun _ _ h => h))
  have HB2 := Lib.hid (show Bk ((w.alloc (.cells d.arr TDl)).alloc (.cells e.arr TDl)) (w.heap.size + 1) e.arr TDl by have := Bk.new (w.alloc (.cells d.arr TDl)) e.arr TDl; rwa [World.size_alloc] at this)
  have HF := Lib.hid hf
  clear h1 h2 hf
  go_enter Tryz.func13, Tryz.ntmps13
  go_upto_region 1 with (fail)
  generalize ((w.alloc (.cells d.arr TDl)).alloc (.cells e.arr TDl)) = w1 at *
  have a0 : w1.cell? ⟨w.heap.size, 0, none⟩ = some (.slice d.A1 d.O.length d.c1) := HB1.out.cell 0
  have b0 : w1.cell? ⟨w.heap.size + 1, 0, none⟩ = some (.slice e.A1 e.O.length e.c1) := HB2.out.cell 0
  go_wp2_with fail
  refine (SetF.Same d.A1 e.A1 d.c1 e.c1 d.O e.O w1 HD.out.o.s HE.out.o.s).mono ?_
  rintro r w2 ⟨rfl, hf⟩
  have a1 : w2.cell? ⟨w.heap.size, 1, none⟩ = some (.slice d.A2 d.I.length d.c2) := (HB1.out.fr hf (fun _ _ h => h)).cell 1
  have b1 : w2.cell? ⟨w.heap.size + 1, 1, none⟩ = some (.slice e.A2 e.I.length e.c2) := (HB2.out.fr hf (fun _ _ h => h)).cell 1
  have HD2 := Lib.hid (HD.out.keep hf); have HE2 := Lib.hid (HE.out.keep hf)
  have HF2 := Lib.hid (HF.out.trans hf (T := fun _ => False) (fun _ _ h => h) (fun _ _ h => h))
  clear hf a0 b0 HB1 HB2 HD HE HF
  have HQ : Hid (sameD d e = (decide (d.O = e.O) && decide (d.I = e.I))) := rfl
  cases hq : decide (d.O = e.O) with
  | false =>
    rw [hq] at HQ
    go_wp2_with fail
    go_ret
    exact ⟨by rw [HQ.out]; rfl, HF2.out⟩
  | true =>
    rw [hq, Bool.true_and] at HQ
    go_wp2_with fail
    refine (SetF.Same d.A2 e.A2 d.c2 e.c2 d.I e.I w2 HD2.out.i.s HE2.out.i.s).mono ?_
    rintro r w3 ⟨rfl, hf⟩
    have HF3 := Lib.hid (HF2.out.trans hf (T := fun _ => False) (fun _ _ h => h) (fun _ _ h => h))
    clear hf HF2 a1 b1
    go_wp2_with fail
    go_ret
    exact ⟨by rw [HQ.out]; rfl, HF3.out⟩
theorem SameDT (d e : Dl) (w : World) (h1 : RdD w d) (h2 : RdD w e) (h : sameD d e = true) : Calls Tryz.prog 13 #[d.v, e.v] w fun r w' => r = .returned (.bool true) ∧ Fr (fun _ => False) w w' := h ▸ SameD d e w h1 h2
theorem BetE {A A2 : Option Addr} {c c2 : Nat} {a b : List Sn} {w : World} (h1 : Ls w A c a) (h2 : Ls w A2 c2 b) (l1 : a.length ≤ 1000000) (l2 : b.length ≤ 1000000) (O I : List Sn) (hO : wout (setOf b) (setOf a) = O) (hI : wout (setOf a) (setOf b) = I) :
    Calls Tryz.prog 14 #[.slice A a.length c, .slice A2 b.length c2] w (DlPost O I w) := hO ▸ hI ▸ Between A A2 c c2 a b w h1 h2 l1 l2
theorem AppE {A : Option Addr} {c : Nat} {L : List Sn} {d : Dl} {w : World} (h1 : Ls w A c L) (h2 : RdD w d) (l0 : L.length ≤ 500000) (l1 : d.O.length ≤ 500000) (l2 : d.I.length ≤ 500000) (N : List Sn) (z : Int) (h : applyP L d.O d.I = (N, z)) :
    Calls Tryz.prog 8 #[.slice A L.length c, d.v] w fun e w' => ∃ A c, e = .returned (.tuple #[.slice A N.length c, .int .i64 z]) ∧ Ls w' A c N ∧ Below w.heap.size w w' :=
  (Apply A c L d.A1 d.A2 d.c1 d.c2 d.O d.I w h1 h2 l0 l1 l2).mono (fun _ _ hp => by rw [h] at hp; exact hp)
theorem CmpE {d e : Dl} {w : World} (h1 : RdD w d) (h2 : RdD w e) (l1 : d.O.length ≤ 500000) (l2 : d.I.length ≤ 500000) (l3 : e.O.length ≤ 500000) (l4 : e.I.length ≤ 500000) (O I : List Sn) (z : Int) (h : composeP d.O d.I e.O e.I = ((O, I), z)) :
    Calls Tryz.prog 19 #[d.v, e.v] w fun r w' => ∃ A1 c1 A2 c2, r = .returned (.tuple #[(Dl.mk A1 c1 O A2 c2 I).v, .int .i64 z]) ∧ RdD w' ⟨A1, c1, O, A2, c2, I⟩ ∧ Below w.heap.size w w' :=
  (Compose d e w h1 h2 l1 l2 l3 l4).mono (fun _ _ hp => by rw [h] at hp; exact hp)
theorem RightE (d : Dl) (w : World) (hd : RdD w d) (h1 : d.O.length ≤ 1000000) (h2 : d.I.length ≤ 1000000) (q : Bool) (hq : rightB d.O d.I = q) :
    Calls Tryz.prog 16 #[d.v] w fun e w' => e = .returned (.bool q) ∧ Below w.heap.size w w' := hq ▸ Right d w hd h1 h2
theorem SetE {A : Option Addr} {c : Nat} {L : List Sn} {w : World} (h : Ls w A c L) (hl : L.length ≤ 1000000) (N : List Sn) (hN : setOf L = N) : Calls Tryz.prog 11 #[.slice A L.length c] w (LsPost N w) := hN ▸ SetF.Set A c L w h hl
/-- A new list of records. -/
theorem Ls.lit (w : World) (L : List Sn) (arr : Array Value) (harr : arr = (L.flatMap scs).toArray) (n : Nat) (hn : n = L.length) (hl : L.length ≤ 1000000) (hok : ∀ x ∈ L, x.ok) : Ls (w.alloc (.cells arr TSn)) (some ⟨w.heap.size, 0, none⟩) n L := by
  subst harr; subst hn
  exact ⟨Ref09.Sl.many w TSn _ 9 _ hl (flat_length scs_len L), hok⟩
abbrev ss : ByteArray := ⟨#[115]⟩
abbrev so : ByteArray := ⟨#[111]⟩
abbrev of (i r : Int) : Sn := ⟨1, i, 0, r, ss, so, 0, 0, false⟩
instance (n : Int) : Decidable (in64 n) := by unfold in64; infer_instance
theorem of_ok (i r : Int) (h : in64 i) (h2 : in64 r) : (of i r).ok := ⟨by show in64 1; decide, h, by show in64 0; decide, h2, by show in64 0; decide, by show in64 0; decide, by show 1 ≤ maxLen; unfold maxLen; omega, by show 1 ≤ maxLen; unfold maxLen; omega⟩
theorem of_ (i r : Int) (w : World) : Calls Tryz.prog 22 #[.int .i64 i, .int .i64 r] w fun e w' => e = .returned (of i r).v ∧ Fr (fun _ => False) w w' := by
  have kb : ∀ W : World, (Instr.build 42 #[(0, .int .i64 1), (1, .int .i64 i), (3, .int .i64 r), (4, .string ss), (5, .string so)]).run Tryz.prog W = .ok (.agg #[.int .i64 1, .int .i64 i, .int .i64 0, .int .i64 r, .string ss, .string so, .int .i64 0, .int .i64 0, .bool false]) W := fun W => by kernel_rfl
  go_enter Tryz.func22, Tryz.ntmps22
  go_wp2_with fail
  have hh := heap_new w (.cells (of i r).arr 42)
  exact bodyPost_ret (results_cell_row rfl _ _ w.heap.size 42 _ (0, 0) _ rfl hh Tryz.underlying42 rfl (by kernel_rfl)) rfl ⟨rfl, Fr.alloc _ _ _⟩
theorem e1 : wout (setOf [of 2 1, of 3 0]) (setOf [of 1 0, of 2 0]) = [of 1 0, of 2 0] := by decide +kernel
theorem e2 : wout (setOf [of 1 0, of 2 0]) (setOf [of 2 1, of 3 0]) = [of 2 1, of 3 0] := by decide +kernel
theorem e3 : setOf [of 1 0, of 2 0] = [of 1 0, of 2 0] := by decide +kernel
theorem e4 : setOf [of 2 1, of 3 0] = [of 2 1, of 3 0] := by decide +kernel
theorem e5 : (setOf [of 1 2, of 1 1]).length = 1 := by decide +kernel
theorem e6 : takeOut [of 2 1, of 3 0] [of 1 0, of 2 0] = none := by decide +kernel
theorem e7 : (isB [of 2 1, of 3 0] && rightB [of 1 0, of 2 0] [of 2 1, of 3 0]) = true := by decide +kernel
theorem e8 : rightB [of 2 1, of 3 0] [of 2 1, of 3 0] = false := by decide +kernel
theorem okA : Ok [of 1 0, of 2 0] := ok_iff.2 e3
theorem okB : Ok [of 2 1, of 3 0] := ok_iff.2 e4
theorem e9 : applyP [of 1 0, of 2 0] [of 1 0, of 2 0] [of 2 1, of 3 0] = ([of 2 1, of 3 0], 0) := by
  have h := apply_bet okA okB
  have a := e1; have b := e2
  rw [e3, e4] at a b
  rw [a, b] at h; exact h
theorem e10 : applyP [of 2 1, of 3 0] [of 1 0, of 2 0] [of 2 1, of 3 0] = ([], 7) := by
  unfold applyP
  rw [e7, if_pos rfl, e6]
theorem gkof (i r : Int) (h : in64 i) : SetP.gk (of i r) := ⟨by show in64 1; decide, h⟩
theorem e11 : composeP [of 1 0, of 2 0] [of 2 1, of 3 0] [of 2 1, of 3 0] [of 1 0, of 2 0] = (([], []), 0) := by
  have h := compose_bet okA okB okA (by intro x hx; simp at hx; rcases hx with rfl | rfl <;> exact gkof _ _ (by decide)) (by intro x hx; simp at hx; rcases hx with rfl | rfl <;> exact gkof _ _ (by decide)) (by intro x hx; simp at hx; rcases hx with rfl | rfl <;> exact gkof _ _ (by decide))
  have a := e1; have b := e2
  rw [e3, e4] at a b
  rw [a, b, wout_self] at h; exact h
theorem e12 : rightB [of 1 0, of 2 0] [of 2 1, of 3 0] = true := by decide +kernel
/-- Lists and deltas that lie there, and boxes of deltas. -/
structure DS (w0 w : World) (ls : List Lv) (ds : List Dl) (bs : List (Nat × Dl)) : Prop where
  l : ∀ q ∈ ls, Rd w q
  d : ∀ q ∈ ds, RdD w q
  x : ∀ q ∈ bs, Bk w q.1 q.2.arr TDl
  b : Below w0.heap.size w0 w
theorem DS.below {w0 w w' : World} {ls : List Lv} {ds : List Dl} {bs : List (Nat × Dl)} (h : DS w0 w ls ds bs) (hb : Below w.heap.size w w') : DS w0 w' ls ds bs :=
  ⟨fun q hq => (h.l q hq).below hb, fun q hq => (h.d q hq).below hb, fun q hq => Bk.below (h.x q hq) hb, h.b.trans (hb.mono h.b.size)⟩
theorem DS.keep {w0 w w' : World} {ls : List Lv} {ds : List Dl} {bs : List (Nat × Dl)} (h : DS w0 w ls ds bs) (hf : Fr (fun _ => False) w w') : DS w0 w' ls ds bs := h.below (hf.below (Nat.le_refl _) (fun _ _ h => h))
theorem DS.addL {w0 w : World} {ls : List Lv} {ds : List Dl} {bs : List (Nat × Dl)} (h : DS w0 w ls ds bs) {A : Option Addr} {c : Nat} {L : List Sn} (hq : Ls w A c L) : DS w0 w (⟨A, c, L⟩ :: ls) ds bs :=
  ⟨fun q hq' => by rcases List.mem_cons.1 hq' with rfl | hq'; exact hq; exact h.l q hq', h.d, h.x, h.b⟩
theorem DS.addD {w0 w : World} {ls : List Lv} {ds : List Dl} {bs : List (Nat × Dl)} (h : DS w0 w ls ds bs) {d : Dl} (hq : RdD w d) : DS w0 w ls (d :: ds) bs :=
  ⟨h.l, fun q hq' => by rcases List.mem_cons.1 hq' with rfl | hq'; exact hq; exact h.d q hq', h.x, h.b⟩
/-- The box of what is composed. -/
structure A4 (w0 w : World) (Bd : Nat) (d : Dl) (ds : List Dl) (bc : Option Nat) : Prop where
  dd : RdD w d
  e : ∀ q ∈ ds, RdD w q
  x : Bk w Bd d.arr TDl
  y : ∀ B, bc = some B → Bk w B #[.slice none 0 0, .slice none 0 0] TDl ∧ w0.heap.size ≤ B
  b : Below w0.heap.size w0 w
theorem A4.below {w0 w w' : World} {Bd : Nat} {d : Dl} {ds : List Dl} {bc : Option Nat} (h : A4 w0 w Bd d ds bc) (hb : Below w.heap.size w w') : A4 w0 w' Bd d ds bc :=
  ⟨h.dd.below hb, fun q hq => (h.e q hq).below hb, Bk.below h.x hb, fun B hB => ⟨Bk.below (h.y B hB).1 hb, (h.y B hB).2⟩, h.b.trans (hb.mono h.b.size)⟩
theorem A4.add {w0 w w' : World} {Bd : Nat} {d : Dl} {ds : List Dl} {bc : Option Nat} {q : Dl} (h : A4 w0 w Bd d ds bc) (hb : Below w.heap.size w w') (hq : RdD w' q) : A4 w0 w' Bd d (q :: ds) bc :=
  have h' := h.below hb
  ⟨h'.dd, fun p hp => by rcases List.mem_cons.1 hp with rfl | hp; exact hq; exact h'.e p hp, h'.x, h'.y, h'.b⟩
theorem A4.box {w0 w : World} {Bd : Nat} {d : Dl} {ds : List Dl} (h : A4 w0 w Bd d ds none) : A4 w0 (w.alloc (.cells #[.slice none 0 0, .slice none 0 0] TDl)) Bd d ds (some w.heap.size) := by
  have h' := h.below ((Below.refl _ w).alloc (Nat.le_refl _) (.cells #[.slice none 0 0, .slice none 0 0] TDl))
  exact ⟨h'.dd, h'.e, h'.x, fun B hB => by cases hB; exact ⟨Bk.new _ _ _, h.b.size⟩, h'.b⟩
structure A5 (w0 w : World) (Bd Bc : Nat) (d c : Dl) : Prop where
  x : Bk w Bd d.arr TDl
  y : Bk w Bc c.arr TDl
  b : Below w0.heap.size w0 w
theorem A4.set {w0 w : World} {Bd Bc : Nat} {d : Dl} {c q : Dl} (h : A4 w0 w Bd d [c, q] (some Bc)) (hBd : Bd < w0.heap.size) :
    A5 w0 ((w.setCell ⟨Bc, 0, none⟩ (.slice c.A1 c.O.length c.c1)).setCell ⟨Bc, 1, none⟩ (.slice c.A2 c.I.length c.c2)) Bd Bc d c := by
  obtain ⟨h1, h2⟩ := h.y Bc rfl
  have hf : Fr (fun k => k = Bc) w ((w.setCell ⟨Bc, 0, none⟩ (.slice c.A1 c.O.length c.c1)).setCell ⟨Bc, 1, none⟩ (.slice c.A2 c.I.length c.c2)) :=
    (Fr.setCell w ⟨Bc, 0, none⟩ _ (S := fun k => k = Bc) rfl).trans (Fr.setCell _ ⟨Bc, 1, none⟩ _ (S := fun k => k = Bc) rfl) (fun _ _ h => h) (fun _ _ h => h)
  have h3 := (h1.set 0 (.slice c.A1 c.O.length c.c1)).set 1 (.slice c.A2 c.I.length c.c2)
  exact ⟨h.x.fr hf (fun b hb e => by simp at hb; omega), by simpa using h3, h.b.trans (hf.below h.b.size (fun k hk e => by omega))⟩
/-- Lists of none lie anywhere. -/
theorem rd_nil {w w' : World} {c : Dl} (h : RdD w c) (h1 : c.O = []) (h2 : c.I = []) : RdD w' c := by
  obtain ⟨A1, c1, O, A2, c2, I⟩ := c
  dsimp only at h1 h2
  subst h1; subst h2
  obtain ⟨⟨⟨a1, a2, a3, a4, -⟩, -⟩, ⟨⟨b1, b2, b3, b4, -⟩, -⟩⟩ := h
  exact ⟨⟨⟨a1, a2, a3, a4, fun h => absurd rfl h⟩, fun x hx => by cases hx⟩, ⟨⟨b1, b2, b3, b4, fun h => absurd rfl h⟩, fun x hx => by cases hx⟩⟩
set_option maxRecDepth 100000 in
set_option maxHeartbeats 400000 in
theorem aw4 {ops : Array Oper} (hops : Eng.fnOps Tryz.f7 4 = ops) (a0 : Act) (Q : Exit → Act → World → Prop) (w0 w : World) (Bd : Nat) (d : Dl) (l1 : d.O.length ≤ 500000) (l2 : d.I.length ≤ 500000) (hcm : composeP d.O d.I d.I d.O = (([], []), 0)) (hBd : Bd < w0.heap.size) (hst : A4 w0 w Bd d [] none)
    (hn : a0.tmps.size = 89) (h_3 : a0.tmps.getD 3 undef = .pointer (some ⟨Bd, 0, none⟩))
    (hpost : ∀ (x : Nat → Value) (w' : World) (Bc : Nat) (A5_ : Option Addr) (c5 : Nat) (A6 : Option Addr) (c6 : Nat), A5 w0 w' Bd Bc d ⟨A5_, c5, [], A6, c6, []⟩ → (∀ W, RdD W ⟨A5_, c5, [], A6, c6, []⟩) → x 6 = .pointer (some ⟨Bc, 0, none⟩) → x 7 = .int .i64 0 → Q .normal (Eng.setAll a0 [6, 7, 25, 26, 27, 28, 29, 30, 31] x) w') :
    (Code.region 4 ops true).wp Tryz.prog Q a0 w := by
  simp only [Eng.fnOps, Eng.regOps, Tryz.f7, Option.bind_some, Option.getD_some, Nat.reduceEqDiff, ↓reduceIte] at hops
  subst hops
  have HSt := Lib.hid (hst.below ((Fr.drew (fun _ => False) _).below (Nat.le_refl _) (fun _ _ h => h)))
  have hSS : w.drew.cell? ⟨Bd, 0, none⟩ = some (.slice d.A1 d.O.length d.c1) ∧ w.drew.cell? ⟨Bd, 1, none⟩ = some (.slice d.A2 d.I.length d.c2) := ⟨HSt.out.x.cell 0, HSt.out.x.cell 1⟩
  refine Eng.regionT (.take 0 (.take 1 (.alt 2 (.alt 3 (.take 4 (.take 5 (.take 6 (.alt 7 (.alt 8 (.take 9 (.done)) (.stop)) (.stop))))) (.alt 7 (.alt 3 (.take 4 (.take 5 (.take 6 (.alt 8 (.take 9 (.done)) (.stop))))) (.stop)) (.stop))) (.alt 7 (.alt 2 (.alt 3 (.take 4 (.take 5 (.take 6 (.alt 8 (.take 9 (.done)) (.stop))))) (.stop)) (.stop)) (.stop))))) (fun w' => w'.cell? ⟨Bd, 0, none⟩ = some (.slice d.A1 d.O.length d.c1) ∧ w'.cell? ⟨Bd, 1, none⟩ = some (.slice d.A2 d.I.length d.c2)) (by kernel_rfl) 89 hn (by kernel_rfl) (by kernel_rfl) (by kernel_rfl) (hSS) (fun a b ha hb => ?_)
  subst ha
  have hb3 : b 3 = .pointer (some ⟨Bd, 0, none⟩) := (hb 3).symm.trans h_3
  clear hb h_3
  have HP := Lib.hid hpost; have HN := Lib.hid hn
  clear hpost hn
  refine Eng.TW.take' (v := ?_) rfl rfl (by decide) (by kernel_rfl) (fun w hw => ?_) ?_
  rotate_left
  · (try dsimp only at hw); go_simp; first | done | with_reducible rfl
  refine Eng.TW.take' (v := ?_) rfl rfl (by decide) (by kernel_rfl) (fun w hw => ?_) ?_
  rotate_left
  · (try dsimp only at hw); go_simp; first | done | with_reducible rfl
  refine Eng.TW.both ?_ ?_
  · refine Eng.TW.call rfl rfl (by decide) (by kernel_rfl) ?_ (Inverse d _ HSt.out.dd (by omega) (by omega)) ?_
    · go_simp
    rintro e w2 ⟨A3, c3, A4_, c4, rfl, hd, hb⟩
    have HSt2 := Lib.hid (HSt.out.add hb hd)
    have hSS : w2.cell? ⟨Bd, 0, none⟩ = some (.slice d.A1 d.O.length d.c1) ∧ w2.cell? ⟨Bd, 1, none⟩ = some (.slice d.A2 d.I.length d.c2) := ⟨HSt2.out.x.cell 0, HSt2.out.x.cell 1⟩
    clear hb hd
    refine ⟨_, rfl, hSS, ?_⟩
    refine Eng.TW.both ?_ ?_
    · refine Eng.TW.call rfl rfl (by decide) (by kernel_rfl) ?_ (CmpE (d := d) (e := ⟨A3, c3, d.I, A4_, c4, d.O⟩) HSt2.out.dd (HSt2.out.e _ (by simp)) l1 l2 l2 l1 [] [] 0 hcm) ?_
      · go_simp
      rintro e w3 ⟨A5_, c5, A6, c6, rfl, hd, hb⟩
      have HSt3 := Lib.hid (HSt2.out.add hb hd)
      have hSS : w3.cell? ⟨Bd, 0, none⟩ = some (.slice d.A1 d.O.length d.c1) ∧ w3.cell? ⟨Bd, 1, none⟩ = some (.slice d.A2 d.I.length d.c2) := ⟨HSt3.out.x.cell 0, HSt3.out.x.cell 1⟩
      have hnil := rd_nil (w' := w) hd rfl rfl
      clear hb hd
      refine ⟨_, rfl, hSS, ?_⟩
      refine Eng.TW.take' (v := ?_) rfl rfl (by decide) (by kernel_rfl) (fun w hw => ?_) ?_
      rotate_left
      · (try dsimp only at hw); go_simp; first | done | with_reducible rfl
      refine Eng.TW.take' (v := ?_) rfl rfl (by decide) (by kernel_rfl) (fun w hw => ?_) ?_
      rotate_left
      · (try dsimp only at hw); go_simp; first | done | with_reducible rfl
      refine Eng.TW.take' (v := ?_) rfl rfl (by decide) (by kernel_rfl) (fun w hw => ?_) ?_
      rotate_left
      · (try dsimp only at hw); go_simp; first | done | with_reducible rfl
      refine Eng.TW.step rfl rfl (by decide) (by kernel_rfl) (by go_simp; first | done | with_reducible rfl) (⟨(HSt3.out.box).x.cell 0, (HSt3.out.box).x.cell 1⟩) ?_
      have HSt4 := Lib.hid (HSt3.out.box)
      have hSS : ((w3.alloc (.cells #[.slice none 0 0, .slice none 0 0] TDl))).cell? ⟨Bd, 0, none⟩ = some (.slice d.A1 d.O.length d.c1) ∧ ((w3.alloc (.cells #[.slice none 0 0, .slice none 0 0] TDl))).cell? ⟨Bd, 1, none⟩ = some (.slice d.A2 d.I.length d.c2) := ⟨HSt4.out.x.cell 0, HSt4.out.x.cell 1⟩
      have cx0 := (HSt4.out.y _ rfl).1.cell 0
      have cx1 := (HSt4.out.y _ rfl).1.cell 1
      have fx0 := (HSt4.out.y _ rfl).1.free 0
      have fx1 := (HSt4.out.y _ rfl).1.free 1
      simp at cx0 cx1 fx0 fx1
      refine Eng.TW.step0 rfl rfl (by kernel_rfl) (by go_simp; first | done | with_reducible rfl) (⟨(HSt4.out.set (c := ⟨A5_, c5, [], A6, c6, []⟩) hBd).x.cell 0, (HSt4.out.set (c := ⟨A5_, c5, [], A6, c6, []⟩) hBd).x.cell 1⟩) ?_
      have HSt5 := Lib.hid (HSt4.out.set (c := ⟨A5_, c5, [], A6, c6, []⟩) hBd)
      refine Eng.TW.take' (v := ?_) rfl rfl (by decide) (by kernel_rfl) (fun w hw => ?_) ?_
      rotate_left
      · (try dsimp only at hw); go_simp; first | done | with_reducible rfl
      refine Eng.TW.end_ [6, 7, 25, 26, 27, 28, 29, 30, 31] HN.out (by kernel_rfl) (by kernel_rfl) ?_
      exact HP.out _ _ _ A5_ c5 A6 c6 HSt5.out (fun W => rd_nil hnil rfl rfl) (by first | rfl | (show Value.pointer _ = Value.pointer _; simp)) rfl
    refine Eng.TW.step rfl rfl (by decide) (by kernel_rfl) (by go_simp; first | done | with_reducible rfl) (⟨(HSt2.out.box).x.cell 0, (HSt2.out.box).x.cell 1⟩) ?_
    have HSt3 := Lib.hid (HSt2.out.box)
    have hSS : ((w2.alloc (.cells #[.slice none 0 0, .slice none 0 0] TDl))).cell? ⟨Bd, 0, none⟩ = some (.slice d.A1 d.O.length d.c1) ∧ ((w2.alloc (.cells #[.slice none 0 0, .slice none 0 0] TDl))).cell? ⟨Bd, 1, none⟩ = some (.slice d.A2 d.I.length d.c2) := ⟨HSt3.out.x.cell 0, HSt3.out.x.cell 1⟩
    refine Eng.TW.call rfl rfl (by decide) (by kernel_rfl) ?_ (CmpE (d := d) (e := ⟨A3, c3, d.I, A4_, c4, d.O⟩) HSt3.out.dd (HSt3.out.e _ (by simp)) l1 l2 l2 l1 [] [] 0 hcm) ?_
    · go_simp
    rintro e w4 ⟨A5_, c5, A6, c6, rfl, hd, hb⟩
    have HSt4 := Lib.hid (HSt3.out.add hb hd)
    have hSS : w4.cell? ⟨Bd, 0, none⟩ = some (.slice d.A1 d.O.length d.c1) ∧ w4.cell? ⟨Bd, 1, none⟩ = some (.slice d.A2 d.I.length d.c2) := ⟨HSt4.out.x.cell 0, HSt4.out.x.cell 1⟩
    have hnil := rd_nil (w' := w) hd rfl rfl
    clear hb hd
    refine ⟨_, rfl, hSS, ?_⟩
    refine Eng.TW.take' (v := ?_) rfl rfl (by decide) (by kernel_rfl) (fun w hw => ?_) ?_
    rotate_left
    · (try dsimp only at hw); go_simp; first | done | with_reducible rfl
    refine Eng.TW.take' (v := ?_) rfl rfl (by decide) (by kernel_rfl) (fun w hw => ?_) ?_
    rotate_left
    · (try dsimp only at hw); go_simp; first | done | with_reducible rfl
    refine Eng.TW.take' (v := ?_) rfl rfl (by decide) (by kernel_rfl) (fun w hw => ?_) ?_
    rotate_left
    · (try dsimp only at hw); go_simp; first | done | with_reducible rfl
    have cx0 := (HSt4.out.y _ rfl).1.cell 0
    have cx1 := (HSt4.out.y _ rfl).1.cell 1
    have fx0 := (HSt4.out.y _ rfl).1.free 0
    have fx1 := (HSt4.out.y _ rfl).1.free 1
    simp at cx0 cx1 fx0 fx1
    refine Eng.TW.step0 rfl rfl (by kernel_rfl) (by go_simp; first | done | with_reducible rfl) (⟨(HSt4.out.set (c := ⟨A5_, c5, [], A6, c6, []⟩) hBd).x.cell 0, (HSt4.out.set (c := ⟨A5_, c5, [], A6, c6, []⟩) hBd).x.cell 1⟩) ?_
    have HSt5 := Lib.hid (HSt4.out.set (c := ⟨A5_, c5, [], A6, c6, []⟩) hBd)
    refine Eng.TW.take' (v := ?_) rfl rfl (by decide) (by kernel_rfl) (fun w hw => ?_) ?_
    rotate_left
    · (try dsimp only at hw); go_simp; first | done | with_reducible rfl
    refine Eng.TW.end_ [6, 7, 25, 26, 27, 28, 29, 30, 31] HN.out (by kernel_rfl) (by kernel_rfl) ?_
    exact HP.out _ _ _ A5_ c5 A6 c6 HSt5.out (fun W => rd_nil hnil rfl rfl) (by first | rfl | (show Value.pointer _ = Value.pointer _; simp)) rfl
  refine Eng.TW.step rfl rfl (by decide) (by kernel_rfl) (by go_simp; first | done | with_reducible rfl) (⟨(HSt.out.box).x.cell 0, (HSt.out.box).x.cell 1⟩) ?_
  have HSt2 := Lib.hid (HSt.out.box)
  have hSS : ((w.drew.alloc (.cells #[.slice none 0 0, .slice none 0 0] TDl))).cell? ⟨Bd, 0, none⟩ = some (.slice d.A1 d.O.length d.c1) ∧ ((w.drew.alloc (.cells #[.slice none 0 0, .slice none 0 0] TDl))).cell? ⟨Bd, 1, none⟩ = some (.slice d.A2 d.I.length d.c2) := ⟨HSt2.out.x.cell 0, HSt2.out.x.cell 1⟩
  refine Eng.TW.call rfl rfl (by decide) (by kernel_rfl) ?_ (Inverse d _ HSt2.out.dd (by omega) (by omega)) ?_
  · go_simp
  rintro e w3 ⟨A3, c3, A4_, c4, rfl, hd, hb⟩
  have HSt3 := Lib.hid (HSt2.out.add hb hd)
  have hSS : w3.cell? ⟨Bd, 0, none⟩ = some (.slice d.A1 d.O.length d.c1) ∧ w3.cell? ⟨Bd, 1, none⟩ = some (.slice d.A2 d.I.length d.c2) := ⟨HSt3.out.x.cell 0, HSt3.out.x.cell 1⟩
  clear hb hd
  refine ⟨_, rfl, hSS, ?_⟩
  refine Eng.TW.call rfl rfl (by decide) (by kernel_rfl) ?_ (CmpE (d := d) (e := ⟨A3, c3, d.I, A4_, c4, d.O⟩) HSt3.out.dd (HSt3.out.e _ (by simp)) l1 l2 l2 l1 [] [] 0 hcm) ?_
  · go_simp
  rintro e w4 ⟨A5_, c5, A6, c6, rfl, hd, hb⟩
  have HSt4 := Lib.hid (HSt3.out.add hb hd)
  have hSS : w4.cell? ⟨Bd, 0, none⟩ = some (.slice d.A1 d.O.length d.c1) ∧ w4.cell? ⟨Bd, 1, none⟩ = some (.slice d.A2 d.I.length d.c2) := ⟨HSt4.out.x.cell 0, HSt4.out.x.cell 1⟩
  have hnil := rd_nil (w' := w) hd rfl rfl
  clear hb hd
  refine ⟨_, rfl, hSS, ?_⟩
  refine Eng.TW.take' (v := ?_) rfl rfl (by decide) (by kernel_rfl) (fun w hw => ?_) ?_
  rotate_left
  · (try dsimp only at hw); go_simp; first | done | with_reducible rfl
  refine Eng.TW.take' (v := ?_) rfl rfl (by decide) (by kernel_rfl) (fun w hw => ?_) ?_
  rotate_left
  · (try dsimp only at hw); go_simp; first | done | with_reducible rfl
  refine Eng.TW.take' (v := ?_) rfl rfl (by decide) (by kernel_rfl) (fun w hw => ?_) ?_
  rotate_left
  · (try dsimp only at hw); go_simp; first | done | with_reducible rfl
  have cx0 := (HSt4.out.y _ rfl).1.cell 0
  have cx1 := (HSt4.out.y _ rfl).1.cell 1
  have fx0 := (HSt4.out.y _ rfl).1.free 0
  have fx1 := (HSt4.out.y _ rfl).1.free 1
  simp at cx0 cx1 fx0 fx1
  refine Eng.TW.step0 rfl rfl (by kernel_rfl) (by go_simp; first | done | with_reducible rfl) (⟨(HSt4.out.set (c := ⟨A5_, c5, [], A6, c6, []⟩) hBd).x.cell 0, (HSt4.out.set (c := ⟨A5_, c5, [], A6, c6, []⟩) hBd).x.cell 1⟩) ?_
  have HSt5 := Lib.hid (HSt4.out.set (c := ⟨A5_, c5, [], A6, c6, []⟩) hBd)
  refine Eng.TW.take' (v := ?_) rfl rfl (by decide) (by kernel_rfl) (fun w hw => ?_) ?_
  rotate_left
  · (try dsimp only at hw); go_simp; first | done | with_reducible rfl
  refine Eng.TW.end_ [6, 7, 25, 26, 27, 28, 29, 30, 31] HN.out (by kernel_rfl) (by kernel_rfl) ?_
  exact HP.out _ _ _ A5_ c5 A6 c6 HSt5.out (fun W => rd_nil hnil rfl rfl) (by first | rfl | (show Value.pointer _ = Value.pointer _; simp)) rfl

set_option maxRecDepth 100000 in
set_option maxHeartbeats 4000000 in
theorem awake (w : World) : Calls Tryz.prog 7 #[] w fun e w' => e = .returned (.bool true) ∧ Below w.heap.size w w' := by
  have F10 := Lib.hid (of_ 1 0); have F20 := Lib.hid (of_ 2 0); have F21 := Lib.hid (of_ 2 1); have F30 := Lib.hid (of_ 3 0); have F12 := Lib.hid (of_ 1 2); have F11 := Lib.hid (of_ 1 1)
  have E1 := Lib.hid e1; have E2 := Lib.hid e2; have E5 := Lib.hid e5; have E8 := Lib.hid e8; have E9 := Lib.hid e9; have E10 := Lib.hid e10; have E11 := Lib.hid e11; have E12 := Lib.hid e12
  have K10 := Lib.hid (of_ok 1 0 (by decide) (by decide)); have K20 := Lib.hid (of_ok 2 0 (by decide) (by decide)); have K21 := Lib.hid (of_ok 2 1 (by decide) (by decide)); have K30 := Lib.hid (of_ok 3 0 (by decide) (by decide)); have K12 := Lib.hid (of_ok 1 2 (by decide) (by decide)); have K11 := Lib.hid (of_ok 1 1 (by decide) (by decide))
  generalize of 1 0 = x10 at *
  generalize of 2 0 = x20 at *
  generalize of 2 1 = x21 at *
  generalize of 3 0 = x30 at *
  generalize of 1 2 = x12 at *
  generalize of 1 1 = x11 at *
  have kz := kz
  have HB := Lib.hid (Below.refl w.heap.size w)
  go_enter Tryz.func7, Tryz.ntmps7
  go_wp2_with fail
  refine (F10.out w).mono ?_
  rintro e w1 ⟨rfl, hf⟩
  have hb := hf.below (Nat.le_refl _) (fun _ _ h => h)
  clear hf
  replace HB := Lib.hid (HB.out.trans (hb.mono HB.out.size))
  clear hb
  go_wp2_with fail
  refine (F20.out w1).mono ?_
  rintro e w2 ⟨rfl, hf⟩
  have hb := hf.below (Nat.le_refl _) (fun _ _ h => h)
  clear hf
  replace HB := Lib.hid (HB.out.trans (hb.mono HB.out.size))
  clear hb
  go_wp2_with fail
  have hb := (Below.refl w2.heap.size w2).alloc (Nat.le_refl _) (.cells #[.int .i64 x10.t, .int .i64 x10.i, .int .i64 x10.p, .int .i64 x10.r, .string x10.s, .string x10.o, .int .i64 x10.b, .int .i64 x10.d, .bool x10.g, .int .i64 x20.t, .int .i64 x20.i, .int .i64 x20.p, .int .i64 x20.r, .string x20.s, .string x20.o, .int .i64 x20.b, .int .i64 x20.d, .bool x20.g] TSn)
  have HA := Lib.hid (Ls.lit w2 [x10, x20] #[.int .i64 x10.t, .int .i64 x10.i, .int .i64 x10.p, .int .i64 x10.r, .string x10.s, .string x10.o, .int .i64 x10.b, .int .i64 x10.d, .bool x10.g, .int .i64 x20.t, .int .i64 x20.i, .int .i64 x20.p, .int .i64 x20.r, .string x20.s, .string x20.o, .int .i64 x20.b, .int .i64 x20.d, .bool x20.g] rfl 2 rfl (by simp) (by simp [K10.out, K20.out]))
  generalize (w2.alloc (.cells #[.int .i64 x10.t, .int .i64 x10.i, .int .i64 x10.p, .int .i64 x10.r, .string x10.s, .string x10.o, .int .i64 x10.b, .int .i64 x10.d, .bool x10.g, .int .i64 x20.t, .int .i64 x20.i, .int .i64 x20.p, .int .i64 x20.r, .string x20.s, .string x20.o, .int .i64 x20.b, .int .i64 x20.d, .bool x20.g] TSn)) = w3 at *
  replace HB := Lib.hid (HB.out.trans (hb.mono HB.out.size))
  clear hb
  refine (F21.out w3).mono ?_
  rintro e w4 ⟨rfl, hf⟩
  have hb := hf.below (Nat.le_refl _) (fun _ _ h => h)
  clear hf
  replace HA := Lib.hid (HA.out.below hb)
  replace HB := Lib.hid (HB.out.trans (hb.mono HB.out.size))
  clear hb
  go_wp2_with fail
  refine (F30.out w4).mono ?_
  rintro e w5 ⟨rfl, hf⟩
  have hb := hf.below (Nat.le_refl _) (fun _ _ h => h)
  clear hf
  replace HA := Lib.hid (HA.out.below hb)
  replace HB := Lib.hid (HB.out.trans (hb.mono HB.out.size))
  clear hb
  go_wp2_with fail
  have hb := (Below.refl w5.heap.size w5).alloc (Nat.le_refl _) (.cells #[.int .i64 x21.t, .int .i64 x21.i, .int .i64 x21.p, .int .i64 x21.r, .string x21.s, .string x21.o, .int .i64 x21.b, .int .i64 x21.d, .bool x21.g, .int .i64 x30.t, .int .i64 x30.i, .int .i64 x30.p, .int .i64 x30.r, .string x30.s, .string x30.o, .int .i64 x30.b, .int .i64 x30.d, .bool x30.g] TSn)
  have HC := Lib.hid (Ls.lit w5 [x21, x30] #[.int .i64 x21.t, .int .i64 x21.i, .int .i64 x21.p, .int .i64 x21.r, .string x21.s, .string x21.o, .int .i64 x21.b, .int .i64 x21.d, .bool x21.g, .int .i64 x30.t, .int .i64 x30.i, .int .i64 x30.p, .int .i64 x30.r, .string x30.s, .string x30.o, .int .i64 x30.b, .int .i64 x30.d, .bool x30.g] rfl 2 rfl (by simp) (by simp [K21.out, K30.out]))
  generalize (w5.alloc (.cells #[.int .i64 x21.t, .int .i64 x21.i, .int .i64 x21.p, .int .i64 x21.r, .string x21.s, .string x21.o, .int .i64 x21.b, .int .i64 x21.d, .bool x21.g, .int .i64 x30.t, .int .i64 x30.i, .int .i64 x30.p, .int .i64 x30.r, .string x30.s, .string x30.o, .int .i64 x30.b, .int .i64 x30.d, .bool x30.g] TSn)) = w6 at *
  replace HA := Lib.hid (HA.out.below hb)
  replace HB := Lib.hid (HB.out.trans (hb.mono HB.out.size))
  clear hb
  refine (BetE HA.out HC.out (by simp) (by simp) [x10, x20] [x21, x30] E1.out E2.out).mono ?_
  rintro e w7 ⟨A1, c1, A2, c2, rfl, hd, hb⟩
  replace HA := Lib.hid (HA.out.below hb)
  replace HC := Lib.hid (HC.out.below hb)
  replace HB := Lib.hid (HB.out.trans (hb.mono HB.out.size))
  clear hb
  have HD := Lib.hid hd
  clear hd
  go_upto_region 3 with (fail)
  have hb := (Below.refl w7.heap.size w7).alloc (Nat.le_refl _) (.cells (⟨A1, c1, [x10, x20], A2, c2, [x21, x30]⟩ : Dl).arr TDl)
  have HBd := Lib.hid (Bk.new w7 (⟨A1, c1, [x10, x20], A2, c2, [x21, x30]⟩ : Dl).arr TDl)
  generalize (w7.alloc (.cells (⟨A1, c1, [x10, x20], A2, c2, [x21, x30]⟩ : Dl).arr TDl)) = w8 at *
  replace HA := Lib.hid (HA.out.below hb)
  replace HC := Lib.hid (HC.out.below hb)
  replace HD := Lib.hid (HD.out.below hb)
  replace HB := Lib.hid (HB.out.trans (hb.mono HB.out.size))
  clear hb
  have hBd : w7.heap.size < w8.heap.size := lt_of_heap HBd.out
  generalize w7.heap.size = Bd at *
  have cd0 : w8.cell? ⟨Bd, 0, none⟩ = some (.slice A1 2 c1) := HBd.out.cell 0
  have cd1 : w8.cell? ⟨Bd, 1, none⟩ = some (.slice A2 2 c2) := HBd.out.cell 1
  go_wp2_with fail
  refine (AppE (d := (⟨A1, c1, [x10, x20], A2, c2, [x21, x30]⟩ : Dl)) HA.out HD.out (by simp) (by simp) (by simp) _ _ E9.out).mono ?_
  rintro e w9 ⟨A3, c3, rfl, hls, hb⟩
  replace HA := Lib.hid (HA.out.below hb)
  replace HC := Lib.hid (HC.out.below hb)
  replace HD := Lib.hid (HD.out.below hb)
  replace HBd := Lib.hid (HBd.out.below hb)
  replace HB := Lib.hid (HB.out.trans (hb.mono HB.out.size))
  clear hb
  have HL := Lib.hid hls
  clear hls
  clear cd0 cd1
  have HLt := Lib.hid hBd
  clear hBd
  go_upto_region 4 with (fail)
  refine aw4 (by kernel_rfl) _ _ w9 w9 Bd (⟨A1, c1, [x10, x20], A2, c2, [x21, x30]⟩ : Dl) (by simp) (by simp) E11.out (lt_of_heap HBd.out) ⟨HD.out, by simp, HBd.out, fun B hB => (by cases hB), Below.refl _ _⟩ rfl rfl ?_
  intro x w10 Bc A5_ c5 A6 c6 h5 hc x6 x7
  simp only [Eng.setAll, Act.put, List.setIfInBounds_toArray, List.set_cons_succ, List.set_cons_zero]
  rw [x6, x7]
  have hb := h5.b
  have HBc := Lib.hid h5.y; have HCd := Lib.hid hc
  clear x6 x7 h5 hc
  replace HA := Lib.hid (HA.out.below hb)
  replace HC := Lib.hid (HC.out.below hb)
  replace HD := Lib.hid (HD.out.below hb)
  replace HBd := Lib.hid (HBd.out.below hb)
  replace HL := Lib.hid (HL.out.below hb)
  replace HB := Lib.hid (HB.out.trans (hb.mono HB.out.size))
  clear hb
  have cd0 : w10.cell? ⟨Bd, 0, none⟩ = some (.slice A1 2 c1) := HBd.out.cell 0
  have cd1 : w10.cell? ⟨Bd, 1, none⟩ = some (.slice A2 2 c2) := HBd.out.cell 1
  go_wp2_with fail
  refine (AppE (d := (⟨A1, c1, [x10, x20], A2, c2, [x21, x30]⟩ : Dl)) HC.out HD.out (by simp) (by simp) (by simp) _ _ E10.out).mono ?_
  rintro e w11 ⟨A7, c7, rfl, hls, hb⟩
  replace HA := Lib.hid (HA.out.below hb)
  replace HC := Lib.hid (HC.out.below hb)
  replace HD := Lib.hid (HD.out.below hb)
  replace HBd := Lib.hid (HBd.out.below hb)
  replace HL := Lib.hid (HL.out.below hb)
  replace HBc := Lib.hid (HBc.out.below hb)
  replace HB := Lib.hid (HB.out.trans (hb.mono HB.out.size))
  clear hb
  have HM := Lib.hid hls
  clear hls
  clear cd0 cd1
  clear HM
  have cd0 : w11.cell? ⟨Bd, 0, none⟩ = some (.slice A1 2 c1) := HBd.out.cell 0
  have cd1 : w11.cell? ⟨Bd, 1, none⟩ = some (.slice A2 2 c2) := HBd.out.cell 1
  go_wp2_with fail
  refine (SameT (L := [x10, x20]) (M := [x10, x20]) HD.out.o HA.out rfl).mono ?_
  rintro e w12 ⟨rfl, hf⟩
  have hb := hf.below (Nat.le_refl _) (fun _ _ h => h)
  clear hf
  replace HA := Lib.hid (HA.out.below hb)
  replace HC := Lib.hid (HC.out.below hb)
  replace HD := Lib.hid (HD.out.below hb)
  replace HBd := Lib.hid (HBd.out.below hb)
  replace HL := Lib.hid (HL.out.below hb)
  replace HBc := Lib.hid (HBc.out.below hb)
  replace HB := Lib.hid (HB.out.trans (hb.mono HB.out.size))
  clear hb
  clear cd0 cd1
  have cd0 : w12.cell? ⟨Bd, 0, none⟩ = some (.slice A1 2 c1) := HBd.out.cell 0
  have cd1 : w12.cell? ⟨Bd, 1, none⟩ = some (.slice A2 2 c2) := HBd.out.cell 1
  go_wp2_with fail
  refine (SameT (L := [x21, x30]) (M := [x21, x30]) HD.out.i HC.out rfl).mono ?_
  rintro e w13 ⟨rfl, hf⟩
  have hb := hf.below (Nat.le_refl _) (fun _ _ h => h)
  clear hf
  replace HA := Lib.hid (HA.out.below hb)
  replace HC := Lib.hid (HC.out.below hb)
  replace HD := Lib.hid (HD.out.below hb)
  replace HBd := Lib.hid (HBd.out.below hb)
  replace HL := Lib.hid (HL.out.below hb)
  replace HBc := Lib.hid (HBc.out.below hb)
  replace HB := Lib.hid (HB.out.trans (hb.mono HB.out.size))
  clear hb
  clear cd0 cd1
  go_wp2_with fail
  refine (SameT HL.out HC.out rfl).mono ?_
  rintro e w14 ⟨rfl, hf⟩
  have hb := hf.below (Nat.le_refl _) (fun _ _ h => h)
  clear hf
  replace HA := Lib.hid (HA.out.below hb)
  replace HC := Lib.hid (HC.out.below hb)
  replace HD := Lib.hid (HD.out.below hb)
  replace HBd := Lib.hid (HBd.out.below hb)
  replace HL := Lib.hid (HL.out.below hb)
  replace HBc := Lib.hid (HBc.out.below hb)
  replace HB := Lib.hid (HB.out.trans (hb.mono HB.out.size))
  clear hb
  have cc0 : w14.cell? ⟨Bc, 0, none⟩ = some (.slice A5_ 0 c5) := HBc.out.cell 0
  have cc1 : w14.cell? ⟨Bc, 1, none⟩ = some (.slice A6 0 c6) := HBc.out.cell 1
  go_wp2_with fail
  refine (SameDT ⟨A5_, c5, [], A6, c6, []⟩ ⟨none, 0, [], none, 0, []⟩ w14 (HCd.out _) ⟨Ls.nil _, Ls.nil _⟩ rfl).mono ?_
  rintro e w15 ⟨rfl, hf⟩
  have hb := hf.below (Nat.le_refl _) (fun _ _ h => h)
  clear hf
  replace HA := Lib.hid (HA.out.below hb)
  replace HC := Lib.hid (HC.out.below hb)
  replace HD := Lib.hid (HD.out.below hb)
  replace HBd := Lib.hid (HBd.out.below hb)
  replace HL := Lib.hid (HL.out.below hb)
  replace HBc := Lib.hid (HBc.out.below hb)
  replace HB := Lib.hid (HB.out.trans (hb.mono HB.out.size))
  clear hb
  clear cc0 cc1
  have cd0 : w15.cell? ⟨Bd, 0, none⟩ = some (.slice A1 2 c1) := HBd.out.cell 0
  have cd1 : w15.cell? ⟨Bd, 1, none⟩ = some (.slice A2 2 c2) := HBd.out.cell 1
  go_wp2_with fail
  refine (RightE (⟨A1, c1, [x10, x20], A2, c2, [x21, x30]⟩ : Dl) w15 HD.out (by simp) (by simp) true E12.out).mono ?_
  rintro e w16 ⟨rfl, hb⟩
  replace HA := Lib.hid (HA.out.below hb)
  replace HC := Lib.hid (HC.out.below hb)
  replace HD := Lib.hid (HD.out.below hb)
  replace HBd := Lib.hid (HBd.out.below hb)
  replace HL := Lib.hid (HL.out.below hb)
  replace HBc := Lib.hid (HBc.out.below hb)
  replace HB := Lib.hid (HB.out.trans (hb.mono HB.out.size))
  clear hb
  clear cd0 cd1
  have kb : ∀ (A A' : Option Addr) (k k' : Nat) (W : World), (Instr.build TDl #[(0, .slice A 2 k), (1, .slice A' 2 k')]).run Tryz.prog W = .ok (.agg #[.slice A 2 k, .slice A' 2 k']) W := fun A A' k k' W => by kernel_rfl
  go_wp2_with fail
  refine (RightE (Dl.mk _ _ [x21, x30] _ _ [x21, x30]) w16 ⟨HC.out, HC.out⟩ (by simp) (by simp) false E8.out).mono ?_
  rintro e w17 ⟨rfl, hb⟩
  replace HA := Lib.hid (HA.out.below hb)
  replace HC := Lib.hid (HC.out.below hb)
  replace HD := Lib.hid (HD.out.below hb)
  replace HBd := Lib.hid (HBd.out.below hb)
  replace HL := Lib.hid (HL.out.below hb)
  replace HBc := Lib.hid (HBc.out.below hb)
  replace HB := Lib.hid (HB.out.trans (hb.mono HB.out.size))
  clear hb
  go_wp2_with fail
  refine (F12.out w17).mono ?_
  rintro e w18 ⟨rfl, hf⟩
  have hb := hf.below (Nat.le_refl _) (fun _ _ h => h)
  clear hf
  replace HA := Lib.hid (HA.out.below hb)
  replace HC := Lib.hid (HC.out.below hb)
  replace HD := Lib.hid (HD.out.below hb)
  replace HBd := Lib.hid (HBd.out.below hb)
  replace HL := Lib.hid (HL.out.below hb)
  replace HBc := Lib.hid (HBc.out.below hb)
  replace HB := Lib.hid (HB.out.trans (hb.mono HB.out.size))
  clear hb
  go_wp2_with fail
  refine (F11.out w18).mono ?_
  rintro e w19 ⟨rfl, hf⟩
  have hb := hf.below (Nat.le_refl _) (fun _ _ h => h)
  clear hf
  replace HA := Lib.hid (HA.out.below hb)
  replace HC := Lib.hid (HC.out.below hb)
  replace HD := Lib.hid (HD.out.below hb)
  replace HBd := Lib.hid (HBd.out.below hb)
  replace HL := Lib.hid (HL.out.below hb)
  replace HBc := Lib.hid (HBc.out.below hb)
  replace HB := Lib.hid (HB.out.trans (hb.mono HB.out.size))
  clear hb
  go_wp2_with fail
  have hb := (Below.refl w19.heap.size w19).alloc (Nat.le_refl _) (.cells #[.int .i64 x12.t, .int .i64 x12.i, .int .i64 x12.p, .int .i64 x12.r, .string x12.s, .string x12.o, .int .i64 x12.b, .int .i64 x12.d, .bool x12.g, .int .i64 x11.t, .int .i64 x11.i, .int .i64 x11.p, .int .i64 x11.r, .string x11.s, .string x11.o, .int .i64 x11.b, .int .i64 x11.d, .bool x11.g] TSn)
  have HN := Lib.hid (Ls.lit w19 [x12, x11] #[.int .i64 x12.t, .int .i64 x12.i, .int .i64 x12.p, .int .i64 x12.r, .string x12.s, .string x12.o, .int .i64 x12.b, .int .i64 x12.d, .bool x12.g, .int .i64 x11.t, .int .i64 x11.i, .int .i64 x11.p, .int .i64 x11.r, .string x11.s, .string x11.o, .int .i64 x11.b, .int .i64 x11.d, .bool x11.g] rfl 2 rfl (by simp) (by simp [K12.out, K11.out]))
  generalize (w19.alloc (.cells #[.int .i64 x12.t, .int .i64 x12.i, .int .i64 x12.p, .int .i64 x12.r, .string x12.s, .string x12.o, .int .i64 x12.b, .int .i64 x12.d, .bool x12.g, .int .i64 x11.t, .int .i64 x11.i, .int .i64 x11.p, .int .i64 x11.r, .string x11.s, .string x11.o, .int .i64 x11.b, .int .i64 x11.d, .bool x11.g] TSn)) = w20 at *
  replace HA := Lib.hid (HA.out.below hb)
  replace HC := Lib.hid (HC.out.below hb)
  replace HD := Lib.hid (HD.out.below hb)
  replace HBd := Lib.hid (HBd.out.below hb)
  replace HL := Lib.hid (HL.out.below hb)
  replace HBc := Lib.hid (HBc.out.below hb)
  replace HB := Lib.hid (HB.out.trans (hb.mono HB.out.size))
  clear hb
  refine (SetE HN.out (by simp) _ rfl).mono ?_
  rintro e w21 ⟨A8, c8, rfl, hls, -, hb⟩
  replace HA := Lib.hid (HA.out.below hb)
  replace HC := Lib.hid (HC.out.below hb)
  replace HD := Lib.hid (HD.out.below hb)
  replace HBd := Lib.hid (HBd.out.below hb)
  replace HL := Lib.hid (HL.out.below hb)
  replace HBc := Lib.hid (HBc.out.below hb)
  replace HN := Lib.hid (HN.out.below hb)
  replace HB := Lib.hid (HB.out.trans (hb.mono HB.out.size))
  clear hb
  have HS := Lib.hid hls
  clear hls
  rw [E5.out]
  go_wp2_with fail
  go_ret
  exact ⟨rfl, HB.out⟩
end Law15
end Go.Proofs.YtkhhdadlpilbmaaGreat
