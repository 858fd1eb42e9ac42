/- Loops over functions that give a known list: the iterator's contract (SeqP) and the law of the loop (range_P). No program is named. -/
import Derived.Test.YtkhhdadlpilbmaaWorld
import Derived.RangeFuncNested
import Derived.RangeFuncBound
namespace Go.Proofs.Ytkhhdadlpilbmaa
open Go.RowKit

/-- The blocks from lo on, below hi. -/
def Rg (lo hi : Nat) (k : Nat) : Prop := lo ≤ k ∧ k < hi
/-- They lie as they lay. -/
def KeptR (lo hi : Nat) (W W' : World) : Prop := ∀ k, Rg lo hi k → W'.heap[k]? = W.heap[k]?
/-- Blocks of a list lie as they lay. -/
def KeptL (S : List Nat) (W W' : World) : Prop := ∀ b ∈ S, W'.heap[b]? = W.heap[b]?
/-- What is said abides whatever becomes of the blocks from lo on, below hi, and whatever is new. -/
def Abide {α : Type} (lo hi : Nat) (J : α → World → Prop) : Prop := ∀ s A B, J s A → Fr (Rg lo hi) A B → J s B

theorem KeptR.refl (lo hi : Nat) (W : World) : KeptR lo hi W W := fun _ _ => rfl
theorem KeptR.trans {lo hi : Nat} {A B C : World} (h : KeptR lo hi A B) (k : KeptR lo hi B C) : KeptR lo hi A C := fun i hi' => (k i hi').trans (h i hi')
theorem KeptL.refl (S : List Nat) (W : World) : KeptL S W W := fun _ _ => rfl
theorem KeptL.trans {S : List Nat} {A B C : World} (h : KeptL S A B) (k : KeptL S B C) : KeptL S A C := fun b hb => (k b hb).trans (h b hb)
theorem KeptL.of_fr {S : List Nat} {T : Nat → Prop} {A B : World} (h : Fr T A B) (hs : ∀ b ∈ S, b < A.heap.size ∧ ¬ T b) : KeptL S A B := fun b hb => h.block b (hs b hb).1 (hs b hb).2
theorem KeptR.of_fr {lo hi : Nat} {T : Nat → Prop} {A B : World} (h : Fr T A B) (hh : hi ≤ A.heap.size) (hs : ∀ b, Rg lo hi b → ¬ T b) : KeptR lo hi A B := fun b hb => h.block b (by have := hb.2; omega) (hs b hb)
theorem Fr.putObj (W : World) (l : Nat) (o : Obj) {S : Nat → Prop} (h : S l) : Fr S W (W.putObj l o) :=
  ⟨rfl, rfl, rfl, by simp, fun k _ hn => World.putObj_heap_other (fun e => hn (e ▸ h))⟩

/-- The iterator g, with what it has captured (lb), gives the list LL in order, or a part of it where a round wants no more. FP: what it reads between the rounds; c: how many blocks it lays ahead of the first round and then keeps for itself. -/
def SeqP {α : Type} (P : Program) (g : Nat) (lb : Array Value) (encs : α → Array Value) (FP : List Nat) (c : Nat) (LL : List α) (w : World) : Prop :=
  ∀ (n l : Nat) (J Jx : List α → World → Prop) (W : World), Below w.heap.size w W → Abide W.heap.size (W.heap.size + c) J → Abide W.heap.size (W.heap.size + c) Jx →
    (∀ m pre x W1, J pre W1 → W.heap.size + c ≤ W1.heap.size → pre ++ [x] <+: LL → YieldAt Fence.wide m P l (encs x) W1 fun e W' =>
      (e = .returned (.bool true) ∧ J (pre ++ [x]) W' ∧ KeptL FP W1 W' ∧ KeptR W.heap.size (W.heap.size + c) W1 W' ∧ W1.heap.size ≤ W'.heap.size) ∨
      (e = .returned (.bool false) ∧ Jx (pre ++ [x]) W' ∧ KeptR W.heap.size (W.heap.size + c) W1 W' ∧ W1.heap.size ≤ W'.heap.size)) →
    J [] W →
    CallsIn Fence.wide n P g (#[.func (.yield l) #[] #[]] ++ lb) W fun e W' => (∃ v, e = .returned v) ∧ W.heap.size ≤ W'.heap.size ∧ (J LL W' ∨ (∃ pre, pre <+: LL ∧ Jx pre W'))

/-- How the body of a round may be left. -/
def postP {α : Type} (lo hi : Nat) (FP : List Nat) (I : List α → World → Prop) (Ix : Code → List α → World → Prop) (xs : List α) (W : World) : Exit → Act → World → Prop
  | .normal, _, W' => KeptR lo hi W W' ∧ W.heap.size ≤ W'.heap.size ∧ KeptL FP W W' ∧ I xs W'
  | .ret, _, W' => KeptR lo hi W W' ∧ W.heap.size ≤ W'.heap.size ∧ Ix .ret xs W'
  | .exit id, _, W' => KeptR lo hi W W' ∧ W.heap.size ≤ W'.heap.size ∧ Ix (.exit id) xs W'
  | .goto t, _, W' => KeptR lo hi W W' ∧ W.heap.size ≤ W'.heap.size ∧ Ix (.goto t) xs W'
  | .panic _, _, _ => False
  | .outgrown, _, _ => False

/-- The law: the loop's two blocks lie at w.heap.size, w.heap.size + 1; the iterator's own behind them. -/
theorem range_P {P : Program} {α : Type} {g : Operand} {ps : Array Tmp} {assign body : Code} {Q : Exit → Act → World → Prop} {a : Act} {w : World} {n : Nat}
    {gf : Nat} {lb : Array Value} (hg : a.eval g = .func (.func gf) #[] lb) (eg : ∀ args w, (callFunc gf args).run P w = .ok (.enter gf args) w)
    {encs : α → Array Value} {FP : List Nat} {c : Nat} {LL : List α} (hseq : SeqP P gf lb encs FP c LL w) (hFP : ∀ b ∈ FP, b < w.heap.size) (hps : ∀ x, (encs x).size = ps.size)
    (I : List α → World → Prop) (Ix : Code → List α → World → Prop) (hI : Abide w.heap.size (w.heap.size + 2 + c) I) (hIx : ∀ k, Abide w.heap.size (w.heap.size + 2 + c) (Ix k)) (h0 : I [] w)
    (Ax : α → Act → World → Prop) (hAx : ∀ a', Abide w.heap.size (w.heap.size + 2 + c) (fun x W => Ax x a' W))
    (hassign : ∀ (l m : Nat) (pre : List α) (x : α) (W : World) (K : Act → World → Prop), I pre W → w.heap.size + 2 + c ≤ W.heap.size → pre ++ [x] <+: LL →
      (∀ a' W', KeptR w.heap.size (w.heap.size + 2 + c) W W' → W.heap.size ≤ W'.heap.size → KeptL FP W W' → I pre W' → Ax x a' W' → K a' W') →
      assign.wpIn (Fence.wide.inRound l) m P (Exit.then K (fun _ _ _ => False)) { tmps := (ps.zip (encs x)).foldl (fun t (p, v) => t.setIfInBounds p v) a.tmps, defers := [] } W)
    (hbody : ∀ (l m : Nat) (pre : List α) (x : α) (a' : Act) (W : World), I pre W → Ax x a' W → w.heap.size + 2 + c ≤ W.heap.size → pre ++ [x] <+: LL → l = w.heap.size + 1 → (∃ r, W.heap[l]? = some (.loop r)) → W.heap[w.heap.size]? = some (.deferred (some [])) →
      body.wpIn (Fence.wide.inRound l) m P (postP w.heap.size (w.heap.size + 2 + c) FP I Ix (pre ++ [x]) W) a' W)
    (hdone : ∀ (W : World), w.heap.size + 2 ≤ W.heap.size → I LL W → W.heap[w.heap.size]? = some (.deferred (some [])) → Q .normal { a with defers := { target := .collected w.heap.size, args := #[] } :: a.defers } W)
    (hstop : ∀ (k : Code) (pre : List α) (W : World), w.heap.size + 2 ≤ W.heap.size → pre <+: LL → Ix k pre W → W.heap[w.heap.size]? = some (.deferred (some [])) → k.wpIn Fence.wide n P Q { a with defers := { target := .collected w.heap.size, args := #[] } :: a.defers } W) :
    (Code.rangeFunc g ps assign body).wpIn Fence.wide n P Q a w := by
  refine wpIn_rangeFunc ?_
  intro fn hfn
  -- the record, by its state and its pending jump
  let rec0 : LoopState → Option Code → Loop := fun st pe => { state := st, pending := pe, fn, tmps := a.tmps, params := ps, assign, body, defers := w.heap.size }
  obtain ⟨W1, hW1⟩ : ∃ W1, (w.alloc (.deferred (some []))).alloc (.loop (rec0 .ready none)) = W1 := ⟨_, rfl⟩
  have sz1 : W1.heap.size = w.heap.size + 2 := by rw [← hW1]; simp
  have f1 : Fr (fun _ => False) w W1 := by rw [← hW1]; exact (Fr.alloc _ _ _).trans (Fr.alloc (fun _ => False) _ _) (fun _ _ h => h) (fun _ _ h => h)
  have l1 : W1.heap[w.heap.size + 1]? = some (.loop (rec0 .ready none)) := by
    rw [← hW1]; have := heap_new (w.alloc (.deferred (some []))) (.loop (rec0 .ready none)); rwa [World.size_alloc] at this
  have d1 : W1.heap[w.heap.size]? = some (.deferred (some [])) := by
    rw [← hW1]; exact (Below.heap_alloc _ _ _ (by simp)).trans (heap_new w _)
  have b1 : Below w.heap.size w W1 := f1.below (Nat.le_refl _) (fun _ _ h => h)
  -- a turn of the record is within what I, Ix and Ax abide
  have turn : ∀ (W : World) (o : Obj), Fr (Rg w.heap.size (w.heap.size + 2 + c)) W (W.putObj (w.heap.size + 1) o) := fun W o => Fr.putObj W _ o ⟨by omega, by omega⟩
  have wide : ∀ {A B : World}, Fr (Rg W1.heap.size (W1.heap.size + c)) A B → Fr (Rg w.heap.size (w.heap.size + 2 + c)) A B := fun h => h.mono (fun i _ hi => ⟨by have := hi.1; omega, by have := hi.2; omega⟩)
  refine ⟨w.heap.size + 1, [{ target := .collected w.heap.size, args := #[] }], W1, { target := .fn (.func gf) lb, args := #[.func (.yield (w.heap.size + 1)) #[] #[]] }, W1, gf,
    #[.func (.yield (w.heap.size + 1)) #[] #[]] ++ lb, W1, ?_, ?_, fun _ _ => trivial, ?_, fun h => (by cases h), ?_⟩
  · rw [← hW1]; exact run_enterLoop_outer _ _ _ _ _
  · simp only [resolve, hg]; simp [go_sem]
  · simp [invoke, go_sem, eg]
  · have hn : ∀ (st : LoopState) (pe : Option Code) (W W' : World), Fr (Rg W1.heap.size (W1.heap.size + c)) W W' → W.heap[w.heap.size + 1]? = some (.loop (rec0 st pe)) ∧ W.heap[w.heap.size]? = some (.deferred (some [])) →
        W'.heap[w.heap.size + 1]? = some (.loop (rec0 st pe)) ∧ W'.heap[w.heap.size]? = some (.deferred (some [])) := fun st pe W W' hf ⟨h1, h2⟩ =>
      ⟨(hf.block _ (lt_of_heap h1) (fun h => by have := h.1; omega)).trans h1, (hf.block _ (lt_of_heap h2) (fun h => by have := h.1; omega)).trans h2⟩
    refine (hseq (n - 1) (w.heap.size + 1)
      (fun pre W => I pre W ∧ W.heap[w.heap.size + 1]? = some (.loop (rec0 .ready none)) ∧ W.heap[w.heap.size]? = some (.deferred (some [])))
      (fun pre W => ∃ k, Ix k pre W ∧ W.heap[w.heap.size + 1]? = some (.loop (rec0 .done (some k))) ∧ W.heap[w.heap.size]? = some (.deferred (some [])))
      W1 b1
      (fun s A B hs hf => ⟨hI s A B hs.1 (wide hf), hn _ _ A B hf hs.2⟩)
      (fun s A B hs hf => by obtain ⟨k, hk, hs⟩ := hs; exact ⟨k, hIx k s A B hk (wide hf), hn _ _ A B hf hs⟩)
      ?_ ⟨hI _ _ _ h0 (f1.mono (fun _ _ h => h.elim)), l1, d1⟩).mono ?_
    · rintro m pre x W ⟨hi, hl, hd⟩ hsz hpre
      have hsz' : w.heap.size + 2 + c ≤ W.heap.size := by omega
      have hy := run_yield (P := P) (args := encs x) hl (hps x)
      refine ⟨fn, _, assign, body, hy, roundIn_of_wpIn hfn (hassign _ m pre x W _ hi hsz' hpre ?_)⟩
      intro a' Wa kr ks kl hia hax
      have hla := (kr _ ⟨by omega, by omega⟩).trans hl
      have hda := (kr _ ⟨by omega, by omega⟩).trans hd
      refine ⟨_, run_beginRound hla rfl, ?_⟩
      have lt : w.heap.size + 1 < Wa.heap.size := lt_of_heap hla
      obtain ⟨Wb, hWb⟩ : ∃ Wb, Wa.putObj (w.heap.size + 1) (.loop { rec0 .ready none with state := .busy }) = Wb := ⟨_, rfl⟩
      have hlb : Wb.heap[w.heap.size + 1]? = some (.loop (rec0 .busy none)) := by rw [← hWb]; exact World.putObj_heap_same lt
      have hdb : Wb.heap[w.heap.size]? = some (.deferred (some [])) := by rw [← hWb]; exact (World.putObj_heap_other (by omega)).trans hda
      have fb : Fr (Rg w.heap.size (w.heap.size + 2 + c)) Wa Wb := by rw [← hWb]; exact turn _ _
      have ab : ∀ k, k ≠ w.heap.size + 1 → Wb.heap[k]? = Wa.heap[k]? := fun k hk => by rw [← hWb]; exact World.putObj_heap_other hk
      have sb : Wb.heap.size = Wa.heap.size := by rw [← hWb]; simp
      rw [show Wa.putObj (w.heap.size + 1) (.loop { rec0 .ready none with state := .busy }) = Wb from hWb]
      refine wpIn_mono (hbody _ m pre x a' Wb (hI _ _ _ hia fb) (hAx a' x _ _ hax fb) (by omega) hpre rfl ⟨_, hlb⟩ hdb) ?_
      -- the end of a round, by its jump
      have fin : ∀ (jump : Option Code) (W3 : World), KeptR w.heap.size (w.heap.size + 2 + c) Wb W3 → Wb.heap.size ≤ W3.heap.size →
          ∃ W4, (Instr.endRound (w.heap.size + 1) jump).run P W3 = .ok (.bool jump.isNone) W4 ∧ Fr (Rg w.heap.size (w.heap.size + 2 + c)) W3 W4 ∧ (∀ k, k ≠ w.heap.size + 1 → W4.heap[k]? = W3.heap[k]?) ∧ W4.heap.size = W3.heap.size ∧
            W4.heap[w.heap.size + 1]? = some (.loop (rec0 (if jump.isNone then .ready else .done) jump)) ∧ W4.heap[w.heap.size]? = some (.deferred (some [])) := fun jump W3 hk hs => by
        have hl3 := (hk _ ⟨by omega, by omega⟩).trans hlb
        refine ⟨_, run_endRound (P := P) jump hl3, turn _ _, fun k hk' => World.putObj_heap_other hk', by simp, World.putObj_heap_same (lt_of_heap hl3), (World.putObj_heap_other (by omega)).trans ((hk _ ⟨by omega, by omega⟩).trans hdb)⟩
      have priv : ∀ (W3 W4 : World), KeptR w.heap.size (w.heap.size + 2 + c) Wb W3 → (∀ k, k ≠ w.heap.size + 1 → W4.heap[k]? = W3.heap[k]?) → KeptR W1.heap.size (W1.heap.size + c) W W4 := fun W3 W4 hk h4 k hr => by
        have h1 := hr.1
        have h2 := hr.2
        rw [h4 k (by omega), hk k ⟨by omega, by omega⟩, ab k (by omega), kr k ⟨by omega, by omega⟩]
      rintro e a3 W3 hp
      cases e with
      | normal =>
        obtain ⟨k3, s3, kl3, hi3⟩ := hp
        obtain ⟨W4, hr, f4, o4, s4, hl4, hd4⟩ := fin none W3 k3 s3
        refine ⟨_, _, hr, .inl ⟨rfl, ⟨hI _ _ _ hi3 f4, hl4, hd4⟩, fun b hb => ?_, priv _ _ k3 o4, by omega⟩⟩
        have := hFP b hb
        rw [o4 b (by omega), kl3 b hb, ab b (by omega), kl b hb]
      | ret =>
        obtain ⟨k3, s3, hi3⟩ := hp
        obtain ⟨W4, hr, f4, o4, s4, hl4, hd4⟩ := fin (some .ret) W3 k3 s3
        exact ⟨_, _, hr, .inr ⟨rfl, ⟨_, hIx _ _ _ _ hi3 f4, hl4, hd4⟩, priv _ _ k3 o4, by omega⟩⟩
      | exit id =>
        obtain ⟨k3, s3, hi3⟩ := hp
        obtain ⟨W4, hr, f4, o4, s4, hl4, hd4⟩ := fin (some (.exit id)) W3 k3 s3
        exact ⟨_, _, hr, .inr ⟨rfl, ⟨_, hIx _ _ _ _ hi3 f4, hl4, hd4⟩, priv _ _ k3 o4, by omega⟩⟩
      | goto t =>
        obtain ⟨k3, s3, hi3⟩ := hp
        obtain ⟨W4, hr, f4, o4, s4, hl4, hd4⟩ := fin (some (.goto t)) W3 k3 s3
        exact ⟨_, _, hr, .inr ⟨rfl, ⟨_, hIx _ _ _ _ hi3 f4, hl4, hd4⟩, priv _ _ k3 o4, by omega⟩⟩
      | panic ch => exact hp.elim
      | outgrown => exact hp.elim
    · rintro e W2 ⟨⟨v, rfl⟩, hsz, (⟨hi, hl, hd⟩ | ⟨pre, hpre, k, hi, hl, hd⟩)⟩
      · exact ⟨none, _, run_endLoop (P := P) hl (by simp [rec0]), hdone _ (by simp; omega) (hI _ _ _ hi (turn _ _)) ((World.putObj_heap_other (by omega)).trans hd)⟩
      · exact ⟨some k, _, run_endLoop (P := P) hl (by simp [rec0]), hstop k pre _ (by simp; omega) hpre (hIx k _ _ _ hi (turn _ _)) ((World.putObj_heap_other (by omega)).trans hd)⟩

/-- The same, where the loop's variables are plain temporaries. -/
theorem range_P' {P : Program} {α : Type} {g : Operand} {ps : Array Tmp} {assign body : Code} {Q : Exit → Act → World → Prop} {a : Act} {w : World} {n : Nat}
    {gf : Nat} {lb : Array Value} (hg : a.eval g = .func (.func gf) #[] lb) (eg : ∀ args w, (callFunc gf args).run P w = .ok (.enter gf args) w)
    {encs : α → Array Value} {FP : List Nat} {c : Nat} {LL : List α} (hseq : SeqP P gf lb encs FP c LL w) (hFP : ∀ b ∈ FP, b < w.heap.size) (hps : ∀ x, (encs x).size = ps.size)
    (I : List α → World → Prop) (Ix : Code → List α → World → Prop) (hI : Abide w.heap.size (w.heap.size + 2 + c) I) (hIx : ∀ k, Abide w.heap.size (w.heap.size + 2 + c) (Ix k)) (h0 : I [] w) (a₁ : α → Act)
    (hassign : ∀ (l m : Nat) (x : α) (W : World) (K : Act → World → Prop), K (a₁ x) W →
      assign.wpIn (Fence.wide.inRound l) m P (Exit.then K (fun _ _ _ => False)) { tmps := (ps.zip (encs x)).foldl (fun t (p, v) => t.setIfInBounds p v) a.tmps, defers := [] } W)
    (hbody : ∀ (l m : Nat) (pre : List α) (x : α) (W : World), I pre W → w.heap.size + 2 + c ≤ W.heap.size → pre ++ [x] <+: LL → l = w.heap.size + 1 → (∃ r, W.heap[l]? = some (.loop r)) → W.heap[w.heap.size]? = some (.deferred (some [])) →
      body.wpIn (Fence.wide.inRound l) m P (postP w.heap.size (w.heap.size + 2 + c) FP I Ix (pre ++ [x]) W) (a₁ x) W)
    (hdone : ∀ (W : World), w.heap.size + 2 ≤ W.heap.size → I LL W → W.heap[w.heap.size]? = some (.deferred (some [])) → Q .normal { a with defers := { target := .collected w.heap.size, args := #[] } :: a.defers } W)
    (hstop : ∀ (k : Code) (pre : List α) (W : World), w.heap.size + 2 ≤ W.heap.size → pre <+: LL → Ix k pre W → W.heap[w.heap.size]? = some (.deferred (some [])) → k.wpIn Fence.wide n P Q { a with defers := { target := .collected w.heap.size, args := #[] } :: a.defers } W) :
    (Code.rangeFunc g ps assign body).wpIn Fence.wide n P Q a w := by
  refine range_P hg eg hseq hFP hps I Ix hI hIx h0 (fun x a' _ => a' = a₁ x) (fun _ _ _ _ h _ => h) ?_ ?_ hdone hstop
  · intro l m pre x W K hi _ _ hK
    exact hassign l m x W K (hK _ _ (KeptR.refl _ _ _) (Nat.le_refl _) (KeptL.refl _ _) hi rfl)
  · rintro l m pre x a' W hi rfl hsz hpre hl hr hd
    exact hbody l m pre x W hi hsz hpre hl hr hd
end Go.Proofs.Ytkhhdadlpilbmaa
