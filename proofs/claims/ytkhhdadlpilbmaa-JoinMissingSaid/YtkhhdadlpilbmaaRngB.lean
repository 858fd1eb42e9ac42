/- Loops over functions whose variable is a struct: it lies in a box of its own in each round. No program is named. -/
import Derived.Test.YtkhhdadlpilbmaaColl
namespace Go.Proofs.Ytkhhdadlpilbmaa
open Go.RowKit
/-- The law of a loop over a function, where the round's variable lies in a new box, made ahead of the body. -/
theorem range_B {P : Program} {α : Type} {g : Operand} {ps : Array Tmp} {assign body : Code} {Q : Exit → Act → World → Prop} {a : Act} {w : World} {n : Nat}
    {gf : Nat} {lb : Array Value} (hg : a.eval g = .func (.func gf) #[] lb) (eg : ∀ args w, (callFunc gf args).run P w = .ok (.enter gf args) w)
    {encs : α → Array Value} {FP : List Nat} {c : Nat} {LL : List α} (hseq : SeqP P gf lb encs FP c LL w) (hFP : ∀ b ∈ FP, b < w.heap.size) (hps : ∀ x, (encs x).size = ps.size)
    (I : List α → World → Prop) (Ix : Code → List α → World → Prop) (hI : Abide w.heap.size (w.heap.size + 2 + c) I) (hIx : ∀ k, Abide w.heap.size (w.heap.size + 2 + c) (Ix k)) (h0 : I [] w)
    (cs : α → Array Value) (T : TypeId) (hIa : ∀ pre W o, I pre W → w.heap.size + 2 + c ≤ W.heap.size → I pre (W.alloc o)) (a₁ : α → Nat → Act)
    (hassign : ∀ (l m : Nat) (x : α) (W : World) (b : Nat) (K : Act → World → Prop), W.heap.size = b → K (a₁ x b) (W.alloc (.cells (cs x) T)) →
      assign.wpIn (Fence.wide.inRound l) m P (Exit.then K (fun _ _ _ => False)) { tmps := (ps.zip (encs x)).foldl (fun t (p, v) => t.setIfInBounds p v) a.tmps, defers := [] } W)
    (hbody : ∀ (l m : Nat) (pre : List α) (x : α) (b : Nat) (W : World), I pre W → Bk W b (cs x) T → w.heap.size + 2 + c ≤ b → w.heap.size + 2 + c ≤ W.heap.size → pre ++ [x] <+: LL → l = w.heap.size + 1 → (∃ r, W.heap[l]? = some (.loop r)) → W.heap[w.heap.size]? = some (.deferred (some [])) →
      body.wpIn (Fence.wide.inRound l) m P (postP w.heap.size (w.heap.size + 2 + c) FP I Ix (pre ++ [x]) W) (a₁ x b) W)
    (hdone : ∀ (W : World), w.heap.size + 2 ≤ W.heap.size → I LL W → W.heap[w.heap.size]? = some (.deferred (some [])) → Q .normal { a with defers := { target := .collected w.heap.size, args := #[] } :: a.defers } W)
    (hstop : ∀ (k : Code) (pre : List α) (W : World), w.heap.size + 2 ≤ W.heap.size → pre <+: LL → Ix k pre W → W.heap[w.heap.size]? = some (.deferred (some [])) → k.wpIn Fence.wide n P Q { a with defers := { target := .collected w.heap.size, args := #[] } :: a.defers } W) :
    (Code.rangeFunc g ps assign body).wpIn Fence.wide n P Q a w := by
  refine range_P hg eg hseq hFP hps I Ix hI hIx h0 (fun x a' W => ∃ b, a' = a₁ x b ∧ Bk W b (cs x) T ∧ w.heap.size + 2 + c ≤ b)
    (fun a' x A B ⟨b, h1, h2, h3⟩ hf => ⟨b, h1, h2.fr hf (fun k hk h => by simp at hk; subst hk; have := h.2; omega), h3⟩) ?_ ?_ hdone hstop
  · intro l m pre x W K hi hsz _ hK
    have hf := Fr.alloc (fun _ => False) W (.cells (cs x) T)
    exact hassign l m x W _ K rfl (hK _ _ (KeptR.of_fr hf hsz (fun _ _ h => h)) (by simp) (KeptL.of_fr hf (fun b hb => ⟨by have := hFP b hb; omega, fun h => h⟩)) (hIa _ _ _ hi hsz) ⟨_, rfl, Bk.new _ _ _, hsz⟩)
  · rintro l m pre x a' W hi ⟨b, rfl, h2, h3⟩ hsz hpre hl hr hd
    exact hbody l m pre x b W hi h2 h3 hsz hpre hl hr hd
theorem Coll.alloc {n0 lo hi Bo : Nat} {TS E : TypeId} {sz : Nat} {w0 A : World} {k : Nat} {cs : List Value} (h : Coll n0 lo hi Bo TS E sz w0 A k cs) (o : Obj) (hs : n0 ≤ A.heap.size) : Coll n0 lo hi Bo TS E sz w0 (A.alloc o) k cs := by
  obtain ⟨v, h1, h2, h3, h4⟩ := h
  have hf := Fr.alloc (fun _ => False) A o
  exact ⟨v, h1.fr hf (fun _ _ h => h), ownsRow_fr h2 hf (fun _ _ h => h), h3.trans (hf.below hs (fun _ _ h => h)), h4⟩
end Go.Proofs.Ytkhhdadlpilbmaa
