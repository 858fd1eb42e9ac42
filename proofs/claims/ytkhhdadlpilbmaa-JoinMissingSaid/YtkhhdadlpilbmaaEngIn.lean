/- The engine of regions that draw their order, inside a round of a loop over a function. -/
import Derived.Test.YtkhhdadlpilbmaaEng
import Derived.RangeFuncCalls
import Derived.OrdersIn
namespace Go.Proofs.Ytkhhdadlpilbmaa
open Go.RowKit
namespace Eng

/-- Q, but no way out by lack of room. -/
def noOut (Q : Exit → Act → World → Prop) : Exit → Act → World → Prop
  | .outgrown, _, _ => False
  | e, a, w => Q e a w
theorem noOut_lets (Q : Exit → Act → World → Prop) : ¬ LetsOut (noOut Q) := fun ⟨_, _, h⟩ => h
def noDefer (ops : Array Oper) : Bool := ops.all (fun o => match o.op with | .defer _ => false | _ => true)
theorem noDefer_at {ops : Array Oper} (h : noDefer ops = true) {i : Nat} {o : Oper} (ho : ops[i]? = some o) : ∀ c, o.op ≠ .defer c := by
  intro c hc
  have hi := Array.getElem?_eq_some_iff.1 ho
  have := (Array.all_eq_true.1 h) i hi.1
  rw [hi.2, hc] at this
  cases this

theorem opsIn_of {P : Program} {ops : Array Oper} {Q : Exit → Act → World → Prop} (hnd : noDefer ops = true) (l m : Nat) : ∀ (s : List Nat) (a : Act) (w : World), wpOps P ops (noOut Q) s a w → wpOpsIn (Fence.wide.inRound l) m P ops Q s a w
  | [], _, _, h => h
  | i :: rest, a, w, h => by
    unfold wpOps at h
    unfold wpOpsIn
    cases ho : ops[i]? with
    | none => rw [ho] at h; exact opsIn_of hnd l m rest a w h
    | some o =>
      rw [ho] at h
      dsimp only at h ⊢
      by_cases hw : Region.wanted o (yielded ops a.tmps) = true
      · rw [if_pos hw] at h ⊢
        rcases h with h | h
        · refine ⟨fun _ _ => trivial, ?_⟩
          rw [Oper.semAt_eq _ _ _ (noDefer_at hnd ho)]
          unfold Oper.wp at h
          generalize (execOp a.eval o).run P w = r at h
          match r, h with
          | .ok (.value v) w', h => exact opsIn_of hnd l m rest _ _ h
          | .ok .skip w', h => exact opsIn_of hnd l m rest _ _ h
          | .ok (.defer d) w', h => exact opsIn_of hnd l m rest _ _ h
          | .ok (.enter f args) w', h =>
            refine ⟨fun h => (by cases h), CallsIn.inRound l (callsIn_wide.2 (Calls.mono h ?_))⟩
            intro e w'' hq
            match e, hq with
            | .returned v, hq => exact opsIn_of hnd l m rest _ _ hq
            | .panicked chain, hq => exact hq
            | .outgrown, hq => exact (noOut_lets Q hq).elim
          | .ok (.row row args) w', h =>
            refine ⟨fun h => (by cases h), fun c cs _ => ?_⟩
            obtain ⟨v, w'', hq, hs⟩ := h c cs
            exact ⟨v, w'', opsIn_of hnd l m rest _ _ hq, stepsIn_wide.2 hs⟩
          | .halt (.panic v) w', h => exact h
        · exact (noOut_lets Q h.2).elim
      · rw [if_neg hw] at h ⊢
        exact ⟨fun _ _ => trivial, opsIn_of hnd l m rest _ _ h⟩

variable {P : Program} {ops : Array Oper} {Q : Exit → Act → World → Prop} {S : World → Prop} {b : Nat → Value} {a0 : Act} {n : Nat}
/-- A region that draws, inside a round, by a schedule. -/
theorem regionIn (sch : List (Nat × Bool)) (S : World → Prop) {id l m : Nat} {w : World} (hm : P.follows .mixedOrders = true) (n : Nat) (hn : a0.tmps.size = n) (hsel : Region.noSelect ops = true) (hnd : noDefer ops = true)
    (hQ : ∀ c (a : Act) (d : Nat) (v : Value) w, Q (.panic c) (a.put (some d) v) w → Q (.panic c) a w) (hl : sch.length = ops.size) (hok : okM ops sch 0 = true) (hS : S w.drew)
    (h : ∀ (a : Act) (b : Nat → Value), a0 = a → (∀ k, a0.tmps.getD k undef = b k) → Sch P ops (noOut Q) S b a n sch [] w.drew) : (Code.region id ops true).wpIn (Fence.wide.inRound l) m P Q a0 w := by
  refine wpIn_region_draw fun t => ?_
  simp only [Region.schedule, hm, Bool.true_or, if_true]
  refine opsIn_of hnd l m _ _ _ ?_
  refine wpAny_sound ops.size t _ a0 _ (wpAny_of_held (S := S) _ _ _ _ ?_)
  exact Sch.sound (Q := noOut Q) hn (fun _ => rfl) hsel hQ sch [] _ _ _ (by omega) rfl (okB_of_okM sch 0 _ (RelM.start _) hok) hS (h a0 _ rfl (fun _ => rfl))
theorem regionInN (sch : List (Nat × Bool)) (S : World → Prop) {id l m : Nat} {w : World} (hm : P.follows .mixedOrders = true) (n : Nat) (hn : a0.tmps.size = n) (hsel : Region.noSelect ops = true) (hnd : noDefer ops = true)
    (hl : sch.length = ops.size) (hok : okM ops sch 0 = true) (hS : S w.drew)
    (h : ∀ (a : Act) (b : Nat → Value), a0 = a → (∀ k, a0.tmps.getD k undef = b k) → Sch P ops (noOut (noPan Q)) S b a n sch [] w.drew) : (Code.region id ops true).wpIn (Fence.wide.inRound l) m P Q a0 w :=
  wpIn_mono (regionIn sch S hm n hn hsel hnd (fun _ _ _ _ _ h => h) hl hok hS h) noPan_imp
end Eng
end Go.Proofs.Ytkhhdadlpilbmaa
