/- The maps in order (avl) at one instance: giving the keys to a loop's body. -/
import Derived.Test.YtkhhdadlpilbmaaAvlGSI
import Derived.Test.YtkhhdadlpilbmaaRounds
import Derived.RangeFuncNested
import Derived.RangeFuncBound
import Derived.RangeFuncCalls
import Derived.RangeFuncLeaves
import Derived.Shelf.Abstract
import Derived.OwnWalkIn
import Derived.TacticsInMore
import Derived.Stop.RegionWithIn
import Derived.Sort.QuietIn
namespace Go.Proofs.Ytkhhdadlpilbmaa
open Go.RowKit Go.Shelf
attribute [local go_sem] Oper.semAt_some
namespace AvlSI

/-- What a round is handed. -/
abbrev encs (x : ByteArray × Int) : Array Value := #[.string x.1, .int .i64 x.2]
theorem In.kept {S : List Nat} {w w' : World} {t : AT ByteArray Int} (h : In w t) (hk : Kept S w w') (hs : ∀ b ∈ t.fp, b ∈ S) : In w' t := by
  induction t with
  | nil => trivial
  | node b k v l r d ihl ihr =>
    obtain ⟨h1, h2, h3⟩ := h
    exact ⟨(hk b (hs b (by simp [AT.fp]))).trans h1, ihl h2 (fun x hx => hs x (by simp [AT.fp, hx])), ihr h3 (fun x hx => hs x (by simp [AT.fp, hx]))⟩

theorem give_nil (n : Nat) (l : Nat) (q : Option Addr) (W : World) :
    CallsIn Fence.wide n Try.prog 124 #[.pointer none, .pointer q, .func (.yield l) #[] #[]] W fun e W' => e = .returned (.bool true) ∧ W = W' := by
  refine callsIn_of_wp Try.func124 rfl trivial ?_ rfl
  simp only [Try.ntmps124, List.size_toArray, List.length_cons, List.length_nil, Nat.reduceAdd, Nat.reduceSub, Array.replicate_succ, Array.replicate_zero, List.push_toArray, List.append_toArray, List.nil_append, List.cons_append]
  gi_wp2
  go_ret
  exact ⟨rfl, rfl⟩

set_option maxRecDepth 100000 in
set_option maxHeartbeats 1000000 in
theorem step_all (n : Nat) (l : Nat) (b : Nat) (k : ByteArray) (v : Int) (tl tr : AT ByteArray Int) (d : Int) (W : World) (A3 : World → Prop) (B : World → Prop)
    (hb : W.heap[b]? = some (.cells (blk k v tl.adr tr.adr d) 172 (0, 0)))
    (ih1 : ∀ W0 : World, W0.heap = W.heap → W0.os = W.os → W0.tape = W.tape → W0.output = W.output → CallsIn Fence.wide (n - 1) Try.prog 124 #[.pointer tl.adr, .pointer none, .func (.yield l) #[] #[]] W0 fun e W1 => (e = .returned (.bool true) ∧ W1.cell? ⟨b, 0, none⟩ = some (.string k) ∧ W1.cell? ⟨b, 1, none⟩ = some (.int .i64 v) ∧
       YieldAt Fence.wide (n - 1) Try.prog l #[.string k, .int .i64 v] W1 fun e W2 => (e = .returned (.bool true) ∧ W2.cell? ⟨b, 3, none⟩ = some (.pointer tr.adr) ∧
         CallsIn Fence.wide (n - 1) Try.prog 124 #[.pointer tr.adr, .pointer none, .func (.yield l) #[] #[]] W2 fun e W3 => (e = .returned (.bool true) ∧ A3 W3) ∨ (e = .returned (.bool false) ∧ B W3)) ∨ (e = .returned (.bool false) ∧ B W2)) ∨ (e = .returned (.bool false) ∧ B W1)) :
    CallsIn Fence.wide n Try.prog 124 #[.pointer (some ⟨b, 0, none⟩), .pointer none, .func (.yield l) #[] #[]] W fun e W' => (e = .returned (.bool true) ∧ A3 W') ∨ (e = .returned (.bool false) ∧ B W') := by
  obtain ⟨c0, c2, -, -, -⟩ := cells hb
  clear hb
  have hdd : ∀ k : Nat, (Fence.wide.depth.isSome = true → 1 ≤ k) := fun k h => by cases h
  refine callsIn_of_wp Try.func124 rfl trivial ?_ rfl
  simp only [Try.ntmps124, List.size_toArray, List.length_cons, List.length_nil, Nat.reduceAdd, Nat.reduceSub, Array.replicate_succ, Array.replicate_zero, List.push_toArray, List.append_toArray, List.nil_append, List.cons_append]
  gi_wp2_with fail
  gi_quiet (fail)
  gi_wp2_with fail
  have IH := Lib.hid (ih1 (W.drewN (nq + 1)) rfl rfl rfl rfl)
  clear ih1
  refine wpIn_region_any (by kernel_rfl) ?_
  change wpAnyIn _ _ _ _ _ _ _ _ _ (World.drew _)
  refine wpAnyIn_take (i := 0) (v := ?_) rfl rfl (by kernel_rfl) (by kernel_rfl) (by kernel_rfl) (fun _ _ _ h => h) ⟨Or.inl ⟨by kernel_rfl, ?_⟩, fun _ => by kernel_rfl⟩ ?_
  rotate_left
  · intro w; go_simp; first | done | with_reducible rfl
  refine wpAnyIn_take (i := 1) (v := ?_) rfl rfl (by kernel_rfl) (by kernel_rfl) (by kernel_rfl) (fun _ _ _ h => h) ⟨Or.inl ⟨by kernel_rfl, ?_⟩, fun _ => by kernel_rfl⟩ ?_
  rotate_left
  · intro w; go_simp; first | done | with_reducible rfl
  refine wpAnyIn_take (i := 2) (v := ?_) rfl rfl (by kernel_rfl) (by kernel_rfl) (by kernel_rfl) (fun _ _ _ h => h) ⟨Or.inl ⟨by kernel_rfl, ?_⟩, fun _ => by kernel_rfl⟩ ?_
  rotate_left
  · intro w; go_simp; first | done | with_reducible rfl
  refine wpAnyIn_take (i := 4) (v := ?_) rfl rfl (by kernel_rfl) (by kernel_rfl) (by kernel_rfl) (fun _ _ _ h => h) ⟨Or.inl ⟨by kernel_rfl, ?_⟩, fun _ => by kernel_rfl⟩ ?_
  rotate_left
  · intro w; go_simp; first | done | with_reducible rfl
  refine wpAnyIn_take (i := 5) (v := ?_) rfl rfl (by kernel_rfl) (by kernel_rfl) (by kernel_rfl) (fun _ _ _ h => h) ⟨Or.inl ⟨by kernel_rfl, ?_⟩, fun _ => by kernel_rfl⟩ ?_
  rotate_left
  · intro w; go_simp; first | done | with_reducible rfl
  refine wpAnyIn_ready (rs := [3]) (by kernel_rfl) (by simp) ?_
  refine AllReadyIn.cons rfl (fun K hK => ?_) AllReadyIn.nil
  go_simp
  refine hK _ _ ?_
  clear hK K
  refine wpAnyIn_ready (rs := [6]) (by kernel_rfl) (by simp) ?_
  refine AllReadyIn.cons rfl (fun K hK => ?_) AllReadyIn.nil
  go_simp
  refine ⟨trivial, hdd _, ?_⟩
  refine IH.out.mono ?_
  clear IH
  rintro e W1 (⟨rfl, k0, k1, fn, tmps, assign, body, hy, hR⟩ | ⟨rfl, hB1⟩)
  rotate_left
  · refine hK _ _ ?_
    clear hK K
    refine wpAnyIn_take (i := 7) (v := ?_) rfl rfl (by kernel_rfl) (by kernel_rfl) (by kernel_rfl) (fun _ _ _ h => h) ⟨Or.inl ⟨by kernel_rfl, ?_⟩, fun _ => by kernel_rfl⟩ ?_
    rotate_left
    · intro w; go_simp; first | done | with_reducible rfl
    go_simp
    refine wpAnyIn_take (i := 8) (v := undef) rfl rfl (by kernel_rfl) (by kernel_rfl) (by kernel_rfl) (fun _ _ _ h => h) ⟨Or.inr ⟨by kernel_rfl, rfl⟩, fun _ => by kernel_rfl⟩ ?_
    refine wpAnyIn_take (i := 9) (v := undef) rfl rfl (by kernel_rfl) (by kernel_rfl) (by kernel_rfl) (fun _ _ _ h => h) ⟨Or.inr ⟨by kernel_rfl, rfl⟩, fun _ => by kernel_rfl⟩ ?_
    refine wpAnyIn_take (i := 10) (v := undef) rfl rfl (by kernel_rfl) (by kernel_rfl) (by kernel_rfl) (fun _ _ _ h => h) ⟨Or.inr ⟨by kernel_rfl, rfl⟩, fun _ => by kernel_rfl⟩ ?_
    refine wpAnyIn_take (i := 11) (v := undef) rfl rfl (by kernel_rfl) (by kernel_rfl) (by kernel_rfl) (fun _ _ _ h => h) ⟨Or.inr ⟨by kernel_rfl, rfl⟩, fun _ => by kernel_rfl⟩ ?_
    refine wpAnyIn_take (i := 12) (v := undef) rfl rfl (by kernel_rfl) (by kernel_rfl) (by kernel_rfl) (fun _ _ _ h => h) ⟨Or.inr ⟨by kernel_rfl, rfl⟩, fun _ => by kernel_rfl⟩ ?_
    go_simp
    refine wpAnyIn_take (i := 13) (v := undef) rfl rfl (by kernel_rfl) (by kernel_rfl) (by kernel_rfl) (fun _ _ _ h => h) ⟨Or.inr ⟨by kernel_rfl, rfl⟩, fun _ => by kernel_rfl⟩ ?_
    refine wpAnyIn_take (i := 14) (v := undef) rfl rfl (by kernel_rfl) (by kernel_rfl) (by kernel_rfl) (fun _ _ _ h => h) ⟨Or.inr ⟨by kernel_rfl, rfl⟩, fun _ => by kernel_rfl⟩ ?_
    refine wpAnyIn_take (i := 15) (v := undef) rfl rfl (by kernel_rfl) (by kernel_rfl) (by kernel_rfl) (fun _ _ _ h => h) ⟨Or.inr ⟨by kernel_rfl, rfl⟩, fun _ => by kernel_rfl⟩ ?_
    refine wpAnyIn_take (i := 16) (v := undef) rfl rfl (by kernel_rfl) (by kernel_rfl) (by kernel_rfl) (fun _ _ _ h => h) ⟨Or.inr ⟨by kernel_rfl, rfl⟩, fun _ => by kernel_rfl⟩ ?_
    go_simp
    refine wpAnyIn_ready (rs := [17]) (by kernel_rfl) (by simp) ?_
    refine AllReadyIn.cons rfl (fun K hK => ?_) AllReadyIn.nil
    go_simp
    first | refine ⟨fun _ _ => trivial, ?_⟩ | refine ⟨trivial, ?_⟩
    refine hK _ _ ?_
    clear hK K
    refine wpAnyIn_take (i := 18) (v := ?_) rfl rfl (by kernel_rfl) (by kernel_rfl) (by kernel_rfl) (fun _ _ _ h => h) ⟨Or.inl ⟨by kernel_rfl, ?_⟩, fun _ => by kernel_rfl⟩ ?_
    rotate_left
    · intro w; go_simp; first | done | with_reducible rfl
    go_simp
    refine wpAnyIn_take (i := 19) (v := ?_) rfl rfl (by kernel_rfl) (by kernel_rfl) (by kernel_rfl) (fun _ _ _ h => h) ⟨Or.inl ⟨by kernel_rfl, ?_⟩, fun _ => by kernel_rfl⟩ ?_
    rotate_left
    · intro w; go_simp; first | done | with_reducible rfl
    go_simp
    refine wpAnyIn_take (i := 20) (v := undef) rfl rfl (by kernel_rfl) (by kernel_rfl) (by kernel_rfl) (fun _ _ _ h => h) ⟨Or.inr ⟨by kernel_rfl, rfl⟩, fun _ => by kernel_rfl⟩ ?_
    refine wpAnyIn_take (i := 21) (v := undef) rfl rfl (by kernel_rfl) (by kernel_rfl) (by kernel_rfl) (fun _ _ _ h => h) ⟨Or.inr ⟨by kernel_rfl, rfl⟩, fun _ => by kernel_rfl⟩ ?_
    refine wpAnyIn_take (i := 22) (v := undef) rfl rfl (by kernel_rfl) (by kernel_rfl) (by kernel_rfl) (fun _ _ _ h => h) ⟨Or.inr ⟨by kernel_rfl, rfl⟩, fun _ => by kernel_rfl⟩ ?_
    refine wpAnyIn_take (i := 23) (v := undef) rfl rfl (by kernel_rfl) (by kernel_rfl) (by kernel_rfl) (fun _ _ _ h => h) ⟨Or.inr ⟨by kernel_rfl, rfl⟩, fun _ => by kernel_rfl⟩ ?_
    refine wpAnyIn_take (i := 24) (v := undef) rfl rfl (by kernel_rfl) (by kernel_rfl) (by kernel_rfl) (fun _ _ _ h => h) ⟨Or.inr ⟨by kernel_rfl, rfl⟩, fun _ => by kernel_rfl⟩ ?_
    go_simp
    refine wpAnyIn_ready (rs := [25]) (by kernel_rfl) (by simp) ?_
    refine AllReadyIn.cons rfl (fun K hK => ?_) AllReadyIn.nil
    go_simp
    first | refine ⟨fun _ _ => trivial, ?_⟩ | refine ⟨trivial, ?_⟩
    refine hK _ _ ?_
    clear hK K
    refine wpAnyIn_take (i := 26) (v := ?_) rfl rfl (by kernel_rfl) (by kernel_rfl) (by kernel_rfl) (fun _ _ _ h => h) ⟨Or.inl ⟨by kernel_rfl, ?_⟩, fun _ => by kernel_rfl⟩ ?_
    rotate_left
    · intro w; go_simp; first | done | with_reducible rfl
    refine wpAnyIn_take (i := 27) (v := ?_) rfl rfl (by kernel_rfl) (by kernel_rfl) (by kernel_rfl) (fun _ _ _ h => h) ⟨Or.inl ⟨by kernel_rfl, ?_⟩, fun _ => by kernel_rfl⟩ ?_
    rotate_left
    · intro w; go_simp; first | done | with_reducible rfl
    refine wpAnyIn_done (by kernel_rfl) ?_ _
    gi_wp2_with fail
    go_ret
    exact .inr ⟨rfl, hB1⟩
  refine hK _ _ ?_
  clear hK K
  refine wpAnyIn_take (i := 7) (v := ?_) rfl rfl (by kernel_rfl) (by kernel_rfl) (by kernel_rfl) (fun _ _ _ h => h) ⟨Or.inl ⟨by kernel_rfl, ?_⟩, fun _ => by kernel_rfl⟩ ?_
  rotate_left
  · intro w; go_simp; first | done | with_reducible rfl
  go_simp
  refine wpAnyIn_take (i := 8) (v := ?_) rfl rfl (by kernel_rfl) (by kernel_rfl) (by kernel_rfl) (fun _ _ _ h => h) ⟨Or.inl ⟨by kernel_rfl, ?_⟩, fun _ => by kernel_rfl⟩ ?_
  rotate_left
  · intro w; go_simp; first | done | with_reducible rfl
  refine wpAnyIn_take (i := 9) (v := ?_) rfl rfl (by kernel_rfl) (by kernel_rfl) (by kernel_rfl) (fun _ _ _ h => h) ⟨Or.inl ⟨by kernel_rfl, ?_⟩, fun _ => by kernel_rfl⟩ ?_
  rotate_left
  · intro w; go_simp; first | done | with_reducible rfl
  refine wpAnyIn_take (i := 10) (v := ?_) rfl rfl (by kernel_rfl) (by kernel_rfl) (by kernel_rfl) (fun _ _ _ h => h) ⟨Or.inl ⟨by kernel_rfl, ?_⟩, fun _ => by kernel_rfl⟩ ?_
  rotate_left
  · intro w; go_simp; first | done | with_reducible rfl
  refine wpAnyIn_take (i := 11) (v := ?_) rfl rfl (by kernel_rfl) (by kernel_rfl) (by kernel_rfl) (fun _ _ _ h => h) ⟨Or.inl ⟨by kernel_rfl, ?_⟩, fun _ => by kernel_rfl⟩ ?_
  rotate_left
  · intro w; go_simp; first | done | with_reducible rfl
  refine wpAnyIn_take (i := 13) (v := ?_) rfl rfl (by kernel_rfl) (by kernel_rfl) (by kernel_rfl) (fun _ _ _ h => h) ⟨Or.inl ⟨by kernel_rfl, ?_⟩, fun _ => by kernel_rfl⟩ ?_
  rotate_left
  · intro w; go_simp; first | done | with_reducible rfl
  refine wpAnyIn_take (i := 14) (v := ?_) rfl rfl (by kernel_rfl) (by kernel_rfl) (by kernel_rfl) (fun _ _ _ h => h) ⟨Or.inl ⟨by kernel_rfl, ?_⟩, fun _ => by kernel_rfl⟩ ?_
  rotate_left
  · intro w; go_simp; first | done | with_reducible rfl
  refine wpAnyIn_take (i := 15) (v := ?_) rfl rfl (by kernel_rfl) (by kernel_rfl) (by kernel_rfl) (fun _ _ _ h => h) ⟨Or.inl ⟨by kernel_rfl, ?_⟩, fun _ => by kernel_rfl⟩ ?_
  rotate_left
  · intro w; go_simp; first | done | with_reducible rfl
  go_simp
  refine wpAnyIn_ready (rs := [12, 16]) (by kernel_rfl) (by simp) ?_
  refine AllReadyIn.cons rfl (fun K hK => ?_) (AllReadyIn.cons rfl (fun K hK => ?_) AllReadyIn.nil)
  all_goals go_simp
  all_goals (refine hK _ _ ?_; clear hK K)
  · skip
    refine wpAnyIn_ready (rs := [16]) (by kernel_rfl) (by simp) ?_
    refine AllReadyIn.cons rfl (fun K hK => ?_) AllReadyIn.nil
    go_simp
    refine hK _ _ ?_
    clear hK K
    refine wpAnyIn_ready (rs := [17]) (by kernel_rfl) (by simp) ?_
    refine AllReadyIn.cons rfl (fun K hK => ?_) AllReadyIn.nil
    go_simp
    (try refine ⟨hdd _, ?_⟩)
    refine hR.mono ?_
    clear hR
    rintro e W2 (⟨rfl, k3, IH3⟩ | ⟨rfl, hB1⟩)
    rotate_left
    · refine hK _ _ ?_
      clear hK K
      refine wpAnyIn_take (i := 18) (v := ?_) rfl rfl (by kernel_rfl) (by kernel_rfl) (by kernel_rfl) (fun _ _ _ h => h) ⟨Or.inl ⟨by kernel_rfl, ?_⟩, fun _ => by kernel_rfl⟩ ?_
      rotate_left
      · intro w; go_simp; first | done | with_reducible rfl
      go_simp
      refine wpAnyIn_take (i := 19) (v := ?_) rfl rfl (by kernel_rfl) (by kernel_rfl) (by kernel_rfl) (fun _ _ _ h => h) ⟨Or.inl ⟨by kernel_rfl, ?_⟩, fun _ => by kernel_rfl⟩ ?_
      rotate_left
      · intro w; go_simp; first | done | with_reducible rfl
      go_simp
      refine wpAnyIn_take (i := 20) (v := undef) rfl rfl (by kernel_rfl) (by kernel_rfl) (by kernel_rfl) (fun _ _ _ h => h) ⟨Or.inr ⟨by kernel_rfl, rfl⟩, fun _ => by kernel_rfl⟩ ?_
      refine wpAnyIn_take (i := 21) (v := undef) rfl rfl (by kernel_rfl) (by kernel_rfl) (by kernel_rfl) (fun _ _ _ h => h) ⟨Or.inr ⟨by kernel_rfl, rfl⟩, fun _ => by kernel_rfl⟩ ?_
      refine wpAnyIn_take (i := 22) (v := undef) rfl rfl (by kernel_rfl) (by kernel_rfl) (by kernel_rfl) (fun _ _ _ h => h) ⟨Or.inr ⟨by kernel_rfl, rfl⟩, fun _ => by kernel_rfl⟩ ?_
      refine wpAnyIn_take (i := 23) (v := undef) rfl rfl (by kernel_rfl) (by kernel_rfl) (by kernel_rfl) (fun _ _ _ h => h) ⟨Or.inr ⟨by kernel_rfl, rfl⟩, fun _ => by kernel_rfl⟩ ?_
      refine wpAnyIn_take (i := 24) (v := undef) rfl rfl (by kernel_rfl) (by kernel_rfl) (by kernel_rfl) (fun _ _ _ h => h) ⟨Or.inr ⟨by kernel_rfl, rfl⟩, fun _ => by kernel_rfl⟩ ?_
      go_simp
      refine wpAnyIn_ready (rs := [25]) (by kernel_rfl) (by simp) ?_
      refine AllReadyIn.cons rfl (fun K hK => ?_) AllReadyIn.nil
      go_simp
      first | refine ⟨fun _ _ => trivial, ?_⟩ | refine ⟨trivial, ?_⟩
      refine hK _ _ ?_
      clear hK K
      refine wpAnyIn_take (i := 26) (v := ?_) rfl rfl (by kernel_rfl) (by kernel_rfl) (by kernel_rfl) (fun _ _ _ h => h) ⟨Or.inl ⟨by kernel_rfl, ?_⟩, fun _ => by kernel_rfl⟩ ?_
      rotate_left
      · intro w; go_simp; first | done | with_reducible rfl
      refine wpAnyIn_take (i := 27) (v := ?_) rfl rfl (by kernel_rfl) (by kernel_rfl) (by kernel_rfl) (fun _ _ _ h => h) ⟨Or.inl ⟨by kernel_rfl, ?_⟩, fun _ => by kernel_rfl⟩ ?_
      rotate_left
      · intro w; go_simp; first | done | with_reducible rfl
      refine wpAnyIn_done (by kernel_rfl) ?_ _
      gi_wp2_with fail
      go_ret
      exact .inr ⟨rfl, hB1⟩
    refine hK _ _ ?_
    clear hK K
    refine wpAnyIn_take (i := 18) (v := ?_) rfl rfl (by kernel_rfl) (by kernel_rfl) (by kernel_rfl) (fun _ _ _ h => h) ⟨Or.inl ⟨by kernel_rfl, ?_⟩, fun _ => by kernel_rfl⟩ ?_
    rotate_left
    · intro w; go_simp; first | done | with_reducible rfl
    go_simp
    refine wpAnyIn_take (i := 19) (v := ?_) rfl rfl (by kernel_rfl) (by kernel_rfl) (by kernel_rfl) (fun _ _ _ h => h) ⟨Or.inl ⟨by kernel_rfl, ?_⟩, fun _ => by kernel_rfl⟩ ?_
    rotate_left
    · intro w; go_simp; first | done | with_reducible rfl
    go_simp
    refine wpAnyIn_take (i := 20) (v := ?_) rfl rfl (by kernel_rfl) (by kernel_rfl) (by kernel_rfl) (fun _ _ _ h => h) ⟨Or.inl ⟨by kernel_rfl, ?_⟩, fun _ => by kernel_rfl⟩ ?_
    rotate_left
    · intro w; go_simp; first | done | with_reducible rfl
    refine wpAnyIn_take (i := 21) (v := ?_) rfl rfl (by kernel_rfl) (by kernel_rfl) (by kernel_rfl) (fun _ _ _ h => h) ⟨Or.inl ⟨by kernel_rfl, ?_⟩, fun _ => by kernel_rfl⟩ ?_
    rotate_left
    · intro w; go_simp; first | done | with_reducible rfl
    refine wpAnyIn_take (i := 22) (v := ?_) rfl rfl (by kernel_rfl) (by kernel_rfl) (by kernel_rfl) (fun _ _ _ h => h) ⟨Or.inl ⟨by kernel_rfl, ?_⟩, fun _ => by kernel_rfl⟩ ?_
    rotate_left
    · intro w; go_simp; first | done | with_reducible rfl
    refine wpAnyIn_take (i := 24) (v := ?_) rfl rfl (by kernel_rfl) (by kernel_rfl) (by kernel_rfl) (fun _ _ _ h => h) ⟨Or.inl ⟨by kernel_rfl, ?_⟩, fun _ => by kernel_rfl⟩ ?_
    rotate_left
    · intro w; go_simp; first | done | with_reducible rfl
    go_simp
    refine wpAnyIn_ready (rs := [23]) (by kernel_rfl) (by simp) ?_
    refine AllReadyIn.cons rfl (fun K hK => ?_) AllReadyIn.nil
    go_simp
    refine hK _ _ ?_
    clear hK K
    refine wpAnyIn_ready (rs := [25]) (by kernel_rfl) (by simp) ?_
    refine AllReadyIn.cons rfl (fun K hK => ?_) AllReadyIn.nil
    go_simp
    refine ⟨trivial, hdd _, ?_⟩
    refine IH3.mono ?_
    clear IH3
    rintro e W3 (⟨rfl, hA3⟩ | ⟨rfl, hB1⟩)
    · refine hK _ _ ?_
      clear hK K
      refine wpAnyIn_take (i := 26) (v := ?_) rfl rfl (by kernel_rfl) (by kernel_rfl) (by kernel_rfl) (fun _ _ _ h => h) ⟨Or.inl ⟨by kernel_rfl, ?_⟩, fun _ => by kernel_rfl⟩ ?_
      rotate_left
      · intro w; go_simp; first | done | with_reducible rfl
      go_simp
      refine wpAnyIn_take (i := 27) (v := ?_) rfl rfl (by kernel_rfl) (by kernel_rfl) (by kernel_rfl) (fun _ _ _ h => h) ⟨Or.inl ⟨by kernel_rfl, ?_⟩, fun _ => by kernel_rfl⟩ ?_
      rotate_left
      · intro w; go_simp; first | done | with_reducible rfl
      refine wpAnyIn_done (by kernel_rfl) ?_ _
      gi_wp2_with fail
      go_ret
      exact .inl ⟨rfl, hA3⟩
    · refine hK _ _ ?_
      clear hK K
      refine wpAnyIn_take (i := 26) (v := ?_) rfl rfl (by kernel_rfl) (by kernel_rfl) (by kernel_rfl) (fun _ _ _ h => h) ⟨Or.inl ⟨by kernel_rfl, ?_⟩, fun _ => by kernel_rfl⟩ ?_
      rotate_left
      · intro w; go_simp; first | done | with_reducible rfl
      go_simp
      refine wpAnyIn_take (i := 27) (v := ?_) rfl rfl (by kernel_rfl) (by kernel_rfl) (by kernel_rfl) (fun _ _ _ h => h) ⟨Or.inl ⟨by kernel_rfl, ?_⟩, fun _ => by kernel_rfl⟩ ?_
      rotate_left
      · intro w; go_simp; first | done | with_reducible rfl
      refine wpAnyIn_done (by kernel_rfl) ?_ _
      gi_wp2_with fail
      go_ret
      exact .inr ⟨rfl, hB1⟩
  · skip
    refine wpAnyIn_ready (rs := [12]) (by kernel_rfl) (by simp) ?_
    refine AllReadyIn.cons rfl (fun K hK => ?_) AllReadyIn.nil
    go_simp
    refine hK _ _ ?_
    clear hK K
    refine wpAnyIn_ready (rs := [17]) (by kernel_rfl) (by simp) ?_
    refine AllReadyIn.cons rfl (fun K hK => ?_) AllReadyIn.nil
    go_simp
    (try refine ⟨hdd _, ?_⟩)
    refine hR.mono ?_
    clear hR
    rintro e W2 (⟨rfl, k3, IH3⟩ | ⟨rfl, hB1⟩)
    rotate_left
    · refine hK _ _ ?_
      clear hK K
      refine wpAnyIn_take (i := 18) (v := ?_) rfl rfl (by kernel_rfl) (by kernel_rfl) (by kernel_rfl) (fun _ _ _ h => h) ⟨Or.inl ⟨by kernel_rfl, ?_⟩, fun _ => by kernel_rfl⟩ ?_
      rotate_left
      · intro w; go_simp; first | done | with_reducible rfl
      go_simp
      refine wpAnyIn_take (i := 19) (v := ?_) rfl rfl (by kernel_rfl) (by kernel_rfl) (by kernel_rfl) (fun _ _ _ h => h) ⟨Or.inl ⟨by kernel_rfl, ?_⟩, fun _ => by kernel_rfl⟩ ?_
      rotate_left
      · intro w; go_simp; first | done | with_reducible rfl
      go_simp
      refine wpAnyIn_take (i := 20) (v := undef) rfl rfl (by kernel_rfl) (by kernel_rfl) (by kernel_rfl) (fun _ _ _ h => h) ⟨Or.inr ⟨by kernel_rfl, rfl⟩, fun _ => by kernel_rfl⟩ ?_
      refine wpAnyIn_take (i := 21) (v := undef) rfl rfl (by kernel_rfl) (by kernel_rfl) (by kernel_rfl) (fun _ _ _ h => h) ⟨Or.inr ⟨by kernel_rfl, rfl⟩, fun _ => by kernel_rfl⟩ ?_
      refine wpAnyIn_take (i := 22) (v := undef) rfl rfl (by kernel_rfl) (by kernel_rfl) (by kernel_rfl) (fun _ _ _ h => h) ⟨Or.inr ⟨by kernel_rfl, rfl⟩, fun _ => by kernel_rfl⟩ ?_
      refine wpAnyIn_take (i := 23) (v := undef) rfl rfl (by kernel_rfl) (by kernel_rfl) (by kernel_rfl) (fun _ _ _ h => h) ⟨Or.inr ⟨by kernel_rfl, rfl⟩, fun _ => by kernel_rfl⟩ ?_
      refine wpAnyIn_take (i := 24) (v := undef) rfl rfl (by kernel_rfl) (by kernel_rfl) (by kernel_rfl) (fun _ _ _ h => h) ⟨Or.inr ⟨by kernel_rfl, rfl⟩, fun _ => by kernel_rfl⟩ ?_
      go_simp
      refine wpAnyIn_ready (rs := [25]) (by kernel_rfl) (by simp) ?_
      refine AllReadyIn.cons rfl (fun K hK => ?_) AllReadyIn.nil
      go_simp
      first | refine ⟨fun _ _ => trivial, ?_⟩ | refine ⟨trivial, ?_⟩
      refine hK _ _ ?_
      clear hK K
      refine wpAnyIn_take (i := 26) (v := ?_) rfl rfl (by kernel_rfl) (by kernel_rfl) (by kernel_rfl) (fun _ _ _ h => h) ⟨Or.inl ⟨by kernel_rfl, ?_⟩, fun _ => by kernel_rfl⟩ ?_
      rotate_left
      · intro w; go_simp; first | done | with_reducible rfl
      refine wpAnyIn_take (i := 27) (v := ?_) rfl rfl (by kernel_rfl) (by kernel_rfl) (by kernel_rfl) (fun _ _ _ h => h) ⟨Or.inl ⟨by kernel_rfl, ?_⟩, fun _ => by kernel_rfl⟩ ?_
      rotate_left
      · intro w; go_simp; first | done | with_reducible rfl
      refine wpAnyIn_done (by kernel_rfl) ?_ _
      gi_wp2_with fail
      go_ret
      exact .inr ⟨rfl, hB1⟩
    refine hK _ _ ?_
    clear hK K
    refine wpAnyIn_take (i := 18) (v := ?_) rfl rfl (by kernel_rfl) (by kernel_rfl) (by kernel_rfl) (fun _ _ _ h => h) ⟨Or.inl ⟨by kernel_rfl, ?_⟩, fun _ => by kernel_rfl⟩ ?_
    rotate_left
    · intro w; go_simp; first | done | with_reducible rfl
    go_simp
    refine wpAnyIn_take (i := 19) (v := ?_) rfl rfl (by kernel_rfl) (by kernel_rfl) (by kernel_rfl) (fun _ _ _ h => h) ⟨Or.inl ⟨by kernel_rfl, ?_⟩, fun _ => by kernel_rfl⟩ ?_
    rotate_left
    · intro w; go_simp; first | done | with_reducible rfl
    go_simp
    refine wpAnyIn_take (i := 20) (v := ?_) rfl rfl (by kernel_rfl) (by kernel_rfl) (by kernel_rfl) (fun _ _ _ h => h) ⟨Or.inl ⟨by kernel_rfl, ?_⟩, fun _ => by kernel_rfl⟩ ?_
    rotate_left
    · intro w; go_simp; first | done | with_reducible rfl
    refine wpAnyIn_take (i := 21) (v := ?_) rfl rfl (by kernel_rfl) (by kernel_rfl) (by kernel_rfl) (fun _ _ _ h => h) ⟨Or.inl ⟨by kernel_rfl, ?_⟩, fun _ => by kernel_rfl⟩ ?_
    rotate_left
    · intro w; go_simp; first | done | with_reducible rfl
    refine wpAnyIn_take (i := 22) (v := ?_) rfl rfl (by kernel_rfl) (by kernel_rfl) (by kernel_rfl) (fun _ _ _ h => h) ⟨Or.inl ⟨by kernel_rfl, ?_⟩, fun _ => by kernel_rfl⟩ ?_
    rotate_left
    · intro w; go_simp; first | done | with_reducible rfl
    refine wpAnyIn_take (i := 24) (v := ?_) rfl rfl (by kernel_rfl) (by kernel_rfl) (by kernel_rfl) (fun _ _ _ h => h) ⟨Or.inl ⟨by kernel_rfl, ?_⟩, fun _ => by kernel_rfl⟩ ?_
    rotate_left
    · intro w; go_simp; first | done | with_reducible rfl
    go_simp
    refine wpAnyIn_ready (rs := [23]) (by kernel_rfl) (by simp) ?_
    refine AllReadyIn.cons rfl (fun K hK => ?_) AllReadyIn.nil
    go_simp
    refine hK _ _ ?_
    clear hK K
    refine wpAnyIn_ready (rs := [25]) (by kernel_rfl) (by simp) ?_
    refine AllReadyIn.cons rfl (fun K hK => ?_) AllReadyIn.nil
    go_simp
    refine ⟨trivial, hdd _, ?_⟩
    refine IH3.mono ?_
    clear IH3
    rintro e W3 (⟨rfl, hA3⟩ | ⟨rfl, hB1⟩)
    · refine hK _ _ ?_
      clear hK K
      refine wpAnyIn_take (i := 26) (v := ?_) rfl rfl (by kernel_rfl) (by kernel_rfl) (by kernel_rfl) (fun _ _ _ h => h) ⟨Or.inl ⟨by kernel_rfl, ?_⟩, fun _ => by kernel_rfl⟩ ?_
      rotate_left
      · intro w; go_simp; first | done | with_reducible rfl
      go_simp
      refine wpAnyIn_take (i := 27) (v := ?_) rfl rfl (by kernel_rfl) (by kernel_rfl) (by kernel_rfl) (fun _ _ _ h => h) ⟨Or.inl ⟨by kernel_rfl, ?_⟩, fun _ => by kernel_rfl⟩ ?_
      rotate_left
      · intro w; go_simp; first | done | with_reducible rfl
      refine wpAnyIn_done (by kernel_rfl) ?_ _
      gi_wp2_with fail
      go_ret
      exact .inl ⟨rfl, hA3⟩
    · refine hK _ _ ?_
      clear hK K
      refine wpAnyIn_take (i := 26) (v := ?_) rfl rfl (by kernel_rfl) (by kernel_rfl) (by kernel_rfl) (fun _ _ _ h => h) ⟨Or.inl ⟨by kernel_rfl, ?_⟩, fun _ => by kernel_rfl⟩ ?_
      rotate_left
      · intro w; go_simp; first | done | with_reducible rfl
      go_simp
      refine wpAnyIn_take (i := 27) (v := ?_) rfl rfl (by kernel_rfl) (by kernel_rfl) (by kernel_rfl) (fun _ _ _ h => h) ⟨Or.inl ⟨by kernel_rfl, ?_⟩, fun _ => by kernel_rfl⟩ ?_
      rotate_left
      · intro w; go_simp; first | done | with_reducible rfl
      refine wpAnyIn_done (by kernel_rfl) ?_ _
      gi_wp2_with fail
      go_ret
      exact .inr ⟨rfl, hB1⟩

set_option maxRecDepth 100000 in
set_option maxHeartbeats 1000000 in
theorem step_from (n : Nat) (l : Nat) (b : Nat) (k : ByteArray) (v : Int) (tl tr : AT ByteArray Int) (d : Int) (W : World) (A3 : World → Prop) (B : World → Prop) (Bf : Nat) (kf : ByteArray) (hf : W.cell? ⟨Bf, 0, none⟩ = some (.string kf)) (hge : Ord.lt k kf = false)
    (hb : W.heap[b]? = some (.cells (blk k v tl.adr tr.adr d) 172 (0, 0)))
    (ih1 : ∀ W0 : World, W0.heap = W.heap → W0.os = W.os → W0.tape = W.tape → W0.output = W.output → CallsIn Fence.wide (n - 1) Try.prog 124 #[.pointer tl.adr, .pointer (some ⟨Bf, 0, none⟩), .func (.yield l) #[] #[]] W0 fun e W1 => (e = .returned (.bool true) ∧ W1.cell? ⟨b, 0, none⟩ = some (.string k) ∧ W1.cell? ⟨b, 1, none⟩ = some (.int .i64 v) ∧
       YieldAt Fence.wide (n - 1) Try.prog l #[.string k, .int .i64 v] W1 fun e W2 => (e = .returned (.bool true) ∧ W2.cell? ⟨b, 3, none⟩ = some (.pointer tr.adr) ∧
         CallsIn Fence.wide (n - 1) Try.prog 124 #[.pointer tr.adr, .pointer none, .func (.yield l) #[] #[]] W2 fun e W3 => (e = .returned (.bool true) ∧ A3 W3) ∨ (e = .returned (.bool false) ∧ B W3)) ∨ (e = .returned (.bool false) ∧ B W2)) ∨ (e = .returned (.bool false) ∧ B W1)) :
    CallsIn Fence.wide n Try.prog 124 #[.pointer (some ⟨b, 0, none⟩), .pointer (some ⟨Bf, 0, none⟩), .func (.yield l) #[] #[]] W fun e W' => (e = .returned (.bool true) ∧ A3 W') ∨ (e = .returned (.bool false) ∧ B W') := by
  obtain ⟨c0, c2, -, -, -⟩ := cells hb
  clear hb
  have thge : Op.bytesLess k.toList kf.toList = false := hge
  have hdd : ∀ k : Nat, (Fence.wide.depth.isSome = true → 1 ≤ k) := fun k h => by cases h
  refine callsIn_of_wp Try.func124 rfl trivial ?_ rfl
  simp only [Try.ntmps124, List.size_toArray, List.length_cons, List.length_nil, Nat.reduceAdd, Nat.reduceSub, Array.replicate_succ, Array.replicate_zero, List.push_toArray, List.append_toArray, List.nil_append, List.cons_append]
  gi_wp2_with fail
  gi_quiet (fail)
  gi_wp2_with fail
  have IH := Lib.hid (ih1 (W.drewN (nq + 1)) rfl rfl rfl rfl)
  clear ih1
  refine wpIn_region_any (by kernel_rfl) ?_
  change wpAnyIn _ _ _ _ _ _ _ _ _ (World.drew _)
  refine wpAnyIn_take (i := 0) (v := ?_) rfl rfl (by kernel_rfl) (by kernel_rfl) (by kernel_rfl) (fun _ _ _ h => h) ⟨Or.inl ⟨by kernel_rfl, ?_⟩, fun _ => by kernel_rfl⟩ ?_
  rotate_left
  · intro w; go_simp; first | done | with_reducible rfl
  refine wpAnyIn_take (i := 1) (v := ?_) rfl rfl (by kernel_rfl) (by kernel_rfl) (by kernel_rfl) (fun _ _ _ h => h) ⟨Or.inl ⟨by kernel_rfl, ?_⟩, fun _ => by kernel_rfl⟩ ?_
  rotate_left
  · intro w; go_simp; first | done | with_reducible rfl
  refine wpAnyIn_take (i := 2) (v := ?_) rfl rfl (by kernel_rfl) (by kernel_rfl) (by kernel_rfl) (fun _ _ _ h => h) ⟨Or.inl ⟨by kernel_rfl, ?_⟩, fun _ => by kernel_rfl⟩ ?_
  rotate_left
  · intro w; go_simp; first | done | with_reducible rfl
  refine wpAnyIn_take (i := 4) (v := ?_) rfl rfl (by kernel_rfl) (by kernel_rfl) (by kernel_rfl) (fun _ _ _ h => h) ⟨Or.inl ⟨by kernel_rfl, ?_⟩, fun _ => by kernel_rfl⟩ ?_
  rotate_left
  · intro w; go_simp; first | done | with_reducible rfl
  refine wpAnyIn_take (i := 5) (v := ?_) rfl rfl (by kernel_rfl) (by kernel_rfl) (by kernel_rfl) (fun _ _ _ h => h) ⟨Or.inl ⟨by kernel_rfl, ?_⟩, fun _ => by kernel_rfl⟩ ?_
  rotate_left
  · intro w; go_simp; first | done | with_reducible rfl
  refine wpAnyIn_ready (rs := [3]) (by kernel_rfl) (by simp) ?_
  refine AllReadyIn.cons rfl (fun K hK => ?_) AllReadyIn.nil
  go_simp
  refine hK _ _ ?_
  clear hK K
  refine wpAnyIn_ready (rs := [6]) (by kernel_rfl) (by simp) ?_
  refine AllReadyIn.cons rfl (fun K hK => ?_) AllReadyIn.nil
  go_simp
  refine ⟨trivial, hdd _, ?_⟩
  refine IH.out.mono ?_
  clear IH
  rintro e W1 (⟨rfl, k0, k1, fn, tmps, assign, body, hy, hR⟩ | ⟨rfl, hB1⟩)
  rotate_left
  · refine hK _ _ ?_
    clear hK K
    refine wpAnyIn_take (i := 7) (v := ?_) rfl rfl (by kernel_rfl) (by kernel_rfl) (by kernel_rfl) (fun _ _ _ h => h) ⟨Or.inl ⟨by kernel_rfl, ?_⟩, fun _ => by kernel_rfl⟩ ?_
    rotate_left
    · intro w; go_simp; first | done | with_reducible rfl
    go_simp
    refine wpAnyIn_take (i := 8) (v := undef) rfl rfl (by kernel_rfl) (by kernel_rfl) (by kernel_rfl) (fun _ _ _ h => h) ⟨Or.inr ⟨by kernel_rfl, rfl⟩, fun _ => by kernel_rfl⟩ ?_
    refine wpAnyIn_take (i := 9) (v := undef) rfl rfl (by kernel_rfl) (by kernel_rfl) (by kernel_rfl) (fun _ _ _ h => h) ⟨Or.inr ⟨by kernel_rfl, rfl⟩, fun _ => by kernel_rfl⟩ ?_
    refine wpAnyIn_take (i := 10) (v := undef) rfl rfl (by kernel_rfl) (by kernel_rfl) (by kernel_rfl) (fun _ _ _ h => h) ⟨Or.inr ⟨by kernel_rfl, rfl⟩, fun _ => by kernel_rfl⟩ ?_
    refine wpAnyIn_take (i := 11) (v := undef) rfl rfl (by kernel_rfl) (by kernel_rfl) (by kernel_rfl) (fun _ _ _ h => h) ⟨Or.inr ⟨by kernel_rfl, rfl⟩, fun _ => by kernel_rfl⟩ ?_
    refine wpAnyIn_take (i := 12) (v := undef) rfl rfl (by kernel_rfl) (by kernel_rfl) (by kernel_rfl) (fun _ _ _ h => h) ⟨Or.inr ⟨by kernel_rfl, rfl⟩, fun _ => by kernel_rfl⟩ ?_
    go_simp
    refine wpAnyIn_take (i := 13) (v := undef) rfl rfl (by kernel_rfl) (by kernel_rfl) (by kernel_rfl) (fun _ _ _ h => h) ⟨Or.inr ⟨by kernel_rfl, rfl⟩, fun _ => by kernel_rfl⟩ ?_
    refine wpAnyIn_take (i := 14) (v := undef) rfl rfl (by kernel_rfl) (by kernel_rfl) (by kernel_rfl) (fun _ _ _ h => h) ⟨Or.inr ⟨by kernel_rfl, rfl⟩, fun _ => by kernel_rfl⟩ ?_
    refine wpAnyIn_take (i := 15) (v := undef) rfl rfl (by kernel_rfl) (by kernel_rfl) (by kernel_rfl) (fun _ _ _ h => h) ⟨Or.inr ⟨by kernel_rfl, rfl⟩, fun _ => by kernel_rfl⟩ ?_
    refine wpAnyIn_take (i := 16) (v := undef) rfl rfl (by kernel_rfl) (by kernel_rfl) (by kernel_rfl) (fun _ _ _ h => h) ⟨Or.inr ⟨by kernel_rfl, rfl⟩, fun _ => by kernel_rfl⟩ ?_
    go_simp
    refine wpAnyIn_ready (rs := [17]) (by kernel_rfl) (by simp) ?_
    refine AllReadyIn.cons rfl (fun K hK => ?_) AllReadyIn.nil
    go_simp
    first | refine ⟨fun _ _ => trivial, ?_⟩ | refine ⟨trivial, ?_⟩
    refine hK _ _ ?_
    clear hK K
    refine wpAnyIn_take (i := 18) (v := ?_) rfl rfl (by kernel_rfl) (by kernel_rfl) (by kernel_rfl) (fun _ _ _ h => h) ⟨Or.inl ⟨by kernel_rfl, ?_⟩, fun _ => by kernel_rfl⟩ ?_
    rotate_left
    · intro w; go_simp; first | done | with_reducible rfl
    go_simp
    refine wpAnyIn_take (i := 19) (v := ?_) rfl rfl (by kernel_rfl) (by kernel_rfl) (by kernel_rfl) (fun _ _ _ h => h) ⟨Or.inl ⟨by kernel_rfl, ?_⟩, fun _ => by kernel_rfl⟩ ?_
    rotate_left
    · intro w; go_simp; first | done | with_reducible rfl
    go_simp
    refine wpAnyIn_take (i := 20) (v := undef) rfl rfl (by kernel_rfl) (by kernel_rfl) (by kernel_rfl) (fun _ _ _ h => h) ⟨Or.inr ⟨by kernel_rfl, rfl⟩, fun _ => by kernel_rfl⟩ ?_
    refine wpAnyIn_take (i := 21) (v := undef) rfl rfl (by kernel_rfl) (by kernel_rfl) (by kernel_rfl) (fun _ _ _ h => h) ⟨Or.inr ⟨by kernel_rfl, rfl⟩, fun _ => by kernel_rfl⟩ ?_
    refine wpAnyIn_take (i := 22) (v := undef) rfl rfl (by kernel_rfl) (by kernel_rfl) (by kernel_rfl) (fun _ _ _ h => h) ⟨Or.inr ⟨by kernel_rfl, rfl⟩, fun _ => by kernel_rfl⟩ ?_
    refine wpAnyIn_take (i := 23) (v := undef) rfl rfl (by kernel_rfl) (by kernel_rfl) (by kernel_rfl) (fun _ _ _ h => h) ⟨Or.inr ⟨by kernel_rfl, rfl⟩, fun _ => by kernel_rfl⟩ ?_
    refine wpAnyIn_take (i := 24) (v := undef) rfl rfl (by kernel_rfl) (by kernel_rfl) (by kernel_rfl) (fun _ _ _ h => h) ⟨Or.inr ⟨by kernel_rfl, rfl⟩, fun _ => by kernel_rfl⟩ ?_
    go_simp
    refine wpAnyIn_ready (rs := [25]) (by kernel_rfl) (by simp) ?_
    refine AllReadyIn.cons rfl (fun K hK => ?_) AllReadyIn.nil
    go_simp
    first | refine ⟨fun _ _ => trivial, ?_⟩ | refine ⟨trivial, ?_⟩
    refine hK _ _ ?_
    clear hK K
    refine wpAnyIn_take (i := 26) (v := ?_) rfl rfl (by kernel_rfl) (by kernel_rfl) (by kernel_rfl) (fun _ _ _ h => h) ⟨Or.inl ⟨by kernel_rfl, ?_⟩, fun _ => by kernel_rfl⟩ ?_
    rotate_left
    · intro w; go_simp; first | done | with_reducible rfl
    refine wpAnyIn_take (i := 27) (v := ?_) rfl rfl (by kernel_rfl) (by kernel_rfl) (by kernel_rfl) (fun _ _ _ h => h) ⟨Or.inl ⟨by kernel_rfl, ?_⟩, fun _ => by kernel_rfl⟩ ?_
    rotate_left
    · intro w; go_simp; first | done | with_reducible rfl
    refine wpAnyIn_done (by kernel_rfl) ?_ _
    gi_wp2_with fail
    go_ret
    exact .inr ⟨rfl, hB1⟩
  refine hK _ _ ?_
  clear hK K
  refine wpAnyIn_take (i := 7) (v := ?_) rfl rfl (by kernel_rfl) (by kernel_rfl) (by kernel_rfl) (fun _ _ _ h => h) ⟨Or.inl ⟨by kernel_rfl, ?_⟩, fun _ => by kernel_rfl⟩ ?_
  rotate_left
  · intro w; go_simp; first | done | with_reducible rfl
  go_simp
  refine wpAnyIn_take (i := 8) (v := ?_) rfl rfl (by kernel_rfl) (by kernel_rfl) (by kernel_rfl) (fun _ _ _ h => h) ⟨Or.inl ⟨by kernel_rfl, ?_⟩, fun _ => by kernel_rfl⟩ ?_
  rotate_left
  · intro w; go_simp; first | done | with_reducible rfl
  refine wpAnyIn_take (i := 9) (v := ?_) rfl rfl (by kernel_rfl) (by kernel_rfl) (by kernel_rfl) (fun _ _ _ h => h) ⟨Or.inl ⟨by kernel_rfl, ?_⟩, fun _ => by kernel_rfl⟩ ?_
  rotate_left
  · intro w; go_simp; first | done | with_reducible rfl
  refine wpAnyIn_take (i := 10) (v := ?_) rfl rfl (by kernel_rfl) (by kernel_rfl) (by kernel_rfl) (fun _ _ _ h => h) ⟨Or.inl ⟨by kernel_rfl, ?_⟩, fun _ => by kernel_rfl⟩ ?_
  rotate_left
  · intro w; go_simp; first | done | with_reducible rfl
  refine wpAnyIn_take (i := 11) (v := ?_) rfl rfl (by kernel_rfl) (by kernel_rfl) (by kernel_rfl) (fun _ _ _ h => h) ⟨Or.inl ⟨by kernel_rfl, ?_⟩, fun _ => by kernel_rfl⟩ ?_
  rotate_left
  · intro w; go_simp; first | done | with_reducible rfl
  refine wpAnyIn_take (i := 13) (v := ?_) rfl rfl (by kernel_rfl) (by kernel_rfl) (by kernel_rfl) (fun _ _ _ h => h) ⟨Or.inl ⟨by kernel_rfl, ?_⟩, fun _ => by kernel_rfl⟩ ?_
  rotate_left
  · intro w; go_simp; first | done | with_reducible rfl
  refine wpAnyIn_take (i := 14) (v := ?_) rfl rfl (by kernel_rfl) (by kernel_rfl) (by kernel_rfl) (fun _ _ _ h => h) ⟨Or.inl ⟨by kernel_rfl, ?_⟩, fun _ => by kernel_rfl⟩ ?_
  rotate_left
  · intro w; go_simp; first | done | with_reducible rfl
  refine wpAnyIn_take (i := 15) (v := ?_) rfl rfl (by kernel_rfl) (by kernel_rfl) (by kernel_rfl) (fun _ _ _ h => h) ⟨Or.inl ⟨by kernel_rfl, ?_⟩, fun _ => by kernel_rfl⟩ ?_
  rotate_left
  · intro w; go_simp; first | done | with_reducible rfl
  go_simp
  refine wpAnyIn_ready (rs := [12, 16]) (by kernel_rfl) (by simp) ?_
  refine AllReadyIn.cons rfl (fun K hK => ?_) (AllReadyIn.cons rfl (fun K hK => ?_) AllReadyIn.nil)
  all_goals go_simp
  all_goals (refine hK _ _ ?_; clear hK K)
  · skip
    refine wpAnyIn_ready (rs := [16]) (by kernel_rfl) (by simp) ?_
    refine AllReadyIn.cons rfl (fun K hK => ?_) AllReadyIn.nil
    go_simp
    refine hK _ _ ?_
    clear hK K
    refine wpAnyIn_ready (rs := [17]) (by kernel_rfl) (by simp) ?_
    refine AllReadyIn.cons rfl (fun K hK => ?_) AllReadyIn.nil
    go_simp
    (try refine ⟨hdd _, ?_⟩)
    refine hR.mono ?_
    clear hR
    rintro e W2 (⟨rfl, k3, IH3⟩ | ⟨rfl, hB1⟩)
    rotate_left
    · refine hK _ _ ?_
      clear hK K
      refine wpAnyIn_take (i := 18) (v := ?_) rfl rfl (by kernel_rfl) (by kernel_rfl) (by kernel_rfl) (fun _ _ _ h => h) ⟨Or.inl ⟨by kernel_rfl, ?_⟩, fun _ => by kernel_rfl⟩ ?_
      rotate_left
      · intro w; go_simp; first | done | with_reducible rfl
      go_simp
      refine wpAnyIn_take (i := 19) (v := ?_) rfl rfl (by kernel_rfl) (by kernel_rfl) (by kernel_rfl) (fun _ _ _ h => h) ⟨Or.inl ⟨by kernel_rfl, ?_⟩, fun _ => by kernel_rfl⟩ ?_
      rotate_left
      · intro w; go_simp; first | done | with_reducible rfl
      go_simp
      refine wpAnyIn_take (i := 20) (v := undef) rfl rfl (by kernel_rfl) (by kernel_rfl) (by kernel_rfl) (fun _ _ _ h => h) ⟨Or.inr ⟨by kernel_rfl, rfl⟩, fun _ => by kernel_rfl⟩ ?_
      refine wpAnyIn_take (i := 21) (v := undef) rfl rfl (by kernel_rfl) (by kernel_rfl) (by kernel_rfl) (fun _ _ _ h => h) ⟨Or.inr ⟨by kernel_rfl, rfl⟩, fun _ => by kernel_rfl⟩ ?_
      refine wpAnyIn_take (i := 22) (v := undef) rfl rfl (by kernel_rfl) (by kernel_rfl) (by kernel_rfl) (fun _ _ _ h => h) ⟨Or.inr ⟨by kernel_rfl, rfl⟩, fun _ => by kernel_rfl⟩ ?_
      refine wpAnyIn_take (i := 23) (v := undef) rfl rfl (by kernel_rfl) (by kernel_rfl) (by kernel_rfl) (fun _ _ _ h => h) ⟨Or.inr ⟨by kernel_rfl, rfl⟩, fun _ => by kernel_rfl⟩ ?_
      refine wpAnyIn_take (i := 24) (v := undef) rfl rfl (by kernel_rfl) (by kernel_rfl) (by kernel_rfl) (fun _ _ _ h => h) ⟨Or.inr ⟨by kernel_rfl, rfl⟩, fun _ => by kernel_rfl⟩ ?_
      go_simp
      refine wpAnyIn_ready (rs := [25]) (by kernel_rfl) (by simp) ?_
      refine AllReadyIn.cons rfl (fun K hK => ?_) AllReadyIn.nil
      go_simp
      first | refine ⟨fun _ _ => trivial, ?_⟩ | refine ⟨trivial, ?_⟩
      refine hK _ _ ?_
      clear hK K
      refine wpAnyIn_take (i := 26) (v := ?_) rfl rfl (by kernel_rfl) (by kernel_rfl) (by kernel_rfl) (fun _ _ _ h => h) ⟨Or.inl ⟨by kernel_rfl, ?_⟩, fun _ => by kernel_rfl⟩ ?_
      rotate_left
      · intro w; go_simp; first | done | with_reducible rfl
      refine wpAnyIn_take (i := 27) (v := ?_) rfl rfl (by kernel_rfl) (by kernel_rfl) (by kernel_rfl) (fun _ _ _ h => h) ⟨Or.inl ⟨by kernel_rfl, ?_⟩, fun _ => by kernel_rfl⟩ ?_
      rotate_left
      · intro w; go_simp; first | done | with_reducible rfl
      refine wpAnyIn_done (by kernel_rfl) ?_ _
      gi_wp2_with fail
      go_ret
      exact .inr ⟨rfl, hB1⟩
    refine hK _ _ ?_
    clear hK K
    refine wpAnyIn_take (i := 18) (v := ?_) rfl rfl (by kernel_rfl) (by kernel_rfl) (by kernel_rfl) (fun _ _ _ h => h) ⟨Or.inl ⟨by kernel_rfl, ?_⟩, fun _ => by kernel_rfl⟩ ?_
    rotate_left
    · intro w; go_simp; first | done | with_reducible rfl
    go_simp
    refine wpAnyIn_take (i := 19) (v := ?_) rfl rfl (by kernel_rfl) (by kernel_rfl) (by kernel_rfl) (fun _ _ _ h => h) ⟨Or.inl ⟨by kernel_rfl, ?_⟩, fun _ => by kernel_rfl⟩ ?_
    rotate_left
    · intro w; go_simp; first | done | with_reducible rfl
    go_simp
    refine wpAnyIn_take (i := 20) (v := ?_) rfl rfl (by kernel_rfl) (by kernel_rfl) (by kernel_rfl) (fun _ _ _ h => h) ⟨Or.inl ⟨by kernel_rfl, ?_⟩, fun _ => by kernel_rfl⟩ ?_
    rotate_left
    · intro w; go_simp; first | done | with_reducible rfl
    refine wpAnyIn_take (i := 21) (v := ?_) rfl rfl (by kernel_rfl) (by kernel_rfl) (by kernel_rfl) (fun _ _ _ h => h) ⟨Or.inl ⟨by kernel_rfl, ?_⟩, fun _ => by kernel_rfl⟩ ?_
    rotate_left
    · intro w; go_simp; first | done | with_reducible rfl
    refine wpAnyIn_take (i := 22) (v := ?_) rfl rfl (by kernel_rfl) (by kernel_rfl) (by kernel_rfl) (fun _ _ _ h => h) ⟨Or.inl ⟨by kernel_rfl, ?_⟩, fun _ => by kernel_rfl⟩ ?_
    rotate_left
    · intro w; go_simp; first | done | with_reducible rfl
    refine wpAnyIn_take (i := 24) (v := ?_) rfl rfl (by kernel_rfl) (by kernel_rfl) (by kernel_rfl) (fun _ _ _ h => h) ⟨Or.inl ⟨by kernel_rfl, ?_⟩, fun _ => by kernel_rfl⟩ ?_
    rotate_left
    · intro w; go_simp; first | done | with_reducible rfl
    go_simp
    refine wpAnyIn_ready (rs := [23]) (by kernel_rfl) (by simp) ?_
    refine AllReadyIn.cons rfl (fun K hK => ?_) AllReadyIn.nil
    go_simp
    refine hK _ _ ?_
    clear hK K
    refine wpAnyIn_ready (rs := [25]) (by kernel_rfl) (by simp) ?_
    refine AllReadyIn.cons rfl (fun K hK => ?_) AllReadyIn.nil
    go_simp
    refine ⟨trivial, hdd _, ?_⟩
    refine IH3.mono ?_
    clear IH3
    rintro e W3 (⟨rfl, hA3⟩ | ⟨rfl, hB1⟩)
    · refine hK _ _ ?_
      clear hK K
      refine wpAnyIn_take (i := 26) (v := ?_) rfl rfl (by kernel_rfl) (by kernel_rfl) (by kernel_rfl) (fun _ _ _ h => h) ⟨Or.inl ⟨by kernel_rfl, ?_⟩, fun _ => by kernel_rfl⟩ ?_
      rotate_left
      · intro w; go_simp; first | done | with_reducible rfl
      go_simp
      refine wpAnyIn_take (i := 27) (v := ?_) rfl rfl (by kernel_rfl) (by kernel_rfl) (by kernel_rfl) (fun _ _ _ h => h) ⟨Or.inl ⟨by kernel_rfl, ?_⟩, fun _ => by kernel_rfl⟩ ?_
      rotate_left
      · intro w; go_simp; first | done | with_reducible rfl
      refine wpAnyIn_done (by kernel_rfl) ?_ _
      gi_wp2_with fail
      go_ret
      exact .inl ⟨rfl, hA3⟩
    · refine hK _ _ ?_
      clear hK K
      refine wpAnyIn_take (i := 26) (v := ?_) rfl rfl (by kernel_rfl) (by kernel_rfl) (by kernel_rfl) (fun _ _ _ h => h) ⟨Or.inl ⟨by kernel_rfl, ?_⟩, fun _ => by kernel_rfl⟩ ?_
      rotate_left
      · intro w; go_simp; first | done | with_reducible rfl
      go_simp
      refine wpAnyIn_take (i := 27) (v := ?_) rfl rfl (by kernel_rfl) (by kernel_rfl) (by kernel_rfl) (fun _ _ _ h => h) ⟨Or.inl ⟨by kernel_rfl, ?_⟩, fun _ => by kernel_rfl⟩ ?_
      rotate_left
      · intro w; go_simp; first | done | with_reducible rfl
      refine wpAnyIn_done (by kernel_rfl) ?_ _
      gi_wp2_with fail
      go_ret
      exact .inr ⟨rfl, hB1⟩
  · skip
    refine wpAnyIn_ready (rs := [12]) (by kernel_rfl) (by simp) ?_
    refine AllReadyIn.cons rfl (fun K hK => ?_) AllReadyIn.nil
    go_simp
    refine hK _ _ ?_
    clear hK K
    refine wpAnyIn_ready (rs := [17]) (by kernel_rfl) (by simp) ?_
    refine AllReadyIn.cons rfl (fun K hK => ?_) AllReadyIn.nil
    go_simp
    (try refine ⟨hdd _, ?_⟩)
    refine hR.mono ?_
    clear hR
    rintro e W2 (⟨rfl, k3, IH3⟩ | ⟨rfl, hB1⟩)
    rotate_left
    · refine hK _ _ ?_
      clear hK K
      refine wpAnyIn_take (i := 18) (v := ?_) rfl rfl (by kernel_rfl) (by kernel_rfl) (by kernel_rfl) (fun _ _ _ h => h) ⟨Or.inl ⟨by kernel_rfl, ?_⟩, fun _ => by kernel_rfl⟩ ?_
      rotate_left
      · intro w; go_simp; first | done | with_reducible rfl
      go_simp
      refine wpAnyIn_take (i := 19) (v := ?_) rfl rfl (by kernel_rfl) (by kernel_rfl) (by kernel_rfl) (fun _ _ _ h => h) ⟨Or.inl ⟨by kernel_rfl, ?_⟩, fun _ => by kernel_rfl⟩ ?_
      rotate_left
      · intro w; go_simp; first | done | with_reducible rfl
      go_simp
      refine wpAnyIn_take (i := 20) (v := undef) rfl rfl (by kernel_rfl) (by kernel_rfl) (by kernel_rfl) (fun _ _ _ h => h) ⟨Or.inr ⟨by kernel_rfl, rfl⟩, fun _ => by kernel_rfl⟩ ?_
      refine wpAnyIn_take (i := 21) (v := undef) rfl rfl (by kernel_rfl) (by kernel_rfl) (by kernel_rfl) (fun _ _ _ h => h) ⟨Or.inr ⟨by kernel_rfl, rfl⟩, fun _ => by kernel_rfl⟩ ?_
      refine wpAnyIn_take (i := 22) (v := undef) rfl rfl (by kernel_rfl) (by kernel_rfl) (by kernel_rfl) (fun _ _ _ h => h) ⟨Or.inr ⟨by kernel_rfl, rfl⟩, fun _ => by kernel_rfl⟩ ?_
      refine wpAnyIn_take (i := 23) (v := undef) rfl rfl (by kernel_rfl) (by kernel_rfl) (by kernel_rfl) (fun _ _ _ h => h) ⟨Or.inr ⟨by kernel_rfl, rfl⟩, fun _ => by kernel_rfl⟩ ?_
      refine wpAnyIn_take (i := 24) (v := undef) rfl rfl (by kernel_rfl) (by kernel_rfl) (by kernel_rfl) (fun _ _ _ h => h) ⟨Or.inr ⟨by kernel_rfl, rfl⟩, fun _ => by kernel_rfl⟩ ?_
      go_simp
      refine wpAnyIn_ready (rs := [25]) (by kernel_rfl) (by simp) ?_
      refine AllReadyIn.cons rfl (fun K hK => ?_) AllReadyIn.nil
      go_simp
      first | refine ⟨fun _ _ => trivial, ?_⟩ | refine ⟨trivial, ?_⟩
      refine hK _ _ ?_
      clear hK K
      refine wpAnyIn_take (i := 26) (v := ?_) rfl rfl (by kernel_rfl) (by kernel_rfl) (by kernel_rfl) (fun _ _ _ h => h) ⟨Or.inl ⟨by kernel_rfl, ?_⟩, fun _ => by kernel_rfl⟩ ?_
      rotate_left
      · intro w; go_simp; first | done | with_reducible rfl
      refine wpAnyIn_take (i := 27) (v := ?_) rfl rfl (by kernel_rfl) (by kernel_rfl) (by kernel_rfl) (fun _ _ _ h => h) ⟨Or.inl ⟨by kernel_rfl, ?_⟩, fun _ => by kernel_rfl⟩ ?_
      rotate_left
      · intro w; go_simp; first | done | with_reducible rfl
      refine wpAnyIn_done (by kernel_rfl) ?_ _
      gi_wp2_with fail
      go_ret
      exact .inr ⟨rfl, hB1⟩
    refine hK _ _ ?_
    clear hK K
    refine wpAnyIn_take (i := 18) (v := ?_) rfl rfl (by kernel_rfl) (by kernel_rfl) (by kernel_rfl) (fun _ _ _ h => h) ⟨Or.inl ⟨by kernel_rfl, ?_⟩, fun _ => by kernel_rfl⟩ ?_
    rotate_left
    · intro w; go_simp; first | done | with_reducible rfl
    go_simp
    refine wpAnyIn_take (i := 19) (v := ?_) rfl rfl (by kernel_rfl) (by kernel_rfl) (by kernel_rfl) (fun _ _ _ h => h) ⟨Or.inl ⟨by kernel_rfl, ?_⟩, fun _ => by kernel_rfl⟩ ?_
    rotate_left
    · intro w; go_simp; first | done | with_reducible rfl
    go_simp
    refine wpAnyIn_take (i := 20) (v := ?_) rfl rfl (by kernel_rfl) (by kernel_rfl) (by kernel_rfl) (fun _ _ _ h => h) ⟨Or.inl ⟨by kernel_rfl, ?_⟩, fun _ => by kernel_rfl⟩ ?_
    rotate_left
    · intro w; go_simp; first | done | with_reducible rfl
    refine wpAnyIn_take (i := 21) (v := ?_) rfl rfl (by kernel_rfl) (by kernel_rfl) (by kernel_rfl) (fun _ _ _ h => h) ⟨Or.inl ⟨by kernel_rfl, ?_⟩, fun _ => by kernel_rfl⟩ ?_
    rotate_left
    · intro w; go_simp; first | done | with_reducible rfl
    refine wpAnyIn_take (i := 22) (v := ?_) rfl rfl (by kernel_rfl) (by kernel_rfl) (by kernel_rfl) (fun _ _ _ h => h) ⟨Or.inl ⟨by kernel_rfl, ?_⟩, fun _ => by kernel_rfl⟩ ?_
    rotate_left
    · intro w; go_simp; first | done | with_reducible rfl
    refine wpAnyIn_take (i := 24) (v := ?_) rfl rfl (by kernel_rfl) (by kernel_rfl) (by kernel_rfl) (fun _ _ _ h => h) ⟨Or.inl ⟨by kernel_rfl, ?_⟩, fun _ => by kernel_rfl⟩ ?_
    rotate_left
    · intro w; go_simp; first | done | with_reducible rfl
    go_simp
    refine wpAnyIn_ready (rs := [23]) (by kernel_rfl) (by simp) ?_
    refine AllReadyIn.cons rfl (fun K hK => ?_) AllReadyIn.nil
    go_simp
    refine hK _ _ ?_
    clear hK K
    refine wpAnyIn_ready (rs := [25]) (by kernel_rfl) (by simp) ?_
    refine AllReadyIn.cons rfl (fun K hK => ?_) AllReadyIn.nil
    go_simp
    refine ⟨trivial, hdd _, ?_⟩
    refine IH3.mono ?_
    clear IH3
    rintro e W3 (⟨rfl, hA3⟩ | ⟨rfl, hB1⟩)
    · refine hK _ _ ?_
      clear hK K
      refine wpAnyIn_take (i := 26) (v := ?_) rfl rfl (by kernel_rfl) (by kernel_rfl) (by kernel_rfl) (fun _ _ _ h => h) ⟨Or.inl ⟨by kernel_rfl, ?_⟩, fun _ => by kernel_rfl⟩ ?_
      rotate_left
      · intro w; go_simp; first | done | with_reducible rfl
      go_simp
      refine wpAnyIn_take (i := 27) (v := ?_) rfl rfl (by kernel_rfl) (by kernel_rfl) (by kernel_rfl) (fun _ _ _ h => h) ⟨Or.inl ⟨by kernel_rfl, ?_⟩, fun _ => by kernel_rfl⟩ ?_
      rotate_left
      · intro w; go_simp; first | done | with_reducible rfl
      refine wpAnyIn_done (by kernel_rfl) ?_ _
      gi_wp2_with fail
      go_ret
      exact .inl ⟨rfl, hA3⟩
    · refine hK _ _ ?_
      clear hK K
      refine wpAnyIn_take (i := 26) (v := ?_) rfl rfl (by kernel_rfl) (by kernel_rfl) (by kernel_rfl) (fun _ _ _ h => h) ⟨Or.inl ⟨by kernel_rfl, ?_⟩, fun _ => by kernel_rfl⟩ ?_
      rotate_left
      · intro w; go_simp; first | done | with_reducible rfl
      go_simp
      refine wpAnyIn_take (i := 27) (v := ?_) rfl rfl (by kernel_rfl) (by kernel_rfl) (by kernel_rfl) (fun _ _ _ h => h) ⟨Or.inl ⟨by kernel_rfl, ?_⟩, fun _ => by kernel_rfl⟩ ?_
      rotate_left
      · intro w; go_simp; first | done | with_reducible rfl
      refine wpAnyIn_done (by kernel_rfl) ?_ _
      gi_wp2_with fail
      go_ret
      exact .inr ⟨rfl, hB1⟩

set_option maxRecDepth 100000 in
set_option maxHeartbeats 1000000 in
theorem step_skip (n : Nat) (l : Nat) (b : Nat) (k : ByteArray) (v : Int) (tl tr : AT ByteArray Int) (d : Int) (W : World) (R : Ending → World → Prop) (Bf : Nat) (kf : ByteArray) (hf : W.cell? ⟨Bf, 0, none⟩ = some (.string kf)) (hlt : Ord.lt k kf = true)
    (hb : W.heap[b]? = some (.cells (blk k v tl.adr tr.adr d) 172 (0, 0)))
    (ih1 : ∀ W0 : World, W0.heap = W.heap → W0.os = W.os → W0.tape = W.tape → W0.output = W.output → CallsIn Fence.wide (n - 1) Try.prog 124 #[.pointer tr.adr, .pointer (some ⟨Bf, 0, none⟩), .func (.yield l) #[] #[]] W0 fun e W1 => ∃ q : Bool, e = .returned (.bool q) ∧ R e W1) :
    CallsIn Fence.wide n Try.prog 124 #[.pointer (some ⟨b, 0, none⟩), .pointer (some ⟨Bf, 0, none⟩), .func (.yield l) #[] #[]] W R := by
  obtain ⟨c0, -, c3, -, -⟩ := cells hb
  clear hb
  have thlt : Op.bytesLess k.toList kf.toList = true := hlt; have uhlt : Op.bytesLess kf.toList k.toList = false := Ord.asymm hlt; have yhlt : (k.toList == kf.toList) = false := Bl.ne hlt; have zhlt : (kf.toList == k.toList) = false := Bl.ne' hlt
  have hdd : ∀ k : Nat, (Fence.wide.depth.isSome = true → 1 ≤ k) := fun k h => by cases h
  refine callsIn_of_wp Try.func124 rfl trivial ?_ rfl
  simp only [Try.ntmps124, List.size_toArray, List.length_cons, List.length_nil, Nat.reduceAdd, Nat.reduceSub, Array.replicate_succ, Array.replicate_zero, List.push_toArray, List.append_toArray, List.nil_append, List.cons_append]
  gi_wp2_with fail
  gi_quiet (fail)
  gi_wp2_with fail
  have IH := Lib.hid (ih1 (W.drewN nq) rfl rfl rfl rfl)
  clear ih1
  refine ⟨trivial, hdd _, ?_⟩
  refine IH.out.mono ?_
  clear IH
  rintro e W1 ⟨q, rfl, hR⟩
  have HR := Lib.hid hR
  clear hR
  gi_wp2_with fail
  exact HR.out

section
variable (l : Nat) (LL : List (ByteArray × Int)) (FP : List Nat) (J Jx : List (ByteArray × Int) → World → Prop)
  (hJd : ∀ pre W W', J pre W → W'.heap = W.heap → W'.os = W.os → W'.tape = W.tape → W'.output = W.output → J pre W')
  (hY : ∀ m pre x W, J pre W → pre ++ [x] <+: LL → YieldAt Fence.wide m Try.prog l (encs x) W fun e W' =>
    (e = .returned (.bool true) ∧ J (pre ++ [x]) W' ∧ Kept FP W W') ∨ (e = .returned (.bool false) ∧ Jx (pre ++ [x]) W'))
include hJd hY
/-- All of a tree is given, in order; or a part, as no more is wanted. -/
theorem give_all (t : AT ByteArray Int) : ∀ (n : Nat) (pre : List (ByteArray × Int)) (W : World), In W t → (∀ b ∈ t.fp, b ∈ FP) → J pre W → pre ++ t.toL <+: LL →
    CallsIn Fence.wide n Try.prog 124 #[.pointer t.adr, .pointer none, .func (.yield l) #[] #[]] W fun e W' =>
      (e = .returned (.bool true) ∧ J (pre ++ t.toL) W' ∧ Kept FP W W') ∨ (e = .returned (.bool false) ∧ ∃ q, q <+: t.toL ∧ Jx (pre ++ q) W') := by
  induction t with
  | nil =>
    intro n pre W _ _ hJ _
    refine (give_nil n l none W).mono ?_
    rintro e W' ⟨rfl, rfl⟩
    exact .inl ⟨rfl, by simpa [AT.toL] using hJ, Kept.refl _ _⟩
  | node b k v tl tr d ihl ihr =>
    intro n pre W hI hfp hJ hN
    rw [AT.toL] at hN
    have hfl : ∀ x ∈ tl.fp, x ∈ FP := fun x hx => hfp x (AT.mem_node.2 (.inr (.inl hx)))
    have hfr : ∀ x ∈ tr.fp, x ∈ FP := fun x hx => hfp x (AT.mem_node.2 (.inr (.inr hx)))
    have hfb : b ∈ FP := hfp b (AT.mem_node.2 (.inl rfl))
    obtain ⟨hb, hl, hr⟩ := hI
    refine (step_all n l b k v tl tr d W (fun W' => J (pre ++ (AT.node b k v tl tr d).toL) W' ∧ Kept FP W W') (fun W' => ∃ q, q <+: (AT.node b k v tl tr d).toL ∧ Jx (pre ++ q) W') hb ?_)
    intro W0 e1 e2 e3 e4
    have hk0 : Kept FP W W0 := fun x _ => by rw [e1]
    refine (ihl (n - 1) pre W0 (In.kept hl hk0 hfl) hfl (hJd _ _ _ hJ e1 e2 e3 e4) (List.IsPrefix.trans (by simp) hN)).mono ?_
    rintro e W1 (⟨rfl, hJ1, hk1⟩ | ⟨rfl, q, hq, hx⟩)
    · have hk01 := hk0.trans hk1
      have hb1 := (hk01 b hfb).trans hb
      obtain ⟨c0, -, -, -, -⟩ := cells hb1
      have c1 : W1.cell? ⟨b, 1, none⟩ = some (.int .i64 v) := by rw [cell_of_block hb1]; rfl
      refine .inl ⟨rfl, c0, c1, YieldAt.mono (hY (n - 1) _ (k, v) W1 hJ1 (List.IsPrefix.trans ⟨tr.toL, by simp⟩ hN)) ?_⟩
      rintro e W2 (⟨rfl, hJ2, hk2⟩ | ⟨rfl, hx⟩)
      · have hk02 := hk01.trans hk2
        have hb2 := (hk02 b hfb).trans hb
        obtain ⟨-, -, c3, -, -⟩ := cells hb2
        refine .inl ⟨rfl, c3, ?_⟩
        refine (ihr (n - 1) _ W2 (In.kept hr hk02 hfr) hfr hJ2 (by simpa [List.append_assoc] using hN)).mono ?_
        rintro e W3 (⟨rfl, hJ3, hk3⟩ | ⟨rfl, q, hq, hx⟩)
        · exact .inl ⟨rfl, by simpa [AT.toL, List.append_assoc] using hJ3, hk02.trans hk3⟩
        · obtain ⟨r, hr'⟩ := hq
          exact .inr ⟨rfl, tl.toL ++ (k, v) :: q, ⟨r, by simp [AT.toL, ← hr']⟩, by simpa [List.append_assoc] using hx⟩
      · exact .inr ⟨rfl, tl.toL ++ [(k, v)], ⟨tr.toL, by simp [AT.toL]⟩, by simpa [List.append_assoc] using hx⟩
    · exact .inr ⟨rfl, q, hq.trans (by simp [AT.toL]), hx⟩

/-- Of a tree those keys are given, in order, that are not below one; or a part, as no more is wanted. -/
theorem give_from (Bf : Nat) (kf : ByteArray) (hBf : Bf ∈ FP) (t : AT ByteArray Int) : ∀ (n : Nat) (pre : List (ByteArray × Int)) (W : World), In W t → Srt t.toL → W.cell? ⟨Bf, 0, none⟩ = some (.string kf) → (∀ b ∈ t.fp, b ∈ FP) → J pre W → pre ++ geL kf t.toL <+: LL →
    CallsIn Fence.wide n Try.prog 124 #[.pointer t.adr, .pointer (some ⟨Bf, 0, none⟩), .func (.yield l) #[] #[]] W fun e W' =>
      (e = .returned (.bool true) ∧ J (pre ++ geL kf t.toL) W' ∧ Kept FP W W') ∨ (e = .returned (.bool false) ∧ ∃ q, q <+: geL kf t.toL ∧ Jx (pre ++ q) W') := by
  induction t with
  | nil =>
    intro n pre W _ _ _ _ hJ _
    refine (give_nil n l _ W).mono ?_
    rintro e W' ⟨rfl, rfl⟩
    exact .inl ⟨rfl, by simpa [AT.toL, geL] using hJ, Kept.refl _ _⟩
  | node b k v tl tr d ihl ihr =>
    intro n pre W hI hs hcf hfp hJ hN
    have hfl : ∀ x ∈ tl.fp, x ∈ FP := fun x hx => hfp x (AT.mem_node.2 (.inr (.inl hx)))
    have hfr : ∀ x ∈ tr.fp, x ∈ FP := fun x hx => hfp x (AT.mem_node.2 (.inr (.inr hx)))
    have hfb : b ∈ FP := hfp b (AT.mem_node.2 (.inl rfl))
    obtain ⟨hb, hl, hr⟩ := hI
    have hs' : Srt (tl.toL ++ (k, v) :: tr.toL) := by simpa [AT.toL] using hs
    have hm := Srt.mid hs'
    cases hlt : Ord.lt k kf with
    | true =>
      have hge : geL kf (AT.node b k v tl tr d).toL = geL kf tr.toL := by
        rw [AT.toL]; exact geL_skip hs' hlt
      refine step_skip n l b k v tl tr d W _ Bf kf hcf hlt hb ?_
      intro W0 e1 e2 e3 e4
      have hk0 : Kept FP W W0 := fun x _ => by rw [e1]
      have hcf0 : W0.cell? ⟨Bf, 0, none⟩ = some (.string kf) := by rw [World.cell?_of_block (w := W) (hk0 Bf hBf)]; exact hcf
      refine (ihr (n - 1) pre W0 (In.kept hr hk0 hfr) hs'.right.tail hcf0 hfr (hJd _ _ _ hJ e1 e2 e3 e4) (by rw [← hge]; exact hN)).mono ?_
      rintro e W1 (⟨rfl, hJ1, hk1⟩ | ⟨rfl, q, hq, hx⟩)
      · exact ⟨true, rfl, .inl ⟨rfl, by rw [hge]; exact hJ1, hk0.trans hk1⟩⟩
      · exact ⟨false, rfl, .inr ⟨rfl, q, by rw [hge]; exact hq, hx⟩⟩
    | false =>
      have hge : geL kf (AT.node b k v tl tr d).toL = geL kf tl.toL ++ (k, v) :: tr.toL := by
        rw [AT.toL]; exact geL_keep hs' hlt
      rw [hge] at hN ⊢
      refine (step_from n l b k v tl tr d W (fun W' => J (pre ++ (geL kf tl.toL ++ (k, v) :: tr.toL)) W' ∧ Kept FP W W') (fun W' => ∃ q, q <+: geL kf tl.toL ++ (k, v) :: tr.toL ∧ Jx (pre ++ q) W') Bf kf hcf hlt hb ?_)
      intro W0 e1 e2 e3 e4
      have hk0 : Kept FP W W0 := fun x _ => by rw [e1]
      have hcf0 : W0.cell? ⟨Bf, 0, none⟩ = some (.string kf) := by rw [World.cell?_of_block (w := W) (hk0 Bf hBf)]; exact hcf
      refine (ihl (n - 1) pre W0 (In.kept hl hk0 hfl) hs'.left hcf0 hfl (hJd _ _ _ hJ e1 e2 e3 e4) (List.IsPrefix.trans (by simp) hN)).mono ?_
      rintro e W1 (⟨rfl, hJ1, hk1⟩ | ⟨rfl, q, hq, hx⟩)
      · have hk01 := hk0.trans hk1
        have hb1 := (hk01 b hfb).trans hb
        obtain ⟨c0, -, -, -, -⟩ := cells hb1
        have c1 : W1.cell? ⟨b, 1, none⟩ = some (.int .i64 v) := by rw [cell_of_block hb1]; rfl
        refine .inl ⟨rfl, c0, c1, YieldAt.mono (hY (n - 1) _ (k, v) W1 hJ1 (List.IsPrefix.trans ⟨tr.toL, by simp⟩ hN)) ?_⟩
        rintro e W2 (⟨rfl, hJ2, hk2⟩ | ⟨rfl, hx⟩)
        · have hk02 := hk01.trans hk2
          have hb2 := (hk02 b hfb).trans hb
          obtain ⟨-, -, c3, -, -⟩ := cells hb2
          refine .inl ⟨rfl, c3, ?_⟩
          refine (give_all l LL FP J Jx hJd hY tr (n - 1) _ W2 (In.kept hr hk02 hfr) hfr hJ2 (by simpa [List.append_assoc] using hN)).mono ?_
          rintro e W3 (⟨rfl, hJ3, hk3⟩ | ⟨rfl, q, hq, hx⟩)
          · exact .inl ⟨rfl, by simpa [List.append_assoc] using hJ3, hk02.trans hk3⟩
          · obtain ⟨r, hr'⟩ := hq
            exact .inr ⟨rfl, geL kf tl.toL ++ (k, v) :: q, ⟨r, by simp [← hr']⟩, by simpa [List.append_assoc] using hx⟩
        · exact .inr ⟨rfl, geL kf tl.toL ++ [(k, v)], ⟨tr.toL, by simp⟩, by simpa [List.append_assoc] using hx⟩
      · exact .inr ⟨rfl, q, hq.trans (by simp), hx⟩
end

end AvlSI
end Go.Proofs.Ytkhhdadlpilbmaa
