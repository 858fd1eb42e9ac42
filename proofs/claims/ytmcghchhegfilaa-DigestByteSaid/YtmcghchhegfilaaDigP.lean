/- Digests of sets, plain: parts, digests, what differs, what is picked, what sets become when they meet. No program is named. -/
import Derived.Test.YtmcghchhegfilaaPackPs
import Derived.Test.YtmcghchhegfilaaCrcP
namespace Go.Proofs.Ytmcghchhegfilaa
open Go.RowKit
namespace Dig
open KeyP PackP SetP
/-- Which part a trace is of. -/
def part (t : Int) : Nat := Crc.sum (vb (zz t)) % 16
theorem part_lt (t : Int) : part t < 16 := Nat.mod_lt _ (by decide)
def own (k : Nat) (L : List Sn) : List Sn := L.filter (fun x => decide (part x.t = k))
/-- A part's digest. -/
def dig (L : List Sn) (k : Nat) : Nat := Crc.sum ((own k L).flatMap enc)
theorem dig_nil (k : Nat) : dig [] k = 0 := Crc.more_nil 0
theorem dig_lt (L : List Sn) (k : Nat) : dig L k < 4294967296 := Crc.sum_lt _
theorem own_snoc (k : Nat) (L : List Sn) (x : Sn) : own k (L ++ [x]) = own k L ++ if part x.t = k then [x] else [] := by
  unfold own
  rw [List.filter_append, List.filter_cons, List.filter_nil]
  by_cases h : part x.t = k <;> simp [h]
theorem dig_snoc (L : List Sn) (x : Sn) (k : Nat) : dig (L ++ [x]) k = if part x.t = k then Crc.more (dig L k) (enc x) else dig L k := by
  unfold dig
  rw [own_snoc]
  by_cases h : part x.t = k
  · rw [if_pos h, if_pos h, List.flatMap_append, List.flatMap_cons, List.flatMap_nil, List.append_nil, ← Crc.more_sum]
  · rw [if_neg h, if_neg h, List.append_nil]
/-- The parts that differ. -/
def differ (f g : Nat → Nat) : List Nat := (List.range 16).filter (fun k => decide (f k ≠ g k))
theorem differ_mem {f g : Nat → Nat} {k : Nat} : k ∈ differ f g ↔ k < 16 ∧ f k ≠ g k := by unfold differ; rw [List.mem_filter, List.mem_range, decide_eq_true_eq]
theorem differ_self (f : Nat → Nat) : differ f f = [] := by unfold differ; rw [List.filter_eq_nil_iff]; intro k _; simp
/-- What is picked. -/
def pick (S : List Int) (L : List Sn) : List Sn := L.filter (fun x => decide ((part x.t : Int) ∈ S))
abbrev ofN (l : List Nat) : List Int := l.map (fun (k : Nat) => (k : Int))
theorem pick_mem {S : List Int} {L : List Sn} {x : Sn} : x ∈ pick S L ↔ x ∈ L ∧ (part x.t : Int) ∈ S := by unfold pick; rw [List.mem_filter, decide_eq_true_eq]
theorem mem_ofN {l : List Nat} {k : Nat} : ((k : Int) ∈ ofN l) ↔ k ∈ l := by
  rw [List.mem_map]
  exact ⟨fun ⟨a, ha, h⟩ => by have : a = k := by omega
                              exact this ▸ ha, fun h => ⟨k, h, rfl⟩⟩
theorem pick_ok {S : List Int} {L : List Sn} (h : Ok L) : Ok (pick S L) := h.filter _
theorem pick_nil (L : List Sn) : pick [] L = [] := by unfold pick; rw [List.filter_eq_nil_iff]; intro x _; simp
theorem pick_one (k : Nat) (L : List Sn) : pick [(k : Int)] L = own k L := by
  unfold pick own
  congr 1
  funext x
  rw [decide_eq_decide, List.mem_singleton]
  omega
theorem own_own (j k : Nat) (L : List Sn) : own j (own k L) = if j = k then own k L else [] := by
  unfold own
  rw [List.filter_filter]
  by_cases h : j = k
  · subst h; rw [if_pos rfl]; congr 1; funext x; simp
  · rw [if_neg h, List.filter_eq_nil_iff]
    intro x _ hx
    simp only [Bool.and_eq_true, decide_eq_true_eq] at hx
    omega
theorem dig_own (j k : Nat) (L : List Sn) : dig (own k L) j = if j = k then dig L k else 0 := by
  unfold dig
  rw [own_own]
  by_cases h : j = k
  · rw [if_pos h, if_pos h]
  · rw [if_neg h, if_neg h]; exact dig_nil 0
/-- All parts together. -/
theorem own_sum (L : List Sn) : ((List.range 16).map (fun k => (own k L).length)).sum = L.length := by
  induction L with
  | nil => rfl
  | cons x L ih =>
    have h : ∀ k, (own k (x :: L)).length = (own k L).length + if part x.t = k then 1 else 0 := fun k => by
      unfold own; rw [List.filter_cons]
      by_cases e : part x.t = k <;> simp [e]
    have h2 : ((List.range 16).map (fun k => (own k (x :: L)).length)) = ((List.range 16).map (fun k => (own k L).length + if part x.t = k then 1 else 0)) := List.map_congr_left (fun k _ => h k)
    rw [h2]
    have h3 : ∀ (l : List Nat) (f g : Nat → Nat), (l.map (fun k => f k + g k)).sum = (l.map f).sum + (l.map g).sum := fun l f g => by
      induction l with
      | nil => rfl
      | cons a l ih => simp only [List.map_cons, List.sum_cons, ih]; omega
    rw [h3, ih, List.length_cons]
    have hp := part_lt x.t
    generalize part x.t = p at *
    have : ((List.range 16).map (fun k => if p = k then 1 else 0)).sum = 1 := by
      have : ∀ p < 16, ((List.range 16).map (fun k => if p = k then 1 else 0)).sum = 1 := by decide
      exact this p hp
    rw [this]
/-- What sets become when they meet. -/
def meetL (S : List Int) (a b : List Sn) : List Sn := setOf (a ++ pick S (setOf b))
section
variable {a b : List Sn}
/-- A part of what is joined. -/
theorem own_ok {k : Nat} {L : List Sn} (h : Ok L) : Ok (own k L) := h.filter _
theorem one_part {x y : Sn} (h : one x y = true) : part x.t = part y.t := by rw [one_iff] at h; rw [h.1]
theorem meet_mem {S : List Int} {y : Sn} : y ∈ meetL S a b ↔ (y ∈ setOf a ∨ (y ∈ setOf b ∧ (part y.t : Int) ∈ S)) ∧ ∀ x, (x ∈ setOf a ∨ (x ∈ setOf b ∧ (part x.t : Int) ∈ S)) → one x y = true → nwr x y = false := by
  unfold meetL
  rw [← setOf_app_l, mem_app (setOf_ok a) (pick_ok (setOf_ok b))]
  simp only [pick_mem]
theorem meet_in {S : List Int} {y : Sn} (hp : (part y.t : Int) ∈ S) : y ∈ meetL S a b ↔ y ∈ setOf (a ++ b) := by
  rw [meet_mem, set_app, mem_app (setOf_ok a) (setOf_ok b)]
  constructor
  · rintro ⟨h1, h2⟩
    refine ⟨h1.imp id And.left, fun x hx ho => h2 x (hx.imp id (fun h => ⟨h, ?_⟩)) ho⟩
    rw [one_part ho]; exact hp
  · rintro ⟨h1, h2⟩
    exact ⟨h1.imp id (fun h => ⟨h, hp⟩), fun x hx ho => h2 x (hx.imp id And.left) ho⟩
theorem meet_out {S : List Int} {y : Sn} (hp : (part y.t : Int) ∉ S) : y ∈ meetL S a b ↔ y ∈ setOf a := by
  rw [meet_mem]
  constructor
  · rintro ⟨h1, -⟩
    rcases h1 with h1 | h1
    · exact h1
    · exact absurd h1.2 hp
  · intro hy
    refine ⟨.inl hy, fun x hx ho => ?_⟩
    rcases hx with hx | hx
    · rw [srs_uni (setOf_ok a).srs hx hy ho]; exact nwr_irr y
    · rw [one_part ho] at hx; exact absurd hx.2 hp
theorem meet_ok (S : List Int) : Ok (meetL S a b) := setOf_ok _
theorem own_in {S : List Int} {k : Nat} (hk : (k : Int) ∈ S) : own k (meetL S a b) = own k (setOf (a ++ b)) := by
  refine srs_ext (own_ok (meet_ok S)).srs (own_ok (setOf_ok _)).srs (fun y => ?_)
  unfold own
  rw [List.mem_filter, List.mem_filter, decide_eq_true_eq]
  constructor
  · rintro ⟨h1, h2⟩; exact ⟨(meet_in (by rw [h2]; exact hk)).1 h1, h2⟩
  · rintro ⟨h1, h2⟩; exact ⟨(meet_in (by rw [h2]; exact hk)).2 h1, h2⟩
theorem own_out {S : List Int} {k : Nat} (hk : (k : Int) ∉ S) : own k (meetL S a b) = own k (setOf a) := by
  refine srs_ext (own_ok (meet_ok S)).srs (own_ok (setOf_ok _)).srs (fun y => ?_)
  unfold own
  rw [List.mem_filter, List.mem_filter, decide_eq_true_eq]
  constructor
  · rintro ⟨h1, h2⟩; exact ⟨(meet_out (by rw [h2]; exact hk)).1 h1, h2⟩
  · rintro ⟨h1, h2⟩; exact ⟨(meet_out (by rw [h2]; exact hk)).2 h1, h2⟩
abbrev diff (a b : List Sn) : List Int := ofN (differ (dig (setOf a)) (dig (setOf b)))
theorem differ_comm (f g : Nat → Nat) : differ f g = differ g f := by unfold differ; congr 1; funext k; rw [decide_eq_decide]; exact ⟨fun h e => h e.symm, fun h e => h e.symm⟩
/-- Behind a meeting the digests are the same. -/
theorem meet_dig {k : Nat} (hk : k < 16) : dig (meetL (diff a b) a b) k = dig (meetL (diff a b) b a) k := by
  by_cases h : (k : Int) ∈ diff a b
  · unfold dig
    rw [own_in h, own_in h, setOf_comm]
  · unfold dig
    rw [own_out h, own_out h]
    have : ¬ (k < 16 ∧ dig (setOf a) k ≠ dig (setOf b) k) := fun e => h (mem_ofN.2 (differ_mem.2 e))
    exact Decidable.byContradiction (fun hn => this ⟨hk, hn⟩)
theorem meet_differ : differ (dig (meetL (diff a b) a b)) (dig (meetL (diff a b) b a)) = [] := by
  unfold differ
  rw [List.filter_eq_nil_iff]
  intro k hk
  rw [List.mem_range] at hk
  have h := meet_dig (a := a) (b := b) hk
  simpa using h
theorem meet_pick : pick (diff a b) (meetL (diff a b) a b) = pick (diff a b) (meetL (diff a b) b a) := by
  refine srs_ext (pick_ok (meet_ok _)).srs (pick_ok (meet_ok _)).srs (fun y => ?_)
  rw [pick_mem, pick_mem]
  constructor
  · rintro ⟨h1, h2⟩; refine ⟨(meet_in h2).2 ?_, h2⟩; rw [setOf_comm]; exact (meet_in h2).1 h1
  · rintro ⟨h1, h2⟩; refine ⟨(meet_in h2).2 ?_, h2⟩; rw [setOf_comm]; exact (meet_in h2).1 h1
theorem meet_all (S : List Int) : setOf (a ++ meetL S a b) = meetL S a b := by
  unfold meetL
  rw [setOf_app_r, ← List.append_assoc]
  refine setOf_ext (fun y => ?_)
  rw [Kpt.app, Kpt.app, Kpt.app]
  exact ⟨fun h => h.imp (fun h => h.elim id id) id, fun h => h.imp .inl id⟩
end
/-- One record of a set has another revision. -/
def revd (x : Sn) (r : Int) : Sn := { x with r := r }
def gone (x : Sn) : Sn := { x with g := !x.g }
theorem set_ok2 {L : List Sn} (h : Ok L) {k : Nat} (hk : k < L.length) {y : Sn} (h1 : one y L[k] = true) (h2 : mayB y = true) (h3 : kp y = y) : Ok (L.set k y) := by
  refine ⟨?_, fun x hx => ?_, fun x hx => ?_⟩
  · rw [Srs, List.pairwise_iff_getElem]
    intro i j hi hj hij
    rw [List.length_set] at hi hj
    have h4 := List.pairwise_iff_getElem.1 h.srs i j hi hj hij
    rw [List.getElem_set, List.getElem_set]
    split
    · rename_i e; subst e
      rw [if_neg (by omega), (one_bef h1).1]; exact h4
    · split
      · rename_i e; subst e
        rw [(one_bef h1).2]; exact h4
      · exact h4
  · rcases List.mem_or_eq_of_mem_set hx with hx | rfl
    · exact h.may x hx
    · exact h2
  · rcases List.mem_or_eq_of_mem_set hx with hx | rfl
    · exact h.kept x hx
    · exact h3
theorem flat_set (L : List Sn) {k : Nat} (hk : k < L.length) (p : Nat) : ∃ u v, ∀ y : Sn, part y.t = p → (own p (L.set k y)).flatMap enc = u ++ (enc y ++ v) := by
  refine ⟨(own p (L.take k)).flatMap enc, (own p (L.drop (k + 1))).flatMap enc, fun y hy => ?_⟩
  rw [List.set_eq_take_append_cons_drop, if_pos hk]
  unfold own
  rw [List.filter_append, List.filter_cons, decide_eq_true hy, if_pos rfl, List.flatMap_append, List.flatMap_cons]
theorem enc_rev (x : Sn) {r : Int} (h0 : 0 ≤ r) (h1 : r < 128) : enc (revd x r) = (nb x.t ++ (nb x.i ++ nb x.p)) ++ UInt8.ofNat r.toNat :: (tb x.s ++ (tb x.o ++ (vb (zz x.b) ++ (vb (zz x.d) ++ gb x.g)))) := by
  have : nb r = [UInt8.ofNat r.toNat] := by rw [nb_ge h0, vb_lt (by omega)]
  unfold enc revd
  dsimp only
  rw [this]
  simp
theorem enc_gone (x : Sn) : ∃ u, enc x = u ++ [if x.g then 1 else 0] ∧ enc (gone x) = u ++ [if x.g then 0 else 1] := by
  refine ⟨nb x.t ++ (nb x.i ++ (nb x.p ++ (nb x.r ++ (tb x.s ++ (tb x.o ++ (vb (zz x.b) ++ vb (zz x.d))))))), ?_, ?_⟩
  · unfold enc gb; simp
  · unfold enc gone gb; dsimp only; cases x.g <;> simp
theorem rev_may {x : Sn} (h : mayB x = true) {r : Int} (h0 : 0 ≤ r) : mayB (revd x r) = true := by
  have hm := may_iff.1 h
  unfold mayB at h ⊢
  simp only [Bool.and_eq_true, decide_eq_true_eq] at h ⊢
  exact ⟨h.1, h.2.1, h.2.2.1, h0, h.2.2.2.2⟩
/-- Sets that differ in a record's revision, or in whether it is gone, differ in their digest. -/
theorem dig_rev {L : List Sn} {k : Nat} (hk : k < L.length) (x : Sn) {r s : Int} (h0 : 0 ≤ r) (h1 : r < 128) (h2 : 0 ≤ s) (h3 : s < 128) (h : dig (L.set k (revd x r)) (part x.t) = dig (L.set k (revd x s)) (part x.t)) : r = s := by
  obtain ⟨u, v, e⟩ := flat_set L hk (part x.t)
  unfold dig at h
  rw [e _ (show part (revd x r).t = part x.t from rfl), e _ (show part (revd x s).t = part x.t from rfl), enc_rev x h0 h1, enc_rev x h2 h3] at h
  simp only [List.append_assoc, List.cons_append] at h
  have h4 := Crc.sum_byte (u := u ++ (nb x.t ++ (nb x.i ++ nb x.p))) (b := UInt8.ofNat r.toNat) (c := UInt8.ofNat s.toNat) (v := tb x.s ++ (tb x.o ++ (vb (zz x.b) ++ (vb (zz x.d) ++ (gb x.g ++ v))))) (by simpa only [List.append_assoc, List.cons_append] using h)
  have := of_inj (by omega) (by omega) h4
  omega
theorem dig_gone {L : List Sn} {k : Nat} (hk : k < L.length) (x : Sn) : dig (L.set k (gone x)) (part x.t) ≠ dig (L.set k x) (part x.t) := by
  intro h
  obtain ⟨u, v, e⟩ := flat_set L hk (part x.t)
  obtain ⟨q, e1, e2⟩ := enc_gone x
  unfold dig at h
  rw [e _ (show part (gone x).t = part x.t from rfl), e x rfl, e1, e2] at h
  have h4 := Crc.sum_byte (u := u ++ q) (v := v) (b := if x.g then 0 else 1) (c := if x.g then 1 else 0) (by simpa only [List.append_assoc, List.cons_append, List.nil_append] using h)
  cases hg : x.g <;> rw [hg] at h4 <;> simp at h4
end Dig
end Go.Proofs.Ytmcghchhegfilaa
