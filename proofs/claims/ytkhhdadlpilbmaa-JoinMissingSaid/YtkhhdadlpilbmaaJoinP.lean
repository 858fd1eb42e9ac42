/- What is missing of a set, and what is joined. Plain. -/
import Derived.Test.YtkhhdadlpilbmaaSetO
namespace Go.Proofs.Ytkhhdadlpilbmaa
open Go.RowKit
namespace PackP
open KeyP SetP
/-- Does a record bring something to a set? -/
def bring (A : List Sn) (y : Sn) : Bool := match fnd y A with
  | none => true
  | some z => nwr y z
/-- What is missing of lists. -/
def miss (a b : List Sn) : List Sn := (setOf b).filter (bring (setOf a))
theorem bring_no {A : List Sn} {y : Sn} (h : bring A y = false) : ∃ z ∈ A, one z y = true ∧ nwr y z = false := by
  unfold bring at h
  cases hf : fnd y A with
  | none => rw [hf] at h; cases h
  | some z => rw [hf] at h; obtain ⟨h1, h2⟩ := fnd_some hf; exact ⟨z, h1, h2, h⟩
theorem bring_false {A : List Sn} (hs : Srs A) {y z : Sn} (hz : z ∈ A) (h1 : one z y = true) (h2 : nwr y z = false) : bring A y = false := by
  unfold bring; rw [fnd_mem hs hz h1]; exact h2
theorem Ok.kpt {L : List Sn} (h : Ok L) {y : Sn} : Kpt L y ↔ y ∈ L :=
  ⟨fun ⟨x, hx, _, e⟩ => by rw [h.kept x hx] at e; exact e ▸ hx, fun hy => ⟨y, hy, h.may y hy, h.kept y hy⟩⟩
theorem Ok.filter {L : List Sn} (h : Ok L) (p : Sn → Bool) : Ok (L.filter p) :=
  ⟨h.srs.filter _, fun x hx => h.may x (List.mem_filter.1 hx).1, fun x hx => h.kept x (List.mem_filter.1 hx).1⟩
theorem Ok.nil : Ok [] := ⟨.nil, fun _ h => by simp at h, fun _ h => by simp at h⟩
theorem Ok.single {y : Sn} (h1 : mayB y = true) (h2 : kp y = y) : Ok [y] := ⟨List.pairwise_singleton _ _, fun x hx => by simp at hx; subst hx; exact h1, fun x hx => by simp at hx; subst hx; exact h2⟩
theorem mem_app {A B : List Sn} (hA : Ok A) (hB : Ok B) {y : Sn} : y ∈ setOf (A ++ B) ↔ (y ∈ A ∨ y ∈ B) ∧ ∀ x, (x ∈ A ∨ x ∈ B) → one x y = true → nwr x y = false := by
  rw [(isSet (A ++ B)).mem']
  simp only [Kpt.app, hA.kpt, hB.kpt]
theorem miss_ok (a b : List Sn) : Ok (miss a b) := (setOf_ok b).filter _
theorem miss_len (a b : List Sn) : (miss a b).length ≤ b.length := Nat.le_trans (List.length_filter_le _ _) (setOf_len b)
theorem set_app (a b : List Sn) : setOf (a ++ b) = setOf (setOf a ++ setOf b) := by rw [setOf_app_l, setOf_app_r]
/-- What is missing is enough. -/
theorem join_miss (a b : List Sn) : setOf (a ++ miss a b) = setOf (a ++ b) := by
  rw [set_app a b, set_app a (miss a b), (miss_ok a b).set]
  have hA := setOf_ok a
  have hB := setOf_ok b
  refine srs_ext (setOf_ok _).srs (setOf_ok _).srs (fun y => ?_)
  rw [mem_app hA hB, mem_app hA (miss_ok a b)]
  have hM : ∀ x, x ∈ miss a b ↔ x ∈ setOf b ∧ bring (setOf a) x = true := fun x => List.mem_filter
  constructor
  · rintro ⟨h1, h2⟩
    refine ⟨h1.imp_right (fun h => ((hM y).1 h).1), ?_⟩
    rintro x (hx | hx) ho
    · exact h2 x (.inl hx) ho
    · by_cases hb : bring (setOf a) x = true
      · exact h2 x (.inr ((hM x).2 ⟨hx, hb⟩)) ho
      · obtain ⟨z, hz, hz1, hz2⟩ := bring_no (Bool.eq_false_iff.2 hb)
        rcases h1 with h1 | h1
        · obtain rfl := srs_uni hA.srs h1 hz (one_tr (one_sm ho) (one_sm hz1))
          exact hz2
        · obtain rfl := srs_uni hB.srs hx ((hM y).1 h1).1 ho
          exact nwr_irr x
  · rintro ⟨h1, h2⟩
    refine ⟨?_, fun x hx ho => h2 x (hx.imp_right (fun h => ((hM x).1 h).1)) ho⟩
    rcases h1 with h1 | h1
    · exact .inl h1
    · by_cases hb : bring (setOf a) y = true
      · exact .inr ((hM y).2 ⟨h1, hb⟩)
      · obtain ⟨z, hz, hz1, hz2⟩ := bring_no (Bool.eq_false_iff.2 hb)
        have := nwr_tri (hB.may y h1) (hA.may z hz) hz2 (h2 z (.inl hz) hz1)
        rw [hB.kept y h1, hA.kept z hz] at this
        exact .inl (this ▸ hz)
theorem miss_nil {a b : List Sn} : miss a b = [] ↔ ∀ y ∈ setOf b, ∃ z ∈ setOf a, one z y = true ∧ nwr y z = false := by
  unfold miss
  rw [List.filter_eq_nil_iff]
  constructor
  · intro h y hy; exact bring_no (Bool.eq_false_iff.2 (h y hy))
  · intro h y hy; obtain ⟨z, h1, h2, h3⟩ := h y hy; rw [bring_false (setOf_ok a).srs h1 h2 h3]; simp
/-- What is joined covers both. -/
theorem covers_r (a b : List Sn) : miss (setOf (a ++ b)) b = [] := by
  rw [miss_nil]
  intro y hy
  rw [setOf_idem]
  obtain ⟨x, hx, h1, h2⟩ := (isSet b).of y hy
  obtain ⟨z, hz, h3, h4⟩ := (isSet (a ++ b)).top x (List.mem_append.2 (.inr hx)) h1
  exact ⟨z, hz, by rw [← h2, one_kpr]; exact h3, by rw [← h2, nwr_kpl]; exact h4⟩
theorem covers_l (a b : List Sn) : miss (setOf (a ++ b)) a = [] := by rw [setOf_comm]; exact covers_r b a
theorem miss_self (a : List Sn) : miss a a = [] := by rw [miss_nil]; exact fun y hy => ⟨y, hy, one_refl y, nwr_irr y⟩
/-- Each record of it counts. -/
theorem miss_one {a b : List Sn} {y : Sn} (h : y ∈ miss a b) : miss a [y] = [y] := by
  have hk := miss_ok a b
  have hb : bring (setOf a) y = true := (List.mem_filter.1 h).2
  unfold miss
  rw [(Ok.single (hk.may y h) (hk.kept y h)).set, List.filter_cons, if_pos hb]; rfl
theorem join_tr (a b c : List Sn) : setOf (setOf (a ++ b) ++ c) = setOf (a ++ setOf (b ++ c)) := by rw [setOf_app_l, setOf_app_r, List.append_assoc]
theorem join_same (a b : List Sn) : setOf (setOf (a ++ b) ++ setOf (a ++ b)) = setOf (a ++ b) := by
  rw [setOf_app_l, setOf_app_r]
  exact setOf_ext (fun y => by simp only [Kpt.app]; exact or_self_iff)
theorem join_again (a b : List Sn) : setOf (setOf (a ++ b) ++ a) = setOf (a ++ b) := by
  rw [setOf_app_l]
  exact setOf_ext (fun y => by simp only [Kpt.app]; exact ⟨fun h => h.elim id .inl, .inl⟩)
theorem bring_end {P : List Sn} {y : Sn} (hP : ∀ p ∈ P, bef p y = true) : bring P y = true := by
  unfold bring
  have : fnd y P = none := by
    unfold fnd
    rw [List.find?_eq_none]
    exact fun p hp => by rw [bef_ne (hP p hp)]; simp
  rw [this]
theorem bring_at {P N : List Sn} {z y : Sn} (hs : Srs (P ++ z :: N)) (hP : ∀ p ∈ P, bef p y = true) (hz : bef z y = false) : bring (P ++ z :: N) y = if one z y then nwr y z else true := by
  have h0 : fnd y (P ++ z :: N) = if one z y then some z else none := by
    unfold fnd
    rw [List.find?_append, List.find?_eq_none.2 (fun p hp => by rw [bef_ne (hP p hp)]; simp), Option.none_or, List.find?_cons]
    cases h : one z y with
    | true => rfl
    | false =>
      have hyz : bef y z = true := by
        cases h2 : bef y z with
        | true => rfl
        | false => rw [bef_tri hz h2] at h; cases h
      have := (List.pairwise_cons.1 (List.pairwise_append.1 hs).2.1).1
      exact List.find?_eq_none.2 (fun n hn => by rw [bef_ne' (bef_tr hyz (this n hn))]; simp)
  unfold bring
  rw [h0]
  cases one z y <;> rfl
/-- All lists joined, one by one. -/
def joins (l : List (List Sn)) : List Sn := l.foldl (fun s x => setOf (s ++ x)) []
theorem joins_go : ∀ (l : List (List Sn)) (s : List Sn), setOf (l.foldl (fun s x => setOf (s ++ x)) s) = setOf (s ++ l.flatten)
  | [], s => by simp
  | x :: l, s => by rw [List.foldl_cons, joins_go l, setOf_app_l, List.flatten_cons, List.append_assoc]
theorem joins_ok (l : List (List Sn)) : Ok (joins l) := by
  unfold joins
  rcases List.eq_nil_or_concat l with rfl | ⟨m, x, rfl⟩
  · exact Ok.nil
  · rw [List.concat_eq_append, List.foldl_append]; exact setOf_ok _
theorem joins_eq (l : List (List Sn)) : joins l = setOf l.flatten := by rw [← (joins_ok l).set]; unfold joins; rw [joins_go]; rfl
theorem joins_snoc (l : List (List Sn)) (x : List Sn) : joins (l ++ [x]) = setOf (joins l ++ x) := by unfold joins; rw [List.foldl_append]; rfl
end PackP
end Go.Proofs.Ytkhhdadlpilbmaa
