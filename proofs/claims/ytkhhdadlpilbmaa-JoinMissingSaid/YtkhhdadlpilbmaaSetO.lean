/- The set of records: of each key the newest; it does not depend on the order. Plain. -/
import Derived.Test.YtkhhdadlpilbmaaPackP
namespace Go.Proofs.Ytkhhdadlpilbmaa
open Go.RowKit
namespace PackP
open KeyP SetP
theorem nwr_kpl (x y : Sn) : nwr (kp x) y = nwr x y := by unfold nwr; rw [bts_kp]; rfl
theorem nwr_kpr (x y : Sn) : nwr x (kp y) = nwr x y := by unfold nwr; rw [bts_kp]; rfl
theorem one_kpl (x y : Sn) : one (kp x) y = one x y := rfl
theorem one_kpr (x y : Sn) : one x (kp y) = one x y := rfl
theorem one_tr {a b c : Sn} (h1 : one a b = true) (h2 : one b c = true) : one a c = true := by rw [one_iff] at *; omega
theorem one_sm {a b : Sn} (h : one a b = true) : one b a = true := by rw [one_comm]; exact h
/-- L is the set of l. -/
structure IsSet (l L : List Sn) : Prop where
  srs : Srs L
  of : ∀ z ∈ L, ∃ x ∈ l, mayB x = true ∧ kp x = z
  top : ∀ x ∈ l, mayB x = true → ∃ z ∈ L, one z x = true ∧ nwr x z = false
theorem IsSet.nil : IsSet [] [] := ⟨.nil, fun _ h => by simp at h, fun _ h => by simp at h⟩
theorem fnd_kp (x : Sn) (L : List Sn) : fnd (kp x) L = fnd x L := rfl
theorem IsSet.snoc {l L : List Sn} (h : IsSet l L) (x : Sn) : IsSet (l ++ [x]) (put L x) := by
  unfold put
  by_cases hm : mayB x = true
  · rw [if_pos hm]
    have insd : (∀ z ∈ L, one z x = true → nwr x z = true) → IsSet (l ++ [x]) (ins (kp x) L) := by
      intro hz
      refine ⟨ins_srs h.srs, fun z hzm => ?_, fun x' hx' hm' => ?_⟩
      · rcases (ins_mem h.srs).1 hzm with rfl | ⟨hz1, -⟩
        · exact ⟨x, by simp, hm, rfl⟩
        · obtain ⟨x0, h0, h1, h2⟩ := h.of z hz1
          exact ⟨x0, by simp [h0], h1, h2⟩
      · rcases List.mem_append.1 hx' with hx' | hx'
        · obtain ⟨z, hz1, hz2, hz3⟩ := h.top x' hx' hm'
          cases ho : one z x with
          | false => exact ⟨z, (ins_mem h.srs).2 (.inr ⟨hz1, by rw [one_kpr]; exact ho⟩), hz2, hz3⟩
          | true =>
            refine ⟨kp x, (ins_mem h.srs).2 (.inl rfl), by rw [one_kpl]; exact one_tr (one_sm ho) hz2, ?_⟩
            rw [nwr_kpr]
            cases hn : nwr x' x with
            | false => rfl
            | true => rw [nwr_tr hn (hz z hz1 ho)] at hz3; cases hz3
        · obtain rfl := List.mem_singleton.1 hx'
          exact ⟨kp x', (ins_mem h.srs).2 (.inl rfl), by rw [one_kpl]; exact one_refl _, by rw [nwr_kpr]; exact nwr_irr _⟩
    cases hf : fnd x L with
    | none => exact insd (fun z hz ho => by rw [fnd_none hf z hz] at ho; cases ho)
    | some z0 =>
      obtain ⟨f1, f2⟩ := fnd_some hf
      show IsSet _ (if nwr (kp x) z0 = true then ins (kp x) L else L)
      by_cases hn : nwr (kp x) z0 = true
      · rw [if_pos hn]
        refine insd (fun z hz ho => ?_)
        rw [srs_uni h.srs hz f1 (one_tr ho (one_sm f2)), ← nwr_kpl]; exact hn
      · rw [if_neg hn]
        refine ⟨h.srs, fun z hz => ?_, fun x' hx' hm' => ?_⟩
        · obtain ⟨x0, h0, h1, h2⟩ := h.of z hz
          exact ⟨x0, by simp [h0], h1, h2⟩
        · rcases List.mem_append.1 hx' with hx' | hx'
          · exact h.top x' hx' hm'
          · obtain rfl := List.mem_singleton.1 hx'
            exact ⟨z0, f1, f2, by rw [← nwr_kpl]; simpa using hn⟩
  · rw [if_neg hm]
    refine ⟨h.srs, fun z hz => ?_, fun x' hx' hm' => ?_⟩
    · obtain ⟨x0, h0, h1, h2⟩ := h.of z hz
      exact ⟨x0, by simp [h0], h1, h2⟩
    · rcases List.mem_append.1 hx' with hx' | hx'
      · exact h.top x' hx' hm'
      · obtain rfl := List.mem_singleton.1 hx'
        exact absurd hm' hm
theorem setOf_snoc (l : List Sn) (x : Sn) : setOf (l ++ [x]) = put (setOf l) x := by unfold setOf; rw [List.foldl_append]; rfl
theorem isSet_go : ∀ (r l L : List Sn), IsSet l L → IsSet (l ++ r) (r.foldl put L)
  | [], l, L, h => by simpa using h
  | x :: r, l, L, h => by
    have := isSet_go r (l ++ [x]) (put L x) (h.snoc x)
    rw [List.append_assoc] at this; exact this
theorem isSet (l : List Sn) : IsSet l (setOf l) := isSet_go l [] [] IsSet.nil
theorem IsSet.mem {l L : List Sn} (h : IsSet l L) (y : Sn) : y ∈ L ↔ (∃ x ∈ l, mayB x = true ∧ kp x = y) ∧ ∀ x ∈ l, mayB x = true → one x y = true → nwr x y = false := by
  constructor
  · intro hy
    refine ⟨h.of y hy, fun x hx hm ho => ?_⟩
    obtain ⟨z, z1, z2, z3⟩ := h.top x hx hm
    rw [srs_uni h.srs hy z1 (one_sm (one_tr z2 ho))]; exact z3
  · rintro ⟨⟨x, hx, hm, rfl⟩, hall⟩
    obtain ⟨z, z1, z2, z3⟩ := h.top x hx hm
    obtain ⟨x', x1, x2, rfl⟩ := h.of z z1
    have h1 := hall x' x1 x2 z2
    rw [nwr_kpr] at z3 h1
    rw [nwr_tri hm x2 z3 h1]; exact z1
/-- The records that may be, kept. -/
def Kpt (l : List Sn) (y : Sn) : Prop := ∃ x ∈ l, mayB x = true ∧ kp x = y
theorem IsSet.mem' {l L : List Sn} (h : IsSet l L) (y : Sn) : y ∈ L ↔ Kpt l y ∧ ∀ x, Kpt l x → one x y = true → nwr x y = false := by
  rw [h.mem]
  refine and_congr Iff.rfl ⟨?_, ?_⟩
  · rintro H x ⟨x', h1, h2, rfl⟩ ho
    rw [nwr_kpl]; exact H x' h1 h2 ho
  · intro H x hx hm ho
    have := H (kp x) ⟨x, hx, hm, rfl⟩ ho
    rwa [nwr_kpl] at this
/-- Sets of the same records are one. -/
theorem IsSet.uni {l L l' L' : List Sn} (h : IsSet l L) (h' : IsSet l' L') (he : ∀ y, Kpt l y ↔ Kpt l' y) : L = L' := by
  refine srs_ext h.srs h'.srs (fun y => ?_)
  rw [h.mem', h'.mem', he]
  refine and_congr Iff.rfl (forall_congr' fun x => ?_)
  rw [he]
theorem setOf_ext {l l' : List Sn} (he : ∀ y, Kpt l y ↔ Kpt l' y) : setOf l = setOf l' := (isSet l).uni (isSet l') he
theorem Kpt.app {a b : List Sn} {y : Sn} : Kpt (a ++ b) y ↔ Kpt a y ∨ Kpt b y := by
  constructor
  · rintro ⟨x, hx, h⟩
    rcases List.mem_append.1 hx with hx | hx
    · exact .inl ⟨x, hx, h⟩
    · exact .inr ⟨x, hx, h⟩
  · rintro (⟨x, hx, h⟩ | ⟨x, hx, h⟩)
    · exact ⟨x, List.mem_append.2 (.inl hx), h⟩
    · exact ⟨x, List.mem_append.2 (.inr hx), h⟩
/-- A list that is a set: kept records that may be, in order. -/
structure Ok (L : List Sn) : Prop where
  srs : Srs L
  may : ∀ x ∈ L, mayB x = true
  kept : ∀ x ∈ L, kp x = x
theorem IsSet.okL {l L : List Sn} (h : IsSet l L) : Ok L := ⟨h.srs, fun z hz => by
    obtain ⟨x, -, h1, rfl⟩ := h.of z hz
    rw [kp_may]; exact h1, fun z hz => by
    obtain ⟨x, -, h1, rfl⟩ := h.of z hz
    exact kp_kp x⟩
theorem Ok.isSet {L : List Sn} (h : Ok L) : IsSet L L := ⟨h.srs, fun z hz => ⟨z, hz, h.may z hz, h.kept z hz⟩, fun x hx _ => ⟨x, hx, one_refl x, nwr_irr x⟩⟩
theorem Ok.set {L : List Sn} (h : Ok L) : setOf L = L := (PackP.isSet L).uni h.isSet (fun _ => Iff.rfl)
theorem setOf_ok (l : List Sn) : Ok (setOf l) := (isSet l).okL
theorem setOf_idem (l : List Sn) : setOf (setOf l) = setOf l := (setOf_ok l).set
theorem ok_iff {L : List Sn} : Ok L ↔ setOf L = L := ⟨fun h => h.set, fun h => h ▸ setOf_ok L⟩
/-- L is the set of l ++ r, where L is that of a set of l and r. -/
theorem setOf_app_l (a b : List Sn) : setOf (setOf a ++ b) = setOf (a ++ b) := by
  refine srs_ext (setOf_ok _).srs (setOf_ok _).srs (fun y => ?_)
  rw [(isSet _).mem', (isSet _).mem']
  have hK : ∀ z, Kpt (setOf a) z → Kpt a z := by
    rintro z ⟨x, hx, h1, h2⟩
    rw [(setOf_ok a).kept x hx] at h2
    subst h2
    exact (isSet a).of x hx
  have hT : ∀ z, Kpt a z → ∃ z', Kpt (setOf a) z' ∧ one z' z = true ∧ nwr z z' = false := by
    rintro z ⟨x, hx, h1, rfl⟩
    obtain ⟨z', h2, h3, h4⟩ := (isSet a).top x hx h1
    exact ⟨z', ⟨z', h2, (setOf_ok a).may z' h2, (setOf_ok a).kept z' h2⟩, h3, by rw [nwr_kpl]; exact h4⟩
  have hM : ∀ z, Kpt a z → mayB z = true ∧ kp z = z := by
    rintro z ⟨x, hx, h1, rfl⟩
    exact ⟨by rw [kp_may]; exact h1, kp_kp x⟩
  constructor
  · rintro ⟨h1, h2⟩
    refine ⟨?_, fun x hx ho => ?_⟩
    · rcases Kpt.app.1 h1 with h1 | h1
      · exact Kpt.app.2 (.inl (hK _ h1))
      · exact Kpt.app.2 (.inr h1)
    · rcases Kpt.app.1 hx with hx | hx
      · obtain ⟨z', h3, h4, h5⟩ := hT x hx
        have h6 := h2 z' (Kpt.app.2 (.inl h3)) (one_tr h4 ho)
        cases hn : nwr x y with
        | false => rfl
        | true =>
          -- x is ahead of y, and neither z' of y, nor x of z'
          have hx' := hM x hx
          have hz' := hM z' (hK z' h3)
          cases hzx : nwr z' x with
          | true => rw [nwr_tr hzx hn] at h6; cases h6
          | false =>
            have := nwr_tri hx'.1 hz'.1 h5 hzx
            rw [hx'.2, hz'.2] at this
            rw [← this, hn] at h6; cases h6
      · exact h2 x (Kpt.app.2 (.inr hx)) ho
  · rintro ⟨h1, h2⟩
    refine ⟨?_, fun x hx ho => ?_⟩
    · rcases Kpt.app.1 h1 with h1 | h1
      · obtain ⟨z', h3, h4, h5⟩ := hT y h1
        have hz' := hM z' (hK z' h3)
        have h6 := h2 z' (Kpt.app.2 (.inl (hK z' h3))) h4
        have := nwr_tri (hM y h1).1 hz'.1 h5 h6
        rw [(hM y h1).2, hz'.2] at this
        rw [this]; exact Kpt.app.2 (.inl h3)
      · exact Kpt.app.2 (.inr h1)
    · rcases Kpt.app.1 hx with hx | hx
      · exact h2 x (Kpt.app.2 (.inl (hK x hx))) ho
      · exact h2 x (Kpt.app.2 (.inr hx)) ho
theorem setOf_comm (a b : List Sn) : setOf (a ++ b) = setOf (b ++ a) := setOf_ext (fun y => by rw [Kpt.app, Kpt.app, or_comm])
theorem setOf_app_r (a b : List Sn) : setOf (a ++ setOf b) = setOf (a ++ b) := by rw [setOf_comm, setOf_app_l, setOf_comm]
theorem put_len (L : List Sn) (hs : Srs L) (x : Sn) : (put L x).length ≤ L.length + 1 := by
  have := ins_len (kp x) hs
  unfold put
  split
  · split
    · exact this
    · split
      · exact this
      · omega
  · omega
theorem setOf_len (l : List Sn) : (setOf l).length ≤ l.length := by
  have key : ∀ (r l L : List Sn), IsSet l L → (r.foldl put L).length ≤ L.length + r.length := by
    intro r
    induction r with
    | nil => intro l L h; simp
    | cons x r ih =>
      intro l L h
      have := ih (l ++ [x]) (put L x) (h.snoc x)
      have h2 := put_len L h.srs x
      rw [List.foldl_cons, List.length_cons]; omega
  have := key l [] [] IsSet.nil
  rw [List.length_nil, Nat.zero_add] at this
  exact this
end PackP
end Go.Proofs.Ytkhhdadlpilbmaa
