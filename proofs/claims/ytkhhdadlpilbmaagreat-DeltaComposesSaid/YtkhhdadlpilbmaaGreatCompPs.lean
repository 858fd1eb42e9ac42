/- What deltas say of keys, plain: sides, what is composed, and what the document says of it. -/
import Derived.Test.YtkhhdadlpilbmaaGreatPackPs
import Derived.Test.YtkhhdadlpilbmaaGreatDeltas
namespace Go.Proofs.YtkhhdadlpilbmaaGreat
open Go.RowKit
namespace Comp
open KeyP PackP SetP
/-- Records in order of their keys' texts. -/
abbrev Sk (L : List Sn) : Prop := L.Pairwise (fun a b => Ord.lt (kk a) (kk b) = true)
theorem sk_of {L : List Sn} (hs : Srs L) (hg : ∀ x ∈ L, gk x) : Sk L := hs.imp_of_mem (fun {a b} ha hb h => by rw [lt_kk (hg a ha) (hg b hb)]; exact h)
/-- The record of a key's text. -/
def fk (k : ByteArray) (L : List Sn) : Option Sn := L.find? (fun x => sameK k (kk x))
theorem fk_some {k : ByteArray} {x : Sn} {L : List Sn} (h : fk k L = some x) : x ∈ L ∧ kk x = k := ⟨List.mem_of_find?_eq_some h, (sameK_iff.1 (List.find?_some (p := fun x => sameK k (kk x)) h)).symm⟩
theorem fk_nil (k : ByteArray) : fk k [] = none := rfl
theorem fk_cons (k : ByteArray) (x : Sn) (L : List Sn) : fk k (x :: L) = if sameK k (kk x) then some x else fk k L := by
  unfold fk; rw [List.find?_cons]; cases sameK k (kk x) <;> rfl
theorem fk_low {x : Sn} {L : List Sn} (h : ∀ y ∈ L, Ord.lt (kk x) (kk y) = true) : fk (kk x) L = none := by
  cases hf : fk (kk x) L with
  | none => rfl
  | some y => obtain ⟨h1, h2⟩ := fk_some hf; have := h y h1; rw [h2, Ord.irr] at this; cases this
theorem fk_mem {x : Sn} {L : List Sn} (hs : Sk L) (hx : x ∈ L) : fk (kk x) L = some x := by
  induction L with
  | nil => cases hx
  | cons a L ih =>
    obtain ⟨h1, h2⟩ := List.pairwise_cons.1 hs
    rw [fk_cons]
    rcases List.mem_cons.1 hx with rfl | hx
    · rw [if_pos (sameK_refl _)]
    · rw [sameK_gt (h1 x hx), if_neg (by simp)]; exact ih h2 hx
theorem fk_iff {x : Sn} {L : List Sn} (hs : Sk L) : x ∈ L ↔ fk (kk x) L = some x := ⟨fk_mem hs, fun h => (fk_some h).1⟩
theorem fk_fnd {z : Sn} {L : List Sn} (hz : gk z) (hg : ∀ x ∈ L, gk x) : fk (kk z) L = fnd z L := by
  unfold fnd
  induction L with
  | nil => rfl
  | cons a L ih =>
    rw [fk_cons, List.find?_cons, same_kk hz (hg a (by simp)), one_comm, ih (fun x hx => hg x (by simp [hx]))]
    cases one a z <;> rfl
/-- What a delta says of a key. -/
structure Pd where
  m : Bool
  o : Option Sn
  i : Option Sn
abbrev zd : Pd := ⟨false, none, none⟩
abbrev PM := List (ByteArray × Pd)
def putO (L : PM) (x : Sn) : PM := insL (kk x) ⟨true, some x, none⟩ L
def putI (L : PM) (x : Sn) : PM := insL (kk x) ⟨true, ((getL (kk x) L).getD zd).o, some x⟩ L
def sidesP (O I : List Sn) : PM := I.foldl putI (O.foldl putO [])
def fitsP (a b : Pd) : Int := if a.m && b.m then (match b.o with
  | some v => if a.i = some v then 0 else 7
  | none => if a.i.isSome then 8 else 0) else 0
def bothP (a b : Pd) : Pd := ⟨a.m, if a.m then a.o else b.o, if b.m then b.i else a.i⟩
/-- One behind the other. -/
def cmp : PM → Int → PM → Option (PM × Int)
  | X, e, [] => some (X, e)
  | X, e, p :: Y => if fitsP ((getL p.1 X).getD zd) p.2 = 7 then none else cmp (insL p.1 (bothP ((getL p.1 X).getD zd) p.2) X) (if fitsP ((getL p.1 X).getD zd) p.2 = 0 then e else fitsP ((getL p.1 X).getD zd) p.2) Y
theorem cmp_app : ∀ (Y Z X : PM) (e : Int), cmp X e (Y ++ Z) = (cmp X e Y).bind (fun q => cmp q.1 q.2 Z)
  | [], Z, X, e => rfl
  | p :: Y, Z, X, e => by
    show (if fitsP _ p.2 = 7 then none else cmp _ _ (Y ++ Z)) = (if fitsP _ p.2 = 7 then none else cmp _ _ Y).bind _
    by_cases h : fitsP ((getL p.1 X).getD zd) p.2 = 7
    · rw [if_pos h, if_pos h]; rfl
    · rw [if_neg h, if_neg h]; exact cmp_app Y Z _ _
def outs (L : PM) : List Sn := L.filterMap (fun p => if p.2.o = p.2.i then none else p.2.o)
def inns (L : PM) : List Sn := L.filterMap (fun p => if p.2.o = p.2.i then none else p.2.i)
/-- What is said. -/
theorem get_putO {O : List Sn} (hs : Sk O) (k : ByteArray) (L : PM) : getL k (O.foldl putO L) = match fk k O with | some x => some ⟨true, some x, none⟩ | none => getL k L := by
  induction O generalizing L with
  | nil => rfl
  | cons x O ih =>
    obtain ⟨h1, h2⟩ := List.pairwise_cons.1 hs
    rw [List.foldl_cons, ih h2, fk_cons]
    unfold putO
    rw [getL_ins]
    by_cases h : sameK k (kk x) = true
    · have := sameK_iff.1 h; subst this
      rw [fk_low h1, if_pos h, if_pos h]
    · rw [if_neg h, if_neg h]
theorem get_putI {I : List Sn} (hs : Sk I) (k : ByteArray) (L : PM) : getL k (I.foldl putI L) = match fk k I with | some x => some ⟨true, ((getL k L).getD zd).o, some x⟩ | none => getL k L := by
  induction I generalizing L with
  | nil => rfl
  | cons x I ih =>
    obtain ⟨h1, h2⟩ := List.pairwise_cons.1 hs
    rw [List.foldl_cons, ih h2, fk_cons]
    unfold putI
    rw [getL_ins]
    by_cases h : sameK k (kk x) = true
    · have := sameK_iff.1 h; subst this
      rw [fk_low h1, if_pos h, if_pos h]
    · rw [if_neg h, if_neg h]
def sd (O I : List Sn) (k : ByteArray) : Pd := ⟨(fk k O).isSome || (fk k I).isSome, fk k O, fk k I⟩
theorem get_sides {O I : List Sn} (hO : Sk O) (hI : Sk I) (k : ByteArray) : getL k (sidesP O I) = if (sd O I k).m then some (sd O I k) else none := by
  unfold sidesP
  rw [get_putI hI, get_putO hO, getL_nil]
  unfold sd
  cases fk k I <;> cases fk k O <;> rfl
theorem getD_sides {O I : List Sn} (hO : Sk O) (hI : Sk I) (k : ByteArray) : (getL k (sidesP O I)).getD zd = sd O I k := by
  rw [get_sides hO hI]
  unfold sd
  cases fk k I <;> cases fk k O <;> rfl
theorem srt_foldO (O : List Sn) {L : PM} (h : Srt L) : Srt (O.foldl putO L) := by
  induction O generalizing L with
  | nil => exact h
  | cons x O ih => exact ih ((srt_insL _ h).1)
theorem srt_foldI (O : List Sn) {L : PM} (h : Srt L) : Srt (O.foldl putI L) := by
  induction O generalizing L with
  | nil => exact h
  | cons x O ih => exact ih ((srt_insL _ h).1)
theorem srt_sides (O I : List Sn) : Srt (sidesP O I) := srt_foldI I (srt_foldO O List.Pairwise.nil)
theorem mem_sides {O I : List Sn} (hO : Sk O) (hI : Sk I) {p : ByteArray × Pd} : p ∈ sidesP O I ↔ (sd O I p.1).m = true ∧ p.2 = sd O I p.1 := by
  obtain ⟨k, q⟩ := p
  constructor
  · intro h
    have := mem_getL (srt_sides O I) h
    rw [get_sides hO hI] at this
    by_cases hm : (sd O I k).m = true
    · rw [if_pos hm] at this; exact ⟨hm, (Option.some.inj this).symm⟩
    · rw [if_neg hm] at this; cases this
  · rintro ⟨h1, h2⟩
    refine getL_mem ?_
    rw [get_sides hO hI, if_pos h1]; exact congrArg some h2.symm
/-- What comes of all of it. -/
theorem cmp_eq {Y : PM} (hs : Srt Y) (X : PM) (e : Int) : cmp X e Y = if Y.any (fun p => decide (fitsP ((getL p.1 X).getD zd) p.2 = 7)) then none
    else some (Y.foldl (fun X p => insL p.1 (bothP ((getL p.1 X).getD zd) p.2) X) X, if Y.any (fun p => decide (fitsP ((getL p.1 X).getD zd) p.2 ≠ 0)) then 8 else e) := by
  induction Y generalizing X e with
  | nil => rfl
  | cons p Y ih =>
    obtain ⟨h1, h2⟩ := List.pairwise_cons.1 hs
    have key : ∀ v, ∀ q ∈ Y, getL q.1 (insL p.1 v X) = getL q.1 X := fun v q hq => by rw [getL_ins, sameK_gt (h1 q hq), if_neg (by simp)]
    have a7 : ∀ v, Y.any (fun q => decide (fitsP ((getL q.1 (insL p.1 v X)).getD zd) q.2 = 7)) = Y.any (fun q => decide (fitsP ((getL q.1 X).getD zd) q.2 = 7)) := fun v => by
      rw [Bool.eq_iff_iff, List.any_eq_true, List.any_eq_true]
      exact ⟨fun ⟨q, hq, h⟩ => ⟨q, hq, by rw [key v q hq] at h; exact h⟩, fun ⟨q, hq, h⟩ => ⟨q, hq, by rw [key v q hq]; exact h⟩⟩
    have a0 : ∀ v, Y.any (fun q => decide (fitsP ((getL q.1 (insL p.1 v X)).getD zd) q.2 ≠ 0)) = Y.any (fun q => decide (fitsP ((getL q.1 X).getD zd) q.2 ≠ 0)) := fun v => by
      rw [Bool.eq_iff_iff, List.any_eq_true, List.any_eq_true]
      exact ⟨fun ⟨q, hq, h⟩ => ⟨q, hq, by rw [key v q hq] at h; exact h⟩, fun ⟨q, hq, h⟩ => ⟨q, hq, by rw [key v q hq]; exact h⟩⟩
    show (if fitsP _ p.2 = 7 then none else cmp _ _ Y) = _
    rw [List.any_cons, List.any_cons, List.foldl_cons]
    by_cases h : fitsP ((getL p.1 X).getD zd) p.2 = 7
    · rw [if_pos h, decide_eq_true h, Bool.true_or, if_pos rfl]
    · rw [if_neg h, decide_eq_false h, Bool.false_or, ih h2, a7, a0]
      by_cases h0 : fitsP ((getL p.1 X).getD zd) p.2 = 0
      · rw [if_pos h0, decide_eq_false (fun h => h h0), Bool.false_or]
      · have h8 : fitsP ((getL p.1 X).getD zd) p.2 = 8 := by
          revert h h0; unfold fitsP
          split
          · split
            · split <;> simp
            · split <;> simp
          · simp
        rw [if_neg h0, decide_eq_true h0, Bool.true_or, h8]
        simp
theorem get_fold {Y : PM} (hs : Srt Y) (k : ByteArray) (X : PM) : getL k (Y.foldl (fun X p => insL p.1 (bothP ((getL p.1 X).getD zd) p.2) X) X) = match getL k Y with | some s => some (bothP ((getL k X).getD zd) s) | none => getL k X := by
  induction Y generalizing X with
  | nil => rfl
  | cons p Y ih =>
    obtain ⟨h1, h2⟩ := List.pairwise_cons.1 hs
    rw [List.foldl_cons, ih h2, getL_ins, getL_cons]
    by_cases h : sameK k p.1 = true
    · have := sameK_iff.1 h; subst this
      rw [getL_low' h1, if_pos h, if_pos h]
    · rw [if_neg h, if_neg h]
theorem srt_fold {Y : PM} {X : PM} (h : Srt X) : Srt (Y.foldl (fun X p => insL p.1 (bothP ((getL p.1 X).getD zd) p.2) X) X) := by
  induction Y generalizing X with
  | nil => exact h
  | cons p Y ih => exact ih ((srt_insL _ h).1)
/-- What is said of a key, in all. -/
def qd (O1 I1 O2 I2 : List Sn) (k : ByteArray) : Pd := bothP (sd O1 I1 k) (sd O2 I2 k)
theorem get_all {O1 I1 O2 I2 : List Sn} (h1 : Sk O1) (h2 : Sk I1) (h3 : Sk O2) (h4 : Sk I2) (k : ByteArray) :
    getL k ((sidesP O2 I2).foldl (fun X p => insL p.1 (bothP ((getL p.1 X).getD zd) p.2) X) (sidesP O1 I1)) = if (sd O1 I1 k).m || (sd O2 I2 k).m then some (qd O1 I1 O2 I2 k) else none := by
  rw [get_fold (srt_sides O2 I2), get_sides h3 h4, getD_sides h1 h2, get_sides h1 h2]
  unfold qd
  cases hm2 : (sd O2 I2 k).m with
  | true => rw [if_pos rfl, Bool.or_true, if_pos rfl]
  | false =>
    rw [if_neg (by simp), Bool.or_false]
    cases hm1 : (sd O1 I1 k).m with
    | false => rfl
    | true =>
      rw [if_pos rfl, if_pos rfl]
      show some _ = some _
      congr 1
      unfold bothP
      rw [hm2, hm1]
      show sd O1 I1 k = ⟨true, (sd O1 I1 k).o, (sd O1 I1 k).i⟩
      rw [← hm1]
/-- The lists, by what is said of the keys. -/
structure Wf (L : PM) : Prop where
  s : Srt L
  o : ∀ p ∈ L, ∀ x, p.2.o = some x → kk x = p.1 ∧ gk x
  i : ∀ p ∈ L, ∀ x, p.2.i = some x → kk x = p.1 ∧ gk x
theorem mem_outs {L : PM} (h : Wf L) {z : Sn} : z ∈ outs L ↔ ∃ q, getL (kk z) L = some q ∧ q.o = some z ∧ q.i ≠ some z := by
  unfold outs
  rw [List.mem_filterMap]
  constructor
  · rintro ⟨⟨k, q⟩, hp, he⟩
    dsimp only at he
    by_cases hq : q.o = q.i
    · rw [if_pos hq] at he; cases he
    · rw [if_neg hq] at he
      have hk := (h.o _ hp z he).1
      dsimp only at hk
      exact ⟨q, by rw [hk]; exact mem_getL h.s hp, he, fun e => hq (he.trans e.symm)⟩
  · rintro ⟨q, hg, ho, hi⟩
    exact ⟨_, getL_mem hg, by dsimp only; rw [if_neg (fun e : q.o = q.i => hi (e ▸ ho)), ho]⟩
theorem mem_inns {L : PM} (h : Wf L) {z : Sn} : z ∈ inns L ↔ ∃ q, getL (kk z) L = some q ∧ q.i = some z ∧ q.o ≠ some z := by
  unfold inns
  rw [List.mem_filterMap]
  constructor
  · rintro ⟨⟨k, q⟩, hp, he⟩
    dsimp only at he
    by_cases hq : q.o = q.i
    · rw [if_pos hq] at he; cases he
    · rw [if_neg hq] at he
      have hk := (h.i _ hp z he).1
      dsimp only at hk
      exact ⟨q, by rw [hk]; exact mem_getL h.s hp, he, fun e => hq (e.trans he.symm)⟩
  · rintro ⟨q, hg, ho, hi⟩
    exact ⟨_, getL_mem hg, by dsimp only; rw [if_neg (fun e : q.o = q.i => hi (e ▸ ho)), ho]⟩
theorem srs_fm {L : PM} (h : Srt L) (f : Pd → Option Sn) (hf : ∀ p ∈ L, ∀ x, f p.2 = some x → kk x = p.1 ∧ gk x) : Srs (L.filterMap (fun p => f p.2)) := by
  induction L with
  | nil => exact List.Pairwise.nil
  | cons p L ih =>
    obtain ⟨h1, h2⟩ := List.pairwise_cons.1 h
    have ih := ih h2 (fun q hq => hf q (by simp [hq]))
    rw [List.filterMap_cons]
    cases hp : f p.2 with
    | none => exact ih
    | some x =>
      refine List.pairwise_cons.2 ⟨fun y hy => ?_, ih⟩
      obtain ⟨q, hq, he⟩ := List.mem_filterMap.1 hy
      obtain ⟨a1, a2⟩ := hf p (by simp) x hp
      obtain ⟨b1, b2⟩ := hf q (by simp [hq]) y he
      have := h1 q hq
      rw [← a1, ← b1, lt_kk a2 b2] at this
      exact this
theorem srs_outs {L : PM} (h : Wf L) : Srs (outs L) := srs_fm h.s (fun q => if q.o = q.i then none else q.o) (fun p hp x hx => by
  split at hx
  · cases hx
  · exact h.o p hp x hx)
theorem srs_inns {L : PM} (h : Wf L) : Srs (inns L) := srs_fm h.s (fun q => if q.o = q.i then none else q.i) (fun p hp x hx => by
  split at hx
  · cases hx
  · exact h.i p hp x hx)
/-- All that is said. -/
def allP (O1 I1 O2 I2 : List Sn) : PM := (sidesP O2 I2).foldl (fun X p => insL p.1 (bothP ((getL p.1 X).getD zd) p.2) X) (sidesP O1 I1)
/-- Four lists in order. -/
structure S4 (O1 I1 O2 I2 : List Sn) : Prop where
  o1 : Srs O1
  i1 : Srs I1
  o2 : Srs O2
  i2 : Srs I2
  go1 : ∀ x ∈ O1, gk x
  gi1 : ∀ x ∈ I1, gk x
  go2 : ∀ x ∈ O2, gk x
  gi2 : ∀ x ∈ I2, gk x
section
variable {O1 I1 O2 I2 : List Sn}
theorem S4.k1 (h : S4 O1 I1 O2 I2) : Sk O1 := sk_of h.o1 h.go1
theorem S4.k2 (h : S4 O1 I1 O2 I2) : Sk I1 := sk_of h.i1 h.gi1
theorem S4.k3 (h : S4 O1 I1 O2 I2) : Sk O2 := sk_of h.o2 h.go2
theorem S4.k4 (h : S4 O1 I1 O2 I2) : Sk I2 := sk_of h.i2 h.gi2
theorem qo (k : ByteArray) : (qd O1 I1 O2 I2 k).o = if (sd O1 I1 k).m then fk k O1 else fk k O2 := rfl
theorem qi (k : ByteArray) : (qd O1 I1 O2 I2 k).i = if (sd O2 I2 k).m then fk k I2 else fk k I1 := rfl
theorem wf_all (h : S4 O1 I1 O2 I2) : Wf (allP O1 I1 O2 I2) := by
  have get := get_all h.k1 h.k2 h.k3 h.k4
  refine ⟨srt_fold (srt_sides _ _), fun p hp x hx => ?_, fun p hp x hx => ?_⟩
  · have hg := mem_getL (srt_fold (srt_sides O1 I1)) hp
    rw [get] at hg
    split at hg
    · rw [← Option.some.inj hg, qo] at hx
      split at hx
      · obtain ⟨a, b⟩ := fk_some hx; exact ⟨b, h.go1 x a⟩
      · obtain ⟨a, b⟩ := fk_some hx; exact ⟨b, h.go2 x a⟩
    · cases hg
  · have hg := mem_getL (srt_fold (srt_sides O1 I1)) hp
    rw [get] at hg
    split at hg
    · rw [← Option.some.inj hg, qi] at hx
      split at hx
      · obtain ⟨a, b⟩ := fk_some hx; exact ⟨b, h.gi2 x a⟩
      · obtain ⟨a, b⟩ := fk_some hx; exact ⟨b, h.gi1 x a⟩
    · cases hg
theorem sd_m (O I : List Sn) (k : ByteArray) : (sd O I k).m = false → fk k O = none ∧ fk k I = none := by
  unfold sd; cases fk k O <;> cases fk k I <;> simp
theorem mem_outs_all (h : S4 O1 I1 O2 I2) {z : Sn} : z ∈ outs (allP O1 I1 O2 I2) ↔ (qd O1 I1 O2 I2 (kk z)).o = some z ∧ (qd O1 I1 O2 I2 (kk z)).i ≠ some z := by
  rw [mem_outs (wf_all h)]
  unfold allP
  rw [get_all h.k1 h.k2 h.k3 h.k4]
  cases hm : ((sd O1 I1 (kk z)).m || (sd O2 I2 (kk z)).m) with
  | true => exact ⟨fun ⟨q, h1, h2, h3⟩ => by obtain rfl := Option.some.inj h1; exact ⟨h2, h3⟩, fun ⟨h1, h2⟩ => ⟨_, rfl, h1, h2⟩⟩
  | false =>
    obtain ⟨m1, m2⟩ := Bool.or_eq_false_iff.1 hm
    refine ⟨fun ⟨q, h1, _⟩ => (by cases h1), fun ⟨h1, _⟩ => ?_⟩
    rw [qo, m1, if_neg (by simp), (sd_m _ _ _ m2).1] at h1; cases h1
theorem mem_inns_all (h : S4 O1 I1 O2 I2) {z : Sn} : z ∈ inns (allP O1 I1 O2 I2) ↔ (qd O1 I1 O2 I2 (kk z)).i = some z ∧ (qd O1 I1 O2 I2 (kk z)).o ≠ some z := by
  rw [mem_inns (wf_all h)]
  unfold allP
  rw [get_all h.k1 h.k2 h.k3 h.k4]
  cases hm : ((sd O1 I1 (kk z)).m || (sd O2 I2 (kk z)).m) with
  | true => exact ⟨fun ⟨q, h1, h2, h3⟩ => by obtain rfl := Option.some.inj h1; exact ⟨h2, h3⟩, fun ⟨h1, h2⟩ => ⟨_, rfl, h1, h2⟩⟩
  | false =>
    obtain ⟨m1, m2⟩ := Bool.or_eq_false_iff.1 hm
    refine ⟨fun ⟨q, h1, _⟩ => (by cases h1), fun ⟨h1, _⟩ => ?_⟩
    rw [qi, m2, if_neg (by simp), (sd_m _ _ _ m1).2] at h1; cases h1
end
end Comp
end Go.Proofs.YtkhhdadlpilbmaaGreat
namespace Go.Proofs.YtkhhdadlpilbmaaGreat
open Go.RowKit
namespace Comp
open KeyP PackP SetP SetW Delta
theorem isB_iff {L : List Sn} : isB L = true ↔ Ok L := by unfold isB; rw [decide_eq_true_eq, ok_iff]
theorem rightB_iff {O I : List Sn} : rightB O I = true ↔ Ok O ∧ Ok I ∧ ∀ x ∈ O, x ∉ I := by
  unfold rightB
  rw [Bool.and_eq_true, Bool.and_eq_true, isB_iff, isB_iff, Bool.not_eq_true', List.any_eq_false]
  simp only [decide_eq_true_eq]
theorem wout_mem {M L : List Sn} {x : Sn} : x ∈ wout M L ↔ x ∈ L ∧ x ∉ M := by unfold wout; rw [List.mem_filter]; simp
theorem wout_srs {M L : List Sn} (h : Srs L) : Srs (wout M L) := h.filter _
theorem wout_ok {M L : List Sn} (h : Ok L) : Ok (wout M L) := h.filter _
theorem takeOut_eq : ∀ {O M : List Sn}, Srs O → Srs M → takeOut M O = if O.all (fun x => decide (x ∈ M)) then some (wout O M) else none
  | [], M, _, _ => by
    show some M = if true = true then some (wout [] M) else none
    rw [if_pos rfl]
    exact congrArg some (List.filter_eq_self.2 (by simp)).symm
  | x :: O, M, hO, hM => by
    obtain ⟨h1, h2⟩ := List.pairwise_cons.1 hO
    show (if x ∈ M then takeOut (SetP.out x.t x.i M) O else none) = _
    rw [List.all_cons]
    by_cases hx : x ∈ M
    · rw [if_pos hx, decide_eq_true hx, Bool.true_and, takeOut_eq h2 (out_srs hM)]
      have ha : (O.all fun y => decide (y ∈ SetP.out x.t x.i M)) = O.all fun y => decide (y ∈ M) := by
        rw [Bool.eq_iff_iff, List.all_eq_true, List.all_eq_true]
        refine ⟨fun h y hy => ?_, fun h y hy => ?_⟩
        · have := h y hy; rw [decide_eq_true_eq] at *; exact (out_mem.1 this).1
        · have := h y hy; rw [decide_eq_true_eq] at *
          exact out_mem.2 ⟨this, fun e => by have := bef_ne' (h1 y hy); rw [one_iff.2 e] at this; cases this⟩
      have hw : wout O (SetP.out x.t x.i M) = wout (x :: O) M := by
        refine srs_ext (wout_srs (out_srs hM)) (wout_srs hM) (fun y => ?_)
        rw [wout_mem, wout_mem, out_mem, List.mem_cons, not_or]
        refine ⟨fun ⟨⟨a, b⟩, c⟩ => ⟨a, fun e => b (by subst e; exact ⟨rfl, rfl⟩), c⟩, fun ⟨a, b, c⟩ => ⟨⟨a, fun e => b (srs_uni hM a hx (one_iff.2 e))⟩, c⟩⟩
      rw [ha, hw]
    · rw [if_neg hx, decide_eq_false hx, Bool.false_and, if_neg (by simp)]
theorem fnd_ins {x y : Sn} {N : List Sn} (hN : Srs N) (h : one x y = false) : (fnd y (ins x N)).isSome = (fnd y N).isSome := by
  cases h1 : fnd y (ins x N) with
  | some z =>
    obtain ⟨a, b⟩ := fnd_some h1
    rcases (ins_mem hN).1 a with rfl | ⟨c, d⟩
    · rw [h] at b; cases b
    · rw [fnd_mem hN c b]
  | none =>
    cases h2 : fnd y N with
    | none => rfl
    | some z =>
      obtain ⟨a, b⟩ := fnd_some h2
      have hz : one z x = false := by
        cases hc : one z x with
        | false => rfl
        | true => rw [one_iff] at b hc; have : one x y = true := one_iff.2 (by omega); rw [h] at this; cases this
      have := fnd_none h1 z ((ins_mem hN).2 (.inr ⟨a, hz⟩))
      rw [b] at this; cases this
theorem putIn_eq : ∀ {I N : List Sn}, Srs I → Srs N → putIn N I = if I.any (fun x => (fnd x N).isSome) then none else some (I.foldl (fun N x => ins x N) N)
  | [], N, _, _ => rfl
  | x :: I, N, hI, hN => by
    obtain ⟨h1, h2⟩ := List.pairwise_cons.1 hI
    show (if (fnd x N).isSome then none else putIn (ins x N) I) = _
    rw [List.any_cons, List.foldl_cons]
    by_cases hx : (fnd x N).isSome = true
    · rw [if_pos hx, hx, Bool.true_or, if_pos rfl]
    · rw [if_neg hx, Bool.eq_false_iff.2 hx, Bool.false_or, putIn_eq h2 (ins_srs hN)]
      have ha : (I.any fun y => (fnd y (ins x N)).isSome) = I.any fun y => (fnd y N).isSome := by
        rw [Bool.eq_iff_iff, List.any_eq_true, List.any_eq_true]
        exact ⟨fun ⟨y, hy, h⟩ => ⟨y, hy, by rwa [fnd_ins hN (bef_ne (h1 y hy))] at h⟩, fun ⟨y, hy, h⟩ => ⟨y, hy, by rwa [fnd_ins hN (bef_ne (h1 y hy))]⟩⟩
      rw [ha]
/-- The document's: what a set becomes. -/
def refA (L O I : List Sn) : List Sn × Int :=
  if isB L && rightB O I then (if (wout L O).length ≠ 0 then ([], 7) else if I.any (fun x => (fnd x (wout O L)).isSome) then ([], 8) else (I.foldl (fun N x => ins x N) (wout O L), 0)) else ([], 2)
theorem apply_ref (L O I : List Sn) : applyP L O I = refA L O I := by
  unfold applyP refA
  by_cases h : (isB L && rightB O I) = true
  · rw [if_pos h, if_pos h]
    obtain ⟨h1, h2⟩ := Bool.and_eq_true_iff.1 h
    have hL := isB_iff.1 h1
    obtain ⟨hO, hI, -⟩ := rightB_iff.1 h2
    rw [takeOut_eq hO.srs hL.srs]
    by_cases h3 : (O.all fun x => decide (x ∈ L)) = true
    · have e : wout L O = [] := by
        unfold wout
        rw [List.filter_eq_nil_iff]
        intro x hx
        have := List.all_eq_true.1 h3 x hx
        simpa using this
      rw [if_pos h3, e, if_neg (by simp)]
      show (match putIn (wout O L) I with | none => (([] : List Sn), (8 : Int)) | some N => (N, 0)) = _
      rw [putIn_eq hI.srs (wout_srs hL.srs)]
      by_cases h4 : (I.any fun x => (fnd x (wout O L)).isSome) = true
      · rw [if_pos h4, if_pos h4]
      · rw [if_neg h4, if_neg h4]
    · rw [if_neg h3]
      show (([], 7) : List Sn × Int) = _
      have e : (wout L O).length ≠ 0 := fun e => h3 (List.all_eq_true.2 (fun x hx => by
        rw [decide_eq_true_eq]
        refine Decidable.byContradiction (fun hn => ?_)
        have : x ∈ wout L O := wout_mem.2 ⟨hx, hn⟩
        rw [List.length_eq_zero_iff.1 e] at this; cases this))
      rw [if_pos e]
  · rw [if_neg h, if_neg h]
/-- Does a delta say something of a key? -/
def says (O I : List Sn) (z : Sn) : Bool := (fnd z O).isSome || (fnd z I).isSome
def addNew (O I : List Sn) (L M : List Sn) : List Sn := M.foldl (fun L z => if says O I z then L else ins z L) L
/-- The document's: what comes of two. -/
def refC (O1 I1 O2 I2 : List Sn) : (List Sn × List Sn) × Int :=
  if rightB O1 I1 && rightB O2 I2 then
    (if O2.any (fun z => says O1 I1 z && !decide (z ∈ I1)) then (([], []), 7)
     else if I2.any (fun z => match fnd z I1 with | none => false | some u => !decide (u ∈ O2)) then (([], []), 8)
     else ((wout (addNew O2 I2 I2 I1) (addNew O1 I1 O1 O2), wout (addNew O1 I1 O1 O2) (addNew O2 I2 I2 I1)), 0))
  else (([], []), 2)
/-- The program's. -/
def composeP (O1 I1 O2 I2 : List Sn) : (List Sn × List Sn) × Int :=
  if rightB O1 I1 && rightB O2 I2 then (match cmp (sidesP O1 I1) 0 (sidesP O2 I2) with
    | none => (([], []), 7)
    | some (X, e) => if e = 0 then ((outs X, inns X), 0) else (([], []), e)) else (([], []), 2)
theorem addNew_srs (O I : List Sn) : ∀ {M L : List Sn}, Srs L → Srs (addNew O I L M)
  | [], _, h => h
  | z :: M, L, h => by
    unfold addNew
    rw [List.foldl_cons]
    refine addNew_srs O I (M := M) ?_
    split
    · exact h
    · exact ins_srs h
theorem addNew_mem (O I : List Sn) {y : Sn} : ∀ {M L : List Sn}, Srs L → Srs M → (y ∈ addNew O I L M ↔ (y ∈ L ∧ ∀ z ∈ M, says O I z = false → one y z = false) ∨ (y ∈ M ∧ says O I y = false))
  | [], L, _, _ => by simp [addNew]
  | z :: M, L, hL, hM => by
    obtain ⟨h1, h2⟩ := List.pairwise_cons.1 hM
    show y ∈ addNew O I (if says O I z then L else ins z L) M ↔ _
    cases hs : says O I z with
    | true =>
      rw [if_pos rfl, addNew_mem O I hL h2]
      constructor
      · rintro (⟨a, b⟩ | ⟨a, b⟩)
        · refine .inl ⟨a, fun x hx hn => ?_⟩
          rcases List.mem_cons.1 hx with rfl | hx
          · rw [hs] at hn; cases hn
          · exact b x hx hn
        · exact .inr ⟨by simp [a], b⟩
      · rintro (⟨a, b⟩ | ⟨a, b⟩)
        · exact .inl ⟨a, fun x hx => b x (by simp [hx])⟩
        · rcases List.mem_cons.1 a with rfl | a
          · rw [hs] at b; cases b
          · exact .inr ⟨a, b⟩
    | false =>
      rw [if_neg (by simp), addNew_mem O I (ins_srs hL) h2, ins_mem hL]
      constructor
      · rintro (⟨rfl | ⟨a, a'⟩, b⟩ | ⟨a, b⟩)
        · exact .inr ⟨by simp, hs⟩
        · refine .inl ⟨a, fun x hx hn => ?_⟩
          rcases List.mem_cons.1 hx with rfl | hx
          · exact a'
          · exact b x hx hn
        · exact .inr ⟨by simp [a], b⟩
      · rintro (⟨a, b⟩ | ⟨a, b⟩)
        · exact .inl ⟨.inr ⟨a, b z (by simp) hs⟩, fun x hx => b x (by simp [hx])⟩
        · rcases List.mem_cons.1 a with rfl | a
          · exact .inl ⟨.inl rfl, fun x hx _ => bef_ne (h1 x hx)⟩
          · exact .inr ⟨a, b⟩
section
variable {O1 I1 O2 I2 : List Sn}
theorem says_sd {O I : List Sn} (hO : ∀ x ∈ O, gk x) (hI : ∀ x ∈ I, gk x) {z : Sn} (hz : gk z) : says O I z = (sd O I (kk z)).m := by
  unfold says sd; rw [fk_fnd hz hO, fk_fnd hz hI]
theorem mem_addNew {O I L M : List Sn} (hL : Srs L) (hM : Srs M) (gO : ∀ x ∈ O, gk x) (gI : ∀ x ∈ I, gk x) (gL : ∀ x ∈ L, gk x) (gM : ∀ x ∈ M, gk x) (hsub : ∀ z, says O I z = false → ∀ y ∈ L, one y z = false) {z : Sn} : z ∈ addNew O I L M ↔ fk (kk z) L = some z ∨ (fk (kk z) M = some z ∧ (sd O I (kk z)).m = false) := by
  rw [addNew_mem O I hL hM, ← fk_iff (sk_of hL gL), ← fk_iff (sk_of hM gM)]
  constructor
  · rintro (⟨a, -⟩ | ⟨a, b⟩)
    · exact .inl a
    · exact .inr ⟨a, by rw [← says_sd gO gI (gM z a)]; exact b⟩
  · rintro (a | ⟨a, b⟩)
    · exact .inl ⟨a, fun x hx hn => hsub x hn z a⟩
    · exact .inr ⟨a, by rw [says_sd gO gI (gM z a)]; exact b⟩
theorem says_l {O I : List Sn} {z : Sn} (h : says O I z = false) : ∀ y ∈ O, one y z = false := by
  unfold says at h
  rw [Bool.or_eq_false_iff] at h
  have := h.1
  intro y hy
  cases hf : fnd z O with
  | none => exact fnd_none hf y hy
  | some u => rw [hf] at this; cases this
theorem says_r {O I : List Sn} {z : Sn} (h : says O I z = false) : ∀ y ∈ I, one y z = false := by
  unfold says at h
  rw [Bool.or_eq_false_iff] at h
  have := h.2
  intro y hy
  cases hf : fnd z I with
  | none => exact fnd_none hf y hy
  | some u => rw [hf] at this; cases this
theorem out_side (h : S4 O1 I1 O2 I2) {z : Sn} : z ∈ addNew O1 I1 O1 O2 ↔ (qd O1 I1 O2 I2 (kk z)).o = some z := by
  rw [mem_addNew h.o1 h.o2 h.go1 h.gi1 h.go1 h.go2 (fun z hn => says_l hn), qo]
  cases hm : (sd O1 I1 (kk z)).m with
  | true => rw [if_pos rfl]; simp
  | false => rw [if_neg (by simp), (sd_m _ _ _ hm).1]; simp
theorem in_side (h : S4 O1 I1 O2 I2) {z : Sn} : z ∈ addNew O2 I2 I2 I1 ↔ (qd O1 I1 O2 I2 (kk z)).i = some z := by
  rw [mem_addNew h.i2 h.i1 h.go2 h.gi2 h.gi2 h.gi1 (fun z hn => says_r hn), qi]
  cases hm : (sd O2 I2 (kk z)).m with
  | true => rw [if_pos rfl]; simp
  | false => rw [if_neg (by simp), (sd_m _ _ _ hm).2]; simp
theorem outs_eq (h : S4 O1 I1 O2 I2) : outs (allP O1 I1 O2 I2) = wout (addNew O2 I2 I2 I1) (addNew O1 I1 O1 O2) :=
  srs_ext (srs_outs (wf_all h)) (wout_srs (addNew_srs _ _ h.o1)) (fun z => by rw [mem_outs_all h, wout_mem, out_side h, in_side h])
theorem inns_eq (h : S4 O1 I1 O2 I2) : inns (allP O1 I1 O2 I2) = wout (addNew O1 I1 O1 O2) (addNew O2 I2 I2 I1) :=
  srs_ext (srs_inns (wf_all h)) (wout_srs (addNew_srs _ _ h.i2)) (fun z => by rw [mem_inns_all h, wout_mem, out_side h, in_side h])
/-- Whether an error comes of a key. -/
theorem any_sides (h : S4 O1 I1 O2 I2) (p : Int → Bool) (h0 : p 0 = false) : ((sidesP O2 I2).any fun q => p (fitsP ((getL q.1 (sidesP O1 I1)).getD zd) q.2)) = true ↔ ∃ k, p (fitsP (sd O1 I1 k) (sd O2 I2 k)) = true := by
  rw [List.any_eq_true]
  constructor
  · rintro ⟨q, hq, hp⟩
    obtain ⟨a, b⟩ := (mem_sides h.k3 h.k4).1 hq
    rw [getD_sides h.k1 h.k2, b] at hp
    exact ⟨q.1, hp⟩
  · rintro ⟨k, hk⟩
    have hm : (sd O2 I2 k).m = true := by
      cases hm : (sd O2 I2 k).m with
      | true => rfl
      | false => unfold fitsP at hk; rw [hm, Bool.and_false, if_neg (by simp), h0] at hk; cases hk
    exact ⟨(k, sd O2 I2 k), (mem_sides h.k3 h.k4).2 ⟨hm, rfl⟩, by rw [getD_sides h.k1 h.k2]; exact hk⟩
theorem e7 (h : S4 O1 I1 O2 I2) : (∃ k, fitsP (sd O1 I1 k) (sd O2 I2 k) = 7) ↔ ∃ z ∈ O2, says O1 I1 z = true ∧ z ∉ I1 := by
  constructor
  · rintro ⟨k, hk⟩
    unfold fitsP at hk
    by_cases hm : ((sd O1 I1 k).m && (sd O2 I2 k).m) = true
    · rw [if_pos hm] at hk
      cases ho : (sd O2 I2 k).o with
      | none => rw [ho] at hk; dsimp only at hk; split at hk <;> cases hk
      | some v =>
        rw [ho] at hk
        dsimp only at hk
        obtain ⟨hv, rfl⟩ := fk_some ho
        refine ⟨v, hv, ?_, fun hin => ?_⟩
        · rw [says_sd h.go1 h.gi1 (h.go2 v hv)]; exact (Bool.and_eq_true_iff.1 hm).1
        · rw [if_pos (show (sd O1 I1 (kk v)).i = some v from fk_mem h.k2 hin)] at hk; cases hk
    · rw [if_neg hm] at hk; cases hk
  · rintro ⟨z, hz, hs, hn⟩
    refine ⟨kk z, ?_⟩
    have ho : (sd O2 I2 (kk z)).o = some z := fk_mem h.k3 hz
    have hm2 : (sd O2 I2 (kk z)).m = true := by show ((fk (kk z) O2).isSome || _) = true; rw [show fk (kk z) O2 = some z from ho]; rfl
    unfold fitsP
    rw [says_sd h.go1 h.gi1 (h.go2 z hz)] at hs
    rw [hs, hm2, ho, Bool.and_self, if_pos rfl]
    show (if (sd O1 I1 (kk z)).i = some z then (0 : Int) else 7) = 7
    rw [if_neg (fun e : (sd O1 I1 (kk z)).i = some z => hn ((fk_iff h.k2).2 e))]
theorem e8 (h : S4 O1 I1 O2 I2) (h7 : ¬ ∃ k, fitsP (sd O1 I1 k) (sd O2 I2 k) = 7) : (∃ k, fitsP (sd O1 I1 k) (sd O2 I2 k) ≠ 0) ↔ ∃ z ∈ I2, ∃ u, fnd z I1 = some u ∧ u ∉ O2 := by
  constructor
  · rintro ⟨k, hk⟩
    have hk7 : fitsP (sd O1 I1 k) (sd O2 I2 k) ≠ 7 := fun e => h7 ⟨k, e⟩
    unfold fitsP at hk hk7
    by_cases hm : ((sd O1 I1 k).m && (sd O2 I2 k).m) = true
    · rw [if_pos hm] at hk hk7
      cases ho : (sd O2 I2 k).o with
      | some v =>
        rw [ho] at hk hk7
        dsimp only at hk hk7
        split at hk
        · exact absurd rfl hk
        · rename_i hne; rw [if_neg hne] at hk7; exact absurd rfl hk7
      | none =>
        rw [ho] at hk
        dsimp only at hk
        cases hi : (sd O1 I1 k).i with
        | none => rw [hi] at hk; exact absurd rfl hk
        | some u =>
          obtain ⟨hu, rfl⟩ := fk_some hi
          have hm2 := (Bool.and_eq_true_iff.1 hm).2
          have : (sd O2 I2 (kk u)).i.isSome = true := by
            have h2 : ((sd O2 I2 (kk u)).o.isSome || (sd O2 I2 (kk u)).i.isSome) = true := hm2
            rw [ho] at h2; exact h2
          obtain ⟨z, hz⟩ := Option.isSome_iff_exists.1 this
          obtain ⟨hz1, hz2⟩ := fk_some hz
          refine ⟨z, hz1, u, ?_, fun hin => ?_⟩
          · rw [← fk_fnd (h.gi2 z hz1) h.gi1, hz2]; exact hi
          · have := fk_mem h.k3 hin
            rw [show fk (kk u) O2 = none from ho] at this; cases this
    · rw [if_neg hm] at hk; exact absurd rfl hk
  · rintro ⟨z, hz, u, hu, hn⟩
    refine ⟨kk z, ?_⟩
    have hi : (sd O1 I1 (kk z)).i = some u := by show fk (kk z) I1 = _; rw [fk_fnd (h.gi2 z hz) h.gi1]; exact hu
    have hm1 : (sd O1 I1 (kk z)).m = true := by show (_ || (sd O1 I1 (kk z)).i.isSome) = true; rw [hi]; simp
    have hm2 : (sd O2 I2 (kk z)).m = true := by show (_ || (fk (kk z) I2).isSome) = true; rw [fk_mem h.k4 hz]; simp
    unfold fitsP
    rw [hm1, hm2, Bool.and_self, if_pos rfl]
    cases ho : (sd O2 I2 (kk z)).o with
    | none => dsimp only; rw [hi]; show (if true = true then (8 : Int) else 0) ≠ 0; decide
    | some v =>
      dsimp only
      rw [hi, if_neg (fun e => ?_)]
      · decide
      · rw [Option.some.inj e] at hn; exact hn (fk_some ho).1
theorem compose_ref (g1 : ∀ x ∈ O1, gk x) (g2 : ∀ x ∈ I1, gk x) (g3 : ∀ x ∈ O2, gk x) (g4 : ∀ x ∈ I2, gk x) : composeP O1 I1 O2 I2 = refC O1 I1 O2 I2 := by
  unfold composeP refC
  by_cases hr : (rightB O1 I1 && rightB O2 I2) = true
  · rw [if_pos hr, if_pos hr]
    obtain ⟨r1, r2⟩ := Bool.and_eq_true_iff.1 hr
    obtain ⟨ho1, hi1, -⟩ := rightB_iff.1 r1
    obtain ⟨ho2, hi2, -⟩ := rightB_iff.1 r2
    have h : S4 O1 I1 O2 I2 := ⟨ho1.srs, hi1.srs, ho2.srs, hi2.srs, g1, g2, g3, g4⟩
    rw [cmp_eq (srt_sides _ _)]
    have a7 := any_sides h (fun n => decide (n = 7)) rfl
    have a8 := any_sides h (fun n => decide (n ≠ 0)) rfl
    simp only [decide_eq_true_eq] at a7 a8
    have r7 : (O2.any fun z => says O1 I1 z && !decide (z ∈ I1)) = true ↔ ∃ k, fitsP (sd O1 I1 k) (sd O2 I2 k) = 7 := by
      rw [e7 h, List.any_eq_true]
      constructor
      · rintro ⟨z, a, b⟩
        rw [Bool.and_eq_true, Bool.not_eq_true', decide_eq_false_iff_not] at b
        exact ⟨z, a, b⟩
      · rintro ⟨z, a, b, c⟩
        exact ⟨z, a, by rw [b, decide_eq_false c]; rfl⟩
    generalize (List.any (sidesP O2 I2) fun p => decide (fitsP ((getL p.1 (sidesP O1 I1)).getD zd) p.2 = 7)) = b1 at a7 ⊢
    generalize (O2.any fun z => says O1 I1 z && !decide (z ∈ I1)) = b2 at r7 ⊢
    by_cases h7 : ∃ k, fitsP (sd O1 I1 k) (sd O2 I2 k) = 7
    · rw [a7.2 h7, r7.2 h7]; rfl
    · have z1 : b1 = false := by cases b1; rfl; exact absurd (a7.1 rfl) h7
      have z2 : b2 = false := by cases b2; rfl; exact absurd (r7.1 rfl) h7
      rw [z1, z2]
      have r8 : (I2.any fun z => match fnd z I1 with | none => false | some u => !decide (u ∈ O2)) = true ↔ ∃ k, fitsP (sd O1 I1 k) (sd O2 I2 k) ≠ 0 := by
        rw [e8 h h7, List.any_eq_true]
        constructor
        · rintro ⟨z, a, b⟩
          cases hf : fnd z I1 with
          | none => rw [hf] at b; cases b
          | some u => rw [hf] at b; exact ⟨z, a, u, hf, by simpa using b⟩
        · rintro ⟨z, a, u, b, c⟩
          exact ⟨z, a, by rw [b]; simpa using c⟩
      generalize (List.any (sidesP O2 I2) fun p => decide (fitsP ((getL p.1 (sidesP O1 I1)).getD zd) p.2 ≠ 0)) = b3 at a8 ⊢
      generalize (I2.any fun z => match fnd z I1 with | none => false | some u => !decide (u ∈ O2)) = b4 at r8 ⊢
      by_cases h8 : ∃ k, fitsP (sd O1 I1 k) (sd O2 I2 k) ≠ 0
      · rw [a8.2 h8, r8.2 h8]; rfl
      · have z3 : b3 = false := by cases b3; rfl; exact absurd (a8.1 rfl) h8
        have z4 : b4 = false := by cases b4; rfl; exact absurd (r8.1 rfl) h8
        rw [z3, z4]
        show (if (0 : Int) = 0 then ((outs (allP O1 I1 O2 I2), inns (allP O1 I1 O2 I2)), (0 : Int)) else _) = _
        rw [if_pos rfl, outs_eq h, inns_eq h]
        rfl
  · rw [if_neg hr, if_neg hr]
end
/-! The laws. -/
theorem bet_right {A B : List Sn} (hA : Ok A) (hB : Ok B) : rightB (wout B A) (wout A B) = true := by
  rw [rightB_iff]
  exact ⟨wout_ok hA, wout_ok hB, fun x h1 h2 => (wout_mem.1 h1).2 (wout_mem.1 h2).1⟩
theorem foldl_ins_mem {y : Sn} : ∀ {I N : List Sn}, Srs N → Srs I → (y ∈ I.foldl (fun N x => ins x N) N ↔ (y ∈ N ∧ ∀ z ∈ I, one y z = false) ∨ y ∈ I)
  | [], N, _, _ => by simp
  | x :: I, N, hN, hI => by
    obtain ⟨h1, h2⟩ := List.pairwise_cons.1 hI
    rw [List.foldl_cons, foldl_ins_mem (ins_srs hN) h2, ins_mem hN]
    constructor
    · rintro (⟨rfl | ⟨a, b⟩, c⟩ | a)
      · exact .inr (by simp)
      · exact .inl ⟨a, fun z hz => by rcases List.mem_cons.1 hz with rfl | hz; exact b; exact c z hz⟩
      · exact .inr (by simp [a])
    · rintro (⟨a, b⟩ | a)
      · exact .inl ⟨.inr ⟨a, b x (by simp)⟩, fun z hz => b z (by simp [hz])⟩
      · rcases List.mem_cons.1 a with rfl | a
        · exact .inl ⟨.inl rfl, fun z hz => bef_ne (h1 z hz)⟩
        · exact .inr a
theorem foldl_ins_srs : ∀ {I N : List Sn}, Srs N → Srs (I.foldl (fun N x => ins x N) N)
  | [], _, h => h
  | x :: I, _N, h => foldl_ins_srs (I := I) (ins_srs (x := x) h)
/-- What is between two sets makes the one of the other. -/
theorem apply_bet {A B : List Sn} (hA : Ok A) (hB : Ok B) : applyP A (wout B A) (wout A B) = (B, 0) := by
  rw [apply_ref]
  unfold refA
  have e1 : wout A (wout B A) = [] := by
    unfold wout
    rw [List.filter_eq_nil_iff]
    intro x hx
    simp [(List.mem_filter.1 hx).1]
  rw [isB_iff.2 hA, bet_right hA hB, Bool.and_self, if_pos rfl, e1, if_neg (by simp), if_neg]
  · congr 1
    refine srs_ext (foldl_ins_srs (wout_srs hA.srs)) hB.srs (fun y => ?_)
    rw [foldl_ins_mem (wout_srs hA.srs) (wout_srs hB.srs), wout_mem, wout_mem, wout_mem]
    constructor
    · rintro (⟨⟨a, b⟩, -⟩ | ⟨a, -⟩)
      · exact Decidable.byContradiction (fun hn => b ⟨a, hn⟩)
      · exact a
    · intro hy
      by_cases ha : y ∈ A
      · refine .inl ⟨⟨ha, fun e => e.2 hy⟩, fun z hz => ?_⟩
        cases ho : one y z with
        | false => rfl
        | true =>
          obtain ⟨h1, h2⟩ := wout_mem.1 hz
          rw [srs_uni hB.srs hy h1 ho] at ha; exact absurd ha h2
      · exact .inr ⟨hy, ha⟩
  · intro e
    obtain ⟨x, hx, h⟩ := List.any_eq_true.1 e
    obtain ⟨u, hu⟩ := Option.isSome_iff_exists.1 h
    obtain ⟨h1, h2⟩ := fnd_some hu
    obtain ⟨h3, h4⟩ := wout_mem.1 h1
    obtain ⟨h5, h6⟩ := wout_mem.1 hx
    have hub : u ∈ B := Decidable.byContradiction (fun hn => h4 (wout_mem.2 ⟨h3, hn⟩))
    rw [srs_uni hB.srs hub h5 h2] at h3
    exact h6 h3
theorem wout_self (A : List Sn) : wout A A = [] := by
  unfold wout
  rw [List.filter_eq_nil_iff]
  intro x hx
  simp [hx]
/-- One behind the other, of three sets. -/
theorem fk_wout {A B : List Sn} (hA : Sk A) (hB : Sk B) (k : ByteArray) : fk k (wout B A) = if fk k A = fk k B then none else fk k A := by
  cases h : fk k A with
  | none =>
    have : fk k (wout B A) = none := by
      cases h2 : fk k (wout B A) with
      | none => rfl
      | some x =>
        obtain ⟨a, rfl⟩ := fk_some h2
        rw [fk_mem hA (wout_mem.1 a).1] at h; cases h
    rw [this]; split <;> rfl
  | some x =>
    obtain ⟨hx, rfl⟩ := fk_some h
    by_cases hb : x ∈ B
    · rw [fk_mem hB hb, if_pos rfl]
      cases h2 : fk (kk x) (wout B A) with
      | none => rfl
      | some y =>
        obtain ⟨a, e⟩ := fk_some h2
        have := fk_mem hA (wout_mem.1 a).1
        rw [e, h] at this
        rw [Option.some.inj this] at hb; exact absurd hb (wout_mem.1 a).2
    · rw [if_neg (fun e => hb ((fk_iff hB).2 e.symm))]
      exact fk_mem (hA.filter _) (wout_mem.2 ⟨hx, hb⟩)
theorem opt_o (a b c : Option Sn) : (if ((if a = b then none else a).isSome || (if b = a then none else b).isSome) = true then (if a = b then none else a) else (if b = c then none else b)) = if a = b ∧ b = c then none else a := by
  by_cases e1 : a = b
  · subst e1
    by_cases e2 : a = c
    · subst e2; simp
    · simp [e2]
  · have e1' : ¬ b = a := fun h => e1 h.symm
    rw [if_neg e1, if_neg e1', if_neg (fun h : a = b ∧ b = c => e1 h.1)]
    cases a with
    | some x => simp
    | none => cases b with
      | none => exact absurd rfl e1
      | some y => simp
theorem opt_i (a b c : Option Sn) : (if ((if b = c then none else b).isSome || (if c = b then none else c).isSome) = true then (if c = b then none else c) else (if b = a then none else b)) = if a = b ∧ b = c then none else c := by
  by_cases e2 : b = c
  · subst e2
    by_cases e1 : a = b
    · subst e1; simp
    · have e1' : ¬ b = a := fun h => e1 h.symm
      simp [e1, e1']
  · have e2' : ¬ c = b := fun h => e2 h.symm
    rw [if_neg e2, if_neg e2', if_neg (fun h : a = b ∧ b = c => e2 h.2)]
    cases c with
    | some x => simp
    | none => cases b with
      | none => exact absurd rfl e2
      | some y => simp
theorem compose_bet {A B C : List Sn} (hA : Ok A) (hB : Ok B) (hC : Ok C) (gA : ∀ x ∈ A, gk x) (gB : ∀ x ∈ B, gk x) (gC : ∀ x ∈ C, gk x) :
    composeP (wout B A) (wout A B) (wout C B) (wout B C) = ((wout C A, wout A C), 0) := by
  have sA := sk_of hA.srs gA; have sB := sk_of hB.srs gB; have sC := sk_of hC.srs gC
  have h : S4 (wout B A) (wout A B) (wout C B) (wout B C) := ⟨hA.srs.filter _, hB.srs.filter _, hB.srs.filter _, hC.srs.filter _, fun x hx => gA x (wout_mem.1 hx).1, fun x hx => gB x (wout_mem.1 hx).1, fun x hx => gB x (wout_mem.1 hx).1, fun x hx => gC x (wout_mem.1 hx).1⟩
  have f0 : ∀ k, fitsP (sd (wout B A) (wout A B) k) (sd (wout C B) (wout B C) k) = 0 := fun k => by
    unfold fitsP sd
    rw [fk_wout sA sB, fk_wout sB sA, fk_wout sB sC, fk_wout sC sB]
    cases ha : fk k A with
    | none => cases hb : fk k B with
      | none => simp
      | some b => cases hc : fk k C with
        | none => simp
        | some c => by_cases e : b = c <;> simp [e]
    | some a => cases hb : fk k B with
      | none => cases hc : fk k C <;> simp
      | some b => cases hc : fk k C with
        | none => by_cases e : a = b <;> simp [e, eq_comm]
        | some c => by_cases e : b = c <;> by_cases e2 : a = b <;> simp [e, e2, eq_comm]
  unfold composeP
  rw [bet_right hA hB, bet_right hB hC, Bool.and_self, if_pos rfl, cmp_eq (srt_sides _ _)]
  have a7 := any_sides h (fun n => decide (n = 7)) rfl
  have a8 := any_sides h (fun n => decide (n ≠ 0)) rfl
  simp only [decide_eq_true_eq] at a7 a8
  rw [if_neg (fun e => by obtain ⟨k, hk⟩ := a7.1 e; rw [f0 k] at hk; cases hk), if_neg (fun e => by obtain ⟨k, hk⟩ := a8.1 e; exact hk (f0 k))]
  show (if (0 : Int) = 0 then ((outs (allP (wout B A) (wout A B) (wout C B) (wout B C)), inns (allP (wout B A) (wout A B) (wout C B) (wout B C))), (0 : Int)) else _) = _
  rw [if_pos rfl]
  have ho : ∀ k, (qd (wout B A) (wout A B) (wout C B) (wout B C) k).o = if fk k A = fk k B ∧ fk k B = fk k C then none else fk k A := fun k => by
    rw [qo]; unfold sd; rw [fk_wout sA sB, fk_wout sB sA, fk_wout sB sC]
    exact opt_o (fk k A) (fk k B) (fk k C)
  have hi : ∀ k, (qd (wout B A) (wout A B) (wout C B) (wout B C) k).i = if fk k A = fk k B ∧ fk k B = fk k C then none else fk k C := fun k => by
    rw [qi]; unfold sd; rw [fk_wout sB sA, fk_wout sB sC, fk_wout sC sB]
    exact opt_i (fk k A) (fk k B) (fk k C)
  have key : ∀ z : Sn, ¬ (fk (kk z) A = some z ∧ fk (kk z) C ≠ some z ∧ fk (kk z) A = fk (kk z) B ∧ fk (kk z) B = fk (kk z) C) := fun z ⟨a, b, c, d⟩ => b (by rw [← d, ← c]; exact a)
  congr 2
  · refine srs_ext (srs_outs (wf_all h)) (wout_srs hA.srs) (fun z => ?_)
    rw [mem_outs_all h, ho, hi, wout_mem, fk_iff sA, fk_iff sC]
    by_cases e : fk (kk z) A = fk (kk z) B ∧ fk (kk z) B = fk (kk z) C
    · rw [if_pos e, if_pos e, e.1, e.2]; simp
    · rw [if_neg e, if_neg e]
  · refine srs_ext (srs_inns (wf_all h)) (wout_srs hC.srs) (fun z => ?_)
    rw [mem_inns_all h, ho, hi, wout_mem, fk_iff sA, fk_iff sC]
    by_cases e : fk (kk z) A = fk (kk z) B ∧ fk (kk z) B = fk (kk z) C
    · rw [if_pos e, if_pos e, e.1, e.2]; simp
    · rw [if_neg e, if_neg e]
end Comp
end Go.Proofs.YtkhhdadlpilbmaaGreat
