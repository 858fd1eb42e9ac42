/- Trees in order, plain: what the methods of the map's nodes make of a tree; no program is named. -/
import Derived.Test.YtmcghchhegfilaaWorld
import Derived.Lib.Strings
import Derived.RangeFuncNested
import Derived.RangeFuncBound
namespace Go.Proofs.Ytmcghchhegfilaa
open Go.RowKit

/-- Keys in order. -/
class Ord (κ : Type) where
  lt : κ → κ → Bool
  irr : ∀ a, lt a a = false
  tr : ∀ a b c, lt a b = true → lt b c = true → lt a c = true
  tri : ∀ a b, lt a b = false → lt b a = false → a = b

theorem Ord.asymm {κ : Type} [Ord κ] {a b : κ} (h : Ord.lt a b = true) : Ord.lt b a = false := by
  cases hb : Ord.lt b a with
  | false => rfl
  | true => have := Ord.tr _ _ _ h hb; rw [Ord.irr] at this; cases this

/-- A tree, with the blocks of its nodes. -/
inductive AT (κ ν : Type) where
  | nil
  | node (b : Nat) (k : κ) (v : ν) (l r : AT κ ν) (d : Int)

namespace AT
variable {κ ν : Type}
def adr : AT κ ν → Option Addr
  | nil => none
  | node b _ _ _ _ _ => some ⟨b, 0, none⟩
def dep : AT κ ν → Int
  | nil => 0
  | node _ _ _ _ _ d => d
def fp : AT κ ν → List Nat
  | nil => []
  | node b _ _ l r _ => b :: (l.fp ++ r.fp)
def toL : AT κ ν → List (κ × ν)
  | nil => []
  | node _ k v l r _ => l.toL ++ (k, v) :: r.toL
def size : AT κ ν → Nat
  | nil => 0
  | node _ _ _ l r _ => l.size + r.size + 1
def lean : AT κ ν → Int
  | nil => 0
  | node _ _ _ l r _ => r.dep - l.dep
/-- Each node's depth is measured. -/
def wd : AT κ ν → Prop
  | nil => True
  | node _ _ _ l r d => l.wd ∧ r.wd ∧ d = 1 + max l.dep r.dep
/-- The halves are at most one apart. -/
def bal : AT κ ν → Prop
  | nil => True
  | node _ _ _ l r _ => l.bal ∧ r.bal ∧ r.dep - l.dep ≤ 1 ∧ l.dep - r.dep ≤ 1
theorem adr_nil : (nil : AT κ ν).adr = none := rfl
theorem adr_node (b : Nat) (k : κ) (v : ν) (l r : AT κ ν) (d : Int) : (node b k v l r d).adr = some ⟨b, 0, none⟩ := rfl
theorem dep_nil : (nil : AT κ ν).dep = 0 := rfl
theorem dep_node (b : Nat) (k : κ) (v : ν) (l r : AT κ ν) (d : Int) : (node b k v l r d).dep = d := rfl
theorem lean_node (b : Nat) (k : κ) (v : ν) (l r : AT κ ν) (d : Int) : (node b k v l r d).lean = r.dep - l.dep := rfl
/-- The tree lies in the heap; blk: a node's cells. -/
def In (blk : κ → ν → Option Addr → Option Addr → Int → Array Value) (T : TypeId) (w : World) : AT κ ν → Prop
  | nil => True
  | node b k v l r d => w.heap[b]? = some (.cells (blk k v l.adr r.adr d) T (0, 0)) ∧ l.In blk T w ∧ r.In blk T w

theorem In.fr {blk : κ → ν → Option Addr → Option Addr → Int → Array Value} {T : TypeId} {S : Nat → Prop} {w w' : World} : ∀ {t : AT κ ν}, t.In blk T w → Fr S w w' → (∀ b ∈ t.fp, ¬ S b) → t.In blk T w'
  | nil, _, _, _ => trivial
  | node b k v l r d, ⟨h1, h2, h3⟩, hf, hs => ⟨(hf.block b (lt_of_heap h1) (hs b (by simp [fp]))).trans h1, h2.fr hf (fun x hx => hs x (by simp [fp, hx])), h3.fr hf (fun x hx => hs x (by simp [fp, hx]))⟩
theorem In.lt {blk : κ → ν → Option Addr → Option Addr → Int → Array Value} {T : TypeId} {w : World} : ∀ {t : AT κ ν}, t.In blk T w → ∀ b ∈ t.fp, b < w.heap.size
  | nil, _, _, h => by simp [fp] at h
  | node b k v l r d, ⟨h1, h2, h3⟩, x, hx => by
    simp only [fp, List.mem_cons, List.mem_append] at hx
    rcases hx with rfl | hx | hx
    · exact lt_of_heap h1
    · exact h2.lt x hx
    · exact h3.lt x hx

theorem nodup_node {b : Nat} {k : κ} {v : ν} {l r : AT κ ν} {d : Int} : (node b k v l r d).fp.Nodup ↔ b ∉ l.fp ∧ b ∉ r.fp ∧ l.fp.Nodup ∧ r.fp.Nodup ∧ ∀ x ∈ l.fp, ∀ y ∈ r.fp, x ≠ y := by
  rw [fp, List.nodup_cons, List.mem_append, not_or, List.nodup_append, and_assoc]
theorem mem_node {b : Nat} {k : κ} {v : ν} {l r : AT κ ν} {d : Int} {x : Nat} : x ∈ (node b k v l r d).fp ↔ x = b ∨ x ∈ l.fp ∨ x ∈ r.fp := by
  rw [fp, List.mem_cons, List.mem_append]
theorem fp_length : ∀ t : AT κ ν, t.fp.length = t.size
  | nil => rfl
  | node _ _ _ l r _ => by simp [fp, size, fp_length l, fp_length r]
theorem toL_length : ∀ t : AT κ ν, t.toL.length = t.size
  | nil => rfl
  | node _ _ _ l r _ => by simp [toL, size, toL_length l, toL_length r]; omega
theorem wd.dep0 : ∀ {t : AT κ ν}, t.wd → 0 ≤ t.dep
  | nil, _ => by simp [dep]
  | node _ _ _ l r d, ⟨h1, h2, h3⟩ => by have := h1.dep0; have := h2.dep0; simp only [dep]; omega
theorem wd.dep_pos {b : Nat} {k : κ} {v : ν} {l r : AT κ ν} {d : Int} (h : (node b k v l r d).wd) : 1 ≤ d := by
  have := h.1.dep0; have := h.2.2; omega
theorem wd.dep_le : ∀ {t : AT κ ν}, t.wd → t.dep ≤ t.size
  | nil, _ => by simp [dep, size]
  | node _ _ _ l r d, ⟨h1, h2, h3⟩ => by have := h1.dep_le; have := h2.dep_le; simp only [dep, size]; omega

def mk (b : Nat) (k : κ) (v : ν) (l r : AT κ ν) : AT κ ν := node b k v l r (1 + max l.dep r.dep)
def turnLow : AT κ ν → AT κ ν
  | node b k v l (node b' k' v' l' r' _) _ => mk b' k' v' (mk b k v l l') r'
  | t => t
def turnHigh : AT κ ν → AT κ ν
  | node b k v (node b' k' v' l' r' _) r _ => mk b' k' v' l' (mk b k v r' r)
  | t => t
theorem turnLow_node (b : Nat) (k : κ) (v : ν) (l : AT κ ν) (b' : Nat) (k' : κ) (v' : ν) (l' r' : AT κ ν) (d' d : Int) : turnLow (node b k v l (node b' k' v' l' r' d') d) = mk b' k' v' (mk b k v l l') r' := rfl
theorem turnHigh_node (b : Nat) (k : κ) (v : ν) (b' : Nat) (k' : κ) (v' : ν) (l' r' : AT κ ν) (d' : Int) (r : AT κ ν) (d : Int) : turnHigh (node b k v (node b' k' v' l' r' d') r d) = mk b' k' v' l' (mk b k v r' r) := rfl
def level (b : Nat) (k : κ) (v : ν) (l r : AT κ ν) : AT κ ν :=
  if r.dep - l.dep = 2 then turnLow (mk b k v l (if r.lean < 0 then turnHigh r else r))
  else if r.dep - l.dep = -2 then turnHigh (mk b k v (if 0 < l.lean then turnLow l else l) r)
  else mk b k v l r
/-- The tree with a key, and whether it is a new one; n: the block of a new node. -/
def put [Ord κ] (n : Nat) (k : κ) (v : ν) : AT κ ν → AT κ ν × Bool
  | nil => (node n k v nil nil 1, true)
  | node b k' v' l r _d =>
    if Ord.lt k k' then (level b k' v' (put n k v l).1 r, (put n k v l).2)
    else if Ord.lt k' k then (level b k' v' l (put n k v r).1, (put n k v r).2)
    else (level b k' v l r, false)
/-- The tree without its least key. -/
def rest : AT κ ν → AT κ ν
  | nil => nil
  | node _ _ _ nil r _ => r
  | node b k v (node b' k' v' l' r' d') r _ => level b k v (rest (node b' k' v' l' r' d')) r
/-- The node of the least key. -/
def first : AT κ ν → Option (Nat × κ × ν)
  | nil => none
  | node b k v nil _ _ => some (b, k, v)
  | node _ _ _ (node b' k' v' l' r' d') _ _ => first (node b' k' v' l' r' d')
/-- The tree without a key, and whether it was there. -/
def drop [Ord κ] (k : κ) : AT κ ν → AT κ ν × Bool
  | nil => (nil, false)
  | node b k' v' l r _d =>
    if Ord.lt k k' then (level b k' v' (drop k l).1 r, (drop k l).2)
    else if Ord.lt k' k then (level b k' v' l (drop k r).1, (drop k r).2)
    else match r.first with
      | none => (l, true)
      | some (b2, k2, v2) => (level b2 k2 v2 l r.rest, true)

@[simp] theorem toL_mk (b : Nat) (k : κ) (v : ν) (l r : AT κ ν) : (mk b k v l r).toL = l.toL ++ (k, v) :: r.toL := rfl
@[simp] theorem dep_mk (b : Nat) (k : κ) (v : ν) (l r : AT κ ν) : (mk b k v l r).dep = 1 + max l.dep r.dep := rfl
theorem wd_mk {b : Nat} {k : κ} {v : ν} {l r : AT κ ν} (hl : l.wd) (hr : r.wd) : (mk b k v l r).wd := ⟨hl, hr, rfl⟩
theorem toL_turnLow (t : AT κ ν) : (turnLow t).toL = t.toL := by unfold turnLow; split <;> simp [toL]
theorem toL_turnHigh (t : AT κ ν) : (turnHigh t).toL = t.toL := by unfold turnHigh; split <;> simp [toL]
theorem toL_level (b : Nat) (k : κ) (v : ν) (l r : AT κ ν) : (level b k v l r).toL = l.toL ++ (k, v) :: r.toL := by
  unfold level
  split
  · rw [toL_turnLow]; split <;> simp [toL_turnHigh]
  · split
    · rw [toL_turnHigh]; split <;> simp [toL_turnLow]
    · simp
theorem wd.turnLow {t : AT κ ν} (h : t.wd) : (AT.turnLow t).wd := by
  unfold AT.turnLow; split
  · exact wd_mk (wd_mk h.1 h.2.1.1) h.2.1.2.1
  · exact h
theorem wd.turnHigh {t : AT κ ν} (h : t.wd) : (AT.turnHigh t).wd := by
  unfold AT.turnHigh; split
  · exact wd_mk h.1.1 (wd_mk h.1.2.1 h.2.1)
  · exact h
theorem wd_level {b : Nat} {k : κ} {v : ν} {l r : AT κ ν} (hl : l.wd) (hr : r.wd) : (level b k v l r).wd := by
  unfold level
  split
  · refine (wd_mk hl ?_).turnLow; split; exact hr.turnHigh; exact hr
  · split
    · refine (wd_mk ?_ hr).turnHigh; split; exact hl.turnLow; exact hl
    · exact wd_mk hl hr
theorem perm_turnLow (t : AT κ ν) : (turnLow t).fp.Perm t.fp := by
  unfold turnLow; split
  · rename_i b k v l b' k' v' l' r' d' d
    simp only [fp, mk]
    refine (List.Perm.swap _ _ _).trans (List.Perm.cons _ ?_)
    exact (List.perm_middle (a := b') (l₁ := l.fp) (l₂ := l'.fp ++ r'.fp)).symm.trans (by simp) |>.symm.symm |> fun h => by simpa using h
  · exact List.Perm.refl _
end AT
end Go.Proofs.Ytmcghchhegfilaa
namespace Go.Proofs.Ytmcghchhegfilaa
open Go.RowKit
namespace AT
variable {κ ν : Type}

theorem perm_turnHigh (t : AT κ ν) : (turnHigh t).fp.Perm t.fp := by
  unfold turnHigh; split
  · rename_i b k v b' k' v' l' r' d' r d
    simp only [fp, mk]
    have h : (b' :: (l'.fp ++ b :: (r'.fp ++ r.fp))).Perm (b' :: b :: (l'.fp ++ (r'.fp ++ r.fp))) := List.Perm.cons _ List.perm_middle
    refine h.trans ?_
    simpa using List.Perm.swap b b' (l'.fp ++ (r'.fp ++ r.fp))
  · exact List.Perm.refl _
theorem perm_level (b : Nat) (k : κ) (v : ν) (l r : AT κ ν) : (level b k v l r).fp.Perm (b :: (l.fp ++ r.fp)) := by
  unfold level
  split
  · refine (perm_turnLow _).trans ?_
    simp only [mk, fp]
    refine List.Perm.cons _ (List.Perm.append_left _ ?_)
    split
    · exact perm_turnHigh _
    · exact List.Perm.refl _
  · split
    · refine (perm_turnHigh _).trans ?_
      simp only [mk, fp]
      refine List.Perm.cons _ (List.Perm.append_right _ ?_)
      split
      · exact perm_turnLow _
      · exact List.Perm.refl _
    · exact List.Perm.refl _
theorem perm_put [Ord κ] (n : Nat) (k : κ) (v : ν) : ∀ t : AT κ ν, (put n k v t).1.fp.Perm (if (put n k v t).2 then n :: t.fp else t.fp)
  | nil => by simp [put, fp]
  | node b k' v' l r d => by
    have hl := perm_put n k v l
    have hr := perm_put n k v r
    unfold put
    by_cases h1 : Ord.lt k k' = true
    · simp only [h1, if_true]
      refine (perm_level _ _ _ _ _).trans ?_
      refine (List.Perm.cons _ (List.Perm.append_right _ hl)).trans ?_
      cases (put n k v l).2 with
      | true => simp only [if_true, fp, List.cons_append]; exact List.Perm.swap _ _ _
      | false => simp only [fp]; exact List.Perm.refl _
    · by_cases h2 : Ord.lt k' k = true
      · simp only [h1, h2, if_true]
        refine (perm_level _ _ _ _ _).trans ?_
        refine (List.Perm.cons _ (List.Perm.append_left _ hr)).trans ?_
        cases (put n k v r).2 with
        | true => simp only [if_true, fp]; refine (List.Perm.cons _ List.perm_middle).trans (List.Perm.swap _ _ _)
        | false => simp only [fp]; exact List.Perm.refl _
      · simp only [h1, h2]
        exact perm_level _ _ _ _ _
theorem wd_put [Ord κ] (n : Nat) (k : κ) (v : ν) : ∀ {t : AT κ ν}, t.wd → (put n k v t).1.wd
  | nil, _ => by simp [put, wd, dep]
  | node b k' v' l r d, h => by
    have hl := wd_put n k v h.1
    have hr := wd_put n k v h.2.1
    unfold put
    split
    · exact wd_level hl h.2.1
    · split
      · exact wd_level h.1 hr
      · exact wd_level h.1 h.2.1
theorem wd_rest : ∀ {t : AT κ ν}, t.wd → t.rest.wd
  | nil, _ => by simp [rest, wd]
  | node _ _ _ nil r _, h => by simp only [rest]; exact h.2.1
  | node b k v (node b' k' v' l' r' d') r _, h => by
    simp only [rest]
    exact wd_level (wd_rest h.1) h.2.1
theorem first_node : ∀ (b : Nat) (k : κ) (v : ν) (l r : AT κ ν) (d : Int), ∃ x, (node b k v l r d).first = some x
  | b, k, v, nil, _, _ => ⟨_, rfl⟩
  | _, _, _, node b' k' v' l' r' d', _, _ => by simp only [first]; exact first_node b' k' v' l' r' d'
theorem first_none {t : AT κ ν} (h : t.first = none) : t = nil := by
  cases t with
  | nil => rfl
  | node b k v l r d => obtain ⟨x, hx⟩ := first_node b k v l r d; rw [hx] at h; cases h
theorem perm_rest : ∀ {t : AT κ ν} {b : Nat} {k : κ} {v : ν}, t.first = some (b, k, v) → (b :: t.rest.fp).Perm t.fp
  | nil, _, _, _, h => by simp [first] at h
  | node _ _ _ nil r _, _, _, _, h => by simp only [first, Option.some.injEq, Prod.mk.injEq] at h; obtain ⟨rfl, rfl, rfl⟩ := h; simp [rest, fp]
  | node b k v (node b' k' v' l' r' d') r _, b2, _, _, h => by
    simp only [first] at h
    simp only [rest]
    have ih := perm_rest h
    refine (List.Perm.cons _ (perm_level _ _ _ _ _)).trans ?_
    refine (List.Perm.swap _ _ _).trans ?_
    rw [fp]
    refine List.Perm.cons _ ?_
    rw [← List.cons_append]
    exact List.Perm.append_right _ ih
theorem toL_rest : ∀ {t : AT κ ν} {b : Nat} {k : κ} {v : ν}, t.first = some (b, k, v) → t.toL = (k, v) :: t.rest.toL
  | nil, _, _, _, h => by simp [first] at h
  | node _ _ _ nil r _, _, _, _, h => by simp only [first, Option.some.injEq, Prod.mk.injEq] at h; obtain ⟨rfl, rfl, rfl⟩ := h; simp [rest, toL]
  | node b k v (node b' k' v' l' r' d') r _, b2, _, _, h => by
    simp only [first] at h
    simp only [rest]
    have ih := toL_rest h
    rw [toL_level, toL, ih]; simp
theorem wd_drop [Ord κ] (k : κ) : ∀ {t : AT κ ν}, t.wd → (drop k t).1.wd
  | nil, _ => by simp [drop, wd]
  | node b k' v' l r d, h => by
    have hl := wd_drop k h.1
    have hr := wd_drop k h.2.1
    unfold drop
    split
    · exact wd_level hl h.2.1
    · split
      · exact wd_level h.1 hr
      · split
        · exact h.1
        · exact wd_level h.1 (wd_rest h.2.1)
/-- What is dropped leaves the rest of the blocks. -/
theorem sub_drop [Ord κ] (k : κ) : ∀ {t : AT κ ν}, t.fp.Nodup → (drop k t).1.fp.Nodup ∧ ∀ x ∈ (drop k t).1.fp, x ∈ t.fp
  | nil, _ => by simp [drop, fp]
  | node b k' v' l r d, h => by
    simp only [fp, List.nodup_cons, List.nodup_append, List.mem_append, not_or] at h
    obtain ⟨⟨hb1, hb2⟩, hl, hr, hd⟩ := h
    have il := sub_drop k hl
    have ir := sub_drop k hr
    unfold drop
    by_cases h1 : Ord.lt k k' = true
    · simp only [h1, if_true]
      have hp := perm_level b k' v' (drop k l).1 r
      refine ⟨hp.nodup_iff.2 ?_, fun x hx => ?_⟩
      · simp only [List.nodup_cons, List.nodup_append, List.mem_append, not_or]
        exact ⟨⟨fun x => hb1 (il.2 _ x), hb2⟩, il.1, hr, fun a ha c hc => hd a (il.2 a ha) c hc⟩
      · have := hp.mem_iff.1 hx
        simp only [fp, List.mem_cons, List.mem_append] at this ⊢
        rcases this with rfl | h | h
        · exact .inl rfl
        · exact .inr (.inl (il.2 x h))
        · exact .inr (.inr h)
    · by_cases h2 : Ord.lt k' k = true
      · simp only [h1, h2, if_true]
        have hp := perm_level b k' v' l (drop k r).1
        refine ⟨hp.nodup_iff.2 ?_, fun x hx => ?_⟩
        · simp only [List.nodup_cons, List.nodup_append, List.mem_append, not_or]
          exact ⟨⟨hb1, fun x => hb2 (ir.2 _ x)⟩, hl, ir.1, fun a ha c hc => hd a ha c (ir.2 c hc)⟩
        · have := hp.mem_iff.1 hx
          simp only [fp, List.mem_cons, List.mem_append] at this ⊢
          rcases this with rfl | h | h
          · exact .inl rfl
          · exact .inr (.inl h)
          · exact .inr (.inr (ir.2 x h))
      · simp only [h1, h2]
        cases hf : r.first with
        | none => exact ⟨hl, fun x hx => by simp only [fp, List.mem_cons, List.mem_append]; exact .inr (.inl hx)⟩
        | some p =>
          obtain ⟨b2, k2, v2⟩ := p
          have hp := perm_level b2 k2 v2 l r.rest
          have hq := perm_rest hf
          have hmem : ∀ x, x ∈ b2 :: r.rest.fp ↔ x ∈ r.fp := fun x => hq.mem_iff
          have hnr := hq.nodup_iff.2 hr
          simp only [List.nodup_cons] at hnr
          refine ⟨hp.nodup_iff.2 ?_, fun x hx => ?_⟩
          · simp only [List.nodup_cons, List.nodup_append, List.mem_append, not_or]
            exact ⟨⟨fun x => hd b2 x b2 ((hmem b2).1 (by simp)) rfl, hnr.1⟩, hl, hnr.2, fun a ha c hc => hd a ha c ((hmem c).1 (by simp [hc]))⟩
          · have := hp.mem_iff.1 hx
            simp only [fp, List.mem_cons, List.mem_append] at this ⊢
            rcases this with h | h | h
            · exact .inr (.inr ((hmem x).1 (by simp [h])))
            · exact .inr (.inl h)
            · exact .inr (.inr ((hmem x).1 (by simp [h])))
theorem size_level (b : Nat) (k : κ) (v : ν) (l r : AT κ ν) : (level b k v l r).size = l.size + r.size + 1 := by
  have := (perm_level b k v l r).length_eq
  rw [fp_length, List.length_cons, List.length_append, fp_length, fp_length] at this
  exact this
theorem size_rest {t : AT κ ν} {b : Nat} {k : κ} {v : ν} (h : t.first = some (b, k, v)) : t.rest.size + 1 = t.size := by
  have := (perm_rest h).length_eq
  rw [List.length_cons, fp_length, fp_length] at this
  exact this
theorem size_drop [Ord κ] (k : κ) : ∀ t : AT κ ν, (drop k t).1.size ≤ t.size
  | nil => by simp [drop]
  | node b k' v' l r d => by
    have hl := size_drop k l
    have hr := size_drop k r
    unfold drop
    split
    · dsimp only; rw [size_level, size]; omega
    · split
      · dsimp only; rw [size_level, size]; omega
      · split
        · dsimp only; rw [size]; omega
        · rename_i hf; have := size_rest hf; dsimp only; rw [size_level, size]; omega
end AT

section lists
variable {κ ν : Type} [Ord κ]
/-- Rising keys. -/
def Srt (l : List (κ × ν)) : Prop := l.Pairwise (fun a b => Ord.lt a.1 b.1 = true)
def insL (k : κ) (v : ν) : List (κ × ν) → List (κ × ν)
  | [] => [(k, v)]
  | (k', v') :: t => if Ord.lt k k' then (k, v) :: (k', v') :: t else if Ord.lt k' k then (k', v') :: insL k v t else (k', v) :: t
def sameK (k k' : κ) : Bool := !Ord.lt k k' && !Ord.lt k' k
def delL (k : κ) (l : List (κ × ν)) : List (κ × ν) := l.filter (fun p => !sameK k p.1)
def hasL (k : κ) (l : List (κ × ν)) : Bool := l.any (fun p => sameK k p.1)
theorem sameK_iff {k k' : κ} : sameK k k' = true ↔ k = k' := by
  unfold sameK
  constructor
  · intro h; simp only [Bool.and_eq_true, Bool.not_eq_true'] at h; exact Ord.tri _ _ h.1 h.2
  · rintro rfl; simp [Ord.irr]
theorem insL_low {k k' : κ} (v v' : ν) (h : Ord.lt k k' = true) (B : List (κ × ν)) : ∀ A : List (κ × ν), insL k v (A ++ (k', v') :: B) = insL k v A ++ (k', v') :: B
  | [] => by simp [insL, h]
  | (a, x) :: A => by
    simp only [List.cons_append, insL]
    split
    · simp
    · split
      · rw [insL_low v v' h B A]; simp
      · simp
theorem insL_skip {k : κ} (v : ν) (B : List (κ × ν)) : ∀ A : List (κ × ν), (∀ p ∈ A, Ord.lt p.1 k = true) → insL k v (A ++ B) = A ++ insL k v B
  | [], _ => rfl
  | (a, x) :: A, h => by
    have h1 := h (a, x) (by simp)
    simp only [List.cons_append, insL]
    rw [if_neg (by rw [Ord.asymm h1]; simp), if_pos h1, insL_skip v B A (fun p hp => h p (by simp [hp]))]
theorem Srt.left {A B : List (κ × ν)} (h : Srt (A ++ B)) : Srt A := (List.pairwise_append.1 h).1
theorem Srt.right {A B : List (κ × ν)} (h : Srt (A ++ B)) : Srt B := (List.pairwise_append.1 h).2.1
theorem Srt.tail {p : κ × ν} {B : List (κ × ν)} (h : Srt (p :: B)) : Srt B := (List.pairwise_cons.1 h).2
theorem Srt.mid {A B : List (κ × ν)} {k : κ} {v : ν} (h : Srt (A ++ (k, v) :: B)) : (∀ p ∈ A, Ord.lt p.1 k = true) ∧ (∀ p ∈ B, Ord.lt k p.1 = true) :=
  ⟨fun p hp => (List.pairwise_append.1 h).2.2 p hp (k, v) (by simp), fun p hp => (List.pairwise_cons.1 h.right).1 p hp⟩
theorem AT.toL_put (n : Nat) (k : κ) (v : ν) : ∀ {t : AT κ ν}, Srt t.toL → (AT.put n k v t).1.toL = insL k v t.toL ∧ (AT.put n k v t).2 = !hasL k t.toL
  | .nil, _ => by simp [AT.put, AT.toL, insL, hasL]
  | .node b k' v' l r d, h => by
    have hm := Srt.mid (by simpa [AT.toL] using h)
    have hl := AT.toL_put n k v (Srt.left (by simpa [AT.toL] using h : Srt (l.toL ++ (k', v') :: r.toL)))
    have hr := AT.toL_put n k v (Srt.right (by simpa [AT.toL] using h : Srt (l.toL ++ (k', v') :: r.toL))).tail
    unfold AT.put
    by_cases h1 : Ord.lt k k' = true
    · simp only [h1, if_true, AT.toL_level, hl.1, AT.toL]
      refine ⟨(insL_low v v' h1 _ _).symm, ?_⟩
      rw [hl.2]
      simp only [hasL, List.any_append, List.any_cons]
      have e1 : sameK k k' = false := by simp [sameK, h1]
      have e2 : r.toL.any (fun p => sameK k p.1) = false := by
        rw [List.any_eq_false]; intro p hp; have := Ord.tr _ _ _ h1 (hm.2 p hp); simp [sameK, this]
      rw [e1, e2]; simp
    · by_cases h2 : Ord.lt k' k = true
      · simp only [h1, h2, if_true, AT.toL]
        have hk : ∀ p ∈ l.toL, Ord.lt p.1 k = true := fun p hp => Ord.tr _ _ _ (hm.1 p hp) h2
        refine ⟨?_, ?_⟩
        · rw [insL_skip v _ _ hk]; simp [insL, h1, h2, AT.toL_level, hr.1]
        · rw [hr.2]
          simp only [hasL, List.any_append, List.any_cons]
          have e1 : sameK k k' = false := by simp [sameK, h2]
          have e2 : l.toL.any (fun p => sameK k p.1) = false := by
            rw [List.any_eq_false]; intro p hp; simp [sameK, hk p hp]
          rw [e1, e2]; simp
      · simp only [h1, h2, AT.toL]
        have hkk : k = k' := Ord.tri _ _ (by simpa using h1) (by simpa using h2)
        subst hkk
        refine ⟨?_, ?_⟩
        · rw [insL_skip v _ _ hm.1]; simp [insL, Ord.irr, AT.toL_level]
        · simp [hasL, sameK, Ord.irr]
theorem delL_none {k : κ} {l : List (κ × ν)} (h : ∀ p ∈ l, sameK k p.1 = false) : delL k l = l := by
  unfold delL; rw [List.filter_eq_self]; intro p hp; simp [h p hp]
theorem hasL_none {k : κ} {l : List (κ × ν)} (h : ∀ p ∈ l, sameK k p.1 = false) : hasL k l = false := by
  unfold hasL; rw [List.any_eq_false]; intro p hp; simp [h p hp]
theorem delL_append (k : κ) (A B : List (κ × ν)) : delL k (A ++ B) = delL k A ++ delL k B := by simp [delL]
theorem hasL_append (k : κ) (A B : List (κ × ν)) : hasL k (A ++ B) = (hasL k A || hasL k B) := by simp [hasL]
theorem delL_cons (k : κ) (p : κ × ν) (B : List (κ × ν)) : delL k (p :: B) = if sameK k p.1 then delL k B else p :: delL k B := by
  simp only [delL, List.filter_cons]; cases sameK k p.1 <;> simp
theorem hasL_cons (k : κ) (p : κ × ν) (B : List (κ × ν)) : hasL k (p :: B) = (sameK k p.1 || hasL k B) := by simp [hasL]
theorem AT.toL_drop (k : κ) : ∀ {t : AT κ ν}, Srt t.toL → (AT.drop k t).1.toL = delL k t.toL ∧ (AT.drop k t).2 = hasL k t.toL
  | .nil, _ => by simp [AT.drop, AT.toL, delL, hasL]
  | .node b k' v' l r d, h => by
    have h' : Srt (l.toL ++ (k', v') :: r.toL) := by simpa [AT.toL] using h
    have hm := Srt.mid h'
    have hl := AT.toL_drop k h'.left
    have hr := AT.toL_drop k h'.right.tail
    unfold AT.drop
    simp only [AT.toL, delL_append, hasL_append, delL_cons, hasL_cons]
    by_cases h1 : Ord.lt k k' = true
    · simp only [h1, if_true, AT.toL_level, hl.1, hl.2]
      have e1 : sameK k k' = false := by simp [sameK, h1]
      have hk : ∀ p ∈ r.toL, sameK k p.1 = false := fun p hp => by simp [sameK, Ord.tr _ _ _ h1 (hm.2 p hp)]
      rw [e1, delL_none hk, hasL_none hk]; simp
    · by_cases h2 : Ord.lt k' k = true
      · simp only [h1, h2, if_true, hr.2]
        have e1 : sameK k k' = false := by simp [sameK, h2]
        have hk : ∀ p ∈ l.toL, sameK k p.1 = false := fun p hp => by simp [sameK, Ord.tr _ _ _ (hm.1 p hp) h2]
        rw [e1, delL_none hk, hasL_none hk]; simp [AT.toL_level, hr.1]
      · simp only [h1, h2]
        have hkk : k = k' := Ord.tri _ _ (by simpa using h1) (by simpa using h2)
        subst hkk
        have hk1 : ∀ p ∈ l.toL, sameK k p.1 = false := fun p hp => by simp [sameK, hm.1 p hp]
        have hk2 : ∀ p ∈ r.toL, sameK k p.1 = false := fun p hp => by simp [sameK, hm.2 p hp]
        have e1 : sameK k k = true := sameK_iff.2 rfl
        rw [e1, delL_none hk1, delL_none hk2, hasL_none hk1]
        cases hf : r.first with
        | none => rw [AT.first_none hf]; simp [AT.toL]
        | some p =>
          obtain ⟨b2, k2, v2⟩ := p
          simp [AT.toL_level, AT.toL_rest hf]
theorem srt_insL {k : κ} (v : ν) : ∀ {l : List (κ × ν)}, Srt l → Srt (insL k v l) ∧ ∀ p ∈ insL k v l, p.1 = k ∨ p ∈ l
  | [], _ => by simp [insL, Srt]
  | (k', v') :: t, h => by
    have ht := srt_insL v h.tail (k := k)
    have hc := (List.pairwise_cons.1 h).1
    simp only [insL]
    by_cases h1 : Ord.lt k k' = true
    · rw [if_pos h1]
      refine ⟨List.pairwise_cons.2 ⟨fun p hp => ?_, h⟩, fun p hp => ?_⟩
      · simp only [List.mem_cons] at hp
        rcases hp with rfl | hp
        · exact h1
        · exact Ord.tr _ _ _ h1 (hc p hp)
      · simp only [List.mem_cons] at hp ⊢
        rcases hp with rfl | hp
        · exact .inl rfl
        · exact .inr hp
    · by_cases h2 : Ord.lt k' k = true
      · rw [if_neg h1, if_pos h2]
        refine ⟨List.pairwise_cons.2 ⟨fun p hp => ?_, ht.1⟩, fun p hp => ?_⟩
        · rcases ht.2 p hp with e | hp
          · rw [e]; exact h2
          · exact hc p hp
        · simp only [List.mem_cons] at hp ⊢
          rcases hp with rfl | hp
          · exact .inr (.inl rfl)
          · rcases ht.2 p hp with e | hp
            · exact .inl e
            · exact .inr (.inr hp)
      · rw [if_neg h1, if_neg h2]
        have hkk : k = k' := Ord.tri _ _ (by simpa using h1) (by simpa using h2)
        subst hkk
        refine ⟨List.pairwise_cons.2 ⟨hc, h.tail⟩, fun p hp => ?_⟩
        simp only [List.mem_cons] at hp ⊢
        rcases hp with rfl | hp
        · exact .inl rfl
        · exact .inr (.inr hp)
theorem srt_delL (k : κ) {l : List (κ × ν)} (h : Srt l) : Srt (delL k l) := h.filter _
def getL (k : κ) (L : List (κ × ν)) : Option ν := (L.find? (fun p => sameK k p.1)).map (·.2)
theorem getL_low {k k' : κ} {v : ν} {A B : List (κ × ν)} (hs : Srt (A ++ (k', v) :: B)) (h : Ord.lt k k' = true) : getL k (A ++ (k', v) :: B) = getL k A := by
  have hm := Srt.mid hs
  have hn : ((k', v) :: B).find? (fun p => sameK k p.1) = none := by
    rw [List.find?_eq_none]
    intro p hp
    simp only [List.mem_cons] at hp
    rcases hp with rfl | hp
    · simp [sameK, h]
    · simp [sameK, Ord.tr _ _ _ h (hm.2 p hp)]
  unfold getL
  rw [List.find?_append, hn, Option.or_none]
theorem getL_high {k k' : κ} {v : ν} {A B : List (κ × ν)} (hs : Srt (A ++ (k', v) :: B)) (h : Ord.lt k' k = true) : getL k (A ++ (k', v) :: B) = getL k B := by
  have hm := Srt.mid hs
  have hn : A.find? (fun p => sameK k p.1) = none := by
    rw [List.find?_eq_none]
    intro p hp
    simp [sameK, Ord.tr _ _ _ (hm.1 p hp) h]
  unfold getL
  rw [List.find?_append, hn, Option.none_or, List.find?_cons]
  simp [sameK, h]
theorem getL_same {k : κ} {v : ν} {A B : List (κ × ν)} (hs : Srt (A ++ (k, v) :: B)) : getL k (A ++ (k, v) :: B) = some v := by
  have hm := Srt.mid hs
  have hn : A.find? (fun p => sameK k p.1) = none := by
    rw [List.find?_eq_none]
    intro p hp
    simp [sameK, hm.1 p hp]
  unfold getL
  rw [List.find?_append, hn, Option.none_or, List.find?_cons]
  simp [sameK, Ord.irr]

end lists

namespace AT
variable {κ ν : Type}
theorem bal_level {b : Nat} {k : κ} {v : ν} {l r : AT κ ν} (wl : l.wd) (wr : r.wd) (bl : l.bal) (br : r.bal) (h1 : r.dep - l.dep ≤ 2) (h2 : l.dep - r.dep ≤ 2) :
    (level b k v l r).bal ∧ max l.dep r.dep ≤ (level b k v l r).dep ∧ (level b k v l r).dep ≤ 1 + max l.dep r.dep ∧ (r.dep - l.dep ≤ 1 → l.dep - r.dep ≤ 1 → (level b k v l r).dep = 1 + max l.dep r.dep) := by
  have l0 := wl.dep0
  have r0 := wr.dep0
  unfold level
  by_cases e1 : r.dep - l.dep = 2
  · rw [if_pos e1]
    cases r with
    | nil => simp only [dep_nil] at e1 l0; omega
    | node b8 k1 v1 l1 r1 d1 =>
      obtain ⟨w1, w2, w3⟩ := wr
      obtain ⟨b1, b2, b3, b4⟩ := br
      have := w1.dep0
      have := w2.dep0
      simp only [dep_node, lean_node] at *
      by_cases e2 : r1.dep - l1.dep < 0
      · simp only [e2, ↓reduceIte]
        cases l1 with
        | nil => simp only [dep_nil] at *; omega
        | node b9 k2 v2 l2 r2 d2 =>
          obtain ⟨x1, x2, x3⟩ := w1
          obtain ⟨y1, y2, y3, y4⟩ := b1
          have := x1.dep0
          have := x2.dep0
          simp only [turnHigh_node, turnLow_node, mk, bal, dep_node] at *
          refine ⟨⟨⟨bl, y1, ?_, ?_⟩, ⟨y2, b2, ?_, ?_⟩, ?_, ?_⟩, ?_, ?_, ?_⟩ <;> intros <;> omega
      · simp only [e2, ↓reduceIte]
        simp only [turnLow_node, mk, bal, dep_node] at *
        refine ⟨⟨⟨bl, b1, ?_, ?_⟩, b2, ?_, ?_⟩, ?_, ?_, ?_⟩ <;> intros <;> omega
  · rw [if_neg e1]
    by_cases e2 : r.dep - l.dep = -2
    · rw [if_pos e2]
      cases l with
      | nil => simp only [dep_nil] at e2 r0; omega
      | node b8 k1 v1 l1 r1 d1 =>
        obtain ⟨w1, w2, w3⟩ := wl
        obtain ⟨b1, b2, b3, b4⟩ := bl
        have := w1.dep0
        have := w2.dep0
        simp only [dep_node, lean_node] at *
        by_cases e3 : 0 < r1.dep - l1.dep
        · simp only [e3, ↓reduceIte]
          cases r1 with
          | nil => simp only [dep_nil] at *; omega
          | node b9 k2 v2 l2 r2 d2 =>
            obtain ⟨x1, x2, x3⟩ := w2
            obtain ⟨y1, y2, y3, y4⟩ := b2
            have := x1.dep0
            have := x2.dep0
            simp only [turnHigh_node, turnLow_node, mk, bal, dep_node] at *
            refine ⟨⟨⟨b1, y1, ?_, ?_⟩, ⟨y2, br, ?_, ?_⟩, ?_, ?_⟩, ?_, ?_, ?_⟩ <;> intros <;> omega
        · simp only [e3, ↓reduceIte]
          simp only [turnHigh_node, mk, bal, dep_node] at *
          refine ⟨⟨b1, ⟨b2, br, ?_, ?_⟩, ?_, ?_⟩, ?_, ?_, ?_⟩ <;> intros <;> omega
    · rw [if_neg e2]
      refine ⟨⟨bl, br, ?_, ?_⟩, ?_, ?_, ?_⟩ <;> intros <;> (try rw [dep_mk]) <;> omega
theorem bal_put [Ord κ] (n : Nat) (k : κ) (v : ν) : ∀ {t : AT κ ν}, t.wd → t.bal → (put n k v t).1.bal ∧ t.dep ≤ (put n k v t).1.dep ∧ (put n k v t).1.dep ≤ t.dep + 1
  | nil, _, _ => by simp [put, bal, dep]
  | node b k' v' l r d, ⟨w1, w2, w3⟩, ⟨b1, b2, b3, b4⟩ => by
    have hl := bal_put n k v w1 b1
    have hr := bal_put n k v w2 b2
    unfold put
    simp only [dep_node]
    split
    · have := bal_level (b := b) (k := k') (v := v') (wd_put n k v w1) w2 hl.1 b2 (by omega) (by omega)
      refine ⟨this.1, ?_, ?_⟩ <;> (try dsimp only) <;> omega
    · split
      · have := bal_level (b := b) (k := k') (v := v') w1 (wd_put n k v w2) b1 hr.1 (by omega) (by omega)
        refine ⟨this.1, ?_, ?_⟩ <;> (try dsimp only) <;> omega
      · have := bal_level (b := b) (k := k') (v := v) w1 w2 b1 b2 (by omega) (by omega)
        refine ⟨this.1, ?_, ?_⟩ <;> (try dsimp only) <;> omega
theorem bal_rest : ∀ {t : AT κ ν}, t.wd → t.bal → t.rest.bal ∧ t.dep - 1 ≤ t.rest.dep ∧ t.rest.dep ≤ t.dep
  | nil, _, _ => by simp [rest, bal, dep]
  | node _ _ _ nil r d, ⟨w1, w2, w3⟩, ⟨b1, b2, b3, b4⟩ => by
    have := w2.dep0
    simp only [rest, dep_nil, dep_node] at *
    refine ⟨b2, ?_, ?_⟩ <;> omega
  | node b k v (node b' k' v' l' r' d') r d, ⟨w1, w2, w3⟩, ⟨b1, b2, b3, b4⟩ => by
    have ih := bal_rest w1 b1
    have := bal_level (b := b) (k := k) (v := v) (wd_rest w1) w2 ih.1 b2 (by omega) (by omega)
    simp only [rest, dep_node] at *
    refine ⟨this.1, ?_, ?_⟩ <;> (try dsimp only) <;> omega
theorem bal_drop [Ord κ] (k : κ) : ∀ {t : AT κ ν}, t.wd → t.bal → (drop k t).1.bal ∧ t.dep - 1 ≤ (drop k t).1.dep ∧ (drop k t).1.dep ≤ t.dep
  | nil, _, _ => by simp [drop, bal, dep]
  | node b k' v' l r d, ⟨w1, w2, w3⟩, ⟨b1, b2, b3, b4⟩ => by
    have hl := bal_drop k w1 b1
    have hr := bal_drop k w2 b2
    have := w1.dep0
    have := w2.dep0
    unfold drop
    simp only [dep_node]
    split
    · have := bal_level (b := b) (k := k') (v := v') (wd_drop k w1) w2 hl.1 b2 (by omega) (by omega)
      refine ⟨this.1, ?_, ?_⟩ <;> (try dsimp only) <;> omega
    · split
      · have := bal_level (b := b) (k := k') (v := v') w1 (wd_drop k w2) b1 hr.1 (by omega) (by omega)
        refine ⟨this.1, ?_, ?_⟩ <;> (try dsimp only) <;> omega
      · cases hf : r.first with
        | none =>
          have := first_none hf
          subst this
          simp only [dep_nil] at *
          refine ⟨b1, ?_, ?_⟩ <;> omega
        | some p =>
          obtain ⟨b2', k2, v2⟩ := p
          have ih := bal_rest w2 b2
          have := bal_level (b := b2') (k := k2) (v := v2) w1 (wd_rest w2) b1 ih.1 (by omega) (by omega)
          refine ⟨this.1, ?_, ?_⟩ <;> (try dsimp only) <;> omega
end AT
end Go.Proofs.Ytmcghchhegfilaa
namespace Go.Proofs.Ytmcghchhegfilaa
instance : Ord Int where
  lt a b := decide (a < b)
  irr a := by simp
  tr a b c := by simp; omega
  tri a b := by simp; omega
theorem ltInt (a b : Int) : Ord.lt a b = decide (a < b) := rfl
end Go.Proofs.Ytmcghchhegfilaa
namespace Go.Proofs.Ytmcghchhegfilaa
open Go.RowKit
namespace Bl
theorem irr : ∀ l : List UInt8, Op.bytesLess l l = false
  | [] => by simp [Op.bytesLess]
  | a :: x => by simp [Op.bytesLess, irr x]
theorem tr : ∀ a b c : List UInt8, Op.bytesLess a b = true → Op.bytesLess b c = true → Op.bytesLess a c = true
  | [], [], _, h, _ => by simp [Op.bytesLess] at h
  | [], _ :: _, [], _, h => by simp [Op.bytesLess] at h
  | [], _ :: _, _ :: _, _, _ => by simp [Op.bytesLess]
  | _ :: _, [], _, h, _ => by simp [Op.bytesLess] at h
  | _ :: _, _ :: _, [], _, h => by simp [Op.bytesLess] at h
  | a :: x, b :: y, c :: z, h1, h2 => by
    simp only [Op.bytesLess, Bool.or_eq_true, decide_eq_true_eq, Bool.and_eq_true, beq_iff_eq] at h1 h2 ⊢
    rcases h1 with h1 | ⟨rfl, h1⟩
    · rcases h2 with h2 | ⟨rfl, h2⟩
      · exact .inl (UInt8.lt_trans h1 h2)
      · exact .inl h1
    · rcases h2 with h2 | ⟨rfl, h2⟩
      · exact .inl h2
      · exact .inr ⟨rfl, tr x y z h1 h2⟩
theorem tri : ∀ a b : List UInt8, Op.bytesLess a b = false → Op.bytesLess b a = false → a = b
  | [], [], _, _ => rfl
  | [], _ :: _, h, _ => by simp [Op.bytesLess] at h
  | _ :: _, [], _, h => by simp [Op.bytesLess] at h
  | a :: x, b :: y, h1, h2 => by
    simp only [Op.bytesLess, Bool.or_eq_false_iff, decide_eq_false_iff_not, Bool.and_eq_false_iff, beq_eq_false_iff_ne, ne_eq] at h1 h2
    have e : a = b := by
      have := h1.1; have := h2.1
      exact UInt8.le_antisymm (UInt8.not_lt.1 h2.1) (UInt8.not_lt.1 h1.1)
    subst e
    simp only [not_true_eq_false, false_or] at h1 h2
    rw [tri x y h1.2 h2.2]
end Bl
theorem tl_data (s : ByteArray) : s.toList = s.data.toList := Lib.toList_data s
theorem str_ext {a b : ByteArray} (h : a.toList = b.toList) : a = b := by
  rw [tl_data, tl_data] at h
  exact ByteArray.ext (Array.ext' h)
instance : Ord ByteArray where
  lt a b := Op.bytesLess a.toList b.toList
  irr _a := Bl.irr _
  tr _a _b _c := Bl.tr _ _ _
  tri _a _b h1 h2 := str_ext (Bl.tri _ _ h1 h2)
theorem Bl.ne {a b : ByteArray} (h : Ord.lt a b = true) : (a.toList == b.toList) = false := by
  have hne : a.toList ≠ b.toList := fun e => by rw [str_ext e, Ord.irr] at h; cases h
  simpa using hne
theorem Bl.ne' {a b : ByteArray} (h : Ord.lt a b = true) : (b.toList == a.toList) = false := by
  have hne : b.toList ≠ a.toList := fun e => by rw [str_ext e, Ord.irr] at h; cases h
  simpa using hne
theorem ltStr (a b : ByteArray) : Ord.lt a b = Op.bytesLess a.toList b.toList := rfl
end Go.Proofs.Ytmcghchhegfilaa
namespace Go.Proofs.Ytmcghchhegfilaa
open Go.RowKit
theorem room_of_none {F : Fence} (hd : F.depth = none) (k : Nat) : F.room k := fun d h => by rw [hd] at h; cases h
theorem round_anyDepth {F : Fence} (hd : F.depth = none) {m m' : Nat} {P : Program} {l : Nat} {f : FuncId} {tmps : Array Value} {assign body : Code} {w : World} {R : Ending → World → Prop}
    (h : RoundIn F m P l f tmps assign body w R) : RoundIn F m' P l f tmps assign body w R := ⟨h.1, fun c cs _ => h.2 c cs (room_of_none hd _)⟩
theorem yield_anyDepth {F : Fence} (hd : F.depth = none) {m : Nat} (m' : Nat) {P : Program} {l : Nat} {args : Array Value} {W : World} {R : Ending → World → Prop} (h : YieldAt F m P l args W R) : YieldAt F m' P l args W R := by
  obtain ⟨fn, tmps, assign, body, hy, hR⟩ := h
  exact ⟨fn, tmps, assign, body, hy, round_anyDepth hd hR⟩
/-- These blocks lie as they lay. -/
def Kept (S : List Nat) (W W' : World) : Prop := ∀ b ∈ S, W'.heap[b]? = W.heap[b]?
theorem Kept.refl (S : List Nat) (W : World) : Kept S W W := fun _ _ => rfl
theorem Kept.trans {S : List Nat} {A B C : World} (h : Kept S A B) (k : Kept S B C) : Kept S A C := fun b hb => (k b hb).trans (h b hb)
theorem Kept.of_fr {S : List Nat} {T : Nat → Prop} {A B : World} (h : Fr T A B) (hs : ∀ b ∈ S, b < A.heap.size ∧ ¬ T b) : Kept S A B := fun b hb => h.block b (hs b hb).1 (hs b hb).2
theorem kept_b {S : List Nat} {w : World} (hS : ∀ b ∈ S, b < w.heap.size) (W : World) (l : Nat) (o o' : Obj) (hl : w.heap.size ≤ l) (_ : W.heap[l]? = some o) (_ : o.isCells = false) (_ : o.isWalk = false) : Kept S W (W.putObj l o') :=
  fun b hb => World.putObj_heap_other (fun e => by have := hS b hb; omega)
/-- Those keys that are not below one. -/
def geL {κ ν : Type} [Ord κ] (k : κ) (l : List (κ × ν)) : List (κ × ν) := l.filter (fun p => !Ord.lt p.1 k)
theorem geL_skip {κ ν : Type} [Ord κ] {k kf : κ} {v : ν} {A B : List (κ × ν)} (hs : Srt (A ++ (k, v) :: B)) (h : Ord.lt k kf = true) : geL kf (A ++ (k, v) :: B) = geL kf B := by
  have hm := Srt.mid hs
  have : A.filter (fun p => !Ord.lt p.1 kf) = [] := by
    rw [List.filter_eq_nil_iff]; intro p hp; simp [Ord.tr _ _ _ (hm.1 p hp) h]
  unfold geL
  rw [List.filter_append, this, List.nil_append, List.filter_cons]; simp [h]
theorem geL_keep {κ ν : Type} [Ord κ] {k kf : κ} {v : ν} {A B : List (κ × ν)} (hs : Srt (A ++ (k, v) :: B)) (h : Ord.lt k kf = false) : geL kf (A ++ (k, v) :: B) = geL kf A ++ (k, v) :: B := by
  have hm := Srt.mid hs
  have : B.filter (fun p => !Ord.lt p.1 kf) = B := by
    rw [List.filter_eq_self]; intro p hp
    cases h' : Ord.lt p.1 kf with
    | false => rfl
    | true => have := Ord.tr _ _ _ (hm.2 p hp) h'; rw [h] at this; cases this
  unfold geL
  rw [List.filter_append, List.filter_cons, this]; simp [h]
end Go.Proofs.Ytmcghchhegfilaa
namespace Go.Proofs.Ytmcghchhegfilaa
/-- The least numbers of keys, two at a time. -/
def lst : Nat → Nat × Nat
  | 0 => (0, 1)
  | n + 1 => ((lst n).2, (lst n).1 + (lst n).2 + 1)
theorem lst_mono1 (n : Nat) : (lst n).1 ≤ (lst n).2 ∧ (lst n).1 ≤ (lst (n + 1)).1 ∧ (lst n).2 ≤ (lst (n + 1)).2 := by
  induction n with
  | zero => simp [lst]
  | succ n ih => simp only [lst] at *; omega
theorem lst_mono {m n : Nat} (h : m ≤ n) : (lst m).1 ≤ (lst n).1 ∧ (lst m).2 ≤ (lst n).2 := by
  induction h with
  | refl => exact ⟨Nat.le_refl _, Nat.le_refl _⟩
  | step _ ih => have := lst_mono1 (by assumption); exact ⟨Nat.le_trans ih.1 (lst_mono1 _).2.1, Nat.le_trans ih.2 (lst_mono1 _).2.2⟩
theorem lst_80 : (lst 80).2 ≤ 1152921504606846976 := by decide +kernel

theorem lst_size {κ ν : Type} : ∀ {t : AT κ ν}, t.wd → t.bal → (lst t.dep.toNat).1 ≤ t.size ∧ t.size < 2 ^ t.dep.toNat
  | .nil, _, _ => by simp [AT.dep, lst, AT.size]
  | .node b k v l r d, ⟨w1, w2, w3⟩, ⟨b1, b2, b3, b4⟩ => by
    obtain ⟨l1, l2⟩ := lst_size w1 b1
    obtain ⟨r1, r2⟩ := lst_size w2 b2
    have := w1.dep0
    have := w2.dep0
    simp only [AT.dep_node, AT.size]
    have key : ∀ m : Nat, (lst (m + 2)).1 = (lst m).1 + (lst (m + 1)).1 + 1 := fun m => by simp [lst]
    rcases Int.lt_trichotomy l.dep r.dep with h | h | h
    · have hd : d.toNat = l.dep.toNat + 2 := by omega
      have hr : r.dep.toNat = l.dep.toNat + 1 := by omega
      rw [hd, key, Nat.pow_succ]
      rw [hr] at r1 r2
      have := Nat.pow_lt_pow_right (a := 2) (by omega) (Nat.lt_succ_self l.dep.toNat)
      rw [Nat.succ_eq_add_one] at this
      omega
    · have hd : d.toNat = l.dep.toNat + 1 := by omega
      have hr : r.dep.toNat = l.dep.toNat := by omega
      rw [hr] at r1 r2
      have hm : (lst (l.dep.toNat + 1)).1 ≤ (lst l.dep.toNat).1 + (lst l.dep.toNat).1 + 1 := by
        cases hq : l.dep.toNat with
        | zero => simp [lst]
        | succ q => have := lst_mono1 q; rw [key]; omega
      rw [hd, Nat.pow_succ]
      omega
    · have hd : d.toNat = r.dep.toNat + 2 := by omega
      have hl : l.dep.toNat = r.dep.toNat + 1 := by omega
      rw [hd, key, Nat.pow_succ]
      rw [hl] at l1 l2
      have := Nat.pow_lt_pow_right (a := 2) (by omega) (Nat.lt_succ_self r.dep.toNat)
      rw [Nat.succ_eq_add_one] at this
      omega
end Go.Proofs.Ytmcghchhegfilaa
namespace Go.Proofs.Ytmcghchhegfilaa
section
variable {κ ν : Type} [Ord κ]
theorem sameK_refl (k : κ) : sameK k k = true := sameK_iff.2 rfl
theorem sameK_ne {k k' : κ} (h : k ≠ k') : sameK k k' = false := by
  cases hs : sameK k k' with
  | false => rfl
  | true => exact absurd (sameK_iff.1 hs) h
theorem sameK_lt {k k' : κ} (h : Ord.lt k k' = true) : sameK k k' = false := by simp [sameK, h]
theorem sameK_gt {k k' : κ} (h : Ord.lt k' k = true) : sameK k k' = false := by simp [sameK, h]
theorem sameK_comm (k k' : κ) : sameK k k' = sameK k' k := by simp [sameK, Bool.and_comm]
theorem getL_nil (k : κ) : getL k ([] : List (κ × ν)) = none := rfl
theorem getL_cons (k : κ) (p : κ × ν) (L : List (κ × ν)) : getL k (p :: L) = if sameK k p.1 then some p.2 else getL k L := by
  unfold getL
  rw [List.find?_cons]
  cases sameK k p.1 <;> simp
theorem getL_ins (k k' : κ) (v : ν) : ∀ L : List (κ × ν), getL k (insL k' v L) = if sameK k k' then some v else getL k L
  | [] => by simp [insL, getL_cons, getL_nil]
  | (a, b) :: t => by
    rw [insL]
    by_cases h1 : Ord.lt k' a = true
    · rw [if_pos h1, getL_cons]
    · rw [if_neg h1]
      by_cases h2 : Ord.lt a k' = true
      · rw [if_pos h2, getL_cons, getL_ins k k' v t, getL_cons]
        by_cases h3 : sameK k a = true
        · have := sameK_iff.1 h3; subst this
          rw [if_pos h3, sameK_lt h2, if_neg (by simp), if_pos h3]
        · simp [h3]
      · have := Ord.tri a k' (by simpa using h2) (by simpa using h1); subst this
        rw [if_neg h2, getL_cons, getL_cons]
        by_cases h3 : sameK k a = true
        · simp [h3]
        · simp [h3]
theorem getL_del (k k' : κ) : ∀ L : List (κ × ν), getL k (delL k' L) = if sameK k k' then none else getL k L
  | [] => by simp [delL, getL_nil]
  | (a, b) :: t => by
    rw [delL_cons]
    by_cases h1 : sameK k' a = true
    · have := sameK_iff.1 h1; subst this
      rw [if_pos h1, getL_del k k' t, getL_cons]
      by_cases h3 : sameK k k' = true <;> simp [h3]
    · rw [if_neg h1, getL_cons, getL_cons, getL_del k k' t]
      by_cases h3 : sameK k a = true
      · have := sameK_iff.1 h3; subst this
        rw [if_pos h3, sameK_comm k k', if_neg h1, if_pos h3]
      · simp [h3]
theorem hasL_get (k : κ) : ∀ L : List (κ × ν), hasL k L = (getL k L).isSome
  | [] => rfl
  | p :: t => by rw [hasL_cons, getL_cons, hasL_get k t]; cases sameK k p.1 <;> simp
theorem getL_mem {k : κ} {v : ν} : ∀ {L : List (κ × ν)}, getL k L = some v → (k, v) ∈ L
  | [], h => by simp [getL_nil] at h
  | p :: t, h => by
    rw [getL_cons] at h
    by_cases h1 : sameK k p.1 = true
    · rw [if_pos h1] at h; have := sameK_iff.1 h1; subst this; cases h; simp
    · rw [if_neg h1] at h; exact List.mem_cons_of_mem _ (getL_mem h)
theorem mem_getL {k : κ} {v : ν} : ∀ {L : List (κ × ν)}, Srt L → (k, v) ∈ L → getL k L = some v
  | [], _, h => by simp at h
  | p :: t, hs, h => by
    have hs' := List.pairwise_cons.1 hs
    rw [getL_cons]
    rcases List.mem_cons.1 h with rfl | h
    · rw [if_pos (sameK_refl _)]
    · have := hs'.1 _ h
      rw [sameK_gt this, if_neg (by simp)]
      exact mem_getL hs'.2 h
theorem getL_low' {k : κ} {L : List (κ × ν)} (h : ∀ p ∈ L, Ord.lt k p.1 = true) : getL k L = none := by
  cases hg : getL k L with
  | none => rfl
  | some v => have := h _ (getL_mem hg); rw [Ord.irr] at this; cases this
/-- What is found tells what is there. -/
theorem srt_ext : ∀ {L M : List (κ × ν)}, Srt L → Srt M → (∀ k, getL k L = getL k M) → L = M
  | [], [], _, _, _ => rfl
  | [], (k, v) :: M, _, _, h => by have := h k; simp [getL_nil, getL_cons, sameK_refl] at this
  | (k, v) :: L, [], _, _, h => by have := h k; simp [getL_nil, getL_cons, sameK_refl] at this
  | (k, v) :: L, (k', v') :: M, hL, hM, h => by
    have hL' := List.pairwise_cons.1 hL
    have hM' := List.pairwise_cons.1 hM
    have e : k = k' := by
      refine Ord.tri _ _ ?_ ?_
      · cases hc : Ord.lt k k' with
        | false => rfl
        | true =>
          have := h k
          rw [getL_cons, if_pos (sameK_refl _), getL_low' (L := (k', v') :: M) (fun p hp => by
            rcases List.mem_cons.1 hp with rfl | hp
            · exact hc
            · exact Ord.tr _ _ _ hc (hM'.1 p hp))] at this
          cases this
      · cases hc : Ord.lt k' k with
        | false => rfl
        | true =>
          have := h k'
          rw [getL_cons (p := (k', v')), if_pos (sameK_refl _), getL_low' (L := (k, v) :: L) (fun p hp => by
            rcases List.mem_cons.1 hp with rfl | hp
            · exact hc
            · exact Ord.tr _ _ _ hc (hL'.1 p hp))] at this
          cases this
    subst e
    have hv := h k
    rw [getL_cons, getL_cons, if_pos (sameK_refl _), if_pos (sameK_refl _)] at hv
    cases hv
    refine congrArg _ (srt_ext hL'.2 hM'.2 (fun x => ?_))
    by_cases hx : sameK x k = true
    · have := sameK_iff.1 hx; subst this
      rw [getL_low' hL'.1, getL_low' hM'.1]
    · have := h x
      rw [getL_cons, getL_cons, if_neg hx, if_neg hx] at this
      exact this
theorem insL_len' (k : κ) (v : ν) : ∀ L : List (κ × ν), (insL k v L).length ≤ L.length + 1
  | [] => by simp [insL]
  | (a, b) :: t => by
    rw [insL]
    split
    · simp
    · split
      · have := insL_len' k v t; simp; omega
      · simp
theorem delL_len' (k : κ) (L : List (κ × ν)) : (delL k L).length ≤ L.length := List.length_filter_le _ _
end
end Go.Proofs.Ytmcghchhegfilaa
