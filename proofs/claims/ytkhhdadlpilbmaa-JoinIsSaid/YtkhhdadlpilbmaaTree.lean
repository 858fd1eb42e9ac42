/- Trees in order, plain: what the methods of the map's nodes make of a tree; no program is named. -/
import Derived.Test.YtkhhdadlpilbmaaWorld
namespace Go.Proofs.Ytkhhdadlpilbmaa
open Go.RowKit

/-- Keys in order. -/
class Ord (κ : Type) where
  lt : κ → κ → Bool
  irr : ∀ a, lt a a = false
  tr : ∀ a b c, lt a b = true → lt b c = true → lt a c = true
  tri : ∀ a b, lt a b = false → lt b a = false → a = b

theorem Ord.asymm {κ : Type} [Ord κ] {a b : κ} (h : Ord.lt a b = true) : Ord.lt b a = false := by
  cases hb : Ord.lt b a with
  | false => rfl
  | true => have := Ord.tr _ _ _ h hb; rw [Ord.irr] at this; cases this

/-- A tree, with the blocks of its nodes. -/
inductive AT (κ ν : Type) where
  | nil
  | node (b : Nat) (k : κ) (v : ν) (l r : AT κ ν) (d : Int)

namespace AT
variable {κ ν : Type}
def adr : AT κ ν → Option Addr
  | nil => none
  | node b _ _ _ _ _ => some ⟨b, 0, none⟩
def dep : AT κ ν → Int
  | nil => 0
  | node _ _ _ _ _ d => d
def fp : AT κ ν → List Nat
  | nil => []
  | node b _ _ l r _ => b :: (l.fp ++ r.fp)
def toL : AT κ ν → List (κ × ν)
  | nil => []
  | node _ k v l r _ => l.toL ++ (k, v) :: r.toL
def size : AT κ ν → Nat
  | nil => 0
  | node _ _ _ l r _ => l.size + r.size + 1
def lean : AT κ ν → Int
  | nil => 0
  | node _ _ _ l r _ => r.dep - l.dep
/-- Each node's depth is measured. -/
def wd : AT κ ν → Prop
  | nil => True
  | node _ _ _ l r d => l.wd ∧ r.wd ∧ d = 1 + max l.dep r.dep
/-- The halves are at most one apart. -/
def bal : AT κ ν → Prop
  | nil => True
  | node _ _ _ l r _ => l.bal ∧ r.bal ∧ r.dep - l.dep ≤ 1 ∧ l.dep - r.dep ≤ 1
theorem adr_nil : (nil : AT κ ν).adr = none := rfl
theorem adr_node (b : Nat) (k : κ) (v : ν) (l r : AT κ ν) (d : Int) : (node b k v l r d).adr = some ⟨b, 0, none⟩ := rfl
theorem dep_nil : (nil : AT κ ν).dep = 0 := rfl
theorem dep_node (b : Nat) (k : κ) (v : ν) (l r : AT κ ν) (d : Int) : (node b k v l r d).dep = d := rfl
theorem lean_node (b : Nat) (k : κ) (v : ν) (l r : AT κ ν) (d : Int) : (node b k v l r d).lean = r.dep - l.dep := rfl
/-- The tree lies in the heap; blk: a node's cells. -/
def In (blk : κ → ν → Option Addr → Option Addr → Int → Array Value) (T : TypeId) (w : World) : AT κ ν → Prop
  | nil => True
  | node b k v l r d => w.heap[b]? = some (.cells (blk k v l.adr r.adr d) T (0, 0)) ∧ l.In blk T w ∧ r.In blk T w

theorem In.fr {blk : κ → ν → Option Addr → Option Addr → Int → Array Value} {T : TypeId} {S : Nat → Prop} {w w' : World} : ∀ {t : AT κ ν}, t.In blk T w → Fr S w w' → (∀ b ∈ t.fp, ¬ S b) → t.In blk T w'
  | nil, _, _, _ => trivial
  | node b k v l r d, ⟨h1, h2, h3⟩, hf, hs => ⟨(hf.block b (lt_of_heap h1) (hs b (by simp [fp]))).trans h1, h2.fr hf (fun x hx => hs x (by simp [fp, hx])), h3.fr hf (fun x hx => hs x (by simp [fp, hx]))⟩
theorem In.lt {blk : κ → ν → Option Addr → Option Addr → Int → Array Value} {T : TypeId} {w : World} : ∀ {t : AT κ ν}, t.In blk T w → ∀ b ∈ t.fp, b < w.heap.size
  | nil, _, _, h => by simp [fp] at h
  | node b k v l r d, ⟨h1, h2, h3⟩, x, hx => by
    simp only [fp, List.mem_cons, List.mem_append] at hx
    rcases hx with rfl | hx | hx
    · exact lt_of_heap h1
    · exact h2.lt x hx
    · exact h3.lt x hx

theorem nodup_node {b : Nat} {k : κ} {v : ν} {l r : AT κ ν} {d : Int} : (node b k v l r d).fp.Nodup ↔ b ∉ l.fp ∧ b ∉ r.fp ∧ l.fp.Nodup ∧ r.fp.Nodup ∧ ∀ x ∈ l.fp, ∀ y ∈ r.fp, x ≠ y := by
  rw [fp, List.nodup_cons, List.mem_append, not_or, List.nodup_append, and_assoc]
theorem mem_node {b : Nat} {k : κ} {v : ν} {l r : AT κ ν} {d : Int} {x : Nat} : x ∈ (node b k v l r d).fp ↔ x = b ∨ x ∈ l.fp ∨ x ∈ r.fp := by
  rw [fp, List.mem_cons, List.mem_append]
theorem fp_length : ∀ t : AT κ ν, t.fp.length = t.size
  | nil => rfl
  | node _ _ _ l r _ => by simp [fp, size, fp_length l, fp_length r]
theorem toL_length : ∀ t : AT κ ν, t.toL.length = t.size
  | nil => rfl
  | node _ _ _ l r _ => by simp [toL, size, toL_length l, toL_length r]; omega
theorem wd.dep0 : ∀ {t : AT κ ν}, t.wd → 0 ≤ t.dep
  | nil, _ => by simp [dep]
  | node _ _ _ l r d, ⟨h1, h2, h3⟩ => by have := h1.dep0; have := h2.dep0; simp only [dep]; omega
theorem wd.dep_pos {b : Nat} {k : κ} {v : ν} {l r : AT κ ν} {d : Int} (h : (node b k v l r d).wd) : 1 ≤ d := by
  have := h.1.dep0; have := h.2.2; omega
theorem wd.dep_le : ∀ {t : AT κ ν}, t.wd → t.dep ≤ t.size
  | nil, _ => by simp [dep, size]
  | node _ _ _ l r d, ⟨h1, h2, h3⟩ => by have := h1.dep_le; have := h2.dep_le; simp only [dep, size]; omega

def mk (b : Nat) (k : κ) (v : ν) (l r : AT κ ν) : AT κ ν := node b k v l r (1 + max l.dep r.dep)
def turnLow : AT κ ν → AT κ ν
  | node b k v l (node b' k' v' l' r' _) _ => mk b' k' v' (mk b k v l l') r'
  | t => t
def turnHigh : AT κ ν → AT κ ν
  | node b k v (node b' k' v' l' r' _) r _ => mk b' k' v' l' (mk b k v r' r)
  | t => t
theorem turnLow_node (b : Nat) (k : κ) (v : ν) (l : AT κ ν) (b' : Nat) (k' : κ) (v' : ν) (l' r' : AT κ ν) (d' d : Int) : turnLow (node b k v l (node b' k' v' l' r' d') d) = mk b' k' v' (mk b k v l l') r' := rfl
theorem turnHigh_node (b : Nat) (k : κ) (v : ν) (b' : Nat) (k' : κ) (v' : ν) (l' r' : AT κ ν) (d' : Int) (r : AT κ ν) (d : Int) : turnHigh (node b k v (node b' k' v' l' r' d') r d) = mk b' k' v' l' (mk b k v r' r) := rfl
def level (b : Nat) (k : κ) (v : ν) (l r : AT κ ν) : AT κ ν :=
  if r.dep - l.dep = 2 then turnLow (mk b k v l (if r.lean < 0 then turnHigh r else r))
  else if r.dep - l.dep = -2 then turnHigh (mk b k v (if 0 < l.lean then turnLow l else l) r)
  else mk b k v l r
/-- The tree with a key, and whether it is a new one; n: the block of a new node. -/
def put [Ord κ] (n : Nat) (k : κ) (v : ν) : AT κ ν → AT κ ν × Bool
  | nil => (node n k v nil nil 1, true)
  | node b k' v' l r _d =>
    if Ord.lt k k' then (level b k' v' (put n k v l).1 r, (put n k v l).2)
    else if Ord.lt k' k then (level b k' v' l (put n k v r).1, (put n k v r).2)
    else (level b k' v l r, false)
/-- The tree without its least key. -/
def rest : AT κ ν → AT κ ν
  | nil => nil
  | node _ _ _ nil r _ => r
  | node b k v (node b' k' v' l' r' d') r _ => level b k v (rest (node b' k' v' l' r' d')) r
/-- The node of the least key. -/
def first : AT κ ν → Option (Nat × κ × ν)
  | nil => none
  | node b k v nil _ _ => some (b, k, v)
  | node _ _ _ (node b' k' v' l' r' d') _ _ => first (node b' k' v' l' r' d')
/-- The tree without a key, and whether it was there. -/
def drop [Ord κ] (k : κ) : AT κ ν → AT κ ν × Bool
  | nil => (nil, false)
  | node b k' v' l r _d =>
    if Ord.lt k k' then (level b k' v' (drop k l).1 r, (drop k l).2)
    else if Ord.lt k' k then (level b k' v' l (drop k r).1, (drop k r).2)
    else match r.first with
      | none => (l, true)
      | some (b2, k2, v2) => (level b2 k2 v2 l r.rest, true)

@[simp] theorem toL_mk (b : Nat) (k : κ) (v : ν) (l r : AT κ ν) : (mk b k v l r).toL = l.toL ++ (k, v) :: r.toL := rfl
@[simp] theorem dep_mk (b : Nat) (k : κ) (v : ν) (l r : AT κ ν) : (mk b k v l r).dep = 1 + max l.dep r.dep := rfl
theorem wd_mk {b : Nat} {k : κ} {v : ν} {l r : AT κ ν} (hl : l.wd) (hr : r.wd) : (mk b k v l r).wd := ⟨hl, hr, rfl⟩
theorem toL_turnLow (t : AT κ ν) : (turnLow t).toL = t.toL := by unfold turnLow; split <;> simp [toL]
theorem toL_turnHigh (t : AT κ ν) : (turnHigh t).toL = t.toL := by unfold turnHigh; split <;> simp [toL]
theorem toL_level (b : Nat) (k : κ) (v : ν) (l r : AT κ ν) : (level b k v l r).toL = l.toL ++ (k, v) :: r.toL := by
  unfold level
  split
  · rw [toL_turnLow]; split <;> simp [toL_turnHigh]
  · split
    · rw [toL_turnHigh]; split <;> simp [toL_turnLow]
    · simp
theorem wd.turnLow {t : AT κ ν} (h : t.wd) : (AT.turnLow t).wd := by
  unfold AT.turnLow; split
  · exact wd_mk (wd_mk h.1 h.2.1.1) h.2.1.2.1
  · exact h
theorem wd.turnHigh {t : AT κ ν} (h : t.wd) : (AT.turnHigh t).wd := by
  unfold AT.turnHigh; split
  · exact wd_mk h.1.1 (wd_mk h.1.2.1 h.2.1)
  · exact h
theorem wd_level {b : Nat} {k : κ} {v : ν} {l r : AT κ ν} (hl : l.wd) (hr : r.wd) : (level b k v l r).wd := by
  unfold level
  split
  · refine (wd_mk hl ?_).turnLow; split; exact hr.turnHigh; exact hr
  · split
    · refine (wd_mk ?_ hr).turnHigh; split; exact hl.turnLow; exact hl
    · exact wd_mk hl hr
theorem perm_turnLow (t : AT κ ν) : (turnLow t).fp.Perm t.fp := by
  unfold turnLow; split
  · rename_i b k v l b' k' v' l' r' d' d
    simp only [fp, mk]
    refine (List.Perm.swap _ _ _).trans (List.Perm.cons _ ?_)
    exact (List.perm_middle (a := b') (l₁ := l.fp) (l₂ := l'.fp ++ r'.fp)).symm.trans (by simp) |>.symm.symm |> fun h => by simpa using h
  · exact List.Perm.refl _
end AT
end Go.Proofs.Ytkhhdadlpilbmaa
