/- Shapes: what is counted, in plain words. -/
import Derived.Test.YtgfjpnpbkkadpaaGreatBagP
namespace Go.Proofs.YtgfjpnpbkkadpaaGreat
namespace ShapeP
open BagP
abbrev K3 := Int × Int × Int
/-- A place. -/
structure Pl where
  t : Int
  i : Int
  c : Int
  d : Int
  p : Int
  f : Int
def Pl.k (x : Pl) : K3 := (x.c, x.d, x.f)
/-- How many are such. -/
def cn (p : K3 → Bool) (l : List K3) : Int := (l.countP p : Nat)
theorem cn_range (p : K3 → Bool) (l : List K3) : 0 ≤ cn p l ∧ cn p l ≤ l.length := ⟨by unfold cn; omega, by unfold cn; have := List.countP_le_length (p := p) (l := l); omega⟩
theorem cn_append (p : K3 → Bool) (l m : List K3) : cn p (l ++ m) = cn p l + cn p m := by unfold cn; rw [List.countP_append]; omega
theorem cn_snoc (p : K3 → Bool) (l : List K3) (k : K3) : cn p (l ++ [k]) = cn p l + if p k then 1 else 0 := by
  rw [cn_append]; unfold cn; simp only [List.countP_cons, List.countP_nil]; split <;> simp
theorem cn_cons (p : K3 → Bool) (l : List K3) (k : K3) : cn p (k :: l) = cn p l + if p k then 1 else 0 := by
  unfold cn; rw [List.countP_cons]; split <;> simp
theorem cn_erase (p : K3 → Bool) {k : K3} : ∀ {l : List K3}, k ∈ l → cn p (l.erase k) = cn p l - if p k then 1 else 0
  | [], h => by simp at h
  | x :: t, h => by
    by_cases e : x = k
    · subst e; rw [List.erase_cons_head, cn_cons]; omega
    · rw [List.erase_cons_tail (by simpa using e), cn_cons, cn_cons, cn_erase p (by simpa [Ne.symm e] using h)]
      omega
theorem cn_true (l : List K3) : cn (fun _ => true) l = l.length := by unfold cn; simp
theorem cn_pos {p : K3 → Bool} {k : K3} {l : List K3} (h : k ∈ l) (hp : p k = true) : 1 ≤ cn p l := by
  unfold cn; have := List.countP_pos_iff.2 ⟨k, h, hp⟩; omega
theorem len_sum {L : List (Int × Int)} (h : Pos L) : (L.length : Int) ≤ sumL L := by
  induction L with
  | nil => simp [sumL]
  | cons p t ih => have h1 := h p (by simp); have h2 := ih (fun q hq => h q (by simp [hq])); simp only [sumL, List.length_cons]; omega
/-- L is the bag of the keys of those that are counted. -/
structure IsBag (key : K3 → Int) (q : K3 → Bool) (l : List K3) (L : List (Int × Int)) : Prop where
  ok : Ok L
  cnt : ∀ x, cnt x L = cn (fun k => q k && (x == key k)) l
  sum : sumL L = cn q l
section
variable {key : K3 → Int} {q : K3 → Bool} {l : List K3} {L M : List (Int × Int)}
theorem IsBag.nil : IsBag key q [] [] := ⟨Ok.nil, fun _ => rfl, rfl⟩
theorem IsBag.ext (h : IsBag key q l L) (h' : IsBag key q l M) : L = M := bag_ext h.ok.srt h'.ok.srt h.ok.pos h'.ok.pos (fun x => by rw [h.cnt, h'.cnt])
theorem IsBag.len (h : IsBag key q l L) : L.length ≤ l.length := by
  have := len_sum h.ok.pos; have := cn_range q l; have := h.sum; omega
theorem IsBag.add (h : IsBag key q l L) (hl : l.length < 1000000) (k : K3) (hq : q k = true) : IsBag key q (l ++ [k]) (addL (key k) 1 L) := by
  have hs := h.sum; have hr := cn_range q l
  have hk : okA 1 L = true := by unfold okA; simp; omega
  refine ⟨h.ok.add _ _, fun x => ?_, ?_⟩
  · unfold addL; rw [hk, if_pos rfl, cnt_set, cn_snoc, hq, ← h.cnt]
    by_cases e : x = key k
    · subst e; simp [sameK_refl]
    · rw [sameK_ne e]; simp [e]
  · unfold addL; rw [hk, if_pos rfl, sumL_set _ _ h.ok.srt, cn_snoc, hq, hs]; simp; omega
theorem IsBag.skip (h : IsBag key q l L) (k : K3) (hq : q k = false) : IsBag key q (l ++ [k]) L :=
  ⟨h.ok, fun x => by rw [h.cnt, cn_snoc, hq]; simp, by rw [h.sum, cn_snoc, hq]; simp⟩
theorem IsBag.ok1 (h : IsBag key q l L) {k : K3} (hk : k ∈ l) (hq : q k = true) : okT (key k) 1 L = true := by
  unfold okT; rw [h.cnt]
  have := cn_pos (p := fun j => q j && (key k == key j)) hk (by simp [hq])
  simp; omega
theorem IsBag.take (h : IsBag key q l L) {k : K3} (hk : k ∈ l) (hq : q k = true) : IsBag key q (l.erase k) (takeL (key k) 1 L) := by
  have ho := h.ok1 hk hq
  refine ⟨h.ok.take _ _, fun x => ?_, ?_⟩
  · unfold takeL; rw [ho, if_pos rfl, cnt_set, cn_erase _ hk, hq, ← h.cnt]
    by_cases e : x = key k
    · subst e; simp [sameK_refl]
    · rw [sameK_ne e]; simp [e]
  · unfold takeL; rw [ho, if_pos rfl, sumL_set _ _ h.ok.srt, cn_erase _ hk, hq, h.sum]; simp; omega
theorem IsBag.skipT (h : IsBag key q l L) {k : K3} (hk : k ∈ l) (hq : q k = false) : IsBag key q (l.erase k) L :=
  ⟨h.ok, fun x => by rw [h.cnt, cn_erase _ hk, hq]; simp, by rw [h.sum, cn_erase _ hk, hq]; simp⟩
end
def kd (k : K3) : Int := k.2.1
def kf (k : K3) : Int := k.2.2
def qd (k : K3) : Bool := decide (0 < k.2.1)
def qf (_ : K3) : Bool := true
abbrev Dep := IsBag kd qd
abbrev Fan := IsBag kf qf
def cls (c : Int) (k : K3) : Bool := k.1 == c
/-- A shape. -/
structure Shp where
  n : Int
  r : Int
  o : Int
  c : Int
  D : List (Int × Int)
  F : List (Int × Int)
structure IsShp (l : List K3) (x : Shp) : Prop where
  n : x.n = l.length
  r : x.r = cn (cls 1) l
  o : x.o = cn (cls 2) l
  c : x.c = cn (cls 3) l
  D : Dep l x.D
  F : Fan l x.F
theorem IsShp.ext {l : List K3} {x y : Shp} (h : IsShp l x) (h' : IsShp l y) : x = y := by
  obtain ⟨a1, a2, a3, a4, a5, a6⟩ := h
  obtain ⟨b1, b2, b3, b4, b5, b6⟩ := h'
  have e5 := a5.ext b5; have e6 := a6.ext b6
  cases x; cases y; simp_all
/-- Are there as many of each as are asked for? -/
def hasB (l out : List K3) : Bool := out.all (fun k => decide (out.count k ≤ l.count k))
def dif (l out : List K3) : List K3 := out.foldl List.erase l
theorem hasB_iff {l out : List K3} : hasB l out = true ↔ ∀ k, out.count k ≤ l.count k := by
  unfold hasB
  rw [List.all_eq_true]
  refine ⟨fun h k => ?_, fun h k _ => by simpa using h k⟩
  by_cases hk : k ∈ out
  · simpa using h k hk
  · rw [List.count_eq_zero_of_not_mem hk]; omega
theorem hasB_left {l a b : List K3} (h : hasB l (a ++ b) = true) : hasB l a = true := by
  rw [hasB_iff] at h ⊢
  intro k; have := h k; rw [List.count_append] at this; omega
theorem hasB_snoc (l a : List K3) (k : K3) : hasB l (a ++ [k]) = (hasB l a && decide (a.count k + 1 ≤ l.count k)) := by
  rw [Bool.eq_iff_iff, Bool.and_eq_true, hasB_iff, hasB_iff, decide_eq_true_eq]
  refine ⟨fun h => ⟨fun j => ?_, ?_⟩, fun h j => ?_⟩
  · have := h j; rw [List.count_append] at this; omega
  · have := h k; rw [List.count_append] at this; simpa using this
  · rw [List.count_append]
    by_cases e : k = j
    · subst e; simpa using h.2
    · have := h.1 j; rw [List.count_cons_of_ne (by simpa using e)]; simpa using this
theorem count_dif (x : K3) : ∀ (out l : List K3), (dif l out).count x = l.count x - out.count x
  | [], l => by simp [dif]
  | k :: t, l => by
    show (dif (l.erase k) t).count x = _
    rw [count_dif x t]
    by_cases e : k = x
    · subst e; rw [List.count_erase_self, List.count_cons_self]; omega
    · rw [List.count_erase_of_ne (by simpa using fun h => e h.symm), List.count_cons_of_ne (by simpa using e)]
theorem mem_dif {l a : List K3} {k : K3} : k ∈ dif l a ↔ a.count k + 1 ≤ l.count k := by
  rw [← List.count_pos_iff, count_dif]; omega
theorem dif_snoc (l a : List K3) (k : K3) : dif l (a ++ [k]) = (dif l a).erase k := by simp [dif]
theorem dif_len (out : List K3) : ∀ l : List K3, (dif l out).length ≤ l.length := by
  induction out with
  | nil => intro l; exact Nat.le_refl _
  | cons k t ih => intro l; exact Nat.le_trans (ih (l.erase k)) List.length_erase_le
def appL (l out ins : List K3) : List K3 := if hasB l out then dif l out ++ ins else l
/-- The greatest number of counts. -/
def great : List (Int × Int) → Int
  | [] => 0
  | p :: t => t.foldl (fun m q => max m q.1) p.1
theorem great_snoc {l : List (Int × Int)} (h : l ≠ []) (q : Int × Int) : great (l ++ [q]) = max (great l) q.1 := by
  cases l with
  | nil => exact absurd rfl h
  | cons p t => simp [great]
end ShapeP
end Go.Proofs.YtgfjpnpbkkadpaaGreat
