/- What is past, plain: keys by when they end. -/
import Derived.Test.YtdpngmgaomghoaaGreatKB
import Derived.Test.YtdpngmgaomghoaaGreatOpens
namespace Go.Proofs.YtdpngmgaomghoaaGreat
open Go.RowKit
namespace ExpP
open KeyP
abbrev It := ByteArray × Int
def gd (p : It) : Prop := p.1.size = 16 ∧ wf64 p.2
def ek (p : It) : ByteArray := ks (kb p.2 ++ p.1.data.toList)
def lt2 (p q : It) : Bool := decide (p.2 < q.2) || (decide (p.2 = q.2) && Ord.lt p.1 q.1)
theorem lt_ek {p q : It} (hp : gd p) (hq : gd q) : Ord.lt (ek p) (ek q) = lt2 p q := by
 unfold ek lt2
 rw [lt_ks, less_kb hp.2 hq.2, ltStr, tl_data, tl_data]
theorem ek_inj {p q : It} (hp : gd p) (hq : gd q) (h : ek p = ek q) : p = q := by
 obtain ⟨h1, h2⟩ := app_inj (ks_inj h) rfl
 have e1 := kb_inj hp.2 hq.2 h1
 have e2 : p.1 = q.1 := by rw [← ks_of p.1, ← ks_of q.1, h2]
 exact Prod.ext e2 e1
structure Rel (M : List It) (K : List (ByteArray × Unit)) : Prop where
 m : Srt M
 k : Srt K
 g : ∀ p ∈ M, gd p
 iff : ∀ x, hasL x K = true ↔ ∃ p ∈ M, x = ek p
theorem Rel.nil : Rel [] [] := ⟨List.Pairwise.nil, List.Pairwise.nil, by simp, fun x => by simp [hasL]⟩
theorem hasL_mem {κ ν : Type} [Ord κ] {x : κ} {L : List (κ × ν)} : hasL x L = true ↔ ∃ p ∈ L, p.1 = x := by
 unfold hasL
 rw [List.any_eq_true]
 exact ⟨fun ⟨p, hp, h⟩ => ⟨p, hp, (sameK_iff.1 h).symm⟩, fun ⟨p, hp, h⟩ => ⟨p, hp, sameK_iff.2 h.symm⟩⟩
theorem getL_iff {κ ν : Type} [Ord κ] {L : List (κ × ν)} (hs : Srt L) {k : κ} {v : ν} : getL k L = some v ↔ (k, v) ∈ L := ⟨getL_mem, mem_getL hs⟩
theorem mem_ins {κ ν : Type} [Ord κ] {L : List (κ × ν)} (hs : Srt L) {k : κ} {v : ν} {p : κ × ν} : p ∈ insL k v L ↔ p = (k, v) ∨ (p ∈ L ∧ p.1 ≠ k) := by
 obtain ⟨a, b⟩ := p
 rw [← getL_iff (srt_insL v hs).1, getL_ins]
 by_cases e : a = k
 ·subst e; rw [sameK_refl, if_pos rfl]; simp [eq_comm]
 ·rw [sameK_ne e, if_neg (by simp), getL_iff hs]; simp [e]
theorem mem_del {κ ν : Type} [Ord κ] {L : List (κ × ν)} (hs : Srt L) {k : κ} {p : κ × ν} : p ∈ delL k L ↔ p ∈ L ∧ p.1 ≠ k := by
 obtain ⟨a, b⟩ := p
 rw [← getL_iff (srt_delL k hs), getL_del]
 by_cases e : a = k
 ·subst e; rw [sameK_refl, if_pos rfl]; simp
 ·rw [sameK_ne e, if_neg (by simp), getL_iff hs]; simp [e]
theorem Rel.drop {M : List It} {K : List (ByteArray × Unit)} (h : Rel M K) {k : ByteArray} {e : Int} (hm : (k, e) ∈ M) : Rel (delL k M) (delL (ek (k, e)) K) := by
 refine ⟨srt_delL k h.m, srt_delL _ h.k, fun p hp => h.g p ((mem_del h.m).1 hp).1, fun x => ?_⟩
 rw [hasL_mem]
 constructor
 ·rintro ⟨q, hq, rfl⟩
  obtain ⟨h1, h2⟩ := (mem_del h.k).1 hq
  obtain ⟨p, hp, he⟩ := (h.iff q.1).1 (hasL_mem.2 ⟨q, h1, rfl⟩)
  refine ⟨p, (mem_del h.m).2 ⟨hp, fun e2 => h2 ?_⟩, he⟩
  have : p = (k, e) := by
   have h3 := mem_getL h.m (k := p.1) (v := p.2) hp
   rw [e2, mem_getL h.m hm] at h3
   exact Prod.ext e2 (by simpa using h3.symm)
  rw [he, this]
 ·rintro ⟨p, hp, rfl⟩
  obtain ⟨h1, h2⟩ := (mem_del h.m).1 hp
  obtain ⟨q, hq, he⟩ := hasL_mem.1 ((h.iff (ek p)).2 ⟨p, h1, rfl⟩)
  exact ⟨q, (mem_del h.k).2 ⟨hq, fun e2 => h2 (congrArg Prod.fst (ek_inj (h.g p h1) (h.g _ hm) (he.symm.trans e2)))⟩, he⟩
theorem Rel.put {M : List It} {K : List (ByteArray × Unit)} (h : Rel M K) {k : ByteArray} {e : Int} (hg : gd (k, e)) (hn : getL k M = none) : Rel (insL k e M) (insL (ek (k, e)) () K) := by
 have hno : ∀ p ∈ M, p.1 ≠ k := fun p hp e2 => by
  have := mem_getL h.m (k := p.1) (v := p.2) hp
  rw [e2, hn] at this; cases this
 refine ⟨(srt_insL e h.m).1, (srt_insL () h.k).1, fun p hp => ?_, fun x => ?_⟩
 ·rcases (mem_ins h.m).1 hp with rfl | ⟨hp, -⟩
  ·exact hg
  ·exact h.g p hp
 ·rw [hasL_mem]
  constructor
  ·rintro ⟨q, hq, rfl⟩
   rcases (mem_ins h.k).1 hq with rfl | ⟨h1, h2⟩
   ·exact ⟨(k, e), (mem_ins h.m).2 (.inl rfl), rfl⟩
   ·obtain ⟨p, hp, he⟩ := (h.iff q.1).1 (hasL_mem.2 ⟨q, h1, rfl⟩)
    exact ⟨p, (mem_ins h.m).2 (.inr ⟨hp, hno p hp⟩), he⟩
  ·rintro ⟨p, hp, rfl⟩
   rcases (mem_ins h.m).1 hp with rfl | ⟨hp, -⟩
   ·exact ⟨(ek (k, e), ()), (mem_ins h.k).2 (.inl rfl), rfl⟩
   ·obtain ⟨q, hq, he⟩ := hasL_mem.1 ((h.iff (ek p)).2 ⟨p, hp, rfl⟩)
    by_cases e2 : q.1 = ek (k, e)
    ·exact ⟨(ek (k, e), ()), (mem_ins h.k).2 (.inl rfl), e2.symm.trans he⟩
    ·exact ⟨q, (mem_ins h.k).2 (.inr ⟨hq, e2⟩), he⟩
theorem Rel.items {M : List It} {K : List (ByteArray × Unit)} (h : Rel M K) : ∃ KL : List It, K = KL.map (fun p => (ek p, ())) ∧ KL.Pairwise (fun p q => lt2 p q = true) ∧ (∀ p, p ∈ KL ↔ p ∈ M) := by
 have key : ∀ K' : List (ByteArray × Unit), (∀ q ∈ K', ∃ p ∈ M, q.1 = ek p) → ∃ KL : List It, K' = KL.map (fun p => (ek p, ())) ∧ ∀ p ∈ KL, p ∈ M := by
  intro K'
  induction K' with
  | nil => intro _; exact ⟨[], rfl, by simp⟩
  | cons q t ih =>
   intro hq
   obtain ⟨KL, h1, h2⟩ := ih (fun q hq' => hq q (by simp [hq']))
   obtain ⟨p, hp, he⟩ := hq q (by simp)
   refine ⟨p :: KL, ?_, fun r hr => ?_⟩
   ·rw [List.map_cons, ← h1, ← he]
   ·rcases List.mem_cons.1 hr with rfl | hr
    ·exact hp
    ·exact h2 r hr
 obtain ⟨KL, h1, h2⟩ := key K (fun q hq => (h.iff q.1).1 (hasL_mem.2 ⟨q, hq, rfl⟩))
 refine ⟨KL, h1, ?_, fun p => ⟨h2 p, fun hp => ?_⟩⟩
 ·have hk := h.k
  rw [h1] at hk
  unfold Srt at hk
  rw [List.pairwise_map] at hk
  exact hk.imp_of_mem (fun {a b} ha hb hab => by rw [← lt_ek (h.g a (h2 a ha)) (h.g b (h2 b hb))]; exact hab)
 ·obtain ⟨q, hq, he⟩ := hasL_mem.1 ((h.iff (ek p)).2 ⟨p, hp, rfl⟩)
  rw [h1] at hq
  obtain ⟨r, hr, rfl⟩ := List.mem_map.1 hq
  rwa [← ek_inj (h.g r (h2 r hr)) (h.g p hp) he]
def below (time : Int) (KL : List It) : List It := KL.takeWhile (fun p => decide (p.2 < time))
theorem lt2_irr (p : It) : lt2 p p = false := by simp [lt2, Ord.irr]
theorem lt2_end {p q : It} (h : lt2 p q = true) : p.2 ≤ q.2 := by
 simp only [lt2, Bool.or_eq_true, Bool.and_eq_true, decide_eq_true_eq] at h
 omega
theorem below_mem {time : Int} : ∀ {KL : List It}, KL.Pairwise (fun p q => lt2 p q = true) → ∀ p, p ∈ below time KL ↔ p ∈ KL ∧ p.2 < time
 | [], _, p => by simp [below]
 | a :: t, h, p => by
  obtain ⟨h1, h2⟩ := List.pairwise_cons.1 h
  have ih := below_mem (time := time) h2 p
  unfold below at ih ⊢
  rw [List.takeWhile_cons]
  by_cases e : a.2 < time
  ·rw [if_pos (by simpa using e), List.mem_cons, List.mem_cons, ih]
   constructor
   ·rintro (rfl | ⟨h3, h4⟩)
    ·exact ⟨.inl rfl, e⟩
    ·exact ⟨.inr h3, h4⟩
   ·rintro ⟨rfl | h3, h4⟩
    ·exact .inl rfl
    ·exact .inr ⟨h3, h4⟩
  ·rw [if_neg (by simpa using e)]
   constructor
   ·intro h; simp at h
   ·rintro ⟨h3, h4⟩
    rcases List.mem_cons.1 h3 with rfl | h3
    ·exact absurd h4 e
    ·have := lt2_end (h1 p h3); omega
theorem below_srt {time : Int} {KL : List It} (h : KL.Pairwise (fun p q => lt2 p q = true)) : (below time KL).Pairwise (fun p q => lt2 p q = true) := h.sublist (List.takeWhile_sublist _)
theorem nodup_lt2 {A : List It} (h : A.Pairwise (fun p q => lt2 p q = true)) : A.Nodup := h.imp (fun {a b} hab e => by subst e; rw [lt2_irr] at hab; cases hab)
theorem nodup_srt {κ ν : Type} [Ord κ] {L : List (κ × ν)} (h : Srt L) : L.Nodup := List.Pairwise.imp (fun {a b} hab e => by subst e; rw [Ord.irr] at hab; cases hab) h
theorem Rel.len {M : List It} {K : List (ByteArray × Unit)} (h : Rel M K) : K.length = M.length := by
 obtain ⟨KL, rfl, h1, h2⟩ := h.items
 rw [List.length_map]
 exact ((List.perm_ext_iff_of_nodup (nodup_lt2 h1) (nodup_srt h.m)).2 h2).length_eq
theorem del_none {M : List It} {k : ByteArray} (hs : Srt M) (h : getL k M = none) : delL k M = M := by
 apply srt_ext (srt_delL k hs) hs
 intro j
 rw [getL_del]
 by_cases e : j = k
 ·subst e; rw [sameK_refl, if_pos rfl, h]
 ·rw [sameK_ne e, if_neg (by simp)]
theorem ins_del {M : List It} {k : ByteArray} (v : Int) (hs : Srt M) : insL k v (delL k M) = insL k v M := by
 apply srt_ext (srt_insL v (srt_delL k hs)).1 (srt_insL v hs).1
 intro j
 rw [getL_ins, getL_ins, getL_del]
 by_cases e : j = k
 ·subst e; rw [sameK_refl, if_pos rfl]; rfl
 ·rw [sameK_ne e, if_neg (by simp), if_neg (by simp)]; rfl
theorem get_del {M : List It} (k : ByteArray) : getL k (delL k M) = none := by rw [getL_del, sameK_refl, if_pos rfl]
end ExpP
end Go.Proofs.YtdpngmgaomghoaaGreat
