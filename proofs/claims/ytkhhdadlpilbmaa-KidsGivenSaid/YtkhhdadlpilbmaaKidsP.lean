/- Spans by their parents, plain. -/
import Derived.Test.YtkhhdadlpilbmaaSetP
import Derived.Test.YtkhhdadlpilbmaaExpP
import Derived.Test.YtkhhdadlpilbmaaRounds
namespace Go.Proofs.Ytkhhdadlpilbmaa
open Go.RowKit
namespace KidsP
open KeyP SetP
/-- A span with its parent, and nothing besides. -/
abbrev sn (t i p : Int) : Sn := ⟨t, i, p, 0, ByteArray.empty, ByteArray.empty, 0, 0, false⟩
def gd (x : Sn) : Prop := wf64 x.t ∧ wf64 x.i ∧ wf64 x.p
theorem gd.gk {x : Sn} (h : gd x) : gk x := ⟨h.1, h.2.1⟩
/-- The key of a kid. -/
abbrev k3 (x : Sn) : ByteArray := key3 x.t x.p x.i
/-- Told ahead, among the kids. -/
def lt3 (a b : Sn) : Bool := decide (a.t < b.t) || (decide (a.t = b.t) && (decide (a.p < b.p) || (decide (a.p = b.p) && decide (a.i < b.i))))
theorem lt_k3 {a b : Sn} (ha : gd a) (hb : gd b) : Ord.lt (k3 a) (k3 b) = lt3 a b := lt_key3 ha.1 ha.2.2 ha.2.1 hb.1 hb.2.2 hb.2.1
theorem lt3_iff {a b : Sn} : lt3 a b = true ↔ a.t < b.t ∨ (a.t = b.t ∧ (a.p < b.p ∨ (a.p = b.p ∧ a.i < b.i))) := by simp [lt3]
theorem lt3_asym {a b : Sn} (h : lt3 a b = true) : lt3 b a = false := by
  cases h' : lt3 b a with
  | false => rfl
  | true => rw [lt3_iff] at h h'; omega
/-- Only its trace, its number and its parent are told. -/
def bare (x : Sn) : Prop := x = sn x.t x.i x.p
theorem k3_inj {a b : Sn} (ha : gd a) (hb : gd b) (h : k3 a = k3 b) : a.t = b.t ∧ a.i = b.i ∧ a.p = b.p := by
  have := key3_inj ha.1 ha.2.2 ha.2.1 hb.1 hb.2.2 hb.2.1 h
  exact ⟨this.1, this.2.2, this.2.1⟩
/-- The index: the spans L, the kids' keys K. -/
structure Rel (L : List Sn) (K : List (ByteArray × Unit)) : Prop where
  s : Srs L
  g : ∀ x ∈ L, gd x
  b : ∀ x ∈ L, bare x
  k : Srt K
  iff : ∀ z, hasL z K = true ↔ ∃ x ∈ L, z = k3 x
theorem Rel.nil : Rel [] [] := ⟨List.Pairwise.nil, by simp, by simp, List.Pairwise.nil, fun x => by simp [hasL]⟩
theorem Rel.gk {L : List Sn} {K : List (ByteArray × Unit)} (h : Rel L K) : ∀ x ∈ L, SetP.gk x := fun x hx => (h.g x hx).gk
theorem Rel.inj {L : List Sn} {K : List (ByteArray × Unit)} (h : Rel L K) {x y : Sn} (hx : x ∈ L) (hy : y ∈ L) (e : k3 x = k3 y) : x = y := by
  have := k3_inj (h.g x hx) (h.g y hy) e
  exact srs_uni h.s hx hy (one_iff.2 ⟨this.1, this.2.1⟩)
theorem Rel.drop {L : List Sn} {K : List (ByteArray × Unit)} (h : Rel L K) {x : Sn} (hx : x ∈ L) : Rel (out x.t x.i L) (delL (k3 x) K) := by
  refine ⟨out_srs h.s, fun y hy => h.g y (out_mem.1 hy).1, fun y hy => h.b y (out_mem.1 hy).1, srt_delL _ h.k, fun z => ?_⟩
  rw [ExpP.hasL_mem]
  constructor
  · rintro ⟨q, hq, rfl⟩
    obtain ⟨h1, h2⟩ := (ExpP.mem_del h.k).1 hq
    obtain ⟨y, hy, he⟩ := (h.iff q.1).1 (ExpP.hasL_mem.2 ⟨q, h1, rfl⟩)
    refine ⟨y, out_mem.2 ⟨hy, fun e => h2 ?_⟩, he⟩
    have : y = x := srs_uni h.s hy hx (one_iff.2 e)
    rw [he, this]
  · rintro ⟨y, hy, rfl⟩
    obtain ⟨h1, h2⟩ := out_mem.1 hy
    obtain ⟨q, hq, he⟩ := ExpP.hasL_mem.1 ((h.iff (k3 y)).2 ⟨y, h1, rfl⟩)
    refine ⟨q, (ExpP.mem_del h.k).2 ⟨hq, fun e2 => h2 ?_⟩, he⟩
    have := h.inj h1 hx (he.symm.trans e2)
    rw [this]; exact ⟨rfl, rfl⟩
theorem Rel.put {L : List Sn} {K : List (ByteArray × Unit)} (h : Rel L K) {x : Sn} (hg : gd x) (hb : bare x) (hn : fnd x L = none) : Rel (ins x L) (insL (k3 x) () K) := by
  have hno : ∀ y ∈ L, one y x = false := fnd_none hn
  have hmem : ∀ y, y ∈ ins x L ↔ y = x ∨ y ∈ L := fun y => by
    rw [ins_mem h.s]
    exact ⟨fun h => h.imp id (·.1), fun h => h.imp id (fun hy => ⟨hy, hno y hy⟩)⟩
  refine ⟨ins_srs h.s, fun y hy => ?_, fun y hy => ?_, (srt_insL () h.k).1, fun z => ?_⟩
  · rcases (hmem y).1 hy with rfl | hy
    · exact hg
    · exact h.g y hy
  · rcases (hmem y).1 hy with rfl | hy
    · exact hb
    · exact h.b y hy
  · rw [ExpP.hasL_mem]
    constructor
    · rintro ⟨q, hq, rfl⟩
      rcases (ExpP.mem_ins h.k).1 hq with rfl | ⟨h1, h2⟩
      · exact ⟨x, (hmem x).2 (.inl rfl), rfl⟩
      · obtain ⟨y, hy, he⟩ := (h.iff q.1).1 (ExpP.hasL_mem.2 ⟨q, h1, rfl⟩)
        exact ⟨y, (hmem y).2 (.inr hy), he⟩
    · rintro ⟨y, hy, rfl⟩
      rcases (hmem y).1 hy with rfl | hy
      · exact ⟨(k3 y, ()), (ExpP.mem_ins h.k).2 (.inl rfl), rfl⟩
      · obtain ⟨q, hq, he⟩ := ExpP.hasL_mem.1 ((h.iff (k3 y)).2 ⟨y, hy, rfl⟩)
        by_cases e2 : q.1 = k3 x
        · exact ⟨(k3 x, ()), (ExpP.mem_ins h.k).2 (.inl rfl), e2.symm.trans he⟩
        · exact ⟨q, (ExpP.mem_ins h.k).2 (.inr ⟨hq, e2⟩), he⟩
/-- The kids' keys, each told by its span. -/
theorem Rel.items {L : List Sn} {K : List (ByteArray × Unit)} (h : Rel L K) : ∃ KL : List Sn, K = KL.map (fun x => (k3 x, ())) ∧ KL.Pairwise (fun a b => lt3 a b = true) ∧ (∀ x, x ∈ KL ↔ x ∈ L) := by
  have key : ∀ K' : List (ByteArray × Unit), (∀ q ∈ K', ∃ x ∈ L, q.1 = k3 x) → ∃ KL : List Sn, K' = KL.map (fun x => (k3 x, ())) ∧ ∀ x ∈ KL, x ∈ L := by
    intro K'
    induction K' with
    | nil => intro _; exact ⟨[], rfl, by simp⟩
    | cons q t ih =>
      intro hq
      obtain ⟨KL, h1, h2⟩ := ih (fun q hq' => hq q (by simp [hq']))
      obtain ⟨p, hp, he⟩ := hq q (by simp)
      refine ⟨p :: KL, ?_, fun r hr => ?_⟩
      · rw [List.map_cons, ← h1, ← he]
      · rcases List.mem_cons.1 hr with rfl | hr
        · exact hp
        · exact h2 r hr
  obtain ⟨KL, h1, h2⟩ := key K (fun q hq => (h.iff q.1).1 (ExpP.hasL_mem.2 ⟨q, hq, rfl⟩))
  refine ⟨KL, h1, ?_, fun p => ⟨h2 p, fun hp => ?_⟩⟩
  · have hk := h.k
    rw [h1] at hk
    unfold Srt at hk
    rw [List.pairwise_map] at hk
    exact hk.imp_of_mem (fun {a b} ha hb hab => by rw [← lt_k3 (h.g a (h2 a ha)) (h.g b (h2 b hb))]; exact hab)
  · obtain ⟨q, hq, he⟩ := ExpP.hasL_mem.1 ((h.iff (k3 p)).2 ⟨p, hp, rfl⟩)
    rw [h1] at hq
    obtain ⟨r, hr, rfl⟩ := List.mem_map.1 hq
    rwa [← h.inj (h2 r hr) hp he]
theorem nodup3 {A : List Sn} (h : A.Pairwise (fun a b => lt3 a b = true)) : A.Nodup := h.imp (fun {a b} hab e => by subst e; rw [lt3_asym hab] at hab; cases hab)
theorem Rel.len {L : List Sn} {K : List (ByteArray × Unit)} (h : Rel L K) : K.length = L.length := by
  obtain ⟨KL, rfl, h1, h2⟩ := h.items
  rw [List.length_map]
  exact ((List.perm_ext_iff_of_nodup (nodup3 h1) (srs_nodup h.s)).2 h2).length_eq
/-- The spans of a trace; the kids of one. -/
def ofT (t : Int) (L : List Sn) : List Sn := L.filter (fun x => decide (x.t = t))
def ofP (t p : Int) (L : List Sn) : List Sn := L.filter (fun x => decide (x.t = t) && decide (x.p = p))
/-- In a list in order, what is so lies together. -/
theorem run_of {α : Type} {R : α → α → Prop} (lo Q : α → Bool) (hq : ∀ a, Q a = true → lo a = true) (hm : ∀ a b, R a b → lo a = true → Q a = false → Q b = false) : ∀ {L : List α}, L.Pairwise R → (L.filter lo).takeWhile Q = L.filter Q
  | [], _ => rfl
  | a :: L, hp => by
    obtain ⟨p1, p2⟩ := List.pairwise_cons.1 hp
    have ih := run_of lo Q hq hm p2
    rw [List.filter_cons, List.filter_cons]
    cases hlo : lo a with
    | true =>
      rw [if_pos rfl, List.takeWhile_cons]
      cases hQ : Q a with
      | true => rw [if_pos rfl, if_pos rfl, ih]
      | false =>
        rw [if_neg (by simp), if_neg (by simp), eq_comm, List.filter_eq_nil_iff]
        intro b hb; rw [hm a b (p1 b hb) hlo hQ]; simp
    | false =>
      have hQ : Q a = false := by
        cases hQ : Q a with
        | false => rfl
        | true => rw [hq a hQ] at hlo; cases hlo
      rw [if_neg (by simp), hQ, if_neg (by simp), ih]
/-- The least number. -/
abbrev mn : Int := -9223372036854775808
theorem wf_mn : wf64 mn := by unfold wf64 mn; omega
/-- What is given from a trace's first key on, as long as it is of the trace. -/
theorem spans_run {L : List Sn} (hs : Srs L) (hg : ∀ x ∈ L, gd x) {t : Int} (ht : wf64 t) : (geL (key2 t mn) (mp (fun x => x.p) L)) = mp (fun x => x.p) (L.filter (fun x => decide (t ≤ x.t))) ∧ (L.filter (fun x => decide (t ≤ x.t))).takeWhile (fun x => decide (x.t = t)) = ofT t L := by
  constructor
  · unfold geL mp
    rw [List.filter_map]
    congr 1
    apply List.filter_congr
    intro x hx
    have h := lt_key2 (hg x hx).1 (hg x hx).2.1 ht wf_mn
    have h2 := (hg x hx).2.1
    unfold wf64 at h2
    simp only [Function.comp, kk, h]
    rw [Bool.eq_iff_iff]; simp [mn]; omega
  · exact run_of _ _ (fun a h => by simp at h ⊢; omega) (fun a b hR h1 h2 => by
      simp only [bef, Bool.or_eq_true, Bool.and_eq_true, decide_eq_true_eq] at hR
      simp at h1 h2 ⊢; omega) hs
/-- What is given from a parent's first kid on, as long as it is its kid. -/
def lo3 (t p : Int) (x : Sn) : Bool := decide (t < x.t) || (decide (t = x.t) && decide (p ≤ x.p))
theorem kids_run {L KL : List Sn} (hK : KL.Pairwise (fun a b => lt3 a b = true)) (hg : ∀ x ∈ L, gd x) (hm : ∀ x, x ∈ KL ↔ x ∈ L) {t p : Int} (ht : wf64 t) (hp : wf64 p) : (geL (key3 t p mn) (KL.map (fun x => (k3 x, ())))) = (KL.filter (lo3 t p)).map (fun x => (k3 x, ())) ∧ (KL.filter (lo3 t p)).takeWhile (fun x => decide (x.t = t) && decide (x.p = p)) = ofP t p KL := by
  constructor
  · unfold geL
    rw [List.filter_map]
    congr 1
    apply List.filter_congr
    intro x hx
    have hx' := hg x ((hm x).1 hx)
    have h := lt_key3 hx'.1 hx'.2.2 hx'.2.1 ht hp wf_mn
    have h2 := hx'.2.1
    unfold wf64 at h2
    simp only [Function.comp, k3, h]
    rw [Bool.eq_iff_iff]; simp [lo3, mn]; omega
  · exact run_of _ _ (fun a h => by simp [lo3] at h ⊢; omega) (fun a b hR h1 h2 => by
      rw [lt3_iff] at hR
      simp [lo3] at h1 h2 ⊢; omega) hK
/-- The kids of one are told in order of their numbers, whichever way. -/
theorem ofP_eq {L KL : List Sn} (hs : Srs L) (hK : KL.Pairwise (fun a b => lt3 a b = true)) (hm : ∀ x, x ∈ KL ↔ x ∈ L) (t p : Int) : ofP t p KL = ofP t p L := by
  have h1 : (ofP t p KL).Pairwise (fun a b => bef a b = true) := by
    unfold ofP
    refine (hK.filter _).imp_of_mem (fun {a b} ha hb h => ?_)
    have ha := (List.mem_filter.1 ha).2
    have hb := (List.mem_filter.1 hb).2
    rw [lt3_iff] at h
    simp only [Bool.and_eq_true, decide_eq_true_eq] at ha hb
    simp only [bef, Bool.or_eq_true, Bool.and_eq_true, decide_eq_true_eq]; omega
  exact srs_ext h1 (hs.filter _) (fun y => by unfold ofP; rw [List.mem_filter, List.mem_filter, hm])
/-- The numbers of the kids of one. -/
abbrev kids (t p : Int) (L : List Sn) : List Int := (ofP t p L).map (·.i)
abbrev spans (t : Int) (L : List Sn) : List Int := (ofT t L).map (·.i)
/-- Putting and dropping. -/
def putK (x : Sn) (L : List Sn) : List Sn := ins (sn x.t x.i x.p) L
theorem ins_out {x : Sn} {L : List Sn} (hs : Srs L) : ins x (out x.t x.i L) = ins x L := by
  refine srs_ext (ins_srs (out_srs hs)) (ins_srs hs) (fun y => ?_)
  rw [ins_mem (out_srs hs), ins_mem hs, out_mem]
  constructor
  · rintro (h | ⟨⟨h1, -⟩, h2⟩)
    · exact .inl h
    · exact .inr ⟨h1, h2⟩
  · rintro (h | ⟨h1, h2⟩)
    · exact .inl h
    · refine .inr ⟨⟨h1, fun e => ?_⟩, h2⟩
      rw [show one y x = true from one_iff.2 e] at h2; cases h2
theorem fnd_out {x : Sn} {L : List Sn} : fnd x (out x.t x.i L) = none := by
  unfold fnd
  rw [List.find?_eq_none]
  intro y hy h
  exact (out_mem.1 hy).2 (one_iff.1 (by simpa using h))
theorem out_fnd {x : Sn} {L : List Sn} (h : fnd x L = none) : out x.t x.i L = L := out_none (fun y hy e => by have := fnd_none h y hy; rw [one_iff.2 e] at this; cases this)
end KidsP
end Go.Proofs.Ytkhhdadlpilbmaa
