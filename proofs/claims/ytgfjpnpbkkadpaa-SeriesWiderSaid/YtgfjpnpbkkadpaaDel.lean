/- The library's slices.DeleteFunc at a list of records of one's own: it writes into its own cells. -/
import Derived.Test.YtgfjpnpbkkadpaaSli
namespace Go.Proofs.Ytgfjpnpbkkadpaa
open Go.RowKit
namespace Sli
open KeyP PackP SetP SetW SetF
attribute [local go_sem] Eng.ev Eng.getO_cons Eng.getO_nil
theorem idx_spec (p : Sn → Bool) (L : List Sn) : (idx p L = -1 ∧ ∀ y ∈ L, p y = false) ∨ ∃ k, ∃ h : k < L.length, idx p L = (k : Int) ∧ p L[k] = true ∧ ∀ y ∈ L.take k, p y = false := by
  unfold idx
  cases h : L.findIdx? p with
  | none => rw [List.findIdx?_eq_none_iff] at h; exact .inl ⟨rfl, h⟩
  | some k =>
    obtain ⟨hk, h1, h2⟩ := List.findIdx?_eq_some_iff_getElem.1 h
    refine .inr ⟨k, hk, rfl, h1, fun y hy => ?_⟩
    obtain ⟨j, hj, rfl⟩ := List.getElem_of_mem hy
    rw [List.length_take] at hj
    rw [List.getElem_take]
    have := h2 j (by omega)
    simpa using this
abbrev keep (p : Sn → Bool) (L : List Sn) : List Sn := L.filter (fun x => !p x)
theorem keep_all {p : Sn → Bool} {L : List Sn} (h : ∀ y ∈ L, p y = false) : keep p L = L := List.filter_eq_self.2 (fun y hy => by rw [h y hy]; rfl)
/-- A block that holds records, and maybe more. -/
structure Rw (w : World) (b cap : Nat) (M : List Sn) : Prop where
  h : ∃ cur : Array Value, Bk w b cur TSn ∧ cur.size = cap * 9 ∧ ∀ (j : Nat) (u : Value), (M.flatMap scs)[j]? = some u → cur[j]? = some u
theorem Rw.fr {S : Nat → Prop} {w w' : World} {b cap : Nat} {M : List Sn} (h : Rw w b cap M) (hf : Fr S w w') (hs : ¬ S b) : Rw w' b cap M := by
  obtain ⟨cur, h1, h2, h3⟩ := h.h
  exact ⟨cur, h1.fr hf (fun k hk => by simp at hk; subst hk; exact hs), h2, h3⟩
theorem Rw.lt {w : World} {b cap : Nat} {M : List Sn} (h : Rw w b cap M) : b < w.heap.size := by obtain ⟨cur, h1, -⟩ := h.h; exact lt_of_heap h1
theorem Rw.at {w : World} {b cap : Nat} {M : List Sn} (h : Rw w b cap M) {k : Nat} (hk : k < M.length) : At w b (k * 9) M[k] := by
  obtain ⟨cur, h1, h2, h3⟩ := h.h
  have := At.row (o := 0) (fun j u hu => by rw [Nat.zero_add, h1.cell]; exact h3 j u hu) hk
  rwa [Nat.zero_add] at this
theorem Rw.free {w : World} {b cap : Nat} {M : List Sn} (h : Rw w b cap M) (o : Nat) : w.frozen? ⟨b, o, none⟩ = false := by obtain ⟨cur, h1, -⟩ := h.h; exact h1.free o
/-- A record's cells, one by one. -/
def put9 (w : World) (b o : Nat) (y : Sn) : World := ((((((((w.setCell ⟨b, o, none⟩ (.int .i64 y.t)).setCell ⟨b, o + 1, none⟩ (.int .i64 y.i)).setCell ⟨b, o + 1 + 1, none⟩ (.int .i64 y.p)).setCell ⟨b, o + 1 + 1 + 1, none⟩ (.int .i64 y.r)).setCell ⟨b, o + 1 + 1 + 1 + 1, none⟩ (.string y.s)).setCell ⟨b, o + 1 + 1 + 1 + 1 + 1, none⟩ (.string y.o)).setCell ⟨b, o + 1 + 1 + 1 + 1 + 1 + 1, none⟩ (.int .i64 y.b)).setCell ⟨b, o + 1 + 1 + 1 + 1 + 1 + 1 + 1, none⟩ (.int .i64 y.d)).setCell ⟨b, o + 1 + 1 + 1 + 1 + 1 + 1 + 1 + 1, none⟩ (.bool y.g)
theorem frb {S : Nat → Prop} {w w' : World} (h : Fr S w w') (b o : Nat) (u : Value) (hb : S b) : Fr S w (w'.setCell ⟨b, o, none⟩ u) := h.trans (Fr.setCell w' ⟨b, o, none⟩ u (S := S) hb) (fun _ _ h => h) (fun _ _ h => h)
theorem put9_fr (w : World) (b o : Nat) (y : Sn) : Fr (fun k => k = b) w (put9 w b o y) := by
  unfold put9
  exact frb (S := fun k => k = b) (frb (S := fun k => k = b) (frb (S := fun k => k = b) (frb (S := fun k => k = b) (frb (S := fun k => k = b) (frb (S := fun k => k = b) (frb (S := fun k => k = b) (frb (S := fun k => k = b) (frb (S := fun k => k = b) (Fr.refl _ w) _ _ _ rfl) _ _ _ rfl) _ _ _ rfl) _ _ _ rfl) _ _ _ rfl) _ _ _ rfl) _ _ _ rfl) _ _ _ rfl) _ _ _ rfl
theorem set_at (M : List Sn) (i : Nat) (y : Sn) (j : Nat) : ((M.set i y).flatMap scs)[j]? = if i < M.length ∧ i * 9 ≤ j ∧ j < i * 9 + 9 then (scs y)[j - i * 9]? else (M.flatMap scs)[j]? := by
  by_cases hj : j / 9 < M.length
  · have h9 : j % 9 < 9 := Nat.mod_lt _ (by omega)
    have e : j = j / 9 * 9 + j % 9 := by omega
    have h1 := flat_at (f := scs) (sz := 9) scs_len (L := M.set i y) (k := j / 9) (by simpa using hj) h9
    have h2 := flat_at (f := scs) (sz := 9) scs_len (L := M) (k := j / 9) hj h9
    rw [← e] at h1 h2
    rw [h1, h2]
    by_cases hi : i = j / 9
    · subst hi
      rw [if_pos ⟨hj, by omega, by omega⟩, List.getElem_set_self, show j - j / 9 * 9 = j % 9 by omega]
    · rw [if_neg (by omega), List.getElem_set_ne hi]
  · have l1 := flat_length scs_len (M.set i y)
    have l2 := flat_length scs_len M
    rw [List.length_set] at l1
    rw [if_neg (by omega), List.getElem?_eq_none (by omega), List.getElem?_eq_none (by omega)]
theorem nine {cur : Array Value} {o : Nat} (v0 v1 v2 v3 v4 v5 v6 v7 v8 : Value) (h : o + 9 ≤ cur.size) (j : Nat) : (((((((((cur.setIfInBounds (o) v0).setIfInBounds (o + 1) v1).setIfInBounds (o + 1 + 1) v2).setIfInBounds (o + 1 + 1 + 1) v3).setIfInBounds (o + 1 + 1 + 1 + 1) v4).setIfInBounds (o + 1 + 1 + 1 + 1 + 1) v5).setIfInBounds (o + 1 + 1 + 1 + 1 + 1 + 1) v6).setIfInBounds (o + 1 + 1 + 1 + 1 + 1 + 1 + 1) v7).setIfInBounds (o + 1 + 1 + 1 + 1 + 1 + 1 + 1 + 1) v8)[j]? = if o ≤ j ∧ j < o + 9 then [v0, v1, v2, v3, v4, v5, v6, v7, v8][j - o]? else cur[j]? := by
  split
  · rename_i hc
    obtain ⟨r, hr, rfl⟩ : ∃ r, r < 9 ∧ j = o + r := ⟨j - o, by omega, by omega⟩
    rw [show o + r - o = r by omega]
    clear hc
    match r, hr with
    | 0, _ => exact (Array.getElem?_setIfInBounds_ne (by omega)).trans ((Array.getElem?_setIfInBounds_ne (by omega)).trans ((Array.getElem?_setIfInBounds_ne (by omega)).trans ((Array.getElem?_setIfInBounds_ne (by omega)).trans ((Array.getElem?_setIfInBounds_ne (by omega)).trans ((Array.getElem?_setIfInBounds_ne (by omega)).trans ((Array.getElem?_setIfInBounds_ne (by omega)).trans ((Array.getElem?_setIfInBounds_ne (by omega)).trans ((Array.getElem?_setIfInBounds_self_of_lt (by (try simp only [Array.size_setIfInBounds]); omega))))))))))
    | 1, _ => exact (Array.getElem?_setIfInBounds_ne (by omega)).trans ((Array.getElem?_setIfInBounds_ne (by omega)).trans ((Array.getElem?_setIfInBounds_ne (by omega)).trans ((Array.getElem?_setIfInBounds_ne (by omega)).trans ((Array.getElem?_setIfInBounds_ne (by omega)).trans ((Array.getElem?_setIfInBounds_ne (by omega)).trans ((Array.getElem?_setIfInBounds_ne (by omega)).trans ((Array.getElem?_setIfInBounds_self_of_lt (by (try simp only [Array.size_setIfInBounds]); omega)))))))))
    | 2, _ => exact (Array.getElem?_setIfInBounds_ne (by omega)).trans ((Array.getElem?_setIfInBounds_ne (by omega)).trans ((Array.getElem?_setIfInBounds_ne (by omega)).trans ((Array.getElem?_setIfInBounds_ne (by omega)).trans ((Array.getElem?_setIfInBounds_ne (by omega)).trans ((Array.getElem?_setIfInBounds_ne (by omega)).trans ((Array.getElem?_setIfInBounds_self_of_lt (by (try simp only [Array.size_setIfInBounds]); omega))))))))
    | 3, _ => exact (Array.getElem?_setIfInBounds_ne (by omega)).trans ((Array.getElem?_setIfInBounds_ne (by omega)).trans ((Array.getElem?_setIfInBounds_ne (by omega)).trans ((Array.getElem?_setIfInBounds_ne (by omega)).trans ((Array.getElem?_setIfInBounds_ne (by omega)).trans ((Array.getElem?_setIfInBounds_self_of_lt (by (try simp only [Array.size_setIfInBounds]); omega)))))))
    | 4, _ => exact (Array.getElem?_setIfInBounds_ne (by omega)).trans ((Array.getElem?_setIfInBounds_ne (by omega)).trans ((Array.getElem?_setIfInBounds_ne (by omega)).trans ((Array.getElem?_setIfInBounds_ne (by omega)).trans ((Array.getElem?_setIfInBounds_self_of_lt (by (try simp only [Array.size_setIfInBounds]); omega))))))
    | 5, _ => exact (Array.getElem?_setIfInBounds_ne (by omega)).trans ((Array.getElem?_setIfInBounds_ne (by omega)).trans ((Array.getElem?_setIfInBounds_ne (by omega)).trans ((Array.getElem?_setIfInBounds_self_of_lt (by (try simp only [Array.size_setIfInBounds]); omega)))))
    | 6, _ => exact (Array.getElem?_setIfInBounds_ne (by omega)).trans ((Array.getElem?_setIfInBounds_ne (by omega)).trans ((Array.getElem?_setIfInBounds_self_of_lt (by (try simp only [Array.size_setIfInBounds]); omega))))
    | 7, _ => exact (Array.getElem?_setIfInBounds_ne (by omega)).trans ((Array.getElem?_setIfInBounds_self_of_lt (by (try simp only [Array.size_setIfInBounds]); omega)))
    | 8, _ => exact (Array.getElem?_setIfInBounds_self_of_lt (by (try simp only [Array.size_setIfInBounds]); omega))
  · exact (Array.getElem?_setIfInBounds_ne (by omega)).trans ((Array.getElem?_setIfInBounds_ne (by omega)).trans ((Array.getElem?_setIfInBounds_ne (by omega)).trans ((Array.getElem?_setIfInBounds_ne (by omega)).trans ((Array.getElem?_setIfInBounds_ne (by omega)).trans ((Array.getElem?_setIfInBounds_ne (by omega)).trans ((Array.getElem?_setIfInBounds_ne (by omega)).trans ((Array.getElem?_setIfInBounds_ne (by omega)).trans ((Array.getElem?_setIfInBounds_ne (by omega))))))))))
theorem Rw.put {w : World} {b cap : Nat} {M : List Sn} (h : Rw w b cap M) {i : Nat} (hi : i < M.length) (y : Sn) : Rw (put9 w b (i * 9) y) b cap (M.set i y) := by
  obtain ⟨cur, h1, h2, h3⟩ := h.h
  refine ⟨_, ((((((((h1.set (i * 9) (.int .i64 y.t)).set (i * 9 + 1) (.int .i64 y.i)).set (i * 9 + 1 + 1) (.int .i64 y.p)).set (i * 9 + 1 + 1 + 1) (.int .i64 y.r)).set (i * 9 + 1 + 1 + 1 + 1) (.string y.s)).set (i * 9 + 1 + 1 + 1 + 1 + 1) (.string y.o)).set (i * 9 + 1 + 1 + 1 + 1 + 1 + 1) (.int .i64 y.b)).set (i * 9 + 1 + 1 + 1 + 1 + 1 + 1 + 1) (.int .i64 y.d)).set (i * 9 + 1 + 1 + 1 + 1 + 1 + 1 + 1 + 1) (.bool y.g), ?_, ?_⟩
  · simp only [Array.size_setIfInBounds]; exact h2
  · intro j u hu
    have hsz : i * 9 + 9 ≤ cur.size := by
      have hl := flat_length scs_len M
      have hu : ((M.flatMap scs)[i * 9 + 8]?).isSome = true := by
        rw [flat_at scs_len hi (by omega)]; rfl
      obtain ⟨z, hz⟩ := Option.isSome_iff_exists.1 hu
      have := h3 _ _ hz
      obtain ⟨hlt, -⟩ := Array.getElem?_eq_some_iff.1 this
      omega
    rw [set_at] at hu
    rw [nine _ _ _ _ _ _ _ _ _ hsz]
    split at hu
    · rename_i hc
      rw [if_pos ⟨hc.2.1, hc.2.2⟩]
      exact hu
    · rename_i hc
      rw [if_neg (fun h => hc ⟨hi, h.1, h.2⟩)]
      exact h3 j u hu
/-- All cells of the block that hold records are there. -/
theorem Rw.there {w : World} {b cap : Nat} {M : List Sn} (h : Rw w b cap M) {k : Nat} (hk : k < M.length * 9) : (w.cell? ⟨b, k, none⟩).isSome = true := by
  obtain ⟨cur, h1, h2, h3⟩ := h.h
  have hl := flat_length scs_len M
  have hk2 : k < (M.flatMap scs).length := by omega
  rw [h1.cell, h3 k _ (List.getElem?_eq_getElem hk2)]; rfl
theorem Bk.setCells {t : TypeId} {b : Nat} : ∀ (vs : List Value) (o : Nat) {w : World} {cur : Array Value}, Bk w b cur t → ∃ cur', Bk (w.setCells b o vs) b cur' t ∧ cur'.size = cur.size ∧ ∀ j, j < o → cur'[j]? = cur[j]?
  | [], o, w, cur, h => ⟨cur, h, rfl, fun _ _ => rfl⟩
  | v :: vs, o, w, cur, h => by
    obtain ⟨c', h1, h2, h3⟩ := Bk.setCells vs (o + 1) (h.set o v)
    refine ⟨c', h1, by rw [h2, Array.size_setIfInBounds], fun j hj => ?_⟩
    rw [h3 j (by omega), Array.getElem?_setIfInBounds, if_neg (by omega)]
theorem setCells_fr {b : Nat} : ∀ (vs : List Value) (o : Nat) (w : World), Fr (fun k => k = b) w (w.setCells b o vs)
  | [], o, w => Fr.refl _ _
  | v :: vs, o, w => (Fr.setCell w ⟨b, o, none⟩ v (S := fun k => k = b) rfl).trans (setCells_fr vs (o + 1) _) (fun _ _ h => h) (fun _ _ h => h)
theorem run_clearS (w : World) (b o n c : Nat) (hn : 0 < n) (hc : ∀ j, j < n * 9 → (w.cell? ⟨b, o + j, none⟩).isSome = true) (hf : ∀ j, j < n * 9 → w.frozen? ⟨b, o + j, none⟩ = false) :
    ∃ vs, ∀ ty, (Builtin.clear_ #[TSs] ty #[.slice (some ⟨b, o, none⟩) n c]).run Try.prog w = .ok (.tuple #[]) (w.setCells b o vs) := by
  have hv : ∀ w, (zeroValue TSn).run Try.prog w = .ok (.agg #[.int .i64 0, .int .i64 0, .int .i64 0, .int .i64 0, .string ByteArray.empty, .string ByteArray.empty, .int .i64 0, .int .i64 0, .bool false]) w := fun w => by kernel_rfl
  have hlen : ∀ (cs : Array Value), (Builtin.zeroCells cs n).size = n * cs.size := fun cs => by simp [Builtin.zeroCells]
  have h1 : ∀ v ∈ (Builtin.zeroCells (#[.int .i64 0, .int .i64 0, .int .i64 0, .int .i64 0, .string ByteArray.empty, .string ByteArray.empty, .int .i64 0, .int .i64 0, .bool false] : Array Value) n).toList, v.oneCell' = true := by
    intro v hv'
    simp only [Builtin.zeroCells, Array.toList_map, List.mem_map] at hv'
    obtain ⟨i, -, rfl⟩ := hv'
    have h9 : i % 9 < 9 := Nat.mod_lt _ (by omega)
    show (getElem! _ (i % 9) : Value).oneCell' = true
    generalize i % 9 = r at h9 ⊢
    match r, h9 with
    | 0, _ | 1, _ | 2, _ | 3, _ | 4, _ | 5, _ | 6, _ | 7, _ | 8, _ => rfl
  refine ⟨(Builtin.zeroCells (#[.int .i64 0, .int .i64 0, .int .i64 0, .int .i64 0, .string ByteArray.empty, .string ByteArray.empty, .int .i64 0, .int .i64 0, .bool false] : Array Value) n).toList, ?_⟩
  have hst := run_storeCells_cells (P := Try.prog) b o (Builtin.zeroCells (#[.int .i64 0, .int .i64 0, .int .i64 0, .int .i64 0, .string ByteArray.empty, .string ByteArray.empty, .int .i64 0, .int .i64 0, .bool false] : Array Value) n).toList 0 w (by simpa [hlen] using hc) (by simpa [hlen] using hf) h1
  simp only [Nat.add_zero] at hst
  obtain ⟨m, rfl⟩ : ∃ m, n = m + 1 := ⟨n - 1, by omega⟩
  intro ty
  simp [Builtin.clear_, run_underlying Try.underlying24, hv, Value.cells, hst]
/-- A function of records that answers, whatever one's own cells hold. -/
def PredO (g : Nat) (lb : Array Value) (p : Sn → Bool) (L : List Sn) (b : Nat) (w : World) : Prop := ∀ W, Fr (fun k => k = b) w W → ∀ x ∈ L, Calls Try.prog g (#[x.v] ++ lb) W fun e w' => e = .returned (.bool (p x)) ∧ Fr (fun _ => False) W w'
/-- Where the loop stands: i records are kept of the first j. -/
structure Del (p : Sn → Bool) (L : List Sn) (w wr : World) (b cap i j : Nat) (D : List Sn) : Prop where
  r : Rw wr b cap D
  f : Fr (fun k => k = b) w wr
  l : D.length = L.length
  lt : i < j
  le : j ≤ L.length
  d : D.take i = keep p (L.take j)
  n : (keep p (L.take j)).length = i
  s : D.drop j = L.drop j
theorem Del.skip {p : Sn → Bool} {L : List Sn} {w wr w' : World} {b cap i j : Nat} {D : List Sn} (h : Del p L w wr b cap i j D) (hf : Fr (fun _ => False) wr w') (hj : j < L.length) (hp : p L[j] = true) : Del p L w w' b cap i (j + 1) D := by
  have e : keep p (L.take (j + 1)) = keep p (L.take j) := by
    rw [List.take_succ_eq_append_getElem hj]
    unfold keep
    rw [List.filter_append, List.filter_cons, hp]; simp
  refine ⟨h.r.fr hf (fun h => h), h.f.trans hf (fun _ _ h => h) (fun _ _ h => h.elim), h.l, by have := h.lt; omega, hj, by rw [e]; exact h.d, by rw [e]; exact h.n, ?_⟩
  have h1 := h.s
  rw [← List.drop_drop, ← List.drop_drop, h1]
theorem Del.take {p : Sn → Bool} {L : List Sn} {w wr w' : World} {b cap i j : Nat} {D : List Sn} (h : Del p L w wr b cap i j D) (hf : Fr (fun _ => False) wr w') (hj : j < L.length) (hp : p L[j] = false) : Del p L w (put9 w' b (i * 9) L[j]) b cap (i + 1) (j + 1) (D.set i L[j]) := by
  have hlt := h.lt; have hl := h.l
  have e : keep p (L.take (j + 1)) = keep p (L.take j) ++ [L[j]] := by
    rw [List.take_succ_eq_append_getElem hj]
    unfold keep
    rw [List.filter_append, List.filter_cons, hp]; simp
  refine ⟨(h.r.fr hf (fun h => h)).put (by omega) _, (h.f.trans hf (fun _ _ h => h) (fun _ _ h => h.elim)).trans (put9_fr w' b _ _) (fun _ _ h => h) (fun _ _ h => h), by rw [List.length_set]; exact hl, by omega, hj, ?_, by rw [e, List.length_append, h.n]; rfl, ?_⟩
  · rw [e, ← h.d, List.take_succ_eq_append_getElem (by rw [List.length_set]; omega), List.getElem_set_self, List.take_set_of_le (Nat.le_refl _)]
  · have h1 := h.s
    rw [List.drop_set_of_lt (by omega), ← List.drop_drop, ← List.drop_drop, h1]
theorem Del.at {p : Sn → Bool} {L : List Sn} {w wr : World} {b cap i j : Nat} {D : List Sn} (h : Del p L w wr b cap i j D) (hj : j < L.length) : At wr b (j * 9) L[j] := by
  have hl := h.l
  have h1 := h.r.at (k := j) (by omega)
  have e : D[j]'(by omega) = L[j] := by
    have h2 : (D.drop j)[0]? = (L.drop j)[0]? := by rw [h.s]
    rw [List.getElem?_drop, List.getElem?_drop, Nat.add_zero, List.getElem?_eq_getElem (by omega), List.getElem?_eq_getElem hj] at h2
    exact Option.some.inj h2
  rwa [e] at h1
theorem Del.ati {p : Sn → Bool} {L : List Sn} {w wr : World} {b cap i j : Nat} {D : List Sn} (h : Del p L w wr b cap i j D) : ∃ z, At wr b (i * 9) z := ⟨_, h.r.at (k := i) (by have := h.lt; have := h.le; have := h.l; omega)⟩
/-- The end: the rest is cleared. -/
theorem Del.done {p : Sn → Bool} {L : List Sn} {w wr : World} {b cap i : Nat} {D : List Sn} {base : Nat} (h : Del p L w wr b cap i L.length D) (hb : base ≤ b) (hcap : L.length ≤ cap) (hm : cap ≤ maxLen) (vs : List Value) :
    (wr.setCells b (i * 9) vs).ownsRow base TSn 9 (.slice (some ⟨b, 0, none⟩) (keep p L).length cap) (keep p L).length ((keep p L).flatMap scs) ∧ Fr (fun k => k = b) w (wr.setCells b (i * 9) vs) := by
  obtain ⟨cur, h1, h2, h3⟩ := h.r.h
  have hn := h.n; have hd := h.d; have hlt := h.lt
  rw [List.take_length] at hn hd
  obtain ⟨cur', c1, c2, c3⟩ := Bk.setCells vs (i * 9) h1
  refine ⟨⟨flat_length scs_len _, .inr ⟨b, cap, cur', by rw [hn], hb, c1, by omega, hm, by omega, ?_⟩⟩, h.f.trans (setCells_fr vs _ _) (fun _ _ h => h) (fun _ _ h => h)⟩
  have hl := flat_length scs_len (keep p L)
  rw [hn] at hl ⊢
  apply List.ext_getElem?
  intro q
  by_cases hq : q < i * 9
  · rw [List.getElem?_take_of_lt hq, Array.getElem?_toList, c3 q hq, ← hd, ← flat_take scs_len, List.getElem?_take_of_lt hq]
    have hl2 := flat_length scs_len D
    have := h.l
    have hq2 : q < (D.flatMap scs).length := by omega
    rw [List.getElem?_eq_getElem hq2]
    exact h3 q _ (List.getElem?_eq_getElem hq2)
  · rw [List.getElem?_eq_none (by rw [List.length_take]; omega), List.getElem?_eq_none (by omega)]
theorem Rw.of {w : World} {base b cap : Nat} {L : List Sn} (h : w.ownsRow base TSn 9 (.slice (some ⟨b, 0, none⟩) L.length cap) L.length (L.flatMap scs)) : Rw w b cap L ∧ base ≤ b ∧ L.length ≤ cap ∧ cap ≤ maxLen := by
  obtain ⟨-, h⟩ := h
  rcases h with ⟨h, -⟩ | ⟨g, c2, cur, he, hg, hh, hn, hc, hs, ht⟩
  · cases h
  · cases he
    refine ⟨⟨cur, hh, hs, fun j u hu => ?_⟩, hg, hn, hc⟩
    rw [← ht, List.getElem?_take] at hu
    split at hu
    · simpa using hu
    · cases hu
theorem Del.start {p : Sn → Bool} {L : List Sn} {w w' : World} {b cap k : Nat} (h : Rw w b cap L) (hf : Fr (fun _ => False) w w') (hk : k < L.length) (hp : p L[k] = true) (h0 : ∀ y ∈ L.take k, p y = false) : Del p L w w' b cap k (k + 1) L := by
  have e : keep p (L.take (k + 1)) = L.take k := by
    rw [List.take_succ_eq_append_getElem hk]
    unfold keep
    rw [List.filter_append, List.filter_cons, hp, show List.filter (fun x => !p x) (L.take k) = L.take k from keep_all h0]; simp
  exact ⟨h.fr hf (fun h => h), hf.mono (fun _ _ h => h.elim), rfl, by omega, hk, by rw [e], by rw [e, List.length_take]; omega, rfl⟩
end Sli
end Go.Proofs.Ytgfjpnpbkkadpaa
