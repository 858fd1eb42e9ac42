/- Go's maps whose elements are ints, as functions of their keys. -/
import Derived.Test.YtgfjpnpbkkadpaaGreatGm
import Derived.Maps.Views
import Derived.DeepKeys4
namespace Go.Proofs.YtgfjpnpbkkadpaaGreat
open Go.RowKit
namespace Fm
open Go.MapKept Go.ChangeMaps Go.WideElems

/-- Keys of a type: k stands as the value kv k. -/
structure KV {κ : Type} (tk : TypeId) (kv : κ → Value) (ok : κ → Prop) : Prop where
  keyed : Maps.Keyed Tryz.prog tk
  inj : ∀ {a b : κ}, kv a = kv b → a = b
  has : ∀ {k : κ}, ok k → ∃ l, keyOf Tryz.prog tk (kv k) = some l
abbrev D0 : DataW Unit := .lit (.int .i64 0)
/-- The block r is a map of at most n entries, in which k has f k. -/
def FM {κ : Type} (tk : TypeId) (kv : κ → Value) (ok : κ → Prop) (w : World) (r n : Nat) (f : κ → Int) : Prop :=
  n < 1000000 ∧ ∃ D : DataW Unit, w.ownsMap Tryz.prog tk (plainElem Tryz.prog 3) r n D ∧ ∀ k l, ok k → keyOf Tryz.prog tk (kv k) = some l → D.atKey l D0 = .lit (.int .i64 (f k))
/-- .. and the entry of k is stamped s. -/
def FMS {κ : Type} (tk : TypeId) (kv : κ → Value) (ok : κ → Prop) (w : World) (r n : Nat) (f : κ → Int) (k : κ) (s : Nat) : Prop :=
  FM tk kv ok w r n f ∧ ∃ (es : Array MapEntry) (clock i : Nat) (e : MapEntry), w.heap[r]? = some (.map es clock) ∧ es.toList[i]? = some e ∧ e.born = s ∧ e.key = kv k
section
variable {κ : Type} {tk : TypeId} {kv : κ → Value} {ok : κ → Prop} {w w' : World} {r n : Nat} {f : κ → Int}
theorem FM.fr {S : Nat → Prop} (h : FM tk kv ok w r n f) (hf : Fr S w w') (hs : ∀ b ∈ [r], ¬ S b) : FM tk kv ok w' r n f := by
  obtain ⟨h0, D, h4, h5⟩ := h
  have hlt := h4.lt
  obtain ⟨es, clock, hb, F, hsz, hD⟩ := h4
  exact ⟨h0, D, ⟨es, clock, (hf.block r hlt (hs r (by simp))).trans hb, F, hsz, hD⟩, h5⟩
theorem FM.lt (h : FM tk kv ok w r n f) : r < w.heap.size := by obtain ⟨_, D, h4, _⟩ := h; exact h4.lt
theorem FM.new (w : World) : FM tk kv ok (w.alloc (.map #[] 0)) w.heap.size 0 (fun _ => 0) := ⟨by omega, _, World.ownsMap_made w _ _ _, fun _ _ _ _ => rfl⟩
theorem FM.to (h : FM tk kv ok w r n f) {g : κ → Int} (hg : ∀ k, ok k → g k = f k) : FM tk kv ok w r n g := by
  obtain ⟨h0, D, h4, h5⟩ := h
  exact ⟨h0, D, h4, fun k l hk hl => by rw [hg k hk]; exact h5 k l hk hl⟩
variable (K : KV tk kv ok) {T : TypeId} (hT : Tryz.prog.underlying T = some (.map tk 3))
include K hT
theorem FM.look (h : FM tk kv ok w r n f) {k : κ} (hk : ok k) : (Instr.lookup T (.map (some r)) (kv k) false).run Tryz.prog w = .ok (.int .i64 (f k)) w := by
  obtain ⟨h0, D, h4, h5⟩ := h
  obtain ⟨l, hl⟩ := K.has hk
  obtain ⟨c, hrun, hat, -⟩ := h4.lookup_int K.keyed hT Tryz.underlying3 (zeroI w) hl
  rw [h5 k l hk hl] at hat
  simp only [DataW.lit.injEq, Lit.int.injEq, true_and] at hat
  rw [hat]; exact hrun
theorem FM.upd (h : FM tk kv ok w r n f) {k : κ} (hk : ok k) {v : Int} (hv : wfI v) {f' : κ → Int} (e1 : f' k = v) (e2 : ∀ j, j ≠ k → f' j = f j) (hn : n + 1 < 1000000) :
    ∃ w', (Instr.mapUpdate T (.map (some r)) (kv k) (.int .i64 v)).run Tryz.prog w = .ok () w' ∧ FM tk kv ok w' r (n + 1) f' ∧ Fr (· = r) w w' := by
  obtain ⟨h0, D, h4, h5⟩ := h
  obtain ⟨l, hl⟩ := K.has hk
  obtain ⟨w', hrun, hown, hg⟩ := h4.update K.keyed hT (by unfold maxLen; omega) hl (plainElem_int Tryz.underlying3 hv)
  refine ⟨w', hrun, ⟨hn, _, hown, fun j lj hj hlj => ?_⟩, Fr.grown hg (fun k e => by cases e; rfl)⟩
  by_cases e : j = k
  · subst e
    rw [hl] at hlj; cases hlj
    rw [Maps.atKey_put_same h4.isMap (K.keyed.key hl), e1]
  · have hne : lj ≠ l := fun el => e (K.inj (K.keyed.inj hlj (el ▸ hl)))
    rw [Maps.atKey_put_other hne, e2 j e]
    exact h5 j lj hj hlj
theorem FM.del (h : FM tk kv ok w r n f) {k : κ} (hk : ok k) {f' : κ → Int} (e1 : f' k = 0) (e2 : ∀ j, j ≠ k → f' j = f j) (ty : TypeId) :
    ∃ w', (Builtin.delete_ #[T, tk] ty #[.map (some r), kv k]).run Tryz.prog w = .ok (.tuple #[]) w' ∧ FM tk kv ok w' r n f' ∧ Fr (· = r) w w' := by
  obtain ⟨h0, D, h4, h5⟩ := h
  obtain ⟨l, hl⟩ := K.has hk
  obtain ⟨w', hrun, hown, hg⟩ := h4.drop K.keyed hT hl ty
  refine ⟨w', hrun, ⟨h0, _, hown, fun j lj hj hlj => ?_⟩, Fr.grown hg.grown (fun k e => by cases e; rfl)⟩
  by_cases e : j = k
  · subst e
    rw [hl] at hlj; cases hlj
    rw [Maps.atKey_del_same, e1]
  · have hne : lj ≠ l := fun el => e (K.inj (K.keyed.inj hlj (el ▸ hl)))
    rw [Maps.atKey_del_other hne, e2 j e]
    exact h5 j lj hj hlj
omit K hT in
theorem modify_congr {es : Array MapEntry} {j : Nat} {e0 : MapEntry} (h : es.toList[j]? = some e0) {g g' : MapEntry → MapEntry} (hg : g e0 = g' e0) : es.modify j g = es.modify j g' := by
  apply Array.ext'
  rw [Array.toList_modify, Array.toList_modify, modify_eq_set _ _ _ _ h, modify_eq_set _ _ _ _ h, hg]
theorem FM.entry (h : FM tk kv ok w r n f) {k : κ} (hk : ok k) (hw : wfI (f k)) (hn : n + 1 < 1000000) :
    ∃ w' s, (Instr.mapEntry T (.map (some r)) (kv k)).run Tryz.prog w = .ok (.tuple #[.int .i64 (f k), .int .i64 (s : Nat)]) w' ∧ FMS tk kv ok w' r (n + 1) f k s ∧ Fr (· = r) w w' := by
  have hlk := h.look K hT hk
  obtain ⟨w', hup, hfm, hfr⟩ := h.upd K hT hk hw (f' := f) rfl (fun _ _ => rfl) hn
  obtain ⟨h0, D, ⟨es, clock, hb, F, hsz, hD⟩, h5⟩ := h
  obtain ⟨l, hl⟩ := K.has hk
  rcases K.keyed.find w hl es.toList F.keys with ⟨h1, h2⟩ | ⟨j, e0, h1, h2, h3⟩
  · have ef : f k = 0 := by
      simp [Instr.lookup, run_underlying hT, MapKept.run_getObj_map hb, K.keyed.check w _ hl, h1, Result.andThen] at hlk
      exact hlk.symm
    simp [Instr.mapUpdate, run_underlying hT, MapKept.run_getObj_map hb, K.keyed.check w _ hl, h1, MapKept.run_setObj_map _ hb, Result.andThen] at hup
    refine ⟨w', clock, ?_, ⟨hfm, ?_⟩, hfr⟩
    · simp [Instr.mapEntry, run_underlying hT, MapKept.run_getObj_map hb, K.keyed.check w _ hl, h1, MapKept.run_setObj_map _ hb, Result.andThen]
      rw [ef] at hup
      exact ⟨⟨ef.symm, rfl⟩, hup⟩
    · subst hup
      exact ⟨_, _, es.size, ⟨kv k, .int .i64 (f k), clock⟩, (heap_set hb).1, by simp, rfl, rfl⟩
  · have hj : es[j]? = some e0 := by simpa using h2
    have ev : e0.val = .int .i64 (f k) := by
      simp [Instr.lookup, run_underlying hT, MapKept.run_getObj_map hb, K.keyed.check w _ hl, h1, Result.andThen] at hlk
      exact hlk
    simp [Instr.mapUpdate, run_underlying hT, MapKept.run_getObj_map hb, K.keyed.check w _ hl, h1, hj, h3, K.keyed.stays w hl, MapKept.run_setObj_map _ hb, Result.andThen] at hup
    have em : es.modify j (fun e => { e with key := kv k }) = es.modify j (fun e => { e with key := kv k, val := .int .i64 (f k) }) := modify_congr h2 (by simp [ev])
    refine ⟨w', e0.born, ?_, ⟨hfm, ?_⟩, hfr⟩
    · simp [Instr.mapEntry, run_underlying hT, MapKept.run_getObj_map hb, K.keyed.check w _ hl, h1, hj, h3, K.keyed.stays w hl, MapKept.run_setObj_map _ hb, Result.andThen, ev]
      rw [em]
      exact ⟨rfl, hup⟩
    · subst hup
      refine ⟨_, _, j, { e0 with key := kv k, val := .int .i64 (f k) }, (heap_set hb).1, ?_, rfl, rfl⟩
      rw [Array.toList_modify, modify_eq_set _ _ _ _ h2]
      rw [List.getElem?_set_self (List.getElem?_eq_some_iff.1 h2).1]
theorem FMS.store {k : κ} {s : Nat} (h : FMS tk kv ok w r n f k s) (hk : ok k) {v : Int} (hv : wfI v) {f' : κ → Int} (e1 : f' k = v) (e2 : ∀ j, j ≠ k → f' j = f j) (hn : n + 1 < 1000000) :
    ∃ w', (Instr.entryStore T (.map (some r)) (.int .i64 (s : Nat)) (.int .i64 v)).run Tryz.prog w = .ok () w' ∧ FM tk kv ok w' r (n + 1) f' ∧ Fr (· = r) w w' := by
  obtain ⟨h, es, clock, i, e, hb, hi, hs, hkey⟩ := h
  obtain ⟨w', hup, hfm, hfr⟩ := h.upd K hT hk hv e1 e2 hn
  obtain ⟨h0, D, ⟨es', clock', hb', F, hsz, hD⟩, h5⟩ := h
  rw [hb] at hb'; cases hb'
  obtain ⟨l, hl⟩ := K.has hk
  refine ⟨w', ?_, hfm, hfr⟩
  have hil := (List.getElem?_eq_some_iff.1 hi).1
  have hie := (List.getElem?_eq_some_iff.1 hi).2
  rcases K.keyed.find w hl es.toList F.keys with ⟨h1, h2⟩ | ⟨j, e0, h1, h2, h3⟩
  · exact absurd hkey (h2 e (List.mem_of_getElem? hi))
  · have eij : i = j := by
      by_cases hne : i = j
      · exact hne
      · exact absurd (hkey.trans h3.symm) (other_key F h2 hi hne)
    subst eij
    rw [hi] at h2; cases h2
    have hj : es[i]? = some e := by simpa using hi
    have hfi : es.findIdx? (fun x => (x.born : Int) == (s : Int)) = some i := by
      rw [Array.findIdx?_eq_some_iff_getElem]
      refine ⟨by simpa using hil, ?_, fun j hji => ?_⟩
      · have : es[i]'(by simpa using hil) = e := by simpa using hie
        rw [this]; simp [hs]
      · have hjl : j < es.toList.length := by omega
        have hnd := ((stamped_iff es clock).1 F.stamped).2.1
        rw [List.nodup_iff_pairwise_ne] at hnd
        have := (List.pairwise_iff_getElem.1 hnd) j i (by simpa using hjl) (by simpa using hil) hji
        simp only [List.getElem_map] at this
        rw [hie, hs] at this
        have h' : es[j].born ≠ s := by simpa using this
        simp only [beq_iff_eq]
        omega
    simp [Instr.mapUpdate, run_underlying hT, MapKept.run_getObj_map hb, K.keyed.check w _ hl, h1, hj, hkey, K.keyed.stays w hl, MapKept.run_setObj_map _ hb, Result.andThen] at hup
    have em : es.modify i (fun x => { x with val := .int .i64 v }) = es.modify i (fun x => { x with key := kv k, val := .int .i64 v }) := modify_congr hi (by simp [← hkey])
    simp [Instr.entryStore, MapKept.run_getObj_map hb, hfi, MapKept.run_setObj_map _ hb, Result.andThen, asInt, asIntOf]
    rw [em]
    exact hup
theorem look_none {k : κ} (hk : ok k) : (Instr.lookup T (.map none) (kv k) false).run Tryz.prog w = .ok (.int .i64 0) w := by
  obtain ⟨l, hl⟩ := K.has hk
  exact Maps.look_nil false K.keyed hT (zeroI w) hl
end
/-- ints. -/
theorem KI : KV 3 (fun k : Int => .int .i64 k) wfI := ⟨Maps.int_keyed Tryz.underlying3, fun h => by simpa using h, fun h => ⟨_, keyI h⟩⟩
end Fm
end Go.Proofs.YtgfjpnpbkkadpaaGreat
