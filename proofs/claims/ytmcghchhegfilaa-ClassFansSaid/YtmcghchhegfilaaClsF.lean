/- A forest in the heap: spans, places and fans by their keys; how it is planted. -/
import Derived.Test.YtmcghchhegfilaaClsW
import Derived.Test.YtmcghchhegfilaaClsQ
import Derived.Test.YtmcghchhegfilaaMp
namespace Go.Proofs.Ytmcghchhegfilaa
open Go.RowKit
namespace ClsF
open KeyP PackP SetP SetW SetF Cls ClsW
attribute [local go_sem] Eng.ev Eng.getO_cons Eng.getO_nil
abbrev TF : TypeId := 94
abbrev TPl : TypeId := 55
abbrev TMs : TypeId := 90
abbrev TMp : TypeId := 91
abbrev TMf : TypeId := 92
/-- A span's place. -/
structure Pc where
  t : Int
  i : Int
  c : Int
  d : Int
  p : Int
  f : Int
deriving DecidableEq
abbrev Pc.cs (x : Pc) : List Value := [.int .i64 x.t, .int .i64 x.i, .int .i64 x.c, .int .i64 x.d, .int .i64 x.p, .int .i64 x.f]
abbrev Pc.arr (x : Pc) : Array Value := #[.int .i64 x.t, .int .i64 x.i, .int .i64 x.c, .int .i64 x.d, .int .i64 x.p, .int .i64 x.f]
abbrev Pc.v (x : Pc) : Value := .agg x.arr
abbrev zS : Value := .agg #[.int .i64 0, .int .i64 0, .int .i64 0, .int .i64 0, .string ByteArray.empty, .string ByteArray.empty, .int .i64 0, .int .i64 0, .bool false]
abbrev zP : Value := .agg #[.int .i64 0, .int .i64 0, .int .i64 0, .int .i64 0, .int .i64 0, .int .i64 0]
theorem zeroS (w : World) : (zeroValue TSn).run Try.prog w = .ok zS w := by kernel_rfl
theorem zeroP (w : World) : (zeroValue TPl).run Try.prog w = .ok zP w := by kernel_rfl
theorem zeroI (w : World) : (zeroValue 3).run Try.prog w = .ok (.int .i64 0) w := by kernel_rfl
theorem uS : Try.prog.underlying TMs = some (.map Mp.TS TSn) := Try.underlying90
theorem uP : Try.prog.underlying TMp = some (.map Mp.TS TPl) := Try.underlying91
theorem uF : Try.prog.underlying TMf = some (.map Mp.TS 3) := Try.underlying92
def spv (L : List Sn) (t i : Int) : Option Value := (nx L t i).map Sn.v
def cnt (L : List Sn) (t p : Int) : Nat := (L.filter (fun y => decide (y.t = t) && decide (y.p = p))).length
def fnv (L : List Sn) (t p : Int) : Option Value := if cnt L t p = 0 then none else some (.int .i64 ((cnt L t p : Nat) : Int))
theorem fnv_get (L : List Sn) (t p : Int) : (fnv L t p).getD (.int .i64 0) = .int .i64 ((cnt L t p : Nat) : Int) := by
  unfold fnv
  split
  · rename_i h; rw [h]; rfl
  · rfl
theorem cnt_fan (L : List Sn) (x : Sn) : cnt L x.t x.i = fan L x := rfl
theorem cnt_le (L : List Sn) (t p : Int) : cnt L t p ≤ L.length := List.length_filter_le _ _
theorem cnt_snoc {L : List Sn} {k : Nat} (h : k < L.length) (t p : Int) : cnt (L.take (k + 1)) t p = cnt (L.take k) t p + if L[k].t = t ∧ L[k].p = p then 1 else 0 := by
  unfold cnt
  rw [List.take_succ_eq_append_getElem h, List.filter_append, List.length_append, List.filter_cons]
  by_cases e : L[k].t = t ∧ L[k].p = p
  · rw [if_pos e, decide_eq_true e.1, decide_eq_true e.2]; rfl
  · rw [if_neg e]
    have : (decide (L[k].t = t) && decide (L[k].p = p)) = false := by
      rw [← Bool.decide_and]; exact decide_eq_false e
    rw [this]; rfl
theorem fnv_snoc1 {L : List Sn} {k : Nat} (h : k < L.length) : fnv (L.take (k + 1)) L[k].t L[k].p = some (.int .i64 (((cnt (L.take k) L[k].t L[k].p : Nat) : Int) + 1)) := by
  have e : cnt (L.take (k + 1)) L[k].t L[k].p = cnt (L.take k) L[k].t L[k].p + 1 := by rw [cnt_snoc h, if_pos ⟨rfl, rfl⟩]
  unfold fnv
  rw [e, if_neg (by omega)]
  simp
theorem fnv_snoc2 {L : List Sn} {k : Nat} (h : k < L.length) (c d : Int) (hne : ¬ (c = L[k].t ∧ d = L[k].p)) : fnv (L.take (k + 1)) c d = fnv (L.take k) c d := by
  have e : cnt (L.take (k + 1)) c d = cnt (L.take k) c d := by rw [cnt_snoc h, if_neg (fun e => hne ⟨e.1.symm, e.2.symm⟩)]; rfl
  unfold fnv
  rw [e]
theorem spv_snoc1 {L : List Sn} (hs : Srs L) {k : Nat} (h : k < L.length) : spv (L.take (k + 1)) L[k].t L[k].i = some L[k].v := by
  unfold spv nx
  rw [List.take_succ_eq_append_getElem h, List.find?_append]
  have : (L.take k).find? (fun y => decide (y.t = L[k].t) && decide (y.i = L[k].i)) = none := by
    rw [List.find?_eq_none]
    intro y hy hp
    simp only [Bool.and_eq_true, decide_eq_true_eq] at hp
    obtain ⟨j, hj, rfl⟩ := List.getElem_of_mem hy
    rw [List.length_take] at hj
    rw [List.getElem_take] at hp
    have h1 := List.pairwise_iff_getElem.1 hs j k (by omega) h (by omega)
    have h2 := bef_ne h1
    have h3 : one L[j] L[k] = true := one_iff.2 hp
    rw [h2] at h3; cases h3
  rw [this]
  simp
theorem spv_snoc2 {L : List Sn} {k : Nat} (h : k < L.length) (c d : Int) (hne : ¬ (c = L[k].t ∧ d = L[k].i)) : spv (L.take (k + 1)) c d = spv (L.take k) c d := by
  unfold spv nx
  rw [List.take_succ_eq_append_getElem h, List.find?_append]
  have : (decide (L[k].t = c) && decide (L[k].i = d)) = false := by
    rw [← Bool.decide_and]; exact decide_eq_false (fun e => hne ⟨e.1.symm, e.2.symm⟩)
  rw [List.find?_cons, this]
  simp
/-- A forest: its spans are those of S, its fans those of F; the places that are known are P's. -/
structure Fo (w0 w : World) (h : Nat) (S F : List Sn) (n m : Nat) (P : Int → Int → Option Pc) : Prop where
  b : Bk w (h + 3) #[.map (some h), .map (some (h + 1)), .map (some (h + 2))] TF
  s : Mp.M w h n (spv S)
  p : Mp.M w (h + 1) m (fun t i => (P t i).map Pc.v)
  f : Mp.M w (h + 2) n (fnv F)
  l : Below w0.heap.size w0 w
  z : w0.heap.size ≤ h
theorem Fo.fr {w0 w w' : World} {h : Nat} {S F : List Sn} {n m : Nat} {P : Int → Int → Option Pc} (H : Fo w0 w h S F n m P) (hf : Fr (fun _ => False) w w') : Fo w0 w' h S F n m P :=
  ⟨H.b.fr hf (fun _ _ h => h), H.s.fr hf (fun h => h), H.p.fr hf (fun h => h), H.f.fr hf (fun h => h), H.l.trans (hf.below H.l.size (fun _ _ h => h)), H.z⟩
theorem Fo.below {w0 w w' : World} {h : Nat} {S F : List Sn} {n m : Nat} {P : Int → Int → Option Pc} (H : Fo w0 w h S F n m P) (hb : Below w.heap.size w w') : Fo w0 w' h S F n m P := H.fr (Fr.of_below' hb _)
theorem M_n {w : World} {r n n' : Nat} {f : Int → Int → Option Value} (h : Mp.M w r n f) (hn : n ≤ n') (h' : n' < 1000000) : Mp.M w r n' f := by
  obtain ⟨-, D, h4, h5⟩ := h
  exact ⟨h', D, h4.mono hn, h5⟩
/-- A span is put in. -/
theorem Fo.putS {w0 w : World} {h : Nat} {L : List Sn} {k n m : Nat} {P : Int → Int → Option Pc} (H : Fo w0 w h (L.take k) (L.take k) n m P) (hs : Srs L) (hk : k < L.length) (hl : n + 2 < 1000000) (ha : wf64 L[k].t) (hb : wf64 L[k].i) :
    ∃ w', (Instr.mapUpdate TMs (.map (some h)) (.string (key2 L[k].t L[k].i)) L[k].v).run Try.prog w = .ok () w' ∧ Fo w0 w' h (L.take (k + 1)) (L.take k) (n + 1) m P ∧ Fr (· = h) w w' := by
  obtain ⟨w', h1, h2, h3⟩ := H.s.upd uS ha hb L[k].v (spv_snoc1 hs hk) (fun c d hne => spv_snoc2 hk c d hne) (by omega)
  refine ⟨w', h1, ⟨H.b.fr h3 (fun j hj e => by simp at hj; omega), h2, H.p.fr h3 (by omega), M_n (H.f.fr h3 (by omega)) (by omega) (by omega), H.l.trans (h3.below H.l.size (fun j hj e => by have := H.z; omega)), H.z⟩, h3⟩
theorem Fo.putF {w0 w : World} {h : Nat} {L : List Sn} {k n m : Nat} {P : Int → Int → Option Pc} (H : Fo w0 w h (L.take (k + 1)) (L.take k) (n + 1) m P) (hk : k < L.length) (hl : n + 2 < 1000000) (ha : wf64 L[k].t) (hb : wf64 L[k].p) :
    ∃ w', (Instr.mapUpdate TMf (.map (some (h + 2))) (.string (key2 L[k].t L[k].p)) (.int .i64 (((cnt (L.take k) L[k].t L[k].p : Nat) : Int) + 1))).run Try.prog w = .ok () w' ∧ Fo w0 w' h (L.take (k + 1)) (L.take (k + 1)) (n + 2) m P ∧ Fr (· = h + 2) w w' := by
  obtain ⟨w', h1, h2, h3⟩ := H.f.upd uF ha hb (.int .i64 (((cnt (L.take k) L[k].t L[k].p : Nat) : Int) + 1)) (fnv_snoc1 hk) (fun c d hne => fnv_snoc2 hk c d hne) (by omega)
  exact ⟨w', h1, ⟨H.b.fr h3 (fun j hj e => by simp at hj; omega), M_n (H.s.fr h3 (by omega)) (by omega) (by omega), H.p.fr h3 (by omega), h2, H.l.trans (h3.below H.l.size (fun j hj e => by have := H.z; omega)), H.z⟩, h3⟩
theorem Fo.count {w0 w : World} {h : Nat} {S F : List Sn} {n m : Nat} {P : Int → Int → Option Pc} (H : Fo w0 w h S F n m P) {a b : Int} (ha : wf64 a) (hb : wf64 b) : (Instr.lookup TMf (.map (some (h + 2))) (.string (key2 a b)) false).run Try.prog w = .ok (.int .i64 ((cnt F a b : Nat) : Int)) w := by
  rw [H.f.look uF zeroI ha hb, fnv_get]
/-- .. with a record's box. -/
structure FX (w0 w : World) (h : Nat) (S F : List Sn) (n m : Nat) (P : Int → Int → Option Pc) (Bx : Nat) (y : Sn) : Prop where
  f : Fo w0 w h S F n m P
  a : At w Bx 0 y
  n : Bx ≠ h ∧ Bx ≠ h + 1 ∧ Bx ≠ h + 2 ∧ Bx ≠ h + 3
theorem FX.fr {w0 w w' : World} {h : Nat} {S F : List Sn} {n m : Nat} {P : Int → Int → Option Pc} {Bx : Nat} {y : Sn} (H : FX w0 w h S F n m P Bx y) (hf : Fr (fun _ => False) w w') : FX w0 w' h S F n m P Bx y := ⟨H.f.fr hf, H.a.keep hf, H.n⟩
theorem cell3 {w0 w : World} {h : Nat} {S F : List Sn} {n m : Nat} {P : Int → Int → Option Pc} (H : Fo w0 w h S F n m P) : w.cell? ⟨h + 3, 0, none⟩ = some (.map (some h)) ∧ w.cell? ⟨h + 3, 1, none⟩ = some (.map (some (h + 1))) ∧ w.cell? ⟨h + 3, 2, none⟩ = some (.map (some (h + 2))) := ⟨H.b.cell 0, H.b.cell 1, H.b.cell 2⟩
set_option maxRecDepth 100000 in
set_option maxHeartbeats 400000 in
theorem pl5 {ops : Array Oper} (hops : Eng.fnOps Try.f59 5 = ops) (a0 : Act) (Q : Exit → Act → World → Prop) (w0 w : World) (h : Nat) (L : List Sn) (k n m : Nat) (P : Int → Int → Option Pc) (Bx : Nat) (y : Sn) (hs : Srs L) (hk : k < L.length) (hy : L[k] = y) (hl : n + 2 < 1000000) (ha : wf64 y.t) (hb0 : wf64 y.i) (hst : FX w0 w h (L.take k) (L.take k) n m P Bx y)
    (hn : a0.tmps.size = 37) (h_3 : a0.tmps.getD 3 undef = .pointer (some ⟨h + 3, 0, none⟩)) (h_5 : a0.tmps.getD 5 undef = .pointer (some ⟨Bx, 0, none⟩))
    (hpost : ∀ (x : Nat → Value) (w' : World), FX w0 w' h (L.take (k + 1)) (L.take k) (n + 1) m P Bx y → Q .normal (Eng.setAll a0 [17, 18, 19, 20, 21, 22, 23] x) w') :
    (Code.region 5 ops true).wp Try.prog Q a0 w := by
  simp only [Eng.fnOps, Eng.regOps, Try.f59, Option.bind_some, Option.getD_some, Nat.reduceEqDiff, ↓reduceIte, Nat.reduceBEq] at hops
  subst hops
  have HSt := Lib.hid (hst.fr (Fr.drew _ _))
  have hSS : w.drew.cell? ⟨h + 3, 0, none⟩ = some (.map (some h)) ∧ w.drew.cell? ⟨Bx, 0, none⟩ = some (.int .i64 y.t) ∧ w.drew.cell? ⟨Bx, 1, none⟩ = some (.int .i64 y.i) ∧ w.drew.cell? ⟨Bx, 2, none⟩ = some (.int .i64 y.p) ∧ w.drew.cell? ⟨Bx, 3, none⟩ = some (.int .i64 y.r) ∧ w.drew.cell? ⟨Bx, 4, none⟩ = some (.string y.s) ∧ w.drew.cell? ⟨Bx, 5, none⟩ = some (.string y.o) ∧ w.drew.cell? ⟨Bx, 6, none⟩ = some (.int .i64 y.b) ∧ w.drew.cell? ⟨Bx, 7, none⟩ = some (.int .i64 y.d) ∧ w.drew.cell? ⟨Bx, 8, none⟩ = some (.bool y.g) := ⟨(cell3 HSt.out.f).1, HSt.out.a 0 _ rfl, HSt.out.a 1 _ rfl, HSt.out.a 2 _ rfl, HSt.out.a 3 _ rfl, HSt.out.a 4 _ rfl, HSt.out.a 5 _ rfl, HSt.out.a 6 _ rfl, HSt.out.a 7 _ rfl, HSt.out.a 8 _ rfl⟩
  refine Eng.regionT (.take 0 (.take 1 (.take 2 (.take 3 (.take 4 (.take 6 (.alt 5 (.alt 7 (.done) (.stop)) (.stop)))))))) (fun w' => w'.cell? ⟨h + 3, 0, none⟩ = some (.map (some h)) ∧ w'.cell? ⟨Bx, 0, none⟩ = some (.int .i64 y.t) ∧ w'.cell? ⟨Bx, 1, none⟩ = some (.int .i64 y.i) ∧ w'.cell? ⟨Bx, 2, none⟩ = some (.int .i64 y.p) ∧ w'.cell? ⟨Bx, 3, none⟩ = some (.int .i64 y.r) ∧ w'.cell? ⟨Bx, 4, none⟩ = some (.string y.s) ∧ w'.cell? ⟨Bx, 5, none⟩ = some (.string y.o) ∧ w'.cell? ⟨Bx, 6, none⟩ = some (.int .i64 y.b) ∧ w'.cell? ⟨Bx, 7, none⟩ = some (.int .i64 y.d) ∧ w'.cell? ⟨Bx, 8, none⟩ = some (.bool y.g)) (by kernel_rfl) 37 hn (by kernel_rfl) (by kernel_rfl) (by kernel_rfl) (hSS) (fun a b ha hb => ?_)
  subst ha
  have hb3 : b 3 = .pointer (some ⟨h + 3, 0, none⟩) := (hb 3).symm.trans h_3
  have hb5 : b 5 = .pointer (some ⟨Bx, 0, none⟩) := (hb 5).symm.trans h_5
  clear hb h_3 h_5
  have HP := Lib.hid hpost; have HN := Lib.hid hn
  clear hpost hn
  refine Eng.TW.take' (v := ?_) rfl rfl (by decide) (by kernel_rfl) (fun w hw => ?_) ?_
  rotate_left
  · (try dsimp only at hw); go_simp; first | done | with_reducible rfl
  refine Eng.TW.take' (v := ?_) rfl rfl (by decide) (by kernel_rfl) (fun w hw => ?_) ?_
  rotate_left
  · (try dsimp only at hw); go_simp; first | done | with_reducible rfl
  refine Eng.TW.take' (v := ?_) rfl rfl (by decide) (by kernel_rfl) (fun w hw => ?_) ?_
  rotate_left
  · (try dsimp only at hw); go_simp; first | done | with_reducible rfl
  refine Eng.TW.take' (v := ?_) rfl rfl (by decide) (by kernel_rfl) (fun w hw => ?_) ?_
  rotate_left
  · (try dsimp only at hw); go_simp; first | done | with_reducible rfl
  refine Eng.TW.take' (v := ?_) rfl rfl (by decide) (by kernel_rfl) (fun w hw => ?_) ?_
  rotate_left
  · (try dsimp only at hw); go_simp; first | done | with_reducible rfl
  refine Eng.TW.take' (v := ?_) rfl rfl (by decide) (by kernel_rfl) (fun w hw => ?_) ?_
  rotate_left
  · (try dsimp only at hw); go_simp; first | done | with_reducible rfl
  refine Eng.TW.call rfl rfl (by decide) (by kernel_rfl) ?_ (Key.Span y ha hb0 _) ?_
  · go_simp
  rintro e w2 ⟨rfl, hb1⟩
  have HSt2 := Lib.hid (HSt.out.fr (Fr.of_below' hb1 _))
  have hSS : w2.cell? ⟨h + 3, 0, none⟩ = some (.map (some h)) ∧ w2.cell? ⟨Bx, 0, none⟩ = some (.int .i64 y.t) ∧ w2.cell? ⟨Bx, 1, none⟩ = some (.int .i64 y.i) ∧ w2.cell? ⟨Bx, 2, none⟩ = some (.int .i64 y.p) ∧ w2.cell? ⟨Bx, 3, none⟩ = some (.int .i64 y.r) ∧ w2.cell? ⟨Bx, 4, none⟩ = some (.string y.s) ∧ w2.cell? ⟨Bx, 5, none⟩ = some (.string y.o) ∧ w2.cell? ⟨Bx, 6, none⟩ = some (.int .i64 y.b) ∧ w2.cell? ⟨Bx, 7, none⟩ = some (.int .i64 y.d) ∧ w2.cell? ⟨Bx, 8, none⟩ = some (.bool y.g) := ⟨(cell3 HSt2.out.f).1, HSt2.out.a 0 _ rfl, HSt2.out.a 1 _ rfl, HSt2.out.a 2 _ rfl, HSt2.out.a 3 _ rfl, HSt2.out.a 4 _ rfl, HSt2.out.a 5 _ rfl, HSt2.out.a 6 _ rfl, HSt2.out.a 7 _ rfl, HSt2.out.a 8 _ rfl⟩
  clear hb1
  refine ⟨_, rfl, hSS, ?_⟩
  obtain ⟨w9, hup, hm9, hf9⟩ := HSt2.out.f.putS hs hk hl (by rw [hy]; exact ha) (by rw [hy]; exact hb0)
  rw [hy] at hup
  refine Eng.TW.step0 rfl rfl (by kernel_rfl) (by go_simp; first | done | with_reducible rfl) (⟨(cell3 ((⟨hm9, HSt2.out.a.fr hf9 (by have := HSt2.out.n; omega), HSt2.out.n⟩ : FX w0 w9 h (L.take (k + 1)) (L.take k) (n + 1) m P Bx y)).f).1, ((⟨hm9, HSt2.out.a.fr hf9 (by have := HSt2.out.n; omega), HSt2.out.n⟩ : FX w0 w9 h (L.take (k + 1)) (L.take k) (n + 1) m P Bx y)).a 0 _ rfl, ((⟨hm9, HSt2.out.a.fr hf9 (by have := HSt2.out.n; omega), HSt2.out.n⟩ : FX w0 w9 h (L.take (k + 1)) (L.take k) (n + 1) m P Bx y)).a 1 _ rfl, ((⟨hm9, HSt2.out.a.fr hf9 (by have := HSt2.out.n; omega), HSt2.out.n⟩ : FX w0 w9 h (L.take (k + 1)) (L.take k) (n + 1) m P Bx y)).a 2 _ rfl, ((⟨hm9, HSt2.out.a.fr hf9 (by have := HSt2.out.n; omega), HSt2.out.n⟩ : FX w0 w9 h (L.take (k + 1)) (L.take k) (n + 1) m P Bx y)).a 3 _ rfl, ((⟨hm9, HSt2.out.a.fr hf9 (by have := HSt2.out.n; omega), HSt2.out.n⟩ : FX w0 w9 h (L.take (k + 1)) (L.take k) (n + 1) m P Bx y)).a 4 _ rfl, ((⟨hm9, HSt2.out.a.fr hf9 (by have := HSt2.out.n; omega), HSt2.out.n⟩ : FX w0 w9 h (L.take (k + 1)) (L.take k) (n + 1) m P Bx y)).a 5 _ rfl, ((⟨hm9, HSt2.out.a.fr hf9 (by have := HSt2.out.n; omega), HSt2.out.n⟩ : FX w0 w9 h (L.take (k + 1)) (L.take k) (n + 1) m P Bx y)).a 6 _ rfl, ((⟨hm9, HSt2.out.a.fr hf9 (by have := HSt2.out.n; omega), HSt2.out.n⟩ : FX w0 w9 h (L.take (k + 1)) (L.take k) (n + 1) m P Bx y)).a 7 _ rfl, ((⟨hm9, HSt2.out.a.fr hf9 (by have := HSt2.out.n; omega), HSt2.out.n⟩ : FX w0 w9 h (L.take (k + 1)) (L.take k) (n + 1) m P Bx y)).a 8 _ rfl⟩) ?_
  have HSt3 := Lib.hid ((⟨hm9, HSt2.out.a.fr hf9 (by have := HSt2.out.n; omega), HSt2.out.n⟩ : FX w0 w9 h (L.take (k + 1)) (L.take k) (n + 1) m P Bx y))
  have hSS : (w9).cell? ⟨h + 3, 0, none⟩ = some (.map (some h)) ∧ (w9).cell? ⟨Bx, 0, none⟩ = some (.int .i64 y.t) ∧ (w9).cell? ⟨Bx, 1, none⟩ = some (.int .i64 y.i) ∧ (w9).cell? ⟨Bx, 2, none⟩ = some (.int .i64 y.p) ∧ (w9).cell? ⟨Bx, 3, none⟩ = some (.int .i64 y.r) ∧ (w9).cell? ⟨Bx, 4, none⟩ = some (.string y.s) ∧ (w9).cell? ⟨Bx, 5, none⟩ = some (.string y.o) ∧ (w9).cell? ⟨Bx, 6, none⟩ = some (.int .i64 y.b) ∧ (w9).cell? ⟨Bx, 7, none⟩ = some (.int .i64 y.d) ∧ (w9).cell? ⟨Bx, 8, none⟩ = some (.bool y.g) := ⟨(cell3 HSt3.out.f).1, HSt3.out.a 0 _ rfl, HSt3.out.a 1 _ rfl, HSt3.out.a 2 _ rfl, HSt3.out.a 3 _ rfl, HSt3.out.a 4 _ rfl, HSt3.out.a 5 _ rfl, HSt3.out.a 6 _ rfl, HSt3.out.a 7 _ rfl, HSt3.out.a 8 _ rfl⟩
  refine Eng.TW.end_ [17, 18, 19, 20, 21, 22, 23] HN.out (by kernel_rfl) (by kernel_rfl) ?_
  exact HP.out _ _ HSt3.out

set_option maxRecDepth 100000 in
set_option maxHeartbeats 400000 in
theorem pl6 {ops : Array Oper} (hops : Eng.fnOps Try.f59 6 = ops) (a0 : Act) (Q : Exit → Act → World → Prop) (w0 w : World) (h : Nat) (L : List Sn) (k n m c : Nat) (P : Int → Int → Option Pc) (Bx : Nat) (y : Sn) (hk : k < L.length) (hy : L[k] = y) (hl : n + 2 < 1000000) (ha : wf64 y.t) (hb0 : wf64 y.p) (hc : cnt (L.take k) y.t y.p = c) (hcl : c ≤ 1000) (hst : FX w0 w h (L.take (k + 1)) (L.take k) (n + 1) m P Bx y)
    (hn : a0.tmps.size = 37) (h_3 : a0.tmps.getD 3 undef = .pointer (some ⟨h + 3, 0, none⟩)) (h_5 : a0.tmps.getD 5 undef = .pointer (some ⟨Bx, 0, none⟩))
    (hpost : ∀ (x : Nat → Value) (w' : World), FX w0 w' h (L.take (k + 1)) (L.take (k + 1)) (n + 2) m P Bx y → Q .normal (Eng.setAll a0 [24, 25, 26, 27, 28, 29, 30, 31, 32, 33, 34] x) w') :
    (Code.region 6 ops true).wp Try.prog Q a0 w := by
  simp only [Eng.fnOps, Eng.regOps, Try.f59, Option.bind_some, Option.getD_some, Nat.reduceEqDiff, ↓reduceIte, Nat.reduceBEq] at hops
  subst hops
  have q9 : IntKind.i64.wrap ((c : Int) + 1) = (c : Int) + 1 := by rw [IntKind.wrap_i64]; omega
  have HSt := Lib.hid (hst.fr (Fr.drew _ _))
  have hSS : w.drew.cell? ⟨h + 3, 2, none⟩ = some (.map (some (h + 2))) ∧ w.drew.cell? ⟨Bx, 0, none⟩ = some (.int .i64 y.t) ∧ w.drew.cell? ⟨Bx, 2, none⟩ = some (.int .i64 y.p) := ⟨(cell3 HSt.out.f).2.2, HSt.out.a 0 _ rfl, HSt.out.a 2 _ rfl⟩
  refine Eng.regionT (.take 0 (.take 1 (.take 2 (.take 3 (.take 4 (.take 5 (.take 6 (.take 7 (.alt 8 (.alt 9 (.take 10 (.alt 11 (.done) (.stop))) (.stop)) (.stop)))))))))) (fun w' => w'.cell? ⟨h + 3, 2, none⟩ = some (.map (some (h + 2))) ∧ w'.cell? ⟨Bx, 0, none⟩ = some (.int .i64 y.t) ∧ w'.cell? ⟨Bx, 2, none⟩ = some (.int .i64 y.p)) (by kernel_rfl) 37 hn (by kernel_rfl) (by kernel_rfl) (by kernel_rfl) (hSS) (fun a b ha hb => ?_)
  subst ha
  have hb3 : b 3 = .pointer (some ⟨h + 3, 0, none⟩) := (hb 3).symm.trans h_3
  have hb5 : b 5 = .pointer (some ⟨Bx, 0, none⟩) := (hb 5).symm.trans h_5
  clear hb h_3 h_5
  have HP := Lib.hid hpost; have HN := Lib.hid hn
  clear hpost hn
  refine Eng.TW.take' (v := ?_) rfl rfl (by decide) (by kernel_rfl) (fun w hw => ?_) ?_
  rotate_left
  · (try dsimp only at hw); go_simp; first | done | with_reducible rfl
  refine Eng.TW.take' (v := ?_) rfl rfl (by decide) (by kernel_rfl) (fun w hw => ?_) ?_
  rotate_left
  · (try dsimp only at hw); go_simp; first | done | with_reducible rfl
  refine Eng.TW.take' (v := ?_) rfl rfl (by decide) (by kernel_rfl) (fun w hw => ?_) ?_
  rotate_left
  · (try dsimp only at hw); go_simp; first | done | with_reducible rfl
  refine Eng.TW.take' (v := ?_) rfl rfl (by decide) (by kernel_rfl) (fun w hw => ?_) ?_
  rotate_left
  · (try dsimp only at hw); go_simp; first | done | with_reducible rfl
  refine Eng.TW.take' (v := ?_) rfl rfl (by decide) (by kernel_rfl) (fun w hw => ?_) ?_
  rotate_left
  · (try dsimp only at hw); go_simp; first | done | with_reducible rfl
  refine Eng.TW.take' (v := ?_) rfl rfl (by decide) (by kernel_rfl) (fun w hw => ?_) ?_
  rotate_left
  · (try dsimp only at hw); go_simp; first | done | with_reducible rfl
  refine Eng.TW.take' (v := ?_) rfl rfl (by decide) (by kernel_rfl) (fun w hw => ?_) ?_
  rotate_left
  · (try dsimp only at hw); go_simp; first | done | with_reducible rfl
  refine Eng.TW.take' (v := ?_) rfl rfl (by decide) (by kernel_rfl) (fun w hw => ?_) ?_
  rotate_left
  · (try dsimp only at hw); go_simp; first | done | with_reducible rfl
  refine Eng.TW.call rfl rfl (by decide) (by kernel_rfl) ?_ (Key.Of ha hb0 _) ?_
  · go_simp
  rintro e w2 ⟨rfl, hb1⟩
  have HSt2 := Lib.hid (HSt.out.fr (Fr.of_below' hb1 _))
  have hSS : w2.cell? ⟨h + 3, 2, none⟩ = some (.map (some (h + 2))) ∧ w2.cell? ⟨Bx, 0, none⟩ = some (.int .i64 y.t) ∧ w2.cell? ⟨Bx, 2, none⟩ = some (.int .i64 y.p) := ⟨(cell3 HSt2.out.f).2.2, HSt2.out.a 0 _ rfl, HSt2.out.a 2 _ rfl⟩
  clear hb1
  refine ⟨_, rfl, hSS, ?_⟩
  have hlk := HSt2.out.f.count ha hb0
  rw [hc] at hlk
  refine Eng.TW.step rfl rfl (by decide) (by kernel_rfl) (by go_simp; first | done | with_reducible rfl) (⟨(cell3 (HSt2.out).f).2.2, (HSt2.out).a 0 _ rfl, (HSt2.out).a 2 _ rfl⟩) ?_
  have HSt3 := Lib.hid (HSt2.out)
  have hSS : (w2).cell? ⟨h + 3, 2, none⟩ = some (.map (some (h + 2))) ∧ (w2).cell? ⟨Bx, 0, none⟩ = some (.int .i64 y.t) ∧ (w2).cell? ⟨Bx, 2, none⟩ = some (.int .i64 y.p) := ⟨(cell3 HSt3.out.f).2.2, HSt3.out.a 0 _ rfl, HSt3.out.a 2 _ rfl⟩
  refine Eng.TW.take' (v := ?_) rfl rfl (by decide) (by kernel_rfl) (fun w hw => ?_) ?_
  rotate_left
  · (try dsimp only at hw); go_simp; first | done | with_reducible rfl
  obtain ⟨w9, hup, hm9, hf9⟩ := HSt3.out.f.putF hk hl (by rw [hy]; exact ha) (by rw [hy]; exact hb0)
  rw [hy, hc] at hup
  refine Eng.TW.step0 rfl rfl (by kernel_rfl) (by go_simp; first | done | with_reducible rfl) (⟨(cell3 ((⟨hm9, HSt3.out.a.fr hf9 (by have := HSt3.out.n; omega), HSt3.out.n⟩ : FX w0 w9 h (L.take (k + 1)) (L.take (k + 1)) (n + 2) m P Bx y)).f).2.2, ((⟨hm9, HSt3.out.a.fr hf9 (by have := HSt3.out.n; omega), HSt3.out.n⟩ : FX w0 w9 h (L.take (k + 1)) (L.take (k + 1)) (n + 2) m P Bx y)).a 0 _ rfl, ((⟨hm9, HSt3.out.a.fr hf9 (by have := HSt3.out.n; omega), HSt3.out.n⟩ : FX w0 w9 h (L.take (k + 1)) (L.take (k + 1)) (n + 2) m P Bx y)).a 2 _ rfl⟩) ?_
  have HSt4 := Lib.hid ((⟨hm9, HSt3.out.a.fr hf9 (by have := HSt3.out.n; omega), HSt3.out.n⟩ : FX w0 w9 h (L.take (k + 1)) (L.take (k + 1)) (n + 2) m P Bx y))
  have hSS : (w9).cell? ⟨h + 3, 2, none⟩ = some (.map (some (h + 2))) ∧ (w9).cell? ⟨Bx, 0, none⟩ = some (.int .i64 y.t) ∧ (w9).cell? ⟨Bx, 2, none⟩ = some (.int .i64 y.p) := ⟨(cell3 HSt4.out.f).2.2, HSt4.out.a 0 _ rfl, HSt4.out.a 2 _ rfl⟩
  refine Eng.TW.end_ [24, 25, 26, 27, 28, 29, 30, 31, 32, 33, 34] HN.out (by kernel_rfl) (by kernel_rfl) ?_
  exact HP.out _ _ HSt4.out

set_option maxRecDepth 100000 in
set_option maxHeartbeats 1000000 in
theorem plant (A : Option Addr) (c : Nat) (L : List Sn) (w : World) (hS : Ls w A c L) (hs : Srs L) (hlen : L.length ≤ 1000) :
    Calls Try.prog 59 #[.slice A L.length c] w fun e w' => ∃ h n, e = .returned (.pointer (some ⟨h + 3, 0, none⟩)) ∧ n ≤ 2000 ∧ Fo w w' h L L n 0 (fun _ _ => none) := by
  have HS := Lib.hid hS
  have HSr := Lib.hid hs
  have f1 := Fr.alloc (fun _ => False) w (.map #[] 0)
  have m1 := Mp.M.new w
  have z1 : (w.alloc (.map #[] 0)).heap.size = w.heap.size + 1 := World.size_alloc _ _
  generalize hw1 : w.alloc (.map #[] 0) = w1 at f1 m1 z1
  have f2 := Fr.alloc (fun _ => False) w1 (.map #[] 0)
  have m2 := Mp.M.new w1
  have z2 : (w1.alloc (.map #[] 0)).heap.size = w1.heap.size + 1 := World.size_alloc _ _
  generalize hw2 : w1.alloc (.map #[] 0) = w2 at f2 m2 z2
  have f3 := Fr.alloc (fun _ => False) w2 (.map #[] 0)
  have m3 := Mp.M.new w2
  have z3 : (w2.alloc (.map #[] 0)).heap.size = w2.heap.size + 1 := World.size_alloc _ _
  generalize hw3 : w2.alloc (.map #[] 0) = w3 at f3 m3 z3
  have f4 := Fr.alloc (fun _ => False) w3 (.cells #[.map (some w.heap.size), .map (some (w.heap.size + 1)), .map (some (w.heap.size + 2))] TF)
  have b4 := Bk.new w3 #[.map (some w.heap.size), .map (some (w.heap.size + 1)), .map (some (w.heap.size + 2))] TF
  rw [z3, z2, z1] at b4
  rw [z1] at m2
  rw [z2, z1] at m3
  have HF : Hid (Fo w ((((w.alloc (.map #[] 0)).alloc (.map #[] 0)).alloc (.map #[] 0)).alloc (.cells #[.map (some w.heap.size), .map (some (w.heap.size + 1)), .map (some (w.heap.size + 2))] TF)) w.heap.size [] [] 0 0 (fun _ _ => none)) := by
    rw [hw1, hw2, hw3]
    have g34 := f3.trans f4 (T := fun _ => False) (fun _ _ h => h) (fun _ _ h => h)
    have g24 := f2.trans g34 (T := fun _ => False) (fun _ _ h => h) (fun _ _ h => h)
    exact ⟨b4, (m1.fr g24 (fun h => h)).to (fun _ _ _ _ => rfl), (m2.fr g34 (fun h => h)).to (fun _ _ _ _ => rfl), (m3.fr f4 (fun h => h)).to (fun _ _ _ _ => rfl), (f1.trans g24 (T := fun _ => False) (fun _ _ h => h) (fun _ _ h => h)).below (Nat.le_refl _) (fun _ _ h => h), Nat.le_refl _⟩
  clear f1 f2 f3 f4 m1 m2 m3 b4 z1 z2 z3 hw1 hw2 hw3 hS hs w1 w2 w3
  have hmm := @run_makeMap Try.prog
  go_enter Try.func59, Try.ntmps59
  go_upto_region 2 with (fail)
  generalize ((((w.alloc (.map #[] 0)).alloc (.map #[] 0)).alloc (.map #[] 0)).alloc (.cells #[.map (some w.heap.size), .map (some (w.heap.size + 1)), .map (some (w.heap.size + 2))] TF)) = w1 at *
  clear hmm
  go_wp2_with fail
  go_loopg [5, 13] L.length (fun gk _ i wr => ∃ k : Nat, i = .int .i64 k ∧ k ≤ L.length ∧ gk = L.length - k ∧ Fo w wr w.heap.size (L.take k) (L.take k) (2 * k) 0 (fun _ _ => none))
  case atStart => exact ⟨0, rfl, Nat.zero_le _, rfl, HF.out⟩
  case round =>
    clear HF
    obtain ⟨k, rfl, hk, hg, hfo⟩ := hrel
    have HG := Lib.hid hg; have HF := Lib.hid hfo
    clear hg hfo
    by_cases hlt : k < L.length
    · obtain ⟨b1, o1, rfl, hb1, c1⟩ := HS.out.s.at hlt (by omega)
      have HA := Lib.hid ((At.row c1 hlt).fr (Fr.of_below' HF.out.l (fun _ => False)) (fun h => h))
      have HY := Lib.hid (HS.out.ok _ (List.getElem_mem hlt))
      obtain ⟨y, hy⟩ : ∃ y, L[k] = y := ⟨_, rfl⟩
      have HYe := Lib.hid hy
      clear c1 hb1
      rw [hy] at HA HY
      clear hy
      have hcl := cnt_le (L.take k) y.t y.p
      rw [List.length_take] at hcl
      have q2 : decide ((k : Int) < (L.length : Int)) = true := by simp; omega
      have yc0 : wr.cell? ⟨b1, o1 + k * 9, none⟩ = some (.int .i64 y.t) := HA.out 0 _ rfl
      have yc1 : wr.cell? ⟨b1, o1 + k * 9 + 1, none⟩ = some (.int .i64 y.i) := HA.out 1 _ rfl
      have yc2 : wr.cell? ⟨b1, o1 + k * 9 + 1 + 1, none⟩ = some (.int .i64 y.p) := HA.out 2 _ rfl
      have yc3 : wr.cell? ⟨b1, o1 + k * 9 + 1 + 1 + 1, none⟩ = some (.int .i64 y.r) := HA.out 3 _ rfl
      have yc4 : wr.cell? ⟨b1, o1 + k * 9 + 1 + 1 + 1 + 1, none⟩ = some (.string y.s) := HA.out 4 _ rfl
      have yc5 : wr.cell? ⟨b1, o1 + k * 9 + 1 + 1 + 1 + 1 + 1, none⟩ = some (.string y.o) := HA.out 5 _ rfl
      have yc6 : wr.cell? ⟨b1, o1 + k * 9 + 1 + 1 + 1 + 1 + 1 + 1, none⟩ = some (.int .i64 y.b) := HA.out 6 _ rfl
      have yc7 : wr.cell? ⟨b1, o1 + k * 9 + 1 + 1 + 1 + 1 + 1 + 1 + 1, none⟩ = some (.int .i64 y.d) := HA.out 7 _ rfl
      have yc8 : wr.cell? ⟨b1, o1 + k * 9 + 1 + 1 + 1 + 1 + 1 + 1 + 1 + 1, none⟩ = some (.bool y.g) := HA.out 8 _ rfl
      go_upto_region 5 with (fail)
      have s2 := Bk.new wr y.arr TSn
      have s3 := Fr.alloc (fun _ => False) wr (.cells y.arr TSn)
      have HX : Hid (FX w (wr.alloc (.cells y.arr TSn)) w.heap.size (L.take k) (L.take k) (2 * k) 0 (fun _ _ => none) wr.heap.size y) := by
        have := lt_of_heap HF.out.b
        exact ⟨HF.out.fr s3, At.box s2, by omega⟩
      clear s2 s3 HA yc0 yc1 yc2 yc3 yc4 yc5 yc6 yc7 yc8
      generalize (wr.alloc (.cells y.arr TSn)) = w2 at *
      refine pl5 (by kernel_rfl) _ _ w w2 w.heap.size L k (2 * k) 0 _ wr.heap.size y HSr.out hlt HYe.out (by omega) HY.out.t HY.out.i HX.out rfl rfl rfl ?_
      intro x w3 hst
      simp only [Eng.setAll, Act.put, List.setIfInBounds_toArray, List.set_cons_succ, List.set_cons_zero]
      have HX3 := Lib.hid hst
      clear hst HX
      go_upto_region 6 with (fail)
      refine pl6 (by kernel_rfl) _ _ w w3 w.heap.size L k (2 * k) 0 _ _ wr.heap.size y hlt HYe.out (by omega) HY.out.t HY.out.p rfl (by omega) HX3.out rfl rfl rfl ?_
      intro x w4 hst
      simp only [Eng.setAll, Act.put, List.setIfInBounds_toArray, List.set_cons_succ, List.set_cons_zero]
      have HX4 := Lib.hid hst.f
      clear hst HX3
      go_wp2_with fail
      go_roundg (L.length - (k + 1))
      case rel => exact ⟨k + 1, by go_num, by omega, rfl, HX4.out⟩
      case measure => have := HG.out; omega
    · obtain rfl : k = L.length := by omega
      rw [List.take_length] at HF
      have q2 : decide ((L.length : Int) < (L.length : Int)) = false := by simp
      go_wp2_with fail
      go_ret
      exact ⟨w.heap.size, 2 * L.length, rfl, by omega, HF.out⟩
end ClsF
end Go.Proofs.Ytmcghchhegfilaa
