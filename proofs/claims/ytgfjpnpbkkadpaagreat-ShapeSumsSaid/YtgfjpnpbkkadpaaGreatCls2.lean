/- A forest in the heap: spans, places and fans by their keys; how it is planted. -/
import Derived.Test.YtgfjpnpbkkadpaaGreatClsW
import Derived.Test.YtgfjpnpbkkadpaaGreatCls1
import Derived.Test.YtgfjpnpbkkadpaaGreatMp
import Derived.Test.YtgfjpnpbkkadpaaGreatClsS
namespace Go.Proofs.YtgfjpnpbkkadpaaGreat
open Go.RowKit
namespace ClsF
open KeyP PackP SetP SetW SetF Cls ClsW
attribute [local go_sem] Eng.ev Eng.getO_cons Eng.getO_nil
abbrev TF : TypeId := 234
abbrev TPl : TypeId := 91
abbrev TMs : TypeId := 231
abbrev TMp : TypeId := 232
abbrev TMf : TypeId := 195
/-- A span's place. -/
structure Pc where
  t : Int
  i : Int
  c : Int
  d : Int
  p : Int
  f : Int
deriving DecidableEq
abbrev Pc.cs (x : Pc) : List Value := [.int .i64 x.t, .int .i64 x.i, .int .i64 x.c, .int .i64 x.d, .int .i64 x.p, .int .i64 x.f]
abbrev Pc.arr (x : Pc) : Array Value := #[.int .i64 x.t, .int .i64 x.i, .int .i64 x.c, .int .i64 x.d, .int .i64 x.p, .int .i64 x.f]
abbrev Pc.v (x : Pc) : Value := .agg x.arr
abbrev zS : Value := .agg #[.int .i64 0, .int .i64 0, .int .i64 0, .int .i64 0, .string ByteArray.empty, .string ByteArray.empty, .int .i64 0, .int .i64 0, .bool false]
abbrev zP : Value := .agg #[.int .i64 0, .int .i64 0, .int .i64 0, .int .i64 0, .int .i64 0, .int .i64 0]
theorem zeroS (w : World) : (zeroValue TSn).run Tryz.prog w = .ok zS w := by kernel_rfl
theorem zeroP (w : World) : (zeroValue TPl).run Tryz.prog w = .ok zP w := by kernel_rfl
theorem zeroI (w : World) : (zeroValue 3).run Tryz.prog w = .ok (.int .i64 0) w := by kernel_rfl
theorem uS : Tryz.prog.underlying TMs = some (.map Mp.TS TSn) := Tryz.underlying231
theorem uP : Tryz.prog.underlying TMp = some (.map Mp.TS TPl) := Tryz.underlying232
theorem uF : Tryz.prog.underlying TMf = some (.map Mp.TS 3) := Tryz.underlying195
def spv (L : List Sn) (t i : Int) : Option Value := (nx L t i).map Sn.v
def cnt (L : List Sn) (t p : Int) : Nat := (L.filter (fun y => decide (y.t = t) && decide (y.p = p))).length
def fnv (L : List Sn) (t p : Int) : Option Value := if cnt L t p = 0 then none else some (.int .i64 ((cnt L t p : Nat) : Int))
theorem fnv_get (L : List Sn) (t p : Int) : (fnv L t p).getD (.int .i64 0) = .int .i64 ((cnt L t p : Nat) : Int) := by
  unfold fnv
  split
  · rename_i h; rw [h]; rfl
  · rfl
theorem cnt_le (L : List Sn) (t p : Int) : cnt L t p ≤ L.length := List.length_filter_le _ _
theorem cnt_snoc {L : List Sn} {k : Nat} (h : k < L.length) (t p : Int) : cnt (L.take (k + 1)) t p = cnt (L.take k) t p + if L[k].t = t ∧ L[k].p = p then 1 else 0 := by
  unfold cnt
  rw [List.take_succ_eq_append_getElem h, List.filter_append, List.length_append, List.filter_cons]
  by_cases e : L[k].t = t ∧ L[k].p = p
  · rw [if_pos e, decide_eq_true e.1, decide_eq_true e.2]; rfl
  · rw [if_neg e]
    have : (decide (L[k].t = t) && decide (L[k].p = p)) = false := by
      rw [← Bool.decide_and]; exact decide_eq_false e
    rw [this]; rfl
theorem fnv_snoc1 {L : List Sn} {k : Nat} (h : k < L.length) : fnv (L.take (k + 1)) L[k].t L[k].p = some (.int .i64 (((cnt (L.take k) L[k].t L[k].p : Nat) : Int) + 1)) := by
  have e : cnt (L.take (k + 1)) L[k].t L[k].p = cnt (L.take k) L[k].t L[k].p + 1 := by rw [cnt_snoc h, if_pos ⟨rfl, rfl⟩]
  unfold fnv
  rw [e, if_neg (by omega)]
  simp
theorem fnv_snoc2 {L : List Sn} {k : Nat} (h : k < L.length) (c d : Int) (hne : ¬ (c = L[k].t ∧ d = L[k].p)) : fnv (L.take (k + 1)) c d = fnv (L.take k) c d := by
  have e : cnt (L.take (k + 1)) c d = cnt (L.take k) c d := by rw [cnt_snoc h, if_neg (fun e => hne ⟨e.1.symm, e.2.symm⟩)]; rfl
  unfold fnv
  rw [e]
theorem spv_snoc1 {L : List Sn} (hs : Srs L) {k : Nat} (h : k < L.length) : spv (L.take (k + 1)) L[k].t L[k].i = some L[k].v := by
  unfold spv nx
  rw [List.take_succ_eq_append_getElem h, List.find?_append]
  have : (L.take k).find? (fun y => decide (y.t = L[k].t) && decide (y.i = L[k].i)) = none := by
    rw [List.find?_eq_none]
    intro y hy hp
    simp only [Bool.and_eq_true, decide_eq_true_eq] at hp
    obtain ⟨j, hj, rfl⟩ := List.getElem_of_mem hy
    rw [List.length_take] at hj
    rw [List.getElem_take] at hp
    have h1 := List.pairwise_iff_getElem.1 hs j k (by omega) h (by omega)
    have h2 := bef_ne h1
    have h3 : one L[j] L[k] = true := one_iff.2 hp
    rw [h2] at h3; cases h3
  rw [this]
  simp
theorem spv_snoc2 {L : List Sn} {k : Nat} (h : k < L.length) (c d : Int) (hne : ¬ (c = L[k].t ∧ d = L[k].i)) : spv (L.take (k + 1)) c d = spv (L.take k) c d := by
  unfold spv nx
  rw [List.take_succ_eq_append_getElem h, List.find?_append]
  have : (decide (L[k].t = c) && decide (L[k].i = d)) = false := by
    rw [← Bool.decide_and]; exact decide_eq_false (fun e => hne ⟨e.1.symm, e.2.symm⟩)
  rw [List.find?_cons, this]
  simp
/-- A forest: its spans are those of S, its fans those of F; the places that are known are P's. -/
structure Fo (w0 w : World) (h : Nat) (S F : List Sn) (n m : Nat) (P : Int → Int → Option Pc) : Prop where
  b : Bk w (h + 3) #[.map (some h), .map (some (h + 1)), .map (some (h + 2))] TF
  s : Mp.M w h n (spv S)
  p : Mp.M w (h + 1) m (fun t i => (P t i).map Pc.v)
  f : Mp.M w (h + 2) n (fnv F)
  l : Below w0.heap.size w0 w
  z : w0.heap.size ≤ h
theorem Fo.fr {w0 w w' : World} {h : Nat} {S F : List Sn} {n m : Nat} {P : Int → Int → Option Pc} (H : Fo w0 w h S F n m P) (hf : Fr (fun _ => False) w w') : Fo w0 w' h S F n m P :=
  ⟨H.b.fr hf (fun _ _ h => h), H.s.fr hf (fun h => h), H.p.fr hf (fun h => h), H.f.fr hf (fun h => h), H.l.trans (hf.below H.l.size (fun _ _ h => h)), H.z⟩
theorem Fo.below {w0 w w' : World} {h : Nat} {S F : List Sn} {n m : Nat} {P : Int → Int → Option Pc} (H : Fo w0 w h S F n m P) (hb : Below w.heap.size w w') : Fo w0 w' h S F n m P := H.fr (Fr.of_below' hb _)
theorem M_n {w : World} {r n n' : Nat} {f : Int → Int → Option Value} (h : Mp.M w r n f) (hn : n ≤ n') (h' : n' < 1000000) : Mp.M w r n' f := by
  obtain ⟨-, D, h4, h5⟩ := h
  exact ⟨h', D, h4.mono hn, h5⟩
/-- A span is put in. -/
theorem Fo.putS {w0 w : World} {h : Nat} {L : List Sn} {k n m : Nat} {P : Int → Int → Option Pc} (H : Fo w0 w h (L.take k) (L.take k) n m P) (hs : Srs L) (hk : k < L.length) (hl : n + 2 < 1000000) (ha : wf64 L[k].t) (hb : wf64 L[k].i) :
    ∃ w', (Instr.mapUpdate TMs (.map (some h)) (.string (key2 L[k].t L[k].i)) L[k].v).run Tryz.prog w = .ok () w' ∧ Fo w0 w' h (L.take (k + 1)) (L.take k) (n + 1) m P ∧ Fr (· = h) w w' := by
  obtain ⟨w', h1, h2, h3⟩ := H.s.upd uS ha hb L[k].v (spv_snoc1 hs hk) (fun c d hne => spv_snoc2 hk c d hne) (by omega)
  refine ⟨w', h1, ⟨H.b.fr h3 (fun j hj e => by simp at hj; omega), h2, H.p.fr h3 (by omega), M_n (H.f.fr h3 (by omega)) (by omega) (by omega), H.l.trans (h3.below H.l.size (fun j hj e => by have := H.z; omega)), H.z⟩, h3⟩
theorem Fo.putF {w0 w : World} {h : Nat} {L : List Sn} {k n m : Nat} {P : Int → Int → Option Pc} (H : Fo w0 w h (L.take (k + 1)) (L.take k) (n + 1) m P) (hk : k < L.length) (hl : n + 2 < 1000000) (ha : wf64 L[k].t) (hb : wf64 L[k].p) :
    ∃ w', (Instr.mapUpdate TMf (.map (some (h + 2))) (.string (key2 L[k].t L[k].p)) (.int .i64 (((cnt (L.take k) L[k].t L[k].p : Nat) : Int) + 1))).run Tryz.prog w = .ok () w' ∧ Fo w0 w' h (L.take (k + 1)) (L.take (k + 1)) (n + 2) m P ∧ Fr (· = h + 2) w w' := by
  obtain ⟨w', h1, h2, h3⟩ := H.f.upd uF ha hb (.int .i64 (((cnt (L.take k) L[k].t L[k].p : Nat) : Int) + 1)) (fnv_snoc1 hk) (fun c d hne => fnv_snoc2 hk c d hne) (by omega)
  exact ⟨w', h1, ⟨H.b.fr h3 (fun j hj e => by simp at hj; omega), M_n (H.s.fr h3 (by omega)) (by omega) (by omega), H.p.fr h3 (by omega), h2, H.l.trans (h3.below H.l.size (fun j hj e => by have := H.z; omega)), H.z⟩, h3⟩
theorem Fo.count {w0 w : World} {h : Nat} {S F : List Sn} {n m : Nat} {P : Int → Int → Option Pc} (H : Fo w0 w h S F n m P) {a b : Int} (ha : wf64 a) (hb : wf64 b) : (Instr.lookup TMf (.map (some (h + 2))) (.string (key2 a b)) false).run Tryz.prog w = .ok (.int .i64 ((cnt F a b : Nat) : Int)) w := by
  rw [H.f.look uF zeroI ha hb, fnv_get]
/-- .. with a record's box. -/
structure FX (w0 w : World) (h : Nat) (S F : List Sn) (n m : Nat) (P : Int → Int → Option Pc) (Bx : Nat) (y : Sn) : Prop where
  f : Fo w0 w h S F n m P
  a : At w Bx 0 y
  n : Bx ≠ h ∧ Bx ≠ h + 1 ∧ Bx ≠ h + 2 ∧ Bx ≠ h + 3
theorem FX.fr {w0 w w' : World} {h : Nat} {S F : List Sn} {n m : Nat} {P : Int → Int → Option Pc} {Bx : Nat} {y : Sn} (H : FX w0 w h S F n m P Bx y) (hf : Fr (fun _ => False) w w') : FX w0 w' h S F n m P Bx y := ⟨H.f.fr hf, H.a.keep hf, H.n⟩
theorem cell3 {w0 w : World} {h : Nat} {S F : List Sn} {n m : Nat} {P : Int → Int → Option Pc} (H : Fo w0 w h S F n m P) : w.cell? ⟨h + 3, 0, none⟩ = some (.map (some h)) ∧ w.cell? ⟨h + 3, 1, none⟩ = some (.map (some (h + 1))) ∧ w.cell? ⟨h + 3, 2, none⟩ = some (.map (some (h + 2))) := ⟨H.b.cell 0, H.b.cell 1, H.b.cell 2⟩
set_option maxRecDepth 100000 in
set_option maxHeartbeats 400000 in
theorem pl5 {ops : Array Oper} (hops : Eng.fnOps Tryz.f98 5 = ops) (a0 : Act) (Q : Exit → Act → World → Prop) (w0 w : World) (h : Nat) (L : List Sn) (k n m : Nat) (P : Int → Int → Option Pc) (Bx : Nat) (y : Sn) (hs : Srs L) (hk : k < L.length) (hy : L[k] = y) (hl : n + 2 < 1000000) (ha : wf64 y.t) (hb0 : wf64 y.i) (hst : FX w0 w h (L.take k) (L.take k) n m P Bx y)
    (hn : a0.tmps.size = 37) (h_3 : a0.tmps.getD 3 undef = .pointer (some ⟨h + 3, 0, none⟩)) (h_5 : a0.tmps.getD 5 undef = .pointer (some ⟨Bx, 0, none⟩))
    (hpost : ∀ (x : Nat → Value) (w' : World), FX w0 w' h (L.take (k + 1)) (L.take k) (n + 1) m P Bx y → Q .normal (Eng.setAll a0 [17, 18, 19, 20, 21, 22, 23] x) w') :
    (Code.region 5 ops true).wp Tryz.prog Q a0 w := by
  simp only [Eng.fnOps, Eng.regOps, Tryz.f98, Option.bind_some, Option.getD_some, Nat.reduceEqDiff, ↓reduceIte, Nat.reduceBEq] at hops
  subst hops
  have HSt := Lib.hid (hst.fr (Fr.drew _ _))
  have hSS : w.drew.cell? ⟨h + 3, 0, none⟩ = some (.map (some h)) ∧ w.drew.cell? ⟨Bx, 0, none⟩ = some (.int .i64 y.t) ∧ w.drew.cell? ⟨Bx, 1, none⟩ = some (.int .i64 y.i) ∧ w.drew.cell? ⟨Bx, 2, none⟩ = some (.int .i64 y.p) ∧ w.drew.cell? ⟨Bx, 3, none⟩ = some (.int .i64 y.r) ∧ w.drew.cell? ⟨Bx, 4, none⟩ = some (.string y.s) ∧ w.drew.cell? ⟨Bx, 5, none⟩ = some (.string y.o) ∧ w.drew.cell? ⟨Bx, 6, none⟩ = some (.int .i64 y.b) ∧ w.drew.cell? ⟨Bx, 7, none⟩ = some (.int .i64 y.d) ∧ w.drew.cell? ⟨Bx, 8, none⟩ = some (.bool y.g) := ⟨(cell3 HSt.out.f).1, HSt.out.a 0 _ rfl, HSt.out.a 1 _ rfl, HSt.out.a 2 _ rfl, HSt.out.a 3 _ rfl, HSt.out.a 4 _ rfl, HSt.out.a 5 _ rfl, HSt.out.a 6 _ rfl, HSt.out.a 7 _ rfl, HSt.out.a 8 _ rfl⟩
  refine Eng.regionT (.take 0 (.take 1 (.take 2 (.take 3 (.take 4 (.take 6 (.alt 5 (.alt 7 (.done) (.stop)) (.stop)))))))) (fun w' => w'.cell? ⟨h + 3, 0, none⟩ = some (.map (some h)) ∧ w'.cell? ⟨Bx, 0, none⟩ = some (.int .i64 y.t) ∧ w'.cell? ⟨Bx, 1, none⟩ = some (.int .i64 y.i) ∧ w'.cell? ⟨Bx, 2, none⟩ = some (.int .i64 y.p) ∧ w'.cell? ⟨Bx, 3, none⟩ = some (.int .i64 y.r) ∧ w'.cell? ⟨Bx, 4, none⟩ = some (.string y.s) ∧ w'.cell? ⟨Bx, 5, none⟩ = some (.string y.o) ∧ w'.cell? ⟨Bx, 6, none⟩ = some (.int .i64 y.b) ∧ w'.cell? ⟨Bx, 7, none⟩ = some (.int .i64 y.d) ∧ w'.cell? ⟨Bx, 8, none⟩ = some (.bool y.g)) (by kernel_rfl) 37 hn (by kernel_rfl) (by kernel_rfl) (by kernel_rfl) (hSS) (fun a b ha hb => ?_)
  subst ha
  have hb3 : b 3 = .pointer (some ⟨h + 3, 0, none⟩) := (hb 3).symm.trans h_3
  have hb5 : b 5 = .pointer (some ⟨Bx, 0, none⟩) := (hb 5).symm.trans h_5
  clear hb h_3 h_5
  have HP := Lib.hid hpost; have HN := Lib.hid hn
  clear hpost hn
  refine Eng.TW.take' (v := ?_) rfl rfl (by decide) (by kernel_rfl) (fun w hw => ?_) ?_
  rotate_left
  · (try dsimp only at hw); go_simp; first | done | with_reducible rfl
  refine Eng.TW.take' (v := ?_) rfl rfl (by decide) (by kernel_rfl) (fun w hw => ?_) ?_
  rotate_left
  · (try dsimp only at hw); go_simp; first | done | with_reducible rfl
  refine Eng.TW.take' (v := ?_) rfl rfl (by decide) (by kernel_rfl) (fun w hw => ?_) ?_
  rotate_left
  · (try dsimp only at hw); go_simp; first | done | with_reducible rfl
  refine Eng.TW.take' (v := ?_) rfl rfl (by decide) (by kernel_rfl) (fun w hw => ?_) ?_
  rotate_left
  · (try dsimp only at hw); go_simp; first | done | with_reducible rfl
  refine Eng.TW.take' (v := ?_) rfl rfl (by decide) (by kernel_rfl) (fun w hw => ?_) ?_
  rotate_left
  · (try dsimp only at hw); go_simp; first | done | with_reducible rfl
  refine Eng.TW.take' (v := ?_) rfl rfl (by decide) (by kernel_rfl) (fun w hw => ?_) ?_
  rotate_left
  · (try dsimp only at hw); go_simp; first | done | with_reducible rfl
  refine Eng.TW.call rfl rfl (by decide) (by kernel_rfl) ?_ (Key.Span y ha hb0 _) ?_
  · go_simp
  rintro e w2 ⟨rfl, hb1⟩
  have HSt2 := Lib.hid (HSt.out.fr (Fr.of_below' hb1 _))
  have hSS : w2.cell? ⟨h + 3, 0, none⟩ = some (.map (some h)) ∧ w2.cell? ⟨Bx, 0, none⟩ = some (.int .i64 y.t) ∧ w2.cell? ⟨Bx, 1, none⟩ = some (.int .i64 y.i) ∧ w2.cell? ⟨Bx, 2, none⟩ = some (.int .i64 y.p) ∧ w2.cell? ⟨Bx, 3, none⟩ = some (.int .i64 y.r) ∧ w2.cell? ⟨Bx, 4, none⟩ = some (.string y.s) ∧ w2.cell? ⟨Bx, 5, none⟩ = some (.string y.o) ∧ w2.cell? ⟨Bx, 6, none⟩ = some (.int .i64 y.b) ∧ w2.cell? ⟨Bx, 7, none⟩ = some (.int .i64 y.d) ∧ w2.cell? ⟨Bx, 8, none⟩ = some (.bool y.g) := ⟨(cell3 HSt2.out.f).1, HSt2.out.a 0 _ rfl, HSt2.out.a 1 _ rfl, HSt2.out.a 2 _ rfl, HSt2.out.a 3 _ rfl, HSt2.out.a 4 _ rfl, HSt2.out.a 5 _ rfl, HSt2.out.a 6 _ rfl, HSt2.out.a 7 _ rfl, HSt2.out.a 8 _ rfl⟩
  clear hb1
  refine ⟨_, rfl, hSS, ?_⟩
  obtain ⟨w9, hup, hm9, hf9⟩ := HSt2.out.f.putS hs hk hl (by rw [hy]; exact ha) (by rw [hy]; exact hb0)
  rw [hy] at hup
  refine Eng.TW.step0 rfl rfl (by kernel_rfl) (by go_simp; first | done | with_reducible rfl) (⟨(cell3 ((⟨hm9, HSt2.out.a.fr hf9 (by have := HSt2.out.n; omega), HSt2.out.n⟩ : FX w0 w9 h (L.take (k + 1)) (L.take k) (n + 1) m P Bx y)).f).1, ((⟨hm9, HSt2.out.a.fr hf9 (by have := HSt2.out.n; omega), HSt2.out.n⟩ : FX w0 w9 h (L.take (k + 1)) (L.take k) (n + 1) m P Bx y)).a 0 _ rfl, ((⟨hm9, HSt2.out.a.fr hf9 (by have := HSt2.out.n; omega), HSt2.out.n⟩ : FX w0 w9 h (L.take (k + 1)) (L.take k) (n + 1) m P Bx y)).a 1 _ rfl, ((⟨hm9, HSt2.out.a.fr hf9 (by have := HSt2.out.n; omega), HSt2.out.n⟩ : FX w0 w9 h (L.take (k + 1)) (L.take k) (n + 1) m P Bx y)).a 2 _ rfl, ((⟨hm9, HSt2.out.a.fr hf9 (by have := HSt2.out.n; omega), HSt2.out.n⟩ : FX w0 w9 h (L.take (k + 1)) (L.take k) (n + 1) m P Bx y)).a 3 _ rfl, ((⟨hm9, HSt2.out.a.fr hf9 (by have := HSt2.out.n; omega), HSt2.out.n⟩ : FX w0 w9 h (L.take (k + 1)) (L.take k) (n + 1) m P Bx y)).a 4 _ rfl, ((⟨hm9, HSt2.out.a.fr hf9 (by have := HSt2.out.n; omega), HSt2.out.n⟩ : FX w0 w9 h (L.take (k + 1)) (L.take k) (n + 1) m P Bx y)).a 5 _ rfl, ((⟨hm9, HSt2.out.a.fr hf9 (by have := HSt2.out.n; omega), HSt2.out.n⟩ : FX w0 w9 h (L.take (k + 1)) (L.take k) (n + 1) m P Bx y)).a 6 _ rfl, ((⟨hm9, HSt2.out.a.fr hf9 (by have := HSt2.out.n; omega), HSt2.out.n⟩ : FX w0 w9 h (L.take (k + 1)) (L.take k) (n + 1) m P Bx y)).a 7 _ rfl, ((⟨hm9, HSt2.out.a.fr hf9 (by have := HSt2.out.n; omega), HSt2.out.n⟩ : FX w0 w9 h (L.take (k + 1)) (L.take k) (n + 1) m P Bx y)).a 8 _ rfl⟩) ?_
  have HSt3 := Lib.hid ((⟨hm9, HSt2.out.a.fr hf9 (by have := HSt2.out.n; omega), HSt2.out.n⟩ : FX w0 w9 h (L.take (k + 1)) (L.take k) (n + 1) m P Bx y))
  have hSS : (w9).cell? ⟨h + 3, 0, none⟩ = some (.map (some h)) ∧ (w9).cell? ⟨Bx, 0, none⟩ = some (.int .i64 y.t) ∧ (w9).cell? ⟨Bx, 1, none⟩ = some (.int .i64 y.i) ∧ (w9).cell? ⟨Bx, 2, none⟩ = some (.int .i64 y.p) ∧ (w9).cell? ⟨Bx, 3, none⟩ = some (.int .i64 y.r) ∧ (w9).cell? ⟨Bx, 4, none⟩ = some (.string y.s) ∧ (w9).cell? ⟨Bx, 5, none⟩ = some (.string y.o) ∧ (w9).cell? ⟨Bx, 6, none⟩ = some (.int .i64 y.b) ∧ (w9).cell? ⟨Bx, 7, none⟩ = some (.int .i64 y.d) ∧ (w9).cell? ⟨Bx, 8, none⟩ = some (.bool y.g) := ⟨(cell3 HSt3.out.f).1, HSt3.out.a 0 _ rfl, HSt3.out.a 1 _ rfl, HSt3.out.a 2 _ rfl, HSt3.out.a 3 _ rfl, HSt3.out.a 4 _ rfl, HSt3.out.a 5 _ rfl, HSt3.out.a 6 _ rfl, HSt3.out.a 7 _ rfl, HSt3.out.a 8 _ rfl⟩
  refine Eng.TW.end_ [17, 18, 19, 20, 21, 22, 23] HN.out (by kernel_rfl) (by kernel_rfl) ?_
  exact HP.out _ _ HSt3.out

set_option maxRecDepth 100000 in
set_option maxHeartbeats 400000 in
theorem pl6 {ops : Array Oper} (hops : Eng.fnOps Tryz.f98 6 = ops) (a0 : Act) (Q : Exit → Act → World → Prop) (w0 w : World) (h : Nat) (L : List Sn) (k n m c : Nat) (P : Int → Int → Option Pc) (Bx : Nat) (y : Sn) (hk : k < L.length) (hy : L[k] = y) (hl : n + 2 < 1000000) (ha : wf64 y.t) (hb0 : wf64 y.p) (hc : cnt (L.take k) y.t y.p = c) (hcl : c ≤ 1000) (hst : FX w0 w h (L.take (k + 1)) (L.take k) (n + 1) m P Bx y)
    (hn : a0.tmps.size = 37) (h_3 : a0.tmps.getD 3 undef = .pointer (some ⟨h + 3, 0, none⟩)) (h_5 : a0.tmps.getD 5 undef = .pointer (some ⟨Bx, 0, none⟩))
    (hpost : ∀ (x : Nat → Value) (w' : World), FX w0 w' h (L.take (k + 1)) (L.take (k + 1)) (n + 2) m P Bx y → Q .normal (Eng.setAll a0 [24, 25, 26, 27, 28, 29, 30, 31, 32, 33, 34] x) w') :
    (Code.region 6 ops true).wp Tryz.prog Q a0 w := by
  simp only [Eng.fnOps, Eng.regOps, Tryz.f98, Option.bind_some, Option.getD_some, Nat.reduceEqDiff, ↓reduceIte, Nat.reduceBEq] at hops
  subst hops
  have q9 : IntKind.i64.wrap ((c : Int) + 1) = (c : Int) + 1 := by rw [IntKind.wrap_i64]; omega
  have HSt := Lib.hid (hst.fr (Fr.drew _ _))
  have hSS : w.drew.cell? ⟨h + 3, 2, none⟩ = some (.map (some (h + 2))) ∧ w.drew.cell? ⟨Bx, 0, none⟩ = some (.int .i64 y.t) ∧ w.drew.cell? ⟨Bx, 2, none⟩ = some (.int .i64 y.p) := ⟨(cell3 HSt.out.f).2.2, HSt.out.a 0 _ rfl, HSt.out.a 2 _ rfl⟩
  refine Eng.regionT (.take 0 (.take 1 (.take 2 (.take 3 (.take 4 (.take 5 (.take 6 (.take 7 (.alt 8 (.alt 9 (.take 10 (.alt 11 (.done) (.stop))) (.stop)) (.stop)))))))))) (fun w' => w'.cell? ⟨h + 3, 2, none⟩ = some (.map (some (h + 2))) ∧ w'.cell? ⟨Bx, 0, none⟩ = some (.int .i64 y.t) ∧ w'.cell? ⟨Bx, 2, none⟩ = some (.int .i64 y.p)) (by kernel_rfl) 37 hn (by kernel_rfl) (by kernel_rfl) (by kernel_rfl) (hSS) (fun a b ha hb => ?_)
  subst ha
  have hb3 : b 3 = .pointer (some ⟨h + 3, 0, none⟩) := (hb 3).symm.trans h_3
  have hb5 : b 5 = .pointer (some ⟨Bx, 0, none⟩) := (hb 5).symm.trans h_5
  clear hb h_3 h_5
  have HP := Lib.hid hpost; have HN := Lib.hid hn
  clear hpost hn
  refine Eng.TW.take' (v := ?_) rfl rfl (by decide) (by kernel_rfl) (fun w hw => ?_) ?_
  rotate_left
  · (try dsimp only at hw); go_simp; first | done | with_reducible rfl
  refine Eng.TW.take' (v := ?_) rfl rfl (by decide) (by kernel_rfl) (fun w hw => ?_) ?_
  rotate_left
  · (try dsimp only at hw); go_simp; first | done | with_reducible rfl
  refine Eng.TW.take' (v := ?_) rfl rfl (by decide) (by kernel_rfl) (fun w hw => ?_) ?_
  rotate_left
  · (try dsimp only at hw); go_simp; first | done | with_reducible rfl
  refine Eng.TW.take' (v := ?_) rfl rfl (by decide) (by kernel_rfl) (fun w hw => ?_) ?_
  rotate_left
  · (try dsimp only at hw); go_simp; first | done | with_reducible rfl
  refine Eng.TW.take' (v := ?_) rfl rfl (by decide) (by kernel_rfl) (fun w hw => ?_) ?_
  rotate_left
  · (try dsimp only at hw); go_simp; first | done | with_reducible rfl
  refine Eng.TW.take' (v := ?_) rfl rfl (by decide) (by kernel_rfl) (fun w hw => ?_) ?_
  rotate_left
  · (try dsimp only at hw); go_simp; first | done | with_reducible rfl
  refine Eng.TW.take' (v := ?_) rfl rfl (by decide) (by kernel_rfl) (fun w hw => ?_) ?_
  rotate_left
  · (try dsimp only at hw); go_simp; first | done | with_reducible rfl
  refine Eng.TW.take' (v := ?_) rfl rfl (by decide) (by kernel_rfl) (fun w hw => ?_) ?_
  rotate_left
  · (try dsimp only at hw); go_simp; first | done | with_reducible rfl
  refine Eng.TW.call rfl rfl (by decide) (by kernel_rfl) ?_ (Key.Of ha hb0 _) ?_
  · go_simp
  rintro e w2 ⟨rfl, hb1⟩
  have HSt2 := Lib.hid (HSt.out.fr (Fr.of_below' hb1 _))
  have hSS : w2.cell? ⟨h + 3, 2, none⟩ = some (.map (some (h + 2))) ∧ w2.cell? ⟨Bx, 0, none⟩ = some (.int .i64 y.t) ∧ w2.cell? ⟨Bx, 2, none⟩ = some (.int .i64 y.p) := ⟨(cell3 HSt2.out.f).2.2, HSt2.out.a 0 _ rfl, HSt2.out.a 2 _ rfl⟩
  clear hb1
  refine ⟨_, rfl, hSS, ?_⟩
  have hlk := HSt2.out.f.count ha hb0
  rw [hc] at hlk
  refine Eng.TW.step rfl rfl (by decide) (by kernel_rfl) (by go_simp; first | done | with_reducible rfl) (⟨(cell3 (HSt2.out).f).2.2, (HSt2.out).a 0 _ rfl, (HSt2.out).a 2 _ rfl⟩) ?_
  have HSt3 := Lib.hid (HSt2.out)
  have hSS : (w2).cell? ⟨h + 3, 2, none⟩ = some (.map (some (h + 2))) ∧ (w2).cell? ⟨Bx, 0, none⟩ = some (.int .i64 y.t) ∧ (w2).cell? ⟨Bx, 2, none⟩ = some (.int .i64 y.p) := ⟨(cell3 HSt3.out.f).2.2, HSt3.out.a 0 _ rfl, HSt3.out.a 2 _ rfl⟩
  refine Eng.TW.take' (v := ?_) rfl rfl (by decide) (by kernel_rfl) (fun w hw => ?_) ?_
  rotate_left
  · (try dsimp only at hw); go_simp; first | done | with_reducible rfl
  obtain ⟨w9, hup, hm9, hf9⟩ := HSt3.out.f.putF hk hl (by rw [hy]; exact ha) (by rw [hy]; exact hb0)
  rw [hy, hc] at hup
  refine Eng.TW.step0 rfl rfl (by kernel_rfl) (by go_simp; first | done | with_reducible rfl) (⟨(cell3 ((⟨hm9, HSt3.out.a.fr hf9 (by have := HSt3.out.n; omega), HSt3.out.n⟩ : FX w0 w9 h (L.take (k + 1)) (L.take (k + 1)) (n + 2) m P Bx y)).f).2.2, ((⟨hm9, HSt3.out.a.fr hf9 (by have := HSt3.out.n; omega), HSt3.out.n⟩ : FX w0 w9 h (L.take (k + 1)) (L.take (k + 1)) (n + 2) m P Bx y)).a 0 _ rfl, ((⟨hm9, HSt3.out.a.fr hf9 (by have := HSt3.out.n; omega), HSt3.out.n⟩ : FX w0 w9 h (L.take (k + 1)) (L.take (k + 1)) (n + 2) m P Bx y)).a 2 _ rfl⟩) ?_
  have HSt4 := Lib.hid ((⟨hm9, HSt3.out.a.fr hf9 (by have := HSt3.out.n; omega), HSt3.out.n⟩ : FX w0 w9 h (L.take (k + 1)) (L.take (k + 1)) (n + 2) m P Bx y))
  have hSS : (w9).cell? ⟨h + 3, 2, none⟩ = some (.map (some (h + 2))) ∧ (w9).cell? ⟨Bx, 0, none⟩ = some (.int .i64 y.t) ∧ (w9).cell? ⟨Bx, 2, none⟩ = some (.int .i64 y.p) := ⟨(cell3 HSt4.out.f).2.2, HSt4.out.a 0 _ rfl, HSt4.out.a 2 _ rfl⟩
  refine Eng.TW.end_ [24, 25, 26, 27, 28, 29, 30, 31, 32, 33, 34] HN.out (by kernel_rfl) (by kernel_rfl) ?_
  exact HP.out _ _ HSt4.out

set_option maxRecDepth 100000 in
set_option maxHeartbeats 1000000 in
theorem plant (A : Option Addr) (c : Nat) (L : List Sn) (w : World) (hS : Ls w A c L) (hs : Srs L) (hlen : L.length ≤ 1000) :
    Calls Tryz.prog 98 #[.slice A L.length c] w fun e w' => ∃ h n, e = .returned (.pointer (some ⟨h + 3, 0, none⟩)) ∧ n ≤ 2000 ∧ Fo w w' h L L n 0 (fun _ _ => none) := by
  have HS := Lib.hid hS
  have HSr := Lib.hid hs
  have f1 := Fr.alloc (fun _ => False) w (.map #[] 0)
  have m1 := Mp.M.new w
  have z1 : (w.alloc (.map #[] 0)).heap.size = w.heap.size + 1 := World.size_alloc _ _
  generalize hw1 : w.alloc (.map #[] 0) = w1 at f1 m1 z1
  have f2 := Fr.alloc (fun _ => False) w1 (.map #[] 0)
  have m2 := Mp.M.new w1
  have z2 : (w1.alloc (.map #[] 0)).heap.size = w1.heap.size + 1 := World.size_alloc _ _
  generalize hw2 : w1.alloc (.map #[] 0) = w2 at f2 m2 z2
  have f3 := Fr.alloc (fun _ => False) w2 (.map #[] 0)
  have m3 := Mp.M.new w2
  have z3 : (w2.alloc (.map #[] 0)).heap.size = w2.heap.size + 1 := World.size_alloc _ _
  generalize hw3 : w2.alloc (.map #[] 0) = w3 at f3 m3 z3
  have f4 := Fr.alloc (fun _ => False) w3 (.cells #[.map (some w.heap.size), .map (some (w.heap.size + 1)), .map (some (w.heap.size + 2))] TF)
  have b4 := Bk.new w3 #[.map (some w.heap.size), .map (some (w.heap.size + 1)), .map (some (w.heap.size + 2))] TF
  rw [z3, z2, z1] at b4
  rw [z1] at m2
  rw [z2, z1] at m3
  have HF : Hid (Fo w ((((w.alloc (.map #[] 0)).alloc (.map #[] 0)).alloc (.map #[] 0)).alloc (.cells #[.map (some w.heap.size), .map (some (w.heap.size + 1)), .map (some (w.heap.size + 2))] TF)) w.heap.size [] [] 0 0 (fun _ _ => none)) := by
    rw [hw1, hw2, hw3]
    have g34 := f3.trans f4 (T := fun _ => False) (fun _ _ h => h) (fun _ _ h => h)
    have g24 := f2.trans g34 (T := fun _ => False) (fun _ _ h => h) (fun _ _ h => h)
    exact ⟨b4, (m1.fr g24 (fun h => h)).to (fun _ _ _ _ => rfl), (m2.fr g34 (fun h => h)).to (fun _ _ _ _ => rfl), (m3.fr f4 (fun h => h)).to (fun _ _ _ _ => rfl), (f1.trans g24 (T := fun _ => False) (fun _ _ h => h) (fun _ _ h => h)).below (Nat.le_refl _) (fun _ _ h => h), Nat.le_refl _⟩
  clear f1 f2 f3 f4 m1 m2 m3 b4 z1 z2 z3 hw1 hw2 hw3 hS hs w1 w2 w3
  have hmm := @run_makeMap Tryz.prog
  go_enter Tryz.func98, Tryz.ntmps98
  go_upto_region 2 with (fail)
  generalize ((((w.alloc (.map #[] 0)).alloc (.map #[] 0)).alloc (.map #[] 0)).alloc (.cells #[.map (some w.heap.size), .map (some (w.heap.size + 1)), .map (some (w.heap.size + 2))] TF)) = w1 at *
  clear hmm
  go_wp2_with fail
  go_loopg [5, 13] L.length (fun gk _ i wr => ∃ k : Nat, i = .int .i64 k ∧ k ≤ L.length ∧ gk = L.length - k ∧ Fo w wr w.heap.size (L.take k) (L.take k) (2 * k) 0 (fun _ _ => none))
  case atStart => exact ⟨0, rfl, Nat.zero_le _, rfl, HF.out⟩
  case round =>
    clear HF
    obtain ⟨k, rfl, hk, hg, hfo⟩ := hrel
    have HG := Lib.hid hg; have HF := Lib.hid hfo
    clear hg hfo
    by_cases hlt : k < L.length
    · obtain ⟨b1, o1, rfl, hb1, c1⟩ := HS.out.s.at hlt (by omega)
      have HA := Lib.hid ((At.row c1 hlt).fr (Fr.of_below' HF.out.l (fun _ => False)) (fun h => h))
      have HY := Lib.hid (HS.out.ok _ (List.getElem_mem hlt))
      obtain ⟨y, hy⟩ : ∃ y, L[k] = y := ⟨_, rfl⟩
      have HYe := Lib.hid hy
      clear c1 hb1
      rw [hy] at HA HY
      clear hy
      have hcl := cnt_le (L.take k) y.t y.p
      rw [List.length_take] at hcl
      have q2 : decide ((k : Int) < (L.length : Int)) = true := by simp; omega
      have yc0 : wr.cell? ⟨b1, o1 + k * 9, none⟩ = some (.int .i64 y.t) := HA.out 0 _ rfl
      have yc1 : wr.cell? ⟨b1, o1 + k * 9 + 1, none⟩ = some (.int .i64 y.i) := HA.out 1 _ rfl
      have yc2 : wr.cell? ⟨b1, o1 + k * 9 + 1 + 1, none⟩ = some (.int .i64 y.p) := HA.out 2 _ rfl
      have yc3 : wr.cell? ⟨b1, o1 + k * 9 + 1 + 1 + 1, none⟩ = some (.int .i64 y.r) := HA.out 3 _ rfl
      have yc4 : wr.cell? ⟨b1, o1 + k * 9 + 1 + 1 + 1 + 1, none⟩ = some (.string y.s) := HA.out 4 _ rfl
      have yc5 : wr.cell? ⟨b1, o1 + k * 9 + 1 + 1 + 1 + 1 + 1, none⟩ = some (.string y.o) := HA.out 5 _ rfl
      have yc6 : wr.cell? ⟨b1, o1 + k * 9 + 1 + 1 + 1 + 1 + 1 + 1, none⟩ = some (.int .i64 y.b) := HA.out 6 _ rfl
      have yc7 : wr.cell? ⟨b1, o1 + k * 9 + 1 + 1 + 1 + 1 + 1 + 1 + 1, none⟩ = some (.int .i64 y.d) := HA.out 7 _ rfl
      have yc8 : wr.cell? ⟨b1, o1 + k * 9 + 1 + 1 + 1 + 1 + 1 + 1 + 1 + 1, none⟩ = some (.bool y.g) := HA.out 8 _ rfl
      go_upto_region 5 with (fail)
      have s2 := Bk.new wr y.arr TSn
      have s3 := Fr.alloc (fun _ => False) wr (.cells y.arr TSn)
      have HX : Hid (FX w (wr.alloc (.cells y.arr TSn)) w.heap.size (L.take k) (L.take k) (2 * k) 0 (fun _ _ => none) wr.heap.size y) := by
        have := lt_of_heap HF.out.b
        exact ⟨HF.out.fr s3, At.box s2, by omega⟩
      clear s2 s3 HA yc0 yc1 yc2 yc3 yc4 yc5 yc6 yc7 yc8
      generalize (wr.alloc (.cells y.arr TSn)) = w2 at *
      refine pl5 (by kernel_rfl) _ _ w w2 w.heap.size L k (2 * k) 0 _ wr.heap.size y HSr.out hlt HYe.out (by omega) HY.out.t HY.out.i HX.out rfl rfl rfl ?_
      intro x w3 hst
      simp only [Eng.setAll, Act.put, List.setIfInBounds_toArray, List.set_cons_succ, List.set_cons_zero]
      have HX3 := Lib.hid hst
      clear hst HX
      go_upto_region 6 with (fail)
      refine pl6 (by kernel_rfl) _ _ w w3 w.heap.size L k (2 * k) 0 _ _ wr.heap.size y hlt HYe.out (by omega) HY.out.t HY.out.p rfl (by omega) HX3.out rfl rfl rfl ?_
      intro x w4 hst
      simp only [Eng.setAll, Act.put, List.setIfInBounds_toArray, List.set_cons_succ, List.set_cons_zero]
      have HX4 := Lib.hid hst.f
      clear hst HX3
      go_wp2_with fail
      go_roundg (L.length - (k + 1))
      case rel => exact ⟨k + 1, by go_num, by omega, rfl, HX4.out⟩
      case measure => have := HG.out; omega
    · obtain rfl : k = L.length := by omega
      rw [List.take_length] at HF
      have q2 : decide ((L.length : Int) < (L.length : Int)) = false := by simp
      go_wp2_with fail
      go_ret
      exact ⟨w.heap.size, 2 * L.length, rfl, by omega, HF.out⟩
end ClsF
end Go.Proofs.YtgfjpnpbkkadpaaGreat
namespace Go.Proofs.YtgfjpnpbkkadpaaGreat
open Go.RowKit
namespace ClsF
open KeyP PackP SetP SetW SetF Cls ClsW ClsS
attribute [local go_sem] Eng.ev Eng.getO_cons Eng.getO_nil
abbrev TSt : TypeId := 9
abbrev TSts : TypeId := 282
theorem infoT : (Tryz.prog.info? TSt).map (fun i => (i.zero, i.size, i.bytes)) = some (some (.string ByteArray.empty), 1, 16) := by kernel_rfl
abbrev ky (y : Sn) : ByteArray := key2 y.t y.i
abbrev kys (s : List Sn) : List ByteArray := s.map ky
/-- Where the loop stands: spans and their keys, in lists of one's own. -/
structure CC (wc w : World) (s : List Sn) (v u : Value) : Prop where
  o : w.ownsRow wc.heap.size TSn 9 v s.length (s.flatMap scs)
  q : w.ownsRow wc.heap.size TSt 1 u s.length (strs (kys s))
  b : Below wc.heap.size wc w
theorem CC.fr {wc w w' : World} {s : List Sn} {v u : Value} (h : CC wc w s v u) (hf : Fr (fun _ => False) w w') : CC wc w' s v u :=
  ⟨ownsRow_fr h.o hf (fun _ _ h => h), ownsRow_fr h.q hf (fun _ _ h => h), h.b.trans (hf.below h.b.size (fun _ _ h => h))⟩
theorem own_apart {w : World} {B1 B2 n1 n2 s1 s2 : Nat} {v u : Value} {xs ys : List Value} (h1 : w.ownsRow B1 TSn s1 v n1 xs) (h2 : w.ownsRow B2 TSt s2 u n2 ys) : ∀ b, v.ownBlock = some b → u.ownBlock ≠ some b := fun b hb hb2 => by
  obtain ⟨-, -, c1, e1⟩ := ownsRow_blk h1 b hb
  obtain ⟨-, -, c2, e2⟩ := ownsRow_blk h2 b hb2
  rw [e1] at e2
  have : TSn = TSt := by injection e2 with e2; injection e2
  exact absurd this (by decide)
theorem kys_mem {s : List Sn} {y : Sn} (hs : ∀ x ∈ s, wf64 x.t ∧ wf64 x.i) (h1 : wf64 y.t) (h2 : wf64 y.i) : ky y ∈ kys s ↔ (fnd y s).isSome = true := by
  constructor
  · intro h
    obtain ⟨x, hx, he⟩ := List.mem_map.1 h
    have hk := key2_inj (hs x hx).1 (hs x hx).2 h1 h2 he
    cases hf : fnd y s with
    | some z => rfl
    | none =>
      have := fnd_none hf x hx
      rw [one_iff.2 hk] at this; cases this
  · intro h
    obtain ⟨z, hz⟩ := Option.isSome_iff_exists.1 h
    obtain ⟨h1, h2⟩ := fnd_some hz
    have := one_iff.1 h2
    exact List.mem_map.2 ⟨z, h1, by show key2 _ _ = key2 _ _; rw [this.1, this.2]⟩
theorem cw_none {L : List Sn} {t i : Int} {K : Int → Bool} {n : Nat} {s : List Sn} (h : nx L t i = none) : cw L t K (n + 1) s i = (s, i) := by unfold cw; rw [h]
theorem cw_stop {L : List Sn} {t i : Int} {K : Int → Bool} {n : Nat} {s : List Sn} {y : Sn} (h : nx L t i = some y) (hk : (K i || (fnd y s).isSome) = true) : cw L t K (n + 1) s i = (s, i) := by unfold cw; rw [h]; dsimp only; rw [if_pos hk]
theorem cw_go {L : List Sn} {t i : Int} {K : Int → Bool} {n : Nat} {s : List Sn} {y : Sn} (h : nx L t i = some y) (hk : (K i || (fnd y s).isSome) = false) : cw L t K (n + 1) s i = cw L t K n (s ++ [y]) y.p := by
  conv => lhs; unfold cw
  rw [h]; dsimp only; rw [if_neg (by rw [hk]; simp)]
theorem nodup_snoc {s : List Sn} {y : Sn} (hn : s.Nodup) (hf : (fnd y s).isSome = false) : (s ++ [y]).Nodup := by
  rw [List.nodup_append]
  refine ⟨hn, by simp, fun a ha b hb e => ?_⟩
  simp at hb; subst hb; subst e
  have : fnd a s = none := by cases hq : fnd a s with
    | none => rfl
    | some q => rw [hq] at hf; cases hf
  have := fnd_none this a ha
  rw [one_refl] at this; cases this
def ChPost (wc : World) (t : Int) (SE : List Sn × Int) (e : Ending) (w' : World) : Prop := ∃ A c, e = .returned (.tuple #[.slice A SE.1.length c, .string (key2 t SE.2)]) ∧ Sl w' 9 A SE.1.length c (SE.1.flatMap scs) ∧ Below wc.heap.size wc w' ∧ ∀ a, A = some a → wc.heap.size ≤ a.block ∧ a.block < w'.heap.size
theorem ContainsN (A : Option Addr) (ca : Nat) (l : List ByteArray) (k : Nat) (hk : l.length = k) (n : ByteArray) (w : World) (ha : Sl w 1 A k ca (strs l)) :
    Calls Tryz.prog 200 #[.slice A k ca, .string n] w fun e w' => e = .returned (.bool (decide (n ∈ l))) ∧ w' = w := by
  subst hk
  exact ClsS.Contains A ca l n w ha
set_option maxRecDepth 100000 in
set_option maxHeartbeats 4000000 in
theorem chain {w0 : World} {h n m : Nat} {L : List Sn} {P : Int → Int → Option Pc} (x : Sn) (w : World) (hF : Fo w0 w h L L n m P) (hok : ∀ y ∈ L, y.ok) (hx : wf64 x.t) (hxi : wf64 x.i) (hlen : L.length ≤ 1000) (SE : List Sn × Int) (hSE : cw L x.t (fun i => (P x.t i).isSome) (L.length + 1) [] x.i = SE) :
    Calls Tryz.prog 160 #[.pointer (some ⟨h + 3, 0, none⟩), x.v] w (ChPost w x.t SE) := by
  obtain ⟨i0, hi, hz0, hz1, hz2⟩ := info_parts infoS
  obtain ⟨i1, ki, kz0, kz1, kz2⟩ := info_parts infoT
  have HF := Lib.hid hF; have HOk := Lib.hid hok; have HSE := Lib.hid hSE
  have hf := Fr.alloc (fun _ => False) w (.cells x.arr TSn)
  have HF1 := Lib.hid hf
  have HA1 := Lib.hid (At.box (Bk.new w x.arr TSn))
  have HK := Lib.hid (fun W : World => Key.Span x hx hxi W)
  clear hF hok hSE hf
  go_enter Tryz.func160, Tryz.ntmps160
  go_wp2_with fail
  go_step3
  go_upto_region 3 with (fail)
  generalize (w.alloc (.cells x.arr TSn)) = w1 at *
  have xc0 : w1.cell? ⟨w.heap.size, 0, none⟩ = some (.int .i64 x.t) := HA1.out 0 _ rfl
  have xc1 : w1.cell? ⟨w.heap.size, 1, none⟩ = some (.int .i64 x.i) := HA1.out 1 _ rfl
  have xc2 : w1.cell? ⟨w.heap.size, 2, none⟩ = some (.int .i64 x.p) := HA1.out 2 _ rfl
  have xc3 : w1.cell? ⟨w.heap.size, 3, none⟩ = some (.int .i64 x.r) := HA1.out 3 _ rfl
  have xc4 : w1.cell? ⟨w.heap.size, 4, none⟩ = some (.string x.s) := HA1.out 4 _ rfl
  have xc5 : w1.cell? ⟨w.heap.size, 5, none⟩ = some (.string x.o) := HA1.out 5 _ rfl
  have xc6 : w1.cell? ⟨w.heap.size, 6, none⟩ = some (.int .i64 x.b) := HA1.out 6 _ rfl
  have xc7 : w1.cell? ⟨w.heap.size, 7, none⟩ = some (.int .i64 x.d) := HA1.out 7 _ rfl
  have xc8 : w1.cell? ⟨w.heap.size, 8, none⟩ = some (.bool x.g) := HA1.out 8 _ rfl
  go_wp2_with fail
  refine (HK.out _).mono ?_
  rintro e w2 ⟨rfl, hb⟩
  have HB := Lib.hid ((HF1.out.below (Nat.le_refl _) (fun _ _ h => h)).trans (hb.mono HF1.out.size))
  clear hb HF1 HA1 HK xc0 xc1 xc2 xc3 xc4 xc5 xc6 xc7 xc8
  go_wp2_with fail
  go_step3
  go_wp2_with fail
  go_loopg [6, 7, 8, 9, 10, 11, 12] (L.length + 1) (fun gk v u s8 _ _ _ _ wr => ∃ (s : List Sn) (i : Int), s8 = .string (key2 x.t i) ∧ wf64 i ∧ gk = L.length + 1 - s.length ∧ CC w wr s v u ∧ Ch L x.t x.i s i ∧ s.Nodup ∧ cw L x.t (fun i => (P x.t i).isSome) gk s i = SE)
  case atStart => exact ⟨[], x.i, rfl, hxi, rfl, ⟨World.ownsRow_nil _ _ _ _, World.ownsRow_nil _ _ _ _, HB.out⟩, .nil _, List.nodup_nil, HSE.out⟩
  case round =>
    clear HB HSE
    obtain ⟨s, i, rfl, hwi, hg, hcc, hch, hnd, hcw⟩ := hrel
    have hsl : s.length ≤ L.length := sub_len hnd (fun z hz => (hch.mem z hz).1)
    obtain ⟨r, hr⟩ : ∃ r, gk = r + 1 := ⟨L.length - s.length, by omega⟩
    subst hr
    have HG := Lib.hid hg; have HC := Lib.hid hcc; have HCh := Lib.hid hch; have HNd := Lib.hid hnd; have HCw := Lib.hid hcw
    have HFr := Lib.hid (HF.out.below hcc.b)
    clear hg hcc hch hnd hcw
    have HSk : Hid (∀ z ∈ s, wf64 z.t ∧ wf64 z.i) := fun z hz => by have h := HOk.out z (HCh.out.mem z hz).1; exact ⟨h.t, h.i⟩
    obtain ⟨A6, c6, hv6, h6, hA6⟩ := Sl.of_own HC.out.o
    obtain ⟨A7, c7, hv7, h7, -⟩ := Sl.of_own HC.out.q
    subst hv6
    subst hv7
    have H6 := Lib.hid h6; have H7 := Lib.hid h7
    clear hA6
    have HBr6 := Lib.hid (fun b e => (ownsRow_blk HC.out.o b e).2.1); have HBr7 := Lib.hid (fun b e => (ownsRow_blk HC.out.q b e).2.1)
    clear h6 h7
    have e0 := (cell3 HFr.out).1
    have hl1 := HFr.out.s.look_ok uS zeroS hx hwi
    have HKm := Lib.hid (fun (y : Sn) (h1 : wf64 y.t) (h2 : wf64 y.i) => kys_mem HSk.out h1 h2)
    cases hn : nx L x.t i with
    | none =>
      have HCn := Lib.hid (HCw.out.symm.trans (cw_none hn))
      rw [show spv L x.t i = none by unfold spv; rw [hn]; rfl] at hl1
      replace hl1 : (Instr.lookup TMs (.map (some h)) (.string (key2 x.t i)) true).run Tryz.prog wr = .ok (.tuple #[zS, .bool false]) wr := hl1
      clear hn
      go_upto_region 5 with (fail)
      have f3 := Fr.alloc (fun _ => False) wr (.cells #[.int .i64 0, .int .i64 0, .int .i64 0, .int .i64 0, .string ByteArray.empty, .string ByteArray.empty, .int .i64 0, .int .i64 0, .bool false] TSn)
      generalize (wr.alloc (.cells #[.int .i64 0, .int .i64 0, .int .i64 0, .int .i64 0, .string ByteArray.empty, .string ByteArray.empty, .int .i64 0, .int .i64 0, .bool false] TSn)) = w3 at *
      have HF3 := Lib.hid (HFr.out.fr f3); have HC3 := Lib.hid (HC.out.fr f3); have HO6 := Lib.hid (H6.out.fr f3 (fun _ _ h => h))
      clear f3 hl1 e0 HFr HC H6 H7
      have e1 := (cell3 HF3.out).2.1
      have hl2 := HF3.out.p.look_ok uP zeroP hx hwi
      obtain ⟨pv, hpv⟩ : ∃ p : Pc, ((P x.t i).map Pc.v).getD zP = p.v := by
        cases P x.t i with
        | none => exact ⟨⟨0, 0, 0, 0, 0, 0⟩, rfl⟩
        | some p => exact ⟨p, rfl⟩
      rw [hpv] at hl2
      generalize ((P x.t i).map Pc.v).isSome = pb at hl2
      clear hpv
      go_upto_region 6 with (fail)
      have f4 := Fr.alloc (fun _ => False) w3 (.cells pv.arr TPl)
      generalize (w3.alloc (.cells pv.arr TPl)) = w4 at *
      replace HC3 := Lib.hid (HC3.out.fr f4); replace HO6 := Lib.hid (HO6.out.fr f4 (fun _ _ h => h))
      clear f4 hl2 e1 HF3
      have hq := HCn.out
      subst hq
      go_wp2_with fail
      try rw [Exit.noGoto_ret]
      go_ret2
      exact ⟨A6, c6, rfl, HO6.out, HC3.out.b, fun a ha => by subst ha; have := ownsRow_blk HC3.out.o a.block rfl; exact ⟨this.1, this.2.1⟩⟩
    | some y =>
      obtain ⟨hyL, hyt, hyi⟩ := nx_some hn
      subst hyi
      have HYo := Lib.hid (HOk.out y hyL)
      have HYt := Lib.hid hyt
      rw [show spv L x.t y.i = some y.v by unfold spv; rw [hn]; rfl] at hl1
      replace hl1 : (Instr.lookup TMs (.map (some h)) (.string (key2 x.t y.i)) true).run Tryz.prog wr = .ok (.tuple #[y.v, .bool true]) wr := hl1
      have HSt := Lib.hid (fun (hk : ((P x.t y.i).isSome || (fnd y s).isSome) = true) => HCw.out.symm.trans (cw_stop (K := fun i => (P x.t i).isSome) (n := r) (s := s) hn hk))
      have HGo := Lib.hid (fun (hk : ((P x.t y.i).isSome || (fnd y s).isSome) = false) => (cw_go (K := fun i => (P x.t i).isSome) (n := r) (s := s) hn hk).symm.trans HCw.out)
      have HSn := Lib.hid (HCh.out.snoc hn)
      clear hn hyL hyt
      go_upto_region 5 with (fail)
      have f3 := Fr.alloc (fun _ => False) wr (.cells y.arr TSn)
      have a3 := At.box (Bk.new wr y.arr TSn)
      generalize (wr.alloc (.cells y.arr TSn)) = w3 at *
      have HF3 := Lib.hid (HFr.out.fr f3); have HC3 := Lib.hid (HC.out.fr f3); have HO6 := Lib.hid (H6.out.fr f3 (fun _ _ h => h)); have HO7 := Lib.hid (H7.out.fr f3 (fun _ _ h => h)); have HA3 := Lib.hid a3
      clear f3 a3 hl1 e0 HFr HC H6 H7
      have e1 := (cell3 HF3.out).2.1
      have hl2 := HF3.out.p.look_ok uP zeroP hx hwi
      cases hP : P x.t y.i with
      | some p =>
        rw [hP] at hl2 HSt
        replace hl2 : (Instr.lookup TMp (.map (some (h + 1))) (.string (key2 x.t y.i)) true).run Tryz.prog w3 = .ok (.tuple #[p.v, .bool true]) w3 := hl2
        have hq := HSt.out rfl
        subst hq
        clear hP
        go_upto_region 6 with (fail)
        have f4 := Fr.alloc (fun _ => False) w3 (.cells p.arr TPl)
        generalize (w3.alloc (.cells p.arr TPl)) = w4 at *
        replace HC3 := Lib.hid (HC3.out.fr f4); replace HO6 := Lib.hid (HO6.out.fr f4 (fun _ _ h => h))
        clear f4 hl2 e1 HF3 HGo HSt
        go_wp2_with fail
        try rw [Exit.noGoto_ret]
        go_ret2
        exact ⟨A6, c6, rfl, HO6.out, HC3.out.b, fun a ha => by subst ha; have := ownsRow_blk HC3.out.o a.block rfl; exact ⟨this.1, this.2.1⟩⟩
      | none =>
        rw [hP] at hl2 HSt HGo
        replace hl2 : (Instr.lookup TMp (.map (some (h + 1))) (.string (key2 x.t y.i)) true).run Tryz.prog w3 = .ok (.tuple #[zP, .bool false]) w3 := hl2
        clear hP
        go_upto_region 6 with (fail)
        have f4 := Fr.alloc (fun _ => False) w3 (.cells #[.int .i64 0, .int .i64 0, .int .i64 0, .int .i64 0, .int .i64 0, .int .i64 0] TPl)
        generalize (w3.alloc (.cells #[.int .i64 0, .int .i64 0, .int .i64 0, .int .i64 0, .int .i64 0, .int .i64 0] TPl)) = w4 at *
        replace HC3 := Lib.hid (HC3.out.fr f4); replace HO6 := Lib.hid (HO6.out.fr f4 (fun _ _ h => h)); replace HO7 := Lib.hid (HO7.out.fr f4 (fun _ _ h => h)); replace HA3 := Lib.hid (HA3.out.keep f4)
        clear f4 hl2 e1 HF3
        go_wp2_with fail
        refine (ContainsN A7 c7 (kys s) s.length (by simp) (key2 x.t y.i) w4 HO7.out).mono ?_
        rintro e w5 ⟨rfl, rfl⟩
        have hkm := HKm.out y HYo.out.t HYo.out.i
        have hky : ky y = key2 x.t y.i := by show key2 y.t y.i = _; rw [HYt.out]
        rw [hky] at hkm
        cases hc : (fnd y s).isSome with
        | true =>
          have hq := HSt.out (by rw [hc]; rfl)
          subst hq
          rw [decide_eq_true (hkm.2 hc)]
          clear hkm hky hc HSt HGo
          go_wp2_with fail
          try rw [Exit.noGoto_ret]
          go_ret2
          exact ⟨A6, c6, rfl, HO6.out, HC3.out.b, fun a ha => by subst ha; have := ownsRow_blk HC3.out.o a.block rfl; exact ⟨this.1, this.2.1⟩⟩
        | false =>
          have hg := HGo.out (by rw [hc]; rfl)
          have HGo2 := Lib.hid hg
          have HNd2 := Lib.hid (nodup_snoc HNd.out hc)
          rw [decide_eq_false (fun hm => by rw [hkm.1 hm] at hc; cases hc)]
          have HKy := Lib.hid hky
          have hown1' := HC3.out.o.alloc (.cells y.arr TSn)
          have HAp := Lib.hid (own_apart HC3.out.o HC3.out.q)
          have HBk := Lib.hid (ownsRow_blk HC3.out.o)
          have HBk7 := Lib.hid (ownsRow_blk HC3.out.q)
          have hszw := HC3.out.b.size
          clear hkm hc hg hky HSt HGo
          have yc0 : w5.cell? ⟨wr.heap.size, 0, none⟩ = some (.int .i64 y.t) := HA3.out 0 _ rfl
          have yc1 : w5.cell? ⟨wr.heap.size, 1, none⟩ = some (.int .i64 y.i) := HA3.out 1 _ rfl
          have yc2 : w5.cell? ⟨wr.heap.size, 2, none⟩ = some (.int .i64 y.p) := HA3.out 2 _ rfl
          have yc3 : w5.cell? ⟨wr.heap.size, 3, none⟩ = some (.int .i64 y.r) := HA3.out 3 _ rfl
          have yc4 : w5.cell? ⟨wr.heap.size, 4, none⟩ = some (.string y.s) := HA3.out 4 _ rfl
          have yc5 : w5.cell? ⟨wr.heap.size, 5, none⟩ = some (.string y.o) := HA3.out 5 _ rfl
          have yc6 : w5.cell? ⟨wr.heap.size, 6, none⟩ = some (.int .i64 y.b) := HA3.out 6 _ rfl
          have yc7 : w5.cell? ⟨wr.heap.size, 7, none⟩ = some (.int .i64 y.d) := HA3.out 7 _ rfl
          have yc8 : w5.cell? ⟨wr.heap.size, 8, none⟩ = some (.bool y.g) := HA3.out 8 _ rfl
          go_wp2_with (at_builtin; refine wpList_append_sl _ rfl (.tmp 43) (.tmp 45) TSs rfl w.heap.size TSn i0 (.agg #[.int .i64 0, .int .i64 0, .int .i64 0, .int .i64 0, .string ByteArray.empty, .string ByteArray.empty, .int .i64 0, .int .i64 0, .bool false]) 9 88 Tryz.underlying27 hi hz0 hz1 hz2 rfl (by decide) _ _ _ rfl hown1' _ _ _ _ rfl (Sl.one w5 TSn (scs y) 9 rfl) (by simp [Value.oneCell']) ?_ ?_ ?_ ?_)
          · unfold maxLen; omega
          · omega
          · first | omega | (simp; omega)
          intro v1 w6 hown1 hgrow1
          have hf6 : Fr (fun b => (Value.slice A6 s.length c6).ownBlock = some b) w5 w6 := (Fr.alloc (fun _ => False) w5 (.cells y.arr TSn)).trans (Fr.grown hgrow1 (S := fun b => (Value.slice A6 s.length c6).ownBlock = some b) (fun _ h => h)) (fun _ _ h => h.elim) (fun _ _ h => h)
          have hq6 := ownsRow_fr HC3.out.q hf6 (fun b hb e => HAp.out b e hb)
          have hbW : wr.heap.size < w5.heap.size := HA3.out.lt
          have HQ6 := Lib.hid hq6
          have HO8 := Lib.hid hown1
          have HB6 := Lib.hid (HC3.out.b.trans (hf6.below hszw (fun b hb e => by have := (HBk.out b e).1; omega)))
          have HF6 := Lib.hid hf6
          have hown2' := hq6.alloc (.cells #[.string (key2 x.t y.i)] TSt)
          have hsz6 := hf6.size
          clear hown1 hgrow1 hown1' hq6 hf6 yc0 yc1 yc2 yc3 yc4 yc5 yc6 yc7 yc8
          go_wp2_with (at_builtin; refine wpList_append_sl _ rfl (.tmp 47) (.tmp 49) TSts rfl w.heap.size TSt i1 (.string ByteArray.empty) 1 16 Tryz.underlying282 ki kz0 kz1 kz2 rfl (by decide) _ _ _ rfl hown2' _ _ _ _ rfl (Sl.one w6 TSt [.string (key2 x.t y.i)] 1 rfl) (by simp [Value.oneCell']) ?_ ?_ ?_ ?_)
          · unfold maxLen; omega
          · omega
          · first | omega | (simp; omega)
          intro v2 w7 hown2 hgrow2
          have hf7 : Fr (fun b => (Value.slice A7 s.length c7).ownBlock = some b) w6 w7 := (Fr.alloc (fun _ => False) w6 (.cells #[.string (key2 x.t y.i)] TSt)).trans (Fr.grown hgrow2 (S := fun b => (Value.slice A7 s.length c7).ownBlock = some b) (fun _ h => h)) (fun _ _ h => h.elim) (fun _ _ h => h)
          have HC7 : Hid (CC w w7 (s ++ [y]) v1 v2) := by
            have h9 := own_apart HO8.out HQ6.out
            refine ⟨?_, ?_, HB6.out.trans (hf7.below HB6.out.size (fun b hb e => by have := (HBk7.out b e).1; omega))⟩
            · have := ownsRow_fr HO8.out hf7 (fun b hb e => h9 b hb e)
              simpa using this
            · have e1 : strs (kys (s ++ [y])) = strs (kys s) ++ [.string (key2 x.t y.i)] := by simp [strs, kys, HKy.out]
              rw [e1]; simpa using hown2
          have HA7 : Hid (At w7 wr.heap.size 0 y) := by
            have h5 := HA3.out.fr HF6.out (fun e => by have := HBr6.out wr.heap.size e; omega)
            exact h5.fr hf7 (fun e => by have := HBr7.out wr.heap.size e; omega)
          clear hf7 hgrow2 hown2 hown2' HO8 HQ6 HB6 HF6
          have d0 : w7.cell? ⟨wr.heap.size, 0, none⟩ = some (.int .i64 y.t) := HA7.out 0 _ rfl
          have d2 : w7.cell? ⟨wr.heap.size, 2, none⟩ = some (.int .i64 y.p) := HA7.out 2 _ rfl
          go_wp2_with fail
          refine (Key.Of HYo.out.t HYo.out.p w7).mono ?_
          rintro e w8 ⟨rfl, hb⟩
          have HC8 := Lib.hid (HC7.out.fr (Fr.of_below' hb _))
          clear hb d0 d2
          go_wp2_with fail
          go_roundg r
          case rel => exact ⟨s ++ [y], y.p, by rw [HYt.out], HYo.out.p, by rw [List.length_append, List.length_singleton]; have := HG.out; omega, HC8.out, HSn.out, HNd2.out, HGo2.out⟩
          case measure => omega
end ClsF
end Go.Proofs.YtgfjpnpbkkadpaaGreat
namespace Go.Proofs.YtgfjpnpbkkadpaaGreat
open Go.RowKit
namespace ClsF
open KeyP PackP SetP SetW SetF Cls ClsW ClsS
attribute [local go_sem] Eng.ev Eng.getO_cons Eng.getO_nil
def abw (L : List Sn) (P : Int → Int → Option Pc) (z : Sn) (t e : Int) : Pc := match P t e with
  | some p => p
  | none => if (nx L t e).isSome then ⟨0, 0, 3, 0, 0, 0⟩ else if z.p = 0 then ⟨0, 0, 1, 0, z.i, 0⟩ else ⟨0, 0, 2, 0, z.i, 0⟩
/-- A place stored. -/
abbrev put6 (w : World) (b : Nat) (p : Pc) : World := ((((((w.setCell ⟨b, 0, none⟩ (.int .i64 p.t)).setCell ⟨b, 1, none⟩ (.int .i64 p.i)).setCell ⟨b, 2, none⟩ (.int .i64 p.c)).setCell ⟨b, 3, none⟩ (.int .i64 p.d)).setCell ⟨b, 4, none⟩ (.int .i64 p.p)).setCell ⟨b, 5, none⟩ (.int .i64 p.f))
theorem put6_bk {w : World} {b : Nat} {q : Pc} (h : Bk w b q.arr TPl) (p : Pc) : Bk (put6 w b p) b p.arr TPl := by
  have h1 := ((((((h.set 0 (.int .i64 p.t)).set 1 (.int .i64 p.i)).set 2 (.int .i64 p.c)).set 3 (.int .i64 p.d)).set 4 (.int .i64 p.p)).set 5 (.int .i64 p.f))
  simpa using h1
theorem frs1 {w w' : World} {b : Nat} (h : Fr (fun k => k = b) w w') (o : Nat) (u : Value) : Fr (fun k => k = b) w (w'.setCell ⟨b, o, none⟩ u) := h.trans (Fr.setCell w' ⟨b, o, none⟩ u (S := fun k => k = b) rfl) (fun _ _ h => h) (fun _ _ h => h)
theorem put6_fr (w : World) (b : Nat) (p : Pc) : Fr (fun k => k = b) w (put6 w b p) := (frs1 (frs1 (frs1 (frs1 (frs1 (frs1 (Fr.refl _ w) 0 (.int .i64 p.t)) 1 (.int .i64 p.i)) 2 (.int .i64 p.c)) 3 (.int .i64 p.d)) 4 (.int .i64 p.p)) 5 (.int .i64 p.f))
abbrev z6 : Pc := ⟨0, 0, 0, 0, 0, 0⟩
set_option maxRecDepth 100000 in
set_option maxHeartbeats 4000000 in
theorem above {w0 : World} {h n m : Nat} {L : List Sn} {P : Int → Int → Option Pc} (z : Sn) (t e : Int) (w : World) (hF : Fo w0 w h L L n m P) (ht : wf64 t) (he : wf64 e) (U : Pc) (hU : abw L P z t e = U) :
    Calls Tryz.prog 161 #[.pointer (some ⟨h + 3, 0, none⟩), z.v, .string (key2 t e)] w fun e' w' => e' = .returned U.v ∧ Below w.heap.size w w' := by
  have f1 := Fr.alloc (fun _ => False) w (.cells z.arr TSn)
  have f2 := Fr.alloc (fun _ => False) (w.alloc (.cells z.arr TSn)) (.cells #[.int .i64 0, .int .i64 0, .int .i64 0, .int .i64 0, .int .i64 0, .int .i64 0] TPl)
  have f12 := f1.trans f2 (T := fun _ => False) (fun _ _ h => h) (fun _ _ h => h)
  have r2 : Bk ((w.alloc (.cells z.arr TSn)).alloc (.cells #[.int .i64 0, .int .i64 0, .int .i64 0, .int .i64 0, .int .i64 0, .int .i64 0] TPl)) (w.heap.size + 1) z6.arr TPl := by
    have := Bk.new (w.alloc (.cells z.arr TSn)) #[.int .i64 0, .int .i64 0, .int .i64 0, .int .i64 0, .int .i64 0, .int .i64 0] TPl
    rwa [World.size_alloc] at this
  have HR := Lib.hid r2
  have HA := Lib.hid ((At.box (Bk.new w z.arr TSn)).keep f2)
  have HF := Lib.hid (hF.fr f12)
  have HB := Lib.hid (f12.below (Nat.le_refl _) (fun _ _ h => h))
  have HU := Lib.hid hU
  clear f1 f2 f12 r2 hF hU
  go_enter Tryz.func161, Tryz.ntmps161
  go_upto_region 1 with (fail)
  generalize ((w.alloc (.cells z.arr TSn)).alloc (.cells #[.int .i64 0, .int .i64 0, .int .i64 0, .int .i64 0, .int .i64 0, .int .i64 0] TPl)) = w1 at *
  have e1 := (cell3 HF.out).2.1
  have hl1 := HF.out.p.look_ok uP zeroP ht he
  cases hP : P t e with
  | some p =>
    rw [hP] at hl1
    replace hl1 : (Instr.lookup TMp (.map (some (h + 1))) (.string (key2 t e)) true).run Tryz.prog w1 = .ok (.tuple #[p.v, .bool true]) w1 := hl1
    have HV : Hid (U = p) := by show _ = _; rw [← HU.out]; unfold abw; rw [hP]
    clear hP
    go_upto_region 2 with (fail)
    have f3 := Fr.alloc (fun _ => False) w1 (.cells p.arr TPl)
    have b3 := Bk.new w1 p.arr TPl
    generalize (w1.alloc (.cells p.arr TPl)) = w2 at *
    replace HR := Lib.hid (HR.out.fr f3 (fun _ _ h => h)); replace HA := Lib.hid (HA.out.keep f3); replace HF := Lib.hid (HF.out.fr f3); replace HB := Lib.hid (HB.out.trans (f3.below HB.out.size (fun _ _ h => h))); have HP := Lib.hid b3
    clear f3 b3 hl1 e1
    have e2 := (cell3 HF.out).1
    have hl2 := HF.out.s.look_ok uS zeroS ht he
    obtain ⟨y, hy⟩ : ∃ y : Sn, (spv L t e).getD zS = y.v := by
      unfold spv
      cases nx L t e with
      | none => exact ⟨⟨0, 0, 0, 0, ByteArray.empty, ByteArray.empty, 0, 0, false⟩, rfl⟩
      | some y => exact ⟨y, rfl⟩
    rw [hy] at hl2
    generalize (spv L t e).isSome = yb at hl2
    clear hy
    go_upto_region 3 with (fail)
    have f4 := Fr.alloc (fun _ => False) w2 (.cells y.arr TSn)
    generalize (w2.alloc (.cells y.arr TSn)) = w3 at *
    replace HR := Lib.hid (HR.out.fr f4 (fun _ _ h => h)); replace HA := Lib.hid (HA.out.keep f4); replace HP := Lib.hid (HP.out.fr f4 (fun _ _ h => h)); replace HB := Lib.hid (HB.out.trans (f4.below HB.out.size (fun _ _ h => h)))
    clear f4 hl2 e2 HF
    have o0 : w3.cell? ⟨w.heap.size + 1, 0, none⟩ = some (.int .i64 0) := HR.out.cell 0
    have z0 : w3.frozen? ⟨w.heap.size + 1, 0, none⟩ = false := HR.out.free 0
    have o1 : w3.cell? ⟨w.heap.size + 1, 1, none⟩ = some (.int .i64 0) := HR.out.cell 1
    have z1 : w3.frozen? ⟨w.heap.size + 1, 1, none⟩ = false := HR.out.free 1
    have o2 : w3.cell? ⟨w.heap.size + 1, 2, none⟩ = some (.int .i64 0) := HR.out.cell 2
    have z2 : w3.frozen? ⟨w.heap.size + 1, 2, none⟩ = false := HR.out.free 2
    have o3 : w3.cell? ⟨w.heap.size + 1, 3, none⟩ = some (.int .i64 0) := HR.out.cell 3
    have z3 : w3.frozen? ⟨w.heap.size + 1, 3, none⟩ = false := HR.out.free 3
    have o4 : w3.cell? ⟨w.heap.size + 1, 4, none⟩ = some (.int .i64 0) := HR.out.cell 4
    have z4 : w3.frozen? ⟨w.heap.size + 1, 4, none⟩ = false := HR.out.free 4
    have o5 : w3.cell? ⟨w.heap.size + 1, 5, none⟩ = some (.int .i64 0) := HR.out.cell 5
    have z5 : w3.frozen? ⟨w.heap.size + 1, 5, none⟩ = false := HR.out.free 5
    have c0 : w3.cell? ⟨w1.heap.size, 0, none⟩ = some (.int .i64 (p.t)) := HP.out.cell 0
    have c1 : w3.cell? ⟨w1.heap.size, 1, none⟩ = some (.int .i64 (p.i)) := HP.out.cell 1
    have c2 : w3.cell? ⟨w1.heap.size, 2, none⟩ = some (.int .i64 (p.c)) := HP.out.cell 2
    have c3 : w3.cell? ⟨w1.heap.size, 3, none⟩ = some (.int .i64 (p.d)) := HP.out.cell 3
    have c4 : w3.cell? ⟨w1.heap.size, 4, none⟩ = some (.int .i64 (p.p)) := HP.out.cell 4
    have c5 : w3.cell? ⟨w1.heap.size, 5, none⟩ = some (.int .i64 (p.f)) := HP.out.cell 5
    go_wp2_with fail
    exact bodyPost_ret (results_cell_row rfl _ _ (w.heap.size + 1) TPl _ (0, 0) _ rfl (put6_bk HR.out p) Tryz.underlying91 rfl (by kernel_rfl)) rfl ⟨by rw [HV.out], HB.out.trans ((put6_fr w3 (w.heap.size + 1) p).below HB.out.size (fun k hk e => by omega))⟩
  | none =>
    rw [hP] at hl1
    replace hl1 : (Instr.lookup TMp (.map (some (h + 1))) (.string (key2 t e)) true).run Tryz.prog w1 = .ok (.tuple #[zP, .bool false]) w1 := hl1
    go_upto_region 2 with (fail)
    have f3 := Fr.alloc (fun _ => False) w1 (.cells #[.int .i64 0, .int .i64 0, .int .i64 0, .int .i64 0, .int .i64 0, .int .i64 0] TPl)
    have b3 := Bk.new w1 #[.int .i64 0, .int .i64 0, .int .i64 0, .int .i64 0, .int .i64 0, .int .i64 0] TPl
    generalize (w1.alloc (.cells #[.int .i64 0, .int .i64 0, .int .i64 0, .int .i64 0, .int .i64 0, .int .i64 0] TPl)) = w2 at *
    replace HR := Lib.hid (HR.out.fr f3 (fun _ _ h => h)); replace HA := Lib.hid (HA.out.keep f3); replace HF := Lib.hid (HF.out.fr f3); replace HB := Lib.hid (HB.out.trans (f3.below HB.out.size (fun _ _ h => h))); have HP := Lib.hid b3
    clear f3 b3 hl1 e1
    have e2 := (cell3 HF.out).1
    have hl2 := HF.out.s.look_ok uS zeroS ht he
    cases hn : nx L t e with
    | some y =>
      rw [show spv L t e = some y.v by unfold spv; rw [hn]; rfl] at hl2
      replace hl2 : (Instr.lookup TMs (.map (some h)) (.string (key2 t e)) true).run Tryz.prog w2 = .ok (.tuple #[y.v, .bool true]) w2 := hl2
      have HV : Hid (U = ⟨0, 0, 3, 0, 0, 0⟩) := by show _ = _; rw [← HU.out]; unfold abw; rw [hP, hn]; rfl
      clear hP hn
      have kb : ∀ W : World, (Instr.build TPl #[(2, .int .i64 3)]).run Tryz.prog W = .ok (.agg #[.int .i64 0, .int .i64 0, .int .i64 3, .int .i64 0, .int .i64 0, .int .i64 0]) W := fun W => by kernel_rfl
      go_upto_region 3 with (fail)
      have f4 := Fr.alloc (fun _ => False) w2 (.cells y.arr TSn)
      generalize (w2.alloc (.cells y.arr TSn)) = w3 at *
      replace HR := Lib.hid (HR.out.fr f4 (fun _ _ h => h)); replace HA := Lib.hid (HA.out.keep f4); replace HP := Lib.hid (HP.out.fr f4 (fun _ _ h => h)); replace HB := Lib.hid (HB.out.trans (f4.below HB.out.size (fun _ _ h => h)))
      clear f4 hl2 e2 HF
      have o0 : w3.cell? ⟨w.heap.size + 1, 0, none⟩ = some (.int .i64 0) := HR.out.cell 0
      have z0 : w3.frozen? ⟨w.heap.size + 1, 0, none⟩ = false := HR.out.free 0
      have o1 : w3.cell? ⟨w.heap.size + 1, 1, none⟩ = some (.int .i64 0) := HR.out.cell 1
      have z1 : w3.frozen? ⟨w.heap.size + 1, 1, none⟩ = false := HR.out.free 1
      have o2 : w3.cell? ⟨w.heap.size + 1, 2, none⟩ = some (.int .i64 0) := HR.out.cell 2
      have z2 : w3.frozen? ⟨w.heap.size + 1, 2, none⟩ = false := HR.out.free 2
      have o3 : w3.cell? ⟨w.heap.size + 1, 3, none⟩ = some (.int .i64 0) := HR.out.cell 3
      have z3 : w3.frozen? ⟨w.heap.size + 1, 3, none⟩ = false := HR.out.free 3
      have o4 : w3.cell? ⟨w.heap.size + 1, 4, none⟩ = some (.int .i64 0) := HR.out.cell 4
      have z4 : w3.frozen? ⟨w.heap.size + 1, 4, none⟩ = false := HR.out.free 4
      have o5 : w3.cell? ⟨w.heap.size + 1, 5, none⟩ = some (.int .i64 0) := HR.out.cell 5
      have z5 : w3.frozen? ⟨w.heap.size + 1, 5, none⟩ = false := HR.out.free 5
      go_wp2_with fail
      exact bodyPost_ret (results_cell_row rfl _ _ (w.heap.size + 1) TPl _ (0, 0) _ rfl (put6_bk HR.out ⟨0, 0, 3, 0, 0, 0⟩) Tryz.underlying91 rfl (by kernel_rfl)) rfl ⟨by rw [HV.out], HB.out.trans ((put6_fr w3 (w.heap.size + 1) ⟨0, 0, 3, 0, 0, 0⟩).below HB.out.size (fun k hk e => by omega))⟩
    | none =>
      rw [show spv L t e = none by unfold spv; rw [hn]; rfl] at hl2
      replace hl2 : (Instr.lookup TMs (.map (some h)) (.string (key2 t e)) true).run Tryz.prog w2 = .ok (.tuple #[zS, .bool false]) w2 := hl2
      by_cases h0 : z.p = 0
      · have q0 : (z.p == 0) = true := by simp [h0]
        have HV : Hid (U = ⟨0, 0, 1, 0, z.i, 0⟩) := by show _ = _; rw [← HU.out]; unfold abw; rw [hP, hn]; simp [h0]
        clear hP hn h0
        have kb : ∀ W : World, (Instr.build TPl #[(2, .int .i64 1), (4, .int .i64 z.i)]).run Tryz.prog W = .ok (.agg #[.int .i64 0, .int .i64 0, .int .i64 1, .int .i64 0, .int .i64 z.i, .int .i64 0]) W := fun W => by kernel_rfl
        go_upto_region 3 with (fail)
        have f4 := Fr.alloc (fun _ => False) w2 (.cells #[.int .i64 0, .int .i64 0, .int .i64 0, .int .i64 0, .string ByteArray.empty, .string ByteArray.empty, .int .i64 0, .int .i64 0, .bool false] TSn)
        generalize (w2.alloc (.cells #[.int .i64 0, .int .i64 0, .int .i64 0, .int .i64 0, .string ByteArray.empty, .string ByteArray.empty, .int .i64 0, .int .i64 0, .bool false] TSn)) = w3 at *
        replace HR := Lib.hid (HR.out.fr f4 (fun _ _ h => h)); replace HA := Lib.hid (HA.out.keep f4); replace HP := Lib.hid (HP.out.fr f4 (fun _ _ h => h)); replace HB := Lib.hid (HB.out.trans (f4.below HB.out.size (fun _ _ h => h)))
        clear f4 hl2 e2 HF
        have o0 : w3.cell? ⟨w.heap.size + 1, 0, none⟩ = some (.int .i64 0) := HR.out.cell 0
        have z0 : w3.frozen? ⟨w.heap.size + 1, 0, none⟩ = false := HR.out.free 0
        have o1 : w3.cell? ⟨w.heap.size + 1, 1, none⟩ = some (.int .i64 0) := HR.out.cell 1
        have z1 : w3.frozen? ⟨w.heap.size + 1, 1, none⟩ = false := HR.out.free 1
        have o2 : w3.cell? ⟨w.heap.size + 1, 2, none⟩ = some (.int .i64 0) := HR.out.cell 2
        have z2 : w3.frozen? ⟨w.heap.size + 1, 2, none⟩ = false := HR.out.free 2
        have o3 : w3.cell? ⟨w.heap.size + 1, 3, none⟩ = some (.int .i64 0) := HR.out.cell 3
        have z3 : w3.frozen? ⟨w.heap.size + 1, 3, none⟩ = false := HR.out.free 3
        have o4 : w3.cell? ⟨w.heap.size + 1, 4, none⟩ = some (.int .i64 0) := HR.out.cell 4
        have z4 : w3.frozen? ⟨w.heap.size + 1, 4, none⟩ = false := HR.out.free 4
        have o5 : w3.cell? ⟨w.heap.size + 1, 5, none⟩ = some (.int .i64 0) := HR.out.cell 5
        have z5 : w3.frozen? ⟨w.heap.size + 1, 5, none⟩ = false := HR.out.free 5
        have x1 : w3.cell? ⟨w.heap.size, 1, none⟩ = some (.int .i64 z.i) := HA.out 1 _ rfl
        have x2 : w3.cell? ⟨w.heap.size, 2, none⟩ = some (.int .i64 z.p) := HA.out 2 _ rfl
        go_wp2_with fail
        exact bodyPost_ret (results_cell_row rfl _ _ (w.heap.size + 1) TPl _ (0, 0) _ rfl (put6_bk HR.out ⟨0, 0, 1, 0, z.i, 0⟩) Tryz.underlying91 rfl (by kernel_rfl)) rfl ⟨by rw [HV.out], HB.out.trans ((put6_fr w3 (w.heap.size + 1) ⟨0, 0, 1, 0, z.i, 0⟩).below HB.out.size (fun k hk e => by omega))⟩
      · have q0 : (z.p == 0) = false := by simp [h0]
        have HV : Hid (U = ⟨0, 0, 2, 0, z.i, 0⟩) := by show _ = _; rw [← HU.out]; unfold abw; rw [hP, hn]; simp [h0]
        clear hP hn h0
        have kb : ∀ W : World, (Instr.build TPl #[(2, .int .i64 2), (4, .int .i64 z.i)]).run Tryz.prog W = .ok (.agg #[.int .i64 0, .int .i64 0, .int .i64 2, .int .i64 0, .int .i64 z.i, .int .i64 0]) W := fun W => by kernel_rfl
        go_upto_region 3 with (fail)
        have f4 := Fr.alloc (fun _ => False) w2 (.cells #[.int .i64 0, .int .i64 0, .int .i64 0, .int .i64 0, .string ByteArray.empty, .string ByteArray.empty, .int .i64 0, .int .i64 0, .bool false] TSn)
        generalize (w2.alloc (.cells #[.int .i64 0, .int .i64 0, .int .i64 0, .int .i64 0, .string ByteArray.empty, .string ByteArray.empty, .int .i64 0, .int .i64 0, .bool false] TSn)) = w3 at *
        replace HR := Lib.hid (HR.out.fr f4 (fun _ _ h => h)); replace HA := Lib.hid (HA.out.keep f4); replace HP := Lib.hid (HP.out.fr f4 (fun _ _ h => h)); replace HB := Lib.hid (HB.out.trans (f4.below HB.out.size (fun _ _ h => h)))
        clear f4 hl2 e2 HF
        have o0 : w3.cell? ⟨w.heap.size + 1, 0, none⟩ = some (.int .i64 0) := HR.out.cell 0
        have z0 : w3.frozen? ⟨w.heap.size + 1, 0, none⟩ = false := HR.out.free 0
        have o1 : w3.cell? ⟨w.heap.size + 1, 1, none⟩ = some (.int .i64 0) := HR.out.cell 1
        have z1 : w3.frozen? ⟨w.heap.size + 1, 1, none⟩ = false := HR.out.free 1
        have o2 : w3.cell? ⟨w.heap.size + 1, 2, none⟩ = some (.int .i64 0) := HR.out.cell 2
        have z2 : w3.frozen? ⟨w.heap.size + 1, 2, none⟩ = false := HR.out.free 2
        have o3 : w3.cell? ⟨w.heap.size + 1, 3, none⟩ = some (.int .i64 0) := HR.out.cell 3
        have z3 : w3.frozen? ⟨w.heap.size + 1, 3, none⟩ = false := HR.out.free 3
        have o4 : w3.cell? ⟨w.heap.size + 1, 4, none⟩ = some (.int .i64 0) := HR.out.cell 4
        have z4 : w3.frozen? ⟨w.heap.size + 1, 4, none⟩ = false := HR.out.free 4
        have o5 : w3.cell? ⟨w.heap.size + 1, 5, none⟩ = some (.int .i64 0) := HR.out.cell 5
        have z5 : w3.frozen? ⟨w.heap.size + 1, 5, none⟩ = false := HR.out.free 5
        have x1 : w3.cell? ⟨w.heap.size, 1, none⟩ = some (.int .i64 z.i) := HA.out 1 _ rfl
        have x2 : w3.cell? ⟨w.heap.size, 2, none⟩ = some (.int .i64 z.p) := HA.out 2 _ rfl
        go_wp2_with fail
        exact bodyPost_ret (results_cell_row rfl _ _ (w.heap.size + 1) TPl _ (0, 0) _ rfl (put6_bk HR.out ⟨0, 0, 2, 0, z.i, 0⟩) Tryz.underlying91 rfl (by kernel_rfl)) rfl ⟨by rw [HV.out], HB.out.trans ((put6_fr w3 (w.heap.size + 1) ⟨0, 0, 2, 0, z.i, 0⟩).below HB.out.size (fun k hk e => by omega))⟩
end ClsF
end Go.Proofs.YtgfjpnpbkkadpaaGreat
