/- What two deltas come to: the program's: its regions in rounds. -/
import Derived.Test.YtkhhdadlpilbmaaGreatComps1
import Derived.Sort.CutIn
namespace Go.Proofs.YtkhhdadlpilbmaaGreat
open Go.RowKit
namespace Comp
open KeyP PackP SetP SetW SetF Sli Delta
attribute [local go_sem] Eng.ev Eng.getO_cons Eng.getO_nil
/-- A round's state ahead of a key's new side. -/
structure R14 (w0 w : World) (B1 Bx Bo Bs : Nat) (a s : Sd) (qa qs : Pd) (X : PM) (Ls : List (ByteArray × Sd)) (F : List Nat) : Prop where
  m : AvlSD.MapB w B1 Ls F
  q : Rel w Ls X
  x : Bk w Bx #[.pointer (some ⟨B1, 0, none⟩)] TPd
  o : Bk w Bo (sdarr a) TSd
  bs : Bk w Bs (sdarr s) TSd
  ra : SdR w a qa
  rs : SdR w s qs
  f : Fr (fun _ => False) w0 w
theorem R14.fr {w0 w w' : World} {B1 Bx Bo Bs : Nat} {a s : Sd} {qa qs : Pd} {X : PM} {Ls : List (ByteArray × Sd)} {F : List Nat} (h : R14 w0 w B1 Bx Bo Bs a s qa qs X Ls F) (hf : Fr (fun _ => False) w w') : R14 w0 w' B1 Bx Bo Bs a s qa qs X Ls F :=
  ⟨h.m.fr hf (fun h => h) (fun _ _ h => h), h.q.fr hf (Av.false _), h.x.fr hf (fun _ _ h => h), h.o.fr hf (fun _ _ h => h), h.bs.fr hf (fun _ _ h => h), h.ra.fr hf (Av.false _), h.rs.fr hf (Av.false _), h.f.trans hf (fun _ _ h => h) (fun _ _ h => h)⟩
/-- And behind it. -/
structure R15 (w0 w : World) (B1 Bx Bo Bs : Nat) (a s : Sd) (k : ByteArray) (qa qs : Pd) (X : PM) (Ls : List (ByteArray × Sd)) (F : List Nat) : Prop where
  x : Bk w Bx #[.pointer (some ⟨B1, 0, none⟩)] TPd
  o : Bk w Bo (sdarr a) TSd
  bs : Bk w Bs (sdarr s) TSd
  p : ∃ F', AvlSD.MapB w B1 (insL k (bothS a s) Ls) F' ∧ Rel w (insL k (bothS a s) Ls) (insL k (bothP qa qs) X) ∧ (∀ b ∈ F', b ∈ F ∨ w0.heap.size ≤ b) ∧ Fr (fun b => b = B1 ∨ b ∈ F) w0 w
theorem R14.put {w0 w w' : World} {B1 Bx Bo Bs : Nat} {a s : Sd} {k : ByteArray} {qa qs : Pd} {X : PM} {Ls : List (ByteArray × Sd)} {F : List Nat} (h : R14 w0 w B1 Bx Bo Bs a s qa qs X Ls F) (ht : AvlSD.Turned B1 F (insL k (bothS a s) Ls) w w') : R15 w0 w' B1 Bx Bo Bs a s k qa qs X Ls F := by
  obtain ⟨F', k1, k2, k3⟩ := ht
  refine ⟨h.x.fr k3 (fun b hb => by simp at hb; subst hb; exact map_avT h.m (T := TPd) (by decide) (by decide) _ _ h.x), h.o.fr k3 (fun b hb => by simp at hb; subst hb; exact map_avT h.m (T := TSd) (by decide) (by decide) _ _ h.o),
    h.bs.fr k3 (fun b hb => by simp at hb; subst hb; exact map_avT h.m (T := TSd) (by decide) (by decide) _ _ h.bs), F', k1, (h.q.ins k (h.ra.both h.rs)).fr k3 (map_av h.m), fun b hb => ?_, h.f.trans k3 (fun _ _ h => h.elim) (fun _ _ h => h)⟩
  rcases k2 b hb with e | e
  · exact .inl e
  · have := h.f.size; exact .inr (by omega)
set_option maxRecDepth 100000 in
set_option maxHeartbeats 400000 in
theorem c14 {ops : Array Oper} (hops : Eng.fnOps Tryz.f19 14 = ops) (a0 : Act) (Q : Exit → Act → World → Prop) (lr mr : Nat) (w0 w : World) (B1 Bx Bo Bs : Nat) (a s : Sd) (k : ByteArray) (qa qs : Pd) (X : PM) (Ls : List (ByteArray × Sd)) (F : List Nat) (hst : R14 w0 w B1 Bx Bo Bs a s qa qs X Ls F) (sz : Ls.length < 144115188075855872)
    (hn : a0.tmps.size = 110) (h_6 : a0.tmps.getD 6 undef = .pointer (some ⟨Bx, 0, none⟩)) (h_9 : a0.tmps.getD 9 undef = .string k) (h_10 : a0.tmps.getD 10 undef = .pointer (some ⟨Bs, 0, none⟩)) (h_11 : a0.tmps.getD 11 undef = .pointer (some ⟨Bo, 0, none⟩))
    (hpost : ∀ (x : Nat → Value) (w' : World), R15 w0 w' B1 Bx Bo Bs a s k qa qs X Ls F → Q .normal (Eng.setAll a0 [52, 53, 54, 55, 56, 57] x) w') :
    (Code.region 14 ops true).wpIn (Fence.wide.inRound lr) mr Tryz.prog Q a0 w := by
  simp only [Eng.fnOps, Eng.regOps, Tryz.f19, Option.bind_some, Option.getD_some, Nat.reduceEqDiff, ↓reduceIte] at hops
  subst hops
  have HSt := Lib.hid (hst.fr (Fr.drew _ _))
  have hSS : w.drew.cell? ⟨Bx, 0, none⟩ = some (.pointer (some ⟨B1, 0, none⟩)) ∧ w.drew.cell? ⟨Bo, 0, none⟩ = some (.bool a.m) ∧ w.drew.cell? ⟨Bo, 1, none⟩ = some (.pointer a.a) ∧ w.drew.cell? ⟨Bo, 2, none⟩ = some (.pointer a.b) ∧ w.drew.cell? ⟨Bs, 0, none⟩ = some (.bool s.m) ∧ w.drew.cell? ⟨Bs, 1, none⟩ = some (.pointer s.a) ∧ w.drew.cell? ⟨Bs, 2, none⟩ = some (.pointer s.b) := ⟨HSt.out.x.cell 0, HSt.out.o.cell 0, HSt.out.o.cell 1, HSt.out.o.cell 2, HSt.out.bs.cell 0, HSt.out.bs.cell 1, HSt.out.bs.cell 2⟩
  refine Eng.regionTIn (.take 0 (.take 1 (.take 2 (.take 3 (.alt 4 (.alt 5 (.done) (.stop)) (.stop)))))) (fun w' => w'.cell? ⟨Bx, 0, none⟩ = some (.pointer (some ⟨B1, 0, none⟩)) ∧ w'.cell? ⟨Bo, 0, none⟩ = some (.bool a.m) ∧ w'.cell? ⟨Bo, 1, none⟩ = some (.pointer a.a) ∧ w'.cell? ⟨Bo, 2, none⟩ = some (.pointer a.b) ∧ w'.cell? ⟨Bs, 0, none⟩ = some (.bool s.m) ∧ w'.cell? ⟨Bs, 1, none⟩ = some (.pointer s.a) ∧ w'.cell? ⟨Bs, 2, none⟩ = some (.pointer s.b)) (by kernel_rfl) 110 hn (by kernel_rfl) (by kernel_rfl) (by kernel_rfl) (by kernel_rfl) (hSS) (fun a b_ ha hb => ?_)
  subst ha
  have hb6 : b_ 6 = .pointer (some ⟨Bx, 0, none⟩) := (hb 6).symm.trans h_6
  have hb9 : b_ 9 = .string k := (hb 9).symm.trans h_9
  have hb10 : b_ 10 = .pointer (some ⟨Bs, 0, none⟩) := (hb 10).symm.trans h_10
  have hb11 : b_ 11 = .pointer (some ⟨Bo, 0, none⟩) := (hb 11).symm.trans h_11
  clear hb h_6 h_9 h_10 h_11
  have HP := Lib.hid hpost; have HN := Lib.hid hn
  clear hpost hn
  refine Eng.TW.take' (v := ?_) rfl rfl (by decide) (by kernel_rfl) (fun w hw => ?_) ?_
  rotate_left
  · (try dsimp only at hw); go_simp; first | done | with_reducible rfl
  refine Eng.TW.take' (v := ?_) rfl rfl (by decide) (by kernel_rfl) (fun w hw => ?_) ?_
  rotate_left
  · (try dsimp only at hw); go_simp; first | done | with_reducible rfl
  refine Eng.TW.take' (v := ?_) rfl rfl (by decide) (by kernel_rfl) (fun w hw => ?_) ?_
  rotate_left
  · (try dsimp only at hw); go_simp; first | done | with_reducible rfl
  refine Eng.TW.take' (v := ?_) rfl rfl (by decide) (by kernel_rfl) (fun w hw => ?_) ?_
  rotate_left
  · (try dsimp only at hw); go_simp; first | done | with_reducible rfl
  refine Eng.TW.call rfl rfl (by decide) (by kernel_rfl) ?_ (both a s _) ?_
  · go_simp
  rintro e w2 ⟨rfl, hf⟩
  have HSt2 := Lib.hid (HSt.out.fr hf)
  have hSS : w2.cell? ⟨Bx, 0, none⟩ = some (.pointer (some ⟨B1, 0, none⟩)) ∧ w2.cell? ⟨Bo, 0, none⟩ = some (.bool a.m) ∧ w2.cell? ⟨Bo, 1, none⟩ = some (.pointer a.a) ∧ w2.cell? ⟨Bo, 2, none⟩ = some (.pointer a.b) ∧ w2.cell? ⟨Bs, 0, none⟩ = some (.bool s.m) ∧ w2.cell? ⟨Bs, 1, none⟩ = some (.pointer s.a) ∧ w2.cell? ⟨Bs, 2, none⟩ = some (.pointer s.b) := ⟨HSt2.out.x.cell 0, HSt2.out.o.cell 0, HSt2.out.o.cell 1, HSt2.out.o.cell 2, HSt2.out.bs.cell 0, HSt2.out.bs.cell 1, HSt2.out.bs.cell 2⟩
  clear hf
  refine ⟨_, rfl, hSS, ?_⟩
  refine Eng.TW.call rfl rfl (by decide) (by kernel_rfl) ?_ (AvlSD.PutB B1 k (bothS a s) Ls F _ HSt2.out.m sz) ?_
  · go_simp
  rintro e w3 ⟨rfl, ht⟩
  have HSt3 := Lib.hid (HSt2.out.put ht)
  have hSS : w3.cell? ⟨Bx, 0, none⟩ = some (.pointer (some ⟨B1, 0, none⟩)) ∧ w3.cell? ⟨Bo, 0, none⟩ = some (.bool a.m) ∧ w3.cell? ⟨Bo, 1, none⟩ = some (.pointer a.a) ∧ w3.cell? ⟨Bo, 2, none⟩ = some (.pointer a.b) ∧ w3.cell? ⟨Bs, 0, none⟩ = some (.bool s.m) ∧ w3.cell? ⟨Bs, 1, none⟩ = some (.pointer s.a) ∧ w3.cell? ⟨Bs, 2, none⟩ = some (.pointer s.b) := ⟨HSt3.out.x.cell 0, HSt3.out.o.cell 0, HSt3.out.o.cell 1, HSt3.out.o.cell 2, HSt3.out.bs.cell 0, HSt3.out.bs.cell 1, HSt3.out.bs.cell 2⟩
  clear ht
  refine ⟨_, rfl, hSS, ?_⟩
  refine Eng.TW.end_ [52, 53, 54, 55, 56, 57] HN.out (by kernel_rfl) (by kernel_rfl) ?_
  exact HP.out _ _ HSt3.out

/-- Errors in boxes. -/
structure E16 (w0 w : World) (Be r4 r5 : Nat) (e : Int) (v5 : Int) : Prop where
  e : Bk w Be #[.int .i64 e] TEr
  b4 : Bk w r4 #[.slice none 0 0, .slice none 0 0] TDl
  b5 : Bk w r5 #[.int .i64 v5] TEr
  f : Fr (fun b => b = r4 ∨ b = r5) w0 w
theorem E16.s4 {w0 w : World} {Be r4 r5 : Nat} {e v5 : Int} (h : E16 w0 w Be r4 r5 e v5) : E16 w0 ((w.setCell ⟨r4, 0, none⟩ (.slice none 0 0)).setCell ⟨r4, 1, none⟩ (.slice none 0 0)) Be r4 r5 e v5 := by
  have hf : Fr (fun k => k = r4) w ((w.setCell ⟨r4, 0, none⟩ (.slice none 0 0)).setCell ⟨r4, 1, none⟩ (.slice none 0 0)) :=
    (Fr.setCell w ⟨r4, 0, none⟩ (.slice none 0 0) (S := fun k => k = r4) rfl).trans (Fr.setCell _ ⟨r4, 1, none⟩ (.slice none 0 0) (S := fun k => k = r4) rfl) (fun _ _ h => h) (fun _ _ h => h)
  have n4 : ∀ {B : Nat} {c : Array Value}, Bk w B c TEr → ∀ b ∈ [B], ¬ b = r4 := fun hb b hm e => by
    simp at hm; subst hm; rw [e] at hb
    have h4 : w.heap[r4]? = _ := h.b4
    rw [show w.heap[r4]? = _ from hb] at h4; cases h4
  have := (h.b4.set 0 (.slice none 0 0)).set 1 (.slice none 0 0)
  exact ⟨h.e.fr hf (n4 h.e), by simpa using this, h.b5.fr hf (n4 h.b5), h.f.trans hf (fun _ _ h => h) (fun _ _ h => .inl h)⟩
theorem E16.s5 {w0 w : World} {Be r4 r5 : Nat} {e v5 : Int} (h : E16 w0 w Be r4 r5 e v5) (hne : Be ≠ r5) (u : Int) : E16 w0 (w.setCell ⟨r5, 0, none⟩ (.int .i64 u)) Be r4 r5 e u := by
  have hf := Fr.setCell w ⟨r5, 0, none⟩ (.int .i64 u) (S := fun k => k = r5) rfl
  refine ⟨h.e.fr hf (fun b hm e => by simp at hm; subst hm; exact hne e), h.b4.fr hf (fun b hm e => ?_), by simpa using h.b5.set 0 (.int .i64 u), h.f.trans hf (fun _ _ h => h) (fun _ _ h => .inr h)⟩
  simp at hm; subst hm
  have h4 := h.b4
  rw [e] at h4
  have h5 : w.heap[r5]? = _ := h.b5
  rw [show w.heap[r5]? = _ from h4] at h5; cases h5
theorem kz (W : World) : (Instr.build TDl #[]).run Tryz.prog W = .ok (.agg #[.slice none 0 0, .slice none 0 0]) W := by kernel_rfl
set_option maxRecDepth 100000 in
set_option maxHeartbeats 400000 in
theorem c16 {ops : Array Oper} (hops : Eng.fnOps Tryz.f19 16 = ops) (a0 : Act) (Q : Exit → Act → World → Prop) (w0 w : World) (Be r4 r5 : Nat) (e : Int) (hne : Be ≠ r5) (hst : E16 w0 w Be r4 r5 e 0)
    (hn : a0.tmps.size = 110) (h_4 : a0.tmps.getD 4 undef = .pointer (some ⟨r4, 0, none⟩)) (h_5 : a0.tmps.getD 5 undef = .pointer (some ⟨r5, 0, none⟩)) (h_8 : a0.tmps.getD 8 undef = .pointer (some ⟨Be, 0, none⟩))
    (hpost : ∀ (x : Nat → Value) (w' : World), E16 w0 w' Be r4 r5 e e → Q .normal (Eng.setAll a0 [60, 61] x) w') :
    (Code.region 16 ops true).wp Tryz.prog Q a0 w := by
  simp only [Eng.fnOps, Eng.regOps, Tryz.f19, Option.bind_some, Option.getD_some, Nat.reduceEqDiff, ↓reduceIte] at hops
  subst hops
  have kz := kz
  have n45 : ¬ r4 = r5 := fun e => by
    have h4 := hst.b4
    rw [e] at h4
    have h5 : w.heap[r5]? = _ := hst.b5
    rw [show w.heap[r5]? = _ from h4] at h5; cases h5
  have n54 : ¬ r5 = r4 := fun e => n45 e.symm
  have HSt := Lib.hid ((⟨hst.e, hst.b4, hst.b5, hst.f.trans (Fr.drew _ _) (fun _ _ h => h) (fun _ _ h => h)⟩ : E16 w0 w.drew Be r4 r5 e 0))
  have hSS : w.drew.cell? ⟨Be, 0, none⟩ = some (.int .i64 e) := HSt.out.e.cell 0
  refine Eng.regionT (.take 0 (.take 1 (.alt 2 (.alt 3 (.done) (.stop)) (.stop)))) (fun w' => w'.cell? ⟨Be, 0, none⟩ = some (.int .i64 e)) (by kernel_rfl) 110 hn (by kernel_rfl) (by kernel_rfl) (by kernel_rfl) (hSS) (fun a b ha hb => ?_)
  subst ha
  have hb4 : b 4 = .pointer (some ⟨r4, 0, none⟩) := (hb 4).symm.trans h_4
  have hb5 : b 5 = .pointer (some ⟨r5, 0, none⟩) := (hb 5).symm.trans h_5
  have hb8 : b 8 = .pointer (some ⟨Be, 0, none⟩) := (hb 8).symm.trans h_8
  clear hb h_4 h_5 h_8
  have HP := Lib.hid hpost; have HN := Lib.hid hn
  clear hpost hn
  refine Eng.TW.take' (v := ?_) rfl rfl (by decide) (by kernel_rfl) (fun w hw => ?_) ?_
  rotate_left
  · (try dsimp only at hw); go_simp; first | done | with_reducible rfl
  refine Eng.TW.take' (v := ?_) rfl rfl (by decide) (by kernel_rfl) (fun w hw => ?_) ?_
  rotate_left
  · (try dsimp only at hw); go_simp; first | done | with_reducible rfl
  have c0 : w.cell? ⟨r4, 0, none⟩ = some (.slice none 0 0) := HSt.out.b4.cell 0
  have c1 : w.cell? ⟨r4, 1, none⟩ = some (.slice none 0 0) := HSt.out.b4.cell 1
  have f0 : w.frozen? ⟨r4, 0, none⟩ = false := HSt.out.b4.free 0
  have f1 : w.frozen? ⟨r4, 1, none⟩ = false := HSt.out.b4.free 1
  refine Eng.TW.step0 rfl rfl (by kernel_rfl) (by go_simp; first | done | with_reducible rfl) ((HSt.out.s4).e.cell 0) ?_
  have HSt2 := Lib.hid (HSt.out.s4)
  have hSS : ((w.drew.setCell ⟨r4, 0, none⟩ (.slice none 0 0)).setCell ⟨r4, 1, none⟩ (.slice none 0 0)).cell? ⟨Be, 0, none⟩ = some (.int .i64 e) := HSt2.out.e.cell 0
  have c5 : w.cell? ⟨r5, 0, none⟩ = some (.int .i64 0) := hst.b5.cell 0
  have f5 : w.frozen? ⟨r5, 0, none⟩ = false := hst.b5.free 0
  refine Eng.TW.step0 rfl rfl (by kernel_rfl) (by go_simp; first | done | with_reducible rfl) ((HSt2.out.s5 hne e).e.cell 0) ?_
  have HSt3 := Lib.hid (HSt2.out.s5 hne e)
  refine Eng.TW.end_ [60, 61] HN.out (by kernel_rfl) (by kernel_rfl) ?_
  exact HP.out _ _ HSt3.out

/-- A side in its box, with the records that it points to. -/
structure R20 (w0 w : World) (Bs : Nat) (m : Bool) (a b : Option Addr) : Prop where
  bs : Bk w Bs #[.bool m, .pointer a, .pointer b] TSd
  f : Fr (fun _ => False) w0 w
theorem R20.fr {w0 w w' : World} {Bs : Nat} {m : Bool} {a b : Option Addr} (h : R20 w0 w Bs m a b) (hf : Fr (fun _ => False) w w') : R20 w0 w' Bs m a b := ⟨h.bs.fr hf (fun _ _ h => h), h.f.trans hf (fun _ _ h => h) (fun _ _ h => h)⟩
structure R20c (w0 w : World) (Bs : Nat) (m : Bool) (bu bv : Nat) (u v : Sn) : Prop where
  bs : Bk w Bs #[.bool m, .pointer (some ⟨bu, 0, none⟩), .pointer (some ⟨bv, 0, none⟩)] TSd
  u : Bk w bu u.arr TSn
  v : Bk w bv v.arr TSn
  f : Fr (fun _ => False) w0 w
theorem R20c.fr {w0 w w' : World} {Bs : Nat} {m : Bool} {bu bv : Nat} {u v : Sn} (h : R20c w0 w Bs m bu bv u v) (hf : Fr (fun _ => False) w w') : R20c w0 w' Bs m bu bv u v := ⟨h.bs.fr hf (fun _ _ h => h), h.u.fr hf (fun _ _ h => h), h.v.fr hf (fun _ _ h => h), h.f.trans hf (fun _ _ h => h) (fun _ _ h => h)⟩
set_option maxRecDepth 100000 in
set_option maxHeartbeats 400000 in
theorem c20a {ops : Array Oper} (hops : Eng.fnOps Tryz.f19 20 = ops) (a0 : Act) (Q : Exit → Act → World → Prop) (lr mr : Nat) (w0 w : World) (Bs : Nat) (m : Bool) (p : Option Addr) (hst : R20 w0 w Bs m none p)
    (hn : a0.tmps.size = 110) (h_16 : a0.tmps.getD 16 undef = .pointer (some ⟨Bs, 0, none⟩))
    (hpost : ∀ (x : Nat → Value) (w' : World), x 84 = .bool false → R20 w0 w' Bs m none p → Q .normal (Eng.setAll a0 [66, 67, 68, 69, 70, 71, 72, 73, 74, 75, 76, 77, 78, 79, 80, 81, 82, 83, 84] x) w') :
    (Code.region 20 ops true).wpIn (Fence.wide.inRound lr) mr Tryz.prog Q a0 w := by
  simp only [Eng.fnOps, Eng.regOps, Tryz.f19, Option.bind_some, Option.getD_some, Nat.reduceEqDiff, ↓reduceIte] at hops
  subst hops
  have HSt := Lib.hid (hst.fr (Fr.drew _ _))
  have hSS : w.drew.cell? ⟨Bs, 1, none⟩ = some (.pointer none) := HSt.out.bs.cell 1
  refine Eng.regionTIn (.take 0 (.take 1 (.take 2 (.take 3 (.take 4 (.take 5 (.take 6 (.take 7 (.take 8 (.take 9 (.take 10 (.take 11 (.take 12 (.take 13 (.take 14 (.take 15 (.take 16 (.take 17 (.take 18 (.done)))))))))))))))))))) (fun w' => w'.cell? ⟨Bs, 1, none⟩ = some (.pointer none)) (by kernel_rfl) 110 hn (by kernel_rfl) (by kernel_rfl) (by kernel_rfl) (by kernel_rfl) (hSS) (fun a b ha hb => ?_)
  subst ha
  have hb16 : b 16 = .pointer (some ⟨Bs, 0, none⟩) := (hb 16).symm.trans h_16
  clear hb h_16
  have HP := Lib.hid hpost; have HN := Lib.hid hn
  clear hpost hn
  refine Eng.TW.take' (v := ?_) rfl rfl (by decide) (by kernel_rfl) (fun w hw => ?_) ?_
  rotate_left
  · (try dsimp only at hw); go_simp; first | done | with_reducible rfl
  refine Eng.TW.take' (v := ?_) rfl rfl (by decide) (by kernel_rfl) (fun w hw => ?_) ?_
  rotate_left
  · (try dsimp only at hw); go_simp; first | done | with_reducible rfl
  refine Eng.TW.take' (v := ?_) rfl rfl (by decide) (by kernel_rfl) (fun w hw => ?_) ?_
  rotate_left
  · (try dsimp only at hw); go_simp; first | done | with_reducible rfl
  refine Eng.TW.take' (v := ?_) rfl rfl (by decide) (by kernel_rfl) (fun w hw => ?_) ?_
  rotate_left
  · (try dsimp only at hw); go_simp; first | done | with_reducible rfl
  refine Eng.TW.skip rfl rfl (by decide) (by kernel_rfl) ?_
  refine Eng.TW.skip rfl rfl (by decide) (by kernel_rfl) ?_
  refine Eng.TW.skip rfl rfl (by decide) (by kernel_rfl) ?_
  refine Eng.TW.take' (v := ?_) rfl rfl (by decide) (by kernel_rfl) (fun w hw => ?_) ?_
  rotate_left
  · (try dsimp only at hw); go_simp; first | done | with_reducible rfl
  refine Eng.TW.take' (v := ?_) rfl rfl (by decide) (by kernel_rfl) (fun w hw => ?_) ?_
  rotate_left
  · (try dsimp only at hw); go_simp; first | done | with_reducible rfl
  refine Eng.TW.skip rfl rfl (by decide) (by kernel_rfl) ?_
  refine Eng.TW.skip rfl rfl (by decide) (by kernel_rfl) ?_
  refine Eng.TW.skip rfl rfl (by decide) (by kernel_rfl) ?_
  refine Eng.TW.skip rfl rfl (by decide) (by kernel_rfl) ?_
  refine Eng.TW.skip rfl rfl (by decide) (by kernel_rfl) ?_
  refine Eng.TW.skip rfl rfl (by decide) (by kernel_rfl) ?_
  refine Eng.TW.skip rfl rfl (by decide) (by kernel_rfl) ?_
  refine Eng.TW.skip rfl rfl (by decide) (by kernel_rfl) ?_
  refine Eng.TW.skip rfl rfl (by decide) (by kernel_rfl) ?_
  refine Eng.TW.take' (v := ?_) rfl rfl (by decide) (by kernel_rfl) (fun w hw => ?_) ?_
  rotate_left
  · (try dsimp only at hw); go_simp; first | done | with_reducible rfl
  refine Eng.TW.end_ [66, 67, 68, 69, 70, 71, 72, 73, 74, 75, 76, 77, 78, 79, 80, 81, 82, 83, 84] HN.out (by kernel_rfl) (by kernel_rfl) ?_
  exact HP.out _ _ rfl HSt.out

set_option maxRecDepth 100000 in
set_option maxHeartbeats 400000 in
theorem c20b {ops : Array Oper} (hops : Eng.fnOps Tryz.f19 20 = ops) (a0 : Act) (Q : Exit → Act → World → Prop) (lr mr : Nat) (w0 w : World) (Bs : Nat) (m : Bool) (bu : Nat) (hst : R20 w0 w Bs m (some ⟨bu, 0, none⟩) none)
    (hn : a0.tmps.size = 110) (h_16 : a0.tmps.getD 16 undef = .pointer (some ⟨Bs, 0, none⟩))
    (hpost : ∀ (x : Nat → Value) (w' : World), x 84 = .bool false → R20 w0 w' Bs m (some ⟨bu, 0, none⟩) none → Q .normal (Eng.setAll a0 [66, 67, 68, 69, 70, 71, 72, 73, 74, 75, 76, 77, 78, 79, 80, 81, 82, 83, 84] x) w') :
    (Code.region 20 ops true).wpIn (Fence.wide.inRound lr) mr Tryz.prog Q a0 w := by
  simp only [Eng.fnOps, Eng.regOps, Tryz.f19, Option.bind_some, Option.getD_some, Nat.reduceEqDiff, ↓reduceIte] at hops
  subst hops
  have HSt := Lib.hid (hst.fr (Fr.drew _ _))
  have hSS : w.drew.cell? ⟨Bs, 1, none⟩ = some (.pointer (some ⟨bu, 0, none⟩)) ∧ w.drew.cell? ⟨Bs, 2, none⟩ = some (.pointer none) := ⟨HSt.out.bs.cell 1, HSt.out.bs.cell 2⟩
  refine Eng.regionTIn (.take 0 (.take 1 (.take 2 (.take 3 (.take 4 (.take 5 (.take 6 (.take 7 (.take 8 (.take 9 (.take 10 (.take 11 (.take 12 (.take 13 (.take 14 (.take 15 (.take 16 (.take 17 (.take 18 (.done)))))))))))))))))))) (fun w' => w'.cell? ⟨Bs, 1, none⟩ = some (.pointer (some ⟨bu, 0, none⟩)) ∧ w'.cell? ⟨Bs, 2, none⟩ = some (.pointer none)) (by kernel_rfl) 110 hn (by kernel_rfl) (by kernel_rfl) (by kernel_rfl) (by kernel_rfl) (hSS) (fun a b ha hb => ?_)
  subst ha
  have hb16 : b 16 = .pointer (some ⟨Bs, 0, none⟩) := (hb 16).symm.trans h_16
  clear hb h_16
  have HP := Lib.hid hpost; have HN := Lib.hid hn
  clear hpost hn
  refine Eng.TW.take' (v := ?_) rfl rfl (by decide) (by kernel_rfl) (fun w hw => ?_) ?_
  rotate_left
  · (try dsimp only at hw); go_simp; first | done | with_reducible rfl
  refine Eng.TW.take' (v := ?_) rfl rfl (by decide) (by kernel_rfl) (fun w hw => ?_) ?_
  rotate_left
  · (try dsimp only at hw); go_simp; first | done | with_reducible rfl
  refine Eng.TW.take' (v := ?_) rfl rfl (by decide) (by kernel_rfl) (fun w hw => ?_) ?_
  rotate_left
  · (try dsimp only at hw); go_simp; first | done | with_reducible rfl
  refine Eng.TW.take' (v := ?_) rfl rfl (by decide) (by kernel_rfl) (fun w hw => ?_) ?_
  rotate_left
  · (try dsimp only at hw); go_simp; first | done | with_reducible rfl
  refine Eng.TW.take' (v := ?_) rfl rfl (by decide) (by kernel_rfl) (fun w hw => ?_) ?_
  rotate_left
  · (try dsimp only at hw); go_simp; first | done | with_reducible rfl
  refine Eng.TW.take' (v := ?_) rfl rfl (by decide) (by kernel_rfl) (fun w hw => ?_) ?_
  rotate_left
  · (try dsimp only at hw); go_simp; first | done | with_reducible rfl
  refine Eng.TW.take' (v := ?_) rfl rfl (by decide) (by kernel_rfl) (fun w hw => ?_) ?_
  rotate_left
  · (try dsimp only at hw); go_simp; first | done | with_reducible rfl
  refine Eng.TW.take' (v := ?_) rfl rfl (by decide) (by kernel_rfl) (fun w hw => ?_) ?_
  rotate_left
  · (try dsimp only at hw); go_simp; first | done | with_reducible rfl
  refine Eng.TW.take' (v := ?_) rfl rfl (by decide) (by kernel_rfl) (fun w hw => ?_) ?_
  rotate_left
  · (try dsimp only at hw); go_simp; first | done | with_reducible rfl
  refine Eng.TW.skip rfl rfl (by decide) (by kernel_rfl) ?_
  refine Eng.TW.skip rfl rfl (by decide) (by kernel_rfl) ?_
  refine Eng.TW.skip rfl rfl (by decide) (by kernel_rfl) ?_
  refine Eng.TW.skip rfl rfl (by decide) (by kernel_rfl) ?_
  refine Eng.TW.skip rfl rfl (by decide) (by kernel_rfl) ?_
  refine Eng.TW.skip rfl rfl (by decide) (by kernel_rfl) ?_
  refine Eng.TW.skip rfl rfl (by decide) (by kernel_rfl) ?_
  refine Eng.TW.skip rfl rfl (by decide) (by kernel_rfl) ?_
  refine Eng.TW.skip rfl rfl (by decide) (by kernel_rfl) ?_
  refine Eng.TW.take' (v := ?_) rfl rfl (by decide) (by kernel_rfl) (fun w hw => ?_) ?_
  rotate_left
  · (try dsimp only at hw); go_simp; first | done | with_reducible rfl
  refine Eng.TW.end_ [66, 67, 68, 69, 70, 71, 72, 73, 74, 75, 76, 77, 78, 79, 80, 81, 82, 83, 84] HN.out (by kernel_rfl) (by kernel_rfl) ?_
  exact HP.out _ _ rfl HSt.out

set_option maxRecDepth 100000 in
set_option maxHeartbeats 400000 in
theorem c20c {ops : Array Oper} (hops : Eng.fnOps Tryz.f19 20 = ops) (a0 : Act) (Q : Exit → Act → World → Prop) (lr mr : Nat) (w0 w : World) (Bs : Nat) (m : Bool) (bu bv : Nat) (u v : Sn) (hst : R20c w0 w Bs m bu bv u v)
    (hn : a0.tmps.size = 110) (h_16 : a0.tmps.getD 16 undef = .pointer (some ⟨Bs, 0, none⟩))
    (hpost : ∀ (x : Nat → Value) (w' : World), x 84 = .bool (eqS u v) → R20c w0 w' Bs m bu bv u v → Q .normal (Eng.setAll a0 [66, 67, 68, 69, 70, 71, 72, 73, 74, 75, 76, 77, 78, 79, 80, 81, 82, 83, 84] x) w') :
    (Code.region 20 ops true).wpIn (Fence.wide.inRound lr) mr Tryz.prog Q a0 w := by
  simp only [Eng.fnOps, Eng.regOps, Tryz.f19, Option.bind_some, Option.getD_some, Nat.reduceEqDiff, ↓reduceIte] at hops
  subst hops
  have hq := fun W : World => eq_parts u.t u.i u.p u.r u.b u.d v.t v.i v.p v.r v.b v.d u.s u.o v.s v.o u.g v.g W
  have HSt := Lib.hid (hst.fr (Fr.drew _ _))
  have hSS : w.drew.cell? ⟨Bs, 1, none⟩ = some (.pointer (some ⟨bu, 0, none⟩)) ∧ w.drew.cell? ⟨Bs, 2, none⟩ = some (.pointer (some ⟨bv, 0, none⟩)) ∧ w.drew.cell? ⟨bu, 0, none⟩ = some (.int .i64 u.t) ∧ w.drew.cell? ⟨bu, 1, none⟩ = some (.int .i64 u.i) ∧ w.drew.cell? ⟨bu, 2, none⟩ = some (.int .i64 u.p) ∧ w.drew.cell? ⟨bu, 3, none⟩ = some (.int .i64 u.r) ∧ w.drew.cell? ⟨bu, 4, none⟩ = some (.string u.s) ∧ w.drew.cell? ⟨bu, 5, none⟩ = some (.string u.o) ∧ w.drew.cell? ⟨bu, 6, none⟩ = some (.int .i64 u.b) ∧ w.drew.cell? ⟨bu, 7, none⟩ = some (.int .i64 u.d) ∧ w.drew.cell? ⟨bu, 8, none⟩ = some (.bool u.g) ∧ w.drew.cell? ⟨bv, 0, none⟩ = some (.int .i64 v.t) ∧ w.drew.cell? ⟨bv, 1, none⟩ = some (.int .i64 v.i) ∧ w.drew.cell? ⟨bv, 2, none⟩ = some (.int .i64 v.p) ∧ w.drew.cell? ⟨bv, 3, none⟩ = some (.int .i64 v.r) ∧ w.drew.cell? ⟨bv, 4, none⟩ = some (.string v.s) ∧ w.drew.cell? ⟨bv, 5, none⟩ = some (.string v.o) ∧ w.drew.cell? ⟨bv, 6, none⟩ = some (.int .i64 v.b) ∧ w.drew.cell? ⟨bv, 7, none⟩ = some (.int .i64 v.d) ∧ w.drew.cell? ⟨bv, 8, none⟩ = some (.bool v.g) := ⟨HSt.out.bs.cell 1, HSt.out.bs.cell 2, HSt.out.u.cell 0, HSt.out.u.cell 1, HSt.out.u.cell 2, HSt.out.u.cell 3, HSt.out.u.cell 4, HSt.out.u.cell 5, HSt.out.u.cell 6, HSt.out.u.cell 7, HSt.out.u.cell 8, HSt.out.v.cell 0, HSt.out.v.cell 1, HSt.out.v.cell 2, HSt.out.v.cell 3, HSt.out.v.cell 4, HSt.out.v.cell 5, HSt.out.v.cell 6, HSt.out.v.cell 7, HSt.out.v.cell 8⟩
  refine Eng.regionTIn (.take 0 (.take 1 (.take 2 (.take 3 (.take 4 (.take 5 (.take 6 (.take 7 (.take 8 (.take 9 (.take 10 (.take 11 (.take 12 (.take 13 (.take 14 (.take 15 (.take 16 (.take 17 (.take 18 (.done)))))))))))))))))))) (fun w' => w'.cell? ⟨Bs, 1, none⟩ = some (.pointer (some ⟨bu, 0, none⟩)) ∧ w'.cell? ⟨Bs, 2, none⟩ = some (.pointer (some ⟨bv, 0, none⟩)) ∧ w'.cell? ⟨bu, 0, none⟩ = some (.int .i64 u.t) ∧ w'.cell? ⟨bu, 1, none⟩ = some (.int .i64 u.i) ∧ w'.cell? ⟨bu, 2, none⟩ = some (.int .i64 u.p) ∧ w'.cell? ⟨bu, 3, none⟩ = some (.int .i64 u.r) ∧ w'.cell? ⟨bu, 4, none⟩ = some (.string u.s) ∧ w'.cell? ⟨bu, 5, none⟩ = some (.string u.o) ∧ w'.cell? ⟨bu, 6, none⟩ = some (.int .i64 u.b) ∧ w'.cell? ⟨bu, 7, none⟩ = some (.int .i64 u.d) ∧ w'.cell? ⟨bu, 8, none⟩ = some (.bool u.g) ∧ w'.cell? ⟨bv, 0, none⟩ = some (.int .i64 v.t) ∧ w'.cell? ⟨bv, 1, none⟩ = some (.int .i64 v.i) ∧ w'.cell? ⟨bv, 2, none⟩ = some (.int .i64 v.p) ∧ w'.cell? ⟨bv, 3, none⟩ = some (.int .i64 v.r) ∧ w'.cell? ⟨bv, 4, none⟩ = some (.string v.s) ∧ w'.cell? ⟨bv, 5, none⟩ = some (.string v.o) ∧ w'.cell? ⟨bv, 6, none⟩ = some (.int .i64 v.b) ∧ w'.cell? ⟨bv, 7, none⟩ = some (.int .i64 v.d) ∧ w'.cell? ⟨bv, 8, none⟩ = some (.bool v.g)) (by kernel_rfl) 110 hn (by kernel_rfl) (by kernel_rfl) (by kernel_rfl) (by kernel_rfl) (hSS) (fun a b ha hb => ?_)
  subst ha
  have hb16 : b 16 = .pointer (some ⟨Bs, 0, none⟩) := (hb 16).symm.trans h_16
  clear hb h_16
  have HP := Lib.hid hpost; have HN := Lib.hid hn
  clear hpost hn
  refine Eng.TW.take' (v := ?_) rfl rfl (by decide) (by kernel_rfl) (fun w hw => ?_) ?_
  rotate_left
  · (try dsimp only at hw); go_simp; first | done | with_reducible rfl
  refine Eng.TW.take' (v := ?_) rfl rfl (by decide) (by kernel_rfl) (fun w hw => ?_) ?_
  rotate_left
  · (try dsimp only at hw); go_simp; first | done | with_reducible rfl
  refine Eng.TW.take' (v := ?_) rfl rfl (by decide) (by kernel_rfl) (fun w hw => ?_) ?_
  rotate_left
  · (try dsimp only at hw); go_simp; first | done | with_reducible rfl
  refine Eng.TW.take' (v := ?_) rfl rfl (by decide) (by kernel_rfl) (fun w hw => ?_) ?_
  rotate_left
  · (try dsimp only at hw); go_simp; first | done | with_reducible rfl
  refine Eng.TW.take' (v := ?_) rfl rfl (by decide) (by kernel_rfl) (fun w hw => ?_) ?_
  rotate_left
  · (try dsimp only at hw); go_simp; first | done | with_reducible rfl
  refine Eng.TW.take' (v := ?_) rfl rfl (by decide) (by kernel_rfl) (fun w hw => ?_) ?_
  rotate_left
  · (try dsimp only at hw); go_simp; first | done | with_reducible rfl
  refine Eng.TW.take' (v := ?_) rfl rfl (by decide) (by kernel_rfl) (fun w hw => ?_) ?_
  rotate_left
  · (try dsimp only at hw); go_simp; first | done | with_reducible rfl
  refine Eng.TW.take' (v := ?_) rfl rfl (by decide) (by kernel_rfl) (fun w hw => ?_) ?_
  rotate_left
  · (try dsimp only at hw); go_simp; first | done | with_reducible rfl
  refine Eng.TW.take' (v := ?_) rfl rfl (by decide) (by kernel_rfl) (fun w hw => ?_) ?_
  rotate_left
  · (try dsimp only at hw); go_simp; first | done | with_reducible rfl
  refine Eng.TW.take' (v := ?_) rfl rfl (by decide) (by kernel_rfl) (fun w hw => ?_) ?_
  rotate_left
  · (try dsimp only at hw); go_simp; first | done | with_reducible rfl
  refine Eng.TW.take' (v := ?_) rfl rfl (by decide) (by kernel_rfl) (fun w hw => ?_) ?_
  rotate_left
  · (try dsimp only at hw); go_simp; first | done | with_reducible rfl
  refine Eng.TW.take' (v := ?_) rfl rfl (by decide) (by kernel_rfl) (fun w hw => ?_) ?_
  rotate_left
  · (try dsimp only at hw); go_simp; first | done | with_reducible rfl
  refine Eng.TW.take' (v := ?_) rfl rfl (by decide) (by kernel_rfl) (fun w hw => ?_) ?_
  rotate_left
  · (try dsimp only at hw); go_simp; first | done | with_reducible rfl
  refine Eng.TW.take' (v := ?_) rfl rfl (by decide) (by kernel_rfl) (fun w hw => ?_) ?_
  rotate_left
  · (try dsimp only at hw); go_simp; first | done | with_reducible rfl
  refine Eng.TW.take' (v := ?_) rfl rfl (by decide) (by kernel_rfl) (fun w hw => ?_) ?_
  rotate_left
  · (try dsimp only at hw); go_simp; first | done | with_reducible rfl
  refine Eng.TW.take' (v := ?_) rfl rfl (by decide) (by kernel_rfl) (fun w hw => ?_) ?_
  rotate_left
  · (try dsimp only at hw); go_simp; first | done | with_reducible rfl
  refine Eng.TW.take' (v := ?_) rfl rfl (by decide) (by kernel_rfl) (fun w hw => ?_) ?_
  rotate_left
  · (try dsimp only at hw); go_simp; first | done | with_reducible rfl
  refine Eng.TW.take' (v := ?_) rfl rfl (by decide) (by kernel_rfl) (fun w hw => ?_) ?_
  rotate_left
  · (try dsimp only at hw); go_simp; first | done | with_reducible rfl
  refine Eng.TW.take' (v := ?_) rfl rfl (by decide) (by kernel_rfl) (fun w hw => ?_) ?_
  rotate_left
  · (try dsimp only at hw); go_simp; first | done | with_reducible rfl
  refine Eng.TW.end_ [66, 67, 68, 69, 70, 71, 72, 73, 74, 75, 76, 77, 78, 79, 80, 81, 82, 83, 84] HN.out (by kernel_rfl) (by kernel_rfl) ?_
  exact HP.out _ _ rfl HSt.out

/-- Two results in boxes. -/
theorem results_row_cell {P : Program} {fn : Func} {p q : Tmp} {ty ty2 : TypeId} (h : fn.results = #[.cell p ty, .cell q ty2]) (tmps : Array Value) (w : World) (g g2 : Nat) (t : TypeId) (cs : Array Value) (u : Value) (d : TypeDesc)
    (hp : tmps.getD p undef = .pointer (some ⟨g, 0, none⟩)) (hq : tmps.getD q undef = .pointer (some ⟨g2, 0, none⟩)) (hg : w.heap[g]? = some (.cells cs t (0, 0)))
    (hu : P.underlying ty = some d) (hd : (match d with | .struct _ | .array _ _ => true | _ => false) = true) (hi : (P.info? ty).map (·.size) = some cs.size) (hl : Sem.run P (loadVar ty2 ⟨g2, 0, none⟩) w = .ok u w) :
    (results fn tmps).run P w = .ok (.tuple #[.agg cs, u]) w := by
  have hp' : tmps[p]?.getD undef = .pointer (some ⟨g, 0, none⟩) := by simpa using hp
  have hq' : tmps[q]?.getD undef = .pointer (some ⟨g2, 0, none⟩) := by simpa using hq
  simp [results, h, hp', hq', asAddr, run_loadVar_row w g t ty cs (0, 0) d hg hu hd hi, hl]
theorem loadEr {w : World} {B : Nat} {e : Int} (h : Bk w B #[.int .i64 e] TEr) : Sem.run Tryz.prog (loadVar TEr ⟨B, 0, none⟩) w = .ok (.int .i64 e) w := by
  have hc : w.cell? ⟨B, 0, none⟩ = some (.int .i64 e) := h.cell 0
  go_simp
end Comp
end Go.Proofs.YtkhhdadlpilbmaaGreat
namespace Go.Proofs.YtkhhdadlpilbmaaGreat
open Go.RowKit Go.Shelf
namespace Comp
open KeyP PackP SetP SetW SetF Sli Delta
attribute [local go_sem] Oper.semAt_some
/-- All pointers are below. -/
def Low (m : Nat) (Ls : List (ByteArray × Sd)) : Prop := ∀ p ∈ Ls, (∀ a, p.2.a = some a → a.block < m) ∧ ∀ a, p.2.b = some a → a.block < m
theorem PtR.low {w w' : World} {a : Option Addr} {o : Option Sn} {S : Nat → Prop} {m : Nat} (h : PtR w a o) (hl : ∀ q, a = some q → q.block < m) (hf : Fr S w w') (hs : ∀ b, b < m → ¬ S b) : PtR w' a o := by
  cases o with
  | none => exact h
  | some x =>
    obtain ⟨b, h1, h2, h3⟩ := h
    exact ⟨b, h1, h2.fr hf (fun k hk => by simp at hk; subst hk; exact hs _ (hl _ h1)), h3⟩
theorem PtR.lt {w : World} {a : Option Addr} {o : Option Sn} (h : PtR w a o) : ∀ q, a = some q → q.block < w.heap.size := by
  cases o with
  | none => intro q hq; rw [show a = none from h] at hq; cases hq
  | some x =>
    obtain ⟨b, rfl, h2, -⟩ := h
    intro q hq; cases hq; exact lt_of_heap h2
theorem Low.of {w : World} {Ls : List (ByteArray × Sd)} {L : PM} (h : Rel w Ls L) : Low w.heap.size Ls := by
  induction h with
  | nil => intro p hp; cases hp
  | cons k h1 _ ih =>
    intro p hp
    rcases List.mem_cons.1 hp with rfl | hp
    · exact ⟨h1.a.lt, h1.b.lt⟩
    · exact ih p hp
theorem Low.mono {m m' : Nat} {Ls : List (ByteArray × Sd)} (h : Low m Ls) (hm : m ≤ m') : Low m' Ls := fun p hp => ⟨fun a ha => Nat.lt_of_lt_of_le ((h p hp).1 a ha) hm, fun a ha => Nat.lt_of_lt_of_le ((h p hp).2 a ha) hm⟩
theorem Low.get {m : Nat} {Ls : List (ByteArray × Sd)} (h : Low m Ls) (k : ByteArray) : (∀ a, ((getL k Ls).getD zs).a = some a → a.block < m) ∧ ∀ a, ((getL k Ls).getD zs).b = some a → a.block < m := by
  cases hg : getL k Ls with
  | none => exact ⟨fun a ha => (by cases ha), fun a ha => (by cases ha)⟩
  | some s => exact h (k, s) (getL_mem hg)
theorem Low.ins {m : Nat} {Ls : List (ByteArray × Sd)} (h : Low m Ls) (k : ByteArray) {s : Sd} (hs : (∀ a, s.a = some a → a.block < m) ∧ ∀ a, s.b = some a → a.block < m) : Low m (insL k s Ls) := by
  induction Ls with
  | nil => intro p hp; simp [insL] at hp; subst hp; exact hs
  | cons q Ls ih =>
    obtain ⟨k', s'⟩ := q
    have h1 := h (k', s') (by simp)
    have h2 : Low m Ls := fun p hp => h p (by simp [hp])
    intro p hp
    rw [insL] at hp
    split at hp
    · rcases List.mem_cons.1 hp with rfl | hp
      · exact hs
      · exact h p hp
    · split at hp
      · rcases List.mem_cons.1 hp with rfl | hp
        · exact h1
        · exact ih h2 p hp
      · rcases List.mem_cons.1 hp with rfl | hp
        · exact hs
        · exact h2 p hp
theorem Low.both {m : Nat} {a b : Sd} (h1 : (∀ q, a.a = some q → q.block < m) ∧ ∀ q, a.b = some q → q.block < m) (h2 : (∀ q, b.a = some q → q.block < m) ∧ ∀ q, b.b = some q → q.block < m) : (∀ q, (bothS a b).a = some q → q.block < m) ∧ ∀ q, (bothS a b).b = some q → q.block < m := by
  refine ⟨fun q hq => ?_, fun q hq => ?_⟩
  · have hq : (if a.m then a.a else b.a) = some q := hq
    split at hq
    · exact h1.1 q hq
    · exact h2.1 q hq
  · have hq : (if b.m then b.b else a.b) = some q := hq
    split at hq
    · exact h2.2 q hq
    · exact h1.2 q hq
theorem Rel.low {w w' : World} {Ls : List (ByteArray × Sd)} {L : PM} {S : Nat → Prop} {m : Nat} (h : Rel w Ls L) (hl : Low m Ls) (hf : Fr S w w') (hs : ∀ b, b < m → ¬ S b) : Rel w' Ls L := by
  induction h with
  | nil => exact .nil
  | @cons k s q Ls L h1 _ ih =>
    obtain ⟨l1, l2⟩ := hl (k, s) (by simp)
    exact .cons k ⟨h1.m, h1.a.low l1 hf hs, h1.b.low l2 hf hs⟩ (ih (fun p hp => hl p (by simp [hp])))
/-- The first loop's state. -/
structure LI (w0 W : World) (n lo B1 B2 Bx Be : Nat) (X Y : PM) (e : Int) (Ls1 : List (ByteArray × Sd)) (F1 : List Nat) (Ls2 : List (ByteArray × Sd)) (F2 : List Nat) : Prop where
  r4 : Bk W (n + 2) #[.slice none 0 0, .slice none 0 0] TDl
  r5 : Bk W (n + 3) #[.int .i64 0] TEr
  m1 : AvlSD.MapB W B1 Ls1 F1
  q1 : Rel W Ls1 X
  m2 : AvlSD.MapB W B2 Ls2 F2
  q2 : Rel W Ls2 Y
  xx : Bk W Bx #[.pointer (some ⟨B1, 0, none⟩)] TPd
  ee : Bk W Be #[.int .i64 e] TEr
  lo1 : ∀ b ∈ B1 :: F1, n + 4 ≤ b ∧ (b < lo ∨ lo + 2 ≤ b)
  lo2 : ∀ b ∈ B2 :: F2, n + 4 ≤ b ∧ b < lo
  ap : ∀ b ∈ B1 :: F1, b ∉ B2 :: F2
  p1 : Low lo Ls1
  p2 : Low lo Ls2
  hx : Bx < lo
  he : n + 4 ≤ Be ∧ Be < lo
  nlo : n + 4 ≤ lo
  bel : Below n w0 W
  sz : lo ≤ W.heap.size
theorem LI.fr {w0 W W' : World} {n lo B1 B2 Bx Be : Nat} {X Y : PM} {e : Int} {Ls1 : List (ByteArray × Sd)} {F1 : List Nat} {Ls2 : List (ByteArray × Sd)} {F2 : List Nat} {S : Nat → Prop} (h : LI w0 W n lo B1 B2 Bx Be X Y e Ls1 F1 Ls2 F2) (hf : Fr S W W') (hS : ∀ b, S b → lo ≤ b ∧ b < lo + 2) : LI w0 W' n lo B1 B2 Bx Be X Y e Ls1 F1 Ls2 F2 := by
  have hn := h.nlo; have he := h.he; have hx := h.hx
  have low : ∀ {B : Nat} {c : Array Value} {t : TypeId}, Bk W B c t → B < lo → Bk W' B c t := fun hb hl => hb.fr hf (fun b hm e => by simp at hm; subst hm; have := hS _ e; omega)
  exact ⟨low h.r4 (by omega), low h.r5 (by omega), h.m1.fr hf (fun e => by have := hS _ e; have := h.lo1 B1 (by simp); omega) (fun b hb e => by have := hS _ e; have := h.lo1 b (by simp [hb]); omega), h.q1.low h.p1 hf (fun b hb e => by have := hS _ e; omega),
    h.m2.fr hf (fun e => by have := hS _ e; have := h.lo2 B2 (by simp); omega) (fun b hb e => by have := hS _ e; have := h.lo2 b (by simp [hb]); omega), h.q2.low h.p2 hf (fun b hb e => by have := hS _ e; omega), low h.xx hx, low h.ee he.2,
    h.lo1, h.lo2, h.ap, h.p1, h.p2, h.hx, h.he, h.nlo, h.bel.trans (hf.below (by have := h.sz; omega) (fun b hb e => by have := hS _ e; omega)), Nat.le_trans h.sz hf.size⟩
theorem LI.keep {w0 W W' : World} {n lo B1 B2 Bx Be : Nat} {X Y : PM} {e : Int} {Ls1 : List (ByteArray × Sd)} {F1 : List Nat} {Ls2 : List (ByteArray × Sd)} {F2 : List Nat} (h : LI w0 W n lo B1 B2 Bx Be X Y e Ls1 F1 Ls2 F2) (hf : Fr (fun _ => False) W W') : LI w0 W' n lo B1 B2 Bx Be X Y e Ls1 F1 Ls2 F2 := h.fr hf (fun _ h => h.elim)
theorem LI.err {w0 W W' : World} {n lo B1 B2 Bx Be : Nat} {X Y : PM} {e : Int} {Ls1 : List (ByteArray × Sd)} {F1 : List Nat} {Ls2 : List (ByteArray × Sd)} {F2 : List Nat} (h : LI w0 W n lo B1 B2 Bx Be X Y e Ls1 F1 Ls2 F2) (u : Int) : LI w0 (W.setCell ⟨Be, 0, none⟩ (.int .i64 u)) n lo B1 B2 Bx Be X Y u Ls1 F1 Ls2 F2 := by
  have hf := Fr.setCell W ⟨Be, 0, none⟩ (.int .i64 u) (S := fun k => k = Be) rfl
  have hn := h.nlo; have he := h.he
  have av : ∀ {B : Nat} {c : Array Value} {t : TypeId}, Bk W B c t → t ≠ TEr → Bk (W.setCell ⟨Be, 0, none⟩ (.int .i64 u)) B c t := fun hb ht => hb.fr hf (fun b hm e => by
    simp at hm; subst hm; rw [e] at hb
    have h2 : W.heap[Be]? = _ := h.ee
    rw [show W.heap[Be]? = _ from hb] at h2; cases h2; exact ht rfl)
  have hav : Av (fun k => k = Be) W := fun b cs hb e => by rw [e, show W.heap[Be]? = _ from h.ee] at hb; cases hb
  have n1 := map_avT h.m1 (T := TEr) (by decide) (by decide) Be _ h.ee
  have n2 := map_avT h.m2 (T := TEr) (by decide) (by decide) Be _ h.ee
  exact ⟨av h.r4 (by decide), h.r5.fr hf (fun b hm e => by simp at hm; omega), h.m1.fr hf (fun e => n1 (.inl e.symm)) (fun b hb e => n1 (.inr (e ▸ hb))), h.q1.fr hf hav, h.m2.fr hf (fun e => n2 (.inl e.symm)) (fun b hb e => n2 (.inr (e ▸ hb))), h.q2.fr hf hav,
    av h.xx (by decide), by simpa using h.ee.set 0 (.int .i64 u), h.lo1, h.lo2, h.ap, h.p1, h.p2, h.hx, h.he, h.nlo, h.bel.trans (hf.below (by have := h.sz; omega) (fun b hb e => by omega)), Nat.le_trans h.sz hf.size⟩
theorem LI.turn {w0 W W' : World} {n lo B1 B2 Bx Be : Nat} {X Y : PM} {e : Int} {Ls1 : List (ByteArray × Sd)} {F1 : List Nat} {Ls2 : List (ByteArray × Sd)} {F2 : List Nat} {k : ByteArray} {s : Sd} {q : Pd} (h : LI w0 W n lo B1 B2 Bx Be X Y e Ls1 F1 Ls2 F2) (hsz : lo + 2 ≤ W.heap.size) (hs : (∀ a, s.a = some a → a.block < lo) ∧ ∀ a, s.b = some a → a.block < lo)
    (hp : ∃ F', AvlSD.MapB W' B1 (insL k s Ls1) F' ∧ Rel W' (insL k s Ls1) (insL k q X) ∧ (∀ b ∈ F', b ∈ F1 ∨ W.heap.size ≤ b) ∧ Fr (fun b => b = B1 ∨ b ∈ F1) W W') :
    ∃ F', LI w0 W' n lo B1 B2 Bx Be (insL k q X) Y e (insL k s Ls1) F' Ls2 F2 ∧ Fr (fun b => b = B1 ∨ b ∈ F1) W W' := by
  obtain ⟨F', k1, k2, k3, hf⟩ := hp
  have hn := h.nlo; have he := h.he
  have in1 : ∀ b, b = B1 ∨ b ∈ F1 → b ∈ B1 :: F1 := fun b e => by rcases e with rfl | e <;> simp [*]
  have av : ∀ {B : Nat} {c : Array Value} {t : TypeId}, Bk W B c t → t ≠ TMd → t ≠ TNd → Bk W' B c t := fun hb ht ht2 => hb.fr hf (fun b hm e => by simp at hm; subst hm; exact map_avT h.m1 ht ht2 _ _ hb e)
  refine ⟨F', ⟨av h.r4 (by decide) (by decide), av h.r5 (by decide) (by decide), k1, k2, h.m2.fr hf (fun e => h.ap _ (in1 _ e) (by simp)) (fun b hb e => h.ap _ (in1 _ e) (by simp [hb])), h.q2.fr hf (map_av h.m1), av h.xx (by decide) (by decide), av h.ee (by decide) (by decide),
    fun b hb => ?_, h.lo2, fun b hb hb2 => ?_, h.p1.ins k hs, h.p2, h.hx, h.he, h.nlo, h.bel.trans (hf.below (by have := h.sz; omega) (fun b hb e => by have := h.lo1 b (in1 _ e); omega)), Nat.le_trans h.sz hf.size⟩, hf⟩
  · rcases List.mem_cons.1 hb with rfl | hb
    · exact h.lo1 _ (by simp)
    · rcases k3 b hb with e | e
      · exact h.lo1 b (by simp [e])
      · exact ⟨by omega, .inr (by omega)⟩
  · have h2 := h.lo2 b hb2
    rcases List.mem_cons.1 hb with rfl | hb
    · exact h.ap _ (by simp) hb2
    · rcases k3 b hb with e | e
      · exact h.ap b (by simp [e]) hb2
      · omega
/-- What a call gives. -/
def CmpPost (r : (List Sn × List Sn) × Int) (w : World) (e : Ending) (w' : World) : Prop := ∃ A1 c1 A2 c2, e = .returned (.tuple #[(Dl.mk A1 c1 r.1.1 A2 c2 r.1.2).v, .int .i64 r.2]) ∧ RdD w' ⟨A1, c1, r.1.1, A2, c2, r.1.2⟩ ∧ Below w.heap.size w w'
theorem cmp_snoc {X X' : PM} {e : Int} {Y : PM} {j : Nat} (h : cmp X 0 (Y.take j) = some (X', e)) (hj : j < Y.length) : cmp X 0 (Y.take (j + 1)) = if fitsP ((getL Y[j].1 X').getD zd) Y[j].2 = 7 then none else some (insL Y[j].1 (bothP ((getL Y[j].1 X').getD zd) Y[j].2) X', if fitsP ((getL Y[j].1 X').getD zd) Y[j].2 = 0 then e else fitsP ((getL Y[j].1 X').getD zd) Y[j].2) := by
  rw [List.take_succ_eq_append_getElem hj, cmp_app, h]; rfl
theorem cmp_none {X : PM} {Y : PM} {j : Nat} (h : cmp X 0 (Y.take j) = none) : cmp X 0 Y = none := by
  rw [← List.take_append_drop j Y, cmp_app, h]; rfl
theorem fits3 (a b : Pd) : fitsP a b = 0 ∨ fitsP a b = 7 ∨ fitsP a b = 8 := by
  unfold fitsP
  split
  · split
    · split <;> simp
    · split <;> simp
  · simp
theorem outs_snoc {X : PM} {j : Nat} (h : j < X.length) : outs (X.take (j + 1)) = outs (X.take j) ++ (if X[j].2.o = X[j].2.i then [] else X[j].2.o.toList) := by
  unfold outs
  rw [List.take_succ_eq_append_getElem h, List.filterMap_append]
  congr 1
  rw [List.filterMap_cons, List.filterMap_nil]
  split
  · rename_i hn; split at hn
    · rename_i he; rw [if_pos he]
    · rename_i he; rw [if_neg he, hn]; rfl
  · rename_i v hn; split at hn
    · cases hn
    · rename_i he; rw [if_neg he, hn]; rfl
theorem inns_snoc {X : PM} {j : Nat} (h : j < X.length) : inns (X.take (j + 1)) = inns (X.take j) ++ (if X[j].2.o = X[j].2.i then [] else X[j].2.i.toList) := by
  unfold inns
  rw [List.take_succ_eq_append_getElem h, List.filterMap_append]
  congr 1
  rw [List.filterMap_cons, List.filterMap_nil]
  split
  · rename_i hn; split at hn
    · rename_i he; rw [if_pos he]
    · rename_i he; rw [if_neg he, hn]; rfl
  · rename_i v hn; split at hn
    · cases hn
    · rename_i he; rw [if_neg he, hn]; rfl
theorem outs_len (X : PM) : (outs X).length ≤ X.length := List.length_filterMap_le _ _
theorem inns_len (X : PM) : (inns X).length ≤ X.length := List.length_filterMap_le _ _
theorem sides_len (O I : List Sn) : (sidesP O I).length ≤ O.length + I.length := by
  have h1 : ∀ (O : List Sn) (L : PM), (O.foldl putO L).length ≤ L.length + O.length := fun O => by
    induction O with
    | nil => intro L; simp
    | cons x O ih => intro L; have := ih (putO L x); have := insL_len' (kk x) (⟨true, some x, none⟩ : Pd) L; rw [List.foldl_cons, List.length_cons]; unfold putO at *; omega
  have h2 : ∀ (I : List Sn) (L : PM), (I.foldl putI L).length ≤ L.length + I.length := fun I => by
    induction I with
    | nil => intro L; simp
    | cons x I ih => intro L; have := ih (putI L x); have := insL_len' (kk x) (⟨true, ((getL (kk x) L).getD zd).o, some x⟩ : Pd) L; rw [List.foldl_cons, List.length_cons]; unfold putI at *; omega
  have := h1 O []; have := h2 I (O.foldl putO [])
  unfold sidesP
  simp at *; omega
end Comp
end Go.Proofs.YtkhhdadlpilbmaaGreat
namespace Go.Proofs.YtkhhdadlpilbmaaGreat
open Go.RowKit Go.Shelf
namespace Comp
open KeyP PackP SetP SetW SetF Sli Delta
attribute [local go_sem] Oper.semAt_some
theorem cmp_end {w w' : World} {n : Nat} {r : (List Sn × List Sn) × Int} {z : Int} (h : r = (([], []), z)) (hn : n = w.heap.size) (hb : Below n w w') : CmpPost r w (.returned (.tuple #[.agg #[.slice none 0 0, .slice none 0 0], .int .i64 z])) w' := by
  subst h; subst hn
  exact ⟨none, 0, none, 0, rfl, ⟨Ls.nil _, Ls.nil _⟩, hb⟩
theorem ret2 {w0 w : World} {n r4 r5 : Nat} {v5 : Int} (b4 : Bk w (n + 2) #[.slice none 0 0, .slice none 0 0] TDl) (b5 : Bk w (n + 3) #[.int .i64 v5] TEr) (bel : Below n w0 w) (sz : n + 4 ≤ w.heap.size) (hr4 : n + 1 + 1 = r4) (hr5 : n + 1 + 1 + 1 = r5) (z : Int) :
    Bk (((w.setCell ⟨r4, 0, none⟩ (.slice none 0 0)).setCell ⟨r4, 1, none⟩ (.slice none 0 0)).setCell ⟨r5, 0, none⟩ (.int .i64 z)) r4 #[.slice none 0 0, .slice none 0 0] TDl ∧ Bk (((w.setCell ⟨r4, 0, none⟩ (.slice none 0 0)).setCell ⟨r4, 1, none⟩ (.slice none 0 0)).setCell ⟨r5, 0, none⟩ (.int .i64 z)) r5 #[.int .i64 z] TEr ∧ Below n w0 (((w.setCell ⟨r4, 0, none⟩ (.slice none 0 0)).setCell ⟨r4, 1, none⟩ (.slice none 0 0)).setCell ⟨r5, 0, none⟩ (.int .i64 z)) ∧ Fr (fun b => b = r4 ∨ b = r5) w (((w.setCell ⟨r4, 0, none⟩ (.slice none 0 0)).setCell ⟨r4, 1, none⟩ (.slice none 0 0)).setCell ⟨r5, 0, none⟩ (.int .i64 z)) := by
  obtain rfl : r4 = n + 2 := hr4.symm
  obtain rfl : r5 = n + 3 := hr5.symm
  have f4 : Fr (fun k => k = n + 2) w ((w.setCell ⟨n + 2, 0, none⟩ (.slice none 0 0)).setCell ⟨n + 2, 1, none⟩ (.slice none 0 0)) :=
    (Fr.setCell w ⟨n + 2, 0, none⟩ (.slice none 0 0) (S := fun k => k = n + 2) rfl).trans (Fr.setCell _ ⟨n + 2, 1, none⟩ (.slice none 0 0) (S := fun k => k = n + 2) rfl) (fun _ _ h => h) (fun _ _ h => h)
  have f5 := Fr.setCell ((w.setCell ⟨n + 2, 0, none⟩ (.slice none 0 0)).setCell ⟨n + 2, 1, none⟩ (.slice none 0 0)) ⟨n + 3, 0, none⟩ (.int .i64 z) (S := fun k => k = n + 3) rfl
  have x4 := (b4.set 0 (.slice none 0 0)).set 1 (.slice none 0 0)
  have x5 := (b5.fr f4 (fun b hb e => by simp at hb; omega)).set 0 (.int .i64 z)
  refine ⟨(show Bk _ (n + 2) #[.slice none 0 0, .slice none 0 0] TDl by simpa using x4).fr f5 (fun b hb e => by simp at hb; omega), by simpa using x5, bel.trans ((f4.trans f5 (T := fun b => n ≤ b) (fun k hk e => by omega) (fun k hk e => by omega)).below (by omega) (fun k hk e => by omega)), f4.trans f5 (fun _ _ h => .inl h) (fun _ _ h => .inr h)⟩
set_option maxRecDepth 100000 in
set_option maxHeartbeats 4000000 in
theorem Compose_no1 (d1 d2 : Dl) (w : World) (h1 : RdD w d1) (h2 : RdD w d2) (l1 : d1.O.length ≤ 500000) (l2 : d1.I.length ≤ 500000) (_l3 : d2.O.length ≤ 500000) (_l4 : d2.I.length ≤ 500000) (hr1 : rightB d1.O d1.I = false) :
    Calls Tryz.prog 19 #[d1.v, d2.v] w (CmpPost (composeP d1.O d1.I d2.O d2.I) w) := by
  have HE : Hid (composeP d1.O d1.I d2.O d2.I = (([], []), 2)) := by show _ = _; unfold composeP; rw [hr1]; rfl
  have kz := kz
  have HK1 : Hid (K0 w ((((w.alloc (.cells d1.arr TDl)).alloc (.cells d2.arr TDl)).alloc (.cells #[.slice none 0 0, .slice none 0 0] TDl)).alloc (.cells #[.int .i64 0] TEr)) w.heap.size d1 d2) := by
    have fa := fun (w : World) (o : Obj) => Fr.alloc (fun _ => False) w o
    have nn : ∀ G : List Nat, ∀ b ∈ G, ¬ False := fun _ _ _ h => h
    have e2 := Bk.new (w.alloc (.cells d1.arr TDl)) d2.arr TDl
    have e3 := Bk.new ((w.alloc (.cells d1.arr TDl)).alloc (.cells d2.arr TDl)) #[.slice none 0 0, .slice none 0 0] TDl
    have e4 := Bk.new (((w.alloc (.cells d1.arr TDl)).alloc (.cells d2.arr TDl)).alloc (.cells #[.slice none 0 0, .slice none 0 0] TDl)) #[.int .i64 0] TEr
    simp only [World.size_alloc] at e2 e3 e4
    exact ⟨(((Bk.new w d1.arr TDl).fr (fa _ _) (nn _)).fr (fa _ _) (nn _)).fr (fa _ _) (nn _), (e2.fr (fa _ _) (nn _)).fr (fa _ _) (nn _), e3.fr (fa _ _) (nn _), e4, ((((h1.keep (fa _ _)).keep (fa _ _)).keep (fa _ _)).keep (fa _ _)), ((((h2.keep (fa _ _)).keep (fa _ _)).keep (fa _ _)).keep (fa _ _)),
      ((((Below.refl _ w).alloc (Nat.le_refl _) _).alloc (by simp) _).alloc (by simp; omega) _).alloc (by simp; omega) _, by simp⟩
  generalize composeP d1.O d1.I d2.O d2.I = res at *
  clear h1 h2
  go_enter Tryz.func19, Tryz.ntmps19
  go_upto_region 1 with (fail)
  generalize ((((w.alloc (.cells d1.arr TDl)).alloc (.cells d2.arr TDl)).alloc (.cells #[.slice none 0 0, .slice none 0 0] TDl)).alloc (.cells #[.int .i64 0] TEr)) = w1 at *
  generalize hn : w.heap.size = n at *
  generalize hr5 : n + 1 + 1 + 1 = r5 at *
  generalize hr4 : n + 1 + 1 = r4 at *
  replace hr5 : n + 1 + 1 + 1 = r5 := by omega
  have e0 : w1.cell? ⟨n, 0, none⟩ = some (.slice d1.A1 d1.O.length d1.c1) := HK1.out.b1.cell 0
  have e1 : w1.cell? ⟨n, 1, none⟩ = some (.slice d1.A2 d1.I.length d1.c2) := HK1.out.b1.cell 1
  go_wp2_with fail
  refine (Right d1 w1 HK1.out.l1 (by omega) (by omega)).mono ?_
  rintro e w2 ⟨rfl, hb⟩
  have HK2 := Lib.hid (HK1.out.below hb)
  clear hb HK1 e0 e1
  rw [hr1]
  have c0 : w2.cell? ⟨r4, 0, none⟩ = some (.slice none 0 0) := by rw [← hr4]; exact HK2.out.r4.cell 0
  have c1 : w2.cell? ⟨r4, 1, none⟩ = some (.slice none 0 0) := by rw [← hr4]; exact HK2.out.r4.cell 1
  have c5 : w2.cell? ⟨r5, 0, none⟩ = some (.int .i64 0) := by rw [← hr5]; exact HK2.out.r5.cell 0
  have f0 : w2.frozen? ⟨r4, 0, none⟩ = false := by rw [← hr4]; exact HK2.out.r4.free 0
  have f1 : w2.frozen? ⟨r4, 1, none⟩ = false := by rw [← hr4]; exact HK2.out.r4.free 1
  have f5 : w2.frozen? ⟨r5, 0, none⟩ = false := by rw [← hr5]; exact HK2.out.r5.free 0
  have n45 : ¬ r4 = r5 := by omega
  have n54 : ¬ r5 = r4 := by omega
  obtain ⟨x4, x5, xb, -⟩ := ret2 HK2.out.r4 HK2.out.r5 HK2.out.bel HK2.out.sz hr4 hr5 2
  clear HK2
  go_wp2_with fail
  exact bodyPost_ret (results_row_cell rfl _ _ r4 r5 TDl _ (.int .i64 2) _ rfl rfl x4 Tryz.underlying24 rfl (by kernel_rfl) (loadEr x5)) rfl (cmp_end HE.out hn.symm xb)
set_option maxRecDepth 100000 in
set_option maxHeartbeats 4000000 in
theorem Compose_no2 (d1 d2 : Dl) (w : World) (h1 : RdD w d1) (h2 : RdD w d2) (l1 : d1.O.length ≤ 500000) (l2 : d1.I.length ≤ 500000) (l3 : d2.O.length ≤ 500000) (l4 : d2.I.length ≤ 500000) (hr1 : rightB d1.O d1.I = true) (hr2 : rightB d2.O d2.I = false) :
    Calls Tryz.prog 19 #[d1.v, d2.v] w (CmpPost (composeP d1.O d1.I d2.O d2.I) w) := by
  have HE : Hid (composeP d1.O d1.I d2.O d2.I = (([], []), 2)) := by show _ = _; unfold composeP; rw [hr1, hr2]; rfl
  have kz := kz
  have HK1 : Hid (K0 w ((((w.alloc (.cells d1.arr TDl)).alloc (.cells d2.arr TDl)).alloc (.cells #[.slice none 0 0, .slice none 0 0] TDl)).alloc (.cells #[.int .i64 0] TEr)) w.heap.size d1 d2) := by
    have fa := fun (w : World) (o : Obj) => Fr.alloc (fun _ => False) w o
    have nn : ∀ G : List Nat, ∀ b ∈ G, ¬ False := fun _ _ _ h => h
    have e2 := Bk.new (w.alloc (.cells d1.arr TDl)) d2.arr TDl
    have e3 := Bk.new ((w.alloc (.cells d1.arr TDl)).alloc (.cells d2.arr TDl)) #[.slice none 0 0, .slice none 0 0] TDl
    have e4 := Bk.new (((w.alloc (.cells d1.arr TDl)).alloc (.cells d2.arr TDl)).alloc (.cells #[.slice none 0 0, .slice none 0 0] TDl)) #[.int .i64 0] TEr
    simp only [World.size_alloc] at e2 e3 e4
    exact ⟨(((Bk.new w d1.arr TDl).fr (fa _ _) (nn _)).fr (fa _ _) (nn _)).fr (fa _ _) (nn _), (e2.fr (fa _ _) (nn _)).fr (fa _ _) (nn _), e3.fr (fa _ _) (nn _), e4, ((((h1.keep (fa _ _)).keep (fa _ _)).keep (fa _ _)).keep (fa _ _)), ((((h2.keep (fa _ _)).keep (fa _ _)).keep (fa _ _)).keep (fa _ _)),
      ((((Below.refl _ w).alloc (Nat.le_refl _) _).alloc (by simp) _).alloc (by simp; omega) _).alloc (by simp; omega) _, by simp⟩
  generalize composeP d1.O d1.I d2.O d2.I = res at *
  clear h1 h2
  go_enter Tryz.func19, Tryz.ntmps19
  go_upto_region 1 with (fail)
  generalize ((((w.alloc (.cells d1.arr TDl)).alloc (.cells d2.arr TDl)).alloc (.cells #[.slice none 0 0, .slice none 0 0] TDl)).alloc (.cells #[.int .i64 0] TEr)) = w1 at *
  generalize hn : w.heap.size = n at *
  generalize hr5 : n + 1 + 1 + 1 = r5 at *
  generalize hr4 : n + 1 + 1 = r4 at *
  replace hr5 : n + 1 + 1 + 1 = r5 := by omega
  have e0 : w1.cell? ⟨n, 0, none⟩ = some (.slice d1.A1 d1.O.length d1.c1) := HK1.out.b1.cell 0
  have e1 : w1.cell? ⟨n, 1, none⟩ = some (.slice d1.A2 d1.I.length d1.c2) := HK1.out.b1.cell 1
  go_wp2_with fail
  refine (Right d1 w1 HK1.out.l1 (by omega) (by omega)).mono ?_
  rintro e w2 ⟨rfl, hb⟩
  have HK2 := Lib.hid (HK1.out.below hb)
  clear hb HK1 e0 e1
  rw [hr1]
  have e0 : w2.cell? ⟨n + 1, 0, none⟩ = some (.slice d2.A1 d2.O.length d2.c1) := HK2.out.b2.cell 0
  have e1 : w2.cell? ⟨n + 1, 1, none⟩ = some (.slice d2.A2 d2.I.length d2.c2) := HK2.out.b2.cell 1
  go_wp2_with fail
  refine (Right d2 w2 HK2.out.l2 (by omega) (by omega)).mono ?_
  rintro e w3 ⟨rfl, hb⟩
  have HK3 := Lib.hid (HK2.out.below hb)
  clear hb HK2 e0 e1
  rw [hr2]
  have c0 : w3.cell? ⟨r4, 0, none⟩ = some (.slice none 0 0) := by rw [← hr4]; exact HK3.out.r4.cell 0
  have c1 : w3.cell? ⟨r4, 1, none⟩ = some (.slice none 0 0) := by rw [← hr4]; exact HK3.out.r4.cell 1
  have c5 : w3.cell? ⟨r5, 0, none⟩ = some (.int .i64 0) := by rw [← hr5]; exact HK3.out.r5.cell 0
  have f0 : w3.frozen? ⟨r4, 0, none⟩ = false := by rw [← hr4]; exact HK3.out.r4.free 0
  have f1 : w3.frozen? ⟨r4, 1, none⟩ = false := by rw [← hr4]; exact HK3.out.r4.free 1
  have f5 : w3.frozen? ⟨r5, 0, none⟩ = false := by rw [← hr5]; exact HK3.out.r5.free 0
  have n45 : ¬ r4 = r5 := by omega
  have n54 : ¬ r5 = r4 := by omega
  obtain ⟨x4, x5, xb, -⟩ := ret2 HK3.out.r4 HK3.out.r5 HK3.out.bel HK3.out.sz hr4 hr5 2
  clear HK3
  go_wp2_with fail
  exact bodyPost_ret (results_row_cell rfl _ _ r4 r5 TDl _ (.int .i64 2) _ rfl rfl x4 Tryz.underlying24 rfl (by kernel_rfl) (loadEr x5)) rfl (cmp_end HE.out hn.symm xb)
end Comp
end Go.Proofs.YtkhhdadlpilbmaaGreat
namespace Go.Proofs.YtkhhdadlpilbmaaGreat
open Go.RowKit Go.Shelf
namespace Comp
open KeyP PackP SetP SetW SetF Sli Delta
attribute [local go_sem] Oper.semAt_some
theorem All_any (B off : Nat) (w : World) : Calls Tryz.prog 43 #[.pointer (some ⟨B, off, none⟩)] w fun e w' => e = .returned (.func (.func 67) #[] #[.pointer (some ⟨w.heap.size, 0, none⟩)]) ∧ w.alloc (.cells #[.pointer (some ⟨B, off, none⟩)] TPd) = w' := AvlSD.All _ w
theorem ret3 {w : World} {n r4 r5 : Nat} {v5 : Int} {u1 u2 : Value} (b4 : Bk w (n + 2) #[.slice none 0 0, .slice none 0 0] TDl) (b5 : Bk w (n + 3) #[.int .i64 v5] TEr) (hr4 : n + 1 + 1 = r4) (hr5 : n + 1 + 1 + 1 = r5) (z : Int) :
    Bk (((w.setCell ⟨r4, 0, none⟩ u1).setCell ⟨r4, 1, none⟩ u2).setCell ⟨r5, 0, none⟩ (.int .i64 z)) r4 #[u1, u2] TDl ∧ Bk (((w.setCell ⟨r4, 0, none⟩ u1).setCell ⟨r4, 1, none⟩ u2).setCell ⟨r5, 0, none⟩ (.int .i64 z)) r5 #[.int .i64 z] TEr ∧ Fr (fun b => b = r4 ∨ b = r5) w (((w.setCell ⟨r4, 0, none⟩ u1).setCell ⟨r4, 1, none⟩ u2).setCell ⟨r5, 0, none⟩ (.int .i64 z)) := by
  obtain rfl : r4 = n + 2 := hr4.symm
  obtain rfl : r5 = n + 3 := hr5.symm
  have f4 : Fr (fun k => k = n + 2) w ((w.setCell ⟨n + 2, 0, none⟩ u1).setCell ⟨n + 2, 1, none⟩ u2) :=
    (Fr.setCell w ⟨n + 2, 0, none⟩ u1 (S := fun k => k = n + 2) rfl).trans (Fr.setCell _ ⟨n + 2, 1, none⟩ u2 (S := fun k => k = n + 2) rfl) (fun _ _ h => h) (fun _ _ h => h)
  have f5 := Fr.setCell ((w.setCell ⟨n + 2, 0, none⟩ u1).setCell ⟨n + 2, 1, none⟩ u2) ⟨n + 3, 0, none⟩ (.int .i64 z) (S := fun k => k = n + 3) rfl
  have x4 := (b4.set 0 u1).set 1 u2
  have x5 := (b5.fr f4 (fun b hb e => by simp at hb; omega)).set 0 (.int .i64 z)
  exact ⟨(show Bk _ (n + 2) #[u1, u2] TDl by simpa using x4).fr f5 (fun b hb e => by simp at hb; omega), by simpa using x5, f4.trans f5 (fun _ _ h => .inl h) (fun _ _ h => .inr h)⟩
/-- What a round keeps. -/
theorem C2.kept {nd lo : Nat} {w0 W W' : World} {P Q : List Sn} {v1 v2 : Value} (h : C2 nd lo nd w0 W P Q v1 v2) (hf : Fr (fun b => b = nd ∨ v1.ownBlock = some b ∨ v2.ownBlock = some b) W W') (hlo : nd < lo) (hsz : lo + 2 ≤ W.heap.size) {F : List Nat} (hF : ∀ b ∈ F, b < nd) :
    KeptR lo (lo + 2) W W' ∧ W.heap.size ≤ W'.heap.size ∧ KeptL F W W' := by
  refine ⟨KeptR.of_fr hf hsz (fun b hb e => ?_), hf.size, KeptL.of_fr hf (fun b hb => ⟨by have := hF b hb; omega, fun e => ?_⟩)⟩
  · have h1 := hb.1; have h2 := hb.2
    rcases e with e | e | e
    · omega
    · have := h.out1 b e; omega
    · have := h.out2 b e; omega
  · have h3 := hF b hb
    rcases e with e | e | e
    · omega
    · have := (ownsRow_blk h.o1 b e).1; omega
    · have := (ownsRow_blk h.o2 b e).1; omega
set_option maxRecDepth 100000 in
set_option maxHeartbeats 4000000 in
theorem Compose_yes (d1 d2 : Dl) (w : World) (h1 : RdD w d1) (h2 : RdD w d2) (l1 : d1.O.length ≤ 500000) (l2 : d1.I.length ≤ 500000) (l3 : d2.O.length ≤ 500000) (l4 : d2.I.length ≤ 500000) (hr1 : rightB d1.O d1.I = true) (hr2 : rightB d2.O d2.I = true) :
    Calls Tryz.prog 19 #[d1.v, d2.v] w (CmpPost (composeP d1.O d1.I d2.O d2.I) w) := by
  have HAp : Hid (composeP d1.O d1.I d2.O d2.I = match cmp (sidesP d1.O d1.I) 0 (sidesP d2.O d2.I) with
    | none => (([], []), 7)
    | some (X, e) => if e = 0 then ((outs X, inns X), 0) else (([], []), e)) := by show _ = _; unfold composeP; rw [hr1, hr2]; rfl
  have kz := kz
  have HK1 : Hid (K0 w ((((w.alloc (.cells d1.arr TDl)).alloc (.cells d2.arr TDl)).alloc (.cells #[.slice none 0 0, .slice none 0 0] TDl)).alloc (.cells #[.int .i64 0] TEr)) w.heap.size d1 d2) := by
    have fa := fun (w : World) (o : Obj) => Fr.alloc (fun _ => False) w o
    have nn : ∀ G : List Nat, ∀ b ∈ G, ¬ False := fun _ _ _ h => h
    have e2 := Bk.new (w.alloc (.cells d1.arr TDl)) d2.arr TDl
    have e3 := Bk.new ((w.alloc (.cells d1.arr TDl)).alloc (.cells d2.arr TDl)) #[.slice none 0 0, .slice none 0 0] TDl
    have e4 := Bk.new (((w.alloc (.cells d1.arr TDl)).alloc (.cells d2.arr TDl)).alloc (.cells #[.slice none 0 0, .slice none 0 0] TDl)) #[.int .i64 0] TEr
    simp only [World.size_alloc] at e2 e3 e4
    exact ⟨(((Bk.new w d1.arr TDl).fr (fa _ _) (nn _)).fr (fa _ _) (nn _)).fr (fa _ _) (nn _), (e2.fr (fa _ _) (nn _)).fr (fa _ _) (nn _), e3.fr (fa _ _) (nn _), e4, ((((h1.keep (fa _ _)).keep (fa _ _)).keep (fa _ _)).keep (fa _ _)), ((((h2.keep (fa _ _)).keep (fa _ _)).keep (fa _ _)).keep (fa _ _)),
      ((((Below.refl _ w).alloc (Nat.le_refl _) _).alloc (by simp) _).alloc (by simp; omega) _).alloc (by simp; omega) _, by simp⟩
  generalize composeP d1.O d1.I d2.O d2.I = res at *
  have HLx : Hid ((sidesP d1.O d1.I).length ≤ 1000000) := by have := sides_len d1.O d1.I; show _ ≤ _; omega
  have HLy : Hid ((sidesP d2.O d2.I).length ≤ 1000000) := by have := sides_len d2.O d2.I; show _ ≤ _; omega
  have HAll := fun w => Lib.hid (fun B => All_any B 0 w)
  obtain ⟨i0, hi, hz0, hz1_, hz2⟩ := info_parts infoS
  clear h1 h2
  refine (callsIn_wide (n := 3)).1 ?_
  refine callsIn_of_wp_marks Tryz.func19 rfl trivial ?_ rfl
  simp only [Tryz.ntmps19, List.size_toArray, List.length_cons, List.length_nil, Nat.reduceAdd, Nat.reduceSub, Array.replicate_succ, Array.replicate_zero, List.push_toArray, List.append_toArray, List.nil_append, List.cons_append]
  refine wpIn_wide.2 ?_
  go_upto_region 1 with (fail)
  generalize ((((w.alloc (.cells d1.arr TDl)).alloc (.cells d2.arr TDl)).alloc (.cells #[.slice none 0 0, .slice none 0 0] TDl)).alloc (.cells #[.int .i64 0] TEr)) = w1 at *
  generalize hn : w.heap.size = n at *
  generalize hr5 : n + 1 + 1 + 1 = r5 at *
  generalize hr4 : n + 1 + 1 = r4 at *
  replace hr5 : n + 1 + 1 + 1 = r5 := by omega
  have e0 : w1.cell? ⟨n, 0, none⟩ = some (.slice d1.A1 d1.O.length d1.c1) := HK1.out.b1.cell 0
  have e1 : w1.cell? ⟨n, 1, none⟩ = some (.slice d1.A2 d1.I.length d1.c2) := HK1.out.b1.cell 1
  go_wp2_with fail
  refine (Right d1 w1 HK1.out.l1 (by omega) (by omega)).mono ?_
  rintro e w2 ⟨rfl, hb⟩
  have HK2 := Lib.hid (HK1.out.below hb)
  clear hb HK1 e0 e1
  rw [hr1]
  have e0 : w2.cell? ⟨n + 1, 0, none⟩ = some (.slice d2.A1 d2.O.length d2.c1) := HK2.out.b2.cell 0
  have e1 : w2.cell? ⟨n + 1, 1, none⟩ = some (.slice d2.A2 d2.I.length d2.c2) := HK2.out.b2.cell 1
  go_wp2_with fail
  refine (Right d2 w2 HK2.out.l2 (by omega) (by omega)).mono ?_
  rintro e w3 ⟨rfl, hb⟩
  have HK3 := Lib.hid (HK2.out.below hb)
  clear hb HK2 e0 e1
  rw [hr2]
  go_upto_region 3 with (fail)
  refine c3 (by kernel_rfl) _ _ w w3 n d1 d2 (by omega) (by omega) (by omega) (by omega) HK3.out rfl rfl rfl ?_
  intro x w4 B1 B2 Bx hk x6 x7
  simp only [Eng.setAll, Act.put, List.setIfInBounds_toArray, List.set_cons_succ, List.set_cons_zero]
  rw [x6, x7]
  clear x6 x7
  generalize sidesP d1.O d1.I = X at *
  generalize sidesP d2.O d2.I = Y at *
  obtain ⟨Ls1, F1, Ls2, F2, hk⟩ := hk
  have HK := Lib.hid hk
  clear hk HK3
  go_wp2_with fail
  refine ((HAll _).out _).mono ?_
  rintro e w5 ⟨rfl, rfl⟩
  go_wp2_with fail
  obtain ⟨Be, hBe⟩ : ∃ Be, Be = w4.heap.size := ⟨_, rfl⟩
  have hs0 : ((w4.alloc (.cells #[.int .i64 0] TEr)).alloc (.cells #[.pointer (some ⟨B2, 0, none⟩)] TPd)).heap.size = w4.heap.size + 2 := by simp
  have hcc : ((w4.alloc (.cells #[.int .i64 0] TEr)).alloc (.cells #[.pointer (some ⟨B2, 0, none⟩)] TPd)).cell? ⟨w4.heap.size + 1, 0, none⟩ = some (.pointer (some ⟨B2, 0, none⟩)) := by
    simp
  have hfa : Fr (fun _ => False) w4 ((w4.alloc (.cells #[.int .i64 0] TEr)).alloc (.cells #[.pointer (some ⟨B2, 0, none⟩)] TPd)) := (Fr.alloc (fun _ => False) _ _).trans (Fr.alloc (fun _ => False) _ _) (fun _ _ h => h) (fun _ _ h => h)
  have hli : LI w ((w4.alloc (.cells #[.int .i64 0] TEr)).alloc (.cells #[.pointer (some ⟨B2, 0, none⟩)] TPd)) n (w4.heap.size + 2) B1 B2 Bx Be X Y 0 Ls1 F1 Ls2 F2 := by
    have hk := HK.out
    have hsz := hk.sz
    have nn : ∀ G : List Nat, ∀ b ∈ G, ¬ False := fun _ _ _ h => h
    have hm1 := hk.m1.lt; have hm2 := hk.m2.lt
    subst hBe
    exact ⟨hk.r4.fr hfa (nn _), hk.r5.fr hfa (nn _), hk.m1.fr hfa (fun h => h) (nn _), hk.q1.fr hfa (Av.false _), hk.m2.fr hfa (fun h => h) (nn _), hk.q2.fr hfa (Av.false _), hk.x.fr hfa (nn _), (Bk.new w4 _ _).fr (Fr.alloc (fun _ => False) _ _) (nn _),
      fun b hb => ⟨hk.lo1 b hb, .inl (by rcases List.mem_cons.1 hb with rfl | hb; omega; have := hm1.2 b hb; omega)⟩, fun b hb => ⟨hk.lo2 b hb, by rcases List.mem_cons.1 hb with rfl | hb; omega; have := hm2.2 b hb; omega⟩, hk.ap,
      (Low.of hk.q1).mono (by omega), (Low.of hk.q2).mono (by omega), by have := lt_of_heap hk.x; omega, ⟨by omega, by omega⟩, by omega, hk.bel.trans (hfa.below (by omega) (fun _ _ h => h)), by simp⟩
  rw [← hBe]
  rw [← hs0] at hli
  generalize hWA : ((w4.alloc (.cells #[.int .i64 0] TEr)).alloc (.cells #[.pointer (some ⟨B2, 0, none⟩)] TPd)) = W0 at *
  have HLi := Lib.hid hli
  have hMP := hli.m2.mapP
  have hFl := hli.lo2
  have n0 : Be + 1 < W0.heap.size := by omega
  rw [← hBe] at hcc hs0
  have HS0 := Lib.hid hs0; have HBe := Lib.hid hBe
  clear hfa hli HK hWA hs0 hBe
  refine (wpIn_wide (n := 3)).1 ?_
  refine range_B (n := 3) (a₁ := ?fr) (gf := 67) (lb := #[.pointer (some ⟨Be + 1, 0, none⟩)]) rfl (enters_of Tryz.func67 (by kernel_rfl) rfl)
    (AvlSD.All_seq F2 (Be + 1) (some ⟨B2, 0, none⟩) Ls2 F2 W0 hcc n0 hMP (fun _ h => h)) (fun b hb => (hFl b (by simp [hb])).2) (fun _ => rfl)
    (fun (pre : List (ByteArray × Sd)) (W : World) => ∃ X' e Ls F, cmp X 0 (Y.take pre.length) = some (X', e) ∧ X'.length ≤ X.length + pre.length ∧ LI w W n W0.heap.size B1 B2 Bx Be X' Y e Ls F Ls2 F2)
    (fun k (pre : List (ByteArray × Sd)) (W : World) => k = .ret ∧ cmp X 0 Y = none ∧ Bk W r4 #[.slice none 0 0, .slice none 0 0] TDl ∧ Bk W r5 #[.int .i64 7] TEr ∧ Below n w W)
    (fun pre A C h hf => by
      obtain ⟨X', e, Ls, F, a, b, c⟩ := h
      exact ⟨X', e, Ls, F, a, b, c.fr hf (fun b hb => ⟨hb.1, by have := hb.2; omega⟩)⟩)
    (fun k pre A C h hf => by
      obtain ⟨a, b, c, d, e⟩ := h
      have := HLi.out.nlo
      exact ⟨a, b, c.fr hf (fun b hb h => by simp at hb; have := h.1; omega), d.fr hf (fun b hb h => by simp at hb; have := h.1; omega), e.trans (hf.below (by have := lt_of_heap c; omega) (fun k hk h => by have := h.1; omega))⟩)
    ⟨X, 0, Ls1, F1, rfl, by simp, HLi.out⟩ (fun x => sdarr x.2) TSd (fun pre W o h hsz => by
      obtain ⟨X', e, Ls, F, a, b, c⟩ := h
      exact ⟨X', e, Ls, F, a, b, c.keep (Fr.alloc _ _ _)⟩) ?assign ?body ?done ?stop
  case assign =>
    intro l m x W b K hb hK
    gi_wp2_with fail
    exact hK
  case body =>
    rintro l m pre x b W ⟨X', e, Ls, F, hc, hlen, hli⟩ hbk hbl hsz hpre rfl ⟨r, hl⟩ hd
    (try dsimp only)
    have hlt : pre.length < Ls2.length := by have := hpre.length_le; rw [List.length_append, List.length_singleton] at this; omega
    have hx : x = Ls2[pre.length] := by
      obtain ⟨t, ht⟩ := hpre
      have h1 : Ls2[pre.length]? = some x := by rw [← ht]; simp
      rw [List.getElem?_eq_getElem hlt] at h1
      exact (Option.some.inj h1).symm
    obtain ⟨hm, hk1, hsd⟩ := hli.q2.at hlt
    rw [← hx] at hk1 hsd
    have hpl : (∀ a, x.2.a = some a → a.block < W0.heap.size) ∧ ∀ a, x.2.b = some a → a.block < W0.heap.size := hli.p2 x (by rw [hx]; exact List.getElem_mem hlt)
    have HSn := Lib.hid (cmp_snoc hc hm)
    have HNo : Hid (cmp X 0 (Y.take (pre.length + 1)) = none → cmp X 0 Y = none) := cmp_none
    clear hpre hx hc
    obtain ⟨k, s⟩ := x
    dsimp only at hk1 hsd hpl hbk ⊢
    generalize Y[pre.length] = y at *
    obtain ⟨k', qs⟩ := y
    dsimp only at hk1 hsd HSn
    subst hk1
    have HLi2 := Lib.hid hli; have HSd := Lib.hid hsd; have HPl := Lib.hid hpl; have HBk := Lib.hid hbk; have HL := Lib.hid hl; have HD := Lib.hid hd; have HSz := Lib.hid hsz; have HLen := Lib.hid hlen; have HBl := Lib.hid hbl
    have HBl2 : Hid (pre.length ≤ Y.length) := Nat.le_of_lt hm
    have HGet := Lib.hid (AvlSD.GetB B1 k Ls F W hli.m1)
    have HR := Lib.hid (hli.q1.get k)
    have HPo := Lib.hid (hli.p1.get k)
    have cx : W.cell? ⟨Bx, 0, none⟩ = some (.pointer (some ⟨B1, 0, none⟩)) := hli.xx.cell 0
    clear hli hsd hpl hbk hl hd hsz hlen hbl hlt hm
    gi_wp2_with fail
    refine ⟨trivial, fun h => (by cases h), CallsIn.inRound _ (callsIn_wide.2 ?_)⟩
    refine HGet.out.mono ?_
    rintro e1 w6 ⟨rfl, hf⟩
    clear HGet cx
    generalize (getL k Ls).getD zs = a at *
    generalize (getL k Ls).isSome = i0 at *
    generalize (getL k X').getD zd = qa at *
    have hf2 := hf.trans (Fr.alloc (fun _ => False) w6 (.cells (sdarr a) TSd)) (T := fun _ => False) (fun _ _ h => h) (fun _ _ h => h)
    have hbo := Bk.new w6 (sdarr a) TSd
    gi_upto_region 9 with (fail)
    generalize (w6.alloc (.cells (sdarr a) TSd)) = w7 at *
    generalize w6.heap.size = Bo at *
    have HF7 := Lib.hid hf2; have HBo := Lib.hid hbo; have HBk7 := Lib.hid (HBk.out.fr hf2 (fun _ _ h => h))
    have HLi7 := Lib.hid (HLi2.out.keep hf2)
    have HSd7 := Lib.hid (HSd.out.fr hf2 (Av.false _)); have HR7 := Lib.hid (HR.out.fr hf2 (Av.false _))
    clear hf hf2 hbo HLi2 HSd HR HBk
    have ca0 : w7.cell? ⟨Bo, 0, none⟩ = some (.bool a.m) := HBo.out.cell 0
    have ca1 : w7.cell? ⟨Bo, 1, none⟩ = some (.pointer a.a) := HBo.out.cell 1
    have ca2 : w7.cell? ⟨Bo, 2, none⟩ = some (.pointer a.b) := HBo.out.cell 2
    have cs0 : w7.cell? ⟨b, 0, none⟩ = some (.bool s.m) := HBk7.out.cell 0
    have cs1 : w7.cell? ⟨b, 1, none⟩ = some (.pointer s.a) := HBk7.out.cell 1
    have cs2 : w7.cell? ⟨b, 2, none⟩ = some (.pointer s.b) := HBk7.out.cell 2
    have HFt := Lib.hid (fits a s qa qs w7 HR7.out HSd7.out)
    gi_wp2_with fail
    refine ⟨trivial, fun h => (by cases h), CallsIn.inRound _ (callsIn_wide.2 ?_)⟩
    refine HFt.out.mono ?_
    rintro e1 w8 ⟨rfl, hf⟩
    have HF8 := Lib.hid (HF7.out.trans hf (T := fun _ => False) (fun _ _ h => h) (fun _ _ h => h))
    have HBo8 := Lib.hid (HBo.out.fr hf (fun _ _ h => h)); have HBk8 := Lib.hid (HBk7.out.fr hf (fun _ _ h => h)); have HLi8 := Lib.hid (HLi7.out.keep hf); have HSd8 := Lib.hid (HSd7.out.fr hf (Av.false _)); have HR8 := Lib.hid (HR7.out.fr hf (Av.false _))
    clear hf HFt HBo HBk7 HLi7 HSd7 HR7 HF7 ca0 ca1 ca2 cs0 cs1 cs2
    have h3 := fits3 qa qs
    generalize fitsP qa qs = ft at *
    have HBeF : Hid (Be ∉ F2) := fun e => map_avT HLi8.out.m2 (T := TEr) (by decide) (by decide) Be _ HLi8.out.ee (.inr e)
    rcases h3 with rfl | rfl | rfl
    · rw [if_neg (by decide), if_pos rfl] at HSn
      gi_upto_region 14 with (fail)
      refine c14 (by kernel_rfl) _ _ _ m w8 w8 B1 Bx Bo b a s k qa qs X' Ls F ⟨HLi8.out.m1, HLi8.out.q1, HLi8.out.xx, HBo8.out, HBk8.out, HR8.out, HSd8.out, Fr.refl _ _⟩ (by rw [HLi8.out.q1.len]; have := HLen.out; have := HLx.out; have := HBl2.out; have := HLy.out; omega) rfl rfl rfl rfl rfl ?_
      intro x w10 h15
      simp only [Eng.setAll, Act.put, List.setIfInBounds_toArray, List.set_cons_succ, List.set_cons_zero]
      obtain ⟨F', hli, hfr⟩ := HLi8.out.turn (by have := HSz.out; have := HF8.out.size; omega) (Low.both HPo.out HPl.out) h15.p
      have HLi10 := Lib.hid hli; have HF10 := Lib.hid (HF8.out.trans hfr (T := fun b => b = Be ∨ b = B1 ∨ b ∈ F) (fun _ _ h => h.elim) (fun _ _ h => .inr h))
      clear h15 hli hfr
      gi_wp2_with fail
      have hlo1 := HLi8.out.lo1; have hap := HLi8.out.ap; have hlo2 := HLi8.out.lo2; have he := HLi8.out.he
      have inF : ∀ q, q = B1 ∨ q ∈ F → q ∈ B1 :: F := fun q e => by rcases e with rfl | e <;> simp [*]
      refine ⟨KeptR.of_fr HF10.out HSz.out (fun q hq e => ?_), HF10.out.size, KeptL.of_fr HF10.out (fun q hq => ⟨by have := hlo2 q (by simp [hq]); have := HSz.out; omega, fun e => ?_⟩), insL k (bothP qa qs) X', e, _, F', ?_, ?_, HLi10.out⟩
      · have h1 := hq.1; have h2 := hq.2
        rcases e with e | e
        · omega
        · have := hlo1 q (inF q e); omega
      · rcases e with e | e
        · exact HBeF.out (e ▸ hq)
        · exact hap q (inF q e) (by simp [hq])
      · rw [List.length_append, List.length_singleton]; exact HSn.out
      · have := insL_len' k (bothP qa qs) X'
        have := HLen.out
        rw [List.length_append, List.length_singleton]; omega
    · rw [if_pos rfl] at HSn
      have c0 : w8.cell? ⟨r4, 0, none⟩ = some (.slice none 0 0) := by rw [← hr4]; exact HLi8.out.r4.cell 0
      have c1 : w8.cell? ⟨r4, 1, none⟩ = some (.slice none 0 0) := by rw [← hr4]; exact HLi8.out.r4.cell 1
      have c5 : w8.cell? ⟨r5, 0, none⟩ = some (.int .i64 0) := by rw [← hr5]; exact HLi8.out.r5.cell 0
      have f0 : w8.frozen? ⟨r4, 0, none⟩ = false := by rw [← hr4]; exact HLi8.out.r4.free 0
      have f1 : w8.frozen? ⟨r4, 1, none⟩ = false := by rw [← hr4]; exact HLi8.out.r4.free 1
      have f5 : w8.frozen? ⟨r5, 0, none⟩ = false := by rw [← hr5]; exact HLi8.out.r5.free 0
      have n45 : ¬ r4 = r5 := by omega
      have n54 : ¬ r5 = r4 := by omega
      obtain ⟨x4, x5, xb, xf⟩ := ret2 HLi8.out.r4 HLi8.out.r5 HLi8.out.bel (by have := HLi8.out.nlo; have := HLi8.out.sz; omega) hr4 hr5 7
      have X4 := Lib.hid x4; have X5 := Lib.hid x5; have XB := Lib.hid xb; have XF := Lib.hid (HF8.out.trans xf (T := fun b => b = r4 ∨ b = r5) (fun _ _ h => h.elim) (fun _ _ h => h))
      have HE := Lib.hid (HNo.out HSn.out)
      clear x4 x5 xb xf
      gi_wp2_with fail
      have hnl := HLi8.out.nlo
      exact ⟨KeptR.of_fr XF.out HSz.out (fun q hq e => by have := hq.1; omega), XF.out.size, rfl, HE.out, X4.out, X5.out, XB.out⟩
    · rw [if_neg (by decide), if_neg (by decide)] at HSn
      have ce : w8.cell? ⟨Be, 0, none⟩ = some (.int .i64 e) := HLi8.out.ee.cell 0
      have fe := HLi8.out.ee.free 0
      have hfe := Fr.setCell w8 ⟨Be, 0, none⟩ (.int .i64 8) (S := fun k => k = Be) rfl
      have hav : ∀ {B : Nat} {c : Array Value} {t : TypeId}, Bk w8 B c t → t ≠ TEr → Bk (w8.setCell ⟨Be, 0, none⟩ (.int .i64 8)) B c t := fun hb ht => hb.fr hfe (fun b hm e => by
        simp at hm; subst hm; rw [e] at hb
        have h2 : w8.heap[Be]? = _ := HLi8.out.ee
        rw [show w8.heap[Be]? = _ from hb] at h2; cases h2; exact ht rfl)
      have havS : Av (fun k => k = Be) w8 := fun b cs hb e => by rw [e, show w8.heap[Be]? = _ from HLi8.out.ee] at hb; cases hb
      gi_upto_region 14 with (fail)
      have HLi9 := Lib.hid (LI.err (W' := w8) HLi8.out 8)
      have HBo9 := Lib.hid (hav HBo8.out (by decide)); have HBk9 := Lib.hid (hav HBk8.out (by decide)); have HR9 := Lib.hid (HR8.out.fr hfe havS); have HSd9 := Lib.hid (HSd8.out.fr hfe havS)
      have HF9 := Lib.hid (HF8.out.trans hfe (T := fun k => k = Be) (fun _ _ h => h.elim) (fun _ _ h => h))
      clear hfe hav havS ce fe
      generalize (w8.setCell ⟨Be, 0, none⟩ (.int .i64 8)) = w9 at *
      refine c14 (by kernel_rfl) _ _ _ m w9 w9 B1 Bx Bo b a s k qa qs X' Ls F ⟨HLi9.out.m1, HLi9.out.q1, HLi9.out.xx, HBo9.out, HBk9.out, HR9.out, HSd9.out, Fr.refl _ _⟩ (by rw [HLi9.out.q1.len]; have := HLen.out; have := HLx.out; have := HBl2.out; have := HLy.out; omega) rfl rfl rfl rfl rfl ?_
      intro x w10 h15
      simp only [Eng.setAll, Act.put, List.setIfInBounds_toArray, List.set_cons_succ, List.set_cons_zero]
      obtain ⟨F', hli, hfr⟩ := HLi9.out.turn (by have := HSz.out; have := HF9.out.size; omega) (Low.both HPo.out HPl.out) h15.p
      have HLi10 := Lib.hid hli; have HF10 := Lib.hid (HF9.out.trans hfr (T := fun b => b = Be ∨ b = B1 ∨ b ∈ F) (fun _ _ h => .inl h) (fun _ _ h => .inr h))
      clear h15 hli hfr
      gi_wp2_with fail
      have hlo1 := HLi9.out.lo1; have hap := HLi9.out.ap; have hlo2 := HLi9.out.lo2; have he := HLi9.out.he
      have inF : ∀ q, q = B1 ∨ q ∈ F → q ∈ B1 :: F := fun q e => by rcases e with rfl | e <;> simp [*]
      refine ⟨KeptR.of_fr HF10.out HSz.out (fun q hq e => ?_), HF10.out.size, KeptL.of_fr HF10.out (fun q hq => ⟨by have := hlo2 q (by simp [hq]); have := HSz.out; omega, fun e => ?_⟩), insL k (bothP qa qs) X', 8, _, F', ?_, ?_, HLi10.out⟩
      · have h1 := hq.1; have h2 := hq.2
        rcases e with e | e
        · omega
        · have := hlo1 q (inF q e); omega
      · rcases e with e | e
        · exact HBeF.out (e ▸ hq)
        · exact hap q (inF q e) (by simp [hq])
      · rw [List.length_append, List.length_singleton]; exact HSn.out
      · have := insL_len' k (bothP qa qs) X'
        have := HLen.out
        rw [List.length_append, List.length_singleton]; omega
  case done =>
    rintro W hsz ⟨X', e, Ls, F, hc, hlen, hli⟩ hK
    have HC : Hid (cmp X 0 Y = some (X', e)) := by show _ = _; rw [← hc, hli.q2.len, List.take_length]
    have HLi9 := Lib.hid hli; have HK := Lib.hid hK
    have hXl : X'.length ≤ 2000000 := by have := HLx.out; have := HLy.out; have := hli.q2.len; omega
    have HXl := Lib.hid hXl
    have ce : W.cell? ⟨Be, 0, none⟩ = some (.int .i64 e) := hli.ee.cell 0
    clear hc hli hK hlen hcc hMP hFl n0 hXl
    rw [HC.out] at HAp
    by_cases he : e = 0
    · subst he
      have HE : Hid (res = ((outs X', inns X'), 0)) := by show _ = _; rw [HAp.out]; rfl
      have cx : (W.alloc (.cells #[.slice none 0 0, .slice none 0 0] TDl)).cell? ⟨Bx, 0, none⟩ = some (.pointer (some ⟨B1, 0, none⟩)) := (HLi9.out.xx.fr (Fr.alloc (fun _ => False) _ _) (fun _ _ h => h)).cell 0
      go_upto_region 18 with (fail)
      go_wp2_with fail
      refine ((HAll _).out _).mono ?_
      rintro e w11 ⟨rfl, rfl⟩
      go_wp2_with fail
      have hs1 : ((W.alloc (.cells #[.slice none 0 0, .slice none 0 0] TDl)).alloc (.cells #[.pointer (some ⟨B1, 0, none⟩)] TPd)).heap.size = W.heap.size + 2 := by simp
      have hcb : ((W.alloc (.cells #[.slice none 0 0, .slice none 0 0] TDl)).alloc (.cells #[.pointer (some ⟨B1, 0, none⟩)] TPd)).cell? ⟨W.heap.size + 1, 0, none⟩ = some (.pointer (some ⟨B1, 0, none⟩)) := by simp
      have hfa : Fr (fun _ => False) W ((W.alloc (.cells #[.slice none 0 0, .slice none 0 0] TDl)).alloc (.cells #[.pointer (some ⟨B1, 0, none⟩)] TPd)) := (Fr.alloc (fun _ => False) _ _).trans (Fr.alloc (fun _ => False) _ _) (fun _ _ h => h) (fun _ _ h => h)
      have hbd : Bk ((W.alloc (.cells #[.slice none 0 0, .slice none 0 0] TDl)).alloc (.cells #[.pointer (some ⟨B1, 0, none⟩)] TPd)) W.heap.size #[.slice none 0 0, .slice none 0 0] TDl := (Bk.new W _ _).fr (Fr.alloc (fun _ => False) _ _) (fun _ _ h => h)
      obtain ⟨nd, hnd⟩ : ∃ nd, nd = W.heap.size := ⟨_, rfl⟩
      have hMP := (HLi9.out.m1.fr hfa (fun h => h) (fun _ _ h => h)).mapP
      have hFl : ∀ b ∈ F, b < nd := fun b hb => by rw [hnd]; exact HLi9.out.m1.lt.2 b hb
      have hC0 : C2 nd ((W.alloc (.cells #[.slice none 0 0, .slice none 0 0] TDl)).alloc (.cells #[.pointer (some ⟨B1, 0, none⟩)] TPd)).heap.size nd W ((W.alloc (.cells #[.slice none 0 0, .slice none 0 0] TDl)).alloc (.cells #[.pointer (some ⟨B1, 0, none⟩)] TPd)) [] [] (.slice none 0 0) (.slice none 0 0) := by
        rw [hnd]
        exact ⟨hbd, World.ownsRow_nil _ _ _ _, World.ownsRow_nil _ _ _ _, fun b hb => by simp [Value.ownBlock] at hb, hfa.below (Nat.le_refl _) (fun _ _ h => h), fun b hb => by simp [Value.ownBlock] at hb, fun b hb => by simp [Value.ownBlock] at hb⟩
      rw [← hnd]
      rw [← hnd] at hs1 hcb
      have hWB : ∃ q, q = ((W.alloc (.cells #[.slice none 0 0, .slice none 0 0] TDl)).alloc (.cells #[.pointer (some ⟨B1, 0, none⟩)] TPd)) := ⟨_, rfl⟩
      generalize ((W.alloc (.cells #[.slice none 0 0, .slice none 0 0] TDl)).alloc (.cells #[.pointer (some ⟨B1, 0, none⟩)] TPd)) = W2 at *
      have HS1 := Lib.hid hs1; have HNd := Lib.hid hnd; have HC0 := Lib.hid hC0; have HFl := Lib.hid hFl
      have n2 : nd + 1 < W2.heap.size := by omega
      clear hfa hbd hs1 hnd hC0 cx ce hWB
      refine (wpIn_wide (n := 3)).1 ?_
      refine range_B (n := 3) (a₁ := ?fr2) (gf := 67) (lb := #[.pointer (some ⟨nd + 1, 0, none⟩)]) rfl (enters_of Tryz.func67 (by kernel_rfl) rfl)
        (AvlSD.All_seq F (nd + 1) (some ⟨B1, 0, none⟩) Ls F W2 hcb n2 hMP (fun _ h => h)) (fun b hb => by have := hFl b hb; omega) (fun _ => rfl)
        (fun (pre : List (ByteArray × Sd)) (W' : World) => (∃ v1 v2, C2 nd W2.heap.size nd W W' (outs (X'.take pre.length)) (inns (X'.take pre.length)) v1 v2) ∧ W2.heap.size ≤ W'.heap.size)
        (fun k (pre : List (ByteArray × Sd)) (W' : World) => False)
        (fun pre A C h hf => by
          obtain ⟨⟨v1, v2, h⟩, hs⟩ := h
          exact ⟨⟨v1, v2, h.abide hf (by omega) (by omega) (by omega)⟩, Nat.le_trans hs hf.size⟩)
        (fun k pre A C h hf => h)
        ⟨⟨_, _, HC0.out⟩, Nat.le_refl _⟩ (fun x => sdarr x.2) TSd (fun pre W' o h hsz => by
          obtain ⟨⟨v1, v2, h⟩, hs⟩ := h
          exact ⟨⟨v1, v2, h.keep (Fr.alloc _ _ _) (by omega)⟩, by simp; omega⟩) ?assign2 ?body2 ?done2 ?stop2
      case assign2 =>
        intro l m x W b K hb hK
        gi_wp2_with fail
        exact hK
      case body2 =>
        rintro l m pre x b Wc ⟨⟨v1, v2, hc2⟩, hsz0⟩ hbk hbl hsz hpre rfl ⟨r, hl⟩ hd
        (try dsimp only)
        have hlt : pre.length < Ls.length := by have := hpre.length_le; rw [List.length_append, List.length_singleton] at this; omega
        have hx : x = Ls[pre.length] := by
          obtain ⟨t, ht⟩ := hpre
          have h1 : Ls[pre.length]? = some x := by rw [← ht]; simp
          rw [List.getElem?_eq_getElem hlt] at h1
          exact (Option.some.inj h1).symm
        have hbel := hc2.bel
        rw [HNd.out] at hbel
        obtain ⟨hm, hk1, hsd⟩ := (HLi9.out.q1.fr (Fr.of_below' hbel (fun _ => False)) (Av.false _)).at hlt
        rw [← hx] at hk1 hsd
        have hpl : (∀ a, x.2.a = some a → a.block < W0.heap.size) ∧ ∀ a, x.2.b = some a → a.block < W0.heap.size := HLi9.out.p1 x (by rw [hx]; exact List.getElem_mem hlt)
        have hW0 : W0.heap.size < nd := by rw [HNd.out]; exact lt_of_heap HK.out
        have HO := Lib.hid (outs_snoc hm); have HI := Lib.hid (inns_snoc hm)
        have hlo : (outs (X'.take pre.length)).length ≤ 2000000 := by have := outs_len (X'.take pre.length); rw [List.length_take] at this; have := HXl.out; omega
        have hli2 : (inns (X'.take pre.length)).length ≤ 2000000 := by have := inns_len (X'.take pre.length); rw [List.length_take] at this; have := HXl.out; omega
        have e1 : (pre ++ [x]).length = pre.length + 1 := by simp
        have HPost : Hid (∀ (W' : World) (v1' v2' : Value), Fr (fun b => b = nd ∨ v1.ownBlock = some b ∨ v2.ownBlock = some b) Wc W' → C2 nd W2.heap.size nd W W' (outs (X'.take (pre.length + 1))) (inns (X'.take (pre.length + 1))) v1' v2' →
            KeptR W2.heap.size (W2.heap.size + 2 + 0) Wc W' ∧ Wc.heap.size ≤ W'.heap.size ∧ KeptL F Wc W' ∧ (∃ v1 v2, C2 nd W2.heap.size nd W W' (outs (X'.take (pre ++ [x]).length)) (inns (X'.take (pre ++ [x]).length)) v1 v2) ∧ W2.heap.size ≤ W'.heap.size) := fun W' v1' v2' hf hc => by
          have h2 := HS1.out
          obtain ⟨g1, g2, g3⟩ := hc2.kept hf (by omega) hsz HFl.out
          exact ⟨g1, g2, g3, ⟨v1', v2', by rw [e1]; exact hc⟩, Nat.le_trans hsz0 g2⟩
        clear hpre hx hbel e1
        generalize (pre ++ [x]) = pre1 at *
        obtain ⟨k, s⟩ := x
        dsimp only at hk1 hsd hpl hbk ⊢
        generalize X'[pre.length] = y at *
        obtain ⟨k', q⟩ := y
        dsimp only at hk1 hsd HO HI
        subst hk1
        obtain ⟨sm, sa, sb⟩ := s
        obtain ⟨qm, qo, qi⟩ := q
        have hpa : PtR Wc sa qo := hsd.a
        have hpb : PtR Wc sb qi := hsd.b
        dsimp only at HO HI hpl
        generalize outs (X'.take pre.length) = P at *
        generalize inns (X'.take pre.length) = Q at *
        generalize outs (X'.take (pre.length + 1)) = P' at *
        generalize inns (X'.take (pre.length + 1)) = Q' at *
        have HC2 := Lib.hid hc2; have HBk := Lib.hid hbk; have HPl := Lib.hid hpl; have HSz := Lib.hid hsz
        clear hsd hc2 hbk hpl hlt hm hl hd
        have hnW : nd ≤ Wc.heap.size := by have := HS1.out; omega
        cases qo with
        | none =>
          obtain rfl : sa = none := hpa
          cases qi with
          | none =>
            obtain rfl : sb = none := hpb
            have eO : P' = P := by rw [HO.out]; simp
            have eI : Q' = Q := by rw [HI.out]; simp
            gi_upto_region 20 with (fail)
            refine c20a (by kernel_rfl) _ _ _ m Wc Wc b sm _ ⟨HBk.out, Fr.refl _ _⟩ rfl rfl ?_
            intro x w9 x84 hst
            simp only [Eng.setAll, Act.put, List.setIfInBounds_toArray, List.set_cons_succ, List.set_cons_zero]
            rw [x84]
            clear x84
            have hc2 := HC2.out.keep hst.f hnW
            have cs1 := hst.bs.cell 1; have cs2 := hst.bs.cell 2
            simp only [List.getElem?_toArray, List.getElem?_cons_zero, List.getElem?_cons_succ] at cs1 cs2
            have HF := Lib.hid hst.f; have HC3 := Lib.hid hc2
            clear hst hc2
            gi_wp2_with fail
            exact HPost.out _ v1 v2 (HF.out.mono (fun _ _ h => h.elim)) (by rw [eO, eI]; exact HC3.out)
          | some v =>
            obtain ⟨bv, rfl, hbv, -⟩ := hpb
            have hbvl := HPl.out.2 _ rfl
            have eO : P' = P := by rw [HO.out]; simp
            have eI : Q' = Q ++ [v] := by rw [HI.out]; simp
            gi_upto_region 20 with (fail)
            refine c20a (by kernel_rfl) _ _ _ m Wc Wc b sm _ ⟨HBk.out, Fr.refl _ _⟩ rfl rfl ?_
            intro x w9 x84 hst
            simp only [Eng.setAll, Act.put, List.setIfInBounds_toArray, List.set_cons_succ, List.set_cons_zero]
            rw [x84]
            clear x84
            have hr : R22 nd W2.heap.size nd b bv W w9 P Q v1 v2 ⟨sm, none, some ⟨bv, 0, none⟩⟩ v := ⟨HC2.out.keep hst.f hnW, hst.bs, hbv.fr hst.f (fun _ _ h => h), Nat.le_trans hnW hst.f.size, Nat.le_trans hsz hst.f.size, Nat.le_refl _, by dsimp only at hbvl; omega⟩
            have cs1 := hst.bs.cell 1; have cs2 := hst.bs.cell 2
            simp only [List.getElem?_toArray, List.getElem?_cons_zero, List.getElem?_cons_succ] at cs1 cs2
            have HF := Lib.hid hst.f; have HR := Lib.hid hr
            clear hst hr
            gi_upto_region 24 with (fail)
            refine c24 (by kernel_rfl) _ _ _ m nd W2.heap.size nd b bv W w9 P Q v1 v2 _ v HR.out rfl (by omega) rfl rfl rfl ?_
            intro x w10 v2' hr2 hf2
            simp only [Eng.setAll, Act.put, List.setIfInBounds_toArray, List.set_cons_succ, List.set_cons_zero]
            have HR2 := Lib.hid hr2; have HF2 := Lib.hid hf2
            clear hr2 hf2
            gi_wp2_with fail
            exact HPost.out _ v1 _ (HF.out.trans HF2.out (fun _ _ h => h.elim) (fun _ _ h => by rcases h with h | h; exact .inl h; exact .inr (.inr h))) (by rw [eO, eI]; exact HR2.out.c)
        | some u =>
          obtain ⟨bu, rfl, hbu, -⟩ := hpa
          have hbul := HPl.out.1 _ rfl
          cases qi with
          | none =>
            obtain rfl : sb = none := hpb
            have eO : P' = P ++ [u] := by rw [HO.out]; simp
            have eI : Q' = Q := by rw [HI.out]; simp
            gi_upto_region 20 with (fail)
            refine c20b (by kernel_rfl) _ _ _ m Wc Wc b sm bu ⟨HBk.out, Fr.refl _ _⟩ rfl rfl ?_
            intro x w9 x84 hst
            simp only [Eng.setAll, Act.put, List.setIfInBounds_toArray, List.set_cons_succ, List.set_cons_zero]
            rw [x84]
            clear x84
            have hr : R22 nd W2.heap.size nd b bu W w9 P Q v1 v2 ⟨sm, some ⟨bu, 0, none⟩, none⟩ u := ⟨HC2.out.keep hst.f hnW, hst.bs, hbu.fr hst.f (fun _ _ h => h), Nat.le_trans hnW hst.f.size, Nat.le_trans hsz hst.f.size, Nat.le_refl _, by dsimp only at hbul; omega⟩
            have cs1 := hst.bs.cell 1
            simp only [List.getElem?_toArray, List.getElem?_cons_zero, List.getElem?_cons_succ] at cs1
            have HF := Lib.hid hst.f; have HR := Lib.hid hr
            clear hst hr
            gi_upto_region 22 with (fail)
            refine c22 (by kernel_rfl) _ _ _ m nd W2.heap.size nd b bu W w9 P Q v1 v2 _ u HR.out rfl (by omega) rfl rfl rfl ?_
            intro x w10 v1' hr2 hf2
            simp only [Eng.setAll, Act.put, List.setIfInBounds_toArray, List.set_cons_succ, List.set_cons_zero]
            have cs2 := hr2.s.cell 2
            simp only [List.getElem?_toArray, List.getElem?_cons_zero, List.getElem?_cons_succ] at cs2
            have HR2 := Lib.hid hr2; have HF2 := Lib.hid hf2
            clear hr2 hf2
            gi_wp2_with fail
            exact HPost.out _ _ v2 (HF.out.trans HF2.out (fun _ _ h => h.elim) (fun _ _ h => by rcases h with h | h; exact .inl h; exact .inr (.inl h))) (by rw [eO, eI]; exact HR2.out.c)
          | some v =>
            obtain ⟨bv, rfl, hbv, -⟩ := hpb
            have hbvl := HPl.out.2 _ rfl
            gi_upto_region 20 with (fail)
            refine c20c (by kernel_rfl) _ _ _ m Wc Wc b sm bu bv u v ⟨HBk.out, hbu, hbv, Fr.refl _ _⟩ rfl rfl ?_
            intro x w9 x84 hst
            simp only [Eng.setAll, Act.put, List.setIfInBounds_toArray, List.set_cons_succ, List.set_cons_zero]
            rw [x84]
            clear x84
            cases heq : eqS u v with
            | true =>
              obtain rfl : u = v := eqS_iff.1 heq
              have eO : P' = P := by rw [HO.out]; simp
              have eI : Q' = Q := by rw [HI.out]; simp
              have HF := Lib.hid hst.f; have HC3 := Lib.hid (HC2.out.keep hst.f hnW)
              clear hst heq hbu hbv
              gi_wp2_with fail
              exact HPost.out _ v1 v2 (HF.out.mono (fun _ _ h => h.elim)) (by rw [eO, eI]; exact HC3.out)
            | false =>
              have hne : ¬ some u = some v := fun e => by rw [eqS_iff.2 (Option.some.inj e)] at heq; cases heq
              have eO : P' = P ++ [u] := by rw [HO.out, if_neg hne]; rfl
              have eI : Q' = Q ++ [v] := by rw [HI.out, if_neg hne]; rfl
              have hr : R22 nd W2.heap.size nd b bu W w9 P Q v1 v2 ⟨sm, some ⟨bu, 0, none⟩, some ⟨bv, 0, none⟩⟩ u := ⟨HC2.out.keep hst.f hnW, hst.bs, hst.u, Nat.le_trans hnW hst.f.size, Nat.le_trans hsz hst.f.size, Nat.le_refl _, by dsimp only at hbul; omega⟩
              have cs1 := hst.bs.cell 1
              simp only [List.getElem?_toArray, List.getElem?_cons_zero, List.getElem?_cons_succ] at cs1
              have HF := Lib.hid hst.f; have HR := Lib.hid hr; have HV := Lib.hid hst.v
              clear hst hr hne heq
              gi_upto_region 22 with (fail)
              refine c22 (by kernel_rfl) _ _ _ m nd W2.heap.size nd b bu W w9 P Q v1 v2 _ u HR.out rfl (by omega) rfl rfl rfl ?_
              intro x w10 v1' hr2 hf2
              simp only [Eng.setAll, Act.put, List.setIfInBounds_toArray, List.set_cons_succ, List.set_cons_zero]
              have cs2 := hr2.s.cell 2
              simp only [List.getElem?_toArray, List.getElem?_cons_zero, List.getElem?_cons_succ] at cs2
              have hv2 := HV.out.fr hf2 (R22.rcd (⟨HR.out.c, HR.out.s, HV.out, HR.out.n, HR.out.lo, HR.out.bd, by dsimp only at hbvl; omega⟩ : R22 nd W2.heap.size nd b bv W w9 P Q v1 v2 ⟨sm, some ⟨bu, 0, none⟩, some ⟨bv, 0, none⟩⟩ v) (.inl rfl))
              have HR2 : Hid (R22 nd W2.heap.size nd b bv W w10 (P ++ [u]) Q v1' v2 ⟨sm, some ⟨bu, 0, none⟩, some ⟨bv, 0, none⟩⟩ v) := ⟨hr2.c, hr2.s, hv2, hr2.n, hr2.lo, hr2.bd, by dsimp only at hbvl; omega⟩
              have HF2 := Lib.hid hf2
              clear hr2 hf2 hv2
              gi_upto_region 24 with (fail)
              refine c24 (by kernel_rfl) _ _ _ m nd W2.heap.size nd b bv W w10 (P ++ [u]) Q v1' v2 _ v HR2.out rfl (by omega) rfl rfl rfl ?_
              intro x w11 v2' hr3 hf3
              simp only [Eng.setAll, Act.put, List.setIfInBounds_toArray, List.set_cons_succ, List.set_cons_zero]
              have HR3 := Lib.hid hr3; have HF3 := Lib.hid hf3
              clear hr3 hf3
              gi_wp2_with fail
              exact HPost.out _ v1' v2' ((HF.out.trans HF2.out (T := fun b => b = nd ∨ v1.ownBlock = some b ∨ v2.ownBlock = some b) (fun _ _ h => h.elim) (fun _ _ h => by rcases h with h | h; exact .inl h; exact .inr (.inl h))).trans HF3.out (fun _ _ h => h) (fun _ _ h => by rcases h with h | h; exact .inl h; exact .inr (.inr h))) (by rw [eO, eI]; exact HR3.out.c)
      case done2 =>
        rintro Wd hszd ⟨⟨v1, v2, hc2⟩, hsz0⟩ hK2
        have eL : Ls.length = X'.length := HLi9.out.q1.len
        rw [eL, List.take_length] at hc2
        have hbel := hc2.bel
        rw [HNd.out] at hbel
        have hfW := Fr.of_below' hbel (fun _ => False)
        have hnl := HLi9.out.nlo
        have hW0 : W0.heap.size < nd := by rw [HNd.out]; exact lt_of_heap HK.out
        have b4 := HLi9.out.r4.fr hfW (fun _ _ h => h); have b5 := HLi9.out.r5.fr hfW (fun _ _ h => h)
        have hdd := (hfW.block _ (lt_of_heap HK.out) (fun h => h)).trans HK.out
        obtain ⟨A1, k1, rfl, s1, a1⟩ := Sl.of_own hc2.o1
        obtain ⟨A2, k2, rfl, s2, a2⟩ := Sl.of_own hc2.o2
        have cd0 : Wd.cell? ⟨nd, 0, none⟩ = some (.slice A1 (outs X').length k1) := hc2.b.cell 0
        have cd1 : Wd.cell? ⟨nd, 1, none⟩ = some (.slice A2 (inns X').length k2) := hc2.b.cell 1
        have c0 : Wd.cell? ⟨r4, 0, none⟩ = some (.slice none 0 0) := by rw [← hr4]; exact b4.cell 0
        have c1 : Wd.cell? ⟨r4, 1, none⟩ = some (.slice none 0 0) := by rw [← hr4]; exact b4.cell 1
        have c5 : Wd.cell? ⟨r5, 0, none⟩ = some (.int .i64 0) := by rw [← hr5]; exact b5.cell 0
        have f0 : Wd.frozen? ⟨r4, 0, none⟩ = false := by rw [← hr4]; exact b4.free 0
        have f1 : Wd.frozen? ⟨r4, 1, none⟩ = false := by rw [← hr4]; exact b4.free 1
        have f5 : Wd.frozen? ⟨r5, 0, none⟩ = false := by rw [← hr5]; exact b5.free 0
        have n45 : ¬ r4 = r5 := by omega
        have n54 : ¬ r5 = r4 := by omega
        obtain ⟨x4, x5, xf⟩ := ret3 (u1 := .slice A1 (outs X').length k1) (u2 := .slice A2 (inns X').length k2) b4 b5 hr4 hr5 0
        have hok := (HLi9.out.q1.fr hfW (Av.false _)).ok
        have HX4 := Lib.hid x4; have HX5 := Lib.hid x5; have HXf := Lib.hid xf; have HS1a := Lib.hid s1; have HS2a := Lib.hid s2; have HA1 := Lib.hid a1; have HA2 := Lib.hid a2; have HC2 := Lib.hid hc2; have HK2 := Lib.hid hK2; have HDD := Lib.hid hdd; have HOk := Lib.hid hok
        clear x4 x5 xf s1 s2 a1 a2 hc2 hK2 hdd b4 b5 hfW hbel hMP hcb n2 hok eL
        go_wp2_with fail
        have h2 := HS1.out
        have g1 : (((Wd.setCell ⟨r4, 0, none⟩ (.slice A1 (outs X').length k1)).setCell ⟨r4, 1, none⟩ (.slice A2 (inns X').length k2)).setCell ⟨r5, 0, none⟩ (.int .i64 0)).heap[W2.heap.size]? = some (.deferred (some [])) := (HXf.out.block _ (lt_of_heap HK2.out) (fun e => by omega)).trans HK2.out
        have g2 : (((Wd.setCell ⟨r4, 0, none⟩ (.slice A1 (outs X').length k1)).setCell ⟨r4, 1, none⟩ (.slice A2 (inns X').length k2)).setCell ⟨r5, 0, none⟩ (.int .i64 0)).heap[W0.heap.size]? = some (.deferred (some [])) := (HXf.out.block _ (lt_of_heap HDD.out) (fun e => by omega)).trans HDD.out
        generalize (((Wd.setCell ⟨r4, 0, none⟩ (.slice A1 (outs X').length k1)).setCell ⟨r4, 1, none⟩ (.slice A2 (inns X').length k2)).setCell ⟨r5, 0, none⟩ (.int .i64 0)) = Wf at *
        have hp1 := Fr.putObj Wf W2.heap.size (.deferred none) (S := (· = W2.heap.size)) rfl
        have g3 := (hp1.block _ (lt_of_heap g2) (fun e => by omega)).trans g2
        have hp2 := Fr.putObj (Wf.putObj W2.heap.size (.deferred none)) W0.heap.size (.deferred none) (S := (· = W0.heap.size)) rfl
        have hp : Fr (fun b => b = W2.heap.size ∨ b = W0.heap.size) Wf ((Wf.putObj W2.heap.size (.deferred none)).putObj W0.heap.size (.deferred none)) := hp1.trans hp2 (fun _ _ h => .inl h) (fun _ _ h => .inr h)
        have hall : Fr (fun b => b = r4 ∨ b = r5 ∨ b = W2.heap.size ∨ b = W0.heap.size) Wd ((Wf.putObj W2.heap.size (.deferred none)).putObj W0.heap.size (.deferred none)) := HXf.out.trans hp (fun _ _ h => by rcases h with h | h; exact .inl h; exact .inr (.inl h)) (fun _ _ h => by rcases h with h | h; exact .inr (.inr (.inl h)); exact .inr (.inr (.inr h)))
        have q4 := HX4.out.fr hp (fun b hb e => by simp at hb; omega)
        have q5 := HX5.out.fr hp (fun b hb e => by simp at hb; omega)
        have ap : ∀ b, nd ≤ b → (b < W2.heap.size ∨ W2.heap.size + 2 ≤ b) → ¬ (b = r4 ∨ b = r5 ∨ b = W2.heap.size ∨ b = W0.heap.size) := fun b h1 h2 e => by omega
        have z1 : SetF.Ls ((Wf.putObj W2.heap.size (.deferred none)).putObj W0.heap.size (.deferred none)) A1 k1 (outs X') := ⟨HS1a.out.fr hall (fun a ha => ap _ (HA1.out a ha).1 (HC2.out.out1 _ (HA1.out a ha).2.1)), fun x hx => by
          obtain ⟨p, hp, he⟩ := List.mem_filterMap.1 hx
          split at he
          · cases he
          · exact (HOk.out p hp).1 x he⟩
        have z2 : SetF.Ls ((Wf.putObj W2.heap.size (.deferred none)).putObj W0.heap.size (.deferred none)) A2 k2 (inns X') := ⟨HS2a.out.fr hall (fun a ha => ap _ (HA2.out a ha).1 (HC2.out.out2 _ (HA2.out a ha).2.1)), fun x hx => by
          obtain ⟨p, hp, he⟩ := List.mem_filterMap.1 hx
          split at he
          · cases he
          · exact (HOk.out p hp).2 x he⟩
        have hnd2 := HNd.out
        have zb : Below n w ((Wf.putObj W2.heap.size (.deferred none)).putObj W0.heap.size (.deferred none)) := (HLi9.out.bel.trans (HC2.out.bel.mono (by omega))).trans (hall.below (by have := HC2.out.bel.size; have := HLi9.out.sz; omega) (fun k hk e => by omega))
        refine ⟨by simp, .inl ⟨_, _, rfl, run_takeDeferred g1, ?_⟩⟩
        refine ⟨by simp, .inl ⟨_, _, rfl, run_takeDeferred g3, ?_⟩⟩
        refine ⟨_, results_row_cell rfl _ _ r4 r5 TDl _ (.int .i64 0) _ rfl rfl q4 Tryz.underlying24 rfl (by kernel_rfl) (loadEr q5), ?_⟩
        rw [HE.out]
        exact ⟨A1, k1, A2, k2, rfl, ⟨z1, z2⟩, by rw [hn]; exact zb⟩
      case stop2 =>
        rintro k pre W hsz hpre hF hK
        exact hF.elim
    · have HE : Hid (res = (([], []), e)) := by show _ = _; rw [HAp.out]; exact if_neg he
      have q1 : (e == 0) = false := by simpa using he
      go_upto_region 16 with (fail)
      refine c16 (by kernel_rfl) _ _ W W Be r4 r5 e (by have := HLi9.out.he; omega) ⟨HLi9.out.ee, by rw [← hr4]; exact HLi9.out.r4, by rw [← hr5]; exact HLi9.out.r5, Fr.refl _ _⟩ rfl rfl rfl rfl ?_
      intro x w10 h16
      simp only [Eng.setAll, Act.put, List.setIfInBounds_toArray, List.set_cons_succ, List.set_cons_zero]
      have H16 := Lib.hid h16
      clear h16 ce
      go_wp2_with fail
      have hb16 := H16.out.b4; have hf16 := H16.out.f
      have hd16 := (hf16.block _ (lt_of_heap HK.out) (fun e => by have := HLi9.out.nlo; omega)).trans HK.out
      have hfp := Fr.putObj w10 W0.heap.size (.deferred none) (S := (· = W0.heap.size)) rfl
      have hnl := HLi9.out.nlo
      have hb2 : Below n w (w10.putObj W0.heap.size (.deferred none)) := (HLi9.out.bel.trans (hf16.below (by have := HLi9.out.sz; omega) (fun k hk e => by omega))).trans (hfp.below (by have := hf16.size; have := HLi9.out.sz; omega) (fun k hk e => by omega))
      refine ⟨by simp, .inl ⟨_, _, rfl, run_takeDeferred hd16, ?_⟩⟩
      exact ⟨_, results_row_cell rfl _ _ r4 r5 TDl _ (.int .i64 e) _ rfl rfl (H16.out.b4.fr hfp (fun b hb e => by simp at hb; omega)) Tryz.underlying24 rfl (by kernel_rfl) (loadEr (H16.out.b5.fr hfp (fun b hb e => by simp at hb; omega))), cmp_end HE.out hn.symm hb2⟩
  case stop =>
    rintro k pre W hsz hpre ⟨rfl, hno, h4, h5, hb⟩ hK
    have HE : Hid (res = (([], []), 7)) := by show _ = _; rw [HAp.out, hno]
    have H4 := Lib.hid h4; have H5 := Lib.hid h5; have HB := Lib.hid hb; have HK := Lib.hid hK
    clear hno h4 h5 hb hK hcc hMP hFl n0
    refine (wpIn_wide (n := 3)).2 ?_
    go_wp2_with fail
    have hfp := Fr.putObj W W0.heap.size (.deferred none) (S := (· = W0.heap.size)) rfl
    have hnl := HLi.out.nlo
    have hb2 : Below n w (W.putObj W0.heap.size (.deferred none)) := HB.out.trans (hfp.below (by have := lt_of_heap H4.out; omega) (fun k hk e => by omega))
    refine ⟨by simp, .inl ⟨_, _, rfl, run_takeDeferred HK.out, ?_⟩⟩
    exact ⟨_, results_row_cell rfl _ _ r4 r5 TDl _ (.int .i64 7) _ rfl rfl (H4.out.fr hfp (fun b hb e => by simp at hb; omega)) Tryz.underlying24 rfl (by kernel_rfl) (loadEr (H5.out.fr hfp (fun b hb e => by simp at hb; omega))), cmp_end HE.out hn.symm hb2⟩
/-- What two deltas come to. -/
theorem Compose (d1 d2 : Dl) (w : World) (h1 : RdD w d1) (h2 : RdD w d2) (l1 : d1.O.length ≤ 500000) (l2 : d1.I.length ≤ 500000) (l3 : d2.O.length ≤ 500000) (l4 : d2.I.length ≤ 500000) :
    Calls Tryz.prog 19 #[d1.v, d2.v] w (CmpPost (composeP d1.O d1.I d2.O d2.I) w) := by
  cases hr1 : rightB d1.O d1.I with
  | false => exact Compose_no1 d1 d2 w h1 h2 l1 l2 l3 l4 hr1
  | true => cases hr2 : rightB d2.O d2.I with
    | false => exact Compose_no2 d1 d2 w h1 h2 l1 l2 l3 l4 hr1 hr2
    | true => exact Compose_yes d1 d2 w h1 h2 l1 l2 l3 l4 hr1 hr2
end Comp
end Go.Proofs.YtkhhdadlpilbmaaGreat
