/- Shapes: Shape, Of, and the greatest numbers. -/
import Derived.Test.YtgfjpnpbkkadpaaGreatSh2
namespace Go.Proofs.YtgfjpnpbkkadpaaGreat
open Go.RowKit
namespace Shape
open BagP Bag ShapeP Fm
attribute [local go_sem] Eng.ev Eng.getO_cons Eng.getO_nil
abbrev TSp : TypeId := 108
/-- A shape's value. -/
abbrev sha (x : Shp) (A1 A2 : Option Addr) (c1 c2 : Nat) : Array Value := #[.int .i64 x.n, .int .i64 x.r, .int .i64 x.o, .int .i64 x.c, .slice A1 x.D.length c1, .slice A2 x.F.length c2]
abbrev shv (x : Shp) (A1 A2 : Option Addr) (c1 c2 : Nat) : Value := .agg (sha x A1 A2 c1 c2)
/-- Counts in a slice. -/
abbrev Cs (w : World) (A : Option Addr) (c : Nat) (L : List (Int × Int)) : Prop := Sl w 2 A L.length c (L.flatMap pc)
/-- A view, for reading. -/
structure RV (w : World) (B : Nat) (c : Array Value) (mc : Option Nat) (l : List K3) (L1 L2 : List (Int × Int)) (G1 G2 : List Nat) : Prop where
  d : BagIn w B 2 c TV L1 G1
  f : BagIn w B 5 c TV L2 G2
  dl : Dep l L1
  fl : Fan l L2
  c1 : c[1]? = some (.map mc)
  m : (mc = none ∧ l = []) ∨ ∃ r n, mc = some r ∧ FM TI iv wfI w r n (fun x => cn (cls x) l)
theorem VB.rv {w : World} {B n : Nat} {l : List K3} {F : List Nat} (h : VB w B n l F) : ∃ c mc L1 L2 G1 G2, RV w B c mc l L1 L2 G1 G2 := by
  rcases h with ⟨h1, rfl, h3⟩ | ⟨rk, rc, c, L1, L2, G1, G2, h, -⟩
  · exact ⟨zeroV, none, [], [], [], [], ⟨h1, ⟨none, rfl, rfl, rfl, AvlII.MapIn.nil _, fun p h => by simp at h, by simp [sumL]⟩, by simp⟩, ⟨h1, ⟨none, rfl, rfl, rfl, AvlII.MapIn.nil _, fun p h => by simp at h, by simp [sumL]⟩, by simp⟩, IsBag.nil, IsBag.nil, rfl, .inl ⟨rfl, rfl⟩⟩
  · exact ⟨c, some rc, L1, L2, G1, G2, ⟨h.blk, h.d, h.ap.b1⟩, ⟨h.blk, h.f, h.ap.b2⟩, h.dl, h.fl, h.c1, .inr ⟨rc, n, rfl, h.cm⟩⟩
section
variable {w0 w w' : World} {B : Nat} {c : Array Value} {mc : Option Nat} {l : List K3} {L1 L2 : List (Int × Int)} {G1 G2 : List Nat}
theorem RV.fr (h : RV w B c mc l L1 L2 G1 G2) (hf : Fr (fun _ => False) w w') : RV w' B c mc l L1 L2 G1 G2 := by
  refine ⟨h.d.fr hf (fun _ _ h => h), h.f.fr hf (fun _ _ h => h), h.dl, h.fl, h.c1, ?_⟩
  rcases h.m with h | ⟨r, n, e, h⟩
  · exact .inl h
  · exact .inr ⟨r, n, e, h.fr hf (fun _ _ h => h)⟩
theorem RV.look (h : RV w B c mc l L1 L2 G1 G2) {x m : Int} (hx : wfI x) (hm : cn (cls x) l = m) : (Instr.lookup TMI (.map mc) (.int .i64 x) false).run Tryz.prog w = .ok (.int .i64 m) w := by
  rw [← hm]
  rcases h.m with ⟨rfl, rfl⟩ | ⟨r, n, rfl, hq⟩
  · exact Fm.look_none KI uMI hx
  · exact hq.look KI uMI hx
/-- Since w0 the view stands as it did; beside: the result's cells, and counts that have been given. -/
structure SS (w0 w : World) (B : Nat) (c : Array Value) (mc : Option Nat) (l : List K3) (L1 L2 : List (Int × Int)) (G1 G2 : List Nat) (Br : Nat) (v : Array Value) (X : List (Option Addr × Nat × List (Int × Int))) : Prop where
  h : RV w B c mc l L1 L2 G1 G2
  b : Bk w Br v TSp
  f : Fr (fun _ => False) w0 w
  n : w0.heap.size ≤ Br
  ne : ∀ b, b < w0.heap.size → b ≠ Br
  x : ∀ s ∈ X, Cs w s.1 s.2.1 s.2.2 ∧ ∀ a, s.1 = some a → w0.heap.size ≤ a.block ∧ a.block ≠ Br ∧ a.block < w.heap.size
variable {Br : Nat} {v : Array Value} {X : List (Option Addr × Nat × List (Int × Int))}
theorem SS.fr (h : SS w0 w B c mc l L1 L2 G1 G2 Br v X) (hf : Fr (fun _ => False) w w') : SS w0 w' B c mc l L1 L2 G1 G2 Br v X :=
  ⟨h.h.fr hf, h.b.fr hf (fun _ _ h => h), h.f.trans hf (fun _ _ h => h) (fun _ _ h => h), h.n, h.ne, fun s hs => ⟨(h.x s hs).1.fr hf (fun _ _ h => h), fun a ha => ⟨((h.x s hs).2 a ha).1, ((h.x s hs).2 a ha).2.1, Nat.lt_of_lt_of_le ((h.x s hs).2 a ha).2.2 hf.size⟩⟩⟩
theorem SS.len (h : SS w0 w B c mc l L1 L2 G1 G2 Br v X) {m : Int} (hm : sumL L2 = m) : Calls Tryz.prog 105 #[.pointer (some ⟨B, 5, none⟩)] w fun e w' => e = .returned (.int .i64 m) ∧ w = w' := by
  rw [← hm]; exact Bag.Len B 5 c TV L2 G2 w h.h.f
theorem SS.counts (h : SS w0 w B c mc l L1 L2 G1 G2 Br v X) (w1 : World) (A : Option Addr) (cc : Nat) (L : List (Int × Int)) (hown : w1.ownsRow w.heap.size TC 2 (.slice A L.length cc) L.length (L.flatMap pc)) (hb : Below w.heap.size w w1) :
    SS w0 w1 B c mc l L1 L2 G1 G2 Br v (X ++ [(A, cc, L)]) := by
  obtain ⟨A', c', e, hS, hA⟩ := Sl.of_own hown
  cases e
  have h' := h.fr (Fr.of_below' hb _)
  have hlt := lt_of_heap h.b
  refine ⟨h'.h, h'.b, h'.f, h'.n, h'.ne, fun s hs => ?_⟩
  rcases List.mem_append.1 hs with hs | hs
  · exact h'.x s hs
  · obtain rfl := List.mem_singleton.1 hs
    exact ⟨hS, fun a ha => by have h1 := hA a ha; have h2 := h.f.size; exact ⟨by omega, by omega, h1.2.2⟩⟩
theorem SS.countsD (h : SS w0 w B c mc l L1 L2 G1 G2 Br v X) (hl : l.length < 1000000) : Calls Tryz.prog 64 #[.pointer (some ⟨B, 2, none⟩)] w fun e w' => ∃ A cc, e = .returned (.slice A L1.length cc) ∧ SS w0 w' B c mc l L1 L2 G1 G2 Br v (X ++ [(A, cc, L1)]) := by
  refine (Bag.Counts B 2 c TV L1 G1 w h.h.d (by have := h.h.dl.len; omega)).mono ?_
  rintro e w' ⟨v', rfl, hown, hb⟩
  obtain ⟨A, cc, rfl, -, -⟩ := Sl.of_own hown
  exact ⟨A, cc, rfl, h.counts w' A cc L1 hown hb⟩
theorem SS.countsF (h : SS w0 w B c mc l L1 L2 G1 G2 Br v X) (hl : l.length < 1000000) : Calls Tryz.prog 64 #[.pointer (some ⟨B, 5, none⟩)] w fun e w' => ∃ A cc, e = .returned (.slice A L2.length cc) ∧ SS w0 w' B c mc l L1 L2 G1 G2 Br v (X ++ [(A, cc, L2)]) := by
  refine (Bag.Counts B 5 c TV L2 G2 w h.h.f (by have := h.h.fl.len; omega)).mono ?_
  rintro e w' ⟨v', rfl, hown, hb⟩
  obtain ⟨A, cc, rfl, -, -⟩ := Sl.of_own hown
  exact ⟨A, cc, rfl, h.counts w' A cc L2 hown hb⟩
theorem RV.frS {S : Nat → Prop} (h : RV w B c mc l L1 L2 G1 G2) (hf : Fr S w w') (hs : ∀ b, b < w0.heap.size → ¬ S b) (h0 : Fr (fun _ => False) w0 w) (hB : B < w0.heap.size) (h1 : ∀ b ∈ G1, b < w0.heap.size) (h2 : ∀ b ∈ G2, b < w0.heap.size) (hr : ∀ r, mc = some r → r < w0.heap.size) : RV w' B c mc l L1 L2 G1 G2 := by
  refine ⟨h.d.fr hf (fun b hb => hs b ?_), h.f.fr hf (fun b hb => hs b ?_), h.dl, h.fl, h.c1, ?_⟩
  · rcases List.mem_cons.1 hb with rfl | hb
    · exact hB
    · exact h1 b hb
  · rcases List.mem_cons.1 hb with rfl | hb
    · exact hB
    · exact h2 b hb
  · rcases h.m with h | ⟨r, n, e, h⟩
    · exact .inl h
    · exact .inr ⟨r, n, e, h.fr hf (fun b hb => hs b (by simp at hb; subst hb; exact hr _ e))⟩
/-- The cells of the result are written. -/
theorem SS.put {a0 a1 a2 a3 a4 a5 : Value} (h : SS w0 w B c mc l L1 L2 G1 G2 Br #[a0, a1, a2, a3, a4, a5] X) (h0 : RV w0 B c mc l L1 L2 G1 G2) (v0 v1 v2 v3 v4 v5 : Value) :
    SS w0 ((((((w.setCell ⟨Br, 0, none⟩ v0).setCell ⟨Br, 1, none⟩ v1).setCell ⟨Br, 2, none⟩ v2).setCell ⟨Br, 3, none⟩ v3).setCell ⟨Br, 4, none⟩ v4).setCell ⟨Br, 5, none⟩ v5) B c mc l L1 L2 G1 G2 Br #[v0, v1, v2, v3, v4, v5] X := by
  have hb : Bk ((((((w.setCell ⟨Br, 0, none⟩ v0).setCell ⟨Br, 1, none⟩ v1).setCell ⟨Br, 2, none⟩ v2).setCell ⟨Br, 3, none⟩ v3).setCell ⟨Br, 4, none⟩ v4).setCell ⟨Br, 5, none⟩ v5) Br #[v0, v1, v2, v3, v4, v5] TSp := (((((h.b.set 0 v0).set 1 v1).set 2 v2).set 3 v3).set 4 v4).set 5 v5
  have fs : ∀ (w : World) (o : Nat) (u : Value), Fr (· = Br) w (w.setCell ⟨Br, o, none⟩ u) := fun w o u => Fr.setCell w ⟨Br, o, none⟩ u rfl
  have tr : ∀ {a b d : World}, Fr (· = Br) a b → Fr (· = Br) b d → Fr (· = Br) a d := fun h k => h.trans k (fun _ _ h => h) (fun _ _ h => h)
  have ff := tr (tr (tr (tr (tr (fs w 0 v0) (fs _ 1 v1)) (fs _ 2 v2)) (fs _ 3 v3)) (fs _ 4 v4)) (fs _ 5 v5)
  generalize ((((((w.setCell ⟨Br, 0, none⟩ v0).setCell ⟨Br, 1, none⟩ v1).setCell ⟨Br, 2, none⟩ v2).setCell ⟨Br, 3, none⟩ v3).setCell ⟨Br, 4, none⟩ v4).setCell ⟨Br, 5, none⟩ v5) = W at *
  refine ⟨?_, hb, h.f.trans ff (fun _ _ h => h) (fun i hi e => by have := h.n; omega), h.n, h.ne, fun s hs => ?_⟩
  · refine h.h.frS (w0 := w0) ff h.ne h.f (h0.d.lt B (by simp)) (fun b hb => h0.d.lt b (by simp [hb])) (fun b hb => h0.f.lt b (by simp [hb])) (fun r e => ?_)
    rcases h0.m with ⟨e', -⟩ | ⟨r', n, e', hm⟩
    · rw [e'] at e; cases e
    · rw [e'] at e; cases e; exact hm.lt
  · obtain ⟨h1, h2⟩ := h.x s hs
    exact ⟨h1.fr ff (fun a ha e => (h2 a ha).2.1 e), fun a ha => ⟨(h2 a ha).1, (h2 a ha).2.1, Nat.lt_of_lt_of_le (h2 a ha).2.2 ff.size⟩⟩
end
set_option maxRecDepth 100000 in
set_option maxHeartbeats 1000000 in
theorem s3 {ops : Array Oper} (hops : Eng.fnOps Tryz.f52 3 = ops) (a0 : Act) (Q : Exit → Act → World → Prop) (w0 w : World) (B : Nat) (c : Array Value) (mc : Option Nat) (l : List K3) (L1 L2 : List (Int × Int)) (G1 G2 : List Nat) (Br : Nat) (hst : SS w0 w B c mc l L1 L2 G1 G2 Br #[.int .i64 0, .int .i64 0, .int .i64 0, .int .i64 0, .slice none 0 0, .slice none 0 0] []) (h0 : RV w0 B c mc l L1 L2 G1 G2) (hl : l.length < 1000000) (n r o y : Int) (hn_ : Hid (sumL L2 = n)) (hr : Hid (cn (cls 1) l = r)) (ho : Hid (cn (cls 2) l = o)) (hy : Hid (cn (cls 3) l = y))
    (hn : a0.tmps.size = 34) (h_0 : a0.tmps.getD 0 undef = .pointer (some ⟨B, 0, none⟩)) (h_2 : a0.tmps.getD 2 undef = .pointer (some ⟨Br, 0, none⟩))
    (hpost : ∀ (x : Nat → Value) (w' : World) (A1 : Option Addr) (e1 : Nat) (A2 : Option Addr) (e2 : Nat), SS w0 w' B c mc l L1 L2 G1 G2 Br #[.int .i64 n, .int .i64 r, .int .i64 o, .int .i64 y, .slice A1 L1.length e1, .slice A2 L2.length e2] [(A1, e1, L1), (A2, e2, L2)] → Q .normal (Eng.setAll a0 [6, 7, 8, 9, 10, 11, 12, 13, 14, 15, 16, 17, 18, 19, 20, 21, 22, 23, 24, 25, 26, 27, 28, 29, 30, 31, 32, 33] x) w') :
    (Code.region 3 ops true).wp Tryz.prog Q a0 w := by
  simp only [Eng.fnOps, Eng.regOps, Tryz.f52, Option.bind_some, Option.getD_some, Nat.reduceEqDiff, ↓reduceIte, Nat.reduceBEq] at hops
  subst hops
  have HSt := Lib.hid (hst.fr (Fr.drew _ _))
  have hSS : w.drew.cell? ⟨B, 1, none⟩ = some (.map mc) ∧ (Instr.lookup TMI (.map mc) (.int .i64 1) false).run Tryz.prog w.drew = .ok (.int .i64 r) w.drew ∧ (Instr.lookup TMI (.map mc) (.int .i64 2) false).run Tryz.prog w.drew = .ok (.int .i64 o) w.drew ∧ (Instr.lookup TMI (.map mc) (.int .i64 3) false).run Tryz.prog w.drew = .ok (.int .i64 y) w.drew ∧ w.drew.frozen? ⟨Br, 0, none⟩ = false ∧ w.drew.frozen? ⟨Br, 1, none⟩ = false ∧ w.drew.frozen? ⟨Br, 2, none⟩ = false ∧ w.drew.frozen? ⟨Br, 3, none⟩ = false ∧ w.drew.frozen? ⟨Br, 4, none⟩ = false ∧ w.drew.frozen? ⟨Br, 5, none⟩ = false := ⟨(HSt.out.h.d.1.cell 1).trans HSt.out.h.c1, HSt.out.h.look (wf_small (by omega) (by omega)) hr.out, HSt.out.h.look (wf_small (by omega) (by omega)) ho.out, HSt.out.h.look (wf_small (by omega) (by omega)) hy.out, HSt.out.b.free 0, HSt.out.b.free 1, HSt.out.b.free 2, HSt.out.b.free 3, HSt.out.b.free 4, HSt.out.b.free 5⟩
  refine Eng.regionN [(0, true), (1, true), (2, true), (4, true), (5, true), (6, true), (7, true), (8, true), (9, true), (10, true), (11, true), (12, true), (13, true), (14, true), (15, true), (16, true), (17, true), (18, true), (19, true), (20, true), (21, true), (23, true), (24, true), (25, true), (3, false), (22, false), (26, false), (27, true), (28, false)] (fun w' => w'.cell? ⟨B, 1, none⟩ = some (.map mc) ∧ (Instr.lookup TMI (.map mc) (.int .i64 1) false).run Tryz.prog w' = .ok (.int .i64 r) w' ∧ (Instr.lookup TMI (.map mc) (.int .i64 2) false).run Tryz.prog w' = .ok (.int .i64 o) w' ∧ (Instr.lookup TMI (.map mc) (.int .i64 3) false).run Tryz.prog w' = .ok (.int .i64 y) w' ∧ w'.frozen? ⟨Br, 0, none⟩ = false ∧ w'.frozen? ⟨Br, 1, none⟩ = false ∧ w'.frozen? ⟨Br, 2, none⟩ = false ∧ w'.frozen? ⟨Br, 3, none⟩ = false ∧ w'.frozen? ⟨Br, 4, none⟩ = false ∧ w'.frozen? ⟨Br, 5, none⟩ = false) (by kernel_rfl) 34 hn (by kernel_rfl) rfl (by kernel_rfl) (hSS) (fun a b ha hb => ?_)
  subst ha
  have hb0 : b 0 = .pointer (some ⟨B, 0, none⟩) := (hb 0).symm.trans h_0
  have hb2 : b 2 = .pointer (some ⟨Br, 0, none⟩) := (hb 2).symm.trans h_2
  clear hb h_0 h_2
  have HP := Lib.hid hpost; have HN := Lib.hid hn
  clear hpost hn
  refine Eng.Sch.take (v := ?_) rfl rfl (by decide) (by kernel_rfl) (fun w hw => ?_) ?_
  rotate_left
  · (try dsimp only at hw); go_simp; first | done | with_reducible rfl
  refine Eng.Sch.take (v := ?_) rfl rfl (by decide) (by kernel_rfl) (fun w hw => ?_) ?_
  rotate_left
  · (try dsimp only at hw); go_simp; first | done | with_reducible rfl
  refine Eng.Sch.take (v := ?_) rfl rfl (by decide) (by kernel_rfl) (fun w hw => ?_) ?_
  rotate_left
  · (try dsimp only at hw); go_simp; first | done | with_reducible rfl
  refine Eng.Sch.take (v := ?_) rfl rfl (by decide) (by kernel_rfl) (fun w hw => ?_) ?_
  rotate_left
  · (try dsimp only at hw); go_simp; first | done | with_reducible rfl
  refine Eng.Sch.take (v := ?_) rfl rfl (by decide) (by kernel_rfl) (fun w hw => ?_) ?_
  rotate_left
  · (try dsimp only at hw); go_simp; first | done | with_reducible rfl
  refine Eng.Sch.take (v := ?_) rfl rfl (by decide) (by kernel_rfl) (fun w hw => ?_) ?_
  rotate_left
  · (try dsimp only at hw); go_simp; first | done | with_reducible rfl
  refine Eng.Sch.take (v := ?_) rfl rfl (by decide) (by kernel_rfl) (fun w hw => ?_) ?_
  rotate_left
  · (try dsimp only at hw); go_simp; first | done | with_reducible rfl
  refine Eng.Sch.take (v := ?_) rfl rfl (by decide) (by kernel_rfl) (fun w hw => ?_) ?_
  rotate_left
  · (try dsimp only at hw); go_simp; first | done | with_reducible rfl
  refine Eng.Sch.take (v := ?_) rfl rfl (by decide) (by kernel_rfl) (fun w hw => ?_) ?_
  rotate_left
  · (try dsimp only at hw); go_simp; first | done | with_reducible rfl
  refine Eng.Sch.take (v := ?_) rfl rfl (by decide) (by kernel_rfl) (fun w hw => ?_) ?_
  rotate_left
  · (try dsimp only at hw); go_simp; first | done | with_reducible rfl
  refine Eng.Sch.take (v := ?_) rfl rfl (by decide) (by kernel_rfl) (fun w hw => ?_) ?_
  rotate_left
  · (try dsimp only at hw); go_simp; first | done | with_reducible rfl
  refine Eng.Sch.take (v := ?_) rfl rfl (by decide) (by kernel_rfl) (fun w hw => ?_) ?_
  rotate_left
  · (try dsimp only at hw); go_simp; first | done | with_reducible rfl
  refine Eng.Sch.take (v := ?_) rfl rfl (by decide) (by kernel_rfl) (fun w hw => ?_) ?_
  rotate_left
  · (try dsimp only at hw); go_simp; first | done | with_reducible rfl
  refine Eng.Sch.take (v := ?_) rfl rfl (by decide) (by kernel_rfl) (fun w hw => ?_) ?_
  rotate_left
  · (try dsimp only at hw); go_simp; first | done | with_reducible rfl
  refine Eng.Sch.take (v := ?_) rfl rfl (by decide) (by kernel_rfl) (fun w hw => ?_) ?_
  rotate_left
  · (try dsimp only at hw); go_simp; first | done | with_reducible rfl
  refine Eng.Sch.take (v := ?_) rfl rfl (by decide) (by kernel_rfl) (fun w hw => ?_) ?_
  rotate_left
  · (try dsimp only at hw); go_simp; first | done | with_reducible rfl
  refine Eng.Sch.take (v := ?_) rfl rfl (by decide) (by kernel_rfl) (fun w hw => ?_) ?_
  rotate_left
  · (try dsimp only at hw); go_simp; first | done | with_reducible rfl
  refine Eng.Sch.take (v := ?_) rfl rfl (by decide) (by kernel_rfl) (fun w hw => ?_) ?_
  rotate_left
  · (try dsimp only at hw); go_simp; first | done | with_reducible rfl
  refine Eng.Sch.take (v := ?_) rfl rfl (by decide) (by kernel_rfl) (fun w hw => ?_) ?_
  rotate_left
  · (try dsimp only at hw); go_simp; first | done | with_reducible rfl
  refine Eng.Sch.take (v := ?_) rfl rfl (by decide) (by kernel_rfl) (fun w hw => ?_) ?_
  rotate_left
  · (try dsimp only at hw); go_simp; first | done | with_reducible rfl
  refine Eng.Sch.take (v := ?_) rfl rfl (by decide) (by kernel_rfl) (fun w hw => ?_) ?_
  rotate_left
  · (try dsimp only at hw); go_simp; first | done | with_reducible rfl
  refine Eng.Sch.take (v := ?_) rfl rfl (by decide) (by kernel_rfl) (fun w hw => ?_) ?_
  rotate_left
  · (try dsimp only at hw); go_simp; first | done | with_reducible rfl
  refine Eng.Sch.take (v := ?_) rfl rfl (by decide) (by kernel_rfl) (fun w hw => ?_) ?_
  rotate_left
  · (try dsimp only at hw); go_simp; first | done | with_reducible rfl
  refine Eng.Sch.take (v := ?_) rfl rfl (by decide) (by kernel_rfl) (fun w hw => ?_) ?_
  rotate_left
  · (try dsimp only at hw); go_simp; first | done | with_reducible rfl
  refine Eng.Sch.call rfl rfl (by decide) (by kernel_rfl) ?_ (HSt.out.len hn_.out) ?_
  · go_simp
  rintro e w_1 ⟨rfl, rfl⟩
  refine ⟨_, rfl, hSS, ?_⟩
  refine Eng.Sch.call rfl rfl (by decide) (by kernel_rfl) ?_ (HSt.out.countsD hl) ?_
  · go_simp
  rintro e w2 ⟨A1, e1, rfl, hT⟩
  have HSt1 := Lib.hid (hT)
  have hSS : w2.cell? ⟨B, 1, none⟩ = some (.map mc) ∧ (Instr.lookup TMI (.map mc) (.int .i64 1) false).run Tryz.prog w2 = .ok (.int .i64 r) w2 ∧ (Instr.lookup TMI (.map mc) (.int .i64 2) false).run Tryz.prog w2 = .ok (.int .i64 o) w2 ∧ (Instr.lookup TMI (.map mc) (.int .i64 3) false).run Tryz.prog w2 = .ok (.int .i64 y) w2 ∧ w2.frozen? ⟨Br, 0, none⟩ = false ∧ w2.frozen? ⟨Br, 1, none⟩ = false ∧ w2.frozen? ⟨Br, 2, none⟩ = false ∧ w2.frozen? ⟨Br, 3, none⟩ = false ∧ w2.frozen? ⟨Br, 4, none⟩ = false ∧ w2.frozen? ⟨Br, 5, none⟩ = false := ⟨(HSt1.out.h.d.1.cell 1).trans HSt1.out.h.c1, HSt1.out.h.look (wf_small (by omega) (by omega)) hr.out, HSt1.out.h.look (wf_small (by omega) (by omega)) ho.out, HSt1.out.h.look (wf_small (by omega) (by omega)) hy.out, HSt1.out.b.free 0, HSt1.out.b.free 1, HSt1.out.b.free 2, HSt1.out.b.free 3, HSt1.out.b.free 4, HSt1.out.b.free 5⟩
  clear hT
  refine ⟨_, rfl, hSS, ?_⟩
  refine Eng.Sch.call rfl rfl (by decide) (by kernel_rfl) ?_ (HSt1.out.countsF hl) ?_
  · go_simp
  rintro e w3 ⟨A2, e2, rfl, hT⟩
  have HSt2 := Lib.hid (hT)
  have hSS : w3.cell? ⟨B, 1, none⟩ = some (.map mc) ∧ (Instr.lookup TMI (.map mc) (.int .i64 1) false).run Tryz.prog w3 = .ok (.int .i64 r) w3 ∧ (Instr.lookup TMI (.map mc) (.int .i64 2) false).run Tryz.prog w3 = .ok (.int .i64 o) w3 ∧ (Instr.lookup TMI (.map mc) (.int .i64 3) false).run Tryz.prog w3 = .ok (.int .i64 y) w3 ∧ w3.frozen? ⟨Br, 0, none⟩ = false ∧ w3.frozen? ⟨Br, 1, none⟩ = false ∧ w3.frozen? ⟨Br, 2, none⟩ = false ∧ w3.frozen? ⟨Br, 3, none⟩ = false ∧ w3.frozen? ⟨Br, 4, none⟩ = false ∧ w3.frozen? ⟨Br, 5, none⟩ = false := ⟨(HSt2.out.h.d.1.cell 1).trans HSt2.out.h.c1, HSt2.out.h.look (wf_small (by omega) (by omega)) hr.out, HSt2.out.h.look (wf_small (by omega) (by omega)) ho.out, HSt2.out.h.look (wf_small (by omega) (by omega)) hy.out, HSt2.out.b.free 0, HSt2.out.b.free 1, HSt2.out.b.free 2, HSt2.out.b.free 3, HSt2.out.b.free 4, HSt2.out.b.free 5⟩
  clear hT
  have z0 : w3.cell? ⟨Br, 0, none⟩ = some (.int .i64 0) := HSt2.out.b.cell 0
  have z1 : w3.cell? ⟨Br, 1, none⟩ = some (.int .i64 0) := HSt2.out.b.cell 1
  have z2 : w3.cell? ⟨Br, 2, none⟩ = some (.int .i64 0) := HSt2.out.b.cell 2
  have z3 : w3.cell? ⟨Br, 3, none⟩ = some (.int .i64 0) := HSt2.out.b.cell 3
  have z4 : w3.cell? ⟨Br, 4, none⟩ = some (.slice none 0 0) := HSt2.out.b.cell 4
  have z5 : w3.cell? ⟨Br, 5, none⟩ = some (.slice none 0 0) := HSt2.out.b.cell 5
  refine ⟨_, rfl, hSS, ?_⟩
  refine Eng.Sch.take (v := ?_) rfl rfl (by decide) (by kernel_rfl) (fun w hw => ?_) ?_
  rotate_left
  · (try dsimp only at hw); go_simp; first | done | with_reducible rfl
  refine Eng.Sch.step0 rfl rfl (by kernel_rfl) (by go_simp; first | done | with_reducible rfl) (⟨((HSt2.out.put h0 (.int .i64 n) (.int .i64 r) (.int .i64 o) (.int .i64 y) (.slice A1 L1.length e1) (.slice A2 L2.length e2)).h.d.1.cell 1).trans (HSt2.out.put h0 (.int .i64 n) (.int .i64 r) (.int .i64 o) (.int .i64 y) (.slice A1 L1.length e1) (.slice A2 L2.length e2)).h.c1, (HSt2.out.put h0 (.int .i64 n) (.int .i64 r) (.int .i64 o) (.int .i64 y) (.slice A1 L1.length e1) (.slice A2 L2.length e2)).h.look (wf_small (by omega) (by omega)) hr.out, (HSt2.out.put h0 (.int .i64 n) (.int .i64 r) (.int .i64 o) (.int .i64 y) (.slice A1 L1.length e1) (.slice A2 L2.length e2)).h.look (wf_small (by omega) (by omega)) ho.out, (HSt2.out.put h0 (.int .i64 n) (.int .i64 r) (.int .i64 o) (.int .i64 y) (.slice A1 L1.length e1) (.slice A2 L2.length e2)).h.look (wf_small (by omega) (by omega)) hy.out, (HSt2.out.put h0 (.int .i64 n) (.int .i64 r) (.int .i64 o) (.int .i64 y) (.slice A1 L1.length e1) (.slice A2 L2.length e2)).b.free 0, (HSt2.out.put h0 (.int .i64 n) (.int .i64 r) (.int .i64 o) (.int .i64 y) (.slice A1 L1.length e1) (.slice A2 L2.length e2)).b.free 1, (HSt2.out.put h0 (.int .i64 n) (.int .i64 r) (.int .i64 o) (.int .i64 y) (.slice A1 L1.length e1) (.slice A2 L2.length e2)).b.free 2, (HSt2.out.put h0 (.int .i64 n) (.int .i64 r) (.int .i64 o) (.int .i64 y) (.slice A1 L1.length e1) (.slice A2 L2.length e2)).b.free 3, (HSt2.out.put h0 (.int .i64 n) (.int .i64 r) (.int .i64 o) (.int .i64 y) (.slice A1 L1.length e1) (.slice A2 L2.length e2)).b.free 4, (HSt2.out.put h0 (.int .i64 n) (.int .i64 r) (.int .i64 o) (.int .i64 y) (.slice A1 L1.length e1) (.slice A2 L2.length e2)).b.free 5⟩) ?_
  have HSt3 := Lib.hid (HSt2.out.put h0 (.int .i64 n) (.int .i64 r) (.int .i64 o) (.int .i64 y) (.slice A1 L1.length e1) (.slice A2 L2.length e2))
  have hSS : (((((((w3.setCell ⟨Br, 0, none⟩ (.int .i64 n)).setCell ⟨Br, 1, none⟩ (.int .i64 r)).setCell ⟨Br, 2, none⟩ (.int .i64 o)).setCell ⟨Br, 3, none⟩ (.int .i64 y)).setCell ⟨Br, 4, none⟩ (.slice A1 L1.length e1)).setCell ⟨Br, 5, none⟩ (.slice A2 L2.length e2))).cell? ⟨B, 1, none⟩ = some (.map mc) ∧ (Instr.lookup TMI (.map mc) (.int .i64 1) false).run Tryz.prog (((((((w3.setCell ⟨Br, 0, none⟩ (.int .i64 n)).setCell ⟨Br, 1, none⟩ (.int .i64 r)).setCell ⟨Br, 2, none⟩ (.int .i64 o)).setCell ⟨Br, 3, none⟩ (.int .i64 y)).setCell ⟨Br, 4, none⟩ (.slice A1 L1.length e1)).setCell ⟨Br, 5, none⟩ (.slice A2 L2.length e2))) = .ok (.int .i64 r) (((((((w3.setCell ⟨Br, 0, none⟩ (.int .i64 n)).setCell ⟨Br, 1, none⟩ (.int .i64 r)).setCell ⟨Br, 2, none⟩ (.int .i64 o)).setCell ⟨Br, 3, none⟩ (.int .i64 y)).setCell ⟨Br, 4, none⟩ (.slice A1 L1.length e1)).setCell ⟨Br, 5, none⟩ (.slice A2 L2.length e2))) ∧ (Instr.lookup TMI (.map mc) (.int .i64 2) false).run Tryz.prog (((((((w3.setCell ⟨Br, 0, none⟩ (.int .i64 n)).setCell ⟨Br, 1, none⟩ (.int .i64 r)).setCell ⟨Br, 2, none⟩ (.int .i64 o)).setCell ⟨Br, 3, none⟩ (.int .i64 y)).setCell ⟨Br, 4, none⟩ (.slice A1 L1.length e1)).setCell ⟨Br, 5, none⟩ (.slice A2 L2.length e2))) = .ok (.int .i64 o) (((((((w3.setCell ⟨Br, 0, none⟩ (.int .i64 n)).setCell ⟨Br, 1, none⟩ (.int .i64 r)).setCell ⟨Br, 2, none⟩ (.int .i64 o)).setCell ⟨Br, 3, none⟩ (.int .i64 y)).setCell ⟨Br, 4, none⟩ (.slice A1 L1.length e1)).setCell ⟨Br, 5, none⟩ (.slice A2 L2.length e2))) ∧ (Instr.lookup TMI (.map mc) (.int .i64 3) false).run Tryz.prog (((((((w3.setCell ⟨Br, 0, none⟩ (.int .i64 n)).setCell ⟨Br, 1, none⟩ (.int .i64 r)).setCell ⟨Br, 2, none⟩ (.int .i64 o)).setCell ⟨Br, 3, none⟩ (.int .i64 y)).setCell ⟨Br, 4, none⟩ (.slice A1 L1.length e1)).setCell ⟨Br, 5, none⟩ (.slice A2 L2.length e2))) = .ok (.int .i64 y) (((((((w3.setCell ⟨Br, 0, none⟩ (.int .i64 n)).setCell ⟨Br, 1, none⟩ (.int .i64 r)).setCell ⟨Br, 2, none⟩ (.int .i64 o)).setCell ⟨Br, 3, none⟩ (.int .i64 y)).setCell ⟨Br, 4, none⟩ (.slice A1 L1.length e1)).setCell ⟨Br, 5, none⟩ (.slice A2 L2.length e2))) ∧ (((((((w3.setCell ⟨Br, 0, none⟩ (.int .i64 n)).setCell ⟨Br, 1, none⟩ (.int .i64 r)).setCell ⟨Br, 2, none⟩ (.int .i64 o)).setCell ⟨Br, 3, none⟩ (.int .i64 y)).setCell ⟨Br, 4, none⟩ (.slice A1 L1.length e1)).setCell ⟨Br, 5, none⟩ (.slice A2 L2.length e2))).frozen? ⟨Br, 0, none⟩ = false ∧ (((((((w3.setCell ⟨Br, 0, none⟩ (.int .i64 n)).setCell ⟨Br, 1, none⟩ (.int .i64 r)).setCell ⟨Br, 2, none⟩ (.int .i64 o)).setCell ⟨Br, 3, none⟩ (.int .i64 y)).setCell ⟨Br, 4, none⟩ (.slice A1 L1.length e1)).setCell ⟨Br, 5, none⟩ (.slice A2 L2.length e2))).frozen? ⟨Br, 1, none⟩ = false ∧ (((((((w3.setCell ⟨Br, 0, none⟩ (.int .i64 n)).setCell ⟨Br, 1, none⟩ (.int .i64 r)).setCell ⟨Br, 2, none⟩ (.int .i64 o)).setCell ⟨Br, 3, none⟩ (.int .i64 y)).setCell ⟨Br, 4, none⟩ (.slice A1 L1.length e1)).setCell ⟨Br, 5, none⟩ (.slice A2 L2.length e2))).frozen? ⟨Br, 2, none⟩ = false ∧ (((((((w3.setCell ⟨Br, 0, none⟩ (.int .i64 n)).setCell ⟨Br, 1, none⟩ (.int .i64 r)).setCell ⟨Br, 2, none⟩ (.int .i64 o)).setCell ⟨Br, 3, none⟩ (.int .i64 y)).setCell ⟨Br, 4, none⟩ (.slice A1 L1.length e1)).setCell ⟨Br, 5, none⟩ (.slice A2 L2.length e2))).frozen? ⟨Br, 3, none⟩ = false ∧ (((((((w3.setCell ⟨Br, 0, none⟩ (.int .i64 n)).setCell ⟨Br, 1, none⟩ (.int .i64 r)).setCell ⟨Br, 2, none⟩ (.int .i64 o)).setCell ⟨Br, 3, none⟩ (.int .i64 y)).setCell ⟨Br, 4, none⟩ (.slice A1 L1.length e1)).setCell ⟨Br, 5, none⟩ (.slice A2 L2.length e2))).frozen? ⟨Br, 4, none⟩ = false ∧ (((((((w3.setCell ⟨Br, 0, none⟩ (.int .i64 n)).setCell ⟨Br, 1, none⟩ (.int .i64 r)).setCell ⟨Br, 2, none⟩ (.int .i64 o)).setCell ⟨Br, 3, none⟩ (.int .i64 y)).setCell ⟨Br, 4, none⟩ (.slice A1 L1.length e1)).setCell ⟨Br, 5, none⟩ (.slice A2 L2.length e2))).frozen? ⟨Br, 5, none⟩ = false := ⟨(HSt3.out.h.d.1.cell 1).trans HSt3.out.h.c1, HSt3.out.h.look (wf_small (by omega) (by omega)) hr.out, HSt3.out.h.look (wf_small (by omega) (by omega)) ho.out, HSt3.out.h.look (wf_small (by omega) (by omega)) hy.out, HSt3.out.b.free 0, HSt3.out.b.free 1, HSt3.out.b.free 2, HSt3.out.b.free 3, HSt3.out.b.free 4, HSt3.out.b.free 5⟩
  refine Eng.Sch.end_ [6, 7, 8, 9, 10, 11, 12, 13, 14, 15, 16, 17, 18, 19, 20, 21, 22, 23, 24, 25, 26, 27, 28, 29, 30, 31, 32, 33] HN.out (by kernel_rfl) (by kernel_rfl) ?_
  exact HP.out _ _ A1 e1 A2 e2 HSt3.out

abbrev zeroS : Array Value := #[.int .i64 0, .int .i64 0, .int .i64 0, .int .i64 0, .slice none 0 0, .slice none 0 0]
/-- What Shape answers. -/
def ShPost (l : List K3) (w : World) (e : Ending) (w' : World) : Prop := ∃ x A1 c1 A2 c2, e = .returned (shv x A1 A2 c1 c2) ∧ IsShp l x ∧ Cs w' A1 c1 x.D ∧ Cs w' A2 c2 x.F ∧ (∀ a, A1 = some a → w.heap.size ≤ a.block ∧ a.block < w'.heap.size) ∧ (∀ a, A2 = some a → w.heap.size ≤ a.block ∧ a.block < w'.heap.size) ∧ Fr (fun _ => False) w w'
set_option maxRecDepth 100000 in
set_option maxHeartbeats 1000000 in
theorem Shape_ (B n : Nat) (l : List K3) (F : List Nat) (w : World) (h : VB w B n l F) (hl : l.length < 1000000) : Calls Tryz.prog 52 #[.pointer (some ⟨B, 0, none⟩)] w (ShPost l w) := by
  obtain ⟨c, mc, L1, L2, G1, G2, hv⟩ := h.rv
  have hlt := h.lt B h.mem
  have H0 := Lib.hid (show SS w (w.alloc (.cells zeroS TSp)) B c mc l L1 L2 G1 G2 w.heap.size zeroS [] from ⟨hv.fr (Fr.alloc _ _ _), Bk.new _ _ _, Fr.alloc _ _ _, Nat.le_refl _, fun b hb => by omega, by simp⟩)
  have HV := Lib.hid hv
  clear h hv
  go_enter Tryz.func52, Tryz.ntmps52
  go_upto_region 3 with (fail)
  refine s3 (by kernel_rfl) _ _ w _ B c mc l L1 L2 G1 G2 w.heap.size H0.out HV.out hl _ _ _ _ (Lib.hid rfl) (Lib.hid rfl) (Lib.hid rfl) (Lib.hid rfl) rfl rfl rfl ?_
  intro y w1 A1 e1 A2 e2 hst
  simp only [Eng.setAll, Act.put, List.setIfInBounds_toArray, List.set_cons_succ, List.set_cons_zero]
  have H1 := Lib.hid hst
  clear hst
  go_wp2_with fail
  exact bodyPost_ret (results_cell_row rfl _ _ w.heap.size TSp _ (0, 0) _ rfl H1.out.b Tryz.underlying108 rfl (by kernel_rfl)) rfl ⟨⟨sumL L2, _, _, _, L1, L2⟩, A1, e1, A2, e2, rfl, ⟨by show sumL L2 = _; rw [HV.out.fl.sum]; exact cn_true l, rfl, rfl, rfl, HV.out.dl, HV.out.fl⟩, (H1.out.x (A1, e1, L1) (by simp)).1, (H1.out.x (A2, e2, L2) (by simp)).1, fun a ha => ⟨((H1.out.x (A1, e1, L1) (by simp)).2 a ha).1, ((H1.out.x (A1, e1, L1) (by simp)).2 a ha).2.2⟩, fun a ha => ⟨((H1.out.x (A2, e2, L2) (by simp)).2 a ha).1, ((H1.out.x (A2, e2, L2) (by simp)).2 a ha).2.2⟩, H1.out.f⟩
end Shape
end Go.Proofs.YtgfjpnpbkkadpaaGreat
namespace Go.Proofs.YtgfjpnpbkkadpaaGreat
open Go.RowKit
namespace Shape
open BagP Bag ShapeP Fm
theorem six {w : World} {Br : Nat} {a0 a1 a2 a3 a4 a5 : Value} (h : Bk w Br #[a0, a1, a2, a3, a4, a5] TSp) (v0 v1 v2 v3 v4 v5 : Value) :
    Bk ((((((w.setCell ⟨Br, 0, none⟩ v0).setCell ⟨Br, 1, none⟩ v1).setCell ⟨Br, 2, none⟩ v2).setCell ⟨Br, 3, none⟩ v3).setCell ⟨Br, 4, none⟩ v4).setCell ⟨Br, 5, none⟩ v5) Br #[v0, v1, v2, v3, v4, v5] TSp ∧
    Fr (· = Br) w ((((((w.setCell ⟨Br, 0, none⟩ v0).setCell ⟨Br, 1, none⟩ v1).setCell ⟨Br, 2, none⟩ v2).setCell ⟨Br, 3, none⟩ v3).setCell ⟨Br, 4, none⟩ v4).setCell ⟨Br, 5, none⟩ v5) := by
  have fs : ∀ (w : World) (o : Nat) (u : Value), Fr (· = Br) w (w.setCell ⟨Br, o, none⟩ u) := fun w o u => Fr.setCell w ⟨Br, o, none⟩ u rfl
  have tr : ∀ {a b d : World}, Fr (· = Br) a b → Fr (· = Br) b d → Fr (· = Br) a d := fun h k => h.trans k (fun _ _ h => h) (fun _ _ h => h)
  exact ⟨(((((h.set 0 v0).set 1 v1).set 2 v2).set 3 v3).set 4 v4).set 5 v5, tr (tr (tr (tr (tr (fs w 0 v0) (fs _ 1 v1)) (fs _ 2 v2)) (fs _ 3 v3)) (fs _ 4 v4)) (fs _ 5 v5)⟩
set_option maxRecDepth 100000 in
set_option maxHeartbeats 1000000 in
theorem Of (A : Option Addr) (c : Nat) (ys : List Pl) (w : World) (hS : Sl w 6 A ys.length c (ys.flatMap plc)) (hwf : ∀ x ∈ ys, okK x.k) (hy : ys.length ≤ 1000) :
    Calls Tryz.prog 48 #[.slice A ys.length c] w (ShPost (ys.map Pl.k) w) := by
  have f0 : Fr (fun _ => False) w ((w.alloc (.cells zeroS TSp)).alloc (.cells zeroV TV)) := (Fr.alloc _ _ _).trans (Fr.alloc (fun _ => False) _ _) (fun _ _ h => h) (fun _ _ h => h)
  have hb0 : Bk ((w.alloc (.cells zeroS TSp)).alloc (.cells zeroV TV)) w.heap.size zeroS TSp := (Bk.new w zeroS TSp).fr (Fr.alloc (fun _ => False) _ _) (fun _ _ h => h)
  have hv0 : VB ((w.alloc (.cells zeroS TSp)).alloc (.cells zeroV TV)) (w.heap.size + 1) 0 [] [w.heap.size + 1] := by
    have := VB.new (w.alloc (.cells zeroS TSp)) 0
    rwa [World.size_alloc] at this
  have ha1 : Ar ((w.alloc (.cells zeroS TSp)).alloc (.cells zeroV TV)) none 0 [] [w.heap.size + 1] := ⟨Sl.empty _ _, fun h => absurd rfl h⟩
  have ha2 : Ar ((w.alloc (.cells zeroS TSp)).alloc (.cells zeroV TV)) A c ys [w.heap.size + 1] := ⟨hS.fr f0 (fun _ _ h => h), fun hne a ha e => by
    have hne' : ys.flatMap plc ≠ [] := fun e => by
      have := congrArg List.length e
      rw [flat_length plc_len] at this
      exact hne (List.eq_nil_of_length_eq_zero (by simp at this; omega))
    have := hS.lt hne' a ha
    simp at e; omega⟩
  have HAp := Lib.hid (Apply (w.heap.size + 1) 0 [] [w.heap.size + 1] none A 0 c [] ys _ hv0 ha1 ha2 (by simp) hwf (by simp) hy (by simp; omega) (by simp; omega))
  have HB0 := Lib.hid hb0; have HF0 := Lib.hid f0
  clear hS hwf f0 hb0 hv0 ha1 ha2
  go_enter Tryz.func48, Tryz.ntmps48
  go_wp2_with fail
  refine HAp.out.mono ?_
  rintro e w1 ⟨rfl, F', hv, ht⟩
  have hv1 : VB w1 (w.heap.size + 1) (0 + 3 * (([] : List Pl).length + ys.length)) (ys.map Pl.k) F' := hv
  have HS := Lib.hid (Shape_ (w.heap.size + 1) _ (ys.map Pl.k) F' w1 hv1 (by simp; omega))
  have hb1 := HB0.out.fr ht.fr (fun b hb e => by simp at hb e; omega)
  have f1 := HF0.out.trans ht.fr (T := fun _ => False) (fun _ _ h => h) (fun i hi e => by simp at e; omega)
  have HB1 := Lib.hid hb1; have HF1 := Lib.hid f1
  have hlt := lt_of_heap hb1
  clear hv hv1 ht hb1 f1 HB0 HF0 HAp
  go_wp2_with fail
  refine HS.out.mono ?_
  rintro e w2 ⟨x, A1, c1, A2, c2, rfl, hx, s1, s2, r1, r2, f2⟩
  have hb2 := HB1.out.fr f2 (fun _ _ h => h)
  obtain ⟨n_, r_, o_, y_, D, Fn⟩ := x
  have z0 : w2.cell? ⟨w.heap.size, 0, none⟩ = some (.int .i64 0) := hb2.cell 0
  have z1 : w2.cell? ⟨w.heap.size, 1, none⟩ = some (.int .i64 0) := hb2.cell 1
  have z2 : w2.cell? ⟨w.heap.size, 2, none⟩ = some (.int .i64 0) := hb2.cell 2
  have z3 : w2.cell? ⟨w.heap.size, 3, none⟩ = some (.int .i64 0) := hb2.cell 3
  have z4 : w2.cell? ⟨w.heap.size, 4, none⟩ = some (.slice none 0 0) := hb2.cell 4
  have z5 : w2.cell? ⟨w.heap.size, 5, none⟩ = some (.slice none 0 0) := hb2.cell 5
  have g0 := hb2.free 0; have g1 := hb2.free 1; have g2 := hb2.free 2; have g3 := hb2.free 3; have g4 := hb2.free 4; have g5 := hb2.free 5
  have HX := Lib.hid hx; have H1 := Lib.hid s1; have H2 := Lib.hid s2; have R1 := Lib.hid r1; have R2 := Lib.hid r2
  have HF2 := Lib.hid (HF1.out.trans f2 (T := fun _ => False) (fun _ _ h => h) (fun _ _ h => h))
  have HB2 := Lib.hid (six hb2 (.int .i64 n_) (.int .i64 r_) (.int .i64 o_) (.int .i64 y_) (.slice A1 D.length c1) (.slice A2 Fn.length c2))
  clear hb2 hx s1 s2 r1 r2 f2 HS HB1
  go_wp2_with fail
  have hsz := HB2.out.2.size
  have hf1 := HF1.out.size
  exact bodyPost_ret (results_cell_row rfl _ _ w.heap.size TSp _ (0, 0) _ rfl HB2.out.1 Tryz.underlying108 rfl (by kernel_rfl)) rfl ⟨⟨n_, r_, o_, y_, D, Fn⟩, A1, c1, A2, c2, rfl, HX.out,
    H1.out.fr HB2.out.2 (fun a ha e => by have := R1.out a ha; omega), H2.out.fr HB2.out.2 (fun a ha e => by have := R2.out a ha; omega), fun a ha => by have := R1.out a ha; omega, fun a ha => by have := R2.out a ha; omega, HF2.out.trans HB2.out.2 (fun _ _ h => h) (fun i hi e => by omega)⟩
theorem two_cells {w : World} {k : Nat} {L : List (Int × Int)} {b o : Nat} (hk : k < L.length) (hc : ∀ j u, (L.flatMap pc)[j]? = some u → w.cell? ⟨b, o + j, none⟩ = some u) :
    w.cell? ⟨b, o + k * 2, none⟩ = some (.int .i64 L[k].1) ∧ w.cell? ⟨b, o + k * 2 + 1, none⟩ = some (.int .i64 L[k].2) := by
  have key : ∀ j u, j < 2 → (pc L[k])[j]? = some u → w.cell? ⟨b, o + (k * 2 + j), none⟩ = some u := fun j u hj hu => hc _ u (by rw [flat_at pc_len hk hj]; exact hu)
  exact ⟨key 0 _ (by omega) rfl, key 1 _ (by omega) rfl⟩
set_option maxRecDepth 100000 in
theorem greatest (A : Option Addr) (c : Nat) (L : List (Int × Int)) (w : World) (hS : Cs w A c L) : Calls Tryz.prog 101 #[.slice A L.length c] w fun e w' => e = .returned (.int .i64 (great L)) ∧ Fr (fun _ => False) w w' := by
  have hlen : L.length ≤ 9223372036854775807 := by have := hS.2.1; have := hS.2.2.1; unfold maxLen at this; omega
  have HS := Lib.hid hS
  clear hS
  go_enter Tryz.func101, Tryz.ntmps101
  go_wp2_with fail
  go_loopg [3, 4, 5, 8] L.length (fun gk m_ _ _ i wr => ∃ k : Nat, m_ = .int .i64 (great (L.take k)) ∧ i = .int .i64 k ∧ k ≤ L.length ∧ gk = L.length - k ∧ Fr (fun _ => False) w wr)
  case atStart => exact ⟨0, rfl, rfl, Nat.zero_le _, rfl, Fr.refl _ _⟩
  case round =>
    obtain ⟨k, rfl, rfl, hk, hg, hfr⟩ := hrel
    have HG := Lib.hid hg; have HFr := Lib.hid hfr
    clear hg hfr
    by_cases hlt : k < L.length
    · obtain ⟨b1, o1, rfl, hb1, hc1⟩ := (HS.out.fr HFr.out (fun _ _ h => h)).at hlt (by omega)
      obtain ⟨d0, d1⟩ := two_cells hlt hc1
      have hT : L.take (k + 1) = L.take k ++ [L[k]] := List.take_succ_eq_append_getElem hlt
      have HF2 := fun v => Lib.hid (HFr.out.trans (Fr.alloc (fun _ => False) wr v) (T := fun _ => False) (fun _ _ h => h) (fun _ _ h => h))
      by_cases hk0 : k = 0
      · have q : ((k : Int) == 0) = true := by simp [hk0]
        have HE : Hid (great (L.take (k + 1)) = L[k].1) := by show _ = _; rw [hT]; subst hk0; simp [great]
        have HK0 := Lib.hid hk0
        clear hT hc1 hk0
        generalize L[k] = x at *
        obtain ⟨x1, x2⟩ := x
        dsimp only at d0 d1 HE
        generalize great (L.take k) = g at *
        go_wp2_with fail
        go_roundg (L.length - (k + 1))
        case rel => exact ⟨k + 1, by rw [HE.out], by go_num, by omega, rfl, (HF2 _).out⟩
        case measure => have := HG.out; omega
      · have q : ((k : Int) == 0) = false := by simp [hk0]
        have HE : Hid (great (L.take (k + 1)) = max (great (L.take k)) L[k].1) := by
          show _ = _
          rw [hT]; exact great_snoc (fun e => hk0 (by have := congrArg List.length e; rw [List.length_take] at this; simp only [List.length_nil] at this; omega)) _
        have HK0 := Lib.hid hk0
        clear hT hc1 hk0
        generalize L[k] = x at *
        obtain ⟨x1, x2⟩ := x
        dsimp only at d0 d1 HE
        generalize great (L.take k) = g at *
        by_cases hgt : g < x1
        · have hd : decide (g < x1) = true := by simpa using hgt
          have HM : Hid (max g x1 = x1) := by show _ = _; omega
          clear hgt
          go_wp2_with fail
          go_roundg (L.length - (k + 1))
          case rel => exact ⟨k + 1, by rw [HE.out, HM.out], by go_num, by omega, rfl, (HF2 _).out⟩
          case measure => have := HG.out; omega
        · have hd : decide (g < x1) = false := by simpa using hgt
          have HM : Hid (max g x1 = g) := by show _ = _; omega
          clear hgt
          go_wp2_with fail
          go_roundg (L.length - (k + 1))
          case rel => exact ⟨k + 1, by rw [HE.out, HM.out], by go_num, by omega, rfl, (HF2 _).out⟩
          case measure => have := HG.out; omega
    · obtain rfl : k = L.length := by omega
      have HE : Hid (L.take L.length = L) := List.take_length
      go_wp2_with fail
      go_ret
      exact ⟨by rw [HE.out]; rfl, HFr.out⟩
set_option maxRecDepth 100000 in
theorem Deepest (x : Shp) (A1 A2 : Option Addr) (c1 c2 : Nat) (w : World) (hS : Cs w A1 c1 x.D) : Calls Tryz.prog 49 #[shv x A1 A2 c1 c2] w fun e w' => e = .returned (.int .i64 (great x.D)) ∧ Fr (fun _ => False) w w' := by
  have fa := Fr.alloc (fun _ => False) w (.cells (sha x A1 A2 c1 c2) TSp)
  have HG := Lib.hid (greatest A1 c1 x.D (w.alloc (.cells (sha x A1 A2 c1 c2) TSp)) (hS.fr fa (fun _ _ h => h)))
  have HF := Lib.hid fa
  clear hS fa
  obtain ⟨n_, r_, o_, y_, D, Fn⟩ := x
  dsimp only at HG
  go_enter Tryz.func49, Tryz.ntmps49
  go_wp2_with fail
  refine HG.out.mono ?_
  rintro e w1 ⟨rfl, hf⟩
  have HF1 := Lib.hid (HF.out.trans hf (T := fun _ => False) (fun _ _ h => h) (fun _ _ h => h))
  clear hf HG HF
  go_wp2_with fail
  go_ret
  exact ⟨rfl, HF1.out⟩
set_option maxRecDepth 100000 in
theorem Widest (x : Shp) (A1 A2 : Option Addr) (c1 c2 : Nat) (w : World) (hS : Cs w A2 c2 x.F) : Calls Tryz.prog 100 #[shv x A1 A2 c1 c2] w fun e w' => e = .returned (.int .i64 (great x.F)) ∧ Fr (fun _ => False) w w' := by
  have fa := Fr.alloc (fun _ => False) w (.cells (sha x A1 A2 c1 c2) TSp)
  have HG := Lib.hid (greatest A2 c2 x.F (w.alloc (.cells (sha x A1 A2 c1 c2) TSp)) (hS.fr fa (fun _ _ h => h)))
  have HF := Lib.hid fa
  clear hS fa
  obtain ⟨n_, r_, o_, y_, D, Fn⟩ := x
  dsimp only at HG
  go_enter Tryz.func100, Tryz.ntmps100
  go_wp2_with fail
  refine HG.out.mono ?_
  rintro e w1 ⟨rfl, hf⟩
  have HF1 := Lib.hid (HF.out.trans hf (T := fun _ => False) (fun _ _ h => h) (fun _ _ h => h))
  clear hf HG HF
  go_wp2_with fail
  go_ret
  exact ⟨rfl, HF1.out⟩
end Shape
end Go.Proofs.YtgfjpnpbkkadpaaGreat
