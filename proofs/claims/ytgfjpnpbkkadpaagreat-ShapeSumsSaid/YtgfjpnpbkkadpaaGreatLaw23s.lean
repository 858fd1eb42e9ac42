/- Layer 23's statements: ShapeSums: for every input the answer is true. -/
import Derived.Test.YtgfjpnpbkkadpaaGreatL21
import Derived.Test.YtgfjpnpbkkadpaaGreatL23
import Derived.Test.YtgfjpnpbkkadpaaGreatSh3
import Derived.Test.YtgfjpnpbkkadpaaGreatShSumP
namespace Go.Proofs.YtgfjpnpbkkadpaaGreat
open Go.RowKit
namespace Law23
open KeyP PackP SetP SetW SetF Cls ClsW ClsS ClsF Pack Shape ShSum Bag
attribute [local go_sem] Eng.ev Eng.getO_cons Eng.getO_nil
abbrev toPl (p : ClsF.Pc) : ShapeP.Pl := ⟨p.t, p.i, p.c, p.d, p.p, p.f⟩
theorem wf_small {n : Int} (h0 : 0 ≤ n) (h1 : n ≤ 10000000) : wfI n := by
  show (Lit.int .i64 n).wf = true
  simp only [Lit.wf, Bool.and_eq_true, decide_eq_true_eq]
  have e1 : IntKind.i64.min = -9223372036854775808 := rfl
  have e2 : IntKind.i64.max = 9223372036854775807 := rfl
  omega
theorem few_len {L : List Sn} {n : Nat} (h : fewB L n = true) : L.length ≤ n := by unfold fewB at h; simp at h; exact h.2
theorem spn_len' (L : List Sn) : (spn L).length ≤ L.length := Nat.le_trans (alive_len _) (setOf_len L)
theorem spn_srs (L : List Sn) : Srs (spn L) := (setOf_ok L).srs.filter _
theorem ks_eq (M : List Sn) : ((plcs M).map toPl).map ShapeP.Pl.k = ks M := by rw [List.map_map, List.map_map]; rfl
theorem ShOf {A : Option Addr} {c : Nat} {M : List Sn} {P : List ClsF.Pc} {n : Nat} {w : World} (h : Law21.Pl w A c n P) (hP : plcs M = P) (hs : Srs M) (hl : M.length ≤ 900) :
    Calls Tryz.prog 48 #[.slice A n c] w fun e w' => ∃ x A1 c1 A2 c2, e = .returned (shv x A1 A2 c1 c2) ∧ Sm M x ∧ Cs w' A1 c1 x.D ∧ Cs w' A2 c2 x.F ∧ Below w.heap.size w w' := by
  obtain ⟨h1, h2⟩ := h
  subst hP
  have hn : ((plcs M).map toPl).length = n := by rw [List.length_map]; exact h2
  have hlm : (plcs M).length = M.length := by simp
  subst hn
  refine (Shape.Of A c ((plcs M).map toPl) w (by rw [List.flatMap_map]; exact h1) (fun x hx => ?_) (by rw [List.length_map]; omega)).mono ?_
  · obtain ⟨p, hp, rfl⟩ := List.mem_map.1 hx
    obtain ⟨y, hy, rfl⟩ := List.mem_map.1 hp
    have hb := low_bound hs hy
    have hf := fan_le (L := M) y
    have hc := cdt_cls (L := M) y
    refine ⟨?_, ?_, ?_⟩
    · exact wf_small (n := (cdt M y).1) (by omega) (by omega)
    · exact wf_small (n := (cdt M y).2.1) hb.1 (by omega)
    · exact wf_small (n := ((fan M y : Nat) : Int)) (by omega) (by omega)
  · rintro e w' ⟨x, A1, c1, A2, c2, rfl, hx, hd, hf, -, -, hfr⟩
    rw [ks_eq] at hx
    exact ⟨x, A1, c1, A2, c2, rfl, sm_of hs (by omega) hx, hd, hf, hfr.below (Nat.le_refl _) (fun _ _ h => h)⟩
/-- A shape in its box, its counts, and the places. -/
structure SX (w0 w : World) (Bx : Nat) (z : ShapeP.Shp) (A1 : Option Addr) (c1 : Nat) (A2 : Option Addr) (c2 : Nat) (Ap : Option Addr) (cp n : Nat) (P : List ClsF.Pc) : Prop where
  f : Below w0.heap.size w0 w
  b : Bk w Bx (sha z A1 A2 c1 c2) TSp
  d : Cs w A1 c1 z.D
  g : Cs w A2 c2 z.F
  p : Law21.Pl w Ap cp n P
section
variable {w0 w w' : World} {Bx : Nat} {z : ShapeP.Shp} {A1 : Option Addr} {c1 : Nat} {A2 : Option Addr} {c2 : Nat} {Ap : Option Addr} {cp n : Nat} {P : List ClsF.Pc}
theorem SX.below (h : SX w0 w Bx z A1 c1 A2 c2 Ap cp n P) (hb : Below w.heap.size w w') : SX w0 w' Bx z A1 c1 A2 c2 Ap cp n P :=
  ⟨h.f.trans (hb.mono h.f.size), h.b.fr (Fr.of_below' hb (fun _ => False)) (fun _ _ h => h), h.d.fr (Fr.of_below' hb (fun _ => False)) (fun _ _ h => h), h.g.fr (Fr.of_below' hb (fun _ => False)) (fun _ _ h => h), h.p.below hb⟩
theorem SX.fr (h : SX w0 w Bx z A1 c1 A2 c2 Ap cp n P) (hf : Fr (fun _ => False) w w') : SX w0 w' Bx z A1 c1 A2 c2 Ap cp n P := h.below (hf.below (Nat.le_refl _) (fun _ _ h => h))
end
theorem pc_at {L : List (Int × Int)} {w : World} {b o : Nat} {k : Nat} (hk : k < L.length) (hc : ∀ j u, (L.flatMap pc)[j]? = some u → w.cell? ⟨b, o + j, none⟩ = some u) : w.cell? ⟨b, o + k * 2, none⟩ = some (.int .i64 L[k].1) ∧ w.cell? ⟨b, o + k * 2 + 1, none⟩ = some (.int .i64 L[k].2) := by
  have g : ∀ j (hj : j < 2), (L.flatMap pc)[k * 2 + j]? = (pc L[k])[j]? := fun j hj => by
    have h1 : ((L.flatMap pc).drop (k * 2))[j]? = (L.flatMap pc)[k * 2 + j]? := List.getElem?_drop
    rw [← h1, flat_drop (fun x => rfl : ∀ x : Int × Int, (pc x).length = 2), List.drop_eq_getElem_cons hk, List.flatMap_cons, List.getElem?_append_left (by show j < 2; omega)]
  exact ⟨hc (k * 2 + 0) _ ((g 0 (by omega)).trans rfl), hc (k * 2 + 1) _ ((g 1 (by omega)).trans rfl)⟩
/-- A count's cells, beside the shape. -/
structure SC (w0 w : World) (Bx : Nat) (z : ShapeP.Shp) (A1 : Option Addr) (c1 : Nat) (A2 : Option Addr) (c2 : Nat) (Ap : Option Addr) (cp n : Nat) (P : List ClsF.Pc) (b o : Nat) (u v : Int) : Prop where
  s : SX w0 w Bx z A1 c1 A2 c2 Ap cp n P
  u : w.cell? ⟨b, o, none⟩ = some (.int .i64 u)
  v : w.cell? ⟨b, o + 1, none⟩ = some (.int .i64 v)
theorem SC.fr {w0 w w' : World} {Bx : Nat} {z : ShapeP.Shp} {A1 : Option Addr} {c1 : Nat} {A2 : Option Addr} {c2 : Nat} {Ap : Option Addr} {cp n : Nat} {P : List ClsF.Pc} {b o : Nat} {u v : Int} (h : SC w0 w Bx z A1 c1 A2 c2 Ap cp n P b o u v) (hf : Fr (fun _ => False) w w') : SC w0 w' Bx z A1 c1 A2 c2 Ap cp n P b o u v :=
  ⟨h.s.fr hf, (World.cell?_of_block (w := w) (a := ⟨b, o, none⟩) (hf.block b (World.block_lt_of_cell? w ⟨b, o, none⟩ h.u) (fun h => h))).trans h.u, (World.cell?_of_block (w := w) (a := ⟨b, o + 1, none⟩) (hf.block b (World.block_lt_of_cell? w ⟨b, o, none⟩ h.u) (fun h => h))).trans h.v⟩
set_option maxRecDepth 100000 in
set_option maxHeartbeats 2000000 in
theorem ss16 {ops : Array Oper} (hops : Eng.fnOps Tryz.f11 16 = ops) (a0 : Act) (Q : Exit → Act → World → Prop) (w0 w : World) (Bx : Nat) (z : ShapeP.Shp) (A1 : Option Addr) (c1 : Nat) (c2 : Nat) (Ap : Option Addr) (cp n : Nat) (P : List ClsF.Pc) (b o k : Nat) (u v s : Int) (hst : SC w0 w Bx z A1 c1 (some ⟨b, o, none⟩) c2 Ap cp n P b (o + k * 2) u v) (hk : k < z.F.length) (hm : IntKind.i64.wrap (u * v) = u * v) (hsum : IntKind.i64.wrap (s + u * v) = s + u * v)
    (hn : a0.tmps.size = 192) (h_7 : a0.tmps.getD 7 undef = .int .i64 s) (h_4 : a0.tmps.getD 4 undef = .pointer (some ⟨Bx, 0, none⟩)) (h_10 : a0.tmps.getD 10 undef = .int .i64 k)
    (hpost : ∀ (x : Nat → Value) (w' : World), x 7 = .int .i64 (s + u * v) → SC w0 w' Bx z A1 c1 (some ⟨b, o, none⟩) c2 Ap cp n P b (o + k * 2) u v → Q .normal (Eng.setAll a0 [7, 69, 70, 71, 72, 73, 74, 75, 76, 77, 78, 79, 80, 81, 82, 83] x) w') :
    (Code.region 16 ops true).wp Tryz.prog Q a0 w := by
  simp only [Eng.fnOps, Eng.regOps, Tryz.f11, Option.bind_some, Option.getD_some, Nat.reduceEqDiff, ↓reduceIte, Nat.reduceBEq] at hops
  subst hops
  have q1 : (0 : Int) ≤ (k : Int) := by omega
  have q2 : (k : Int) < (z.F.length : Int) := by omega
  have HSt := Lib.hid (hst.fr (Fr.drew _ _))
  have hSS : w.drew.cell? ⟨Bx, 5, none⟩ = some (.slice (some ⟨b, o, none⟩) z.F.length c2) ∧ w.drew.cell? ⟨b, o + k * 2, none⟩ = some (.int .i64 u) ∧ w.drew.cell? ⟨b, o + k * 2 + 1, none⟩ = some (.int .i64 v) := ⟨HSt.out.s.b.cell 5, HSt.out.u, HSt.out.v⟩
  refine Eng.regionN [(0, true), (1, true), (2, true), (3, true), (4, true), (5, true), (6, true), (7, true), (8, true), (9, true), (10, true), (11, true), (12, true), (13, true), (14, true), (15, true)] (fun w' => w'.cell? ⟨Bx, 5, none⟩ = some (.slice (some ⟨b, o, none⟩) z.F.length c2) ∧ w'.cell? ⟨b, o + k * 2, none⟩ = some (.int .i64 u) ∧ w'.cell? ⟨b, o + k * 2 + 1, none⟩ = some (.int .i64 v)) (by kernel_rfl) 192 hn (by kernel_rfl) rfl (by kernel_rfl) (hSS) (fun a b ha hb => ?_)
  subst ha
  have hb7 : b 7 = .int .i64 s := (hb 7).symm.trans h_7
  have hb4 : b 4 = .pointer (some ⟨Bx, 0, none⟩) := (hb 4).symm.trans h_4
  have hb10 : b 10 = .int .i64 k := (hb 10).symm.trans h_10
  clear hb h_7 h_4 h_10
  have HP := Lib.hid hpost; have HN := Lib.hid hn
  clear hpost hn
  refine Eng.Sch.take (v := ?_) rfl rfl (by decide) (by kernel_rfl) (fun w hw => ?_) ?_
  rotate_left
  · (try dsimp only at hw); go_simp; first | done | with_reducible rfl
  refine Eng.Sch.take (v := ?_) rfl rfl (by decide) (by kernel_rfl) (fun w hw => ?_) ?_
  rotate_left
  · (try dsimp only at hw); go_simp; first | done | with_reducible rfl
  refine Eng.Sch.take (v := ?_) rfl rfl (by decide) (by kernel_rfl) (fun w hw => ?_) ?_
  rotate_left
  · (try dsimp only at hw); go_simp; first | done | with_reducible rfl
  refine Eng.Sch.take (v := ?_) rfl rfl (by decide) (by kernel_rfl) (fun w hw => ?_) ?_
  rotate_left
  · (try dsimp only at hw); go_simp; first | done | with_reducible rfl
  refine Eng.Sch.take (v := ?_) rfl rfl (by decide) (by kernel_rfl) (fun w hw => ?_) ?_
  rotate_left
  · (try dsimp only at hw); go_simp; first | done | with_reducible rfl
  refine Eng.Sch.take (v := ?_) rfl rfl (by decide) (by kernel_rfl) (fun w hw => ?_) ?_
  rotate_left
  · (try dsimp only at hw); go_simp; first | done | with_reducible rfl
  refine Eng.Sch.take (v := ?_) rfl rfl (by decide) (by kernel_rfl) (fun w hw => ?_) ?_
  rotate_left
  · (try dsimp only at hw); go_simp; first | done | with_reducible rfl
  refine Eng.Sch.take (v := ?_) rfl rfl (by decide) (by kernel_rfl) (fun w hw => ?_) ?_
  rotate_left
  · (try dsimp only at hw); go_simp; first | done | with_reducible rfl
  refine Eng.Sch.take (v := ?_) rfl rfl (by decide) (by kernel_rfl) (fun w hw => ?_) ?_
  rotate_left
  · (try dsimp only at hw); go_simp; first | done | with_reducible rfl
  refine Eng.Sch.take (v := ?_) rfl rfl (by decide) (by kernel_rfl) (fun w hw => ?_) ?_
  rotate_left
  · (try dsimp only at hw); go_simp; first | done | with_reducible rfl
  refine Eng.Sch.take (v := ?_) rfl rfl (by decide) (by kernel_rfl) (fun w hw => ?_) ?_
  rotate_left
  · (try dsimp only at hw); go_simp; first | done | with_reducible rfl
  refine Eng.Sch.take (v := ?_) rfl rfl (by decide) (by kernel_rfl) (fun w hw => ?_) ?_
  rotate_left
  · (try dsimp only at hw); go_simp; first | done | with_reducible rfl
  refine Eng.Sch.take (v := ?_) rfl rfl (by decide) (by kernel_rfl) (fun w hw => ?_) ?_
  rotate_left
  · (try dsimp only at hw); go_simp; first | done | with_reducible rfl
  refine Eng.Sch.take (v := ?_) rfl rfl (by decide) (by kernel_rfl) (fun w hw => ?_) ?_
  rotate_left
  · (try dsimp only at hw); go_simp; first | done | with_reducible rfl
  refine Eng.Sch.take (v := ?_) rfl rfl (by decide) (by kernel_rfl) (fun w hw => ?_) ?_
  rotate_left
  · (try dsimp only at hw); go_simp; first | done | with_reducible rfl
  refine Eng.Sch.take (v := ?_) rfl rfl (by decide) (by kernel_rfl) (fun w hw => ?_) ?_
  rotate_left
  · (try dsimp only at hw); go_simp; first | done | with_reducible rfl
  refine Eng.Sch.end_ [7, 69, 70, 71, 72, 73, 74, 75, 76, 77, 78, 79, 80, 81, 82, 83] HN.out (by kernel_rfl) (by kernel_rfl) ?_
  exact HP.out _ _ rfl HSt.out

set_option maxRecDepth 100000 in
set_option maxHeartbeats 3000000 in
theorem ss17o {ops : Array Oper} (hops : Eng.fnOps Tryz.f11 17 = ops) (a0 : Act) (Q : Exit → Act → World → Prop) (w0 w : World) (Bx : Nat) (z : ShapeP.Shp) (A1 : Option Addr) (c1 : Nat) (c2 : Nat) (Ap : Option Addr) (cp n : Nat) (P : List ClsF.Pc) (b o : Nat) (u v : Int) (hst : SC w0 w Bx z A1 c1 (some ⟨b, o, none⟩) c2 Ap cp n P b o u v) (hk : 0 < z.F.length) (hv : decide (v < 1) = false) (hu : decide (u < 0) = false)
    (hn : a0.tmps.size = 192) (h_4 : a0.tmps.getD 4 undef = .pointer (some ⟨Bx, 0, none⟩)) (h_10 : a0.tmps.getD 10 undef = .int .i64 0)
    (hpost : ∀ (x : Nat → Value) (w' : World), x 119 = .bool false → SC w0 w' Bx z A1 c1 (some ⟨b, o, none⟩) c2 Ap cp n P b o u v → Q .normal (Eng.setAll a0 [84, 85, 86, 87, 88, 89, 90, 91, 92, 93, 94, 95, 96, 97, 98, 99, 100, 101, 102, 103, 104, 105, 106, 107, 108, 109, 110, 111, 112, 113, 114, 115, 116, 117, 118, 119] x) w') :
    (Code.region 17 ops true).wp Tryz.prog Q a0 w := by
  simp only [Eng.fnOps, Eng.regOps, Tryz.f11, Option.bind_some, Option.getD_some, Nat.reduceEqDiff, ↓reduceIte, Nat.reduceBEq] at hops
  subst hops
  have q2 : (0 : Int) < (z.F.length : Int) := by omega
  have HSt := Lib.hid (hst.fr (Fr.drew _ _))
  have hSS : w.drew.cell? ⟨Bx, 5, none⟩ = some (.slice (some ⟨b, o, none⟩) z.F.length c2) ∧ w.drew.cell? ⟨b, o, none⟩ = some (.int .i64 u) ∧ w.drew.cell? ⟨b, o + 1, none⟩ = some (.int .i64 v) := ⟨HSt.out.s.b.cell 5, HSt.out.u, HSt.out.v⟩
  refine Eng.regionN [(0, true), (1, true), (2, true), (3, true), (4, true), (5, true), (6, true), (7, true), (8, true), (9, true), (10, true), (11, true), (12, true), (13, true), (14, true), (15, true), (16, true), (17, true), (18, true), (19, true), (20, true), (21, true), (22, true), (23, true), (24, true), (25, true), (26, true), (27, true), (28, true), (29, true), (30, true), (31, true), (32, true), (33, true), (34, true), (35, true)] (fun w' => w'.cell? ⟨Bx, 5, none⟩ = some (.slice (some ⟨b, o, none⟩) z.F.length c2) ∧ w'.cell? ⟨b, o, none⟩ = some (.int .i64 u) ∧ w'.cell? ⟨b, o + 1, none⟩ = some (.int .i64 v)) (by kernel_rfl) 192 hn (by kernel_rfl) rfl (by kernel_rfl) (hSS) (fun a b ha hb => ?_)
  subst ha
  have hb4 : b 4 = .pointer (some ⟨Bx, 0, none⟩) := (hb 4).symm.trans h_4
  have hb10 : b 10 = .int .i64 0 := (hb 10).symm.trans h_10
  clear hb h_4 h_10
  have HP := Lib.hid hpost; have HN := Lib.hid hn
  clear hpost hn
  refine Eng.Sch.take (v := ?_) rfl rfl (by decide) (by kernel_rfl) (fun w hw => ?_) ?_
  rotate_left
  · (try dsimp only at hw); go_simp; first | done | with_reducible rfl
  refine Eng.Sch.take (v := ?_) rfl rfl (by decide) (by kernel_rfl) (fun w hw => ?_) ?_
  rotate_left
  · (try dsimp only at hw); go_simp; first | done | with_reducible rfl
  refine Eng.Sch.take (v := ?_) rfl rfl (by decide) (by kernel_rfl) (fun w hw => ?_) ?_
  rotate_left
  · (try dsimp only at hw); go_simp; first | done | with_reducible rfl
  refine Eng.Sch.take (v := ?_) rfl rfl (by decide) (by kernel_rfl) (fun w hw => ?_) ?_
  rotate_left
  · (try dsimp only at hw); go_simp; first | done | with_reducible rfl
  refine Eng.Sch.take (v := ?_) rfl rfl (by decide) (by kernel_rfl) (fun w hw => ?_) ?_
  rotate_left
  · (try dsimp only at hw); go_simp; first | done | with_reducible rfl
  refine Eng.Sch.take (v := ?_) rfl rfl (by decide) (by kernel_rfl) (fun w hw => ?_) ?_
  rotate_left
  · (try dsimp only at hw); go_simp; first | done | with_reducible rfl
  refine Eng.Sch.take (v := ?_) rfl rfl (by decide) (by kernel_rfl) (fun w hw => ?_) ?_
  rotate_left
  · (try dsimp only at hw); go_simp; first | done | with_reducible rfl
  refine Eng.Sch.take (v := ?_) rfl rfl (by decide) (by kernel_rfl) (fun w hw => ?_) ?_
  rotate_left
  · (try dsimp only at hw); go_simp; first | done | with_reducible rfl
  refine Eng.Sch.take (v := ?_) rfl rfl (by decide) (by kernel_rfl) (fun w hw => ?_) ?_
  rotate_left
  · (try dsimp only at hw); go_simp; first | done | with_reducible rfl
  refine Eng.Sch.take (v := ?_) rfl rfl (by decide) (by kernel_rfl) (fun w hw => ?_) ?_
  rotate_left
  · (try dsimp only at hw); go_simp; first | done | with_reducible rfl
  refine Eng.Sch.take (v := ?_) rfl rfl (by decide) (by kernel_rfl) (fun w hw => ?_) ?_
  rotate_left
  · (try dsimp only at hw); go_simp; first | done | with_reducible rfl
  refine Eng.Sch.take (v := ?_) rfl rfl (by decide) (by kernel_rfl) (fun w hw => ?_) ?_
  rotate_left
  · (try dsimp only at hw); go_simp; first | done | with_reducible rfl
  refine Eng.Sch.take (v := ?_) rfl rfl (by decide) (by kernel_rfl) (fun w hw => ?_) ?_
  rotate_left
  · (try dsimp only at hw); go_simp; first | done | with_reducible rfl
  refine Eng.Sch.take (v := ?_) rfl rfl (by decide) (by kernel_rfl) (fun w hw => ?_) ?_
  rotate_left
  · (try dsimp only at hw); go_simp; first | done | with_reducible rfl
  refine Eng.Sch.take (v := ?_) rfl rfl (by decide) (by kernel_rfl) (fun w hw => ?_) ?_
  rotate_left
  · (try dsimp only at hw); go_simp; first | done | with_reducible rfl
  refine Eng.Sch.take (v := ?_) rfl rfl (by decide) (by kernel_rfl) (fun w hw => ?_) ?_
  rotate_left
  · (try dsimp only at hw); go_simp; first | done | with_reducible rfl
  refine Eng.Sch.take (v := ?_) rfl rfl (by decide) (by kernel_rfl) (fun w hw => ?_) ?_
  rotate_left
  · (try dsimp only at hw); go_simp; first | done | with_reducible rfl
  refine Eng.Sch.take (v := ?_) rfl rfl (by decide) (by kernel_rfl) (fun w hw => ?_) ?_
  rotate_left
  · (try dsimp only at hw); go_simp; first | done | with_reducible rfl
  refine Eng.Sch.take (v := ?_) rfl rfl (by decide) (by kernel_rfl) (fun w hw => ?_) ?_
  rotate_left
  · (try dsimp only at hw); go_simp; first | done | with_reducible rfl
  refine Eng.Sch.take (v := ?_) rfl rfl (by decide) (by kernel_rfl) (fun w hw => ?_) ?_
  rotate_left
  · (try dsimp only at hw); go_simp; first | done | with_reducible rfl
  refine Eng.Sch.skip rfl rfl (by decide) (by kernel_rfl) ?_
  refine Eng.Sch.skip rfl rfl (by decide) (by kernel_rfl) ?_
  refine Eng.Sch.skip rfl rfl (by decide) (by kernel_rfl) ?_
  refine Eng.Sch.skip rfl rfl (by decide) (by kernel_rfl) ?_
  refine Eng.Sch.skip rfl rfl (by decide) (by kernel_rfl) ?_
  refine Eng.Sch.skip rfl rfl (by decide) (by kernel_rfl) ?_
  refine Eng.Sch.skip rfl rfl (by decide) (by kernel_rfl) ?_
  refine Eng.Sch.skip rfl rfl (by decide) (by kernel_rfl) ?_
  refine Eng.Sch.skip rfl rfl (by decide) (by kernel_rfl) ?_
  refine Eng.Sch.skip rfl rfl (by decide) (by kernel_rfl) ?_
  refine Eng.Sch.skip rfl rfl (by decide) (by kernel_rfl) ?_
  refine Eng.Sch.skip rfl rfl (by decide) (by kernel_rfl) ?_
  refine Eng.Sch.skip rfl rfl (by decide) (by kernel_rfl) ?_
  refine Eng.Sch.skip rfl rfl (by decide) (by kernel_rfl) ?_
  refine Eng.Sch.take (v := ?_) rfl rfl (by decide) (by kernel_rfl) (fun w hw => ?_) ?_
  rotate_left
  · (try dsimp only at hw); go_simp; first | done | with_reducible rfl
  refine Eng.Sch.take (v := ?_) rfl rfl (by decide) (by kernel_rfl) (fun w hw => ?_) ?_
  rotate_left
  · (try dsimp only at hw); go_simp; first | done | with_reducible rfl
  refine Eng.Sch.end_ [84, 85, 86, 87, 88, 89, 90, 91, 92, 93, 94, 95, 96, 97, 98, 99, 100, 101, 102, 103, 104, 105, 106, 107, 108, 109, 110, 111, 112, 113, 114, 115, 116, 117, 118, 119] HN.out (by kernel_rfl) (by kernel_rfl) ?_
  exact HP.out _ _ rfl HSt.out

structure SD (w0 w : World) (Bx : Nat) (z : ShapeP.Shp) (A1 : Option Addr) (c1 : Nat) (A2 : Option Addr) (c2 : Nat) (Ap : Option Addr) (cp n : Nat) (P : List ClsF.Pc) (b o : Nat) (u v : Int) (o' : Nat) (u' : Int) : Prop where
  c : SC w0 w Bx z A1 c1 A2 c2 Ap cp n P b o u v
  e : w.cell? ⟨b, o', none⟩ = some (.int .i64 u')
theorem SD.fr {w0 w w' : World} {Bx : Nat} {z : ShapeP.Shp} {A1 : Option Addr} {c1 : Nat} {A2 : Option Addr} {c2 : Nat} {Ap : Option Addr} {cp n : Nat} {P : List ClsF.Pc} {b o : Nat} {u v : Int} {o' : Nat} {u' : Int} (h : SD w0 w Bx z A1 c1 A2 c2 Ap cp n P b o u v o' u') (hf : Fr (fun _ => False) w w') : SD w0 w' Bx z A1 c1 A2 c2 Ap cp n P b o u v o' u' :=
  ⟨h.c.fr hf, (World.cell?_of_block (w := w) (a := ⟨b, o', none⟩) (hf.block b (World.block_lt_of_cell? w ⟨b, o', none⟩ h.e) (fun h => h))).trans h.e⟩
set_option maxRecDepth 100000 in
set_option maxHeartbeats 3000000 in
theorem ss17 {ops : Array Oper} (hops : Eng.fnOps Tryz.f11 17 = ops) (a0 : Act) (Q : Exit → Act → World → Prop) (w0 w : World) (Bx : Nat) (z : ShapeP.Shp) (A1 : Option Addr) (c1 : Nat) (c2 : Nat) (Ap : Option Addr) (cp n : Nat) (P : List ClsF.Pc) (b o j : Nat) (u v u' : Int) (hst : SD w0 w Bx z A1 c1 (some ⟨b, o, none⟩) c2 Ap cp n P b (o + (j + 1) * 2) u v (o + j * 2) u') (hk : j + 1 < z.F.length) (hl : z.F.length ≤ 1000000) (hv : decide (v < 1) = false) (hu : decide (u < 0) = false) (hlt : decide (u ≤ u') = false)
    (hn : a0.tmps.size = 192) (h_4 : a0.tmps.getD 4 undef = .pointer (some ⟨Bx, 0, none⟩)) (h_10 : a0.tmps.getD 10 undef = .int .i64 ((j + 1 : Nat) : Int))
    (hpost : ∀ (x : Nat → Value) (w' : World), x 119 = .bool false → SC w0 w' Bx z A1 c1 (some ⟨b, o, none⟩) c2 Ap cp n P b (o + (j + 1) * 2) u v → Q .normal (Eng.setAll a0 [84, 85, 86, 87, 88, 89, 90, 91, 92, 93, 94, 95, 96, 97, 98, 99, 100, 101, 102, 103, 104, 105, 106, 107, 108, 109, 110, 111, 112, 113, 114, 115, 116, 117, 118, 119] x) w') :
    (Code.region 17 ops true).wp Tryz.prog Q a0 w := by
  simp only [Eng.fnOps, Eng.regOps, Tryz.f11, Option.bind_some, Option.getD_some, Nat.reduceEqDiff, ↓reduceIte, Nat.reduceBEq] at hops
  subst hops
  have q1 : IntKind.i64.wrap (j : Int) = (j : Int) := by rw [IntKind.wrap_i64]; omega
  have q2 : (0 : Int) ≤ (j : Int) := by omega
  have q3 : (j : Int) < (z.F.length : Int) := by omega
  have q4 : (0 : Int) ≤ (j : Int) + 1 := by omega
  have q5 : (j : Int) + 1 < (z.F.length : Int) := by omega
  have q6 : (0 : Int) < (j : Int) + 1 := by omega
  have q7 : wrap64 (j : Int) = (j : Int) := by unfold wrap64; omega
  have HSt := Lib.hid (hst.fr (Fr.drew _ _))
  have hSS : w.drew.cell? ⟨Bx, 5, none⟩ = some (.slice (some ⟨b, o, none⟩) z.F.length c2) ∧ w.drew.cell? ⟨b, o + (j + 1) * 2, none⟩ = some (.int .i64 u) ∧ w.drew.cell? ⟨b, o + (j + 1) * 2 + 1, none⟩ = some (.int .i64 v) ∧ w.drew.cell? ⟨b, o + j * 2, none⟩ = some (.int .i64 u') := ⟨HSt.out.c.s.b.cell 5, HSt.out.c.u, HSt.out.c.v, HSt.out.e⟩
  refine Eng.regionN [(0, true), (1, true), (2, true), (3, true), (4, true), (5, true), (6, true), (7, true), (8, true), (9, true), (10, true), (11, true), (12, true), (13, true), (14, true), (15, true), (16, true), (17, true), (18, true), (19, true), (20, true), (21, true), (22, true), (23, true), (24, true), (25, true), (26, true), (27, true), (28, true), (29, true), (30, true), (31, true), (32, true), (33, true), (34, true), (35, true)] (fun w' => w'.cell? ⟨Bx, 5, none⟩ = some (.slice (some ⟨b, o, none⟩) z.F.length c2) ∧ w'.cell? ⟨b, o + (j + 1) * 2, none⟩ = some (.int .i64 u) ∧ w'.cell? ⟨b, o + (j + 1) * 2 + 1, none⟩ = some (.int .i64 v) ∧ w'.cell? ⟨b, o + j * 2, none⟩ = some (.int .i64 u')) (by kernel_rfl) 192 hn (by kernel_rfl) rfl (by kernel_rfl) (hSS) (fun a b ha hb => ?_)
  subst ha
  have hb4 : b 4 = .pointer (some ⟨Bx, 0, none⟩) := (hb 4).symm.trans h_4
  have hb10 : b 10 = .int .i64 ((j + 1 : Nat) : Int) := (hb 10).symm.trans h_10
  clear hb h_4 h_10
  have HP := Lib.hid hpost; have HN := Lib.hid hn
  clear hpost hn
  refine Eng.Sch.take (v := ?_) rfl rfl (by decide) (by kernel_rfl) (fun w hw => ?_) ?_
  rotate_left
  · (try dsimp only at hw); go_simp; first | done | with_reducible rfl
  refine Eng.Sch.take (v := ?_) rfl rfl (by decide) (by kernel_rfl) (fun w hw => ?_) ?_
  rotate_left
  · (try dsimp only at hw); go_simp; first | done | with_reducible rfl
  refine Eng.Sch.take (v := ?_) rfl rfl (by decide) (by kernel_rfl) (fun w hw => ?_) ?_
  rotate_left
  · (try dsimp only at hw); go_simp; first | done | with_reducible rfl
  refine Eng.Sch.take (v := ?_) rfl rfl (by decide) (by kernel_rfl) (fun w hw => ?_) ?_
  rotate_left
  · (try dsimp only at hw); go_simp; first | done | with_reducible rfl
  refine Eng.Sch.take (v := ?_) rfl rfl (by decide) (by kernel_rfl) (fun w hw => ?_) ?_
  rotate_left
  · (try dsimp only at hw); go_simp; first | done | with_reducible rfl
  refine Eng.Sch.take (v := ?_) rfl rfl (by decide) (by kernel_rfl) (fun w hw => ?_) ?_
  rotate_left
  · (try dsimp only at hw); go_simp; first | done | with_reducible rfl
  refine Eng.Sch.take (v := ?_) rfl rfl (by decide) (by kernel_rfl) (fun w hw => ?_) ?_
  rotate_left
  · (try dsimp only at hw); go_simp; first | done | with_reducible rfl
  refine Eng.Sch.take (v := ?_) rfl rfl (by decide) (by kernel_rfl) (fun w hw => ?_) ?_
  rotate_left
  · (try dsimp only at hw); go_simp; first | done | with_reducible rfl
  refine Eng.Sch.take (v := ?_) rfl rfl (by decide) (by kernel_rfl) (fun w hw => ?_) ?_
  rotate_left
  · (try dsimp only at hw); go_simp; first | done | with_reducible rfl
  refine Eng.Sch.take (v := ?_) rfl rfl (by decide) (by kernel_rfl) (fun w hw => ?_) ?_
  rotate_left
  · (try dsimp only at hw); go_simp; first | done | with_reducible rfl
  refine Eng.Sch.take (v := ?_) rfl rfl (by decide) (by kernel_rfl) (fun w hw => ?_) ?_
  rotate_left
  · (try dsimp only at hw); go_simp; first | done | with_reducible rfl
  refine Eng.Sch.take (v := ?_) rfl rfl (by decide) (by kernel_rfl) (fun w hw => ?_) ?_
  rotate_left
  · (try dsimp only at hw); go_simp; first | done | with_reducible rfl
  refine Eng.Sch.take (v := ?_) rfl rfl (by decide) (by kernel_rfl) (fun w hw => ?_) ?_
  rotate_left
  · (try dsimp only at hw); go_simp; first | done | with_reducible rfl
  refine Eng.Sch.take (v := ?_) rfl rfl (by decide) (by kernel_rfl) (fun w hw => ?_) ?_
  rotate_left
  · (try dsimp only at hw); go_simp; first | done | with_reducible rfl
  refine Eng.Sch.take (v := ?_) rfl rfl (by decide) (by kernel_rfl) (fun w hw => ?_) ?_
  rotate_left
  · (try dsimp only at hw); go_simp; first | done | with_reducible rfl
  refine Eng.Sch.take (v := ?_) rfl rfl (by decide) (by kernel_rfl) (fun w hw => ?_) ?_
  rotate_left
  · (try dsimp only at hw); go_simp; first | done | with_reducible rfl
  refine Eng.Sch.take (v := ?_) rfl rfl (by decide) (by kernel_rfl) (fun w hw => ?_) ?_
  rotate_left
  · (try dsimp only at hw); go_simp; first | done | with_reducible rfl
  refine Eng.Sch.take (v := ?_) rfl rfl (by decide) (by kernel_rfl) (fun w hw => ?_) ?_
  rotate_left
  · (try dsimp only at hw); go_simp; first | done | with_reducible rfl
  refine Eng.Sch.take (v := ?_) rfl rfl (by decide) (by kernel_rfl) (fun w hw => ?_) ?_
  rotate_left
  · (try dsimp only at hw); go_simp; first | done | with_reducible rfl
  refine Eng.Sch.take (v := ?_) rfl rfl (by decide) (by kernel_rfl) (fun w hw => ?_) ?_
  rotate_left
  · (try dsimp only at hw); go_simp; first | done | with_reducible rfl
  refine Eng.Sch.take (v := ?_) rfl rfl (by decide) (by kernel_rfl) (fun w hw => ?_) ?_
  rotate_left
  · (try dsimp only at hw); go_simp; first | done | with_reducible rfl
  refine Eng.Sch.take (v := ?_) rfl rfl (by decide) (by kernel_rfl) (fun w hw => ?_) ?_
  rotate_left
  · (try dsimp only at hw); go_simp; first | done | with_reducible rfl
  refine Eng.Sch.take (v := ?_) rfl rfl (by decide) (by kernel_rfl) (fun w hw => ?_) ?_
  rotate_left
  · (try dsimp only at hw); go_simp; first | done | with_reducible rfl
  refine Eng.Sch.take (v := ?_) rfl rfl (by decide) (by kernel_rfl) (fun w hw => ?_) ?_
  rotate_left
  · (try dsimp only at hw); go_simp; first | done | with_reducible rfl
  refine Eng.Sch.take (v := ?_) rfl rfl (by decide) (by kernel_rfl) (fun w hw => ?_) ?_
  rotate_left
  · (try dsimp only at hw); go_simp; first | done | with_reducible rfl
  refine Eng.Sch.take (v := ?_) rfl rfl (by decide) (by kernel_rfl) (fun w hw => ?_) ?_
  rotate_left
  · (try dsimp only at hw); go_simp; first | done | with_reducible rfl
  refine Eng.Sch.take (v := ?_) rfl rfl (by decide) (by kernel_rfl) (fun w hw => ?_) ?_
  rotate_left
  · (try dsimp only at hw); go_simp; first | done | with_reducible rfl
  refine Eng.Sch.take (v := ?_) rfl rfl (by decide) (by kernel_rfl) (fun w hw => ?_) ?_
  rotate_left
  · (try dsimp only at hw); go_simp; first | done | with_reducible rfl
  refine Eng.Sch.take (v := ?_) rfl rfl (by decide) (by kernel_rfl) (fun w hw => ?_) ?_
  rotate_left
  · (try dsimp only at hw); go_simp; first | done | with_reducible rfl
  refine Eng.Sch.take (v := ?_) rfl rfl (by decide) (by kernel_rfl) (fun w hw => ?_) ?_
  rotate_left
  · (try dsimp only at hw); go_simp; first | done | with_reducible rfl
  refine Eng.Sch.take (v := ?_) rfl rfl (by decide) (by kernel_rfl) (fun w hw => ?_) ?_
  rotate_left
  · (try dsimp only at hw); go_simp; first | done | with_reducible rfl
  refine Eng.Sch.take (v := ?_) rfl rfl (by decide) (by kernel_rfl) (fun w hw => ?_) ?_
  rotate_left
  · (try dsimp only at hw); go_simp; first | done | with_reducible rfl
  refine Eng.Sch.take (v := ?_) rfl rfl (by decide) (by kernel_rfl) (fun w hw => ?_) ?_
  rotate_left
  · (try dsimp only at hw); go_simp; first | done | with_reducible rfl
  refine Eng.Sch.take (v := ?_) rfl rfl (by decide) (by kernel_rfl) (fun w hw => ?_) ?_
  rotate_left
  · (try dsimp only at hw); go_simp; first | done | with_reducible rfl
  refine Eng.Sch.take (v := ?_) rfl rfl (by decide) (by kernel_rfl) (fun w hw => ?_) ?_
  rotate_left
  · (try dsimp only at hw); go_simp; first | done | with_reducible rfl
  refine Eng.Sch.take (v := ?_) rfl rfl (by decide) (by kernel_rfl) (fun w hw => ?_) ?_
  rotate_left
  · (try dsimp only at hw); go_simp; first | done | with_reducible rfl
  refine Eng.Sch.end_ [84, 85, 86, 87, 88, 89, 90, 91, 92, 93, 94, 95, 96, 97, 98, 99, 100, 101, 102, 103, 104, 105, 106, 107, 108, 109, 110, 111, 112, 113, 114, 115, 116, 117, 118, 119] HN.out (by kernel_rfl) (by kernel_rfl) ?_
  exact HP.out _ _ rfl HSt.out.c

structure SN (w0 w : World) (Bx : Nat) (z : ShapeP.Shp) (A1 : Option Addr) (c1 : Nat) (A2 : Option Addr) (c2 : Nat) (Ap : Option Addr) (cp n : Nat) (P : List ClsF.Pc) (Aa : Option Addr) (ca : Nat) (M : List Sn) (b o : Nat) (y : Sn) : Prop where
  s : SX w0 w Bx z A1 c1 A2 c2 Ap cp n P
  l : Ls w Aa ca M
  a : At w b o y
theorem SN.fr {w0 w w' : World} {Bx : Nat} {z : ShapeP.Shp} {A1 : Option Addr} {c1 : Nat} {A2 : Option Addr} {c2 : Nat} {Ap : Option Addr} {cp n : Nat} {P : List ClsF.Pc} {Aa : Option Addr} {ca : Nat} {M : List Sn} {b o : Nat} {y : Sn} (h : SN w0 w Bx z A1 c1 A2 c2 Ap cp n P Aa ca M b o y) (hf : Fr (fun _ => False) w w') : SN w0 w' Bx z A1 c1 A2 c2 Ap cp n P Aa ca M b o y := ⟨h.s.fr hf, h.l.keep hf, h.a.fr hf (fun h => h)⟩
set_option maxRecDepth 100000 in
set_option maxHeartbeats 1000000 in
theorem ss23 {ops : Array Oper} (hops : Eng.fnOps Tryz.f11 23 = ops) (a0 : Act) (Q : Exit → Act → World → Prop) (w0 w : World) (Bx : Nat) (z : ShapeP.Shp) (A1 : Option Addr) (c1 : Nat) (A2 : Option Addr) (c2 : Nat) (Ap : Option Addr) (cp n : Nat) (P : List ClsF.Pc) (b1 o1 ca len k : Nat) (M : List Sn) (y : Sn) (kk : Int) (hst : SN w0 w Bx z A1 c1 A2 c2 Ap cp n P (some ⟨b1, o1, none⟩) ca M b1 (o1 + k * 9) y) (hk : k < len) (hlen : len ≤ 9223372036854775807) (hkk : fdI P y.t y.p = kk)
    (hn : a0.tmps.size = 192) (h_3 : a0.tmps.getD 3 undef = .slice Ap n cp) (h_11 : a0.tmps.getD 11 undef = .slice (some ⟨b1, o1, none⟩) len ca) (h_12 : a0.tmps.getD 12 undef = .int .i64 k)
    (hpost : ∀ (x : Nat → Value) (w' : World), x 140 = .bool (decide (kk ≥ 0)) → SN w0 w' Bx z A1 c1 A2 c2 Ap cp n P (some ⟨b1, o1, none⟩) ca M b1 (o1 + k * 9) y → Q .normal (Eng.setAll a0 [128, 129, 130, 131, 132, 133, 134, 135, 136, 137, 138, 139, 140] x) w') :
    (Code.region 23 ops true).wp Tryz.prog Q a0 w := by
  simp only [Eng.fnOps, Eng.regOps, Tryz.f11, Option.bind_some, Option.getD_some, Nat.reduceEqDiff, ↓reduceIte, Nat.reduceBEq] at hops
  subst hops
  have q1 : (0 : Int) ≤ (k : Int) := by omega
  have q2 : (k : Int) < (len : Int) := by omega
  have HSt := Lib.hid (hst.fr (Fr.drew _ _))
  have hSS : w.drew.cell? ⟨b1, o1 + k * 9, none⟩ = some (.int .i64 y.t) ∧ w.drew.cell? ⟨b1, o1 + k * 9 + 1 + 1, none⟩ = some (.int .i64 y.p) := ⟨HSt.out.a 0 _ rfl, HSt.out.a 2 _ rfl⟩
  refine Eng.regionN [(0, true), (1, true), (2, true), (3, true), (4, true), (5, true), (6, true), (7, true), (8, true), (9, true), (10, true), (11, false), (12, true)] (fun w' => w'.cell? ⟨b1, o1 + k * 9, none⟩ = some (.int .i64 y.t) ∧ w'.cell? ⟨b1, o1 + k * 9 + 1 + 1, none⟩ = some (.int .i64 y.p)) (by kernel_rfl) 192 hn (by kernel_rfl) rfl (by kernel_rfl) (hSS) (fun a b ha hb => ?_)
  subst ha
  have hb3 : b 3 = .slice Ap n cp := (hb 3).symm.trans h_3
  have hb11 : b 11 = .slice (some ⟨b1, o1, none⟩) len ca := (hb 11).symm.trans h_11
  have hb12 : b 12 = .int .i64 k := (hb 12).symm.trans h_12
  clear hb h_3 h_11 h_12
  have HP := Lib.hid hpost; have HN := Lib.hid hn
  clear hpost hn
  refine Eng.Sch.take (v := ?_) rfl rfl (by decide) (by kernel_rfl) (fun w hw => ?_) ?_
  rotate_left
  · (try dsimp only at hw); go_simp; first | done | with_reducible rfl
  refine Eng.Sch.take (v := ?_) rfl rfl (by decide) (by kernel_rfl) (fun w hw => ?_) ?_
  rotate_left
  · (try dsimp only at hw); go_simp; first | done | with_reducible rfl
  refine Eng.Sch.take (v := ?_) rfl rfl (by decide) (by kernel_rfl) (fun w hw => ?_) ?_
  rotate_left
  · (try dsimp only at hw); go_simp; first | done | with_reducible rfl
  refine Eng.Sch.take (v := ?_) rfl rfl (by decide) (by kernel_rfl) (fun w hw => ?_) ?_
  rotate_left
  · (try dsimp only at hw); go_simp; first | done | with_reducible rfl
  refine Eng.Sch.take (v := ?_) rfl rfl (by decide) (by kernel_rfl) (fun w hw => ?_) ?_
  rotate_left
  · (try dsimp only at hw); go_simp; first | done | with_reducible rfl
  refine Eng.Sch.take (v := ?_) rfl rfl (by decide) (by kernel_rfl) (fun w hw => ?_) ?_
  rotate_left
  · (try dsimp only at hw); go_simp; first | done | with_reducible rfl
  refine Eng.Sch.take (v := ?_) rfl rfl (by decide) (by kernel_rfl) (fun w hw => ?_) ?_
  rotate_left
  · (try dsimp only at hw); go_simp; first | done | with_reducible rfl
  refine Eng.Sch.take (v := ?_) rfl rfl (by decide) (by kernel_rfl) (fun w hw => ?_) ?_
  rotate_left
  · (try dsimp only at hw); go_simp; first | done | with_reducible rfl
  refine Eng.Sch.take (v := ?_) rfl rfl (by decide) (by kernel_rfl) (fun w hw => ?_) ?_
  rotate_left
  · (try dsimp only at hw); go_simp; first | done | with_reducible rfl
  refine Eng.Sch.take (v := ?_) rfl rfl (by decide) (by kernel_rfl) (fun w hw => ?_) ?_
  rotate_left
  · (try dsimp only at hw); go_simp; first | done | with_reducible rfl
  refine Eng.Sch.take (v := ?_) rfl rfl (by decide) (by kernel_rfl) (fun w hw => ?_) ?_
  rotate_left
  · (try dsimp only at hw); go_simp; first | done | with_reducible rfl
  refine Eng.Sch.call rfl rfl (by decide) (by kernel_rfl) ?_ (Law21.FindE HSt.out.s.p y.t y.p kk hkk) ?_
  · go_simp
  rintro e w2 ⟨rfl, hf⟩
  have HSt1 := Lib.hid (HSt.out.fr hf)
  have hSS : w2.cell? ⟨b1, o1 + k * 9, none⟩ = some (.int .i64 y.t) ∧ w2.cell? ⟨b1, o1 + k * 9 + 1 + 1, none⟩ = some (.int .i64 y.p) := ⟨HSt1.out.a 0 _ rfl, HSt1.out.a 2 _ rfl⟩
  refine ⟨_, rfl, hSS, ?_⟩
  refine Eng.Sch.take (v := ?_) rfl rfl (by decide) (by kernel_rfl) (fun w hw => ?_) ?_
  rotate_left
  · (try dsimp only at hw); go_simp; first | done | with_reducible rfl
  refine Eng.Sch.end_ [128, 129, 130, 131, 132, 133, 134, 135, 136, 137, 138, 139, 140] HN.out (by kernel_rfl) (by kernel_rfl) ?_
  exact HP.out _ _ rfl HSt1.out

set_option maxRecDepth 100000 in
set_option maxHeartbeats 4000000 in
theorem ss25 {ops : Array Oper} (hops : Eng.fnOps Tryz.f11 25 = ops) (a0 : Act) (Q : Exit → Act → World → Prop) (w0 w : World) (Bx : Nat) (z : ShapeP.Shp) (A1 : Option Addr) (c1 : Nat) (A2 : Option Addr) (c2 : Nat) (Ap : Option Addr) (cp n : Nat) (P : List ClsF.Pc) (hst : SX w0 w Bx z A1 c1 A2 c2 Ap cp n P) (bb : Int) (e1 : z.n = (n : Int)) (e2 : IntKind.i64.wrap (z.r + z.o) = z.r + z.o) (e3 : IntKind.i64.wrap (z.r + z.o + z.c) = z.r + z.o + z.c) (e4 : z.r + z.o + z.c = (n : Int)) (e8 : ShapeP.great z.D = (z.D.length : Int))
    (hn : a0.tmps.size = 192) (h_3 : a0.tmps.getD 3 undef = .slice Ap n cp) (h_4 : a0.tmps.getD 4 undef = .pointer (some ⟨Bx, 0, none⟩)) (h_5 : a0.tmps.getD 5 undef = .int .i64 (z.r + z.o)) (h_6 : a0.tmps.getD 6 undef = .int .i64 (n : Int)) (h_7 : a0.tmps.getD 7 undef = .int .i64 bb) (h_8 : a0.tmps.getD 8 undef = .int .i64 bb)
    (hpost : ∀ (x : Nat → Value) (w' : World), x 2 = .bool true → SX w0 w' Bx z A1 c1 A2 c2 Ap cp n P → Q .normal (Eng.setAll a0 [2, 143, 144, 145, 146, 147, 148, 149, 150, 151, 152, 153, 154, 155, 156, 157, 158, 159, 160, 161, 162, 163, 164, 165, 166, 167, 168, 169, 170, 171, 172, 173, 174, 175, 176, 177, 178, 179, 180, 181, 182, 183, 184, 185, 186, 187, 188, 189, 190, 191] x) w') :
    (Code.region 25 ops true).wp Tryz.prog Q a0 w := by
  simp only [Eng.fnOps, Eng.regOps, Tryz.f11, Option.bind_some, Option.getD_some, Nat.reduceEqDiff, ↓reduceIte, Nat.reduceBEq] at hops
  subst hops
  rw [e4] at e3
  have HSt := Lib.hid (hst.fr (Fr.drew _ _))
  have hSS : w.drew.cell? ⟨Bx, 0, none⟩ = some (.int .i64 z.n) ∧ w.drew.cell? ⟨Bx, 1, none⟩ = some (.int .i64 z.r) ∧ w.drew.cell? ⟨Bx, 2, none⟩ = some (.int .i64 z.o) ∧ w.drew.cell? ⟨Bx, 3, none⟩ = some (.int .i64 z.c) ∧ w.drew.cell? ⟨Bx, 4, none⟩ = some (.slice A1 z.D.length c1) ∧ w.drew.cell? ⟨Bx, 5, none⟩ = some (.slice A2 z.F.length c2) := ⟨HSt.out.b.cell 0, HSt.out.b.cell 1, HSt.out.b.cell 2, HSt.out.b.cell 3, HSt.out.b.cell 4, HSt.out.b.cell 5⟩
  refine Eng.regionN [(0, true), (1, true), (2, true), (3, true), (4, true), (5, true), (6, true), (7, true), (8, true), (9, true), (10, true), (11, true), (12, true), (13, true), (14, true), (15, true), (16, true), (17, true), (18, true), (19, true), (20, true), (21, true), (22, true), (23, true), (24, true), (25, true), (26, true), (27, true), (28, true), (29, true), (30, true), (31, true), (32, true), (33, true), (34, true), (35, true), (36, true), (37, true), (38, true), (39, true), (41, true), (42, true), (43, true), (40, false), (44, true), (45, true), (46, true), (47, false), (48, true), (49, true)] (fun w' => w'.cell? ⟨Bx, 0, none⟩ = some (.int .i64 z.n) ∧ w'.cell? ⟨Bx, 1, none⟩ = some (.int .i64 z.r) ∧ w'.cell? ⟨Bx, 2, none⟩ = some (.int .i64 z.o) ∧ w'.cell? ⟨Bx, 3, none⟩ = some (.int .i64 z.c) ∧ w'.cell? ⟨Bx, 4, none⟩ = some (.slice A1 z.D.length c1) ∧ w'.cell? ⟨Bx, 5, none⟩ = some (.slice A2 z.F.length c2)) (by kernel_rfl) 192 hn (by kernel_rfl) rfl (by kernel_rfl) (hSS) (fun a b ha hb => ?_)
  subst ha
  have hb3 : b 3 = .slice Ap n cp := (hb 3).symm.trans h_3
  have hb4 : b 4 = .pointer (some ⟨Bx, 0, none⟩) := (hb 4).symm.trans h_4
  have hb5 : b 5 = .int .i64 (z.r + z.o) := (hb 5).symm.trans h_5
  have hb6 : b 6 = .int .i64 (n : Int) := (hb 6).symm.trans h_6
  have hb7 : b 7 = .int .i64 bb := (hb 7).symm.trans h_7
  have hb8 : b 8 = .int .i64 bb := (hb 8).symm.trans h_8
  clear hb h_3 h_4 h_5 h_6 h_7 h_8
  have HP := Lib.hid hpost; have HN := Lib.hid hn
  clear hpost hn
  refine Eng.Sch.take (v := ?_) rfl rfl (by decide) (by kernel_rfl) (fun w hw => ?_) ?_
  rotate_left
  · (try dsimp only at hw); go_simp; first | done | with_reducible rfl
  refine Eng.Sch.take (v := ?_) rfl rfl (by decide) (by kernel_rfl) (fun w hw => ?_) ?_
  rotate_left
  · (try dsimp only at hw); go_simp; first | done | with_reducible rfl
  refine Eng.Sch.take (v := ?_) rfl rfl (by decide) (by kernel_rfl) (fun w hw => ?_) ?_
  rotate_left
  · (try dsimp only at hw); go_simp; first | done | with_reducible rfl
  refine Eng.Sch.take (v := ?_) rfl rfl (by decide) (by kernel_rfl) (fun w hw => ?_) ?_
  rotate_left
  · (try dsimp only at hw); go_simp; first | done | with_reducible rfl
  refine Eng.Sch.take (v := ?_) rfl rfl (by decide) (by kernel_rfl) (fun w hw => ?_) ?_
  rotate_left
  · (try dsimp only at hw); go_simp; first | done | with_reducible rfl
  refine Eng.Sch.take (v := ?_) rfl rfl (by decide) (by kernel_rfl) (fun w hw => ?_) ?_
  rotate_left
  · (try dsimp only at hw); go_simp; first | done | with_reducible rfl
  refine Eng.Sch.take (v := ?_) rfl rfl (by decide) (by kernel_rfl) (fun w hw => ?_) ?_
  rotate_left
  · (try dsimp only at hw); go_simp; first | done | with_reducible rfl
  refine Eng.Sch.take (v := ?_) rfl rfl (by decide) (by kernel_rfl) (fun w hw => ?_) ?_
  rotate_left
  · (try dsimp only at hw); go_simp; first | done | with_reducible rfl
  refine Eng.Sch.take (v := ?_) rfl rfl (by decide) (by kernel_rfl) (fun w hw => ?_) ?_
  rotate_left
  · (try dsimp only at hw); go_simp; first | done | with_reducible rfl
  refine Eng.Sch.take (v := ?_) rfl rfl (by decide) (by kernel_rfl) (fun w hw => ?_) ?_
  rotate_left
  · (try dsimp only at hw); go_simp; first | done | with_reducible rfl
  refine Eng.Sch.take (v := ?_) rfl rfl (by decide) (by kernel_rfl) (fun w hw => ?_) ?_
  rotate_left
  · (try dsimp only at hw); go_simp; first | done | with_reducible rfl
  refine Eng.Sch.take (v := ?_) rfl rfl (by decide) (by kernel_rfl) (fun w hw => ?_) ?_
  rotate_left
  · (try dsimp only at hw); go_simp; first | done | with_reducible rfl
  refine Eng.Sch.take (v := ?_) rfl rfl (by decide) (by kernel_rfl) (fun w hw => ?_) ?_
  rotate_left
  · (try dsimp only at hw); go_simp; first | done | with_reducible rfl
  refine Eng.Sch.take (v := ?_) rfl rfl (by decide) (by kernel_rfl) (fun w hw => ?_) ?_
  rotate_left
  · (try dsimp only at hw); go_simp; first | done | with_reducible rfl
  refine Eng.Sch.take (v := ?_) rfl rfl (by decide) (by kernel_rfl) (fun w hw => ?_) ?_
  rotate_left
  · (try dsimp only at hw); go_simp; first | done | with_reducible rfl
  refine Eng.Sch.take (v := ?_) rfl rfl (by decide) (by kernel_rfl) (fun w hw => ?_) ?_
  rotate_left
  · (try dsimp only at hw); go_simp; first | done | with_reducible rfl
  refine Eng.Sch.take (v := ?_) rfl rfl (by decide) (by kernel_rfl) (fun w hw => ?_) ?_
  rotate_left
  · (try dsimp only at hw); go_simp; first | done | with_reducible rfl
  refine Eng.Sch.take (v := ?_) rfl rfl (by decide) (by kernel_rfl) (fun w hw => ?_) ?_
  rotate_left
  · (try dsimp only at hw); go_simp; first | done | with_reducible rfl
  refine Eng.Sch.take (v := ?_) rfl rfl (by decide) (by kernel_rfl) (fun w hw => ?_) ?_
  rotate_left
  · (try dsimp only at hw); go_simp; first | done | with_reducible rfl
  refine Eng.Sch.take (v := ?_) rfl rfl (by decide) (by kernel_rfl) (fun w hw => ?_) ?_
  rotate_left
  · (try dsimp only at hw); go_simp; first | done | with_reducible rfl
  refine Eng.Sch.take (v := ?_) rfl rfl (by decide) (by kernel_rfl) (fun w hw => ?_) ?_
  rotate_left
  · (try dsimp only at hw); go_simp; first | done | with_reducible rfl
  refine Eng.Sch.take (v := ?_) rfl rfl (by decide) (by kernel_rfl) (fun w hw => ?_) ?_
  rotate_left
  · (try dsimp only at hw); go_simp; first | done | with_reducible rfl
  refine Eng.Sch.take (v := ?_) rfl rfl (by decide) (by kernel_rfl) (fun w hw => ?_) ?_
  rotate_left
  · (try dsimp only at hw); go_simp; first | done | with_reducible rfl
  refine Eng.Sch.take (v := ?_) rfl rfl (by decide) (by kernel_rfl) (fun w hw => ?_) ?_
  rotate_left
  · (try dsimp only at hw); go_simp; first | done | with_reducible rfl
  refine Eng.Sch.take (v := ?_) rfl rfl (by decide) (by kernel_rfl) (fun w hw => ?_) ?_
  rotate_left
  · (try dsimp only at hw); go_simp; first | done | with_reducible rfl
  refine Eng.Sch.take (v := ?_) rfl rfl (by decide) (by kernel_rfl) (fun w hw => ?_) ?_
  rotate_left
  · (try dsimp only at hw); go_simp; first | done | with_reducible rfl
  refine Eng.Sch.take (v := ?_) rfl rfl (by decide) (by kernel_rfl) (fun w hw => ?_) ?_
  rotate_left
  · (try dsimp only at hw); go_simp; first | done | with_reducible rfl
  refine Eng.Sch.take (v := ?_) rfl rfl (by decide) (by kernel_rfl) (fun w hw => ?_) ?_
  rotate_left
  · (try dsimp only at hw); go_simp; first | done | with_reducible rfl
  refine Eng.Sch.take (v := ?_) rfl rfl (by decide) (by kernel_rfl) (fun w hw => ?_) ?_
  rotate_left
  · (try dsimp only at hw); go_simp; first | done | with_reducible rfl
  refine Eng.Sch.take (v := ?_) rfl rfl (by decide) (by kernel_rfl) (fun w hw => ?_) ?_
  rotate_left
  · (try dsimp only at hw); go_simp; first | done | with_reducible rfl
  refine Eng.Sch.take (v := ?_) rfl rfl (by decide) (by kernel_rfl) (fun w hw => ?_) ?_
  rotate_left
  · (try dsimp only at hw); go_simp; first | done | with_reducible rfl
  refine Eng.Sch.take (v := ?_) rfl rfl (by decide) (by kernel_rfl) (fun w hw => ?_) ?_
  rotate_left
  · (try dsimp only at hw); go_simp; first | done | with_reducible rfl
  refine Eng.Sch.take (v := ?_) rfl rfl (by decide) (by kernel_rfl) (fun w hw => ?_) ?_
  rotate_left
  · (try dsimp only at hw); go_simp; first | done | with_reducible rfl
  refine Eng.Sch.take (v := ?_) rfl rfl (by decide) (by kernel_rfl) (fun w hw => ?_) ?_
  rotate_left
  · (try dsimp only at hw); go_simp; first | done | with_reducible rfl
  refine Eng.Sch.take (v := ?_) rfl rfl (by decide) (by kernel_rfl) (fun w hw => ?_) ?_
  rotate_left
  · (try dsimp only at hw); go_simp; first | done | with_reducible rfl
  refine Eng.Sch.take (v := ?_) rfl rfl (by decide) (by kernel_rfl) (fun w hw => ?_) ?_
  rotate_left
  · (try dsimp only at hw); go_simp; first | done | with_reducible rfl
  refine Eng.Sch.take (v := ?_) rfl rfl (by decide) (by kernel_rfl) (fun w hw => ?_) ?_
  rotate_left
  · (try dsimp only at hw); go_simp; first | done | with_reducible rfl
  refine Eng.Sch.take (v := ?_) rfl rfl (by decide) (by kernel_rfl) (fun w hw => ?_) ?_
  rotate_left
  · (try dsimp only at hw); go_simp; first | done | with_reducible rfl
  refine Eng.Sch.take (v := ?_) rfl rfl (by decide) (by kernel_rfl) (fun w hw => ?_) ?_
  rotate_left
  · (try dsimp only at hw); go_simp; first | done | with_reducible rfl
  refine Eng.Sch.take (v := ?_) rfl rfl (by decide) (by kernel_rfl) (fun w hw => ?_) ?_
  rotate_left
  · (try dsimp only at hw); go_simp; first | done | with_reducible rfl
  refine Eng.Sch.take (v := ?_) rfl rfl (by decide) (by kernel_rfl) (fun w hw => ?_) ?_
  rotate_left
  · (try dsimp only at hw); go_simp; first | done | with_reducible rfl
  refine Eng.Sch.take (v := ?_) rfl rfl (by decide) (by kernel_rfl) (fun w hw => ?_) ?_
  rotate_left
  · (try dsimp only at hw); go_simp; first | done | with_reducible rfl
  refine Eng.Sch.take (v := ?_) rfl rfl (by decide) (by kernel_rfl) (fun w hw => ?_) ?_
  rotate_left
  · (try dsimp only at hw); go_simp; first | done | with_reducible rfl
  refine Eng.Sch.call rfl rfl (by decide) (by kernel_rfl) ?_ (Shape.Deepest z A1 A2 c1 c2 _ HSt.out.d) ?_
  · go_simp
  rintro e w2 ⟨rfl, hf⟩
  have HSt1 := Lib.hid (HSt.out.fr hf)
  have hSS : w2.cell? ⟨Bx, 0, none⟩ = some (.int .i64 z.n) ∧ w2.cell? ⟨Bx, 1, none⟩ = some (.int .i64 z.r) ∧ w2.cell? ⟨Bx, 2, none⟩ = some (.int .i64 z.o) ∧ w2.cell? ⟨Bx, 3, none⟩ = some (.int .i64 z.c) ∧ w2.cell? ⟨Bx, 4, none⟩ = some (.slice A1 z.D.length c1) ∧ w2.cell? ⟨Bx, 5, none⟩ = some (.slice A2 z.F.length c2) := ⟨HSt1.out.b.cell 0, HSt1.out.b.cell 1, HSt1.out.b.cell 2, HSt1.out.b.cell 3, HSt1.out.b.cell 4, HSt1.out.b.cell 5⟩
  refine ⟨_, rfl, hSS, ?_⟩
  refine Eng.Sch.take (v := ?_) rfl rfl (by decide) (by kernel_rfl) (fun w hw => ?_) ?_
  rotate_left
  · (try dsimp only at hw); go_simp; first | done | with_reducible rfl
  refine Eng.Sch.take (v := ?_) rfl rfl (by decide) (by kernel_rfl) (fun w hw => ?_) ?_
  rotate_left
  · (try dsimp only at hw); go_simp; first | done | with_reducible rfl
  refine Eng.Sch.take (v := ?_) rfl rfl (by decide) (by kernel_rfl) (fun w hw => ?_) ?_
  rotate_left
  · (try dsimp only at hw); go_simp; first | done | with_reducible rfl
  refine Eng.Sch.call rfl rfl (by decide) (by kernel_rfl) ?_ (awake _) ?_
  · go_simp
  rintro e w3 ⟨rfl, hf2⟩
  have HSt2 := Lib.hid (HSt1.out.fr hf2)
  have hSS : w3.cell? ⟨Bx, 0, none⟩ = some (.int .i64 z.n) ∧ w3.cell? ⟨Bx, 1, none⟩ = some (.int .i64 z.r) ∧ w3.cell? ⟨Bx, 2, none⟩ = some (.int .i64 z.o) ∧ w3.cell? ⟨Bx, 3, none⟩ = some (.int .i64 z.c) ∧ w3.cell? ⟨Bx, 4, none⟩ = some (.slice A1 z.D.length c1) ∧ w3.cell? ⟨Bx, 5, none⟩ = some (.slice A2 z.F.length c2) := ⟨HSt2.out.b.cell 0, HSt2.out.b.cell 1, HSt2.out.b.cell 2, HSt2.out.b.cell 3, HSt2.out.b.cell 4, HSt2.out.b.cell 5⟩
  refine ⟨_, rfl, hSS, ?_⟩
  refine Eng.Sch.take (v := ?_) rfl rfl (by decide) (by kernel_rfl) (fun w hw => ?_) ?_
  rotate_left
  · (try dsimp only at hw); go_simp; first | done | with_reducible rfl
  refine Eng.Sch.take (v := ?_) rfl rfl (by decide) (by kernel_rfl) (fun w hw => ?_) ?_
  rotate_left
  · (try dsimp only at hw); go_simp; first | done | with_reducible rfl
  refine Eng.Sch.end_ [2, 143, 144, 145, 146, 147, 148, 149, 150, 151, 152, 153, 154, 155, 156, 157, 158, 159, 160, 161, 162, 163, 164, 165, 166, 167, 168, 169, 170, 171, 172, 173, 174, 175, 176, 177, 178, 179, 180, 181, 182, 183, 184, 185, 186, 187, 188, 189, 190, 191] HN.out (by kernel_rfl) (by kernel_rfl) ?_
  exact HP.out _ _ rfl HSt2.out

end Law23
end Go.Proofs.YtgfjpnpbkkadpaaGreat
