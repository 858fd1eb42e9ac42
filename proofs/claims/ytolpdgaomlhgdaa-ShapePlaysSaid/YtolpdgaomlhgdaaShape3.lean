/- Shapes: are there as many places of each kind as are asked for? -/
import Derived.Test.YtolpdgaomlhgdaaShape
namespace Go.Proofs.Ytolpdgaomlhgdaa
open Go.RowKit
namespace Shape
open BagP Bag ShapeP Fm
attribute [local go_sem] Eng.ev Eng.getO_cons Eng.getO_nil
/-- A view's kinds, for reading. -/
def RK (w : World) (B : Nat) (mk : Option Nat) (l : List K3) : Prop := w.cell? ⟨B, 0, none⟩ = some (.map mk) ∧ B < w.heap.size ∧ ((mk = none ∧ l = []) ∨ ∃ r n, mk = some r ∧ FM TK kv okK w r n (fun k => cn (fun y => y == k) l))
theorem RK.fr {w w' : World} {B : Nat} {mk : Option Nat} {l : List K3} (h : RK w B mk l) (hf : Fr (fun _ => False) w w') : RK w' B mk l := by
  obtain ⟨h1, h2, h3⟩ := h
  refine ⟨(World.cell?_of_block (w := w) (a := ⟨B, 0, none⟩) (hf.block B h2 (fun h => h))).trans h1, Nat.lt_of_lt_of_le h2 hf.size, ?_⟩
  rcases h3 with h3 | ⟨r, n, e, h3⟩
  · exact .inl h3
  · exact .inr ⟨r, n, e, h3.fr hf (fun _ _ h => h)⟩
theorem RK.look {w : World} {B : Nat} {mk : Option Nat} {l : List K3} (h : RK w B mk l) {k : K3} (hk : okK k) : (Instr.lookup TMK (.map mk) (kv k) false).run Try.prog w = .ok (.int .i64 (cn (fun y => y == k) l)) w := by
  obtain ⟨h1, h2, h3⟩ := h
  rcases h3 with ⟨rfl, rfl⟩ | ⟨r, n, rfl, h3⟩
  · exact Fm.look_none KK uMK hk
  · exact h3.look KK uMK hk
structure HA (w0 w : World) (ra n Bp : Nat) (la : List K3) (x : Pl) : Prop where
  a : FM TK kv okK w ra n (fun k => cn (fun y => y == k) la)
  p : Bk w Bp (pla x) TP
  f : Fr (fun _ => False) w0 w
  nr : w0.heap.size ≤ ra
  ne : ra ≠ Bp
section
variable {w0 w w' : World} {ra n Bp : Nat} {la la' : List K3} {x : Pl}
theorem HA.fr (h : HA w0 w ra n Bp la x) (hf : Fr (fun _ => False) w w') : HA w0 w' ra n Bp la x := ⟨h.a.fr hf (fun _ _ h => h), h.p.fr hf (fun _ _ h => h), h.f.trans hf (fun _ _ h => h) (fun _ _ h => h), h.nr, h.ne⟩
theorem HA.asks (h : HA w0 w ra n Bp la x) (hk : okK x.k) {m : Int} (hm : cn (fun y => y == x.k) la = m) (hl : la.length < 100000) (hn : n + 2 < 1000000) :
    Calls Try.prog 124 #[plv x] w fun e w' => e = .returned (kv x.k) ∧ (Instr.lookup TMK (.map (some ra)) (kv x.k) false).run Try.prog w' = .ok (.int .i64 m) w' ∧
      ∃ w3 s, (Instr.mapEntry TMK (.map (some ra)) (kv x.k)).run Try.prog w' = .ok (.tuple #[.int .i64 m, .int .i64 (s : Nat)]) w3 ∧ (Instr.lookup TMK (.map (some ra)) (kv x.k) false).run Try.prog w3 = .ok (.int .i64 m) w3 ∧
        ∃ w4, (Instr.entryStore TMK (.map (some ra)) (.int .i64 (s : Nat)) (.int .i64 (m + 1))).run Try.prog w3 = .ok () w4 ∧ Hid (HA w0 w4 ra (n + 2) Bp (la ++ [x.k]) x) := by
  refine (of_ x w).mono ?_
  rintro e w' ⟨rfl, hf⟩
  have h' := h.fr hf
  have l1 := h'.a.look KK uMK hk
  have rg := cn_range (fun y => y == x.k) la
  obtain ⟨w3, s, hen, hs3, hf3⟩ := h'.a.entry KK uMK hk (wf_cn (by omega)) (by omega)
  have l3 := hs3.1.look KK uMK hk
  obtain ⟨w4, hst, hm4, hf4⟩ := hs3.store KK uMK hk (v := m + 1) (wf_small (by omega) (by omega)) (f' := fun j => cn (fun y => y == j) (la ++ [x.k])) (by rw [cn_snoc, hm]; simp) (fun j hj => by rw [cn_snoc, if_neg (by simpa using fun e => hj e.symm)]; omega) (by omega)
  have hfr := hf3.trans hf4 (T := (· = ra)) (fun _ _ h => h) (fun _ _ h => h)
  rw [hm] at l1 hen l3
  refine ⟨rfl, l1, w3, s, hen, l3, w4, hst, hm4, h'.p.fr hfr (fun b hb e => by simp at hb; exact h'.ne (e.symm.trans hb)), h'.f.trans hfr (fun _ _ h => h) (fun i hi e => by have := h'.nr; omega), h'.nr, h'.ne⟩
end
structure HB2 (w0 w : World) (ra n Bp : Nat) (la : List K3) (x : Pl) (B : Nat) (mk : Option Nat) (l : List K3) : Prop where
  h : HA w0 w ra n Bp la x
  r : RK w B mk l
theorem HB2.fr {w0 w w' : World} {ra n Bp : Nat} {la : List K3} {x : Pl} {B : Nat} {mk : Option Nat} {l : List K3} (h : HB2 w0 w ra n Bp la x B mk l) (hf : Fr (fun _ => False) w w') : HB2 w0 w' ra n Bp la x B mk l := ⟨h.h.fr hf, h.r.fr hf⟩
theorem ofc3 (t i c d p f : Int) (w : World) : Calls Try.prog 124 #[.agg #[.int .i64 t, .int .i64 i, .int .i64 c, .int .i64 d, .int .i64 p, .int .i64 f]] w fun e w' => e = .returned (.agg #[.int .i64 c, .int .i64 d, .int .i64 f]) ∧ Fr (fun _ => False) w w' := of_ ⟨t, i, c, d, p, f⟩ w
set_option maxRecDepth 100000 in
set_option maxHeartbeats 400000 in
theorem h6 {ops : Array Oper} (hops : Eng.fnOps Try.f113 6 = ops) (a0 : Act) (Q : Exit → Act → World → Prop) (w0 : World) (w : World) (ra n : Nat) (la : List K3) (Bp : Nat) (t i c d p f : Int) (B : Nat) (mk : Option Nat) (l : List K3) (hst : HB2 w0 w ra n Bp la ⟨t, i, c, d, p, f⟩ B mk l) (m1 m2 : Int) (hk : okK (c, d, f)) (h1 : Hid (cn (fun y => y == (c, d, f)) la = m1)) (h2 : Hid (cn (fun y => y == (c, d, f)) l = m2)) (bb : Bool) (q : decide (m2 < m1) = bb)
    (hn : a0.tmps.size = 39) (h_0 : a0.tmps.getD 0 undef = .pointer (some ⟨B, 0, none⟩)) (h_5 : a0.tmps.getD 5 undef = .map (some ra)) (h_7 : a0.tmps.getD 7 undef = .pointer (some ⟨Bp, 0, none⟩))
    (hpost : ∀ (x : Nat → Value) (w' : World), x 37 = .bool bb → HB2 w0 w' ra n Bp la ⟨t, i, c, d, p, f⟩ B mk l → Q .normal (Eng.setAll a0 [22, 23, 24, 25, 26, 27, 28, 29, 30, 31, 32, 33, 34, 35, 36, 37] x) w') :
    (Code.region 6 ops true).wp Try.prog Q a0 w := by
  simp only [Eng.fnOps, Eng.regOps, Try.f113, Option.bind_some, Option.getD_some, Nat.reduceEqDiff, ↓reduceIte, Nat.reduceBEq] at hops
  subst hops
  have HSt := Lib.hid (hst.fr (Fr.drew _ _))
  have hSS : w.drew.cell? ⟨Bp, 0, none⟩ = some (.int .i64 t) ∧ w.drew.cell? ⟨Bp, 1, none⟩ = some (.int .i64 i) ∧ w.drew.cell? ⟨Bp, 2, none⟩ = some (.int .i64 c) ∧ w.drew.cell? ⟨Bp, 3, none⟩ = some (.int .i64 d) ∧ w.drew.cell? ⟨Bp, 4, none⟩ = some (.int .i64 p) ∧ w.drew.cell? ⟨Bp, 5, none⟩ = some (.int .i64 f) ∧ w.drew.cell? ⟨B, 0, none⟩ = some (.map mk) ∧ (Instr.lookup TMK (.map (some ra)) (.agg #[.int .i64 c, .int .i64 d, .int .i64 f]) false).run Try.prog w.drew = .ok (.int .i64 m1) w.drew ∧ (Instr.lookup TMK (.map mk) (.agg #[.int .i64 c, .int .i64 d, .int .i64 f]) false).run Try.prog w.drew = .ok (.int .i64 m2) w.drew := ⟨HSt.out.h.p.cell 0, HSt.out.h.p.cell 1, HSt.out.h.p.cell 2, HSt.out.h.p.cell 3, HSt.out.h.p.cell 4, HSt.out.h.p.cell 5, HSt.out.r.1, (by have e1 := HSt.out.h.a.look KK uMK hk; rw [h1.out] at e1; exact e1), (by have e1 := HSt.out.r.look hk; rw [h2.out] at e1; exact e1)⟩
  refine Eng.regionN [(0, true), (1, true), (2, true), (3, true), (4, true), (7, true), (8, true), (9, true), (10, true), (11, true), (5, false), (6, true), (12, false), (13, true), (14, true), (15, true)] (fun w' => w'.cell? ⟨Bp, 0, none⟩ = some (.int .i64 t) ∧ w'.cell? ⟨Bp, 1, none⟩ = some (.int .i64 i) ∧ w'.cell? ⟨Bp, 2, none⟩ = some (.int .i64 c) ∧ w'.cell? ⟨Bp, 3, none⟩ = some (.int .i64 d) ∧ w'.cell? ⟨Bp, 4, none⟩ = some (.int .i64 p) ∧ w'.cell? ⟨Bp, 5, none⟩ = some (.int .i64 f) ∧ w'.cell? ⟨B, 0, none⟩ = some (.map mk) ∧ (Instr.lookup TMK (.map (some ra)) (.agg #[.int .i64 c, .int .i64 d, .int .i64 f]) false).run Try.prog w' = .ok (.int .i64 m1) w' ∧ (Instr.lookup TMK (.map mk) (.agg #[.int .i64 c, .int .i64 d, .int .i64 f]) false).run Try.prog w' = .ok (.int .i64 m2) w') (by kernel_rfl) 39 hn (by kernel_rfl) rfl (by kernel_rfl) (hSS) (fun a b ha hb => ?_)
  subst ha
  have hb0 : b 0 = .pointer (some ⟨B, 0, none⟩) := (hb 0).symm.trans h_0
  have hb5 : b 5 = .map (some ra) := (hb 5).symm.trans h_5
  have hb7 : b 7 = .pointer (some ⟨Bp, 0, none⟩) := (hb 7).symm.trans h_7
  clear hb h_0 h_5 h_7
  have HP := Lib.hid hpost; have HN := Lib.hid hn
  clear hpost hn
  refine Eng.Sch.take (v := ?_) rfl rfl (by decide) (by kernel_rfl) (fun w hw => ?_) ?_
  rotate_left
  · (try dsimp only at hw); go_simp; first | done | with_reducible rfl
  refine Eng.Sch.take (v := ?_) rfl rfl (by decide) (by kernel_rfl) (fun w hw => ?_) ?_
  rotate_left
  · (try dsimp only at hw); go_simp; first | done | with_reducible rfl
  refine Eng.Sch.take (v := ?_) rfl rfl (by decide) (by kernel_rfl) (fun w hw => ?_) ?_
  rotate_left
  · (try dsimp only at hw); go_simp; first | done | with_reducible rfl
  refine Eng.Sch.take (v := ?_) rfl rfl (by decide) (by kernel_rfl) (fun w hw => ?_) ?_
  rotate_left
  · (try dsimp only at hw); go_simp; first | done | with_reducible rfl
  refine Eng.Sch.take (v := ?_) rfl rfl (by decide) (by kernel_rfl) (fun w hw => ?_) ?_
  rotate_left
  · (try dsimp only at hw); go_simp; first | done | with_reducible rfl
  refine Eng.Sch.take (v := ?_) rfl rfl (by decide) (by kernel_rfl) (fun w hw => ?_) ?_
  rotate_left
  · (try dsimp only at hw); go_simp; first | done | with_reducible rfl
  refine Eng.Sch.take (v := ?_) rfl rfl (by decide) (by kernel_rfl) (fun w hw => ?_) ?_
  rotate_left
  · (try dsimp only at hw); go_simp; first | done | with_reducible rfl
  refine Eng.Sch.take (v := ?_) rfl rfl (by decide) (by kernel_rfl) (fun w hw => ?_) ?_
  rotate_left
  · (try dsimp only at hw); go_simp; first | done | with_reducible rfl
  refine Eng.Sch.take (v := ?_) rfl rfl (by decide) (by kernel_rfl) (fun w hw => ?_) ?_
  rotate_left
  · (try dsimp only at hw); go_simp; first | done | with_reducible rfl
  refine Eng.Sch.take (v := ?_) rfl rfl (by decide) (by kernel_rfl) (fun w hw => ?_) ?_
  rotate_left
  · (try dsimp only at hw); go_simp; first | done | with_reducible rfl
  refine Eng.Sch.call rfl rfl (by decide) (by kernel_rfl) ?_ (ofc3 t i c d p f _) ?_
  · go_simp
  rintro e w2 ⟨rfl, hf⟩
  have HSt1 := Lib.hid (HSt.out.fr hf)
  have hSS : w2.cell? ⟨Bp, 0, none⟩ = some (.int .i64 t) ∧ w2.cell? ⟨Bp, 1, none⟩ = some (.int .i64 i) ∧ w2.cell? ⟨Bp, 2, none⟩ = some (.int .i64 c) ∧ w2.cell? ⟨Bp, 3, none⟩ = some (.int .i64 d) ∧ w2.cell? ⟨Bp, 4, none⟩ = some (.int .i64 p) ∧ w2.cell? ⟨Bp, 5, none⟩ = some (.int .i64 f) ∧ w2.cell? ⟨B, 0, none⟩ = some (.map mk) ∧ (Instr.lookup TMK (.map (some ra)) (.agg #[.int .i64 c, .int .i64 d, .int .i64 f]) false).run Try.prog w2 = .ok (.int .i64 m1) w2 ∧ (Instr.lookup TMK (.map mk) (.agg #[.int .i64 c, .int .i64 d, .int .i64 f]) false).run Try.prog w2 = .ok (.int .i64 m2) w2 := ⟨HSt1.out.h.p.cell 0, HSt1.out.h.p.cell 1, HSt1.out.h.p.cell 2, HSt1.out.h.p.cell 3, HSt1.out.h.p.cell 4, HSt1.out.h.p.cell 5, HSt1.out.r.1, (by have e1 := HSt1.out.h.a.look KK uMK hk; rw [h1.out] at e1; exact e1), (by have e1 := HSt1.out.r.look hk; rw [h2.out] at e1; exact e1)⟩
  clear hf
  refine ⟨_, rfl, hSS, ?_⟩
  refine Eng.Sch.take (v := ?_) rfl rfl (by decide) (by kernel_rfl) (fun w hw => ?_) ?_
  rotate_left
  · (try dsimp only at hw); go_simp; first | done | with_reducible rfl
  refine Eng.Sch.call rfl rfl (by decide) (by kernel_rfl) ?_ (ofc3 t i c d p f _) ?_
  · go_simp
  rintro e w3 ⟨rfl, hf⟩
  have HSt2 := Lib.hid (HSt1.out.fr hf)
  have hSS : w3.cell? ⟨Bp, 0, none⟩ = some (.int .i64 t) ∧ w3.cell? ⟨Bp, 1, none⟩ = some (.int .i64 i) ∧ w3.cell? ⟨Bp, 2, none⟩ = some (.int .i64 c) ∧ w3.cell? ⟨Bp, 3, none⟩ = some (.int .i64 d) ∧ w3.cell? ⟨Bp, 4, none⟩ = some (.int .i64 p) ∧ w3.cell? ⟨Bp, 5, none⟩ = some (.int .i64 f) ∧ w3.cell? ⟨B, 0, none⟩ = some (.map mk) ∧ (Instr.lookup TMK (.map (some ra)) (.agg #[.int .i64 c, .int .i64 d, .int .i64 f]) false).run Try.prog w3 = .ok (.int .i64 m1) w3 ∧ (Instr.lookup TMK (.map mk) (.agg #[.int .i64 c, .int .i64 d, .int .i64 f]) false).run Try.prog w3 = .ok (.int .i64 m2) w3 := ⟨HSt2.out.h.p.cell 0, HSt2.out.h.p.cell 1, HSt2.out.h.p.cell 2, HSt2.out.h.p.cell 3, HSt2.out.h.p.cell 4, HSt2.out.h.p.cell 5, HSt2.out.r.1, (by have e1 := HSt2.out.h.a.look KK uMK hk; rw [h1.out] at e1; exact e1), (by have e1 := HSt2.out.r.look hk; rw [h2.out] at e1; exact e1)⟩
  clear hf
  refine ⟨_, rfl, hSS, ?_⟩
  refine Eng.Sch.take (v := ?_) rfl rfl (by decide) (by kernel_rfl) (fun w hw => ?_) ?_
  rotate_left
  · (try dsimp only at hw); go_simp; first | done | with_reducible rfl
  refine Eng.Sch.take (v := ?_) rfl rfl (by decide) (by kernel_rfl) (fun w hw => ?_) ?_
  rotate_left
  · (try dsimp only at hw); go_simp; first | done | with_reducible rfl
  refine Eng.Sch.take (v := ?_) rfl rfl (by decide) (by kernel_rfl) (fun w hw => ?_) ?_
  rotate_left
  · (try dsimp only at hw); go_simp; first | done | with_reducible rfl
  refine Eng.Sch.end_ [22, 23, 24, 25, 26, 27, 28, 29, 30, 31, 32, 33, 34, 35, 36, 37] HN.out (by kernel_rfl) (by kernel_rfl) ?_
  exact HP.out _ _ (by first | rfl | exact congrArg Value.bool q) HSt2.out

set_option maxRecDepth 100000 in
set_option maxHeartbeats 400000 in
theorem h6n {ops : Array Oper} (hops : Eng.fnOps Try.f113 6 = ops) (a0 : Act) (Q : Exit → Act → World → Prop) (w0 : World) (w : World) (hst : Fr (fun _ => False) w0 w)
    (hn : a0.tmps.size = 39) (h_0 : a0.tmps.getD 0 undef = .pointer none)
    (hpost : ∀ (x : Nat → Value) (w' : World), x 37 = .bool true → Fr (fun _ => False) w0 w' → Q .normal (Eng.setAll a0 [22, 23, 24, 25, 26, 27, 28, 29, 30, 31, 32, 33, 34, 35, 36, 37] x) w') :
    (Code.region 6 ops true).wp Try.prog Q a0 w := by
  simp only [Eng.fnOps, Eng.regOps, Try.f113, Option.bind_some, Option.getD_some, Nat.reduceEqDiff, ↓reduceIte, Nat.reduceBEq] at hops
  subst hops
  have HSt := Lib.hid (hst.trans (Fr.drew (fun _ => False) w) (T := fun _ => False) (fun _ _ h => h) (fun _ _ h => h))
  have hSS : True := trivial
  refine Eng.regionN [(0, true), (1, true), (2, true), (3, true), (4, true), (5, true), (6, true), (7, true), (8, true), (9, true), (10, true), (11, true), (12, true), (13, true), (14, true), (15, true)] (fun w' => True) (by kernel_rfl) 39 hn (by kernel_rfl) rfl (by kernel_rfl) (hSS) (fun a b ha hb => ?_)
  subst ha
  have hb0 : b 0 = .pointer none := (hb 0).symm.trans h_0
  clear hb h_0
  have HP := Lib.hid hpost; have HN := Lib.hid hn
  clear hpost hn
  refine Eng.Sch.take (v := ?_) rfl rfl (by decide) (by kernel_rfl) (fun w hw => ?_) ?_
  rotate_left
  · (try dsimp only at hw); go_simp; first | done | with_reducible rfl
  refine Eng.Sch.take (v := ?_) rfl rfl (by decide) (by kernel_rfl) (fun w hw => ?_) ?_
  rotate_left
  · (try dsimp only at hw); go_simp; first | done | with_reducible rfl
  refine Eng.Sch.take (v := ?_) rfl rfl (by decide) (by kernel_rfl) (fun w hw => ?_) ?_
  rotate_left
  · (try dsimp only at hw); go_simp; first | done | with_reducible rfl
  refine Eng.Sch.skip rfl rfl (by decide) (by kernel_rfl) ?_
  refine Eng.Sch.skip rfl rfl (by decide) (by kernel_rfl) ?_
  refine Eng.Sch.skip rfl rfl (by decide) (by kernel_rfl) ?_
  refine Eng.Sch.skip rfl rfl (by decide) (by kernel_rfl) ?_
  refine Eng.Sch.skip rfl rfl (by decide) (by kernel_rfl) ?_
  refine Eng.Sch.skip rfl rfl (by decide) (by kernel_rfl) ?_
  refine Eng.Sch.skip rfl rfl (by decide) (by kernel_rfl) ?_
  refine Eng.Sch.skip rfl rfl (by decide) (by kernel_rfl) ?_
  refine Eng.Sch.skip rfl rfl (by decide) (by kernel_rfl) ?_
  refine Eng.Sch.skip rfl rfl (by decide) (by kernel_rfl) ?_
  refine Eng.Sch.skip rfl rfl (by decide) (by kernel_rfl) ?_
  refine Eng.Sch.skip rfl rfl (by decide) (by kernel_rfl) ?_
  refine Eng.Sch.take (v := ?_) rfl rfl (by decide) (by kernel_rfl) (fun w hw => ?_) ?_
  rotate_left
  · (try dsimp only at hw); go_simp; first | done | with_reducible rfl
  refine Eng.Sch.end_ [22, 23, 24, 25, 26, 27, 28, 29, 30, 31, 32, 33, 34, 35, 36, 37] HN.out (by kernel_rfl) (by kernel_rfl) ?_
  exact HP.out _ _ rfl HSt.out

set_option maxRecDepth 100000 in
set_option maxHeartbeats 1000000 in
theorem has (B : Nat) (mk : Option Nat) (l : List K3) (A : Option Addr) (cp : Nat) (xs : List Pl) (w : World) (h : RK w B mk l) (hS : Sl w 6 A xs.length cp (xs.flatMap plc)) (hwf : ∀ x ∈ xs, okK x.k) (hx : xs.length ≤ 1000) :
    Calls Try.prog 113 #[.pointer (some ⟨B, 0, none⟩), .slice A xs.length cp] w fun e w' => e = .returned (.bool (hasB l (xs.map Pl.k))) ∧ Fr (fun _ => False) w w' := by
  have hlen : xs.length ≤ 9223372036854775807 := by have := hS.2.1; have := hS.2.2.1; unfold maxLen at this; omega
  have HS := Lib.hid hS; have HWf := Lib.hid hwf
  clear hS hwf
  have HR := Lib.hid h
  clear h
  have H0 := Lib.hid (FM.new (tk := TK) (kv := kv) (ok := okK) w)
  have hmm := @run_makeMap Try.prog
  go_enter Try.func113, Try.ntmps113
  go_wp2_with fail
  go_loopg [7, 11] xs.length (fun gk _ i wr => ∃ k : Nat, i = .int .i64 k ∧ k ≤ xs.length ∧ gk = xs.length - k ∧ hasB l ((xs.map Pl.k).take k) = true ∧ FM TK kv okK wr w.heap.size (2 * k) (fun j => cn (fun y => y == j) ((xs.map Pl.k).take k)) ∧ Fr (fun _ => False) w wr)
  case atStart => exact ⟨0, rfl, Nat.zero_le _, rfl, rfl, H0.out, Fr.alloc _ _ _⟩
  case round =>
    clear H0 hmm
    obtain ⟨k, rfl, hk, hg, hok, ha0, hfr⟩ := hrel
    have HG := Lib.hid hg; have HOk := Lib.hid hok; have HA0 := Lib.hid ha0; have HFr := Lib.hid hfr
    clear hg hok ha0 hfr
    by_cases hlt : k < xs.length
    · obtain ⟨b1, o1, rfl, hb1, hc1⟩ := HS.out.at hlt (by omega)
      have HBk := HFr.out.block b1 hb1 (fun h => h)
      have key : ∀ j u, j < 6 → (plc xs[k])[j]? = some u → wr.cell? ⟨b1, o1 + (k * 6 + j), none⟩ = some u := fun j u hj hu => by
        rw [World.cell?_of_block (w := w) (a := ⟨b1, _, none⟩) HBk]; exact hc1 _ u (by rw [flat_at plc_len hlt hj]; exact hu)
      have d0 : wr.cell? ⟨b1, o1 + k * 6, none⟩ = some (.int .i64 xs[k].t) := key 0 _ (by omega) rfl
      have d1 : wr.cell? ⟨b1, o1 + k * 6 + 1, none⟩ = some (.int .i64 xs[k].i) := key 1 _ (by omega) rfl
      have d2 : wr.cell? ⟨b1, o1 + k * 6 + 1 + 1, none⟩ = some (.int .i64 xs[k].c) := key 2 _ (by omega) rfl
      have d3 : wr.cell? ⟨b1, o1 + k * 6 + 1 + 1 + 1, none⟩ = some (.int .i64 xs[k].d) := key 3 _ (by omega) rfl
      have d4 : wr.cell? ⟨b1, o1 + k * 6 + 1 + 1 + 1 + 1, none⟩ = some (.int .i64 xs[k].p) := key 4 _ (by omega) rfl
      have d5 : wr.cell? ⟨b1, o1 + k * 6 + 1 + 1 + 1 + 1 + 1, none⟩ = some (.int .i64 xs[k].f) := key 5 _ (by omega) rfl
      have hkx := HWf.out _ (List.getElem_mem hlt)
      have H1 := Lib.hid (show HA w (wr.alloc (.cells (pla xs[k]) TP)) w.heap.size (2 * k) wr.heap.size ((xs.map Pl.k).take k) xs[k] from ⟨HA0.out.fr (Fr.alloc (fun _ => False) _ _) (fun _ _ h => h), Bk.new _ _ _, HFr.out.trans (Fr.alloc (fun _ => False) _ _) (fun _ _ h => h) (fun _ _ h => h), Nat.le_refl _, by have := HA0.out.lt; omega⟩)
      have hlt1 : (xs.map Pl.k).take (k + 1) = (xs.map Pl.k).take k ++ [xs[k].k] := by rw [List.take_succ_eq_append_getElem (by simpa using hlt)]; simp
      have hln : ((xs.map Pl.k).take k).length ≤ k := by simp; omega
      have HT := Lib.hid hlt1
      have hDr : xs.map Pl.k = (xs.map Pl.k).take k ++ [xs[k].k] ++ (xs.map Pl.k).drop (k + 1) := by rw [← hlt1, List.take_append_drop]
      have HDr := Lib.hid hDr
      clear hc1 key HBk hlt1 hDr HA0
      generalize hla : (xs.map Pl.k).take k = la at *
      have HLa := Lib.hid hla
      clear hla
      generalize xs[k] = x at *
      obtain ⟨t, i, c, d, p, f⟩ := x
      have hkx : okK (c, d, f) := hkx
      have HT : Hid ((xs.map Pl.k).take (k + 1) = la ++ [(c, d, f)]) := HT
      have HDr : Hid (xs.map Pl.k = la ++ [(c, d, f)] ++ (xs.map Pl.k).drop (k + 1)) := HDr
      dsimp only at d0 d1 d2 d3 d4 d5
      go_upto_region 5 with (fail)
      clear d0 d1 d2 d3 d4 d5
      have rg := cn_range (fun y => y == (c, d, f)) la
      have HE1 : Hid (cn (fun y => y == (c, d, f)) (la ++ [(c, d, f)]) = cn (fun y => y == (c, d, f)) la + 1) := by show _ = _; rw [cn_snoc]; simp
      have HEc : Hid (cn (fun y => y == (c, d, f)) la = (la.count (c, d, f) : Nat)) := rfl
      generalize hm1 : cn (fun y => y == (c, d, f)) la = m1 at *
      have HK := Lib.hid ((H1.out.fr (Fr.drew _ _)).asks hkx hm1 (by omega) (by omega))
      clear hm1
      obtain ⟨b0, b1', b2, b3, b4, b5⟩ := (show _ ∧ _ ∧ _ ∧ _ ∧ _ ∧ _ from ⟨H1.out.p.cell 0, H1.out.p.cell 1, H1.out.p.cell 2, H1.out.p.cell 3, H1.out.p.cell 4, H1.out.p.cell 5⟩)
      have hwr : IntKind.i64.wrap (m1 + 1) = m1 + 1 := IntWalk.i64_in _ (by omega)
      generalize (wr.alloc (.cells (pla ⟨t, i, c, d, p, f⟩) TP)) = W at *
      generalize wr.heap.size = Bp at *
      go_cut [0, 5, 7, 9, 10, 11] (fun s0 s5 s7 s9 s10 s11 wc => s0 = .pointer (some ⟨B, 0, none⟩) ∧ s5 = .map (some w.heap.size) ∧ s7 = .pointer (some ⟨Bp, 0, none⟩) ∧ s9 = .slice (some ⟨b1, o1, none⟩) xs.length cp ∧ s10 = .int .i64 xs.length ∧ s11 = .int .i64 k ∧ HA w wc w.heap.size (2 * k + 2) Bp (la ++ [(c, d, f)]) ⟨t, i, c, d, p, f⟩)
      case first =>
        clear H1 HE1 HEc HT HDr HLa HFr HG HS HWf HR HOk
        go_region_with (go_at_call 124; (with_reducible refine HK.out.mono ?_); rintro e w2 ⟨rfl, a1, w3, sx, a2, a3, w4, a4, hM⟩)
        all_goals
          go_wp2_with fail
          go_meet
          exact ⟨rfl, rfl, rfl, rfl, rfl, rfl, hM.out⟩
      case rest =>
        obtain ⟨rfl, rfl, rfl, rfl, rfl, rfl, hcs⟩ := hcut
        clear HK b0 b1' b2 b3 b4 b5 hwr H1
        have H2 := Lib.hid hcs
        clear hcs
        have HEl : Hid (cn (fun y => y == (c, d, f)) l = (l.count (c, d, f) : Nat)) := rfl
        have HSn := Lib.hid (hasB_snoc l la (c, d, f))
        go_upto_region 6 with (fail)
        generalize hm2 : cn (fun y => y == (c, d, f)) l = m2 at *
        have H3 := Lib.hid (show HB2 w wc w.heap.size (2 * k + 2) Bp (la ++ [(c, d, f)]) ⟨t, i, c, d, p, f⟩ B mk l from ⟨H2.out, HR.out.fr H2.out.f⟩)
        refine h6 (by kernel_rfl) _ _ w wc w.heap.size (2 * k + 2) (la ++ [(c, d, f)]) Bp t i c d p f B mk l H3.out (m1 + 1) m2 hkx HE1 hm2 (decide (m2 < m1 + 1)) rfl rfl rfl rfl rfl ?_
        intro y w6 hy hst
        simp only [Eng.setAll, Act.put, List.setIfInBounds_toArray, List.set_cons_succ, List.set_cons_zero]
        rw [hy]
        have H6 := Lib.hid hst
        clear hst hy H3 H2 hm2
        cases hd : decide (m2 < m1 + 1) with
        | true =>
          have hno : hasB l (la ++ [(c, d, f)]) = false := by
            have e1 := HEc.out; have e2 := HEl.out
            rw [HSn.out, Bool.and_eq_false_iff]; right
            simp only [decide_eq_true_eq] at hd
            simp only [decide_eq_false_iff_not]; omega
          have HNo : Hid (hasB l (xs.map Pl.k) = false) := by
            show _ = _
            cases hb : hasB l (xs.map Pl.k) with
            | false => rfl
            | true => rw [HDr.out] at hb; rw [hasB_left hb] at hno; cases hno
          clear hno
          go_wp2_with fail
          go_ret
          exact ⟨by rw [HNo.out]; rfl, H6.out.h.f⟩
        | false =>
          have HYes : Hid (hasB l (la ++ [(c, d, f)]) = true) := by
            show _ = _
            have e1 := HEc.out; have e2 := HEl.out
            rw [HSn.out, HOk.out]
            simp only [decide_eq_false_iff_not] at hd
            simp only [Bool.true_and, decide_eq_true_eq]; omega
          go_wp2_with fail
          go_roundg (xs.length - (k + 1))
          case rel => exact ⟨k + 1, by go_num, by omega, rfl, by rw [HT.out]; exact HYes.out, by rw [HT.out]; exact H6.out.h.a, H6.out.h.f⟩
          case measure => have := HG.out; omega
    · obtain rfl : k = xs.length := by omega
      have HE : Hid ((xs.map Pl.k).take xs.length = xs.map Pl.k) := List.take_of_length_le (by simp)
      go_wp2_with fail
      go_ret
      exact ⟨by rw [← HE.out, HOk.out]; rfl, HFr.out⟩
set_option maxRecDepth 100000 in
set_option maxHeartbeats 1000000 in
theorem has_none (A : Option Addr) (cp : Nat) (xs : List Pl) (w : World) (hS : Sl w 6 A xs.length cp (xs.flatMap plc)) (hwf : ∀ x ∈ xs, okK x.k) (hx : xs.length ≤ 1000) :
    Calls Try.prog 113 #[.pointer none, .slice A xs.length cp] w fun e w' => e = .returned (.bool (decide (xs.length = 0))) ∧ Fr (fun _ => False) w w' := by
  have hlen : xs.length ≤ 9223372036854775807 := by have := hS.2.1; have := hS.2.2.1; unfold maxLen at this; omega
  have HS := Lib.hid hS; have HWf := Lib.hid hwf
  clear hS hwf
  have H0 := Lib.hid (FM.new (tk := TK) (kv := kv) (ok := okK) w)
  have hmm := @run_makeMap Try.prog
  go_enter Try.func113, Try.ntmps113
  go_wp2_with fail
  go_loopg [7, 11] xs.length (fun gk _ i wr => ∃ k : Nat, i = .int .i64 k ∧ k = 0 ∧ gk = xs.length - k ∧ FM TK kv okK wr w.heap.size (2 * k) (fun j => cn (fun y => y == j) ((xs.map Pl.k).take k)) ∧ Fr (fun _ => False) w wr)
  case atStart => exact ⟨0, rfl, rfl, rfl, H0.out, Fr.alloc _ _ _⟩
  case round =>
    clear H0 hmm
    obtain ⟨k, rfl, hk0, hg, ha0, hfr⟩ := hrel
    have HG := Lib.hid hg; have HA0 := Lib.hid ha0; have HFr := Lib.hid hfr; have HK0 := Lib.hid hk0
    have hk : k ≤ xs.length := by omega
    clear hg ha0 hfr hk0
    by_cases hlt : k < xs.length
    · have HN0 : Hid (decide (xs.length = 0) = false) := by show _ = _; simp; intro e; rw [e] at hlt; simp at hlt
      obtain ⟨b1, o1, rfl, hb1, hc1⟩ := HS.out.at hlt (by omega)
      have HBk := HFr.out.block b1 hb1 (fun h => h)
      have key : ∀ j u, j < 6 → (plc xs[k])[j]? = some u → wr.cell? ⟨b1, o1 + (k * 6 + j), none⟩ = some u := fun j u hj hu => by
        rw [World.cell?_of_block (w := w) (a := ⟨b1, _, none⟩) HBk]; exact hc1 _ u (by rw [flat_at plc_len hlt hj]; exact hu)
      have d0 : wr.cell? ⟨b1, o1 + k * 6, none⟩ = some (.int .i64 xs[k].t) := key 0 _ (by omega) rfl
      have d1 : wr.cell? ⟨b1, o1 + k * 6 + 1, none⟩ = some (.int .i64 xs[k].i) := key 1 _ (by omega) rfl
      have d2 : wr.cell? ⟨b1, o1 + k * 6 + 1 + 1, none⟩ = some (.int .i64 xs[k].c) := key 2 _ (by omega) rfl
      have d3 : wr.cell? ⟨b1, o1 + k * 6 + 1 + 1 + 1, none⟩ = some (.int .i64 xs[k].d) := key 3 _ (by omega) rfl
      have d4 : wr.cell? ⟨b1, o1 + k * 6 + 1 + 1 + 1 + 1, none⟩ = some (.int .i64 xs[k].p) := key 4 _ (by omega) rfl
      have d5 : wr.cell? ⟨b1, o1 + k * 6 + 1 + 1 + 1 + 1 + 1, none⟩ = some (.int .i64 xs[k].f) := key 5 _ (by omega) rfl
      have hkx := HWf.out _ (List.getElem_mem hlt)
      have H1 := Lib.hid (show HA w (wr.alloc (.cells (pla xs[k]) TP)) w.heap.size (2 * k) wr.heap.size ((xs.map Pl.k).take k) xs[k] from ⟨HA0.out.fr (Fr.alloc (fun _ => False) _ _) (fun _ _ h => h), Bk.new _ _ _, HFr.out.trans (Fr.alloc (fun _ => False) _ _) (fun _ _ h => h) (fun _ _ h => h), Nat.le_refl _, by have := HA0.out.lt; omega⟩)
      have hlt1 : (xs.map Pl.k).take (k + 1) = (xs.map Pl.k).take k ++ [xs[k].k] := by rw [List.take_succ_eq_append_getElem (by simpa using hlt)]; simp
      have hln : ((xs.map Pl.k).take k).length ≤ k := by simp; omega
      have HT := Lib.hid hlt1
      have hDr : xs.map Pl.k = (xs.map Pl.k).take k ++ [xs[k].k] ++ (xs.map Pl.k).drop (k + 1) := by rw [← hlt1, List.take_append_drop]
      have HDr := Lib.hid hDr
      clear hc1 key HBk hlt1 hDr HA0
      generalize hla : (xs.map Pl.k).take k = la at *
      have HLa := Lib.hid hla
      clear hla
      generalize xs[k] = x at *
      obtain ⟨t, i, c, d, p, f⟩ := x
      have hkx : okK (c, d, f) := hkx
      have HT : Hid ((xs.map Pl.k).take (k + 1) = la ++ [(c, d, f)]) := HT
      have HDr : Hid (xs.map Pl.k = la ++ [(c, d, f)] ++ (xs.map Pl.k).drop (k + 1)) := HDr
      dsimp only at d0 d1 d2 d3 d4 d5
      go_upto_region 5 with (fail)
      clear d0 d1 d2 d3 d4 d5
      have rg := cn_range (fun y => y == (c, d, f)) la
      have HE1 : Hid (cn (fun y => y == (c, d, f)) (la ++ [(c, d, f)]) = cn (fun y => y == (c, d, f)) la + 1) := by show _ = _; rw [cn_snoc]; simp
      have HEc : Hid (cn (fun y => y == (c, d, f)) la = (la.count (c, d, f) : Nat)) := rfl
      generalize hm1 : cn (fun y => y == (c, d, f)) la = m1 at *
      have HK := Lib.hid ((H1.out.fr (Fr.drew _ _)).asks hkx hm1 (by omega) (by omega))
      clear hm1
      obtain ⟨b0, b1', b2, b3, b4, b5⟩ := (show _ ∧ _ ∧ _ ∧ _ ∧ _ ∧ _ from ⟨H1.out.p.cell 0, H1.out.p.cell 1, H1.out.p.cell 2, H1.out.p.cell 3, H1.out.p.cell 4, H1.out.p.cell 5⟩)
      have hwr : IntKind.i64.wrap (m1 + 1) = m1 + 1 := IntWalk.i64_in _ (by omega)
      generalize (wr.alloc (.cells (pla ⟨t, i, c, d, p, f⟩) TP)) = W at *
      generalize wr.heap.size = Bp at *
      go_cut [0, 5, 7, 9, 10, 11] (fun s0 s5 s7 s9 s10 s11 wc => s0 = .pointer none ∧ s5 = .map (some w.heap.size) ∧ s7 = .pointer (some ⟨Bp, 0, none⟩) ∧ s9 = .slice (some ⟨b1, o1, none⟩) xs.length cp ∧ s10 = .int .i64 xs.length ∧ s11 = .int .i64 k ∧ HA w wc w.heap.size (2 * k + 2) Bp (la ++ [(c, d, f)]) ⟨t, i, c, d, p, f⟩)
      case first =>
        clear H1 HE1 HEc HT HDr HLa HFr HG HS HWf
        go_region_with (go_at_call 124; (with_reducible refine HK.out.mono ?_); rintro e w2 ⟨rfl, a1, w3, sx, a2, a3, w4, a4, hM⟩)
        all_goals
          go_wp2_with fail
          go_meet
          exact ⟨rfl, rfl, rfl, rfl, rfl, rfl, hM.out⟩
      case rest =>
        obtain ⟨rfl, rfl, rfl, rfl, rfl, rfl, hcs⟩ := hcut
        clear HK b0 b1' b2 b3 b4 b5 hwr H1
        have H2 := Lib.hid hcs
        clear hcs
        go_upto_region 6 with (fail)
        refine h6n (by kernel_rfl) _ _ w wc H2.out.f rfl rfl ?_
        intro y w6 hy hst
        simp only [Eng.setAll, Act.put, List.setIfInBounds_toArray, List.set_cons_succ, List.set_cons_zero]
        rw [hy]
        have H6 := Lib.hid hst
        clear hst hy H2
        go_wp2_with fail
        go_ret
        exact ⟨by rw [HN0.out]; rfl, H6.out⟩
    · have HN0 : Hid (decide (xs.length = 0) = true) := by show _ = _; have := HK0.out; simp only [decide_eq_true_eq]; omega
      go_wp2_with fail
      go_ret
      exact ⟨by rw [HN0.out]; rfl, HFr.out⟩
end Shape
end Go.Proofs.Ytolpdgaomlhgdaa
