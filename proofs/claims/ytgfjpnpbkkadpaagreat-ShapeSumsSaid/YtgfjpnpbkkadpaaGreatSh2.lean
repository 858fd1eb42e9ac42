/- Shapes: are there as many places of each kind as are asked for? -/
import Derived.Test.YtgfjpnpbkkadpaaGreatSh1
import Derived.Deep.CutBlock
namespace Go.Proofs.YtgfjpnpbkkadpaaGreat
open Go.RowKit
namespace Shape
open BagP Bag ShapeP Fm
attribute [local go_sem] Eng.ev Eng.getO_cons Eng.getO_nil
/-- A view's kinds, for reading. -/
def RK (w : World) (B : Nat) (mk : Option Nat) (l : List K3) : Prop := w.cell? ⟨B, 0, none⟩ = some (.map mk) ∧ B < w.heap.size ∧ ((mk = none ∧ l = []) ∨ ∃ r n, mk = some r ∧ FM TK kv okK w r n (fun k => cn (fun y => y == k) l))
theorem RK.fr {w w' : World} {B : Nat} {mk : Option Nat} {l : List K3} (h : RK w B mk l) (hf : Fr (fun _ => False) w w') : RK w' B mk l := by
  obtain ⟨h1, h2, h3⟩ := h
  refine ⟨(World.cell?_of_block (w := w) (a := ⟨B, 0, none⟩) (hf.block B h2 (fun h => h))).trans h1, Nat.lt_of_lt_of_le h2 hf.size, ?_⟩
  rcases h3 with h3 | ⟨r, n, e, h3⟩
  · exact .inl h3
  · exact .inr ⟨r, n, e, h3.fr hf (fun _ _ h => h)⟩
theorem RK.look {w : World} {B : Nat} {mk : Option Nat} {l : List K3} (h : RK w B mk l) {k : K3} (hk : okK k) : (Instr.lookup TMK (.map mk) (kv k) false).run Tryz.prog w = .ok (.int .i64 (cn (fun y => y == k) l)) w := by
  obtain ⟨h1, h2, h3⟩ := h
  rcases h3 with ⟨rfl, rfl⟩ | ⟨r, n, rfl, h3⟩
  · exact Fm.look_none KK uMK hk
  · exact h3.look KK uMK hk
structure HA (w0 w : World) (ra n Bp : Nat) (la : List K3) (x : Pl) : Prop where
  a : FM TK kv okK w ra n (fun k => cn (fun y => y == k) la)
  p : Bk w Bp (pla x) TP
  f : Fr (fun _ => False) w0 w
  nr : w0.heap.size ≤ ra
  ne : ra ≠ Bp
section
variable {w0 w w' : World} {ra n Bp : Nat} {la la' : List K3} {x : Pl}
theorem HA.fr (h : HA w0 w ra n Bp la x) (hf : Fr (fun _ => False) w w') : HA w0 w' ra n Bp la x := ⟨h.a.fr hf (fun _ _ h => h), h.p.fr hf (fun _ _ h => h), h.f.trans hf (fun _ _ h => h) (fun _ _ h => h), h.nr, h.ne⟩
theorem HA.asks (h : HA w0 w ra n Bp la x) (hk : okK x.k) {m : Int} (hm : cn (fun y => y == x.k) la = m) (hl : la.length < 100000) (hn : n + 2 < 1000000) :
    Calls Tryz.prog 162 #[plv x] w fun e w' => e = .returned (kv x.k) ∧ (Instr.lookup TMK (.map (some ra)) (kv x.k) false).run Tryz.prog w' = .ok (.int .i64 m) w' ∧
      ∃ w3 s, (Instr.mapEntry TMK (.map (some ra)) (kv x.k)).run Tryz.prog w' = .ok (.tuple #[.int .i64 m, .int .i64 (s : Nat)]) w3 ∧ (Instr.lookup TMK (.map (some ra)) (kv x.k) false).run Tryz.prog w3 = .ok (.int .i64 m) w3 ∧
        ∃ w4, (Instr.entryStore TMK (.map (some ra)) (.int .i64 (s : Nat)) (.int .i64 (m + 1))).run Tryz.prog w3 = .ok () w4 ∧ Hid (HA w0 w4 ra (n + 2) Bp (la ++ [x.k]) x) := by
  refine (of_ x w).mono ?_
  rintro e w' ⟨rfl, hf⟩
  have h' := h.fr hf
  have l1 := h'.a.look KK uMK hk
  have rg := cn_range (fun y => y == x.k) la
  obtain ⟨w3, s, hen, hs3, hf3⟩ := h'.a.entry KK uMK hk (wf_cn (by omega)) (by omega)
  have l3 := hs3.1.look KK uMK hk
  obtain ⟨w4, hst, hm4, hf4⟩ := hs3.store KK uMK hk (v := m + 1) (wf_small (by omega) (by omega)) (f' := fun j => cn (fun y => y == j) (la ++ [x.k])) (by rw [cn_snoc, hm]; simp) (fun j hj => by rw [cn_snoc, if_neg (by simpa using fun e => hj e.symm)]; omega) (by omega)
  have hfr := hf3.trans hf4 (T := (· = ra)) (fun _ _ h => h) (fun _ _ h => h)
  rw [hm] at l1 hen l3
  refine ⟨rfl, l1, w3, s, hen, l3, w4, hst, hm4, h'.p.fr hfr (fun b hb e => by simp at hb; exact h'.ne (e.symm.trans hb)), h'.f.trans hfr (fun _ _ h => h) (fun i hi e => by have := h'.nr; omega), h'.nr, h'.ne⟩
end
structure HB2 (w0 w : World) (ra n Bp : Nat) (la : List K3) (x : Pl) (B : Nat) (mk : Option Nat) (l : List K3) : Prop where
  h : HA w0 w ra n Bp la x
  r : RK w B mk l
theorem HB2.fr {w0 w w' : World} {ra n Bp : Nat} {la : List K3} {x : Pl} {B : Nat} {mk : Option Nat} {l : List K3} (h : HB2 w0 w ra n Bp la x B mk l) (hf : Fr (fun _ => False) w w') : HB2 w0 w' ra n Bp la x B mk l := ⟨h.h.fr hf, h.r.fr hf⟩
theorem ofc3 (t i c d p f : Int) (w : World) : Calls Tryz.prog 162 #[.agg #[.int .i64 t, .int .i64 i, .int .i64 c, .int .i64 d, .int .i64 p, .int .i64 f]] w fun e w' => e = .returned (.agg #[.int .i64 c, .int .i64 d, .int .i64 f]) ∧ Fr (fun _ => False) w w' := of_ ⟨t, i, c, d, p, f⟩ w
set_option maxRecDepth 100000 in
set_option maxHeartbeats 400000 in
theorem h6 {ops : Array Oper} (hops : Eng.fnOps Tryz.f102 6 = ops) (a0 : Act) (Q : Exit → Act → World → Prop) (w0 : World) (w : World) (ra n : Nat) (la : List K3) (Bp : Nat) (t i c d p f : Int) (B : Nat) (mk : Option Nat) (l : List K3) (hst : HB2 w0 w ra n Bp la ⟨t, i, c, d, p, f⟩ B mk l) (m1 m2 : Int) (hk : okK (c, d, f)) (h1 : Hid (cn (fun y => y == (c, d, f)) la = m1)) (h2 : Hid (cn (fun y => y == (c, d, f)) l = m2)) (bb : Bool) (q : decide (m2 < m1) = bb)
    (hn : a0.tmps.size = 39) (h_0 : a0.tmps.getD 0 undef = .pointer (some ⟨B, 0, none⟩)) (h_5 : a0.tmps.getD 5 undef = .map (some ra)) (h_7 : a0.tmps.getD 7 undef = .pointer (some ⟨Bp, 0, none⟩))
    (hpost : ∀ (x : Nat → Value) (w' : World), x 37 = .bool bb → HB2 w0 w' ra n Bp la ⟨t, i, c, d, p, f⟩ B mk l → Q .normal (Eng.setAll a0 [22, 23, 24, 25, 26, 27, 28, 29, 30, 31, 32, 33, 34, 35, 36, 37] x) w') :
    (Code.region 6 ops true).wp Tryz.prog Q a0 w := by
  simp only [Eng.fnOps, Eng.regOps, Tryz.f102, Option.bind_some, Option.getD_some, Nat.reduceEqDiff, ↓reduceIte, Nat.reduceBEq] at hops
  subst hops
  have HSt := Lib.hid (hst.fr (Fr.drew _ _))
  have hSS : w.drew.cell? ⟨Bp, 0, none⟩ = some (.int .i64 t) ∧ w.drew.cell? ⟨Bp, 1, none⟩ = some (.int .i64 i) ∧ w.drew.cell? ⟨Bp, 2, none⟩ = some (.int .i64 c) ∧ w.drew.cell? ⟨Bp, 3, none⟩ = some (.int .i64 d) ∧ w.drew.cell? ⟨Bp, 4, none⟩ = some (.int .i64 p) ∧ w.drew.cell? ⟨Bp, 5, none⟩ = some (.int .i64 f) ∧ w.drew.cell? ⟨B, 0, none⟩ = some (.map mk) ∧ (Instr.lookup TMK (.map (some ra)) (.agg #[.int .i64 c, .int .i64 d, .int .i64 f]) false).run Tryz.prog w.drew = .ok (.int .i64 m1) w.drew ∧ (Instr.lookup TMK (.map mk) (.agg #[.int .i64 c, .int .i64 d, .int .i64 f]) false).run Tryz.prog w.drew = .ok (.int .i64 m2) w.drew := ⟨HSt.out.h.p.cell 0, HSt.out.h.p.cell 1, HSt.out.h.p.cell 2, HSt.out.h.p.cell 3, HSt.out.h.p.cell 4, HSt.out.h.p.cell 5, HSt.out.r.1, (by have e1 := HSt.out.h.a.look KK uMK hk; rw [h1.out] at e1; exact e1), (by have e1 := HSt.out.r.look hk; rw [h2.out] at e1; exact e1)⟩
  refine Eng.regionN [(0, true), (1, true), (2, true), (3, true), (4, true), (7, true), (8, true), (9, true), (10, true), (11, true), (5, false), (6, true), (12, false), (13, true), (14, true), (15, true)] (fun w' => w'.cell? ⟨Bp, 0, none⟩ = some (.int .i64 t) ∧ w'.cell? ⟨Bp, 1, none⟩ = some (.int .i64 i) ∧ w'.cell? ⟨Bp, 2, none⟩ = some (.int .i64 c) ∧ w'.cell? ⟨Bp, 3, none⟩ = some (.int .i64 d) ∧ w'.cell? ⟨Bp, 4, none⟩ = some (.int .i64 p) ∧ w'.cell? ⟨Bp, 5, none⟩ = some (.int .i64 f) ∧ w'.cell? ⟨B, 0, none⟩ = some (.map mk) ∧ (Instr.lookup TMK (.map (some ra)) (.agg #[.int .i64 c, .int .i64 d, .int .i64 f]) false).run Tryz.prog w' = .ok (.int .i64 m1) w' ∧ (Instr.lookup TMK (.map mk) (.agg #[.int .i64 c, .int .i64 d, .int .i64 f]) false).run Tryz.prog w' = .ok (.int .i64 m2) w') (by kernel_rfl) 39 hn (by kernel_rfl) rfl (by kernel_rfl) (hSS) (fun a b ha hb => ?_)
  subst ha
  have hb0 : b 0 = .pointer (some ⟨B, 0, none⟩) := (hb 0).symm.trans h_0
  have hb5 : b 5 = .map (some ra) := (hb 5).symm.trans h_5
  have hb7 : b 7 = .pointer (some ⟨Bp, 0, none⟩) := (hb 7).symm.trans h_7
  clear hb h_0 h_5 h_7
  have HP := Lib.hid hpost; have HN := Lib.hid hn
  clear hpost hn
  refine Eng.Sch.take (v := ?_) rfl rfl (by decide) (by kernel_rfl) (fun w hw => ?_) ?_
  rotate_left
  · (try dsimp only at hw); go_simp; first | done | with_reducible rfl
  refine Eng.Sch.take (v := ?_) rfl rfl (by decide) (by kernel_rfl) (fun w hw => ?_) ?_
  rotate_left
  · (try dsimp only at hw); go_simp; first | done | with_reducible rfl
  refine Eng.Sch.take (v := ?_) rfl rfl (by decide) (by kernel_rfl) (fun w hw => ?_) ?_
  rotate_left
  · (try dsimp only at hw); go_simp; first | done | with_reducible rfl
  refine Eng.Sch.take (v := ?_) rfl rfl (by decide) (by kernel_rfl) (fun w hw => ?_) ?_
  rotate_left
  · (try dsimp only at hw); go_simp; first | done | with_reducible rfl
  refine Eng.Sch.take (v := ?_) rfl rfl (by decide) (by kernel_rfl) (fun w hw => ?_) ?_
  rotate_left
  · (try dsimp only at hw); go_simp; first | done | with_reducible rfl
  refine Eng.Sch.take (v := ?_) rfl rfl (by decide) (by kernel_rfl) (fun w hw => ?_) ?_
  rotate_left
  · (try dsimp only at hw); go_simp; first | done | with_reducible rfl
  refine Eng.Sch.take (v := ?_) rfl rfl (by decide) (by kernel_rfl) (fun w hw => ?_) ?_
  rotate_left
  · (try dsimp only at hw); go_simp; first | done | with_reducible rfl
  refine Eng.Sch.take (v := ?_) rfl rfl (by decide) (by kernel_rfl) (fun w hw => ?_) ?_
  rotate_left
  · (try dsimp only at hw); go_simp; first | done | with_reducible rfl
  refine Eng.Sch.take (v := ?_) rfl rfl (by decide) (by kernel_rfl) (fun w hw => ?_) ?_
  rotate_left
  · (try dsimp only at hw); go_simp; first | done | with_reducible rfl
  refine Eng.Sch.take (v := ?_) rfl rfl (by decide) (by kernel_rfl) (fun w hw => ?_) ?_
  rotate_left
  · (try dsimp only at hw); go_simp; first | done | with_reducible rfl
  refine Eng.Sch.call rfl rfl (by decide) (by kernel_rfl) ?_ (ofc3 t i c d p f _) ?_
  · go_simp
  rintro e w2 ⟨rfl, hf⟩
  have HSt1 := Lib.hid (HSt.out.fr hf)
  have hSS : w2.cell? ⟨Bp, 0, none⟩ = some (.int .i64 t) ∧ w2.cell? ⟨Bp, 1, none⟩ = some (.int .i64 i) ∧ w2.cell? ⟨Bp, 2, none⟩ = some (.int .i64 c) ∧ w2.cell? ⟨Bp, 3, none⟩ = some (.int .i64 d) ∧ w2.cell? ⟨Bp, 4, none⟩ = some (.int .i64 p) ∧ w2.cell? ⟨Bp, 5, none⟩ = some (.int .i64 f) ∧ w2.cell? ⟨B, 0, none⟩ = some (.map mk) ∧ (Instr.lookup TMK (.map (some ra)) (.agg #[.int .i64 c, .int .i64 d, .int .i64 f]) false).run Tryz.prog w2 = .ok (.int .i64 m1) w2 ∧ (Instr.lookup TMK (.map mk) (.agg #[.int .i64 c, .int .i64 d, .int .i64 f]) false).run Tryz.prog w2 = .ok (.int .i64 m2) w2 := ⟨HSt1.out.h.p.cell 0, HSt1.out.h.p.cell 1, HSt1.out.h.p.cell 2, HSt1.out.h.p.cell 3, HSt1.out.h.p.cell 4, HSt1.out.h.p.cell 5, HSt1.out.r.1, (by have e1 := HSt1.out.h.a.look KK uMK hk; rw [h1.out] at e1; exact e1), (by have e1 := HSt1.out.r.look hk; rw [h2.out] at e1; exact e1)⟩
  clear hf
  refine ⟨_, rfl, hSS, ?_⟩
  refine Eng.Sch.take (v := ?_) rfl rfl (by decide) (by kernel_rfl) (fun w hw => ?_) ?_
  rotate_left
  · (try dsimp only at hw); go_simp; first | done | with_reducible rfl
  refine Eng.Sch.call rfl rfl (by decide) (by kernel_rfl) ?_ (ofc3 t i c d p f _) ?_
  · go_simp
  rintro e w3 ⟨rfl, hf⟩
  have HSt2 := Lib.hid (HSt1.out.fr hf)
  have hSS : w3.cell? ⟨Bp, 0, none⟩ = some (.int .i64 t) ∧ w3.cell? ⟨Bp, 1, none⟩ = some (.int .i64 i) ∧ w3.cell? ⟨Bp, 2, none⟩ = some (.int .i64 c) ∧ w3.cell? ⟨Bp, 3, none⟩ = some (.int .i64 d) ∧ w3.cell? ⟨Bp, 4, none⟩ = some (.int .i64 p) ∧ w3.cell? ⟨Bp, 5, none⟩ = some (.int .i64 f) ∧ w3.cell? ⟨B, 0, none⟩ = some (.map mk) ∧ (Instr.lookup TMK (.map (some ra)) (.agg #[.int .i64 c, .int .i64 d, .int .i64 f]) false).run Tryz.prog w3 = .ok (.int .i64 m1) w3 ∧ (Instr.lookup TMK (.map mk) (.agg #[.int .i64 c, .int .i64 d, .int .i64 f]) false).run Tryz.prog w3 = .ok (.int .i64 m2) w3 := ⟨HSt2.out.h.p.cell 0, HSt2.out.h.p.cell 1, HSt2.out.h.p.cell 2, HSt2.out.h.p.cell 3, HSt2.out.h.p.cell 4, HSt2.out.h.p.cell 5, HSt2.out.r.1, (by have e1 := HSt2.out.h.a.look KK uMK hk; rw [h1.out] at e1; exact e1), (by have e1 := HSt2.out.r.look hk; rw [h2.out] at e1; exact e1)⟩
  clear hf
  refine ⟨_, rfl, hSS, ?_⟩
  refine Eng.Sch.take (v := ?_) rfl rfl (by decide) (by kernel_rfl) (fun w hw => ?_) ?_
  rotate_left
  · (try dsimp only at hw); go_simp; first | done | with_reducible rfl
  refine Eng.Sch.take (v := ?_) rfl rfl (by decide) (by kernel_rfl) (fun w hw => ?_) ?_
  rotate_left
  · (try dsimp only at hw); go_simp; first | done | with_reducible rfl
  refine Eng.Sch.take (v := ?_) rfl rfl (by decide) (by kernel_rfl) (fun w hw => ?_) ?_
  rotate_left
  · (try dsimp only at hw); go_simp; first | done | with_reducible rfl
  refine Eng.Sch.end_ [22, 23, 24, 25, 26, 27, 28, 29, 30, 31, 32, 33, 34, 35, 36, 37] HN.out (by kernel_rfl) (by kernel_rfl) ?_
  exact HP.out _ _ (by first | rfl | exact congrArg Value.bool q) HSt2.out


set_option maxRecDepth 100000 in
set_option maxHeartbeats 1000000 in
theorem has (B : Nat) (mk : Option Nat) (l : List K3) (A : Option Addr) (cp : Nat) (xs : List Pl) (w : World) (h : RK w B mk l) (hS : Sl w 6 A xs.length cp (xs.flatMap plc)) (hwf : ∀ x ∈ xs, okK x.k) (hx : xs.length ≤ 1000) :
    Calls Tryz.prog 102 #[.pointer (some ⟨B, 0, none⟩), .slice A xs.length cp] w fun e w' => e = .returned (.bool (hasB l (xs.map Pl.k))) ∧ Fr (fun _ => False) w w' := by
  have hlen : xs.length ≤ 9223372036854775807 := by have := hS.2.1; have := hS.2.2.1; unfold maxLen at this; omega
  have HS := Lib.hid hS; have HWf := Lib.hid hwf
  clear hS hwf
  have HR := Lib.hid h
  clear h
  have H0 := Lib.hid (FM.new (tk := TK) (kv := kv) (ok := okK) w)
  have hmm := @run_makeMap Tryz.prog
  go_enter Tryz.func102, Tryz.ntmps102
  go_wp2_with fail
  go_loopg [7, 11] xs.length (fun gk _ i wr => ∃ k : Nat, i = .int .i64 k ∧ k ≤ xs.length ∧ gk = xs.length - k ∧ hasB l ((xs.map Pl.k).take k) = true ∧ FM TK kv okK wr w.heap.size (2 * k) (fun j => cn (fun y => y == j) ((xs.map Pl.k).take k)) ∧ Fr (fun _ => False) w wr)
  case atStart => exact ⟨0, rfl, Nat.zero_le _, rfl, rfl, H0.out, Fr.alloc _ _ _⟩
  case round =>
    clear H0 hmm
    obtain ⟨k, rfl, hk, hg, hok, ha0, hfr⟩ := hrel
    have HG := Lib.hid hg; have HOk := Lib.hid hok; have HA0 := Lib.hid ha0; have HFr := Lib.hid hfr
    clear hg hok ha0 hfr
    by_cases hlt : k < xs.length
    · obtain ⟨b1, o1, rfl, hb1, hc1⟩ := HS.out.at hlt (by omega)
      have HBk := HFr.out.block b1 hb1 (fun h => h)
      have key : ∀ j u, j < 6 → (plc xs[k])[j]? = some u → wr.cell? ⟨b1, o1 + (k * 6 + j), none⟩ = some u := fun j u hj hu => by
        rw [World.cell?_of_block (w := w) (a := ⟨b1, _, none⟩) HBk]; exact hc1 _ u (by rw [flat_at plc_len hlt hj]; exact hu)
      have d0 : wr.cell? ⟨b1, o1 + k * 6, none⟩ = some (.int .i64 xs[k].t) := key 0 _ (by omega) rfl
      have d1 : wr.cell? ⟨b1, o1 + k * 6 + 1, none⟩ = some (.int .i64 xs[k].i) := key 1 _ (by omega) rfl
      have d2 : wr.cell? ⟨b1, o1 + k * 6 + 1 + 1, none⟩ = some (.int .i64 xs[k].c) := key 2 _ (by omega) rfl
      have d3 : wr.cell? ⟨b1, o1 + k * 6 + 1 + 1 + 1, none⟩ = some (.int .i64 xs[k].d) := key 3 _ (by omega) rfl
      have d4 : wr.cell? ⟨b1, o1 + k * 6 + 1 + 1 + 1 + 1, none⟩ = some (.int .i64 xs[k].p) := key 4 _ (by omega) rfl
      have d5 : wr.cell? ⟨b1, o1 + k * 6 + 1 + 1 + 1 + 1 + 1, none⟩ = some (.int .i64 xs[k].f) := key 5 _ (by omega) rfl
      have hkx := HWf.out _ (List.getElem_mem hlt)
      have H1 := Lib.hid (show HA w (wr.alloc (.cells (pla xs[k]) TP)) w.heap.size (2 * k) wr.heap.size ((xs.map Pl.k).take k) xs[k] from ⟨HA0.out.fr (Fr.alloc (fun _ => False) _ _) (fun _ _ h => h), Bk.new _ _ _, HFr.out.trans (Fr.alloc (fun _ => False) _ _) (fun _ _ h => h) (fun _ _ h => h), Nat.le_refl _, by have := HA0.out.lt; omega⟩)
      have hlt1 : (xs.map Pl.k).take (k + 1) = (xs.map Pl.k).take k ++ [xs[k].k] := by rw [List.take_succ_eq_append_getElem (by simpa using hlt)]; simp
      have hln : ((xs.map Pl.k).take k).length ≤ k := by simp; omega
      have HT := Lib.hid hlt1
      have hDr : xs.map Pl.k = (xs.map Pl.k).take k ++ [xs[k].k] ++ (xs.map Pl.k).drop (k + 1) := by rw [← hlt1, List.take_append_drop]
      have HDr := Lib.hid hDr
      clear hc1 key HBk hlt1 hDr HA0
      generalize hla : (xs.map Pl.k).take k = la at *
      have HLa := Lib.hid hla
      clear hla
      generalize xs[k] = x at *
      obtain ⟨t, i, c, d, p, f⟩ := x
      have hkx : okK (c, d, f) := hkx
      have HT : Hid ((xs.map Pl.k).take (k + 1) = la ++ [(c, d, f)]) := HT
      have HDr : Hid (xs.map Pl.k = la ++ [(c, d, f)] ++ (xs.map Pl.k).drop (k + 1)) := HDr
      dsimp only at d0 d1 d2 d3 d4 d5
      go_upto_region 5 with (fail)
      clear d0 d1 d2 d3 d4 d5
      have rg := cn_range (fun y => y == (c, d, f)) la
      have HE1 : Hid (cn (fun y => y == (c, d, f)) (la ++ [(c, d, f)]) = cn (fun y => y == (c, d, f)) la + 1) := by show _ = _; rw [cn_snoc]; simp
      have HEc : Hid (cn (fun y => y == (c, d, f)) la = (la.count (c, d, f) : Nat)) := rfl
      generalize hm1 : cn (fun y => y == (c, d, f)) la = m1 at *
      have HK := Lib.hid ((H1.out.fr (Fr.drew _ _)).asks hkx hm1 (by omega) (by omega))
      clear hm1
      obtain ⟨b0, b1', b2, b3, b4, b5⟩ := (show _ ∧ _ ∧ _ ∧ _ ∧ _ ∧ _ from ⟨H1.out.p.cell 0, H1.out.p.cell 1, H1.out.p.cell 2, H1.out.p.cell 3, H1.out.p.cell 4, H1.out.p.cell 5⟩)
      have hwr : IntKind.i64.wrap (m1 + 1) = m1 + 1 := IntWalk.i64_in _ (by omega)
      generalize (wr.alloc (.cells (pla ⟨t, i, c, d, p, f⟩) TP)) = W at *
      generalize wr.heap.size = Bp at *
      go_cut [0, 5, 7, 9, 10, 11] (fun s0 s5 s7 s9 s10 s11 wc => s0 = .pointer (some ⟨B, 0, none⟩) ∧ s5 = .map (some w.heap.size) ∧ s7 = .pointer (some ⟨Bp, 0, none⟩) ∧ s9 = .slice (some ⟨b1, o1, none⟩) xs.length cp ∧ s10 = .int .i64 xs.length ∧ s11 = .int .i64 k ∧ HA w wc w.heap.size (2 * k + 2) Bp (la ++ [(c, d, f)]) ⟨t, i, c, d, p, f⟩)
      case first =>
        clear H1 HE1 HEc HT HDr HLa HFr HG HS HWf HR HOk
        go_region_with (go_at_call 162; (with_reducible refine HK.out.mono ?_); rintro e w2 ⟨rfl, a1, w3, sx, a2, a3, w4, a4, hM⟩)
        all_goals
          go_wp2_with fail
          go_meet
          exact ⟨rfl, rfl, rfl, rfl, rfl, rfl, hM.out⟩
      case rest =>
        obtain ⟨rfl, rfl, rfl, rfl, rfl, rfl, hcs⟩ := hcut
        clear HK b0 b1' b2 b3 b4 b5 hwr H1
        have H2 := Lib.hid hcs
        clear hcs
        have HEl : Hid (cn (fun y => y == (c, d, f)) l = (l.count (c, d, f) : Nat)) := rfl
        have HSn := Lib.hid (hasB_snoc l la (c, d, f))
        go_upto_region 6 with (fail)
        generalize hm2 : cn (fun y => y == (c, d, f)) l = m2 at *
        have H3 := Lib.hid (show HB2 w wc w.heap.size (2 * k + 2) Bp (la ++ [(c, d, f)]) ⟨t, i, c, d, p, f⟩ B mk l from ⟨H2.out, HR.out.fr H2.out.f⟩)
        refine h6 (by kernel_rfl) _ _ w wc w.heap.size (2 * k + 2) (la ++ [(c, d, f)]) Bp t i c d p f B mk l H3.out (m1 + 1) m2 hkx HE1 hm2 (decide (m2 < m1 + 1)) rfl rfl rfl rfl rfl ?_
        intro y w6 hy hst
        simp only [Eng.setAll, Act.put, List.setIfInBounds_toArray, List.set_cons_succ, List.set_cons_zero]
        rw [hy]
        have H6 := Lib.hid hst
        clear hst hy H3 H2 hm2
        cases hd : decide (m2 < m1 + 1) with
        | true =>
          have hno : hasB l (la ++ [(c, d, f)]) = false := by
            have e1 := HEc.out; have e2 := HEl.out
            rw [HSn.out, Bool.and_eq_false_iff]; right
            simp only [decide_eq_true_eq] at hd
            simp only [decide_eq_false_iff_not]; omega
          have HNo : Hid (hasB l (xs.map Pl.k) = false) := by
            show _ = _
            cases hb : hasB l (xs.map Pl.k) with
            | false => rfl
            | true => rw [HDr.out] at hb; rw [hasB_left hb] at hno; cases hno
          clear hno
          go_wp2_with fail
          go_ret
          exact ⟨by rw [HNo.out]; rfl, H6.out.h.f⟩
        | false =>
          have HYes : Hid (hasB l (la ++ [(c, d, f)]) = true) := by
            show _ = _
            have e1 := HEc.out; have e2 := HEl.out
            rw [HSn.out, HOk.out]
            simp only [decide_eq_false_iff_not] at hd
            simp only [Bool.true_and, decide_eq_true_eq]; omega
          go_wp2_with fail
          go_roundg (xs.length - (k + 1))
          case rel => exact ⟨k + 1, by go_num, by omega, rfl, by rw [HT.out]; exact HYes.out, by rw [HT.out]; exact H6.out.h.a, H6.out.h.f⟩
          case measure => have := HG.out; omega
    · obtain rfl : k = xs.length := by omega
      have HE : Hid ((xs.map Pl.k).take xs.length = xs.map Pl.k) := List.take_of_length_le (by simp)
      go_wp2_with fail
      go_ret
      exact ⟨by rw [← HE.out, HOk.out]; rfl, HFr.out⟩
end Shape
end Go.Proofs.YtgfjpnpbkkadpaaGreat
namespace Go.Proofs.YtgfjpnpbkkadpaaGreat
open Go.RowKit
namespace Shape
open BagP Bag ShapeP Fm
abbrev TSh : TypeId := 80
abbrev zeroV : Array Value := #[.map none, .map none, .pointer none, .int .i64 0, .int .i64 0, .pointer none, .int .i64 0, .int .i64 0]
/-- A view of the places of l. -/
def VB (w : World) (B n : Nat) (l : List K3) (F : List Nat) : Prop := (Bk w B zeroV TV ∧ l = [] ∧ F = [B]) ∨ ∃ rk rc, VM w B rk rc n l l l l F
/-- Places in a slice, apart from F. -/
def Ar (w : World) (A : Option Addr) (c : Nat) (xs : List Pl) (F : List Nat) : Prop := Sl w 6 A xs.length c (xs.flatMap plc) ∧ (xs ≠ [] → ∀ a, A = some a → a.block ∉ F)
section
variable {w w' : World} {B n m : Nat} {l : List K3} {F F' : List Nat} {A : Option Addr} {c : Nat} {xs : List Pl}
theorem VB.new (w : World) (n : Nat) : VB (w.alloc (.cells zeroV TV)) w.heap.size n [] [w.heap.size] := .inl ⟨Bk.new _ _ _, rfl, rfl⟩
theorem VB.fr {S : Nat → Prop} (h : VB w B n l F) (hf : Fr S w w') (hs : ∀ b ∈ F, ¬ S b) : VB w' B n l F := by
  rcases h with ⟨h1, h2, rfl⟩ | ⟨rk, rc, h⟩
  · exact .inl ⟨h1.fr hf hs, h2, rfl⟩
  · exact .inr ⟨rk, rc, h.fr hf hs⟩
theorem VB.lt (h : VB w B n l F) : ∀ b ∈ F, b < w.heap.size := by
  rcases h with ⟨h1, h2, rfl⟩ | ⟨rk, rc, h⟩
  · intro b hb; simp at hb; subst hb; exact lt_of_heap h1
  · exact h.lt
theorem VB.mem (h : VB w B n l F) : B ∈ F := by
  rcases h with ⟨h1, h2, rfl⟩ | ⟨rk, rc, h⟩
  · simp
  · exact h.mem.1
theorem VM.up {rk rc : Nat} (h : VM w B rk rc n l l l l F) (hn : n ≤ m) (hm : m < 1000000) : VM w B rk rc m l l l l F := by
  obtain ⟨c, L1, L2, G1, G2, h, rfl⟩ := h
  exact ⟨c, L1, L2, G1, G2, { h with km := Shape.FM.mono h.km hn hm, cm := Shape.FM.mono h.cm hn hm }, rfl⟩
theorem VB.up (h : VB w B n l F) (hn : n ≤ m) (hm : m < 1000000) : VB w B m l F := by
  rcases h with h | ⟨rk, rc, h⟩
  · exact .inl h
  · exact .inr ⟨rk, rc, h.up hn hm⟩
theorem VB.rk (h : VB w B n l F) : ∃ mk, RK w B mk l ∧ ((mk = none ∧ Bk w B zeroV TV ∧ l = [] ∧ F = [B]) ∨ ∃ rk rc, mk = some rk ∧ VM w B rk rc n l l l l F) := by
  have hl := h.lt B h.mem
  rcases h with ⟨h1, h2, h3⟩ | ⟨rk, rc, h⟩
  · exact ⟨none, ⟨h1.cell 0, hl, .inl ⟨rfl, h2⟩⟩, .inl ⟨rfl, h1, h2, h3⟩⟩
  · have hc := h.cells.1
    refine ⟨some rk, ⟨hc, hl, .inr ⟨rk, n, rfl, ?_⟩⟩, .inr ⟨rk, rc, rfl, h⟩⟩
    obtain ⟨c, L1, L2, G1, G2, h, rfl⟩ := h
    exact h.km
theorem Ar.step (h : Ar w A c xs F) (ht : Tn F F' w w') : Ar w' A c xs F' := by
  by_cases hx : xs = []
  · subst hx
    obtain ⟨⟨h1, h2, h3, h4, h5⟩, -⟩ := h
    exact ⟨⟨h1, h2, h3, h4, fun h => absurd rfl h⟩, fun h => absurd rfl h⟩
  · have hne : xs.flatMap plc ≠ [] := fun e => by
      have := congrArg List.length e
      rw [flat_length plc_len] at this
      exact hx (List.eq_nil_of_length_eq_zero (by simp at this; omega))
    refine ⟨h.1.fr ht.fr (fun a ha => h.2 hx a ha), fun _ a ha he => ?_⟩
    have hlt := h.1.lt hne a ha
    rcases (ht.sub _ he).1 with e | e
    · exact h.2 hx a ha e
    · omega
theorem Ar.fr (h : Ar w A c xs F) (hf : Fr (fun _ => False) w w') : Ar w' A c xs F := ⟨h.1.fr hf (fun _ _ h => h), h.2⟩
theorem VM.made {wz : World} (h : Bk w B zeroV TV) (hw : ((w.alloc (.map #[] 0)).alloc (.map #[] 0) |>.setCell ⟨B, 0, none⟩ (.map (some w.heap.size))).setCell ⟨B, 1, none⟩ (.map (some (w.heap.size + 1))) = wz) :
    VM wz B w.heap.size (w.heap.size + 1) 0 [] [] [] [] [B, w.heap.size, w.heap.size + 1] ∧ Tn [B] [B, w.heap.size, w.heap.size + 1] w wz := by
  have hlt := lt_of_heap h
  have fa : Fr (fun _ => False) w ((w.alloc (.map #[] 0)).alloc (.map #[] 0)) := (Fr.alloc _ _ _).trans (Fr.alloc (fun _ => False) _ _) (fun _ _ h => h) (fun _ _ h => h)
  have hs2 : ((w.alloc (.map #[] 0)).alloc (.map #[] 0)).heap.size = w.heap.size + 2 := by simp
  have m1 : FM TK kv okK ((w.alloc (.map #[] 0)).alloc (.map #[] 0)) w.heap.size 0 (fun _ => 0) := (FM.new (tk := TK) (kv := kv) (ok := okK) w).fr (Fr.alloc (fun _ => False) _ _) (fun _ _ h => h)
  have m2 : FM TI iv wfI ((w.alloc (.map #[] 0)).alloc (.map #[] 0)) (w.heap.size + 1) 0 (fun _ => 0) := by
    have := FM.new (tk := TI) (kv := iv) (ok := wfI) (w.alloc (.map #[] 0))
    rwa [World.size_alloc] at this
  have h2 : Bk ((w.alloc (.map #[] 0)).alloc (.map #[] 0)) B zeroV TV := h.fr fa (fun _ _ h => h)
  generalize ((w.alloc (.map #[] 0)).alloc (.map #[] 0)) = W at *
  have f1 := Fr.setCell W ⟨B, 0, none⟩ (.map (some w.heap.size)) (S := (· = B)) rfl
  have f2 := Fr.setCell (W.setCell ⟨B, 0, none⟩ (.map (some w.heap.size))) ⟨B, 1, none⟩ (.map (some (w.heap.size + 1))) (S := (· = B)) rfl
  have h4 := (h2.set 0 (.map (some w.heap.size))).set 1 (.map (some (w.heap.size + 1)))
  rw [hw] at f2 h4
  have ff := f1.trans f2 (T := (· = B)) (fun _ _ h => h) (fun _ _ h => h)
  have hz : wz.heap.size = w.heap.size + 2 := by rw [← hw]; simp [World.setCell]; omega
  have hvm : VI wz B w.heap.size (w.heap.size + 1) 0 [] [] [] [] _ [] [] [] [] := ⟨h4, rfl, rfl, rfl, ⟨none, rfl, rfl, rfl, AvlII.MapIn.nil _, fun p h => by simp at h, by simp [sumL]⟩, ⟨none, rfl, rfl, rfl, AvlII.MapIn.nil _, fun p h => by simp at h, by simp [sumL]⟩, IsBag.nil, IsBag.nil,
    (m1.fr ff (fun b hb e => by simp at hb; omega)).to (fun _ _ => rfl), (m2.fr ff (fun b hb e => by simp at hb; omega)).to (fun _ _ => rfl), ⟨by omega, by omega, by omega, by simp, by simp, by omega, by omega, by omega, by simp, by simp, by simp, by simp, by simp, by simp, by simp⟩⟩
  refine ⟨⟨_, [], [], [], [], hvm, rfl⟩, ?_, fun x hx => ?_⟩
  · exact fa.trans ff (fun _ _ h => h.elim) (fun _ _ h => by simp [h])
  · simp at hx
    refine ⟨?_, by omega⟩
    rcases hx with rfl | rfl | rfl
    · exact .inl (by simp)
    · exact .inr (Nat.le_refl _)
    · exact .inr (by omega)
end
theorem eql_map (mk : Option Nat) (w : World) : (binOp .eql TMK (.map mk) (.map none)).run Tryz.prog w = .ok (.bool mk.isNone) w := by
  cases mk with
  | none => kernel_rfl
  | some r => kernel_rfl
/-- The view, the shift in a box beside, and the places of both lists. -/
structure AS (w0 : World) (F0 : List Nat) (w : World) (B rk rc n : Nat) (l : List K3) (F : List Nat) (Bs : Nat) (A1 A2 : Option Addr) (c1 c2 : Nat) (xs ys : List Pl) : Prop where
  h : VM w B rk rc n l l l l F
  t : Tn F0 F w0 w
  p : Bk w Bs #[.slice A1 xs.length c1, .slice A2 ys.length c2] TSh
  nb : Bs ∉ F
  a1 : Ar w A1 c1 xs F
  a2 : Ar w A2 c2 ys F
section
variable {w0 w w' : World} {F0 F F' : List Nat} {B rk rc n m : Nat} {l l' : List K3} {Bs : Nat} {A1 A2 : Option Addr} {c1 c2 : Nat} {xs ys : List Pl}
theorem AS.to (h : AS w0 F0 w B rk rc n l F Bs A1 A2 c1 c2 xs ys) (k : VM w' B rk rc m l' l' l' l' F') (t : Tn F F' w w') : AS w0 F0 w' B rk rc m l' F' Bs A1 A2 c1 c2 xs ys :=
  ⟨k, h.t.trans t, h.p.fr t.fr (fun b hb => by simp at hb; subst hb; exact h.nb), fun hx => by
    rcases (t.sub Bs hx).1 with e | e
    · exact h.nb e
    · have := lt_of_heap h.p; omega, h.a1.step t, h.a2.step t⟩
theorem AS.fr (h : AS w0 F0 w B rk rc n l F Bs A1 A2 c1 c2 xs ys) (hf : Fr (fun _ => False) w w') : AS w0 F0 w' B rk rc n l F Bs A1 A2 c1 c2 xs ys := h.to (h.h.fr hf (fun _ _ h => h)) (Tn.of_fr hf h.h.lt)
theorem AS.mk' (hvm : VM w' B rk rc n l l l l F') (t0 : Tn F F w0 w) (t : Tn F F' w w') (b : Bk w Bs #[.slice A1 xs.length c1, .slice A2 ys.length c2] TSh) (nb : Bs ∉ F) (a1 : Ar w A1 c1 xs F) (a2 : Ar w A2 c2 ys F) : AS w0 F w' B rk rc n l F' Bs A1 A2 c1 c2 xs ys :=
  ⟨hvm, t0.trans t, b.fr t.fr (fun b hb => by simp at hb; subst hb; exact nb), fun hx => by
    rcases (t.sub Bs hx).1 with e | e
    · exact nb e
    · have := lt_of_heap b; omega, a1.step t, a2.step t⟩
theorem pl_cells {w : World} {k : Nat} {xs : List Pl} {b o : Nat} (hk : k < xs.length) (hc : ∀ j u, (xs.flatMap plc)[j]? = some u → w.cell? ⟨b, o + j, none⟩ = some u) :
    w.cell? ⟨b, o + k * 6, none⟩ = some (.int .i64 xs[k].t) ∧ w.cell? ⟨b, o + k * 6 + 1, none⟩ = some (.int .i64 xs[k].i) ∧ w.cell? ⟨b, o + k * 6 + 1 + 1, none⟩ = some (.int .i64 xs[k].c) ∧ w.cell? ⟨b, o + k * 6 + 1 + 1 + 1, none⟩ = some (.int .i64 xs[k].d) ∧ w.cell? ⟨b, o + k * 6 + 1 + 1 + 1 + 1, none⟩ = some (.int .i64 xs[k].p) ∧ w.cell? ⟨b, o + k * 6 + 1 + 1 + 1 + 1 + 1, none⟩ = some (.int .i64 xs[k].f) := by
  have key : ∀ j u, j < 6 → (plc xs[k])[j]? = some u → w.cell? ⟨b, o + (k * 6 + j), none⟩ = some u := fun j u hj hu => hc _ u (by rw [flat_at plc_len hk hj]; exact hu)
  exact ⟨key 0 _ (by omega) rfl, key 1 _ (by omega) rfl, key 2 _ (by omega) rfl, key 3 _ (by omega) rfl, key 4 _ (by omega) rfl, key 5 _ (by omega) rfl⟩
end
set_option maxRecDepth 100000 in
set_option maxHeartbeats 1000000 in
theorem Apply (B n : Nat) (l : List K3) (F : List Nat) (A1 A2 : Option Addr) (c1 c2 : Nat) (xs ys : List Pl) (w : World) (h : VB w B n l F) (a1 : Ar w A1 c1 xs F) (a2 : Ar w A2 c2 ys F) (hwf1 : ∀ x ∈ xs, okK x.k) (hwf2 : ∀ x ∈ ys, okK x.k)
    (hx : xs.length ≤ 1000) (hy : ys.length ≤ 1000) (hl : l.length + ys.length < 100000) (hn : n + 3 * (xs.length + ys.length) < 1000000) :
    Calls Tryz.prog 50 #[.pointer (some ⟨B, 0, none⟩), .agg #[.slice A1 xs.length c1, .slice A2 ys.length c2]] w fun e w' => e = .returned (.bool (hasB l (xs.map Pl.k))) ∧ ∃ F', VB w' B (n + 3 * (xs.length + ys.length)) (appL l (xs.map Pl.k) (ys.map Pl.k)) F' ∧ Tn F F' w w' := by
  obtain ⟨mk, hrk, hcase⟩ := h.rk
  have hFl := h.lt
  have hBF := h.mem
  have fa := Fr.alloc (fun _ => False) w (.cells #[.slice A1 xs.length c1, .slice A2 ys.length c2] TSh)
  have HH := Lib.hid (has B mk l A1 c1 xs (w.alloc (.cells #[.slice A1 xs.length c1, .slice A2 ys.length c2] TSh)) (hrk.fr fa) (a1.fr fa).1 hwf1 hx)
  have HBs := Lib.hid (Bk.new w #[.slice A1 xs.length c1, .slice A2 ys.length c2] TSh)
  have HA1 := Lib.hid (a1.fr fa); have HA2 := Lib.hid (a2.fr fa); have HW1 := Lib.hid hwf1; have HW2 := Lib.hid hwf2
  have HF0 := Lib.hid fa; have HV := Lib.hid (h.fr fa (fun _ _ h => h)); have HRK := Lib.hid (hrk.fr fa); have HFl := Lib.hid hFl
  have HC := Lib.hid hcase
  have hlx1 : 0 ≤ (xs.length : Int) := by omega
  have hne : ¬ w.heap.size = B := fun e => by have := hFl B hBF; omega
  have hne2 : ¬ B = w.heap.size := fun e => hne e.symm
  clear hrk hcase h a1 a2 hwf1 hwf2 fa
  go_enter Tryz.func50, Tryz.ntmps50
  go_wp2_with fail
  refine HH.out.mono ?_
  rintro e w1 ⟨rfl, hf1⟩
  have fa1 := HF0.out.trans hf1 (T := fun _ => False) (fun _ _ h => h) (fun _ _ h => h)
  have HF1 := Lib.hid fa1
  have b1 := HBs.out.fr hf1 (fun _ _ h => h)
  have s0 : w1.cell? ⟨w.heap.size, 0, none⟩ = some (.slice A1 xs.length c1) := b1.cell 0
  have s1 : w1.cell? ⟨w.heap.size, 1, none⟩ = some (.slice A2 ys.length c2) := b1.cell 1
  have HB1 := Lib.hid b1; have HA1' := Lib.hid (HA1.out.fr hf1); have HA2' := Lib.hid (HA2.out.fr hf1); have HV1 := Lib.hid (HV.out.fr hf1 (fun _ _ h => h)); have HR1 := Lib.hid (HRK.out.fr hf1)
  clear fa1 hf1 b1 HH HBs HA1 HA2 HF0 HV HRK
  cases hh : hasB l (xs.map Pl.k) with
  | false =>
    have hx0 : xs.length ≠ 0 := fun e => by
      have : xs = [] := List.eq_nil_of_length_eq_zero e
      subst this; cases hh
    have hz : ((xs.length : Int) + ys.length == 0) = false := by simp; omega
    have hwr : IntKind.i64.wrap ((xs.length : Int) + ys.length) = xs.length + ys.length := IntWalk.i64_in _ (by omega)
    have HApp : Hid (appL l (xs.map Pl.k) (ys.map Pl.k) = l) := by show _ = _; unfold appL; rw [hh]; rfl
    go_wp2_with fail
    go_ret
    exact ⟨by rw [hh]; rfl, F, by rw [HApp.out]; exact HV1.out.up (by omega) hn, Tn.of_fr HF1.out HFl.out⟩
  | true =>
    have HApp : Hid (appL l (xs.map Pl.k) (ys.map Pl.k) = dif l (xs.map Pl.k) ++ ys.map Pl.k) := by show _ = _; unfold appL; rw [hh]; rfl
    have HHas := Lib.hid hh
    clear hh
    have q0 := HR1.out.1
    have hbm := eql_map mk
    have hnb : w.heap.size ∉ F := fun e => by have := HFl.out _ e; omega
    have HNb := Lib.hid hnb
    clear hnb
    go_upto_if 30 with (fail)
    clear hbm q0
    go_cut [0, 3] (fun s0 s3 wc => s0 = .pointer (some ⟨B, 0, none⟩) ∧ s3 = .pointer (some ⟨w.heap.size, 0, none⟩) ∧ ∃ rk rc F1, AS w F wc B rk rc n l F1 w.heap.size A1 A2 c1 c2 xs ys)
    case first =>
      rcases HC.out with ⟨rfl, hz, rfl, rfl⟩ | ⟨rk, rc, rfl, hvm⟩
      · have hz1 : Bk w1 B zeroV TV := hz.fr HF1.out (fun _ _ h => h)
        have hz2 : Bk ((w1.alloc (.map #[] 0)).alloc (.map #[] 0)) B zeroV TV := (hz1.fr (Fr.alloc (fun _ => False) _ _) (fun _ _ h => h)).fr (Fr.alloc (fun _ => False) _ _) (fun _ _ h => h)
        have k0 : ((w1.alloc (.map #[] 0)).alloc (.map #[] 0)).cell? ⟨B, 0, none⟩ = some (.map none) := hz2.cell 0
        have g0 := hz2.free 0
        have hz3 := hz2.set 0 (.map (some w1.heap.size))
        have k1 : (((w1.alloc (.map #[] 0)).alloc (.map #[] 0)).setCell ⟨B, 0, none⟩ (.map (some w1.heap.size))).cell? ⟨B, 1, none⟩ = some (.map none) := hz3.cell 1
        have g1 := hz3.free 1
        have hmm := @run_makeMap Tryz.prog
        have hmade := VM.made hz1 rfl
        have HMade := Lib.hid hmade
        clear hmade hz hz1 hz2 hz3 HC HR1 HV1
        go_wp2_with fail
        go_meet
        exact ⟨rfl, rfl, _, _, _, AS.mk' (HMade.out.1.up (Nat.zero_le _) (by omega)) (Tn.of_fr HF1.out HFl.out) HMade.out.2 HB1.out HNb.out HA1'.out HA2'.out⟩
      · have HM := Lib.hid (hvm.fr HF1.out (fun _ _ h => h))
        clear hvm HC HR1 HV1
        go_wp2_with fail
        go_meet
        exact ⟨rfl, rfl, rk, rc, F, AS.mk' HM.out (Tn.of_fr HF1.out HFl.out) (Tn.refl HM.out.lt) HB1.out HNb.out HA1'.out HA2'.out⟩
    case rest =>
      obtain ⟨rfl, rfl, rk, rc, F1, hcs⟩ := hcut
      have H := Lib.hid hcs
      have s0 : wc.cell? ⟨w.heap.size, 0, none⟩ = some (.slice A1 xs.length c1) := hcs.p.cell 0
      clear hcs HC HR1 HV1 HB1 HA1' HA2' HF1 HNb hne hne2
      have hnx : xs.length ≤ 9223372036854775807 := by omega
      have hny : ys.length ≤ 9223372036854775807 := by omega
      go_wp2_with fail
      clear s0
      go_loopg [6, 42] xs.length (fun gk _ i wr => ∃ (k : Nat) (F2 : List Nat), i = .int .i64 k ∧ k ≤ xs.length ∧ gk = xs.length - k ∧ AS w F wr B rk rc (n + 3 * k) (dif l ((xs.map Pl.k).take k)) F2 w.heap.size A1 A2 c1 c2 xs ys)
      case atStart => exact ⟨0, F1, rfl, Nat.zero_le _, rfl, H.out⟩
      case round =>
        obtain ⟨k, F2, rfl, hk, hg, hst⟩ := hrel
        have HG := Lib.hid hg; have H2 := Lib.hid hst
        clear hg hst H
        by_cases hlt : k < xs.length
        · have HPl := H2.out.a1.1.at hlt (by omega)
          obtain ⟨b1, o1, rfl, hb1, hc1⟩ := HPl
          obtain ⟨d0, d1, d2, d3, d4, d5⟩ := pl_cells hlt hc1
          have hkx := HW1.out _ (List.getElem_mem hlt)
          have hT : (xs.map Pl.k).take (k + 1) = (xs.map Pl.k).take k ++ [xs[k].k] := by rw [List.take_succ_eq_append_getElem (by simpa using hlt)]; simp
          have hD : xs.map Pl.k = (xs.map Pl.k).take k ++ [xs[k].k] ++ (xs.map Pl.k).drop (k + 1) := by rw [← hT, List.take_append_drop]
          have hm : xs[k].k ∈ dif l ((xs.map Pl.k).take k) := by
            have h1 := HHas.out
            rw [hD] at h1
            have h2 := hasB_left h1
            rw [hasB_snoc, Bool.and_eq_true, decide_eq_true_eq] at h2
            exact mem_dif.2 h2.2
          have HT : Hid (dif l ((xs.map Pl.k).take (k + 1)) = (dif l ((xs.map Pl.k).take k)).erase xs[k].k) := by show _ = _; rw [hT, dif_snoc]
          have hln := dif_len ((xs.map Pl.k).take k) l
          have H3 := Lib.hid (H2.out.fr (Fr.alloc (fun _ => False) wr (.cells (pla xs[k]) TP)))
          have HL := Lib.hid (leave B rk rc (n + 3 * k) (dif l ((xs.map Pl.k).take k)) F2 xs[k] (wr.alloc (.cells (pla xs[k]) TP)) H3.out.h hkx hm (by omega) (by omega))
          clear hT hD hm hc1 hkx H2 hln
          generalize dif l ((xs.map Pl.k).take k) = l1 at *
          generalize xs[k] = x at *
          obtain ⟨t, i, c, d, p, f⟩ := x
          dsimp only at d0 d1 d2 d3 d4 d5
          go_wp2_with fail
          refine HL.out.mono ?_
          rintro e w2 ⟨rfl, F3, hv, ht⟩
          have H4 := Lib.hid (H3.out.to hv ht)
          clear hv ht H3 HL d0 d1 d2 d3 d4 d5
          go_wp2_with fail
          go_roundg (xs.length - (k + 1))
          case rel => exact ⟨k + 1, F3, by go_num, by omega, rfl, by rw [HT.out]; exact H4.out⟩
          case measure => have := HG.out; omega
        · obtain rfl : k = xs.length := by omega
          have hE : (xs.map Pl.k).take xs.length = xs.map Pl.k := List.take_of_length_le (by simp)
          rw [hE] at H2
          have s1 : wr.cell? ⟨w.heap.size, 1, none⟩ = some (.slice A2 ys.length c2) := H2.out.p.cell 1
          have hl1 := dif_len (xs.map Pl.k) l
          clear hE
          generalize dif l (xs.map Pl.k) = l1 at *
          obtain ⟨wo, rfl⟩ : ∃ wo, wo = wr := ⟨_, rfl⟩
          go_wp2_with fail
          clear s1
          go_loopg [8, 53] ys.length (fun gk _ i wr => ∃ (k : Nat) (F3 : List Nat), i = .int .i64 k ∧ k ≤ ys.length ∧ gk = ys.length - k ∧ AS w F wr B rk rc (n + 3 * (xs.length + k)) (l1 ++ (ys.map Pl.k).take k) F3 w.heap.size A1 A2 c1 c2 xs ys)
          case atStart => exact ⟨0, F2, rfl, Nat.zero_le _, rfl, by simpa using H2.out⟩
          case round =>
            obtain ⟨k, F3, rfl, hk, hg, hst⟩ := hrel
            have HG := Lib.hid hg; have H5 := Lib.hid hst
            clear hg hst H2
            by_cases hlt : k < ys.length
            · have HPl := H5.out.a2.1.at hlt (by omega)
              obtain ⟨b1, o1, rfl, hb1, hc1⟩ := HPl
              obtain ⟨d0, d1, d2, d3, d4, d5⟩ := pl_cells hlt hc1
              have hkx := HW2.out _ (List.getElem_mem hlt)
              have HT : Hid (l1 ++ (ys.map Pl.k).take (k + 1) = l1 ++ (ys.map Pl.k).take k ++ [ys[k].k]) := by show _ = _; rw [List.take_succ_eq_append_getElem (by simpa using hlt)]; simp
              have hln : (l1 ++ (ys.map Pl.k).take k).length < 100000 := by simp; omega
              have H6 := Lib.hid (H5.out.fr (Fr.alloc (fun _ => False) wr (.cells (pla ys[k]) TP)))
              have HL := Lib.hid (come B rk rc (n + 3 * (xs.length + k)) (l1 ++ (ys.map Pl.k).take k) F3 ys[k] (wr.alloc (.cells (pla ys[k]) TP)) H6.out.h hkx hln (by omega))
              clear hc1 hkx H5 hln
              generalize l1 ++ (ys.map Pl.k).take k = l2 at *
              generalize ys[k] = x at *
              obtain ⟨t, i, c, d, p, f⟩ := x
              dsimp only at d0 d1 d2 d3 d4 d5
              go_wp2_with fail
              refine HL.out.mono ?_
              rintro e w2 ⟨rfl, F4, hv, ht⟩
              have H7 := Lib.hid (H6.out.to hv ht)
              clear hv ht H6 HL d0 d1 d2 d3 d4 d5
              go_wp2_with fail
              go_roundg (ys.length - (k + 1))
              case rel => exact ⟨k + 1, F4, by go_num, by omega, rfl, by rw [HT.out]; exact H7.out⟩
              case measure => have := HG.out; omega
            · obtain rfl : k = ys.length := by omega
              have hE : (ys.map Pl.k).take ys.length = ys.map Pl.k := List.take_of_length_le (by simp)
              rw [hE] at H5
              clear hE
              go_wp2_with fail
              go_ret
              exact ⟨by rw [HHas.out]; rfl, F3, .inr ⟨rk, rc, by rw [HApp.out]; exact H5.out.h⟩, H5.out.t⟩
end Shape
end Go.Proofs.YtgfjpnpbkkadpaaGreat
