/- Layer 23's statements: what both use. -/
import Derived.Test.YtgfjpnpbkkadpaaGreatR23
import Derived.Test.YtgfjpnpbkkadpaaGreatEngs
namespace Go.Proofs.YtgfjpnpbkkadpaaGreat
open Go.RowKit
namespace Law23
open BagP Bag ShapeP Fm Shape Ref23
attribute [local go_sem] Eng.ev Eng.getO_cons Eng.getO_nil
theorem sl_row (w : World) (t : TypeId) (cs : List Value) (n sz : Nat) (hs : cs.length = n * sz) (hn : n ≤ maxLen) : Sl (w.alloc (.cells cs.toArray t)) sz (some ⟨w.heap.size, 0, none⟩) n n cs := by
  refine ⟨hs, Nat.le_refl _, hn, (by simp), fun _ => ⟨_, 0, rfl, fun i u hu => ?_⟩⟩
  rw [Nat.zero_add, cell_of_block (heap_new w _)]
  simpa using hu
theorem tn_not {F F' : List Nat} {w w' : World} {b : Nat} (ht : Tn F F' w w') (h : b ∉ F) (hb : b < w.heap.size) : b ∉ F' := fun e => by
  rcases (ht.sub b e).1 with e | e
  · exact h e
  · omega
abbrev pa : Pl := ⟨0, 0, 1, 1, 0, 1⟩
abbrev pb : Pl := ⟨0, 0, 1, 2, 0, 0⟩
abbrev x3 : Shp := ⟨3, 3, 0, 0, [(1, 1), (2, 2)], [(0, 2), (1, 1)]⟩
theorem shp3 : IsShp [pa.k, pb.k, pb.k] x3 := by
  have hD : Dep [pa.k, pb.k, pb.k] [(1, 1), (2, 2)] := by
    have h := ((IsBag.nil (key := kd) (q := qd)).add (by decide) pa.k rfl).add (by decide) pb.k rfl |>.add (by decide) pb.k rfl
    have e : addL (kd pb.k) 1 (addL (kd pb.k) 1 (addL (kd pa.k) 1 [])) = [(1, 1), (2, 2)] := by decide
    rw [e] at h; exact h
  have hF : Fan [pa.k, pb.k, pb.k] [(0, 2), (1, 1)] := by
    have h := ((IsBag.nil (key := kf) (q := qf)).add (by decide) pa.k rfl).add (by decide) pb.k rfl |>.add (by decide) pb.k rfl
    have e : addL (kf pb.k) 1 (addL (kf pb.k) 1 (addL (kf pa.k) 1 [])) = [(0, 2), (1, 1)] := by decide
    rw [e] at h; exact h
  exact ⟨by decide, by decide, by decide, by decide, hD, hF⟩
/-- Places in a block, outside the view. -/
def Sb (w : World) (r : Nat) (xs : List Pl) (F : List Nat) : Prop := w.heap[r]? = some (.cells (xs.flatMap plc).toArray TP) ∧ r ∉ F
/-- awake's state: the view, two places, a shape, and slices of places. -/
structure AW (w0 w : World) (B n : Nat) (l : List K3) (F : List Nat) (Ba Bb Bx : Nat) (A1 A2 : Option Addr) (c1 c2 : Nat) (X : List (Nat × List Pl)) (Y : List (Option Addr × Nat × List (Int × Int))) : Prop where
  v : VB w B n l F
  a : Bk w Ba (pla pa) TP
  b : Bk w Bb (pla pb) TP
  x : Bk w Bx (sha x3 A1 A2 c1 c2) TSp
  d : Cs w A1 c1 x3.D
  f : Cs w A2 c2 x3.F
  na : Ba ∉ F
  nb : Bb ∉ F
  nx : Bx ∉ F
  n1 : ∀ a, A1 = some a → a.block ∉ F
  n2 : ∀ a, A2 = some a → a.block ∉ F
  lo : ∀ b ∈ F, w0.heap.size ≤ b
  fr0 : Fr (fun _ => False) w0 w
  ex : ∀ p ∈ X, Sb w p.1 p.2 F
  y : ∀ s ∈ Y, Cs w s.1 s.2.1 s.2.2
section
variable {w0 w w' : World} {B n : Nat} {l : List K3} {F F' : List Nat} {Ba Bb Bx : Nat} {A1 A2 : Option Addr} {c1 c2 : Nat} {X : List (Nat × List Pl)} {Y : List (Option Addr × Nat × List (Int × Int))}
theorem Sb.ar {r : Nat} {xs : List Pl} (h : Sb w r xs F) (hx : xs.length ≤ 1000) : Ar w (some ⟨r, 0, none⟩) xs.length xs F :=
  ⟨⟨flat_length plc_len xs, Nat.le_refl _, by unfold maxLen; omega, by simp, fun _ => ⟨r, 0, rfl, fun i u hu => by rw [Nat.zero_add, cell_of_block h.1]; simpa using hu⟩⟩, fun _ a ha => by cases ha; exact h.2⟩
theorem Sb.new (h : VB w B n l F) (xs : List Pl) : Sb (w.alloc (.cells (xs.flatMap plc).toArray TP)) w.heap.size xs F := ⟨heap_new _ _, fun e => by have := h.lt _ e; omega⟩
theorem Sb.fr {r : Nat} {xs : List Pl} (h : Sb w r xs F) (hf : Fr (fun _ => False) w w') : Sb w' r xs F := ⟨(hf.block r (lt_of_heap h.1) (fun h => h)).trans h.1, h.2⟩
theorem Sb.turn {r : Nat} {xs : List Pl} (h : Sb w r xs F) (ht : Tn F F' w w') : Sb w' r xs F' := ⟨(ht.fr.block r (lt_of_heap h.1) h.2).trans h.1, tn_not ht h.2 (lt_of_heap h.1)⟩
theorem AW.fr (h : AW w0 w B n l F Ba Bb Bx A1 A2 c1 c2 X Y) (hf : Fr (fun _ => False) w w') : AW w0 w' B n l F Ba Bb Bx A1 A2 c1 c2 X Y :=
  ⟨h.v.fr hf (fun _ _ h => h), h.a.fr hf (fun _ _ h => h), h.b.fr hf (fun _ _ h => h), h.x.fr hf (fun _ _ h => h), h.d.fr hf (fun _ _ h => h), h.f.fr hf (fun _ _ h => h), h.na, h.nb, h.nx, h.n1, h.n2, h.lo, h.fr0.trans hf (fun _ _ h => h) (fun _ _ h => h), fun p hp => (h.ex p hp).fr hf, fun s hs => (h.y s hs).fr hf (fun _ _ h => h)⟩
theorem AW.mk1 (h : AW w0 w B n l F Ba Bb Bx A1 A2 c1 c2 X Y) (xs : List Pl) : AW w0 (w.alloc (.cells (xs.flatMap plc).toArray TP)) B n l F Ba Bb Bx A1 A2 c1 c2 ((w.heap.size, xs) :: X) Y := by
  have k := h.fr (Fr.alloc (fun _ => False) w (.cells (xs.flatMap plc).toArray TP))
  refine ⟨k.v, k.a, k.b, k.x, k.d, k.f, k.na, k.nb, k.nx, k.n1, k.n2, k.lo, k.fr0, fun p hp => ?_, k.y⟩
  rcases List.mem_cons.1 hp with rfl | hp
  · exact Sb.new h.v xs
  · exact (h.ex p hp).fr (Fr.alloc _ _ _)
theorem AW.exx (h : AW w0 w B n l F Ba Bb Bx A1 A2 c1 c2 X Y) {r : Nat} {xs : List Pl} (hx : (r, xs) ∈ X) : Sb w r xs F := h.ex _ hx
theorem AW.turn {m : Nat} {l' : List K3} (h : AW w0 w B n l F Ba Bb Bx A1 A2 c1 c2 X Y) (hv : VB w' B m l' F') (ht : Tn F F' w w') : AW w0 w' B m l' F' Ba Bb Bx A1 A2 c1 c2 X [] :=
  ⟨hv, h.a.fr ht.fr (fun b hb => by simp at hb; subst hb; exact h.na), h.b.fr ht.fr (fun b hb => by simp at hb; subst hb; exact h.nb), h.x.fr ht.fr (fun b hb => by simp at hb; subst hb; exact h.nx),
    h.d.fr ht.fr h.n1, h.f.fr ht.fr h.n2, tn_not ht h.na (lt_of_heap h.a), tn_not ht h.nb (lt_of_heap h.b), tn_not ht h.nx (lt_of_heap h.x),
    fun a ha => tn_not ht (h.n1 a ha) (h.d.lt (by simp) a ha), fun a ha => tn_not ht (h.n2 a ha) (h.f.lt (by simp) a ha),
    fun b hb => by
      rcases (ht.sub b hb).1 with e | e
      · exact h.lo b e
      · have := h.fr0.size; omega, h.fr0.trans ht.fr (fun _ _ h => h) (fun i hi e => by have := h.lo i e; omega), fun p hp => (h.ex p hp).turn ht, by simp⟩
theorem AW.less (h : AW w0 w B n l F Ba Bb Bx A1 A2 c1 c2 X Y) : AW w0 w B n l F Ba Bb Bx A1 A2 c1 c2 [] [] := { h with ex := by simp, y := by simp }
theorem AW.yfr {P1 P2 : Option Addr} {e1 e2 : Nat} {D1 D2 : List (Int × Int)} (h : AW w0 w B n l F Ba Bb Bx A1 A2 c1 c2 X Y) (hf : Fr (fun _ => False) w w') (s1 : Cs w' P1 e1 D1) (s2 : Cs w' P2 e2 D2) : AW w0 w' B n l F Ba Bb Bx A1 A2 c1 c2 X [(P1, e1, D1), (P2, e2, D2)] := by
  have k := h.fr hf
  refine ⟨k.v, k.a, k.b, k.x, k.d, k.f, k.na, k.nb, k.nx, k.n1, k.n2, k.lo, k.fr0, k.ex, fun s hs => ?_⟩
  simp only [List.mem_cons, List.not_mem_nil, or_false] at hs
  rcases hs with rfl | rfl
  · exact s1
  · exact s2
theorem Ar.nil (w : World) (F : List Nat) : Ar w none 0 [] F := ⟨Sl.empty _ _, fun h => absurd rfl h⟩
theorem okpa : okK pa.k := ⟨wf_small (by decide) (by decide), wf_small (by decide) (by decide), wf_small (by decide) (by decide)⟩
theorem okpb : okK pb.k := ⟨wf_small (by decide) (by decide), wf_small (by decide) (by decide), wf_small (by decide) (by decide)⟩
theorem AW.app (h : AW w0 w B n l F Ba Bb Bx A1 A2 c1 c2 X Y) {P1 P2 : Option Addr} {e1 e2 : Nat} {xs ys : List Pl} (a1 : Ar w P1 e1 xs F) (a2 : Ar w P2 e2 ys F) (w1 : ∀ x ∈ xs, okK x.k) (w2 : ∀ x ∈ ys, okK x.k) (hx : xs.length ≤ 10) (hy : ys.length ≤ 10) (hl : l.length ≤ 100) (hn : n ≤ 100)
    {bb : Bool} {l' : List K3} (hb : hasB l (xs.map Pl.k) = bb) (hl' : appL l (xs.map Pl.k) (ys.map Pl.k) = l') :
    Calls Tryz.prog 50 #[.pointer (some ⟨B, 0, none⟩), .agg #[.slice P1 xs.length e1, .slice P2 ys.length e2]] w fun e w' => e = .returned (.bool bb) ∧ ∃ F', AW w0 w' B (n + 3 * (xs.length + ys.length)) l' F' Ba Bb Bx A1 A2 c1 c2 X [] ∧ Tn F F' w w' := by
  refine (Apply B n l F P1 P2 e1 e2 xs ys w h.v a1 a2 w1 w2 (by omega) (by omega) (by omega) (by omega)).mono ?_
  rintro e w' ⟨rfl, F', hv, ht⟩
  rw [hl'] at hv
  exact ⟨by rw [hb], F', h.turn hv ht, ht⟩
end
set_option maxRecDepth 100000 in
set_option maxHeartbeats 1000000 in
theorem w5 {ops : Array Oper} (hops : Eng.fnOps Tryz.f47 5 = ops) (a0 : Act) (Q : Exit → Act → World → Prop) (w0 w : World) (B n : Nat) (F : List Nat) (Ba Bb Bx : Nat) (A1 A2 : Option Addr) (c1 c2 : Nat) (hst : AW w0 w B n [pa.k] F Ba Bb Bx A1 A2 c1 c2 [] []) (hn_ : n ≤ 100)
    (hn : a0.tmps.size = 69) (h_1 : a0.tmps.getD 1 undef = .pointer (some ⟨Ba, 0, none⟩)) (h_2 : a0.tmps.getD 2 undef = .pointer (some ⟨Bb, 0, none⟩)) (h_3 : a0.tmps.getD 3 undef = .pointer (some ⟨Bx, 0, none⟩)) (h_4 : a0.tmps.getD 4 undef = .pointer (some ⟨B, 0, none⟩)) (h_5 : a0.tmps.getD 5 undef = .bool true) (h_6 : a0.tmps.getD 6 undef = .bool true)
    (hpost : ∀ (x : Nat → Value) (w' : World), x 0 = .bool true → Fr (fun _ => False) w0 w' → Q .normal (Eng.setAll a0 [0, 23, 24, 25, 26, 27, 28, 29, 30, 31, 32, 33, 34, 35, 36, 37, 38, 39, 40, 41, 42, 43, 44, 45, 46, 47, 48, 49, 50, 51, 52, 53, 54, 55, 56, 57, 58, 59, 60, 61, 62, 63, 64, 65, 66, 67, 68] x) w') :
    (Code.region 5 ops true).wp Tryz.prog Q a0 w := by
  simp only [Eng.fnOps, Eng.regOps, Tryz.f47, Option.bind_some, Option.getD_some, Nat.reduceEqDiff, ↓reduceIte, Nat.reduceBEq] at hops
  subst hops
  have g2 : Hid (great x3.D = 2 ∧ great x3.F = 1) := by exact ⟨by decide, by decide⟩
  have HSt := Lib.hid (hst.fr (Fr.drew _ _))
  have hSS : w.drew.cell? ⟨Bx, 0, none⟩ = some (.int .i64 3) ∧ w.drew.cell? ⟨Bx, 1, none⟩ = some (.int .i64 3) ∧ w.drew.cell? ⟨Bx, 2, none⟩ = some (.int .i64 0) ∧ w.drew.cell? ⟨Bx, 3, none⟩ = some (.int .i64 0) ∧ w.drew.cell? ⟨Bx, 4, none⟩ = some (.slice A1 2 c1) ∧ w.drew.cell? ⟨Bx, 5, none⟩ = some (.slice A2 2 c2) ∧ w.drew.cell? ⟨Ba, 0, none⟩ = some (.int .i64 0) ∧ w.drew.cell? ⟨Ba, 1, none⟩ = some (.int .i64 0) ∧ w.drew.cell? ⟨Ba, 2, none⟩ = some (.int .i64 1) ∧ w.drew.cell? ⟨Ba, 3, none⟩ = some (.int .i64 1) ∧ w.drew.cell? ⟨Ba, 4, none⟩ = some (.int .i64 0) ∧ w.drew.cell? ⟨Ba, 5, none⟩ = some (.int .i64 1) ∧ w.drew.cell? ⟨Bb, 0, none⟩ = some (.int .i64 0) ∧ w.drew.cell? ⟨Bb, 1, none⟩ = some (.int .i64 0) ∧ w.drew.cell? ⟨Bb, 2, none⟩ = some (.int .i64 1) ∧ w.drew.cell? ⟨Bb, 3, none⟩ = some (.int .i64 2) ∧ w.drew.cell? ⟨Bb, 4, none⟩ = some (.int .i64 0) ∧ w.drew.cell? ⟨Bb, 5, none⟩ = some (.int .i64 0) := ⟨HSt.out.x.cell 0, HSt.out.x.cell 1, HSt.out.x.cell 2, HSt.out.x.cell 3, HSt.out.x.cell 4, HSt.out.x.cell 5, HSt.out.a.cell 0, HSt.out.a.cell 1, HSt.out.a.cell 2, HSt.out.a.cell 3, HSt.out.a.cell 4, HSt.out.a.cell 5, HSt.out.b.cell 0, HSt.out.b.cell 1, HSt.out.b.cell 2, HSt.out.b.cell 3, HSt.out.b.cell 4, HSt.out.b.cell 5⟩
  refine Eng.regionT (.take 0 (.take 1 (.take 2 (.take 3 (.take 4 (.take 5 (.take 6 (.take 7 (.take 8 (.take 9 (.take 10 (.take 11 (.take 12 (.alt 13 (.alt 14 (.take 15 (.take 16 (.take 17 (.alt 18 (.take 19 (.take 20 (.take 21 (.take 22 (.alt 23 (.take 24 (.take 25 (.take 26 (.take 27 (.take 28 (.take 29 (.take 30 (.take 31 (.take 32 (.take 33 (.alt 34 (.take 35 (.alt 36 (.take 37 (.take 38 (.take 39 (.take 41 (.alt 40 (.alt 42 (.alt 43 (.alt 44 (.take 45 (.take 46 (.done))) (.stop)) (.stop)) (.stop)) (.alt 42 (.alt 40 (.alt 43 (.alt 44 (.take 45 (.take 46 (.done))) (.stop)) (.stop)) (.stop)) (.stop))))))) (.stop))) (.stop)))))))))))) (.stop)))))) (.stop))))) (.stop)) (.stop))))))))))))))) (fun w' => w'.cell? ⟨Bx, 0, none⟩ = some (.int .i64 3) ∧ w'.cell? ⟨Bx, 1, none⟩ = some (.int .i64 3) ∧ w'.cell? ⟨Bx, 2, none⟩ = some (.int .i64 0) ∧ w'.cell? ⟨Bx, 3, none⟩ = some (.int .i64 0) ∧ w'.cell? ⟨Bx, 4, none⟩ = some (.slice A1 2 c1) ∧ w'.cell? ⟨Bx, 5, none⟩ = some (.slice A2 2 c2) ∧ w'.cell? ⟨Ba, 0, none⟩ = some (.int .i64 0) ∧ w'.cell? ⟨Ba, 1, none⟩ = some (.int .i64 0) ∧ w'.cell? ⟨Ba, 2, none⟩ = some (.int .i64 1) ∧ w'.cell? ⟨Ba, 3, none⟩ = some (.int .i64 1) ∧ w'.cell? ⟨Ba, 4, none⟩ = some (.int .i64 0) ∧ w'.cell? ⟨Ba, 5, none⟩ = some (.int .i64 1) ∧ w'.cell? ⟨Bb, 0, none⟩ = some (.int .i64 0) ∧ w'.cell? ⟨Bb, 1, none⟩ = some (.int .i64 0) ∧ w'.cell? ⟨Bb, 2, none⟩ = some (.int .i64 1) ∧ w'.cell? ⟨Bb, 3, none⟩ = some (.int .i64 2) ∧ w'.cell? ⟨Bb, 4, none⟩ = some (.int .i64 0) ∧ w'.cell? ⟨Bb, 5, none⟩ = some (.int .i64 0)) (by kernel_rfl) 69 hn (by kernel_rfl) (by kernel_rfl) (by kernel_rfl) (hSS) (fun a b ha hb => ?_)
  subst ha
  have hb1 : b 1 = .pointer (some ⟨Ba, 0, none⟩) := (hb 1).symm.trans h_1
  have hb2 : b 2 = .pointer (some ⟨Bb, 0, none⟩) := (hb 2).symm.trans h_2
  have hb3 : b 3 = .pointer (some ⟨Bx, 0, none⟩) := (hb 3).symm.trans h_3
  have hb4 : b 4 = .pointer (some ⟨B, 0, none⟩) := (hb 4).symm.trans h_4
  have hb5 : b 5 = .bool true := (hb 5).symm.trans h_5
  have hb6 : b 6 = .bool true := (hb 6).symm.trans h_6
  clear hb h_1 h_2 h_3 h_4 h_5 h_6
  have HP := Lib.hid hpost; have HN := Lib.hid hn
  clear hpost hn
  refine Eng.TW.take' (v := ?_) rfl rfl (by decide) (by kernel_rfl) (fun w hw => ?_) ?_
  rotate_left
  · (try dsimp only at hw); go_simp; first | done | with_reducible rfl
  refine Eng.TW.take' (v := ?_) rfl rfl (by decide) (by kernel_rfl) (fun w hw => ?_) ?_
  rotate_left
  · (try dsimp only at hw); go_simp; first | done | with_reducible rfl
  refine Eng.TW.take' (v := ?_) rfl rfl (by decide) (by kernel_rfl) (fun w hw => ?_) ?_
  rotate_left
  · (try dsimp only at hw); go_simp; first | done | with_reducible rfl
  refine Eng.TW.take' (v := ?_) rfl rfl (by decide) (by kernel_rfl) (fun w hw => ?_) ?_
  rotate_left
  · (try dsimp only at hw); go_simp; first | done | with_reducible rfl
  refine Eng.TW.take' (v := ?_) rfl rfl (by decide) (by kernel_rfl) (fun w hw => ?_) ?_
  rotate_left
  · (try dsimp only at hw); go_simp; first | done | with_reducible rfl
  refine Eng.TW.take' (v := ?_) rfl rfl (by decide) (by kernel_rfl) (fun w hw => ?_) ?_
  rotate_left
  · (try dsimp only at hw); go_simp; first | done | with_reducible rfl
  refine Eng.TW.take' (v := ?_) rfl rfl (by decide) (by kernel_rfl) (fun w hw => ?_) ?_
  rotate_left
  · (try dsimp only at hw); go_simp; first | done | with_reducible rfl
  refine Eng.TW.take' (v := ?_) rfl rfl (by decide) (by kernel_rfl) (fun w hw => ?_) ?_
  rotate_left
  · (try dsimp only at hw); go_simp; first | done | with_reducible rfl
  refine Eng.TW.take' (v := ?_) rfl rfl (by decide) (by kernel_rfl) (fun w hw => ?_) ?_
  rotate_left
  · (try dsimp only at hw); go_simp; first | done | with_reducible rfl
  refine Eng.TW.take' (v := ?_) rfl rfl (by decide) (by kernel_rfl) (fun w hw => ?_) ?_
  rotate_left
  · (try dsimp only at hw); go_simp; first | done | with_reducible rfl
  refine Eng.TW.take' (v := ?_) rfl rfl (by decide) (by kernel_rfl) (fun w hw => ?_) ?_
  rotate_left
  · (try dsimp only at hw); go_simp; first | done | with_reducible rfl
  refine Eng.TW.take' (v := ?_) rfl rfl (by decide) (by kernel_rfl) (fun w hw => ?_) ?_
  rotate_left
  · (try dsimp only at hw); go_simp; first | done | with_reducible rfl
  refine Eng.TW.take' (v := ?_) rfl rfl (by decide) (by kernel_rfl) (fun w hw => ?_) ?_
  rotate_left
  · (try dsimp only at hw); go_simp; first | done | with_reducible rfl
  refine Eng.TW.step rfl rfl (by decide) (by kernel_rfl) (by go_simp; first | done | with_reducible rfl) (⟨(HSt.out.fr (Fr.alloc _ _ (.cells #[.int .i64 1, .int .i64 1, .int .i64 2, .int .i64 2] TC))).x.cell 0, (HSt.out.fr (Fr.alloc _ _ (.cells #[.int .i64 1, .int .i64 1, .int .i64 2, .int .i64 2] TC))).x.cell 1, (HSt.out.fr (Fr.alloc _ _ (.cells #[.int .i64 1, .int .i64 1, .int .i64 2, .int .i64 2] TC))).x.cell 2, (HSt.out.fr (Fr.alloc _ _ (.cells #[.int .i64 1, .int .i64 1, .int .i64 2, .int .i64 2] TC))).x.cell 3, (HSt.out.fr (Fr.alloc _ _ (.cells #[.int .i64 1, .int .i64 1, .int .i64 2, .int .i64 2] TC))).x.cell 4, (HSt.out.fr (Fr.alloc _ _ (.cells #[.int .i64 1, .int .i64 1, .int .i64 2, .int .i64 2] TC))).x.cell 5, (HSt.out.fr (Fr.alloc _ _ (.cells #[.int .i64 1, .int .i64 1, .int .i64 2, .int .i64 2] TC))).a.cell 0, (HSt.out.fr (Fr.alloc _ _ (.cells #[.int .i64 1, .int .i64 1, .int .i64 2, .int .i64 2] TC))).a.cell 1, (HSt.out.fr (Fr.alloc _ _ (.cells #[.int .i64 1, .int .i64 1, .int .i64 2, .int .i64 2] TC))).a.cell 2, (HSt.out.fr (Fr.alloc _ _ (.cells #[.int .i64 1, .int .i64 1, .int .i64 2, .int .i64 2] TC))).a.cell 3, (HSt.out.fr (Fr.alloc _ _ (.cells #[.int .i64 1, .int .i64 1, .int .i64 2, .int .i64 2] TC))).a.cell 4, (HSt.out.fr (Fr.alloc _ _ (.cells #[.int .i64 1, .int .i64 1, .int .i64 2, .int .i64 2] TC))).a.cell 5, (HSt.out.fr (Fr.alloc _ _ (.cells #[.int .i64 1, .int .i64 1, .int .i64 2, .int .i64 2] TC))).b.cell 0, (HSt.out.fr (Fr.alloc _ _ (.cells #[.int .i64 1, .int .i64 1, .int .i64 2, .int .i64 2] TC))).b.cell 1, (HSt.out.fr (Fr.alloc _ _ (.cells #[.int .i64 1, .int .i64 1, .int .i64 2, .int .i64 2] TC))).b.cell 2, (HSt.out.fr (Fr.alloc _ _ (.cells #[.int .i64 1, .int .i64 1, .int .i64 2, .int .i64 2] TC))).b.cell 3, (HSt.out.fr (Fr.alloc _ _ (.cells #[.int .i64 1, .int .i64 1, .int .i64 2, .int .i64 2] TC))).b.cell 4, (HSt.out.fr (Fr.alloc _ _ (.cells #[.int .i64 1, .int .i64 1, .int .i64 2, .int .i64 2] TC))).b.cell 5⟩) ?_
  have HSt2 := Lib.hid (HSt.out.fr (Fr.alloc _ _ (.cells #[.int .i64 1, .int .i64 1, .int .i64 2, .int .i64 2] TC)))
  have hSS : (w.drew.alloc (.cells #[.int .i64 1, .int .i64 1, .int .i64 2, .int .i64 2] TC)).cell? ⟨Bx, 0, none⟩ = some (.int .i64 3) ∧ (w.drew.alloc (.cells #[.int .i64 1, .int .i64 1, .int .i64 2, .int .i64 2] TC)).cell? ⟨Bx, 1, none⟩ = some (.int .i64 3) ∧ (w.drew.alloc (.cells #[.int .i64 1, .int .i64 1, .int .i64 2, .int .i64 2] TC)).cell? ⟨Bx, 2, none⟩ = some (.int .i64 0) ∧ (w.drew.alloc (.cells #[.int .i64 1, .int .i64 1, .int .i64 2, .int .i64 2] TC)).cell? ⟨Bx, 3, none⟩ = some (.int .i64 0) ∧ (w.drew.alloc (.cells #[.int .i64 1, .int .i64 1, .int .i64 2, .int .i64 2] TC)).cell? ⟨Bx, 4, none⟩ = some (.slice A1 2 c1) ∧ (w.drew.alloc (.cells #[.int .i64 1, .int .i64 1, .int .i64 2, .int .i64 2] TC)).cell? ⟨Bx, 5, none⟩ = some (.slice A2 2 c2) ∧ (w.drew.alloc (.cells #[.int .i64 1, .int .i64 1, .int .i64 2, .int .i64 2] TC)).cell? ⟨Ba, 0, none⟩ = some (.int .i64 0) ∧ (w.drew.alloc (.cells #[.int .i64 1, .int .i64 1, .int .i64 2, .int .i64 2] TC)).cell? ⟨Ba, 1, none⟩ = some (.int .i64 0) ∧ (w.drew.alloc (.cells #[.int .i64 1, .int .i64 1, .int .i64 2, .int .i64 2] TC)).cell? ⟨Ba, 2, none⟩ = some (.int .i64 1) ∧ (w.drew.alloc (.cells #[.int .i64 1, .int .i64 1, .int .i64 2, .int .i64 2] TC)).cell? ⟨Ba, 3, none⟩ = some (.int .i64 1) ∧ (w.drew.alloc (.cells #[.int .i64 1, .int .i64 1, .int .i64 2, .int .i64 2] TC)).cell? ⟨Ba, 4, none⟩ = some (.int .i64 0) ∧ (w.drew.alloc (.cells #[.int .i64 1, .int .i64 1, .int .i64 2, .int .i64 2] TC)).cell? ⟨Ba, 5, none⟩ = some (.int .i64 1) ∧ (w.drew.alloc (.cells #[.int .i64 1, .int .i64 1, .int .i64 2, .int .i64 2] TC)).cell? ⟨Bb, 0, none⟩ = some (.int .i64 0) ∧ (w.drew.alloc (.cells #[.int .i64 1, .int .i64 1, .int .i64 2, .int .i64 2] TC)).cell? ⟨Bb, 1, none⟩ = some (.int .i64 0) ∧ (w.drew.alloc (.cells #[.int .i64 1, .int .i64 1, .int .i64 2, .int .i64 2] TC)).cell? ⟨Bb, 2, none⟩ = some (.int .i64 1) ∧ (w.drew.alloc (.cells #[.int .i64 1, .int .i64 1, .int .i64 2, .int .i64 2] TC)).cell? ⟨Bb, 3, none⟩ = some (.int .i64 2) ∧ (w.drew.alloc (.cells #[.int .i64 1, .int .i64 1, .int .i64 2, .int .i64 2] TC)).cell? ⟨Bb, 4, none⟩ = some (.int .i64 0) ∧ (w.drew.alloc (.cells #[.int .i64 1, .int .i64 1, .int .i64 2, .int .i64 2] TC)).cell? ⟨Bb, 5, none⟩ = some (.int .i64 0) := ⟨HSt2.out.x.cell 0, HSt2.out.x.cell 1, HSt2.out.x.cell 2, HSt2.out.x.cell 3, HSt2.out.x.cell 4, HSt2.out.x.cell 5, HSt2.out.a.cell 0, HSt2.out.a.cell 1, HSt2.out.a.cell 2, HSt2.out.a.cell 3, HSt2.out.a.cell 4, HSt2.out.a.cell 5, HSt2.out.b.cell 0, HSt2.out.b.cell 1, HSt2.out.b.cell 2, HSt2.out.b.cell 3, HSt2.out.b.cell 4, HSt2.out.b.cell 5⟩
  refine Eng.TW.call rfl rfl (by decide) (by kernel_rfl) ?_ (Ref13.Same A1 _ c1 2 x3.D x3.D _ 2 2 rfl rfl HSt2.out.d (sl_row _ TC (x3.D.flatMap pc) 2 2 rfl (by simp [maxLen])) rfl) ?_
  · go_simp
  rintro e w3 ⟨rfl, hf⟩
  have HSt3 := Lib.hid (HSt2.out.fr hf)
  have hSS : w3.cell? ⟨Bx, 0, none⟩ = some (.int .i64 3) ∧ w3.cell? ⟨Bx, 1, none⟩ = some (.int .i64 3) ∧ w3.cell? ⟨Bx, 2, none⟩ = some (.int .i64 0) ∧ w3.cell? ⟨Bx, 3, none⟩ = some (.int .i64 0) ∧ w3.cell? ⟨Bx, 4, none⟩ = some (.slice A1 2 c1) ∧ w3.cell? ⟨Bx, 5, none⟩ = some (.slice A2 2 c2) ∧ w3.cell? ⟨Ba, 0, none⟩ = some (.int .i64 0) ∧ w3.cell? ⟨Ba, 1, none⟩ = some (.int .i64 0) ∧ w3.cell? ⟨Ba, 2, none⟩ = some (.int .i64 1) ∧ w3.cell? ⟨Ba, 3, none⟩ = some (.int .i64 1) ∧ w3.cell? ⟨Ba, 4, none⟩ = some (.int .i64 0) ∧ w3.cell? ⟨Ba, 5, none⟩ = some (.int .i64 1) ∧ w3.cell? ⟨Bb, 0, none⟩ = some (.int .i64 0) ∧ w3.cell? ⟨Bb, 1, none⟩ = some (.int .i64 0) ∧ w3.cell? ⟨Bb, 2, none⟩ = some (.int .i64 1) ∧ w3.cell? ⟨Bb, 3, none⟩ = some (.int .i64 2) ∧ w3.cell? ⟨Bb, 4, none⟩ = some (.int .i64 0) ∧ w3.cell? ⟨Bb, 5, none⟩ = some (.int .i64 0) := ⟨HSt3.out.x.cell 0, HSt3.out.x.cell 1, HSt3.out.x.cell 2, HSt3.out.x.cell 3, HSt3.out.x.cell 4, HSt3.out.x.cell 5, HSt3.out.a.cell 0, HSt3.out.a.cell 1, HSt3.out.a.cell 2, HSt3.out.a.cell 3, HSt3.out.a.cell 4, HSt3.out.a.cell 5, HSt3.out.b.cell 0, HSt3.out.b.cell 1, HSt3.out.b.cell 2, HSt3.out.b.cell 3, HSt3.out.b.cell 4, HSt3.out.b.cell 5⟩
  clear hf
  refine ⟨_, rfl, hSS, ?_⟩
  refine Eng.TW.take' (v := ?_) rfl rfl (by decide) (by kernel_rfl) (fun w hw => ?_) ?_
  rotate_left
  · (try dsimp only at hw); go_simp; first | done | with_reducible rfl
  refine Eng.TW.take' (v := ?_) rfl rfl (by decide) (by kernel_rfl) (fun w hw => ?_) ?_
  rotate_left
  · (try dsimp only at hw); go_simp; first | done | with_reducible rfl
  refine Eng.TW.take' (v := ?_) rfl rfl (by decide) (by kernel_rfl) (fun w hw => ?_) ?_
  rotate_left
  · (try dsimp only at hw); go_simp; first | done | with_reducible rfl
  refine Eng.TW.call rfl rfl (by decide) (by kernel_rfl) ?_ (Deepest x3 A1 A2 c1 c2 _ HSt3.out.d) ?_
  · go_simp
  rintro e w4 ⟨rfl, hf⟩
  rw [g2.out.1]
  have HSt4 := Lib.hid (HSt3.out.fr hf)
  have hSS : w4.cell? ⟨Bx, 0, none⟩ = some (.int .i64 3) ∧ w4.cell? ⟨Bx, 1, none⟩ = some (.int .i64 3) ∧ w4.cell? ⟨Bx, 2, none⟩ = some (.int .i64 0) ∧ w4.cell? ⟨Bx, 3, none⟩ = some (.int .i64 0) ∧ w4.cell? ⟨Bx, 4, none⟩ = some (.slice A1 2 c1) ∧ w4.cell? ⟨Bx, 5, none⟩ = some (.slice A2 2 c2) ∧ w4.cell? ⟨Ba, 0, none⟩ = some (.int .i64 0) ∧ w4.cell? ⟨Ba, 1, none⟩ = some (.int .i64 0) ∧ w4.cell? ⟨Ba, 2, none⟩ = some (.int .i64 1) ∧ w4.cell? ⟨Ba, 3, none⟩ = some (.int .i64 1) ∧ w4.cell? ⟨Ba, 4, none⟩ = some (.int .i64 0) ∧ w4.cell? ⟨Ba, 5, none⟩ = some (.int .i64 1) ∧ w4.cell? ⟨Bb, 0, none⟩ = some (.int .i64 0) ∧ w4.cell? ⟨Bb, 1, none⟩ = some (.int .i64 0) ∧ w4.cell? ⟨Bb, 2, none⟩ = some (.int .i64 1) ∧ w4.cell? ⟨Bb, 3, none⟩ = some (.int .i64 2) ∧ w4.cell? ⟨Bb, 4, none⟩ = some (.int .i64 0) ∧ w4.cell? ⟨Bb, 5, none⟩ = some (.int .i64 0) := ⟨HSt4.out.x.cell 0, HSt4.out.x.cell 1, HSt4.out.x.cell 2, HSt4.out.x.cell 3, HSt4.out.x.cell 4, HSt4.out.x.cell 5, HSt4.out.a.cell 0, HSt4.out.a.cell 1, HSt4.out.a.cell 2, HSt4.out.a.cell 3, HSt4.out.a.cell 4, HSt4.out.a.cell 5, HSt4.out.b.cell 0, HSt4.out.b.cell 1, HSt4.out.b.cell 2, HSt4.out.b.cell 3, HSt4.out.b.cell 4, HSt4.out.b.cell 5⟩
  clear hf
  refine ⟨_, rfl, hSS, ?_⟩
  refine Eng.TW.take' (v := ?_) rfl rfl (by decide) (by kernel_rfl) (fun w hw => ?_) ?_
  rotate_left
  · (try dsimp only at hw); go_simp; first | done | with_reducible rfl
  refine Eng.TW.take' (v := ?_) rfl rfl (by decide) (by kernel_rfl) (fun w hw => ?_) ?_
  rotate_left
  · (try dsimp only at hw); go_simp; first | done | with_reducible rfl
  refine Eng.TW.take' (v := ?_) rfl rfl (by decide) (by kernel_rfl) (fun w hw => ?_) ?_
  rotate_left
  · (try dsimp only at hw); go_simp; first | done | with_reducible rfl
  refine Eng.TW.take' (v := ?_) rfl rfl (by decide) (by kernel_rfl) (fun w hw => ?_) ?_
  rotate_left
  · (try dsimp only at hw); go_simp; first | done | with_reducible rfl
  refine Eng.TW.call rfl rfl (by decide) (by kernel_rfl) ?_ (Widest x3 A1 A2 c1 c2 _ HSt4.out.f) ?_
  · go_simp
  rintro e w5 ⟨rfl, hf⟩
  rw [g2.out.2]
  have HSt5 := Lib.hid (HSt4.out.fr hf)
  have hSS : w5.cell? ⟨Bx, 0, none⟩ = some (.int .i64 3) ∧ w5.cell? ⟨Bx, 1, none⟩ = some (.int .i64 3) ∧ w5.cell? ⟨Bx, 2, none⟩ = some (.int .i64 0) ∧ w5.cell? ⟨Bx, 3, none⟩ = some (.int .i64 0) ∧ w5.cell? ⟨Bx, 4, none⟩ = some (.slice A1 2 c1) ∧ w5.cell? ⟨Bx, 5, none⟩ = some (.slice A2 2 c2) ∧ w5.cell? ⟨Ba, 0, none⟩ = some (.int .i64 0) ∧ w5.cell? ⟨Ba, 1, none⟩ = some (.int .i64 0) ∧ w5.cell? ⟨Ba, 2, none⟩ = some (.int .i64 1) ∧ w5.cell? ⟨Ba, 3, none⟩ = some (.int .i64 1) ∧ w5.cell? ⟨Ba, 4, none⟩ = some (.int .i64 0) ∧ w5.cell? ⟨Ba, 5, none⟩ = some (.int .i64 1) ∧ w5.cell? ⟨Bb, 0, none⟩ = some (.int .i64 0) ∧ w5.cell? ⟨Bb, 1, none⟩ = some (.int .i64 0) ∧ w5.cell? ⟨Bb, 2, none⟩ = some (.int .i64 1) ∧ w5.cell? ⟨Bb, 3, none⟩ = some (.int .i64 2) ∧ w5.cell? ⟨Bb, 4, none⟩ = some (.int .i64 0) ∧ w5.cell? ⟨Bb, 5, none⟩ = some (.int .i64 0) := ⟨HSt5.out.x.cell 0, HSt5.out.x.cell 1, HSt5.out.x.cell 2, HSt5.out.x.cell 3, HSt5.out.x.cell 4, HSt5.out.x.cell 5, HSt5.out.a.cell 0, HSt5.out.a.cell 1, HSt5.out.a.cell 2, HSt5.out.a.cell 3, HSt5.out.a.cell 4, HSt5.out.a.cell 5, HSt5.out.b.cell 0, HSt5.out.b.cell 1, HSt5.out.b.cell 2, HSt5.out.b.cell 3, HSt5.out.b.cell 4, HSt5.out.b.cell 5⟩
  clear hf
  refine ⟨_, rfl, hSS, ?_⟩
  refine Eng.TW.take' (v := ?_) rfl rfl (by decide) (by kernel_rfl) (fun w hw => ?_) ?_
  rotate_left
  · (try dsimp only at hw); go_simp; first | done | with_reducible rfl
  refine Eng.TW.take' (v := ?_) rfl rfl (by decide) (by kernel_rfl) (fun w hw => ?_) ?_
  rotate_left
  · (try dsimp only at hw); go_simp; first | done | with_reducible rfl
  refine Eng.TW.take' (v := ?_) rfl rfl (by decide) (by kernel_rfl) (fun w hw => ?_) ?_
  rotate_left
  · (try dsimp only at hw); go_simp; first | done | with_reducible rfl
  refine Eng.TW.take' (v := ?_) rfl rfl (by decide) (by kernel_rfl) (fun w hw => ?_) ?_
  rotate_left
  · (try dsimp only at hw); go_simp; first | done | with_reducible rfl
  refine Eng.TW.take' (v := ?_) rfl rfl (by decide) (by kernel_rfl) (fun w hw => ?_) ?_
  rotate_left
  · (try dsimp only at hw); go_simp; first | done | with_reducible rfl
  refine Eng.TW.take' (v := ?_) rfl rfl (by decide) (by kernel_rfl) (fun w hw => ?_) ?_
  rotate_left
  · (try dsimp only at hw); go_simp; first | done | with_reducible rfl
  refine Eng.TW.take' (v := ?_) rfl rfl (by decide) (by kernel_rfl) (fun w hw => ?_) ?_
  rotate_left
  · (try dsimp only at hw); go_simp; first | done | with_reducible rfl
  refine Eng.TW.take' (v := ?_) rfl rfl (by decide) (by kernel_rfl) (fun w hw => ?_) ?_
  rotate_left
  · (try dsimp only at hw); go_simp; first | done | with_reducible rfl
  refine Eng.TW.take' (v := ?_) rfl rfl (by decide) (by kernel_rfl) (fun w hw => ?_) ?_
  rotate_left
  · (try dsimp only at hw); go_simp; first | done | with_reducible rfl
  refine Eng.TW.take' (v := ?_) rfl rfl (by decide) (by kernel_rfl) (fun w hw => ?_) ?_
  rotate_left
  · (try dsimp only at hw); go_simp; first | done | with_reducible rfl
  refine Eng.TW.step rfl rfl (by decide) (by kernel_rfl) (by go_simp; first | done | with_reducible rfl) (⟨(HSt5.out.mk1 [pb]).x.cell 0, (HSt5.out.mk1 [pb]).x.cell 1, (HSt5.out.mk1 [pb]).x.cell 2, (HSt5.out.mk1 [pb]).x.cell 3, (HSt5.out.mk1 [pb]).x.cell 4, (HSt5.out.mk1 [pb]).x.cell 5, (HSt5.out.mk1 [pb]).a.cell 0, (HSt5.out.mk1 [pb]).a.cell 1, (HSt5.out.mk1 [pb]).a.cell 2, (HSt5.out.mk1 [pb]).a.cell 3, (HSt5.out.mk1 [pb]).a.cell 4, (HSt5.out.mk1 [pb]).a.cell 5, (HSt5.out.mk1 [pb]).b.cell 0, (HSt5.out.mk1 [pb]).b.cell 1, (HSt5.out.mk1 [pb]).b.cell 2, (HSt5.out.mk1 [pb]).b.cell 3, (HSt5.out.mk1 [pb]).b.cell 4, (HSt5.out.mk1 [pb]).b.cell 5⟩) ?_
  have HSt6 := Lib.hid (HSt5.out.mk1 [pb])
  have hSS : (w5.alloc (.cells #[.int .i64 0, .int .i64 0, .int .i64 1, .int .i64 2, .int .i64 0, .int .i64 0] TP)).cell? ⟨Bx, 0, none⟩ = some (.int .i64 3) ∧ (w5.alloc (.cells #[.int .i64 0, .int .i64 0, .int .i64 1, .int .i64 2, .int .i64 0, .int .i64 0] TP)).cell? ⟨Bx, 1, none⟩ = some (.int .i64 3) ∧ (w5.alloc (.cells #[.int .i64 0, .int .i64 0, .int .i64 1, .int .i64 2, .int .i64 0, .int .i64 0] TP)).cell? ⟨Bx, 2, none⟩ = some (.int .i64 0) ∧ (w5.alloc (.cells #[.int .i64 0, .int .i64 0, .int .i64 1, .int .i64 2, .int .i64 0, .int .i64 0] TP)).cell? ⟨Bx, 3, none⟩ = some (.int .i64 0) ∧ (w5.alloc (.cells #[.int .i64 0, .int .i64 0, .int .i64 1, .int .i64 2, .int .i64 0, .int .i64 0] TP)).cell? ⟨Bx, 4, none⟩ = some (.slice A1 2 c1) ∧ (w5.alloc (.cells #[.int .i64 0, .int .i64 0, .int .i64 1, .int .i64 2, .int .i64 0, .int .i64 0] TP)).cell? ⟨Bx, 5, none⟩ = some (.slice A2 2 c2) ∧ (w5.alloc (.cells #[.int .i64 0, .int .i64 0, .int .i64 1, .int .i64 2, .int .i64 0, .int .i64 0] TP)).cell? ⟨Ba, 0, none⟩ = some (.int .i64 0) ∧ (w5.alloc (.cells #[.int .i64 0, .int .i64 0, .int .i64 1, .int .i64 2, .int .i64 0, .int .i64 0] TP)).cell? ⟨Ba, 1, none⟩ = some (.int .i64 0) ∧ (w5.alloc (.cells #[.int .i64 0, .int .i64 0, .int .i64 1, .int .i64 2, .int .i64 0, .int .i64 0] TP)).cell? ⟨Ba, 2, none⟩ = some (.int .i64 1) ∧ (w5.alloc (.cells #[.int .i64 0, .int .i64 0, .int .i64 1, .int .i64 2, .int .i64 0, .int .i64 0] TP)).cell? ⟨Ba, 3, none⟩ = some (.int .i64 1) ∧ (w5.alloc (.cells #[.int .i64 0, .int .i64 0, .int .i64 1, .int .i64 2, .int .i64 0, .int .i64 0] TP)).cell? ⟨Ba, 4, none⟩ = some (.int .i64 0) ∧ (w5.alloc (.cells #[.int .i64 0, .int .i64 0, .int .i64 1, .int .i64 2, .int .i64 0, .int .i64 0] TP)).cell? ⟨Ba, 5, none⟩ = some (.int .i64 1) ∧ (w5.alloc (.cells #[.int .i64 0, .int .i64 0, .int .i64 1, .int .i64 2, .int .i64 0, .int .i64 0] TP)).cell? ⟨Bb, 0, none⟩ = some (.int .i64 0) ∧ (w5.alloc (.cells #[.int .i64 0, .int .i64 0, .int .i64 1, .int .i64 2, .int .i64 0, .int .i64 0] TP)).cell? ⟨Bb, 1, none⟩ = some (.int .i64 0) ∧ (w5.alloc (.cells #[.int .i64 0, .int .i64 0, .int .i64 1, .int .i64 2, .int .i64 0, .int .i64 0] TP)).cell? ⟨Bb, 2, none⟩ = some (.int .i64 1) ∧ (w5.alloc (.cells #[.int .i64 0, .int .i64 0, .int .i64 1, .int .i64 2, .int .i64 0, .int .i64 0] TP)).cell? ⟨Bb, 3, none⟩ = some (.int .i64 2) ∧ (w5.alloc (.cells #[.int .i64 0, .int .i64 0, .int .i64 1, .int .i64 2, .int .i64 0, .int .i64 0] TP)).cell? ⟨Bb, 4, none⟩ = some (.int .i64 0) ∧ (w5.alloc (.cells #[.int .i64 0, .int .i64 0, .int .i64 1, .int .i64 2, .int .i64 0, .int .i64 0] TP)).cell? ⟨Bb, 5, none⟩ = some (.int .i64 0) := ⟨HSt6.out.x.cell 0, HSt6.out.x.cell 1, HSt6.out.x.cell 2, HSt6.out.x.cell 3, HSt6.out.x.cell 4, HSt6.out.x.cell 5, HSt6.out.a.cell 0, HSt6.out.a.cell 1, HSt6.out.a.cell 2, HSt6.out.a.cell 3, HSt6.out.a.cell 4, HSt6.out.a.cell 5, HSt6.out.b.cell 0, HSt6.out.b.cell 1, HSt6.out.b.cell 2, HSt6.out.b.cell 3, HSt6.out.b.cell 4, HSt6.out.b.cell 5⟩
  refine Eng.TW.take' (v := ?_) rfl rfl (by decide) (by kernel_rfl) (fun w hw => ?_) ?_
  rotate_left
  · (try dsimp only at hw); go_simp; first | done | with_reducible rfl
  refine Eng.TW.call rfl rfl (by decide) (by kernel_rfl) ?_ (HSt6.out.app ((HSt6.out.ex _ (List.mem_cons_self ..)).ar (by simp)) (Ar.nil _ _) (by simp; exact okpb) (by simp) (by simp) (by simp) (by simp) hn_ (xs := [pb]) (ys := []) (bb := false) (l' := [pa.k]) (by decide) (by decide)) ?_
  · go_simp
  rintro e w7 ⟨rfl, F3, hT, -⟩
  have HSt7 := Lib.hid (hT)
  have hSS : w7.cell? ⟨Bx, 0, none⟩ = some (.int .i64 3) ∧ w7.cell? ⟨Bx, 1, none⟩ = some (.int .i64 3) ∧ w7.cell? ⟨Bx, 2, none⟩ = some (.int .i64 0) ∧ w7.cell? ⟨Bx, 3, none⟩ = some (.int .i64 0) ∧ w7.cell? ⟨Bx, 4, none⟩ = some (.slice A1 2 c1) ∧ w7.cell? ⟨Bx, 5, none⟩ = some (.slice A2 2 c2) ∧ w7.cell? ⟨Ba, 0, none⟩ = some (.int .i64 0) ∧ w7.cell? ⟨Ba, 1, none⟩ = some (.int .i64 0) ∧ w7.cell? ⟨Ba, 2, none⟩ = some (.int .i64 1) ∧ w7.cell? ⟨Ba, 3, none⟩ = some (.int .i64 1) ∧ w7.cell? ⟨Ba, 4, none⟩ = some (.int .i64 0) ∧ w7.cell? ⟨Ba, 5, none⟩ = some (.int .i64 1) ∧ w7.cell? ⟨Bb, 0, none⟩ = some (.int .i64 0) ∧ w7.cell? ⟨Bb, 1, none⟩ = some (.int .i64 0) ∧ w7.cell? ⟨Bb, 2, none⟩ = some (.int .i64 1) ∧ w7.cell? ⟨Bb, 3, none⟩ = some (.int .i64 2) ∧ w7.cell? ⟨Bb, 4, none⟩ = some (.int .i64 0) ∧ w7.cell? ⟨Bb, 5, none⟩ = some (.int .i64 0) := ⟨HSt7.out.x.cell 0, HSt7.out.x.cell 1, HSt7.out.x.cell 2, HSt7.out.x.cell 3, HSt7.out.x.cell 4, HSt7.out.x.cell 5, HSt7.out.a.cell 0, HSt7.out.a.cell 1, HSt7.out.a.cell 2, HSt7.out.a.cell 3, HSt7.out.a.cell 4, HSt7.out.a.cell 5, HSt7.out.b.cell 0, HSt7.out.b.cell 1, HSt7.out.b.cell 2, HSt7.out.b.cell 3, HSt7.out.b.cell 4, HSt7.out.b.cell 5⟩
  clear hT
  refine ⟨_, rfl, hSS, ?_⟩
  refine Eng.TW.take' (v := ?_) rfl rfl (by decide) (by kernel_rfl) (fun w hw => ?_) ?_
  rotate_left
  · (try dsimp only at hw); go_simp; first | done | with_reducible rfl
  refine Eng.TW.take' (v := ?_) rfl rfl (by decide) (by kernel_rfl) (fun w hw => ?_) ?_
  rotate_left
  · (try dsimp only at hw); go_simp; first | done | with_reducible rfl
  refine Eng.TW.take' (v := ?_) rfl rfl (by decide) (by kernel_rfl) (fun w hw => ?_) ?_
  rotate_left
  · (try dsimp only at hw); go_simp; first | done | with_reducible rfl
  refine Eng.TW.take' (v := ?_) rfl rfl (by decide) (by kernel_rfl) (fun w hw => ?_) ?_
  rotate_left
  · (try dsimp only at hw); go_simp; first | done | with_reducible rfl
  refine Eng.TW.both ?_ ?_
  · refine Eng.TW.call rfl rfl (by decide) (by kernel_rfl) ?_ (Shape_ B _ _ F3 _ HSt7.out.v (by simp)) ?_
    · go_simp
    rintro e w8 ⟨y, P1, e1, P2, e2, rfl, hI, s1, s2, -, -, hf⟩
    have HI := Lib.hid hI
    have HSt8 := Lib.hid (HSt7.out.yfr hf s1 s2)
    have hSS : w8.cell? ⟨Bx, 0, none⟩ = some (.int .i64 3) ∧ w8.cell? ⟨Bx, 1, none⟩ = some (.int .i64 3) ∧ w8.cell? ⟨Bx, 2, none⟩ = some (.int .i64 0) ∧ w8.cell? ⟨Bx, 3, none⟩ = some (.int .i64 0) ∧ w8.cell? ⟨Bx, 4, none⟩ = some (.slice A1 2 c1) ∧ w8.cell? ⟨Bx, 5, none⟩ = some (.slice A2 2 c2) ∧ w8.cell? ⟨Ba, 0, none⟩ = some (.int .i64 0) ∧ w8.cell? ⟨Ba, 1, none⟩ = some (.int .i64 0) ∧ w8.cell? ⟨Ba, 2, none⟩ = some (.int .i64 1) ∧ w8.cell? ⟨Ba, 3, none⟩ = some (.int .i64 1) ∧ w8.cell? ⟨Ba, 4, none⟩ = some (.int .i64 0) ∧ w8.cell? ⟨Ba, 5, none⟩ = some (.int .i64 1) ∧ w8.cell? ⟨Bb, 0, none⟩ = some (.int .i64 0) ∧ w8.cell? ⟨Bb, 1, none⟩ = some (.int .i64 0) ∧ w8.cell? ⟨Bb, 2, none⟩ = some (.int .i64 1) ∧ w8.cell? ⟨Bb, 3, none⟩ = some (.int .i64 2) ∧ w8.cell? ⟨Bb, 4, none⟩ = some (.int .i64 0) ∧ w8.cell? ⟨Bb, 5, none⟩ = some (.int .i64 0) := ⟨HSt8.out.x.cell 0, HSt8.out.x.cell 1, HSt8.out.x.cell 2, HSt8.out.x.cell 3, HSt8.out.x.cell 4, HSt8.out.x.cell 5, HSt8.out.a.cell 0, HSt8.out.a.cell 1, HSt8.out.a.cell 2, HSt8.out.a.cell 3, HSt8.out.a.cell 4, HSt8.out.a.cell 5, HSt8.out.b.cell 0, HSt8.out.b.cell 1, HSt8.out.b.cell 2, HSt8.out.b.cell 3, HSt8.out.b.cell 4, HSt8.out.b.cell 5⟩
    clear hI s1 s2 hf
    refine ⟨_, rfl, hSS, ?_⟩
    refine Eng.TW.step rfl rfl (by decide) (by kernel_rfl) (by go_simp; first | done | with_reducible rfl) (⟨(HSt8.out.mk1 [pa]).x.cell 0, (HSt8.out.mk1 [pa]).x.cell 1, (HSt8.out.mk1 [pa]).x.cell 2, (HSt8.out.mk1 [pa]).x.cell 3, (HSt8.out.mk1 [pa]).x.cell 4, (HSt8.out.mk1 [pa]).x.cell 5, (HSt8.out.mk1 [pa]).a.cell 0, (HSt8.out.mk1 [pa]).a.cell 1, (HSt8.out.mk1 [pa]).a.cell 2, (HSt8.out.mk1 [pa]).a.cell 3, (HSt8.out.mk1 [pa]).a.cell 4, (HSt8.out.mk1 [pa]).a.cell 5, (HSt8.out.mk1 [pa]).b.cell 0, (HSt8.out.mk1 [pa]).b.cell 1, (HSt8.out.mk1 [pa]).b.cell 2, (HSt8.out.mk1 [pa]).b.cell 3, (HSt8.out.mk1 [pa]).b.cell 4, (HSt8.out.mk1 [pa]).b.cell 5⟩) ?_
    have HSt9 := Lib.hid (HSt8.out.mk1 [pa])
    have hSS : (w8.alloc (.cells #[.int .i64 0, .int .i64 0, .int .i64 1, .int .i64 1, .int .i64 0, .int .i64 1] TP)).cell? ⟨Bx, 0, none⟩ = some (.int .i64 3) ∧ (w8.alloc (.cells #[.int .i64 0, .int .i64 0, .int .i64 1, .int .i64 1, .int .i64 0, .int .i64 1] TP)).cell? ⟨Bx, 1, none⟩ = some (.int .i64 3) ∧ (w8.alloc (.cells #[.int .i64 0, .int .i64 0, .int .i64 1, .int .i64 1, .int .i64 0, .int .i64 1] TP)).cell? ⟨Bx, 2, none⟩ = some (.int .i64 0) ∧ (w8.alloc (.cells #[.int .i64 0, .int .i64 0, .int .i64 1, .int .i64 1, .int .i64 0, .int .i64 1] TP)).cell? ⟨Bx, 3, none⟩ = some (.int .i64 0) ∧ (w8.alloc (.cells #[.int .i64 0, .int .i64 0, .int .i64 1, .int .i64 1, .int .i64 0, .int .i64 1] TP)).cell? ⟨Bx, 4, none⟩ = some (.slice A1 2 c1) ∧ (w8.alloc (.cells #[.int .i64 0, .int .i64 0, .int .i64 1, .int .i64 1, .int .i64 0, .int .i64 1] TP)).cell? ⟨Bx, 5, none⟩ = some (.slice A2 2 c2) ∧ (w8.alloc (.cells #[.int .i64 0, .int .i64 0, .int .i64 1, .int .i64 1, .int .i64 0, .int .i64 1] TP)).cell? ⟨Ba, 0, none⟩ = some (.int .i64 0) ∧ (w8.alloc (.cells #[.int .i64 0, .int .i64 0, .int .i64 1, .int .i64 1, .int .i64 0, .int .i64 1] TP)).cell? ⟨Ba, 1, none⟩ = some (.int .i64 0) ∧ (w8.alloc (.cells #[.int .i64 0, .int .i64 0, .int .i64 1, .int .i64 1, .int .i64 0, .int .i64 1] TP)).cell? ⟨Ba, 2, none⟩ = some (.int .i64 1) ∧ (w8.alloc (.cells #[.int .i64 0, .int .i64 0, .int .i64 1, .int .i64 1, .int .i64 0, .int .i64 1] TP)).cell? ⟨Ba, 3, none⟩ = some (.int .i64 1) ∧ (w8.alloc (.cells #[.int .i64 0, .int .i64 0, .int .i64 1, .int .i64 1, .int .i64 0, .int .i64 1] TP)).cell? ⟨Ba, 4, none⟩ = some (.int .i64 0) ∧ (w8.alloc (.cells #[.int .i64 0, .int .i64 0, .int .i64 1, .int .i64 1, .int .i64 0, .int .i64 1] TP)).cell? ⟨Ba, 5, none⟩ = some (.int .i64 1) ∧ (w8.alloc (.cells #[.int .i64 0, .int .i64 0, .int .i64 1, .int .i64 1, .int .i64 0, .int .i64 1] TP)).cell? ⟨Bb, 0, none⟩ = some (.int .i64 0) ∧ (w8.alloc (.cells #[.int .i64 0, .int .i64 0, .int .i64 1, .int .i64 1, .int .i64 0, .int .i64 1] TP)).cell? ⟨Bb, 1, none⟩ = some (.int .i64 0) ∧ (w8.alloc (.cells #[.int .i64 0, .int .i64 0, .int .i64 1, .int .i64 1, .int .i64 0, .int .i64 1] TP)).cell? ⟨Bb, 2, none⟩ = some (.int .i64 1) ∧ (w8.alloc (.cells #[.int .i64 0, .int .i64 0, .int .i64 1, .int .i64 1, .int .i64 0, .int .i64 1] TP)).cell? ⟨Bb, 3, none⟩ = some (.int .i64 2) ∧ (w8.alloc (.cells #[.int .i64 0, .int .i64 0, .int .i64 1, .int .i64 1, .int .i64 0, .int .i64 1] TP)).cell? ⟨Bb, 4, none⟩ = some (.int .i64 0) ∧ (w8.alloc (.cells #[.int .i64 0, .int .i64 0, .int .i64 1, .int .i64 1, .int .i64 0, .int .i64 1] TP)).cell? ⟨Bb, 5, none⟩ = some (.int .i64 0) := ⟨HSt9.out.x.cell 0, HSt9.out.x.cell 1, HSt9.out.x.cell 2, HSt9.out.x.cell 3, HSt9.out.x.cell 4, HSt9.out.x.cell 5, HSt9.out.a.cell 0, HSt9.out.a.cell 1, HSt9.out.a.cell 2, HSt9.out.a.cell 3, HSt9.out.a.cell 4, HSt9.out.a.cell 5, HSt9.out.b.cell 0, HSt9.out.b.cell 1, HSt9.out.b.cell 2, HSt9.out.b.cell 3, HSt9.out.b.cell 4, HSt9.out.b.cell 5⟩
    refine Eng.TW.call rfl rfl (by decide) (by kernel_rfl) ?_ (Of _ 1 [pa] _ ((HSt9.out.ex _ (List.mem_cons_self ..)).ar (by simp)).1 (by simp; exact okpa) (by simp)) ?_
    · go_simp
    rintro e w10 ⟨y2, P3, e3, P4, e4, rfl, hI2, s3, s4, -, -, hf⟩
    have HS3 := Lib.hid s3; have HS4 := Lib.hid s4
    obtain rfl := IsShp.ext HI.out hI2
    have HSt10 := Lib.hid (HSt9.out.fr hf)
    have hSS : w10.cell? ⟨Bx, 0, none⟩ = some (.int .i64 3) ∧ w10.cell? ⟨Bx, 1, none⟩ = some (.int .i64 3) ∧ w10.cell? ⟨Bx, 2, none⟩ = some (.int .i64 0) ∧ w10.cell? ⟨Bx, 3, none⟩ = some (.int .i64 0) ∧ w10.cell? ⟨Bx, 4, none⟩ = some (.slice A1 2 c1) ∧ w10.cell? ⟨Bx, 5, none⟩ = some (.slice A2 2 c2) ∧ w10.cell? ⟨Ba, 0, none⟩ = some (.int .i64 0) ∧ w10.cell? ⟨Ba, 1, none⟩ = some (.int .i64 0) ∧ w10.cell? ⟨Ba, 2, none⟩ = some (.int .i64 1) ∧ w10.cell? ⟨Ba, 3, none⟩ = some (.int .i64 1) ∧ w10.cell? ⟨Ba, 4, none⟩ = some (.int .i64 0) ∧ w10.cell? ⟨Ba, 5, none⟩ = some (.int .i64 1) ∧ w10.cell? ⟨Bb, 0, none⟩ = some (.int .i64 0) ∧ w10.cell? ⟨Bb, 1, none⟩ = some (.int .i64 0) ∧ w10.cell? ⟨Bb, 2, none⟩ = some (.int .i64 1) ∧ w10.cell? ⟨Bb, 3, none⟩ = some (.int .i64 2) ∧ w10.cell? ⟨Bb, 4, none⟩ = some (.int .i64 0) ∧ w10.cell? ⟨Bb, 5, none⟩ = some (.int .i64 0) := ⟨HSt10.out.x.cell 0, HSt10.out.x.cell 1, HSt10.out.x.cell 2, HSt10.out.x.cell 3, HSt10.out.x.cell 4, HSt10.out.x.cell 5, HSt10.out.a.cell 0, HSt10.out.a.cell 1, HSt10.out.a.cell 2, HSt10.out.a.cell 3, HSt10.out.a.cell 4, HSt10.out.a.cell 5, HSt10.out.b.cell 0, HSt10.out.b.cell 1, HSt10.out.b.cell 2, HSt10.out.b.cell 3, HSt10.out.b.cell 4, HSt10.out.b.cell 5⟩
    clear hI2 s3 s4 hf
    refine ⟨_, rfl, hSS, ?_⟩
    refine Eng.TW.call rfl rfl (by decide) (by kernel_rfl) ?_ (Ref23.Same y P1 P2 P3 P4 e1 e2 e3 e4 _ (HSt10.out.y _ (List.mem_cons_self ..)) (HSt10.out.y _ (List.mem_cons_of_mem _ (List.mem_cons_self ..))) HS3.out HS4.out) ?_
    · go_simp
    rintro e w11 ⟨rfl, hf⟩
    have HSt11 := Lib.hid (HSt10.out.fr hf)
    have hSS : w11.cell? ⟨Bx, 0, none⟩ = some (.int .i64 3) ∧ w11.cell? ⟨Bx, 1, none⟩ = some (.int .i64 3) ∧ w11.cell? ⟨Bx, 2, none⟩ = some (.int .i64 0) ∧ w11.cell? ⟨Bx, 3, none⟩ = some (.int .i64 0) ∧ w11.cell? ⟨Bx, 4, none⟩ = some (.slice A1 2 c1) ∧ w11.cell? ⟨Bx, 5, none⟩ = some (.slice A2 2 c2) ∧ w11.cell? ⟨Ba, 0, none⟩ = some (.int .i64 0) ∧ w11.cell? ⟨Ba, 1, none⟩ = some (.int .i64 0) ∧ w11.cell? ⟨Ba, 2, none⟩ = some (.int .i64 1) ∧ w11.cell? ⟨Ba, 3, none⟩ = some (.int .i64 1) ∧ w11.cell? ⟨Ba, 4, none⟩ = some (.int .i64 0) ∧ w11.cell? ⟨Ba, 5, none⟩ = some (.int .i64 1) ∧ w11.cell? ⟨Bb, 0, none⟩ = some (.int .i64 0) ∧ w11.cell? ⟨Bb, 1, none⟩ = some (.int .i64 0) ∧ w11.cell? ⟨Bb, 2, none⟩ = some (.int .i64 1) ∧ w11.cell? ⟨Bb, 3, none⟩ = some (.int .i64 2) ∧ w11.cell? ⟨Bb, 4, none⟩ = some (.int .i64 0) ∧ w11.cell? ⟨Bb, 5, none⟩ = some (.int .i64 0) := ⟨HSt11.out.x.cell 0, HSt11.out.x.cell 1, HSt11.out.x.cell 2, HSt11.out.x.cell 3, HSt11.out.x.cell 4, HSt11.out.x.cell 5, HSt11.out.a.cell 0, HSt11.out.a.cell 1, HSt11.out.a.cell 2, HSt11.out.a.cell 3, HSt11.out.a.cell 4, HSt11.out.a.cell 5, HSt11.out.b.cell 0, HSt11.out.b.cell 1, HSt11.out.b.cell 2, HSt11.out.b.cell 3, HSt11.out.b.cell 4, HSt11.out.b.cell 5⟩
    clear hf
    refine ⟨_, rfl, hSS, ?_⟩
    refine Eng.TW.take' (v := ?_) rfl rfl (by decide) (by kernel_rfl) (fun w hw => ?_) ?_
    rotate_left
    · (try dsimp only at hw); go_simp; first | done | with_reducible rfl
    refine Eng.TW.take' (v := ?_) rfl rfl (by decide) (by kernel_rfl) (fun w hw => ?_) ?_
    rotate_left
    · (try dsimp only at hw); go_simp; first | done | with_reducible rfl
    refine Eng.TW.end_ [0, 23, 24, 25, 26, 27, 28, 29, 30, 31, 32, 33, 34, 35, 36, 37, 38, 39, 40, 41, 42, 43, 44, 45, 46, 47, 48, 49, 50, 51, 52, 53, 54, 55, 56, 57, 58, 59, 60, 61, 62, 63, 64, 65, 66, 67, 68] HN.out (by kernel_rfl) (by kernel_rfl) ?_
    exact HP.out _ _ rfl HSt11.out.fr0
  refine Eng.TW.step rfl rfl (by decide) (by kernel_rfl) (by go_simp; first | done | with_reducible rfl) (⟨(HSt7.out.mk1 [pa]).x.cell 0, (HSt7.out.mk1 [pa]).x.cell 1, (HSt7.out.mk1 [pa]).x.cell 2, (HSt7.out.mk1 [pa]).x.cell 3, (HSt7.out.mk1 [pa]).x.cell 4, (HSt7.out.mk1 [pa]).x.cell 5, (HSt7.out.mk1 [pa]).a.cell 0, (HSt7.out.mk1 [pa]).a.cell 1, (HSt7.out.mk1 [pa]).a.cell 2, (HSt7.out.mk1 [pa]).a.cell 3, (HSt7.out.mk1 [pa]).a.cell 4, (HSt7.out.mk1 [pa]).a.cell 5, (HSt7.out.mk1 [pa]).b.cell 0, (HSt7.out.mk1 [pa]).b.cell 1, (HSt7.out.mk1 [pa]).b.cell 2, (HSt7.out.mk1 [pa]).b.cell 3, (HSt7.out.mk1 [pa]).b.cell 4, (HSt7.out.mk1 [pa]).b.cell 5⟩) ?_
  have HSt8 := Lib.hid (HSt7.out.mk1 [pa])
  have hSS : (w7.alloc (.cells #[.int .i64 0, .int .i64 0, .int .i64 1, .int .i64 1, .int .i64 0, .int .i64 1] TP)).cell? ⟨Bx, 0, none⟩ = some (.int .i64 3) ∧ (w7.alloc (.cells #[.int .i64 0, .int .i64 0, .int .i64 1, .int .i64 1, .int .i64 0, .int .i64 1] TP)).cell? ⟨Bx, 1, none⟩ = some (.int .i64 3) ∧ (w7.alloc (.cells #[.int .i64 0, .int .i64 0, .int .i64 1, .int .i64 1, .int .i64 0, .int .i64 1] TP)).cell? ⟨Bx, 2, none⟩ = some (.int .i64 0) ∧ (w7.alloc (.cells #[.int .i64 0, .int .i64 0, .int .i64 1, .int .i64 1, .int .i64 0, .int .i64 1] TP)).cell? ⟨Bx, 3, none⟩ = some (.int .i64 0) ∧ (w7.alloc (.cells #[.int .i64 0, .int .i64 0, .int .i64 1, .int .i64 1, .int .i64 0, .int .i64 1] TP)).cell? ⟨Bx, 4, none⟩ = some (.slice A1 2 c1) ∧ (w7.alloc (.cells #[.int .i64 0, .int .i64 0, .int .i64 1, .int .i64 1, .int .i64 0, .int .i64 1] TP)).cell? ⟨Bx, 5, none⟩ = some (.slice A2 2 c2) ∧ (w7.alloc (.cells #[.int .i64 0, .int .i64 0, .int .i64 1, .int .i64 1, .int .i64 0, .int .i64 1] TP)).cell? ⟨Ba, 0, none⟩ = some (.int .i64 0) ∧ (w7.alloc (.cells #[.int .i64 0, .int .i64 0, .int .i64 1, .int .i64 1, .int .i64 0, .int .i64 1] TP)).cell? ⟨Ba, 1, none⟩ = some (.int .i64 0) ∧ (w7.alloc (.cells #[.int .i64 0, .int .i64 0, .int .i64 1, .int .i64 1, .int .i64 0, .int .i64 1] TP)).cell? ⟨Ba, 2, none⟩ = some (.int .i64 1) ∧ (w7.alloc (.cells #[.int .i64 0, .int .i64 0, .int .i64 1, .int .i64 1, .int .i64 0, .int .i64 1] TP)).cell? ⟨Ba, 3, none⟩ = some (.int .i64 1) ∧ (w7.alloc (.cells #[.int .i64 0, .int .i64 0, .int .i64 1, .int .i64 1, .int .i64 0, .int .i64 1] TP)).cell? ⟨Ba, 4, none⟩ = some (.int .i64 0) ∧ (w7.alloc (.cells #[.int .i64 0, .int .i64 0, .int .i64 1, .int .i64 1, .int .i64 0, .int .i64 1] TP)).cell? ⟨Ba, 5, none⟩ = some (.int .i64 1) ∧ (w7.alloc (.cells #[.int .i64 0, .int .i64 0, .int .i64 1, .int .i64 1, .int .i64 0, .int .i64 1] TP)).cell? ⟨Bb, 0, none⟩ = some (.int .i64 0) ∧ (w7.alloc (.cells #[.int .i64 0, .int .i64 0, .int .i64 1, .int .i64 1, .int .i64 0, .int .i64 1] TP)).cell? ⟨Bb, 1, none⟩ = some (.int .i64 0) ∧ (w7.alloc (.cells #[.int .i64 0, .int .i64 0, .int .i64 1, .int .i64 1, .int .i64 0, .int .i64 1] TP)).cell? ⟨Bb, 2, none⟩ = some (.int .i64 1) ∧ (w7.alloc (.cells #[.int .i64 0, .int .i64 0, .int .i64 1, .int .i64 1, .int .i64 0, .int .i64 1] TP)).cell? ⟨Bb, 3, none⟩ = some (.int .i64 2) ∧ (w7.alloc (.cells #[.int .i64 0, .int .i64 0, .int .i64 1, .int .i64 1, .int .i64 0, .int .i64 1] TP)).cell? ⟨Bb, 4, none⟩ = some (.int .i64 0) ∧ (w7.alloc (.cells #[.int .i64 0, .int .i64 0, .int .i64 1, .int .i64 1, .int .i64 0, .int .i64 1] TP)).cell? ⟨Bb, 5, none⟩ = some (.int .i64 0) := ⟨HSt8.out.x.cell 0, HSt8.out.x.cell 1, HSt8.out.x.cell 2, HSt8.out.x.cell 3, HSt8.out.x.cell 4, HSt8.out.x.cell 5, HSt8.out.a.cell 0, HSt8.out.a.cell 1, HSt8.out.a.cell 2, HSt8.out.a.cell 3, HSt8.out.a.cell 4, HSt8.out.a.cell 5, HSt8.out.b.cell 0, HSt8.out.b.cell 1, HSt8.out.b.cell 2, HSt8.out.b.cell 3, HSt8.out.b.cell 4, HSt8.out.b.cell 5⟩
  refine Eng.TW.call rfl rfl (by decide) (by kernel_rfl) ?_ (Shape_ B _ _ F3 _ HSt8.out.v (by simp)) ?_
  · go_simp
  rintro e w9 ⟨y, P1, e1, P2, e2, rfl, hI, s1, s2, -, -, hf⟩
  have HI := Lib.hid hI
  have HSt9 := Lib.hid (HSt8.out.yfr hf s1 s2)
  have hSS : w9.cell? ⟨Bx, 0, none⟩ = some (.int .i64 3) ∧ w9.cell? ⟨Bx, 1, none⟩ = some (.int .i64 3) ∧ w9.cell? ⟨Bx, 2, none⟩ = some (.int .i64 0) ∧ w9.cell? ⟨Bx, 3, none⟩ = some (.int .i64 0) ∧ w9.cell? ⟨Bx, 4, none⟩ = some (.slice A1 2 c1) ∧ w9.cell? ⟨Bx, 5, none⟩ = some (.slice A2 2 c2) ∧ w9.cell? ⟨Ba, 0, none⟩ = some (.int .i64 0) ∧ w9.cell? ⟨Ba, 1, none⟩ = some (.int .i64 0) ∧ w9.cell? ⟨Ba, 2, none⟩ = some (.int .i64 1) ∧ w9.cell? ⟨Ba, 3, none⟩ = some (.int .i64 1) ∧ w9.cell? ⟨Ba, 4, none⟩ = some (.int .i64 0) ∧ w9.cell? ⟨Ba, 5, none⟩ = some (.int .i64 1) ∧ w9.cell? ⟨Bb, 0, none⟩ = some (.int .i64 0) ∧ w9.cell? ⟨Bb, 1, none⟩ = some (.int .i64 0) ∧ w9.cell? ⟨Bb, 2, none⟩ = some (.int .i64 1) ∧ w9.cell? ⟨Bb, 3, none⟩ = some (.int .i64 2) ∧ w9.cell? ⟨Bb, 4, none⟩ = some (.int .i64 0) ∧ w9.cell? ⟨Bb, 5, none⟩ = some (.int .i64 0) := ⟨HSt9.out.x.cell 0, HSt9.out.x.cell 1, HSt9.out.x.cell 2, HSt9.out.x.cell 3, HSt9.out.x.cell 4, HSt9.out.x.cell 5, HSt9.out.a.cell 0, HSt9.out.a.cell 1, HSt9.out.a.cell 2, HSt9.out.a.cell 3, HSt9.out.a.cell 4, HSt9.out.a.cell 5, HSt9.out.b.cell 0, HSt9.out.b.cell 1, HSt9.out.b.cell 2, HSt9.out.b.cell 3, HSt9.out.b.cell 4, HSt9.out.b.cell 5⟩
  clear hI s1 s2 hf
  refine ⟨_, rfl, hSS, ?_⟩
  refine Eng.TW.call rfl rfl (by decide) (by kernel_rfl) ?_ (Of _ 1 [pa] _ ((HSt9.out.ex _ (List.mem_cons_self ..)).ar (by simp)).1 (by simp; exact okpa) (by simp)) ?_
  · go_simp
  rintro e w10 ⟨y2, P3, e3, P4, e4, rfl, hI2, s3, s4, -, -, hf⟩
  have HS3 := Lib.hid s3; have HS4 := Lib.hid s4
  obtain rfl := IsShp.ext HI.out hI2
  have HSt10 := Lib.hid (HSt9.out.fr hf)
  have hSS : w10.cell? ⟨Bx, 0, none⟩ = some (.int .i64 3) ∧ w10.cell? ⟨Bx, 1, none⟩ = some (.int .i64 3) ∧ w10.cell? ⟨Bx, 2, none⟩ = some (.int .i64 0) ∧ w10.cell? ⟨Bx, 3, none⟩ = some (.int .i64 0) ∧ w10.cell? ⟨Bx, 4, none⟩ = some (.slice A1 2 c1) ∧ w10.cell? ⟨Bx, 5, none⟩ = some (.slice A2 2 c2) ∧ w10.cell? ⟨Ba, 0, none⟩ = some (.int .i64 0) ∧ w10.cell? ⟨Ba, 1, none⟩ = some (.int .i64 0) ∧ w10.cell? ⟨Ba, 2, none⟩ = some (.int .i64 1) ∧ w10.cell? ⟨Ba, 3, none⟩ = some (.int .i64 1) ∧ w10.cell? ⟨Ba, 4, none⟩ = some (.int .i64 0) ∧ w10.cell? ⟨Ba, 5, none⟩ = some (.int .i64 1) ∧ w10.cell? ⟨Bb, 0, none⟩ = some (.int .i64 0) ∧ w10.cell? ⟨Bb, 1, none⟩ = some (.int .i64 0) ∧ w10.cell? ⟨Bb, 2, none⟩ = some (.int .i64 1) ∧ w10.cell? ⟨Bb, 3, none⟩ = some (.int .i64 2) ∧ w10.cell? ⟨Bb, 4, none⟩ = some (.int .i64 0) ∧ w10.cell? ⟨Bb, 5, none⟩ = some (.int .i64 0) := ⟨HSt10.out.x.cell 0, HSt10.out.x.cell 1, HSt10.out.x.cell 2, HSt10.out.x.cell 3, HSt10.out.x.cell 4, HSt10.out.x.cell 5, HSt10.out.a.cell 0, HSt10.out.a.cell 1, HSt10.out.a.cell 2, HSt10.out.a.cell 3, HSt10.out.a.cell 4, HSt10.out.a.cell 5, HSt10.out.b.cell 0, HSt10.out.b.cell 1, HSt10.out.b.cell 2, HSt10.out.b.cell 3, HSt10.out.b.cell 4, HSt10.out.b.cell 5⟩
  clear hI2 s3 s4 hf
  refine ⟨_, rfl, hSS, ?_⟩
  refine Eng.TW.call rfl rfl (by decide) (by kernel_rfl) ?_ (Ref23.Same y P1 P2 P3 P4 e1 e2 e3 e4 _ (HSt10.out.y _ (List.mem_cons_self ..)) (HSt10.out.y _ (List.mem_cons_of_mem _ (List.mem_cons_self ..))) HS3.out HS4.out) ?_
  · go_simp
  rintro e w11 ⟨rfl, hf⟩
  have HSt11 := Lib.hid (HSt10.out.fr hf)
  have hSS : w11.cell? ⟨Bx, 0, none⟩ = some (.int .i64 3) ∧ w11.cell? ⟨Bx, 1, none⟩ = some (.int .i64 3) ∧ w11.cell? ⟨Bx, 2, none⟩ = some (.int .i64 0) ∧ w11.cell? ⟨Bx, 3, none⟩ = some (.int .i64 0) ∧ w11.cell? ⟨Bx, 4, none⟩ = some (.slice A1 2 c1) ∧ w11.cell? ⟨Bx, 5, none⟩ = some (.slice A2 2 c2) ∧ w11.cell? ⟨Ba, 0, none⟩ = some (.int .i64 0) ∧ w11.cell? ⟨Ba, 1, none⟩ = some (.int .i64 0) ∧ w11.cell? ⟨Ba, 2, none⟩ = some (.int .i64 1) ∧ w11.cell? ⟨Ba, 3, none⟩ = some (.int .i64 1) ∧ w11.cell? ⟨Ba, 4, none⟩ = some (.int .i64 0) ∧ w11.cell? ⟨Ba, 5, none⟩ = some (.int .i64 1) ∧ w11.cell? ⟨Bb, 0, none⟩ = some (.int .i64 0) ∧ w11.cell? ⟨Bb, 1, none⟩ = some (.int .i64 0) ∧ w11.cell? ⟨Bb, 2, none⟩ = some (.int .i64 1) ∧ w11.cell? ⟨Bb, 3, none⟩ = some (.int .i64 2) ∧ w11.cell? ⟨Bb, 4, none⟩ = some (.int .i64 0) ∧ w11.cell? ⟨Bb, 5, none⟩ = some (.int .i64 0) := ⟨HSt11.out.x.cell 0, HSt11.out.x.cell 1, HSt11.out.x.cell 2, HSt11.out.x.cell 3, HSt11.out.x.cell 4, HSt11.out.x.cell 5, HSt11.out.a.cell 0, HSt11.out.a.cell 1, HSt11.out.a.cell 2, HSt11.out.a.cell 3, HSt11.out.a.cell 4, HSt11.out.a.cell 5, HSt11.out.b.cell 0, HSt11.out.b.cell 1, HSt11.out.b.cell 2, HSt11.out.b.cell 3, HSt11.out.b.cell 4, HSt11.out.b.cell 5⟩
  clear hf
  refine ⟨_, rfl, hSS, ?_⟩
  refine Eng.TW.take' (v := ?_) rfl rfl (by decide) (by kernel_rfl) (fun w hw => ?_) ?_
  rotate_left
  · (try dsimp only at hw); go_simp; first | done | with_reducible rfl
  refine Eng.TW.take' (v := ?_) rfl rfl (by decide) (by kernel_rfl) (fun w hw => ?_) ?_
  rotate_left
  · (try dsimp only at hw); go_simp; first | done | with_reducible rfl
  refine Eng.TW.end_ [0, 23, 24, 25, 26, 27, 28, 29, 30, 31, 32, 33, 34, 35, 36, 37, 38, 39, 40, 41, 42, 43, 44, 45, 46, 47, 48, 49, 50, 51, 52, 53, 54, 55, 56, 57, 58, 59, 60, 61, 62, 63, 64, 65, 66, 67, 68] HN.out (by kernel_rfl) (by kernel_rfl) ?_
  exact HP.out _ _ rfl HSt11.out.fr0

set_option maxRecDepth 100000 in
set_option maxHeartbeats 400000 in
theorem w4 {ops : Array Oper} (hops : Eng.fnOps Tryz.f47 4 = ops) (a0 : Act) (Q : Exit → Act → World → Prop) (w0 w : World) (B : Nat) (F : List Nat) (Ba Bb Bx : Nat) (A1 A2 : Option Addr) (c1 c2 : Nat) (hst : AW w0 w B 0 [] F Ba Bb Bx A1 A2 c1 c2 [] [])
    (hn : a0.tmps.size = 69) (h_1 : a0.tmps.getD 1 undef = .pointer (some ⟨Ba, 0, none⟩)) (h_2 : a0.tmps.getD 2 undef = .pointer (some ⟨Bb, 0, none⟩)) (h_4 : a0.tmps.getD 4 undef = .pointer (some ⟨B, 0, none⟩))
    (hpost : ∀ (x : Nat → Value) (w' : World) (F' : List Nat), x 5 = .bool true → x 6 = .bool true → AW w0 w' B (0 + 3 * (0 + 2) + 3 * (1 + 0)) [pa.k] F' Ba Bb Bx A1 A2 c1 c2 [] [] → Q .normal (Eng.setAll a0 [5, 6, 14, 15, 16, 17, 18, 19, 20, 21, 22] x) w') :
    (Code.region 4 ops true).wp Tryz.prog Q a0 w := by
  simp only [Eng.fnOps, Eng.regOps, Tryz.f47, Option.bind_some, Option.getD_some, Nat.reduceEqDiff, ↓reduceIte, Nat.reduceBEq] at hops
  subst hops
  have HSt := Lib.hid (hst.fr (Fr.drew _ _))
  have hSS : w.drew.cell? ⟨Ba, 0, none⟩ = some (.int .i64 0) ∧ w.drew.cell? ⟨Ba, 1, none⟩ = some (.int .i64 0) ∧ w.drew.cell? ⟨Ba, 2, none⟩ = some (.int .i64 1) ∧ w.drew.cell? ⟨Ba, 3, none⟩ = some (.int .i64 1) ∧ w.drew.cell? ⟨Ba, 4, none⟩ = some (.int .i64 0) ∧ w.drew.cell? ⟨Ba, 5, none⟩ = some (.int .i64 1) ∧ w.drew.cell? ⟨Bb, 0, none⟩ = some (.int .i64 0) ∧ w.drew.cell? ⟨Bb, 1, none⟩ = some (.int .i64 0) ∧ w.drew.cell? ⟨Bb, 2, none⟩ = some (.int .i64 1) ∧ w.drew.cell? ⟨Bb, 3, none⟩ = some (.int .i64 2) ∧ w.drew.cell? ⟨Bb, 4, none⟩ = some (.int .i64 0) ∧ w.drew.cell? ⟨Bb, 5, none⟩ = some (.int .i64 0) := ⟨HSt.out.a.cell 0, HSt.out.a.cell 1, HSt.out.a.cell 2, HSt.out.a.cell 3, HSt.out.a.cell 4, HSt.out.a.cell 5, HSt.out.b.cell 0, HSt.out.b.cell 1, HSt.out.b.cell 2, HSt.out.b.cell 3, HSt.out.b.cell 4, HSt.out.b.cell 5⟩
  refine Eng.regionT (.take 0 (.take 1 (.take 5 (.alt 2 (.take 3 (.alt 4 (.alt 6 (.take 7 (.alt 8 (.take 9 (.take 10 (.done))) (.stop))) (.stop)) (.alt 6 (.take 7 (.alt 4 (.alt 8 (.take 9 (.take 10 (.done))) (.stop)) (.stop))) (.stop)))) (.alt 6 (.take 7 (.alt 2 (.take 3 (.alt 4 (.alt 8 (.take 9 (.take 10 (.done))) (.stop)) (.stop))) (.stop))) (.stop)))))) (fun w' => w'.cell? ⟨Ba, 0, none⟩ = some (.int .i64 0) ∧ w'.cell? ⟨Ba, 1, none⟩ = some (.int .i64 0) ∧ w'.cell? ⟨Ba, 2, none⟩ = some (.int .i64 1) ∧ w'.cell? ⟨Ba, 3, none⟩ = some (.int .i64 1) ∧ w'.cell? ⟨Ba, 4, none⟩ = some (.int .i64 0) ∧ w'.cell? ⟨Ba, 5, none⟩ = some (.int .i64 1) ∧ w'.cell? ⟨Bb, 0, none⟩ = some (.int .i64 0) ∧ w'.cell? ⟨Bb, 1, none⟩ = some (.int .i64 0) ∧ w'.cell? ⟨Bb, 2, none⟩ = some (.int .i64 1) ∧ w'.cell? ⟨Bb, 3, none⟩ = some (.int .i64 2) ∧ w'.cell? ⟨Bb, 4, none⟩ = some (.int .i64 0) ∧ w'.cell? ⟨Bb, 5, none⟩ = some (.int .i64 0)) (by kernel_rfl) 69 hn (by kernel_rfl) (by kernel_rfl) (by kernel_rfl) (hSS) (fun a b ha hb => ?_)
  subst ha
  have hb1 : b 1 = .pointer (some ⟨Ba, 0, none⟩) := (hb 1).symm.trans h_1
  have hb2 : b 2 = .pointer (some ⟨Bb, 0, none⟩) := (hb 2).symm.trans h_2
  have hb4 : b 4 = .pointer (some ⟨B, 0, none⟩) := (hb 4).symm.trans h_4
  clear hb h_1 h_2 h_4
  have HP := Lib.hid hpost; have HN := Lib.hid hn
  clear hpost hn
  refine Eng.TW.take' (v := ?_) rfl rfl (by decide) (by kernel_rfl) (fun w hw => ?_) ?_
  rotate_left
  · (try dsimp only at hw); go_simp; first | done | with_reducible rfl
  refine Eng.TW.take' (v := ?_) rfl rfl (by decide) (by kernel_rfl) (fun w hw => ?_) ?_
  rotate_left
  · (try dsimp only at hw); go_simp; first | done | with_reducible rfl
  refine Eng.TW.take' (v := ?_) rfl rfl (by decide) (by kernel_rfl) (fun w hw => ?_) ?_
  rotate_left
  · (try dsimp only at hw); go_simp; first | done | with_reducible rfl
  refine Eng.TW.both ?_ ?_
  · refine Eng.TW.step rfl rfl (by decide) (by kernel_rfl) (by go_simp; first | done | with_reducible rfl) (⟨(HSt.out.mk1 [pa, pb]).a.cell 0, (HSt.out.mk1 [pa, pb]).a.cell 1, (HSt.out.mk1 [pa, pb]).a.cell 2, (HSt.out.mk1 [pa, pb]).a.cell 3, (HSt.out.mk1 [pa, pb]).a.cell 4, (HSt.out.mk1 [pa, pb]).a.cell 5, (HSt.out.mk1 [pa, pb]).b.cell 0, (HSt.out.mk1 [pa, pb]).b.cell 1, (HSt.out.mk1 [pa, pb]).b.cell 2, (HSt.out.mk1 [pa, pb]).b.cell 3, (HSt.out.mk1 [pa, pb]).b.cell 4, (HSt.out.mk1 [pa, pb]).b.cell 5⟩) ?_
    have HSt2 := Lib.hid (HSt.out.mk1 [pa, pb])
    have hSS : (w.drew.alloc (.cells #[.int .i64 0, .int .i64 0, .int .i64 1, .int .i64 1, .int .i64 0, .int .i64 1, .int .i64 0, .int .i64 0, .int .i64 1, .int .i64 2, .int .i64 0, .int .i64 0] TP)).cell? ⟨Ba, 0, none⟩ = some (.int .i64 0) ∧ (w.drew.alloc (.cells #[.int .i64 0, .int .i64 0, .int .i64 1, .int .i64 1, .int .i64 0, .int .i64 1, .int .i64 0, .int .i64 0, .int .i64 1, .int .i64 2, .int .i64 0, .int .i64 0] TP)).cell? ⟨Ba, 1, none⟩ = some (.int .i64 0) ∧ (w.drew.alloc (.cells #[.int .i64 0, .int .i64 0, .int .i64 1, .int .i64 1, .int .i64 0, .int .i64 1, .int .i64 0, .int .i64 0, .int .i64 1, .int .i64 2, .int .i64 0, .int .i64 0] TP)).cell? ⟨Ba, 2, none⟩ = some (.int .i64 1) ∧ (w.drew.alloc (.cells #[.int .i64 0, .int .i64 0, .int .i64 1, .int .i64 1, .int .i64 0, .int .i64 1, .int .i64 0, .int .i64 0, .int .i64 1, .int .i64 2, .int .i64 0, .int .i64 0] TP)).cell? ⟨Ba, 3, none⟩ = some (.int .i64 1) ∧ (w.drew.alloc (.cells #[.int .i64 0, .int .i64 0, .int .i64 1, .int .i64 1, .int .i64 0, .int .i64 1, .int .i64 0, .int .i64 0, .int .i64 1, .int .i64 2, .int .i64 0, .int .i64 0] TP)).cell? ⟨Ba, 4, none⟩ = some (.int .i64 0) ∧ (w.drew.alloc (.cells #[.int .i64 0, .int .i64 0, .int .i64 1, .int .i64 1, .int .i64 0, .int .i64 1, .int .i64 0, .int .i64 0, .int .i64 1, .int .i64 2, .int .i64 0, .int .i64 0] TP)).cell? ⟨Ba, 5, none⟩ = some (.int .i64 1) ∧ (w.drew.alloc (.cells #[.int .i64 0, .int .i64 0, .int .i64 1, .int .i64 1, .int .i64 0, .int .i64 1, .int .i64 0, .int .i64 0, .int .i64 1, .int .i64 2, .int .i64 0, .int .i64 0] TP)).cell? ⟨Bb, 0, none⟩ = some (.int .i64 0) ∧ (w.drew.alloc (.cells #[.int .i64 0, .int .i64 0, .int .i64 1, .int .i64 1, .int .i64 0, .int .i64 1, .int .i64 0, .int .i64 0, .int .i64 1, .int .i64 2, .int .i64 0, .int .i64 0] TP)).cell? ⟨Bb, 1, none⟩ = some (.int .i64 0) ∧ (w.drew.alloc (.cells #[.int .i64 0, .int .i64 0, .int .i64 1, .int .i64 1, .int .i64 0, .int .i64 1, .int .i64 0, .int .i64 0, .int .i64 1, .int .i64 2, .int .i64 0, .int .i64 0] TP)).cell? ⟨Bb, 2, none⟩ = some (.int .i64 1) ∧ (w.drew.alloc (.cells #[.int .i64 0, .int .i64 0, .int .i64 1, .int .i64 1, .int .i64 0, .int .i64 1, .int .i64 0, .int .i64 0, .int .i64 1, .int .i64 2, .int .i64 0, .int .i64 0] TP)).cell? ⟨Bb, 3, none⟩ = some (.int .i64 2) ∧ (w.drew.alloc (.cells #[.int .i64 0, .int .i64 0, .int .i64 1, .int .i64 1, .int .i64 0, .int .i64 1, .int .i64 0, .int .i64 0, .int .i64 1, .int .i64 2, .int .i64 0, .int .i64 0] TP)).cell? ⟨Bb, 4, none⟩ = some (.int .i64 0) ∧ (w.drew.alloc (.cells #[.int .i64 0, .int .i64 0, .int .i64 1, .int .i64 1, .int .i64 0, .int .i64 1, .int .i64 0, .int .i64 0, .int .i64 1, .int .i64 2, .int .i64 0, .int .i64 0] TP)).cell? ⟨Bb, 5, none⟩ = some (.int .i64 0) := ⟨HSt2.out.a.cell 0, HSt2.out.a.cell 1, HSt2.out.a.cell 2, HSt2.out.a.cell 3, HSt2.out.a.cell 4, HSt2.out.a.cell 5, HSt2.out.b.cell 0, HSt2.out.b.cell 1, HSt2.out.b.cell 2, HSt2.out.b.cell 3, HSt2.out.b.cell 4, HSt2.out.b.cell 5⟩
    refine Eng.TW.take' (v := ?_) rfl rfl (by decide) (by kernel_rfl) (fun w hw => ?_) ?_
    rotate_left
    · (try dsimp only at hw); go_simp; first | done | with_reducible rfl
    refine Eng.TW.both ?_ ?_
    · refine Eng.TW.call rfl rfl (by decide) (by kernel_rfl) ?_ (HSt2.out.app (Ar.nil _ _) ((HSt2.out.exx (xs := [pa, pb]) (by first | exact List.mem_cons_self .. | exact List.mem_cons_of_mem _ (List.mem_cons_self ..))).ar (by simp)) (by simp) (by simp; exact ⟨okpa, okpb⟩) (by simp) (by simp) (by simp) (by simp) (xs := []) (ys := [pa, pb]) (bb := true) (l' := [pa.k, pb.k]) (by decide) (by decide)) ?_
      · go_simp
      rintro e w3 ⟨rfl, F2, hT, -⟩
      have HSt3 := Lib.hid (hT)
      have hSS : w3.cell? ⟨Ba, 0, none⟩ = some (.int .i64 0) ∧ w3.cell? ⟨Ba, 1, none⟩ = some (.int .i64 0) ∧ w3.cell? ⟨Ba, 2, none⟩ = some (.int .i64 1) ∧ w3.cell? ⟨Ba, 3, none⟩ = some (.int .i64 1) ∧ w3.cell? ⟨Ba, 4, none⟩ = some (.int .i64 0) ∧ w3.cell? ⟨Ba, 5, none⟩ = some (.int .i64 1) ∧ w3.cell? ⟨Bb, 0, none⟩ = some (.int .i64 0) ∧ w3.cell? ⟨Bb, 1, none⟩ = some (.int .i64 0) ∧ w3.cell? ⟨Bb, 2, none⟩ = some (.int .i64 1) ∧ w3.cell? ⟨Bb, 3, none⟩ = some (.int .i64 2) ∧ w3.cell? ⟨Bb, 4, none⟩ = some (.int .i64 0) ∧ w3.cell? ⟨Bb, 5, none⟩ = some (.int .i64 0) := ⟨HSt3.out.a.cell 0, HSt3.out.a.cell 1, HSt3.out.a.cell 2, HSt3.out.a.cell 3, HSt3.out.a.cell 4, HSt3.out.a.cell 5, HSt3.out.b.cell 0, HSt3.out.b.cell 1, HSt3.out.b.cell 2, HSt3.out.b.cell 3, HSt3.out.b.cell 4, HSt3.out.b.cell 5⟩
      clear hT
      refine ⟨_, rfl, hSS, ?_⟩
      refine Eng.TW.step rfl rfl (by decide) (by kernel_rfl) (by go_simp; first | done | with_reducible rfl) (⟨(HSt3.out.mk1 [pb]).a.cell 0, (HSt3.out.mk1 [pb]).a.cell 1, (HSt3.out.mk1 [pb]).a.cell 2, (HSt3.out.mk1 [pb]).a.cell 3, (HSt3.out.mk1 [pb]).a.cell 4, (HSt3.out.mk1 [pb]).a.cell 5, (HSt3.out.mk1 [pb]).b.cell 0, (HSt3.out.mk1 [pb]).b.cell 1, (HSt3.out.mk1 [pb]).b.cell 2, (HSt3.out.mk1 [pb]).b.cell 3, (HSt3.out.mk1 [pb]).b.cell 4, (HSt3.out.mk1 [pb]).b.cell 5⟩) ?_
      have HSt4 := Lib.hid (HSt3.out.mk1 [pb])
      have hSS : (w3.alloc (.cells #[.int .i64 0, .int .i64 0, .int .i64 1, .int .i64 2, .int .i64 0, .int .i64 0] TP)).cell? ⟨Ba, 0, none⟩ = some (.int .i64 0) ∧ (w3.alloc (.cells #[.int .i64 0, .int .i64 0, .int .i64 1, .int .i64 2, .int .i64 0, .int .i64 0] TP)).cell? ⟨Ba, 1, none⟩ = some (.int .i64 0) ∧ (w3.alloc (.cells #[.int .i64 0, .int .i64 0, .int .i64 1, .int .i64 2, .int .i64 0, .int .i64 0] TP)).cell? ⟨Ba, 2, none⟩ = some (.int .i64 1) ∧ (w3.alloc (.cells #[.int .i64 0, .int .i64 0, .int .i64 1, .int .i64 2, .int .i64 0, .int .i64 0] TP)).cell? ⟨Ba, 3, none⟩ = some (.int .i64 1) ∧ (w3.alloc (.cells #[.int .i64 0, .int .i64 0, .int .i64 1, .int .i64 2, .int .i64 0, .int .i64 0] TP)).cell? ⟨Ba, 4, none⟩ = some (.int .i64 0) ∧ (w3.alloc (.cells #[.int .i64 0, .int .i64 0, .int .i64 1, .int .i64 2, .int .i64 0, .int .i64 0] TP)).cell? ⟨Ba, 5, none⟩ = some (.int .i64 1) ∧ (w3.alloc (.cells #[.int .i64 0, .int .i64 0, .int .i64 1, .int .i64 2, .int .i64 0, .int .i64 0] TP)).cell? ⟨Bb, 0, none⟩ = some (.int .i64 0) ∧ (w3.alloc (.cells #[.int .i64 0, .int .i64 0, .int .i64 1, .int .i64 2, .int .i64 0, .int .i64 0] TP)).cell? ⟨Bb, 1, none⟩ = some (.int .i64 0) ∧ (w3.alloc (.cells #[.int .i64 0, .int .i64 0, .int .i64 1, .int .i64 2, .int .i64 0, .int .i64 0] TP)).cell? ⟨Bb, 2, none⟩ = some (.int .i64 1) ∧ (w3.alloc (.cells #[.int .i64 0, .int .i64 0, .int .i64 1, .int .i64 2, .int .i64 0, .int .i64 0] TP)).cell? ⟨Bb, 3, none⟩ = some (.int .i64 2) ∧ (w3.alloc (.cells #[.int .i64 0, .int .i64 0, .int .i64 1, .int .i64 2, .int .i64 0, .int .i64 0] TP)).cell? ⟨Bb, 4, none⟩ = some (.int .i64 0) ∧ (w3.alloc (.cells #[.int .i64 0, .int .i64 0, .int .i64 1, .int .i64 2, .int .i64 0, .int .i64 0] TP)).cell? ⟨Bb, 5, none⟩ = some (.int .i64 0) := ⟨HSt4.out.a.cell 0, HSt4.out.a.cell 1, HSt4.out.a.cell 2, HSt4.out.a.cell 3, HSt4.out.a.cell 4, HSt4.out.a.cell 5, HSt4.out.b.cell 0, HSt4.out.b.cell 1, HSt4.out.b.cell 2, HSt4.out.b.cell 3, HSt4.out.b.cell 4, HSt4.out.b.cell 5⟩
      refine Eng.TW.take' (v := ?_) rfl rfl (by decide) (by kernel_rfl) (fun w hw => ?_) ?_
      rotate_left
      · (try dsimp only at hw); go_simp; first | done | with_reducible rfl
      refine Eng.TW.call rfl rfl (by decide) (by kernel_rfl) ?_ (HSt4.out.app ((HSt4.out.exx (xs := [pb]) (by first | exact List.mem_cons_self .. | exact List.mem_cons_of_mem _ (List.mem_cons_self ..))).ar (by simp)) (Ar.nil _ _) (by simp; exact okpb) (by simp) (by simp) (by simp) (by simp) (by simp) (xs := [pb]) (ys := []) (bb := true) (l' := [pa.k]) (by decide) (by decide)) ?_
      · go_simp
      rintro e w5 ⟨rfl, F3, hT, -⟩
      have HSt5 := Lib.hid (hT)
      have hSS : w5.cell? ⟨Ba, 0, none⟩ = some (.int .i64 0) ∧ w5.cell? ⟨Ba, 1, none⟩ = some (.int .i64 0) ∧ w5.cell? ⟨Ba, 2, none⟩ = some (.int .i64 1) ∧ w5.cell? ⟨Ba, 3, none⟩ = some (.int .i64 1) ∧ w5.cell? ⟨Ba, 4, none⟩ = some (.int .i64 0) ∧ w5.cell? ⟨Ba, 5, none⟩ = some (.int .i64 1) ∧ w5.cell? ⟨Bb, 0, none⟩ = some (.int .i64 0) ∧ w5.cell? ⟨Bb, 1, none⟩ = some (.int .i64 0) ∧ w5.cell? ⟨Bb, 2, none⟩ = some (.int .i64 1) ∧ w5.cell? ⟨Bb, 3, none⟩ = some (.int .i64 2) ∧ w5.cell? ⟨Bb, 4, none⟩ = some (.int .i64 0) ∧ w5.cell? ⟨Bb, 5, none⟩ = some (.int .i64 0) := ⟨HSt5.out.a.cell 0, HSt5.out.a.cell 1, HSt5.out.a.cell 2, HSt5.out.a.cell 3, HSt5.out.a.cell 4, HSt5.out.a.cell 5, HSt5.out.b.cell 0, HSt5.out.b.cell 1, HSt5.out.b.cell 2, HSt5.out.b.cell 3, HSt5.out.b.cell 4, HSt5.out.b.cell 5⟩
      clear hT
      refine ⟨_, rfl, hSS, ?_⟩
      refine Eng.TW.take' (v := ?_) rfl rfl (by decide) (by kernel_rfl) (fun w hw => ?_) ?_
      rotate_left
      · (try dsimp only at hw); go_simp; first | done | with_reducible rfl
      refine Eng.TW.take' (v := ?_) rfl rfl (by decide) (by kernel_rfl) (fun w hw => ?_) ?_
      rotate_left
      · (try dsimp only at hw); go_simp; first | done | with_reducible rfl
      refine Eng.TW.end_ [5, 6, 14, 15, 16, 17, 18, 19, 20, 21, 22] HN.out (by kernel_rfl) (by kernel_rfl) ?_
      exact HP.out _ _ F3 rfl rfl HSt5.out.less
    refine Eng.TW.step rfl rfl (by decide) (by kernel_rfl) (by go_simp; first | done | with_reducible rfl) (⟨(HSt2.out.mk1 [pb]).a.cell 0, (HSt2.out.mk1 [pb]).a.cell 1, (HSt2.out.mk1 [pb]).a.cell 2, (HSt2.out.mk1 [pb]).a.cell 3, (HSt2.out.mk1 [pb]).a.cell 4, (HSt2.out.mk1 [pb]).a.cell 5, (HSt2.out.mk1 [pb]).b.cell 0, (HSt2.out.mk1 [pb]).b.cell 1, (HSt2.out.mk1 [pb]).b.cell 2, (HSt2.out.mk1 [pb]).b.cell 3, (HSt2.out.mk1 [pb]).b.cell 4, (HSt2.out.mk1 [pb]).b.cell 5⟩) ?_
    have HSt3 := Lib.hid (HSt2.out.mk1 [pb])
    have hSS : ((w.drew.alloc (.cells #[.int .i64 0, .int .i64 0, .int .i64 1, .int .i64 1, .int .i64 0, .int .i64 1, .int .i64 0, .int .i64 0, .int .i64 1, .int .i64 2, .int .i64 0, .int .i64 0] TP)).alloc (.cells #[.int .i64 0, .int .i64 0, .int .i64 1, .int .i64 2, .int .i64 0, .int .i64 0] TP)).cell? ⟨Ba, 0, none⟩ = some (.int .i64 0) ∧ ((w.drew.alloc (.cells #[.int .i64 0, .int .i64 0, .int .i64 1, .int .i64 1, .int .i64 0, .int .i64 1, .int .i64 0, .int .i64 0, .int .i64 1, .int .i64 2, .int .i64 0, .int .i64 0] TP)).alloc (.cells #[.int .i64 0, .int .i64 0, .int .i64 1, .int .i64 2, .int .i64 0, .int .i64 0] TP)).cell? ⟨Ba, 1, none⟩ = some (.int .i64 0) ∧ ((w.drew.alloc (.cells #[.int .i64 0, .int .i64 0, .int .i64 1, .int .i64 1, .int .i64 0, .int .i64 1, .int .i64 0, .int .i64 0, .int .i64 1, .int .i64 2, .int .i64 0, .int .i64 0] TP)).alloc (.cells #[.int .i64 0, .int .i64 0, .int .i64 1, .int .i64 2, .int .i64 0, .int .i64 0] TP)).cell? ⟨Ba, 2, none⟩ = some (.int .i64 1) ∧ ((w.drew.alloc (.cells #[.int .i64 0, .int .i64 0, .int .i64 1, .int .i64 1, .int .i64 0, .int .i64 1, .int .i64 0, .int .i64 0, .int .i64 1, .int .i64 2, .int .i64 0, .int .i64 0] TP)).alloc (.cells #[.int .i64 0, .int .i64 0, .int .i64 1, .int .i64 2, .int .i64 0, .int .i64 0] TP)).cell? ⟨Ba, 3, none⟩ = some (.int .i64 1) ∧ ((w.drew.alloc (.cells #[.int .i64 0, .int .i64 0, .int .i64 1, .int .i64 1, .int .i64 0, .int .i64 1, .int .i64 0, .int .i64 0, .int .i64 1, .int .i64 2, .int .i64 0, .int .i64 0] TP)).alloc (.cells #[.int .i64 0, .int .i64 0, .int .i64 1, .int .i64 2, .int .i64 0, .int .i64 0] TP)).cell? ⟨Ba, 4, none⟩ = some (.int .i64 0) ∧ ((w.drew.alloc (.cells #[.int .i64 0, .int .i64 0, .int .i64 1, .int .i64 1, .int .i64 0, .int .i64 1, .int .i64 0, .int .i64 0, .int .i64 1, .int .i64 2, .int .i64 0, .int .i64 0] TP)).alloc (.cells #[.int .i64 0, .int .i64 0, .int .i64 1, .int .i64 2, .int .i64 0, .int .i64 0] TP)).cell? ⟨Ba, 5, none⟩ = some (.int .i64 1) ∧ ((w.drew.alloc (.cells #[.int .i64 0, .int .i64 0, .int .i64 1, .int .i64 1, .int .i64 0, .int .i64 1, .int .i64 0, .int .i64 0, .int .i64 1, .int .i64 2, .int .i64 0, .int .i64 0] TP)).alloc (.cells #[.int .i64 0, .int .i64 0, .int .i64 1, .int .i64 2, .int .i64 0, .int .i64 0] TP)).cell? ⟨Bb, 0, none⟩ = some (.int .i64 0) ∧ ((w.drew.alloc (.cells #[.int .i64 0, .int .i64 0, .int .i64 1, .int .i64 1, .int .i64 0, .int .i64 1, .int .i64 0, .int .i64 0, .int .i64 1, .int .i64 2, .int .i64 0, .int .i64 0] TP)).alloc (.cells #[.int .i64 0, .int .i64 0, .int .i64 1, .int .i64 2, .int .i64 0, .int .i64 0] TP)).cell? ⟨Bb, 1, none⟩ = some (.int .i64 0) ∧ ((w.drew.alloc (.cells #[.int .i64 0, .int .i64 0, .int .i64 1, .int .i64 1, .int .i64 0, .int .i64 1, .int .i64 0, .int .i64 0, .int .i64 1, .int .i64 2, .int .i64 0, .int .i64 0] TP)).alloc (.cells #[.int .i64 0, .int .i64 0, .int .i64 1, .int .i64 2, .int .i64 0, .int .i64 0] TP)).cell? ⟨Bb, 2, none⟩ = some (.int .i64 1) ∧ ((w.drew.alloc (.cells #[.int .i64 0, .int .i64 0, .int .i64 1, .int .i64 1, .int .i64 0, .int .i64 1, .int .i64 0, .int .i64 0, .int .i64 1, .int .i64 2, .int .i64 0, .int .i64 0] TP)).alloc (.cells #[.int .i64 0, .int .i64 0, .int .i64 1, .int .i64 2, .int .i64 0, .int .i64 0] TP)).cell? ⟨Bb, 3, none⟩ = some (.int .i64 2) ∧ ((w.drew.alloc (.cells #[.int .i64 0, .int .i64 0, .int .i64 1, .int .i64 1, .int .i64 0, .int .i64 1, .int .i64 0, .int .i64 0, .int .i64 1, .int .i64 2, .int .i64 0, .int .i64 0] TP)).alloc (.cells #[.int .i64 0, .int .i64 0, .int .i64 1, .int .i64 2, .int .i64 0, .int .i64 0] TP)).cell? ⟨Bb, 4, none⟩ = some (.int .i64 0) ∧ ((w.drew.alloc (.cells #[.int .i64 0, .int .i64 0, .int .i64 1, .int .i64 1, .int .i64 0, .int .i64 1, .int .i64 0, .int .i64 0, .int .i64 1, .int .i64 2, .int .i64 0, .int .i64 0] TP)).alloc (.cells #[.int .i64 0, .int .i64 0, .int .i64 1, .int .i64 2, .int .i64 0, .int .i64 0] TP)).cell? ⟨Bb, 5, none⟩ = some (.int .i64 0) := ⟨HSt3.out.a.cell 0, HSt3.out.a.cell 1, HSt3.out.a.cell 2, HSt3.out.a.cell 3, HSt3.out.a.cell 4, HSt3.out.a.cell 5, HSt3.out.b.cell 0, HSt3.out.b.cell 1, HSt3.out.b.cell 2, HSt3.out.b.cell 3, HSt3.out.b.cell 4, HSt3.out.b.cell 5⟩
    refine Eng.TW.take' (v := ?_) rfl rfl (by decide) (by kernel_rfl) (fun w hw => ?_) ?_
    rotate_left
    · (try dsimp only at hw); go_simp; first | done | with_reducible rfl
    refine Eng.TW.call rfl rfl (by decide) (by kernel_rfl) ?_ (HSt3.out.app (Ar.nil _ _) ((HSt3.out.exx (xs := [pa, pb]) (by first | exact List.mem_cons_self .. | exact List.mem_cons_of_mem _ (List.mem_cons_self ..))).ar (by simp)) (by simp) (by simp; exact ⟨okpa, okpb⟩) (by simp) (by simp) (by simp) (by simp) (xs := []) (ys := [pa, pb]) (bb := true) (l' := [pa.k, pb.k]) (by decide) (by decide)) ?_
    · go_simp
    rintro e w4 ⟨rfl, F2, hT, -⟩
    have HSt4 := Lib.hid (hT)
    have hSS : w4.cell? ⟨Ba, 0, none⟩ = some (.int .i64 0) ∧ w4.cell? ⟨Ba, 1, none⟩ = some (.int .i64 0) ∧ w4.cell? ⟨Ba, 2, none⟩ = some (.int .i64 1) ∧ w4.cell? ⟨Ba, 3, none⟩ = some (.int .i64 1) ∧ w4.cell? ⟨Ba, 4, none⟩ = some (.int .i64 0) ∧ w4.cell? ⟨Ba, 5, none⟩ = some (.int .i64 1) ∧ w4.cell? ⟨Bb, 0, none⟩ = some (.int .i64 0) ∧ w4.cell? ⟨Bb, 1, none⟩ = some (.int .i64 0) ∧ w4.cell? ⟨Bb, 2, none⟩ = some (.int .i64 1) ∧ w4.cell? ⟨Bb, 3, none⟩ = some (.int .i64 2) ∧ w4.cell? ⟨Bb, 4, none⟩ = some (.int .i64 0) ∧ w4.cell? ⟨Bb, 5, none⟩ = some (.int .i64 0) := ⟨HSt4.out.a.cell 0, HSt4.out.a.cell 1, HSt4.out.a.cell 2, HSt4.out.a.cell 3, HSt4.out.a.cell 4, HSt4.out.a.cell 5, HSt4.out.b.cell 0, HSt4.out.b.cell 1, HSt4.out.b.cell 2, HSt4.out.b.cell 3, HSt4.out.b.cell 4, HSt4.out.b.cell 5⟩
    clear hT
    refine ⟨_, rfl, hSS, ?_⟩
    refine Eng.TW.call rfl rfl (by decide) (by kernel_rfl) ?_ (HSt4.out.app ((HSt4.out.exx (xs := [pb]) (by first | exact List.mem_cons_self .. | exact List.mem_cons_of_mem _ (List.mem_cons_self ..))).ar (by simp)) (Ar.nil _ _) (by simp; exact okpb) (by simp) (by simp) (by simp) (by simp) (by simp) (xs := [pb]) (ys := []) (bb := true) (l' := [pa.k]) (by decide) (by decide)) ?_
    · go_simp
    rintro e w5 ⟨rfl, F3, hT, -⟩
    have HSt5 := Lib.hid (hT)
    have hSS : w5.cell? ⟨Ba, 0, none⟩ = some (.int .i64 0) ∧ w5.cell? ⟨Ba, 1, none⟩ = some (.int .i64 0) ∧ w5.cell? ⟨Ba, 2, none⟩ = some (.int .i64 1) ∧ w5.cell? ⟨Ba, 3, none⟩ = some (.int .i64 1) ∧ w5.cell? ⟨Ba, 4, none⟩ = some (.int .i64 0) ∧ w5.cell? ⟨Ba, 5, none⟩ = some (.int .i64 1) ∧ w5.cell? ⟨Bb, 0, none⟩ = some (.int .i64 0) ∧ w5.cell? ⟨Bb, 1, none⟩ = some (.int .i64 0) ∧ w5.cell? ⟨Bb, 2, none⟩ = some (.int .i64 1) ∧ w5.cell? ⟨Bb, 3, none⟩ = some (.int .i64 2) ∧ w5.cell? ⟨Bb, 4, none⟩ = some (.int .i64 0) ∧ w5.cell? ⟨Bb, 5, none⟩ = some (.int .i64 0) := ⟨HSt5.out.a.cell 0, HSt5.out.a.cell 1, HSt5.out.a.cell 2, HSt5.out.a.cell 3, HSt5.out.a.cell 4, HSt5.out.a.cell 5, HSt5.out.b.cell 0, HSt5.out.b.cell 1, HSt5.out.b.cell 2, HSt5.out.b.cell 3, HSt5.out.b.cell 4, HSt5.out.b.cell 5⟩
    clear hT
    refine ⟨_, rfl, hSS, ?_⟩
    refine Eng.TW.take' (v := ?_) rfl rfl (by decide) (by kernel_rfl) (fun w hw => ?_) ?_
    rotate_left
    · (try dsimp only at hw); go_simp; first | done | with_reducible rfl
    refine Eng.TW.take' (v := ?_) rfl rfl (by decide) (by kernel_rfl) (fun w hw => ?_) ?_
    rotate_left
    · (try dsimp only at hw); go_simp; first | done | with_reducible rfl
    refine Eng.TW.end_ [5, 6, 14, 15, 16, 17, 18, 19, 20, 21, 22] HN.out (by kernel_rfl) (by kernel_rfl) ?_
    exact HP.out _ _ F3 rfl rfl HSt5.out.less
  refine Eng.TW.step rfl rfl (by decide) (by kernel_rfl) (by go_simp; first | done | with_reducible rfl) (⟨(HSt.out.mk1 [pb]).a.cell 0, (HSt.out.mk1 [pb]).a.cell 1, (HSt.out.mk1 [pb]).a.cell 2, (HSt.out.mk1 [pb]).a.cell 3, (HSt.out.mk1 [pb]).a.cell 4, (HSt.out.mk1 [pb]).a.cell 5, (HSt.out.mk1 [pb]).b.cell 0, (HSt.out.mk1 [pb]).b.cell 1, (HSt.out.mk1 [pb]).b.cell 2, (HSt.out.mk1 [pb]).b.cell 3, (HSt.out.mk1 [pb]).b.cell 4, (HSt.out.mk1 [pb]).b.cell 5⟩) ?_
  have HSt2 := Lib.hid (HSt.out.mk1 [pb])
  have hSS : (w.drew.alloc (.cells #[.int .i64 0, .int .i64 0, .int .i64 1, .int .i64 2, .int .i64 0, .int .i64 0] TP)).cell? ⟨Ba, 0, none⟩ = some (.int .i64 0) ∧ (w.drew.alloc (.cells #[.int .i64 0, .int .i64 0, .int .i64 1, .int .i64 2, .int .i64 0, .int .i64 0] TP)).cell? ⟨Ba, 1, none⟩ = some (.int .i64 0) ∧ (w.drew.alloc (.cells #[.int .i64 0, .int .i64 0, .int .i64 1, .int .i64 2, .int .i64 0, .int .i64 0] TP)).cell? ⟨Ba, 2, none⟩ = some (.int .i64 1) ∧ (w.drew.alloc (.cells #[.int .i64 0, .int .i64 0, .int .i64 1, .int .i64 2, .int .i64 0, .int .i64 0] TP)).cell? ⟨Ba, 3, none⟩ = some (.int .i64 1) ∧ (w.drew.alloc (.cells #[.int .i64 0, .int .i64 0, .int .i64 1, .int .i64 2, .int .i64 0, .int .i64 0] TP)).cell? ⟨Ba, 4, none⟩ = some (.int .i64 0) ∧ (w.drew.alloc (.cells #[.int .i64 0, .int .i64 0, .int .i64 1, .int .i64 2, .int .i64 0, .int .i64 0] TP)).cell? ⟨Ba, 5, none⟩ = some (.int .i64 1) ∧ (w.drew.alloc (.cells #[.int .i64 0, .int .i64 0, .int .i64 1, .int .i64 2, .int .i64 0, .int .i64 0] TP)).cell? ⟨Bb, 0, none⟩ = some (.int .i64 0) ∧ (w.drew.alloc (.cells #[.int .i64 0, .int .i64 0, .int .i64 1, .int .i64 2, .int .i64 0, .int .i64 0] TP)).cell? ⟨Bb, 1, none⟩ = some (.int .i64 0) ∧ (w.drew.alloc (.cells #[.int .i64 0, .int .i64 0, .int .i64 1, .int .i64 2, .int .i64 0, .int .i64 0] TP)).cell? ⟨Bb, 2, none⟩ = some (.int .i64 1) ∧ (w.drew.alloc (.cells #[.int .i64 0, .int .i64 0, .int .i64 1, .int .i64 2, .int .i64 0, .int .i64 0] TP)).cell? ⟨Bb, 3, none⟩ = some (.int .i64 2) ∧ (w.drew.alloc (.cells #[.int .i64 0, .int .i64 0, .int .i64 1, .int .i64 2, .int .i64 0, .int .i64 0] TP)).cell? ⟨Bb, 4, none⟩ = some (.int .i64 0) ∧ (w.drew.alloc (.cells #[.int .i64 0, .int .i64 0, .int .i64 1, .int .i64 2, .int .i64 0, .int .i64 0] TP)).cell? ⟨Bb, 5, none⟩ = some (.int .i64 0) := ⟨HSt2.out.a.cell 0, HSt2.out.a.cell 1, HSt2.out.a.cell 2, HSt2.out.a.cell 3, HSt2.out.a.cell 4, HSt2.out.a.cell 5, HSt2.out.b.cell 0, HSt2.out.b.cell 1, HSt2.out.b.cell 2, HSt2.out.b.cell 3, HSt2.out.b.cell 4, HSt2.out.b.cell 5⟩
  refine Eng.TW.take' (v := ?_) rfl rfl (by decide) (by kernel_rfl) (fun w hw => ?_) ?_
  rotate_left
  · (try dsimp only at hw); go_simp; first | done | with_reducible rfl
  refine Eng.TW.step rfl rfl (by decide) (by kernel_rfl) (by go_simp; first | done | with_reducible rfl) (⟨(HSt2.out.mk1 [pa, pb]).a.cell 0, (HSt2.out.mk1 [pa, pb]).a.cell 1, (HSt2.out.mk1 [pa, pb]).a.cell 2, (HSt2.out.mk1 [pa, pb]).a.cell 3, (HSt2.out.mk1 [pa, pb]).a.cell 4, (HSt2.out.mk1 [pa, pb]).a.cell 5, (HSt2.out.mk1 [pa, pb]).b.cell 0, (HSt2.out.mk1 [pa, pb]).b.cell 1, (HSt2.out.mk1 [pa, pb]).b.cell 2, (HSt2.out.mk1 [pa, pb]).b.cell 3, (HSt2.out.mk1 [pa, pb]).b.cell 4, (HSt2.out.mk1 [pa, pb]).b.cell 5⟩) ?_
  have HSt3 := Lib.hid (HSt2.out.mk1 [pa, pb])
  have hSS : ((w.drew.alloc (.cells #[.int .i64 0, .int .i64 0, .int .i64 1, .int .i64 2, .int .i64 0, .int .i64 0] TP)).alloc (.cells #[.int .i64 0, .int .i64 0, .int .i64 1, .int .i64 1, .int .i64 0, .int .i64 1, .int .i64 0, .int .i64 0, .int .i64 1, .int .i64 2, .int .i64 0, .int .i64 0] TP)).cell? ⟨Ba, 0, none⟩ = some (.int .i64 0) ∧ ((w.drew.alloc (.cells #[.int .i64 0, .int .i64 0, .int .i64 1, .int .i64 2, .int .i64 0, .int .i64 0] TP)).alloc (.cells #[.int .i64 0, .int .i64 0, .int .i64 1, .int .i64 1, .int .i64 0, .int .i64 1, .int .i64 0, .int .i64 0, .int .i64 1, .int .i64 2, .int .i64 0, .int .i64 0] TP)).cell? ⟨Ba, 1, none⟩ = some (.int .i64 0) ∧ ((w.drew.alloc (.cells #[.int .i64 0, .int .i64 0, .int .i64 1, .int .i64 2, .int .i64 0, .int .i64 0] TP)).alloc (.cells #[.int .i64 0, .int .i64 0, .int .i64 1, .int .i64 1, .int .i64 0, .int .i64 1, .int .i64 0, .int .i64 0, .int .i64 1, .int .i64 2, .int .i64 0, .int .i64 0] TP)).cell? ⟨Ba, 2, none⟩ = some (.int .i64 1) ∧ ((w.drew.alloc (.cells #[.int .i64 0, .int .i64 0, .int .i64 1, .int .i64 2, .int .i64 0, .int .i64 0] TP)).alloc (.cells #[.int .i64 0, .int .i64 0, .int .i64 1, .int .i64 1, .int .i64 0, .int .i64 1, .int .i64 0, .int .i64 0, .int .i64 1, .int .i64 2, .int .i64 0, .int .i64 0] TP)).cell? ⟨Ba, 3, none⟩ = some (.int .i64 1) ∧ ((w.drew.alloc (.cells #[.int .i64 0, .int .i64 0, .int .i64 1, .int .i64 2, .int .i64 0, .int .i64 0] TP)).alloc (.cells #[.int .i64 0, .int .i64 0, .int .i64 1, .int .i64 1, .int .i64 0, .int .i64 1, .int .i64 0, .int .i64 0, .int .i64 1, .int .i64 2, .int .i64 0, .int .i64 0] TP)).cell? ⟨Ba, 4, none⟩ = some (.int .i64 0) ∧ ((w.drew.alloc (.cells #[.int .i64 0, .int .i64 0, .int .i64 1, .int .i64 2, .int .i64 0, .int .i64 0] TP)).alloc (.cells #[.int .i64 0, .int .i64 0, .int .i64 1, .int .i64 1, .int .i64 0, .int .i64 1, .int .i64 0, .int .i64 0, .int .i64 1, .int .i64 2, .int .i64 0, .int .i64 0] TP)).cell? ⟨Ba, 5, none⟩ = some (.int .i64 1) ∧ ((w.drew.alloc (.cells #[.int .i64 0, .int .i64 0, .int .i64 1, .int .i64 2, .int .i64 0, .int .i64 0] TP)).alloc (.cells #[.int .i64 0, .int .i64 0, .int .i64 1, .int .i64 1, .int .i64 0, .int .i64 1, .int .i64 0, .int .i64 0, .int .i64 1, .int .i64 2, .int .i64 0, .int .i64 0] TP)).cell? ⟨Bb, 0, none⟩ = some (.int .i64 0) ∧ ((w.drew.alloc (.cells #[.int .i64 0, .int .i64 0, .int .i64 1, .int .i64 2, .int .i64 0, .int .i64 0] TP)).alloc (.cells #[.int .i64 0, .int .i64 0, .int .i64 1, .int .i64 1, .int .i64 0, .int .i64 1, .int .i64 0, .int .i64 0, .int .i64 1, .int .i64 2, .int .i64 0, .int .i64 0] TP)).cell? ⟨Bb, 1, none⟩ = some (.int .i64 0) ∧ ((w.drew.alloc (.cells #[.int .i64 0, .int .i64 0, .int .i64 1, .int .i64 2, .int .i64 0, .int .i64 0] TP)).alloc (.cells #[.int .i64 0, .int .i64 0, .int .i64 1, .int .i64 1, .int .i64 0, .int .i64 1, .int .i64 0, .int .i64 0, .int .i64 1, .int .i64 2, .int .i64 0, .int .i64 0] TP)).cell? ⟨Bb, 2, none⟩ = some (.int .i64 1) ∧ ((w.drew.alloc (.cells #[.int .i64 0, .int .i64 0, .int .i64 1, .int .i64 2, .int .i64 0, .int .i64 0] TP)).alloc (.cells #[.int .i64 0, .int .i64 0, .int .i64 1, .int .i64 1, .int .i64 0, .int .i64 1, .int .i64 0, .int .i64 0, .int .i64 1, .int .i64 2, .int .i64 0, .int .i64 0] TP)).cell? ⟨Bb, 3, none⟩ = some (.int .i64 2) ∧ ((w.drew.alloc (.cells #[.int .i64 0, .int .i64 0, .int .i64 1, .int .i64 2, .int .i64 0, .int .i64 0] TP)).alloc (.cells #[.int .i64 0, .int .i64 0, .int .i64 1, .int .i64 1, .int .i64 0, .int .i64 1, .int .i64 0, .int .i64 0, .int .i64 1, .int .i64 2, .int .i64 0, .int .i64 0] TP)).cell? ⟨Bb, 4, none⟩ = some (.int .i64 0) ∧ ((w.drew.alloc (.cells #[.int .i64 0, .int .i64 0, .int .i64 1, .int .i64 2, .int .i64 0, .int .i64 0] TP)).alloc (.cells #[.int .i64 0, .int .i64 0, .int .i64 1, .int .i64 1, .int .i64 0, .int .i64 1, .int .i64 0, .int .i64 0, .int .i64 1, .int .i64 2, .int .i64 0, .int .i64 0] TP)).cell? ⟨Bb, 5, none⟩ = some (.int .i64 0) := ⟨HSt3.out.a.cell 0, HSt3.out.a.cell 1, HSt3.out.a.cell 2, HSt3.out.a.cell 3, HSt3.out.a.cell 4, HSt3.out.a.cell 5, HSt3.out.b.cell 0, HSt3.out.b.cell 1, HSt3.out.b.cell 2, HSt3.out.b.cell 3, HSt3.out.b.cell 4, HSt3.out.b.cell 5⟩
  refine Eng.TW.take' (v := ?_) rfl rfl (by decide) (by kernel_rfl) (fun w hw => ?_) ?_
  rotate_left
  · (try dsimp only at hw); go_simp; first | done | with_reducible rfl
  refine Eng.TW.call rfl rfl (by decide) (by kernel_rfl) ?_ (HSt3.out.app (Ar.nil _ _) ((HSt3.out.exx (xs := [pa, pb]) (by first | exact List.mem_cons_self .. | exact List.mem_cons_of_mem _ (List.mem_cons_self ..))).ar (by simp)) (by simp) (by simp; exact ⟨okpa, okpb⟩) (by simp) (by simp) (by simp) (by simp) (xs := []) (ys := [pa, pb]) (bb := true) (l' := [pa.k, pb.k]) (by decide) (by decide)) ?_
  · go_simp
  rintro e w4 ⟨rfl, F2, hT, -⟩
  have HSt4 := Lib.hid (hT)
  have hSS : w4.cell? ⟨Ba, 0, none⟩ = some (.int .i64 0) ∧ w4.cell? ⟨Ba, 1, none⟩ = some (.int .i64 0) ∧ w4.cell? ⟨Ba, 2, none⟩ = some (.int .i64 1) ∧ w4.cell? ⟨Ba, 3, none⟩ = some (.int .i64 1) ∧ w4.cell? ⟨Ba, 4, none⟩ = some (.int .i64 0) ∧ w4.cell? ⟨Ba, 5, none⟩ = some (.int .i64 1) ∧ w4.cell? ⟨Bb, 0, none⟩ = some (.int .i64 0) ∧ w4.cell? ⟨Bb, 1, none⟩ = some (.int .i64 0) ∧ w4.cell? ⟨Bb, 2, none⟩ = some (.int .i64 1) ∧ w4.cell? ⟨Bb, 3, none⟩ = some (.int .i64 2) ∧ w4.cell? ⟨Bb, 4, none⟩ = some (.int .i64 0) ∧ w4.cell? ⟨Bb, 5, none⟩ = some (.int .i64 0) := ⟨HSt4.out.a.cell 0, HSt4.out.a.cell 1, HSt4.out.a.cell 2, HSt4.out.a.cell 3, HSt4.out.a.cell 4, HSt4.out.a.cell 5, HSt4.out.b.cell 0, HSt4.out.b.cell 1, HSt4.out.b.cell 2, HSt4.out.b.cell 3, HSt4.out.b.cell 4, HSt4.out.b.cell 5⟩
  clear hT
  refine ⟨_, rfl, hSS, ?_⟩
  refine Eng.TW.call rfl rfl (by decide) (by kernel_rfl) ?_ (HSt4.out.app ((HSt4.out.exx (xs := [pb]) (by first | exact List.mem_cons_self .. | exact List.mem_cons_of_mem _ (List.mem_cons_self ..))).ar (by simp)) (Ar.nil _ _) (by simp; exact okpb) (by simp) (by simp) (by simp) (by simp) (by simp) (xs := [pb]) (ys := []) (bb := true) (l' := [pa.k]) (by decide) (by decide)) ?_
  · go_simp
  rintro e w5 ⟨rfl, F3, hT, -⟩
  have HSt5 := Lib.hid (hT)
  have hSS : w5.cell? ⟨Ba, 0, none⟩ = some (.int .i64 0) ∧ w5.cell? ⟨Ba, 1, none⟩ = some (.int .i64 0) ∧ w5.cell? ⟨Ba, 2, none⟩ = some (.int .i64 1) ∧ w5.cell? ⟨Ba, 3, none⟩ = some (.int .i64 1) ∧ w5.cell? ⟨Ba, 4, none⟩ = some (.int .i64 0) ∧ w5.cell? ⟨Ba, 5, none⟩ = some (.int .i64 1) ∧ w5.cell? ⟨Bb, 0, none⟩ = some (.int .i64 0) ∧ w5.cell? ⟨Bb, 1, none⟩ = some (.int .i64 0) ∧ w5.cell? ⟨Bb, 2, none⟩ = some (.int .i64 1) ∧ w5.cell? ⟨Bb, 3, none⟩ = some (.int .i64 2) ∧ w5.cell? ⟨Bb, 4, none⟩ = some (.int .i64 0) ∧ w5.cell? ⟨Bb, 5, none⟩ = some (.int .i64 0) := ⟨HSt5.out.a.cell 0, HSt5.out.a.cell 1, HSt5.out.a.cell 2, HSt5.out.a.cell 3, HSt5.out.a.cell 4, HSt5.out.a.cell 5, HSt5.out.b.cell 0, HSt5.out.b.cell 1, HSt5.out.b.cell 2, HSt5.out.b.cell 3, HSt5.out.b.cell 4, HSt5.out.b.cell 5⟩
  clear hT
  refine ⟨_, rfl, hSS, ?_⟩
  refine Eng.TW.take' (v := ?_) rfl rfl (by decide) (by kernel_rfl) (fun w hw => ?_) ?_
  rotate_left
  · (try dsimp only at hw); go_simp; first | done | with_reducible rfl
  refine Eng.TW.take' (v := ?_) rfl rfl (by decide) (by kernel_rfl) (fun w hw => ?_) ?_
  rotate_left
  · (try dsimp only at hw); go_simp; first | done | with_reducible rfl
  refine Eng.TW.end_ [5, 6, 14, 15, 16, 17, 18, 19, 20, 21, 22] HN.out (by kernel_rfl) (by kernel_rfl) ?_
  exact HP.out _ _ F3 rfl rfl HSt5.out.less

end Law23
end Go.Proofs.YtgfjpnpbkkadpaaGreat
namespace Go.Proofs.YtgfjpnpbkkadpaaGreat
open Go.RowKit
namespace Law23
open BagP Bag ShapeP Fm Shape Ref23
attribute [local go_sem] Eng.ev Eng.getO_cons Eng.getO_nil
theorem aw_cells : ([pa, pb, pb].flatMap plc).toArray = #[.int .i64 0, .int .i64 0, .int .i64 1, .int .i64 1, .int .i64 0, .int .i64 1, .int .i64 0, .int .i64 0, .int .i64 1, .int .i64 2, .int .i64 0, .int .i64 0, .int .i64 0, .int .i64 0, .int .i64 1, .int .i64 2, .int .i64 0, .int .i64 0] := rfl
theorem aw_of (W : World) (r : Nat) (hr : W.heap.size = r) : Calls Tryz.prog 48 #[.slice (some ⟨r, 0, none⟩) 3 3] (W.alloc (.cells #[.int .i64 0, .int .i64 0, .int .i64 1, .int .i64 1, .int .i64 0, .int .i64 1, .int .i64 0, .int .i64 0, .int .i64 1, .int .i64 2, .int .i64 0, .int .i64 0, .int .i64 0, .int .i64 0, .int .i64 1, .int .i64 2, .int .i64 0, .int .i64 0] TP)) (ShPost [pa.k, pb.k, pb.k] (W.alloc (.cells #[.int .i64 0, .int .i64 0, .int .i64 1, .int .i64 1, .int .i64 0, .int .i64 1, .int .i64 0, .int .i64 0, .int .i64 1, .int .i64 2, .int .i64 0, .int .i64 0, .int .i64 0, .int .i64 0, .int .i64 1, .int .i64 2, .int .i64 0, .int .i64 0] TP))) := by
  subst hr
  have h := Of (some ⟨W.heap.size, 0, none⟩) 3 [pa, pb, pb] (W.alloc (.cells ([pa, pb, pb].flatMap plc).toArray TP)) (sl_row W TP ([pa, pb, pb].flatMap plc) 3 6 rfl (by simp [maxLen])) (by simp; exact ⟨okpa, okpb⟩) (by simp)
  rw [aw_cells] at h
  exact h
theorem aw_start (w w1 W : World) (A1 A2 : Option Addr) (c1 c2 : Nat) (hW : W = ((w.alloc (.cells (pla pa) TP)).alloc (.cells (pla pb) TP)).alloc (.cells #[.int .i64 0, .int .i64 0, .int .i64 1, .int .i64 1, .int .i64 0, .int .i64 1, .int .i64 0, .int .i64 0, .int .i64 1, .int .i64 2, .int .i64 0, .int .i64 0, .int .i64 0, .int .i64 0, .int .i64 1, .int .i64 2, .int .i64 0, .int .i64 0] TP)) (hf : Fr (fun _ => False) W w1) (s1 : Cs w1 A1 c1 x3.D) (s2 : Cs w1 A2 c2 x3.F) :
    AW w ((w1.alloc (.cells (sha x3 A1 A2 c1 c2) TSp)).alloc (.cells zeroV TV)) (w1.heap.size + 1) 0 [] [w1.heap.size + 1] w.heap.size (w.heap.size + 1) w1.heap.size A1 A2 c1 c2 [] [] := by
  have fa := fun (w : World) (o : Obj) => Fr.alloc (fun _ => False) w o
  have f1 : Fr (fun _ => False) ((w.alloc (.cells (pla pa) TP)).alloc (.cells (pla pb) TP)) w1 := by
    rw [hW] at hf
    exact (fa _ _).trans hf (fun _ _ h => h) (fun _ _ h => h)
  have g := (fa w1 (.cells (sha x3 A1 A2 c1 c2) TSp)).trans (fa _ (.cells zeroV TV)) (T := fun _ => False) (fun _ _ h => h) (fun _ _ h => h)
  have f2 := f1.trans g (T := fun _ => False) (fun _ _ h => h) (fun _ _ h => h)
  have hsz := f1.size
  simp only [World.size_alloc] at hsz
  have hv := VB.new (w1.alloc (.cells (sha x3 A1 A2 c1 c2) TSp)) 0
  rw [World.size_alloc] at hv
  have hb := (Bk.new (w.alloc (.cells (pla pa) TP)) (pla pb) TP).fr f2 (fun _ _ h => h)
  rw [World.size_alloc] at hb
  have n1 := fun a ha => s1.lt (by simp) (a := a) ha
  have n2 := fun a ha => s2.lt (by simp) (a := a) ha
  exact ⟨hv, (Bk.new w (pla pa) TP).fr ((fa _ _).trans f2 (T := fun _ => False) (fun _ _ h => h) (fun _ _ h => h)) (fun _ _ h => h), hb, (Bk.new w1 _ TSp).fr (fa _ _) (fun _ _ h => h), s1.fr g (fun _ _ h => h), s2.fr g (fun _ _ h => h),
    by simp; omega, by simp; omega, by simp, fun a ha => by have := n1 a ha; simp; omega, fun a ha => by have := n2 a ha; simp; omega, by simp; omega,
    ((fa w (.cells (pla pa) TP)).trans (fa _ (.cells (pla pb) TP)) (T := fun _ => False) (fun _ _ h => h) (fun _ _ h => h)).trans f2 (fun _ _ h => h) (fun _ _ h => h), by simp, by simp⟩
set_option maxRecDepth 100000 in
set_option maxHeartbeats 400000 in
theorem awake (w : World) : Calls Tryz.prog 47 #[] w fun e w' => e = .returned (.bool true) ∧ Fr (fun _ => False) w w' := by
  have HR := Lib.hid aw_of
  go_enter Tryz.func47, Tryz.ntmps47
  go_wp2_with fail
  refine (HR.out _ _ (by simp)).mono ?_
  rintro e w1 ⟨y, A1, c1, A2, c2, rfl, hI, s1, s2, -, -, hf⟩
  obtain rfl := IsShp.ext hI shp3
  have H0 := Lib.hid (aw_start w w1 _ A1 A2 c1 c2 rfl hf s1 s2)
  clear hI s1 s2 hf HR
  go_upto_region 4 with (fail)
  refine w4 (by kernel_rfl) _ _ w _ (w1.heap.size + 1) [w1.heap.size + 1] w.heap.size (w.heap.size + 1) w1.heap.size A1 A2 c1 c2 H0.out rfl rfl rfl rfl ?_
  intro x w2 F' h5 h6 h
  simp only [Eng.setAll, Act.put, List.setIfInBounds_toArray, List.set_cons_succ, List.set_cons_zero]
  rw [h5, h6]
  have H2 := Lib.hid h
  clear h5 h6 h H0
  go_upto_region 5 with (fail)
  refine w5 (by kernel_rfl) _ _ w w2 (w1.heap.size + 1) _ F' w.heap.size (w.heap.size + 1) w1.heap.size A1 A2 c1 c2 H2.out (by simp) rfl rfl rfl rfl rfl rfl rfl ?_
  intro y w3 h0 hf
  simp only [Eng.setAll, Act.put, List.setIfInBounds_toArray, List.set_cons_succ, List.set_cons_zero]
  rw [h0]
  have HF := Lib.hid hf
  clear h0 hf H2
  go_wp2_with fail
  go_ret
  exact ⟨rfl, HF.out⟩
end Law23
end Go.Proofs.YtgfjpnpbkkadpaaGreat
