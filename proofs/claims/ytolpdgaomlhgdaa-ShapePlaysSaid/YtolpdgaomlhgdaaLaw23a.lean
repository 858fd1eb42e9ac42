/- Layer 23's statements: awake, and ShapeIs: for every input the answer is true. -/
import Derived.Test.YtolpdgaomlhgdaaLaw23
namespace Go.Proofs.Ytolpdgaomlhgdaa
open Go.RowKit
namespace Law23
open BagP Bag ShapeP Fm Shape Ref23
attribute [local go_sem] Eng.ev Eng.getO_cons Eng.getO_nil
theorem aw_cells : ([pa, pb, pb].flatMap plc).toArray = #[.int .i64 0, .int .i64 0, .int .i64 1, .int .i64 1, .int .i64 0, .int .i64 1, .int .i64 0, .int .i64 0, .int .i64 1, .int .i64 2, .int .i64 0, .int .i64 0, .int .i64 0, .int .i64 0, .int .i64 1, .int .i64 2, .int .i64 0, .int .i64 0] := rfl
theorem aw_of (W : World) (r : Nat) (hr : W.heap.size = r) : Calls Try.prog 77 #[.slice (some ⟨r, 0, none⟩) 3 3] (W.alloc (.cells #[.int .i64 0, .int .i64 0, .int .i64 1, .int .i64 1, .int .i64 0, .int .i64 1, .int .i64 0, .int .i64 0, .int .i64 1, .int .i64 2, .int .i64 0, .int .i64 0, .int .i64 0, .int .i64 0, .int .i64 1, .int .i64 2, .int .i64 0, .int .i64 0] TP)) (ShPost [pa.k, pb.k, pb.k] (W.alloc (.cells #[.int .i64 0, .int .i64 0, .int .i64 1, .int .i64 1, .int .i64 0, .int .i64 1, .int .i64 0, .int .i64 0, .int .i64 1, .int .i64 2, .int .i64 0, .int .i64 0, .int .i64 0, .int .i64 0, .int .i64 1, .int .i64 2, .int .i64 0, .int .i64 0] TP))) := by
  subst hr
  have h := Of (some ⟨W.heap.size, 0, none⟩) 3 [pa, pb, pb] (W.alloc (.cells ([pa, pb, pb].flatMap plc).toArray TP)) (sl_row W TP ([pa, pb, pb].flatMap plc) 3 6 rfl (by simp [maxLen])) (by simp; exact ⟨okpa, okpb⟩) (by simp)
  rw [aw_cells] at h
  exact h
theorem aw_start (w w1 W : World) (A1 A2 : Option Addr) (c1 c2 : Nat) (hW : W = ((w.alloc (.cells (pla pa) TP)).alloc (.cells (pla pb) TP)).alloc (.cells #[.int .i64 0, .int .i64 0, .int .i64 1, .int .i64 1, .int .i64 0, .int .i64 1, .int .i64 0, .int .i64 0, .int .i64 1, .int .i64 2, .int .i64 0, .int .i64 0, .int .i64 0, .int .i64 0, .int .i64 1, .int .i64 2, .int .i64 0, .int .i64 0] TP)) (hf : Fr (fun _ => False) W w1) (s1 : Cs w1 A1 c1 x3.D) (s2 : Cs w1 A2 c2 x3.F) :
    AW w ((w1.alloc (.cells (sha x3 A1 A2 c1 c2) TSp)).alloc (.cells zeroV TV)) (w1.heap.size + 1) 0 [] [w1.heap.size + 1] w.heap.size (w.heap.size + 1) w1.heap.size A1 A2 c1 c2 [] [] := by
  have fa := fun (w : World) (o : Obj) => Fr.alloc (fun _ => False) w o
  have f1 : Fr (fun _ => False) ((w.alloc (.cells (pla pa) TP)).alloc (.cells (pla pb) TP)) w1 := by
    rw [hW] at hf
    exact (fa _ _).trans hf (fun _ _ h => h) (fun _ _ h => h)
  have g := (fa w1 (.cells (sha x3 A1 A2 c1 c2) TSp)).trans (fa _ (.cells zeroV TV)) (T := fun _ => False) (fun _ _ h => h) (fun _ _ h => h)
  have f2 := f1.trans g (T := fun _ => False) (fun _ _ h => h) (fun _ _ h => h)
  have hsz := f1.size
  simp only [World.size_alloc] at hsz
  have hv := VB.new (w1.alloc (.cells (sha x3 A1 A2 c1 c2) TSp)) 0
  rw [World.size_alloc] at hv
  have hb := (Bk.new (w.alloc (.cells (pla pa) TP)) (pla pb) TP).fr f2 (fun _ _ h => h)
  rw [World.size_alloc] at hb
  have n1 := fun a ha => s1.lt (by simp) (a := a) ha
  have n2 := fun a ha => s2.lt (by simp) (a := a) ha
  exact ⟨hv, (Bk.new w (pla pa) TP).fr ((fa _ _).trans f2 (T := fun _ => False) (fun _ _ h => h) (fun _ _ h => h)) (fun _ _ h => h), hb, (Bk.new w1 _ TSp).fr (fa _ _) (fun _ _ h => h), s1.fr g (fun _ _ h => h), s2.fr g (fun _ _ h => h),
    by simp; omega, by simp; omega, by simp, fun a ha => by have := n1 a ha; simp; omega, fun a ha => by have := n2 a ha; simp; omega, by simp; omega,
    ((fa w (.cells (pla pa) TP)).trans (fa _ (.cells (pla pb) TP)) (T := fun _ => False) (fun _ _ h => h) (fun _ _ h => h)).trans f2 (fun _ _ h => h) (fun _ _ h => h), by simp, by simp⟩
set_option maxRecDepth 100000 in
set_option maxHeartbeats 400000 in
theorem awake (w : World) : Calls Try.prog 75 #[] w fun e w' => e = .returned (.bool true) ∧ Fr (fun _ => False) w w' := by
  have HR := Lib.hid aw_of
  go_enter Try.func75, Try.ntmps75
  go_wp2_with fail
  refine (HR.out _ _ (by simp)).mono ?_
  rintro e w1 ⟨y, A1, c1, A2, c2, rfl, hI, s1, s2, -, -, hf⟩
  obtain rfl := IsShp.ext hI shp3
  have H0 := Lib.hid (aw_start w w1 _ A1 A2 c1 c2 rfl hf s1 s2)
  clear hI s1 s2 hf HR
  go_upto_region 4 with (fail)
  refine w4 (by kernel_rfl) _ _ w _ (w1.heap.size + 1) [w1.heap.size + 1] w.heap.size (w.heap.size + 1) w1.heap.size A1 A2 c1 c2 H0.out rfl rfl rfl rfl ?_
  intro x w2 F' h5 h6 h
  simp only [Eng.setAll, Act.put, List.setIfInBounds_toArray, List.set_cons_succ, List.set_cons_zero]
  rw [h5, h6]
  have H2 := Lib.hid h
  clear h5 h6 h H0
  go_upto_region 5 with (fail)
  refine w5 (by kernel_rfl) _ _ w w2 (w1.heap.size + 1) _ F' w.heap.size (w.heap.size + 1) w1.heap.size A1 A2 c1 c2 H2.out (by simp) rfl rfl rfl rfl rfl rfl rfl ?_
  intro y w3 h0 hf
  simp only [Eng.setAll, Act.put, List.setIfInBounds_toArray, List.set_cons_succ, List.set_cons_zero]
  rw [h0]
  have HF := Lib.hid hf
  clear h0 hf H2
  go_wp2_with fail
  go_ret
  exact ⟨rfl, HF.out⟩
structure IS (w0 w : World) (Bx : Nat) (A A1 A2 : Option Addr) (c c1 c2 : Nat) (l : List Pl) (x : Shp) (Y : List (Option Addr × Nat × List (Int × Int))) : Prop where
  b : Bk w Bx (sha x A1 A2 c1 c2) TSp
  d : Cs w A1 c1 x.D
  f : Cs w A2 c2 x.F
  s : Sl w 6 A l.length c (l.flatMap plc)
  k : ∀ p ∈ l, okK p.k
  l : l.length ≤ 40
  y : ∀ s ∈ Y, Cs w s.1 s.2.1 s.2.2
  fr0 : Fr (fun _ => False) w0 w
theorem IS.fr {w0 w w' : World} {Bx : Nat} {A A1 A2 : Option Addr} {c c1 c2 : Nat} {l : List Pl} {x : Shp} {Y : List (Option Addr × Nat × List (Int × Int))} (h : IS w0 w Bx A A1 A2 c c1 c2 l x Y) (hf : Fr (fun _ => False) w w') : IS w0 w' Bx A A1 A2 c c1 c2 l x Y :=
  ⟨h.b.fr hf (fun _ _ h => h), h.d.fr hf (fun _ _ h => h), h.f.fr hf (fun _ _ h => h), h.s.fr hf (fun _ _ h => h), h.k, h.l, fun s hs => (h.y s hs).fr hf (fun _ _ h => h), h.fr0.trans hf (fun _ _ h => h) (fun _ _ h => h)⟩
theorem IS.yfr {w0 w w' : World} {Bx : Nat} {A A1 A2 : Option Addr} {c c1 c2 : Nat} {l : List Pl} {x : Shp} {Y : List (Option Addr × Nat × List (Int × Int))} {P1 P2 : Option Addr} {e1 e2 : Nat} {D1 D2 : List (Int × Int)} (h : IS w0 w Bx A A1 A2 c c1 c2 l x Y) (hf : Fr (fun _ => False) w w') (s1 : Cs w' P1 e1 D1) (s2 : Cs w' P2 e2 D2) : IS w0 w' Bx A A1 A2 c c1 c2 l x [(P1, e1, D1), (P2, e2, D2)] := by
  have k := h.fr hf
  refine ⟨k.b, k.d, k.f, k.s, k.k, k.l, fun s hs => ?_, k.fr0⟩
  simp only [List.mem_cons, List.not_mem_nil, or_false] at hs
  rcases hs with rfl | rfl
  · exact s1
  · exact s2
set_option maxRecDepth 100000 in
set_option maxHeartbeats 1000000 in
theorem is3 {ops : Array Oper} (hops : Eng.fnOps Try.f14 3 = ops) (a0 : Act) (Q : Exit → Act → World → Prop) (w0 w : World) (Bx : Nat) (A A1 A2 : Option Addr) (c c1 c2 : Nat) (l : List Pl) (n r o y : Int) (D Fn : List (Int × Int)) (hst : IS w0 w Bx A A1 A2 c c1 c2 l ⟨n, r, o, y, D, Fn⟩ [])
    (hn : a0.tmps.size = 45) (h_0 : a0.tmps.getD 0 undef = .slice A l.length c) (h_3 : a0.tmps.getD 3 undef = .pointer (some ⟨Bx, 0, none⟩))
    (hpost : ∀ (x : Nat → Value) (w' : World), x 4 = .bool true → Fr (fun _ => False) w0 w' → Q .normal (Eng.setAll a0 [4, 21, 22, 23, 24, 25, 26, 27, 28, 29, 30, 31, 32, 33, 34, 35, 36, 37, 38, 39, 40, 41, 42, 43, 44] x) w') :
    (Code.region 3 ops true).wp Try.prog Q a0 w := by
  simp only [Eng.fnOps, Eng.regOps, Try.f14, Option.bind_some, Option.getD_some, Nat.reduceEqDiff, ↓reduceIte, Nat.reduceBEq] at hops
  subst hops
  have q1 : (great D == great D) = true := by simp
  have q2 : (great Fn == great Fn) = true := by simp
  have HSt := Lib.hid (hst.fr (Fr.drew _ _))
  have hSS : w.drew.cell? ⟨Bx, 0, none⟩ = some (.int .i64 n) ∧ w.drew.cell? ⟨Bx, 1, none⟩ = some (.int .i64 r) ∧ w.drew.cell? ⟨Bx, 2, none⟩ = some (.int .i64 o) ∧ w.drew.cell? ⟨Bx, 3, none⟩ = some (.int .i64 y) ∧ w.drew.cell? ⟨Bx, 4, none⟩ = some (.slice A1 D.length c1) ∧ w.drew.cell? ⟨Bx, 5, none⟩ = some (.slice A2 Fn.length c2) := ⟨HSt.out.b.cell 0, HSt.out.b.cell 1, HSt.out.b.cell 2, HSt.out.b.cell 3, HSt.out.b.cell 4, HSt.out.b.cell 5⟩
  refine Eng.regionT (.take 0 (.take 2 (.alt 1 (.alt 3 (.alt 4 (.take 5 (.take 6 (.take 8 (.take 9 (.alt 7 (.alt 10 (.take 11 (.take 12 (.take 13 (.take 14 (.take 16 (.take 17 (.alt 15 (.alt 18 (.take 19 (.take 20 (.take 21 (.alt 22 (.take 23 (.take 24 (.done))) (.stop))))) (.stop)) (.stop)))))))) (.stop)) (.stop)))))) (.stop)) (.stop)) (.stop)))) (fun w' => w'.cell? ⟨Bx, 0, none⟩ = some (.int .i64 n) ∧ w'.cell? ⟨Bx, 1, none⟩ = some (.int .i64 r) ∧ w'.cell? ⟨Bx, 2, none⟩ = some (.int .i64 o) ∧ w'.cell? ⟨Bx, 3, none⟩ = some (.int .i64 y) ∧ w'.cell? ⟨Bx, 4, none⟩ = some (.slice A1 D.length c1) ∧ w'.cell? ⟨Bx, 5, none⟩ = some (.slice A2 Fn.length c2)) (by kernel_rfl) 45 hn (by kernel_rfl) (by kernel_rfl) (by kernel_rfl) (hSS) (fun a b ha hb => ?_)
  subst ha
  have hb0 : b 0 = .slice A l.length c := (hb 0).symm.trans h_0
  have hb3 : b 3 = .pointer (some ⟨Bx, 0, none⟩) := (hb 3).symm.trans h_3
  clear hb h_0 h_3
  have HP := Lib.hid hpost; have HN := Lib.hid hn
  clear hpost hn
  refine Eng.TW.take' (v := ?_) rfl rfl (by decide) (by kernel_rfl) (fun w hw => ?_) ?_
  rotate_left
  · (try dsimp only at hw); go_simp; first | done | with_reducible rfl
  refine Eng.TW.take' (v := ?_) rfl rfl (by decide) (by kernel_rfl) (fun w hw => ?_) ?_
  rotate_left
  · (try dsimp only at hw); go_simp; first | done | with_reducible rfl
  refine Eng.TW.call rfl rfl (by decide) (by kernel_rfl) ?_ (Of A c l _ HSt.out.s HSt.out.k (Nat.le_trans HSt.out.l (by decide))) ?_
  · go_simp
  rintro e w2 ⟨z, P1, e1, P2, e2, rfl, hI, s1, s2, -, -, hf⟩
  have HI := Lib.hid hI
  have HSt2 := Lib.hid (HSt.out.yfr hf s1 s2)
  have hSS : w2.cell? ⟨Bx, 0, none⟩ = some (.int .i64 n) ∧ w2.cell? ⟨Bx, 1, none⟩ = some (.int .i64 r) ∧ w2.cell? ⟨Bx, 2, none⟩ = some (.int .i64 o) ∧ w2.cell? ⟨Bx, 3, none⟩ = some (.int .i64 y) ∧ w2.cell? ⟨Bx, 4, none⟩ = some (.slice A1 D.length c1) ∧ w2.cell? ⟨Bx, 5, none⟩ = some (.slice A2 Fn.length c2) := ⟨HSt2.out.b.cell 0, HSt2.out.b.cell 1, HSt2.out.b.cell 2, HSt2.out.b.cell 3, HSt2.out.b.cell 4, HSt2.out.b.cell 5⟩
  clear hI s1 s2 hf
  refine ⟨_, rfl, hSS, ?_⟩
  refine Eng.TW.call rfl rfl (by decide) (by kernel_rfl) ?_ (Ref23.Of A c l _ HSt2.out.s (Nat.le_trans HSt2.out.l (by decide))) ?_
  · go_simp
  rintro e w3 ⟨z2, P3, e3, P4, e4, rfl, hI2, s3, s4, -, -, hf⟩
  have HS3 := Lib.hid s3; have HS4 := Lib.hid s4
  obtain rfl := IsShp.ext HI.out hI2
  have HSt3 := Lib.hid (HSt2.out.fr hf)
  have hSS : w3.cell? ⟨Bx, 0, none⟩ = some (.int .i64 n) ∧ w3.cell? ⟨Bx, 1, none⟩ = some (.int .i64 r) ∧ w3.cell? ⟨Bx, 2, none⟩ = some (.int .i64 o) ∧ w3.cell? ⟨Bx, 3, none⟩ = some (.int .i64 y) ∧ w3.cell? ⟨Bx, 4, none⟩ = some (.slice A1 D.length c1) ∧ w3.cell? ⟨Bx, 5, none⟩ = some (.slice A2 Fn.length c2) := ⟨HSt3.out.b.cell 0, HSt3.out.b.cell 1, HSt3.out.b.cell 2, HSt3.out.b.cell 3, HSt3.out.b.cell 4, HSt3.out.b.cell 5⟩
  clear hI2 s3 s4 hf
  refine ⟨_, rfl, hSS, ?_⟩
  refine Eng.TW.call rfl rfl (by decide) (by kernel_rfl) ?_ (Ref23.Same z P1 P2 P3 P4 e1 e2 e3 e4 _ (HSt3.out.y _ (List.mem_cons_self ..)) (HSt3.out.y _ (List.mem_cons_of_mem _ (List.mem_cons_self ..))) HS3.out HS4.out) ?_
  · go_simp
  rintro e w4 ⟨rfl, hf⟩
  have HSt4 := Lib.hid (HSt3.out.fr hf)
  have hSS : w4.cell? ⟨Bx, 0, none⟩ = some (.int .i64 n) ∧ w4.cell? ⟨Bx, 1, none⟩ = some (.int .i64 r) ∧ w4.cell? ⟨Bx, 2, none⟩ = some (.int .i64 o) ∧ w4.cell? ⟨Bx, 3, none⟩ = some (.int .i64 y) ∧ w4.cell? ⟨Bx, 4, none⟩ = some (.slice A1 D.length c1) ∧ w4.cell? ⟨Bx, 5, none⟩ = some (.slice A2 Fn.length c2) := ⟨HSt4.out.b.cell 0, HSt4.out.b.cell 1, HSt4.out.b.cell 2, HSt4.out.b.cell 3, HSt4.out.b.cell 4, HSt4.out.b.cell 5⟩
  clear hf
  refine ⟨_, rfl, hSS, ?_⟩
  refine Eng.TW.take' (v := ?_) rfl rfl (by decide) (by kernel_rfl) (fun w hw => ?_) ?_
  rotate_left
  · (try dsimp only at hw); go_simp; first | done | with_reducible rfl
  refine Eng.TW.take' (v := ?_) rfl rfl (by decide) (by kernel_rfl) (fun w hw => ?_) ?_
  rotate_left
  · (try dsimp only at hw); go_simp; first | done | with_reducible rfl
  refine Eng.TW.take' (v := ?_) rfl rfl (by decide) (by kernel_rfl) (fun w hw => ?_) ?_
  rotate_left
  · (try dsimp only at hw); go_simp; first | done | with_reducible rfl
  refine Eng.TW.take' (v := ?_) rfl rfl (by decide) (by kernel_rfl) (fun w hw => ?_) ?_
  rotate_left
  · (try dsimp only at hw); go_simp; first | done | with_reducible rfl
  refine Eng.TW.call rfl rfl (by decide) (by kernel_rfl) ?_ (Deepest ⟨n, r, o, y, D, Fn⟩ A1 A2 c1 c2 _ HSt4.out.d) ?_
  · go_simp
  rintro e w5 ⟨rfl, hf⟩
  have HSt5 := Lib.hid (HSt4.out.fr hf)
  have hSS : w5.cell? ⟨Bx, 0, none⟩ = some (.int .i64 n) ∧ w5.cell? ⟨Bx, 1, none⟩ = some (.int .i64 r) ∧ w5.cell? ⟨Bx, 2, none⟩ = some (.int .i64 o) ∧ w5.cell? ⟨Bx, 3, none⟩ = some (.int .i64 y) ∧ w5.cell? ⟨Bx, 4, none⟩ = some (.slice A1 D.length c1) ∧ w5.cell? ⟨Bx, 5, none⟩ = some (.slice A2 Fn.length c2) := ⟨HSt5.out.b.cell 0, HSt5.out.b.cell 1, HSt5.out.b.cell 2, HSt5.out.b.cell 3, HSt5.out.b.cell 4, HSt5.out.b.cell 5⟩
  clear hf
  refine ⟨_, rfl, hSS, ?_⟩
  refine Eng.TW.call rfl rfl (by decide) (by kernel_rfl) ?_ (Ref23.Greatest A1 c1 D _ HSt5.out.d) ?_
  · go_simp
  rintro e w_6 ⟨rfl, rfl⟩
  refine ⟨_, rfl, hSS, ?_⟩
  refine Eng.TW.take' (v := ?_) rfl rfl (by decide) (by kernel_rfl) (fun w hw => ?_) ?_
  rotate_left
  · (try dsimp only at hw); go_simp; first | done | with_reducible rfl
  refine Eng.TW.take' (v := ?_) rfl rfl (by decide) (by kernel_rfl) (fun w hw => ?_) ?_
  rotate_left
  · (try dsimp only at hw); go_simp; first | done | with_reducible rfl
  refine Eng.TW.take' (v := ?_) rfl rfl (by decide) (by kernel_rfl) (fun w hw => ?_) ?_
  rotate_left
  · (try dsimp only at hw); go_simp; first | done | with_reducible rfl
  refine Eng.TW.take' (v := ?_) rfl rfl (by decide) (by kernel_rfl) (fun w hw => ?_) ?_
  rotate_left
  · (try dsimp only at hw); go_simp; first | done | with_reducible rfl
  refine Eng.TW.take' (v := ?_) rfl rfl (by decide) (by kernel_rfl) (fun w hw => ?_) ?_
  rotate_left
  · (try dsimp only at hw); go_simp; first | done | with_reducible rfl
  refine Eng.TW.take' (v := ?_) rfl rfl (by decide) (by kernel_rfl) (fun w hw => ?_) ?_
  rotate_left
  · (try dsimp only at hw); go_simp; first | done | with_reducible rfl
  refine Eng.TW.call rfl rfl (by decide) (by kernel_rfl) ?_ (Widest ⟨n, r, o, y, D, Fn⟩ A1 A2 c1 c2 _ HSt5.out.f) ?_
  · go_simp
  rintro e w7 ⟨rfl, hf⟩
  have HSt7 := Lib.hid (HSt5.out.fr hf)
  have hSS : w7.cell? ⟨Bx, 0, none⟩ = some (.int .i64 n) ∧ w7.cell? ⟨Bx, 1, none⟩ = some (.int .i64 r) ∧ w7.cell? ⟨Bx, 2, none⟩ = some (.int .i64 o) ∧ w7.cell? ⟨Bx, 3, none⟩ = some (.int .i64 y) ∧ w7.cell? ⟨Bx, 4, none⟩ = some (.slice A1 D.length c1) ∧ w7.cell? ⟨Bx, 5, none⟩ = some (.slice A2 Fn.length c2) := ⟨HSt7.out.b.cell 0, HSt7.out.b.cell 1, HSt7.out.b.cell 2, HSt7.out.b.cell 3, HSt7.out.b.cell 4, HSt7.out.b.cell 5⟩
  clear hf
  refine ⟨_, rfl, hSS, ?_⟩
  refine Eng.TW.call rfl rfl (by decide) (by kernel_rfl) ?_ (Ref23.Greatest A2 c2 Fn _ HSt7.out.f) ?_
  · go_simp
  rintro e w_8 ⟨rfl, rfl⟩
  refine ⟨_, rfl, hSS, ?_⟩
  refine Eng.TW.take' (v := ?_) rfl rfl (by decide) (by kernel_rfl) (fun w hw => ?_) ?_
  rotate_left
  · (try dsimp only at hw); go_simp; first | done | with_reducible rfl
  refine Eng.TW.take' (v := ?_) rfl rfl (by decide) (by kernel_rfl) (fun w hw => ?_) ?_
  rotate_left
  · (try dsimp only at hw); go_simp; first | done | with_reducible rfl
  refine Eng.TW.take' (v := ?_) rfl rfl (by decide) (by kernel_rfl) (fun w hw => ?_) ?_
  rotate_left
  · (try dsimp only at hw); go_simp; first | done | with_reducible rfl
  refine Eng.TW.call rfl rfl (by decide) (by kernel_rfl) ?_ (awake _) ?_
  · go_simp
  rintro e w9 ⟨rfl, hf⟩
  have HSt9 := Lib.hid (HSt7.out.fr hf)
  have hSS : w9.cell? ⟨Bx, 0, none⟩ = some (.int .i64 n) ∧ w9.cell? ⟨Bx, 1, none⟩ = some (.int .i64 r) ∧ w9.cell? ⟨Bx, 2, none⟩ = some (.int .i64 o) ∧ w9.cell? ⟨Bx, 3, none⟩ = some (.int .i64 y) ∧ w9.cell? ⟨Bx, 4, none⟩ = some (.slice A1 D.length c1) ∧ w9.cell? ⟨Bx, 5, none⟩ = some (.slice A2 Fn.length c2) := ⟨HSt9.out.b.cell 0, HSt9.out.b.cell 1, HSt9.out.b.cell 2, HSt9.out.b.cell 3, HSt9.out.b.cell 4, HSt9.out.b.cell 5⟩
  clear hf
  refine ⟨_, rfl, hSS, ?_⟩
  refine Eng.TW.take' (v := ?_) rfl rfl (by decide) (by kernel_rfl) (fun w hw => ?_) ?_
  rotate_left
  · (try dsimp only at hw); go_simp; first | done | with_reducible rfl
  refine Eng.TW.take' (v := ?_) rfl rfl (by decide) (by kernel_rfl) (fun w hw => ?_) ?_
  rotate_left
  · (try dsimp only at hw); go_simp; first | done | with_reducible rfl
  refine Eng.TW.end_ [4, 21, 22, 23, 24, 25, 26, 27, 28, 29, 30, 31, 32, 33, 34, 35, 36, 37, 38, 39, 40, 41, 42, 43, 44] HN.out (by kernel_rfl) (by kernel_rfl) ?_
  exact HP.out _ _ rfl HSt9.out.fr0

set_option maxRecDepth 100000 in
set_option maxHeartbeats 400000 in
theorem is_ (A A1 A2 : Option Addr) (c c1 c2 : Nat) (l : List Pl) (x : Shp) (w : World) (hS : Sl w 6 A l.length c (l.flatMap plc)) (hk : ∀ p ∈ l, okK p.k) (h1 : Cs w A1 c1 x.D) (h2 : Cs w A2 c2 x.F) :
    Calls Try.prog 14 #[.slice A l.length c, shv x A1 A2 c1 c2] w fun e w' => e = .returned (.bool true) ∧ Below w.heap.size w w' := by
  have fa := Fr.alloc (fun _ => False) w (.cells (sha x A1 A2 c1 c2) TSp)
  have hI : l.length ≤ 40 → IS w (w.alloc (.cells (sha x A1 A2 c1 c2) TSp)) w.heap.size A A1 A2 c c1 c2 l x [] := fun hl => ⟨Bk.new _ _ _, h1.fr fa (fun _ _ h => h), h2.fr fa (fun _ _ h => h), hS.fr fa (fun _ _ h => h), hk, hl, by simp, fa⟩
  have HI := Lib.hid hI
  have HF := Lib.hid fa
  have HA := Lib.hid (awake (w.alloc (.cells (sha x A1 A2 c1 c2) TSp)))
  have HB := Lib.hid (Bk.new w (sha x A1 A2 c1 c2) TSp)
  clear hI hS hk h1 h2 fa
  obtain ⟨n, r, o, y, D, Fn⟩ := x
  have x4 := HB.out.cell 4
  have x5 := HB.out.cell 5
  simp only [List.getElem?_toArray, List.getElem?_cons_succ, List.getElem?_cons_zero] at x4 x5
  by_cases g1 : (40 : Int) < (l.length : Int)
  · have t1 : decide ((40 : Int) < (l.length : Int)) = true := by simpa using g1
    clear g1
    go_enter Try.func14, Try.ntmps14
    go_wp2_with fail
    refine HA.out.mono ?_
    rintro e w1 ⟨rfl, hf⟩
    have HF1 := Lib.hid (HF.out.trans hf (T := fun _ => False) (fun _ _ h => h) (fun _ _ h => h))
    clear hf
    go_wp2_with fail
    go_ret
    exact ⟨rfl, HF1.out.below (Nat.le_refl _) (fun _ _ h => h)⟩
  · have t1 : decide ((40 : Int) < (l.length : Int)) = false := by simpa using g1
    have HG := Lib.hid g1
    clear g1
    by_cases g2 : (40 : Int) < (D.length : Int)
    · have t2 : decide ((40 : Int) < (D.length : Int)) = true := by simpa using g2
      clear g2
      go_enter Try.func14, Try.ntmps14
      go_wp2_with fail
      refine HA.out.mono ?_
      rintro e w1 ⟨rfl, hf⟩
      have HF1 := Lib.hid (HF.out.trans hf (T := fun _ => False) (fun _ _ h => h) (fun _ _ h => h))
      clear hf
      go_wp2_with fail
      go_ret
      exact ⟨rfl, HF1.out.below (Nat.le_refl _) (fun _ _ h => h)⟩
    · have t2 : decide ((40 : Int) < (D.length : Int)) = false := by simpa using g2
      clear g2
      by_cases g3 : (40 : Int) < (Fn.length : Int)
      · have t3 : decide ((40 : Int) < (Fn.length : Int)) = true := by simpa using g3
        clear g3
        go_enter Try.func14, Try.ntmps14
        go_wp2_with fail
        refine HA.out.mono ?_
        rintro e w1 ⟨rfl, hf⟩
        have HF1 := Lib.hid (HF.out.trans hf (T := fun _ => False) (fun _ _ h => h) (fun _ _ h => h))
        clear hf
        go_wp2_with fail
        go_ret
        exact ⟨rfl, HF1.out.below (Nat.le_refl _) (fun _ _ h => h)⟩
      · have t3 : decide ((40 : Int) < (Fn.length : Int)) = false := by simpa using g3
        clear g3
        go_enter Try.func14, Try.ntmps14
        go_upto_region 3 with (fail)
        refine is3 (by kernel_rfl) _ _ w _ w.heap.size A A1 A2 c c1 c2 l n r o y D Fn (HI.out (by have := HG.out; omega)) rfl rfl rfl ?_
        intro z w1 h4 hf
        simp only [Eng.setAll, Act.put, List.setIfInBounds_toArray, List.set_cons_succ, List.set_cons_zero]
        rw [h4]
        have HF1 := Lib.hid hf
        clear hf h4
        go_wp2_with fail
        go_ret
        exact ⟨rfl, HF1.out.below (Nat.le_refl _) (fun _ _ h => h)⟩
end Law23
end Go.Proofs.Ytolpdgaomlhgdaa
