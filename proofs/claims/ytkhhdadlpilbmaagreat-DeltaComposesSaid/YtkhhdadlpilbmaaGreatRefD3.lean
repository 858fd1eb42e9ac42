/- Deltas: the document's: what two come to: its regions. -/
import Derived.Test.YtkhhdadlpilbmaaGreatRefD2
namespace Go.Proofs.YtkhhdadlpilbmaaGreat
open Go.RowKit
namespace RefD
open KeyP PackP SetP SetW SetF Delta Comp
attribute [local go_sem] Eng.ev Eng.getO_cons Eng.getO_nil
/-- Two deltas and the result's block. -/
structure KC (w0 w : World) (n : Nat) (d1 d2 : Dl) : Prop where
  b1 : Bk w n d1.arr TDl
  b2 : Bk w (n + 1) d2.arr TDl
  b4 : Bk w (n + 2) #[.slice none 0 0, .slice none 0 0] TDl
  l1 : RdD w d1
  l2 : RdD w d2
  bel : Below n w0 w
  sz : n + 3 ≤ w.heap.size
theorem KC.below {w0 w w' : World} {n : Nat} {d1 d2 : Dl} (h : KC w0 w n d1 d2) (hb : Below w.heap.size w w') : KC w0 w' n d1 d2 := by
  have hf := Fr.of_below' hb (fun _ => False)
  have := h.sz
  exact ⟨h.b1.fr hf (fun _ _ h => h), h.b2.fr hf (fun _ _ h => h), h.b4.fr hf (fun _ _ h => h), h.l1.keep hf, h.l2.keep hf, h.bel.trans (hb.mono (by omega)), Nat.le_trans h.sz hf.size⟩
theorem KC.keep {w0 w w' : World} {n : Nat} {d1 d2 : Dl} (h : KC w0 w n d1 d2) (hf : Fr (fun _ => False) w w') : KC w0 w' n d1 d2 := h.below (hf.below (Nat.le_refl _) (fun _ _ h => h))
structure KZ (w0 w : World) (n : Nat) (d1 d2 : Dl) (b o : Nat) (z : Sn) : Prop where
  k : KC w0 w n d1 d2
  z : At w b o z
theorem KZ.keep {w0 w w' : World} {n : Nat} {d1 d2 : Dl} {b o : Nat} {z : Sn} (h : KZ w0 w n d1 d2 b o z) (hf : Fr (fun _ => False) w w') : KZ w0 w' n d1 d2 b o z := ⟨h.k.keep hf, h.z.keep hf⟩
structure KF (wE w0 w : World) (n : Nat) (d1 d2 : Dl) (b o : Nat) (z : Sn) : Prop where
  k : KC w0 w n d1 d2
  z : At w b o z
  f : Fr (fun _ => False) wE w
theorem KF.keep {wE w0 w w' : World} {n : Nat} {d1 d2 : Dl} {b o : Nat} {z : Sn} (h : KF wE w0 w n d1 d2 b o z) (hf : Fr (fun _ => False) w w') : KF wE w0 w' n d1 d2 b o z := ⟨h.k.keep hf, h.z.keep hf, h.f.trans hf (fun _ _ h => h) (fun _ _ h => h)⟩
theorem ret4 {w0 w : World} {n r4 : Nat} (b4 : Bk w (n + 2) #[.slice none 0 0, .slice none 0 0] TDl) (bel : Below n w0 w) (sz : n + 3 ≤ w.heap.size) (hr4 : n + 1 + 1 = r4) (u1 u2 : Value) :
    Bk ((w.setCell ⟨r4, 0, none⟩ u1).setCell ⟨r4, 1, none⟩ u2) r4 #[u1, u2] TDl ∧ Below n w0 ((w.setCell ⟨r4, 0, none⟩ u1).setCell ⟨r4, 1, none⟩ u2) ∧ Fr (fun b => b = r4) w ((w.setCell ⟨r4, 0, none⟩ u1).setCell ⟨r4, 1, none⟩ u2) := by
  obtain rfl : r4 = n + 2 := hr4.symm
  have f4 : Fr (fun k => k = n + 2) w ((w.setCell ⟨n + 2, 0, none⟩ u1).setCell ⟨n + 2, 1, none⟩ u2) :=
    (Fr.setCell w ⟨n + 2, 0, none⟩ u1 (S := fun k => k = n + 2) rfl).trans (Fr.setCell _ ⟨n + 2, 1, none⟩ u2 (S := fun k => k = n + 2) rfl) (fun _ _ h => h) (fun _ _ h => h)
  have x4 := (b4.set 0 u1).set 1 u2
  exact ⟨by simpa using x4, bel.trans (f4.below (by omega) (fun k hk e => by omega)), f4⟩
theorem saysB {d : Dl} {z : Sn} {w : World} (h : RdD w d) (q : Bool) (hq : says d.O d.I z = q) :
    Calls Tryz.prog 48 #[d.v, z.v] w fun e w' => e = .returned (.bool q) ∧ Fr (fun _ => False) w w' := hq ▸ says_ d z w h
set_option maxRecDepth 100000 in
set_option maxHeartbeats 400000 in
theorem rc6a {ops : Array Oper} (hops : Eng.fnOps Tryz.f20 6 = ops) (a0 : Act) (Q : Exit → Act → World → Prop) (w0 w : World) (n : Nat) (d1 d2 : Dl) (bz oz k : Nat) (z : Sn) (hA : d2.A1 = some ⟨bz, oz, none⟩) (hk : k < d2.O.length) (hlen : d2.O.length ≤ 500000) (hst : KZ w0 w n d1 d2 bz (oz + k * 9) z) (hs : says d1.O d1.I z = false)
    (hn : a0.tmps.size = 132) (h_2 : a0.tmps.getD 2 undef = .pointer (some ⟨n, 0, none⟩)) (h_3 : a0.tmps.getD 3 undef = .pointer (some ⟨n + 1, 0, none⟩)) (h_6 : a0.tmps.getD 6 undef = .int .i64 (k : Int))
    (hpost : ∀ (x : Nat → Value) (w' : World), x 46 = .bool false → KC w0 w' n d1 d2 → Q .normal (Eng.setAll a0 [29, 30, 31, 32, 33, 34, 35, 36, 37, 38, 39, 40, 41, 42, 43, 44, 45, 46] x) w') :
    (Code.region 6 ops true).wp Tryz.prog Q a0 w := by
  simp only [Eng.fnOps, Eng.regOps, Tryz.f20, Option.bind_some, Option.getD_some, Nat.reduceEqDiff, ↓reduceIte, Nat.reduceBEq] at hops
  subst hops
  have q1 : (0 : Int) ≤ (k : Int) := by omega
  have q2 : (k : Int) < (d2.O.length : Int) := by omega
  have HSt := Lib.hid (hst.keep (Fr.drew _ _))
  have hSS : w.drew.cell? ⟨n, 0, none⟩ = some (.slice d1.A1 d1.O.length d1.c1) ∧ w.drew.cell? ⟨n, 1, none⟩ = some (.slice d1.A2 d1.I.length d1.c2) ∧ w.drew.cell? ⟨(n + 1), 0, none⟩ = some (.slice (some ⟨bz, oz, none⟩) d2.O.length d2.c1) ∧ w.drew.cell? ⟨(n + 1), 1, none⟩ = some (.slice d2.A2 d2.I.length d2.c2) ∧ w.drew.cell? ⟨bz, oz + k * 9, none⟩ = some (.int .i64 z.t) ∧ w.drew.cell? ⟨bz, oz + k * 9 + 1, none⟩ = some (.int .i64 z.i) ∧ w.drew.cell? ⟨bz, oz + k * 9 + 1 + 1, none⟩ = some (.int .i64 z.p) ∧ w.drew.cell? ⟨bz, oz + k * 9 + 1 + 1 + 1, none⟩ = some (.int .i64 z.r) ∧ w.drew.cell? ⟨bz, oz + k * 9 + 1 + 1 + 1 + 1, none⟩ = some (.string z.s) ∧ w.drew.cell? ⟨bz, oz + k * 9 + 1 + 1 + 1 + 1 + 1, none⟩ = some (.string z.o) ∧ w.drew.cell? ⟨bz, oz + k * 9 + 1 + 1 + 1 + 1 + 1 + 1, none⟩ = some (.int .i64 z.b) ∧ w.drew.cell? ⟨bz, oz + k * 9 + 1 + 1 + 1 + 1 + 1 + 1 + 1, none⟩ = some (.int .i64 z.d) ∧ w.drew.cell? ⟨bz, oz + k * 9 + 1 + 1 + 1 + 1 + 1 + 1 + 1 + 1, none⟩ = some (.bool z.g) := ⟨HSt.out.k.b1.cell 0, HSt.out.k.b1.cell 1, (by have h := HSt.out.k.b2.cell 0; simp only [List.getElem?_toArray, List.getElem?_cons_zero, List.getElem?_cons_succ, hA] at h; exact h), HSt.out.k.b2.cell 1, HSt.out.z 0 _ rfl, HSt.out.z 1 _ rfl, HSt.out.z 2 _ rfl, HSt.out.z 3 _ rfl, HSt.out.z 4 _ rfl, HSt.out.z 5 _ rfl, HSt.out.z 6 _ rfl, HSt.out.z 7 _ rfl, HSt.out.z 8 _ rfl⟩
  refine Eng.regionT (.take 0 (.take 1 (.take 2 (.take 3 (.take 4 (.take 5 (.alt 6 (.take 7 (.take 8 (.take 9 (.take 10 (.take 11 (.take 12 (.take 13 (.take 14 (.take 15 (.take 16 (.take 17 (.done)))))))))))) (.stop)))))))) (fun w' => w'.cell? ⟨n, 0, none⟩ = some (.slice d1.A1 d1.O.length d1.c1) ∧ w'.cell? ⟨n, 1, none⟩ = some (.slice d1.A2 d1.I.length d1.c2) ∧ w'.cell? ⟨(n + 1), 0, none⟩ = some (.slice (some ⟨bz, oz, none⟩) d2.O.length d2.c1) ∧ w'.cell? ⟨(n + 1), 1, none⟩ = some (.slice d2.A2 d2.I.length d2.c2) ∧ w'.cell? ⟨bz, oz + k * 9, none⟩ = some (.int .i64 z.t) ∧ w'.cell? ⟨bz, oz + k * 9 + 1, none⟩ = some (.int .i64 z.i) ∧ w'.cell? ⟨bz, oz + k * 9 + 1 + 1, none⟩ = some (.int .i64 z.p) ∧ w'.cell? ⟨bz, oz + k * 9 + 1 + 1 + 1, none⟩ = some (.int .i64 z.r) ∧ w'.cell? ⟨bz, oz + k * 9 + 1 + 1 + 1 + 1, none⟩ = some (.string z.s) ∧ w'.cell? ⟨bz, oz + k * 9 + 1 + 1 + 1 + 1 + 1, none⟩ = some (.string z.o) ∧ w'.cell? ⟨bz, oz + k * 9 + 1 + 1 + 1 + 1 + 1 + 1, none⟩ = some (.int .i64 z.b) ∧ w'.cell? ⟨bz, oz + k * 9 + 1 + 1 + 1 + 1 + 1 + 1 + 1, none⟩ = some (.int .i64 z.d) ∧ w'.cell? ⟨bz, oz + k * 9 + 1 + 1 + 1 + 1 + 1 + 1 + 1 + 1, none⟩ = some (.bool z.g)) (by kernel_rfl) 132 hn (by kernel_rfl) (by kernel_rfl) (by kernel_rfl) (hSS) (fun a b ha hb => ?_)
  subst ha
  have hb2 : b 2 = .pointer (some ⟨n, 0, none⟩) := (hb 2).symm.trans h_2
  have hb3 : b 3 = .pointer (some ⟨n + 1, 0, none⟩) := (hb 3).symm.trans h_3
  have hb6 : b 6 = .int .i64 (k : Int) := (hb 6).symm.trans h_6
  clear hb h_2 h_3 h_6
  have HP := Lib.hid hpost; have HN := Lib.hid hn
  clear hpost hn
  refine Eng.TW.take' (v := ?_) rfl rfl (by decide) (by kernel_rfl) (fun w hw => ?_) ?_
  rotate_left
  · (try dsimp only at hw); go_simp; first | done | with_reducible rfl
  refine Eng.TW.take' (v := ?_) rfl rfl (by decide) (by kernel_rfl) (fun w hw => ?_) ?_
  rotate_left
  · (try dsimp only at hw); go_simp; first | done | with_reducible rfl
  refine Eng.TW.take' (v := ?_) rfl rfl (by decide) (by kernel_rfl) (fun w hw => ?_) ?_
  rotate_left
  · (try dsimp only at hw); go_simp; first | done | with_reducible rfl
  refine Eng.TW.take' (v := ?_) rfl rfl (by decide) (by kernel_rfl) (fun w hw => ?_) ?_
  rotate_left
  · (try dsimp only at hw); go_simp; first | done | with_reducible rfl
  refine Eng.TW.take' (v := ?_) rfl rfl (by decide) (by kernel_rfl) (fun w hw => ?_) ?_
  rotate_left
  · (try dsimp only at hw); go_simp; first | done | with_reducible rfl
  refine Eng.TW.take' (v := ?_) rfl rfl (by decide) (by kernel_rfl) (fun w hw => ?_) ?_
  rotate_left
  · (try dsimp only at hw); go_simp; first | done | with_reducible rfl
  refine Eng.TW.call rfl rfl (by decide) (by kernel_rfl) ?_ (saysB (d := d1) (z := z) HSt.out.k.l1 false hs) ?_
  · go_simp
  rintro e w2 ⟨rfl, hf⟩
  have HSt2 := Lib.hid (HSt.out.keep hf)
  have hSS : w2.cell? ⟨n, 0, none⟩ = some (.slice d1.A1 d1.O.length d1.c1) ∧ w2.cell? ⟨n, 1, none⟩ = some (.slice d1.A2 d1.I.length d1.c2) ∧ w2.cell? ⟨(n + 1), 0, none⟩ = some (.slice (some ⟨bz, oz, none⟩) d2.O.length d2.c1) ∧ w2.cell? ⟨(n + 1), 1, none⟩ = some (.slice d2.A2 d2.I.length d2.c2) ∧ w2.cell? ⟨bz, oz + k * 9, none⟩ = some (.int .i64 z.t) ∧ w2.cell? ⟨bz, oz + k * 9 + 1, none⟩ = some (.int .i64 z.i) ∧ w2.cell? ⟨bz, oz + k * 9 + 1 + 1, none⟩ = some (.int .i64 z.p) ∧ w2.cell? ⟨bz, oz + k * 9 + 1 + 1 + 1, none⟩ = some (.int .i64 z.r) ∧ w2.cell? ⟨bz, oz + k * 9 + 1 + 1 + 1 + 1, none⟩ = some (.string z.s) ∧ w2.cell? ⟨bz, oz + k * 9 + 1 + 1 + 1 + 1 + 1, none⟩ = some (.string z.o) ∧ w2.cell? ⟨bz, oz + k * 9 + 1 + 1 + 1 + 1 + 1 + 1, none⟩ = some (.int .i64 z.b) ∧ w2.cell? ⟨bz, oz + k * 9 + 1 + 1 + 1 + 1 + 1 + 1 + 1, none⟩ = some (.int .i64 z.d) ∧ w2.cell? ⟨bz, oz + k * 9 + 1 + 1 + 1 + 1 + 1 + 1 + 1 + 1, none⟩ = some (.bool z.g) := ⟨HSt2.out.k.b1.cell 0, HSt2.out.k.b1.cell 1, (by have h := HSt2.out.k.b2.cell 0; simp only [List.getElem?_toArray, List.getElem?_cons_zero, List.getElem?_cons_succ, hA] at h; exact h), HSt2.out.k.b2.cell 1, HSt2.out.z 0 _ rfl, HSt2.out.z 1 _ rfl, HSt2.out.z 2 _ rfl, HSt2.out.z 3 _ rfl, HSt2.out.z 4 _ rfl, HSt2.out.z 5 _ rfl, HSt2.out.z 6 _ rfl, HSt2.out.z 7 _ rfl, HSt2.out.z 8 _ rfl⟩
  clear hf
  refine ⟨_, rfl, hSS, ?_⟩
  refine Eng.TW.take' (v := ?_) rfl rfl (by decide) (by kernel_rfl) (fun w hw => ?_) ?_
  rotate_left
  · (try dsimp only at hw); go_simp; first | done | with_reducible rfl
  refine Eng.TW.skip rfl rfl (by decide) (by kernel_rfl) ?_
  refine Eng.TW.skip rfl rfl (by decide) (by kernel_rfl) ?_
  refine Eng.TW.skip rfl rfl (by decide) (by kernel_rfl) ?_
  refine Eng.TW.skip rfl rfl (by decide) (by kernel_rfl) ?_
  refine Eng.TW.skip rfl rfl (by decide) (by kernel_rfl) ?_
  refine Eng.TW.skip rfl rfl (by decide) (by kernel_rfl) ?_
  refine Eng.TW.skip rfl rfl (by decide) (by kernel_rfl) ?_
  refine Eng.TW.skip rfl rfl (by decide) (by kernel_rfl) ?_
  refine Eng.TW.skip rfl rfl (by decide) (by kernel_rfl) ?_
  refine Eng.TW.take' (v := ?_) rfl rfl (by decide) (by kernel_rfl) (fun w hw => ?_) ?_
  rotate_left
  · (try dsimp only at hw); go_simp; first | done | with_reducible rfl
  refine Eng.TW.end_ [29, 30, 31, 32, 33, 34, 35, 36, 37, 38, 39, 40, 41, 42, 43, 44, 45, 46] HN.out (by kernel_rfl) (by kernel_rfl) ?_
  exact HP.out _ _ rfl HSt2.out.k

set_option maxRecDepth 100000 in
set_option maxHeartbeats 400000 in
theorem rc6b {ops : Array Oper} (hops : Eng.fnOps Tryz.f20 6 = ops) (a0 : Act) (Q : Exit → Act → World → Prop) (w0 w : World) (n : Nat) (d1 d2 : Dl) (bz oz k : Nat) (z : Sn) (hA : d2.A1 = some ⟨bz, oz, none⟩) (hk : k < d2.O.length) (hlen : d2.O.length ≤ 500000) (hst : KZ w0 w n d1 d2 bz (oz + k * 9) z) (hs : says d1.O d1.I z = true)
    (hn : a0.tmps.size = 132) (h_2 : a0.tmps.getD 2 undef = .pointer (some ⟨n, 0, none⟩)) (h_3 : a0.tmps.getD 3 undef = .pointer (some ⟨n + 1, 0, none⟩)) (h_6 : a0.tmps.getD 6 undef = .int .i64 (k : Int))
    (hpost : ∀ (x : Nat → Value) (w' : World), x 46 = .bool (!decide (z ∈ d1.I)) → KC w0 w' n d1 d2 → Q .normal (Eng.setAll a0 [29, 30, 31, 32, 33, 34, 35, 36, 37, 38, 39, 40, 41, 42, 43, 44, 45, 46] x) w') :
    (Code.region 6 ops true).wp Tryz.prog Q a0 w := by
  simp only [Eng.fnOps, Eng.regOps, Tryz.f20, Option.bind_some, Option.getD_some, Nat.reduceEqDiff, ↓reduceIte, Nat.reduceBEq] at hops
  subst hops
  have q1 : (0 : Int) ≤ (k : Int) := by omega
  have q2 : (k : Int) < (d2.O.length : Int) := by omega
  have HSt := Lib.hid (hst.keep (Fr.drew _ _))
  have hSS : w.drew.cell? ⟨n, 0, none⟩ = some (.slice d1.A1 d1.O.length d1.c1) ∧ w.drew.cell? ⟨n, 1, none⟩ = some (.slice d1.A2 d1.I.length d1.c2) ∧ w.drew.cell? ⟨(n + 1), 0, none⟩ = some (.slice (some ⟨bz, oz, none⟩) d2.O.length d2.c1) ∧ w.drew.cell? ⟨(n + 1), 1, none⟩ = some (.slice d2.A2 d2.I.length d2.c2) ∧ w.drew.cell? ⟨bz, oz + k * 9, none⟩ = some (.int .i64 z.t) ∧ w.drew.cell? ⟨bz, oz + k * 9 + 1, none⟩ = some (.int .i64 z.i) ∧ w.drew.cell? ⟨bz, oz + k * 9 + 1 + 1, none⟩ = some (.int .i64 z.p) ∧ w.drew.cell? ⟨bz, oz + k * 9 + 1 + 1 + 1, none⟩ = some (.int .i64 z.r) ∧ w.drew.cell? ⟨bz, oz + k * 9 + 1 + 1 + 1 + 1, none⟩ = some (.string z.s) ∧ w.drew.cell? ⟨bz, oz + k * 9 + 1 + 1 + 1 + 1 + 1, none⟩ = some (.string z.o) ∧ w.drew.cell? ⟨bz, oz + k * 9 + 1 + 1 + 1 + 1 + 1 + 1, none⟩ = some (.int .i64 z.b) ∧ w.drew.cell? ⟨bz, oz + k * 9 + 1 + 1 + 1 + 1 + 1 + 1 + 1, none⟩ = some (.int .i64 z.d) ∧ w.drew.cell? ⟨bz, oz + k * 9 + 1 + 1 + 1 + 1 + 1 + 1 + 1 + 1, none⟩ = some (.bool z.g) := ⟨HSt.out.k.b1.cell 0, HSt.out.k.b1.cell 1, (by have h := HSt.out.k.b2.cell 0; simp only [List.getElem?_toArray, List.getElem?_cons_zero, List.getElem?_cons_succ, hA] at h; exact h), HSt.out.k.b2.cell 1, HSt.out.z 0 _ rfl, HSt.out.z 1 _ rfl, HSt.out.z 2 _ rfl, HSt.out.z 3 _ rfl, HSt.out.z 4 _ rfl, HSt.out.z 5 _ rfl, HSt.out.z 6 _ rfl, HSt.out.z 7 _ rfl, HSt.out.z 8 _ rfl⟩
  refine Eng.regionT (.take 0 (.take 1 (.take 2 (.take 3 (.take 4 (.take 5 (.alt 6 (.take 7 (.take 8 (.take 9 (.take 10 (.take 11 (.take 12 (.take 13 (.take 14 (.alt 15 (.take 16 (.take 17 (.done))) (.stop)))))))))) (.stop)))))))) (fun w' => w'.cell? ⟨n, 0, none⟩ = some (.slice d1.A1 d1.O.length d1.c1) ∧ w'.cell? ⟨n, 1, none⟩ = some (.slice d1.A2 d1.I.length d1.c2) ∧ w'.cell? ⟨(n + 1), 0, none⟩ = some (.slice (some ⟨bz, oz, none⟩) d2.O.length d2.c1) ∧ w'.cell? ⟨(n + 1), 1, none⟩ = some (.slice d2.A2 d2.I.length d2.c2) ∧ w'.cell? ⟨bz, oz + k * 9, none⟩ = some (.int .i64 z.t) ∧ w'.cell? ⟨bz, oz + k * 9 + 1, none⟩ = some (.int .i64 z.i) ∧ w'.cell? ⟨bz, oz + k * 9 + 1 + 1, none⟩ = some (.int .i64 z.p) ∧ w'.cell? ⟨bz, oz + k * 9 + 1 + 1 + 1, none⟩ = some (.int .i64 z.r) ∧ w'.cell? ⟨bz, oz + k * 9 + 1 + 1 + 1 + 1, none⟩ = some (.string z.s) ∧ w'.cell? ⟨bz, oz + k * 9 + 1 + 1 + 1 + 1 + 1, none⟩ = some (.string z.o) ∧ w'.cell? ⟨bz, oz + k * 9 + 1 + 1 + 1 + 1 + 1 + 1, none⟩ = some (.int .i64 z.b) ∧ w'.cell? ⟨bz, oz + k * 9 + 1 + 1 + 1 + 1 + 1 + 1 + 1, none⟩ = some (.int .i64 z.d) ∧ w'.cell? ⟨bz, oz + k * 9 + 1 + 1 + 1 + 1 + 1 + 1 + 1 + 1, none⟩ = some (.bool z.g)) (by kernel_rfl) 132 hn (by kernel_rfl) (by kernel_rfl) (by kernel_rfl) (hSS) (fun a b ha hb => ?_)
  subst ha
  have hb2 : b 2 = .pointer (some ⟨n, 0, none⟩) := (hb 2).symm.trans h_2
  have hb3 : b 3 = .pointer (some ⟨n + 1, 0, none⟩) := (hb 3).symm.trans h_3
  have hb6 : b 6 = .int .i64 (k : Int) := (hb 6).symm.trans h_6
  clear hb h_2 h_3 h_6
  have HP := Lib.hid hpost; have HN := Lib.hid hn
  clear hpost hn
  refine Eng.TW.take' (v := ?_) rfl rfl (by decide) (by kernel_rfl) (fun w hw => ?_) ?_
  rotate_left
  · (try dsimp only at hw); go_simp; first | done | with_reducible rfl
  refine Eng.TW.take' (v := ?_) rfl rfl (by decide) (by kernel_rfl) (fun w hw => ?_) ?_
  rotate_left
  · (try dsimp only at hw); go_simp; first | done | with_reducible rfl
  refine Eng.TW.take' (v := ?_) rfl rfl (by decide) (by kernel_rfl) (fun w hw => ?_) ?_
  rotate_left
  · (try dsimp only at hw); go_simp; first | done | with_reducible rfl
  refine Eng.TW.take' (v := ?_) rfl rfl (by decide) (by kernel_rfl) (fun w hw => ?_) ?_
  rotate_left
  · (try dsimp only at hw); go_simp; first | done | with_reducible rfl
  refine Eng.TW.take' (v := ?_) rfl rfl (by decide) (by kernel_rfl) (fun w hw => ?_) ?_
  rotate_left
  · (try dsimp only at hw); go_simp; first | done | with_reducible rfl
  refine Eng.TW.take' (v := ?_) rfl rfl (by decide) (by kernel_rfl) (fun w hw => ?_) ?_
  rotate_left
  · (try dsimp only at hw); go_simp; first | done | with_reducible rfl
  refine Eng.TW.call rfl rfl (by decide) (by kernel_rfl) ?_ (saysB (d := d1) (z := z) HSt.out.k.l1 true hs) ?_
  · go_simp
  rintro e w2 ⟨rfl, hf⟩
  have HSt2 := Lib.hid (HSt.out.keep hf)
  have hSS : w2.cell? ⟨n, 0, none⟩ = some (.slice d1.A1 d1.O.length d1.c1) ∧ w2.cell? ⟨n, 1, none⟩ = some (.slice d1.A2 d1.I.length d1.c2) ∧ w2.cell? ⟨(n + 1), 0, none⟩ = some (.slice (some ⟨bz, oz, none⟩) d2.O.length d2.c1) ∧ w2.cell? ⟨(n + 1), 1, none⟩ = some (.slice d2.A2 d2.I.length d2.c2) ∧ w2.cell? ⟨bz, oz + k * 9, none⟩ = some (.int .i64 z.t) ∧ w2.cell? ⟨bz, oz + k * 9 + 1, none⟩ = some (.int .i64 z.i) ∧ w2.cell? ⟨bz, oz + k * 9 + 1 + 1, none⟩ = some (.int .i64 z.p) ∧ w2.cell? ⟨bz, oz + k * 9 + 1 + 1 + 1, none⟩ = some (.int .i64 z.r) ∧ w2.cell? ⟨bz, oz + k * 9 + 1 + 1 + 1 + 1, none⟩ = some (.string z.s) ∧ w2.cell? ⟨bz, oz + k * 9 + 1 + 1 + 1 + 1 + 1, none⟩ = some (.string z.o) ∧ w2.cell? ⟨bz, oz + k * 9 + 1 + 1 + 1 + 1 + 1 + 1, none⟩ = some (.int .i64 z.b) ∧ w2.cell? ⟨bz, oz + k * 9 + 1 + 1 + 1 + 1 + 1 + 1 + 1, none⟩ = some (.int .i64 z.d) ∧ w2.cell? ⟨bz, oz + k * 9 + 1 + 1 + 1 + 1 + 1 + 1 + 1 + 1, none⟩ = some (.bool z.g) := ⟨HSt2.out.k.b1.cell 0, HSt2.out.k.b1.cell 1, (by have h := HSt2.out.k.b2.cell 0; simp only [List.getElem?_toArray, List.getElem?_cons_zero, List.getElem?_cons_succ, hA] at h; exact h), HSt2.out.k.b2.cell 1, HSt2.out.z 0 _ rfl, HSt2.out.z 1 _ rfl, HSt2.out.z 2 _ rfl, HSt2.out.z 3 _ rfl, HSt2.out.z 4 _ rfl, HSt2.out.z 5 _ rfl, HSt2.out.z 6 _ rfl, HSt2.out.z 7 _ rfl, HSt2.out.z 8 _ rfl⟩
  clear hf
  refine ⟨_, rfl, hSS, ?_⟩
  refine Eng.TW.take' (v := ?_) rfl rfl (by decide) (by kernel_rfl) (fun w hw => ?_) ?_
  rotate_left
  · (try dsimp only at hw); go_simp; first | done | with_reducible rfl
  refine Eng.TW.take' (v := ?_) rfl rfl (by decide) (by kernel_rfl) (fun w hw => ?_) ?_
  rotate_left
  · (try dsimp only at hw); go_simp; first | done | with_reducible rfl
  refine Eng.TW.take' (v := ?_) rfl rfl (by decide) (by kernel_rfl) (fun w hw => ?_) ?_
  rotate_left
  · (try dsimp only at hw); go_simp; first | done | with_reducible rfl
  refine Eng.TW.take' (v := ?_) rfl rfl (by decide) (by kernel_rfl) (fun w hw => ?_) ?_
  rotate_left
  · (try dsimp only at hw); go_simp; first | done | with_reducible rfl
  refine Eng.TW.take' (v := ?_) rfl rfl (by decide) (by kernel_rfl) (fun w hw => ?_) ?_
  rotate_left
  · (try dsimp only at hw); go_simp; first | done | with_reducible rfl
  refine Eng.TW.take' (v := ?_) rfl rfl (by decide) (by kernel_rfl) (fun w hw => ?_) ?_
  rotate_left
  · (try dsimp only at hw); go_simp; first | done | with_reducible rfl
  refine Eng.TW.take' (v := ?_) rfl rfl (by decide) (by kernel_rfl) (fun w hw => ?_) ?_
  rotate_left
  · (try dsimp only at hw); go_simp; first | done | with_reducible rfl
  refine Eng.TW.take' (v := ?_) rfl rfl (by decide) (by kernel_rfl) (fun w hw => ?_) ?_
  rotate_left
  · (try dsimp only at hw); go_simp; first | done | with_reducible rfl
  refine Eng.TW.call rfl rfl (by decide) (by kernel_rfl) ?_ (In d1.A2 d1.c2 d1.I z _ HSt2.out.k.l1.i.s) ?_
  · go_simp
  rintro e w3 ⟨rfl, hf⟩
  have HSt3 := Lib.hid (HSt2.out.keep hf)
  have hSS : w3.cell? ⟨n, 0, none⟩ = some (.slice d1.A1 d1.O.length d1.c1) ∧ w3.cell? ⟨n, 1, none⟩ = some (.slice d1.A2 d1.I.length d1.c2) ∧ w3.cell? ⟨(n + 1), 0, none⟩ = some (.slice (some ⟨bz, oz, none⟩) d2.O.length d2.c1) ∧ w3.cell? ⟨(n + 1), 1, none⟩ = some (.slice d2.A2 d2.I.length d2.c2) ∧ w3.cell? ⟨bz, oz + k * 9, none⟩ = some (.int .i64 z.t) ∧ w3.cell? ⟨bz, oz + k * 9 + 1, none⟩ = some (.int .i64 z.i) ∧ w3.cell? ⟨bz, oz + k * 9 + 1 + 1, none⟩ = some (.int .i64 z.p) ∧ w3.cell? ⟨bz, oz + k * 9 + 1 + 1 + 1, none⟩ = some (.int .i64 z.r) ∧ w3.cell? ⟨bz, oz + k * 9 + 1 + 1 + 1 + 1, none⟩ = some (.string z.s) ∧ w3.cell? ⟨bz, oz + k * 9 + 1 + 1 + 1 + 1 + 1, none⟩ = some (.string z.o) ∧ w3.cell? ⟨bz, oz + k * 9 + 1 + 1 + 1 + 1 + 1 + 1, none⟩ = some (.int .i64 z.b) ∧ w3.cell? ⟨bz, oz + k * 9 + 1 + 1 + 1 + 1 + 1 + 1 + 1, none⟩ = some (.int .i64 z.d) ∧ w3.cell? ⟨bz, oz + k * 9 + 1 + 1 + 1 + 1 + 1 + 1 + 1 + 1, none⟩ = some (.bool z.g) := ⟨HSt3.out.k.b1.cell 0, HSt3.out.k.b1.cell 1, (by have h := HSt3.out.k.b2.cell 0; simp only [List.getElem?_toArray, List.getElem?_cons_zero, List.getElem?_cons_succ, hA] at h; exact h), HSt3.out.k.b2.cell 1, HSt3.out.z 0 _ rfl, HSt3.out.z 1 _ rfl, HSt3.out.z 2 _ rfl, HSt3.out.z 3 _ rfl, HSt3.out.z 4 _ rfl, HSt3.out.z 5 _ rfl, HSt3.out.z 6 _ rfl, HSt3.out.z 7 _ rfl, HSt3.out.z 8 _ rfl⟩
  clear hf
  refine ⟨_, rfl, hSS, ?_⟩
  refine Eng.TW.take' (v := ?_) rfl rfl (by decide) (by kernel_rfl) (fun w hw => ?_) ?_
  rotate_left
  · (try dsimp only at hw); go_simp; first | done | with_reducible rfl
  refine Eng.TW.take' (v := ?_) rfl rfl (by decide) (by kernel_rfl) (fun w hw => ?_) ?_
  rotate_left
  · (try dsimp only at hw); go_simp; first | done | with_reducible rfl
  refine Eng.TW.end_ [29, 30, 31, 32, 33, 34, 35, 36, 37, 38, 39, 40, 41, 42, 43, 44, 45, 46] HN.out (by kernel_rfl) (by kernel_rfl) ?_
  exact HP.out _ _ rfl HSt3.out.k

set_option maxRecDepth 100000 in
set_option maxHeartbeats 400000 in
theorem rc11 {ops : Array Oper} (hops : Eng.fnOps Tryz.f20 11 = ops) (a0 : Act) (Q : Exit → Act → World → Prop) (w0 w : World) (n : Nat) (d1 d2 : Dl) (bz oz k : Nat) (z : Sn) (hA : d2.A2 = some ⟨bz, oz, none⟩) (hk : k < d2.I.length) (hlen : d2.I.length ≤ 500000) (hst : KZ w0 w n d1 d2 bz (oz + k * 9) z)
    (hn : a0.tmps.size = 132) (h_2 : a0.tmps.getD 2 undef = .pointer (some ⟨n, 0, none⟩)) (h_3 : a0.tmps.getD 3 undef = .pointer (some ⟨n + 1, 0, none⟩)) (h_7 : a0.tmps.getD 7 undef = .int .i64 (k : Int))
    (hpost : ∀ (x : Nat → Value) (w' : World), x 8 = .int .i64 (posI z d1.I) → KC w0 w' n d1 d2 → Q .normal (Eng.setAll a0 [8, 55, 56, 57, 58, 59, 60, 61, 62] x) w') :
    (Code.region 11 ops true).wp Tryz.prog Q a0 w := by
  simp only [Eng.fnOps, Eng.regOps, Tryz.f20, Option.bind_some, Option.getD_some, Nat.reduceEqDiff, ↓reduceIte, Nat.reduceBEq] at hops
  subst hops
  have q1 : (0 : Int) ≤ (k : Int) := by omega
  have q2 : (k : Int) < (d2.I.length : Int) := by omega
  have HSt := Lib.hid (hst.keep (Fr.drew _ _))
  have hSS : w.drew.cell? ⟨n, 0, none⟩ = some (.slice d1.A1 d1.O.length d1.c1) ∧ w.drew.cell? ⟨n, 1, none⟩ = some (.slice d1.A2 d1.I.length d1.c2) ∧ w.drew.cell? ⟨(n + 1), 0, none⟩ = some (.slice d2.A1 d2.O.length d2.c1) ∧ w.drew.cell? ⟨(n + 1), 1, none⟩ = some (.slice (some ⟨bz, oz, none⟩) d2.I.length d2.c2) ∧ w.drew.cell? ⟨bz, oz + k * 9, none⟩ = some (.int .i64 z.t) ∧ w.drew.cell? ⟨bz, oz + k * 9 + 1, none⟩ = some (.int .i64 z.i) ∧ w.drew.cell? ⟨bz, oz + k * 9 + 1 + 1, none⟩ = some (.int .i64 z.p) ∧ w.drew.cell? ⟨bz, oz + k * 9 + 1 + 1 + 1, none⟩ = some (.int .i64 z.r) ∧ w.drew.cell? ⟨bz, oz + k * 9 + 1 + 1 + 1 + 1, none⟩ = some (.string z.s) ∧ w.drew.cell? ⟨bz, oz + k * 9 + 1 + 1 + 1 + 1 + 1, none⟩ = some (.string z.o) ∧ w.drew.cell? ⟨bz, oz + k * 9 + 1 + 1 + 1 + 1 + 1 + 1, none⟩ = some (.int .i64 z.b) ∧ w.drew.cell? ⟨bz, oz + k * 9 + 1 + 1 + 1 + 1 + 1 + 1 + 1, none⟩ = some (.int .i64 z.d) ∧ w.drew.cell? ⟨bz, oz + k * 9 + 1 + 1 + 1 + 1 + 1 + 1 + 1 + 1, none⟩ = some (.bool z.g) := ⟨HSt.out.k.b1.cell 0, HSt.out.k.b1.cell 1, HSt.out.k.b2.cell 0, (by have h := HSt.out.k.b2.cell 1; simp only [List.getElem?_toArray, List.getElem?_cons_zero, List.getElem?_cons_succ, hA] at h; exact h), HSt.out.z 0 _ rfl, HSt.out.z 1 _ rfl, HSt.out.z 2 _ rfl, HSt.out.z 3 _ rfl, HSt.out.z 4 _ rfl, HSt.out.z 5 _ rfl, HSt.out.z 6 _ rfl, HSt.out.z 7 _ rfl, HSt.out.z 8 _ rfl⟩
  refine Eng.regionT (.take 0 (.take 1 (.take 2 (.take 3 (.take 4 (.take 5 (.take 6 (.alt 7 (.take 8 (.done)) (.stop))))))))) (fun w' => w'.cell? ⟨n, 0, none⟩ = some (.slice d1.A1 d1.O.length d1.c1) ∧ w'.cell? ⟨n, 1, none⟩ = some (.slice d1.A2 d1.I.length d1.c2) ∧ w'.cell? ⟨(n + 1), 0, none⟩ = some (.slice d2.A1 d2.O.length d2.c1) ∧ w'.cell? ⟨(n + 1), 1, none⟩ = some (.slice (some ⟨bz, oz, none⟩) d2.I.length d2.c2) ∧ w'.cell? ⟨bz, oz + k * 9, none⟩ = some (.int .i64 z.t) ∧ w'.cell? ⟨bz, oz + k * 9 + 1, none⟩ = some (.int .i64 z.i) ∧ w'.cell? ⟨bz, oz + k * 9 + 1 + 1, none⟩ = some (.int .i64 z.p) ∧ w'.cell? ⟨bz, oz + k * 9 + 1 + 1 + 1, none⟩ = some (.int .i64 z.r) ∧ w'.cell? ⟨bz, oz + k * 9 + 1 + 1 + 1 + 1, none⟩ = some (.string z.s) ∧ w'.cell? ⟨bz, oz + k * 9 + 1 + 1 + 1 + 1 + 1, none⟩ = some (.string z.o) ∧ w'.cell? ⟨bz, oz + k * 9 + 1 + 1 + 1 + 1 + 1 + 1, none⟩ = some (.int .i64 z.b) ∧ w'.cell? ⟨bz, oz + k * 9 + 1 + 1 + 1 + 1 + 1 + 1 + 1, none⟩ = some (.int .i64 z.d) ∧ w'.cell? ⟨bz, oz + k * 9 + 1 + 1 + 1 + 1 + 1 + 1 + 1 + 1, none⟩ = some (.bool z.g)) (by kernel_rfl) 132 hn (by kernel_rfl) (by kernel_rfl) (by kernel_rfl) (hSS) (fun a b ha hb => ?_)
  subst ha
  have hb2 : b 2 = .pointer (some ⟨n, 0, none⟩) := (hb 2).symm.trans h_2
  have hb3 : b 3 = .pointer (some ⟨n + 1, 0, none⟩) := (hb 3).symm.trans h_3
  have hb7 : b 7 = .int .i64 (k : Int) := (hb 7).symm.trans h_7
  clear hb h_2 h_3 h_7
  have HP := Lib.hid hpost; have HN := Lib.hid hn
  clear hpost hn
  refine Eng.TW.take' (v := ?_) rfl rfl (by decide) (by kernel_rfl) (fun w hw => ?_) ?_
  rotate_left
  · (try dsimp only at hw); go_simp; first | done | with_reducible rfl
  refine Eng.TW.take' (v := ?_) rfl rfl (by decide) (by kernel_rfl) (fun w hw => ?_) ?_
  rotate_left
  · (try dsimp only at hw); go_simp; first | done | with_reducible rfl
  refine Eng.TW.take' (v := ?_) rfl rfl (by decide) (by kernel_rfl) (fun w hw => ?_) ?_
  rotate_left
  · (try dsimp only at hw); go_simp; first | done | with_reducible rfl
  refine Eng.TW.take' (v := ?_) rfl rfl (by decide) (by kernel_rfl) (fun w hw => ?_) ?_
  rotate_left
  · (try dsimp only at hw); go_simp; first | done | with_reducible rfl
  refine Eng.TW.take' (v := ?_) rfl rfl (by decide) (by kernel_rfl) (fun w hw => ?_) ?_
  rotate_left
  · (try dsimp only at hw); go_simp; first | done | with_reducible rfl
  refine Eng.TW.take' (v := ?_) rfl rfl (by decide) (by kernel_rfl) (fun w hw => ?_) ?_
  rotate_left
  · (try dsimp only at hw); go_simp; first | done | with_reducible rfl
  refine Eng.TW.take' (v := ?_) rfl rfl (by decide) (by kernel_rfl) (fun w hw => ?_) ?_
  rotate_left
  · (try dsimp only at hw); go_simp; first | done | with_reducible rfl
  refine Eng.TW.call rfl rfl (by decide) (by kernel_rfl) ?_ (Find d1.A2 d1.c2 d1.I z _ HSt.out.k.l1.i.s) ?_
  · go_simp
  rintro e w2 ⟨rfl, hf⟩
  have HSt2 := Lib.hid (HSt.out.keep hf)
  have hSS : w2.cell? ⟨n, 0, none⟩ = some (.slice d1.A1 d1.O.length d1.c1) ∧ w2.cell? ⟨n, 1, none⟩ = some (.slice d1.A2 d1.I.length d1.c2) ∧ w2.cell? ⟨(n + 1), 0, none⟩ = some (.slice d2.A1 d2.O.length d2.c1) ∧ w2.cell? ⟨(n + 1), 1, none⟩ = some (.slice (some ⟨bz, oz, none⟩) d2.I.length d2.c2) ∧ w2.cell? ⟨bz, oz + k * 9, none⟩ = some (.int .i64 z.t) ∧ w2.cell? ⟨bz, oz + k * 9 + 1, none⟩ = some (.int .i64 z.i) ∧ w2.cell? ⟨bz, oz + k * 9 + 1 + 1, none⟩ = some (.int .i64 z.p) ∧ w2.cell? ⟨bz, oz + k * 9 + 1 + 1 + 1, none⟩ = some (.int .i64 z.r) ∧ w2.cell? ⟨bz, oz + k * 9 + 1 + 1 + 1 + 1, none⟩ = some (.string z.s) ∧ w2.cell? ⟨bz, oz + k * 9 + 1 + 1 + 1 + 1 + 1, none⟩ = some (.string z.o) ∧ w2.cell? ⟨bz, oz + k * 9 + 1 + 1 + 1 + 1 + 1 + 1, none⟩ = some (.int .i64 z.b) ∧ w2.cell? ⟨bz, oz + k * 9 + 1 + 1 + 1 + 1 + 1 + 1 + 1, none⟩ = some (.int .i64 z.d) ∧ w2.cell? ⟨bz, oz + k * 9 + 1 + 1 + 1 + 1 + 1 + 1 + 1 + 1, none⟩ = some (.bool z.g) := ⟨HSt2.out.k.b1.cell 0, HSt2.out.k.b1.cell 1, HSt2.out.k.b2.cell 0, (by have h := HSt2.out.k.b2.cell 1; simp only [List.getElem?_toArray, List.getElem?_cons_zero, List.getElem?_cons_succ, hA] at h; exact h), HSt2.out.z 0 _ rfl, HSt2.out.z 1 _ rfl, HSt2.out.z 2 _ rfl, HSt2.out.z 3 _ rfl, HSt2.out.z 4 _ rfl, HSt2.out.z 5 _ rfl, HSt2.out.z 6 _ rfl, HSt2.out.z 7 _ rfl, HSt2.out.z 8 _ rfl⟩
  clear hf
  refine ⟨_, rfl, hSS, ?_⟩
  refine Eng.TW.take' (v := ?_) rfl rfl (by decide) (by kernel_rfl) (fun w hw => ?_) ?_
  rotate_left
  · (try dsimp only at hw); go_simp; first | done | with_reducible rfl
  refine Eng.TW.end_ [8, 55, 56, 57, 58, 59, 60, 61, 62] HN.out (by kernel_rfl) (by kernel_rfl) ?_
  exact HP.out _ _ rfl HSt2.out.k

set_option maxRecDepth 100000 in
set_option maxHeartbeats 400000 in
theorem rc12a {ops : Array Oper} (hops : Eng.fnOps Tryz.f20 12 = ops) (a0 : Act) (Q : Exit → Act → World → Prop) (w0 w : World) (n : Nat) (d1 d2 : Dl) (hst : KC w0 w n d1 d2)
    (hn : a0.tmps.size = 132) (h_8 : a0.tmps.getD 8 undef = .int .i64 (-1))
    (hpost : ∀ (x : Nat → Value) (w' : World), x 75 = .bool false → KC w0 w' n d1 d2 → Q .normal (Eng.setAll a0 [63, 64, 65, 66, 67, 68, 69, 70, 71, 72, 73, 74, 75] x) w') :
    (Code.region 12 ops true).wp Tryz.prog Q a0 w := by
  simp only [Eng.fnOps, Eng.regOps, Tryz.f20, Option.bind_some, Option.getD_some, Nat.reduceEqDiff, ↓reduceIte, Nat.reduceBEq] at hops
  subst hops
  have HSt := Lib.hid (hst.keep (Fr.drew _ _))
  have hSS : True := trivial
  refine Eng.regionT (.take 0 (.take 1 (.take 2 (.take 3 (.take 4 (.take 5 (.take 6 (.take 7 (.take 8 (.take 9 (.take 10 (.take 11 (.take 12 (.done)))))))))))))) (fun w' => True) (by kernel_rfl) 132 hn (by kernel_rfl) (by kernel_rfl) (by kernel_rfl) (hSS) (fun a b ha hb => ?_)
  subst ha
  have hb8 : b 8 = .int .i64 (-1) := (hb 8).symm.trans h_8
  clear hb h_8
  have HP := Lib.hid hpost; have HN := Lib.hid hn
  clear hpost hn
  refine Eng.TW.take' (v := ?_) rfl rfl (by decide) (by kernel_rfl) (fun w hw => ?_) ?_
  rotate_left
  · (try dsimp only at hw); go_simp; first | done | with_reducible rfl
  refine Eng.TW.take' (v := ?_) rfl rfl (by decide) (by kernel_rfl) (fun w hw => ?_) ?_
  rotate_left
  · (try dsimp only at hw); go_simp; first | done | with_reducible rfl
  refine Eng.TW.take' (v := ?_) rfl rfl (by decide) (by kernel_rfl) (fun w hw => ?_) ?_
  rotate_left
  · (try dsimp only at hw); go_simp; first | done | with_reducible rfl
  refine Eng.TW.skip rfl rfl (by decide) (by kernel_rfl) ?_
  refine Eng.TW.skip rfl rfl (by decide) (by kernel_rfl) ?_
  refine Eng.TW.skip rfl rfl (by decide) (by kernel_rfl) ?_
  refine Eng.TW.skip rfl rfl (by decide) (by kernel_rfl) ?_
  refine Eng.TW.skip rfl rfl (by decide) (by kernel_rfl) ?_
  refine Eng.TW.skip rfl rfl (by decide) (by kernel_rfl) ?_
  refine Eng.TW.skip rfl rfl (by decide) (by kernel_rfl) ?_
  refine Eng.TW.skip rfl rfl (by decide) (by kernel_rfl) ?_
  refine Eng.TW.skip rfl rfl (by decide) (by kernel_rfl) ?_
  refine Eng.TW.take' (v := ?_) rfl rfl (by decide) (by kernel_rfl) (fun w hw => ?_) ?_
  rotate_left
  · (try dsimp only at hw); go_simp; first | done | with_reducible rfl
  refine Eng.TW.end_ [63, 64, 65, 66, 67, 68, 69, 70, 71, 72, 73, 74, 75] HN.out (by kernel_rfl) (by kernel_rfl) ?_
  exact HP.out _ _ rfl HSt.out

set_option maxRecDepth 100000 in
set_option maxHeartbeats 400000 in
theorem rc12b {ops : Array Oper} (hops : Eng.fnOps Tryz.f20 12 = ops) (a0 : Act) (Q : Exit → Act → World → Prop) (w0 w : World) (n : Nat) (d1 d2 : Dl) (bz oz k : Nat) (z : Sn) (hA : d1.A2 = some ⟨bz, oz, none⟩) (hk : k < d1.I.length) (hlen : d1.I.length ≤ 500000) (hst : KZ w0 w n d1 d2 bz (oz + k * 9) z)
    (hn : a0.tmps.size = 132) (h_2 : a0.tmps.getD 2 undef = .pointer (some ⟨n, 0, none⟩)) (h_3 : a0.tmps.getD 3 undef = .pointer (some ⟨n + 1, 0, none⟩)) (h_8 : a0.tmps.getD 8 undef = .int .i64 (k : Int))
    (hpost : ∀ (x : Nat → Value) (w' : World), x 75 = .bool (!decide (z ∈ d2.O)) → KC w0 w' n d1 d2 → Q .normal (Eng.setAll a0 [63, 64, 65, 66, 67, 68, 69, 70, 71, 72, 73, 74, 75] x) w') :
    (Code.region 12 ops true).wp Tryz.prog Q a0 w := by
  simp only [Eng.fnOps, Eng.regOps, Tryz.f20, Option.bind_some, Option.getD_some, Nat.reduceEqDiff, ↓reduceIte, Nat.reduceBEq] at hops
  subst hops
  have q1 : (0 : Int) ≤ (k : Int) := by omega
  have q2 : (k : Int) < (d1.I.length : Int) := by omega
  have q3 : decide ((0 : Int) ≤ (k : Int)) = true := by simp
  have HSt := Lib.hid (hst.keep (Fr.drew _ _))
  have hSS : w.drew.cell? ⟨n, 0, none⟩ = some (.slice d1.A1 d1.O.length d1.c1) ∧ w.drew.cell? ⟨n, 1, none⟩ = some (.slice (some ⟨bz, oz, none⟩) d1.I.length d1.c2) ∧ w.drew.cell? ⟨(n + 1), 0, none⟩ = some (.slice d2.A1 d2.O.length d2.c1) ∧ w.drew.cell? ⟨(n + 1), 1, none⟩ = some (.slice d2.A2 d2.I.length d2.c2) ∧ w.drew.cell? ⟨bz, oz + k * 9, none⟩ = some (.int .i64 z.t) ∧ w.drew.cell? ⟨bz, oz + k * 9 + 1, none⟩ = some (.int .i64 z.i) ∧ w.drew.cell? ⟨bz, oz + k * 9 + 1 + 1, none⟩ = some (.int .i64 z.p) ∧ w.drew.cell? ⟨bz, oz + k * 9 + 1 + 1 + 1, none⟩ = some (.int .i64 z.r) ∧ w.drew.cell? ⟨bz, oz + k * 9 + 1 + 1 + 1 + 1, none⟩ = some (.string z.s) ∧ w.drew.cell? ⟨bz, oz + k * 9 + 1 + 1 + 1 + 1 + 1, none⟩ = some (.string z.o) ∧ w.drew.cell? ⟨bz, oz + k * 9 + 1 + 1 + 1 + 1 + 1 + 1, none⟩ = some (.int .i64 z.b) ∧ w.drew.cell? ⟨bz, oz + k * 9 + 1 + 1 + 1 + 1 + 1 + 1 + 1, none⟩ = some (.int .i64 z.d) ∧ w.drew.cell? ⟨bz, oz + k * 9 + 1 + 1 + 1 + 1 + 1 + 1 + 1 + 1, none⟩ = some (.bool z.g) := ⟨HSt.out.k.b1.cell 0, (by have h := HSt.out.k.b1.cell 1; simp only [List.getElem?_toArray, List.getElem?_cons_zero, List.getElem?_cons_succ, hA] at h; exact h), HSt.out.k.b2.cell 0, HSt.out.k.b2.cell 1, HSt.out.z 0 _ rfl, HSt.out.z 1 _ rfl, HSt.out.z 2 _ rfl, HSt.out.z 3 _ rfl, HSt.out.z 4 _ rfl, HSt.out.z 5 _ rfl, HSt.out.z 6 _ rfl, HSt.out.z 7 _ rfl, HSt.out.z 8 _ rfl⟩
  refine Eng.regionT (.take 0 (.take 1 (.take 2 (.take 3 (.take 4 (.take 5 (.take 6 (.take 7 (.take 8 (.take 9 (.alt 10 (.take 11 (.take 12 (.done))) (.stop)))))))))))) (fun w' => w'.cell? ⟨n, 0, none⟩ = some (.slice d1.A1 d1.O.length d1.c1) ∧ w'.cell? ⟨n, 1, none⟩ = some (.slice (some ⟨bz, oz, none⟩) d1.I.length d1.c2) ∧ w'.cell? ⟨(n + 1), 0, none⟩ = some (.slice d2.A1 d2.O.length d2.c1) ∧ w'.cell? ⟨(n + 1), 1, none⟩ = some (.slice d2.A2 d2.I.length d2.c2) ∧ w'.cell? ⟨bz, oz + k * 9, none⟩ = some (.int .i64 z.t) ∧ w'.cell? ⟨bz, oz + k * 9 + 1, none⟩ = some (.int .i64 z.i) ∧ w'.cell? ⟨bz, oz + k * 9 + 1 + 1, none⟩ = some (.int .i64 z.p) ∧ w'.cell? ⟨bz, oz + k * 9 + 1 + 1 + 1, none⟩ = some (.int .i64 z.r) ∧ w'.cell? ⟨bz, oz + k * 9 + 1 + 1 + 1 + 1, none⟩ = some (.string z.s) ∧ w'.cell? ⟨bz, oz + k * 9 + 1 + 1 + 1 + 1 + 1, none⟩ = some (.string z.o) ∧ w'.cell? ⟨bz, oz + k * 9 + 1 + 1 + 1 + 1 + 1 + 1, none⟩ = some (.int .i64 z.b) ∧ w'.cell? ⟨bz, oz + k * 9 + 1 + 1 + 1 + 1 + 1 + 1 + 1, none⟩ = some (.int .i64 z.d) ∧ w'.cell? ⟨bz, oz + k * 9 + 1 + 1 + 1 + 1 + 1 + 1 + 1 + 1, none⟩ = some (.bool z.g)) (by kernel_rfl) 132 hn (by kernel_rfl) (by kernel_rfl) (by kernel_rfl) (hSS) (fun a b ha hb => ?_)
  subst ha
  have hb2 : b 2 = .pointer (some ⟨n, 0, none⟩) := (hb 2).symm.trans h_2
  have hb3 : b 3 = .pointer (some ⟨n + 1, 0, none⟩) := (hb 3).symm.trans h_3
  have hb8 : b 8 = .int .i64 (k : Int) := (hb 8).symm.trans h_8
  clear hb h_2 h_3 h_8
  have HP := Lib.hid hpost; have HN := Lib.hid hn
  clear hpost hn
  refine Eng.TW.take' (v := ?_) rfl rfl (by decide) (by kernel_rfl) (fun w hw => ?_) ?_
  rotate_left
  · (try dsimp only at hw); go_simp; first | done | with_reducible rfl
  refine Eng.TW.take' (v := ?_) rfl rfl (by decide) (by kernel_rfl) (fun w hw => ?_) ?_
  rotate_left
  · (try dsimp only at hw); go_simp; first | done | with_reducible rfl
  refine Eng.TW.take' (v := ?_) rfl rfl (by decide) (by kernel_rfl) (fun w hw => ?_) ?_
  rotate_left
  · (try dsimp only at hw); go_simp; first | done | with_reducible rfl
  refine Eng.TW.take' (v := ?_) rfl rfl (by decide) (by kernel_rfl) (fun w hw => ?_) ?_
  rotate_left
  · (try dsimp only at hw); go_simp; first | done | with_reducible rfl
  refine Eng.TW.take' (v := ?_) rfl rfl (by decide) (by kernel_rfl) (fun w hw => ?_) ?_
  rotate_left
  · (try dsimp only at hw); go_simp; first | done | with_reducible rfl
  refine Eng.TW.take' (v := ?_) rfl rfl (by decide) (by kernel_rfl) (fun w hw => ?_) ?_
  rotate_left
  · (try dsimp only at hw); go_simp; first | done | with_reducible rfl
  refine Eng.TW.take' (v := ?_) rfl rfl (by decide) (by kernel_rfl) (fun w hw => ?_) ?_
  rotate_left
  · (try dsimp only at hw); go_simp; first | done | with_reducible rfl
  refine Eng.TW.take' (v := ?_) rfl rfl (by decide) (by kernel_rfl) (fun w hw => ?_) ?_
  rotate_left
  · (try dsimp only at hw); go_simp; first | done | with_reducible rfl
  refine Eng.TW.take' (v := ?_) rfl rfl (by decide) (by kernel_rfl) (fun w hw => ?_) ?_
  rotate_left
  · (try dsimp only at hw); go_simp; first | done | with_reducible rfl
  refine Eng.TW.take' (v := ?_) rfl rfl (by decide) (by kernel_rfl) (fun w hw => ?_) ?_
  rotate_left
  · (try dsimp only at hw); go_simp; first | done | with_reducible rfl
  refine Eng.TW.call rfl rfl (by decide) (by kernel_rfl) ?_ (In d2.A1 d2.c1 d2.O z _ HSt.out.k.l2.o.s) ?_
  · go_simp
  rintro e w2 ⟨rfl, hf⟩
  have HSt2 := Lib.hid (HSt.out.keep hf)
  have hSS : w2.cell? ⟨n, 0, none⟩ = some (.slice d1.A1 d1.O.length d1.c1) ∧ w2.cell? ⟨n, 1, none⟩ = some (.slice (some ⟨bz, oz, none⟩) d1.I.length d1.c2) ∧ w2.cell? ⟨(n + 1), 0, none⟩ = some (.slice d2.A1 d2.O.length d2.c1) ∧ w2.cell? ⟨(n + 1), 1, none⟩ = some (.slice d2.A2 d2.I.length d2.c2) ∧ w2.cell? ⟨bz, oz + k * 9, none⟩ = some (.int .i64 z.t) ∧ w2.cell? ⟨bz, oz + k * 9 + 1, none⟩ = some (.int .i64 z.i) ∧ w2.cell? ⟨bz, oz + k * 9 + 1 + 1, none⟩ = some (.int .i64 z.p) ∧ w2.cell? ⟨bz, oz + k * 9 + 1 + 1 + 1, none⟩ = some (.int .i64 z.r) ∧ w2.cell? ⟨bz, oz + k * 9 + 1 + 1 + 1 + 1, none⟩ = some (.string z.s) ∧ w2.cell? ⟨bz, oz + k * 9 + 1 + 1 + 1 + 1 + 1, none⟩ = some (.string z.o) ∧ w2.cell? ⟨bz, oz + k * 9 + 1 + 1 + 1 + 1 + 1 + 1, none⟩ = some (.int .i64 z.b) ∧ w2.cell? ⟨bz, oz + k * 9 + 1 + 1 + 1 + 1 + 1 + 1 + 1, none⟩ = some (.int .i64 z.d) ∧ w2.cell? ⟨bz, oz + k * 9 + 1 + 1 + 1 + 1 + 1 + 1 + 1 + 1, none⟩ = some (.bool z.g) := ⟨HSt2.out.k.b1.cell 0, (by have h := HSt2.out.k.b1.cell 1; simp only [List.getElem?_toArray, List.getElem?_cons_zero, List.getElem?_cons_succ, hA] at h; exact h), HSt2.out.k.b2.cell 0, HSt2.out.k.b2.cell 1, HSt2.out.z 0 _ rfl, HSt2.out.z 1 _ rfl, HSt2.out.z 2 _ rfl, HSt2.out.z 3 _ rfl, HSt2.out.z 4 _ rfl, HSt2.out.z 5 _ rfl, HSt2.out.z 6 _ rfl, HSt2.out.z 7 _ rfl, HSt2.out.z 8 _ rfl⟩
  clear hf
  refine ⟨_, rfl, hSS, ?_⟩
  refine Eng.TW.take' (v := ?_) rfl rfl (by decide) (by kernel_rfl) (fun w hw => ?_) ?_
  rotate_left
  · (try dsimp only at hw); go_simp; first | done | with_reducible rfl
  refine Eng.TW.take' (v := ?_) rfl rfl (by decide) (by kernel_rfl) (fun w hw => ?_) ?_
  rotate_left
  · (try dsimp only at hw); go_simp; first | done | with_reducible rfl
  refine Eng.TW.end_ [63, 64, 65, 66, 67, 68, 69, 70, 71, 72, 73, 74, 75] HN.out (by kernel_rfl) (by kernel_rfl) ?_
  exact HP.out _ _ rfl HSt2.out.k

set_option maxRecDepth 100000 in
set_option maxHeartbeats 400000 in
theorem rc14 {ops : Array Oper} (hops : Eng.fnOps Tryz.f20 14 = ops) (a0 : Act) (Q : Exit → Act → World → Prop) (w0 w : World) (n : Nat) (d1 d2 : Dl) (hst : KC w0 w n d1 d2)
    (hn : a0.tmps.size = 132) (h_2 : a0.tmps.getD 2 undef = .pointer (some ⟨n, 0, none⟩)) (h_3 : a0.tmps.getD 3 undef = .pointer (some ⟨n + 1, 0, none⟩))
    (hpost : ∀ (x : Nat → Value) (w' : World), x 9 = .slice d1.A1 d1.O.length d1.c1 → x 10 = .slice d2.A2 d2.I.length d2.c2 → KC w0 w' n d1 d2 → Q .normal (Eng.setAll a0 [9, 10, 77, 78, 79, 80] x) w') :
    (Code.region 14 ops true).wp Tryz.prog Q a0 w := by
  simp only [Eng.fnOps, Eng.regOps, Tryz.f20, Option.bind_some, Option.getD_some, Nat.reduceEqDiff, ↓reduceIte, Nat.reduceBEq] at hops
  subst hops
  have HSt := Lib.hid (hst.keep (Fr.drew _ _))
  have hSS : w.drew.cell? ⟨n, 0, none⟩ = some (.slice d1.A1 d1.O.length d1.c1) ∧ w.drew.cell? ⟨n, 1, none⟩ = some (.slice d1.A2 d1.I.length d1.c2) ∧ w.drew.cell? ⟨(n + 1), 0, none⟩ = some (.slice d2.A1 d2.O.length d2.c1) ∧ w.drew.cell? ⟨(n + 1), 1, none⟩ = some (.slice d2.A2 d2.I.length d2.c2) := ⟨HSt.out.b1.cell 0, HSt.out.b1.cell 1, HSt.out.b2.cell 0, HSt.out.b2.cell 1⟩
  refine Eng.regionT (.take 0 (.take 1 (.take 2 (.take 3 (.take 4 (.take 5 (.done))))))) (fun w' => w'.cell? ⟨n, 0, none⟩ = some (.slice d1.A1 d1.O.length d1.c1) ∧ w'.cell? ⟨n, 1, none⟩ = some (.slice d1.A2 d1.I.length d1.c2) ∧ w'.cell? ⟨(n + 1), 0, none⟩ = some (.slice d2.A1 d2.O.length d2.c1) ∧ w'.cell? ⟨(n + 1), 1, none⟩ = some (.slice d2.A2 d2.I.length d2.c2)) (by kernel_rfl) 132 hn (by kernel_rfl) (by kernel_rfl) (by kernel_rfl) (hSS) (fun a b ha hb => ?_)
  subst ha
  have hb2 : b 2 = .pointer (some ⟨n, 0, none⟩) := (hb 2).symm.trans h_2
  have hb3 : b 3 = .pointer (some ⟨n + 1, 0, none⟩) := (hb 3).symm.trans h_3
  clear hb h_2 h_3
  have HP := Lib.hid hpost; have HN := Lib.hid hn
  clear hpost hn
  refine Eng.TW.take' (v := ?_) rfl rfl (by decide) (by kernel_rfl) (fun w hw => ?_) ?_
  rotate_left
  · (try dsimp only at hw); go_simp; first | done | with_reducible rfl
  refine Eng.TW.take' (v := ?_) rfl rfl (by decide) (by kernel_rfl) (fun w hw => ?_) ?_
  rotate_left
  · (try dsimp only at hw); go_simp; first | done | with_reducible rfl
  refine Eng.TW.take' (v := ?_) rfl rfl (by decide) (by kernel_rfl) (fun w hw => ?_) ?_
  rotate_left
  · (try dsimp only at hw); go_simp; first | done | with_reducible rfl
  refine Eng.TW.take' (v := ?_) rfl rfl (by decide) (by kernel_rfl) (fun w hw => ?_) ?_
  rotate_left
  · (try dsimp only at hw); go_simp; first | done | with_reducible rfl
  refine Eng.TW.take' (v := ?_) rfl rfl (by decide) (by kernel_rfl) (fun w hw => ?_) ?_
  rotate_left
  · (try dsimp only at hw); go_simp; first | done | with_reducible rfl
  refine Eng.TW.take' (v := ?_) rfl rfl (by decide) (by kernel_rfl) (fun w hw => ?_) ?_
  rotate_left
  · (try dsimp only at hw); go_simp; first | done | with_reducible rfl
  refine Eng.TW.end_ [9, 10, 77, 78, 79, 80] HN.out (by kernel_rfl) (by kernel_rfl) ?_
  exact HP.out _ _ rfl rfl HSt.out

set_option maxRecDepth 100000 in
set_option maxHeartbeats 400000 in
theorem rc18 {ops : Array Oper} (hops : Eng.fnOps Tryz.f20 18 = ops) (a0 : Act) (Q : Exit → Act → World → Prop) (wE w0 w : World) (n : Nat) (d1 d2 : Dl) (bz oz k : Nat) (z : Sn) (hA : d2.A1 = some ⟨bz, oz, none⟩) (hk : k < d2.O.length) (hlen : d2.O.length ≤ 500000) (hst : KF wE w0 w n d1 d2 bz (oz + k * 9) z) (q : Bool) (hs : says d1.O d1.I z = q)
    (hn : a0.tmps.size = 132) (h_2 : a0.tmps.getD 2 undef = .pointer (some ⟨n, 0, none⟩)) (h_3 : a0.tmps.getD 3 undef = .pointer (some ⟨n + 1, 0, none⟩)) (h_11 : a0.tmps.getD 11 undef = .int .i64 (k : Int))
    (hpost : ∀ (x : Nat → Value) (w' : World), x 95 = .bool (!q) → KC w0 w' n d1 d2 → Fr (fun _ => False) wE w' → Q .normal (Eng.setAll a0 [88, 89, 90, 91, 92, 93, 94, 95] x) w') :
    (Code.region 18 ops true).wp Tryz.prog Q a0 w := by
  simp only [Eng.fnOps, Eng.regOps, Tryz.f20, Option.bind_some, Option.getD_some, Nat.reduceEqDiff, ↓reduceIte, Nat.reduceBEq] at hops
  subst hops
  have q1 : (0 : Int) ≤ (k : Int) := by omega
  have q2 : (k : Int) < (d2.O.length : Int) := by omega
  have HSt := Lib.hid (hst.keep (Fr.drew _ _))
  have hSS : w.drew.cell? ⟨n, 0, none⟩ = some (.slice d1.A1 d1.O.length d1.c1) ∧ w.drew.cell? ⟨n, 1, none⟩ = some (.slice d1.A2 d1.I.length d1.c2) ∧ w.drew.cell? ⟨(n + 1), 0, none⟩ = some (.slice (some ⟨bz, oz, none⟩) d2.O.length d2.c1) ∧ w.drew.cell? ⟨(n + 1), 1, none⟩ = some (.slice d2.A2 d2.I.length d2.c2) ∧ w.drew.cell? ⟨bz, oz + k * 9, none⟩ = some (.int .i64 z.t) ∧ w.drew.cell? ⟨bz, oz + k * 9 + 1, none⟩ = some (.int .i64 z.i) ∧ w.drew.cell? ⟨bz, oz + k * 9 + 1 + 1, none⟩ = some (.int .i64 z.p) ∧ w.drew.cell? ⟨bz, oz + k * 9 + 1 + 1 + 1, none⟩ = some (.int .i64 z.r) ∧ w.drew.cell? ⟨bz, oz + k * 9 + 1 + 1 + 1 + 1, none⟩ = some (.string z.s) ∧ w.drew.cell? ⟨bz, oz + k * 9 + 1 + 1 + 1 + 1 + 1, none⟩ = some (.string z.o) ∧ w.drew.cell? ⟨bz, oz + k * 9 + 1 + 1 + 1 + 1 + 1 + 1, none⟩ = some (.int .i64 z.b) ∧ w.drew.cell? ⟨bz, oz + k * 9 + 1 + 1 + 1 + 1 + 1 + 1 + 1, none⟩ = some (.int .i64 z.d) ∧ w.drew.cell? ⟨bz, oz + k * 9 + 1 + 1 + 1 + 1 + 1 + 1 + 1 + 1, none⟩ = some (.bool z.g) := ⟨HSt.out.k.b1.cell 0, HSt.out.k.b1.cell 1, (by have h := HSt.out.k.b2.cell 0; simp only [List.getElem?_toArray, List.getElem?_cons_zero, List.getElem?_cons_succ, hA] at h; exact h), HSt.out.k.b2.cell 1, HSt.out.z 0 _ rfl, HSt.out.z 1 _ rfl, HSt.out.z 2 _ rfl, HSt.out.z 3 _ rfl, HSt.out.z 4 _ rfl, HSt.out.z 5 _ rfl, HSt.out.z 6 _ rfl, HSt.out.z 7 _ rfl, HSt.out.z 8 _ rfl⟩
  refine Eng.regionT (.take 0 (.take 1 (.take 2 (.take 3 (.take 4 (.take 5 (.alt 6 (.take 7 (.done)) (.stop)))))))) (fun w' => w'.cell? ⟨n, 0, none⟩ = some (.slice d1.A1 d1.O.length d1.c1) ∧ w'.cell? ⟨n, 1, none⟩ = some (.slice d1.A2 d1.I.length d1.c2) ∧ w'.cell? ⟨(n + 1), 0, none⟩ = some (.slice (some ⟨bz, oz, none⟩) d2.O.length d2.c1) ∧ w'.cell? ⟨(n + 1), 1, none⟩ = some (.slice d2.A2 d2.I.length d2.c2) ∧ w'.cell? ⟨bz, oz + k * 9, none⟩ = some (.int .i64 z.t) ∧ w'.cell? ⟨bz, oz + k * 9 + 1, none⟩ = some (.int .i64 z.i) ∧ w'.cell? ⟨bz, oz + k * 9 + 1 + 1, none⟩ = some (.int .i64 z.p) ∧ w'.cell? ⟨bz, oz + k * 9 + 1 + 1 + 1, none⟩ = some (.int .i64 z.r) ∧ w'.cell? ⟨bz, oz + k * 9 + 1 + 1 + 1 + 1, none⟩ = some (.string z.s) ∧ w'.cell? ⟨bz, oz + k * 9 + 1 + 1 + 1 + 1 + 1, none⟩ = some (.string z.o) ∧ w'.cell? ⟨bz, oz + k * 9 + 1 + 1 + 1 + 1 + 1 + 1, none⟩ = some (.int .i64 z.b) ∧ w'.cell? ⟨bz, oz + k * 9 + 1 + 1 + 1 + 1 + 1 + 1 + 1, none⟩ = some (.int .i64 z.d) ∧ w'.cell? ⟨bz, oz + k * 9 + 1 + 1 + 1 + 1 + 1 + 1 + 1 + 1, none⟩ = some (.bool z.g)) (by kernel_rfl) 132 hn (by kernel_rfl) (by kernel_rfl) (by kernel_rfl) (hSS) (fun a b ha hb => ?_)
  subst ha
  have hb2 : b 2 = .pointer (some ⟨n, 0, none⟩) := (hb 2).symm.trans h_2
  have hb3 : b 3 = .pointer (some ⟨n + 1, 0, none⟩) := (hb 3).symm.trans h_3
  have hb11 : b 11 = .int .i64 (k : Int) := (hb 11).symm.trans h_11
  clear hb h_2 h_3 h_11
  have HP := Lib.hid hpost; have HN := Lib.hid hn
  clear hpost hn
  refine Eng.TW.take' (v := ?_) rfl rfl (by decide) (by kernel_rfl) (fun w hw => ?_) ?_
  rotate_left
  · (try dsimp only at hw); go_simp; first | done | with_reducible rfl
  refine Eng.TW.take' (v := ?_) rfl rfl (by decide) (by kernel_rfl) (fun w hw => ?_) ?_
  rotate_left
  · (try dsimp only at hw); go_simp; first | done | with_reducible rfl
  refine Eng.TW.take' (v := ?_) rfl rfl (by decide) (by kernel_rfl) (fun w hw => ?_) ?_
  rotate_left
  · (try dsimp only at hw); go_simp; first | done | with_reducible rfl
  refine Eng.TW.take' (v := ?_) rfl rfl (by decide) (by kernel_rfl) (fun w hw => ?_) ?_
  rotate_left
  · (try dsimp only at hw); go_simp; first | done | with_reducible rfl
  refine Eng.TW.take' (v := ?_) rfl rfl (by decide) (by kernel_rfl) (fun w hw => ?_) ?_
  rotate_left
  · (try dsimp only at hw); go_simp; first | done | with_reducible rfl
  refine Eng.TW.take' (v := ?_) rfl rfl (by decide) (by kernel_rfl) (fun w hw => ?_) ?_
  rotate_left
  · (try dsimp only at hw); go_simp; first | done | with_reducible rfl
  refine Eng.TW.call rfl rfl (by decide) (by kernel_rfl) ?_ (saysB (d := d1) (z := z) HSt.out.k.l1 q hs) ?_
  · go_simp
  rintro e w2 ⟨rfl, hf⟩
  have HSt2 := Lib.hid (HSt.out.keep hf)
  have hSS : w2.cell? ⟨n, 0, none⟩ = some (.slice d1.A1 d1.O.length d1.c1) ∧ w2.cell? ⟨n, 1, none⟩ = some (.slice d1.A2 d1.I.length d1.c2) ∧ w2.cell? ⟨(n + 1), 0, none⟩ = some (.slice (some ⟨bz, oz, none⟩) d2.O.length d2.c1) ∧ w2.cell? ⟨(n + 1), 1, none⟩ = some (.slice d2.A2 d2.I.length d2.c2) ∧ w2.cell? ⟨bz, oz + k * 9, none⟩ = some (.int .i64 z.t) ∧ w2.cell? ⟨bz, oz + k * 9 + 1, none⟩ = some (.int .i64 z.i) ∧ w2.cell? ⟨bz, oz + k * 9 + 1 + 1, none⟩ = some (.int .i64 z.p) ∧ w2.cell? ⟨bz, oz + k * 9 + 1 + 1 + 1, none⟩ = some (.int .i64 z.r) ∧ w2.cell? ⟨bz, oz + k * 9 + 1 + 1 + 1 + 1, none⟩ = some (.string z.s) ∧ w2.cell? ⟨bz, oz + k * 9 + 1 + 1 + 1 + 1 + 1, none⟩ = some (.string z.o) ∧ w2.cell? ⟨bz, oz + k * 9 + 1 + 1 + 1 + 1 + 1 + 1, none⟩ = some (.int .i64 z.b) ∧ w2.cell? ⟨bz, oz + k * 9 + 1 + 1 + 1 + 1 + 1 + 1 + 1, none⟩ = some (.int .i64 z.d) ∧ w2.cell? ⟨bz, oz + k * 9 + 1 + 1 + 1 + 1 + 1 + 1 + 1 + 1, none⟩ = some (.bool z.g) := ⟨HSt2.out.k.b1.cell 0, HSt2.out.k.b1.cell 1, (by have h := HSt2.out.k.b2.cell 0; simp only [List.getElem?_toArray, List.getElem?_cons_zero, List.getElem?_cons_succ, hA] at h; exact h), HSt2.out.k.b2.cell 1, HSt2.out.z 0 _ rfl, HSt2.out.z 1 _ rfl, HSt2.out.z 2 _ rfl, HSt2.out.z 3 _ rfl, HSt2.out.z 4 _ rfl, HSt2.out.z 5 _ rfl, HSt2.out.z 6 _ rfl, HSt2.out.z 7 _ rfl, HSt2.out.z 8 _ rfl⟩
  clear hf
  refine ⟨_, rfl, hSS, ?_⟩
  refine Eng.TW.take' (v := ?_) rfl rfl (by decide) (by kernel_rfl) (fun w hw => ?_) ?_
  rotate_left
  · (try dsimp only at hw); go_simp; first | done | with_reducible rfl
  refine Eng.TW.end_ [88, 89, 90, 91, 92, 93, 94, 95] HN.out (by kernel_rfl) (by kernel_rfl) ?_
  exact HP.out _ _ rfl HSt2.out.k HSt2.out.f

set_option maxRecDepth 100000 in
set_option maxHeartbeats 400000 in
theorem rc23 {ops : Array Oper} (hops : Eng.fnOps Tryz.f20 23 = ops) (a0 : Act) (Q : Exit → Act → World → Prop) (wE w0 w : World) (n : Nat) (d1 d2 : Dl) (bz oz k : Nat) (z : Sn) (hA : d1.A2 = some ⟨bz, oz, none⟩) (hk : k < d1.I.length) (hlen : d1.I.length ≤ 500000) (hst : KF wE w0 w n d1 d2 bz (oz + k * 9) z) (q : Bool) (hs : says d2.O d2.I z = q)
    (hn : a0.tmps.size = 132) (h_2 : a0.tmps.getD 2 undef = .pointer (some ⟨n, 0, none⟩)) (h_3 : a0.tmps.getD 3 undef = .pointer (some ⟨n + 1, 0, none⟩)) (h_12 : a0.tmps.getD 12 undef = .int .i64 (k : Int))
    (hpost : ∀ (x : Nat → Value) (w' : World), x 117 = .bool (!q) → KC w0 w' n d1 d2 → Fr (fun _ => False) wE w' → Q .normal (Eng.setAll a0 [110, 111, 112, 113, 114, 115, 116, 117] x) w') :
    (Code.region 23 ops true).wp Tryz.prog Q a0 w := by
  simp only [Eng.fnOps, Eng.regOps, Tryz.f20, Option.bind_some, Option.getD_some, Nat.reduceEqDiff, ↓reduceIte, Nat.reduceBEq] at hops
  subst hops
  have q1 : (0 : Int) ≤ (k : Int) := by omega
  have q2 : (k : Int) < (d1.I.length : Int) := by omega
  have HSt := Lib.hid (hst.keep (Fr.drew _ _))
  have hSS : w.drew.cell? ⟨n, 0, none⟩ = some (.slice d1.A1 d1.O.length d1.c1) ∧ w.drew.cell? ⟨n, 1, none⟩ = some (.slice (some ⟨bz, oz, none⟩) d1.I.length d1.c2) ∧ w.drew.cell? ⟨(n + 1), 0, none⟩ = some (.slice d2.A1 d2.O.length d2.c1) ∧ w.drew.cell? ⟨(n + 1), 1, none⟩ = some (.slice d2.A2 d2.I.length d2.c2) ∧ w.drew.cell? ⟨bz, oz + k * 9, none⟩ = some (.int .i64 z.t) ∧ w.drew.cell? ⟨bz, oz + k * 9 + 1, none⟩ = some (.int .i64 z.i) ∧ w.drew.cell? ⟨bz, oz + k * 9 + 1 + 1, none⟩ = some (.int .i64 z.p) ∧ w.drew.cell? ⟨bz, oz + k * 9 + 1 + 1 + 1, none⟩ = some (.int .i64 z.r) ∧ w.drew.cell? ⟨bz, oz + k * 9 + 1 + 1 + 1 + 1, none⟩ = some (.string z.s) ∧ w.drew.cell? ⟨bz, oz + k * 9 + 1 + 1 + 1 + 1 + 1, none⟩ = some (.string z.o) ∧ w.drew.cell? ⟨bz, oz + k * 9 + 1 + 1 + 1 + 1 + 1 + 1, none⟩ = some (.int .i64 z.b) ∧ w.drew.cell? ⟨bz, oz + k * 9 + 1 + 1 + 1 + 1 + 1 + 1 + 1, none⟩ = some (.int .i64 z.d) ∧ w.drew.cell? ⟨bz, oz + k * 9 + 1 + 1 + 1 + 1 + 1 + 1 + 1 + 1, none⟩ = some (.bool z.g) := ⟨HSt.out.k.b1.cell 0, (by have h := HSt.out.k.b1.cell 1; simp only [List.getElem?_toArray, List.getElem?_cons_zero, List.getElem?_cons_succ, hA] at h; exact h), HSt.out.k.b2.cell 0, HSt.out.k.b2.cell 1, HSt.out.z 0 _ rfl, HSt.out.z 1 _ rfl, HSt.out.z 2 _ rfl, HSt.out.z 3 _ rfl, HSt.out.z 4 _ rfl, HSt.out.z 5 _ rfl, HSt.out.z 6 _ rfl, HSt.out.z 7 _ rfl, HSt.out.z 8 _ rfl⟩
  refine Eng.regionT (.take 0 (.take 1 (.take 2 (.take 3 (.take 4 (.take 5 (.alt 6 (.take 7 (.done)) (.stop)))))))) (fun w' => w'.cell? ⟨n, 0, none⟩ = some (.slice d1.A1 d1.O.length d1.c1) ∧ w'.cell? ⟨n, 1, none⟩ = some (.slice (some ⟨bz, oz, none⟩) d1.I.length d1.c2) ∧ w'.cell? ⟨(n + 1), 0, none⟩ = some (.slice d2.A1 d2.O.length d2.c1) ∧ w'.cell? ⟨(n + 1), 1, none⟩ = some (.slice d2.A2 d2.I.length d2.c2) ∧ w'.cell? ⟨bz, oz + k * 9, none⟩ = some (.int .i64 z.t) ∧ w'.cell? ⟨bz, oz + k * 9 + 1, none⟩ = some (.int .i64 z.i) ∧ w'.cell? ⟨bz, oz + k * 9 + 1 + 1, none⟩ = some (.int .i64 z.p) ∧ w'.cell? ⟨bz, oz + k * 9 + 1 + 1 + 1, none⟩ = some (.int .i64 z.r) ∧ w'.cell? ⟨bz, oz + k * 9 + 1 + 1 + 1 + 1, none⟩ = some (.string z.s) ∧ w'.cell? ⟨bz, oz + k * 9 + 1 + 1 + 1 + 1 + 1, none⟩ = some (.string z.o) ∧ w'.cell? ⟨bz, oz + k * 9 + 1 + 1 + 1 + 1 + 1 + 1, none⟩ = some (.int .i64 z.b) ∧ w'.cell? ⟨bz, oz + k * 9 + 1 + 1 + 1 + 1 + 1 + 1 + 1, none⟩ = some (.int .i64 z.d) ∧ w'.cell? ⟨bz, oz + k * 9 + 1 + 1 + 1 + 1 + 1 + 1 + 1 + 1, none⟩ = some (.bool z.g)) (by kernel_rfl) 132 hn (by kernel_rfl) (by kernel_rfl) (by kernel_rfl) (hSS) (fun a b ha hb => ?_)
  subst ha
  have hb2 : b 2 = .pointer (some ⟨n, 0, none⟩) := (hb 2).symm.trans h_2
  have hb3 : b 3 = .pointer (some ⟨n + 1, 0, none⟩) := (hb 3).symm.trans h_3
  have hb12 : b 12 = .int .i64 (k : Int) := (hb 12).symm.trans h_12
  clear hb h_2 h_3 h_12
  have HP := Lib.hid hpost; have HN := Lib.hid hn
  clear hpost hn
  refine Eng.TW.take' (v := ?_) rfl rfl (by decide) (by kernel_rfl) (fun w hw => ?_) ?_
  rotate_left
  · (try dsimp only at hw); go_simp; first | done | with_reducible rfl
  refine Eng.TW.take' (v := ?_) rfl rfl (by decide) (by kernel_rfl) (fun w hw => ?_) ?_
  rotate_left
  · (try dsimp only at hw); go_simp; first | done | with_reducible rfl
  refine Eng.TW.take' (v := ?_) rfl rfl (by decide) (by kernel_rfl) (fun w hw => ?_) ?_
  rotate_left
  · (try dsimp only at hw); go_simp; first | done | with_reducible rfl
  refine Eng.TW.take' (v := ?_) rfl rfl (by decide) (by kernel_rfl) (fun w hw => ?_) ?_
  rotate_left
  · (try dsimp only at hw); go_simp; first | done | with_reducible rfl
  refine Eng.TW.take' (v := ?_) rfl rfl (by decide) (by kernel_rfl) (fun w hw => ?_) ?_
  rotate_left
  · (try dsimp only at hw); go_simp; first | done | with_reducible rfl
  refine Eng.TW.take' (v := ?_) rfl rfl (by decide) (by kernel_rfl) (fun w hw => ?_) ?_
  rotate_left
  · (try dsimp only at hw); go_simp; first | done | with_reducible rfl
  refine Eng.TW.call rfl rfl (by decide) (by kernel_rfl) ?_ (saysB (d := d2) (z := z) HSt.out.k.l2 q hs) ?_
  · go_simp
  rintro e w2 ⟨rfl, hf⟩
  have HSt2 := Lib.hid (HSt.out.keep hf)
  have hSS : w2.cell? ⟨n, 0, none⟩ = some (.slice d1.A1 d1.O.length d1.c1) ∧ w2.cell? ⟨n, 1, none⟩ = some (.slice (some ⟨bz, oz, none⟩) d1.I.length d1.c2) ∧ w2.cell? ⟨(n + 1), 0, none⟩ = some (.slice d2.A1 d2.O.length d2.c1) ∧ w2.cell? ⟨(n + 1), 1, none⟩ = some (.slice d2.A2 d2.I.length d2.c2) ∧ w2.cell? ⟨bz, oz + k * 9, none⟩ = some (.int .i64 z.t) ∧ w2.cell? ⟨bz, oz + k * 9 + 1, none⟩ = some (.int .i64 z.i) ∧ w2.cell? ⟨bz, oz + k * 9 + 1 + 1, none⟩ = some (.int .i64 z.p) ∧ w2.cell? ⟨bz, oz + k * 9 + 1 + 1 + 1, none⟩ = some (.int .i64 z.r) ∧ w2.cell? ⟨bz, oz + k * 9 + 1 + 1 + 1 + 1, none⟩ = some (.string z.s) ∧ w2.cell? ⟨bz, oz + k * 9 + 1 + 1 + 1 + 1 + 1, none⟩ = some (.string z.o) ∧ w2.cell? ⟨bz, oz + k * 9 + 1 + 1 + 1 + 1 + 1 + 1, none⟩ = some (.int .i64 z.b) ∧ w2.cell? ⟨bz, oz + k * 9 + 1 + 1 + 1 + 1 + 1 + 1 + 1, none⟩ = some (.int .i64 z.d) ∧ w2.cell? ⟨bz, oz + k * 9 + 1 + 1 + 1 + 1 + 1 + 1 + 1 + 1, none⟩ = some (.bool z.g) := ⟨HSt2.out.k.b1.cell 0, (by have h := HSt2.out.k.b1.cell 1; simp only [List.getElem?_toArray, List.getElem?_cons_zero, List.getElem?_cons_succ, hA] at h; exact h), HSt2.out.k.b2.cell 0, HSt2.out.k.b2.cell 1, HSt2.out.z 0 _ rfl, HSt2.out.z 1 _ rfl, HSt2.out.z 2 _ rfl, HSt2.out.z 3 _ rfl, HSt2.out.z 4 _ rfl, HSt2.out.z 5 _ rfl, HSt2.out.z 6 _ rfl, HSt2.out.z 7 _ rfl, HSt2.out.z 8 _ rfl⟩
  clear hf
  refine ⟨_, rfl, hSS, ?_⟩
  refine Eng.TW.take' (v := ?_) rfl rfl (by decide) (by kernel_rfl) (fun w hw => ?_) ?_
  rotate_left
  · (try dsimp only at hw); go_simp; first | done | with_reducible rfl
  refine Eng.TW.end_ [110, 111, 112, 113, 114, 115, 116, 117] HN.out (by kernel_rfl) (by kernel_rfl) ?_
  exact HP.out _ _ rfl HSt2.out.k HSt2.out.f

end RefD
end Go.Proofs.YtkhhdadlpilbmaaGreat
