/- The document's kept record; which record goes ahead. -/
import Derived.Test.YtdpngmgaomghoaaGreatRank
namespace Go.Proofs.YtdpngmgaomghoaaGreat
open Go.RowKit
namespace Ref10
open KeyP PackP Vari SetW Name Code_ Rank
attribute [local go_sem] Eng.ev Eng.getO_cons Eng.getO_nil
structure RS (w0 w : World) (B R : Nat) (x : Sn) (c : Array Value) : Prop where
 a : At w B 0 x
 r : Bk w R c TSn
 f : Fr (fun _ => False) w0 w
 n : w0.heap.size ≤ R
 nb : B ≠ R
theorem RS.fr {w0 w w' : World} {B R : Nat} {x : Sn} {c : Array Value} (h : RS w0 w B R x c) (hf : Fr (fun _ => False) w w') : RS w0 w' B R x c := ⟨h.a.keep hf, h.r.fr hf (fun _ _ h => h), h.f.trans hf (fun _ _ h => h) (fun _ _ h => h), h.n, h.nb⟩
structure RT (w0 w : World) (B R : Nat) (x : Sn) : Prop where
 a : At w B 0 x
 r : Bk w R (Sat2.keptS x).arr TSn
 f : Fr (fun _ => False) w0 w
theorem frs {w W : World} {R k : Nat} {u : Value} (h : Fr (fun b => b = R) w W) : Fr (fun b => b = R) w (W.setCell ⟨R, k, none⟩ u) := h.trans (Fr.setCell W ⟨R, k, none⟩ u (S := fun b => b = R) rfl) (fun _ _ h => h) (fun _ _ h => h)
theorem bks {w : World} {R : Nat} {v0 v1 v2 v3 v4 v5 v6 v7 v8 u0 u1 u2 u3 u4 u5 u6 u7 u8 : Value} (h : Bk w R #[v0, v1, v2, v3, v4, v5, v6, v7, v8] TSn) : Bk (((((((((w.setCell ⟨R, 0, none⟩ u0).setCell ⟨R, 1, none⟩ u1).setCell ⟨R, 2, none⟩ u2).setCell ⟨R, 3, none⟩ u3).setCell ⟨R, 4, none⟩ u4).setCell ⟨R, 5, none⟩ u5).setCell ⟨R, 6, none⟩ u6).setCell ⟨R, 7, none⟩ u7).setCell ⟨R, 8, none⟩ u8) R #[u0, u1, u2, u3, u4, u5, u6, u7, u8] TSn := by
 have := ((((((((h.set 0 u0).set 1 u1).set 2 u2).set 3 u3).set 4 u4).set 5 u5).set 6 u6).set 7 u7).set 8 u8
 simp only [List.setIfInBounds_toArray, List.set_cons_succ, List.set_cons_zero] at this
 exact this
theorem RS.store {w0 w : World} {B R : Nat} {x : Sn} {v0 v1 v2 v3 v4 v5 v6 v7 v8 : Value} (h : RS w0 w B R x #[v0, v1, v2, v3, v4, v5, v6, v7, v8]) : RT w0 ((((((((((w).setCell ⟨R, 0, none⟩ (.int .i64 x.t)).setCell ⟨R, 1, none⟩ (.int .i64 x.i)).setCell ⟨R, 2, none⟩ (.int .i64 x.p)).setCell ⟨R, 3, none⟩ (.int .i64 x.r)).setCell ⟨R, 4, none⟩ (.string x.s)).setCell ⟨R, 5, none⟩ (.string x.o)).setCell ⟨R, 6, none⟩ (.int .i64 x.b)).setCell ⟨R, 7, none⟩ (.int .i64 (Sat2.kd x.d))).setCell ⟨R, 8, none⟩ (.bool x.g)) B R x :=
 have hf := frs (frs (frs (frs (frs (frs (frs (frs (frs (Fr.refl (fun b => b = R) w)))))))))
 ⟨h.a.fr hf h.nb, bks h.r, h.f.trans hf (fun _ _ h => h) (fun k hk e => by have := h.n; omega)⟩
set_option maxRecDepth 100000 in
set_option maxHeartbeats 2000000 in
theorem k1 {ops : Array Oper} (hops : Eng.fnOps Tryz.f174 1 = ops) (a0 : Act) (Q : Exit → Act → World → Prop) (w0 w : World) (B R : Nat) (x : Sn) (v0 v1 v2 v3 v4 v5 v6 v7 v8 : Value) (hst : RS w0 w B R x #[v0, v1, v2, v3, v4, v5, v6, v7, v8])
  (hn : a0.tmps.size = 23) (h_1 : a0.tmps.getD 1 undef = .pointer (some ⟨B, 0, none⟩)) (h_2 : a0.tmps.getD 2 undef = .pointer (some ⟨R, 0, none⟩))
  (hpost : ∀ (x_ : Nat → Value) (w' : World), RT w0 w' B R x → Q .normal (Eng.setAll a0 [3, 4, 5, 6, 7, 8, 9, 10, 11, 12, 13, 14, 15, 16, 17, 18, 19, 20, 21, 22] x_) w') :
  (Code.region 1 ops true).wp Tryz.prog Q a0 w := by
 simp only [Eng.fnOps, Eng.regOps, Tryz.f174, Option.bind_some, Option.getD_some, Nat.reduceEqDiff, ↓reduceIte] at hops
 subst hops
 have q0 : w.frozen? ⟨R, 0, none⟩ = false := hst.r.free 0
 have q1 : w.frozen? ⟨R, 1, none⟩ = false := hst.r.free 1
 have q2 : w.frozen? ⟨R, 2, none⟩ = false := hst.r.free 2
 have q3 : w.frozen? ⟨R, 3, none⟩ = false := hst.r.free 3
 have q4 : w.frozen? ⟨R, 4, none⟩ = false := hst.r.free 4
 have q5 : w.frozen? ⟨R, 5, none⟩ = false := hst.r.free 5
 have q6 : w.frozen? ⟨R, 6, none⟩ = false := hst.r.free 6
 have q7 : w.frozen? ⟨R, 7, none⟩ = false := hst.r.free 7
 have q8 : w.frozen? ⟨R, 8, none⟩ = false := hst.r.free 8
 have r0 : w.cell? ⟨R, 0, none⟩ = some v0 := hst.r.cell 0
 have r1 : w.cell? ⟨R, 1, none⟩ = some v1 := hst.r.cell 1
 have r2 : w.cell? ⟨R, 2, none⟩ = some v2 := hst.r.cell 2
 have r3 : w.cell? ⟨R, 3, none⟩ = some v3 := hst.r.cell 3
 have r4 : w.cell? ⟨R, 4, none⟩ = some v4 := hst.r.cell 4
 have r5 : w.cell? ⟨R, 5, none⟩ = some v5 := hst.r.cell 5
 have r6 : w.cell? ⟨R, 6, none⟩ = some v6 := hst.r.cell 6
 have r7 : w.cell? ⟨R, 7, none⟩ = some v7 := hst.r.cell 7
 have r8 : w.cell? ⟨R, 8, none⟩ = some v8 := hst.r.cell 8
 have HSt := Lib.hid (hst.fr (Fr.drew _ _))
 have hSS : w.drew.cell? ⟨B, 0, none⟩ = some (.int .i64 x.t) ∧ w.drew.cell? ⟨B, 1, none⟩ = some (.int .i64 x.i) ∧ w.drew.cell? ⟨B, 2, none⟩ = some (.int .i64 x.p) ∧ w.drew.cell? ⟨B, 3, none⟩ = some (.int .i64 x.r) ∧ w.drew.cell? ⟨B, 4, none⟩ = some (.string x.s) ∧ w.drew.cell? ⟨B, 5, none⟩ = some (.string x.o) ∧ w.drew.cell? ⟨B, 6, none⟩ = some (.int .i64 x.b) ∧ w.drew.cell? ⟨B, 7, none⟩ = some (.int .i64 x.d) ∧ w.drew.cell? ⟨B, 8, none⟩ = some (.bool x.g) := ⟨HSt.out.a 0 _ rfl, HSt.out.a 1 _ rfl, HSt.out.a 2 _ rfl, HSt.out.a 3 _ rfl, HSt.out.a 4 _ rfl, HSt.out.a 5 _ rfl, HSt.out.a 6 _ rfl, HSt.out.a 7 _ rfl, HSt.out.a 8 _ rfl⟩
 refine Eng.regionT (.take 0 (.take 1 (.take 2 (.take 3 (.take 4 (.take 5 (.take 6 (.take 7 (.take 8 (.take 9 (.take 10 (.take 11 (.take 12 (.take 13 (.take 14 (.take 15 (.take 17 (.take 18 (.alt 16 (.take 19 (.alt 20 (.done) (.stop))) (.stop)))))))))))))))))))) (fun w' => w'.cell? ⟨B, 0, none⟩ = some (.int .i64 x.t) ∧ w'.cell? ⟨B, 1, none⟩ = some (.int .i64 x.i) ∧ w'.cell? ⟨B, 2, none⟩ = some (.int .i64 x.p) ∧ w'.cell? ⟨B, 3, none⟩ = some (.int .i64 x.r) ∧ w'.cell? ⟨B, 4, none⟩ = some (.string x.s) ∧ w'.cell? ⟨B, 5, none⟩ = some (.string x.o) ∧ w'.cell? ⟨B, 6, none⟩ = some (.int .i64 x.b) ∧ w'.cell? ⟨B, 7, none⟩ = some (.int .i64 x.d) ∧ w'.cell? ⟨B, 8, none⟩ = some (.bool x.g)) (by kernel_rfl) 23 hn (by kernel_rfl) (by kernel_rfl) (by kernel_rfl) (hSS) (fun a b ha hb => ?_)
 subst ha
 have hb1 : b 1 = .pointer (some ⟨B, 0, none⟩) := (hb 1).symm.trans h_1
 have hb2 : b 2 = .pointer (some ⟨R, 0, none⟩) := (hb 2).symm.trans h_2
 clear hb h_1 h_2
 have HP := Lib.hid hpost; have HN := Lib.hid hn
 clear hpost hn
 iterate 18 (refine Eng.TW.take' (v := ?_) rfl rfl (by decide) (by kernel_rfl) (fun w hw => ?_) ?_; rotate_left; · (try dsimp only at hw); go_simp; first | done | with_reducible rfl)
 refine Eng.TW.call rfl rfl (by decide) (by kernel_rfl) ?_ (Sat2.RefClamp x.d _) ?_
 ·go_simp
 rintro e w_2 ⟨rfl, rfl⟩
 refine ⟨_, rfl, hSS, ?_⟩
 refine Eng.TW.take' (v := ?_) rfl rfl (by decide) (by kernel_rfl) (fun w hw => ?_) ?_
 rotate_left
 ·(try dsimp only at hw); go_simp; first | done | with_reducible rfl
 refine Eng.TW.step0 rfl rfl (by kernel_rfl) (by go_simp; first | done | with_reducible rfl) (⟨(HSt.out.store).a 0 _ rfl, (HSt.out.store).a 1 _ rfl, (HSt.out.store).a 2 _ rfl, (HSt.out.store).a 3 _ rfl, (HSt.out.store).a 4 _ rfl, (HSt.out.store).a 5 _ rfl, (HSt.out.store).a 6 _ rfl, (HSt.out.store).a 7 _ rfl, (HSt.out.store).a 8 _ rfl⟩) ?_
 have HSt3 := Lib.hid (HSt.out.store)
 have hSS : ((((((((((w.drew).setCell ⟨R, 0, none⟩ (.int .i64 x.t)).setCell ⟨R, 1, none⟩ (.int .i64 x.i)).setCell ⟨R, 2, none⟩ (.int .i64 x.p)).setCell ⟨R, 3, none⟩ (.int .i64 x.r)).setCell ⟨R, 4, none⟩ (.string x.s)).setCell ⟨R, 5, none⟩ (.string x.o)).setCell ⟨R, 6, none⟩ (.int .i64 x.b)).setCell ⟨R, 7, none⟩ (.int .i64 (Sat2.kd x.d))).setCell ⟨R, 8, none⟩ (.bool x.g)).cell? ⟨B, 0, none⟩ = some (.int .i64 x.t) ∧ ((((((((((w.drew).setCell ⟨R, 0, none⟩ (.int .i64 x.t)).setCell ⟨R, 1, none⟩ (.int .i64 x.i)).setCell ⟨R, 2, none⟩ (.int .i64 x.p)).setCell ⟨R, 3, none⟩ (.int .i64 x.r)).setCell ⟨R, 4, none⟩ (.string x.s)).setCell ⟨R, 5, none⟩ (.string x.o)).setCell ⟨R, 6, none⟩ (.int .i64 x.b)).setCell ⟨R, 7, none⟩ (.int .i64 (Sat2.kd x.d))).setCell ⟨R, 8, none⟩ (.bool x.g)).cell? ⟨B, 1, none⟩ = some (.int .i64 x.i) ∧ ((((((((((w.drew).setCell ⟨R, 0, none⟩ (.int .i64 x.t)).setCell ⟨R, 1, none⟩ (.int .i64 x.i)).setCell ⟨R, 2, none⟩ (.int .i64 x.p)).setCell ⟨R, 3, none⟩ (.int .i64 x.r)).setCell ⟨R, 4, none⟩ (.string x.s)).setCell ⟨R, 5, none⟩ (.string x.o)).setCell ⟨R, 6, none⟩ (.int .i64 x.b)).setCell ⟨R, 7, none⟩ (.int .i64 (Sat2.kd x.d))).setCell ⟨R, 8, none⟩ (.bool x.g)).cell? ⟨B, 2, none⟩ = some (.int .i64 x.p) ∧ ((((((((((w.drew).setCell ⟨R, 0, none⟩ (.int .i64 x.t)).setCell ⟨R, 1, none⟩ (.int .i64 x.i)).setCell ⟨R, 2, none⟩ (.int .i64 x.p)).setCell ⟨R, 3, none⟩ (.int .i64 x.r)).setCell ⟨R, 4, none⟩ (.string x.s)).setCell ⟨R, 5, none⟩ (.string x.o)).setCell ⟨R, 6, none⟩ (.int .i64 x.b)).setCell ⟨R, 7, none⟩ (.int .i64 (Sat2.kd x.d))).setCell ⟨R, 8, none⟩ (.bool x.g)).cell? ⟨B, 3, none⟩ = some (.int .i64 x.r) ∧ ((((((((((w.drew).setCell ⟨R, 0, none⟩ (.int .i64 x.t)).setCell ⟨R, 1, none⟩ (.int .i64 x.i)).setCell ⟨R, 2, none⟩ (.int .i64 x.p)).setCell ⟨R, 3, none⟩ (.int .i64 x.r)).setCell ⟨R, 4, none⟩ (.string x.s)).setCell ⟨R, 5, none⟩ (.string x.o)).setCell ⟨R, 6, none⟩ (.int .i64 x.b)).setCell ⟨R, 7, none⟩ (.int .i64 (Sat2.kd x.d))).setCell ⟨R, 8, none⟩ (.bool x.g)).cell? ⟨B, 4, none⟩ = some (.string x.s) ∧ ((((((((((w.drew).setCell ⟨R, 0, none⟩ (.int .i64 x.t)).setCell ⟨R, 1, none⟩ (.int .i64 x.i)).setCell ⟨R, 2, none⟩ (.int .i64 x.p)).setCell ⟨R, 3, none⟩ (.int .i64 x.r)).setCell ⟨R, 4, none⟩ (.string x.s)).setCell ⟨R, 5, none⟩ (.string x.o)).setCell ⟨R, 6, none⟩ (.int .i64 x.b)).setCell ⟨R, 7, none⟩ (.int .i64 (Sat2.kd x.d))).setCell ⟨R, 8, none⟩ (.bool x.g)).cell? ⟨B, 5, none⟩ = some (.string x.o) ∧ ((((((((((w.drew).setCell ⟨R, 0, none⟩ (.int .i64 x.t)).setCell ⟨R, 1, none⟩ (.int .i64 x.i)).setCell ⟨R, 2, none⟩ (.int .i64 x.p)).setCell ⟨R, 3, none⟩ (.int .i64 x.r)).setCell ⟨R, 4, none⟩ (.string x.s)).setCell ⟨R, 5, none⟩ (.string x.o)).setCell ⟨R, 6, none⟩ (.int .i64 x.b)).setCell ⟨R, 7, none⟩ (.int .i64 (Sat2.kd x.d))).setCell ⟨R, 8, none⟩ (.bool x.g)).cell? ⟨B, 6, none⟩ = some (.int .i64 x.b) ∧ ((((((((((w.drew).setCell ⟨R, 0, none⟩ (.int .i64 x.t)).setCell ⟨R, 1, none⟩ (.int .i64 x.i)).setCell ⟨R, 2, none⟩ (.int .i64 x.p)).setCell ⟨R, 3, none⟩ (.int .i64 x.r)).setCell ⟨R, 4, none⟩ (.string x.s)).setCell ⟨R, 5, none⟩ (.string x.o)).setCell ⟨R, 6, none⟩ (.int .i64 x.b)).setCell ⟨R, 7, none⟩ (.int .i64 (Sat2.kd x.d))).setCell ⟨R, 8, none⟩ (.bool x.g)).cell? ⟨B, 7, none⟩ = some (.int .i64 x.d) ∧ ((((((((((w.drew).setCell ⟨R, 0, none⟩ (.int .i64 x.t)).setCell ⟨R, 1, none⟩ (.int .i64 x.i)).setCell ⟨R, 2, none⟩ (.int .i64 x.p)).setCell ⟨R, 3, none⟩ (.int .i64 x.r)).setCell ⟨R, 4, none⟩ (.string x.s)).setCell ⟨R, 5, none⟩ (.string x.o)).setCell ⟨R, 6, none⟩ (.int .i64 x.b)).setCell ⟨R, 7, none⟩ (.int .i64 (Sat2.kd x.d))).setCell ⟨R, 8, none⟩ (.bool x.g)).cell? ⟨B, 8, none⟩ = some (.bool x.g) := ⟨HSt3.out.a 0 _ rfl, HSt3.out.a 1 _ rfl, HSt3.out.a 2 _ rfl, HSt3.out.a 3 _ rfl, HSt3.out.a 4 _ rfl, HSt3.out.a 5 _ rfl, HSt3.out.a 6 _ rfl, HSt3.out.a 7 _ rfl, HSt3.out.a 8 _ rfl⟩
 refine Eng.TW.end_ [3, 4, 5, 6, 7, 8, 9, 10, 11, 12, 13, 14, 15, 16, 17, 18, 19, 20, 21, 22] HN.out (by kernel_rfl) (by kernel_rfl) ?_
 exact HP.out _ _ HSt3.out
set_option maxRecDepth 100000 in
theorem Kept (x : Sn) (w : World) : Calls Tryz.prog 174 #[x.v] w fun e w' => e = .returned (Sat2.keptS x).v ∧ Fr (fun _ => False) w w' := by
 have HP : Hid (RS w ((w.alloc (.cells x.arr TSn)).alloc (.cells #[.int .i64 0, .int .i64 0, .int .i64 0, .int .i64 0, .string ⟨#[]⟩, .string ⟨#[]⟩, .int .i64 0, .int .i64 0, .bool false] TSn)) w.heap.size (w.heap.size + 1) x #[.int .i64 0, .int .i64 0, .int .i64 0, .int .i64 0, .string ⟨#[]⟩, .string ⟨#[]⟩, .int .i64 0, .int .i64 0, .bool false]) := by
  refine ⟨(At.box (Bk.new w x.arr TSn)).keep (Fr.alloc _ _ _), ?_, (Fr.alloc (fun _ => False) w _).trans (Fr.alloc (fun _ => False) _ _) (fun _ _ h => h) (fun _ _ h => h), by omega, by omega⟩
  have := Bk.new (w.alloc (.cells x.arr TSn)) #[.int .i64 0, .int .i64 0, .int .i64 0, .int .i64 0, .string ⟨#[]⟩, .string ⟨#[]⟩, .int .i64 0, .int .i64 0, .bool false] TSn
  rwa [World.size_alloc] at this
 go_enter Tryz.func174, Tryz.ntmps174
 go_upto_region 1 with (fail)
 refine k1 (by kernel_rfl) _ _ w _ w.heap.size (w.heap.size + 1) x _ _ _ _ _ _ _ _ _ HP.out rfl rfl rfl ?_
 intro x_ w1 hst
 simp only [Eng.setAll, Act.put, List.setIfInBounds_toArray, List.set_cons_succ, List.set_cons_zero]
 have HR := Lib.hid hst.r; have HF := Lib.hid hst.f
 clear hst
 go_wp2_with fail
 exact bodyPost_ret (results_cell_row rfl _ _ (w.heap.size + 1) TSn _ (0, 0) _ rfl HR.out Tryz.underlying29 rfl (by kernel_rfl)) rfl ⟨rfl, HF.out⟩
end Ref10
end Go.Proofs.YtdpngmgaomghoaaGreat
