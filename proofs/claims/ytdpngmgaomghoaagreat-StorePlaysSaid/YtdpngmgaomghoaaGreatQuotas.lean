/- Quotas: the walks of their methods. -/
import Derived.Test.YtdpngmgaomghoaaGreatQuotaPs
import Derived.Test.YtdpngmgaomghoaaGreatEngs
import Derived.Test.YtdpngmgaomghoaaGreatRef01
import Derived.Test.YtdpngmgaomghoaaGreatAvlII2
import Derived.Deep.DeepCutAuto
namespace Go.Proofs.YtdpngmgaomghoaaGreat
open Tryz
set_option maxRecDepth 100000
set_option maxHeartbeats 400000
open Go.RowKit
namespace Quota
open BagP QuotaP
attribute [local go_sem] Eng.ev Eng.getO_cons Eng.getO_nil
abbrev TQ : TypeId := 195
abbrev TM : TypeId := 193
abbrev TSp : TypeId := 29
theorem uM : prog.underlying TM = some (.map 3 3) := underlying193
structure Sp where
 t : Int
 i : Int
 p : Int
 r : Int
 s : ByteArray
 o : ByteArray
 b : Int
 d : Int
 g : Bool
abbrev Sp.cs (x : Sp) : List Value := [.int .i64 x.t, .int .i64 x.i, .int .i64 x.p, .int .i64 x.r, .string x.s, .string x.o, .int .i64 x.b, .int .i64 x.d, .bool x.g]
theorem Sp.cs_len (x : Sp) : x.cs.length = 9 := rfl
structure QB (w : World) (B r : Nat) (all tr : Int) (L : List (Int × Int)) : Prop where
 blk : Bk w B #[.int .i64 all, .int .i64 tr, .int .i64 (sumL L), .map (some r)] TQ
 gm : GM w r L
 ne : B ≠ r
 cs : Cs L
 most : sumL L ≤ 1000000
def QZ (w : World) (B : Nat) (all tr : Int) (L : List (Int × Int)) (F : List Nat) : Prop := ∃ r, QB w B r all tr L ∧ F = [B, r]
theorem QB.fr {S : Nat → Prop} {w w' : World} {B r : Nat} {all tr : Int} {L : List (Int × Int)} (h : QB w B r all tr L) (hf : Fr S w w') (h1 : ¬ S B) (h2 : ¬ S r) : QB w' B r all tr L :=
 ⟨h.blk.fr hf (fun b hb => by simp at hb; subst hb; exact h1), h.gm.fr hf (fun b hb => by simp at hb; subst hb; exact h2), h.ne, h.cs, h.most⟩
theorem QB.len {w : World} {B r : Nat} {all tr : Int} {L : List (Int × Int)} (h : QB w B r all tr L) : L.length ≤ 1000000 := by
 have h1 := len_sum h.cs.pos
 have := h.most
 omega
theorem wf_small {n : Int} (h0 : 0 ≤ n) (h1 : n ≤ 10000000) : wfI n := by
 show (Lit.int .i64 n).wf = true
 simp only [Lit.wf, Bool.and_eq_true, decide_eq_true_eq]
 have e1 : IntKind.i64.min = -9223372036854775808 := rfl
 have e2 : IntKind.i64.max = 9223372036854775807 := rfl
 omega
theorem Of (B r : Nat) (all tr t : Int) (L : List (Int × Int)) (w : World) (h : QB w B r all tr L) (ht : wfI t) :
  Calls prog 182 #[.pointer (some ⟨B, 0, none⟩), .int .i64 t] w fun e w' => e = .returned (.int .i64 (cnt t L)) ∧ w = w' := by
 have c3 : w.cell? ⟨B, 3, none⟩ = some (.map (some r)) := h.blk.cell 3
 have hl := h.gm.look uM ht
 have HC := Lib.hid (show (getL t L).getD 0 = cnt t L from rfl)
 generalize (getL t L).getD 0 = n at *
 clear h
 go_enter func182, ntmps182
 go_wp2
 go_ret
 exact ⟨by rw [← HC.out]; rfl, rfl⟩
theorem Len (B r : Nat) (all tr : Int) (L : List (Int × Int)) (w : World) (h : QB w B r all tr L) :
  Calls prog 130 #[.pointer (some ⟨B, 0, none⟩)] w fun e w' => e = .returned (.int .i64 (sumL L)) ∧ w = w' := by
 have c3 : w.cell? ⟨B, 2, none⟩ = some (.int .i64 (sumL L)) := h.blk.cell 2
 clear h
 go_enter func130, ntmps130
 go_wp2
 go_ret
 exact ⟨rfl, rfl⟩
def NewPost (all tr : Int) (w : World) (e : Ending) (w' : World) : Prop :=
 ∃ F, e = .returned (.pointer (some ⟨w.heap.size + 1, 0, none⟩)) ∧ QZ w' (w.heap.size + 1) (max all 0) (max tr 0) [] F ∧ (∀ b ∈ F, w.heap.size ≤ b ∧ b < w'.heap.size) ∧ Below w.heap.size w w'
theorem New (all tr : Int) (w : World) : Calls prog 79 #[.int .i64 all, .int .i64 tr] w (NewPost all tr w) := by
 have hmm := @run_makeMap prog
 have HE : Hid (∀ a b : Int, a = max all 0 → b = max tr 0 → ∀ e, e = Ending.returned (.pointer (some ⟨w.heap.size + 1, 0, none⟩)) → NewPost all tr w e ((w.alloc (.map #[] 0)).alloc (.cells #[.int .i64 a, .int .i64 b, .int .i64 0, .map (some w.heap.size)] TQ))) := fun a b ha hb e he => by
  have b1 := Bk.new (w.alloc (.map #[] 0)) #[.int .i64 a, .int .i64 b, .int .i64 0, .map (some w.heap.size)] TQ
  rw [World.size_alloc] at b1
  exact ⟨[w.heap.size + 1, w.heap.size], he, ⟨w.heap.size, ⟨ha ▸ hb ▸ b1, (GM.new w).fr (Fr.alloc (fun _ => False) _ _) (fun _ _ h => h), by omega, Cs.nil, by simp [sumL]⟩, rfl⟩, by simp; omega, ((Below.refl _ w).alloc (Nat.le_refl _) _).alloc (by simp) _⟩
 by_cases ha : all < 0
 all_goals
  by_cases ht : tr < 0
  all_goals
   go_enter func79, ntmps79
   go_wp2
   go_ret
   exact HE.out _ _ (by omega) (by omega) _ rfl
theorem o1full {ops : Array Oper} (hops : Eng.fnOps Tryz.f141 1 = ops) (a0 : Act) (Q : Exit → Act → World → Prop) (B r Bx : Nat) (all tr t n s : Int) (L : List (Int × Int)) (w : World) (hst : QB w B r all tr L) (hs : Hid (s = sumL L)) (_hnn : Hid (n = (getL t L).getD 0)) (_e1 : w.cell? ⟨Bx, 0, none⟩ = some (.int .i64 t)) (_ht : wfI t) (q1 : all ≤ s)
  (hn : a0.tmps.size = 43) (h_0 : a0.tmps.getD 0 undef = .pointer (some ⟨B, 0, none⟩))
  (hpost : ∀ (x : Nat → Value) (w' : World), x 27 = .bool true → w' = w.drew → Q .normal (Eng.setAll a0 [5, 6, 7, 8, 9, 10, 11, 12, 13, 14, 15, 16, 17, 18, 19, 20, 21, 22, 23, 24, 25, 26, 27] x) w') :
  (Code.region 1 ops true).wp prog Q a0 w := by
 simp only [Eng.fnOps, Eng.regOps, Tryz.f141, Option.bind_some, Option.getD_some, Nat.reduceEqDiff, ↓reduceIte] at hops
 subst hops
 have HSt := Lib.hid (hst.fr (Fr.drew (fun _ => False) w) (fun h => h) (fun h => h))
 refine Eng.regionN [(0, true), (1, true), (2, true), (3, true), (4, true), (5, true), (6, true), (7, true), (8, true), (9, true), (10, true), (11, true), (12, true), (13, true), (14, true), (15, true), (16, true), (17, true), (18, true), (19, true), (20, true), (21, true), (22, true)] (fun w' => w'.cell? ⟨B, 2, none⟩ = some (.int .i64 s) ∧ w'.cell? ⟨B, 0, none⟩ = some (.int .i64 all)) (by kernel_rfl) 43 hn (by kernel_rfl) rfl (by kernel_rfl) (⟨(by rw [hs.out]; exact HSt.out.blk.cell 2), HSt.out.blk.cell 0⟩) (fun a b ha hb => ?_)
 subst ha
 have hb0 : b 0 = .pointer (some ⟨B, 0, none⟩) := (hb 0).symm.trans h_0
 clear hb h_0
 have HP := Lib.hid hpost; have HN := Lib.hid hn
 clear hpost hn
 iterate 10 (refine Eng.Sch.tk ?_)
 iterate 12 (refine Eng.Sch.skip rfl rfl (by decide) (by kernel_rfl) ?_)
 refine Eng.Sch.tk ?_
 refine Eng.Sch.end_ [5, 6, 7, 8, 9, 10, 11, 12, 13, 14, 15, 16, 17, 18, 19, 20, 21, 22, 23, 24, 25, 26, 27] HN.out (by kernel_rfl) (by kernel_rfl) ?_
 exact HP.out _ _ rfl rfl
theorem o1much {ops : Array Oper} (hops : Eng.fnOps Tryz.f141 1 = ops) (a0 : Act) (Q : Exit → Act → World → Prop) (B r Bx : Nat) (all tr t n s : Int) (L : List (Int × Int)) (w : World) (hst : QB w B r all tr L) (hs : Hid (s = sumL L)) (hnn : Hid (n = (getL t L).getD 0)) (e1 : w.cell? ⟨Bx, 0, none⟩ = some (.int .i64 t)) (ht : wfI t) (q1 : ¬ all ≤ s) (q2 : tr ≤ n)
  (hn : a0.tmps.size = 43) (h_0 : a0.tmps.getD 0 undef = .pointer (some ⟨B, 0, none⟩)) (h_3 : a0.tmps.getD 3 undef = .pointer (some ⟨Bx, 0, none⟩))
  (hpost : ∀ (x : Nat → Value) (w' : World), x 27 = .bool true → w' = w.drew → Q .normal (Eng.setAll a0 [5, 6, 7, 8, 9, 10, 11, 12, 13, 14, 15, 16, 17, 18, 19, 20, 21, 22, 23, 24, 25, 26, 27] x) w') :
  (Code.region 1 ops true).wp prog Q a0 w := by
 simp only [Eng.fnOps, Eng.regOps, Tryz.f141, Option.bind_some, Option.getD_some, Nat.reduceEqDiff, ↓reduceIte] at hops
 subst hops
 have HSt := Lib.hid (hst.fr (Fr.drew (fun _ => False) w) (fun h => h) (fun h => h))
 refine Eng.regionN [(0, true), (1, true), (2, true), (3, true), (4, true), (5, true), (6, true), (7, true), (8, true), (9, true), (10, true), (11, true), (12, true), (13, true), (14, true), (15, true), (16, true), (17, true), (18, true), (19, true), (20, true), (21, true), (22, true)] (fun w' => w'.cell? ⟨B, 2, none⟩ = some (.int .i64 s) ∧ w'.cell? ⟨B, 0, none⟩ = some (.int .i64 all) ∧ w'.cell? ⟨B, 3, none⟩ = some (.map (some r)) ∧ w'.cell? ⟨B, 1, none⟩ = some (.int .i64 tr) ∧ w'.cell? ⟨Bx, 0, none⟩ = some (.int .i64 t) ∧ (Instr.lookup TM (.map (some r)) (.int .i64 t) false).run prog w' = .ok (.int .i64 n) w') (by kernel_rfl) 43 hn (by kernel_rfl) rfl (by kernel_rfl) (⟨(by rw [hs.out]; exact HSt.out.blk.cell 2), HSt.out.blk.cell 0, HSt.out.blk.cell 3, HSt.out.blk.cell 1, e1, (by rw [hnn.out]; exact HSt.out.gm.look uM ht)⟩) (fun a b ha hb => ?_)
 subst ha
 have hb0 : b 0 = .pointer (some ⟨B, 0, none⟩) := (hb 0).symm.trans h_0
 have hb3 : b 3 = .pointer (some ⟨Bx, 0, none⟩) := (hb 3).symm.trans h_3
 clear hb h_0 h_3
 have HP := Lib.hid hpost; have HN := Lib.hid hn
 clear hpost hn
 iterate 23 (refine Eng.Sch.tk ?_)
 refine Eng.Sch.end_ [5, 6, 7, 8, 9, 10, 11, 12, 13, 14, 15, 16, 17, 18, 19, 20, 21, 22, 23, 24, 25, 26, 27] HN.out (by kernel_rfl) (by kernel_rfl) ?_
 exact HP.out _ _ rfl rfl
theorem o1room {ops : Array Oper} (hops : Eng.fnOps Tryz.f141 1 = ops) (a0 : Act) (Q : Exit → Act → World → Prop) (B r Bx : Nat) (all tr t n s : Int) (L : List (Int × Int)) (w : World) (hst : QB w B r all tr L) (hs : Hid (s = sumL L)) (hnn : Hid (n = (getL t L).getD 0)) (e1 : w.cell? ⟨Bx, 0, none⟩ = some (.int .i64 t)) (ht : wfI t) (q1 : ¬ all ≤ s) (q2 : ¬ tr ≤ n)
  (hn : a0.tmps.size = 43) (h_0 : a0.tmps.getD 0 undef = .pointer (some ⟨B, 0, none⟩)) (h_3 : a0.tmps.getD 3 undef = .pointer (some ⟨Bx, 0, none⟩))
  (hpost : ∀ (x : Nat → Value) (w' : World), x 27 = .bool false → w' = w.drew → Q .normal (Eng.setAll a0 [5, 6, 7, 8, 9, 10, 11, 12, 13, 14, 15, 16, 17, 18, 19, 20, 21, 22, 23, 24, 25, 26, 27] x) w') :
  (Code.region 1 ops true).wp prog Q a0 w := by
 simp only [Eng.fnOps, Eng.regOps, Tryz.f141, Option.bind_some, Option.getD_some, Nat.reduceEqDiff, ↓reduceIte] at hops
 subst hops
 have HSt := Lib.hid (hst.fr (Fr.drew (fun _ => False) w) (fun h => h) (fun h => h))
 refine Eng.regionN [(0, true), (1, true), (2, true), (3, true), (4, true), (5, true), (6, true), (7, true), (8, true), (9, true), (10, true), (11, true), (12, true), (13, true), (14, true), (15, true), (16, true), (17, true), (18, true), (19, true), (20, true), (21, true), (22, true)] (fun w' => w'.cell? ⟨B, 2, none⟩ = some (.int .i64 s) ∧ w'.cell? ⟨B, 0, none⟩ = some (.int .i64 all) ∧ w'.cell? ⟨B, 3, none⟩ = some (.map (some r)) ∧ w'.cell? ⟨B, 1, none⟩ = some (.int .i64 tr) ∧ w'.cell? ⟨Bx, 0, none⟩ = some (.int .i64 t) ∧ (Instr.lookup TM (.map (some r)) (.int .i64 t) false).run prog w' = .ok (.int .i64 n) w') (by kernel_rfl) 43 hn (by kernel_rfl) rfl (by kernel_rfl) (⟨(by rw [hs.out]; exact HSt.out.blk.cell 2), HSt.out.blk.cell 0, HSt.out.blk.cell 3, HSt.out.blk.cell 1, e1, (by rw [hnn.out]; exact HSt.out.gm.look uM ht)⟩) (fun a b ha hb => ?_)
 subst ha
 have hb0 : b 0 = .pointer (some ⟨B, 0, none⟩) := (hb 0).symm.trans h_0
 have hb3 : b 3 = .pointer (some ⟨Bx, 0, none⟩) := (hb 3).symm.trans h_3
 clear hb h_0 h_3
 have HP := Lib.hid hpost; have HN := Lib.hid hn
 clear hpost hn
 iterate 23 (refine Eng.Sch.tk ?_)
 refine Eng.Sch.end_ [5, 6, 7, 8, 9, 10, 11, 12, 13, 14, 15, 16, 17, 18, 19, 20, 21, 22, 23, 24, 25, 26, 27] HN.out (by kernel_rfl) (by kernel_rfl) ?_
 exact HP.out _ _ rfl rfl
def OnePost (B r : Nat) (all tr t : Int) (L : List (Int × Int)) (w : World) (e : Ending) (w' : World) : Prop :=
 e = .returned (.bool (okO all tr t L)) ∧ QB w' B r all tr (oneL all tr t L) ∧ Fr (fun k => k = B ∨ k = r) w w'
theorem one (B r : Nat) (all tr : Int) (x : Sp) (L : List (Int × Int)) (w : World) (h : QB w B r all tr L) (ht : wfI x.t) (hm : sumL L < 1000000) :
  Calls prog 141 #[.pointer (some ⟨B, 0, none⟩), .agg #[.int .i64 x.t, .int .i64 x.i, .int .i64 x.p, .int .i64 x.r, .string x.s, .string x.o, .int .i64 x.b, .int .i64 x.d, .bool x.g]] w (OnePost B r all tr x.t L w) := by
 obtain ⟨t, i, p, rv, s, o, b, d, g⟩ := x
 dsimp only at ht ⊢
 have h1 : QB (w.alloc (.cells #[.int .i64 t, .int .i64 i, .int .i64 p, .int .i64 rv, .string s, .string o, .int .i64 b, .int .i64 d, .bool g] TSp)) B r all tr L := h.fr (Fr.alloc (fun _ => False) w _) (fun h => h) (fun h => h)
 have HBx := Lib.hid (Bk.new w #[.int .i64 t, .int .i64 i, .int .i64 p, .int .i64 rv, .string s, .string o, .int .i64 b, .int .i64 d, .bool g] TSp)
 have c1 : (w.alloc (.cells #[.int .i64 t, .int .i64 i, .int .i64 p, .int .i64 rv, .string s, .string o, .int .i64 b, .int .i64 d, .bool g] TSp)).cell? ⟨w.heap.size, 0, none⟩ = some (.int .i64 t) := (Bk.new w _ _).cell 0
 have HF1 := Lib.hid (Fr.alloc (fun k => k = B ∨ k = r) w (.cells #[.int .i64 t, .int .i64 i, .int .i64 p, .int .i64 rv, .string s, .string o, .int .i64 b, .int .i64 d, .bool g] TSp))
 have H1 := Lib.hid h1; have HC1 := Lib.hid c1
 have hcnt := h.cs.pos.cnt t
 have hls := len_sum h.cs.pos
 have hBlt := lt_of_heap h.blk
 have HS := Lib.hid (show (getL t L).getD 0 = cnt t L from rfl)
 clear h h1 c1
 by_cases q1 : all ≤ sumL L
 ·have HOk := Lib.hid (show okO all tr t L = false by simp [okO]; omega)
  go_enter func141, ntmps141
  go_upto_region 1 with (fail)
  refine o1full (by kernel_rfl) _ _ B r w.heap.size all tr t _ _ L _ H1.out (Lib.hid rfl) (Lib.hid rfl) HC1.out ht q1 rfl rfl ?_
  rintro x w' hx rfl
  simp only [Eng.setAll, Act.put, List.setIfInBounds_toArray, List.set_cons_succ, List.set_cons_zero]
  rw [hx]
  clear hx
  go_wp2_with fail
  go_ret
  exact ⟨by rw [HOk.out]; rfl, by unfold oneL; rw [HOk.out, if_neg (by simp)]; exact H1.out.fr (Fr.drew (fun _ => False) _) (fun h => h) (fun h => h), HF1.out.trans (Fr.drew (fun _ => False) _) (fun _ _ h => h) (fun _ _ h => h.elim)⟩
 ·by_cases q2 : tr ≤ cnt t L
  ·have HOk := Lib.hid (show okO all tr t L = false by simp [okO]; omega)
   go_enter func141, ntmps141
   go_upto_region 1 with (fail)
   refine o1much (by kernel_rfl) _ _ B r w.heap.size all tr t (cnt t L) _ L _ H1.out (Lib.hid rfl) (Lib.hid HS.out.symm) HC1.out ht q1 q2 rfl rfl rfl ?_
   rintro x w' hx rfl
   simp only [Eng.setAll, Act.put, List.setIfInBounds_toArray, List.set_cons_succ, List.set_cons_zero]
   rw [hx]
   clear hx
   go_wp2_with fail
   go_ret
   exact ⟨by rw [HOk.out]; rfl, by unfold oneL; rw [HOk.out, if_neg (by simp)]; exact H1.out.fr (Fr.drew (fun _ => False) _) (fun h => h) (fun h => h), HF1.out.trans (Fr.drew (fun _ => False) _) (fun _ _ h => h) (fun _ _ h => h.elim)⟩
  ·have HOk := Lib.hid (show okO all tr t L = true by simp [okO]; omega)
   go_enter func141, ntmps141
   go_upto_region 1 with (fail)
   refine o1room (by kernel_rfl) _ _ B r w.heap.size all tr t (cnt t L) _ L _ H1.out (Lib.hid rfl) (Lib.hid HS.out.symm) HC1.out ht q1 q2 rfl rfl rfl ?_
   rintro x w' hx rfl
   simp only [Eng.setAll, Act.put, List.setIfInBounds_toArray, List.set_cons_succ, List.set_cons_zero]
   rw [hx]
   clear hx
   have H2 := H1.out.fr (Fr.drew (fun _ => False) _) (fun h => h) (fun h => h)
   have HBx2 : Hid (Bk (w.alloc (.cells #[.int .i64 t, .int .i64 i, .int .i64 p, .int .i64 rv, .string s, .string o, .int .i64 b, .int .i64 d, .bool g] TSp)).drew w.heap.size #[.int .i64 t, .int .i64 i, .int .i64 p, .int .i64 rv, .string s, .string o, .int .i64 b, .int .i64 d, .bool g] TSp) := HBx.out
   have HC2 : Hid ((w.alloc (.cells #[.int .i64 t, .int .i64 i, .int .i64 p, .int .i64 rv, .string s, .string o, .int .i64 b, .int .i64 d, .bool g] TSp)).drew.cell? ⟨w.heap.size, 0, none⟩ = some (.int .i64 t)) := HC1.out
   have HF2 := Lib.hid (HF1.out.trans (Fr.drew (fun _ => False) _) (T := fun k => k = B ∨ k = r) (fun _ _ h => h) (fun _ _ h => h.elim))
   generalize (w.alloc (.cells #[.int .i64 t, .int .i64 i, .int .i64 p, .int .i64 rv, .string s, .string o, .int .i64 b, .int .i64 d, .bool g] TSp)).drew = W at *
   have c2 : W.cell? ⟨B, 2, none⟩ = some (.int .i64 (sumL L)) := H2.blk.cell 2
   have f2 := H2.blk.free 2
   have hrB : r ≠ B := fun e => H2.ne e.symm
   have f3 := H2.blk.tn 2 (.int .i64 (sumL L + 1))
   have hgm3 := H2.gm.fr f3.fr (fun b hb h => by simp at hb h; exact hrB (hb ▸ h))
   have hb3 : Bk (W.setCell ⟨B, 2, none⟩ (.int .i64 (sumL L + 1))) B #[.int .i64 all, .int .i64 tr, .int .i64 (sumL L + 1), .map (some r)] TQ := H2.blk.set 2 (.int .i64 (sumL L + 1))
   have hgm4 : GM (W.setCell ⟨B, 2, none⟩ (.int .i64 (sumL L + 1))).drew r L := hgm3
   have hlk := hgm4.look uM ht
   rw [HS.out] at hlk
   obtain ⟨w5, hup, hgm5, hf5⟩ := hgm4.upd uM ht (wf_small (n := cnt t L + 1) (by omega) (by omega)) (by omega)
   have c3 : (W.setCell ⟨B, 2, none⟩ (.int .i64 (sumL L + 1))).drew.cell? ⟨B, 3, none⟩ = some (.map (some r)) := hb3.cell 3
   have cx : (W.setCell ⟨B, 2, none⟩ (.int .i64 (sumL L + 1))).drew.cell? ⟨w.heap.size, 0, none⟩ = some (.int .i64 t) := (HBx2.out.fr f3.fr (fun b hb h => by simp at hb h; omega)).cell 0
   have HB3 := Lib.hid hb3; have HG5 := Lib.hid hgm5; have HF5 := Lib.hid hf5; have HUp := Lib.hid hup; have HLk := Lib.hid hlk; have HFs := Lib.hid f3.fr; have HQ2 := Lib.hid H2
   clear hb3 hgm5 hf5 hgm3 hgm4 f3 H2 hup hlk
   have HSum := Lib.hid (sum_add HQ2.out.cs t)
   generalize hsm : sumL L = sm at *
   generalize hcn : cnt t L = n at *
   have HCn := Lib.hid hcn; have HSm := Lib.hid hsm
   clear hcn hsm
   go_upto_region 4 with (fail)
   have hup := HUp.out
   have hlk := HLk.out
   refine wp_region_still_tail 8 (by kernel_rfl) (by kernel_rfl) ?_
   simp only [List.take_succ_cons, List.take_zero, List.drop_succ_cons, List.drop_zero]
   change wpStill _ _ (W.setCell ⟨B, 2, none⟩ (.int .i64 (sm + 1))).drew (fun a' => wpList _ _ _ _ a' (W.setCell ⟨B, 2, none⟩ (.int .i64 (sm + 1))).drew) _ _
   iterate 8 still_step
   refine wpStill_nil ?_
   go_wp2_with fail
   go_ret
   have hL : oneL all tr t L = addO t L := by unfold oneL; rw [HOk.out, if_pos rfl]
   have hA : addO t L = insL t (n + 1) L := by unfold addO; rw [HCn.out]
   refine ⟨by rw [HOk.out]; rfl, ?_, ?_⟩
   ·rw [hL]
    refine ⟨?_, by rw [hA]; exact HG5.out, HQ2.out.ne, HQ2.out.cs.add t, by rw [HSum.out]; omega⟩
    rw [HSum.out]
    exact (show Bk (W.setCell ⟨B, 2, none⟩ (.int .i64 (sm + 1))).drew B _ TQ from HB3.out).fr HF5.out (fun b hb e => by simp at hb; exact hrB (e ▸ hb))
   ·exact ((HF2.out.trans HFs.out (T := fun k => k = B ∨ k = r) (fun _ _ h => h) (fun _ _ h => .inl (by simpa using h))).trans (Fr.drew (fun _ => False) _) (T := fun k => k = B ∨ k = r) (fun _ _ h => h) (fun _ _ h => h.elim)).trans HF5.out (fun _ _ h => h) (fun _ _ h => .inr h)
theorem d6y {ops : Array Oper} (hops : Eng.fnOps Tryz.f111 6 = ops) (a0 : Act) (Q : Exit → Act → World → Prop) (B r Bx : Nat) (t n : Int) (M : List (Int × Int)) (w : World) (hst : GM w r M) (c3 : w.cell? ⟨B, 3, none⟩ = some (.map (some r))) (e1 : w.cell? ⟨Bx, 0, none⟩ = some (.int .i64 t)) (hnn : Hid (n = (getL t M).getD 0)) (ht : wfI t) (q : (n == 0) = true)
  (hn : a0.tmps.size = 47) (h_0 : a0.tmps.getD 0 undef = .pointer (some ⟨B, 0, none⟩)) (h_5 : a0.tmps.getD 5 undef = .pointer (some ⟨Bx, 0, none⟩))
  (hpost : ∀ (x : Nat → Value) (w' : World), x 39 = .bool true → w' = w.drew → Q .normal (Eng.setAll a0 [32, 33, 34, 35, 36, 37, 38, 39] x) w') :
  (Code.region 6 ops true).wp prog Q a0 w := by
 simp only [Eng.fnOps, Eng.regOps, Tryz.f111, Option.bind_some, Option.getD_some, Nat.reduceEqDiff, ↓reduceIte] at hops
 subst hops
 have HSt := Lib.hid (hst.fr (Fr.drew (fun _ => False) w) (fun _ _ h => h))
 refine Eng.regionN [(0, true), (1, true), (2, true), (3, true), (4, true), (5, true), (6, true), (7, true)] (fun w' => w'.cell? ⟨B, 3, none⟩ = some (.map (some r)) ∧ w'.cell? ⟨Bx, 0, none⟩ = some (.int .i64 t) ∧ (Instr.lookup TM (.map (some r)) (.int .i64 t) false).run prog w' = .ok (.int .i64 n) w') (by kernel_rfl) 47 hn (by kernel_rfl) rfl (by kernel_rfl) (⟨c3, e1, (by rw [hnn.out]; exact HSt.out.look uM ht)⟩) (fun a b ha hb => ?_)
 subst ha
 have hb0 : b 0 = .pointer (some ⟨B, 0, none⟩) := (hb 0).symm.trans h_0
 have hb5 : b 5 = .pointer (some ⟨Bx, 0, none⟩) := (hb 5).symm.trans h_5
 clear hb h_0 h_5
 have HP := Lib.hid hpost; have HN := Lib.hid hn
 clear hpost hn
 iterate 8 (refine Eng.Sch.tk ?_)
 refine Eng.Sch.end_ [32, 33, 34, 35, 36, 37, 38, 39] HN.out (by kernel_rfl) (by kernel_rfl) ?_
 exact HP.out _ _ rfl rfl
theorem d6n {ops : Array Oper} (hops : Eng.fnOps Tryz.f111 6 = ops) (a0 : Act) (Q : Exit → Act → World → Prop) (B r Bx : Nat) (t n : Int) (M : List (Int × Int)) (w : World) (hst : GM w r M) (c3 : w.cell? ⟨B, 3, none⟩ = some (.map (some r))) (e1 : w.cell? ⟨Bx, 0, none⟩ = some (.int .i64 t)) (hnn : Hid (n = (getL t M).getD 0)) (ht : wfI t) (q : (n == 0) = false)
  (hn : a0.tmps.size = 47) (h_0 : a0.tmps.getD 0 undef = .pointer (some ⟨B, 0, none⟩)) (h_5 : a0.tmps.getD 5 undef = .pointer (some ⟨Bx, 0, none⟩))
  (hpost : ∀ (x : Nat → Value) (w' : World), x 39 = .bool false → w' = w.drew → Q .normal (Eng.setAll a0 [32, 33, 34, 35, 36, 37, 38, 39] x) w') :
  (Code.region 6 ops true).wp prog Q a0 w := by
 simp only [Eng.fnOps, Eng.regOps, Tryz.f111, Option.bind_some, Option.getD_some, Nat.reduceEqDiff, ↓reduceIte] at hops
 subst hops
 have HSt := Lib.hid (hst.fr (Fr.drew (fun _ => False) w) (fun _ _ h => h))
 refine Eng.regionN [(0, true), (1, true), (2, true), (3, true), (4, true), (5, true), (6, true), (7, true)] (fun w' => w'.cell? ⟨B, 3, none⟩ = some (.map (some r)) ∧ w'.cell? ⟨Bx, 0, none⟩ = some (.int .i64 t) ∧ (Instr.lookup TM (.map (some r)) (.int .i64 t) false).run prog w' = .ok (.int .i64 n) w') (by kernel_rfl) 47 hn (by kernel_rfl) rfl (by kernel_rfl) (⟨c3, e1, (by rw [hnn.out]; exact HSt.out.look uM ht)⟩) (fun a b ha hb => ?_)
 subst ha
 have hb0 : b 0 = .pointer (some ⟨B, 0, none⟩) := (hb 0).symm.trans h_0
 have hb5 : b 5 = .pointer (some ⟨Bx, 0, none⟩) := (hb 5).symm.trans h_5
 clear hb h_0 h_5
 have HP := Lib.hid hpost; have HN := Lib.hid hn
 clear hpost hn
 iterate 8 (refine Eng.Sch.tk ?_)
 refine Eng.Sch.end_ [32, 33, 34, 35, 36, 37, 38, 39] HN.out (by kernel_rfl) (by kernel_rfl) ?_
 exact HP.out _ _ rfl rfl
end Quota
set_option maxRecDepth 100000
set_option maxHeartbeats 1000000
namespace Quota
open BagP QuotaP
theorem sp_cells {w wr : World} {A : Option Addr} {c : Nat} {xs : List Sp} {k : Nat} {b o : Nat} (hA : A = some ⟨b, o, none⟩) (hk : k < xs.length) (hc : ∀ j u, (xs.flatMap Sp.cs)[j]? = some u → w.cell? ⟨b, o + j, none⟩ = some u) (hw : ∀ j, wr.cell? ⟨b, j, none⟩ = w.cell? ⟨b, j, none⟩) :
  wr.cell? ⟨b, o + k * 9, none⟩ = some (.int .i64 xs[k].t) ∧ wr.cell? ⟨b, o + k * 9 + 1, none⟩ = some (.int .i64 xs[k].i) ∧ wr.cell? ⟨b, o + k * 9 + 1 + 1, none⟩ = some (.int .i64 xs[k].p) ∧ wr.cell? ⟨b, o + k * 9 + 1 + 1 + 1, none⟩ = some (.int .i64 xs[k].r) ∧
  wr.cell? ⟨b, o + k * 9 + 1 + 1 + 1 + 1, none⟩ = some (.string xs[k].s) ∧ wr.cell? ⟨b, o + k * 9 + 1 + 1 + 1 + 1 + 1, none⟩ = some (.string xs[k].o) ∧ wr.cell? ⟨b, o + k * 9 + 1 + 1 + 1 + 1 + 1 + 1, none⟩ = some (.int .i64 xs[k].b) ∧ wr.cell? ⟨b, o + k * 9 + 1 + 1 + 1 + 1 + 1 + 1 + 1, none⟩ = some (.int .i64 xs[k].d) ∧ wr.cell? ⟨b, o + k * 9 + 1 + 1 + 1 + 1 + 1 + 1 + 1 + 1, none⟩ = some (.bool xs[k].g) := by
 have key : ∀ j u, (hj : j < 9) → xs[k].cs[j]? = some u → wr.cell? ⟨b, o + (k * 9 + j), none⟩ = some u := fun j u hj hu => by
  rw [hw]; exact hc _ u (by rw [flat_at Sp.cs_len hk hj]; exact hu)
 refine ⟨key 0 _ (by omega) rfl, key 1 _ (by omega) rfl, key 2 _ (by omega) rfl, key 3 _ (by omega) rfl, key 4 _ (by omega) rfl, key 5 _ (by omega) rfl, key 6 _ (by omega) rfl, key 7 _ (by omega) rfl, key 8 _ (by omega) rfl⟩
def DropPost (B r : Nat) (all tr : Int) (ts : List Int) (L : List (Int × Int)) (w : World) (e : Ending) (w' : World) : Prop := e = .returned (.tuple #[]) ∧ QB w' B r all tr (dropM ts L) ∧ Fr (fun k => k = B ∨ k = r) w w'
theorem del_ins (t v : Int) (M : List (Int × Int)) : delL t (insL t v M) = delL t M := by
 induction M with
 | nil => simp [insL, delL_cons, sameK_refl, delL]
 | cons p m ih =>
  obtain ⟨a, b⟩ := p
  rw [insL]
  by_cases h1 : Ord.lt t a = true
  ·rw [if_pos h1, delL_cons, if_pos (sameK_refl _)]
  ·rw [if_neg h1]
   by_cases h2 : Ord.lt a t = true
   ·rw [if_pos h2, delL_cons, delL_cons, ih]
   ·have e := Ord.tri a t (by simpa using h2) (by simpa using h1); subst e
    rw [if_neg h2, delL_cons, delL_cons, if_pos (sameK_refl _), if_pos (sameK_refl _)]
theorem dropM_snoc (l : List Int) (t : Int) (L : List (Int × Int)) : dropM (l ++ [t]) L = dropO t (dropM l L) := by simp [dropM]
theorem addM_snoc (l : List Int) (t : Int) (L : List (Int × Int)) : addM (l ++ [t]) L = addO t (addM l L) := by simp [addM]
theorem Drop (B r : Nat) (all tr : Int) (A : Option Addr) (c : Nat) (xs : List Sp) (L : List (Int × Int)) (w : World) (h : QB w B r all tr L) (hS : Sl w 9 A xs.length c (xs.flatMap Sp.cs)) (hA : xs ≠ [] → ∀ a, A = some a → a.block ≠ B ∧ a.block ≠ r ∧ a.block < w.heap.size) (hwf : ∀ x ∈ xs, wfI x.t) :
  Calls prog 111 #[.pointer (some ⟨B, 0, none⟩), .slice A xs.length c] w (DropPost B r all tr (xs.map (·.t)) L w) := by
 have hlen : xs.length ≤ 9223372036854775807 := by have := hS.2.1; have := hS.2.2.1; unfold maxLen at this; omega
 have HS := Lib.hid hS; have HA := Lib.hid hA; have HWf := Lib.hid hwf; have H0 := Lib.hid h
 clear hS hA hwf h
 go_enter func111, ntmps111
 go_wp2_with fail
 go_loopg [5, 8] xs.length (fun gk _ i wr => ∃ k : Nat, i = .int .i64 k ∧ k ≤ xs.length ∧ gk = xs.length - k ∧ QB wr B r all tr (dropM ((xs.map (·.t)).take k) L) ∧ Fr (fun k => k = B ∨ k = r) w wr)
 case atStart => exact ⟨0, rfl, Nat.zero_le _, rfl, H0.out, Fr.refl _ _⟩
 case round =>
  obtain ⟨k, rfl, hk, hg, hq, hfr⟩ := hrel
  have HG := Lib.hid hg; have HQ := Lib.hid hq; have HFr := Lib.hid hfr
  clear hg hq hfr
  by_cases hlt : k < xs.length
  ·obtain ⟨b1, o1, rfl, hb1, hc1⟩ := HS.out.at hlt (by omega)
   have hne := HA.out (by rintro rfl; simp at hlt) _ rfl
   obtain ⟨d0, d1, d2, d3, d4, d5, d6, d7, d8⟩ := sp_cells (w := w) (wr := wr) (c := c) rfl hlt hc1 (fun j => World.cell?_of_block (w := w) (a := ⟨b1, j, none⟩) (HFr.out.block b1 hb1 (by rintro (e | e); exact hne.1 e; exact hne.2.1 e)))
   have HT : Hid (dropM ((xs.map (·.t)).take (k + 1)) L = dropO xs[k].t (dropM ((xs.map (·.t)).take k) L)) := by
    show _ = _
    rw [List.take_succ_eq_append_getElem (by simpa using hlt), dropM_snoc]; simp
   have hwx := HWf.out _ (List.getElem_mem hlt)
   generalize dropM ((xs.map (·.t)).take k) L = M at *
   generalize xs[k] = x at *
   obtain ⟨t, i, p, rv, s, o, b, d, g⟩ := x
   dsimp only at d0 d1 d2 d3 d4 d5 d6 d7 d8 hwx HT
   have H1 : Hid (QB (wr.alloc (.cells #[.int .i64 t, .int .i64 i, .int .i64 p, .int .i64 rv, .string s, .string o, .int .i64 b, .int .i64 d, .bool g] TSp)) B r all tr M) := HQ.out.fr (Fr.alloc (fun _ => False) wr _) (fun h => h) (fun h => h)
   have HBx := Lib.hid (Bk.new wr #[.int .i64 t, .int .i64 i, .int .i64 p, .int .i64 rv, .string s, .string o, .int .i64 b, .int .i64 d, .bool g] TSp)
   have HF1 := Lib.hid (HFr.out.trans (Fr.alloc (fun k => k = B ∨ k = r) wr (.cells #[.int .i64 t, .int .i64 i, .int .i64 p, .int .i64 rv, .string s, .string o, .int .i64 b, .int .i64 d, .bool g] TSp)) (fun _ _ h => h) (fun _ _ h => h))
   have HOf := Lib.hid (Of B r all tr t M _ H1.out hwx)
   have hBlt := lt_of_heap HQ.out.blk
   have hrlt := HQ.out.gm.lt
   have hcnt := HQ.out.cs.pos.cnt t
   have hmost := HQ.out.most
   have hls := len_sum HQ.out.cs.pos
   clear hc1 hne
   by_cases hz : cnt t M = 0
   ·have q1 : (cnt t M == 0) = true := by simp [hz]
    have HE := Lib.hid (show dropO t M = M by simp [dropO, hz])
    clear hz
    generalize cnt t M = n at *
    go_wp2_with fail
    refine HOf.out.mono ?_
    rintro e w2 ⟨rfl, rfl⟩
    go_wp2_with fail
    go_roundg (xs.length - (k + 1))
    case rel => exact ⟨k + 1, by go_num, by omega, rfl, by rw [HT.out, HE.out]; exact H1.out, HF1.out⟩
    case measure => have := HG.out; omega
   ·have q1 : (cnt t M == 0) = false := by simp [hz]
    go_wp2_with fail
    refine HOf.out.mono ?_
    rintro e w2 ⟨rfl, rfl⟩
    have H2 := H1.out
    have HBx2 : Hid (Bk (wr.alloc (.cells #[.int .i64 t, .int .i64 i, .int .i64 p, .int .i64 rv, .string s, .string o, .int .i64 b, .int .i64 d, .bool g] TSp)) wr.heap.size #[.int .i64 t, .int .i64 i, .int .i64 p, .int .i64 rv, .string s, .string o, .int .i64 b, .int .i64 d, .bool g] TSp) := HBx.out
    have HszW : Hid (wr.heap.size < (wr.alloc (.cells #[.int .i64 t, .int .i64 i, .int .i64 p, .int .i64 rv, .string s, .string o, .int .i64 b, .int .i64 d, .bool g] TSp)).heap.size) := by show _ < _; simp
    generalize (wr.alloc (.cells #[.int .i64 t, .int .i64 i, .int .i64 p, .int .i64 rv, .string s, .string o, .int .i64 b, .int .i64 d, .bool g] TSp)) = W at *
    have c2 : W.cell? ⟨B, 2, none⟩ = some (.int .i64 (sumL M)) := H2.blk.cell 2
    have f2 := H2.blk.free 2
    have hrB : r ≠ B := fun e => H2.ne e.symm
    have f3 := H2.blk.tn 2 (.int .i64 (sumL M - 1))
    have hb3 : Bk (W.setCell ⟨B, 2, none⟩ (.int .i64 (sumL M - 1))) B #[.int .i64 all, .int .i64 tr, .int .i64 (sumL M - 1), .map (some r)] TQ := H2.blk.set 2 (.int .i64 (sumL M - 1))
    have hgm4 : GM (W.setCell ⟨B, 2, none⟩ (.int .i64 (sumL M - 1))).drew r M := (show GM (W.setCell ⟨B, 2, none⟩ (.int .i64 (sumL M - 1))) r M from H2.gm.fr f3.fr (fun b hb h => by simp at hb h; exact hrB (hb ▸ h)))
    have hbx4 : Bk (W.setCell ⟨B, 2, none⟩ (.int .i64 (sumL M - 1))).drew wr.heap.size #[.int .i64 t, .int .i64 i, .int .i64 p, .int .i64 rv, .string s, .string o, .int .i64 b, .int .i64 d, .bool g] TSp := (show Bk (W.setCell ⟨B, 2, none⟩ (.int .i64 (sumL M - 1))) wr.heap.size _ TSp from HBx2.out.fr f3.fr (fun b hb h => by simp at hb h; omega))
    have hlk := hgm4.look uM hwx
    rw [show (getL t M).getD 0 = cnt t M from rfl] at hlk
    obtain ⟨w5, hup, hgm5, hf5⟩ := hgm4.upd uM hwx (wf_small (n := cnt t M - 1) (by omega) (by omega)) (by omega)
    have hb5 : Bk w5 B #[.int .i64 all, .int .i64 tr, .int .i64 (sumL M - 1), .map (some r)] TQ := (show Bk (W.setCell ⟨B, 2, none⟩ (.int .i64 (sumL M - 1))).drew B _ TQ from hb3).fr hf5 (fun b hb e => by simp at hb; exact hrB (e ▸ hb))
    have hbx5 := hbx4.fr hf5 (fun b hb e => by simp at hb; omega)
    have c3 : (W.setCell ⟨B, 2, none⟩ (.int .i64 (sumL M - 1))).drew.cell? ⟨B, 3, none⟩ = some (.map (some r)) := hb3.cell 3
    have cx : (W.setCell ⟨B, 2, none⟩ (.int .i64 (sumL M - 1))).drew.cell? ⟨wr.heap.size, 0, none⟩ = some (.int .i64 t) := hbx4.cell 0
    have HF5 := Lib.hid (((HF1.out.trans f3.fr (T := fun k => k = B ∨ k = r) (fun _ _ h => h) (fun _ _ h => .inl (by simpa using h))).trans (Fr.drew (fun _ => False) _) (T := fun k => k = B ∨ k = r) (fun _ _ h => h) (fun _ _ h => h.elim)).trans hf5 (T := fun k => k = B ∨ k = r) (fun _ _ h => h) (fun _ _ h => .inr h))
    have HSum := Lib.hid (sum_drop H2.cs t); have HCd := Lib.hid (H2.cs.drop t)
    have HB5 := Lib.hid hb5; have HG5 := Lib.hid hgm5; have HUp := Lib.hid hup; have HLk := Lib.hid hlk; have HX5 := Lib.hid hbx5; have HNe := Lib.hid H2.ne
    have HGe : Hid ((getL t (insL t (cnt t M - 1) M)).getD 0 = cnt t M - 1) := by show _ = _; rw [getL_ins, if_pos (sameK_refl _)]; rfl
    have HDr : Hid (dropO t M = setL t (cnt t M - 1) M) := by show _ = _; unfold dropO; rw [if_neg hz]
    clear hb3 hgm4 hbx4 hlk hup hgm5 hf5 hb5 hbx5 f3 H2 H1 hz
    rw [if_neg (by simpa using q1)] at HSum
    generalize hsm : sumL M = sm at *
    generalize hcn : cnt t M = n at *
    have HSm := Lib.hid hsm; have HCn := Lib.hid hcn
    clear hsm hcn
    go_upto_region 5 with (fail)
    have hup := HUp.out
    have hlk := HLk.out
    have hwr : IntKind.i64.wrap (n - 1) = n - 1 := IntWalk.i64_in _ (by omega)
    refine wp_region_still_tail 8 (by kernel_rfl) (by kernel_rfl) ?_
    simp only [List.take_succ_cons, List.take_zero, List.drop_succ_cons, List.drop_zero]
    change wpStill _ _ (W.setCell ⟨B, 2, none⟩ (.int .i64 (sm - 1))).drew (fun a' => wpList _ _ _ _ a' (W.setCell ⟨B, 2, none⟩ (.int .i64 (sm - 1))).drew) _ _
    iterate 8 still_step
    refine wpStill_nil ?_
    go_upto_region 6 with (fail)
    clear hup hlk c3 cx c2 f2 hwr
    by_cases hn1 : n = 1
    ·have q2 : (n - 1 == 0) = true := by simp [hn1]
     refine d6y (by kernel_rfl) _ _ B r wr.heap.size t (n - 1) _ w5 HG5.out (HB5.out.cell 3) (HX5.out.cell 0) (Lib.hid HGe.out.symm) hwx q2 rfl rfl rfl ?_
     rintro x w' hx rfl
     simp only [Eng.setAll, Act.put, List.setIfInBounds_toArray, List.set_cons_succ, List.set_cons_zero]
     rw [hx]
     clear hx
     have hgm6 : GM w5.drew.drew r (insL t (n - 1) M) := HG5.out
     obtain ⟨w7, hdl, hgm7, hf7⟩ := hgm6.del uM hwx 0
     have c3 : w5.drew.drew.cell? ⟨B, 3, none⟩ = some (.map (some r)) := HB5.out.cell 3
     have cx : w5.drew.drew.cell? ⟨wr.heap.size, 0, none⟩ = some (.int .i64 t) := HX5.out.cell 0
     have HG7 := Lib.hid hgm7; have HF7 := Lib.hid hf7; have HDl := Lib.hid hdl
     have HN1 := Lib.hid hn1
     clear hgm6 hgm7 hf7 hdl hn1
     go_upto_region 7 with (fail)
     have hdl := HDl.out
     refine wp_region_still_tail 6 (by kernel_rfl) (by kernel_rfl) ?_
     simp only [List.take_succ_cons, List.take_zero, List.drop_succ_cons, List.drop_zero]
     change wpStill _ _ w5.drew.drew (fun a' => wpList _ _ _ _ a' w5.drew.drew) _ _
     iterate 6 still_step
     refine wpStill_nil ?_
     go_wp2_with fail
     go_roundg (xs.length - (k + 1))
     case rel =>
      have hL : dropO t M = delL t M := by rw [HDr.out, HN1.out]; rfl
      refine ⟨k + 1, by go_num, by omega, rfl, ?_, ?_⟩
      ·rw [HT.out]
       refine ⟨?_, ?_, HNe.out, HCd.out, by rw [HSum.out]; omega⟩
       ·rw [HSum.out]
        exact (show Bk w5.drew.drew B _ TQ from HB5.out).fr HF7.out (fun b hb e => by simp at hb; exact hrB (e ▸ hb))
       ·rw [hL, ← del_ins t (n - 1) M]; exact HG7.out
      ·exact ((HF5.out.trans (Fr.drew (fun _ => False) _) (T := fun k => k = B ∨ k = r) (fun _ _ h => h) (fun _ _ h => h.elim)).trans (Fr.drew (fun _ => False) _) (T := fun k => k = B ∨ k = r) (fun _ _ h => h) (fun _ _ h => h.elim)).trans HF7.out (fun _ _ h => h) (fun _ _ h => .inr h)
     case measure => have := HG.out; omega
    ·have q2 : (n - 1 == 0) = false := by simp; omega
     refine d6n (by kernel_rfl) _ _ B r wr.heap.size t (n - 1) _ w5 HG5.out (HB5.out.cell 3) (HX5.out.cell 0) (Lib.hid HGe.out.symm) hwx q2 rfl rfl rfl ?_
     rintro x w' hx rfl
     simp only [Eng.setAll, Act.put, List.setIfInBounds_toArray, List.set_cons_succ, List.set_cons_zero]
     rw [hx]
     clear hx
     have HN1 := Lib.hid hn1
     clear hn1
     go_wp2_with fail
     go_roundg (xs.length - (k + 1))
     case rel =>
      have hL : dropO t M = insL t (n - 1) M := by rw [HDr.out]; unfold setL; rw [if_neg (by have := HN1.out; omega)]
      refine ⟨k + 1, by go_num, by omega, rfl, ?_, ?_⟩
      ·rw [HT.out]
       refine ⟨?_, ?_, HNe.out, HCd.out, by rw [HSum.out]; omega⟩
       ·rw [HSum.out]; exact HB5.out
       ·rw [hL]; exact HG5.out
      ·exact HF5.out.trans (Fr.drew (fun _ => False) _) (fun _ _ h => h) (fun _ _ h => h.elim)
     case measure => have := HG.out; omega
  ·obtain rfl : k = xs.length := by omega
   have HE : Hid ((xs.map (·.t)).take xs.length = xs.map (·.t)) := List.take_of_length_le (by simp)
   go_wp2_with fail
   go_end0
   exact ⟨rfl, by rw [← HE.out]; exact HQ.out, HFr.out⟩
def AddPost (B r : Nat) (all tr : Int) (ts : List Int) (L : List (Int × Int)) (w : World) (e : Ending) (w' : World) : Prop := e = .returned (.bool (okM all tr ts L)) ∧ QB w' B r all tr (addA all tr ts L) ∧ Fr (fun k => k = B ∨ k = r) w w'
theorem Add (B r : Nat) (all tr : Int) (A : Option Addr) (c : Nat) (xs : List Sp) (L : List (Int × Int)) (w : World) (h : QB w B r all tr L) (hS : Sl w 9 A xs.length c (xs.flatMap Sp.cs)) (hA : xs ≠ [] → ∀ a, A = some a → a.block ≠ B ∧ a.block ≠ r ∧ a.block < w.heap.size) (hwf : ∀ x ∈ xs, wfI x.t)
  (hm : sumL L + xs.length < 1000000) : Calls prog 81 #[.pointer (some ⟨B, 0, none⟩), .slice A xs.length c] w (AddPost B r all tr (xs.map (·.t)) L w) := by
 have hlen : xs.length ≤ 9223372036854775807 := by have := hS.2.1; have := hS.2.2.1; unfold maxLen at this; omega
 have hcl : xs.length ≤ c ∧ c ≤ 9223372036854775807 := by have := hS.2.1; have := hS.2.2.1; unfold maxLen at this; omega
 have hs0 : 0 ≤ sumL L := (h.cs.pos.cnt 0).2.2
 have HS := Lib.hid hS; have HA := Lib.hid hA; have HWf := Lib.hid hwf; have H0 := Lib.hid h
 clear hS hA hwf h
 go_enter func81, ntmps81
 go_wp2_with fail
 go_loopg [5, 6, 14] xs.length (fun gk _ _ i wr => ∃ k : Nat, i = .int .i64 k ∧ k ≤ xs.length ∧ gk = xs.length - k ∧ okM all tr ((xs.map (·.t)).take k) L = true ∧ QB wr B r all tr (addM ((xs.map (·.t)).take k) L) ∧ Fr (fun k => k = B ∨ k = r) w wr)
 case atStart => exact ⟨0, rfl, Nat.zero_le _, rfl, rfl, H0.out, Fr.refl _ _⟩
 case round =>
  obtain ⟨k, rfl, hk, hg, hok, hq, hfr⟩ := hrel
  have HG := Lib.hid hg; have HQ := Lib.hid hq; have HFr := Lib.hid hfr; have HOk := Lib.hid hok
  clear hg hq hfr hok
  by_cases hlt : k < xs.length
  ·obtain ⟨b1, o1, rfl, hb1, hc1⟩ := HS.out.at hlt (by omega)
   have hne := HA.out (by rintro rfl; simp at hlt) _ rfl
   have HBk := Lib.hid (HFr.out.block b1 hb1 (by rintro (e | e); exact hne.1 e; exact hne.2.1 e))
   obtain ⟨d0, d1, d2, d3, d4, d5, d6, d7, d8⟩ := sp_cells (w := w) (wr := wr) (c := c) rfl hlt hc1 (fun j => World.cell?_of_block (w := w) (a := ⟨b1, j, none⟩) HBk.out)
   have hsum : sumL (addM ((xs.map (·.t)).take k) L) < 1000000 := by
    rw [sum_addM _ H0.out.cs]; simp; omega
   have HD : Hid (xs.map (·.t) = (xs.map (·.t)).take k ++ xs[k].t :: (xs.map (·.t)).drop (k + 1)) := by
    show _ = _
    have := List.drop_eq_getElem_cons (l := xs.map (·.t)) (i := k) (by simpa using hlt)
    rw [List.getElem_map] at this
    rw [← this, List.take_append_drop]
   have HT : Hid (addM ((xs.map (·.t)).take (k + 1)) L = addO xs[k].t (addM ((xs.map (·.t)).take k) L) ∧ okM all tr ((xs.map (·.t)).take (k + 1)) L = (okM all tr ((xs.map (·.t)).take k) L && okO all tr xs[k].t (addM ((xs.map (·.t)).take k) L))) := by
    show _ ∧ _
    rw [List.take_succ_eq_append_getElem (by simpa using hlt), addM_snoc, okM_append]
    simp [okM]
   have hwx := HWf.out _ (List.getElem_mem hlt)
   have HBack := Lib.hid (dropM_addM ((xs.map (·.t)).take k) H0.out.cs)
   generalize hM : addM ((xs.map (·.t)).take k) L = M at *
   have HM := Lib.hid hM
   clear hM
   generalize xs[k] = x at *
   have HOne := fun W (hq : QB W B r all tr M) => Lib.hid (one B r all tr x M W hq hwx hsum)
   obtain ⟨t, i, p, rv, s, o, b, d, g⟩ := x
   dsimp only at d0 d1 d2 d3 d4 d5 d6 d7 d8 hwx HT HD HOne
   have H1 : Hid (QB (wr.alloc (.cells #[.int .i64 t, .int .i64 i, .int .i64 p, .int .i64 rv, .string s, .string o, .int .i64 b, .int .i64 d, .bool g] TSp)) B r all tr M) := HQ.out.fr (Fr.alloc (fun _ => False) wr _) (fun h => h) (fun h => h)
   have HF1 := Lib.hid (HFr.out.trans (Fr.alloc (fun k => k = B ∨ k = r) wr (.cells #[.int .i64 t, .int .i64 i, .int .i64 p, .int .i64 rv, .string s, .string o, .int .i64 b, .int .i64 d, .bool g] TSp)) (fun _ _ h => h) (fun _ _ h => h))
   have HO1 := HOne _ H1.out
   unfold OnePost oneL at HO1
   clear hc1 HOne
   cases hok : okO all tr t M with
   | true =>
    rw [hok, if_pos rfl] at HO1
    have HK := Lib.hid hok
    clear hok
    go_wp2_with fail
    refine HO1.out.mono ?_
    rintro e w2 ⟨rfl, hq2, hf2⟩
    have HQ2 := Lib.hid hq2; have HF2 := Lib.hid hf2
    clear hq2 hf2
    go_wp2_with fail
    go_roundg (xs.length - (k + 1))
    case rel => exact ⟨k + 1, by go_num, by omega, rfl, by rw [HT.out.2, HOk.out, HK.out]; rfl, by rw [HT.out.1]; exact HQ2.out, HF1.out.trans HF2.out (fun _ _ h => h) (fun _ _ h => h)⟩
    case measure => have := HG.out; omega
   | false =>
    rw [hok, if_neg (by simp)] at HO1
    have HK := Lib.hid hok
    clear hok
    go_wp2_with fail
    refine HO1.out.mono ?_
    rintro e w2 ⟨rfl, hq2, hf2⟩
    have hf02 := HF1.out.trans hf2 (T := fun k => k = B ∨ k = r) (fun _ _ h => h) (fun _ _ h => h)
    have hS2 : Sl w2 9 (some ⟨b1, o1, none⟩) (xs.take k).length c ((xs.take k).flatMap Sp.cs) := by
     have h1 := (HS.out.take (k := k) hk).fr hf02 (fun a ha => by cases ha; rintro (e | e); exact hne.1 e; exact hne.2.1 e)
     rw [flat_take Sp.cs_len] at h1
     rwa [List.length_take, Nat.min_eq_left hk]
    have HDr := Lib.hid (Drop B r all tr (some ⟨b1, o1, none⟩) c (xs.take k) M w2 hq2 hS2 (fun _ a ha => by cases ha; exact ⟨hne.1, hne.2.1, Nat.lt_of_lt_of_le hb1 hf02.size⟩) (fun x hx => HWf.out x (List.mem_of_mem_take hx)))
    unfold DropPost at HDr
    rw [List.length_take, Nat.min_eq_left hk, List.map_take, HBack.out] at HDr
    have HF2 := Lib.hid hf02
    have hkc : k ≤ c := by omega
    clear hq2 hf2 hf02 hS2
    go_wp2_with fail
    refine HDr.out.mono ?_
    rintro e w3 ⟨rfl, hq3, hf3⟩
    have HQ3 := Lib.hid hq3; have HF3 := Lib.hid hf3
    clear hq3 hf3
    go_wp2_with fail
    go_ret
    have hno : okM all tr (xs.map (·.t)) L = false := by
     rw [HD.out, okM_append, HM.out, okM, HK.out]; simp
    exact ⟨by rw [hno]; rfl, by unfold addA; rw [hno, if_neg (by simp)]; exact HQ3.out, HF2.out.trans HF3.out (fun _ _ h => h) (fun _ _ h => h)⟩
  ·obtain rfl : k = xs.length := by omega
   have HE : Hid ((xs.map (·.t)).take xs.length = xs.map (·.t)) := List.take_of_length_le (by simp)
   go_wp2_with fail
   go_ret
   have hok : okM all tr (xs.map (·.t)) L = true := by rw [← HE.out]; exact HOk.out
   exact ⟨by rw [hok]; rfl, by unfold addA; rw [hok, if_pos rfl, ← HE.out]; exact HQ.out, HFr.out⟩
end Quota
set_option maxRecDepth 100000
set_option maxHeartbeats 1000000
namespace Quota
open BagP QuotaP
theorem ranges_fr {S : Nat → Prop} {P : Program} {k : TypeId} {R : Value → Option (DataW Unit × List MemPlace)} {w w' : World} {b r n : Nat} {D : DataW Unit} {left : Lit → Bool} {cnt : Nat} (h : w.ranges P k R b r n D left cnt) (hf : Fr S w w') (h1 : ¬ S b) (h2 : ¬ S r) : w'.ranges P k R b r n D left cnt := by
 obtain ⟨es, clock, since, seen, c0, hb, a1, a2, a3, hr, rest⟩ := h
 exact ⟨es, clock, since, seen, c0, (hf.block b (Array.getElem?_eq_some_iff.1 hb).1 h1).trans hb, a1, a2, a3, (hf.block r (Array.getElem?_eq_some_iff.1 hr).1 h2).trans hr, rest⟩
theorem ranges_lt {P : Program} {k : TypeId} {R : Value → Option (DataW Unit × List MemPlace)} {w : World} {b r n : Nat} {D : DataW Unit} {left : Lit → Bool} {cnt : Nat} (h : w.ranges P k R b r n D left cnt) : r < w.heap.size := by
 obtain ⟨es, clock, since, seen, c0, hb, a1, a2, a3, hr, rest⟩ := h
 exact (Array.getElem?_eq_some_iff.1 hr).1
theorem has_mD (y : Int) (L : List (Int × Int)) : Maps.has (mD L) (.int .i64 y) = hasL y L := by
 unfold mD
 rw [Maps.has_eq]
 induction L with
 | nil => rfl
 | cons p t ih => rw [List.map_cons, List.any_cons, ih, hasL_cons, sameKey_int]
theorem Traces (B r : Nat) (all tr : Int) (L : List (Int × Int)) (w : World) (h : QB w B r all tr L) :
  Calls prog 122 #[.pointer (some ⟨B, 0, none⟩)] w fun e w' => ∃ v, e = .returned v ∧ w'.ownsRow w.heap.size 3 1 v L.length (L.map (fun x => .int .i64 x.1)) ∧ Below w.heap.size w w' := by
 have hBlt := lt_of_heap h.blk
 have hrlt := h.gm.lt
 have hlen := h.len
 have H1 : QB (w.alloc (.cells #[.pointer none, .int .i64 0] 222)) B r all tr L := h.fr (Fr.alloc (fun _ => False) w _) (fun h => h) (fun h => h)
 have c3 : (w.alloc (.cells #[.pointer none, .int .i64 0] 222)).cell? ⟨B, 3, none⟩ = some (.map (some r)) := H1.blk.cell 3
 have hown := H1.gm.2.2.2
 have HSrt := Lib.hid h.gm.1; have HO := Lib.hid hown
 clear h H1 hown
 have HB0 := Lib.hid (AvlII.MapB.new w)
 have hsz0 : (w.alloc (.cells #[.pointer none, .int .i64 0] 222)).heap.size = w.heap.size + 1 := by simp
 go_enter func122, ntmps122
 go_wp2_with (at_range; refine wpList_range_own _ rfl _ TM rfl 3 3 (Maps.int_keyed underlying3) uM (plainElem prog 3) r L.length (mD L) rfl HO.out ?_)
 intro w2 hr2 hg2 hs2
 have hb2 : Below w.heap.size w w2 := ((Below.refl _ w).alloc (Nat.le_refl _) _).grown hg2 (by simp) (fun k e => by cases e)
 have hm2 : AvlII.MapB w2 w.heap.size [] [] := HB0.out.fr (Fr.grown hg2 (S := fun _ => False) (fun k e => by cases e)) (fun h => h) (fun _ _ h => h)
 have HR2 : Hid (w2.ranges prog 3 (plainElem prog 3) r (w.heap.size + 1) L.length (mD L) (Maps.has (mD L)) (Maps.size (mD L))) := hr2
 have HB2 := Lib.hid hb2; have HM2 := Lib.hid hm2
 have hsize : Maps.size (mD L) = L.length := by rw [mD, Maps.size_eq]; simp
 have HSz := Lib.hid hsize
 clear hr2 hg2 hs2 hb2 hm2 c3 hsz0 hsize HB0 HO
 go_wp2_with fail
 go_loopg [4, 5] (Maps.size (mD L)) (fun gk _ _ wl => ∃ (M : List (Int × Int)) (F : List Nat) (left : Lit → Bool), wl.ranges prog 3 (plainElem prog 3) r (w.heap.size + 1) L.length (mD L) left gk ∧ (∀ y, getL y M = if left (.int .i64 y) = true then none else getL y L) ∧
  AvlII.MapB wl w.heap.size M F ∧ Below w.heap.size w wl ∧ (∀ b ∈ F, w.heap.size ≤ b ∧ b ≠ w.heap.size + 1) ∧ M.length + gk ≤ L.length)
 case atStart =>
  refine ⟨[], [], Maps.has (mD L), HR2.out, fun y => ?_, HM2.out, HB2.out, by simp, by rw [HSz.out]; simp⟩
  rw [has_mD, hasL_get]
  cases getL y L <;> simp [getL_nil]
 case round =>
  clear HR2 HB2 HM2
  obtain ⟨M, F, left, hr, hget, hm, hb, hF, hl⟩ := hrel
  have HR := Lib.hid hr; have HGet := Lib.hid hget; have HM := Lib.hid hm; have HB := Lib.hid hb; have HF := Lib.hid hF
  clear hr hget hm hb hF
  go_wp2_with (at_next; refine wpList_next_ranges_ii _ rfl (.tmp 12) rfl 3 3 .i64 .i64 (Maps.int_keyed underlying3) underlying3 underlying3 r (w.heap.size + 1) L.length (mD L) left gk rfl HR.out ?_ ?_)
  ·intro h0 hleft
   have hML : M = L := srt_ext HM.out.srt HSrt.out (fun y => by rw [HGet.out, hleft, if_neg (by simp)])
   have HK := Lib.hid (AvlII.KeysB w.heap.size M F wr HM.out (by omega))
   have HE := Lib.hid hML
   have hszw : w.heap.size ≤ wr.heap.size := HB.out.size
   clear h0 hleft hML
   go_wp2_with fail
   refine HK.out.mono ?_
   rintro e w5 ⟨v, rfl, hown, hb5⟩
   have HO5 := Lib.hid (ownsRow_base hown hszw); have HB5 := Lib.hid (HB.out.trans (hb5.mono hszw))
   clear hown hb5
   go_wp2_with fail
   go_ret
   exact ⟨v, rfl, by rw [← HE.out]; exact HO5.out, HB5.out⟩
  ·intro x c w3 cnt' hwx hwc hlx hat hr3 hlt3 hg3 hs3 hen
   have hcx : getL x L = some c := by
    have h1 := hat (.lit (.int .i64 0))
    have h2 := hat (.lit (.int .i64 1))
    rw [mD_at] at h1 h2
    simp only [DataW.lit.injEq, Lit.int.injEq, true_and] at h1 h2
    cases hg : getL x L with
    | none => rw [hg] at h1 h2; simp at h1 h2; omega
    | some z => rw [hg] at h1; simpa using h1
   have hfr3 := Fr.grown hg3 (S := fun k => k = w.heap.size + 1) (fun k e => by cases e; rfl)
   have hm3 : AvlII.MapB w3 w.heap.size M F := HM.out.fr hfr3 (by omega) (fun b hb => (HF.out b hb).2)
   have hb3 : Below w.heap.size w w3 := HB.out.trans (hfr3.below HB.out.size (fun k hk e => by omega))
   have HPut := Lib.hid (AvlII.PutB w.heap.size x c M F w3 hm3 (by omega))
   have HR3 := Lib.hid hr3; have HB3 := Lib.hid hb3; have HM3 := Lib.hid hm3; have HC := Lib.hid hcx
   clear hr3 hg3 hs3 hfr3 hm3 hb3 hcx hat HR HM HB
   go_wp2_with fail
   refine HPut.out.mono ?_
   rintro e w4 ⟨rfl, F', hm4, hF4, hfr4⟩
   have HM4 := Lib.hid hm4; have HF4 := Lib.hid hF4; have HFr4 := Lib.hid hfr4
   have hi3 : w.heap.size + 1 < w3.heap.size := ranges_lt HR3.out
   clear hm4 hF4 hfr4
   go_wp2_with fail
   go_roundg cnt'
   case rel =>
    refine ⟨insL x c M, F', _, ranges_fr HR3.out HFr4.out ?_ ?_, fun y => ?_, HM4.out, HB3.out.trans (HFr4.out.below HB3.out.size ?_), fun b hb => ?_, by have := insL_len' x c M; omega⟩
    ·rintro (e | e)
     ·omega
     ·have := (HF.out r e).1; omega
    ·rintro (e | e)
     ·omega
     ·exact (HF.out _ e).2 rfl
    ·rw [getL_ins, HGet.out y, sameKey_int]
     by_cases e : sameK y x = true
     ·have e' := sameK_iff.1 e; subst e'
      rw [if_pos e, sameK_comm, e]; simp [HC.out]
     ·rw [if_neg e]
      have e2 : sameK x y = false := by rw [sameK_comm]; simpa using e
      rw [e2]; simp
    ·rintro k hk (e | e)
     ·omega
     ·have := (HF.out k e).1; omega
    ·rcases HF4.out b hb with e | e
     ·exact HF.out b e
     ·omega
   case measure => omega
end Quota
end Go.Proofs.YtdpngmgaomghoaaGreat
