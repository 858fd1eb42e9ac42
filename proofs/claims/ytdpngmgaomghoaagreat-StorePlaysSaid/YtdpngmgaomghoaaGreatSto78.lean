/- store.Tick. -/
import Derived.Test.YtdpngmgaomghoaaGreatStos2
import Derived.Test.YtdpngmgaomghoaaGreatSorts
namespace Go.Proofs.YtdpngmgaomghoaaGreat
open Tryz
set_option maxRecDepth 100000
set_option maxHeartbeats 400000
open Go.RowKit
namespace Sto
open Name KeyP PackP SetP SetW SetF Delta Comp BagP
open Sat2 (endS cl cl_in)
attribute [local go_sem] Eng.ev Eng.getO_cons Eng.getO_nil
structure KX (n0 : Nat) (w0 w : World) (B : Nat) (f : Cf) (R : List Sn) (M : List (ByteArray × Int)) (Q : List (Int × Int)) (F0 F : List Nat) (Bd : Nat) (u v : Value) (P : List Sn) : Prop where
 s : SB w B f R M Q F
 t : Tn F0 F w0 w
 b : Bk w Bd #[u, .slice none 0 0] TDl
 o : w.ownsRow n0 TSn 9 v P.length (P.flatMap scs)
 n : Bd ∉ F ∧ Bd ∈ F0 ∧ w0.heap.size ≤ n0 ∧ n0 ≤ w.heap.size
 no : ∀ b, v.ownBlock = some b → b ∉ F
section
variable {n0 : Nat} {w0 w w1 w' : World} {B : Nat} {f : Cf} {R R' : List Sn} {M M' : List (ByteArray × Int)} {Q Q' : List (Int × Int)} {F F0 F' : List Nat} {Bd : Nat} {u v v' : Value} {P : List Sn} {y : Sn}
theorem KX.fr (h : KX n0 w0 w B f R M Q F0 F Bd u v P) (hf : Fr (fun _ => False) w w') : KX n0 w0 w' B f R M Q F0 F Bd u v P :=
 ⟨h.s.keep hf, h.t.trans (Tn.of_fr hf h.s.lt), h.b.fr hf (fun _ _ h => h), ownsRow_fr h.o hf (fun _ _ h => h), ⟨h.n.1, h.n.2.1, h.n.2.2.1, Nat.le_trans h.n.2.2.2 hf.size⟩, h.no⟩
theorem KX.turn (h : KX n0 w0 w B f R M Q F0 F Bd u v P) (hs : SB w' B f R' M' Q' F') (ht : Tn F F' w w') : KX n0 w0 w' B f R' M' Q' F0 F' Bd u v P := by
 refine ⟨hs, h.t.trans ht, h.b.fr ht.fr (fun b hb e => by simp at hb; subst hb; exact h.n.1 e), ownsRow_fr h.o ht.fr h.no, ⟨fun e => ?_, h.n.2.1, h.n.2.2.1, Nat.le_trans h.n.2.2.2 ht.fr.size⟩, fun b hb e => ?_⟩
 ·rcases (ht.sub Bd e).1 with e | e
  ·exact h.n.1 e
  ·have := lt_of_heap h.b; omega
 ·rcases (ht.sub b e).1 with e | e
  ·exact h.no b hb e
  ·have := (ownsRow_blk h.o b hb).2.1; omega
theorem KX.ne (h : KX n0 w0 w B f R M Q F0 F Bd u v P) : ∀ b, v.ownBlock = some b → b ≠ Bd := fun b hb e => by
 obtain ⟨_, _, c, hc⟩ := ownsRow_blk h.o b hb
 rw [e, show w.heap[Bd]? = _ from h.b] at hc
 cases hc
theorem KX.app (h : KX n0 w0 w B f R M Q F0 F Bd v v P) (hown : w1.ownsRow n0 TSn 9 v' (P.length + 1) (P.flatMap scs ++ scs y)) (hg : (w.alloc (.cells y.arr TSn)).grownBy w1 v.ownBlock) (hv : v'.ownBlock = v.ownBlock ∨ v'.ownBlock = some (w.alloc (.cells y.arr TSn)).heap.size) :
  KX n0 w0 w1 B f R M Q F0 F Bd v v' (P ++ [y]) := by
 have f1 : Fr (fun b => v.ownBlock = some b) w w1 := (Fr.alloc (fun _ => False) w (.cells y.arr TSn)).trans (Fr.grown hg (S := fun b => v.ownBlock = some b) (fun k h => h)) (fun _ _ h => h.elim) (fun _ _ h => h)
 have hs1 : SB w1 B f R M Q F := h.s.fr f1 (fun x hx e => h.no x e hx)
 refine ⟨hs1, ⟨h.t.fr.trans f1 (fun _ _ h => h) (fun i hi e => by have := (ownsRow_blk h.o i e).1; have := h.n.2.2.1; omega), fun x hx => ⟨(h.t.sub x hx).1, hs1.lt x hx⟩⟩, h.b.fr f1 (fun b hb e => by simp at hb; exact h.ne b e hb), by rw [List.length_append, List.length_singleton, List.flatMap_append]; simpa using hown, ⟨h.n.1, h.n.2.1, h.n.2.2.1, Nat.le_trans h.n.2.2.2 f1.size⟩, fun b hb e => ?_⟩
 rcases hv with hv | hv
 ·exact h.no b (hv ▸ hb) e
 ·have := h.s.lt b e
  rw [hb, World.size_alloc] at hv
  have := Option.some.inj hv
  omega
theorem KX.store (h : KX n0 w0 w B f R M Q F0 F Bd u v P) : KX n0 w0 (w.setCell ⟨Bd, 0, none⟩ v) B f R M Q F0 F Bd v v P := by
 have hf := Fr.setCell w ⟨Bd, 0, none⟩ v (S := (· = Bd)) rfl
 have hs1 : SB (w.setCell ⟨Bd, 0, none⟩ v) B f R M Q F := h.s.fr hf (fun x hx e => h.n.1 (by rw [← (show x = Bd from e)]; exact hx))
 exact ⟨hs1, ⟨h.t.fr.trans hf (fun _ _ h => h) (fun i hi e => by rw [show i = Bd from e]; exact h.n.2.1), fun x hx => ⟨(h.t.sub x hx).1, hs1.lt x hx⟩⟩, by simpa using h.b.set 0 v, ownsRow_fr h.o hf h.ne, ⟨h.n.1, h.n.2.1, h.n.2.2.1, Nat.le_trans h.n.2.2.2 hf.size⟩, h.no⟩
end
theorem ti12 {ops : Array Oper} (hops : Eng.fnOps Tryz.f47 12 = ops) (a0 : Act) (Q : Exit → Act → World → Prop) (n0 : Nat) (w0 w : World) (B : Nat) (f : Cf) (R _R' : List Sn) (M _M' : List (ByteArray × Int)) (QQ : List (Int × Int)) (F0 F : List Nat) (Bd : Nat) (v : Value) (P : List Sn) (y : Sn) (hs : Srs R) (hR : ∀ y ∈ R, y.ok) (hm : y ∈ R) (sz : R.length < 1000000) (sz2 : M.length < 1000000) (hlen : P.length ≤ 1000000) (hst : KX n0 w0 w B f R M QQ F0 F Bd v v P)
  (hn : a0.tmps.size = 58) (h_0 : a0.tmps.getD 0 undef = .pointer (some ⟨B, 0, none⟩)) (h_7 : a0.tmps.getD 7 undef = .pointer (some ⟨Bd, 0, none⟩)) (h_9 : a0.tmps.getD 9 undef = .string (kk y))
  (hpost : ∀ (x : Nat → Value) (w' : World) (F' : List Nat) (v' : Value), KX n0 w0 w' B f (out y.t y.i R) (delL (kk y) M) QQ F0 F' Bd v' v' (P ++ [y]) → Q .normal (Eng.setAll a0 [41, 42, 43, 44, 45, 46, 47, 48] x) w') :
  (Code.region 12 ops true).wp prog Q a0 w := by
 simp only [Eng.fnOps, Eng.regOps, Tryz.f47, Option.bind_some, Option.getD_some, Nat.reduceEqDiff, ↓reduceIte] at hops
 subst hops
 obtain ⟨i0, hi, hz0, hz1, hz2⟩ := info_parts infoS
 have HSt := Lib.hid (hst.fr (Fr.drew _ _))
 refine Eng.regionT (.take 0 (.take 2 (.take 3 (.alt 1 (.alt 4 (.alt 5 (.alt 6 (.take 7 (.alt 8 (.done) (.stop))) (.stop)) (.stop)) (.stop)) (.alt 4 (.alt 1 (.alt 5 (.alt 6 (.take 7 (.alt 8 (.done) (.stop))) (.stop)) (.stop)) (.alt 5 (.alt 1 (.alt 6 (.take 7 (.alt 8 (.done) (.stop))) (.stop)) (.stop)) (.stop))) (.stop)))))) (fun w' => True) (by kernel_rfl) 58 hn (by kernel_rfl) (by kernel_rfl) (by kernel_rfl) (trivial) (fun a b ha hb => ?_)
 subst ha
 have hb0 : b 0 = .pointer (some ⟨B, 0, none⟩) := (hb 0).symm.trans h_0
 have hb7 : b 7 = .pointer (some ⟨Bd, 0, none⟩) := (hb 7).symm.trans h_7
 have hb9 : b 9 = .string (kk y) := (hb 9).symm.trans h_9
 clear hb h_0 h_7 h_9
 have HP := Lib.hid hpost; have HN := Lib.hid hn
 clear hpost hn
 iterate 3 (refine Eng.TW.tk ?_)
 refine Eng.TW.both ?_ ?_
 ·have cd : w.drew.cell? ⟨Bd, 0, none⟩ = some v := HSt.out.b.cell 0
  refine Eng.TW.step rfl rfl (by decide) (by kernel_rfl) (by go_simp; first | done | with_reducible rfl | exact ⟨rfl, rfl⟩) (trivial) ?_
  have HSt2 := Lib.hid (HSt.out)
  have hSS : True := trivial
  refine Eng.TW.call rfl rfl (by decide) (by kernel_rfl) ?_ (drop B f R M QQ _ y _ HSt2.out.s hs hR hm sz sz2) ?_
  ·go_simp
  rintro e w3 ⟨rfl, F2, hs2, ht2⟩
  have HSt3 := Lib.hid (HSt2.out.turn hs2 ht2)
  refine ⟨_, rfl, trivial, ?_⟩
  have HStB := Lib.hid (HSt3.out)
  refine Eng.TW.step rfl rfl (by decide) (by kernel_rfl) (by go_simp; first | done | with_reducible rfl | exact ⟨rfl, rfl⟩) (trivial) ?_
  have HSt4 := Lib.hid (HSt3.out.fr (Fr.alloc (fun _ => False) _ (.cells y.arr TSn)))
  have hSS : True := trivial
  refine Eng.TW.app rfl rfl (by decide) (by kernel_rfl) (.tmp 42) (.tmp 46) TSs rfl n0 TSn i0 (.agg #[.int .i64 0, .int .i64 0, .int .i64 0, .int .i64 0, .string ByteArray.empty, .string ByteArray.empty, .int .i64 0, .int .i64 0, .bool false]) 9 88 underlying22 hi hz0 hz1 hz2 rfl (by decide) v _ _ ⟨w3.heap.size, 0, none⟩ 1 1 (scs y) (by go_simp; first | done | with_reducible rfl) (by go_simp; first | done | with_reducible rfl) (HSt4.out.o) rfl (new_cells w3 TSn (scs y)) (by simp [Value.oneCell']) (by unfold maxLen; omega) (by omega) (by have := HSt4.out.n.2.2.2; exact this) ?_
  intro v5 w5 hown hg hv
  obtain ⟨A5, c5, rfl, -, -⟩ := Sl.of_own hown
  have HSt5 := Lib.hid (HStB.out.app hown hg hv)
  have hSS : True := trivial
  clear hown hg hv
  refine ⟨hSS, ?_⟩
  refine Eng.TW.tk ?_
  have cd1 : w5.cell? ⟨Bd, 0, none⟩ = some v := HSt5.out.b.cell 0
  have fd1 := HSt5.out.b.free 0
  refine Eng.TW.step0 rfl rfl (by kernel_rfl) (by go_simp; first | done | with_reducible rfl | exact ⟨rfl, rfl⟩) (trivial) ?_
  have HSt6 := Lib.hid (HSt5.out.store)
  have hSS : True := trivial
  refine Eng.TW.end_ [41, 42, 43, 44, 45, 46, 47, 48] HN.out (by kernel_rfl) (by kernel_rfl) ?_
  exact HP.out _ _ F2 _ HSt6.out
 refine Eng.TW.call rfl rfl (by decide) (by kernel_rfl) ?_ (drop B f R M QQ _ y _ HSt.out.s hs hR hm sz sz2) ?_
 ·go_simp
 rintro e w2 ⟨rfl, F2, hs2, ht2⟩
 have HSt2 := Lib.hid (HSt.out.turn hs2 ht2)
 refine ⟨_, rfl, trivial, ?_⟩
 refine Eng.TW.both ?_ ?_
 ·have cd : w2.cell? ⟨Bd, 0, none⟩ = some v := HSt2.out.b.cell 0
  refine Eng.TW.step rfl rfl (by decide) (by kernel_rfl) (by go_simp; first | done | with_reducible rfl | exact ⟨rfl, rfl⟩) (trivial) ?_
  have HSt3 := Lib.hid (HSt2.out)
  have hSS : True := trivial
  have HStB := Lib.hid (HSt3.out)
  refine Eng.TW.step rfl rfl (by decide) (by kernel_rfl) (by go_simp; first | done | with_reducible rfl | exact ⟨rfl, rfl⟩) (trivial) ?_
  have HSt4 := Lib.hid (HSt3.out.fr (Fr.alloc (fun _ => False) _ (.cells y.arr TSn)))
  have hSS : True := trivial
  refine Eng.TW.app rfl rfl (by decide) (by kernel_rfl) (.tmp 42) (.tmp 46) TSs rfl n0 TSn i0 (.agg #[.int .i64 0, .int .i64 0, .int .i64 0, .int .i64 0, .string ByteArray.empty, .string ByteArray.empty, .int .i64 0, .int .i64 0, .bool false]) 9 88 underlying22 hi hz0 hz1 hz2 rfl (by decide) v _ _ ⟨w2.heap.size, 0, none⟩ 1 1 (scs y) (by go_simp; first | done | with_reducible rfl) (by go_simp; first | done | with_reducible rfl) (HSt4.out.o) rfl (new_cells w2 TSn (scs y)) (by simp [Value.oneCell']) (by unfold maxLen; omega) (by omega) (by have := HSt4.out.n.2.2.2; exact this) ?_
  intro v5 w5 hown hg hv
  obtain ⟨A5, c5, rfl, -, -⟩ := Sl.of_own hown
  have HSt5 := Lib.hid (HStB.out.app hown hg hv)
  have hSS : True := trivial
  clear hown hg hv
  refine ⟨hSS, ?_⟩
  refine Eng.TW.tk ?_
  have cd1 : w5.cell? ⟨Bd, 0, none⟩ = some v := HSt5.out.b.cell 0
  have fd1 := HSt5.out.b.free 0
  refine Eng.TW.step0 rfl rfl (by kernel_rfl) (by go_simp; first | done | with_reducible rfl | exact ⟨rfl, rfl⟩) (trivial) ?_
  have HSt6 := Lib.hid (HSt5.out.store)
  have hSS : True := trivial
  refine Eng.TW.end_ [41, 42, 43, 44, 45, 46, 47, 48] HN.out (by kernel_rfl) (by kernel_rfl) ?_
  exact HP.out _ _ F2 _ HSt6.out
 have HStB := Lib.hid (HSt2.out)
 refine Eng.TW.step rfl rfl (by decide) (by kernel_rfl) (by go_simp; first | done | with_reducible rfl | exact ⟨rfl, rfl⟩) (trivial) ?_
 have HSt3 := Lib.hid (HSt2.out.fr (Fr.alloc (fun _ => False) _ (.cells y.arr TSn)))
 have hSS : True := trivial
 have cd : (w2.alloc (.cells y.arr TSn)).cell? ⟨Bd, 0, none⟩ = some v := HSt3.out.b.cell 0
 refine Eng.TW.step rfl rfl (by decide) (by kernel_rfl) (by go_simp; first | done | with_reducible rfl | exact ⟨rfl, rfl⟩) (trivial) ?_
 have HSt4 := Lib.hid (HSt3.out)
 have hSS : True := trivial
 refine Eng.TW.app rfl rfl (by decide) (by kernel_rfl) (.tmp 42) (.tmp 46) TSs rfl n0 TSn i0 (.agg #[.int .i64 0, .int .i64 0, .int .i64 0, .int .i64 0, .string ByteArray.empty, .string ByteArray.empty, .int .i64 0, .int .i64 0, .bool false]) 9 88 underlying22 hi hz0 hz1 hz2 rfl (by decide) v _ _ ⟨w2.heap.size, 0, none⟩ 1 1 (scs y) (by go_simp; first | done | with_reducible rfl) (by go_simp; first | done | with_reducible rfl) (HSt4.out.o) rfl (new_cells w2 TSn (scs y)) (by simp [Value.oneCell']) (by unfold maxLen; omega) (by omega) (by have := HSt4.out.n.2.2.2; exact this) ?_
 intro v5 w5 hown hg hv
 obtain ⟨A5, c5, rfl, -, -⟩ := Sl.of_own hown
 have HSt5 := Lib.hid (HStB.out.app hown hg hv)
 have hSS : True := trivial
 clear hown hg hv
 refine ⟨hSS, ?_⟩
 refine Eng.TW.tk ?_
 have cd1 : w5.cell? ⟨Bd, 0, none⟩ = some v := HSt5.out.b.cell 0
 have fd1 := HSt5.out.b.free 0
 refine Eng.TW.step0 rfl rfl (by kernel_rfl) (by go_simp; first | done | with_reducible rfl | exact ⟨rfl, rfl⟩) (trivial) ?_
 have HSt6 := Lib.hid (HSt5.out.store)
 have hSS : True := trivial
 refine Eng.TW.end_ [41, 42, 43, 44, 45, 46, 47, 48] HN.out (by kernel_rfl) (by kernel_rfl) ?_
 exact HP.out _ _ F2 _ HSt6.out
theorem bef_asym_ne {a b : Sn} (h : bef a b = true) (e : b.t = a.t ∧ b.i = a.i) : bef a b = false := by
 have := bef_ne h; rw [one_iff.2 ⟨e.1.symm, e.2.symm⟩] at this; cases this
def past (h : Int) (x : Sn) : Bool := decide (endS x < h)
def tkR (L X : List Sn) (k : Nat) : List Sn := (X.take k).foldl (fun N x => out x.t x.i N) L
theorem tkR_succ {L X : List Sn} {k : Nat} (hk : k < X.length) : tkR L X (k + 1) = out X[k].t X[k].i (tkR L X k) := by
 unfold tkR; rw [List.take_succ_eq_append_getElem hk, List.foldl_append]; rfl
theorem foldl_out_mem : ∀ (D N : List Sn) (y : Sn), y ∈ D.foldl (fun N x => out x.t x.i N) N ↔ y ∈ N ∧ ∀ x ∈ D, ¬ (y.t = x.t ∧ y.i = x.i)
 | [], N, y => by simp
 | d :: D, N, y => by
  rw [List.foldl_cons, foldl_out_mem D, out_mem]
  simp only [List.mem_cons, forall_eq_or_imp, and_assoc]
theorem tkR_mem {L X : List Sn} {k : Nat} {y : Sn} : y ∈ tkR L X k ↔ y ∈ L ∧ ∀ x ∈ X.take k, ¬ (y.t = x.t ∧ y.i = x.i) := foldl_out_mem _ _ _
theorem tkR_srs {L X : List Sn} (hs : Srs L) : ∀ k, Srs (tkR L X k) := by
 intro k
 unfold tkR
 generalize X.take k = D
 induction D generalizing L with
 | nil => exact hs
 | cons d D ih => rw [List.foldl_cons]; exact ih (out_srs hs)
theorem tkR_sub {L X : List Sn} {k : Nat} : ∀ y ∈ tkR L X k, y ∈ L := fun _y hy => (tkR_mem.1 hy).1
theorem tkR_len {L X : List Sn} (k : Nat) : (tkR L X k).length ≤ L.length := by
 unfold tkR
 generalize X.take k = D
 induction D generalizing L with
 | nil => exact Nat.le_refl _
 | cons d D ih => rw [List.foldl_cons]; exact Nat.le_trans ih (out_len _ _ _)
theorem tkR_at {L : List Sn} {p : Sn → Bool} (hs : Srs L) {k : Nat} (hk : k < (L.filter p).length) : (L.filter p)[k] ∈ tkR L (L.filter p) k := by
 rw [tkR_mem]
 refine ⟨(List.mem_filter.1 (List.getElem_mem hk)).1, fun x hx e => ?_⟩
 obtain ⟨j, hj, rfl⟩ := List.getElem_of_mem hx
 rw [List.length_take] at hj
 rw [List.getElem_take] at e
 have := List.pairwise_iff_getElem.1 (hs.filter p) j k (by omega) hk (by omega)
 rw [bef_asym_ne this e] at this
 cases this
theorem tkR_all {L : List Sn} {p : Sn → Bool} (hs : Srs L) : tkR L (L.filter p) (L.filter p).length = L.filter (fun x => !p x) := by
 refine srs_ext (tkR_srs hs _) (hs.filter _) (fun y => ?_)
 rw [tkR_mem, List.take_length, List.mem_filter]
 refine and_congr_right (fun hy => ⟨fun h => ?_, fun h x hx e => ?_⟩)
 ·cases hp : p y with
  | false => rfl
  | true => exact absurd ⟨rfl, rfl⟩ (h y (List.mem_filter.2 ⟨hy, hp⟩))
 ·obtain ⟨h1, h2⟩ := List.mem_filter.1 hx
  rw [srs_uni hs hy h1 (one_iff.2 e), h2] at h
  cases h
theorem keys_of {L : List Sn} (hs : Srs L) (hk : ∀ x ∈ L, x.ok) {h : Int} {KL : List ExpP.It} (h1 : KL.Pairwise (fun p q => ExpP.lt2 p q = true)) (h2 : ∀ p, p ∈ KL ↔ p ∈ ens L) : SortL.sortB ((ExpP.below h KL).map (·.1)) = (L.filter (past h)).map kk := by
 have inj : ∀ x ∈ L, ∀ y ∈ L, kk x = kk y → x = y := fun x hx y hy e => by
  obtain ⟨e1, e2⟩ := key2_inj (hk x hx).t (hk x hx).i (hk y hy).t (hk y hy).i e
  exact srs_uni hs hx hy (one_iff.2 ⟨e1, e2⟩)
 have hsub : ∀ p, p ∈ ExpP.below h KL ↔ p ∈ ens L ∧ p.2 < h := fun p => by rw [ExpP.below_mem h1, h2]
 refine SortL.sortB_of ?_ ?_
 ·refine (List.perm_ext_iff_of_nodup ?_ ?_).2 (fun k => ?_)
  ·rw [List.Nodup, List.pairwise_map]
   refine (ExpP.below_srt h1).imp_of_mem (fun {a b} ha hb hab e => ?_)
   obtain ⟨x, hx, rfl⟩ := List.mem_map.1 ((hsub a).1 ha).1
   obtain ⟨y, hy, rfl⟩ := List.mem_map.1 ((hsub b).1 hb).1
   have := inj x hx y hy e
   subst this
   rw [ExpP.lt2_irr] at hab; cases hab
  ·rw [List.Nodup, List.pairwise_map]
   refine (hs.filter (past h)).imp_of_mem (fun {a b} ha hb hab e => ?_)
   have := inj a (List.mem_filter.1 ha).1 b (List.mem_filter.1 hb).1 e
   subst this
   rw [bef_irr] at hab; cases hab
  ·simp only [List.mem_map]
   constructor
   ·rintro ⟨p, hp, rfl⟩
    obtain ⟨h3, h4⟩ := (hsub p).1 hp
    obtain ⟨x, hx, rfl⟩ := List.mem_map.1 h3
    exact ⟨x, List.mem_filter.2 ⟨hx, by unfold past; simpa using h4⟩, rfl⟩
   ·rintro ⟨x, hx, rfl⟩
    obtain ⟨h3, h4⟩ := List.mem_filter.1 hx
    exact ⟨(kk x, endS x), (hsub _).2 ⟨List.mem_map.2 ⟨x, h3, rfl⟩, by unfold past at h4; simpa using h4⟩, rfl⟩
 ·rw [List.pairwise_map]
  exact (hs.filter (past h)).imp_of_mem (fun {a b} ha hb hab => by rw [lt_kk (gk_ok (hk a (List.mem_filter.1 ha).1)) (gk_ok (hk b (List.mem_filter.1 hb).1))]; exact hab)
theorem SB.turnT {w : World} {B : Nat} {f : Cf} {R : List Sn} {M : List (ByteArray × Int)} {Q : List (Int × Int)} {F : List Nat} (h : SB w B f R M Q F) (now : Int) : SB (w.setCell ⟨B, 4, none⟩ (.int .i64 now)) B (f.at now) R M Q F ∧ Tn F F w (w.setCell ⟨B, 4, none⟩ (.int .i64 now)) := by
 obtain ⟨c, r, F1, FE, q, rq, h, rfl⟩ := h
 obtain ⟨h1, h2⟩ := h.turnT now
 exact ⟨⟨_, r, F1, FE, q, rq, h1, rfl⟩, h2⟩
theorem SB.free {w : World} {B : Nat} {f : Cf} {R : List Sn} {M : List (ByteArray × Int)} {Q : List (Int × Int)} {F : List Nat} (h : SB w B f R M Q F) (o : Nat) : w.frozen? ⟨B, o, none⟩ = false := by
 obtain ⟨c, r, F1, FE, q, rq, h, rfl⟩ := h
 exact free_of_block h.e.blk o
theorem SB.below {w : World} {B : Nat} {f : Cf} {R : List Sn} {M : List (ByteArray × Int)} {Q : List (Int × Int)} {F : List Nat} (h : SB w B f R M Q F) (time : Int) (sz : M.length ≤ 1000000) : Calls prog 108 #[.pointer (some ⟨B, 7, none⟩), .int .i64 time] w (Exp.BelowPost M time w) := by
 obtain ⟨c, r, F1, FE, q, rq, h, rfl⟩ := h
 exact ExpO.Below_ B 7 c TSt M FE time w h.e sz
theorem SB.dropQ {w : World} {B : Nat} {f : Cf} {R : List Sn} {M : List (ByteArray × Int)} {Q : List (Int × Int)} {F : List Nat} (h : SB w B f R M Q F) : ∃ q, w.cell? ⟨B, 11, none⟩ = some (.pointer (some ⟨q, 0, none⟩)) ∧ ∀ W, SB W B f R M Q F → W.cell? ⟨B, 11, none⟩ = some (.pointer (some ⟨q, 0, none⟩)) → ∀ {A : Option Addr} {cp : Nat} {L : List Sn}, Ls W A cp L → Apt A L F → Calls prog 111 #[.pointer (some ⟨q, 0, none⟩), .slice A L.length cp] W fun e w' => e = .returned (.tuple #[]) ∧ SB w' B f R M (QuotaP.dropM (L.map Sn.t) Q) F ∧ Tn F F W w' := by
 obtain ⟨c, r, F1, FE, q, rq, h, rfl⟩ := h
 refine ⟨q, h.cell h.c11, fun W hW hc A cp L hL hA => ?_⟩
 obtain ⟨c', r', F1', FE', q', rq', h', hF⟩ := hW
 have e := h'.cell h'.c11
 rw [hc] at e
 cases e
 rw [hF] at hA
 refine (h'.dropQ hL hA).mono ?_
 rintro e w' ⟨rfl, h1, h2⟩
 exact ⟨rfl, ⟨c', r', F1', FE', q, rq', h1, hF⟩, by rw [hF]; exact h2⟩
theorem ti6 {ops : Array Oper} (hops : Eng.fnOps Tryz.f47 6 = ops) (a0 : Act) (Q : Exit → Act → World → Prop) (w0 w : World) (B : Nat) (f : Cf) (R : List Sn) (M : List (ByteArray × Int)) (QQ : List (Int × Int)) (F : List Nat) (hw : in64 f.wi) (hn2 : in64 f.now) (sz : M.length ≤ 1000000) (hst : HX w0 w B f R M QQ F)
  (hn : a0.tmps.size = 58) (h_0 : a0.tmps.getD 0 undef = .pointer (some ⟨B, 0, none⟩))
  (hpost : ∀ (x : Nat → Value) (w' : World) (KL : List ExpP.It) (v : Value), x 6 = v → KL.Pairwise (fun p q => ExpP.lt2 p q = true) → (∀ p, p ∈ KL ↔ p ∈ M) → w'.ownsRow w.heap.size Exp.TStr 1 v (ExpP.below (hz f) KL).length (Exp.strs ((ExpP.below (hz f) KL).map (·.1))) → HX w0 w' B f R M QQ F → Q .normal (Eng.setAll a0 [6, 27, 28, 29, 30, 31, 32] x) w') :
  (Code.region 6 ops true).wp prog Q a0 w := by
 simp only [Eng.fnOps, Eng.regOps, Tryz.f47, Option.bind_some, Option.getD_some, Nat.reduceEqDiff, ↓reduceIte] at hops
 subst hops
 have HSt := Lib.hid (hst.fr (Fr.drew _ _))
 refine Eng.regionN [(0, true), (1, true), (2, true), (3, true), (4, false), (5, false), (6, true)] (fun w' => True) (by kernel_rfl) 58 hn (by kernel_rfl) rfl (by kernel_rfl) (trivial) (fun a b ha hb => ?_)
 subst ha
 have hb0 : b 0 = .pointer (some ⟨B, 0, none⟩) := (hb 0).symm.trans h_0
 clear hb h_0
 have HP := Lib.hid hpost; have HN := Lib.hid hn
 clear hpost hn
 iterate 4 (refine Eng.Sch.tk ?_)
 refine Eng.Sch.call rfl rfl (by decide) (by kernel_rfl) ?_ (Horizon B f R M QQ F _ HSt.out.s hw hn2) ?_
 ·go_simp
 rintro e w2 ⟨rfl, hf⟩
 have HSt1 := Lib.hid (HSt.out.fr hf)
 refine ⟨_, rfl, trivial, ?_⟩
 refine Eng.Sch.call rfl rfl (by decide) (by kernel_rfl) ?_ (HSt1.out.s.below (hz f) sz) ?_
 ·go_simp
 rintro e w3 ⟨KL, v, hk1, hk2, rfl, hown, hb⟩
 have HSt2 := Lib.hid (HSt1.out.fr (Fr.of_below' hb _))
 refine ⟨_, rfl, trivial, ?_⟩
 refine Eng.Sch.tk ?_
 refine Eng.Sch.end_ [6, 27, 28, 29, 30, 31, 32] HN.out (by kernel_rfl) (by kernel_rfl) ?_
 exact HP.out _ _ KL v rfl hk1 hk2 (ownsRow_base hown hf.size) HSt2.out
end Sto
set_option maxRecDepth 100000
set_option maxHeartbeats 4000000
namespace Sto
open Name KeyP PackP SetP SetW SetF Delta Comp BagP
open Sat2 (endS cl cl_in)
attribute [local go_sem] Eng.ev Eng.getO_cons Eng.getO_nil
structure KZ (w0 w : World) (B : Nat) (f : Cf) (R : List Sn) (M : List (ByteArray × Int)) (Q : List (Int × Int)) (F0 F : List Nat) (Bd q : Nat) (A : Option Addr) (c : Nat) (O : List Sn) : Prop where
 s : SB w B f R M Q F
 t : Tn F0 F w0 w
 b : Bk w Bd #[.slice A O.length c, .slice none 0 0] TDl
 l : Ls w A c O
 n : Bd ∉ F
 ap : Apt A O F
 c : w.cell? ⟨B, 11, none⟩ = some (.pointer (some ⟨q, 0, none⟩))
section
variable {w0 w w' : World} {B : Nat} {f : Cf} {R : List Sn} {M : List (ByteArray × Int)} {Q Q' : List (Int × Int)} {F0 F : List Nat} {Bd q : Nat} {A : Option Addr} {c : Nat} {O : List Sn}
theorem KZ.fr (h : KZ w0 w B f R M Q F0 F Bd q A c O) (hf : Fr (fun _ => False) w w') : KZ w0 w' B f R M Q F0 F Bd q A c O :=
 ⟨h.s.keep hf, h.t.trans (Tn.of_fr hf h.s.lt), h.b.fr hf (fun _ _ h => h), h.l.keep hf, h.n, h.ap, (World.cell?_of_block (w := w) (a := ⟨B, 11, none⟩) (hf.block B h.s.hB (fun h => h))).trans h.c⟩
structure KW (w0 w : World) (B : Nat) (f : Cf) (R : List Sn) (M : List (ByteArray × Int)) (Q : List (Int × Int)) (F0 F : List Nat) (Bd : Nat) (A : Option Addr) (c : Nat) (O : List Sn) : Prop where
 s : SB w B f R M Q F
 t : Tn F0 F w0 w
 b : Bk w Bd #[.slice A O.length c, .slice none 0 0] TDl
 l : Ls w A c O
theorem KZ.turn (h : KZ w0 w B f R M Q F0 F Bd q A c O) (hs : SB w' B f R M Q' F) (ht : Tn F F w w') : KW w0 w' B f R M Q' F0 F Bd A c O :=
 ⟨hs, h.t.trans ht, h.b.fr ht.fr (fun b hb e => by simp at hb; subst hb; exact h.n e), Ls.frA h.l ht.fr h.ap⟩
end
theorem ti14 {ops : Array Oper} (hops : Eng.fnOps Tryz.f47 14 = ops) (a0 : Act) (Q : Exit → Act → World → Prop) (w0 w : World) (B : Nat) (f : Cf) (R : List Sn) (M : List (ByteArray × Int)) (QQ : List (Int × Int)) (F0 F : List Nat) (Bd q : Nat) (A : Option Addr) (c : Nat) (O : List Sn) (hdr : ∀ W, SB W B f R M QQ F → W.cell? ⟨B, 11, none⟩ = some (.pointer (some ⟨q, 0, none⟩)) → ∀ {A : Option Addr} {cp : Nat} {L : List Sn}, Ls W A cp L → Apt A L F → Calls prog 111 #[.pointer (some ⟨q, 0, none⟩), .slice A L.length cp] W fun e w' => e = .returned (.tuple #[]) ∧ SB w' B f R M (QuotaP.dropM (L.map Sn.t) QQ) F ∧ Tn F F W w') (hst : KZ w0 w B f R M QQ F0 F Bd q A c O)
  (hn : a0.tmps.size = 58) (h_0 : a0.tmps.getD 0 undef = .pointer (some ⟨B, 0, none⟩)) (h_7 : a0.tmps.getD 7 undef = .pointer (some ⟨Bd, 0, none⟩))
  (hpost : ∀ (x : Nat → Value) (w' : World), KW w0 w' B f R M (QuotaP.dropM (O.map Sn.t) QQ) F0 F Bd A c O → Q .normal (Eng.setAll a0 [50, 51, 52, 53, 54, 55, 56] x) w') :
  (Code.region 14 ops true).wp prog Q a0 w := by
 simp only [Eng.fnOps, Eng.regOps, Tryz.f47, Option.bind_some, Option.getD_some, Nat.reduceEqDiff, ↓reduceIte] at hops
 subst hops
 have HSt := Lib.hid (hst.fr (Fr.drew _ _))
 refine Eng.regionT (.take 0 (.take 1 (.take 2 (.take 4 (.alt 3 (.alt 5 (.alt 6 (.done) (.stop)) (.stop)) (.alt 5 (.alt 3 (.alt 6 (.done) (.stop)) (.stop)) (.stop))))))) (fun w' => True) (by kernel_rfl) 58 hn (by kernel_rfl) (by kernel_rfl) (by kernel_rfl) (trivial) (fun a b ha hb => ?_)
 subst ha
 have hb0 : b 0 = .pointer (some ⟨B, 0, none⟩) := (hb 0).symm.trans h_0
 have hb7 : b 7 = .pointer (some ⟨Bd, 0, none⟩) := (hb 7).symm.trans h_7
 clear hb h_0 h_7
 have HP := Lib.hid hpost; have HN := Lib.hid hn
 clear hpost hn
 iterate 4 (refine Eng.TW.tk ?_)
 refine Eng.TW.both ?_ ?_
 ·have cq : w.drew.cell? ⟨B, 11, none⟩ = some (.pointer (some ⟨q, 0, none⟩)) := HSt.out.c
  refine Eng.TW.step rfl rfl (by decide) (by kernel_rfl) (by go_simp; first | done | with_reducible rfl | exact ⟨rfl, rfl⟩) (trivial) ?_
  have HSt2 := Lib.hid (HSt.out)
  have hSS : True := trivial
  have cb : w.drew.cell? ⟨Bd, 0, none⟩ = some (.slice A O.length c) := HSt2.out.b.cell 0
  refine Eng.TW.step rfl rfl (by decide) (by kernel_rfl) (by go_simp; first | done | with_reducible rfl | exact ⟨rfl, rfl⟩) (trivial) ?_
  have HSt3 := Lib.hid (HSt2.out)
  have hSS : True := trivial
  refine Eng.TW.call rfl rfl (by decide) (by kernel_rfl) ?_ (hdr _ HSt3.out.s HSt3.out.c HSt3.out.l HSt3.out.ap) ?_
  ·go_simp
  rintro e w4 ⟨rfl, hs', ht⟩
  have HSt4 := Lib.hid (HSt3.out.turn hs' ht)
  refine ⟨_, rfl, trivial, ?_⟩
  refine Eng.TW.end_ [50, 51, 52, 53, 54, 55, 56] HN.out (by kernel_rfl) (by kernel_rfl) ?_
  exact HP.out _ _ HSt4.out
 have cb : w.drew.cell? ⟨Bd, 0, none⟩ = some (.slice A O.length c) := HSt.out.b.cell 0
 refine Eng.TW.step rfl rfl (by decide) (by kernel_rfl) (by go_simp; first | done | with_reducible rfl | exact ⟨rfl, rfl⟩) (trivial) ?_
 have HSt2 := Lib.hid (HSt.out)
 have hSS : True := trivial
 have cq : w.drew.cell? ⟨B, 11, none⟩ = some (.pointer (some ⟨q, 0, none⟩)) := HSt2.out.c
 refine Eng.TW.step rfl rfl (by decide) (by kernel_rfl) (by go_simp; first | done | with_reducible rfl | exact ⟨rfl, rfl⟩) (trivial) ?_
 have HSt3 := Lib.hid (HSt2.out)
 have hSS : True := trivial
 refine Eng.TW.call rfl rfl (by decide) (by kernel_rfl) ?_ (hdr _ HSt3.out.s HSt3.out.c HSt3.out.l HSt3.out.ap) ?_
 ·go_simp
 rintro e w4 ⟨rfl, hs', ht⟩
 have HSt4 := Lib.hid (HSt3.out.turn hs' ht)
 refine ⟨_, rfl, trivial, ?_⟩
 refine Eng.TW.end_ [50, 51, 52, 53, 54, 55, 56] HN.out (by kernel_rfl) (by kernel_rfl) ?_
 exact HP.out _ _ HSt4.out
def tickE (f : Cf) (now : Int) : Int := if now < f.now then 1 else 0
def tickF (f : Cf) (now : Int) : Cf := if now < f.now then f else f.at now
def tickL (f : Cf) (now : Int) (L : List Sn) : List Sn := if now < f.now then L else L.filter (fun x => !past (hz (f.at now)) x)
def tickO (f : Cf) (now : Int) (L : List Sn) : List Sn := if now < f.now then [] else L.filter (past (hz (f.at now)))
theorem Tick (B : Nat) (f : Cf) (L : List Sn) (F : List Nat) (now : Int) (w : World) (h : St w B f L F) (hnow : in64 now) (hL : L.length ≤ 100000) :
  Calls prog 47 #[.pointer (some ⟨B, 0, none⟩), .int .i64 now] w (ActPost B (tickF f now) (tickL f now L) (tickO f now L) [] F (tickE f now) w) := by
 have hf := Fr.alloc (fun _ => False) w (.cells #[.slice none 0 0, .slice none 0 0] TDl)
 have HB0 := Lib.hid (Bk.new w #[.slice none 0 0, .slice none 0 0] TDl)
 have HS0 := Lib.hid (h.s.keep hf)
 have HM := Lib.hid (made B f L _ _ F _ HS0.out)
 have HF0 := Lib.hid hf; have HFl := Lib.hid h.lt
 have HO := Lib.hid h.o; have HK := Lib.hid h.k; have HI := Lib.hid h.f
 have c4 := HS0.out.cf.2
 have f4 := HS0.out.free 4
 clear h hf
 by_cases hlt : now < f.now
 ·rw [show tickE f now = 1 from if_pos hlt, show tickF f now = f from if_pos hlt, show tickL f now L = L from if_pos hlt, show tickO f now L = [] from if_pos hlt]
  have q1 : decide (now < f.now) = true := by simpa using hlt
  clear hlt
  go_enter func47, ntmps47
  go_wp2_with fail
  refine HM.out.mono ?_
  rintro e w1 ⟨rfl, rfl⟩
  obtain ⟨N0, hN0⟩ : ∃ b, w.heap.size = b := ⟨_, rfl⟩
  have HN0 := Lib.hid hN0
  rw [hN0] at HB0
  (try rw [hN0])
  clear hN0 HM
  generalize (w.alloc (.cells #[.slice none 0 0, .slice none 0 0] TDl)) = w2 at *
  have r0 : w2.cell? ⟨N0, 0, none⟩ = some (.slice none 0 0) := HB0.out.cell 0
  have r1 : w2.cell? ⟨N0, 1, none⟩ = some (.slice none 0 0) := HB0.out.cell 1
  have g0 := HB0.out.free 0
  have g1 := HB0.out.free 1
  have hf3 : Fr (· = N0) w2 ((w2.setCell ⟨N0, 0, none⟩ (.slice none 0 0)).setCell ⟨N0, 1, none⟩ (.slice none 0 0)) := (Fr.setCell w2 ⟨N0, 0, none⟩ _ (S := (· = N0)) rfl).trans (Fr.setCell _ ⟨N0, 1, none⟩ _ (S := (· = N0)) rfl) (fun _ _ h => h) (fun _ _ h => h)
  have HR0 : Hid (Bk ((w2.setCell ⟨N0, 0, none⟩ (.slice none 0 0)).setCell ⟨N0, 1, none⟩ (.slice none 0 0)) N0 #[.slice none 0 0, .slice none 0 0] TDl) := (HB0.out.set 0 _).set 1 _
  have HP : Hid (ActPost B f L [] [] F 1 w (.returned (.tuple #[.agg #[.slice none 0 0, .slice none 0 0], .int .i64 1])) ((w2.setCell ⟨N0, 0, none⟩ (.slice none 0 0)).setCell ⟨N0, 1, none⟩ (.slice none 0 0))) := by
   have hs3 : SB ((w2.setCell ⟨N0, 0, none⟩ (.slice none 0 0)).setCell ⟨N0, 1, none⟩ (.slice none 0 0)) B f L (ens L) (Sto.cts L) F := HS0.out.fr hf3 (fun x hx e => by have := HFl.out _ hx; have := HN0.out; omega)
   exact ⟨none, 0, none, 0, F, rfl, ⟨hs3, HO.out, HK.out, HI.out⟩, ⟨HF0.out.trans hf3 (fun _ _ h => h.elim) (fun i hi e => by have := HN0.out; omega), fun x hx => ⟨.inl hx, hs3.lt x hx⟩⟩, Ls.nil _, Ls.nil _, fun _ a ha => (by cases ha), fun _ a ha => (by cases ha)⟩
  clear hf3
  go_wp2_with fail
  exact bodyPost_ret (results_row_slot (p := 4) (q := 5) rfl _ _ N0 TDl _ _ _ rfl rfl HR0.out underlying35 rfl (by kernel_rfl)) rfl HP.out
 ·rw [show tickE f now = 0 from if_neg hlt, show tickF f now = f.at now from if_neg hlt, show tickL f now L = L.filter (fun x => !past (hz (f.at now)) x) from if_neg hlt, show tickO f now L = L.filter (past (hz (f.at now))) from if_neg hlt]
  have q1 : decide (now < f.now) = false := by simpa using hlt
  clear hlt
  obtain ⟨ff, hff⟩ : ∃ g, f.at now = g := ⟨_, rfl⟩
  rw [hff]
  obtain ⟨X, hX⟩ : ∃ g, L.filter (past (hz ff)) = g := ⟨_, rfl⟩
  rw [hX]
  have HX := Lib.hid hX; have Hff := Lib.hid hff
  clear hX hff
  go_enter func47, ntmps47
  go_wp2_with fail
  refine HM.out.mono ?_
  rintro e w1 ⟨rfl, rfl⟩
  obtain ⟨N0, hN0⟩ : ∃ b, w.heap.size = b := ⟨_, rfl⟩
  have HN0 := Lib.hid hN0
  rw [hN0] at HB0
  (try rw [hN0])
  clear hN0 HM
  generalize (w.alloc (.cells #[.slice none 0 0, .slice none 0 0] TDl)) = w2 at *
  obtain ⟨hs3, ht3⟩ := HS0.out.turnT now
  rw [Hff.out] at hs3
  have HS3 := Lib.hid hs3
  have HT3 := Lib.hid ((Tn.of_fr HF0.out HFl.out).trans ht3)
  have HB3 := Lib.hid (HB0.out.fr ht3.fr (fun b hb hm => by simp at hb; subst hb; have := HFl.out _ hm; have := HN0.out; omega))
  clear hs3 ht3
  go_upto_region 6 with (fail)
  generalize (w2.setCell ⟨B, 4, none⟩ (.int .i64 now)) = w3 at *
  clear c4 f4 HS0 HB0 HF0
  have hfn : in64 ff.now := by rw [← Hff.out]; exact hnow
  have hfw : in64 ff.wi := by rw [← Hff.out]; exact HI.out.2.2.1
  have hfI : in64 ff.sp ∧ in64 ff.tr ∧ in64 ff.wi ∧ in64 ff.now := by rw [← Hff.out]; exact ⟨HI.out.1, HI.out.2.1, HI.out.2.2.1, hnow⟩
  refine ti6 (by kernel_rfl) _ _ w3 w3 B ff L (ens L) (Sto.cts L) F hfw hfn (by rw [len_mp]; omega) ⟨HS3.out, Fr.refl _ _⟩ rfl rfl ?_
  intro x w4 KL v h6 hk1 hk2 hown hst
  simp only [Eng.setAll, Act.put, List.setIfInBounds_toArray, List.set_cons_succ, List.set_cons_zero]
  rw [h6]
  have HKeys := Lib.hid (keys_of HO.out.srs HK.out (h := hz ff) hk1 hk2)
  have HS4 := Lib.hid hst.s
  have HF4 := Lib.hid hst.f
  have HOw := Lib.hid hown
  have hkl : ((ExpP.below (hz ff) KL).map (·.1)).length = (ExpP.below (hz ff) KL).length := List.length_map _
  clear h6 hk1 hk2 hown hst
  generalize (ExpP.below (hz ff) KL).map (·.1) = ks0 at *
  rw [← hkl] at HOw
  clear hkl
  have hks0 : ks0.length = (L.filter (past (hz ff))).length := by rw [← SortL.sortB_len, HKeys.out, List.length_map]
  have hXl := List.length_filter_le (past (hz ff)) L
  rw [HX.out] at HKeys hks0 hXl
  go_wp2_with fail
  refine (SortL.SortS HOw.out (by omega)).mono ?_
  rintro e w5 ⟨rfl, hown5, hg5⟩
  rw [HKeys.out, hks0] at hown5
  obtain ⟨Ak, ck, rfl, hsk, hak⟩ := Sl.of_own hown5
  have hf5 := Fr.grown hg5 (S := fun k => w3.heap.size ≤ k) (fun k e => (ownsRow_blk HOw.out k e).1)
  have hf35 := HF4.out.trans hf5 (T := fun _ => False) (fun _ _ h => h) (fun i hi e => by omega)
  have hf6 := Fr.alloc (fun _ => False) w5 (.cells #[.slice none 0 0, .slice none 0 0] TDl)
  have hf36 := hf35.trans hf6 (T := fun _ => False) (fun _ _ h => h) (fun _ _ h => h)
  have HS6 := Lib.hid (HS3.out.keep hf36)
  have HT6 := Lib.hid (HT3.out.trans (Tn.of_fr hf36 HS3.out.lt))
  have HB6 := Lib.hid (HB3.out.fr hf36 (fun _ _ h => h))
  have HBd := Lib.hid (Bk.new w5 #[.slice none 0 0, .slice none 0 0] TDl)
  have HSk := Lib.hid (hsk.fr hf6 (fun _ _ h => h))
  have hz35 := hf35.size
  have HAk : Hid (∀ a, Ak = some a → w3.heap.size ≤ a.block ∧ a.block < w5.heap.size) := fun a ha => ⟨(hak a ha).1, (hak a ha).2.2⟩
  have h3F : Hid (∀ b, w3.heap.size ≤ b → b ∉ F) := fun b hb hm => by have := HS3.out.lt b hm; omega
  have hlN : N0 < w3.heap.size := lt_of_heap HB3.out
  obtain ⟨Bd, hBd⟩ : ∃ b, w5.heap.size = b := ⟨_, rfl⟩
  have HBd2 : Hid (w3.heap.size ≤ Bd) := by show _ ≤ _; omega
  rw [hBd] at HBd HAk
  have hz6 : (w5.alloc (.cells #[.slice none 0 0, .slice none 0 0] TDl)).heap.size = Bd + 1 := by rw [World.size_alloc, hBd]
  clear hown5 hg5 hsk hak hf5 hf35 hf6 hf36 HOw HF4 HS4 HS3 HT3 HB3 hz35
  go_wp2_with fail
  (try rw [hBd])
  clear hBd
  generalize (w5.alloc (.cells #[.slice none 0 0, .slice none 0 0] TDl)) = w6 at *
  have hz36 : w3.heap.size ≤ w6.heap.size := by have := HBd2.out; omega
  have hKX : KX w6.heap.size w6 w6 B ff (tkR L X 0) (ens (tkR L X 0)) (Sto.cts L) (Bd :: F) F Bd (.slice none 0 0) (.slice none 0 0) (X.take 0) := ⟨HS6.out, ⟨Fr.refl _ _, fun x hx => ⟨.inl (by simp [hx]), HS6.out.lt x hx⟩⟩, HBd.out, World.ownsRow_nil _ _ _ _, ⟨h3F.out _ HBd2.out, by simp, Nat.le_refl _, Nat.le_refl _⟩, fun b hb => by simp [Value.ownBlock] at hb⟩
  have HKX := Lib.hid hKX
  clear hKX HBd
  go_loopg [37] X.length (fun gk i wr => ∃ (k : Nat) (Fk : List Nat) (v : Value), i = .int .i64 k ∧ k ≤ X.length ∧ gk = X.length - k ∧ KX w6.heap.size w6 wr B ff (tkR L X k) (ens (tkR L X k)) (Sto.cts L) (Bd :: F) Fk Bd v v (X.take k))
  case atStart => exact ⟨0, F, _, rfl, Nat.zero_le _, rfl, HKX.out⟩
  case round =>
   clear HKX
   obtain ⟨k, Fk, v, rfl, hk, hg, hkx⟩ := hrel
   obtain ⟨wo, hwo⟩ : ∃ wo, wo = wr := ⟨_, rfl⟩
   subst hwo
   have HG := Lib.hid hg; have HK2 := Lib.hid hkx
   clear hg hkx
   have hsk : Sl wo 1 Ak X.length ck ((X.map kk).map Value.string) := HSk.out.fr HK2.out.t.fr (fun a ha hm => by
    have h1 := HAk.out a ha
    rcases List.mem_cons.1 hm with e | e
    ·omega
    ·exact h3F.out _ h1.1 e)
   by_cases hlt : k < X.length
   ·obtain ⟨b1, o1, rfl, hb1, c1⟩ := hsk.at hlt (by omega)
    have hlt2 : k < (L.filter (past (hz ff))).length := by rw [HX.out]; exact hlt
    have hmem : X[k] ∈ tkR L X k := by have := tkR_at HO.out.srs hlt2; simpa [HX.out] using this
    have ek : wo.cell? ⟨b1, o1 + k, none⟩ = some (.string (kk X[k])) := c1 k _ (by rw [List.getElem?_map, List.getElem?_map, List.getElem?_eq_getElem hlt]; rfl)
    have HSu := Lib.hid (tkR_succ (L := L) hlt)
    have HTk := Lib.hid (List.take_succ_eq_append_getElem hlt)
    have hlr := tkR_len (L := L) (X := X) k
    have q2 : (0 : Int) ≤ (k : Int) := by omega
    have q3 : decide ((k : Int) < (X.length : Int)) = true := by simp; omega
    have q4 : (k : Int) < (X.length : Int) := by omega
    have hokR : ∀ z ∈ tkR L X k, z.ok := fun z hz => HK.out z (tkR_sub z hz)
    clear c1 hsk hb1 hlt2
    generalize X[k] = y at *
    go_upto_region 12 with (fail)
    refine ti12 (by kernel_rfl) _ _ w6.heap.size w6 wo B ff (tkR L X k) [] (ens (tkR L X k)) [] (Sto.cts L) (Bd :: F) Fk Bd v (X.take k) y (tkR_srs HO.out.srs k) hokR hmem (by omega) (by rw [len_mp]; omega) (by rw [List.length_take]; omega) HK2.out rfl rfl rfl rfl ?_
    intro z w7 F7 v7 hst
    simp only [Eng.setAll, Act.put, List.setIfInBounds_toArray, List.set_cons_succ, List.set_cons_zero]
    rw [del_mp (f := endS) (gk_ok (hokR y hmem)) (fun z hz => gk_ok (hokR z hz)), ← HSu.out, ← HTk.out] at hst
    have HK7 := Lib.hid hst
    clear hst ek HK2
    go_wp2_with fail
    go_roundg (X.length - (k + 1))
    case rel => exact ⟨k + 1, F7, v7, by go_num, by omega, rfl, HK7.out⟩
    case measure => have := HG.out; omega
   ·obtain rfl : k = X.length := by omega
    have q3 : decide ((X.length : Int) < (X.length : Int)) = false := by simp
    have hkx := HK2.out
    have hall : tkR L X X.length = L.filter (fun x => !past (hz ff) x) := by have := tkR_all (p := past (hz ff)) HO.out.srs; rwa [HX.out] at this
    rw [List.take_length, hall] at hkx
    obtain ⟨A9, c9, rfl, hs9, hb9⟩ := Sl.of_own hkx.o
    have hXok : ∀ x ∈ X, x.ok := fun x hx => HK.out x (by rw [← HX.out] at hx; exact (List.mem_filter.1 hx).1)
    obtain ⟨q, hq1, hq2⟩ := hkx.s.dropQ
    have hn9 : ∀ a, A9 = some a → w6.heap.size ≤ a.block ∧ a.block ∉ Fk := fun a ha => ⟨(hb9 a ha).1, hkx.no _ (hb9 a ha).2.1⟩
    have HKZ : Hid (KZ w6 wo B ff (L.filter (fun x => !past (hz ff) x)) (ens (L.filter (fun x => !past (hz ff) x))) (Sto.cts L) (Bd :: F) Fk Bd q A9 c9 X) := ⟨hkx.s, hkx.t, hkx.b, ⟨hs9, hXok⟩, hkx.n.1, fun _ a ha => (hn9 a ha).2, hq1⟩
    have HQ2 := Lib.hid (@hq2)
    have HN9 := Lib.hid hn9
    clear hkx hs9 hb9 hq1 hq2 hn9 HK2 hsk
    go_upto_region 14 with (fail)
    refine ti14 (by kernel_rfl) _ _ w6 wo B ff _ _ (Sto.cts L) (Bd :: F) Fk Bd q A9 c9 X HQ2.out HKZ.out rfl rfl rfl ?_
    intro z w9 hst
    simp only [Eng.setAll, Act.put, List.setIfInBounds_toArray, List.set_cons_succ, List.set_cons_zero]
    have hct : QuotaP.dropM (X.map Sn.t) (Sto.cts L) = Sto.cts (L.filter (fun x => !past (hz ff) x)) := by rw [← HX.out]; exact cts_drop _ _
    rw [hct] at hst
    have HW := Lib.hid hst
    clear hst HKZ HQ2 hct
    have hb0 := HB6.out.fr HW.out.t.fr (fun b hb hm => by
     simp at hb; subst hb
     have := HBd2.out
     rcases List.mem_cons.1 hm with e | e
     ·omega
     ·have := HFl.out _ e; have := HN0.out; omega)
    have e0 : w9.cell? ⟨Bd, 0, none⟩ = some (.slice A9 X.length c9) := HW.out.b.cell 0
    have e1 : w9.cell? ⟨Bd, 1, none⟩ = some (.slice none 0 0) := HW.out.b.cell 1
    have r0 : w9.cell? ⟨N0, 0, none⟩ = some (.slice none 0 0) := hb0.cell 0
    have r1 : w9.cell? ⟨N0, 1, none⟩ = some (.slice none 0 0) := hb0.cell 1
    have g0 := hb0.free 0
    have g1 := hb0.free 1
    have hf3 : Fr (· = N0) w9 ((w9.setCell ⟨N0, 0, none⟩ (.slice A9 X.length c9)).setCell ⟨N0, 1, none⟩ (.slice none 0 0)) := (Fr.setCell w9 ⟨N0, 0, none⟩ _ (S := (· = N0)) rfl).trans (Fr.setCell _ ⟨N0, 1, none⟩ _ (S := (· = N0)) rfl) (fun _ _ h => h) (fun _ _ h => h)
    have HR0 : Hid (Bk ((w9.setCell ⟨N0, 0, none⟩ (.slice A9 X.length c9)).setCell ⟨N0, 1, none⟩ (.slice none 0 0)) N0 #[.slice A9 X.length c9, .slice none 0 0] TDl) := (hb0.set 0 _).set 1 _
    have nN0 : N0 ∉ Fk := fun hm => by
     have h1 := HBd2.out
     rcases (HW.out.t.sub N0 hm).1 with e | e
     ·rcases List.mem_cons.1 e with e | e
      ·omega
      ·have := HFl.out _ e; have := HN0.out; omega
     ·omega
    have hs10 : SB ((w9.setCell ⟨N0, 0, none⟩ (.slice A9 X.length c9)).setCell ⟨N0, 1, none⟩ (.slice none 0 0)) B ff (L.filter (fun x => !past (hz ff) x)) (ens (L.filter (fun x => !past (hz ff) x))) (Sto.cts (L.filter (fun x => !past (hz ff) x))) Fk := HW.out.s.fr hf3 (fun x hx e => nN0 (by rw [← (show x = N0 from e)]; exact hx))
    have ht10 : Tn F Fk w ((w9.setCell ⟨N0, 0, none⟩ (.slice A9 X.length c9)).setCell ⟨N0, 1, none⟩ (.slice none 0 0)) := by
     have hz1 := HT6.out.fr.size
     have h2 := HBd2.out
     have h0 := HN0.out
     refine ⟨(HT6.out.fr.trans HW.out.t.fr (T := fun x => x ∈ F) (fun _ _ h => h) (fun i hi e => ?_)).trans hf3 (fun _ _ h => h) (fun i hi e => by omega), fun x hx => ⟨?_, hs10.lt x hx⟩⟩
     ·rcases List.mem_cons.1 e with e | e
      ·omega
      ·exact e
     ·rcases (HW.out.t.sub x hx).1 with e | e
      ·rcases List.mem_cons.1 e with e | e
       ·exact .inr (by omega)
       ·exact .inl e
      ·exact .inr (by omega)
    have hokN : Ok (L.filter (fun x => !past (hz ff) x)) := HO.out.filter _
    have HP : Hid (ActPost B ff (L.filter (fun x => !past (hz ff) x)) X [] F 0 w (.returned (.tuple #[.agg #[.slice A9 X.length c9, .slice none 0 0], .int .i64 0])) ((w9.setCell ⟨N0, 0, none⟩ (.slice A9 X.length c9)).setCell ⟨N0, 1, none⟩ (.slice none 0 0))) := by
     have hz1 := HT6.out.fr.size
     exact ⟨A9, c9, none, 0, Fk, rfl, ⟨hs10, hokN, fun x hx => HK.out x (List.mem_filter.1 hx).1, hfI⟩, ht10, Ls.frA HW.out.l hf3 (fun _ a ha e => by have := (HN9.out a ha).1; omega), Ls.nil _, fun _ a ha => ⟨by have := (HN9.out a ha).1; omega, (HN9.out a ha).2⟩, fun _ a ha => (by cases ha)⟩
    clear hb0 hf3 hs10 ht10 hokN
    go_wp2_with fail
    exact bodyPost_ret (results_row_slot (p := 4) (q := 5) rfl _ _ N0 TDl _ _ _ rfl rfl HR0.out underlying35 rfl (by kernel_rfl)) rfl HP.out
end Sto
namespace Sto
open Name KeyP PackP SetP SetW SetF Delta Comp BagP
open Sat2 (endS cl cl_in)
section
variable {w0 w w' : World} {B1 B2 : Nat} {f1 f2 f1' f2' : Cf} {L M L' M' : List Sn} {F1 F2 F1' F2' F F' : List Nat}
theorem St.keep {B : Nat} {f : Cf} (h : St w B f L F) (hf : Fr (fun _ => False) w w') : St w' B f L F := ⟨h.s.keep hf, h.o, h.k, h.f⟩
theorem St.below {B : Nat} {f : Cf} (h : St w B f L F) (hb : Below w.heap.size w w') : St w' B f L F := h.keep (Fr.of_below' hb _)
theorem Tn.new (h : Tn F F' w w') (hl : ∀ x ∈ F, w0.heap.size ≤ x) (hb : Below w0.heap.size w0 w) : (∀ x ∈ F', w0.heap.size ≤ x) ∧ Below w0.heap.size w0 w' :=
 ⟨fun x hx => by rcases (h.sub x hx).1 with h1 | h1; exact hl x h1; have := hb.size; omega, hb.trans (h.fr.below hb.size (fun k hk e => by have := hl k e; omega))⟩
end
theorem St.new {w : World} {B : Nat} {f : Cf} {F : List Nat} (h : SB w B (f.at mnI) [] [] [] F) (hf : in64 f.sp ∧ in64 f.tr ∧ in64 f.wi) : St w B (f.at mnI) [] F :=
 ⟨h, ⟨List.Pairwise.nil, by simp, by simp⟩, by simp, hf.1, hf.2.1, hf.2.2, by show in64 mnI; unfold in64; decide⟩
end Sto
namespace Sto
open Name KeyP PackP SetP SetW SetF Delta Comp BagP
open Sat2 (endS cl cl_in)
structure AZ (w0 w : World) (B : Nat) (f : Cf) (L : List Sn) (F : List Nat) (D : List (Nat × Array Value × TypeId)) (K : List (Option Addr × Nat × List Sn)) : Prop where
 s : St w B f L F
 l : ∀ x ∈ F, w0.heap.size ≤ x
 b : Below w0.heap.size w0 w
 d : ∀ p ∈ D, (Bk w p.1 p.2.1 p.2.2 ∧ p.1 ∉ F) ∧ w0.heap.size ≤ p.1
 k : ∀ q ∈ K, Ls w q.1 q.2.1 q.2.2 ∧ (q.2.2 ≠ [] → ∀ a, q.1 = some a → a.block ∉ F)
section
variable {w0 w w' : World} {B : Nat} {f f' : Cf} {L L' M : List Sn} {F F' : List Nat} {D : List (Nat × Array Value × TypeId)} {K : List (Option Addr × Nat × List Sn)} {A : Option Addr} {c : Nat}
theorem AZ.below (h : AZ w0 w B f L F D K) (hb : Below w.heap.size w w') : AZ w0 w' B f L F D K :=
 ⟨h.s.below hb, h.l, h.b.trans (hb.mono h.b.size), fun p hp => ⟨⟨(h.d p hp).1.1.fr (Fr.of_below' hb (fun _ => False)) (fun _ _ h => h), (h.d p hp).1.2⟩, (h.d p hp).2⟩, fun q hq => ⟨(h.k q hq).1.below hb, (h.k q hq).2⟩⟩
theorem AZ.fr (h : AZ w0 w B f L F D K) (hf : Fr (fun _ => False) w w') : AZ w0 w' B f L F D K := h.below (hf.below (Nat.le_refl _) (fun _ _ h => h))
theorem AZ.turn (h : AZ w0 w B f L F D K) (hs : St w' B f' L' F') (ht : Tn F F' w w') : AZ w0 w' B f' L' F' D K := by
 have hno : ∀ {b : Nat}, b ∉ F → b < w.heap.size → b ∉ F' := fun hn hl hm => by
  rcases (ht.sub _ hm).1 with h1 | h1
  ·exact hn h1
  ·omega
 refine ⟨hs, (Tn.new ht h.l h.b).1, (Tn.new ht h.l h.b).2, fun p hp => ?_, fun q hq => ?_⟩
 ·have h1 := (h.d p hp).1
  exact ⟨⟨h1.1.fr ht.fr (fun b hb hm => h1.2 (by first | (subst hb; exact hm) | (simp at hb; subst hb; exact hm) | (rw [hb] at hm; exact hm))), hno h1.2 (lt_of_heap h1.1)⟩, (h.d p hp).2⟩
 ·obtain ⟨h1, h2⟩ := h.k q hq
  refine ⟨Ls.frA h1 ht.fr (fun hne a ha => h2 hne a ha), fun hne a ha => hno (h2 hne a ha) (h1.s.lt (fun e => hne (by cases hL : q.2.2 with | nil => rfl | cons x t => rw [hL] at e; simp [scs] at e)) a ha)⟩
theorem AZ.addL (h : AZ w0 w B f L F D K) (hl : Ls w A c M) (hn : M ≠ [] → ∀ a, A = some a → a.block ∉ F) : AZ w0 w B f L F D ((A, c, M) :: K) :=
 ⟨h.s, h.l, h.b, h.d, fun q hq => by
  rcases List.mem_cons.1 hq with rfl | hq
  ·exact ⟨hl, hn⟩
  ·exact h.k q hq⟩
theorem AZ.lessD {p : Nat × Array Value × TypeId} (h : AZ w0 w B f L F (p :: D) K) : AZ w0 w B f L F D K := ⟨h.s, h.l, h.b, fun q hq => h.d q (List.mem_cons_of_mem _ hq), h.k⟩
theorem AZ.only (h : AZ w0 w B f L F D K) : AZ w0 w B f L F [] [] := ⟨h.s, h.l, h.b, by simp, by simp⟩
theorem AZ.pickD {D' : List (Nat × Array Value × TypeId)} (h : AZ w0 w B f L F D K) (hs : ∀ p ∈ D', p ∈ D) : AZ w0 w B f L F D' K := ⟨h.s, h.l, h.b, fun q hq => h.d q (hs q hq), h.k⟩
theorem AZ.pickL {K' : List (Option Addr × Nat × List Sn)} (h : AZ w0 w B f L F D K) (hs : ∀ p ∈ K', p ∈ K) : AZ w0 w B f L F D K' := ⟨h.s, h.l, h.b, h.d, fun q hq => h.k q (hs q hq)⟩
theorem AZ.alloc (h : AZ w0 w B f L F D K) (cs : Array Value) (T : TypeId) : AZ w0 (w.alloc (.cells cs T)) B f L F ((w.heap.size, cs, T) :: D) K := by
 have h1 := h.below ((Below.refl w.heap.size w).alloc (Nat.le_refl _) (.cells cs T))
 refine ⟨h1.s, h1.l, h1.b, fun q hq => ?_, h1.k⟩
 rcases List.mem_cons.1 hq with rfl | hq
 ·exact ⟨⟨Bk.new w cs T, fun hm => Nat.lt_irrefl _ (h.s.lt _ hm)⟩, h.b.size⟩
 ·exact h1.d q hq
theorem row_new {base : Nat} {n : Nat} {xs : List Value} (ho : w.ownsRow base TSn 9 (.slice A n c) n xs) : ∀ a, A = some a → base ≤ a.block := by
 intro a ha
 subst ha
 rcases ho.2 with ⟨e, -⟩ | ⟨g, cap, cur, e, hg, -⟩
 ·cases e
 ·cases e; exact hg
theorem AZ.own (h : AZ w0 w B f L F D K) (hl : Ls w' A c M) (ho : w'.ownsRow w.heap.size TSn 9 (.slice A M.length c) M.length (M.flatMap scs)) (hb : Below w.heap.size w w') : AZ w0 w' B f L F D ((A, c, M) :: K) :=
 (h.below hb).addL hl (fun _ a ha hm => by have h1 := row_new ho a ha; have h2 := h.s.lt _ hm; omega)
theorem AZ.lit (h : AZ w0 w B f L F D K) (arr : Array Value) (harr : arr = (M.flatMap scs).toArray) (n : Nat) (hn : n = M.length) (hl : M.length ≤ 1000000) (hok : ∀ x ∈ M, x.ok) : AZ w0 (w.alloc (.cells arr TSn)) B f L F D ((some ⟨w.heap.size, 0, none⟩, n, M) :: K) := by
 subst harr; subst hn
 refine (h.below ((Below.refl w.heap.size w).alloc (Nat.le_refl _) _)).addL ⟨Ref09.Sl.many w TSn _ 9 _ hl (flat_length scs_len M), hok⟩ (fun _ a ha hm => ?_)
 cases ha
 exact Nat.lt_irrefl _ (h.s.lt _ hm)
theorem AZ.apt (h : AZ w0 w B f L F D K) (h0 : Ls w0 A c M) : Apt A M F := fun hne a ha hm => by
 have h1 := h0.s.lt (fun e => hne (by cases M with | nil => rfl | cons x t => simp [scs] at e)) a ha
 have h2 := h.l _ hm
 omega
theorem AZ.act {O I : List Sn} {A1 A2 : Option Addr} {c1 c2 : Nat} (h : AZ w0 w B f L F D K) (ho : ActOut B f' L' O I F w w' A1 c1 A2 c2 F') : AZ w0 w' B f' L' F' D ((A1, c1, O) :: (A2, c2, I) :: K) :=
 ((h.turn ho.st ho.t).addL ho.li (fun hne a ha => (ho.ni hne a ha).2)).addL ho.lo (fun hne a ha => (ho.no hne a ha).2)
theorem AZ.new {w1 : World} (hb : Below w0.heap.size w0 w) (hs : St w1 B f [] F) (hF : ∀ k ∈ F, w.heap.size ≤ k) (hw : Below w.heap.size w w1) : AZ w0 w1 B f [] F [] [] :=
 ⟨hs, fun k hk => Nat.le_trans hb.size (hF k hk), hb.trans (hw.mono hb.size), by simp, by simp⟩
end
end Sto
open Go.RowKit Go.Shelf
namespace Sto
open Name KeyP PackP SetP SetW SetF Delta Comp BagP
section
attribute [local go_sem] Eng.ev Eng.getO_cons Eng.getO_nil
abbrev TIn : TypeId := 3
end
attribute [local go_sem] Oper.semAt_some
end Sto
set_option maxRecDepth 100000
namespace Sto
open Name KeyP PackP SetP SetW SetF Delta Comp BagP
open Sat2 (endS cl cl_in)
theorem Traces (B : Nat) (f : Cf) (R : List Sn) (M : List (ByteArray × Int)) (Q : List (Int × Int)) (F : List Nat) (w : World) (h : SB w B f R M Q F) : Calls prog 59 #[.pointer (some ⟨B, 0, none⟩)] w fun e w' => ∃ v, e = .returned v ∧ w'.ownsRow w.heap.size 3 1 v Q.length (Q.map (fun x => .int .i64 x.1)) ∧ Below w.heap.size w w' := by
 have HM := Lib.hid (made B f R M Q F w h)
 obtain ⟨c, r, F1, FE, q, rq, h, rfl⟩ := h
 have c11 := h.cell h.c11
 have HQ := Lib.hid (Quota.Traces q rq _ _ Q w h.qu)
 clear h
 go_enter func59, ntmps59
 go_wp2_with fail
 refine HM.out.mono ?_
 rintro e w1 ⟨rfl, rfl⟩
 go_wp2_with fail
 refine HQ.out.mono ?_
 rintro e w1 ⟨v, rfl, h1, h2⟩
 have H1 := Lib.hid h1; have H2 := Lib.hid h2
 clear h1 h2 HQ HM c11
 go_wp2_with fail
 go_ret
 exact ⟨_, rfl, H1.out, H2.out⟩
def NoPost (w : World) (e : Ending) (w' : World) : Prop := e = .returned (.tuple #[.agg #[.slice none 0 0, .slice none 0 0], .int .i64 10]) ∧ Below w.heap.size w w'
theorem Put_no {v : Value} {w : World} (h : NoS v w) (A : Option Addr) (n c : Nat) : Calls prog 17 #[v, .slice A n c] w (NoPost w) := by
 have hf := Fr.alloc (fun _ => False) w (.cells #[.slice none 0 0, .slice none 0 0] TDl)
 have HB0 := Lib.hid (Bk.new w #[.slice none 0 0, .slice none 0 0] TDl)
 have hn := h.below (hf.below (Nat.le_refl _) (fun _ _ h => h))
 have HC := Lib.hid (Can_no hn A n c)
 have HF0 := Lib.hid hf
 clear h hf hn
 go_enter func17, ntmps17
 go_wp2_with fail
 obtain ⟨N0, hN0⟩ : ∃ b, w.heap.size = b := ⟨_, rfl⟩
 have HN0 := Lib.hid hN0
 rw [hN0] at HB0
 (try rw [hN0])
 clear hN0
 generalize (w.alloc (.cells #[.slice none 0 0, .slice none 0 0] TDl)) = w1 at *
 refine HC.out.mono ?_
 rintro e w2 ⟨rfl, hf⟩
 replace HB0 := Lib.hid (HB0.out.fr hf (fun _ _ h => h)); replace HF0 := Lib.hid (HF0.out.trans hf (T := fun _ => False) (fun _ _ h => h) (fun _ _ h => h))
 clear hf HC
 have r0 : w2.cell? ⟨N0, 0, none⟩ = some (.slice none 0 0) := HB0.out.cell 0
 have r1 : w2.cell? ⟨N0, 1, none⟩ = some (.slice none 0 0) := HB0.out.cell 1
 have g0 := HB0.out.free 0
 have g1 := HB0.out.free 1
 have hf3 : Fr (· = N0) w2 ((w2.setCell ⟨N0, 0, none⟩ (.slice none 0 0)).setCell ⟨N0, 1, none⟩ (.slice none 0 0)) := (Fr.setCell w2 ⟨N0, 0, none⟩ _ (S := (· = N0)) rfl).trans (Fr.setCell _ ⟨N0, 1, none⟩ _ (S := (· = N0)) rfl) (fun _ _ h => h) (fun _ _ h => h)
 have HR0 : Hid (Bk ((w2.setCell ⟨N0, 0, none⟩ (.slice none 0 0)).setCell ⟨N0, 1, none⟩ (.slice none 0 0)) N0 #[.slice none 0 0, .slice none 0 0] TDl) := (HB0.out.set 0 _).set 1 _
 have HP : Hid (NoPost w (.returned (.tuple #[.agg #[.slice none 0 0, .slice none 0 0], .int .i64 10])) ((w2.setCell ⟨N0, 0, none⟩ (.slice none 0 0)).setCell ⟨N0, 1, none⟩ (.slice none 0 0))) := ⟨rfl, (HF0.out.below (Nat.le_refl _) (fun _ _ h => h)).trans (hf3.below HF0.out.size (fun k hk e => by have := HN0.out; omega))⟩
 clear hf3
 go_wp2_with fail
 exact bodyPost_ret (results_row_slot (p := 4) (q := 5) rfl _ _ N0 TDl _ _ _ rfl rfl HR0.out underlying35 rfl (by kernel_rfl)) rfl HP.out
theorem Tick_no {v : Value} {w : World} (h : NoS v w) (t : Int) : Calls prog 47 #[v, .int .i64 t] w (NoPost w) := by
 have hf := Fr.alloc (fun _ => False) w (.cells #[.slice none 0 0, .slice none 0 0] TDl)
 have HB0 := Lib.hid (Bk.new w #[.slice none 0 0, .slice none 0 0] TDl)
 have hn := h.below (hf.below (Nat.le_refl _) (fun _ _ h => h))
 have HC := Lib.hid hn.at
 have HF0 := Lib.hid hf
 clear h hf hn
 go_enter func47, ntmps47
 go_wp2_with fail
 obtain ⟨N0, hN0⟩ : ∃ b, w.heap.size = b := ⟨_, rfl⟩
 have HN0 := Lib.hid hN0
 rw [hN0] at HB0
 (try rw [hN0])
 clear hN0
 generalize (w.alloc (.cells #[.slice none 0 0, .slice none 0 0] TDl)) = w1 at *
 refine HC.out.mono ?_
 rintro e w2 ⟨rfl, hw⟩
 subst hw
 clear HC
 have r0 : w1.cell? ⟨N0, 0, none⟩ = some (.slice none 0 0) := HB0.out.cell 0
 have r1 : w1.cell? ⟨N0, 1, none⟩ = some (.slice none 0 0) := HB0.out.cell 1
 have g0 := HB0.out.free 0
 have g1 := HB0.out.free 1
 have hf3 : Fr (· = N0) w1 ((w1.setCell ⟨N0, 0, none⟩ (.slice none 0 0)).setCell ⟨N0, 1, none⟩ (.slice none 0 0)) := (Fr.setCell w1 ⟨N0, 0, none⟩ _ (S := (· = N0)) rfl).trans (Fr.setCell _ ⟨N0, 1, none⟩ _ (S := (· = N0)) rfl) (fun _ _ h => h) (fun _ _ h => h)
 have HR0 : Hid (Bk ((w1.setCell ⟨N0, 0, none⟩ (.slice none 0 0)).setCell ⟨N0, 1, none⟩ (.slice none 0 0)) N0 #[.slice none 0 0, .slice none 0 0] TDl) := (HB0.out.set 0 _).set 1 _
 have HP : Hid (NoPost w (.returned (.tuple #[.agg #[.slice none 0 0, .slice none 0 0], .int .i64 10])) ((w1.setCell ⟨N0, 0, none⟩ (.slice none 0 0)).setCell ⟨N0, 1, none⟩ (.slice none 0 0))) := ⟨rfl, (HF0.out.below (Nat.le_refl _) (fun _ _ h => h)).trans (hf3.below HF0.out.size (fun k hk e => by have := HN0.out; omega))⟩
 clear hf3
 go_wp2_with fail
 exact bodyPost_ret (results_row_slot (p := 4) (q := 5) rfl _ _ N0 TDl _ _ _ rfl rfl HR0.out underlying35 rfl (by kernel_rfl)) rfl HP.out
end Sto
end Go.Proofs.YtdpngmgaomghoaaGreat
