/- store.New, made, Now, Horizon, put, drop, Get, may, Len, Traces. -/
import Derived.Test.YtdpngmgaomghoaaGreatExps
namespace Go.Proofs.YtdpngmgaomghoaaGreat
open Tryz
set_option maxRecDepth 100000
set_option maxHeartbeats 1000000
open Go.RowKit
namespace Sto
open Name KeyP PackP SetP SetW SetF Comp BagP
open Sat2 (endS cl cl_in)
attribute [local go_sem] Eng.ev Eng.getO_cons Eng.getO_nil
theorem results_row_slot {P : Program} {fn : Func} {p q : Tmp} {ty : TypeId} (h : fn.results = #[.cell p ty, .tmp q]) (tmps : Array Value) (w : World) (g : Nat) (t : TypeId) (cs : Array Value) (u : Value) (d : TypeDesc)
  (hp : tmps.getD p undef = .pointer (some ⟨g, 0, none⟩)) (hq : tmps.getD q undef = u) (hg : w.heap[g]? = some (.cells cs t (0, 0)))
  (hu : P.underlying ty = some d) (hd : (match d with | .struct _ | .array _ _ => true | _ => false) = true) (hi : (P.info? ty).map (·.size) = some cs.size) :
  (results fn tmps).run P w = .ok (.tuple #[.agg cs, u]) w := by
 have hp' : tmps[p]?.getD undef = .pointer (some ⟨g, 0, none⟩) := by simpa using hp
 have hq' : tmps[q]?.getD undef = u := by simpa using hq
 simp [results, h, hp', hq', asAddr, run_loadVar_row w g t ty cs (0, 0) d hg hu hd hi]
abbrev z9 : Sn := ⟨0, 0, 0, 0, ByteArray.empty, ByteArray.empty, 0, 0, false⟩
abbrev zz (t i : Int) : Sn := ⟨t, i, 0, 0, ByteArray.empty, ByteArray.empty, 0, 0, false⟩
theorem frs1 {w w' : World} {b : Nat} (h : Fr (fun k => k = b) w w') (o : Nat) (u : Value) : Fr (fun k => k = b) w (w'.setCell ⟨b, o, none⟩ u) := h.trans (Fr.setCell w' ⟨b, o, none⟩ u (S := fun k => k = b) rfl) (fun _ _ h => h) (fun _ _ h => h)
abbrev put9 (w : World) (b : Nat) (y : Sn) : World := (((((((((w.setCell ⟨b, 0, none⟩ (.int .i64 y.t)).setCell ⟨b, 1, none⟩ (.int .i64 y.i)).setCell ⟨b, 2, none⟩ (.int .i64 y.p)).setCell ⟨b, 3, none⟩ (.int .i64 y.r)).setCell ⟨b, 4, none⟩ (.string y.s)).setCell ⟨b, 5, none⟩ (.string y.o)).setCell ⟨b, 6, none⟩ (.int .i64 y.b)).setCell ⟨b, 7, none⟩ (.int .i64 y.d)).setCell ⟨b, 8, none⟩ (.bool y.g))
theorem put9_bk {w : World} {b : Nat} {q : Sn} (h : Bk w b q.arr TSn) (y : Sn) : Bk (put9 w b y) b y.arr TSn := by
 have h1 := (((((((((h.set 0 (.int .i64 y.t)).set 1 (.int .i64 y.i)).set 2 (.int .i64 y.p)).set 3 (.int .i64 y.r)).set 4 (.string y.s)).set 5 (.string y.o)).set 6 (.int .i64 y.b)).set 7 (.int .i64 y.d)).set 8 (.bool y.g))
 simpa using h1
theorem put9_fr (w : World) (b : Nat) (y : Sn) : Fr (fun k => k = b) w (put9 w b y) := (frs1 (frs1 (frs1 (frs1 (frs1 (frs1 (frs1 (frs1 (frs1 (Fr.refl _ w) 0 (.int .i64 y.t)) 1 (.int .i64 y.i)) 2 (.int .i64 y.p)) 3 (.int .i64 y.r)) 4 (.string y.s)) 5 (.string y.o)) 6 (.int .i64 y.b)) 7 (.int .i64 y.d)) 8 (.bool y.g))
def SB (w : World) (B : Nat) (f : Cf) (R : List Sn) (M : List (ByteArray × Int)) (Q : List (Int × Int)) (F : List Nat) : Prop := ∃ c r F1 FE q rq, StI w B f R M Q c r F1 FE q rq ∧ F = flS F1 FE q rq
structure St (w : World) (B : Nat) (f : Cf) (L : List Sn) (F : List Nat) : Prop where
 s : SB w B f L (ens L) (cts L) F
 o : Ok L
 k : ∀ x ∈ L, x.ok
 f : in64 f.sp ∧ in64 f.tr ∧ in64 f.wi ∧ in64 f.now
section
variable {w0 w w' : World} {B : Nat} {f : Cf} {R R' L : List Sn} {M M' : List (ByteArray × Int)} {Q Q' : List (Int × Int)} {F F0 F' : List Nat} {Bx : Nat} {y : Sn}
theorem SB.lt (h : SB w B f R M Q F) : ∀ x ∈ F, x < w.heap.size := by obtain ⟨c, r, F1, FE, q, rq, h, rfl⟩ := h; exact h.lt
theorem SB.fr {S : Nat → Prop} (h : SB w B f R M Q F) (hf : Fr S w w') (hs : ∀ x ∈ F, ¬ S x) : SB w' B f R M Q F := by obtain ⟨c, r, F1, FE, q, rq, h, rfl⟩ := h; exact ⟨c, r, F1, FE, q, rq, h.fr hf hs, rfl⟩
theorem SB.keep (h : SB w B f R M Q F) (hf : Fr (fun _ => False) w w') : SB w' B f R M Q F := h.fr hf (fun _ _ h => h)
theorem SB.hB (h : SB w B f R M Q F) : B < w.heap.size := by obtain ⟨c, r, F1, FE, q, rq, h, rfl⟩ := h; exact lt_of_heap h.e.blk
theorem SB.cf (h : SB w B f R M Q F) : w.cell? ⟨B, 2, none⟩ = some (.int .i64 f.wi) ∧ w.cell? ⟨B, 4, none⟩ = some (.int .i64 f.now) := by obtain ⟨c, r, F1, FE, q, rq, h, rfl⟩ := h; exact ⟨h.cell h.c2, h.cell h.c4⟩
theorem SB.qp (h : SB w B f R M Q F) : ∃ q, w.cell? ⟨B, 11, none⟩ = some (.pointer (some ⟨q, 0, none⟩)) := by obtain ⟨c, r, F1, FE, q, rq, h, rfl⟩ := h; exact ⟨q, h.cell h.c11⟩
theorem SB.putR (h : SB w B f R M Q F) (hs : Srs R) (hR : ∀ y ∈ R, y.ok) {x : Sn} (hx : x.ok) (sz : R.length < 1000000) :
  Calls prog 138 #[.pointer (some ⟨B, 5, none⟩), .string (kk x), x.v] w fun e w' => (∃ b, e = .returned (.bool b)) ∧ ∃ F', SB w' B f (ins x R) M Q F' ∧ Tn F F' w w' := by
 obtain ⟨c, r, F1, FE, q, rq, h, rfl⟩ := h
 refine (h.putR hs hR hx sz).mono ?_
 rintro e w' ⟨h1, c', r', F1', h2, h3⟩
 exact ⟨h1, _, ⟨c', r', F1', FE, q, rq, h2, rfl⟩, h3⟩
theorem SB.dropR (h : SB w B f R M Q F) (hR : ∀ y ∈ R, y.ok) {x : Sn} (hx : x.ok) (sz : R.length < 1000000) :
  Calls prog 137 #[.pointer (some ⟨B, 5, none⟩), .string (kk x)] w fun e w' => (∃ b, e = .returned (.bool b)) ∧ ∃ F', SB w' B f (out x.t x.i R) M Q F' ∧ Tn F F' w w' := by
 obtain ⟨c, r, F1, FE, q, rq, h, rfl⟩ := h
 refine (h.dropR hR hx sz).mono ?_
 rintro e w' ⟨h1, c', r', F1', h2, h3⟩
 exact ⟨h1, _, ⟨c', r', F1', FE, q, rq, h2, rfl⟩, h3⟩
theorem SB.putE (h : SB w B f R M Q F) (x : Sn) (sz : M.length < 1000000) :
  Calls prog 142 #[.pointer (some ⟨B, 7, none⟩), .string (kk x), .int .i64 (endS x)] w fun e w' => e = .returned (.tuple #[]) ∧ ∃ F', SB w' B f R (insL (kk x) (endS x) M) Q F' ∧ Tn F F' w w' := by
 obtain ⟨c, r, F1, FE, q, rq, h, rfl⟩ := h
 refine (h.putE x sz).mono ?_
 rintro e w' ⟨h1, c', FE', h2, h3⟩
 exact ⟨h1, _, ⟨c', r, F1, FE', q, rq, h2, rfl⟩, h3⟩
theorem SB.dropE (h : SB w B f R M Q F) (x : Sn) (sz : M.length < 1000000) :
  Calls prog 181 #[.pointer (some ⟨B, 7, none⟩), .string (kk x)] w fun e w' => e = .returned (.tuple #[]) ∧ ∃ F', SB w' B f R (delL (kk x) M) Q F' ∧ Tn F F' w w' := by
 obtain ⟨c, r, F1, FE, q, rq, h, rfl⟩ := h
 refine (h.dropE x sz).mono ?_
 rintro e w' ⟨h1, c', FE', h2, h3⟩
 exact ⟨h1, _, ⟨c', r, F1, FE', q, rq, h2, rfl⟩, h3⟩
theorem SB.get (h : SB w B f R M Q F) (hR : ∀ y ∈ R, y.ok) {x : Sn} (hx : gk x) :
  Calls prog 117 #[.pointer (some ⟨B, 5, none⟩), .string (kk x)] w fun e w' => e = .returned (.tuple #[((fnd x R).getD z9).v, .bool (fnd x R).isSome]) ∧ Fr (fun _ => False) w w' := by
 obtain ⟨c, r, F1, FE, q, rq, h, rfl⟩ := h
 have h1 := AvlSS.Get_map (kk x) B 5 r (mp idS R) F1 w h.m (h.cell h.c5)
 unfold AvlSS.GetPost at h1
 rw [get_mp (f := idS) hx (fun y hy => gk_ok (hR y hy))] at h1
 refine h1.mono ?_
 rintro e w' ⟨rfl, hf⟩
 refine ⟨?_, hf⟩
 cases fnd x R <;> rfl
structure PX (w0 w : World) (B : Nat) (f : Cf) (R : List Sn) (M : List (ByteArray × Int)) (Q : List (Int × Int)) (F0 F : List Nat) (Bx : Nat) (y : Sn) : Prop where
 s : SB w B f R M Q F
 t : Tn F0 F w0 w
 b : At w Bx 0 y
 n : Bx ∉ F
theorem PX.fr (h : PX w0 w B f R M Q F0 F Bx y) (hf : Fr (fun _ => False) w w') : PX w0 w' B f R M Q F0 F Bx y := ⟨h.s.keep hf, h.t.trans (Tn.of_fr hf h.s.lt), h.b.keep hf, h.n⟩
theorem PX.turn (h : PX w0 w B f R M Q F0 F Bx y) (hs : SB w' B f R' M' Q' F') (ht : Tn F F' w w') : PX w0 w' B f R' M' Q' F0 F' Bx y :=
 ⟨hs, h.t.trans ht, h.b.fr ht.fr (fun e => h.n e), fun e => by
  rcases (ht.sub Bx e).1 with e | e
  ·exact h.n e
  ·have := h.b.lt; omega⟩
structure HX (w0 w : World) (B : Nat) (f : Cf) (R : List Sn) (M : List (ByteArray × Int)) (Q : List (Int × Int)) (F : List Nat) : Prop where
 s : SB w B f R M Q F
 f : Fr (fun _ => False) w0 w
theorem HX.fr (h : HX w0 w B f R M Q F) (hf : Fr (fun _ => False) w w') : HX w0 w' B f R M Q F := ⟨h.s.keep hf, h.f.trans hf (fun _ _ h => h) (fun _ _ h => h)⟩
structure GX (w0 w : World) (B : Nat) (f : Cf) (R : List Sn) (M : List (ByteArray × Int)) (Q : List (Int × Int)) (F : List Nat) (Bx : Nat) (y : Sn) : Prop where
 s : SB w B f R M Q F
 f : Fr (fun _ => False) w0 w
 b : Bk w Bx y.arr TSn
 n : w0.heap.size ≤ Bx ∧ Bx ∉ F
theorem GX.fr (h : GX w0 w B f R M Q F Bx y) (hf : Fr (fun _ => False) w w') : GX w0 w' B f R M Q F Bx y := ⟨h.s.keep hf, h.f.trans hf (fun _ _ h => h) (fun _ _ h => h), h.b.fr hf (fun _ _ h => h), h.n⟩
theorem GX.store (h : GX w0 w B f R M Q F Bx y) (z : Sn) : GX w0 (put9 w Bx z) B f R M Q F Bx z :=
 ⟨h.s.fr (put9_fr w Bx z) (fun x hx e => h.n.2 (by subst e; exact hx)), h.f.trans (put9_fr w Bx z) (fun _ _ h => h) (fun i hi e => by have := h.n.1; omega), put9_bk h.b z, h.n⟩
end
def hz (f : Cf) : Int := cl (f.now - max f.wi 0)
theorem made (B : Nat) (f : Cf) (R : List Sn) (M : List (ByteArray × Int)) (Q : List (Int × Int)) (F : List Nat) (w : World) (h : SB w B f R M Q F) : Calls prog 107 #[.pointer (some ⟨B, 0, none⟩)] w fun e w' => e = .returned (.bool true) ∧ w = w' := by
 obtain ⟨q, c11⟩ := h.qp
 clear h
 go_enter func107, ntmps107
 go_wp2_with fail
 go_ret
 exact ⟨rfl, rfl⟩
theorem made_none (w : World) : Calls prog 107 #[.pointer none] w fun e w' => e = .returned (.bool false) ∧ w = w' := by
 go_enter func107, ntmps107
 go_wp2_with fail
 go_ret
 exact ⟨rfl, rfl⟩
theorem made_zero (B : Nat) (w : World) (c11 : w.cell? ⟨B, 11, none⟩ = some (.pointer none)) : Calls prog 107 #[.pointer (some ⟨B, 0, none⟩)] w fun e w' => e = .returned (.bool false) ∧ w = w' := by
 go_enter func107, ntmps107
 go_wp2_with fail
 go_ret
 exact ⟨rfl, rfl⟩
def NoS (v : Value) (w : World) : Prop := ∀ W, Below w.heap.size w W → Calls prog 107 #[v] W fun e w' => e = .returned (.bool false) ∧ W = w'
theorem NoS.below {v : Value} {w w' : World} (h : NoS v w) (hb : Below w.heap.size w w') : NoS v w' := fun W hW => h W (hb.trans (hW.mono hb.size))
theorem NoS.nil (w : World) : NoS (.pointer none) w := fun W _ => made_none W
theorem NoS.zero {w : World} {B : Nat} {c : Array Value} {T : TypeId} (h : Bk w B c T) (hc : c[11]? = some (.pointer none)) : NoS (.pointer (some ⟨B, 0, none⟩)) w := fun W hW => made_zero B W (((h.fr (Fr.of_below' hW (fun _ => False)) (fun _ _ h => h)).cell 11).trans hc)
theorem NoS.at {v : Value} {w : World} (h : NoS v w) : Calls prog 107 #[v] w fun e w' => e = .returned (.bool false) ∧ w = w' := h w (Below.refl _ _)
theorem Now (B : Nat) (f : Cf) (R : List Sn) (M : List (ByteArray × Int)) (Q : List (Int × Int)) (F : List Nat) (w : World) (h : SB w B f R M Q F) : Calls prog 46 #[.pointer (some ⟨B, 0, none⟩)] w fun e w' => e = .returned (.int .i64 f.now) ∧ w = w' := by
 have HM := Lib.hid (made B f R M Q F w h)
 have c4 := h.cf.2
 clear h
 go_enter func46, ntmps46
 go_wp2_with fail
 refine HM.out.mono ?_
 rintro e w1 ⟨rfl, rfl⟩
 go_wp2_with fail
 go_ret
 exact ⟨rfl, rfl⟩
theorem Now_no {v : Value} {w : World} (h : NoS v w) : Calls prog 46 #[v] w fun e w' => e = .returned (.int .i64 0) ∧ w = w' := by
 have HM := Lib.hid h.at
 clear h
 go_enter func46, ntmps46
 go_wp2_with fail
 refine HM.out.mono ?_
 rintro e w1 ⟨rfl, rfl⟩
 go_wp2_with fail
 go_ret
 exact ⟨rfl, rfl⟩
theorem Horizon_no {v : Value} {w : World} (h : NoS v w) : Calls prog 49 #[v] w fun e w' => e = .returned (.int .i64 0) ∧ w = w' := by
 have HM := Lib.hid h.at
 clear h
 go_enter func49, ntmps49
 go_wp2_with fail
 refine HM.out.mono ?_
 rintro e w1 ⟨rfl, rfl⟩
 go_wp2_with fail
 go_ret
 exact ⟨rfl, rfl⟩
theorem Len_no {v : Value} {w : World} (h : NoS v w) : Calls prog 62 #[v] w fun e w' => e = .returned (.int .i64 0) ∧ w = w' := by
 have HM := Lib.hid h.at
 clear h
 go_enter func62, ntmps62
 go_wp2_with fail
 refine HM.out.mono ?_
 rintro e w1 ⟨rfl, rfl⟩
 go_wp2_with fail
 go_ret
 exact ⟨rfl, rfl⟩
theorem Traces_no {v : Value} {w : World} (h : NoS v w) : Calls prog 59 #[v] w fun e w' => e = .returned (.slice none 0 0) ∧ w = w' := by
 have HM := Lib.hid h.at
 clear h
 go_enter func59, ntmps59
 go_wp2_with fail
 refine HM.out.mono ?_
 rintro e w1 ⟨rfl, rfl⟩
 go_wp2_with fail
 go_ret
 exact ⟨rfl, rfl⟩
theorem ho3 {ops : Array Oper} (hops : Eng.fnOps Tryz.f49 3 = ops) (a0 : Act) (Q : Exit → Act → World → Prop) (w0 w : World) (B : Nat) (f : Cf) (R : List Sn) (M : List (ByteArray × Int)) (QQ : List (Int × Int)) (F : List Nat) (hw : in64 f.wi) (hn2 : in64 f.now) (hst : HX w0 w B f R M QQ F)
  (hn : a0.tmps.size = 16) (h_0 : a0.tmps.getD 0 undef = .pointer (some ⟨B, 0, none⟩))
  (hpost : ∀ (x : Nat → Value) (w' : World), x 2 = .int .i64 (hz f) → HX w0 w' B f R M QQ F → Q .normal (Eng.setAll a0 [2, 6, 7, 8, 9, 10, 11, 12, 13, 14, 15] x) w') :
  (Code.region 3 ops true).wp prog Q a0 w := by
 simp only [Eng.fnOps, Eng.regOps, Tryz.f49, Option.bind_some, Option.getD_some, Nat.reduceEqDiff, ↓reduceIte] at hops
 subst hops
 have HSt := Lib.hid (hst.fr (Fr.drew _ _))
 have hSS : w.drew.cell? ⟨B, 2, none⟩ = some (.int .i64 f.wi) ∧ w.drew.cell? ⟨B, 4, none⟩ = some (.int .i64 f.now) := ⟨HSt.out.s.cf.1, HSt.out.s.cf.2⟩
 refine Eng.regionN [(0, true), (1, true), (2, true), (3, true), (4, true), (5, true), (6, true), (7, true), (8, true), (9, false), (10, true)] (fun w' => w'.cell? ⟨B, 2, none⟩ = some (.int .i64 f.wi) ∧ w'.cell? ⟨B, 4, none⟩ = some (.int .i64 f.now)) (by kernel_rfl) 16 hn (by kernel_rfl) rfl (by kernel_rfl) (hSS) (fun a b ha hb => ?_)
 subst ha
 have hb0 : b 0 = .pointer (some ⟨B, 0, none⟩) := (hb 0).symm.trans h_0
 clear hb h_0
 have HP := Lib.hid hpost; have HN := Lib.hid hn
 clear hpost hn
 iterate 9 (refine Eng.Sch.tk ?_)
 refine Eng.Sch.call rfl rfl (by decide) (by kernel_rfl) ?_ (Law16.Horizon f.now f.wi hn2 hw _) ?_
 ·go_simp
 rintro e w_1 ⟨rfl, rfl⟩
 refine ⟨_, rfl, hSS, ?_⟩
 refine Eng.Sch.tk ?_
 refine Eng.Sch.end_ [2, 6, 7, 8, 9, 10, 11, 12, 13, 14, 15] HN.out (by kernel_rfl) (by kernel_rfl) ?_
 exact HP.out _ _ rfl HSt.out
theorem Horizon (B : Nat) (f : Cf) (R : List Sn) (M : List (ByteArray × Int)) (Q : List (Int × Int)) (F : List Nat) (w : World) (h : SB w B f R M Q F) (hw : in64 f.wi) (hn : in64 f.now) : Calls prog 49 #[.pointer (some ⟨B, 0, none⟩)] w fun e w' => e = .returned (.int .i64 (hz f)) ∧ Fr (fun _ => False) w w' := by
 have HM := Lib.hid (made B f R M Q F w h)
 go_enter func49, ntmps49
 go_wp2_with fail
 refine HM.out.mono ?_
 rintro e w1 ⟨rfl, rfl⟩
 clear HM
 go_upto_region 3 with (fail)
 refine ho3 (by kernel_rfl) _ _ w w B f R M Q F hw hn ⟨h, Fr.refl _ _⟩ rfl rfl ?_
 intro x w2 h2 hst
 simp only [Eng.setAll, Act.put, List.setIfInBounds_toArray, List.set_cons_succ, List.set_cons_zero]
 rw [h2]
 have HF := Lib.hid hst.f
 clear h2 hst h
 go_wp2_with fail
 go_ret
 exact ⟨rfl, HF.out⟩
theorem pu2 {ops : Array Oper} (hops : Eng.fnOps Tryz.f82 2 = ops) (a0 : Act) (Q : Exit → Act → World → Prop) (w0 w : World) (B : Nat) (f : Cf) (R : List Sn) (M : List (ByteArray × Int)) (QQ : List (Int × Int)) (F0 F : List Nat) (Bx : Nat) (y : Sn) (hs : Srs R) (hR : ∀ y ∈ R, y.ok) (hy : y.ok) (sz : R.length < 1000000) (hst : PX w0 w B f R M QQ F0 F Bx y)
  (hn : a0.tmps.size = 20) (h_0 : a0.tmps.getD 0 undef = .pointer (some ⟨B, 0, none⟩)) (h_3 : a0.tmps.getD 3 undef = .pointer (some ⟨Bx, 0, none⟩)) (h_4 : a0.tmps.getD 4 undef = .string (kk y))
  (hpost : ∀ (x : Nat → Value) (w' : World) (F' : List Nat), PX w0 w' B f (ins y R) M QQ F0 F' Bx y → Q .normal (Eng.setAll a0 [7, 8, 9, 10, 11, 12] x) w') :
  (Code.region 2 ops true).wp prog Q a0 w := by
 simp only [Eng.fnOps, Eng.regOps, Tryz.f82, Option.bind_some, Option.getD_some, Nat.reduceEqDiff, ↓reduceIte] at hops
 subst hops
 have HSt := Lib.hid (hst.fr (Fr.drew _ _))
 refine Eng.regionN [(0, true), (1, true), (2, true), (3, true), (4, true), (5, false)] (fun w' => w'.cell? ⟨Bx, 0, none⟩ = some (.int .i64 y.t) ∧ w'.cell? ⟨Bx, 1, none⟩ = some (.int .i64 y.i) ∧ w'.cell? ⟨Bx, 2, none⟩ = some (.int .i64 y.p) ∧ w'.cell? ⟨Bx, 3, none⟩ = some (.int .i64 y.r) ∧ w'.cell? ⟨Bx, 4, none⟩ = some (.string y.s) ∧ w'.cell? ⟨Bx, 5, none⟩ = some (.string y.o) ∧ w'.cell? ⟨Bx, 6, none⟩ = some (.int .i64 y.b) ∧ w'.cell? ⟨Bx, 7, none⟩ = some (.int .i64 y.d) ∧ w'.cell? ⟨Bx, 8, none⟩ = some (.bool y.g)) (by kernel_rfl) 20 hn (by kernel_rfl) rfl (by kernel_rfl) (⟨HSt.out.b 0 _ rfl, HSt.out.b 1 _ rfl, HSt.out.b 2 _ rfl, HSt.out.b 3 _ rfl, HSt.out.b 4 _ rfl, HSt.out.b 5 _ rfl, HSt.out.b 6 _ rfl, HSt.out.b 7 _ rfl, HSt.out.b 8 _ rfl⟩) (fun a b ha hb => ?_)
 subst ha
 have hb0 : b 0 = .pointer (some ⟨B, 0, none⟩) := (hb 0).symm.trans h_0
 have hb3 : b 3 = .pointer (some ⟨Bx, 0, none⟩) := (hb 3).symm.trans h_3
 have hb4 : b 4 = .string (kk y) := (hb 4).symm.trans h_4
 clear hb h_0 h_3 h_4
 have HP := Lib.hid hpost; have HN := Lib.hid hn
 clear hpost hn
 iterate 5 (refine Eng.Sch.tk ?_)
 refine Eng.Sch.call rfl rfl (by decide) (by kernel_rfl) ?_ (HSt.out.s.putR hs hR hy sz) ?_
 ·go_simp
 rintro e w2 ⟨⟨bb, rfl⟩, F', hs', ht⟩
 have HSt1 := Lib.hid (HSt.out.turn hs' ht)
 refine ⟨_, rfl, ⟨HSt1.out.b 0 _ rfl, HSt1.out.b 1 _ rfl, HSt1.out.b 2 _ rfl, HSt1.out.b 3 _ rfl, HSt1.out.b 4 _ rfl, HSt1.out.b 5 _ rfl, HSt1.out.b 6 _ rfl, HSt1.out.b 7 _ rfl, HSt1.out.b 8 _ rfl⟩, ?_⟩
 refine Eng.Sch.end_ [7, 8, 9, 10, 11, 12] HN.out (by kernel_rfl) (by kernel_rfl) ?_
 exact HP.out _ _ F' HSt1.out
theorem pu3 {ops : Array Oper} (hops : Eng.fnOps Tryz.f82 3 = ops) (a0 : Act) (Q : Exit → Act → World → Prop) (w0 w : World) (B : Nat) (f : Cf) (R : List Sn) (M : List (ByteArray × Int)) (QQ : List (Int × Int)) (F0 F : List Nat) (Bx : Nat) (y : Sn) (hy : in64 y.b) (sz : M.length < 1000000) (hst : PX w0 w B f R M QQ F0 F Bx y)
  (hn : a0.tmps.size = 20) (h_0 : a0.tmps.getD 0 undef = .pointer (some ⟨B, 0, none⟩)) (h_3 : a0.tmps.getD 3 undef = .pointer (some ⟨Bx, 0, none⟩)) (h_4 : a0.tmps.getD 4 undef = .string (kk y))
  (hpost : ∀ (x : Nat → Value) (w' : World) (F' : List Nat), PX w0 w' B f R (insL (kk y) (endS y) M) QQ F0 F' Bx y → Q .normal (Eng.setAll a0 [13, 14, 15, 16, 17, 18, 19] x) w') :
  (Code.region 3 ops true).wp prog Q a0 w := by
 simp only [Eng.fnOps, Eng.regOps, Tryz.f82, Option.bind_some, Option.getD_some, Nat.reduceEqDiff, ↓reduceIte] at hops
 subst hops
 have HSt := Lib.hid (hst.fr (Fr.drew _ _))
 refine Eng.regionN [(0, true), (1, true), (2, true), (3, true), (4, true), (5, false), (6, false)] (fun w' => w'.cell? ⟨Bx, 0, none⟩ = some (.int .i64 y.t) ∧ w'.cell? ⟨Bx, 1, none⟩ = some (.int .i64 y.i) ∧ w'.cell? ⟨Bx, 2, none⟩ = some (.int .i64 y.p) ∧ w'.cell? ⟨Bx, 3, none⟩ = some (.int .i64 y.r) ∧ w'.cell? ⟨Bx, 4, none⟩ = some (.string y.s) ∧ w'.cell? ⟨Bx, 5, none⟩ = some (.string y.o) ∧ w'.cell? ⟨Bx, 6, none⟩ = some (.int .i64 y.b) ∧ w'.cell? ⟨Bx, 7, none⟩ = some (.int .i64 y.d) ∧ w'.cell? ⟨Bx, 8, none⟩ = some (.bool y.g)) (by kernel_rfl) 20 hn (by kernel_rfl) rfl (by kernel_rfl) (⟨HSt.out.b 0 _ rfl, HSt.out.b 1 _ rfl, HSt.out.b 2 _ rfl, HSt.out.b 3 _ rfl, HSt.out.b 4 _ rfl, HSt.out.b 5 _ rfl, HSt.out.b 6 _ rfl, HSt.out.b 7 _ rfl, HSt.out.b 8 _ rfl⟩) (fun a b ha hb => ?_)
 subst ha
 have hb0 : b 0 = .pointer (some ⟨B, 0, none⟩) := (hb 0).symm.trans h_0
 have hb3 : b 3 = .pointer (some ⟨Bx, 0, none⟩) := (hb 3).symm.trans h_3
 have hb4 : b 4 = .string (kk y) := (hb 4).symm.trans h_4
 clear hb h_0 h_3 h_4
 have HP := Lib.hid hpost; have HN := Lib.hid hn
 clear hpost hn
 iterate 5 (refine Eng.Sch.tk ?_)
 refine Eng.Sch.call rfl rfl (by decide) (by kernel_rfl) ?_ (Sat2.End y hy _) ?_
 ·go_simp
 rintro e w2 ⟨rfl, hf⟩
 have HSt1 := Lib.hid (HSt.out.fr hf)
 refine ⟨_, rfl, ⟨HSt1.out.b 0 _ rfl, HSt1.out.b 1 _ rfl, HSt1.out.b 2 _ rfl, HSt1.out.b 3 _ rfl, HSt1.out.b 4 _ rfl, HSt1.out.b 5 _ rfl, HSt1.out.b 6 _ rfl, HSt1.out.b 7 _ rfl, HSt1.out.b 8 _ rfl⟩, ?_⟩
 refine Eng.Sch.call rfl rfl (by decide) (by kernel_rfl) ?_ (HSt1.out.s.putE y sz) ?_
 ·go_simp
 rintro e w3 ⟨rfl, F', hs', ht⟩
 have HSt2 := Lib.hid (HSt1.out.turn hs' ht)
 refine ⟨_, rfl, ⟨HSt2.out.b 0 _ rfl, HSt2.out.b 1 _ rfl, HSt2.out.b 2 _ rfl, HSt2.out.b 3 _ rfl, HSt2.out.b 4 _ rfl, HSt2.out.b 5 _ rfl, HSt2.out.b 6 _ rfl, HSt2.out.b 7 _ rfl, HSt2.out.b 8 _ rfl⟩, ?_⟩
 refine Eng.Sch.end_ [13, 14, 15, 16, 17, 18, 19] HN.out (by kernel_rfl) (by kernel_rfl) ?_
 exact HP.out _ _ F' HSt2.out
theorem put (B : Nat) (f : Cf) (R : List Sn) (M : List (ByteArray × Int)) (Q : List (Int × Int)) (F : List Nat) (y : Sn) (w : World) (h : SB w B f R M Q F) (hs : Srs R) (hR : ∀ y ∈ R, y.ok) (hy : y.ok) (sz : R.length < 1000000) (sz2 : M.length < 1000000) :
  Calls prog 82 #[.pointer (some ⟨B, 0, none⟩), y.v] w fun e w' => e = .returned (.tuple #[]) ∧ ∃ F', SB w' B f (ins y R) (insL (kk y) (endS y) M) Q F' ∧ Tn F F' w w' := by
 have hf := Fr.alloc (fun _ => False) w (.cells y.arr TSn)
 have HX := Lib.hid (At.box (Bk.new w y.arr TSn))
 have HP0 : Hid (PX w (w.alloc (.cells y.arr TSn)) B f R M Q F F w.heap.size y) := ⟨h.keep hf, Tn.of_fr hf h.lt, HX.out, fun e => by have := h.lt _ e; omega⟩
 obtain ⟨Bx, hBx⟩ : ∃ b, w.heap.size = b := ⟨_, rfl⟩
 rw [hBx] at HP0 HX
 clear hf h
 go_enter func82, ntmps82
 go_upto_region 1 with (fail)
 (try rw [hBx])
 clear hBx
 generalize (w.alloc (.cells y.arr TSn)) = w1 at *
 have yc0 : w1.cell? ⟨Bx, 0, none⟩ = some (.int .i64 y.t) := by have := HX.out 0 _ rfl; simpa using this
 have yc1 : w1.cell? ⟨Bx, 1, none⟩ = some (.int .i64 y.i) := by have := HX.out 1 _ rfl; simpa using this
 have yc2 : w1.cell? ⟨Bx, 2, none⟩ = some (.int .i64 y.p) := by have := HX.out 2 _ rfl; simpa using this
 have yc3 : w1.cell? ⟨Bx, 3, none⟩ = some (.int .i64 y.r) := by have := HX.out 3 _ rfl; simpa using this
 have yc4 : w1.cell? ⟨Bx, 4, none⟩ = some (.string y.s) := by have := HX.out 4 _ rfl; simpa using this
 have yc5 : w1.cell? ⟨Bx, 5, none⟩ = some (.string y.o) := by have := HX.out 5 _ rfl; simpa using this
 have yc6 : w1.cell? ⟨Bx, 6, none⟩ = some (.int .i64 y.b) := by have := HX.out 6 _ rfl; simpa using this
 have yc7 : w1.cell? ⟨Bx, 7, none⟩ = some (.int .i64 y.d) := by have := HX.out 7 _ rfl; simpa using this
 have yc8 : w1.cell? ⟨Bx, 8, none⟩ = some (.bool y.g) := by have := HX.out 8 _ rfl; simpa using this
 go_wp2_with fail
 refine (Key.Span y hy.t hy.i w1).mono ?_
 rintro e w2 ⟨rfl, hb⟩
 have HP1 := Lib.hid (HP0.out.fr (Fr.of_below' hb _))
 clear hb HP0 HX yc0 yc1 yc2 yc3 yc4 yc5 yc6 yc7 yc8
 go_upto_region 2 with (fail)
 refine pu2 (by kernel_rfl) _ _ w w2 B f R M Q F F Bx y hs hR hy sz HP1.out rfl rfl rfl rfl ?_
 intro x w3 F' hst
 simp only [Eng.setAll, Act.put, List.setIfInBounds_toArray, List.set_cons_succ, List.set_cons_zero]
 have HP2 := Lib.hid hst
 clear hst HP1
 go_upto_region 3 with (fail)
 refine pu3 (by kernel_rfl) _ _ w w3 B f _ M Q F F' Bx y hy.b sz2 HP2.out rfl rfl rfl rfl ?_
 intro x2 w4 F2 hst
 simp only [Eng.setAll, Act.put, List.setIfInBounds_toArray, List.set_cons_succ, List.set_cons_zero]
 have HP3 : Hid (∃ F', SB w4 B f (ins y R) (insL (kk y) (endS y) M) Q F' ∧ Tn F F' w w4) := ⟨F2, hst.s, hst.t⟩
 clear hst HP2
 go_wp2_with fail
 first | (go_end0; exact ⟨rfl, HP3.out⟩) | exact bodyPost_ret (results_none rfl _ _ _) rfl ⟨rfl, HP3.out⟩
structure TX (w0 w : World) (B : Nat) (f : Cf) (R : List Sn) (M : List (ByteArray × Int)) (Q : List (Int × Int)) (F0 F : List Nat) (B4 B5 : Nat) (y : Sn) : Prop where
 s : SB w B f R M Q F
 t : Tn F0 F w0 w
 b4 : Bk w B4 z9.arr TSn
 b5 : Bk w B5 y.arr TSn
 n : B4 ∉ F ∧ B5 ∉ F ∧ w0.heap.size ≤ B4
section
variable {w0 w w' : World} {B : Nat} {f : Cf} {R R' : List Sn} {M M' : List (ByteArray × Int)} {Q Q' : List (Int × Int)} {F F0 F' : List Nat} {B4 B5 : Nat} {y : Sn}
theorem TX.turn (h : TX w0 w B f R M Q F0 F B4 B5 y) (hs : SB w' B f R' M' Q' F') (ht : Tn F F' w w') : TX w0 w' B f R' M' Q' F0 F' B4 B5 y :=
 ⟨hs, h.t.trans ht, h.b4.fr ht.fr (fun b hb e => by simp at hb; subst hb; exact h.n.1 e), h.b5.fr ht.fr (fun b hb e => by simp at hb; subst hb; exact h.n.2.1 e), ⟨fun e => by
  rcases (ht.sub B4 e).1 with e | e
  ·exact h.n.1 e
  ·have := lt_of_heap h.b4; omega, fun e => by
  rcases (ht.sub B5 e).1 with e | e
  ·exact h.n.2.1 e
  ·have := lt_of_heap h.b5; omega, h.n.2.2⟩⟩
theorem TX.store (h : TX w0 w B f R M Q F0 F B4 B5 y) : (SB (put9 w B4 y) B f R M Q F ∧ Tn F0 F w0 (put9 w B4 y)) ∧ Bk (put9 w B4 y) B4 y.arr TSn := by
 have hs : SB (put9 w B4 y) B f R M Q F := h.s.fr (put9_fr w B4 y) (fun x hx e => h.n.1 (by subst e; exact hx))
 refine ⟨⟨hs, ⟨h.t.fr.trans (put9_fr w B4 y) (fun _ _ h => h) (fun i hi e => by have := h.n.2.2; omega), fun x hx => ⟨(h.t.sub x hx).1, hs.lt x hx⟩⟩⟩, put9_bk h.b4 y⟩
end
theorem drop (B : Nat) (f : Cf) (R : List Sn) (M : List (ByteArray × Int)) (Q : List (Int × Int)) (F : List Nat) (y : Sn) (w : World) (h : SB w B f R M Q F) (hs : Srs R) (hR : ∀ y ∈ R, y.ok) (hm : y ∈ R) (sz : R.length < 1000000) (sz2 : M.length < 1000000) :
  Calls prog 110 #[.pointer (some ⟨B, 0, none⟩), .string (kk y)] w fun e w' => e = .returned y.v ∧ ∃ F', SB w' B f (out y.t y.i R) (delL (kk y) M) Q F' ∧ Tn F F' w w' := by
 have hy := hR y hm
 have hf := Fr.alloc (fun _ => False) w (.cells z9.arr TSn)
 have h4 := Bk.new w z9.arr TSn
 have HG := Lib.hid ((h.keep hf).get hR (gk_ok hy))
 rw [fnd_mem hs hm (one_refl y)] at HG
 have hlt := h.lt
 go_enter func110, ntmps110
 go_wp2_with fail
 refine HG.out.mono ?_
 rintro e w1 ⟨rfl, hf1⟩
 have h41 := h4.fr hf1 (fun _ _ h => h)
 have hs1 := (h.keep hf).keep hf1
 have ht1 := (Tn.of_fr hf h.lt).trans (Tn.of_fr hf1 (h.keep hf).lt)
 have z1 := hf.size
 have z2 := hf1.size
 have z3 : (w.alloc (.cells z9.arr TSn)).heap.size = w.heap.size + 1 := by simp
 have hf2 := Fr.alloc (fun _ => False) w1 (.cells y.arr TSn)
 have HT : Hid (TX w (w1.alloc (.cells y.arr TSn)) B f R M Q F F w.heap.size w1.heap.size y) := ⟨hs1.keep hf2, ht1.trans (Tn.of_fr hf2 hs1.lt), h41.fr hf2 (fun _ _ h => h), Bk.new _ _ _, ⟨fun e => by have := hlt _ e; omega, fun e => by have := hlt _ e; omega, Nat.le_refl _⟩⟩
 clear hf hf1 hf2 h4 h41 hs1 ht1 HG h z1 z2 z3
 go_upto_region 2 with (fail)
 generalize w.heap.size = B4 at *
 generalize hB5 : w1.heap.size = B5 at *
 generalize (w1.alloc (.cells y.arr TSn)) = w2 at *
 clear hB5 hlt
 go_wp2_with fail
 refine (HT.out.s.dropR hR hy sz).mono ?_
 rintro e w3 ⟨⟨bb, rfl⟩, F', hs', ht⟩
 replace HT := Lib.hid (HT.out.turn hs' ht)
 clear hs' ht
 go_wp2_with fail
 refine (HT.out.s.dropE y sz2).mono ?_
 rintro e w4 ⟨rfl, F2, hs', ht⟩
 replace HT := Lib.hid (HT.out.turn hs' ht)
 clear hs' ht
 have d0 : w4.cell? ⟨B5, 0, none⟩ = some (.int .i64 y.t) := HT.out.b5.cell 0
 have d1 : w4.cell? ⟨B5, 1, none⟩ = some (.int .i64 y.i) := HT.out.b5.cell 1
 have d2 : w4.cell? ⟨B5, 2, none⟩ = some (.int .i64 y.p) := HT.out.b5.cell 2
 have d3 : w4.cell? ⟨B5, 3, none⟩ = some (.int .i64 y.r) := HT.out.b5.cell 3
 have d4 : w4.cell? ⟨B5, 4, none⟩ = some (.string y.s) := HT.out.b5.cell 4
 have d5 : w4.cell? ⟨B5, 5, none⟩ = some (.string y.o) := HT.out.b5.cell 5
 have d6 : w4.cell? ⟨B5, 6, none⟩ = some (.int .i64 y.b) := HT.out.b5.cell 6
 have d7 : w4.cell? ⟨B5, 7, none⟩ = some (.int .i64 y.d) := HT.out.b5.cell 7
 have d8 : w4.cell? ⟨B5, 8, none⟩ = some (.bool y.g) := HT.out.b5.cell 8
 have r0 : w4.cell? ⟨B4, 0, none⟩ = some (.int .i64 0) := HT.out.b4.cell 0
 have q0 := HT.out.b4.free 0
 have r1 : w4.cell? ⟨B4, 1, none⟩ = some (.int .i64 0) := HT.out.b4.cell 1
 have q1 := HT.out.b4.free 1
 have r2 : w4.cell? ⟨B4, 2, none⟩ = some (.int .i64 0) := HT.out.b4.cell 2
 have q2 := HT.out.b4.free 2
 have r3 : w4.cell? ⟨B4, 3, none⟩ = some (.int .i64 0) := HT.out.b4.cell 3
 have q3 := HT.out.b4.free 3
 have r4 : w4.cell? ⟨B4, 4, none⟩ = some (.string ByteArray.empty) := HT.out.b4.cell 4
 have q4 := HT.out.b4.free 4
 have r5 : w4.cell? ⟨B4, 5, none⟩ = some (.string ByteArray.empty) := HT.out.b4.cell 5
 have q5 := HT.out.b4.free 5
 have r6 : w4.cell? ⟨B4, 6, none⟩ = some (.int .i64 0) := HT.out.b4.cell 6
 have q6 := HT.out.b4.free 6
 have r7 : w4.cell? ⟨B4, 7, none⟩ = some (.int .i64 0) := HT.out.b4.cell 7
 have q7 := HT.out.b4.free 7
 have r8 : w4.cell? ⟨B4, 8, none⟩ = some (.bool false) := HT.out.b4.cell 8
 have q8 := HT.out.b4.free 8
 go_wp2_with fail
 obtain ⟨⟨hsF, htF⟩, hbF⟩ := HT.out.store
 exact bodyPost_ret (results_cell_row rfl _ _ B4 29 _ (0, 0) _ rfl hbF underlying29 rfl (by kernel_rfl)) rfl ⟨rfl, F2, hsF, htF⟩
theorem ge3 {ops : Array Oper} (hops : Eng.fnOps Tryz.f55 3 = ops) (a0 : Act) (Q : Exit → Act → World → Prop) (w0 w : World) (B : Nat) (f : Cf) (R : List Sn) (M : List (ByteArray × Int)) (QQ : List (Int × Int)) (F : List Nat) (Bx : Nat) (y z : Sn) (t i : Int) (hR : ∀ y ∈ R, y.ok) (ht : in64 t) (hi : in64 i) (hz : (fnd (zz t i) R).getD z9 = z) (hst : GX w0 w B f R M QQ F Bx y)
  (hn : a0.tmps.size = 21) (h_0 : a0.tmps.getD 0 undef = .pointer (some ⟨B, 0, none⟩)) (h_1 : a0.tmps.getD 1 undef = .int .i64 t) (h_2 : a0.tmps.getD 2 undef = .int .i64 i) (h_6 : a0.tmps.getD 6 undef = .pointer (some ⟨Bx, 0, none⟩))
  (hpost : ∀ (x : Nat → Value) (w' : World), x 7 = .bool (fnd (zz t i) R).isSome → GX w0 w' B f R M QQ F Bx z → Q .normal (Eng.setAll a0 [7, 12, 13, 14, 15, 16, 17, 18, 19, 20] x) w') :
  (Code.region 3 ops true).wp prog Q a0 w := by
 simp only [Eng.fnOps, Eng.regOps, Tryz.f55, Option.bind_some, Option.getD_some, Nat.reduceEqDiff, ↓reduceIte] at hops
 subst hops
 have HSt := Lib.hid (hst.fr (Fr.drew _ _))
 refine Eng.regionN [(0, true), (1, true), (2, true), (3, true), (4, true), (5, false), (6, false), (7, true), (8, true), (9, false), (10, true)] (fun w' => True) (by kernel_rfl) 21 hn (by kernel_rfl) rfl (by kernel_rfl) (trivial) (fun a b ha hb => ?_)
 subst ha
 have hb0 : b 0 = .pointer (some ⟨B, 0, none⟩) := (hb 0).symm.trans h_0
 have hb1 : b 1 = .int .i64 t := (hb 1).symm.trans h_1
 have hb2 : b 2 = .int .i64 i := (hb 2).symm.trans h_2
 have hb6 : b 6 = .pointer (some ⟨Bx, 0, none⟩) := (hb 6).symm.trans h_6
 clear hb h_0 h_1 h_2 h_6
 have HP := Lib.hid hpost; have HN := Lib.hid hn
 clear hpost hn
 iterate 5 (refine Eng.Sch.tk ?_)
 refine Eng.Sch.call rfl rfl (by decide) (by kernel_rfl) ?_ (Key.Of ht hi _) ?_
 ·go_simp
 rintro e w2 ⟨rfl, hb⟩
 have HSt1 := Lib.hid (HSt.out.fr (Fr.of_below' hb _))
 refine ⟨_, rfl, trivial, ?_⟩
 refine Eng.Sch.call rfl rfl (by decide) (by kernel_rfl) ?_ (HSt1.out.s.get hR (x := zz t i) ⟨ht, hi⟩) ?_
 ·go_simp
 rintro e w3 ⟨rfl, hf⟩
 rw [hz]
 have HSt2 := Lib.hid (HSt1.out.fr hf)
 have hSS : True := trivial
 have r0 : w3.cell? ⟨Bx, 0, none⟩ = some (.int .i64 y.t) := HSt2.out.b.cell 0
 have q0 := HSt2.out.b.free 0
 have r1 : w3.cell? ⟨Bx, 1, none⟩ = some (.int .i64 y.i) := HSt2.out.b.cell 1
 have q1 := HSt2.out.b.free 1
 have r2 : w3.cell? ⟨Bx, 2, none⟩ = some (.int .i64 y.p) := HSt2.out.b.cell 2
 have q2 := HSt2.out.b.free 2
 have r3 : w3.cell? ⟨Bx, 3, none⟩ = some (.int .i64 y.r) := HSt2.out.b.cell 3
 have q3 := HSt2.out.b.free 3
 have r4 : w3.cell? ⟨Bx, 4, none⟩ = some (.string y.s) := HSt2.out.b.cell 4
 have q4 := HSt2.out.b.free 4
 have r5 : w3.cell? ⟨Bx, 5, none⟩ = some (.string y.o) := HSt2.out.b.cell 5
 have q5 := HSt2.out.b.free 5
 have r6 : w3.cell? ⟨Bx, 6, none⟩ = some (.int .i64 y.b) := HSt2.out.b.cell 6
 have q6 := HSt2.out.b.free 6
 have r7 : w3.cell? ⟨Bx, 7, none⟩ = some (.int .i64 y.d) := HSt2.out.b.cell 7
 have q7 := HSt2.out.b.free 7
 have r8 : w3.cell? ⟨Bx, 8, none⟩ = some (.bool y.g) := HSt2.out.b.cell 8
 have q8 := HSt2.out.b.free 8
 refine ⟨_, rfl, hSS, ?_⟩
 refine Eng.Sch.tk ?_
 refine Eng.Sch.tk ?_
 refine Eng.Sch.step0 rfl rfl (by kernel_rfl) (by go_simp; first | done | with_reducible rfl | exact ⟨rfl, rfl⟩) (trivial) ?_
 refine Eng.Sch.tk ?_
 refine Eng.Sch.end_ [7, 12, 13, 14, 15, 16, 17, 18, 19, 20] HN.out (by kernel_rfl) (by kernel_rfl) ?_
 exact HP.out _ _ rfl (HSt2.out.store z)
theorem Get (B : Nat) (f : Cf) (R : List Sn) (M : List (ByteArray × Int)) (Q : List (Int × Int)) (F : List Nat) (t i : Int) (w : World) (h : SB w B f R M Q F) (hR : ∀ y ∈ R, y.ok) (ht : in64 t) (hi : in64 i) :
  Calls prog 55 #[.pointer (some ⟨B, 0, none⟩), .int .i64 t, .int .i64 i] w fun e w' => e = .returned (.tuple #[((fnd (zz t i) R).getD z9).v, .bool (fnd (zz t i) R).isSome]) ∧ Fr (fun _ => False) w w' := by
 have hf := Fr.alloc (fun _ => False) w (.cells z9.arr TSn)
 have HG : Hid (GX w (w.alloc (.cells z9.arr TSn)) B f R M Q F w.heap.size z9) := ⟨h.keep hf, hf, Bk.new _ _ _, Nat.le_refl _, fun e => by have := h.lt _ e; omega⟩
 clear hf h
 go_enter func55, ntmps55
 go_wp2_with fail
 refine (made B f R M Q F _ HG.out.s).mono ?_
 rintro e w1 ⟨rfl, rfl⟩
 generalize w.heap.size = Bx at *
 generalize (w.alloc (.cells z9.arr TSn)) = w1 at *
 go_upto_region 3 with (fail)
 refine ge3 (by kernel_rfl) _ _ w w1 B f R M Q F Bx z9 _ t i hR ht hi rfl HG.out rfl rfl rfl rfl rfl ?_
 intro x w2 h7 hst
 simp only [Eng.setAll, Act.put, List.setIfInBounds_toArray, List.set_cons_succ, List.set_cons_zero]
 rw [h7]
 have HG2 := Lib.hid hst
 clear h7 hst HG
 go_wp2_with fail
 exact bodyPost_ret (results_row_slot rfl _ _ Bx TSn _ _ _ rfl rfl HG2.out.b underlying29 rfl (by kernel_rfl)) rfl ⟨rfl, HG2.out.f⟩
theorem may1 (x : Sn) (w : World) (hx : x.ok) : Calls prog 196 #[x.v] w fun e w' => e = .returned (.bool (mayN x != 0)) ∧ Fr (fun _ => False) w w' := by
 have hf := Fr.alloc (fun _ => False) w (.cells x.arr TSn)
 have HX := Lib.hid (At.box (Bk.new w x.arr TSn))
 have HM := Lib.hid (May_ x hx (w.alloc (.cells x.arr TSn)))
 generalize mayN x = m at *
 have HF := Lib.hid hf
 clear hf
 have xc0 : (w.alloc (.cells x.arr TSn)).cell? ⟨w.heap.size, 0, none⟩ = some (.int .i64 x.t) := HX.out 0 _ rfl
 have xc1 : (w.alloc (.cells x.arr TSn)).cell? ⟨w.heap.size, 1, none⟩ = some (.int .i64 x.i) := HX.out 1 _ rfl
 have xc2 : (w.alloc (.cells x.arr TSn)).cell? ⟨w.heap.size, 2, none⟩ = some (.int .i64 x.p) := HX.out 2 _ rfl
 have xc3 : (w.alloc (.cells x.arr TSn)).cell? ⟨w.heap.size, 3, none⟩ = some (.int .i64 x.r) := HX.out 3 _ rfl
 have xc4 : (w.alloc (.cells x.arr TSn)).cell? ⟨w.heap.size, 4, none⟩ = some (.string x.s) := HX.out 4 _ rfl
 have xc5 : (w.alloc (.cells x.arr TSn)).cell? ⟨w.heap.size, 5, none⟩ = some (.string x.o) := HX.out 5 _ rfl
 have xc6 : (w.alloc (.cells x.arr TSn)).cell? ⟨w.heap.size, 6, none⟩ = some (.int .i64 x.b) := HX.out 6 _ rfl
 have xc7 : (w.alloc (.cells x.arr TSn)).cell? ⟨w.heap.size, 7, none⟩ = some (.int .i64 x.d) := HX.out 7 _ rfl
 have xc8 : (w.alloc (.cells x.arr TSn)).cell? ⟨w.heap.size, 8, none⟩ = some (.bool x.g) := HX.out 8 _ rfl
 go_enter func196, ntmps196
 go_wp2_with fail
 refine HM.out.mono ?_
 rintro e w2 ⟨rfl, hf⟩
 have HF2 := Lib.hid (HF.out.trans hf (T := fun _ => False) (fun _ _ h => h) (fun _ _ h => h))
 clear hf HM xc0 xc1 xc2 xc3 xc4 xc5 xc6 xc7 xc8
 go_wp2_with fail
 go_ret
 exact ⟨rfl, HF2.out⟩
theorem may2 (x : Sn) (w : World) (hx : x.ok) (Bh : Nat) (n : Int) (ch : w.cell? ⟨Bh, 0, none⟩ = some (.int .i64 n)) : Calls prog 197 #[x.v, .pointer (some ⟨Bh, 0, none⟩)] w fun e w' => e = .returned (.bool (decide (endS x < n))) ∧ Fr (fun _ => False) w w' := by
 have hf := Fr.alloc (fun _ => False) w (.cells x.arr TSn)
 have HX := Lib.hid (At.box (Bk.new w x.arr TSn))
 have ch' : (w.alloc (.cells x.arr TSn)).cell? ⟨Bh, 0, none⟩ = some (.int .i64 n) := (World.cell?_of_block (w := w) (a := ⟨Bh, 0, none⟩) (hf.block Bh (World.block_lt_of_cell? w ⟨Bh, 0, none⟩ ch) (fun h => h))).trans ch
 have lh := World.block_lt_of_cell? w ⟨Bh, 0, none⟩ ch
 have HM := Lib.hid (Law16.Past x hx.b n (w.alloc (.cells x.arr TSn)))
 generalize decide (endS x < n) = m at *
 have HF := Lib.hid hf
 clear hf
 have xc0 : (w.alloc (.cells x.arr TSn)).cell? ⟨w.heap.size, 0, none⟩ = some (.int .i64 x.t) := HX.out 0 _ rfl
 have xc1 : (w.alloc (.cells x.arr TSn)).cell? ⟨w.heap.size, 1, none⟩ = some (.int .i64 x.i) := HX.out 1 _ rfl
 have xc2 : (w.alloc (.cells x.arr TSn)).cell? ⟨w.heap.size, 2, none⟩ = some (.int .i64 x.p) := HX.out 2 _ rfl
 have xc3 : (w.alloc (.cells x.arr TSn)).cell? ⟨w.heap.size, 3, none⟩ = some (.int .i64 x.r) := HX.out 3 _ rfl
 have xc4 : (w.alloc (.cells x.arr TSn)).cell? ⟨w.heap.size, 4, none⟩ = some (.string x.s) := HX.out 4 _ rfl
 have xc5 : (w.alloc (.cells x.arr TSn)).cell? ⟨w.heap.size, 5, none⟩ = some (.string x.o) := HX.out 5 _ rfl
 have xc6 : (w.alloc (.cells x.arr TSn)).cell? ⟨w.heap.size, 6, none⟩ = some (.int .i64 x.b) := HX.out 6 _ rfl
 have xc7 : (w.alloc (.cells x.arr TSn)).cell? ⟨w.heap.size, 7, none⟩ = some (.int .i64 x.d) := HX.out 7 _ rfl
 have xc8 : (w.alloc (.cells x.arr TSn)).cell? ⟨w.heap.size, 8, none⟩ = some (.bool x.g) := HX.out 8 _ rfl
 go_enter func197, ntmps197
 go_wp2_with fail
 refine HM.out.mono ?_
 rintro e w2 ⟨rfl, hf⟩
 have HF2 := Lib.hid (HF.out.trans hf (T := fun _ => False) (fun _ _ h => h) (fun _ _ h => h))
 clear hf HM xc0 xc1 xc2 xc3 xc4 xc5 xc6 xc7 xc8
 go_wp2_with fail
 go_ret
 exact ⟨rfl, HF2.out⟩
def mayE (f : Cf) (l : List Sn) : Int := if l.any (fun x => mayN x != 0) then 1 else if l.any (fun x => decide (endS x < hz f)) then 6 else 0
theorem may (B : Nat) (f : Cf) (R : List Sn) (M : List (ByteArray × Int)) (Q : List (Int × Int)) (F : List Nat) (A : Option Addr) (c : Nat) (L : List Sn) (w : World) (h : SB w B f R M Q F) (hw : in64 f.wi) (hn : in64 f.now) (hL : Ls w A c L) : Calls prog 131 #[.pointer (some ⟨B, 0, none⟩), .slice A L.length c] w fun e w' => e = .returned (.int .i64 (mayE f L)) ∧ Fr (fun _ => False) w w' := by
 unfold mayE
 have HH := Lib.hid (Horizon B f R M Q F w h hw hn)
 go_enter func131, ntmps131
 go_wp2_with fail
 refine HH.out.mono ?_
 rintro e w1 ⟨rfl, hf1⟩
 have hf2 := Fr.alloc (fun _ => False) w1 (.cells #[.int .i64 (hz f)] 3)
 have hf3 := hf1.trans hf2 (T := fun _ => False) (fun _ _ h => h) (fun _ _ h => h)
 have HF := Lib.hid hf3
 have HBh := Lib.hid (Bk.new w1 #[.int .i64 (hz f)] 3)
 have HM := Lib.hid (made B f R M Q F _ (h.keep hf3))
 have HL := Lib.hid (hL.keep hf3)
 clear hf1 hf2 hf3 HH h hL
 go_wp2_with fail
 generalize w1.heap.size = Bh at *
 generalize (w1.alloc (.cells #[.int .i64 (hz f)] 3)) = w2 at *
 refine HM.out.mono ?_
 rintro e w3 ⟨rfl, rfl⟩
 go_wp2_with fail
 refine (Sli.ContainsFunc A c 196 #[] (fun x => mayN x != 0) L w2 (enters_of func196 (by kernel_rfl) rfl) HL.out.s (fun W hW x hx => may1 x W (HL.out.ok x hx))).mono ?_
 rintro e w3 ⟨rfl, hf⟩
 cases h1 : L.any (fun x => mayN x != 0) with
 | true =>
  have HF2 := Lib.hid (HF.out.trans hf (T := fun _ => False) (fun _ _ h => h) (fun _ _ h => h))
  clear hf
  go_wp2_with fail
  go_ret
  exact ⟨rfl, HF2.out⟩
 | false =>
  have HF2 := Lib.hid (HF.out.trans hf (T := fun _ => False) (fun _ _ h => h) (fun _ _ h => h))
  have HL2 := Lib.hid (HL.out.keep hf)
  have HB2 := Lib.hid (HBh.out.fr hf (fun _ _ h => h))
  clear hf HL HBh HF
  go_wp2_with fail
  refine (Sli.ContainsFunc A c 197 #[.pointer (some ⟨Bh, 0, none⟩)] (fun x => decide (endS x < hz f)) L w3 (enters_of func197 (by kernel_rfl) rfl) HL2.out.s (fun W hW x hx => may2 x W (HL2.out.ok x hx) Bh (hz f) ((HB2.out.fr hW (fun _ _ h => h)).cell 0))).mono ?_
  rintro e w4 ⟨rfl, hf⟩
  have HF3 := Lib.hid (HF2.out.trans hf (T := fun _ => False) (fun _ _ h => h) (fun _ _ h => h))
  clear hf
  cases h2 : L.any (fun x => decide (endS x < hz f)) with
  | true =>
   go_wp2_with fail
   all_goals (go_ret; exact ⟨rfl, HF3.out⟩)
  | false =>
   go_wp2_with fail
   all_goals (go_ret; exact ⟨rfl, HF3.out⟩)
theorem may_no {v : Value} {w : World} (h : NoS v w) (A : Option Addr) (n c : Nat) : Calls prog 131 #[v, .slice A n c] w fun e w' => e = .returned (.int .i64 10) ∧ Fr (fun _ => False) w w' := by
 have HH := Lib.hid (Horizon_no h)
 have HN := Lib.hid h
 clear h
 go_enter func131, ntmps131
 go_wp2_with fail
 refine HH.out.mono ?_
 rintro e w1 ⟨rfl, rfl⟩
 have hf2 := Fr.alloc (fun _ => False) w (.cells #[.int .i64 (0 : Int)] 3)
 have HF := Lib.hid hf2
 have HM := Lib.hid (HN.out.below (hf2.below (Nat.le_refl _) (fun _ _ h => h))).at
 clear hf2 HH HN
 go_wp2_with fail
 refine HM.out.mono ?_
 rintro e w3 ⟨rfl, rfl⟩
 go_wp2_with fail
 go_ret
 exact ⟨rfl, HF.out⟩
theorem Len (B : Nat) (f : Cf) (R : List Sn) (M : List (ByteArray × Int)) (Q : List (Int × Int)) (F : List Nat) (w : World) (h : SB w B f R M Q F) : Calls prog 62 #[.pointer (some ⟨B, 0, none⟩)] w fun e w' => e = .returned (.int .i64 (sumL Q)) ∧ w = w' := by
 have HM := Lib.hid (made B f R M Q F w h)
 obtain ⟨c, r, F1, FE, q, rq, h, rfl⟩ := h
 have c11 := h.cell h.c11
 have HQ := Lib.hid (Quota.Len q rq _ _ Q w h.qu)
 clear h
 go_enter func62, ntmps62
 go_wp2_with fail
 refine HM.out.mono ?_
 rintro e w1 ⟨rfl, rfl⟩
 go_wp2_with fail
 refine HQ.out.mono ?_
 rintro e w1 ⟨rfl, rfl⟩
 go_wp2_with fail
 go_ret
 exact ⟨rfl, rfl⟩
end Sto
end Go.Proofs.YtdpngmgaomghoaaGreat
