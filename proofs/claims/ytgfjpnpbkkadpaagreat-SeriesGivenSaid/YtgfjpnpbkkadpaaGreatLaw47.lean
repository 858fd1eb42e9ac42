/- Layer 47's statements: what must come, whatever the arguments are. -/
import Derived.Test.YtgfjpnpbkkadpaaGreatSers2
namespace Go.Proofs.YtgfjpnpbkkadpaaGreat
open Go.RowKit
namespace Law47
open KeyP PackP SetP SetW SetF BagP Bag Mk Delta ClsW Ser
attribute [local go_sem] Eng.ev Eng.getO_cons Eng.getO_nil
theorem many (w : World) (t : TypeId) (cs : List Value) (sz n : Nat) (hn : n ≤ 1000000) (hs : cs.length = n * sz) : Sl (w.alloc (.cells cs.toArray t)) sz (some ⟨w.heap.size, 0, none⟩) n n cs := by
  refine ⟨by omega, Nat.le_refl _, by unfold maxLen; omega, (by simp), fun _ => ⟨_, 0, rfl, fun i u hu => ?_⟩⟩
  rw [Nat.zero_add, cell_of_block (heap_new w _)]
  simpa using hu
theorem Ls.lit (w : World) (L : List Sn) (arr : Array Value) (harr : arr = (L.flatMap scs).toArray) (n : Nat) (hn : n = L.length) (hl : L.length ≤ 1000000) (hok : ∀ x ∈ L, x.ok) : Ls (w.alloc (.cells arr TSn)) (some ⟨w.heap.size, 0, none⟩) n L := by
  subst harr; subst hn
  exact ⟨many w TSn _ 9 _ hl (flat_length scs_len L), hok⟩
theorem Cl.lit (w : World) (X : List (Int × Int)) (arr : Array Value) (harr : arr = (X.flatMap pc).toArray) (n : Nat) (hn : n = X.length) (hl : X.length ≤ 1000000) : Cl (w.alloc (.cells arr TC)) (some ⟨w.heap.size, 0, none⟩) n n X := by
  subst harr; subst hn
  exact ⟨many w TC _ 2 _ hl (flat_length pc_len X), rfl⟩
theorem SameC {A B : Option Addr} {c c2 n m : Nat} {X : List (Int × Int)} {w : World} (h1 : Cl w A c n X) (h2 : Cl w B c2 m X) : Calls Tryz.prog 21 #[.slice A n c, .slice B m c2] w fun e w' => e = .returned (.bool true) ∧ Fr (fun _ => False) w w' := by
  obtain ⟨h1, rfl⟩ := h1
  obtain ⟨h2, rfl⟩ := h2
  exact Ref13.Same A B c c2 X X w _ _ rfl rfl h1 h2 rfl
theorem SlotE (a W s : Int) (w : World) (ha : in64 a) (hs : slot a W = s) : Calls Tryz.prog 54 #[.int .i64 a, .int .i64 W] w fun e w' => e = .returned (.int .i64 s) ∧ Fr (fun _ => False) w w' := by
  subst hs
  exact (Slot a W w ha).mono (fun e w' h => ⟨h.1, by rw [h.2]; exact Fr.refl _ _⟩)
abbrev ss : ByteArray := ⟨#[115]⟩
abbrev so : ByteArray := ⟨#[111]⟩
abbrev of (i b : Int) : Sn := ⟨1, i, 0, 0, ss, so, b, 0, false⟩
instance (n : Int) : Decidable (in64 n) := by unfold in64; infer_instance
theorem of_ok (i b : Int) (h : in64 i) (h2 : in64 b) : (of i b).ok := ⟨by show in64 1; decide, h, by show in64 0; decide, by show in64 0; decide, h2, by show in64 0; decide, by show 1 ≤ maxLen; unfold maxLen; omega, by show 1 ≤ maxLen; unfold maxLen; omega⟩
theorem of_ (i b : Int) (w : World) : Calls Tryz.prog 53 #[.int .i64 i, .int .i64 b] w fun e w' => e = .returned (of i b).v ∧ Fr (fun _ => False) w w' := by
  have kb : ∀ W : World, (Instr.build 38 #[(0, .int .i64 1), (1, .int .i64 i), (4, .string ss), (5, .string so), (6, .int .i64 b)]).run Tryz.prog W = .ok (.agg #[.int .i64 1, .int .i64 i, .int .i64 0, .int .i64 0, .string ss, .string so, .int .i64 b, .int .i64 0, .bool false]) W := fun W => by kernel_rfl
  go_enter Tryz.func53, Tryz.ntmps53
  go_wp2_with fail
  have hh := heap_new w (.cells (of i b).arr 38)
  exact bodyPost_ret (results_cell_row rfl _ _ w.heap.size 38 _ (0, 0) _ rfl hh Tryz.underlying38 rfl (by kernel_rfl)) rfl ⟨rfl, Fr.alloc _ _ _⟩
theorem a1 : (mays [] && (mays [of 1 (-1), of 2 (0), of 3 (9), of 4 (10)] && outB [] (List.map (pr 10) []))) = true := by decide +kernel
theorem a2 : (mays [of 1 (-1)] && (mays [] && outB ([of 1 (-1), of 2 (0), of 3 (9), of 4 (10)].map (pr 10)) ([of 1 (-1)].map (pr 10)))) = true := by decide +kernel
theorem a3 : (mays [of 1 (-1)] && (mays [] && outB ([of 2 0, of 3 9, of 4 10].map (pr 10)) ([of 1 (-1)].map (pr 10)))) = false := by decide +kernel
theorem c2 : cts ([of 2 0, of 3 9, of 4 10].map (pr 10)) (ss, so) = [(0, 2), (1, 1)] := by decide +kernel
theorem k2 : peakL (cts ([of 2 0, of 3 9, of 4 10].map (pr 10)) (ss, so)) = (0, 2) := by rw [c2]; decide +kernel
theorem o4 : cts ((spn [of 1 (-1), of 2 (0), of 3 (9), of 4 (10)]).map (pr 10)) (ss, so) = [(-1, 1), (0, 2), (1, 1)] := by decide +kernel
theorem okss : okN (ss, so) := ⟨by show 1 ≤ maxLen; unfold maxLen; omega, by show 1 ≤ maxLen; unfold maxLen; omega⟩
theorem p2 {W : Int} {x : Sn} {r : List Sn} (qk : List Pq) (h : (qk ++ [x].map (pr W)).Perm ((x :: r).map (pr W))) : (qk ++ List.map (pr W) []).Perm (r.map (pr W)) := by
  have h1 : (pr W x :: qk).Perm (pr W x :: r.map (pr W)) := (List.perm_append_comm (l₁ := [pr W x]) (l₂ := qk)).trans h
  simpa using h1.cons_inv
/-- The view, and the list. -/
structure AW (w0 w : World) (h m : Nat) (q : List Pq) (B0 : Nat) (L : List Sn) : Prop where
  v : VS w0 w h 10 m q []
  l : Ls w (some ⟨B0, 0, none⟩) 4 L
theorem AW.fr {w0 w w' : World} {h m : Nat} {q : List Pq} {B0 : Nat} {L : List Sn} (H : AW w0 w h m q B0 L) (hf : Fr (fun _ => False) w w') : AW w0 w' h m q B0 L := ⟨H.v.fr hf, H.l.keep hf⟩
set_option maxRecDepth 100000 in
set_option maxHeartbeats 400000 in
theorem aw3 {ops : Array Oper} (hops : Eng.fnOps Tryz.f13 3 = ops) (a0 : Act) (Q : Exit → Act → World → Prop) (w0 w : World) (h B0 : Nat) (x1 x2 x3 x4 : Sn) (A1 : (mays [] && (mays [x1, x2, x3, x4] && outB [] (List.map (pr 10) []))) = true) (A2 : (mays [x1] && (mays [] && outB ([x1, x2, x3, x4].map (pr 10)) ([x1].map (pr 10)))) = true) (hst : AW w0 w h 0 [] B0 [x1, x2, x3, x4])
    (hn : a0.tmps.size = 69) (h_1 : a0.tmps.getD 1 undef = .slice (some ⟨B0, 0, none⟩) 4 4) (h_2 : a0.tmps.getD 2 undef = .pointer (some ⟨h, 0, none⟩))
    (hpost : ∀ (x : Nat → Value) (w' : World), x 3 = .bool true → x 4 = .bool true → AW w0 w' h 5 ([x2, x3, x4].map (pr 10)) B0 [x1, x2, x3, x4] → Q .normal (Eng.setAll a0 [3, 4, 13, 14, 15, 16, 17, 18, 19, 20, 21] x) w') :
    (Code.region 3 ops true).wp Tryz.prog Q a0 w := by
  simp only [Eng.fnOps, Eng.regOps, Tryz.f13, Option.bind_some, Option.getD_some, Nat.reduceEqDiff, ↓reduceIte, Nat.reduceBEq] at hops
  subst hops
  have kb1 : ∀ W : World, (Instr.build TDl #[(1, .slice (some ⟨B0, 0, none⟩) 4 4)]).run Tryz.prog W = .ok (.agg #[.slice none 0 0, .slice (some ⟨B0, 0, none⟩) 4 4]) W := fun W => by kernel_rfl
  have kb2 : ∀ W : World, (Instr.build TDl #[(0, .slice (some ⟨B0, 0, none⟩) 1 4)]).run Tryz.prog W = .ok (.agg #[.slice (some ⟨B0, 0, none⟩) 1 4, .slice none 0 0]) W := fun W => by kernel_rfl
  have HSt := Lib.hid (hst.fr (Fr.drew _ _))
  have hSS : True := trivial
  refine Eng.regionN [(0, true), (1, true), (2, true), (4, true), (5, true), (6, true), (7, true), (3, false), (8, false), (9, true), (10, true)] (fun w' => True) (by kernel_rfl) 69 hn (by kernel_rfl) rfl (by kernel_rfl) (hSS) (fun a b ha hb => ?_)
  subst ha
  have hb1 : b 1 = .slice (some ⟨B0, 0, none⟩) 4 4 := (hb 1).symm.trans h_1
  have hb2 : b 2 = .pointer (some ⟨h, 0, none⟩) := (hb 2).symm.trans h_2
  clear hb h_1 h_2
  have HP := Lib.hid hpost; have HN := Lib.hid hn
  clear hpost hn
  refine Eng.Sch.take (v := ?_) rfl rfl (by decide) (by kernel_rfl) (fun w hw => ?_) ?_
  rotate_left
  · (try dsimp only at hw); go_simp; first | done | with_reducible rfl
  refine Eng.Sch.take (v := ?_) rfl rfl (by decide) (by kernel_rfl) (fun w hw => ?_) ?_
  rotate_left
  · (try dsimp only at hw); go_simp; first | done | with_reducible rfl
  refine Eng.Sch.take (v := ?_) rfl rfl (by decide) (by kernel_rfl) (fun w hw => ?_) ?_
  rotate_left
  · (try dsimp only at hw); go_simp; first | done | with_reducible rfl
  refine Eng.Sch.take (v := ?_) rfl rfl (by decide) (by kernel_rfl) (fun w hw => ?_) ?_
  rotate_left
  · (try dsimp only at hw); go_simp; first | done | with_reducible rfl
  refine Eng.Sch.take (v := ?_) rfl rfl (by decide) (by kernel_rfl) (fun w hw => ?_) ?_
  rotate_left
  · (try dsimp only at hw); go_simp; first | done | with_reducible rfl
  refine Eng.Sch.take (v := ?_) rfl rfl (by decide) (by kernel_rfl) (fun w hw => ?_) ?_
  rotate_left
  · (try dsimp only at hw); go_simp; first | done | with_reducible rfl
  refine Eng.Sch.take (v := ?_) rfl rfl (by decide) (by kernel_rfl) (fun w hw => ?_) ?_
  rotate_left
  · (try dsimp only at hw); go_simp; first | done | with_reducible rfl
  refine Eng.Sch.call rfl rfl (by decide) (by kernel_rfl) ?_ (ApplyT h 10 0 [] [] ⟨none, 0, [], some ⟨B0, 0, none⟩, 4, [x1, x2, x3, x4]⟩ w0 _ HSt.out.v ⟨Ls.nil _, HSt.out.l⟩ (by simp) (by simp) (by simp) (by simp) true A1 ([x1, x2, x3, x4].map (pr 10)) (fun _ qk hp => by have := List.perm_nil.1 hp; simp at this; subst this; exact List.Perm.refl _) (fun h => by cases h)) ?_
  · go_simp
  rintro e w2 ⟨rfl, hv, hk, hf⟩
  have HSt1 := Lib.hid ((⟨hv, hk _ _ _ HSt.out.l⟩ : AW w0 w2 h 4 ([x1, x2, x3, x4].map (pr 10)) B0 [x1, x2, x3, x4]))
  have hSS : True := trivial
  refine ⟨_, rfl, hSS, ?_⟩
  refine Eng.Sch.call rfl rfl (by decide) (by kernel_rfl) ?_ (ApplyT h 10 4 ([x1, x2, x3, x4].map (pr 10)) [] ⟨some ⟨B0, 0, none⟩, 4, [x1], none, 0, []⟩ w0 _ HSt1.out.v ⟨Ls_pre HSt1.out.l 1 (by simp), Ls.nil _⟩ (by simp) (by simp) (by simp) (by simp) true A2 ([x2, x3, x4].map (pr 10)) (fun _ qk hp => p2 qk hp) (fun h => by cases h)) ?_
  · go_simp
  rintro e w3 ⟨rfl, hv2, hk2, hf2⟩
  have HSt2 := Lib.hid ((⟨hv2, hk2 _ _ _ HSt1.out.l⟩ : AW w0 w3 h 5 ([x2, x3, x4].map (pr 10)) B0 [x1, x2, x3, x4]))
  have hSS : True := trivial
  refine ⟨_, rfl, hSS, ?_⟩
  refine Eng.Sch.take (v := ?_) rfl rfl (by decide) (by kernel_rfl) (fun w hw => ?_) ?_
  rotate_left
  · (try dsimp only at hw); go_simp; first | done | with_reducible rfl
  refine Eng.Sch.take (v := ?_) rfl rfl (by decide) (by kernel_rfl) (fun w hw => ?_) ?_
  rotate_left
  · (try dsimp only at hw); go_simp; first | done | with_reducible rfl
  refine Eng.Sch.end_ [3, 4, 13, 14, 15, 16, 17, 18, 19, 20, 21] HN.out (by kernel_rfl) (by kernel_rfl) ?_
  exact HP.out _ _ rfl rfl HSt2.out

structure PB (w : World) (B : Nat) : Prop where
  h : Bk w B #[.int .i64 0, .int .i64 2] TC
theorem PB.below {w w' : World} {B : Nat} (H : PB w B) (hb : Below w.heap.size w w') : PB w' B := ⟨H.h.fr (Fr.of_below' hb (fun _ => False)) (fun _ _ h => h)⟩
set_option maxRecDepth 100000 in
set_option maxHeartbeats 4000000 in
theorem awake (w : World) : Calls Tryz.prog 13 #[] w fun e w' => e = .returned (.bool true) ∧ Below w.heap.size w w' := by
  have F1 := Lib.hid (of_ 1 (-1)); have J1 := of_ok 1 (-1) (by decide) (by decide)
  have F2 := Lib.hid (of_ 2 (0)); have J2 := of_ok 2 (0) (by decide) (by decide)
  have F3 := Lib.hid (of_ 3 (9)); have J3 := of_ok 3 (9) (by decide) (by decide)
  have F4 := Lib.hid (of_ 4 (10)); have J4 := of_ok 4 (10) (by decide) (by decide)
  have A1 := Lib.hid a1; have A2 := Lib.hid a2; have A3 := Lib.hid a3; have C2 := Lib.hid c2; have K2 := Lib.hid k2; have O4 := Lib.hid o4; have okss := okss
  generalize of 1 (-1) = x1 at *
  generalize of 2 (0) = x2 at *
  generalize of 3 (9) = x3 at *
  generalize of 4 (10) = x4 at *
  have HOk : Hid (∀ x ∈ [x1, x2, x3, x4], x.ok) := by
    intro x hx
    simp only [List.mem_cons, List.not_mem_nil, or_false] at hx
    rcases hx with rfl | rfl | rfl | rfl <;> assumption
  clear J1 J2 J3 J4
  have HB := Lib.hid (Below.refl w.heap.size w)
  go_enter Tryz.func13, Tryz.ntmps13
  go_wp2_with fail
  refine (F1.out w).mono ?_
  rintro e w1 ⟨rfl, hf⟩
  have hb := hf.below (Nat.le_refl _) (fun _ _ h => h)
  clear hf
  replace HB := Lib.hid (HB.out.trans (hb.mono HB.out.size))
  clear hb
  go_wp2_with fail
  refine (F2.out w1).mono ?_
  rintro e w2 ⟨rfl, hf⟩
  have hb := hf.below (Nat.le_refl _) (fun _ _ h => h)
  clear hf
  replace HB := Lib.hid (HB.out.trans (hb.mono HB.out.size))
  clear hb
  go_wp2_with fail
  refine (F3.out w2).mono ?_
  rintro e w3 ⟨rfl, hf⟩
  have hb := hf.below (Nat.le_refl _) (fun _ _ h => h)
  clear hf
  replace HB := Lib.hid (HB.out.trans (hb.mono HB.out.size))
  clear hb
  go_wp2_with fail
  refine (F4.out w3).mono ?_
  rintro e w4 ⟨rfl, hf⟩
  have hb := hf.below (Nat.le_refl _) (fun _ _ h => h)
  clear hf
  replace HB := Lib.hid (HB.out.trans (hb.mono HB.out.size))
  clear hb
  go_wp2_with fail
  have hb := (Below.refl w4.heap.size w4).alloc (Nat.le_refl _) (.cells #[.int .i64 x1.t, .int .i64 x1.i, .int .i64 x1.p, .int .i64 x1.r, .string x1.s, .string x1.o, .int .i64 x1.b, .int .i64 x1.d, .bool x1.g, .int .i64 x2.t, .int .i64 x2.i, .int .i64 x2.p, .int .i64 x2.r, .string x2.s, .string x2.o, .int .i64 x2.b, .int .i64 x2.d, .bool x2.g, .int .i64 x3.t, .int .i64 x3.i, .int .i64 x3.p, .int .i64 x3.r, .string x3.s, .string x3.o, .int .i64 x3.b, .int .i64 x3.d, .bool x3.g, .int .i64 x4.t, .int .i64 x4.i, .int .i64 x4.p, .int .i64 x4.r, .string x4.s, .string x4.o, .int .i64 x4.b, .int .i64 x4.d, .bool x4.g] TSn)
  have HL : Hid (Ls (w4.alloc (.cells #[.int .i64 x1.t, .int .i64 x1.i, .int .i64 x1.p, .int .i64 x1.r, .string x1.s, .string x1.o, .int .i64 x1.b, .int .i64 x1.d, .bool x1.g, .int .i64 x2.t, .int .i64 x2.i, .int .i64 x2.p, .int .i64 x2.r, .string x2.s, .string x2.o, .int .i64 x2.b, .int .i64 x2.d, .bool x2.g, .int .i64 x3.t, .int .i64 x3.i, .int .i64 x3.p, .int .i64 x3.r, .string x3.s, .string x3.o, .int .i64 x3.b, .int .i64 x3.d, .bool x3.g, .int .i64 x4.t, .int .i64 x4.i, .int .i64 x4.p, .int .i64 x4.r, .string x4.s, .string x4.o, .int .i64 x4.b, .int .i64 x4.d, .bool x4.g] TSn)) (some ⟨w4.heap.size, 0, none⟩) 4 [x1, x2, x3, x4]) := Lib.hid (Ls.lit w4 [x1, x2, x3, x4] #[.int .i64 x1.t, .int .i64 x1.i, .int .i64 x1.p, .int .i64 x1.r, .string x1.s, .string x1.o, .int .i64 x1.b, .int .i64 x1.d, .bool x1.g, .int .i64 x2.t, .int .i64 x2.i, .int .i64 x2.p, .int .i64 x2.r, .string x2.s, .string x2.o, .int .i64 x2.b, .int .i64 x2.d, .bool x2.g, .int .i64 x3.t, .int .i64 x3.i, .int .i64 x3.p, .int .i64 x3.r, .string x3.s, .string x3.o, .int .i64 x3.b, .int .i64 x3.d, .bool x3.g, .int .i64 x4.t, .int .i64 x4.i, .int .i64 x4.p, .int .i64 x4.r, .string x4.s, .string x4.o, .int .i64 x4.b, .int .i64 x4.d, .bool x4.g] rfl 4 rfl (by simp) HOk.out)
  generalize (w4.alloc (.cells #[.int .i64 x1.t, .int .i64 x1.i, .int .i64 x1.p, .int .i64 x1.r, .string x1.s, .string x1.o, .int .i64 x1.b, .int .i64 x1.d, .bool x1.g, .int .i64 x2.t, .int .i64 x2.i, .int .i64 x2.p, .int .i64 x2.r, .string x2.s, .string x2.o, .int .i64 x2.b, .int .i64 x2.d, .bool x2.g, .int .i64 x3.t, .int .i64 x3.i, .int .i64 x3.p, .int .i64 x3.r, .string x3.s, .string x3.o, .int .i64 x3.b, .int .i64 x3.d, .bool x3.g, .int .i64 x4.t, .int .i64 x4.i, .int .i64 x4.p, .int .i64 x4.r, .string x4.s, .string x4.o, .int .i64 x4.b, .int .i64 x4.d, .bool x4.g] TSn)) = w5 at *
  replace HB := Lib.hid (HB.out.trans (hb.mono HB.out.size))
  clear hb
  generalize w4.heap.size = B0 at *
  go_wp2_with fail
  refine (NewV 10 w w5 HB.out [] (by simp)).mono ?_
  rintro e w6 ⟨h, rfl, hv, -, hb⟩
  replace HL := Lib.hid (HL.out.below hb)
  replace HB := Lib.hid (HB.out.trans (hb.mono HB.out.size))
  clear hb
  have HV := Lib.hid hv
  clear hv
  go_upto_region 3 with (fail)
  refine aw3 (by kernel_rfl) _ _ w w6 h B0 x1 x2 x3 x4 A1.out A2.out ⟨HV.out, HL.out⟩ rfl rfl rfl ?_
  intro x w7 h17 h18 hst
  simp only [Eng.setAll, Act.put, List.setIfInBounds_toArray, List.set_cons_succ, List.set_cons_zero]
  rw [h17, h18]
  replace HV := Lib.hid hst.v; replace HL := Lib.hid hst.l
  replace HB := Lib.hid hst.v.bel
  clear h17 h18 hst
  go_wp2_with fail
  refine (PeakT ss so HV.out (by simp) okss 0 2 K2.out true rfl).mono ?_
  rintro e w8 ⟨rfl, hb⟩
  replace HL := Lib.hid (HL.out.below hb)
  replace HV := Lib.hid (HV.out.below hb)
  replace HB := Lib.hid (HB.out.trans (hb.mono HB.out.size))
  clear hb
  go_upto_region 5 with (fail)
  have hb := (Below.refl w8.heap.size w8).alloc (Nat.le_refl _) (.cells #[.int .i64 0, .int .i64 2] TC)
  have HP : Hid (PB (w8.alloc (.cells #[.int .i64 0, .int .i64 2] TC)) w8.heap.size) := ⟨Bk.new w8 #[.int .i64 0, .int .i64 2] TC⟩
  generalize (w8.alloc (.cells #[.int .i64 0, .int .i64 2] TC)) = w9 at *
  replace HL := Lib.hid (HL.out.below hb)
  replace HV := Lib.hid (HV.out.below hb)
  replace HB := Lib.hid (HB.out.trans (hb.mono HB.out.size))
  clear hb
  go_wp2_with fail
  refine (SlotE (-1) 10 (-1) w9 (by decide) (by decide)).mono ?_
  rintro e w10 ⟨rfl, hf⟩
  have hb := hf.below (Nat.le_refl _) (fun _ _ h => h)
  clear hf
  replace HL := Lib.hid (HL.out.below hb)
  replace HV := Lib.hid (HV.out.below hb)
  replace HP := Lib.hid (HP.out.below hb)
  replace HB := Lib.hid (HB.out.trans (hb.mono HB.out.size))
  clear hb
  go_wp2_with fail
  refine (SlotE 25 10 2 w10 (by decide) (by decide)).mono ?_
  rintro e w11 ⟨rfl, hf⟩
  have hb := hf.below (Nat.le_refl _) (fun _ _ h => h)
  clear hf
  replace HL := Lib.hid (HL.out.below hb)
  replace HV := Lib.hid (HV.out.below hb)
  replace HP := Lib.hid (HP.out.below hb)
  replace HB := Lib.hid (HB.out.trans (hb.mono HB.out.size))
  clear hb
  have e0 : w11.cell? ⟨w8.heap.size, 0, none⟩ = some (.int .i64 0) := HP.out.h.cell 0
  have e1 : w11.cell? ⟨w8.heap.size, 1, none⟩ = some (.int .i64 2) := HP.out.h.cell 1
  have hqc : ∀ W : World, (binOp .eql TC (.agg #[.int .i64 0, .int .i64 2]) (.agg #[.int .i64 0, .int .i64 2])).run Tryz.prog W = .ok (.bool true) W := fun W => by kernel_rfl
  go_wp2_with fail
  refine (CountsT ss so HV.out (by simp) okss [(0, 2), (1, 1)] C2.out 2 rfl).mono ?_
  rintro e w12 ⟨A5, c5, rfl, hcl, hb⟩
  clear e0 e1
  replace HL := Lib.hid (HL.out.below hb)
  replace HV := Lib.hid (HV.out.below hb)
  replace HP := Lib.hid (HP.out.below hb)
  replace HB := Lib.hid (HB.out.trans (hb.mono HB.out.size))
  clear hb
  have HC := Lib.hid hcl
  clear hcl
  go_wp2_with fail
  have hb := (Below.refl w12.heap.size w12).alloc (Nat.le_refl _) (.cells #[.int .i64 0, .int .i64 2, .int .i64 1, .int .i64 1] TC)
  have HC2 : Hid (Cl (w12.alloc (.cells #[.int .i64 0, .int .i64 2, .int .i64 1, .int .i64 1] TC)) (some ⟨w12.heap.size, 0, none⟩) 2 2 [(0, 2), (1, 1)]) := Lib.hid (Cl.lit w12 [(0, 2), (1, 1)] #[.int .i64 0, .int .i64 2, .int .i64 1, .int .i64 1] rfl 2 rfl (by simp))
  generalize (w12.alloc (.cells #[.int .i64 0, .int .i64 2, .int .i64 1, .int .i64 1] TC)) = w13 at *
  replace HL := Lib.hid (HL.out.below hb)
  replace HV := Lib.hid (HV.out.below hb)
  replace HP := Lib.hid (HP.out.below hb)
  replace HC := Lib.hid (HC.out.below hb)
  replace HB := Lib.hid (HB.out.trans (hb.mono HB.out.size))
  clear hb
  refine (SameC HC.out HC2.out).mono ?_
  rintro e w14 ⟨rfl, hf⟩
  have hb := hf.below (Nat.le_refl _) (fun _ _ h => h)
  clear hf
  replace HL := Lib.hid (HL.out.below hb)
  replace HV := Lib.hid (HV.out.below hb)
  replace HP := Lib.hid (HP.out.below hb)
  replace HC := Lib.hid (HC.out.below hb)
  replace HC2 := Lib.hid (HC2.out.below hb)
  replace HB := Lib.hid (HB.out.trans (hb.mono HB.out.size))
  clear hb
  clear HC HC2 HP
  go_wp2_with fail
  refine (Of 10 ss so (some ⟨B0, 0, none⟩) 4 [x1, x2, x3, x4] w14 HL.out (by simp) okss [(-1, 1), (0, 2), (1, 1)] O4.out 3 rfl).mono ?_
  rintro e w15 ⟨A6, c6, rfl, -, hb⟩
  replace HL := Lib.hid (HL.out.below hb)
  replace HV := Lib.hid (HV.out.below hb)
  replace HB := Lib.hid (HB.out.trans (hb.mono HB.out.size))
  clear hb
  have kb2 : ∀ W : World, (Instr.build TDl #[(0, .slice (some ⟨B0, 0, none⟩) 1 4)]).run Tryz.prog W = .ok (.agg #[.slice (some ⟨B0, 0, none⟩) 1 4, .slice none 0 0]) W := fun W => by kernel_rfl
  go_wp2_with fail
  refine (ApplyT h 10 5 ([x2, x3, x4].map (pr 10)) [] ⟨some ⟨B0, 0, none⟩, 4, [x1], none, 0, []⟩ w w15 HV.out ⟨Ls_pre HL.out 1 (by simp), Ls.nil _⟩ (by simp) (by simp) (by simp) (by simp) false A3.out ([x2, x3, x4].map (pr 10)) (fun h => by cases h) (fun _ => rfl)).mono ?_
  rintro e w16 ⟨rfl, hv, hk, hf⟩
  replace HV := Lib.hid hv
  replace HL := Lib.hid (hk _ _ _ HL.out)
  replace HB := Lib.hid (HB.out.trans (hf.below HB.out.size (fun k hk hm => by have := hm.1; omega)))
  clear hv hk hf
  go_wp2_with fail
  go_ret
  exact ⟨rfl, HB.out⟩
end Law47
end Go.Proofs.YtgfjpnpbkkadpaaGreat
