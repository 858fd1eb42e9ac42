/- Layer 48's statements: what must come, whatever the arguments are. -/
import Derived.Test.YtmcghchhegfilaaDigM
import Derived.Test.YtmcghchhegfilaaRef01
namespace Go.Proofs.Ytmcghchhegfilaa
open Go.RowKit
namespace Law48
open KeyP PackP SetP SetW SetF Code_ Rank DigW
attribute [local go_sem] Eng.ev Eng.getO_cons Eng.getO_nil
/-- A new list of records. -/
theorem Ls.lit (w : World) (L : List Sn) (arr : Array Value) (harr : arr = (L.flatMap scs).toArray) (n : Nat) (hn : n = L.length) (hl : L.length ≤ 1000000) (hok : ∀ x ∈ L, x.ok) : Ls (w.alloc (.cells arr TSn)) (some ⟨w.heap.size, 0, none⟩) n L := by
  subst harr; subst hn
  exact ⟨Ref09.Sl.many w TSn _ 9 _ hl (flat_length scs_len L), hok⟩
theorem Il.lit (w : World) (l : List Int) (arr : Array Value) (harr : arr = (ints l).toArray) (n : Nat) (hn : n = l.length) (hl : l.length ≤ 1000000) : Il (w.alloc (.cells arr TI)) (some ⟨w.heap.size, 0, none⟩) n l := by
  subst harr; subst hn
  exact ⟨Ref09.Sl.many w TI _ 1 _ hl (by simp)⟩
theorem Ls.below' {w w' : World} {A : Option Addr} {c : Nat} {L : List Sn} (h : Ls w A c L) (hb : Below w.heap.size w w') : Ls w' A c L := h.below hb
theorem SameI {A B : Option Addr} {c c2 : Nat} {l m : List Int} {w : World} (h1 : Il w A c l) (h2 : Il w B c2 m) (h : l = m) : Calls Try.prog 16 #[.slice A l.length c, .slice B m.length c2] w fun e w' => e = .returned (.bool true) ∧ Fr (fun _ => False) w w' :=
  (SameInts A B c c2 l m w h1.s h2.s).mono (fun _ _ ⟨h3, h4⟩ => ⟨by rw [h3, decide_eq_true h], h4⟩)
abbrev ss : ByteArray := ⟨#[115]⟩
abbrev so : ByteArray := ⟨#[111]⟩
abbrev of (t r : Int) : Sn := ⟨t, 1, 0, r, ss, so, 0, 0, false⟩
instance (n : Int) : Decidable (in64 n) := by unfold in64; infer_instance
theorem of_ok (t r : Int) (h : in64 t) (h2 : in64 r) : (of t r).ok := ⟨h, by show in64 1; decide, by show in64 0; decide, h2, by show in64 0; decide, by show in64 0; decide, by show 1 ≤ maxLen; unfold maxLen; omega, by show 1 ≤ maxLen; unfold maxLen; omega⟩
theorem of_ (t r : Int) (w : World) : Calls Try.prog 37 #[.int .i64 t, .int .i64 r] w fun e w' => e = .returned (of t r).v ∧ Fr (fun _ => False) w w' := by
  have kb : ∀ W : World, (Instr.build 50 #[(0, .int .i64 t), (1, .int .i64 1), (3, .int .i64 r), (4, .string ss), (5, .string so)]).run Try.prog W = .ok (.agg #[.int .i64 t, .int .i64 1, .int .i64 0, .int .i64 r, .string ss, .string so, .int .i64 0, .int .i64 0, .bool false]) W := fun W => by kernel_rfl
  go_enter Try.func37, Try.ntmps37
  go_wp2_with fail
  have hh := heap_new w (.cells (of t r).arr 50)
  exact bodyPost_ret (results_cell_row rfl _ _ w.heap.size 50 _ (0, 0) _ rfl hh Try.underlying50 rfl (by kernel_rfl)) rfl ⟨rfl, Fr.alloc _ _ _⟩
theorem e1 : setOf [of 1 0, of 2 0] = [of 1 0, of 2 0] := by decide +kernel
theorem e2 : setOf [of 1 0, of 2 1] = [of 1 0, of 2 1] := by decide +kernel
theorem e3 : setOf [of 2 0] = [of 2 0] := by decide +kernel
theorem e4 : setOf [of 2 1] = [of 2 1] := by decide +kernel
theorem e5 : setOf ([of 1 0, of 2 0] ++ [of 2 1]) = [of 1 0, of 2 1] := by decide +kernel
theorem e6 : setOf ([of 2 1] ++ [of 1 0, of 2 0]) = [of 1 0, of 2 1] := by decide +kernel
theorem d1 : dto (dgI (setOf [of 1 0, of 2 0])) (dgI (setOf [of 1 0, of 2 1])) 16 = [((Dig.part 2 : Nat) : Int)] := by rw [e1, e2]; decide +kernel
theorem p1 : Dig.pick [((Dig.part 2 : Nat) : Int)] (setOf [of 2 0]) = [of 2 0] := by rw [e3]; decide +kernel
theorem p2 : Dig.pick (dto (dgI (setOf [of 1 0, of 2 0])) (dgI (setOf [of 2 1])) 16) (setOf [of 1 0, of 2 0]) = [of 1 0, of 2 0] := by rw [e1, e4]; decide +kernel
theorem p3 : Dig.pick (dto (dgI (setOf [of 1 0, of 2 0])) (dgI (setOf [of 2 1])) 16) (setOf [of 2 1]) = [of 2 1] := by rw [e1, e4]; decide +kernel
theorem z0 : eqD (dgI (setOf [])) (fun _ => 0) = true := by decide +kernel
set_option maxRecDepth 100000 in
set_option maxHeartbeats 4000000 in
theorem awake (w : World) : Calls Try.prog 11 #[] w fun e w' => e = .returned (.bool true) ∧ Below w.heap.size w w' := by
  have F10 := Lib.hid (of_ 1 0); have F20 := Lib.hid (of_ 2 0); have F21 := Lib.hid (of_ 2 1)
  have K10 := Lib.hid (of_ok 1 0 (by decide) (by decide)); have K20 := Lib.hid (of_ok 2 0 (by decide) (by decide)); have K21 := Lib.hid (of_ok 2 1 (by decide) (by decide))
  have E2 := Lib.hid e2; have E5 := Lib.hid e5; have E6 := Lib.hid e6; have P1 := Lib.hid p1; have P2 := Lib.hid p2; have P3 := Lib.hid p3; have D1 := Lib.hid d1
  have HP2 := Lib.hid (fun W : World => Part (n := 2) (by decide) W)
  have HP5 := Lib.hid (fun W : World => Part (n := 5) (by decide) W)
  have l5 := Dig.part_lt 5
  generalize of 1 0 = x10 at *
  generalize of 2 0 = x20 at *
  generalize of 2 1 = x21 at *
  generalize Dig.part 2 = r2 at *
  generalize Dig.part 5 = r5 at *
  have HZ := Lib.hid (fun W : World => eql_dg (dgI (setOf [])) (fun _ => 0) W)
  have Z0 := z0
  obtain ⟨f0, hf0⟩ : ∃ f, dgI (setOf []) = f := ⟨_, rfl⟩
  obtain ⟨f1, hf1⟩ : ∃ f, dgI (setOf [x10, x20]) = f := ⟨_, rfl⟩
  obtain ⟨f2, hf2⟩ : ∃ f, dgI (setOf [x10, x21]) = f := ⟨_, rfl⟩
  rw [hf0] at HZ Z0
  rw [Z0] at HZ
  rw [hf1, hf2] at D1
  obtain ⟨D2, hD2⟩ : ∃ D, dto (dgI (setOf [x10, x20])) (dgI (setOf [x21])) 16 = D := ⟨_, rfl⟩
  rw [hD2] at P2 P3
  have G0 := Lib.hid hf0; have G1 := Lib.hid hf1; have G2 := Lib.hid hf2; have GD := Lib.hid hD2
  have HEq := Lib.hid (fun W : World => eql_dg f2 f2 W)
  have hee : eqD f2 f2 = true := eqD_iff.2 (fun _ _ => rfl)
  rw [hee] at HEq
  have HB := Lib.hid (Below.refl w.heap.size w)
  clear hf0 hf1 hf2 hD2 Z0 hee
  go_enter Try.func11, Try.ntmps11
  go_wp2_with fail
  refine (F10.out w).mono ?_
  rintro e w1 ⟨rfl, hf⟩
  have hb := hf.below (Nat.le_refl _) (fun _ _ h => h)
  clear hf
  replace HB := Lib.hid (HB.out.trans (hb.mono HB.out.size))
  clear hb
  go_wp2_with fail
  refine (F20.out w1).mono ?_
  rintro e w2 ⟨rfl, hf⟩
  have hb := hf.below (Nat.le_refl _) (fun _ _ h => h)
  clear hf
  replace HB := Lib.hid (HB.out.trans (hb.mono HB.out.size))
  clear hb
  go_wp2_with fail
  have hb := (Below.refl w2.heap.size w2).alloc (Nat.le_refl _) (.cells #[.int .i64 x10.t, .int .i64 x10.i, .int .i64 x10.p, .int .i64 x10.r, .string x10.s, .string x10.o, .int .i64 x10.b, .int .i64 x10.d, .bool x10.g, .int .i64 x20.t, .int .i64 x20.i, .int .i64 x20.p, .int .i64 x20.r, .string x20.s, .string x20.o, .int .i64 x20.b, .int .i64 x20.d, .bool x20.g] TSn)
  have HA := Lib.hid (Ls.lit w2 [x10, x20] #[.int .i64 x10.t, .int .i64 x10.i, .int .i64 x10.p, .int .i64 x10.r, .string x10.s, .string x10.o, .int .i64 x10.b, .int .i64 x10.d, .bool x10.g, .int .i64 x20.t, .int .i64 x20.i, .int .i64 x20.p, .int .i64 x20.r, .string x20.s, .string x20.o, .int .i64 x20.b, .int .i64 x20.d, .bool x20.g] rfl 2 rfl (by simp) (by simp [K10.out, K20.out]))
  generalize (w2.alloc (.cells #[.int .i64 x10.t, .int .i64 x10.i, .int .i64 x10.p, .int .i64 x10.r, .string x10.s, .string x10.o, .int .i64 x10.b, .int .i64 x10.d, .bool x10.g, .int .i64 x20.t, .int .i64 x20.i, .int .i64 x20.p, .int .i64 x20.r, .string x20.s, .string x20.o, .int .i64 x20.b, .int .i64 x20.d, .bool x20.g] TSn)) = w3 at *
  replace HB := Lib.hid (HB.out.trans (hb.mono HB.out.size))
  clear hb
  refine (OfE HA.out (by simp) f1 G1.out).mono ?_
  rintro e w4 ⟨rfl, hb⟩
  replace HA := Lib.hid (HA.out.below hb)
  replace HB := Lib.hid (HB.out.trans (hb.mono HB.out.size))
  clear hb
  clear HA
  go_wp2_with fail
  refine (F10.out w4).mono ?_
  rintro e w5 ⟨rfl, hf⟩
  have hb := hf.below (Nat.le_refl _) (fun _ _ h => h)
  clear hf
  replace HB := Lib.hid (HB.out.trans (hb.mono HB.out.size))
  clear hb
  go_wp2_with fail
  refine (F21.out w5).mono ?_
  rintro e w6 ⟨rfl, hf⟩
  have hb := hf.below (Nat.le_refl _) (fun _ _ h => h)
  clear hf
  replace HB := Lib.hid (HB.out.trans (hb.mono HB.out.size))
  clear hb
  go_wp2_with fail
  have hb := (Below.refl w6.heap.size w6).alloc (Nat.le_refl _) (.cells #[.int .i64 x10.t, .int .i64 x10.i, .int .i64 x10.p, .int .i64 x10.r, .string x10.s, .string x10.o, .int .i64 x10.b, .int .i64 x10.d, .bool x10.g, .int .i64 x21.t, .int .i64 x21.i, .int .i64 x21.p, .int .i64 x21.r, .string x21.s, .string x21.o, .int .i64 x21.b, .int .i64 x21.d, .bool x21.g] TSn)
  have HA := Lib.hid (Ls.lit w6 [x10, x21] #[.int .i64 x10.t, .int .i64 x10.i, .int .i64 x10.p, .int .i64 x10.r, .string x10.s, .string x10.o, .int .i64 x10.b, .int .i64 x10.d, .bool x10.g, .int .i64 x21.t, .int .i64 x21.i, .int .i64 x21.p, .int .i64 x21.r, .string x21.s, .string x21.o, .int .i64 x21.b, .int .i64 x21.d, .bool x21.g] rfl 2 rfl (by simp) (by simp [K10.out, K21.out]))
  generalize (w6.alloc (.cells #[.int .i64 x10.t, .int .i64 x10.i, .int .i64 x10.p, .int .i64 x10.r, .string x10.s, .string x10.o, .int .i64 x10.b, .int .i64 x10.d, .bool x10.g, .int .i64 x21.t, .int .i64 x21.i, .int .i64 x21.p, .int .i64 x21.r, .string x21.s, .string x21.o, .int .i64 x21.b, .int .i64 x21.d, .bool x21.g] TSn)) = w7 at *
  replace HB := Lib.hid (HB.out.trans (hb.mono HB.out.size))
  clear hb
  refine (OfE HA.out (by simp) f2 G2.out).mono ?_
  rintro e w8 ⟨rfl, hb⟩
  replace HA := Lib.hid (HA.out.below hb)
  replace HB := Lib.hid (HB.out.trans (hb.mono HB.out.size))
  clear hb
  clear HA
  go_wp2_with fail
  have hb := ((Below.refl w8.heap.size w8).alloc (Nat.le_refl _) (.cells (dar f1) TDg)).alloc (by rw [World.size_alloc]; omega) (.cells (dar f2) TDg)
  generalize ((w8.alloc (.cells (dar f1) TDg)).alloc (.cells (dar f2) TDg)) = w9 at *
  replace HB := Lib.hid (HB.out.trans (hb.mono HB.out.size))
  clear hb
  refine (DifferE f1 f2 [(r2 : Int)] D1.out w9).mono ?_
  rintro e w10 ⟨A1, c1, rfl, hls, -, hb⟩
  replace HB := Lib.hid (HB.out.trans (hb.mono HB.out.size))
  clear hb
  have HL := Lib.hid hls
  clear hls
  go_wp2_with fail
  refine (F10.out w10).mono ?_
  rintro e w11 ⟨rfl, hf⟩
  have hb := hf.below (Nat.le_refl _) (fun _ _ h => h)
  clear hf
  replace HL := Lib.hid (HL.out.below hb)
  replace HB := Lib.hid (HB.out.trans (hb.mono HB.out.size))
  clear hb
  go_wp2_with fail
  refine (F20.out w11).mono ?_
  rintro e w12 ⟨rfl, hf⟩
  have hb := hf.below (Nat.le_refl _) (fun _ _ h => h)
  clear hf
  replace HL := Lib.hid (HL.out.below hb)
  replace HB := Lib.hid (HB.out.trans (hb.mono HB.out.size))
  clear hb
  go_wp2_with fail
  have hb := (Below.refl w12.heap.size w12).alloc (Nat.le_refl _) (.cells #[.int .i64 x10.t, .int .i64 x10.i, .int .i64 x10.p, .int .i64 x10.r, .string x10.s, .string x10.o, .int .i64 x10.b, .int .i64 x10.d, .bool x10.g, .int .i64 x20.t, .int .i64 x20.i, .int .i64 x20.p, .int .i64 x20.r, .string x20.s, .string x20.o, .int .i64 x20.b, .int .i64 x20.d, .bool x20.g] TSn)
  have HA := Lib.hid (Ls.lit w12 [x10, x20] #[.int .i64 x10.t, .int .i64 x10.i, .int .i64 x10.p, .int .i64 x10.r, .string x10.s, .string x10.o, .int .i64 x10.b, .int .i64 x10.d, .bool x10.g, .int .i64 x20.t, .int .i64 x20.i, .int .i64 x20.p, .int .i64 x20.r, .string x20.s, .string x20.o, .int .i64 x20.b, .int .i64 x20.d, .bool x20.g] rfl 2 rfl (by simp) (by simp [K10.out, K20.out]))
  generalize (w12.alloc (.cells #[.int .i64 x10.t, .int .i64 x10.i, .int .i64 x10.p, .int .i64 x10.r, .string x10.s, .string x10.o, .int .i64 x10.b, .int .i64 x10.d, .bool x10.g, .int .i64 x20.t, .int .i64 x20.i, .int .i64 x20.p, .int .i64 x20.r, .string x20.s, .string x20.o, .int .i64 x20.b, .int .i64 x20.d, .bool x20.g] TSn)) = w13 at *
  replace HL := Lib.hid (HL.out.below hb)
  replace HB := Lib.hid (HB.out.trans (hb.mono HB.out.size))
  clear hb
  refine (F21.out w13).mono ?_
  rintro e w14 ⟨rfl, hf⟩
  have hb := hf.below (Nat.le_refl _) (fun _ _ h => h)
  clear hf
  replace HL := Lib.hid (HL.out.below hb)
  replace HA := Lib.hid (HA.out.below hb)
  replace HB := Lib.hid (HB.out.trans (hb.mono HB.out.size))
  clear hb
  go_wp2_with fail
  have hb := (Below.refl w14.heap.size w14).alloc (Nat.le_refl _) (.cells #[.int .i64 x21.t, .int .i64 x21.i, .int .i64 x21.p, .int .i64 x21.r, .string x21.s, .string x21.o, .int .i64 x21.b, .int .i64 x21.d, .bool x21.g] TSn)
  have HC := Lib.hid (Ls.lit w14 [x21] #[.int .i64 x21.t, .int .i64 x21.i, .int .i64 x21.p, .int .i64 x21.r, .string x21.s, .string x21.o, .int .i64 x21.b, .int .i64 x21.d, .bool x21.g] rfl 1 rfl (by simp) (by simp [K21.out]))
  generalize (w14.alloc (.cells #[.int .i64 x21.t, .int .i64 x21.i, .int .i64 x21.p, .int .i64 x21.r, .string x21.s, .string x21.o, .int .i64 x21.b, .int .i64 x21.d, .bool x21.g] TSn)) = w15 at *
  replace HL := Lib.hid (HL.out.below hb)
  replace HA := Lib.hid (HA.out.below hb)
  replace HB := Lib.hid (HB.out.trans (hb.mono HB.out.size))
  clear hb
  refine (Meet HA.out HC.out (by simp) (by simp) D2 [x10, x20] [x21] [x10, x21] [x10, x21] GD.out P2.out P3.out E5.out E6.out 3 rfl).mono ?_
  rintro e w16 ⟨A2, c2, A3, c3, rfl, hx, hy, hb⟩
  replace HL := Lib.hid (HL.out.below hb)
  replace HA := Lib.hid (HA.out.below hb)
  replace HC := Lib.hid (HC.out.below hb)
  replace HB := Lib.hid (HB.out.trans (hb.mono HB.out.size))
  clear hb
  have HX := Lib.hid hx; have HY := Lib.hid hy
  clear hx hy HA HC
  go_wp2_with fail
  refine (HP2.out w16).mono ?_
  rintro e w17 ⟨rfl, hb⟩
  replace HL := Lib.hid (HL.out.below hb)
  replace HX := Lib.hid (HX.out.below hb)
  replace HY := Lib.hid (HY.out.below hb)
  replace HB := Lib.hid (HB.out.trans (hb.mono HB.out.size))
  clear hb
  go_wp2_with fail
  have hb := (Below.refl w17.heap.size w17).alloc (Nat.le_refl _) (.cells #[.int .i64 (r2 : Int)] TI)
  have HQ := Lib.hid (Il.lit w17 [(r2 : Int)] #[.int .i64 (r2 : Int)] rfl 1 rfl (by simp))
  generalize (w17.alloc (.cells #[.int .i64 (r2 : Int)] TI)) = w18 at *
  replace HL := Lib.hid (HL.out.below hb)
  replace HX := Lib.hid (HX.out.below hb)
  replace HY := Lib.hid (HY.out.below hb)
  replace HB := Lib.hid (HB.out.trans (hb.mono HB.out.size))
  clear hb
  refine (SameI HL.out HQ.out rfl).mono ?_
  rintro e w19 ⟨rfl, hf⟩
  have hb := hf.below (Nat.le_refl _) (fun _ _ h => h)
  clear hf
  replace HL := Lib.hid (HL.out.below hb)
  replace HX := Lib.hid (HX.out.below hb)
  replace HY := Lib.hid (HY.out.below hb)
  replace HQ := Lib.hid (HQ.out.below hb)
  replace HB := Lib.hid (HB.out.trans (hb.mono HB.out.size))
  clear hb
  clear HQ
  go_wp2_with fail
  refine (OfE (Ls.nil w19) (by simp) f0 G0.out).mono ?_
  rintro e w20 ⟨rfl, hb⟩
  replace HL := Lib.hid (HL.out.below hb)
  replace HX := Lib.hid (HX.out.below hb)
  replace HY := Lib.hid (HY.out.below hb)
  replace HB := Lib.hid (HB.out.trans (hb.mono HB.out.size))
  clear hb
  have hz := HZ.out
  go_wp2_with fail
  refine (F20.out w20).mono ?_
  rintro e w21 ⟨rfl, hf⟩
  have hb := hf.below (Nat.le_refl _) (fun _ _ h => h)
  clear hf
  replace HL := Lib.hid (HL.out.below hb)
  replace HX := Lib.hid (HX.out.below hb)
  replace HY := Lib.hid (HY.out.below hb)
  replace HB := Lib.hid (HB.out.trans (hb.mono HB.out.size))
  clear hb
  clear hz
  go_wp2_with fail
  have hb := (Below.refl w21.heap.size w21).alloc (Nat.le_refl _) (.cells #[.int .i64 x20.t, .int .i64 x20.i, .int .i64 x20.p, .int .i64 x20.r, .string x20.s, .string x20.o, .int .i64 x20.b, .int .i64 x20.d, .bool x20.g] TSn)
  have HA := Lib.hid (Ls.lit w21 [x20] #[.int .i64 x20.t, .int .i64 x20.i, .int .i64 x20.p, .int .i64 x20.r, .string x20.s, .string x20.o, .int .i64 x20.b, .int .i64 x20.d, .bool x20.g] rfl 1 rfl (by simp) (by simp [K20.out]))
  generalize (w21.alloc (.cells #[.int .i64 x20.t, .int .i64 x20.i, .int .i64 x20.p, .int .i64 x20.r, .string x20.s, .string x20.o, .int .i64 x20.b, .int .i64 x20.d, .bool x20.g] TSn)) = w22 at *
  replace HL := Lib.hid (HL.out.below hb)
  replace HX := Lib.hid (HX.out.below hb)
  replace HY := Lib.hid (HY.out.below hb)
  replace HB := Lib.hid (HB.out.trans (hb.mono HB.out.size))
  clear hb
  refine (PickE HL.out HA.out (by simp) [x20] P1.out).mono ?_
  rintro e w23 ⟨A4, c4, rfl, hls, -, hb⟩
  replace HL := Lib.hid (HL.out.below hb)
  replace HX := Lib.hid (HX.out.below hb)
  replace HY := Lib.hid (HY.out.below hb)
  replace HA := Lib.hid (HA.out.below hb)
  replace HB := Lib.hid (HB.out.trans (hb.mono HB.out.size))
  clear hb
  have HP := Lib.hid hls
  clear hls
  clear HA HP HL
  go_wp2_with fail
  refine (OfE HX.out (by simp) f2 G2.out).mono ?_
  rintro e w24 ⟨rfl, hb⟩
  replace HX := Lib.hid (HX.out.below hb)
  replace HY := Lib.hid (HY.out.below hb)
  replace HB := Lib.hid (HB.out.trans (hb.mono HB.out.size))
  clear hb
  go_wp2_with fail
  refine (OfE HY.out (by simp) f2 G2.out).mono ?_
  rintro e w25 ⟨rfl, hb⟩
  replace HX := Lib.hid (HX.out.below hb)
  replace HY := Lib.hid (HY.out.below hb)
  replace HB := Lib.hid (HB.out.trans (hb.mono HB.out.size))
  clear hb
  have hq := HEq.out
  go_wp2_with fail
  refine (HP5.out w25).mono ?_
  rintro e w26 ⟨rfl, hb⟩
  replace HX := Lib.hid (HX.out.below hb)
  replace HY := Lib.hid (HY.out.below hb)
  replace HB := Lib.hid (HB.out.trans (hb.mono HB.out.size))
  clear hb
  clear hq
  have r1 : (0 : Int) ≤ (r5 : Int) := by omega
  have r2 : (r5 : Int) < 16 := by omega
  go_wp2_with fail
  refine (HP5.out w26).mono ?_
  rintro e w27 ⟨rfl, hb⟩
  replace HX := Lib.hid (HX.out.below hb)
  replace HY := Lib.hid (HY.out.below hb)
  replace HB := Lib.hid (HB.out.trans (hb.mono HB.out.size))
  clear hb
  go_wp2_with fail
  go_ret
  exact ⟨rfl, HB.out⟩

end Law48
end Go.Proofs.Ytmcghchhegfilaa
