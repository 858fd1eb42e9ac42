/- Layer 19's statements: what must come, whatever the arguments are. -/
import Derived.Test.YtdpngmgaomghoaaGreatJoins
namespace Go.Proofs.YtdpngmgaomghoaaGreat
open Go.RowKit
namespace Law19
open KeyP PackP SetP SetW SetF Code_ Rank
attribute [local go_sem] Eng.ev Eng.getO_cons Eng.getO_nil
theorem SameT {A A2 : Option Addr} {c c2 : Nat} {L M : List Sn} {w : World} (hS : Ls w A c L) (hS2 : Ls w A2 c2 M) (h : L = M) :
    Calls Tryz.prog 19 #[.slice A L.length c, .slice A2 M.length c2] w fun e w' => e = .returned (.bool true) ∧ Fr (fun _ => False) w w' :=
  (SetF.Same A A2 c c2 L M w hS.s hS2.s).mono (fun _ _ ⟨h1, h2⟩ => ⟨by rw [h1, decide_eq_true h], h2⟩)
theorem CoversB {A A2 : Option Addr} {c c2 : Nat} {a b : List Sn} {w : World} (h1 : Ls w A c a) (h2 : Ls w A2 c2 b) (hl1 : a.length ≤ 1000000) (hl2 : b.length ≤ 1000000) (q : Bool) (hq : decide (miss a b = []) = q) :
    Calls Tryz.prog 77 #[.slice A a.length c, .slice A2 b.length c2] w fun e w' => e = .returned (.bool q) ∧ Below w.heap.size w w' := hq ▸ Join.Covers A A2 c c2 a b w h1 h2 hl1 hl2
theorem JoinE {A A2 : Option Addr} {c c2 : Nat} {L M : List Sn} {w : World} (h1 : Ls w A c L) (h2 : Ls w A2 c2 M) (hl : L.length + M.length ≤ 1000000) (N : List Sn) (hN : setOf (L ++ M) = N) :
    Calls Tryz.prog 75 #[.slice A L.length c, .slice A2 M.length c2] w (LsPost N w) := hN ▸ Join.Join A A2 c c2 L M w h1 h2 hl
theorem MissE {A A2 : Option Addr} {c c2 : Nat} {a b : List Sn} {w : World} (h1 : Ls w A c a) (h2 : Ls w A2 c2 b) (hl1 : a.length ≤ 1000000) (hl2 : b.length ≤ 1000000) (N : List Sn) (hN : miss a b = N) :
    Calls Tryz.prog 76 #[.slice A a.length c, .slice A2 b.length c2] w (LsPost N w) := hN ▸ Join.Missing A A2 c c2 a b w h1 h2 hl1 hl2
theorem AllE {A : Option Addr} {c n : Nat} {l : List Lv} {w : World} (hS : Sl w 1 A l.length c (l.flatMap lvc)) (hR : ∀ x ∈ l, Rd w x) (hlen : (cat l).length ≤ 1000000) (hn : l.length = n) (N : List Sn) (hN : setOf (cat l) = N) :
    Calls Tryz.prog 21 #[.slice A n c] w (LsPost N w) := hn ▸ hN ▸ Join.All A c l w hS hR hlen
/-- Three lists, in a new list. -/
theorem three_lv (w : World) (x y z : Lv) : Sl (w.alloc (.cells #[.slice x.A x.L.length x.c, .slice y.A y.L.length y.c, .slice z.A z.L.length z.c] TSs)) 1 (some ⟨w.heap.size, 0, none⟩) 3 3 ([x, y, z].flatMap lvc) := by
  refine ⟨rfl, Nat.le_refl _, by simp [maxLen], by simp, fun _ => ⟨_, _, rfl, fun i u hu => ?_⟩⟩
  rw [Nat.zero_add, cell_of_block (heap_new _ _)]
  simpa using hu
structure L3 (w : World) (B : Nat) (x y z : Lv) : Prop where
  s : Sl w 1 (some ⟨B, 0, none⟩) 3 3 ([x, y, z].flatMap lvc)
theorem L3.below {w w' : World} {B : Nat} {x y z : Lv} (h : L3 w B x y z) (hb : Below w.heap.size w w') : L3 w' B x y z := ⟨h.s.fr (Fr.of_below' hb (fun _ => False)) (fun _ _ h => h)⟩
theorem L3.rd {w : World} {x y z : Lv} (h1 : Rd w x) (h2 : Rd w y) (h3 : Rd w z) : ∀ q ∈ [x, y, z], Rd w q := fun q hq => by
  simp at hq
  rcases hq with rfl | rfl | rfl <;> assumption
/-- A new list of records. -/
theorem Ls.lit (w : World) (L : List Sn) (arr : Array Value) (harr : arr = (L.flatMap scs).toArray) (n : Nat) (hn : n = L.length) (hl : L.length ≤ 1000000) (hok : ∀ x ∈ L, x.ok) : Ls (w.alloc (.cells arr TSn)) (some ⟨w.heap.size, 0, none⟩) n L := by
  subst harr; subst hn
  exact ⟨Ref09.Sl.many w TSn _ 9 _ hl (flat_length scs_len L), hok⟩
abbrev ss : ByteArray := ⟨#[115]⟩
abbrev so : ByteArray := ⟨#[111]⟩
abbrev of (i r : Int) : Sn := ⟨1, i, 0, r, ss, so, 0, 0, false⟩
instance (n : Int) : Decidable (in64 n) := by unfold in64; infer_instance
theorem of_ok (i r : Int) (h : in64 i) (h2 : in64 r) : (of i r).ok := ⟨by show in64 1; decide, h, by show in64 0; decide, h2, by show in64 0; decide, by show in64 0; decide, by show 1 ≤ maxLen; unfold maxLen; omega, by show 1 ≤ maxLen; unfold maxLen; omega⟩
instance (n : Int) : Decidable (in64 n) := by unfold in64; infer_instance
theorem of_ (i r : Int) (w : World) : Calls Tryz.prog 74 #[.int .i64 i, .int .i64 r] w fun e w' => e = .returned (of i r).v ∧ Fr (fun _ => False) w w' := by
  have kb : ∀ W : World, (Instr.build 29 #[(0, .int .i64 1), (1, .int .i64 i), (3, .int .i64 r), (4, .string ss), (5, .string so)]).run Tryz.prog W = .ok (.agg #[.int .i64 1, .int .i64 i, .int .i64 0, .int .i64 r, .string ss, .string so, .int .i64 0, .int .i64 0, .bool false]) W := fun W => by kernel_rfl
  go_enter Tryz.func74, Tryz.ntmps74
  go_wp2_with fail
  have hh := heap_new w (.cells (of i r).arr 29)
  exact bodyPost_ret (results_cell_row rfl _ _ w.heap.size 29 _ (0, 0) _ rfl hh Tryz.underlying29 rfl (by kernel_rfl)) rfl ⟨rfl, Fr.alloc _ _ _⟩
theorem e1 : setOf ([of 2 1, of 1 0] ++ [of 2 0, of 3 0]) = [of 1 0, of 2 1, of 3 0] := by decide +kernel
theorem e2 : setOf ([of 2 0, of 3 0] ++ [of 2 1, of 1 0]) = [of 1 0, of 2 1, of 3 0] := by decide +kernel
theorem e3 : miss [of 2 1, of 1 0] [of 2 0, of 3 0] = [of 3 0] := by decide +kernel
set_option maxRecDepth 100000 in
set_option maxHeartbeats 2000000 in
theorem awake (w : World) : Calls Tryz.prog 14 #[] w fun e w' => e = .returned (.bool true) ∧ Below w.heap.size w w' := by
  have F21 := Lib.hid (of_ 2 1); have F10 := Lib.hid (of_ 1 0); have F20 := Lib.hid (of_ 2 0); have F30 := Lib.hid (of_ 3 0)
  have E1 := Lib.hid e1; have E2 := Lib.hid e2; have E3 := Lib.hid e3
  have K21 := Lib.hid (of_ok 2 1 (by decide) (by decide)); have K10 := Lib.hid (of_ok 1 0 (by decide) (by decide)); have K20 := Lib.hid (of_ok 2 0 (by decide) (by decide)); have K30 := Lib.hid (of_ok 3 0 (by decide) (by decide))
  generalize of 2 1 = x21 at *
  generalize of 1 0 = x10 at *
  generalize of 2 0 = x20 at *
  generalize of 3 0 = x30 at *
  have HB := Lib.hid (Below.refl w.heap.size w)
  go_enter Tryz.func14, Tryz.ntmps14
  go_wp2_with fail
  refine (F21.out w).mono ?_
  rintro e w1 ⟨rfl, hf⟩
  have hb := hf.below (Nat.le_refl _) (fun _ _ h => h)
  clear hf
  replace HB := Lib.hid (HB.out.trans (hb.mono HB.out.size))
  clear hb
  go_wp2_with fail
  refine (F10.out w1).mono ?_
  rintro e w2 ⟨rfl, hf⟩
  have hb := hf.below (Nat.le_refl _) (fun _ _ h => h)
  clear hf
  replace HB := Lib.hid (HB.out.trans (hb.mono HB.out.size))
  clear hb
  go_wp2_with fail
  have hb := (Below.refl w2.heap.size w2).alloc (Nat.le_refl _) (.cells #[.int .i64 x21.t, .int .i64 x21.i, .int .i64 x21.p, .int .i64 x21.r, .string x21.s, .string x21.o, .int .i64 x21.b, .int .i64 x21.d, .bool x21.g, .int .i64 x10.t, .int .i64 x10.i, .int .i64 x10.p, .int .i64 x10.r, .string x10.s, .string x10.o, .int .i64 x10.b, .int .i64 x10.d, .bool x10.g] TSn)
  have HA := Lib.hid (Ls.lit w2 [x21, x10] #[.int .i64 x21.t, .int .i64 x21.i, .int .i64 x21.p, .int .i64 x21.r, .string x21.s, .string x21.o, .int .i64 x21.b, .int .i64 x21.d, .bool x21.g, .int .i64 x10.t, .int .i64 x10.i, .int .i64 x10.p, .int .i64 x10.r, .string x10.s, .string x10.o, .int .i64 x10.b, .int .i64 x10.d, .bool x10.g] rfl 2 rfl (by simp) (by simp [K21.out, K10.out]))
  generalize (w2.alloc (.cells #[.int .i64 x21.t, .int .i64 x21.i, .int .i64 x21.p, .int .i64 x21.r, .string x21.s, .string x21.o, .int .i64 x21.b, .int .i64 x21.d, .bool x21.g, .int .i64 x10.t, .int .i64 x10.i, .int .i64 x10.p, .int .i64 x10.r, .string x10.s, .string x10.o, .int .i64 x10.b, .int .i64 x10.d, .bool x10.g] TSn)) = w3 at *
  replace HB := Lib.hid (HB.out.trans (hb.mono HB.out.size))
  clear hb
  refine (F20.out w3).mono ?_
  rintro e w4 ⟨rfl, hf⟩
  have hb := hf.below (Nat.le_refl _) (fun _ _ h => h)
  clear hf
  replace HA := Lib.hid (HA.out.below hb)
  replace HB := Lib.hid (HB.out.trans (hb.mono HB.out.size))
  clear hb
  go_wp2_with fail
  refine (F30.out w4).mono ?_
  rintro e w5 ⟨rfl, hf⟩
  have hb := hf.below (Nat.le_refl _) (fun _ _ h => h)
  clear hf
  replace HA := Lib.hid (HA.out.below hb)
  replace HB := Lib.hid (HB.out.trans (hb.mono HB.out.size))
  clear hb
  go_wp2_with fail
  have hb := (Below.refl w5.heap.size w5).alloc (Nat.le_refl _) (.cells #[.int .i64 x20.t, .int .i64 x20.i, .int .i64 x20.p, .int .i64 x20.r, .string x20.s, .string x20.o, .int .i64 x20.b, .int .i64 x20.d, .bool x20.g, .int .i64 x30.t, .int .i64 x30.i, .int .i64 x30.p, .int .i64 x30.r, .string x30.s, .string x30.o, .int .i64 x30.b, .int .i64 x30.d, .bool x30.g] TSn)
  have HC := Lib.hid (Ls.lit w5 [x20, x30] #[.int .i64 x20.t, .int .i64 x20.i, .int .i64 x20.p, .int .i64 x20.r, .string x20.s, .string x20.o, .int .i64 x20.b, .int .i64 x20.d, .bool x20.g, .int .i64 x30.t, .int .i64 x30.i, .int .i64 x30.p, .int .i64 x30.r, .string x30.s, .string x30.o, .int .i64 x30.b, .int .i64 x30.d, .bool x30.g] rfl 2 rfl (by simp) (by simp [K20.out, K30.out]))
  generalize (w5.alloc (.cells #[.int .i64 x20.t, .int .i64 x20.i, .int .i64 x20.p, .int .i64 x20.r, .string x20.s, .string x20.o, .int .i64 x20.b, .int .i64 x20.d, .bool x20.g, .int .i64 x30.t, .int .i64 x30.i, .int .i64 x30.p, .int .i64 x30.r, .string x30.s, .string x30.o, .int .i64 x30.b, .int .i64 x30.d, .bool x30.g] TSn)) = w6 at *
  replace HA := Lib.hid (HA.out.below hb)
  replace HB := Lib.hid (HB.out.trans (hb.mono HB.out.size))
  clear hb
  refine (JoinE HA.out HC.out (by simp) [x10, x21, x30] E1.out).mono ?_
  rintro e w7 ⟨A1, c1, rfl, hls, -, hb⟩
  replace HA := Lib.hid (HA.out.below hb)
  replace HC := Lib.hid (HC.out.below hb)
  replace HB := Lib.hid (HB.out.trans (hb.mono HB.out.size))
  clear hb
  have H1 := Lib.hid hls
  clear hls
  go_wp2_with fail
  refine (F10.out w7).mono ?_
  rintro e w8 ⟨rfl, hf⟩
  have hb := hf.below (Nat.le_refl _) (fun _ _ h => h)
  clear hf
  replace HA := Lib.hid (HA.out.below hb)
  replace HC := Lib.hid (HC.out.below hb)
  replace H1 := Lib.hid (H1.out.below hb)
  replace HB := Lib.hid (HB.out.trans (hb.mono HB.out.size))
  clear hb
  go_wp2_with fail
  refine (F21.out w8).mono ?_
  rintro e w9 ⟨rfl, hf⟩
  have hb := hf.below (Nat.le_refl _) (fun _ _ h => h)
  clear hf
  replace HA := Lib.hid (HA.out.below hb)
  replace HC := Lib.hid (HC.out.below hb)
  replace H1 := Lib.hid (H1.out.below hb)
  replace HB := Lib.hid (HB.out.trans (hb.mono HB.out.size))
  clear hb
  go_wp2_with fail
  refine (F30.out w9).mono ?_
  rintro e w10 ⟨rfl, hf⟩
  have hb := hf.below (Nat.le_refl _) (fun _ _ h => h)
  clear hf
  replace HA := Lib.hid (HA.out.below hb)
  replace HC := Lib.hid (HC.out.below hb)
  replace H1 := Lib.hid (H1.out.below hb)
  replace HB := Lib.hid (HB.out.trans (hb.mono HB.out.size))
  clear hb
  go_wp2_with fail
  have hb := (Below.refl w10.heap.size w10).alloc (Nat.le_refl _) (.cells #[.int .i64 x10.t, .int .i64 x10.i, .int .i64 x10.p, .int .i64 x10.r, .string x10.s, .string x10.o, .int .i64 x10.b, .int .i64 x10.d, .bool x10.g, .int .i64 x21.t, .int .i64 x21.i, .int .i64 x21.p, .int .i64 x21.r, .string x21.s, .string x21.o, .int .i64 x21.b, .int .i64 x21.d, .bool x21.g, .int .i64 x30.t, .int .i64 x30.i, .int .i64 x30.p, .int .i64 x30.r, .string x30.s, .string x30.o, .int .i64 x30.b, .int .i64 x30.d, .bool x30.g] TSn)
  have H2 := Lib.hid (Ls.lit w10 [x10, x21, x30] #[.int .i64 x10.t, .int .i64 x10.i, .int .i64 x10.p, .int .i64 x10.r, .string x10.s, .string x10.o, .int .i64 x10.b, .int .i64 x10.d, .bool x10.g, .int .i64 x21.t, .int .i64 x21.i, .int .i64 x21.p, .int .i64 x21.r, .string x21.s, .string x21.o, .int .i64 x21.b, .int .i64 x21.d, .bool x21.g, .int .i64 x30.t, .int .i64 x30.i, .int .i64 x30.p, .int .i64 x30.r, .string x30.s, .string x30.o, .int .i64 x30.b, .int .i64 x30.d, .bool x30.g] rfl 3 rfl (by simp) (by simp [K10.out, K21.out, K30.out]))
  generalize (w10.alloc (.cells #[.int .i64 x10.t, .int .i64 x10.i, .int .i64 x10.p, .int .i64 x10.r, .string x10.s, .string x10.o, .int .i64 x10.b, .int .i64 x10.d, .bool x10.g, .int .i64 x21.t, .int .i64 x21.i, .int .i64 x21.p, .int .i64 x21.r, .string x21.s, .string x21.o, .int .i64 x21.b, .int .i64 x21.d, .bool x21.g, .int .i64 x30.t, .int .i64 x30.i, .int .i64 x30.p, .int .i64 x30.r, .string x30.s, .string x30.o, .int .i64 x30.b, .int .i64 x30.d, .bool x30.g] TSn)) = w11 at *
  replace HA := Lib.hid (HA.out.below hb)
  replace HC := Lib.hid (HC.out.below hb)
  replace H1 := Lib.hid (H1.out.below hb)
  replace HB := Lib.hid (HB.out.trans (hb.mono HB.out.size))
  clear hb
  refine (SameT H1.out H2.out rfl).mono ?_
  rintro e w12 ⟨rfl, hf⟩
  have hb := hf.below (Nat.le_refl _) (fun _ _ h => h)
  clear hf
  replace HA := Lib.hid (HA.out.below hb)
  replace HC := Lib.hid (HC.out.below hb)
  replace H1 := Lib.hid (H1.out.below hb)
  replace H2 := Lib.hid (H2.out.below hb)
  replace HB := Lib.hid (HB.out.trans (hb.mono HB.out.size))
  clear hb
  clear H1 H2
  go_wp2_with fail
  refine (MissE HA.out HC.out (by simp) (by simp) [x30] E3.out).mono ?_
  rintro e w13 ⟨A2, c2, rfl, hls, -, hb⟩
  replace HA := Lib.hid (HA.out.below hb)
  replace HC := Lib.hid (HC.out.below hb)
  replace HB := Lib.hid (HB.out.trans (hb.mono HB.out.size))
  clear hb
  have H1 := Lib.hid hls
  clear hls
  go_wp2_with fail
  refine (F30.out w13).mono ?_
  rintro e w14 ⟨rfl, hf⟩
  have hb := hf.below (Nat.le_refl _) (fun _ _ h => h)
  clear hf
  replace HA := Lib.hid (HA.out.below hb)
  replace HC := Lib.hid (HC.out.below hb)
  replace H1 := Lib.hid (H1.out.below hb)
  replace HB := Lib.hid (HB.out.trans (hb.mono HB.out.size))
  clear hb
  go_wp2_with fail
  have hb := (Below.refl w14.heap.size w14).alloc (Nat.le_refl _) (.cells #[.int .i64 x30.t, .int .i64 x30.i, .int .i64 x30.p, .int .i64 x30.r, .string x30.s, .string x30.o, .int .i64 x30.b, .int .i64 x30.d, .bool x30.g] TSn)
  have H2 := Lib.hid (Ls.lit w14 [x30] #[.int .i64 x30.t, .int .i64 x30.i, .int .i64 x30.p, .int .i64 x30.r, .string x30.s, .string x30.o, .int .i64 x30.b, .int .i64 x30.d, .bool x30.g] rfl 1 rfl (by simp) (by simp [K30.out]))
  generalize (w14.alloc (.cells #[.int .i64 x30.t, .int .i64 x30.i, .int .i64 x30.p, .int .i64 x30.r, .string x30.s, .string x30.o, .int .i64 x30.b, .int .i64 x30.d, .bool x30.g] TSn)) = w15 at *
  replace HA := Lib.hid (HA.out.below hb)
  replace HC := Lib.hid (HC.out.below hb)
  replace H1 := Lib.hid (H1.out.below hb)
  replace HB := Lib.hid (HB.out.trans (hb.mono HB.out.size))
  clear hb
  refine (SameT H1.out H2.out rfl).mono ?_
  rintro e w16 ⟨rfl, hf⟩
  have hb := hf.below (Nat.le_refl _) (fun _ _ h => h)
  clear hf
  replace HA := Lib.hid (HA.out.below hb)
  replace HC := Lib.hid (HC.out.below hb)
  replace H1 := Lib.hid (H1.out.below hb)
  replace H2 := Lib.hid (H2.out.below hb)
  replace HB := Lib.hid (HB.out.trans (hb.mono HB.out.size))
  clear hb
  clear H1 H2
  go_wp2_with fail
  refine (CoversB HA.out HC.out (by simp) (by simp) false (by rw [E3.out]; simp)).mono ?_
  rintro e w17 ⟨rfl, hb⟩
  replace HA := Lib.hid (HA.out.below hb)
  replace HC := Lib.hid (HC.out.below hb)
  replace HB := Lib.hid (HB.out.trans (hb.mono HB.out.size))
  clear hb
  go_wp2_with fail
  refine (CoversB HA.out HA.out (by simp) (by simp) true (by rw [miss_self]; simp)).mono ?_
  rintro e w18 ⟨rfl, hb⟩
  replace HA := Lib.hid (HA.out.below hb)
  replace HC := Lib.hid (HC.out.below hb)
  replace HB := Lib.hid (HB.out.trans (hb.mono HB.out.size))
  clear hb
  go_wp2_with fail
  have hb := (Below.refl w18.heap.size w18).alloc (Nat.le_refl _) (.cells #[.slice (some ⟨w2.heap.size, 0, none⟩) 2 2, .slice (some ⟨w5.heap.size, 0, none⟩) 2 2, .slice none 0 0] TSs)
  have H3 : Hid (L3 (w18.alloc (.cells #[.slice (some ⟨w2.heap.size, 0, none⟩) 2 2, .slice (some ⟨w5.heap.size, 0, none⟩) 2 2, .slice none 0 0] TSs)) w18.heap.size ⟨some ⟨w2.heap.size, 0, none⟩, 2, [x21, x10]⟩ ⟨some ⟨w5.heap.size, 0, none⟩, 2, [x20, x30]⟩ ⟨none, 0, []⟩) := ⟨three_lv w18 ⟨some ⟨w2.heap.size, 0, none⟩, 2, [x21, x10]⟩ ⟨some ⟨w5.heap.size, 0, none⟩, 2, [x20, x30]⟩ ⟨none, 0, []⟩⟩
  generalize (w18.alloc (.cells #[.slice (some ⟨w2.heap.size, 0, none⟩) 2 2, .slice (some ⟨w5.heap.size, 0, none⟩) 2 2, .slice none 0 0] TSs)) = w19 at *
  replace HA := Lib.hid (HA.out.below hb)
  replace HC := Lib.hid (HC.out.below hb)
  replace HB := Lib.hid (HB.out.trans (hb.mono HB.out.size))
  clear hb
  refine (AllE H3.out.s (L3.rd HA.out HC.out (Ls.nil _)) (by simp [cat]) rfl [x10, x21, x30] (by simpa [cat] using E1.out)).mono ?_
  rintro e w20 ⟨A3, c3, rfl, hls, -, hb⟩
  replace HA := Lib.hid (HA.out.below hb)
  replace HC := Lib.hid (HC.out.below hb)
  replace H3 := Lib.hid (H3.out.below hb)
  replace HB := Lib.hid (HB.out.trans (hb.mono HB.out.size))
  clear hb
  have H1 := Lib.hid hls
  clear hls
  go_wp2_with fail
  refine (JoinE HC.out HA.out (by simp) [x10, x21, x30] E2.out).mono ?_
  rintro e w21 ⟨A4, c4, rfl, hls, -, hb⟩
  replace HA := Lib.hid (HA.out.below hb)
  replace HC := Lib.hid (HC.out.below hb)
  replace H3 := Lib.hid (H3.out.below hb)
  replace H1 := Lib.hid (H1.out.below hb)
  replace HB := Lib.hid (HB.out.trans (hb.mono HB.out.size))
  clear hb
  have H2 := Lib.hid hls
  clear hls
  go_wp2_with fail
  refine (SameT H1.out H2.out rfl).mono ?_
  rintro e w22 ⟨rfl, hf⟩
  have hb := hf.below (Nat.le_refl _) (fun _ _ h => h)
  clear hf
  replace HA := Lib.hid (HA.out.below hb)
  replace HC := Lib.hid (HC.out.below hb)
  replace H3 := Lib.hid (H3.out.below hb)
  replace H1 := Lib.hid (H1.out.below hb)
  replace H2 := Lib.hid (H2.out.below hb)
  replace HB := Lib.hid (HB.out.trans (hb.mono HB.out.size))
  clear hb
  go_wp2_with fail
  go_ret
  exact ⟨rfl, HB.out⟩
end Law19
end Go.Proofs.YtdpngmgaomghoaaGreat
