/- Layer 21's statements: what must come, whatever the arguments are. -/
import Derived.Test.YtmcghchhegfilaaClsZ2
import Derived.Test.YtmcghchhegfilaaRef09
import Derived.Test.YtmcghchhegfilaaSetFs
namespace Go.Proofs.Ytmcghchhegfilaa
open Go.RowKit
namespace Law21
open KeyP PackP SetP SetW SetF Cls ClsW ClsS ClsF Pack
attribute [local go_sem] Eng.ev Eng.getO_cons Eng.getO_nil
theorem Ls.lit (w : World) (L : List Sn) (arr : Array Value) (harr : arr = (L.flatMap scs).toArray) (n : Nat) (hn : n = L.length) (hl : L.length ≤ 1000000) (hok : ∀ x ∈ L, x.ok) : Ls (w.alloc (.cells arr TSn)) (some ⟨w.heap.size, 0, none⟩) n L := by
  subst harr; subst hn
  exact ⟨Ref09.Sl.many w TSn _ 9 _ hl (flat_length scs_len L), hok⟩
/-- A list of numbers that lies there. -/
structure Il (w : World) (A : Option Addr) (c : Nat) (n : Nat) (l : List Int) : Prop where
  s : Sl w 1 A n c (ints l)
  n : l.length = n
theorem Il.below {w w' : World} {A : Option Addr} {c n : Nat} {l : List Int} (h : Il w A c n l) (hb : Below w.heap.size w w') : Il w' A c n l := ⟨h.s.fr (Fr.of_below' hb (fun _ => False)) (fun _ _ h => h), h.n⟩
theorem Il.lit (w : World) (l : List Int) (arr : Array Value) (harr : arr = (ints l).toArray) (n : Nat) (hn : n = l.length) (hl : l.length ≤ 1000000) : Il (w.alloc (.cells arr TI)) (some ⟨w.heap.size, 0, none⟩) n n l := by
  subst harr; subst hn
  exact ⟨Ref09.Sl.many w TI _ 1 _ hl (by simp), rfl⟩
/-- A list of places that lies there. -/
structure Pl (w : World) (A : Option Addr) (c n : Nat) (P : List Pc) : Prop where
  s : Sl w 6 A n c (pcs P)
  n : P.length = n
theorem Pl.below {w w' : World} {A : Option Addr} {c n : Nat} {P : List Pc} (h : Pl w A c n P) (hb : Below w.heap.size w w') : Pl w' A c n P := ⟨h.s.fr (Fr.of_below' hb (fun _ => False)) (fun _ _ h => h), h.n⟩
/-- A place in its block. -/
structure Pb (w : World) (B : Nat) (p : Pc) : Prop where
  h : Bk w B p.arr TPl
theorem Pb.below {w w' : World} {B : Nat} {p : Pc} (h : Pb w B p) (hb : Below w.heap.size w w') : Pb w' B p := ⟨h.h.fr (Fr.of_below' hb (fun _ => False)) (fun _ _ h => h)⟩
theorem plcs_len (L : List Sn) : (plcs L).length = L.length := by simp
theorem OfE {A : Option Addr} {c : Nat} {L : List Sn} {w : World} (hS : Ls w A c L) (hlen : L.length ≤ 900) (P : List Pc) (hP : plcs (spn L) = P) (n : Nat) (hn : P.length = n) :
    Calls Try.prog 32 #[.slice A L.length c] w fun e w' => ∃ A' c', e = .returned (.slice A' n c') ∧ Pl w' A' c' n P ∧ Below w.heap.size w w' := by
  subst hn; subst hP
  refine (Of A c L w hS hlen).mono ?_
  rintro e w' ⟨A', c', rfl, h1, h2⟩
  rw [plcs_len]
  exact ⟨A', c', rfl, ⟨h1, plcs_len _⟩, h2⟩
theorem ROfE {A : Option Addr} {c : Nat} {L : List Sn} {w : World} (hS : Ls w A c L) (hlen : L.length ≤ 900) (P : List Pc) (hP : plcs (spn L) = P) (n : Nat) (hn : P.length = n) :
    Calls Try.prog 28 #[.slice A L.length c] w fun e w' => ∃ A' c', e = .returned (.slice A' n c') ∧ Pl w' A' c' n P ∧ Below w.heap.size w w' := by
  subst hn; subst hP
  refine (ROf A c L w hS hlen).mono ?_
  rintro e w' ⟨A', c', rfl, h1, h2⟩
  rw [plcs_len]
  exact ⟨A', c', rfl, ⟨h1, plcs_len _⟩, h2⟩
theorem OneE {A : Option Addr} {c : Nat} {L : List Sn} {w : World} (hS : Ls w A c L) (hlen : L.length ≤ 900) {t i : Int} (ht : in64 t) (hi : in64 i) (p : Pc) (hp : onP (spn L) t i = p) (b : Bool) (hb : (nx (spn L) t i).isSome = b) :
    Calls Try.prog 29 #[.int .i64 t, .int .i64 i, .slice A L.length c] w fun e w' => e = .returned (.tuple #[p.v, .bool b]) ∧ Below w.heap.size w w' := by
  subst hp; subst hb
  exact One t i A c L w hS hlen ht hi
theorem ChainE {A : Option Addr} {c : Nat} {L : List Sn} {w : World} (hS : Ls w A c L) (hlen : L.length ≤ 900) {t i : Int} (ht : in64 t) (hi : in64 i) (l : List Int) (hl : ids (wy (spn L) t i) = l) (n : Nat) (hn : l.length = n) :
    Calls Try.prog 33 #[.int .i64 t, .int .i64 i, .slice A L.length c] w fun e w' => ∃ A' c', e = .returned (.slice A' n c') ∧ Il w' A' c' n l ∧ Below w.heap.size w w' := by
  subst hn; subst hl
  refine (Chain t i A c L w hS hlen ht hi).mono ?_
  rintro e w' ⟨A', c', rfl, h1, h2⟩
  rw [List.length_map]
  exact ⟨A', c', rfl, ⟨h1, List.length_map ..⟩, h2⟩
theorem RChainE {A : Option Addr} {c : Nat} {L : List Sn} {w : World} (hS : Ls w A c L) (hlen : L.length ≤ 900) {t i : Int} (l : List Int) (hl : ids (wy (spn L) t i) = l) (n : Nat) (hn : l.length = n) :
    Calls Try.prog 34 #[.int .i64 t, .int .i64 i, .slice A L.length c] w fun e w' => ∃ A' c', e = .returned (.slice A' n c') ∧ Il w' A' c' n l ∧ Below w.heap.size w w' := by
  subst hn; subst hl
  refine (RefChain t i A c L w hS hlen).mono ?_
  rintro e w' ⟨A', c', rfl, h1, h2⟩
  rw [List.length_map]
  exact ⟨A', c', rfl, ⟨h1, List.length_map ..⟩, h2⟩
theorem SameI {A B : Option Addr} {c c2 n m : Nat} {l : List Int} {w : World} (h1 : Il w A c n l) (h2 : Il w B c2 m l) : Calls Try.prog 16 #[.slice A n c, .slice B m c2] w fun e w' => e = .returned (.bool true) ∧ Fr (fun _ => False) w w' := by
  obtain ⟨h1, rfl⟩ := h1
  obtain ⟨h2, rfl⟩ := h2
  exact (SameInts A B c c2 l l w h1 h2).mono (fun _ _ ⟨h3, h4⟩ => ⟨by rw [h3, decide_eq_true rfl], h4⟩)
abbrev ss : ByteArray := ⟨#[115]⟩
abbrev so : ByteArray := ⟨#[111]⟩
abbrev of (i p : Int) : Sn := ⟨1, i, p, 0, ss, so, 0, 0, false⟩
instance (n : Int) : Decidable (in64 n) := by unfold in64; infer_instance
theorem of_ok (i p : Int) (h : in64 i) (h2 : in64 p) : (of i p).ok := ⟨by show in64 1; decide, h, h2, by show in64 0; decide, by show in64 0; decide, by show in64 0; decide, by show 1 ≤ maxLen; unfold maxLen; omega, by show 1 ≤ maxLen; unfold maxLen; omega⟩
theorem of_ (i p : Int) (w : World) : Calls Try.prog 57 #[.int .i64 i, .int .i64 p] w fun e w' => e = .returned (of i p).v ∧ Fr (fun _ => False) w w' := by
  have kb : ∀ W : World, (Instr.build 50 #[(0, .int .i64 1), (1, .int .i64 i), (2, .int .i64 p), (4, .string ss), (5, .string so)]).run Try.prog W = .ok (.agg #[.int .i64 1, .int .i64 i, .int .i64 p, .int .i64 0, .string ss, .string so, .int .i64 0, .int .i64 0, .bool false]) W := fun W => by kernel_rfl
  go_enter Try.func57, Try.ntmps57
  go_wp2_with fail
  have hh := heap_new w (.cells (of i p).arr 50)
  exact bodyPost_ret (results_cell_row rfl _ _ w.heap.size 50 _ (0, 0) _ rfl hh Try.underlying50 rfl (by kernel_rfl)) rfl ⟨rfl, Fr.alloc _ _ _⟩
theorem sp6 : spn [of 1 0, of 2 1, of 3 9, of 4 5, of 5 4, of 6 5] = [of 1 0, of 2 1, of 3 9, of 4 5, of 5 4, of 6 5] := by decide +kernel
theorem pl6 : plcs (spn [of 1 0, of 2 1, of 3 9, of 4 5, of 5 4, of 6 5]) = [⟨1, 1, 1, 1, 1, 1⟩, ⟨1, 2, 1, 2, 1, 0⟩, ⟨1, 3, 2, 1, 3, 0⟩, ⟨1, 4, 3, 0, 0, 1⟩, ⟨1, 5, 3, 0, 0, 2⟩, ⟨1, 6, 3, 0, 0, 0⟩] := by rw [sp6]; decide +kernel
theorem on2 : onP (spn [of 1 0, of 2 1, of 3 9, of 4 5, of 5 4, of 6 5]) 1 2 = ⟨1, 2, 1, 2, 1, 0⟩ := by rw [sp6]; decide +kernel
theorem is2 : (nx (spn [of 1 0, of 2 1, of 3 9, of 4 5, of 5 4, of 6 5]) 1 2).isSome = true := by rw [sp6]; decide +kernel
theorem on9 : onP (spn [of 1 0, of 2 1, of 3 9, of 4 5, of 5 4, of 6 5]) 1 9 = ⟨0, 0, 0, 0, 0, 0⟩ := by rw [sp6]; decide +kernel
theorem is9 : (nx (spn [of 1 0, of 2 1, of 3 9, of 4 5, of 5 4, of 6 5]) 1 9).isSome = false := by rw [sp6]; decide +kernel
theorem ch6 : ids (wy (spn [of 1 0, of 2 1, of 3 9, of 4 5, of 5 4, of 6 5]) 1 6) = [6, 5, 4] := by rw [sp6]; decide +kernel
set_option maxRecDepth 100000 in
set_option maxHeartbeats 4000000 in
theorem awake (w : World) : Calls Try.prog 27 #[] w fun e w' => e = .returned (.bool true) ∧ Below w.heap.size w w' := by
  have F1 := Lib.hid (of_ 1 0)
  have K1 := of_ok 1 0 (by decide) (by decide)
  have F2 := Lib.hid (of_ 2 1)
  have K2 := of_ok 2 1 (by decide) (by decide)
  have F3 := Lib.hid (of_ 3 9)
  have K3 := of_ok 3 9 (by decide) (by decide)
  have F4 := Lib.hid (of_ 4 5)
  have K4 := of_ok 4 5 (by decide) (by decide)
  have F5 := Lib.hid (of_ 5 4)
  have K5 := of_ok 5 4 (by decide) (by decide)
  have F6 := Lib.hid (of_ 6 5)
  have K6 := of_ok 6 5 (by decide) (by decide)
  have P6 := Lib.hid pl6; have O2 := Lib.hid on2; have I2 := Lib.hid is2; have O9 := Lib.hid on9; have I9 := Lib.hid is9; have C6 := Lib.hid ch6
  generalize of 1 0 = x1 at *
  generalize of 2 1 = x2 at *
  generalize of 3 9 = x3 at *
  generalize of 4 5 = x4 at *
  generalize of 5 4 = x5 at *
  generalize of 6 5 = x6 at *
  have HOk : Hid (∀ x ∈ [x1, x2, x3, x4, x5, x6], x.ok) := by
    intro x hx
    simp only [List.mem_cons, List.not_mem_nil, or_false] at hx
    rcases hx with rfl | rfl | rfl | rfl | rfl | rfl <;> assumption
  clear K1 K2 K3 K4 K5 K6
  have HB := Lib.hid (Below.refl w.heap.size w)
  go_enter Try.func27, Try.ntmps27
  go_wp2_with fail
  refine (F1.out w).mono ?_
  rintro e w1 ⟨rfl, hf⟩
  have hb := hf.below (Nat.le_refl _) (fun _ _ h => h)
  clear hf
  replace HB := Lib.hid (HB.out.trans (hb.mono HB.out.size))
  clear hb
  go_wp2_with fail
  refine (F2.out w1).mono ?_
  rintro e w2 ⟨rfl, hf⟩
  have hb := hf.below (Nat.le_refl _) (fun _ _ h => h)
  clear hf
  replace HB := Lib.hid (HB.out.trans (hb.mono HB.out.size))
  clear hb
  go_wp2_with fail
  refine (F3.out w2).mono ?_
  rintro e w3 ⟨rfl, hf⟩
  have hb := hf.below (Nat.le_refl _) (fun _ _ h => h)
  clear hf
  replace HB := Lib.hid (HB.out.trans (hb.mono HB.out.size))
  clear hb
  go_wp2_with fail
  refine (F4.out w3).mono ?_
  rintro e w4 ⟨rfl, hf⟩
  have hb := hf.below (Nat.le_refl _) (fun _ _ h => h)
  clear hf
  replace HB := Lib.hid (HB.out.trans (hb.mono HB.out.size))
  clear hb
  go_wp2_with fail
  refine (F5.out w4).mono ?_
  rintro e w5 ⟨rfl, hf⟩
  have hb := hf.below (Nat.le_refl _) (fun _ _ h => h)
  clear hf
  replace HB := Lib.hid (HB.out.trans (hb.mono HB.out.size))
  clear hb
  go_wp2_with fail
  refine (F6.out w5).mono ?_
  rintro e w6 ⟨rfl, hf⟩
  have hb := hf.below (Nat.le_refl _) (fun _ _ h => h)
  clear hf
  replace HB := Lib.hid (HB.out.trans (hb.mono HB.out.size))
  clear hb
  go_wp2_with fail
  have hb := (Below.refl w6.heap.size w6).alloc (Nat.le_refl _) (.cells #[.int .i64 x1.t, .int .i64 x1.i, .int .i64 x1.p, .int .i64 x1.r, .string x1.s, .string x1.o, .int .i64 x1.b, .int .i64 x1.d, .bool x1.g, .int .i64 x2.t, .int .i64 x2.i, .int .i64 x2.p, .int .i64 x2.r, .string x2.s, .string x2.o, .int .i64 x2.b, .int .i64 x2.d, .bool x2.g, .int .i64 x3.t, .int .i64 x3.i, .int .i64 x3.p, .int .i64 x3.r, .string x3.s, .string x3.o, .int .i64 x3.b, .int .i64 x3.d, .bool x3.g, .int .i64 x4.t, .int .i64 x4.i, .int .i64 x4.p, .int .i64 x4.r, .string x4.s, .string x4.o, .int .i64 x4.b, .int .i64 x4.d, .bool x4.g, .int .i64 x5.t, .int .i64 x5.i, .int .i64 x5.p, .int .i64 x5.r, .string x5.s, .string x5.o, .int .i64 x5.b, .int .i64 x5.d, .bool x5.g, .int .i64 x6.t, .int .i64 x6.i, .int .i64 x6.p, .int .i64 x6.r, .string x6.s, .string x6.o, .int .i64 x6.b, .int .i64 x6.d, .bool x6.g] TSn)
  have HA : Hid (Ls (w6.alloc (.cells #[.int .i64 x1.t, .int .i64 x1.i, .int .i64 x1.p, .int .i64 x1.r, .string x1.s, .string x1.o, .int .i64 x1.b, .int .i64 x1.d, .bool x1.g, .int .i64 x2.t, .int .i64 x2.i, .int .i64 x2.p, .int .i64 x2.r, .string x2.s, .string x2.o, .int .i64 x2.b, .int .i64 x2.d, .bool x2.g, .int .i64 x3.t, .int .i64 x3.i, .int .i64 x3.p, .int .i64 x3.r, .string x3.s, .string x3.o, .int .i64 x3.b, .int .i64 x3.d, .bool x3.g, .int .i64 x4.t, .int .i64 x4.i, .int .i64 x4.p, .int .i64 x4.r, .string x4.s, .string x4.o, .int .i64 x4.b, .int .i64 x4.d, .bool x4.g, .int .i64 x5.t, .int .i64 x5.i, .int .i64 x5.p, .int .i64 x5.r, .string x5.s, .string x5.o, .int .i64 x5.b, .int .i64 x5.d, .bool x5.g, .int .i64 x6.t, .int .i64 x6.i, .int .i64 x6.p, .int .i64 x6.r, .string x6.s, .string x6.o, .int .i64 x6.b, .int .i64 x6.d, .bool x6.g] TSn)) (some ⟨w6.heap.size, 0, none⟩) 6 [x1, x2, x3, x4, x5, x6]) := Lib.hid (Ls.lit w6 [x1, x2, x3, x4, x5, x6] #[.int .i64 x1.t, .int .i64 x1.i, .int .i64 x1.p, .int .i64 x1.r, .string x1.s, .string x1.o, .int .i64 x1.b, .int .i64 x1.d, .bool x1.g, .int .i64 x2.t, .int .i64 x2.i, .int .i64 x2.p, .int .i64 x2.r, .string x2.s, .string x2.o, .int .i64 x2.b, .int .i64 x2.d, .bool x2.g, .int .i64 x3.t, .int .i64 x3.i, .int .i64 x3.p, .int .i64 x3.r, .string x3.s, .string x3.o, .int .i64 x3.b, .int .i64 x3.d, .bool x3.g, .int .i64 x4.t, .int .i64 x4.i, .int .i64 x4.p, .int .i64 x4.r, .string x4.s, .string x4.o, .int .i64 x4.b, .int .i64 x4.d, .bool x4.g, .int .i64 x5.t, .int .i64 x5.i, .int .i64 x5.p, .int .i64 x5.r, .string x5.s, .string x5.o, .int .i64 x5.b, .int .i64 x5.d, .bool x5.g, .int .i64 x6.t, .int .i64 x6.i, .int .i64 x6.p, .int .i64 x6.r, .string x6.s, .string x6.o, .int .i64 x6.b, .int .i64 x6.d, .bool x6.g] rfl 6 rfl (by simp) HOk.out)
  generalize (w6.alloc (.cells #[.int .i64 x1.t, .int .i64 x1.i, .int .i64 x1.p, .int .i64 x1.r, .string x1.s, .string x1.o, .int .i64 x1.b, .int .i64 x1.d, .bool x1.g, .int .i64 x2.t, .int .i64 x2.i, .int .i64 x2.p, .int .i64 x2.r, .string x2.s, .string x2.o, .int .i64 x2.b, .int .i64 x2.d, .bool x2.g, .int .i64 x3.t, .int .i64 x3.i, .int .i64 x3.p, .int .i64 x3.r, .string x3.s, .string x3.o, .int .i64 x3.b, .int .i64 x3.d, .bool x3.g, .int .i64 x4.t, .int .i64 x4.i, .int .i64 x4.p, .int .i64 x4.r, .string x4.s, .string x4.o, .int .i64 x4.b, .int .i64 x4.d, .bool x4.g, .int .i64 x5.t, .int .i64 x5.i, .int .i64 x5.p, .int .i64 x5.r, .string x5.s, .string x5.o, .int .i64 x5.b, .int .i64 x5.d, .bool x5.g, .int .i64 x6.t, .int .i64 x6.i, .int .i64 x6.p, .int .i64 x6.r, .string x6.s, .string x6.o, .int .i64 x6.b, .int .i64 x6.d, .bool x6.g] TSn)) = w7 at *
  replace HB := Lib.hid (HB.out.trans (hb.mono HB.out.size))
  clear hb
  refine (OfE HA.out (by simp) [⟨1, 1, 1, 1, 1, 1⟩, ⟨1, 2, 1, 2, 1, 0⟩, ⟨1, 3, 2, 1, 3, 0⟩, ⟨1, 4, 3, 0, 0, 1⟩, ⟨1, 5, 3, 0, 0, 2⟩, ⟨1, 6, 3, 0, 0, 0⟩] P6.out 6 rfl).mono ?_
  rintro e w8 ⟨A1, c1, rfl, hls, hb⟩
  replace HA := Lib.hid (HA.out.below hb)
  replace HB := Lib.hid (HB.out.trans (hb.mono HB.out.size))
  clear hb
  have HP := Lib.hid hls
  clear hls
  go_wp2_with fail
  refine (OneE HA.out (by simp) (by decide) (by decide) ⟨1, 2, 1, 2, 1, 0⟩ O2.out true I2.out).mono ?_
  rintro e w9 ⟨rfl, hb⟩
  replace HA := Lib.hid (HA.out.below hb)
  replace HP := Lib.hid (HP.out.below hb)
  replace HB := Lib.hid (HB.out.trans (hb.mono HB.out.size))
  clear hb
  go_wp2_with fail
  have hb := (Below.refl w9.heap.size w9).alloc (Nat.le_refl _) (.cells #[.int .i64 1, .int .i64 2, .int .i64 1, .int .i64 2, .int .i64 1, .int .i64 0] TPl)
  have HQ : Hid (Pb (w9.alloc (.cells #[.int .i64 1, .int .i64 2, .int .i64 1, .int .i64 2, .int .i64 1, .int .i64 0] TPl)) w9.heap.size ⟨1, 2, 1, 2, 1, 0⟩) := ⟨Bk.new w9 (⟨1, 2, 1, 2, 1, 0⟩ : Pc).arr TPl⟩
  generalize (w9.alloc (.cells #[.int .i64 1, .int .i64 2, .int .i64 1, .int .i64 2, .int .i64 1, .int .i64 0] TPl)) = w10 at *
  replace HA := Lib.hid (HA.out.below hb)
  replace HP := Lib.hid (HP.out.below hb)
  replace HB := Lib.hid (HB.out.trans (hb.mono HB.out.size))
  clear hb
  go_wp2_with fail
  refine (OneE HA.out (by simp) (by decide) (by decide) ⟨0, 0, 0, 0, 0, 0⟩ O9.out false I9.out).mono ?_
  rintro e w11 ⟨rfl, hb⟩
  replace HA := Lib.hid (HA.out.below hb)
  replace HP := Lib.hid (HP.out.below hb)
  replace HQ := Lib.hid (HQ.out.below hb)
  replace HB := Lib.hid (HB.out.trans (hb.mono HB.out.size))
  clear hb
  go_wp2_with fail
  have hb := (Below.refl w11.heap.size w11).alloc (Nat.le_refl _) (.cells #[.int .i64 0, .int .i64 0, .int .i64 0, .int .i64 0, .int .i64 0, .int .i64 0] TPl)
  generalize (w11.alloc (.cells #[.int .i64 0, .int .i64 0, .int .i64 0, .int .i64 0, .int .i64 0, .int .i64 0] TPl)) = w12 at *
  replace HA := Lib.hid (HA.out.below hb)
  replace HP := Lib.hid (HP.out.below hb)
  replace HQ := Lib.hid (HQ.out.below hb)
  replace HB := Lib.hid (HB.out.trans (hb.mono HB.out.size))
  clear hb
  obtain ⟨b1, o1, rfl, hb1, c1'⟩ := HP.out.s.at (i := 0) (by omega) (by omega)
  have e0 : w12.cell? ⟨b1, o1, none⟩ = some (.int .i64 1) := c1' 0 _ rfl
  have e1 : w12.cell? ⟨b1, o1 + 1, none⟩ = some (.int .i64 1) := c1' 1 _ rfl
  have e2 : w12.cell? ⟨b1, o1 + 1 + 1, none⟩ = some (.int .i64 1) := c1' 2 _ rfl
  have e3 : w12.cell? ⟨b1, o1 + 1 + 1 + 1, none⟩ = some (.int .i64 1) := c1' 3 _ rfl
  have e4 : w12.cell? ⟨b1, o1 + 1 + 1 + 1 + 1, none⟩ = some (.int .i64 1) := c1' 4 _ rfl
  have e5 : w12.cell? ⟨b1, o1 + 1 + 1 + 1 + 1 + 1, none⟩ = some (.int .i64 1) := c1' 5 _ rfl
  have e14 : w12.cell? ⟨b1, o1 + 14, none⟩ = some (.int .i64 2) := c1' 14 _ rfl
  have e20 : w12.cell? ⟨b1, o1 + 20, none⟩ = some (.int .i64 3) := c1' 20 _ rfl
  have e29 : w12.cell? ⟨b1, o1 + 29, none⟩ = some (.int .i64 2) := c1' 29 _ rfl
  have e32 : w12.cell? ⟨b1, o1 + 32, none⟩ = some (.int .i64 3) := c1' 32 _ rfl
  have f0 : w12.cell? ⟨w9.heap.size, 0, none⟩ = some (.int .i64 1) := HQ.out.h.cell 0
  have f1 : w12.cell? ⟨w9.heap.size, 1, none⟩ = some (.int .i64 2) := HQ.out.h.cell 1
  have f2 : w12.cell? ⟨w9.heap.size, 2, none⟩ = some (.int .i64 1) := HQ.out.h.cell 2
  have f3 : w12.cell? ⟨w9.heap.size, 3, none⟩ = some (.int .i64 2) := HQ.out.h.cell 3
  have f4 : w12.cell? ⟨w9.heap.size, 4, none⟩ = some (.int .i64 1) := HQ.out.h.cell 4
  have f5 : w12.cell? ⟨w9.heap.size, 5, none⟩ = some (.int .i64 0) := HQ.out.h.cell 5
  have k1 : ∀ W : World, (Instr.build TPl #[(0, .int .i64 1), (1, .int .i64 1), (2, .int .i64 1), (3, .int .i64 1), (4, .int .i64 1), (5, .int .i64 1)]).run Try.prog W = .ok (.agg #[.int .i64 1, .int .i64 1, .int .i64 1, .int .i64 1, .int .i64 1, .int .i64 1]) W := fun W => by kernel_rfl
  have k1e : ∀ W : World, (binOp .eql TPl (.agg #[.int .i64 1, .int .i64 1, .int .i64 1, .int .i64 1, .int .i64 1, .int .i64 1]) (.agg #[.int .i64 1, .int .i64 1, .int .i64 1, .int .i64 1, .int .i64 1, .int .i64 1])).run Try.prog W = .ok (.bool true) W := fun W => (eql_pc 1 1 1 1 1 1 1 1 1 1 1 1 W).trans rfl
  have k2 : ∀ W : World, (Instr.build TPl #[(0, .int .i64 1), (1, .int .i64 2), (2, .int .i64 1), (3, .int .i64 2), (4, .int .i64 1)]).run Try.prog W = .ok (.agg #[.int .i64 1, .int .i64 2, .int .i64 1, .int .i64 2, .int .i64 1, .int .i64 0]) W := fun W => by kernel_rfl
  have k2e : ∀ W : World, (binOp .eql TPl (.agg #[.int .i64 1, .int .i64 2, .int .i64 1, .int .i64 2, .int .i64 1, .int .i64 0]) (.agg #[.int .i64 1, .int .i64 2, .int .i64 1, .int .i64 2, .int .i64 1, .int .i64 0])).run Try.prog W = .ok (.bool true) W := fun W => (eql_pc 1 2 1 2 1 0 1 2 1 2 1 0 W).trans rfl
  have i0 : ∀ W : World, (Instr.indexAt 52 (.slice (some ⟨b1, o1, none⟩) 6 c1) (.int .i64 0)).run Try.prog W = .ok (.pointer (some ⟨b1, o1, none⟩)) W := fun W => by kernel_rfl
  have i2 : ∀ W : World, (Instr.indexAt 52 (.slice (some ⟨b1, o1, none⟩) 6 c1) (.int .i64 2)).run Try.prog W = .ok (.pointer (some ⟨b1, o1 + 12, none⟩)) W := fun W => by kernel_rfl
  have i3 : ∀ W : World, (Instr.indexAt 52 (.slice (some ⟨b1, o1, none⟩) 6 c1) (.int .i64 3)).run Try.prog W = .ok (.pointer (some ⟨b1, o1 + 18, none⟩)) W := fun W => by kernel_rfl
  have i4 : ∀ W : World, (Instr.indexAt 52 (.slice (some ⟨b1, o1, none⟩) 6 c1) (.int .i64 4)).run Try.prog W = .ok (.pointer (some ⟨b1, o1 + 24, none⟩)) W := fun W => by kernel_rfl
  have i5 : ∀ W : World, (Instr.indexAt 52 (.slice (some ⟨b1, o1, none⟩) 6 c1) (.int .i64 5)).run Try.prog W = .ok (.pointer (some ⟨b1, o1 + 30, none⟩)) W := fun W => by kernel_rfl
  clear c1' hb1
  go_wp2_with fail
  go_simp
  go_wp2_with fail
  refine (ChainE HA.out (by simp) (by decide) (by decide) [6, 5, 4] C6.out 3 rfl).mono ?_
  rintro e w13 ⟨A5, c5, rfl, hls, hb⟩
  replace HA := Lib.hid (HA.out.below hb)
  replace HB := Lib.hid (HB.out.trans (hb.mono HB.out.size))
  clear hb
  have HC := Lib.hid hls
  clear hls
  go_wp2_with fail
  have hb := (Below.refl w13.heap.size w13).alloc (Nat.le_refl _) (.cells #[.int .i64 6, .int .i64 5, .int .i64 4] TI)
  have HI : Hid (Il (w13.alloc (.cells #[.int .i64 6, .int .i64 5, .int .i64 4] TI)) (some ⟨w13.heap.size, 0, none⟩) 3 3 [6, 5, 4]) := Lib.hid (Il.lit w13 [6, 5, 4] #[.int .i64 6, .int .i64 5, .int .i64 4] rfl 3 rfl (by simp))
  generalize (w13.alloc (.cells #[.int .i64 6, .int .i64 5, .int .i64 4] TI)) = w14 at *
  replace HA := Lib.hid (HA.out.below hb)
  replace HC := Lib.hid (HC.out.below hb)
  replace HB := Lib.hid (HB.out.trans (hb.mono HB.out.size))
  clear hb
  refine (SameI HC.out HI.out).mono ?_
  rintro e w15 ⟨rfl, hf⟩
  have hb := hf.below (Nat.le_refl _) (fun _ _ h => h)
  clear hf
  replace HA := Lib.hid (HA.out.below hb)
  replace HC := Lib.hid (HC.out.below hb)
  replace HI := Lib.hid (HI.out.below hb)
  replace HB := Lib.hid (HB.out.trans (hb.mono HB.out.size))
  clear hb
  go_wp2_with fail
  go_ret
  exact ⟨rfl, HB.out⟩
end Law21
end Go.Proofs.Ytmcghchhegfilaa
