/- Layer 47's statements: SeriesWider: for every input the answer is true. -/
import Derived.Test.YtgfjpnpbkkadpaaLaw47
import Derived.Test.YtgfjpnpbkkadpaaSerG
namespace Go.Proofs.Ytgfjpnpbkkadpaa
open Go.RowKit
namespace Law47
open KeyP PackP SetP SetW SetF BagP Bag Mk Delta ClsW Ser
attribute [local go_sem] Eng.ev Eng.getO_cons Eng.getO_nil
theorem spn_b {L : List Sn} {x : Sn} (hx : x ∈ spn L) : ∃ y ∈ L, x.b = y.b := by
  have h1 := ((isSet L).mem x).1 (List.mem_filter.1 hx).1
  obtain ⟨⟨y, hy, -, rfl⟩, -⟩ := h1
  exact ⟨y, hy, rfl⟩
theorem few_len {L : List Sn} {n : Nat} (h : fewB L n = true) : L.length ≤ n := by unfold fewB at h; simp at h; exact h.2
abbrev web : ByteArray := ⟨#[119, 101, 98]⟩
abbrev get : ByteArray := ⟨#[103, 101, 116]⟩
abbrev TB2 : TypeId := 23
/-- The two numbers' box. -/
structure BX (w0 w : World) (B : Nat) (p q : Int) : Prop where
  b : Bk w B #[.int .u32 p, .int .u32 q] TB2
  f : Fr (fun _ => False) w0 w
theorem BX.below {w0 w w' : World} {B : Nat} {p q : Int} (H : BX w0 w B p q) (hb : Below w.heap.size w w') : BX w0 w' B p q := ⟨H.b.fr (Fr.of_below' hb (fun _ => False)) (fun _ _ h => h), H.f.trans (Fr.of_below' hb (fun _ => False)) (fun _ _ h => h) (fun _ _ h => h)⟩
theorem BX.fr {w0 w w' : World} {B : Nat} {p q : Int} (H : BX w0 w B p q) (hf : Fr (fun _ => False) w w') : BX w0 w' B p q := ⟨H.b.fr hf (fun _ _ h => h), H.f.trans hf (fun _ _ h => h) (fun _ _ h => h)⟩
set_option maxRecDepth 100000 in
set_option maxHeartbeats 400000 in
theorem sw3 {ops : Array Oper} (hops : Eng.fnOps Try.f3 3 = ops) (a0 : Act) (Q : Exit → Act → World → Prop) (w0 w : World) (B : Nat) (p q : Int) (hp : 0 ≤ p ∧ p < 4294967296) (hq : 0 ≤ q ∧ q < 4294967296) (hst : BX w0 w B p q)
    (hn : a0.tmps.size = 109) (h_4 : a0.tmps.getD 4 undef = .pointer (some ⟨B, 0, none⟩))
    (hpost : ∀ (x : Nat → Value) (w' : World), x 7 = .int .i64 (1 + p % 1048576) → x 8 = .int .i64 (1 + q % 100) → BX w0 w' B p q → Q .normal (Eng.setAll a0 [7, 8, 19, 20, 21, 22, 23, 24, 25, 26, 27, 28] x) w') :
    (Code.region 3 ops true).wp Try.prog Q a0 w := by
  simp only [Eng.fnOps, Eng.regOps, Try.f3, Option.bind_some, Option.getD_some, Nat.reduceEqDiff, ↓reduceIte, Nat.reduceBEq] at hops
  subst hops
  have e1 : p.tmod 1048576 = p % 1048576 := Int.tmod_eq_emod_of_nonneg hp.1
  have e2 : IntKind.i64.wrap (p % 1048576) = p % 1048576 := by rw [IntKind.wrap_i64]; omega
  have e3 : IntKind.i64.wrap (1 + p % 1048576) = 1 + p % 1048576 := by rw [IntKind.wrap_i64]; omega
  have e4 : q.tmod 100 = q % 100 := Int.tmod_eq_emod_of_nonneg hq.1
  have e5 : IntKind.i64.wrap (q % 100) = q % 100 := by rw [IntKind.wrap_i64]; omega
  have e6 : IntKind.i64.wrap (1 + q % 100) = 1 + q % 100 := by rw [IntKind.wrap_i64]; omega
  have HSt := Lib.hid (hst.fr (Fr.drew _ _))
  have hSS : w.drew.cell? ⟨B, 0, none⟩ = some (.int .u32 p) ∧ w.drew.cell? ⟨B, 1, none⟩ = some (.int .u32 q) := ⟨HSt.out.b.cell 0, HSt.out.b.cell 1⟩
  refine Eng.regionN [(0, true), (1, true), (2, true), (3, true), (4, true), (5, true), (6, true), (7, true), (8, true), (9, true), (10, true), (11, true)] (fun w' => w'.cell? ⟨B, 0, none⟩ = some (.int .u32 p) ∧ w'.cell? ⟨B, 1, none⟩ = some (.int .u32 q)) (by kernel_rfl) 109 hn (by kernel_rfl) rfl (by kernel_rfl) (hSS) (fun a b ha hb => ?_)
  subst ha
  have hb4 : b 4 = .pointer (some ⟨B, 0, none⟩) := (hb 4).symm.trans h_4
  clear hb h_4
  have HP := Lib.hid hpost; have HN := Lib.hid hn
  clear hpost hn
  refine Eng.Sch.take (v := ?_) rfl rfl (by decide) (by kernel_rfl) (fun w hw => ?_) ?_
  rotate_left
  · (try dsimp only at hw); go_simp; first | done | with_reducible rfl
  refine Eng.Sch.take (v := ?_) rfl rfl (by decide) (by kernel_rfl) (fun w hw => ?_) ?_
  rotate_left
  · (try dsimp only at hw); go_simp; first | done | with_reducible rfl
  refine Eng.Sch.take (v := ?_) rfl rfl (by decide) (by kernel_rfl) (fun w hw => ?_) ?_
  rotate_left
  · (try dsimp only at hw); go_simp; first | done | with_reducible rfl
  refine Eng.Sch.take (v := ?_) rfl rfl (by decide) (by kernel_rfl) (fun w hw => ?_) ?_
  rotate_left
  · (try dsimp only at hw); go_simp; first | done | with_reducible rfl
  refine Eng.Sch.take (v := ?_) rfl rfl (by decide) (by kernel_rfl) (fun w hw => ?_) ?_
  rotate_left
  · (try dsimp only at hw); go_simp; first | done | with_reducible rfl
  refine Eng.Sch.take (v := ?_) rfl rfl (by decide) (by kernel_rfl) (fun w hw => ?_) ?_
  rotate_left
  · (try dsimp only at hw); go_simp; first | done | with_reducible rfl
  refine Eng.Sch.take (v := ?_) rfl rfl (by decide) (by kernel_rfl) (fun w hw => ?_) ?_
  rotate_left
  · (try dsimp only at hw); go_simp; first | done | with_reducible rfl
  refine Eng.Sch.take (v := ?_) rfl rfl (by decide) (by kernel_rfl) (fun w hw => ?_) ?_
  rotate_left
  · (try dsimp only at hw); go_simp; first | done | with_reducible rfl
  refine Eng.Sch.take (v := ?_) rfl rfl (by decide) (by kernel_rfl) (fun w hw => ?_) ?_
  rotate_left
  · (try dsimp only at hw); go_simp; first | done | with_reducible rfl
  refine Eng.Sch.take (v := ?_) rfl rfl (by decide) (by kernel_rfl) (fun w hw => ?_) ?_
  rotate_left
  · (try dsimp only at hw); go_simp; first | done | with_reducible rfl
  refine Eng.Sch.take (v := ?_) rfl rfl (by decide) (by kernel_rfl) (fun w hw => ?_) ?_
  rotate_left
  · (try dsimp only at hw); go_simp; first | done | with_reducible rfl
  refine Eng.Sch.take (v := ?_) rfl rfl (by decide) (by kernel_rfl) (fun w hw => ?_) ?_
  rotate_left
  · (try dsimp only at hw); go_simp; first | done | with_reducible rfl
  refine Eng.Sch.end_ [7, 8, 19, 20, 21, 22, 23, 24, 25, 26, 27, 28] HN.out (by kernel_rfl) (by kernel_rfl) ?_
  exact HP.out _ _ rfl rfl HSt.out

theorem cell_lt {w : World} {b o : Nat} {v : Value} (h : w.cell? ⟨b, o, none⟩ = some v) : b < w.heap.size := by
  simp only [World.cell?] at h
  rcases Nat.lt_or_ge b w.heap.size with h1 | h1
  · exact h1
  · rw [Array.getElem?_eq_none h1] at h; cases h
theorem cell_keep {w w' : World} {b o : Nat} {v : Value} (h : w.cell? ⟨b, o, none⟩ = some v) (hf : Fr (fun _ => False) w w') : w'.cell? ⟨b, o, none⟩ = some v := by
  rw [← h]
  simp only [World.cell?]
  rw [hf.block b (cell_lt h) (fun h => h)]
structure CQ (w0 w : World) (b o b' o' : Nat) (x y : Int) : Prop where
  h1 : w.cell? ⟨b, o, none⟩ = some (.int .i64 x)
  h2 : w.cell? ⟨b', o', none⟩ = some (.int .i64 y)
  f : Fr (fun _ => False) w0 w
theorem CQ.fr {w0 w w' : World} {b o b' o' : Nat} {x y : Int} (H : CQ w0 w b o b' o' x y) (hf : Fr (fun _ => False) w w') : CQ w0 w' b o b' o' x y := ⟨cell_keep H.h1 hf, cell_keep H.h2 hf, H.f.trans hf (fun _ _ h => h) (fun _ _ h => h)⟩
set_option maxRecDepth 100000 in
set_option maxHeartbeats 400000 in
theorem sw15 {ops : Array Oper} (hops : Eng.fnOps Try.f3 15 = ops) (a0 : Act) (Q : Exit → Act → World → Prop) (w0 w : World) (b1 o1 len c b2 o2 len2 c2 k i : Nat) (T z y s : Int) (hst : CQ w0 w b1 (o1 + k * 2) b2 (o2 + i * 2) z y) (hk : k < len) (hi : i < len2) (hlen : len ≤ 9223372036854775807) (hlen2 : len2 ≤ 9223372036854775807) (hz : in64 z) (hs : slot z T = s)
    (hn : a0.tmps.size = 109) (h_8 : a0.tmps.getD 8 undef = .int .i64 T) (h_10 : a0.tmps.getD 10 undef = .slice (some ⟨b1, o1, none⟩) len c) (h_11 : a0.tmps.getD 11 undef = .slice (some ⟨b2, o2, none⟩) len2 c2) (h_12 : a0.tmps.getD 12 undef = .int .i64 (i : Int)) (h_14 : a0.tmps.getD 14 undef = .int .i64 (k : Int))
    (hpost : ∀ (x : Nat → Value) (w' : World), x 93 = .bool (s == y) → CQ w0 w' b1 (o1 + k * 2) b2 (o2 + i * 2) z y → Q .normal (Eng.setAll a0 [81, 82, 83, 84, 85, 86, 87, 88, 89, 90, 91, 92, 93] x) w') :
    (Code.region 15 ops true).wp Try.prog Q a0 w := by
  simp only [Eng.fnOps, Eng.regOps, Try.f3, Option.bind_some, Option.getD_some, Nat.reduceEqDiff, ↓reduceIte, Nat.reduceBEq] at hops
  subst hops
  have q1 : (0 : Int) ≤ (k : Int) := by omega
  have q2 : (k : Int) < (len : Int) := by omega
  have q5 : (0 : Int) ≤ (i : Int) := by omega
  have q6 : (i : Int) < (len2 : Int) := by omega
  have HSt := Lib.hid (hst.fr (Fr.drew _ _))
  have hSS : w.drew.cell? ⟨b1, o1 + k * 2, none⟩ = some (.int .i64 z) ∧ w.drew.cell? ⟨b2, o2 + i * 2, none⟩ = some (.int .i64 y) := ⟨HSt.out.h1, HSt.out.h2⟩
  refine Eng.regionN [(0, true), (1, true), (2, true), (3, true), (4, true), (5, true), (7, true), (8, true), (9, true), (10, true), (11, true), (6, false), (12, true)] (fun w' => w'.cell? ⟨b1, o1 + k * 2, none⟩ = some (.int .i64 z) ∧ w'.cell? ⟨b2, o2 + i * 2, none⟩ = some (.int .i64 y)) (by kernel_rfl) 109 hn (by kernel_rfl) rfl (by kernel_rfl) (hSS) (fun a b ha hb => ?_)
  subst ha
  have hb8 : b 8 = .int .i64 T := (hb 8).symm.trans h_8
  have hb10 : b 10 = .slice (some ⟨b1, o1, none⟩) len c := (hb 10).symm.trans h_10
  have hb11 : b 11 = .slice (some ⟨b2, o2, none⟩) len2 c2 := (hb 11).symm.trans h_11
  have hb12 : b 12 = .int .i64 (i : Int) := (hb 12).symm.trans h_12
  have hb14 : b 14 = .int .i64 (k : Int) := (hb 14).symm.trans h_14
  clear hb h_8 h_10 h_11 h_12 h_14
  have HP := Lib.hid hpost; have HN := Lib.hid hn
  clear hpost hn
  refine Eng.Sch.take (v := ?_) rfl rfl (by decide) (by kernel_rfl) (fun w hw => ?_) ?_
  rotate_left
  · (try dsimp only at hw); go_simp; first | done | with_reducible rfl
  refine Eng.Sch.take (v := ?_) rfl rfl (by decide) (by kernel_rfl) (fun w hw => ?_) ?_
  rotate_left
  · (try dsimp only at hw); go_simp; first | done | with_reducible rfl
  refine Eng.Sch.take (v := ?_) rfl rfl (by decide) (by kernel_rfl) (fun w hw => ?_) ?_
  rotate_left
  · (try dsimp only at hw); go_simp; first | done | with_reducible rfl
  refine Eng.Sch.take (v := ?_) rfl rfl (by decide) (by kernel_rfl) (fun w hw => ?_) ?_
  rotate_left
  · (try dsimp only at hw); go_simp; first | done | with_reducible rfl
  refine Eng.Sch.take (v := ?_) rfl rfl (by decide) (by kernel_rfl) (fun w hw => ?_) ?_
  rotate_left
  · (try dsimp only at hw); go_simp; first | done | with_reducible rfl
  refine Eng.Sch.take (v := ?_) rfl rfl (by decide) (by kernel_rfl) (fun w hw => ?_) ?_
  rotate_left
  · (try dsimp only at hw); go_simp; first | done | with_reducible rfl
  refine Eng.Sch.take (v := ?_) rfl rfl (by decide) (by kernel_rfl) (fun w hw => ?_) ?_
  rotate_left
  · (try dsimp only at hw); go_simp; first | done | with_reducible rfl
  refine Eng.Sch.take (v := ?_) rfl rfl (by decide) (by kernel_rfl) (fun w hw => ?_) ?_
  rotate_left
  · (try dsimp only at hw); go_simp; first | done | with_reducible rfl
  refine Eng.Sch.take (v := ?_) rfl rfl (by decide) (by kernel_rfl) (fun w hw => ?_) ?_
  rotate_left
  · (try dsimp only at hw); go_simp; first | done | with_reducible rfl
  refine Eng.Sch.take (v := ?_) rfl rfl (by decide) (by kernel_rfl) (fun w hw => ?_) ?_
  rotate_left
  · (try dsimp only at hw); go_simp; first | done | with_reducible rfl
  refine Eng.Sch.take (v := ?_) rfl rfl (by decide) (by kernel_rfl) (fun w hw => ?_) ?_
  rotate_left
  · (try dsimp only at hw); go_simp; first | done | with_reducible rfl
  refine Eng.Sch.call rfl rfl (by decide) (by kernel_rfl) ?_ (SlotE z T s _ hz hs) ?_
  · go_simp
  rintro e w2 ⟨rfl, hf⟩
  have HSt1 := Lib.hid (HSt.out.fr hf)
  have hSS : w2.cell? ⟨b1, o1 + k * 2, none⟩ = some (.int .i64 z) ∧ w2.cell? ⟨b2, o2 + i * 2, none⟩ = some (.int .i64 y) := ⟨HSt1.out.h1, HSt1.out.h2⟩
  refine ⟨_, rfl, hSS, ?_⟩
  refine Eng.Sch.take (v := ?_) rfl rfl (by decide) (by kernel_rfl) (fun w hw => ?_) ?_
  rotate_left
  · (try dsimp only at hw); go_simp; first | done | with_reducible rfl
  refine Eng.Sch.end_ [81, 82, 83, 84, 85, 86, 87, 88, 89, 90, 91, 92, 93] HN.out (by kernel_rfl) (by kernel_rfl) ?_
  exact HP.out _ _ rfl HSt1.out

set_option maxRecDepth 100000 in
set_option maxHeartbeats 8000000 in
theorem wider_ (a : Int) (p q : Int) (A0 : Option Addr) (c0 : Nat) (l : List Sn) (w : World) (ha : in64 a) (hp : 0 ≤ p ∧ p < 4294967296) (hq : 0 ≤ q ∧ q < 4294967296) (hS : Ls w A0 c0 l) :
    Calls Try.prog 3 #[.int .i64 a, .agg #[.int .u32 p, .int .u32 q], .slice A0 l.length c0] w fun e w' => e = .returned (.bool true) ∧ Below w.heap.size w w' := by
  have hf := Fr.alloc (fun _ => False) w (.cells #[.int .u32 p, .int .u32 q] TB2)
  have HA := Lib.hid (hS.keep hf)
  have HX := Lib.hid (Bk.new w #[.int .u32 p, .int .u32 q] TB2)
  have HB := Lib.hid (hf.below (Nat.le_refl _) (fun _ _ h => h))
  have Ha := Lib.hid ha; have Hp := Lib.hid hp; have Hq := Lib.hid hq
  clear hf hS ha hp hq
  go_enter Try.func3, Try.ntmps3
  go_upto_region 1 with (fail)
  generalize (w.alloc (.cells #[.int .u32 p, .int .u32 q] TB2)) = w0 at *
  have HX : Hid (BX w0 w0 w.heap.size p q) := ⟨HX.out, Fr.refl _ _⟩
  generalize w.heap.size = Bx at HX ⊢
  go_wp2_with fail
  refine (SetF.Few A0 c0 20 l w0 HA.out.s).mono ?_
  rintro e w1 ⟨rfl, hf⟩
  have hb := hf.below (Nat.le_refl _) (fun _ _ h => h)
  clear hf
  replace HA := Lib.hid (HA.out.below hb)
  replace HX := Lib.hid (HX.out.below hb)
  replace HB := Lib.hid (HB.out.trans (hb.mono HB.out.size))
  clear hb
  cases hq : fewB l 20 with
  | false =>
    go_wp2_with fail
    refine (awake w1).mono ?_
    rintro e w2 ⟨rfl, hb⟩
    replace HA := Lib.hid (HA.out.below hb)
    replace HX := Lib.hid (HX.out.below hb)
    replace HB := Lib.hid (HB.out.trans (hb.mono HB.out.size))
    clear hb
    go_wp2_with fail
    go_ret
    exact ⟨rfl, HB.out⟩
  | true =>
    have hq_l := few_len hq
    clear hq
    go_upto_region 3 with (fail)
    refine sw3 (by kernel_rfl) _ _ w1 w1 Bx p q Hp.out Hq.out ⟨HX.out.b, Fr.refl _ _⟩ rfl rfl ?_
    intro x w2 h17 h18 hst
    simp only [Eng.setAll, Act.put, List.setIfInBounds_toArray, List.set_cons_succ, List.set_cons_zero]
    rw [h17, h18]
    have hb := hst.f.below (Nat.le_refl _) (fun _ _ h => h)
    clear h17 h18 hst
    have hpp := Hp.out; have hqq := Hq.out
    obtain ⟨W, hW⟩ : ∃ W, 1 + p % 1048576 = W := ⟨_, rfl⟩
    obtain ⟨T, hT⟩ : ∃ T, 1 + q % 100 = T := ⟨_, rfl⟩
    have hW1 : 1 ≤ W := by omega
    have hW2 : W ≤ 1048576 := by omega
    have hT1 : 1 ≤ T := by omega
    have hT2 : T ≤ 100 := by omega
    rw [hW, hT]
    clear hW hT hpp hqq
    have hV1 : 1 ≤ W * T := by have := Int.mul_le_mul hW1 hT1 (by omega) (by omega); omega
    have hV2 : W * T ≤ 104857600 := by have := Int.mul_le_mul hW2 hT2 (by omega) (by omega); omega
    have hss := slot_slot a hW1 hT1
    obtain ⟨V, hV⟩ : ∃ V, W * T = V := ⟨_, rfl⟩
    rw [hV] at hss hV1 hV2
    have m1 : wrap64 (W * T) = V := by rw [hV]; unfold wrap64; omega
    have m2 : IntKind.i64.wrap (W * T) = V := by rw [hV, IntKind.wrap_i64]; omega
    have HV := Lib.hid hV; have HSs := Lib.hid hss
    clear hV hss
    replace HA := Lib.hid (HA.out.below hb)
    replace HX := Lib.hid (HX.out.below hb)
    replace HB := Lib.hid (HB.out.trans (hb.mono HB.out.size))
    clear hb
    clear HX
    go_wp2_with fail
    refine (SlotE a W (slot a W) w2 Ha.out rfl).mono ?_
    rintro e w3 ⟨rfl, hf⟩
    have hb := hf.below (Nat.le_refl _) (fun _ _ h => h)
    clear hf
    replace HA := Lib.hid (HA.out.below hb)
    replace HB := Lib.hid (HB.out.trans (hb.mono HB.out.size))
    clear hb
    go_wp2_with fail
    refine (SlotE (slot a W) T (slot a V) w3 (slot64 W Ha.out) HSs.out).mono ?_
    rintro e w4 ⟨rfl, hf⟩
    have hb := hf.below (Nat.le_refl _) (fun _ _ h => h)
    clear hf
    replace HA := Lib.hid (HA.out.below hb)
    replace HB := Lib.hid (HB.out.trans (hb.mono HB.out.size))
    clear hb
    go_wp2_with fail
    refine (SlotE a V (slot a V) w4 Ha.out rfl).mono ?_
    rintro e w5 ⟨rfl, hf⟩
    have hb := hf.below (Nat.le_refl _) (fun _ _ h => h)
    clear hf
    replace HA := Lib.hid (HA.out.below hb)
    replace HB := Lib.hid (HB.out.trans (hb.mono HB.out.size))
    clear hb
    have HIn := Lib.hid (slot_in a hW1)
    have hs64 := Lib.hid (slot64 W Ha.out)
    have b0 : (slot a V != slot a V) = false := by simp
    have hu := fun (h1 : 0 ≤ a) (h2 : a < 1099511627776) => slot_range (a := a) (w := W) (n := 1099511627776) (by omega) h2 (by omega)
    have hu0 : 0 ≤ a → 0 ≤ slot a W := fun h => Int.ediv_nonneg h (by omega)
    generalize slot a W = u at *
    generalize slot a V = v at *
    have hsl : (spn l).length ≤ 20 := Nat.le_trans (Nat.le_trans (alive_len _) (setOf_len l)) hq_l
    have hin : ∀ x ∈ spn l, in64 x.b := fun x hx => by
      obtain ⟨y, hy, hyx⟩ := spn_b hx
      rw [hyx]; exact (HA.out.ok y hy).b
    have HWS := Lib.hid (fun (i : Nat) (hi : i < (cts ((spn l).map (pr (W * T))) (web, get)).length) => wide_sum (spn l) (by omega) hW1 hT1 (web, get) hi)
    have HCI := Lib.hid (cts_in (spn l) (by omega) W hin (web, get))
    have HPo := Lib.hid (cts_pos (spn l) W (by omega) web get)
    have hXs := cts_sum (spn l) W (by omega) web get
    have hnl := nm_len (spn l) web get
    have hXl := cts_len ((spn l).map (pr W)) (by rw [List.length_map]; omega) (web, get)
    have hYl := cts_len ((spn l).map (pr V)) (by rw [List.length_map]; omega) (web, get)
    rw [List.length_map] at hXl hYl
    rw [HV.out] at HWS
    obtain ⟨X, hX⟩ : ∃ X, cts ((spn l).map (pr W)) (web, get) = X := ⟨_, rfl⟩
    obtain ⟨Y, hY⟩ : ∃ Y, cts ((spn l).map (pr V)) (web, get) = Y := ⟨_, rfl⟩
    rw [hX] at HCI HPo hXs hXl
    rw [hY] at hYl
    have HWS : Hid (∀ (i : Nat) (hi : i < Y.length), sumQ (fun x => decide (slot x T = Y[i].1)) X = Y[i].2) := by subst hX; subst hY; exact fun i hi => HWS.out i hi
    have HXe := Lib.hid hX; have HYe := Lib.hid hY; have HXs := Lib.hid hXs
    have hokn : Ser.okN (web, get) := ⟨by show 3 ≤ maxLen; unfold maxLen; omega, by show 3 ≤ maxLen; unfold maxLen; omega⟩
    clear hX hY hXs hin
    cases hz : (a / 1099511627776 == 0) with
    | false =>
      go_wp2_with fail
      refine (Of W web get A0 c0 l w5 HA.out (by omega) hokn X HXe.out X.length rfl).mono ?_
      rintro e w6 ⟨A5, c5, rfl, hcl, hb⟩
      replace HA := Lib.hid (HA.out.below hb)
      replace HB := Lib.hid (HB.out.trans (hb.mono HB.out.size))
      clear hb
      have HN := Lib.hid hcl
      clear hcl
      go_wp2_with fail
      refine (Of V web get A0 c0 l w6 HA.out (by omega) hokn Y HYe.out Y.length rfl).mono ?_
      rintro e w7 ⟨A6, c6, rfl, hcl, hb⟩
      replace HA := Lib.hid (HA.out.below hb)
      replace HN := Lib.hid (HN.out.below hb)
      replace HB := Lib.hid (HB.out.trans (hb.mono HB.out.size))
      clear hb
      have HWd := Lib.hid hcl
      clear hcl
      have hX64 : X.length ≤ 9223372036854775807 := by omega
      have hY64 : Y.length ≤ 9223372036854775807 := by omega
      go_wp2_with fail
      go_loopg [12] Y.length (fun gk n wr => ∃ i : Nat, n = .int .i64 i ∧ i ≤ Y.length ∧ gk = Y.length - i ∧ Fr (fun _ => False) w7 wr)
      case atStart => exact ⟨0, rfl, Nat.zero_le _, rfl, Fr.refl _ _⟩
      case round =>
        obtain ⟨i, rfl, hi, hg, hf⟩ := hrel
        obtain ⟨wo, hwo⟩ : ∃ wo, wo = wr := ⟨_, rfl⟩
        subst hwo
        have HG := Lib.hid hg; have HF := Lib.hid hf
        have hb := hf.below (Nat.le_refl _) (fun _ _ h => h)
        clear hg hf
        replace HN := Lib.hid (HN.out.below hb); replace HWd := Lib.hid (HWd.out.below hb)
        replace HB := Lib.hid (HB.out.trans (hb.mono HB.out.size))
        clear hb
        by_cases hlt : i < Y.length
        · obtain ⟨b2, o2, rfl, hb2, c2'⟩ := HWd.out.s.at hlt (by omega)
          have d1 : wo.cell? ⟨b2, o2 + i * 2, none⟩ = some (.int .i64 Y[i].1) := c2' (i * 2) _ (by rw [← Nat.add_zero (i * 2), flat_at pc_len hlt (by omega)]; rfl)
          have d2 : wo.cell? ⟨b2, o2 + i * 2 + 1, none⟩ = some (.int .i64 Y[i].2) := c2' (i * 2 + 1) _ (by rw [flat_at pc_len hlt (by omega)]; rfl)
          have HS := Lib.hid (HWS.out i hlt)
          have D1 := Lib.hid d1; have D2 := Lib.hid d2
          clear c2' hb2 d1 d2
          generalize Y[i] = y at *
          obtain ⟨y1, y2⟩ := y
          dsimp only at HS D1 D2
          have q1 : (0 : Int) ≤ (i : Int) := by omega
          have q2 : decide ((i : Int) < (Y.length : Int)) = true := by simp; omega
          have q3 : (i : Int) < (Y.length : Int) := by omega
          go_wp2_with fail
          go_loopg [13, 14] X.length (fun gk s n wr => ∃ k : Nat, n = .int .i64 k ∧ s = .int .i64 (sumQ (fun x => decide (slot x T = y1)) (X.take k)) ∧ k ≤ X.length ∧ gk = X.length - k ∧ Fr (fun _ => False) wo wr)
          case atStart => exact ⟨0, rfl, rfl, Nat.zero_le _, rfl, Fr.refl _ _⟩
          case round =>
            obtain ⟨k, rfl, rfl, hk, hg, hf⟩ := hrel
            have HG2 := Lib.hid hg; have HF2 := Lib.hid hf
            clear hg hf
            by_cases hlt2 : k < X.length
            · obtain ⟨b1, o1, rfl, hb1, c1'⟩ := HN.out.s.at hlt2 (by omega)
              have d1 : wo.cell? ⟨b1, o1 + k * 2, none⟩ = some (.int .i64 X[k].1) := c1' (k * 2) _ (by rw [← Nat.add_zero (k * 2), flat_at pc_len hlt2 (by omega)]; rfl)
              have d2 : wo.cell? ⟨b1, o1 + k * 2 + 1, none⟩ = some (.int .i64 X[k].2) := c1' (k * 2 + 1) _ (by rw [flat_at pc_len hlt2 (by omega)]; rfl)
              have E1 := Lib.hid d1; have E2 := Lib.hid d2
              have HTk := Lib.hid (sumQ_take (fun x => decide (slot x T = y1)) hlt2)
              have hp1 := sumQ_pre (fun x => decide (slot x T = y1)) HPo.out k
              have hp2 := sumQ_pre (fun x => decide (slot x T = y1)) HPo.out (k + 1)
              have hz64 := HCI.out _ (List.getElem_mem hlt2)
              clear c1' hb1 d1 d2
              generalize X[k] = z at *
              obtain ⟨z1, z2⟩ := z
              dsimp only at HTk E1 E2 hz64
              have q4 : decide ((k : Int) < (X.length : Int)) = true := by simp; omega
              go_upto_region 15 with (fail)
              refine sw15 (by kernel_rfl) _ _ wr wr b1 o1 _ c5 b2 o2 _ c6 k i T z1 y1 _ ⟨cell_keep E1.out HF2.out, cell_keep D1.out HF2.out, Fr.refl _ _⟩ hlt2 hlt hX64 hY64 hz64 rfl rfl rfl rfl rfl rfl rfl ?_
              intro x w20 h17 hst
              simp only [Eng.setAll, Act.put, List.setIfInBounds_toArray, List.set_cons_succ, List.set_cons_zero]
              rw [h17]
              have HF3 := Lib.hid (HF2.out.trans hst.f (fun _ _ h => h) (fun _ _ h => h))
              clear h17 hst
              cases hsy : (slot z1 T == y1) with
              | false =>
                have hne : sumQ (fun x => decide (slot x T = y1)) (X.take (k + 1)) = sumQ (fun x => decide (slot x T = y1)) (X.take k) := by
                  rw [HTk.out, decide_eq_false (show ¬ slot z1 T = y1 by simpa using hsy)]; simp
                go_wp2_with fail
                go_roundg (X.length - (k + 1))
                case rel => exact ⟨k + 1, by go_num, by rw [hne], by omega, rfl, HF3.out⟩
                case measure => have := HG2.out; omega
              | true =>
                have hne : sumQ (fun x => decide (slot x T = y1)) (X.take (k + 1)) = sumQ (fun x => decide (slot x T = y1)) (X.take k) + z2 := by
                  rw [HTk.out, decide_eq_true (show slot z1 T = y1 by simpa using hsy)]; simp
                have hxs := HXs.out
                have q8 : IntKind.i64.wrap (sumQ (fun x => decide (slot x T = y1)) (X.take k) + z2) = sumQ (fun x => decide (slot x T = y1)) (X.take (k + 1)) := by rw [← hne, IntKind.wrap_i64]; omega
                have e2 : w20.cell? ⟨b1, o1 + k * 2 + 1, none⟩ = some (.int .i64 z2) := cell_keep E2.out HF3.out
                have q5 : (0 : Int) ≤ (k : Int) := by omega
                have q6 : (k : Int) < (X.length : Int) := by omega
                clear hxs hp1 hp2 hne
                generalize sumQ (fun x => decide (slot x T = y1)) (X.take k) = s1 at *
                go_wp2_with fail
                go_roundg (X.length - (k + 1))
                case rel => exact ⟨k + 1, by go_num, rfl, by omega, rfl, HF3.out⟩
                case measure => have := HG2.out; omega
            · obtain rfl : k = X.length := by omega
              have q4 : decide ((X.length : Int) < (X.length : Int)) = false := by simp
              rw [List.take_length, HS.out]
              have e2 : wr.cell? ⟨b2, o2 + i * 2 + 1, none⟩ = some (.int .i64 y2) := cell_keep D2.out HF2.out
              have q5 : (y2 != y2) = false := by simp
              go_wp2_with fail
              go_roundg (Y.length - (i + 1))
              case rel => exact ⟨i + 1, by go_num, by omega, rfl, HF.out.trans HF2.out (fun _ _ h => h) (fun _ _ h => h)⟩
              case measure => have := HG.out; omega
        · obtain rfl : i = Y.length := by omega
          have q2 : decide ((Y.length : Int) < (Y.length : Int)) = false := by simp
          go_wp2_with fail
          refine (awake wo).mono ?_
          rintro e w8 ⟨rfl, hb⟩
          replace HB := Lib.hid (HB.out.trans (hb.mono HB.out.size))
          clear hb
          go_wp2_with fail
          go_ret
          exact ⟨rfl, HB.out⟩
    | true =>
      have hz' : a / 1099511627776 = 0 := by simpa using hz
      have ha0 : 0 ≤ a ∧ a < 1099511627776 := by omega
      obtain ⟨hu1, hu2⟩ := hu ha0.1 ha0.2
      have hu3 := hu0 ha0.1
      have hin := HIn.out
      have hm0 : 0 ≤ u * W := Int.mul_nonneg hu3 (by omega)
      have he : (u + 1) * W = u * W + W := by rw [Int.add_mul]; omega
      have m3 : wrap64 (u * W) = u * W := by unfold wrap64; omega
      have m4 : wrap64 (u + 1) = u + 1 := by unfold wrap64; omega
      have m5 : wrap64 ((u + 1) * W) = (u + 1) * W := by rw [he]; unfold wrap64; omega
      have t1 : decide (u * W > a) = false := by simp; omega
      have t2 : decide ((u + 1) * W ≤ a) = false := by simp; omega
      clear hz' ha0 hu1 hu2 hu3 hin hm0 he
      go_wp2_with fail
      refine (Of W web get A0 c0 l w5 HA.out (by omega) hokn X HXe.out X.length rfl).mono ?_
      rintro e w6 ⟨A5, c5, rfl, hcl, hb⟩
      replace HA := Lib.hid (HA.out.below hb)
      replace HB := Lib.hid (HB.out.trans (hb.mono HB.out.size))
      clear hb
      have HN := Lib.hid hcl
      clear hcl
      go_wp2_with fail
      refine (Of V web get A0 c0 l w6 HA.out (by omega) hokn Y HYe.out Y.length rfl).mono ?_
      rintro e w7 ⟨A6, c6, rfl, hcl, hb⟩
      replace HA := Lib.hid (HA.out.below hb)
      replace HN := Lib.hid (HN.out.below hb)
      replace HB := Lib.hid (HB.out.trans (hb.mono HB.out.size))
      clear hb
      have HWd := Lib.hid hcl
      clear hcl
      have hX64 : X.length ≤ 9223372036854775807 := by omega
      have hY64 : Y.length ≤ 9223372036854775807 := by omega
      go_wp2_with fail
      go_loopg [12] Y.length (fun gk n wr => ∃ i : Nat, n = .int .i64 i ∧ i ≤ Y.length ∧ gk = Y.length - i ∧ Fr (fun _ => False) w7 wr)
      case atStart => exact ⟨0, rfl, Nat.zero_le _, rfl, Fr.refl _ _⟩
      case round =>
        obtain ⟨i, rfl, hi, hg, hf⟩ := hrel
        obtain ⟨wo, hwo⟩ : ∃ wo, wo = wr := ⟨_, rfl⟩
        subst hwo
        have HG := Lib.hid hg; have HF := Lib.hid hf
        have hb := hf.below (Nat.le_refl _) (fun _ _ h => h)
        clear hg hf
        replace HN := Lib.hid (HN.out.below hb); replace HWd := Lib.hid (HWd.out.below hb)
        replace HB := Lib.hid (HB.out.trans (hb.mono HB.out.size))
        clear hb
        by_cases hlt : i < Y.length
        · obtain ⟨b2, o2, rfl, hb2, c2'⟩ := HWd.out.s.at hlt (by omega)
          have d1 : wo.cell? ⟨b2, o2 + i * 2, none⟩ = some (.int .i64 Y[i].1) := c2' (i * 2) _ (by rw [← Nat.add_zero (i * 2), flat_at pc_len hlt (by omega)]; rfl)
          have d2 : wo.cell? ⟨b2, o2 + i * 2 + 1, none⟩ = some (.int .i64 Y[i].2) := c2' (i * 2 + 1) _ (by rw [flat_at pc_len hlt (by omega)]; rfl)
          have HS := Lib.hid (HWS.out i hlt)
          have D1 := Lib.hid d1; have D2 := Lib.hid d2
          clear c2' hb2 d1 d2
          generalize Y[i] = y at *
          obtain ⟨y1, y2⟩ := y
          dsimp only at HS D1 D2
          have q1 : (0 : Int) ≤ (i : Int) := by omega
          have q2 : decide ((i : Int) < (Y.length : Int)) = true := by simp; omega
          have q3 : (i : Int) < (Y.length : Int) := by omega
          go_wp2_with fail
          go_loopg [13, 14] X.length (fun gk s n wr => ∃ k : Nat, n = .int .i64 k ∧ s = .int .i64 (sumQ (fun x => decide (slot x T = y1)) (X.take k)) ∧ k ≤ X.length ∧ gk = X.length - k ∧ Fr (fun _ => False) wo wr)
          case atStart => exact ⟨0, rfl, rfl, Nat.zero_le _, rfl, Fr.refl _ _⟩
          case round =>
            obtain ⟨k, rfl, rfl, hk, hg, hf⟩ := hrel
            have HG2 := Lib.hid hg; have HF2 := Lib.hid hf
            clear hg hf
            by_cases hlt2 : k < X.length
            · obtain ⟨b1, o1, rfl, hb1, c1'⟩ := HN.out.s.at hlt2 (by omega)
              have d1 : wo.cell? ⟨b1, o1 + k * 2, none⟩ = some (.int .i64 X[k].1) := c1' (k * 2) _ (by rw [← Nat.add_zero (k * 2), flat_at pc_len hlt2 (by omega)]; rfl)
              have d2 : wo.cell? ⟨b1, o1 + k * 2 + 1, none⟩ = some (.int .i64 X[k].2) := c1' (k * 2 + 1) _ (by rw [flat_at pc_len hlt2 (by omega)]; rfl)
              have E1 := Lib.hid d1; have E2 := Lib.hid d2
              have HTk := Lib.hid (sumQ_take (fun x => decide (slot x T = y1)) hlt2)
              have hp1 := sumQ_pre (fun x => decide (slot x T = y1)) HPo.out k
              have hp2 := sumQ_pre (fun x => decide (slot x T = y1)) HPo.out (k + 1)
              have hz64 := HCI.out _ (List.getElem_mem hlt2)
              clear c1' hb1 d1 d2
              generalize X[k] = z at *
              obtain ⟨z1, z2⟩ := z
              dsimp only at HTk E1 E2 hz64
              have q4 : decide ((k : Int) < (X.length : Int)) = true := by simp; omega
              go_upto_region 15 with (fail)
              refine sw15 (by kernel_rfl) _ _ wr wr b1 o1 _ c5 b2 o2 _ c6 k i T z1 y1 _ ⟨cell_keep E1.out HF2.out, cell_keep D1.out HF2.out, Fr.refl _ _⟩ hlt2 hlt hX64 hY64 hz64 rfl rfl rfl rfl rfl rfl rfl ?_
              intro x w20 h17 hst
              simp only [Eng.setAll, Act.put, List.setIfInBounds_toArray, List.set_cons_succ, List.set_cons_zero]
              rw [h17]
              have HF3 := Lib.hid (HF2.out.trans hst.f (fun _ _ h => h) (fun _ _ h => h))
              clear h17 hst
              cases hsy : (slot z1 T == y1) with
              | false =>
                have hne : sumQ (fun x => decide (slot x T = y1)) (X.take (k + 1)) = sumQ (fun x => decide (slot x T = y1)) (X.take k) := by
                  rw [HTk.out, decide_eq_false (show ¬ slot z1 T = y1 by simpa using hsy)]; simp
                go_wp2_with fail
                go_roundg (X.length - (k + 1))
                case rel => exact ⟨k + 1, by go_num, by rw [hne], by omega, rfl, HF3.out⟩
                case measure => have := HG2.out; omega
              | true =>
                have hne : sumQ (fun x => decide (slot x T = y1)) (X.take (k + 1)) = sumQ (fun x => decide (slot x T = y1)) (X.take k) + z2 := by
                  rw [HTk.out, decide_eq_true (show slot z1 T = y1 by simpa using hsy)]; simp
                have hxs := HXs.out
                have q8 : IntKind.i64.wrap (sumQ (fun x => decide (slot x T = y1)) (X.take k) + z2) = sumQ (fun x => decide (slot x T = y1)) (X.take (k + 1)) := by rw [← hne, IntKind.wrap_i64]; omega
                have e2 : w20.cell? ⟨b1, o1 + k * 2 + 1, none⟩ = some (.int .i64 z2) := cell_keep E2.out HF3.out
                have q5 : (0 : Int) ≤ (k : Int) := by omega
                have q6 : (k : Int) < (X.length : Int) := by omega
                clear hxs hp1 hp2 hne
                generalize sumQ (fun x => decide (slot x T = y1)) (X.take k) = s1 at *
                go_wp2_with fail
                go_roundg (X.length - (k + 1))
                case rel => exact ⟨k + 1, by go_num, rfl, by omega, rfl, HF3.out⟩
                case measure => have := HG2.out; omega
            · obtain rfl : k = X.length := by omega
              have q4 : decide ((X.length : Int) < (X.length : Int)) = false := by simp
              rw [List.take_length, HS.out]
              have e2 : wr.cell? ⟨b2, o2 + i * 2 + 1, none⟩ = some (.int .i64 y2) := cell_keep D2.out HF2.out
              have q5 : (y2 != y2) = false := by simp
              go_wp2_with fail
              go_roundg (Y.length - (i + 1))
              case rel => exact ⟨i + 1, by go_num, by omega, rfl, HF.out.trans HF2.out (fun _ _ h => h) (fun _ _ h => h)⟩
              case measure => have := HG.out; omega
        · obtain rfl : i = Y.length := by omega
          have q2 : decide ((Y.length : Int) < (Y.length : Int)) = false := by simp
          go_wp2_with fail
          refine (awake wo).mono ?_
          rintro e w8 ⟨rfl, hb⟩
          replace HB := Lib.hid (HB.out.trans (hb.mono HB.out.size))
          clear hb
          go_wp2_with fail
          go_ret
          exact ⟨rfl, HB.out⟩
end Law47
end Go.Proofs.Ytgfjpnpbkkadpaa
