/- Chains' numbers, fans: the document's. -/
import Derived.Test.YtmcghchhegfilaaClsV
namespace Go.Proofs.Ytmcghchhegfilaa
open Go.RowKit
namespace ClsF
open KeyP PackP SetP SetW SetF Cls ClsW ClsS Pack
attribute [local go_sem] Eng.ev Eng.getO_cons Eng.getO_nil
set_option maxRecDepth 100000 in
set_option maxHeartbeats 1000000 in
theorem RefChain (t i : Int) (A : Option Addr) (c : Nat) (L : List Sn) (w : World) (hS : Ls w A c L) (hlen : L.length ≤ 900) :
    Calls Try.prog 34 #[.int .i64 t, .int .i64 i, .slice A L.length c] w fun e w' => ∃ A' c', e = .returned (.slice A' (wy (spn L) t i).length c') ∧ Sl w' 1 A' (wy (spn L) t i).length c' (ints (ids (wy (spn L) t i))) ∧ Below w.heap.size w w' := by
  obtain ⟨i0, hi, hz0, hz1, hz2⟩ := info_parts infoN
  have HSp := Lib.hid (RefSpans A c L w hS (by omega))
  have hsl := Nat.le_trans (spn_len L) hlen
  clear hS
  generalize spn L = M at *
  obtain ⟨s, hs0⟩ : ∃ s, wy M t i = s := ⟨_, rfl⟩
  have hwl : s.length ≤ M.length := by rw [← hs0]; exact wy_len M t i
  rw [hs0]
  obtain ⟨sb, hsb⟩ : ∃ sb, way L t (L.length + 1) [] i = sb := ⟨_, rfl⟩
  obtain ⟨sb, hsb⟩ : ∃ sb, way M t (M.length + 1) [] i = (s, sb) := ⟨(way M t (M.length + 1) [] i).2, by rw [← hs0]⟩
  have HSb := Lib.hid hsb
  clear hs0 hsb
  go_enter Try.func34, Try.ntmps34
  go_wp2_with fail
  refine HSp.out.mono ?_
  rintro e w1 ⟨A1, c1, rfl, hls, -, hb⟩
  have HB := Lib.hid hb
  have HCh := Lib.hid (RChain t i A1 c1 M w1 hls (by omega) (s, sb) HSb.out)
  clear hls hb HSp
  go_wp2_with fail
  refine HCh.out.mono ?_
  rintro e' w3 ⟨A3, c3, rfl, hsl3, hb⟩
  have HB3 := Lib.hid (HB.out.trans (hb.mono HB.out.size))
  have HS3 := Lib.hid hsl3
  clear hb hsl3 HCh HB
  go_wp2_with fail
  go_loopg [9, 10] s.length (fun gk v j wr => ∃ k : Nat, j = .int .i64 k ∧ k ≤ s.length ∧ gk = s.length - k ∧ wr.ownsRow w3.heap.size TI 1 v k (ints (ids (s.take k))) ∧ Below w3.heap.size w3 wr)
  case atStart => exact ⟨0, rfl, Nat.zero_le _, rfl, World.ownsRow_nil _ _ _ _, Below.refl _ _⟩
  case round =>
    obtain ⟨k, rfl, hk, hg, hown, hbel⟩ := hrel
    have HG := Lib.hid hg; have HO := Lib.hid hown; have HBe := Lib.hid hbel
    have hszw : w3.heap.size ≤ wr.heap.size := hbel.size
    clear hg hown hbel
    by_cases hlt : k < s.length
    · obtain ⟨b1, o1, rfl, hb1, c1⟩ := HS3.out.at hlt (by omega)
      have HA := Lib.hid ((At.row c1 hlt).fr (Fr.of_below' HBe.out (fun _ => False)) (fun h => h))
      have HSn : Hid (ints (ids (s.take (k + 1))) = ints (ids (s.take k)) ++ [.int .i64 s[k].i]) := by show _ = _; rw [List.take_succ_eq_append_getElem hlt]; unfold ids ints; rw [List.map_append, List.map_append]; rfl
      clear c1 hb1
      generalize s[k] = y at *
      generalize ints (ids (s.take k)) = N at *
      have q1 : (0 : Int) ≤ (k : Int) := by omega
      have q2 : decide ((k : Int) < (s.length : Int)) = true := by simp; omega
      have HK1 := Lib.hid (ownsRow_blk HO.out)
      have hown1 := HO.out
      have hown1' := hown1.alloc (.cells [Value.int .i64 y.i].toArray TI)
      have yc0 : wr.cell? ⟨b1, o1 + k * 9, none⟩ = some (.int .i64 y.t) := HA.out 0 _ rfl
      have yc1 : wr.cell? ⟨b1, o1 + k * 9 + 1, none⟩ = some (.int .i64 y.i) := HA.out 1 _ rfl
      have yc2 : wr.cell? ⟨b1, o1 + k * 9 + 1 + 1, none⟩ = some (.int .i64 y.p) := HA.out 2 _ rfl
      have yc3 : wr.cell? ⟨b1, o1 + k * 9 + 1 + 1 + 1, none⟩ = some (.int .i64 y.r) := HA.out 3 _ rfl
      have yc4 : wr.cell? ⟨b1, o1 + k * 9 + 1 + 1 + 1 + 1, none⟩ = some (.string y.s) := HA.out 4 _ rfl
      have yc5 : wr.cell? ⟨b1, o1 + k * 9 + 1 + 1 + 1 + 1 + 1, none⟩ = some (.string y.o) := HA.out 5 _ rfl
      have yc6 : wr.cell? ⟨b1, o1 + k * 9 + 1 + 1 + 1 + 1 + 1 + 1, none⟩ = some (.int .i64 y.b) := HA.out 6 _ rfl
      have yc7 : wr.cell? ⟨b1, o1 + k * 9 + 1 + 1 + 1 + 1 + 1 + 1 + 1, none⟩ = some (.int .i64 y.d) := HA.out 7 _ rfl
      have yc8 : wr.cell? ⟨b1, o1 + k * 9 + 1 + 1 + 1 + 1 + 1 + 1 + 1 + 1, none⟩ = some (.bool y.g) := HA.out 8 _ rfl
      go_wp2_with (at_builtin; refine wpList_append_sl _ rfl (.tmp 25) (.tmp 31) TIs rfl w3.heap.size TI i0 (.int .i64 0) 1 8 Try.underlying27 hi hz0 hz1 hz2 rfl (by decide) _ _ _ rfl hown1' _ _ _ _ rfl (Sl.one wr TI [.int .i64 y.i] 1 rfl) (by simp [Value.oneCell']) ?_ ?_ ?_ ?_)
      · unfold maxLen; omega
      · omega
      · first | omega | (simp; omega)
      intro v1 w5 hown5 hgrow5
      have HO5 := Lib.hid hown5; have HGr := Lib.hid hgrow5
      clear hown1 hown5 hgrow5 hown1' yc0 yc1 yc2 yc3 yc4 yc5 yc6 yc7 yc8
      go_wp2_with fail
      go_roundg (s.length - (k + 1))
      case rel => exact ⟨k + 1, by go_num, by omega, rfl, by rw [HSn.out]; simpa using HO5.out, (HBe.out.alloc (by omega) _).grown HGr.out (by simp; omega) (fun k e => (HK1.out k e).1)⟩
      case measure => have := HG.out; omega
    · obtain rfl : k = s.length := by omega
      have q2 : decide ((s.length : Int) < (s.length : Int)) = false := by simp
      have hO := HO.out
      rw [List.take_length] at hO
      obtain ⟨A2, c2, hv, h2, -⟩ := Sl.of_own hO
      subst hv
      have H2 := Lib.hid h2; have HB5 := Lib.hid (HB3.out.trans (HBe.out.mono HB3.out.size))
      clear h2 hO
      go_wp2_with fail
      go_ret
      exact ⟨A2, c2, rfl, H2.out, HB5.out⟩
set_option maxRecDepth 100000 in
set_option maxHeartbeats 400000 in
theorem fn5a {ops : Array Oper} (hops : Eng.fnOps Try.f91 5 = ops) (a0 : Act) (Q : Exit → Act → World → Prop) (w0 w : World) (b1 o1 len c k Bx : Nat) (y z : Sn) (hst : At2 w0 w b1 (o1 + k * 9) Bx 0 y z) (hk : k < len) (hlen : len ≤ 9223372036854775807) (h1 : (y.t == z.t) = true)
    (hn : a0.tmps.size = 34) (h_0 : a0.tmps.getD 0 undef = .slice (some ⟨b1, o1, none⟩) len c) (h_3 : a0.tmps.getD 3 undef = .pointer (some ⟨Bx, 0, none⟩)) (h_6 : a0.tmps.getD 6 undef = .int .i64 (k : Int))
    (hpost : ∀ (x : Nat → Value) (w' : World), x 30 = .bool (y.p == z.i) → At2 w0 w' b1 (o1 + k * 9) Bx 0 y z → Q .normal (Eng.setAll a0 [13, 14, 15, 16, 17, 18, 19, 20, 21, 22, 23, 24, 25, 26, 27, 28, 29, 30] x) w') :
    (Code.region 5 ops true).wp Try.prog Q a0 w := by
  simp only [Eng.fnOps, Eng.regOps, Try.f91, Option.bind_some, Option.getD_some, Nat.reduceEqDiff, ↓reduceIte, Nat.reduceBEq] at hops
  subst hops
  have q1 : (0 : Int) ≤ (k : Int) := by omega
  have q2 : (k : Int) < (len : Int) := by omega
  have HSt := Lib.hid (hst.fr (Fr.drew _ _))
  have hSS : w.drew.cell? ⟨b1, o1 + k * 9, none⟩ = some (.int .i64 y.t) ∧ w.drew.cell? ⟨b1, o1 + k * 9 + 1, none⟩ = some (.int .i64 y.i) ∧ w.drew.cell? ⟨b1, o1 + k * 9 + 1 + 1, none⟩ = some (.int .i64 y.p) ∧ w.drew.cell? ⟨b1, o1 + k * 9 + 1 + 1 + 1, none⟩ = some (.int .i64 y.r) ∧ w.drew.cell? ⟨b1, o1 + k * 9 + 1 + 1 + 1 + 1, none⟩ = some (.string y.s) ∧ w.drew.cell? ⟨b1, o1 + k * 9 + 1 + 1 + 1 + 1 + 1, none⟩ = some (.string y.o) ∧ w.drew.cell? ⟨b1, o1 + k * 9 + 1 + 1 + 1 + 1 + 1 + 1, none⟩ = some (.int .i64 y.b) ∧ w.drew.cell? ⟨b1, o1 + k * 9 + 1 + 1 + 1 + 1 + 1 + 1 + 1, none⟩ = some (.int .i64 y.d) ∧ w.drew.cell? ⟨b1, o1 + k * 9 + 1 + 1 + 1 + 1 + 1 + 1 + 1 + 1, none⟩ = some (.bool y.g) ∧ w.drew.cell? ⟨Bx, 0, none⟩ = some (.int .i64 z.t) ∧ w.drew.cell? ⟨Bx, 1, none⟩ = some (.int .i64 z.i) ∧ w.drew.cell? ⟨Bx, 2, none⟩ = some (.int .i64 z.p) ∧ w.drew.cell? ⟨Bx, 3, none⟩ = some (.int .i64 z.r) ∧ w.drew.cell? ⟨Bx, 4, none⟩ = some (.string z.s) ∧ w.drew.cell? ⟨Bx, 5, none⟩ = some (.string z.o) ∧ w.drew.cell? ⟨Bx, 6, none⟩ = some (.int .i64 z.b) ∧ w.drew.cell? ⟨Bx, 7, none⟩ = some (.int .i64 z.d) ∧ w.drew.cell? ⟨Bx, 8, none⟩ = some (.bool z.g) := ⟨HSt.out.a 0 _ rfl, HSt.out.a 1 _ rfl, HSt.out.a 2 _ rfl, HSt.out.a 3 _ rfl, HSt.out.a 4 _ rfl, HSt.out.a 5 _ rfl, HSt.out.a 6 _ rfl, HSt.out.a 7 _ rfl, HSt.out.a 8 _ rfl, HSt.out.b 0 _ rfl, HSt.out.b 1 _ rfl, HSt.out.b 2 _ rfl, HSt.out.b 3 _ rfl, HSt.out.b 4 _ rfl, HSt.out.b 5 _ rfl, HSt.out.b 6 _ rfl, HSt.out.b 7 _ rfl, HSt.out.b 8 _ rfl⟩
  refine Eng.regionN [(0, true), (1, true), (2, true), (3, true), (4, true), (5, true), (6, true), (7, true), (8, true), (9, true), (10, true), (11, true), (12, true), (13, true), (14, true), (15, true), (16, true), (17, true)] (fun w' => w'.cell? ⟨b1, o1 + k * 9, none⟩ = some (.int .i64 y.t) ∧ w'.cell? ⟨b1, o1 + k * 9 + 1, none⟩ = some (.int .i64 y.i) ∧ w'.cell? ⟨b1, o1 + k * 9 + 1 + 1, none⟩ = some (.int .i64 y.p) ∧ w'.cell? ⟨b1, o1 + k * 9 + 1 + 1 + 1, none⟩ = some (.int .i64 y.r) ∧ w'.cell? ⟨b1, o1 + k * 9 + 1 + 1 + 1 + 1, none⟩ = some (.string y.s) ∧ w'.cell? ⟨b1, o1 + k * 9 + 1 + 1 + 1 + 1 + 1, none⟩ = some (.string y.o) ∧ w'.cell? ⟨b1, o1 + k * 9 + 1 + 1 + 1 + 1 + 1 + 1, none⟩ = some (.int .i64 y.b) ∧ w'.cell? ⟨b1, o1 + k * 9 + 1 + 1 + 1 + 1 + 1 + 1 + 1, none⟩ = some (.int .i64 y.d) ∧ w'.cell? ⟨b1, o1 + k * 9 + 1 + 1 + 1 + 1 + 1 + 1 + 1 + 1, none⟩ = some (.bool y.g) ∧ w'.cell? ⟨Bx, 0, none⟩ = some (.int .i64 z.t) ∧ w'.cell? ⟨Bx, 1, none⟩ = some (.int .i64 z.i) ∧ w'.cell? ⟨Bx, 2, none⟩ = some (.int .i64 z.p) ∧ w'.cell? ⟨Bx, 3, none⟩ = some (.int .i64 z.r) ∧ w'.cell? ⟨Bx, 4, none⟩ = some (.string z.s) ∧ w'.cell? ⟨Bx, 5, none⟩ = some (.string z.o) ∧ w'.cell? ⟨Bx, 6, none⟩ = some (.int .i64 z.b) ∧ w'.cell? ⟨Bx, 7, none⟩ = some (.int .i64 z.d) ∧ w'.cell? ⟨Bx, 8, none⟩ = some (.bool z.g)) (by kernel_rfl) 34 hn (by kernel_rfl) rfl (by kernel_rfl) (hSS) (fun a b ha hb => ?_)
  subst ha
  have hb0 : b 0 = .slice (some ⟨b1, o1, none⟩) len c := (hb 0).symm.trans h_0
  have hb3 : b 3 = .pointer (some ⟨Bx, 0, none⟩) := (hb 3).symm.trans h_3
  have hb6 : b 6 = .int .i64 (k : Int) := (hb 6).symm.trans h_6
  clear hb h_0 h_3 h_6
  have HP := Lib.hid hpost; have HN := Lib.hid hn
  clear hpost hn
  refine Eng.Sch.take (v := ?_) rfl rfl (by decide) (by kernel_rfl) (fun w hw => ?_) ?_
  rotate_left
  · (try dsimp only at hw); go_simp; first | done | with_reducible rfl
  refine Eng.Sch.take (v := ?_) rfl rfl (by decide) (by kernel_rfl) (fun w hw => ?_) ?_
  rotate_left
  · (try dsimp only at hw); go_simp; first | done | with_reducible rfl
  refine Eng.Sch.take (v := ?_) rfl rfl (by decide) (by kernel_rfl) (fun w hw => ?_) ?_
  rotate_left
  · (try dsimp only at hw); go_simp; first | done | with_reducible rfl
  refine Eng.Sch.take (v := ?_) rfl rfl (by decide) (by kernel_rfl) (fun w hw => ?_) ?_
  rotate_left
  · (try dsimp only at hw); go_simp; first | done | with_reducible rfl
  refine Eng.Sch.take (v := ?_) rfl rfl (by decide) (by kernel_rfl) (fun w hw => ?_) ?_
  rotate_left
  · (try dsimp only at hw); go_simp; first | done | with_reducible rfl
  refine Eng.Sch.take (v := ?_) rfl rfl (by decide) (by kernel_rfl) (fun w hw => ?_) ?_
  rotate_left
  · (try dsimp only at hw); go_simp; first | done | with_reducible rfl
  refine Eng.Sch.take (v := ?_) rfl rfl (by decide) (by kernel_rfl) (fun w hw => ?_) ?_
  rotate_left
  · (try dsimp only at hw); go_simp; first | done | with_reducible rfl
  refine Eng.Sch.take (v := ?_) rfl rfl (by decide) (by kernel_rfl) (fun w hw => ?_) ?_
  rotate_left
  · (try dsimp only at hw); go_simp; first | done | with_reducible rfl
  refine Eng.Sch.take (v := ?_) rfl rfl (by decide) (by kernel_rfl) (fun w hw => ?_) ?_
  rotate_left
  · (try dsimp only at hw); go_simp; first | done | with_reducible rfl
  refine Eng.Sch.take (v := ?_) rfl rfl (by decide) (by kernel_rfl) (fun w hw => ?_) ?_
  rotate_left
  · (try dsimp only at hw); go_simp; first | done | with_reducible rfl
  refine Eng.Sch.take (v := ?_) rfl rfl (by decide) (by kernel_rfl) (fun w hw => ?_) ?_
  rotate_left
  · (try dsimp only at hw); go_simp; first | done | with_reducible rfl
  refine Eng.Sch.take (v := ?_) rfl rfl (by decide) (by kernel_rfl) (fun w hw => ?_) ?_
  rotate_left
  · (try dsimp only at hw); go_simp; first | done | with_reducible rfl
  refine Eng.Sch.take (v := ?_) rfl rfl (by decide) (by kernel_rfl) (fun w hw => ?_) ?_
  rotate_left
  · (try dsimp only at hw); go_simp; first | done | with_reducible rfl
  refine Eng.Sch.take (v := ?_) rfl rfl (by decide) (by kernel_rfl) (fun w hw => ?_) ?_
  rotate_left
  · (try dsimp only at hw); go_simp; first | done | with_reducible rfl
  refine Eng.Sch.take (v := ?_) rfl rfl (by decide) (by kernel_rfl) (fun w hw => ?_) ?_
  rotate_left
  · (try dsimp only at hw); go_simp; first | done | with_reducible rfl
  refine Eng.Sch.take (v := ?_) rfl rfl (by decide) (by kernel_rfl) (fun w hw => ?_) ?_
  rotate_left
  · (try dsimp only at hw); go_simp; first | done | with_reducible rfl
  refine Eng.Sch.take (v := ?_) rfl rfl (by decide) (by kernel_rfl) (fun w hw => ?_) ?_
  rotate_left
  · (try dsimp only at hw); go_simp; first | done | with_reducible rfl
  refine Eng.Sch.take (v := ?_) rfl rfl (by decide) (by kernel_rfl) (fun w hw => ?_) ?_
  rotate_left
  · (try dsimp only at hw); go_simp; first | done | with_reducible rfl
  refine Eng.Sch.end_ [13, 14, 15, 16, 17, 18, 19, 20, 21, 22, 23, 24, 25, 26, 27, 28, 29, 30] HN.out (by kernel_rfl) (by kernel_rfl) ?_
  exact HP.out _ _ rfl HSt.out

set_option maxRecDepth 100000 in
set_option maxHeartbeats 400000 in
theorem fn5b {ops : Array Oper} (hops : Eng.fnOps Try.f91 5 = ops) (a0 : Act) (Q : Exit → Act → World → Prop) (w0 w : World) (b1 o1 len c k Bx : Nat) (y z : Sn) (hst : At2 w0 w b1 (o1 + k * 9) Bx 0 y z) (hk : k < len) (hlen : len ≤ 9223372036854775807) (h1 : (y.t == z.t) = false)
    (hn : a0.tmps.size = 34) (h_0 : a0.tmps.getD 0 undef = .slice (some ⟨b1, o1, none⟩) len c) (h_3 : a0.tmps.getD 3 undef = .pointer (some ⟨Bx, 0, none⟩)) (h_6 : a0.tmps.getD 6 undef = .int .i64 (k : Int))
    (hpost : ∀ (x : Nat → Value) (w' : World), x 30 = .bool false → At2 w0 w' b1 (o1 + k * 9) Bx 0 y z → Q .normal (Eng.setAll a0 [13, 14, 15, 16, 17, 18, 19, 20, 21, 22, 23, 24, 25, 26, 27, 28, 29, 30] x) w') :
    (Code.region 5 ops true).wp Try.prog Q a0 w := by
  simp only [Eng.fnOps, Eng.regOps, Try.f91, Option.bind_some, Option.getD_some, Nat.reduceEqDiff, ↓reduceIte, Nat.reduceBEq] at hops
  subst hops
  have q1 : (0 : Int) ≤ (k : Int) := by omega
  have q2 : (k : Int) < (len : Int) := by omega
  have HSt := Lib.hid (hst.fr (Fr.drew _ _))
  have hSS : w.drew.cell? ⟨b1, o1 + k * 9, none⟩ = some (.int .i64 y.t) ∧ w.drew.cell? ⟨b1, o1 + k * 9 + 1, none⟩ = some (.int .i64 y.i) ∧ w.drew.cell? ⟨b1, o1 + k * 9 + 1 + 1, none⟩ = some (.int .i64 y.p) ∧ w.drew.cell? ⟨b1, o1 + k * 9 + 1 + 1 + 1, none⟩ = some (.int .i64 y.r) ∧ w.drew.cell? ⟨b1, o1 + k * 9 + 1 + 1 + 1 + 1, none⟩ = some (.string y.s) ∧ w.drew.cell? ⟨b1, o1 + k * 9 + 1 + 1 + 1 + 1 + 1, none⟩ = some (.string y.o) ∧ w.drew.cell? ⟨b1, o1 + k * 9 + 1 + 1 + 1 + 1 + 1 + 1, none⟩ = some (.int .i64 y.b) ∧ w.drew.cell? ⟨b1, o1 + k * 9 + 1 + 1 + 1 + 1 + 1 + 1 + 1, none⟩ = some (.int .i64 y.d) ∧ w.drew.cell? ⟨b1, o1 + k * 9 + 1 + 1 + 1 + 1 + 1 + 1 + 1 + 1, none⟩ = some (.bool y.g) ∧ w.drew.cell? ⟨Bx, 0, none⟩ = some (.int .i64 z.t) ∧ w.drew.cell? ⟨Bx, 1, none⟩ = some (.int .i64 z.i) ∧ w.drew.cell? ⟨Bx, 2, none⟩ = some (.int .i64 z.p) ∧ w.drew.cell? ⟨Bx, 3, none⟩ = some (.int .i64 z.r) ∧ w.drew.cell? ⟨Bx, 4, none⟩ = some (.string z.s) ∧ w.drew.cell? ⟨Bx, 5, none⟩ = some (.string z.o) ∧ w.drew.cell? ⟨Bx, 6, none⟩ = some (.int .i64 z.b) ∧ w.drew.cell? ⟨Bx, 7, none⟩ = some (.int .i64 z.d) ∧ w.drew.cell? ⟨Bx, 8, none⟩ = some (.bool z.g) := ⟨HSt.out.a 0 _ rfl, HSt.out.a 1 _ rfl, HSt.out.a 2 _ rfl, HSt.out.a 3 _ rfl, HSt.out.a 4 _ rfl, HSt.out.a 5 _ rfl, HSt.out.a 6 _ rfl, HSt.out.a 7 _ rfl, HSt.out.a 8 _ rfl, HSt.out.b 0 _ rfl, HSt.out.b 1 _ rfl, HSt.out.b 2 _ rfl, HSt.out.b 3 _ rfl, HSt.out.b 4 _ rfl, HSt.out.b 5 _ rfl, HSt.out.b 6 _ rfl, HSt.out.b 7 _ rfl, HSt.out.b 8 _ rfl⟩
  refine Eng.regionN [(0, true), (1, true), (2, true), (3, true), (4, true), (5, true), (6, true), (7, true), (8, true), (9, true), (10, true), (11, true), (12, true), (13, true), (14, true), (15, true), (16, true), (17, true)] (fun w' => w'.cell? ⟨b1, o1 + k * 9, none⟩ = some (.int .i64 y.t) ∧ w'.cell? ⟨b1, o1 + k * 9 + 1, none⟩ = some (.int .i64 y.i) ∧ w'.cell? ⟨b1, o1 + k * 9 + 1 + 1, none⟩ = some (.int .i64 y.p) ∧ w'.cell? ⟨b1, o1 + k * 9 + 1 + 1 + 1, none⟩ = some (.int .i64 y.r) ∧ w'.cell? ⟨b1, o1 + k * 9 + 1 + 1 + 1 + 1, none⟩ = some (.string y.s) ∧ w'.cell? ⟨b1, o1 + k * 9 + 1 + 1 + 1 + 1 + 1, none⟩ = some (.string y.o) ∧ w'.cell? ⟨b1, o1 + k * 9 + 1 + 1 + 1 + 1 + 1 + 1, none⟩ = some (.int .i64 y.b) ∧ w'.cell? ⟨b1, o1 + k * 9 + 1 + 1 + 1 + 1 + 1 + 1 + 1, none⟩ = some (.int .i64 y.d) ∧ w'.cell? ⟨b1, o1 + k * 9 + 1 + 1 + 1 + 1 + 1 + 1 + 1 + 1, none⟩ = some (.bool y.g) ∧ w'.cell? ⟨Bx, 0, none⟩ = some (.int .i64 z.t) ∧ w'.cell? ⟨Bx, 1, none⟩ = some (.int .i64 z.i) ∧ w'.cell? ⟨Bx, 2, none⟩ = some (.int .i64 z.p) ∧ w'.cell? ⟨Bx, 3, none⟩ = some (.int .i64 z.r) ∧ w'.cell? ⟨Bx, 4, none⟩ = some (.string z.s) ∧ w'.cell? ⟨Bx, 5, none⟩ = some (.string z.o) ∧ w'.cell? ⟨Bx, 6, none⟩ = some (.int .i64 z.b) ∧ w'.cell? ⟨Bx, 7, none⟩ = some (.int .i64 z.d) ∧ w'.cell? ⟨Bx, 8, none⟩ = some (.bool z.g)) (by kernel_rfl) 34 hn (by kernel_rfl) rfl (by kernel_rfl) (hSS) (fun a b ha hb => ?_)
  subst ha
  have hb0 : b 0 = .slice (some ⟨b1, o1, none⟩) len c := (hb 0).symm.trans h_0
  have hb3 : b 3 = .pointer (some ⟨Bx, 0, none⟩) := (hb 3).symm.trans h_3
  have hb6 : b 6 = .int .i64 (k : Int) := (hb 6).symm.trans h_6
  clear hb h_0 h_3 h_6
  have HP := Lib.hid hpost; have HN := Lib.hid hn
  clear hpost hn
  refine Eng.Sch.take (v := ?_) rfl rfl (by decide) (by kernel_rfl) (fun w hw => ?_) ?_
  rotate_left
  · (try dsimp only at hw); go_simp; first | done | with_reducible rfl
  refine Eng.Sch.take (v := ?_) rfl rfl (by decide) (by kernel_rfl) (fun w hw => ?_) ?_
  rotate_left
  · (try dsimp only at hw); go_simp; first | done | with_reducible rfl
  refine Eng.Sch.take (v := ?_) rfl rfl (by decide) (by kernel_rfl) (fun w hw => ?_) ?_
  rotate_left
  · (try dsimp only at hw); go_simp; first | done | with_reducible rfl
  refine Eng.Sch.take (v := ?_) rfl rfl (by decide) (by kernel_rfl) (fun w hw => ?_) ?_
  rotate_left
  · (try dsimp only at hw); go_simp; first | done | with_reducible rfl
  refine Eng.Sch.take (v := ?_) rfl rfl (by decide) (by kernel_rfl) (fun w hw => ?_) ?_
  rotate_left
  · (try dsimp only at hw); go_simp; first | done | with_reducible rfl
  refine Eng.Sch.take (v := ?_) rfl rfl (by decide) (by kernel_rfl) (fun w hw => ?_) ?_
  rotate_left
  · (try dsimp only at hw); go_simp; first | done | with_reducible rfl
  refine Eng.Sch.take (v := ?_) rfl rfl (by decide) (by kernel_rfl) (fun w hw => ?_) ?_
  rotate_left
  · (try dsimp only at hw); go_simp; first | done | with_reducible rfl
  refine Eng.Sch.take (v := ?_) rfl rfl (by decide) (by kernel_rfl) (fun w hw => ?_) ?_
  rotate_left
  · (try dsimp only at hw); go_simp; first | done | with_reducible rfl
  refine Eng.Sch.take (v := ?_) rfl rfl (by decide) (by kernel_rfl) (fun w hw => ?_) ?_
  rotate_left
  · (try dsimp only at hw); go_simp; first | done | with_reducible rfl
  refine Eng.Sch.skip rfl rfl (by decide) (by kernel_rfl) ?_
  refine Eng.Sch.skip rfl rfl (by decide) (by kernel_rfl) ?_
  refine Eng.Sch.skip rfl rfl (by decide) (by kernel_rfl) ?_
  refine Eng.Sch.skip rfl rfl (by decide) (by kernel_rfl) ?_
  refine Eng.Sch.skip rfl rfl (by decide) (by kernel_rfl) ?_
  refine Eng.Sch.skip rfl rfl (by decide) (by kernel_rfl) ?_
  refine Eng.Sch.skip rfl rfl (by decide) (by kernel_rfl) ?_
  refine Eng.Sch.skip rfl rfl (by decide) (by kernel_rfl) ?_
  refine Eng.Sch.take (v := ?_) rfl rfl (by decide) (by kernel_rfl) (fun w hw => ?_) ?_
  rotate_left
  · (try dsimp only at hw); go_simp; first | done | with_reducible rfl
  refine Eng.Sch.end_ [13, 14, 15, 16, 17, 18, 19, 20, 21, 22, 23, 24, 25, 26, 27, 28, 29, 30] HN.out (by kernel_rfl) (by kernel_rfl) ?_
  exact HP.out _ _ rfl HSt.out

set_option maxRecDepth 100000 in
theorem Fan (A : Option Addr) (c : Nat) (L : List Sn) (z : Sn) (w : World) (hS : Sl w 9 A L.length c (L.flatMap scs)) :
    Calls Try.prog 91 #[.slice A L.length c, z.v] w fun e w' => e = .returned (.int .i64 ((fan L z : Nat) : Int)) ∧ Fr (fun _ => False) w w' := by
  have hlen : L.length ≤ 9223372036854775807 := by have := hS.2.1; have := hS.2.2.1; unfold maxLen at this; omega
  have HS := Lib.hid hS
  have HB := Lib.hid (Bk.new w z.arr TSn)
  clear hS
  go_enter Try.func91, Try.ntmps91
  go_wp2_with fail
  go_loopg [5, 6] L.length (fun gk n i wr => ∃ k : Nat, i = .int .i64 k ∧ n = .int .i64 ((cnt (L.take k) z.t z.i : Nat) : Int) ∧ k ≤ L.length ∧ gk = L.length - k ∧ Fr (fun _ => False) (w.alloc (.cells z.arr TSn)) wr)
  case atStart => exact ⟨0, rfl, rfl, Nat.zero_le _, rfl, Fr.refl _ _⟩
  case round =>
    obtain ⟨k, rfl, rfl, hk, hg, hf⟩ := hrel
    have HG := Lib.hid hg; have HF := Lib.hid hf
    clear hg hf
    by_cases hlt : k < L.length
    · obtain ⟨b1, o1, rfl, hb1, c1⟩ := HS.out.at hlt (by omega)
      have HA := Lib.hid ((At.row c1 hlt).fr ((Fr.alloc (fun _ => False) w (.cells z.arr TSn)).trans HF.out (T := fun _ => False) (fun _ _ h => h) (fun _ _ h => h)) (fun h => h))
      have HX := Lib.hid ((At.box HB.out).keep HF.out)
      have HSn := Lib.hid (cnt_snoc hlt z.t z.i)
      have hcl := cnt_le (L.take k) z.t z.i
      rw [List.length_take] at hcl
      clear c1 hb1
      generalize cnt (L.take k) z.t z.i = n at *
      generalize L[k] = y at *
      go_upto_region 5 with (fail)
      cases ht : (y.t == z.t) with
      | false =>
        have HE : Hid (cnt (L.take (k + 1)) z.t z.i = n) := by show _ = _; rw [HSn.out, if_neg (fun h => by rw [h.1] at ht; simp at ht)]; rfl
        refine fn5b (by kernel_rfl) _ _ wr wr b1 o1 _ c k _ y z ⟨HA.out, HX.out, Fr.refl _ _⟩ hlt hlen ht rfl rfl rfl rfl ?_
        intro x w2 h17 hst
        simp only [Eng.setAll, Act.put, List.setIfInBounds_toArray, List.set_cons_succ, List.set_cons_zero]
        rw [h17]
        have HSt := Lib.hid hst
        clear h17 hst ht
        go_wp2_with fail
        go_roundg (L.length - (k + 1))
        case rel => exact ⟨k + 1, by go_num, by rw [HE.out], by omega, rfl, HF.out.trans HSt.out.f (fun _ _ h => h) (fun _ _ h => h)⟩
        case measure => have := HG.out; omega
      | true =>
        refine fn5a (by kernel_rfl) _ _ wr wr b1 o1 _ c k _ y z ⟨HA.out, HX.out, Fr.refl _ _⟩ hlt hlen ht rfl rfl rfl rfl ?_
        intro x w2 h17 hst
        simp only [Eng.setAll, Act.put, List.setIfInBounds_toArray, List.set_cons_succ, List.set_cons_zero]
        rw [h17]
        have HSt := Lib.hid hst
        have ht' : y.t = z.t := by simpa using ht
        clear h17 hst ht
        cases hi : (y.p == z.i) with
        | false =>
          have HE : Hid (cnt (L.take (k + 1)) z.t z.i = n) := by show _ = _; rw [HSn.out, if_neg (fun h => by rw [h.2] at hi; simp at hi)]; rfl
          clear hi ht'
          go_wp2_with fail
          go_roundg (L.length - (k + 1))
          case rel => exact ⟨k + 1, by go_num, by rw [HE.out], by omega, rfl, HF.out.trans HSt.out.f (fun _ _ h => h) (fun _ _ h => h)⟩
          case measure => have := HG.out; omega
        | true =>
          have HE : Hid (cnt (L.take (k + 1)) z.t z.i = n + 1) := by show _ = _; rw [HSn.out, if_pos ⟨ht', by simpa using hi⟩]
          have q9 : IntKind.i64.wrap ((n : Int) + 1) = (n : Int) + 1 := by rw [IntKind.wrap_i64]; omega
          clear hi ht'
          go_wp2_with fail
          go_roundg (L.length - (k + 1))
          case rel => exact ⟨k + 1, by go_num, by rw [HE.out]; rfl, by omega, rfl, HF.out.trans HSt.out.f (fun _ _ h => h) (fun _ _ h => h)⟩
          case measure => have := HG.out; omega
    · obtain rfl : k = L.length := by omega
      have HE : Hid (cnt (L.take L.length) z.t z.i = fan L z) := by show _ = _; rw [List.take_length]; rfl
      have hx := HE.out
      rw [hx]
      clear hx
      go_wp2_with fail
      go_ret
      exact ⟨rfl, (Fr.alloc (fun _ => False) w _).trans HF.out (fun _ _ h => h) (fun _ _ h => h)⟩
end ClsF
end Go.Proofs.Ytmcghchhegfilaa
