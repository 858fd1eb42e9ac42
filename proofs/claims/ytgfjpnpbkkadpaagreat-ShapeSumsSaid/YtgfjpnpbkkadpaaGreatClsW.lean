/- The spans of records: those of a set that are not gone: the program's, and the document's. -/
import Derived.Test.YtgfjpnpbkkadpaaGreatDelta
import Derived.Test.YtgfjpnpbkkadpaaGreatDels
namespace Go.Proofs.YtgfjpnpbkkadpaaGreat
open Go.RowKit
namespace ClsW
open KeyP PackP SetP SetW SetF Sli Delta
attribute [local go_sem] Eng.ev Eng.getO_cons Eng.getO_nil
/-- Those that are not gone. -/
abbrev alive (L : List Sn) : List Sn := L.filter (fun x => !x.g)
theorem alive_len (L : List Sn) : (alive L).length ≤ L.length := List.length_filter_le _ _
set_option maxRecDepth 100000 in
theorem gone1 (y : Sn) (w : World) : Calls Tryz.prog 181 #[y.v] w fun e w' => e = .returned (.bool y.g) ∧ Fr (fun _ => False) w w' := by
  have h := At.box (Bk.new w y.arr TSn)
  have e8 : (w.alloc (.cells y.arr TSn)).cell? ⟨w.heap.size, 8, none⟩ = some (.bool y.g) := h 8 _ rfl
  have HF := Lib.hid (Fr.alloc (fun _ => False) w (.cells y.arr TSn))
  clear h
  go_enter Tryz.func181, Tryz.ntmps181
  go_wp2_with fail
  go_ret
  exact ⟨rfl, HF.out⟩
set_option maxRecDepth 100000 in
theorem living (A : Option Addr) (c : Nat) (L : List Sn) (w : World) (hS : Ls w A c L) (hlen : L.length ≤ 1000000) : Calls Tryz.prog 124 #[.slice A L.length c] w (LsPost (alive L) w) := by
  have HC := Lib.hid (Clone A c L w hS hlen)
  have HOk := Lib.hid hS.ok
  clear hS
  go_enter Tryz.func124, Tryz.ntmps124
  go_wp2_with fail
  refine HC.out.mono ?_
  rintro e w1 ⟨A2, c2, rfl, hls, hown, hb⟩
  have HD := Lib.hid (DeleteFunc w.heap.size (.slice A2 L.length c2) 181 #[] (fun x => x.g) L w1 (enters_of Tryz.func181 (by kernel_rfl) rfl) hown (fun W _ x _ => gone1 x W) (fun _ _ W _ x _ => gone1 x W))
  have HB := Lib.hid hb; have HOw := Lib.hid hown
  clear hls hown hb HC
  go_wp2_with fail
  refine HD.out.mono ?_
  rintro e w3 ⟨v', rfl, h1, h2⟩
  have HX : Hid (LsPost (alive L) w (.returned v') w3) := by
    obtain ⟨A3, c3, rfl, h3, -⟩ := Sl.of_own h1
    refine ⟨A3, c3, rfl, ⟨h3, fun x hx => HOk.out x (List.mem_filter.1 hx).1⟩, h1, HB.out.trans (h2.below HB.out.size (fun k hk e => ?_))⟩
    have := (ownsRow_blk HOw.out k e).1
    omega
  clear h1 h2 HD
  go_wp2_with fail
  go_ret
  exact HX.out
/-- A delta's value in its box, the result's block, and lists that were made. -/
structure IV (w0 w : World) (Bx Br : Nat) (d : Dl) (xs : List Lv) : Prop where
  dl : RdD w d
  x : Bk w Bx d.arr TDl
  r : Bk w Br #[.slice none 0 0, .slice none 0 0] TDl
  l : ∀ q ∈ xs, Rd w q ∧ ∀ a, q.A = some a → Br < a.block
  b : Below w0.heap.size w0 w
theorem IV.below {w0 w w' : World} {Bx Br : Nat} {d : Dl} {xs : List Lv} (h : IV w0 w Bx Br d xs) (hb : Below w.heap.size w w') : IV w0 w' Bx Br d xs :=
  ⟨h.dl.below hb, h.x.fr (Fr.of_below' hb (fun _ => False)) (fun _ _ h => h), h.r.fr (Fr.of_below' hb (fun _ => False)) (fun _ _ h => h), fun q hq => ⟨(h.l q hq).1.below hb, (h.l q hq).2⟩, h.b.trans (hb.mono h.b.size)⟩
theorem IV.keep {w0 w w' : World} {Bx Br : Nat} {d : Dl} {xs : List Lv} (h : IV w0 w Bx Br d xs) (hf : Fr (fun _ => False) w w') : IV w0 w' Bx Br d xs := h.below (hf.below (Nat.le_refl _) (fun _ _ h => h))
theorem IV.add {w0 w w' : World} {Bx Br : Nat} {d : Dl} {xs : List Lv} {A : Option Addr} {c : Nat} {L : List Sn} (h : IV w0 w Bx Br d xs) (h1 : Ls w' A c L) (h2 : w'.ownsRow w.heap.size TSn 9 (.slice A L.length c) L.length (L.flatMap scs)) (hb : Below w.heap.size w w') : IV w0 w' Bx Br d (⟨A, c, L⟩ :: xs) := by
  have h' := h.below hb
  refine ⟨h'.dl, h'.x, h'.r, fun q hq => ?_, h'.b⟩
  rcases List.mem_cons.1 hq with rfl | hq
  · obtain ⟨A', c', he, -, h3⟩ := Sl.of_own h2
    cases he
    exact ⟨h1, fun a ha => by have := (h3 a ha).1; have := lt_of_heap h.r; omega⟩
  · exact h'.l q hq
structure AZ (w0 w : World) (Bx Br : Nat) (d : Dl) (X Y : List Sn) (A3 : Option Addr) (c3 : Nat) (A4 : Option Addr) (c4 : Nat) : Prop where
  x : Bk w Bx d.arr TDl
  r : Bk w Br #[.slice A3 X.length c3, .slice A4 Y.length c4] TDl
  a : Ls w A3 c3 X
  c : Ls w A4 c4 Y
  b : Below w0.heap.size w0 w
theorem IV.store {w0 w : World} {Bx Br : Nat} {d : Dl} {X Y : List Sn} {A3 A4 : Option Addr} {c3 c4 : Nat} (h : IV w0 w Bx Br d [⟨A4, c4, Y⟩, ⟨A3, c3, X⟩]) (hne : Bx ≠ Br) (hbr : w0.heap.size ≤ Br) :
    AZ w0 ((w.setCell ⟨Br, 0, none⟩ (.slice A3 X.length c3)).setCell ⟨Br, 1, none⟩ (.slice A4 Y.length c4)) Bx Br d X Y A3 c3 A4 c4 := by
  have hf : Fr (fun k => k = Br) w ((w.setCell ⟨Br, 0, none⟩ (.slice A3 X.length c3)).setCell ⟨Br, 1, none⟩ (.slice A4 Y.length c4)) :=
    (Fr.setCell w ⟨Br, 0, none⟩ (.slice A3 X.length c3) (S := fun k => k = Br) rfl).trans (Fr.setCell _ ⟨Br, 1, none⟩ (.slice A4 Y.length c4) (S := fun k => k = Br) rfl) (fun _ _ h => h) (fun _ _ h => h)
  have h3 := h.l ⟨A3, c3, X⟩ (by simp)
  have h4 := h.l ⟨A4, c4, Y⟩ (by simp)
  refine ⟨h.x.fr hf (fun k hk e => by simp at hk; omega), ?_, h3.1.fr hf (fun q hq e => by have := h3.2 q hq; omega), h4.1.fr hf (fun q hq e => by have := h4.2 q hq; omega), h.b.trans (hf.below h.b.size (fun k hk e => by omega))⟩
  have := (h.r.set 0 (.slice A3 X.length c3)).set 1 (.slice A4 Y.length c4)
  simpa using this
theorem livingE {A : Option Addr} {c : Nat} {L : List Sn} {w : World} (hS : Ls w A c L) (hlen : L.length ≤ 1000000) (X : List Sn) (hX : alive L = X) : Calls Tryz.prog 124 #[.slice A L.length c] w (LsPost X w) := hX ▸ living A c L w hS hlen
set_option maxRecDepth 100000 in
set_option maxHeartbeats 400000 in
theorem al1 {ops : Array Oper} (hops : Eng.fnOps Tryz.f70 1 = ops) (a0 : Act) (Q : Exit → Act → World → Prop) (w0 w : World) (Bx Br : Nat) (d : Dl) (X Y : List Sn) (hX : alive d.O = X) (hY : alive d.I = Y) (hl1 : d.O.length ≤ 1000000) (hl2 : d.I.length ≤ 1000000) (hne : Bx ≠ Br) (hbr : w0.heap.size ≤ Br) (hst : IV w0 w Bx Br d [])
    (hn : a0.tmps.size = 10) (h_1 : a0.tmps.getD 1 undef = .pointer (some ⟨Bx, 0, none⟩)) (h_2 : a0.tmps.getD 2 undef = .pointer (some ⟨Br, 0, none⟩))
    (hpost : ∀ (x : Nat → Value) (w' : World) (A3 : Option Addr) (c3 : Nat) (A4 : Option Addr) (c4 : Nat), AZ w0 w' Bx Br d X Y A3 c3 A4 c4 → Q .normal (Eng.setAll a0 [3, 4, 5, 6, 7, 8, 9] x) w') :
    (Code.region 1 ops true).wp Tryz.prog Q a0 w := by
  simp only [Eng.fnOps, Eng.regOps, Tryz.f70, Option.bind_some, Option.getD_some, Nat.reduceEqDiff, ↓reduceIte, Nat.reduceBEq] at hops
  subst hops
  have HSt := Lib.hid (hst.keep (Fr.drew _ _))
  have hSS : w.drew.cell? ⟨Bx, 0, none⟩ = some (.slice d.A1 d.O.length d.c1) ∧ w.drew.cell? ⟨Bx, 1, none⟩ = some (.slice d.A2 d.I.length d.c2) := ⟨HSt.out.x.cell 0, HSt.out.x.cell 1⟩
  refine Eng.regionT (.take 0 (.take 1 (.take 3 (.take 4 (.alt 2 (.alt 5 (.take 6 (.alt 7 (.done) (.stop))) (.stop)) (.stop)))))) (fun w' => w'.cell? ⟨Bx, 0, none⟩ = some (.slice d.A1 d.O.length d.c1) ∧ w'.cell? ⟨Bx, 1, none⟩ = some (.slice d.A2 d.I.length d.c2)) (by kernel_rfl) 10 hn (by kernel_rfl) (by kernel_rfl) (by kernel_rfl) (hSS) (fun a b ha hb => ?_)
  subst ha
  have hb1 : b 1 = .pointer (some ⟨Bx, 0, none⟩) := (hb 1).symm.trans h_1
  have hb2 : b 2 = .pointer (some ⟨Br, 0, none⟩) := (hb 2).symm.trans h_2
  clear hb h_1 h_2
  have HP := Lib.hid hpost; have HN := Lib.hid hn
  clear hpost hn
  refine Eng.TW.take' (v := ?_) rfl rfl (by decide) (by kernel_rfl) (fun w hw => ?_) ?_
  rotate_left
  · (try dsimp only at hw); go_simp; first | done | with_reducible rfl
  refine Eng.TW.take' (v := ?_) rfl rfl (by decide) (by kernel_rfl) (fun w hw => ?_) ?_
  rotate_left
  · (try dsimp only at hw); go_simp; first | done | with_reducible rfl
  refine Eng.TW.take' (v := ?_) rfl rfl (by decide) (by kernel_rfl) (fun w hw => ?_) ?_
  rotate_left
  · (try dsimp only at hw); go_simp; first | done | with_reducible rfl
  refine Eng.TW.take' (v := ?_) rfl rfl (by decide) (by kernel_rfl) (fun w hw => ?_) ?_
  rotate_left
  · (try dsimp only at hw); go_simp; first | done | with_reducible rfl
  refine Eng.TW.call rfl rfl (by decide) (by kernel_rfl) ?_ (livingE (HSt.out.dl.o) hl1 X hX) ?_
  · go_simp
  rintro e w2 ⟨A3, c3, rfl, h1, h2, h3⟩
  have HSt2 := Lib.hid (HSt.out.add h1 h2 h3)
  have hSS : w2.cell? ⟨Bx, 0, none⟩ = some (.slice d.A1 d.O.length d.c1) ∧ w2.cell? ⟨Bx, 1, none⟩ = some (.slice d.A2 d.I.length d.c2) := ⟨HSt2.out.x.cell 0, HSt2.out.x.cell 1⟩
  clear h1 h2 h3
  refine ⟨_, rfl, hSS, ?_⟩
  refine Eng.TW.call rfl rfl (by decide) (by kernel_rfl) ?_ (livingE (HSt2.out.dl.i) hl2 Y hY) ?_
  · go_simp
  rintro e w3 ⟨A4, c4, rfl, h1, h2, h3⟩
  have HSt3 := Lib.hid (HSt2.out.add h1 h2 h3)
  have hSS : w3.cell? ⟨Bx, 0, none⟩ = some (.slice d.A1 d.O.length d.c1) ∧ w3.cell? ⟨Bx, 1, none⟩ = some (.slice d.A2 d.I.length d.c2) := ⟨HSt3.out.x.cell 0, HSt3.out.x.cell 1⟩
  clear h1 h2 h3
  have kb : ∀ W : World, (Instr.build TDl #[(0, .slice A3 X.length c3), (1, .slice A4 Y.length c4)]).run Tryz.prog W = .ok (.agg #[.slice A3 X.length c3, .slice A4 Y.length c4]) W := fun W => by kernel_rfl
  have r0 := HSt3.out.r.cell 0
  have r1 := HSt3.out.r.cell 1
  have f0 := HSt3.out.r.free 0
  have f1 := HSt3.out.r.free 1
  simp only [List.getElem?_toArray, List.getElem?_cons_zero, List.getElem?_cons_succ] at r0 r1
  refine ⟨_, rfl, hSS, ?_⟩
  refine Eng.TW.take' (v := ?_) rfl rfl (by decide) (by kernel_rfl) (fun w hw => ?_) ?_
  rotate_left
  · (try dsimp only at hw); go_simp; first | done | with_reducible rfl
  refine Eng.TW.step0 rfl rfl (by kernel_rfl) (by go_simp; first | done | with_reducible rfl) (⟨(HSt3.out.store hne hbr).x.cell 0, (HSt3.out.store hne hbr).x.cell 1⟩) ?_
  have HSt4 := Lib.hid (HSt3.out.store hne hbr)
  have hSS : ((w3.setCell ⟨Br, 0, none⟩ (.slice A3 X.length c3)).setCell ⟨Br, 1, none⟩ (.slice A4 Y.length c4)).cell? ⟨Bx, 0, none⟩ = some (.slice d.A1 d.O.length d.c1) ∧ ((w3.setCell ⟨Br, 0, none⟩ (.slice A3 X.length c3)).setCell ⟨Br, 1, none⟩ (.slice A4 Y.length c4)).cell? ⟨Bx, 1, none⟩ = some (.slice d.A2 d.I.length d.c2) := ⟨HSt4.out.x.cell 0, HSt4.out.x.cell 1⟩
  refine Eng.TW.end_ [3, 4, 5, 6, 7, 8, 9] HN.out (by kernel_rfl) (by kernel_rfl) ?_
  exact HP.out _ _ A3 c3 A4 c4 HSt4.out

set_option maxRecDepth 100000 in
set_option maxHeartbeats 1000000 in
theorem Alive (d : Dl) (w : World) (hd : RdD w d) (hl1 : d.O.length ≤ 1000000) (hl2 : d.I.length ≤ 1000000) (X Y : List Sn) (hX : alive d.O = X) (hY : alive d.I = Y) :
    Calls Tryz.prog 70 #[d.v] w fun e w' => ∃ A3 c3 A4 c4, e = .returned (.agg #[.slice A3 X.length c3, .slice A4 Y.length c4]) ∧ Ls w' A3 c3 X ∧ Ls w' A4 c4 Y ∧ Below w.heap.size w w' := by
  have f1 := Fr.alloc (fun _ => False) w (.cells d.arr TDl)
  have f2 := Fr.alloc (fun _ => False) (w.alloc (.cells d.arr TDl)) (.cells #[.slice none 0 0, .slice none 0 0] TDl)
  have hb : Below w.heap.size w ((w.alloc (.cells d.arr TDl)).alloc (.cells #[.slice none 0 0, .slice none 0 0] TDl)) := ((Below.refl _ w).alloc (Nat.le_refl _) _).alloc (by simp) _
  have hr := Bk.new (w.alloc (.cells d.arr TDl)) #[.slice none 0 0, .slice none 0 0] TDl
  rw [World.size_alloc] at hr
  have H := Lib.hid (show IV w _ w.heap.size (w.heap.size + 1) d [] from ⟨(hd.keep f1).keep f2, (Bk.new w d.arr TDl).fr f2 (fun _ _ h => h), hr, by simp, hb⟩)
  clear hd f1 f2 hb hr
  go_enter Tryz.func70, Tryz.ntmps70
  go_upto_region 1 with (fail)
  generalize ((w.alloc (.cells d.arr TDl)).alloc (.cells #[.slice none 0 0, .slice none 0 0] TDl)) = w1 at *
  refine al1 (by kernel_rfl) _ _ w w1 w.heap.size (w.heap.size + 1) d X Y hX hY hl1 hl2 (by omega) (by omega) H.out rfl rfl rfl ?_
  intro x w2 A3 c3 A4 c4 h
  simp only [Eng.setAll, Act.put, List.setIfInBounds_toArray, List.set_cons_succ, List.set_cons_zero]
  have HZ := Lib.hid h
  clear h
  go_wp2_with fail
  exact bodyPost_ret (results_cell_row rfl _ _ (w.heap.size + 1) TDl _ (0, 0) _ rfl HZ.out.r Tryz.underlying36 rfl (by kernel_rfl)) rfl ⟨A3, c3, A4, c4, rfl, HZ.out.a, HZ.out.c, HZ.out.b⟩
/-- The spans of records. -/
abbrev spn (L : List Sn) : List Sn := alive (setOf L)
set_option maxRecDepth 100000 in
theorem spans (A : Option Addr) (c : Nat) (L : List Sn) (w : World) (hS : Ls w A c L) (hlen : L.length ≤ 1000000) :
    Calls Tryz.prog 97 #[.slice A L.length c] w fun e w' => ∃ A' c', e = .returned (.slice A' (spn L).length c') ∧ Ls w' A' c' (spn L) ∧ Below w.heap.size w w' := by
  have HSet := Lib.hid (SetF.Set A c L w hS hlen)
  have hml := Nat.le_trans (setOf_len L) hlen
  obtain ⟨Y, hY⟩ : ∃ Y, alive (setOf L) = Y := ⟨_, rfl⟩
  show Calls _ _ _ _ fun e w' => ∃ A' c', e = .returned (.slice A' (alive (setOf L)).length c') ∧ Ls w' A' c' (alive (setOf L)) ∧ Below w.heap.size w w'
  rw [hY]
  generalize setOf L = M at *
  have HY := Lib.hid hY
  clear hS hY
  go_enter Tryz.func97, Tryz.ntmps97
  go_wp2_with fail
  refine HSet.out.mono ?_
  rintro e w1 ⟨A2, c2, rfl, hls, hown, hb⟩
  have HA := Lib.hid (Alive ⟨none, 0, [], A2, c2, M⟩ w1 ⟨Ls.nil w1, hls⟩ (by simp) hml [] Y rfl HY.out)
  have HB := Lib.hid hb
  have kb : ∀ W : World, (Instr.build TDl #[(1, .slice A2 M.length c2)]).run Tryz.prog W = .ok (.agg #[.slice none 0 0, .slice A2 M.length c2]) W := fun W => by kernel_rfl
  clear hls hown hb HSet
  go_wp2_with fail
  refine HA.out.mono ?_
  rintro e w2 ⟨A3, c3, A4, c4, rfl, h3, h4, hb⟩
  have H4 := Lib.hid h4; have HB2 := Lib.hid (HB.out.trans (hb.mono HB.out.size))
  have kf : ∀ W : World, (Instr.field TDl (.agg #[.slice A3 0 c3, .slice A4 Y.length c4]) 1).run Tryz.prog W = .ok (.slice A4 Y.length c4) W := fun W => by kernel_rfl
  clear h3 h4 hb HA kb
  go_wp2_with fail
  go_ret
  exact ⟨A4, c4, rfl, H4.out, HB2.out⟩
theorem alive_snoc {L : List Sn} {k : Nat} (h : k < L.length) : alive (L.take (k + 1)) = alive (L.take k) ++ if L[k].g then [] else [L[k]] := by
  unfold alive
  rw [List.take_succ_eq_append_getElem h, List.filter_append, List.filter_cons]
  cases L[k].g <;> simp
set_option maxRecDepth 100000 in
set_option maxHeartbeats 1000000 in
theorem RefLive (A : Option Addr) (c : Nat) (L : List Sn) (w : World) (hS : Ls w A c L) (hlen : L.length ≤ 1000000) : Calls Tryz.prog 66 #[.slice A L.length c] w (LsPost (alive L) w) := by
  obtain ⟨i0, hi, hz0, hz1, hz2⟩ := info_parts infoS
  have HS := Lib.hid hS
  clear hS
  go_enter Tryz.func66, Tryz.ntmps66
  go_wp2_with fail
  go_loopg [3, 4] L.length (fun gk v i wr => ∃ k : Nat, i = .int .i64 k ∧ k ≤ L.length ∧ gk = L.length - k ∧ wr.ownsRow w.heap.size TSn 9 v (alive (L.take k)).length ((alive (L.take k)).flatMap scs) ∧ Below w.heap.size w wr)
  case atStart => exact ⟨0, rfl, Nat.zero_le _, rfl, World.ownsRow_nil _ _ _ _, Below.refl _ _⟩
  case round =>
    obtain ⟨k, rfl, hk, hg, hown, hbel⟩ := hrel
    have HG := Lib.hid hg; have HO := Lib.hid hown; have HBe := Lib.hid hbel
    have hszw : w.heap.size ≤ wr.heap.size := hbel.size
    clear hg hown hbel
    by_cases hlt : k < L.length
    · obtain ⟨b1, o1, rfl, hb1, c1⟩ := HS.out.s.at hlt (by omega)
      have HA := Lib.hid ((At.row c1 hlt).fr (Fr.of_below' HBe.out (fun _ => False)) (fun h => h))
      have hfl : (alive (L.take k)).length ≤ k := Nat.le_trans (List.length_filter_le _ _) (by rw [List.length_take]; omega)
      have HSn := Lib.hid (alive_snoc hlt)
      clear c1 hb1
      generalize L[k] = y at *
      generalize alive (L.take k) = N at *
      have q1 : (0 : Int) ≤ (k : Int) := by omega
      have q2 : decide ((k : Int) < (L.length : Int)) = true := by simp; omega
      have HK1 := Lib.hid (ownsRow_blk HO.out)
      have yc0 : wr.cell? ⟨b1, o1 + k * 9, none⟩ = some (.int .i64 y.t) := HA.out 0 _ rfl
      have yc1 : wr.cell? ⟨b1, o1 + k * 9 + 1, none⟩ = some (.int .i64 y.i) := HA.out 1 _ rfl
      have yc2 : wr.cell? ⟨b1, o1 + k * 9 + 1 + 1, none⟩ = some (.int .i64 y.p) := HA.out 2 _ rfl
      have yc3 : wr.cell? ⟨b1, o1 + k * 9 + 1 + 1 + 1, none⟩ = some (.int .i64 y.r) := HA.out 3 _ rfl
      have yc4 : wr.cell? ⟨b1, o1 + k * 9 + 1 + 1 + 1 + 1, none⟩ = some (.string y.s) := HA.out 4 _ rfl
      have yc5 : wr.cell? ⟨b1, o1 + k * 9 + 1 + 1 + 1 + 1 + 1, none⟩ = some (.string y.o) := HA.out 5 _ rfl
      have yc6 : wr.cell? ⟨b1, o1 + k * 9 + 1 + 1 + 1 + 1 + 1 + 1, none⟩ = some (.int .i64 y.b) := HA.out 6 _ rfl
      have yc7 : wr.cell? ⟨b1, o1 + k * 9 + 1 + 1 + 1 + 1 + 1 + 1 + 1, none⟩ = some (.int .i64 y.d) := HA.out 7 _ rfl
      have yc8 : wr.cell? ⟨b1, o1 + k * 9 + 1 + 1 + 1 + 1 + 1 + 1 + 1 + 1, none⟩ = some (.bool y.g) := HA.out 8 _ rfl
      cases h1 : y.g with
      | false =>
        rw [h1] at HSn yc8
        have hown1' := HO.out.alloc (.cells y.arr TSn)
        have HYg := Lib.hid h1
        have yc8' : wr.cell? ⟨b1, o1 + k * 9 + 8, none⟩ = some (.bool false) := yc8
        clear h1
        go_upto_region 6 with (fail)
        rw [← HYg.out] at yc8
        go_wp2_with (at_builtin; refine wpList_append_sl _ rfl (.tmp 17) (.tmp 22) TSs rfl w.heap.size TSn i0 (.agg #[.int .i64 0, .int .i64 0, .int .i64 0, .int .i64 0, .string ByteArray.empty, .string ByteArray.empty, .int .i64 0, .int .i64 0, .bool false]) 9 88 Tryz.underlying27 hi hz0 hz1 hz2 rfl (by decide) _ _ _ rfl hown1' _ _ _ _ rfl (Sl.one wr TSn (scs y) 9 rfl) (by simp [Value.oneCell']) ?_ ?_ ?_ ?_)
        · unfold maxLen; omega
        · omega
        · first | omega | (simp; omega)
        intro v1 w1 hown1 hgrow1
        have HO1 := Lib.hid hown1; have HGr := Lib.hid hgrow1
        clear hown1 hgrow1 hown1' yc8' yc0 yc1 yc2 yc3 yc4 yc5 yc6 yc7 yc8
        go_wp2_with fail
        go_roundg (L.length - (k + 1))
        case rel => exact ⟨k + 1, by go_num, by omega, rfl, by rw [HSn.out]; simpa using HO1.out, (HBe.out.alloc hszw _).grown HGr.out (by simp; omega) (fun k e => (HK1.out k e).1)⟩
        case measure => have := HG.out; omega
      | true =>
        rw [h1] at HSn yc8
        have yc8' : wr.cell? ⟨b1, o1 + k * 9 + 8, none⟩ = some (.bool true) := yc8
        clear h1
        go_wp2_with fail
        go_roundg (L.length - (k + 1))
        case rel => exact ⟨k + 1, by go_num, by omega, rfl, by rw [HSn.out]; simpa using HO.out, HBe.out⟩
        case measure => have := HG.out; omega
    · obtain rfl : k = L.length := by omega
      have q2 : decide ((L.length : Int) < (L.length : Int)) = false := by simp
      rw [List.take_length] at HO
      obtain ⟨A2, c2, hv, h2, -⟩ := Sl.of_own HO.out
      subst hv
      have H2 := Lib.hid h2
      clear h2
      go_wp2_with fail
      go_ret
      exact ⟨A2, c2, rfl, ⟨H2.out, fun x hx => HS.out.ok x (List.mem_filter.1 hx).1⟩, HO.out, HBe.out⟩
set_option maxRecDepth 100000 in
theorem RefSpans (A : Option Addr) (c : Nat) (L : List Sn) (w : World) (hS : Ls w A c L) (hlen : L.length ≤ 1000000) : Calls Tryz.prog 24 #[.slice A L.length c] w (LsPost (spn L) w) := by
  have HSet := Lib.hid (RefSet A c L w hS hlen)
  have hml := Nat.le_trans (setOf_len L) hlen
  show Calls _ _ _ _ (LsPost (alive (setOf L)) w)
  generalize setOf L = M at *
  clear hS
  go_enter Tryz.func24, Tryz.ntmps24
  go_wp2_with fail
  refine HSet.out.mono ?_
  rintro e w1 ⟨A2, c2, rfl, hls, hown, hb⟩
  have HL := Lib.hid (RefLive A2 c2 M w1 hls hml)
  have HB := Lib.hid hb
  clear hls hown hb HSet
  go_wp2_with fail
  refine HL.out.mono ?_
  rintro e w2 ⟨A3, c3, rfl, h3, h4, hb⟩
  have H3 := Lib.hid h3; have H4 := Lib.hid h4; have HB2 := Lib.hid (HB.out.trans (hb.mono HB.out.size)); have HZ := Lib.hid HB.out.size
  clear h3 h4 hb HL
  go_wp2_with fail
  go_ret
  exact ⟨A3, c3, rfl, H3.out, ownsRow_base H4.out HZ.out, HB2.out⟩
end ClsW
end Go.Proofs.YtgfjpnpbkkadpaaGreat
