/- The document's shapes: places that are taken out, and put in. -/
import Derived.Test.YtolpdgaomlhgdaaRef23
namespace Go.Proofs.Ytolpdgaomlhgdaa
open Go.RowKit
namespace Ref23
open BagP Bag ShapeP Fm Shape
attribute [local go_sem] Eng.ev Eng.getO_cons Eng.getO_nil
abbrev TPs : TypeId := 115
theorem cells_onep {L : List Pl} : ∀ u ∈ L.flatMap plc, u.oneCell' = true := by
  intro u hu
  obtain ⟨x, -, hx⟩ := List.mem_flatMap.1 hu
  simp at hx
  rcases hx with rfl | rfl | rfl | rfl | rfl | rfl <;> rfl
theorem infoP : (Try.prog.info? 156).map (fun i => (i.zero, i.size, i.bytes)) = some (some (.agg #[.int .i64 0, .int .i64 0, .int .i64 0, .int .i64 0, .int .i64 0, .int .i64 0]), 6, 48) := by kernel_rfl
set_option maxRecDepth 100000 in
theorem kind_ (x y : Pl) (w : World) : Calls Try.prog 123 #[plv x, plv y] w fun e w' => e = .returned (.bool (x.k == y.k)) ∧ Fr (fun _ => False) w w' := by
  obtain ⟨t, i, c, d, p, f⟩ := x
  obtain ⟨t', i', c', d', p', f'⟩ := y
  have f0 : Hid (Fr (fun _ => False) w ((w.alloc (.cells (pla ⟨t, i, c, d, p, f⟩) TP)).alloc (.cells (pla ⟨t', i', c', d', p', f'⟩) TP))) := (Fr.alloc _ _ _).trans (Fr.alloc (fun _ => False) _ _) (fun _ _ h => h) (fun _ _ h => h)
  by_cases h1 : c = c'
  · by_cases h2 : d = d'
    · by_cases h3 : f = f'
      · have HE : Hid (((c, d, f) == (c', d', f')) = true) := by show _ = _; simp [h1, h2, h3]
        have q1 : (c == c') = true := by simpa using h1
        have q2 : (d == d') = true := by simpa using h2
        have q3 : (f == f') = true := by simpa using h3
        clear h1 h2 h3
        go_enter Try.func123, Try.ntmps123
        go_wp2_with fail
        go_ret
        exact ⟨by rw [show Pl.k ⟨t, i, c, d, p, f⟩ = (c, d, f) from rfl, show Pl.k ⟨t', i', c', d', p', f'⟩ = (c', d', f') from rfl, HE.out]; rfl, f0.out⟩
      · have HE : Hid (((c, d, f) == (c', d', f')) = false) := by show _ = _; simp [h1, h2, h3]
        have q1 : (c == c') = true := by simpa using h1
        have q2 : (d == d') = true := by simpa using h2
        have q3 : (f == f') = false := by simpa using h3
        clear h1 h2 h3
        go_enter Try.func123, Try.ntmps123
        go_wp2_with fail
        go_ret
        exact ⟨by rw [show Pl.k ⟨t, i, c, d, p, f⟩ = (c, d, f) from rfl, show Pl.k ⟨t', i', c', d', p', f'⟩ = (c', d', f') from rfl, HE.out]; rfl, f0.out⟩
    · have HE : Hid (((c, d, f) == (c', d', f')) = false) := by show _ = _; simp [h1, h2]
      have q1 : (c == c') = true := by simpa using h1
      have q2 : (d == d') = false := by simpa using h2
      clear h1 h2
      go_enter Try.func123, Try.ntmps123
      go_wp2_with fail
      go_ret
      exact ⟨by rw [show Pl.k ⟨t, i, c, d, p, f⟩ = (c, d, f) from rfl, show Pl.k ⟨t', i', c', d', p', f'⟩ = (c', d', f') from rfl, HE.out]; rfl, f0.out⟩
  · have HE : Hid (((c, d, f) == (c', d', f')) = false) := by show _ = _; simp [h1]
    have q1 : (c == c') = false := by simpa using h1
    clear h1
    go_enter Try.func123, Try.ntmps123
    go_wp2_with fail
    go_ret
    exact ⟨by rw [show Pl.k ⟨t, i, c, d, p, f⟩ = (c, d, f) from rfl, show Pl.k ⟨t', i', c', d', p', f'⟩ = (c', d', f') from rfl, HE.out]; rfl, f0.out⟩
theorem kindc (t i c d p f t' i' c' d' p' f' : Int) (w : World) : Calls Try.prog 123 #[.agg #[.int .i64 t, .int .i64 i, .int .i64 c, .int .i64 d, .int .i64 p, .int .i64 f], .agg #[.int .i64 t', .int .i64 i', .int .i64 c', .int .i64 d', .int .i64 p', .int .i64 f']] w fun e w' => e = .returned (.bool ((c, d, f) == (c', d', f'))) ∧ Fr (fun _ => False) w w' := kind_ ⟨t, i, c, d, p, f⟩ ⟨t', i', c', d', p', f'⟩ w
structure DS (w0 w : World) (b1 o1 Bp : Nat) (t i c d p f t' i' c' d' p' f' : Int) : Prop where
  e : ∀ j u, (plc ⟨t, i, c, d, p, f⟩)[j]? = some u → w.cell? ⟨b1, o1 + j, none⟩ = some u
  b : b1 < w.heap.size
  p : Bk w Bp (pla ⟨t', i', c', d', p', f'⟩) TP
  f : Fr (fun _ => False) w0 w
theorem DS.fr {w0 w w' : World} {b1 o1 Bp : Nat} {t i c d p f t' i' c' d' p' f' : Int} (h : DS w0 w b1 o1 Bp t i c d p f t' i' c' d' p' f') (hf : Fr (fun _ => False) w w') : DS w0 w' b1 o1 Bp t i c d p f t' i' c' d' p' f' :=
  ⟨fun j u hu => (World.cell?_of_block (w := w) (a := ⟨b1, _, none⟩) (hf.block b1 h.b (fun h => h))).trans (h.e j u hu), Nat.lt_of_lt_of_le h.b hf.size, h.p.fr hf (fun _ _ h => h), h.f.trans hf (fun _ _ h => h) (fun _ _ h => h)⟩
set_option maxRecDepth 100000 in
set_option maxHeartbeats 400000 in
theorem d6 {ops : Array Oper} (hops : Eng.fnOps Try.f112 6 = ops) (a0 : Act) (Q : Exit → Act → World → Prop) (w0 w : World) (b1 o1 cp n k Bp : Nat) (t i c d p f t' i' c' d' p' f' : Int) (hst : DS w0 w b1 (o1 + k * 6) Bp t i c d p f t' i' c' d' p' f') (hlt : k < n) (bb : Bool) (q : Hid (((c, d, f) == (c', d', f')) = bb))
    (hn : a0.tmps.size = 34) (h_0 : a0.tmps.getD 0 undef = .slice (some ⟨b1, o1, none⟩) n cp) (h_3 : a0.tmps.getD 3 undef = .pointer (some ⟨Bp, 0, none⟩)) (h_7 : a0.tmps.getD 7 undef = .bool false) (h_8 : a0.tmps.getD 8 undef = .int .i64 (k : Int))
    (hpost : ∀ (x : Nat → Value) (w' : World), x 24 = .bool bb → Fr (fun _ => False) w0 w' → Q .normal (Eng.setAll a0 [15, 16, 17, 18, 19, 20, 21, 22, 23, 24] x) w') :
    (Code.region 6 ops true).wp Try.prog Q a0 w := by
  simp only [Eng.fnOps, Eng.regOps, Try.f112, Option.bind_some, Option.getD_some, Nat.reduceEqDiff, ↓reduceIte, Nat.reduceBEq] at hops
  subst hops
  have q1 : (0 : Int) ≤ (k : Int) := by omega
  have q2 : (k : Int) < (n : Int) := by omega
  have HSt := Lib.hid (hst.fr (Fr.drew _ _))
  have hSS : w.drew.cell? ⟨b1, o1 + k * 6, none⟩ = some (.int .i64 t) ∧ w.drew.cell? ⟨b1, o1 + k * 6 + 1, none⟩ = some (.int .i64 i) ∧ w.drew.cell? ⟨b1, o1 + k * 6 + 1 + 1, none⟩ = some (.int .i64 c) ∧ w.drew.cell? ⟨b1, o1 + k * 6 + 1 + 1 + 1, none⟩ = some (.int .i64 d) ∧ w.drew.cell? ⟨b1, o1 + k * 6 + 1 + 1 + 1 + 1, none⟩ = some (.int .i64 p) ∧ w.drew.cell? ⟨b1, o1 + k * 6 + 1 + 1 + 1 + 1 + 1, none⟩ = some (.int .i64 f) ∧ w.drew.cell? ⟨Bp, 0, none⟩ = some (.int .i64 t') ∧ w.drew.cell? ⟨Bp, 1, none⟩ = some (.int .i64 i') ∧ w.drew.cell? ⟨Bp, 2, none⟩ = some (.int .i64 c') ∧ w.drew.cell? ⟨Bp, 3, none⟩ = some (.int .i64 d') ∧ w.drew.cell? ⟨Bp, 4, none⟩ = some (.int .i64 p') ∧ w.drew.cell? ⟨Bp, 5, none⟩ = some (.int .i64 f') := ⟨HSt.out.e 0 _ rfl, HSt.out.e 1 _ rfl, HSt.out.e 2 _ rfl, HSt.out.e 3 _ rfl, HSt.out.e 4 _ rfl, HSt.out.e 5 _ rfl, HSt.out.p.cell 0, HSt.out.p.cell 1, HSt.out.p.cell 2, HSt.out.p.cell 3, HSt.out.p.cell 4, HSt.out.p.cell 5⟩
  refine Eng.regionN [(0, true), (1, true), (2, true), (3, true), (4, true), (5, true), (6, true), (7, true), (8, false), (9, true)] (fun w' => w'.cell? ⟨b1, o1 + k * 6, none⟩ = some (.int .i64 t) ∧ w'.cell? ⟨b1, o1 + k * 6 + 1, none⟩ = some (.int .i64 i) ∧ w'.cell? ⟨b1, o1 + k * 6 + 1 + 1, none⟩ = some (.int .i64 c) ∧ w'.cell? ⟨b1, o1 + k * 6 + 1 + 1 + 1, none⟩ = some (.int .i64 d) ∧ w'.cell? ⟨b1, o1 + k * 6 + 1 + 1 + 1 + 1, none⟩ = some (.int .i64 p) ∧ w'.cell? ⟨b1, o1 + k * 6 + 1 + 1 + 1 + 1 + 1, none⟩ = some (.int .i64 f) ∧ w'.cell? ⟨Bp, 0, none⟩ = some (.int .i64 t') ∧ w'.cell? ⟨Bp, 1, none⟩ = some (.int .i64 i') ∧ w'.cell? ⟨Bp, 2, none⟩ = some (.int .i64 c') ∧ w'.cell? ⟨Bp, 3, none⟩ = some (.int .i64 d') ∧ w'.cell? ⟨Bp, 4, none⟩ = some (.int .i64 p') ∧ w'.cell? ⟨Bp, 5, none⟩ = some (.int .i64 f')) (by kernel_rfl) 34 hn (by kernel_rfl) rfl (by kernel_rfl) (hSS) (fun a b ha hb => ?_)
  subst ha
  have hb0 : b 0 = .slice (some ⟨b1, o1, none⟩) n cp := (hb 0).symm.trans h_0
  have hb3 : b 3 = .pointer (some ⟨Bp, 0, none⟩) := (hb 3).symm.trans h_3
  have hb7 : b 7 = .bool false := (hb 7).symm.trans h_7
  have hb8 : b 8 = .int .i64 (k : Int) := (hb 8).symm.trans h_8
  clear hb h_0 h_3 h_7 h_8
  have HP := Lib.hid hpost; have HN := Lib.hid hn
  clear hpost hn
  refine Eng.Sch.take (v := ?_) rfl rfl (by decide) (by kernel_rfl) (fun w hw => ?_) ?_
  rotate_left
  · (try dsimp only at hw); go_simp; first | done | with_reducible rfl
  refine Eng.Sch.take (v := ?_) rfl rfl (by decide) (by kernel_rfl) (fun w hw => ?_) ?_
  rotate_left
  · (try dsimp only at hw); go_simp; first | done | with_reducible rfl
  refine Eng.Sch.take (v := ?_) rfl rfl (by decide) (by kernel_rfl) (fun w hw => ?_) ?_
  rotate_left
  · (try dsimp only at hw); go_simp; first | done | with_reducible rfl
  refine Eng.Sch.take (v := ?_) rfl rfl (by decide) (by kernel_rfl) (fun w hw => ?_) ?_
  rotate_left
  · (try dsimp only at hw); go_simp; first | done | with_reducible rfl
  refine Eng.Sch.take (v := ?_) rfl rfl (by decide) (by kernel_rfl) (fun w hw => ?_) ?_
  rotate_left
  · (try dsimp only at hw); go_simp; first | done | with_reducible rfl
  refine Eng.Sch.take (v := ?_) rfl rfl (by decide) (by kernel_rfl) (fun w hw => ?_) ?_
  rotate_left
  · (try dsimp only at hw); go_simp; first | done | with_reducible rfl
  refine Eng.Sch.take (v := ?_) rfl rfl (by decide) (by kernel_rfl) (fun w hw => ?_) ?_
  rotate_left
  · (try dsimp only at hw); go_simp; first | done | with_reducible rfl
  refine Eng.Sch.take (v := ?_) rfl rfl (by decide) (by kernel_rfl) (fun w hw => ?_) ?_
  rotate_left
  · (try dsimp only at hw); go_simp; first | done | with_reducible rfl
  refine Eng.Sch.call rfl rfl (by decide) (by kernel_rfl) ?_ (kindc t i c d p f t' i' c' d' p' f' _) ?_
  · go_simp
  rintro e w2 ⟨rfl, hf⟩
  rw [q.out]
  have HSt1 := Lib.hid (HSt.out.fr hf)
  have hSS : w2.cell? ⟨b1, o1 + k * 6, none⟩ = some (.int .i64 t) ∧ w2.cell? ⟨b1, o1 + k * 6 + 1, none⟩ = some (.int .i64 i) ∧ w2.cell? ⟨b1, o1 + k * 6 + 1 + 1, none⟩ = some (.int .i64 c) ∧ w2.cell? ⟨b1, o1 + k * 6 + 1 + 1 + 1, none⟩ = some (.int .i64 d) ∧ w2.cell? ⟨b1, o1 + k * 6 + 1 + 1 + 1 + 1, none⟩ = some (.int .i64 p) ∧ w2.cell? ⟨b1, o1 + k * 6 + 1 + 1 + 1 + 1 + 1, none⟩ = some (.int .i64 f) ∧ w2.cell? ⟨Bp, 0, none⟩ = some (.int .i64 t') ∧ w2.cell? ⟨Bp, 1, none⟩ = some (.int .i64 i') ∧ w2.cell? ⟨Bp, 2, none⟩ = some (.int .i64 c') ∧ w2.cell? ⟨Bp, 3, none⟩ = some (.int .i64 d') ∧ w2.cell? ⟨Bp, 4, none⟩ = some (.int .i64 p') ∧ w2.cell? ⟨Bp, 5, none⟩ = some (.int .i64 f') := ⟨HSt1.out.e 0 _ rfl, HSt1.out.e 1 _ rfl, HSt1.out.e 2 _ rfl, HSt1.out.e 3 _ rfl, HSt1.out.e 4 _ rfl, HSt1.out.e 5 _ rfl, HSt1.out.p.cell 0, HSt1.out.p.cell 1, HSt1.out.p.cell 2, HSt1.out.p.cell 3, HSt1.out.p.cell 4, HSt1.out.p.cell 5⟩
  clear hf
  refine ⟨_, rfl, hSS, ?_⟩
  refine Eng.Sch.take (v := ?_) rfl rfl (by decide) (by kernel_rfl) (fun w hw => ?_) ?_
  rotate_left
  · (try dsimp only at hw); go_simp; first | done | with_reducible rfl
  refine Eng.Sch.end_ [15, 16, 17, 18, 19, 20, 21, 22, 23, 24] HN.out (by kernel_rfl) (by kernel_rfl) ?_
  exact HP.out _ _ rfl HSt1.out.f

set_option maxRecDepth 100000 in
set_option maxHeartbeats 400000 in
theorem d6t {ops : Array Oper} (hops : Eng.fnOps Try.f112 6 = ops) (a0 : Act) (Q : Exit → Act → World → Prop) (w0 w : World) (hst : Fr (fun _ => False) w0 w)
    (hn : a0.tmps.size = 34) (h_7 : a0.tmps.getD 7 undef = .bool true)
    (hpost : ∀ (x : Nat → Value) (w' : World), x 24 = .bool false → Fr (fun _ => False) w0 w' → Q .normal (Eng.setAll a0 [15, 16, 17, 18, 19, 20, 21, 22, 23, 24] x) w') :
    (Code.region 6 ops true).wp Try.prog Q a0 w := by
  simp only [Eng.fnOps, Eng.regOps, Try.f112, Option.bind_some, Option.getD_some, Nat.reduceEqDiff, ↓reduceIte, Nat.reduceBEq] at hops
  subst hops
  have HSt := Lib.hid (hst.trans (Fr.drew (fun _ => False) w) (T := fun _ => False) (fun _ _ h => h) (fun _ _ h => h))
  have hSS : True := trivial
  refine Eng.regionN [(0, true), (1, true), (2, true), (3, true), (4, true), (5, true), (6, true), (7, true), (8, true), (9, true)] (fun w' => True) (by kernel_rfl) 34 hn (by kernel_rfl) rfl (by kernel_rfl) (hSS) (fun a b ha hb => ?_)
  subst ha
  have hb7 : b 7 = .bool true := (hb 7).symm.trans h_7
  clear hb h_7
  have HP := Lib.hid hpost; have HN := Lib.hid hn
  clear hpost hn
  refine Eng.Sch.take (v := ?_) rfl rfl (by decide) (by kernel_rfl) (fun w hw => ?_) ?_
  rotate_left
  · (try dsimp only at hw); go_simp; first | done | with_reducible rfl
  refine Eng.Sch.take (v := ?_) rfl rfl (by decide) (by kernel_rfl) (fun w hw => ?_) ?_
  rotate_left
  · (try dsimp only at hw); go_simp; first | done | with_reducible rfl
  refine Eng.Sch.take (v := ?_) rfl rfl (by decide) (by kernel_rfl) (fun w hw => ?_) ?_
  rotate_left
  · (try dsimp only at hw); go_simp; first | done | with_reducible rfl
  refine Eng.Sch.skip rfl rfl (by decide) (by kernel_rfl) ?_
  refine Eng.Sch.skip rfl rfl (by decide) (by kernel_rfl) ?_
  refine Eng.Sch.skip rfl rfl (by decide) (by kernel_rfl) ?_
  refine Eng.Sch.skip rfl rfl (by decide) (by kernel_rfl) ?_
  refine Eng.Sch.skip rfl rfl (by decide) (by kernel_rfl) ?_
  refine Eng.Sch.skip rfl rfl (by decide) (by kernel_rfl) ?_
  refine Eng.Sch.take (v := ?_) rfl rfl (by decide) (by kernel_rfl) (fun w hw => ?_) ?_
  rotate_left
  · (try dsimp only at hw); go_simp; first | done | with_reducible rfl
  refine Eng.Sch.end_ [15, 16, 17, 18, 19, 20, 21, 22, 23, 24] HN.out (by kernel_rfl) (by kernel_rfl) ?_
  exact HP.out _ _ rfl HSt.out

set_option maxRecDepth 100000 in
set_option maxHeartbeats 1000000 in
theorem Drop (A : Option Addr) (cp : Nat) (xs : List Pl) (x : Pl) (w : World) (hS : Sl w 6 A xs.length cp (xs.flatMap plc)) (hx : xs.length ≤ 1000) :
    Calls Try.prog 112 #[.slice A xs.length cp, plv x] w fun e w' => ∃ v, e = .returned (.tuple #[v, .bool (dropP x.k xs).2]) ∧ w'.ownsRow w.heap.size TP 6 v (dropP x.k xs).1.length ((dropP x.k xs).1.flatMap plc) ∧ Below w.heap.size w w' := by
  obtain ⟨i0, hi, hz0, hz1, hz2⟩ := info_parts infoP
  obtain ⟨t', i', c', d', p', f'⟩ := x
  have HS := Lib.hid (hS.fr (Fr.alloc (fun _ => False) w (.cells (pla ⟨t', i', c', d', p', f'⟩) TP)) (fun _ _ h => h))
  have HB0 := Lib.hid ((Below.refl w.heap.size w).alloc (Nat.le_refl _) (.cells (pla ⟨t', i', c', d', p', f'⟩) TP))
  have HP := Lib.hid (Bk.new w (pla ⟨t', i', c', d', p', f'⟩) TP)
  have HSz : Hid (w.heap.size ≤ (w.alloc (.cells (pla ⟨t', i', c', d', p', f'⟩) TP)).heap.size) := by show _ ≤ _; simp
  have HPb := Lib.hid (lt_of_heap HP.out)
  clear hS
  go_enter Try.func112, Try.ntmps112
  go_wp2_with fail
  generalize w.alloc (.cells (pla ⟨t', i', c', d', p', f'⟩) TP) = w1 at *
  generalize hBp : w.heap.size = Bp at *
  have HBp := Lib.hid hBp
  clear hBp
  go_loopg [6, 7, 8] xs.length (fun gk v g i wr => ∃ (k : Nat) (P : List Pl) (b : Bool), i = .int .i64 k ∧ k ≤ xs.length ∧ gk = xs.length - k ∧ dropP (c', d', f') (xs.take k) = (P, b) ∧ g = .bool b ∧ wr.ownsRow w1.heap.size TP 6 v P.length (P.flatMap plc) ∧ Below w1.heap.size w1 wr)
  case atStart => exact ⟨0, [], false, rfl, Nat.zero_le _, rfl, rfl, rfl, World.ownsRow_nil _ _ _ _, Below.refl _ _⟩
  case round =>
    obtain ⟨k, P, b, rfl, hk, hg, hd, rfl, hown, hbel⟩ := hrel
    have HG := Lib.hid hg; have HDp := Lib.hid hd; have HBe := Lib.hid hbel
    have hszw : w1.heap.size ≤ wr.heap.size := hbel.size
    have HPl : Hid (P.length ≤ 1000) := by
      have h1 := dropP_len (c', d', f') (xs.take k)
      rw [hd] at h1; rw [List.length_take] at h1; dsimp only at h1
      show _ ≤ _; omega
    clear hg hd hbel
    by_cases hlt : k < xs.length
    · obtain ⟨b1, o1, rfl, hb1, hc1⟩ := HS.out.at hlt (by omega)
      have HE := Lib.hid (fun (w' : World) (hb : Below w1.heap.size w1 w') (j : Nat) (u : Value) (hj : j < 6) (hu : (plc xs[k])[j]? = some u) => (hb.cell (p := ⟨b1, o1 + (k * 6 + j), none⟩) hb1).trans (hc1 _ u (by rw [flat_at plc_len hlt hj]; exact hu)))
      have HSn := Lib.hid (show dropP (c', d', f') (xs.take (k + 1)) = dropF (c', d', f') (P, b) xs[k] by rw [List.take_succ_eq_append_getElem hlt, dropP_snoc, HDp.out])
      clear hc1
      generalize xs[k] = x at *
      obtain ⟨t, i, c, d, p, f⟩ := x
      have HD : Hid (∀ w' : World, Below w1.heap.size w1 w' → w'.cell? ⟨b1, o1 + k * 6, none⟩ = some (.int .i64 t) ∧ w'.cell? ⟨b1, o1 + k * 6 + 1, none⟩ = some (.int .i64 i) ∧ w'.cell? ⟨b1, o1 + k * 6 + 1 + 1, none⟩ = some (.int .i64 c) ∧ w'.cell? ⟨b1, o1 + k * 6 + 1 + 1 + 1, none⟩ = some (.int .i64 d) ∧ w'.cell? ⟨b1, o1 + k * 6 + 1 + 1 + 1 + 1, none⟩ = some (.int .i64 p) ∧ w'.cell? ⟨b1, o1 + k * 6 + 1 + 1 + 1 + 1 + 1, none⟩ = some (.int .i64 f)) := fun w' hb =>
        ⟨HE.out w' hb 0 _ (by omega) rfl, HE.out w' hb 1 _ (by omega) rfl, HE.out w' hb 2 _ (by omega) rfl, HE.out w' hb 3 _ (by omega) rfl, HE.out w' hb 4 _ (by omega) rfl, HE.out w' hb 5 _ (by omega) rfl⟩
      have HSt := Lib.hid (show DS wr wr b1 (o1 + k * 6) Bp t i c d p f t' i' c' d' p' f' from ⟨fun j u hu => by
          have hj : j < 6 := by have := (List.getElem?_eq_some_iff.1 hu).1; simpa using this
          rw [Nat.add_assoc]; exact HE.out wr HBe.out j u hj hu, Nat.lt_of_lt_of_le hb1 hszw, (HBe.out.block Bp HPb.out).trans HP.out, Fr.refl _ _⟩)
      cases b with
      | true =>
        have HSn : Hid (dropP (c', d', f') (xs.take (k + 1)) = (P ++ [⟨t, i, c, d, p, f⟩], true)) := HSn.out
        go_upto_region 6 with (fail)
        refine d6t (by kernel_rfl) _ _ wr wr (Fr.refl _ _) rfl rfl ?_
        intro y w6 hy hst
        simp only [Eng.setAll, Act.put, List.setIfInBounds_toArray, List.set_cons_succ, List.set_cons_zero]
        rw [hy]
        clear hy HSt HE
        have hown1' := (ownsRow_fr hown hst (fun _ _ h => h)).alloc (.cells #[.int .i64 t, .int .i64 i, .int .i64 c, .int .i64 d, .int .i64 p, .int .i64 f] TP)
        have HK1 := Lib.hid (ownsRow_blk hown)
        have HBe6 := Lib.hid (HBe.out.trans (hst.below hszw (fun _ _ h => h)))
        have hszw6 : w1.heap.size ≤ w6.heap.size := HBe6.out.size
        have HK6 := Lib.hid (ownsRow_blk (ownsRow_fr hown hst (fun _ _ h => h)))
        obtain ⟨d0, d1, d2, d3, d4, d5⟩ := HD.out w6 (HBe6.out)
        clear hown hst
        go_wp2_with (at_builtin; refine wpList_append_sl _ rfl (.tmp 25) (.tmp 30) TPs rfl w1.heap.size TP i0 _ 6 48 Try.underlying115 hi hz0 hz1 hz2 rfl (by decide) _ _ _ rfl hown1' _ _ _ _ rfl (Sl.one w6 TP (plc ⟨t, i, c, d, p, f⟩) 6 rfl) (by simp [Value.oneCell']) ?_ ?_ ?_ ?_)
        · unfold maxLen; have := HPl.out; omega
        · have := HPl.out; omega
        · first | omega | (simp; omega)
        intro v1 w7 hown1 hgrow1
        have HO := Lib.hid hown1; have HGr := Lib.hid hgrow1
        clear hown1 hgrow1 hown1'
        go_wp2_with fail
        go_roundg (xs.length - (k + 1))
        case rel => exact ⟨k + 1, P ++ [⟨t, i, c, d, p, f⟩], _, by go_num, by omega, rfl, HSn.out, rfl, by simpa using HO.out, (HBe6.out.alloc hszw6 _).grown HGr.out (by simp; omega) (fun k e => (HK6.out k e).1)⟩
        case measure => have := HG.out; omega
      | false =>
        cases hq : ((c, d, f) == (c', d', f')) with
        | true =>
          have HSn : Hid (dropP (c', d', f') (xs.take (k + 1)) = (P, true)) := by show _ = _; rw [HSn.out, dropF, show Pl.k ⟨t, i, c, d, p, f⟩ = (c, d, f) from rfl, hq]; rfl
          have HQ := Lib.hid hq
          clear hq
          go_upto_region 6 with (fail)
          refine d6 (by kernel_rfl) _ _ wr wr b1 o1 cp xs.length k Bp t i c d p f t' i' c' d' p' f' HSt.out hlt true HQ rfl rfl rfl rfl rfl ?_
          intro y w6 hy hst
          simp only [Eng.setAll, Act.put, List.setIfInBounds_toArray, List.set_cons_succ, List.set_cons_zero]
          rw [hy]
          have HO := Lib.hid (ownsRow_fr hown hst (fun _ _ h => h))
          have HBe6 := Lib.hid (HBe.out.trans (hst.below hszw (fun _ _ h => h)))
          clear hy HSt HE hown hst
          go_wp2_with fail
          go_roundg (xs.length - (k + 1))
          case rel => exact ⟨k + 1, P, true, by go_num, by omega, rfl, HSn.out, rfl, HO.out, HBe6.out⟩
          case measure => have := HG.out; omega
        | false =>
          have HSn : Hid (dropP (c', d', f') (xs.take (k + 1)) = (P ++ [⟨t, i, c, d, p, f⟩], false)) := by show _ = _; rw [HSn.out, dropF, show Pl.k ⟨t, i, c, d, p, f⟩ = (c, d, f) from rfl, hq]; rfl
          have HQ := Lib.hid hq
          clear hq
          go_upto_region 6 with (fail)
          refine d6 (by kernel_rfl) _ _ wr wr b1 o1 cp xs.length k Bp t i c d p f t' i' c' d' p' f' HSt.out hlt false HQ rfl rfl rfl rfl rfl ?_
          intro y w6 hy hst
          simp only [Eng.setAll, Act.put, List.setIfInBounds_toArray, List.set_cons_succ, List.set_cons_zero]
          rw [hy]
          clear hy HSt HE
          have hown1' := (ownsRow_fr hown hst (fun _ _ h => h)).alloc (.cells #[.int .i64 t, .int .i64 i, .int .i64 c, .int .i64 d, .int .i64 p, .int .i64 f] TP)
          have HK1 := Lib.hid (ownsRow_blk hown)
          have HBe6 := Lib.hid (HBe.out.trans (hst.below hszw (fun _ _ h => h)))
          have hszw6 : w1.heap.size ≤ w6.heap.size := HBe6.out.size
          have HK6 := Lib.hid (ownsRow_blk (ownsRow_fr hown hst (fun _ _ h => h)))
          obtain ⟨d0, d1, d2, d3, d4, d5⟩ := HD.out w6 (HBe6.out)
          clear hown hst
          go_wp2_with (at_builtin; refine wpList_append_sl _ rfl (.tmp 25) (.tmp 30) TPs rfl w1.heap.size TP i0 _ 6 48 Try.underlying115 hi hz0 hz1 hz2 rfl (by decide) _ _ _ rfl hown1' _ _ _ _ rfl (Sl.one w6 TP (plc ⟨t, i, c, d, p, f⟩) 6 rfl) (by simp [Value.oneCell']) ?_ ?_ ?_ ?_)
          · unfold maxLen; have := HPl.out; omega
          · have := HPl.out; omega
          · first | omega | (simp; omega)
          intro v1 w7 hown1 hgrow1
          have HO := Lib.hid hown1; have HGr := Lib.hid hgrow1
          clear hown1 hgrow1 hown1'
          go_wp2_with fail
          go_roundg (xs.length - (k + 1))
          case rel => exact ⟨k + 1, P ++ [⟨t, i, c, d, p, f⟩], _, by go_num, by omega, rfl, HSn.out, rfl, by simpa using HO.out, (HBe6.out.alloc hszw6 _).grown HGr.out (by simp; omega) (fun k e => (HK6.out k e).1)⟩
          case measure => have := HG.out; omega
    · obtain rfl : k = xs.length := by omega
      have HT : Hid (dropP (c', d', f') xs = (P, b)) := by show _ = _; rw [← HDp.out, List.take_length]
      have HO := Lib.hid hown
      clear hown
      go_wp2_with fail
      go_ret2
      have hT := HT.out
      refine ⟨_, by rw [show Pl.k ⟨t', i', c', d', p', f'⟩ = (c', d', f') from rfl, hT]; rfl, ?_, ?_⟩
      · rw [show Pl.k ⟨t', i', c', d', p', f'⟩ = (c', d', f') from rfl, hT]; rw [HBp.out]; exact ownsRow_base HO.out HSz.out
      · rw [HBp.out]; exact HB0.out.trans (HBe.out.mono HSz.out)
theorem snocInd {α : Type} {p : List α → Prop} (h0 : p []) (h1 : ∀ l a, p l → p (l ++ [a])) (l : List α) : p l := by
  rw [← List.reverse_reverse l]
  induction l.reverse with
  | nil => exact h0
  | cons a t ih => rw [List.reverse_cons]; exact h1 _ _ ih
theorem dropP_true {k : K3} {xs : List Pl} {P : List Pl} {b : Bool} (h : dropP k xs = (P, b)) : P.map Pl.k = (xs.map Pl.k).erase k ∧ b = decide (k ∈ xs.map Pl.k) := by have := dropP_k k xs; rw [h] at this; exact this
/-- What is left when some are taken out; none: one of them isn't there. -/
def remR (all out : List Pl) : Option (List Pl) := out.foldl (fun s p => s.bind (fun l => if (dropP p.k l).2 then some (dropP p.k l).1 else none)) (some all)
theorem remR_snoc (all out : List Pl) (p : Pl) : remR all (out ++ [p]) = (remR all out).bind (fun l => if (dropP p.k l).2 then some (dropP p.k l).1 else none) := by simp [remR]
theorem remR_none {all out : List Pl} (h : remR all out = none) (more : List Pl) : remR all (out ++ more) = none := by
  induction more using snocInd with
  | h0 => simpa using h
  | h1 l p ih => rw [← List.append_assoc, remR_snoc, ih]; rfl
theorem remR_law (all : List Pl) : ∀ out : List Pl, (∀ l, remR all out = some l → hasB (all.map Pl.k) (out.map Pl.k) = true ∧ l.map Pl.k = dif (all.map Pl.k) (out.map Pl.k)) ∧ (remR all out = none → hasB (all.map Pl.k) (out.map Pl.k) = false) := by
  intro out
  induction out using snocInd with
  | h0 => exact ⟨fun l h => by simp [remR] at h; subst h; exact ⟨rfl, rfl⟩, fun h => by simp [remR] at h⟩
  | h1 t p ih =>
    rw [remR_snoc]
    obtain ⟨h1, h2⟩ := ih
    cases hr : remR all t with
    | none => exact ⟨fun l h => by simp at h, fun _ => by rw [List.map_append, List.map_singleton, hasB_snoc, h2 hr]; rfl⟩
    | some l =>
      obtain ⟨g1, g2⟩ := h1 l hr
      have hd := dropP_k p.k l
      simp only [Option.bind_some]
      rw [List.map_append, List.map_singleton, hasB_snoc, g1, Bool.true_and]
      have hm : (p.k ∈ l.map Pl.k) ↔ (t.map Pl.k).count p.k + 1 ≤ (all.map Pl.k).count p.k := by rw [g2]; exact mem_dif
      by_cases hb : p.k ∈ l.map Pl.k
      · have e2 : (dropP p.k l).2 = true := by rw [hd.2]; simpa using hb
        rw [e2]
        refine ⟨fun l' h => ?_, fun h => by simp at h⟩
        simp only [↓reduceIte, Option.some.injEq] at h
        subst h
        exact ⟨by simpa using hm.1 hb, by rw [hd.1, dif_snoc, g2]⟩
      · have e2 : (dropP p.k l).2 = false := by rw [hd.2]; simpa using hb
        rw [e2]
        refine ⟨fun l' h => by simp at h, fun _ => ?_⟩
        have := fun h => hb (hm.2 h)
        simpa using this
theorem remR_len {all out l : List Pl} (h : remR all out = some l) : l.length ≤ all.length := by
  have := congrArg List.length ((remR_law all out).1 l h).2
  rw [List.length_map] at this
  have h2 := dif_len (out.map Pl.k) (all.map Pl.k)
  rw [List.length_map] at h2; omega
/-- What places become by a shift; false: they don't. -/
def appR (all out ins : List Pl) : List Pl × Bool := match remR all out with
  | none => (all, false)
  | some l => (l ++ ins, true)
theorem appR_law (all out ins : List Pl) : (appR all out ins).2 = hasB (all.map Pl.k) (out.map Pl.k) ∧ (appR all out ins).1.map Pl.k = appL (all.map Pl.k) (out.map Pl.k) (ins.map Pl.k) := by
  obtain ⟨h1, h2⟩ := remR_law all out
  unfold appR appL
  cases hr : remR all out with
  | none => rw [h2 hr]; exact ⟨rfl, rfl⟩
  | some l => obtain ⟨g1, g2⟩ := h1 l hr; rw [g1]; simp [g2]
def AppPost (A : Option Addr) (cp : Nat) (all out ins : List Pl) (w : World) (e : Ending) (w' : World) : Prop := ∃ A' c', e = .returned (.tuple #[.slice A' (appR all out ins).1.length c', .bool (appR all out ins).2]) ∧ Sl w' 6 A' (appR all out ins).1.length c' ((appR all out ins).1.flatMap plc) ∧ ((A' = A ∧ (appR all out ins).1 = all) ∨ ∀ a, A' = some a → w.heap.size ≤ a.block) ∧ Below w.heap.size w w'
set_option maxRecDepth 100000 in
set_option maxHeartbeats 1000000 in
theorem Apply (A A1 A2 : Option Addr) (cp c1 c2 : Nat) (all xs ys : List Pl) (w : World) (hS : Sl w 6 A all.length cp (all.flatMap plc)) (hS1 : Sl w 6 A1 xs.length c1 (xs.flatMap plc)) (hS2 : Sl w 6 A2 ys.length c2 (ys.flatMap plc)) (hl : all.length ≤ 1000) (hx : xs.length ≤ 1000) (hy : ys.length ≤ 1000) :
    Calls Try.prog 83 #[.slice A all.length cp, .agg #[.slice A1 xs.length c1, .slice A2 ys.length c2]] w (AppPost A cp all xs ys w) := by
  obtain ⟨i0, hi, hz0, hz1, hz2⟩ := info_parts infoP
  have fa := Fr.alloc (fun _ => False) w (.cells #[.slice A1 xs.length c1, .slice A2 ys.length c2] TSh)
  have HS0 := Lib.hid (hS.fr fa (fun _ _ h => h)); have HS1 := Lib.hid (hS1.fr fa (fun _ _ h => h)); have HS2 := Lib.hid (hS2.fr fa (fun _ _ h => h))
  have HB0 := Lib.hid ((Below.refl w.heap.size w).alloc (Nat.le_refl _) (.cells #[.slice A1 xs.length c1, .slice A2 ys.length c2] TSh))
  have HP := Lib.hid (Bk.new w #[.slice A1 xs.length c1, .slice A2 ys.length c2] TSh)
  have HSz : Hid (w.heap.size ≤ (w.alloc (.cells #[.slice A1 xs.length c1, .slice A2 ys.length c2] TSh)).heap.size) := by show _ ≤ _; simp
  have HPb := Lib.hid (lt_of_heap HP.out)
  have HNb := Lib.hid (fun (hne : all ≠ []) (a : Addr) (ha : A = some a) => hS.lt (fun e => hne (by have := congrArg List.length e; rw [flat_length plc_len] at this; exact List.eq_nil_of_length_eq_zero (by simp at this; omega))) a ha)
  clear hS hS1 hS2 fa
  go_enter Try.func83, Try.ntmps83
  go_wp2_with fail
  generalize w.alloc (.cells #[.slice A1 xs.length c1, .slice A2 ys.length c2] TSh) = w1 at *
  generalize hBp : w.heap.size = Bp at *
  have HBp := Lib.hid hBp
  clear hBp
  go_loopg [6, 7, 8, 9, 19, 26] xs.length (fun gk v i _ _ _ _ wr => ∃ (k : Nat) (L : List Pl) (A' : Option Addr) (c' : Nat), i = .int .i64 k ∧ k ≤ xs.length ∧ gk = xs.length - k ∧ v = .slice A' L.length c' ∧ remR all (xs.take k) = some L ∧ Sl wr 6 A' L.length c' (L.flatMap plc) ∧ Below w1.heap.size w1 wr)
  case atStart => exact ⟨0, all, A, cp, rfl, Nat.zero_le _, rfl, rfl, rfl, HS0.out, Below.refl _ _⟩
  case round =>
    obtain ⟨k, L, A', c', rfl, hk, hg, rfl, hr, hSL, hbel⟩ := hrel
    have HG := Lib.hid hg; have HR := Lib.hid hr; have HBe := Lib.hid hbel
    have hszw : w1.heap.size ≤ wr.heap.size := hbel.size
    have hbk := (hbel.block Bp HPb.out).trans HP.out
    have b0 : wr.cell? ⟨Bp, 0, none⟩ = some (.slice A1 xs.length c1) := cell_of_block hbk 0
    have b1 : wr.cell? ⟨Bp, 1, none⟩ = some (.slice A2 ys.length c2) := cell_of_block hbk 1
    have HLl := Lib.hid (Nat.le_trans (remR_len hr) hl)
    have HSL := Lib.hid hSL
    clear hg hr hbel hbk hSL
    by_cases hlt : k < xs.length
    · obtain ⟨b1', o1, rfl, hb1, hc1⟩ := HS1.out.at hlt (by omega)
      have key := fun (j : Nat) (u : Value) (hj : j < 6) (hu : (plc xs[k])[j]? = some u) => (HBe.out.cell (p := ⟨b1', o1 + (k * 6 + j), none⟩) hb1).trans (hc1 _ u (by rw [flat_at plc_len hlt hj]; exact hu))
      have HSn := Lib.hid (show remR all (xs.take (k + 1)) = if (dropP xs[k].k L).2 then some (dropP xs[k].k L).1 else none by rw [List.take_succ_eq_append_getElem hlt, remR_snoc, HR.out]; rfl)
      have HDr : Hid (xs = xs.take (k + 1) ++ xs.drop (k + 1)) := by show _ = _; rw [List.take_append_drop]
      generalize xs[k] = x at *
      obtain ⟨t, i, c, d, p, f⟩ := x
      have d0 : wr.cell? ⟨b1', o1 + k * 6, none⟩ = some (.int .i64 t) := key 0 _ (by omega) rfl
      have d1 : wr.cell? ⟨b1', o1 + k * 6 + 1, none⟩ = some (.int .i64 i) := key 1 _ (by omega) rfl
      have d2 : wr.cell? ⟨b1', o1 + k * 6 + 1 + 1, none⟩ = some (.int .i64 c) := key 2 _ (by omega) rfl
      have d3 : wr.cell? ⟨b1', o1 + k * 6 + 1 + 1 + 1, none⟩ = some (.int .i64 d) := key 3 _ (by omega) rfl
      have d4 : wr.cell? ⟨b1', o1 + k * 6 + 1 + 1 + 1 + 1, none⟩ = some (.int .i64 p) := key 4 _ (by omega) rfl
      have d5 : wr.cell? ⟨b1', o1 + k * 6 + 1 + 1 + 1 + 1 + 1, none⟩ = some (.int .i64 f) := key 5 _ (by omega) rfl
      have HD := Lib.hid (Drop A' c' L ⟨t, i, c, d, p, f⟩ wr HSL.out HLl.out)
      clear hc1 key
      go_wp2_with fail
      refine HD.out.mono ?_
      rintro e w3 ⟨v, rfl, hown, hb⟩
      obtain ⟨A3, c3, rfl, hS3, hA3⟩ := Sl.of_own hown
      have HS3 := Lib.hid hS3; have HBe3 := Lib.hid (HBe.out.trans (hb.mono hszw))
      have hbk := (HBe3.out.block Bp HPb.out).trans HP.out
      clear hown hb hS3 hA3 HD d0 d1 d2 d3 d4 d5 b0 b1
      have b0 : w3.cell? ⟨Bp, 0, none⟩ = some (.slice (some ⟨b1', o1, none⟩) xs.length c1) := cell_of_block hbk 0
      clear hbk
      generalize hdp : dropP (Pl.k ⟨t, i, c, d, p, f⟩) L = D at *
      obtain ⟨D1, D2⟩ := D
      have HSn : Hid (remR all (xs.take (k + 1)) = if D2 = true then some D1 else none) := HSn.out
      dsimp only at HS3
      clear hdp
      cases D2 with
      | true =>
        have HSn : Hid (remR all (xs.take (k + 1)) = some D1) := HSn.out
        go_wp2_with fail
        go_roundg (xs.length - (k + 1))
        case rel => exact ⟨k + 1, D1, A3, c3, by go_num, by omega, rfl, rfl, HSn.out, HS3.out, HBe3.out⟩
        case measure => have := HG.out; omega
      | false =>
        have HN : Hid (remR all xs = none) := by
          have h1 : remR all (xs.take (k + 1)) = none := HSn.out
          have h2 := HDr.out
          show _ = _; rw [h2]; exact remR_none h1 _
        go_wp2_with fail
        go_ret2
        have hAp : appR all xs ys = (all, false) := by unfold appR; rw [HN.out]
        refine ⟨A, cp, by rw [hAp]; rfl, ?_, .inl ⟨rfl, by rw [hAp]⟩, by rw [HBp.out]; exact HB0.out.trans (HBe3.out.mono HSz.out)⟩
        rw [hAp]
        exact (HS0.out.fr (Fr.of_below' HBe3.out (fun _ => False)) (fun _ _ h => h))
    · obtain rfl : k = xs.length := by omega
      have HRx : Hid (remR all xs = some L) := by show _ = _; rw [← HR.out, List.take_length]
      have HS2r := Lib.hid (HS2.out.fr (Fr.of_below' HBe.out (fun _ => False)) (fun _ _ h => h))
      go_wp2_with (at_builtin; refine wpList_append_sl _ rfl (.tmp 33) (.tmp 34) TPs rfl w1.heap.size TP i0 _ 6 48 Try.underlying115 hi hz0 hz1 hz2 rfl (by decide) _ 0 [] rfl (World.ownsRow_nil _ _ _ _) _ _ _ _ rfl HSL.out cells_onep ?_ ?_ ?_ ?_)
      · unfold maxLen; have := HLl.out; omega
      · have := HLl.out; omega
      · exact hszw
      intro v4 w4 hown4 hgr4
      have HO4 := Lib.hid hown4
      have HF4 := Lib.hid (Fr.grown hgr4 (S := fun _ => False) (fun k h => by simp [Value.ownBlock] at h))
      have HK4 := Lib.hid (ownsRow_blk hown4)
      clear hown4 hgr4
      have HBe4 := Lib.hid (HBe.out.trans (HF4.out.below hszw (fun _ _ h => h)))
      have hszw4 : w1.heap.size ≤ w4.heap.size := HBe4.out.size
      have hbk := (HBe4.out.block Bp HPb.out).trans HP.out
      clear b0 b1
      have b1 : w4.cell? ⟨Bp, 1, none⟩ = some (.slice A2 ys.length c2) := cell_of_block hbk 1
      have HS24 := Lib.hid (HS2r.out.fr HF4.out (fun _ _ h => h))
      clear hbk HBe HF4 HS2r
      go_wp2_with (at_builtin; refine wpList_append_sl _ rfl (.tmp 36) (.tmp 38) TPs rfl w1.heap.size TP i0 _ 6 48 Try.underlying115 hi hz0 hz1 hz2 rfl (by decide) _ _ _ rfl HO4.out _ _ _ _ rfl HS24.out cells_onep ?_ ?_ ?_ ?_)
      · unfold maxLen; have := HLl.out; omega
      · have := HLl.out; omega
      · exact hszw4
      intro v5 w5 hown5 hgr5
      obtain ⟨A5, c5, rfl, hS5, hA5⟩ := Sl.of_own hown5
      have HS5 := Lib.hid hS5
      have HA5 := Lib.hid hA5
      have HBe5 := Lib.hid (HBe4.out.grown hgr5 hszw4 (fun k e => (HK4.out k e).1))
      clear hown5 hgr5 hS5 hA5
      go_wp2_with fail
      go_ret2
      have hAp : appR all xs ys = (L ++ ys, true) := by unfold appR; rw [HRx.out]
      have e1 : L.length + ys.length = (L ++ ys).length := by simp
      have hs5 := HS5.out
      rw [e1] at hs5
      refine ⟨A5, c5, by rw [hAp, ← e1]; rfl, ?_, .inr fun a ha => by rw [HBp.out]; exact Nat.le_trans HSz.out (HA5.out a ha).1, by rw [HBp.out]; exact HB0.out.trans (HBe5.out.mono HSz.out)⟩
      rw [hAp]
      simpa using hs5
end Ref23
end Go.Proofs.Ytolpdgaomlhgdaa
