/- The document's shapes: Greatest, Same, Of. -/
import Derived.Test.YtolpdgaomlhgdaaShape6
import Derived.Test.YtolpdgaomlhgdaaRef13
namespace Go.Proofs.Ytolpdgaomlhgdaa
open Go.RowKit
namespace Ref23
open BagP Bag ShapeP Fm Shape
def gm (a : Int) (L : List (Int × Int)) : Int := L.foldl (fun m q => max m q.1) a
theorem gm_snoc (a : Int) (L : List (Int × Int)) (q : Int × Int) : gm a (L ++ [q]) = max (gm a L) q.1 := by simp [gm]
theorem gm_great {L : List (Int × Int)} (h : 0 < L.length) : gm L[0].1 L = great L := by
  cases L with
  | nil => simp at h
  | cons p t => simp [gm, great]
set_option maxRecDepth 100000 in
theorem Greatest (A : Option Addr) (c : Nat) (L : List (Int × Int)) (w : World) (hS : Cs w A c L) : Calls Try.prog 80 #[.slice A L.length c] w fun e w' => e = .returned (.int .i64 (great L)) ∧ w = w' := by
  have hlen : L.length ≤ 9223372036854775807 := by have := hS.2.1; have := hS.2.2.1; unfold maxLen at this; omega
  have HS := Lib.hid hS
  clear hS
  by_cases h0 : L.length = 0
  · have q : ((L.length : Int) == 0) = true := by simp [h0]
    have HE : Hid (great L = 0) := by show _ = _; rw [List.eq_nil_of_length_eq_zero h0]; rfl
    clear h0
    go_enter Try.func80, Try.ntmps80
    go_wp2_with fail
    go_ret
    exact ⟨by rw [HE.out]; rfl, rfl⟩
  · have q : ((L.length : Int) == 0) = false := by simp [h0]
    have hl : 0 < L.length := by omega
    have HE := Lib.hid (gm_great hl)
    obtain ⟨b1, o1, rfl, hb1, hc1⟩ := HS.out.at hl (by omega)
    obtain ⟨d0, -⟩ := two_cells hl hc1
    have d0 : w.cell? ⟨b1, o1, none⟩ = some (.int .i64 L[0].1) := by simpa using d0
    have HC := Lib.hid hc1
    clear h0 hc1
    generalize hp : L[0].1 = p at *
    clear hp
    go_enter Try.func80, Try.ntmps80
    go_wp2_with fail
    go_loopg [3, 4] L.length (fun gk m_ i wr => ∃ k : Nat, m_ = .int .i64 (gm p (L.take k)) ∧ i = .int .i64 k ∧ k ≤ L.length ∧ gk = L.length - k ∧ w = wr)
    case atStart => exact ⟨0, rfl, rfl, Nat.zero_le _, rfl, rfl⟩
    case round =>
      obtain ⟨k, rfl, rfl, hk, hg, rfl⟩ := hrel
      have HG := Lib.hid hg
      clear hg d0
      by_cases hlt : k < L.length
      · obtain ⟨d0, -⟩ := two_cells hlt HC.out
        have HT : Hid (gm p (L.take (k + 1)) = max (gm p (L.take k)) L[k].1) := by show _ = _; rw [List.take_succ_eq_append_getElem hlt, gm_snoc]
        generalize L[k].1 = x at *
        generalize gm p (L.take k) = g at *
        go_wp2_with fail
        all_goals
          go_roundg (L.length - (k + 1))
          case rel => exact ⟨k + 1, by rw [HT.out]; first | rfl | (congr 1; omega), by go_num, by omega, rfl, rfl⟩
          case measure => have := HG.out; omega
      · obtain rfl : k = L.length := by omega
        have HT : Hid (L.take L.length = L) := List.take_length
        go_wp2_with fail
        go_ret
        exact ⟨by rw [← HE.out, HT.out]; rfl, rfl⟩
set_option maxRecDepth 100000 in
theorem Same (x : Shp) (A1 A2 B1 B2 : Option Addr) (c1 c2 d1 d2 : Nat) (w : World) (h1 : Cs w A1 c1 x.D) (h2 : Cs w A2 c2 x.F) (k1 : Cs w B1 d1 x.D) (k2 : Cs w B2 d2 x.F) :
    Calls Try.prog 76 #[shv x A1 A2 c1 c2, shv x B1 B2 d1 d2] w fun e w' => e = .returned (.bool true) ∧ Fr (fun _ => False) w w' := by
  have f0 : Fr (fun _ => False) w ((w.alloc (.cells (sha x A1 A2 c1 c2) TSp)).alloc (.cells (sha x B1 B2 d1 d2) TSp)) := (Fr.alloc _ _ _).trans (Fr.alloc (fun _ => False) _ _) (fun _ _ h => h) (fun _ _ h => h)
  have HD := Lib.hid (Ref13.Same A1 B1 c1 d1 x.D x.D ((w.alloc (.cells (sha x A1 A2 c1 c2) TSp)).alloc (.cells (sha x B1 B2 d1 d2) TSp)) _ _ rfl rfl (h1.fr f0 (fun _ _ h => h)) (k1.fr f0 (fun _ _ h => h)) rfl)
  have HF : Hid (∀ w1, Fr (fun _ => False) ((w.alloc (.cells (sha x A1 A2 c1 c2) TSp)).alloc (.cells (sha x B1 B2 d1 d2) TSp)) w1 → Calls Try.prog 51 #[.slice A2 x.F.length c2, .slice B2 x.F.length d2] w1 fun e w' => e = .returned (.bool true) ∧ Fr (fun _ => False) w1 w') := fun w1 hf => Ref13.Same A2 B2 c2 d2 x.F x.F w1 _ _ rfl rfl ((h2.fr f0 (fun _ _ h => h)).fr hf (fun _ _ h => h)) ((k2.fr f0 (fun _ _ h => h)).fr hf (fun _ _ h => h)) rfl
  have H0 := Lib.hid f0
  clear h1 h2 k1 k2 f0
  obtain ⟨n_, r_, o_, y_, D, Fn⟩ := x
  dsimp only at HD HF
  go_enter Try.func76, Try.ntmps76
  go_wp2_with fail
  refine HD.out.mono ?_
  rintro e w1 ⟨rfl, hf1⟩
  have b5 : w1.cell? ⟨w.heap.size, 5, none⟩ = some (.slice A2 Fn.length c2) := (((Bk.new w (sha ⟨n_, r_, o_, y_, D, Fn⟩ A1 A2 c1 c2) TSp).fr (Fr.alloc (fun _ => False) _ _) (fun _ _ h => h)).fr hf1 (fun _ _ h => h)).cell 5
  have e5 : w1.cell? ⟨w.heap.size + 1, 5, none⟩ = some (.slice B2 Fn.length d2) := by
    have := ((Bk.new (w.alloc (.cells (sha ⟨n_, r_, o_, y_, D, Fn⟩ A1 A2 c1 c2) TSp)) (sha ⟨n_, r_, o_, y_, D, Fn⟩ B1 B2 d1 d2) TSp).fr hf1 (fun _ _ h => h)).cell 5
    rw [World.size_alloc] at this
    exact this
  have HF1 := Lib.hid (HF.out w1 hf1)
  have H1 := Lib.hid (H0.out.trans hf1 (T := fun _ => False) (fun _ _ h => h) (fun _ _ h => h))
  clear hf1 HD HF H0
  go_wp2_with fail
  refine HF1.out.mono ?_
  rintro e w2 ⟨rfl, hf2⟩
  have H2 := Lib.hid (H1.out.trans hf2 (T := fun _ => False) (fun _ _ h => h) (fun _ _ h => h))
  clear hf2 HF1 H1
  go_wp2_with fail
  go_ret
  exact ⟨rfl, H2.out⟩
section
variable {n0 Br Bx Bd Bf : Nat} {n r o c : Int} {D Fn D' F' : List (Int × Int)} {FD FF : List Nat} {w0 w w' : World}
/-- The document's shape in the making. -/
structure OT (n0 Br Bx Bd Bf : Nat) (n r o c : Int) (D Fn : List (Int × Int)) (FD FF : List Nat) (w0 w : World) : Prop where
  zs : Zs n0 w0 w [[Br], [Bx], FD, FF]
  rb : Bk w Br zeroS TSp
  x : Bk w Bx #[.int .i64 n, .int .i64 r, .int .i64 o, .int .i64 c, .slice none 0 0, .slice none 0 0] TSp
  d : Ref13.RB w Bd D FD
  f : Ref13.RB w Bf Fn FF
theorem OT.set (h : OT n0 Br Bx Bd Bf n r o c D Fn FD FF w0 w) (k : Nat) (v : Value) {r' o' c' : Int} (hv : #[.int .i64 n, .int .i64 r, .int .i64 o, .int .i64 c, .slice none 0 0, .slice none 0 0].setIfInBounds k v = #[.int .i64 n, .int .i64 r', .int .i64 o', .int .i64 c', .slice none 0 0, .slice none 0 0]) :
    OT n0 Br Bx Bd Bf n r' o' c' D Fn FD FF w0 (w.setCell ⟨Bx, k, none⟩ v) := by
  have ht := h.x.tn k v
  refine ⟨h.zs.turn [[Br]] [FD, FF] ht, h.rb.fr ht.fr (fun b hb e => h.zs.ap 1 0 rfl rfl (by omega) b hb e), hv ▸ h.x.set k v, h.d.fr ht.fr (fun b hb e => h.zs.ap 1 2 rfl rfl (by omega) b hb e), h.f.fr ht.fr (fun b hb e => h.zs.ap 1 3 rfl rfl (by omega) b hb e)⟩
theorem OT.turnD (h : OT n0 Br Bx Bd Bf n r o c D Fn FD FF w0 w) {FD' : List Nat} (hd : Ref13.RB w' Bd D' FD') (ht : Tn FD FD' w w') : OT n0 Br Bx Bd Bf n r o c D' Fn FD' FF w0 w' :=
  ⟨h.zs.turn [[Br], [Bx]] [FF] ht, h.rb.fr ht.fr (fun b hb e => h.zs.ap 2 0 rfl rfl (by omega) b hb e), h.x.fr ht.fr (fun b hb e => h.zs.ap 2 1 rfl rfl (by omega) b hb e), hd, h.f.fr ht.fr (fun b hb e => h.zs.ap 2 3 rfl rfl (by omega) b hb e)⟩
theorem OT.turnF (h : OT n0 Br Bx Bd Bf n r o c D Fn FD FF w0 w) {FF' : List Nat} (hf : Ref13.RB w' Bf F' FF') (ht : Tn FF FF' w w') : OT n0 Br Bx Bd Bf n r o c D F' FD FF' w0 w' :=
  ⟨h.zs.turn [[Br], [Bx], FD] [] ht, h.rb.fr ht.fr (fun b hb e => h.zs.ap 3 0 rfl rfl (by omega) b hb e), h.x.fr ht.fr (fun b hb e => h.zs.ap 3 1 rfl rfl (by omega) b hb e), h.d.fr ht.fr (fun b hb e => h.zs.ap 3 2 rfl rfl (by omega) b hb e), hf⟩
end
def ifc (a b v : Int) : Int := if a = b then v + 1 else v
theorem cn_ifc (k : Int) (l : List K3) (c d f : Int) : cn (cls k) (l ++ [(c, d, f)]) = ifc c k (cn (cls k) l) := by
  rw [cn_snoc]; unfold ifc cls
  by_cases h : c = k
  · simp [h]
  · simp [h]
set_option maxRecDepth 100000 in
set_option maxHeartbeats 1000000 in
theorem Of (A : Option Addr) (cp : Nat) (xs : List Pl) (w : World) (hS : Sl w 6 A xs.length cp (xs.flatMap plc)) (hx : xs.length ≤ 1000) : Calls Try.prog 78 #[.slice A xs.length cp] w (ShPost (xs.map Pl.k) w) := by
  have H0 := Lib.hid (show OT w.heap.size w.heap.size (w.heap.size + 1) (w.heap.size + 2) (w.heap.size + 3) xs.length 0 0 0 [] [] [w.heap.size + 2] [w.heap.size + 3] w ((((w.alloc (.cells zeroS TSp)).alloc (.cells #[.int .i64 xs.length, .int .i64 0, .int .i64 0, .int .i64 0, .slice none 0 0, .slice none 0 0] TSp)).alloc (.cells #[.slice none 0 0] Ref13.TR)).alloc (.cells #[.slice none 0 0] Ref13.TR)) from by
    have z4 := ((((Zs.start w).alloc (.cells zeroS TSp)).alloc (.cells #[.int .i64 xs.length, .int .i64 0, .int .i64 0, .int .i64 0, .slice none 0 0, .slice none 0 0] TSp)).alloc (.cells #[.slice none 0 0] Ref13.TR)).alloc (.cells #[.slice none 0 0] Ref13.TR)
    have b1 := Bk.new w zeroS TSp
    have b2 := Bk.new (w.alloc (.cells zeroS TSp)) #[.int .i64 xs.length, .int .i64 0, .int .i64 0, .int .i64 0, .slice none 0 0, .slice none 0 0] TSp
    have b3 := Bk.new ((w.alloc (.cells zeroS TSp)).alloc (.cells #[.int .i64 xs.length, .int .i64 0, .int .i64 0, .int .i64 0, .slice none 0 0, .slice none 0 0] TSp)) #[.slice none 0 0] Ref13.TR
    have b4 := Bk.new (((w.alloc (.cells zeroS TSp)).alloc (.cells #[.int .i64 xs.length, .int .i64 0, .int .i64 0, .int .i64 0, .slice none 0 0, .slice none 0 0] TSp)).alloc (.cells #[.slice none 0 0] Ref13.TR)) #[.slice none 0 0] Ref13.TR
    simp only [World.size_alloc] at z4 b2 b3 b4
    have fa := fun (w : World) (o : Obj) => Fr.alloc (fun _ => False) w o
    exact ⟨z4, ((b1.fr (fa _ _) (fun _ _ h => h)).fr (fa _ _) (fun _ _ h => h)).fr (fa _ _) (fun _ _ h => h), (b2.fr (fa _ _) (fun _ _ h => h)).fr (fa _ _) (fun _ _ h => h), ⟨none, 0, b3.fr (fa _ _) (fun _ _ h => h), Sl.empty _ _, rfl, by simp⟩, ⟨none, 0, b4, Sl.empty _ _, rfl, by simp⟩⟩)
  have HS := Lib.hid hS
  clear hS
  go_enter Try.func78, Try.ntmps78
  go_wp2_with fail
  go_loopg [6] xs.length (fun gk i wr => ∃ (k : Nat) (r o c : Int) (D Fn : List (Int × Int)) (FD FF : List Nat), i = .int .i64 k ∧ k ≤ xs.length ∧ gk = xs.length - k ∧ OT w.heap.size w.heap.size (w.heap.size + 1) (w.heap.size + 2) (w.heap.size + 3) xs.length r o c D Fn FD FF w wr ∧ r = cn (cls 1) ((xs.map Pl.k).take k) ∧ o = cn (cls 2) ((xs.map Pl.k).take k) ∧ c = cn (cls 3) ((xs.map Pl.k).take k) ∧ Dep ((xs.map Pl.k).take k) D ∧ Fan ((xs.map Pl.k).take k) Fn)
  case atStart => exact ⟨0, 0, 0, 0, [], [], _, _, rfl, Nat.zero_le _, rfl, H0.out, rfl, rfl, rfl, IsBag.nil, IsBag.nil⟩
  case round =>
    clear H0
    obtain ⟨k, r, o, c, D, Fn, FD, FF, rfl, hk, hg, hst, er, eo, ec, ed, ef⟩ := hrel
    have hll : ((xs.map Pl.k).take k).length ≤ k := by simp; omega
    have HG := Lib.hid hg; have H1 := Lib.hid hst
    by_cases hlt : k < xs.length
    · obtain ⟨b1, o1, rfl, hb1, hc0⟩ := HS.out.at hlt (by omega)
      have hc1 : ∀ j u, (xs.flatMap plc)[j]? = some u → wr.cell? ⟨b1, o1 + j, none⟩ = some u := fun j u hu => (hst.zs.bel.cell (p := ⟨b1, _, none⟩) hb1).trans (hc0 j u hu)
      obtain ⟨-, -, d2, d3, -, d5⟩ := pl_cells hlt hc1
      have hT : (xs.map Pl.k).take (k + 1) = (xs.map Pl.k).take k ++ [xs[k].k] := by rw [List.take_succ_eq_append_getElem (by simpa using hlt)]; simp
      have HD0 : Hid (Dep ((xs.map Pl.k).take k) D) := ed
      have HF0 : Hid (Fan ((xs.map Pl.k).take k) Fn) := ef
      have rr := cn_range (cls 1) ((xs.map Pl.k).take k); have ro := cn_range (cls 2) ((xs.map Pl.k).take k); have rc := cn_range (cls 3) ((xs.map Pl.k).take k)
      rw [← er] at rr; rw [← eo] at ro; rw [← ec] at rc
      have HER : Hid (cn (cls 1) ((xs.map Pl.k).take (k + 1)) = ifc xs[k].c 1 r) := by show _ = _; rw [hT, er]; exact cn_ifc _ _ _ _ _
      have HEO : Hid (cn (cls 2) ((xs.map Pl.k).take (k + 1)) = ifc xs[k].c 2 o) := by show _ = _; rw [hT, eo]; exact cn_ifc _ _ _ _ _
      have HEC : Hid (cn (cls 3) ((xs.map Pl.k).take (k + 1)) = ifc xs[k].c 3 c) := by show _ = _; rw [hT, ec]; exact cn_ifc _ _ _ _ _
      have HT := Lib.hid hT
      have hDl := ed.len
      have hFl := ef.len
      have HCe : Hid (∀ w', Below w.heap.size w w' → w'.cell? ⟨b1, o1 + k * 6 + 1 + 1 + 1, none⟩ = some (.int .i64 xs[k].d) ∧ w'.cell? ⟨b1, o1 + k * 6 + 1 + 1 + 1 + 1 + 1, none⟩ = some (.int .i64 xs[k].f)) := fun w' hb => by
        obtain ⟨-, -, -, d3, -, d5⟩ := pl_cells hlt (fun j u hu => (hb.cell (p := ⟨b1, _, none⟩) hb1).trans (hc0 j u hu))
        exact ⟨d3, d5⟩
      have x1 : wr.cell? ⟨w.heap.size + 1, 1, none⟩ = some (.int .i64 r) := hst.x.cell 1
      have x2 : wr.cell? ⟨w.heap.size + 1, 2, none⟩ = some (.int .i64 o) := hst.x.cell 2
      have x3 : wr.cell? ⟨w.heap.size + 1, 3, none⟩ = some (.int .i64 c) := hst.x.cell 3
      have g1 := hst.x.free 1; have g2 := hst.x.free 2; have g3 := hst.x.free 3
      clear hg hst er eo ec ed ef hc0 hc1 hT
      generalize hla : (xs.map Pl.k).take k = la at *
      clear hla
      generalize xs[k] = x at *
      obtain ⟨t_, i_, cl, dp, p_, fn⟩ := x
      dsimp only at d2 d3 d5 HER HEO HEC HT HCe
      have w1 : IntKind.i64.wrap (r + 1) = r + 1 := IntWalk.i64_in _ (by omega)
      have w2 : IntKind.i64.wrap (o + 1) = o + 1 := IntWalk.i64_in _ (by omega)
      have w3 : IntKind.i64.wrap (c + 1) = c + 1 := IntWalk.i64_in _ (by omega)
      go_upto_block 2 with (fail)
      go_cut [25] (fun _ wc => OT w.heap.size w.heap.size (w.heap.size + 1) (w.heap.size + 2) (w.heap.size + 3) xs.length (ifc cl 1 r) (ifc cl 2 o) (ifc cl 3 c) D Fn FD FF w wc)
      case first =>
        by_cases q1 : cl = 1
        · subst q1
          have HQ := Lib.hid (H1.out.set 1 (.int .i64 (r + 1)) (r' := ifc 1 1 r) (o' := ifc 1 2 o) (c' := ifc 1 3 c) rfl)
          go_wp2_with fail
          go_meet
          exact HQ.out
        · have e1 : (cl == 1) = false := by simpa using q1
          by_cases q2 : cl = 2
          · subst q2
            have HQ := Lib.hid (H1.out.set 2 (.int .i64 (o + 1)) (r' := ifc 2 1 r) (o' := ifc 2 2 o) (c' := ifc 2 3 c) rfl)
            go_wp2_with fail
            go_meet
            exact HQ.out
          · have e2 : (cl == 2) = false := by simpa using q2
            by_cases q3 : cl = 3
            · subst q3
              have HQ := Lib.hid (H1.out.set 3 (.int .i64 (c + 1)) (r' := ifc 3 1 r) (o' := ifc 3 2 o) (c' := ifc 3 3 c) rfl)
              go_wp2_with fail
              go_meet
              exact HQ.out
            · have e3 : (cl == 3) = false := by simpa using q3
              have HQ : Hid (ifc cl 1 r = r ∧ ifc cl 2 o = o ∧ ifc cl 3 c = c) := ⟨if_neg q1, if_neg q2, if_neg q3⟩
              clear q1 q2 q3
              go_wp2_with fail
              go_meet
              rw [HQ.out.1, HQ.out.2.1, HQ.out.2.2]
              exact H1.out
      case rest =>
        have H2 : Hid _ := hcut
        clear d2 d3 d5 x1 x2 x3 g1 g2 g3 w1 w2 w3 H1
        obtain ⟨d3, d5⟩ := HCe.out wc hcut.zs.bel
        have hcB := hcut.zs.bel
        clear hcut hcB
        by_cases hd : 0 < dp
        · have hdq : decide (0 < dp) = true := by simpa using hd
          have HA1 := Lib.hid (Ref13.Add (w.heap.size + 2) dp 1 D FD wc H2.out.d HD0.out.ok (by omega))
          have HDn := Lib.hid (HD0.out.add (by omega) (cl, dp, fn) hdq)
          have HFn := Lib.hid (HF0.out.add (by omega) (cl, dp, fn) rfl)
          clear hd
          go_wp2_with fail
          refine HA1.out.mono ?_
          rintro e w4 ⟨rfl, FD2, hd2, ht2⟩
          have H3 := Lib.hid (H2.out.turnD hd2 ht2)
          obtain ⟨-, d5⟩ := HCe.out w4 H3.out.zs.bel
          clear hd2 ht2 H2 HA1
          have HA2 := Lib.hid (Ref13.Add (w.heap.size + 3) fn 1 Fn FF w4 H3.out.f HF0.out.ok (by omega))
          go_wp2_with fail
          refine HA2.out.mono ?_
          rintro e w5 ⟨rfl, FF2, hf2, ht3⟩
          have H4 := Lib.hid (H3.out.turnF hf2 ht3)
          clear hf2 ht3 H3 HA2 d5
          go_wp2_with fail
          go_roundg (xs.length - (k + 1))
          case rel => exact ⟨k + 1, _, _, _, _, _, FD2, FF2, by go_num, by omega, rfl, H4.out, HER.out.symm, HEO.out.symm, HEC.out.symm, by rw [HT.out]; exact HDn.out, by rw [HT.out]; exact HFn.out⟩
          case measure => have := HG.out; omega
        · have hdq : decide (0 < dp) = false := by simpa using hd
          have HDn := Lib.hid (HD0.out.skip (cl, dp, fn) hdq)
          have HFn := Lib.hid (HF0.out.add (by omega) (cl, dp, fn) rfl)
          have HA2 := Lib.hid (Ref13.Add (w.heap.size + 3) fn 1 Fn FF wc H2.out.f HF0.out.ok (by omega))
          clear hd
          go_wp2_with fail
          refine HA2.out.mono ?_
          rintro e w5 ⟨rfl, FF2, hf2, ht3⟩
          have H4 := Lib.hid (H2.out.turnF hf2 ht3)
          clear hf2 ht3 H2 HA2 d3 d5
          go_wp2_with fail
          go_roundg (xs.length - (k + 1))
          case rel => exact ⟨k + 1, _, _, _, _, _, FD, FF2, by go_num, by omega, rfl, H4.out, HER.out.symm, HEO.out.symm, HEC.out.symm, by rw [HT.out]; exact HDn.out, by rw [HT.out]; exact HFn.out⟩
          case measure => have := HG.out; omega
    · obtain rfl : k = xs.length := by omega
      have hE : (xs.map Pl.k).take xs.length = xs.map Pl.k := List.take_of_length_le (by simp)
      rw [hE] at er eo ec ed ef
      have HI := Lib.hid (show IsShp (xs.map Pl.k) ⟨xs.length, r, o, c, D, Fn⟩ from ⟨by simp, er, eo, ec, ed, ef⟩)
      obtain ⟨Ad, cd, hbd, hsd, hFD, had⟩ := hst.d
      obtain ⟨Af, cf, hbf, hsf, hFF, haf⟩ := hst.f
      have cD : wr.cell? ⟨w.heap.size + 2, 0, none⟩ = some (.slice Ad D.length cd) := hbd.cell 0
      have cF : wr.cell? ⟨w.heap.size + 3, 0, none⟩ = some (.slice Af Fn.length cf) := hbf.cell 0
      have x0 : wr.cell? ⟨w.heap.size + 1, 0, none⟩ = some (.int .i64 xs.length) := hst.x.cell 0
      have x1 : wr.cell? ⟨w.heap.size + 1, 1, none⟩ = some (.int .i64 r) := hst.x.cell 1
      have x2 : wr.cell? ⟨w.heap.size + 1, 2, none⟩ = some (.int .i64 o) := hst.x.cell 2
      have x3 : wr.cell? ⟨w.heap.size + 1, 3, none⟩ = some (.int .i64 c) := hst.x.cell 3
      have x4 : wr.cell? ⟨w.heap.size + 1, 4, none⟩ = some (.slice none 0 0) := hst.x.cell 4
      have x5 : wr.cell? ⟨w.heap.size + 1, 5, none⟩ = some (.slice none 0 0) := hst.x.cell 5
      have g4 := hst.x.free 4; have g5 := hst.x.free 5
      have r0 : wr.cell? ⟨w.heap.size, 0, none⟩ = some (.int .i64 0) := hst.rb.cell 0
      have r1 : wr.cell? ⟨w.heap.size, 1, none⟩ = some (.int .i64 0) := hst.rb.cell 1
      have r2 : wr.cell? ⟨w.heap.size, 2, none⟩ = some (.int .i64 0) := hst.rb.cell 2
      have r3 : wr.cell? ⟨w.heap.size, 3, none⟩ = some (.int .i64 0) := hst.rb.cell 3
      have r4 : wr.cell? ⟨w.heap.size, 4, none⟩ = some (.slice none 0 0) := hst.rb.cell 4
      have r5 : wr.cell? ⟨w.heap.size, 5, none⟩ = some (.slice none 0 0) := hst.rb.cell 5
      have k0 := hst.rb.free 0; have k1 := hst.rb.free 1; have k2 := hst.rb.free 2; have k3 := hst.rb.free 3; have k4 := hst.rb.free 4; have k5 := hst.rb.free 5
      have fx := (Fr.setCell wr ⟨w.heap.size + 1, 4, none⟩ (.slice Ad D.length cd) (S := (· = w.heap.size + 1)) rfl).trans (Fr.setCell _ ⟨w.heap.size + 1, 5, none⟩ (.slice Af Fn.length cf) (S := (· = w.heap.size + 1)) rfl) (T := (· = w.heap.size + 1)) (fun _ _ h => h) (fun _ _ h => h)
      have hb2 := hst.rb.fr fx (fun b hb e => by simp at hb; omega)
      have HB2 := Lib.hid (six hb2 (.int .i64 xs.length) (.int .i64 r) (.int .i64 o) (.int .i64 c) (.slice Ad D.length cd) (.slice Af Fn.length cf))
      have HFx := Lib.hid (fx.trans HB2.out.2 (T := fun b => b = w.heap.size + 1 ∨ b = w.heap.size) (fun _ _ h => .inl h) (fun _ _ h => .inr h))
      have HR1 : Hid (∀ a, Ad = some a → w.heap.size + 1 < a.block ∧ a.block < wr.heap.size) := fun a ha => by
        have hm : a.block ∈ FD := by rw [hFD]; exact List.mem_cons_of_mem _ (mem_ablk.2 ⟨a, ha, rfl⟩)
        have h1 := hst.zs.mem (i := 2) rfl _ hm
        have h2 := hst.zs.ap 0 2 rfl rfl (by omega) _ hm
        have h3 := hst.zs.ap 1 2 rfl rfl (by omega) _ hm
        simp at h2 h3
        omega
      have HR2 : Hid (∀ a, Af = some a → w.heap.size + 1 < a.block ∧ a.block < wr.heap.size) := fun a ha => by
        have hm : a.block ∈ FF := by rw [hFF]; exact List.mem_cons_of_mem _ (mem_ablk.2 ⟨a, ha, rfl⟩)
        have h1 := hst.zs.mem (i := 3) rfl _ hm
        have h2 := hst.zs.ap 0 3 rfl rfl (by omega) _ hm
        have h3 := hst.zs.ap 1 3 rfl rfl (by omega) _ hm
        simp at h2 h3
        omega
      have HSd := Lib.hid hsd; have HSf := Lib.hid hsf
      have HBel := Lib.hid hst.zs.bel
      clear hE hst H1 hbd hsd hFD had hbf hsf hFF haf fx hb2 er eo ec ed ef hg
      go_wp2_with fail
      have hsz := HFx.out.size
      exact bodyPost_ret (results_cell_row rfl _ _ w.heap.size TSp _ (0, 0) _ rfl HB2.out.1 Try.underlying117 rfl (by kernel_rfl)) rfl ⟨⟨xs.length, r, o, c, D, Fn⟩, Ad, cd, Af, cf, rfl, HI.out,
        HSd.out.fr HFx.out (fun a ha e => by have := HR1.out a ha; omega), HSf.out.fr HFx.out (fun a ha e => by have := HR2.out a ha; omega), fun a ha => by have := HR1.out a ha; omega, fun a ha => by have := HR2.out a ha; omega,
        (Fr.of_below' HBel.out (fun _ => False)).trans HFx.out (fun _ _ h => h) (fun i hi e => by omega)⟩
end Ref23
end Go.Proofs.Ytolpdgaomlhgdaa
