/- Three lists of the call's own: two in a box, one beside it. -/
import Derived.Test.YtdpngmgaomghoaaGreatStoX
namespace Go.Proofs.YtdpngmgaomghoaaGreat
open Tryz
open Go.RowKit
namespace Sto
open KeyP PackP SetP SetW SetF Delta
theorem own_other {n0 : Nat} {W w1 : World} {o : Obj} {u v v' : Value} {L M : List Sn} {k : Nat} {cs : List Value} (hu : W.ownsRow n0 TSn 9 u L.length (L.flatMap scs)) (_hv : W.ownsRow n0 TSn 9 v M.length (M.flatMap scs)) (hne : ∀ b, v.ownBlock = some b → u.ownBlock ≠ some b)
  (_hown : w1.ownsRow n0 TSn 9 v' k cs) (hg : (W.alloc o).grownBy w1 v.ownBlock) (hn : v'.ownBlock = v.ownBlock ∨ v'.ownBlock = some (W.heap.size + 1)) :
  w1.ownsRow n0 TSn 9 u L.length (L.flatMap scs) ∧ ∀ b, v'.ownBlock = some b → u.ownBlock ≠ some b := by
 have f1 : Fr (fun b => v.ownBlock = some b) W w1 := (Fr.alloc (fun _ => False) W o).trans (Fr.grown hg (S := fun b => v.ownBlock = some b) (fun k h => h)) (fun _ _ h => h.elim) (fun _ _ h => h)
 refine ⟨ownsRow_fr hu f1 (fun b hb e => hne b e hb), fun b hb e => ?_⟩
 rcases hn with hn | hn
 ·exact hne b (hn ▸ hb) e
 ·have := (ownsRow_blk hu b e).2.1
  rw [hn] at hb
  have := Option.some.inj hb
  omega
structure D3 (n0 Bd : Nat) (w0 W : World) (P Q R : List Sn) (v1 v2 v3 : Value) : Prop where
 b : Bk W Bd #[v1, v2] TDl
 o1 : W.ownsRow n0 TSn 9 v1 P.length (P.flatMap scs)
 o2 : W.ownsRow n0 TSn 9 v2 Q.length (Q.flatMap scs)
 o3 : W.ownsRow n0 TSn 9 v3 R.length (R.flatMap scs)
 n12 : ∀ b, v1.ownBlock = some b → v2.ownBlock ≠ some b
 n13 : ∀ b, v1.ownBlock = some b → v3.ownBlock ≠ some b
 n23 : ∀ b, v2.ownBlock = some b → v3.ownBlock ≠ some b
 fr : Fr (fun b => b = Bd ∨ n0 ≤ b) w0 W
 hn : n0 ≤ W.heap.size
section
variable {n0 Bd : Nat} {w0 W w1 W' : World} {P Q R : List Sn} {v1 v2 v3 v' : Value} {o : Obj} {y : Sn}
theorem D3.keep (h : D3 n0 Bd w0 W P Q R v1 v2 v3) (hf : Fr (fun _ => False) W W') : D3 n0 Bd w0 W' P Q R v1 v2 v3 :=
 ⟨h.b.fr hf (fun _ _ h => h), ownsRow_fr h.o1 hf (fun _ _ h => h), ownsRow_fr h.o2 hf (fun _ _ h => h), ownsRow_fr h.o3 hf (fun _ _ h => h), h.n12, h.n13, h.n23, h.fr.trans hf (fun _ _ h => h) (fun _ _ h => h.elim), Nat.le_trans h.hn hf.size⟩
theorem own_box {T : TypeId} {c : Array Value} {v : Value} {k : Nat} {cs : List Value} (hb : Bk W Bd c T) (ho : W.ownsRow n0 TSn 9 v k cs) (hT : T ≠ TSn) : ∀ b, v.ownBlock = some b → b ≠ Bd := fun b hb' e => by
 obtain ⟨_, _, c', hc⟩ := ownsRow_blk ho b hb'
 rw [e, show W.heap[Bd]? = _ from hb] at hc
 cases hc; exact hT rfl
theorem tdl_tsn : TDl ≠ TSn := by unfold TDl TSn; decide
theorem grow_fr {v : Value} (hg : (W.alloc o).grownBy w1 v.ownBlock) : Fr (fun b => v.ownBlock = some b) W w1 := (Fr.alloc (fun _ => False) W o).trans (Fr.grown hg (S := fun b => v.ownBlock = some b) (fun _k h => h)) (fun _ _ h => h.elim) (fun _ _ h => h)
theorem D3.app3 (h : D3 n0 Bd w0 W P Q R v1 v2 v3) (hown : w1.ownsRow n0 TSn 9 v' (R.length + 1) (R.flatMap scs ++ scs y)) (hg : (W.alloc o).grownBy w1 v3.ownBlock) (hn : v'.ownBlock = v3.ownBlock ∨ v'.ownBlock = some (W.heap.size + 1)) :
  D3 n0 Bd w0 w1 P Q (R ++ [y]) v1 v2 v' := by
 obtain ⟨p1, q1⟩ := own_other h.o1 h.o3 (fun b hb e => h.n13 b e hb) hown hg hn
 obtain ⟨p2, q2⟩ := own_other h.o2 h.o3 (fun b hb e => h.n23 b e hb) hown hg hn
 have hf := grow_fr hg
 have hne := own_box h.b h.o3 tdl_tsn
 have hnn := h.hn
 exact ⟨h.b.fr hf (fun b hb e => by simp at hb; exact hne b e hb), p1, p2, by rw [List.length_append, List.length_singleton, List.flatMap_append]; simpa using hown, h.n12, fun b hb e => q1 b e hb, fun b hb e => q2 b e hb, h.fr.trans hf (fun _ _ h => h) (fun k _ e => .inr (ownsRow_blk h.o3 k e).1), Nat.le_trans hnn hf.size⟩
theorem D3.box {k : Nat} {cs : List Value} (h : D3 n0 Bd w0 W P Q R v1 v2 v3) {v : Value} (hg : (W.alloc o).grownBy w1 v.ownBlock) (hv : W.ownsRow n0 TSn 9 v k cs) : Bk w1 Bd #[v1, v2] TDl := h.b.fr (grow_fr hg) (fun b hb e => by simp at hb; exact own_box h.b hv tdl_tsn b e hb)
theorem D3.app1 (h : D3 n0 Bd w0 W P Q R v1 v2 v3) (hown : w1.ownsRow n0 TSn 9 v' (P.length + 1) (P.flatMap scs ++ scs y)) (hg : (W.alloc o).grownBy w1 v1.ownBlock) (hn : v'.ownBlock = v1.ownBlock ∨ v'.ownBlock = some (W.heap.size + 1)) :
  D3 n0 Bd w0 (w1.setCell ⟨Bd, 0, none⟩ v') (P ++ [y]) Q R v' v2 v3 := by
 obtain ⟨p2, q2⟩ := own_other h.o2 h.o1 h.n12 hown hg hn
 obtain ⟨p3, q3⟩ := own_other h.o3 h.o1 h.n13 hown hg hn
 have hf := grow_fr hg
 have hb1 := h.box hg h.o1
 have f2 := Fr.setCell w1 ⟨Bd, 0, none⟩ v' (S := (· = Bd)) rfl
 have hne := own_box hb1 hown tdl_tsn
 have hnn := h.hn
 exact ⟨by simpa using hb1.set 0 v', by rw [List.length_append, List.length_singleton, List.flatMap_append]; simpa using ownsRow_fr hown f2 hne, ownsRow_fr p2 f2 (own_box hb1 p2 tdl_tsn), ownsRow_fr p3 f2 (own_box hb1 p3 tdl_tsn), q2, q3, h.n23, (h.fr.trans hf (T := fun b => b = Bd ∨ n0 ≤ b) (fun _ _ h => h) (fun k _ e => .inr (ownsRow_blk h.o1 k e).1)).trans f2 (fun _ _ h => h) (fun _ _ e => .inl e), Nat.le_trans hnn (Nat.le_trans hf.size f2.size)⟩
theorem D3.app2 (h : D3 n0 Bd w0 W P Q R v1 v2 v3) (hown : w1.ownsRow n0 TSn 9 v' (Q.length + 1) (Q.flatMap scs ++ scs y)) (hg : (W.alloc o).grownBy w1 v2.ownBlock) (hn : v'.ownBlock = v2.ownBlock ∨ v'.ownBlock = some (W.heap.size + 1)) :
  D3 n0 Bd w0 (w1.setCell ⟨Bd, 1, none⟩ v') P (Q ++ [y]) R v1 v' v3 := by
 obtain ⟨p1, q1⟩ := own_other h.o1 h.o2 (fun b hb e => h.n12 b e hb) hown hg hn
 obtain ⟨p3, q3⟩ := own_other h.o3 h.o2 h.n23 hown hg hn
 have hf := grow_fr hg
 have hb1 := h.box hg h.o2
 have f2 := Fr.setCell w1 ⟨Bd, 1, none⟩ v' (S := (· = Bd)) rfl
 have hne := own_box hb1 hown tdl_tsn
 have hnn := h.hn
 exact ⟨by simpa using hb1.set 1 v', ownsRow_fr p1 f2 (own_box hb1 p1 tdl_tsn), by rw [List.length_append, List.length_singleton, List.flatMap_append]; simpa using ownsRow_fr hown f2 hne, ownsRow_fr p3 f2 (own_box hb1 p3 tdl_tsn), fun b hb e => q1 b e hb, h.n13, q3, (h.fr.trans hf (T := fun b => b = Bd ∨ n0 ≤ b) (fun _ _ h => h) (fun k _ e => .inr (ownsRow_blk h.o2 k e).1)).trans f2 (fun _ _ h => h) (fun _ _ e => .inl e), Nat.le_trans hnn (Nat.le_trans hf.size f2.size)⟩
end
end Sto
set_option maxRecDepth 100000
set_option maxHeartbeats 4000000
namespace Sto
open Name KeyP PackP SetP SetW SetF Delta Comp BagP
open Sat2 (endS cl cl_in)
section
variable {L S : List Sn} {k : Nat}
theorem frs_take (hk : k < S.length) : frs L (S.take (k + 1)) = frs L (S.take k) ++ if (fnd S[k] L).isNone then [S[k]] else [] := by
 unfold frs; rw [List.take_succ_eq_append_getElem hk, List.filter_append, List.filter_cons]; split <;> simp
theorem dI_take (hk : k < S.length) : dI L (S.take (k + 1)) = dI L (S.take k) ++ if bring L S[k] then [S[k]] else [] := by
 unfold dI; rw [List.take_succ_eq_append_getElem hk, List.filter_append, List.filter_cons]; split <;> simp
def goes (L : List Sn) (x : Sn) : List Sn := match fnd x L with | some z => if nwr x z then [z] else [] | none => []
theorem dO_take (hk : k < S.length) : dO L (S.take (k + 1)) = dO L (S.take k) ++ goes L S[k] := by
 unfold dO goes; rw [List.take_succ_eq_append_getElem hk, List.filterMap_append]
 congr 1
 rw [List.filterMap_cons, List.filterMap_nil]
 cases fnd S[k] L with
 | none => rfl
 | some z => dsimp only; cases nwr S[k] z <;> rfl
theorem frs_len (L S : List Sn) : (frs L S).length ≤ S.length := List.length_filter_le _ _
theorem dI_len (L S : List Sn) : (dI L S).length ≤ S.length := List.length_filter_le _ _
theorem dO_len (L S : List Sn) : (dO L S).length ≤ S.length := List.length_filterMap_le _ _
end
def BecPost (L S : List Sn) (w : World) (e : Ending) (w' : World) : Prop :=
 ∃ A1 c1 A2 c2 A3 c3, e = .returned (.tuple #[.agg #[.slice A1 (dO L S).length c1, .slice A2 (dI L S).length c2], .slice A3 (frs L S).length c3]) ∧ Ls w' A1 c1 (dO L S) ∧ Ls w' A2 c2 (dI L S) ∧ Ls w' A3 c3 (frs L S) ∧ Below w.heap.size w w' ∧
  (∀ a, A1 = some a → w.heap.size ≤ a.block) ∧ (∀ a, A2 = some a → w.heap.size ≤ a.block) ∧ (∀ a, A3 = some a → w.heap.size ≤ a.block)
theorem dO_ok {L S : List Sn} (hL : ∀ x ∈ L, x.ok) : ∀ x ∈ dO L S, x.ok := by
 intro z hz
 unfold dO at hz
 obtain ⟨x, -, h⟩ := List.mem_filterMap.1 hz
 cases hf : fnd x L with
 | none => rw [hf] at h; cases h
 | some u =>
  rw [hf] at h
  dsimp only at h
  split at h
  ·cases h; exact hL _ (fnd_some hf).1
  ·cases h
theorem becomes (B : Nat) (f : Cf) (R : List Sn) (M : List (ByteArray × Int)) (Q : List (Int × Int)) (F : List Nat) (A : Option Addr) (c : Nat) (l : List Sn) (w : World) (h : SB w B f R M Q F) (hR : ∀ y ∈ R, y.ok) (hl : Ls w A c l) (hlen : l.length ≤ 100000) :
  Calls prog 80 #[.pointer (some ⟨B, 0, none⟩), .slice A l.length c] w (BecPost R (setOf l) w) := by
 obtain ⟨i0, hi, hz0, hz1, hz2⟩ := info_parts infoS
 have hf1 := Fr.alloc (fun _ => False) w (.cells #[.slice none 0 0, .slice none 0 0] TDl)
 have hf2 := Fr.alloc (fun _ => False) (w.alloc (.cells #[.slice none 0 0, .slice none 0 0] TDl)) (.cells #[.slice none 0 0, .slice none 0 0] TDl)
 have hf := hf1.trans hf2 (T := fun _ => False) (fun _ _ h => h) (fun _ _ h => h)
 have HB0 := Lib.hid ((Bk.new w #[.slice none 0 0, .slice none 0 0] TDl).fr hf2 (fun _ _ h => h))
 have HB1 : Hid (Bk ((w.alloc (.cells #[.slice none 0 0, .slice none 0 0] TDl)).alloc (.cells #[.slice none 0 0, .slice none 0 0] TDl)) (w.heap.size + 1) #[.slice none 0 0, .slice none 0 0] TDl) := by
  have := Bk.new (w.alloc (.cells #[.slice none 0 0, .slice none 0 0] TDl)) #[.slice none 0 0, .slice none 0 0] TDl
  rwa [World.size_alloc] at this
 have HS := Lib.hid (h.keep hf); have HL := Lib.hid (hl.keep hf); have HF := Lib.hid hf
 have HFlt := Lib.hid h.lt
 have hs2 : ((w.alloc (.cells #[.slice none 0 0, .slice none 0 0] TDl)).alloc (.cells #[.slice none 0 0, .slice none 0 0] TDl)).heap.size = w.heap.size + 2 := by simp
 have HS2 := Lib.hid hs2
 clear hf1 hf2 hf h hl hs2
 go_enter func80, ntmps80
 go_wp2_with fail
 obtain ⟨N0, hN0⟩ : ∃ b, w.heap.size = b := ⟨_, rfl⟩
 generalize ((w.alloc (.cells #[.slice none 0 0, .slice none 0 0] TDl)).alloc (.cells #[.slice none 0 0, .slice none 0 0] TDl)) = w2 at *
 refine (SetF.Set A c l w2 HL.out (by omega)).mono ?_
 rintro e w3 ⟨As, cs, rfl, hls, how, hb⟩
 have hsl := setOf_len l
 generalize setOf l = S at *
 have hfb := Fr.of_below' hb (fun _ => False)
 have HLs := Lib.hid hls
 have HAs : Hid (S ≠ [] → ∀ a, As = some a → N0 + 2 ≤ a.block ∧ a.block < w3.heap.size) := fun hne a ha => by
  subst ha
  have := ownsRow_blk how a.block rfl
  have := HS2.out
  omega
 replace HB0 := Lib.hid (HB0.out.fr hfb (fun _ _ h => h)); replace HB1 := Lib.hid (HB1.out.fr hfb (fun _ _ h => h))
 replace HS := Lib.hid (HS.out.keep hfb); replace HF := Lib.hid (HF.out.trans hfb (T := fun _ => False) (fun _ _ h => h) (fun _ _ h => h))
 have hz3 : N0 + 2 ≤ w3.heap.size := by have := HS2.out; have := hfb.size; omega
 have HD : Hid (D3 w3.heap.size (N0 + 1) w3 w3 (dO R (S.take 0)) (dI R (S.take 0)) (frs R (S.take 0)) (.slice none 0 0) (.slice none 0 0) (.slice none 0 0)) :=
  ⟨by rw [← hN0]; exact HB1.out, World.ownsRow_nil _ _ _ _, World.ownsRow_nil _ _ _ _, World.ownsRow_nil _ _ _ _, fun b hb => by simp [Value.ownBlock] at hb, fun b hb => by simp [Value.ownBlock] at hb, fun b hb => by simp [Value.ownBlock] at hb, Fr.refl _ _, Nat.le_refl _⟩
 clear hls hb hfb HL HB1 how HS2
 go_wp2_with fail
 go_loopg [7, 15] S.length (fun gk u i wr => ∃ (k : Nat) (v1 v2 v3 : Value), v3 = u ∧ i = .int .i64 k ∧ k ≤ S.length ∧ gk = S.length - k ∧ D3 w3.heap.size (N0 + 1) w3 wr (dO R (S.take k)) (dI R (S.take k)) (frs R (S.take k)) v1 v2 v3)
 case atStart => exact ⟨0, _, _, _, rfl, rfl, Nat.zero_le _, rfl, HD.out⟩
 case round =>
  clear HD
  obtain ⟨k, v1, v2, v3, rfl, rfl, hk, hg, hd⟩ := hrel
  obtain ⟨wo, hwo⟩ : ∃ wo, wo = wr := ⟨_, rfl⟩
  subst hwo
  have HG := Lib.hid hg; have HD := Lib.hid hd
  clear hg hd
  by_cases hlt : k < S.length
  ·have hne : S ≠ [] := fun e => by rw [e] at hlt; simp at hlt
   have hlo : Ls wo As cs S := HLs.out.fr HD.out.fr (fun a ha e => by have := HAs.out hne a ha; omega)
   obtain ⟨b1, o1, rfl, hb1, c1⟩ := hlo.s.at hlt (by omega)
   have HY := Lib.hid (At.row c1 hlt)
   have hxo := hlo.ok _ (List.getElem_mem hlt)
   have HT3 := Lib.hid (frs_take (L := R) hlt); have HT2 := Lib.hid (dI_take (L := R) hlt); have HT1 := Lib.hid (dO_take (L := R) hlt)
   have hq1 := dO_len R (S.take k); have hq2 := dI_len R (S.take k); have hq3 := frs_len R (S.take k)
   have hq4 := List.length_take_le k S
   have hSo : SB wo B f R M Q F := HS.out.fr HD.out.fr (fun x hx e => by have := HFlt.out x hx; omega)
   have hfx := Fr.alloc (fun _ => False) wo (.cells (scs S[k]).toArray TSn)
   have q1 : (0 : Int) ≤ (k : Int) := by omega
   have q2 : decide ((k : Int) < (S.length : Int)) = true := by simp; omega
   have q3 : (k : Int) < (S.length : Int) := by omega
   clear c1 hlo hb1
   generalize S[k] = y at *
   have HX := Lib.hid (At.box (Bk.new wo y.arr TSn))
   have HSx := Lib.hid (hSo.keep hfx)
   have HDx := Lib.hid (HD.out.keep hfx)
   have hzx : (wo.alloc (.cells y.arr TSn)).heap.size = wo.heap.size + 1 := by simp
   clear hfx hSo
   obtain ⟨yc0, yc1, yc2, yc3, yc4, yc5, yc6, yc7, yc8⟩ := SetW.at9 HY.out
   go_upto_region 6 with (fail)
   obtain ⟨Bx, hBx⟩ : ∃ b, wo.heap.size = b := ⟨_, rfl⟩
   have HBx := Lib.hid hBx
   rw [hBx] at HX hzx
   (try rw [hBx])
   clear hBx yc0 yc1 yc2 yc3 yc4 yc5 yc6 yc7 yc8 HY
   generalize (wo.alloc (.cells y.arr TSn)) = w4 at *
   have yc0 : w4.cell? ⟨Bx, 0, none⟩ = some (.int .i64 y.t) := by have := HX.out 0 _ rfl; simpa using this
   have yc1 : w4.cell? ⟨Bx, 1, none⟩ = some (.int .i64 y.i) := by have := HX.out 1 _ rfl; simpa using this
   have yc2 : w4.cell? ⟨Bx, 2, none⟩ = some (.int .i64 y.p) := by have := HX.out 2 _ rfl; simpa using this
   have yc3 : w4.cell? ⟨Bx, 3, none⟩ = some (.int .i64 y.r) := by have := HX.out 3 _ rfl; simpa using this
   have yc4 : w4.cell? ⟨Bx, 4, none⟩ = some (.string y.s) := by have := HX.out 4 _ rfl; simpa using this
   have yc5 : w4.cell? ⟨Bx, 5, none⟩ = some (.string y.o) := by have := HX.out 5 _ rfl; simpa using this
   have yc6 : w4.cell? ⟨Bx, 6, none⟩ = some (.int .i64 y.b) := by have := HX.out 6 _ rfl; simpa using this
   have yc7 : w4.cell? ⟨Bx, 7, none⟩ = some (.int .i64 y.d) := by have := HX.out 7 _ rfl; simpa using this
   have yc8 : w4.cell? ⟨Bx, 8, none⟩ = some (.bool y.g) := by have := HX.out 8 _ rfl; simpa using this
   go_wp2_with fail
   refine (Get B f R M Q F y.t y.i w4 HSx.out hR hxo.t hxo.i).mono ?_
   rintro e w5 ⟨rfl, hf5⟩
   rw [show fnd (zz y.t y.i) R = fnd y R from rfl]
   clear yc0 yc1 yc2 yc3 yc4 yc5 yc6 yc7 yc8
   have HN : Hid (∀ b, (v1.ownBlock = some b ∨ v2.ownBlock = some b ∨ v3.ownBlock = some b) → b ≠ Bx) := fun b hb e => by
    have := HBx.out
    rcases hb with hb | hb | hb
    ·have := (ownsRow_blk HD.out.o1 b hb).2.1; omega
    ·have := (ownsRow_blk HD.out.o2 b hb).2.1; omega
    ·have := (ownsRow_blk HD.out.o3 b hb).2.1; omega
   cases hfd : fnd y R with
   | none =>
    have hfz := Fr.alloc (fun _ => False) w5 (.cells z9.arr TSn)
    have HX6 := Lib.hid ((HX.out.keep hf5).keep hfz)
    have HD6 := Lib.hid ((HDx.out.keep hf5).keep hfz)
    have hb6 : w3.heap.size ≤ (w5.alloc (.cells z9.arr TSn)).heap.size := HD6.out.hn
    clear hf5 hfz HX HDx HSx
    dsimp only [Option.getD, Option.isSome]
    go_upto_region 9 with (fail)
    generalize (w5.alloc (.cells z9.arr TSn)) = w6 at *
    have yc0 : w6.cell? ⟨Bx, 0, none⟩ = some (.int .i64 y.t) := by have := HX6.out 0 _ rfl; simpa using this
    have yc1 : w6.cell? ⟨Bx, 1, none⟩ = some (.int .i64 y.i) := by have := HX6.out 1 _ rfl; simpa using this
    have yc2 : w6.cell? ⟨Bx, 2, none⟩ = some (.int .i64 y.p) := by have := HX6.out 2 _ rfl; simpa using this
    have yc3 : w6.cell? ⟨Bx, 3, none⟩ = some (.int .i64 y.r) := by have := HX6.out 3 _ rfl; simpa using this
    have yc4 : w6.cell? ⟨Bx, 4, none⟩ = some (.string y.s) := by have := HX6.out 4 _ rfl; simpa using this
    have yc5 : w6.cell? ⟨Bx, 5, none⟩ = some (.string y.o) := by have := HX6.out 5 _ rfl; simpa using this
    have yc6 : w6.cell? ⟨Bx, 6, none⟩ = some (.int .i64 y.b) := by have := HX6.out 6 _ rfl; simpa using this
    have yc7 : w6.cell? ⟨Bx, 7, none⟩ = some (.int .i64 y.d) := by have := HX6.out 7 _ rfl; simpa using this
    have yc8 : w6.cell? ⟨Bx, 8, none⟩ = some (.bool y.g) := by have := HX6.out 8 _ rfl; simpa using this
    go_wp2_with (at_builtin; refine wpList_append_own_at _ rfl (.tmp 37) (.tmp 39) TSs rfl w3.heap.size TSn i0 (.agg #[.int .i64 0, .int .i64 0, .int .i64 0, .int .i64 0, .string ByteArray.empty, .string ByteArray.empty, .int .i64 0, .int .i64 0, .bool false]) 9 88 underlying22 hi hz0 hz1 hz2 rfl (by decide) v3 _ _ rfl (World.ownsRow.alloc HD6.out.o3 (.cells (scs y).toArray TSn)) ⟨w6.heap.size, 0, none⟩ 1 1 (scs y) rfl rfl (new_cells w6 TSn (scs y)) (by simp [Value.oneCell']) (by unfold maxLen; omega) (by omega) (by rw [World.size_alloc]; omega) ?_)
    intro v3' w7 hown7 hgr7 _ hnb7
    have HD7 := Lib.hid (HD6.out.app3 (y := y) hown7 hgr7 hnb7)
    have hg7 := grow_fr hgr7
    have HX7 := Lib.hid (HX6.out.fr hg7 (fun e => HN.out Bx (.inr (.inr e)) rfl))
    have hs7 := HD7.out.hn
    clear hown7 hgr7 hnb7 hg7 HX6 HD6 yc0 yc1 yc2 yc3 yc4 yc5 yc6 yc7 yc8
    have e1 : w7.cell? ⟨N0 + 1, 1, none⟩ = some v2 := HD7.out.b.cell 1
    have f1 := HD7.out.b.free 1
    have yc0 : w7.cell? ⟨Bx, 0, none⟩ = some (.int .i64 y.t) := by have := HX7.out 0 _ rfl; simpa using this
    have yc1 : w7.cell? ⟨Bx, 1, none⟩ = some (.int .i64 y.i) := by have := HX7.out 1 _ rfl; simpa using this
    have yc2 : w7.cell? ⟨Bx, 2, none⟩ = some (.int .i64 y.p) := by have := HX7.out 2 _ rfl; simpa using this
    have yc3 : w7.cell? ⟨Bx, 3, none⟩ = some (.int .i64 y.r) := by have := HX7.out 3 _ rfl; simpa using this
    have yc4 : w7.cell? ⟨Bx, 4, none⟩ = some (.string y.s) := by have := HX7.out 4 _ rfl; simpa using this
    have yc5 : w7.cell? ⟨Bx, 5, none⟩ = some (.string y.o) := by have := HX7.out 5 _ rfl; simpa using this
    have yc6 : w7.cell? ⟨Bx, 6, none⟩ = some (.int .i64 y.b) := by have := HX7.out 6 _ rfl; simpa using this
    have yc7 : w7.cell? ⟨Bx, 7, none⟩ = some (.int .i64 y.d) := by have := HX7.out 7 _ rfl; simpa using this
    have yc8 : w7.cell? ⟨Bx, 8, none⟩ = some (.bool y.g) := by have := HX7.out 8 _ rfl; simpa using this
    go_wp2_with (at_builtin; refine wpList_append_own_at _ rfl (.tmp 47) (.tmp 49) TSs rfl w3.heap.size TSn i0 (.agg #[.int .i64 0, .int .i64 0, .int .i64 0, .int .i64 0, .string ByteArray.empty, .string ByteArray.empty, .int .i64 0, .int .i64 0, .bool false]) 9 88 underlying22 hi hz0 hz1 hz2 rfl (by decide) v2 _ _ rfl (World.ownsRow.alloc HD7.out.o2 (.cells (scs y).toArray TSn)) ⟨w7.heap.size, 0, none⟩ 1 1 (scs y) rfl rfl (new_cells w7 TSn (scs y)) (by simp [Value.oneCell']) (by unfold maxLen; omega) (by omega) (by rw [World.size_alloc]; omega) ?_)
    intro v2' w8 hown8 hgr8 _ hnb8
    obtain ⟨g', cap', rfl⟩ := ownsRow_succ hown8
    have HD8 := Lib.hid (HD7.out.app2 (y := y) hown8 hgr8 hnb8)
    have hbx8 := HD7.out.box hgr8 HD7.out.o2
    have e2 : w8.cell? ⟨N0 + 1, 1, none⟩ = some v2 := hbx8.cell 1
    have f2 := hbx8.free 1
    clear hown8 hgr8 hnb8 HX7 HD7 e1 f1 hbx8 yc0 yc1 yc2 yc3 yc4 yc5 yc6 yc7 yc8
    go_wp2_with fail
    go_roundg (S.length - (k + 1))
    case rel => exact ⟨k + 1, _, _, _, rfl, by go_num, by omega, rfl, by rw [HT1.out, HT2.out, HT3.out, goes, hfd, bring_none hfd]; simpa using HD8.out⟩
    case measure => have := HG.out; omega
   | some z =>
    have hfz := Fr.alloc (fun _ => False) w5 (.cells z.arr TSn)
    have hzo : z.ok := hR z (fnd_some hfd).1
    have HX6 := Lib.hid ((HX.out.keep hf5).keep hfz)
    have HD6 := Lib.hid ((HDx.out.keep hf5).keep hfz)
    have HZ6 := Lib.hid (At.box (Bk.new w5 z.arr TSn))
    have hb6 : w3.heap.size ≤ (w5.alloc (.cells z.arr TSn)).heap.size := HD6.out.hn
    have hz5 := hf5.size
    have hw5z : w4.heap.size ≤ w5.heap.size := hz5
    obtain ⟨Bz, hBz⟩ : ∃ b, w5.heap.size = b := ⟨_, rfl⟩
    have HNz : Hid (∀ b, (v1.ownBlock = some b ∨ v2.ownBlock = some b ∨ v3.ownBlock = some b) → b ≠ Bz) := fun b hb e => by
     have := HBx.out
     rcases hb with hb | hb | hb
     ·have := (ownsRow_blk HD.out.o1 b hb).2.1; omega
     ·have := (ownsRow_blk HD.out.o2 b hb).2.1; omega
     ·have := (ownsRow_blk HD.out.o3 b hb).2.1; omega
    rw [hBz] at HZ6
    clear hf5 hfz HX HDx HSx hz5 hw5z
    dsimp only [Option.getD, Option.isSome]
    go_upto_region 10 with (fail)
    (try rw [hBz])
    clear hBz
    generalize (w5.alloc (.cells z.arr TSn)) = w6 at *
    have yc0 : w6.cell? ⟨Bx, 0, none⟩ = some (.int .i64 y.t) := by have := HX6.out 0 _ rfl; simpa using this
    have yc1 : w6.cell? ⟨Bx, 1, none⟩ = some (.int .i64 y.i) := by have := HX6.out 1 _ rfl; simpa using this
    have yc2 : w6.cell? ⟨Bx, 2, none⟩ = some (.int .i64 y.p) := by have := HX6.out 2 _ rfl; simpa using this
    have yc3 : w6.cell? ⟨Bx, 3, none⟩ = some (.int .i64 y.r) := by have := HX6.out 3 _ rfl; simpa using this
    have yc4 : w6.cell? ⟨Bx, 4, none⟩ = some (.string y.s) := by have := HX6.out 4 _ rfl; simpa using this
    have yc5 : w6.cell? ⟨Bx, 5, none⟩ = some (.string y.o) := by have := HX6.out 5 _ rfl; simpa using this
    have yc6 : w6.cell? ⟨Bx, 6, none⟩ = some (.int .i64 y.b) := by have := HX6.out 6 _ rfl; simpa using this
    have yc7 : w6.cell? ⟨Bx, 7, none⟩ = some (.int .i64 y.d) := by have := HX6.out 7 _ rfl; simpa using this
    have yc8 : w6.cell? ⟨Bx, 8, none⟩ = some (.bool y.g) := by have := HX6.out 8 _ rfl; simpa using this
    have zc0 : w6.cell? ⟨Bz, 0, none⟩ = some (.int .i64 z.t) := by have := HZ6.out 0 _ rfl; simpa using this
    have zc1 : w6.cell? ⟨Bz, 1, none⟩ = some (.int .i64 z.i) := by have := HZ6.out 1 _ rfl; simpa using this
    have zc2 : w6.cell? ⟨Bz, 2, none⟩ = some (.int .i64 z.p) := by have := HZ6.out 2 _ rfl; simpa using this
    have zc3 : w6.cell? ⟨Bz, 3, none⟩ = some (.int .i64 z.r) := by have := HZ6.out 3 _ rfl; simpa using this
    have zc4 : w6.cell? ⟨Bz, 4, none⟩ = some (.string z.s) := by have := HZ6.out 4 _ rfl; simpa using this
    have zc5 : w6.cell? ⟨Bz, 5, none⟩ = some (.string z.o) := by have := HZ6.out 5 _ rfl; simpa using this
    have zc6 : w6.cell? ⟨Bz, 6, none⟩ = some (.int .i64 z.b) := by have := HZ6.out 6 _ rfl; simpa using this
    have zc7 : w6.cell? ⟨Bz, 7, none⟩ = some (.int .i64 z.d) := by have := HZ6.out 7 _ rfl; simpa using this
    have zc8 : w6.cell? ⟨Bz, 8, none⟩ = some (.bool z.g) := by have := HZ6.out 8 _ rfl; simpa using this
    go_wp2_with fail
    refine (Rank.Newer y z hxo hzo w6).mono ?_
    rintro e w7 ⟨rfl, hf7⟩
    have HX7 := Lib.hid (HX6.out.keep hf7); have HZ7 := Lib.hid (HZ6.out.keep hf7); have HD7 := Lib.hid (HD6.out.keep hf7)
    have hs7 := HD7.out.hn
    clear hf7 HX6 HZ6 HD6 yc0 yc1 yc2 yc3 yc4 yc5 yc6 yc7 yc8 zc0 zc1 zc2 zc3 zc4 zc5 zc6 zc7 zc8
    cases hnw : nwr y z with
    | false =>
     go_wp2_with fail
     go_roundg (S.length - (k + 1))
     case rel => exact ⟨k + 1, _, _, _, rfl, by go_num, by omega, rfl, by rw [HT1.out, HT2.out, HT3.out, goes, hfd, bring_some hfd, hnw]; simpa [hnw] using HD7.out⟩
     case measure => have := HG.out; omega
    | true =>
     have e1 : w7.cell? ⟨N0 + 1, 0, none⟩ = some v1 := HD7.out.b.cell 0
     have f1 := HD7.out.b.free 0
     have zc0 : w7.cell? ⟨Bz, 0, none⟩ = some (.int .i64 z.t) := by have := HZ7.out 0 _ rfl; simpa using this
     have zc1 : w7.cell? ⟨Bz, 1, none⟩ = some (.int .i64 z.i) := by have := HZ7.out 1 _ rfl; simpa using this
     have zc2 : w7.cell? ⟨Bz, 2, none⟩ = some (.int .i64 z.p) := by have := HZ7.out 2 _ rfl; simpa using this
     have zc3 : w7.cell? ⟨Bz, 3, none⟩ = some (.int .i64 z.r) := by have := HZ7.out 3 _ rfl; simpa using this
     have zc4 : w7.cell? ⟨Bz, 4, none⟩ = some (.string z.s) := by have := HZ7.out 4 _ rfl; simpa using this
     have zc5 : w7.cell? ⟨Bz, 5, none⟩ = some (.string z.o) := by have := HZ7.out 5 _ rfl; simpa using this
     have zc6 : w7.cell? ⟨Bz, 6, none⟩ = some (.int .i64 z.b) := by have := HZ7.out 6 _ rfl; simpa using this
     have zc7 : w7.cell? ⟨Bz, 7, none⟩ = some (.int .i64 z.d) := by have := HZ7.out 7 _ rfl; simpa using this
     have zc8 : w7.cell? ⟨Bz, 8, none⟩ = some (.bool z.g) := by have := HZ7.out 8 _ rfl; simpa using this
     go_wp2_with (at_builtin; refine wpList_append_own_at _ rfl (.tmp 29) (.tmp 31) TSs rfl w3.heap.size TSn i0 (.agg #[.int .i64 0, .int .i64 0, .int .i64 0, .int .i64 0, .string ByteArray.empty, .string ByteArray.empty, .int .i64 0, .int .i64 0, .bool false]) 9 88 underlying22 hi hz0 hz1 hz2 rfl (by decide) v1 _ _ rfl (World.ownsRow.alloc HD7.out.o1 (.cells (scs z).toArray TSn)) ⟨w7.heap.size, 0, none⟩ 1 1 (scs z) rfl rfl (new_cells w7 TSn (scs z)) (by simp [Value.oneCell']) (by unfold maxLen; omega) (by omega) (by rw [World.size_alloc]; omega) ?_)
     intro v1' w8 hown8 hgr8 _ hnb8
     obtain ⟨g', cap', rfl⟩ := ownsRow_succ hown8
     have HD8 := Lib.hid (HD7.out.app1 (y := z) hown8 hgr8 hnb8)
     have hbx8 := HD7.out.box hgr8 HD7.out.o1
     have e2 : w8.cell? ⟨N0 + 1, 0, none⟩ = some v1 := hbx8.cell 0
     have f2 := hbx8.free 0
     have hg8 := grow_fr hgr8
     have HX8 := Lib.hid ((HX7.out.fr hg8 (fun e => HN.out Bx (.inl e) rfl)).fr (Fr.setCell w8 ⟨N0 + 1, 0, none⟩ (.slice (some ⟨g', 0, none⟩) ((dO R (S.take k)).length + 1) cap') (S := (· = N0 + 1)) rfl) (fun e => by have := HBx.out; have := HD.out.hn; omega))
     clear hown8 hgr8 hnb8 HX7 HZ7 HD7 e1 f1 hbx8 hg8 zc0 zc1 zc2 zc3 zc4 zc5 zc6 zc7 zc8
     go_upto_region 11 with (fail)
     have hs8 := HD8.out.hn
     generalize (w8.setCell ⟨N0 + 1, 0, none⟩ (.slice (some ⟨g', 0, none⟩) ((dO R (S.take k)).length + 1) cap')) = w9 at *
     clear e2 f2
     have e1 : w9.cell? ⟨N0 + 1, 1, none⟩ = some v2 := HD8.out.b.cell 1
     have f1 := HD8.out.b.free 1
     have yc0 : w9.cell? ⟨Bx, 0, none⟩ = some (.int .i64 y.t) := by have := HX8.out 0 _ rfl; simpa using this
     have yc1 : w9.cell? ⟨Bx, 1, none⟩ = some (.int .i64 y.i) := by have := HX8.out 1 _ rfl; simpa using this
     have yc2 : w9.cell? ⟨Bx, 2, none⟩ = some (.int .i64 y.p) := by have := HX8.out 2 _ rfl; simpa using this
     have yc3 : w9.cell? ⟨Bx, 3, none⟩ = some (.int .i64 y.r) := by have := HX8.out 3 _ rfl; simpa using this
     have yc4 : w9.cell? ⟨Bx, 4, none⟩ = some (.string y.s) := by have := HX8.out 4 _ rfl; simpa using this
     have yc5 : w9.cell? ⟨Bx, 5, none⟩ = some (.string y.o) := by have := HX8.out 5 _ rfl; simpa using this
     have yc6 : w9.cell? ⟨Bx, 6, none⟩ = some (.int .i64 y.b) := by have := HX8.out 6 _ rfl; simpa using this
     have yc7 : w9.cell? ⟨Bx, 7, none⟩ = some (.int .i64 y.d) := by have := HX8.out 7 _ rfl; simpa using this
     have yc8 : w9.cell? ⟨Bx, 8, none⟩ = some (.bool y.g) := by have := HX8.out 8 _ rfl; simpa using this
     go_wp2_with (at_builtin; refine wpList_append_own_at _ rfl (.tmp 47) (.tmp 49) TSs rfl w3.heap.size TSn i0 (.agg #[.int .i64 0, .int .i64 0, .int .i64 0, .int .i64 0, .string ByteArray.empty, .string ByteArray.empty, .int .i64 0, .int .i64 0, .bool false]) 9 88 underlying22 hi hz0 hz1 hz2 rfl (by decide) v2 _ _ rfl (World.ownsRow.alloc HD8.out.o2 (.cells (scs y).toArray TSn)) ⟨w9.heap.size, 0, none⟩ 1 1 (scs y) rfl rfl (new_cells w9 TSn (scs y)) (by simp [Value.oneCell']) (by unfold maxLen; omega) (by omega) (by rw [World.size_alloc]; omega) ?_)
     intro v2' w10 hown9 hgr9 _ hnb9
     obtain ⟨g2, cap2, rfl⟩ := ownsRow_succ hown9
     have HD9 := Lib.hid (HD8.out.app2 (y := y) hown9 hgr9 hnb9)
     have hbx9 := HD8.out.box hgr9 HD8.out.o2
     have e2 : w10.cell? ⟨N0 + 1, 1, none⟩ = some v2 := hbx9.cell 1
     have f2 := hbx9.free 1
     clear hown9 hgr9 hnb9 HX8 HD8 e1 f1 hbx9 yc0 yc1 yc2 yc3 yc4 yc5 yc6 yc7 yc8
     go_wp2_with fail
     go_roundg (S.length - (k + 1))
     case rel => exact ⟨k + 1, _, _, _, rfl, by go_num, by omega, rfl, by rw [HT1.out, HT2.out, HT3.out, goes, hfd, bring_some hfd, hnw]; simpa [hnw] using HD9.out⟩
     case measure => have := HG.out; omega
  ·obtain rfl : k = S.length := by omega
   have q2 : decide ((S.length : Int) < (S.length : Int)) = false := by simp
   have hd := HD.out
   rw [List.take_length] at hd
   obtain ⟨A1, d1, rfl, s1, a1⟩ := Sl.of_own hd.o1
   obtain ⟨A2, d2, rfl, s2, a2⟩ := Sl.of_own hd.o2
   obtain ⟨A3, d3, rfl, s3, a3⟩ := Sl.of_own hd.o3
   have e0 : wo.cell? ⟨N0 + 1, 0, none⟩ = some (.slice A1 (dO R S).length d1) := hd.b.cell 0
   have e1 : wo.cell? ⟨N0 + 1, 1, none⟩ = some (.slice A2 (dI R S).length d2) := hd.b.cell 1
   have hb0 := HB0.out.fr hd.fr (fun b hb e => by simp at hb; omega)
   rw [hN0] at hb0
   have r0 : wo.cell? ⟨N0, 0, none⟩ = some (.slice none 0 0) := hb0.cell 0
   have r1 : wo.cell? ⟨N0, 1, none⟩ = some (.slice none 0 0) := hb0.cell 1
   have g0 := hb0.free 0
   have g1 := hb0.free 1
   have hbel : Below w.heap.size w wo := (HF.out.below (Nat.le_refl _) (fun _ _ h => h)).trans (hd.fr.below (by omega) (fun k hk e => by omega))
   have hf3 : Fr (· = N0) wo ((wo.setCell ⟨N0, 0, none⟩ (.slice A1 (dO R S).length d1)).setCell ⟨N0, 1, none⟩ (.slice A2 (dI R S).length d2)) := (Fr.setCell wo ⟨N0, 0, none⟩ _ (S := (· = N0)) rfl).trans (Fr.setCell _ ⟨N0, 1, none⟩ _ (S := (· = N0)) rfl) (fun _ _ h => h) (fun _ _ h => h)
   have HR0 : Hid (Bk ((wo.setCell ⟨N0, 0, none⟩ (.slice A1 (dO R S).length d1)).setCell ⟨N0, 1, none⟩ (.slice A2 (dI R S).length d2)) N0 #[.slice A1 (dO R S).length d1, .slice A2 (dI R S).length d2] TDl) := (hb0.set 0 _).set 1 _
   have HPo : Hid (BecPost R S w (.returned (.tuple #[.agg #[.slice A1 (dO R S).length d1, .slice A2 (dI R S).length d2], .slice A3 (frs R S).length d3])) ((wo.setCell ⟨N0, 0, none⟩ (.slice A1 (dO R S).length d1)).setCell ⟨N0, 1, none⟩ (.slice A2 (dI R S).length d2))) := by
    refine ⟨A1, d1, A2, d2, A3, d3, rfl, ⟨s1.fr hf3 (fun a ha e => by have := (a1 a ha).1; omega), dO_ok hR⟩, ⟨s2.fr hf3 (fun a ha e => by have := (a2 a ha).1; omega), fun x hx => HLs.out.ok x (List.mem_filter.1 hx).1⟩, ⟨s3.fr hf3 (fun a ha e => by have := (a3 a ha).1; omega), fun x hx => HLs.out.ok x (List.mem_filter.1 hx).1⟩, hbel.trans (hf3.below hbel.size (fun k hk e => by omega)), fun a ha => by have := (a1 a ha).1; omega, fun a ha => by have := (a2 a ha).1; omega, fun a ha => by have := (a3 a ha).1; omega⟩
   clear hd s1 a1 s2 a2 s3 a3 hb0 hbel hf3 HD HB0
   go_wp2_with fail
   exact bodyPost_ret (results_row_slot (p := 4) (q := 5) rfl _ _ N0 TDl _ _ _ rfl rfl HR0.out underlying35 rfl (by kernel_rfl)) rfl HPo.out
end Sto
set_option maxRecDepth 100000
set_option maxHeartbeats 1000000
namespace Sto
open Name KeyP PackP SetP SetW SetF Delta Comp BagP
open Sat2 (endS cl cl_in)
attribute [local go_sem] Eng.ev Eng.getO_cons Eng.getO_nil
abbrev TCf : TypeId := 31
abbrev cfc (f : Cf) : Array Value := #[.int .i64 f.sp, .int .i64 f.tr, .int .i64 f.wi, .int .i64 f.sg]
abbrev mnI : Int := -9223372036854775808
abbrev st0 (f : Cf) (q : Nat) : Array Value := #[.int .i64 f.sp, .int .i64 f.tr, .int .i64 f.wi, .int .i64 f.sg, .int .i64 mnI, .pointer none, .int .i64 0, .pointer none, .int .i64 0, .pointer none, .int .i64 0, .pointer (some ⟨q, 0, none⟩)]
theorem SB.new {w : World} {q rq : Nat} {f : Cf} (hq : Quota.QB w q rq (max f.sp 0) (max f.tr 0) []) : SB (w.alloc (.cells (st0 f q) TSt)) w.heap.size (f.at mnI) [] [] [] (flS [] [w.heap.size] q rq) := by
 have hf := Fr.alloc (fun _ => False) w (.cells (st0 f q) TSt)
 have h1 := lt_of_heap hq.blk
 have h2 := hq.gm.lt
 exact ⟨st0 f q, none, [], [w.heap.size], q, rq, ⟨rfl, rfl, rfl, rfl, rfl, rfl, rfl, rfl, rfl, AvlSS.MapIn.nil _, ⟨[], none, none, [], [], ⟨heap_new _ _, rfl, rfl, rfl, rfl, AvlSI.MapIn.nil _, AvlSE.MapIn.nil _, by simp, by simp, by simp⟩, ExpP.Rel.nil, rfl⟩, hq.fr hf (fun h => h) (fun h => h), by simp, ⟨by simp, by simp; omega⟩, ⟨by simp, by simp; omega⟩⟩, rfl⟩
structure NX (w0 w : World) (Bc : Nat) (f : Cf) : Prop where
 r : Fr (fun _ => False) w0 w
 b : Bk w Bc (cfc f) TCf
theorem NX.fr {w0 w w' : World} {Bc : Nat} {f : Cf} (h : NX w0 w Bc f) (hf : Fr (fun _ => False) w w') : NX w0 w' Bc f := ⟨h.r.trans hf (fun _ _ h => h) (fun _ _ h => h), h.b.fr hf (fun _ _ h => h)⟩
theorem ne1 {ops : Array Oper} (hops : Eng.fnOps Tryz.f16 1 = ops) (a0 : Act) (Q : Exit → Act → World → Prop) (w0 w : World) (Bc : Nat) (f : Cf) (hst : NX w0 w Bc f)
  (hn : a0.tmps.size = 11) (h_1 : a0.tmps.getD 1 undef = .pointer (some ⟨Bc, 0, none⟩))
  (hpost : ∀ (x : Nat → Value) (w' : World) (B : Nat) (F : List Nat), x 2 = .pointer (some ⟨B, 0, none⟩) → SB w' B (f.at mnI) [] [] [] F → (∀ k ∈ F, w.heap.size ≤ k) → NX w0 w' Bc f → Q .normal (Eng.setAll a0 [2, 3, 4, 5, 6, 7, 8, 9, 10] x) w') :
  (Code.region 1 ops true).wp prog Q a0 w := by
 simp only [Eng.fnOps, Eng.regOps, Tryz.f16, Option.bind_some, Option.getD_some, Nat.reduceEqDiff, ↓reduceIte] at hops
 subst hops
 have HSt := Lib.hid (hst.fr (Fr.drew _ _))
 refine Eng.regionN [(0, true), (1, true), (2, true), (3, true), (4, true), (5, false), (6, true), (7, false), (8, true)] (fun w' => w'.cell? ⟨Bc, 0, none⟩ = some (.int .i64 f.sp) ∧ w'.cell? ⟨Bc, 1, none⟩ = some (.int .i64 f.tr) ∧ w'.cell? ⟨Bc, 2, none⟩ = some (.int .i64 f.wi) ∧ w'.cell? ⟨Bc, 3, none⟩ = some (.int .i64 f.sg)) (by kernel_rfl) 11 hn (by kernel_rfl) rfl (by kernel_rfl) (⟨HSt.out.b.cell 0, HSt.out.b.cell 1, HSt.out.b.cell 2, HSt.out.b.cell 3⟩) (fun a b ha hb => ?_)
 subst ha
 have hb1 : b 1 = .pointer (some ⟨Bc, 0, none⟩) := (hb 1).symm.trans h_1
 clear hb h_1
 have HP := Lib.hid hpost; have HN := Lib.hid hn
 clear hpost hn
 iterate 5 (refine Eng.Sch.tk ?_)
 refine Eng.Sch.call rfl rfl (by decide) (by kernel_rfl) ?_ (Quota.New f.sp f.tr _) ?_
 ·go_simp
 rintro e w2 ⟨FQ, rfl, hq, hFQ, hb⟩
 obtain ⟨rq, hqb, rfl⟩ := hq
 have HQ := Lib.hid hqb; have HFQ := Lib.hid hFQ
 have HSt1 := Lib.hid (HSt.out.fr (Fr.of_below' hb _))
 refine ⟨_, rfl, ⟨HSt1.out.b.cell 0, HSt1.out.b.cell 1, HSt1.out.b.cell 2, HSt1.out.b.cell 3⟩, ?_⟩
 refine Eng.Sch.tk ?_
 have HSt2 := Lib.hid (HSt1.out.fr (Fr.alloc _ _ (.cells (st0 f (w.drew.heap.size + 1)) TSt)))
 refine Eng.Sch.step rfl rfl (by decide) (by kernel_rfl) (by go_simp; first | done | with_reducible rfl | exact ⟨rfl, rfl⟩) (⟨HSt2.out.b.cell 0, HSt2.out.b.cell 1, HSt2.out.b.cell 2, HSt2.out.b.cell 3⟩) ?_
 have hSS : (w2.alloc (.cells (st0 f (w.drew.heap.size + 1)) TSt)).cell? ⟨Bc, 0, none⟩ = some (.int .i64 f.sp) ∧ (w2.alloc (.cells (st0 f (w.drew.heap.size + 1)) TSt)).cell? ⟨Bc, 1, none⟩ = some (.int .i64 f.tr) ∧ (w2.alloc (.cells (st0 f (w.drew.heap.size + 1)) TSt)).cell? ⟨Bc, 2, none⟩ = some (.int .i64 f.wi) ∧ (w2.alloc (.cells (st0 f (w.drew.heap.size + 1)) TSt)).cell? ⟨Bc, 3, none⟩ = some (.int .i64 f.sg) := ⟨HSt2.out.b.cell 0, HSt2.out.b.cell 1, HSt2.out.b.cell 2, HSt2.out.b.cell 3⟩
 refine Eng.Sch.tk ?_
 refine Eng.Sch.end_ [2, 3, 4, 5, 6, 7, 8, 9, 10] HN.out (by kernel_rfl) (by kernel_rfl) ?_
 exact HP.out _ _ _ _ rfl (SB.new HQ.out) (fun k hk => by have h1 := HFQ.out; have h2 := HSt1.out.r.size; simp [flS] at hk h1; have h3 : w.drew.heap.size = w.heap.size := rfl; have h4 := hb.size; rcases hk with rfl | rfl | rfl <;> omega) HSt2.out
theorem New (f : Cf) (w : World) : Calls prog 16 #[.agg (cfc f)] w fun e w' => ∃ B F, e = .returned (.pointer (some ⟨B, 0, none⟩)) ∧ SB w' B (f.at mnI) [] [] [] F ∧ (∀ k ∈ F, w.heap.size ≤ k) ∧ Below w.heap.size w w' := by
 have hf := Fr.alloc (fun _ => False) w (.cells (cfc f) TCf)
 have HN : Hid (NX w (w.alloc (.cells (cfc f) TCf)) w.heap.size f) := ⟨hf, Bk.new _ _ _⟩
 have hs : w.heap.size ≤ (w.alloc (.cells (cfc f) TCf)).heap.size := hf.size
 clear hf
 go_enter func16, ntmps16
 go_upto_region 1 with (fail)
 refine ne1 (by kernel_rfl) _ _ w _ w.heap.size f HN.out rfl rfl ?_
 intro x w2 B F h2 hsb hF hst
 simp only [Eng.setAll, Act.put, List.setIfInBounds_toArray, List.set_cons_succ, List.set_cons_zero]
 rw [h2]
 have HP : Hid (SB w2 B (f.at mnI) [] [] [] F ∧ (∀ k ∈ F, w.heap.size ≤ k) ∧ Below w.heap.size w w2) := ⟨hsb, fun k hk => Nat.le_trans hs (hF k hk), hst.r.below (Nat.le_refl _) (fun _ _ h => h)⟩
 clear h2 hsb hF hst HN hs
 go_wp2_with fail
 go_ret
 exact ⟨B, F, rfl, HP.out⟩
def canE (f : Cf) (L l : List Sn) : Int := if (mayE f l != 0) then mayE f l else if QuotaP.okM (max f.sp 0) (max f.tr 0) ((frs L (setOf l)).map Sn.t) (cts L) then 0 else 5
theorem St.lt {w : World} {B : Nat} {f : Cf} {L : List Sn} {F : List Nat} (h : St w B f L F) : ∀ x ∈ F, x < w.heap.size := h.s.lt
theorem Can (B : Nat) (f : Cf) (L : List Sn) (F : List Nat) (A : Option Addr) (c : Nat) (l : List Sn) (w : World) (h : St w B f L F) (hl : Ls w A c l) (hlen : l.length ≤ 10000) (hL : L.length ≤ 100000) :
  Calls prog 64 #[.pointer (some ⟨B, 0, none⟩), .slice A l.length c] w fun e w' => e = .returned (.int .i64 (canE f L l)) ∧ St w' B f L F ∧ Tn F F w w' := by
 have HM := Lib.hid (may B f L _ _ F A c l w h.s h.f.2.2.1 h.f.2.2.2 hl)
 have HO := Lib.hid h.o; have HK := Lib.hid h.k; have HI := Lib.hid h.f; have HS := Lib.hid h.s; have HFl := Lib.hid h.lt; have HL := Lib.hid hl
 obtain ⟨E, hE⟩ : ∃ E, canE f L l = E := ⟨_, rfl⟩
 rw [hE]
 have HE := Lib.hid hE
 unfold canE at HE
 clear h hl hE
 go_enter func64, ntmps64
 go_wp2_with fail
 refine HM.out.mono ?_
 rintro e w1 ⟨rfl, hf1⟩
 have HF1 := Lib.hid hf1
 have HS1 := Lib.hid (HS.out.keep hf1); have HL1 := Lib.hid (HL.out.keep hf1)
 clear hf1 HM
 cases hm : (mayE f l != 0) with
 | true =>
  obtain rfl : mayE f l = E := by have := HE.out; rwa [hm, if_pos rfl] at this
  have HP : Hid (St w1 B f L F ∧ Tn F F w w1) := ⟨⟨HS1.out, HO.out, HK.out, HI.out⟩, Tn.of_fr HF1.out HFl.out⟩
  go_wp2_with fail
  go_ret
  exact ⟨rfl, HP.out⟩
 | false =>
  rw [hm, if_neg (by simp)] at HE
  go_wp2_with fail
  refine (becomes B f L _ _ F A c l w1 HS1.out HK.out HL1.out (by omega)).mono ?_
  rintro e w2 ⟨A1, c1, A2, c2, A3, c3, rfl, l1, l2, l3, hb, n1, n2, n3⟩
  have hfr := frs_len L (setOf l)
  have hsl := setOf_len l
  generalize frs L (setOf l) = X at *
  generalize dO L (setOf l) = XO at *
  generalize dI L (setOf l) = XI at *
  have hfb := Fr.of_below' hb (fun _ => False)
  have hfa := Fr.alloc (fun _ => False) w2 (.cells #[.slice A1 XO.length c1, .slice A2 XI.length c2] TDl)
  have hf3 := hfb.trans hfa (T := fun _ => False) (fun _ _ h => h) (fun _ _ h => h)
  have HF3 := Lib.hid (HF1.out.trans hf3 (T := fun _ => False) (fun _ _ h => h) (fun _ _ h => h))
  have HL3 := Lib.hid (l3.keep hfa)
  obtain ⟨cc, r, F1, FE, q, rq, hst, hFe⟩ := HS1.out.keep hf3
  have HFe := Lib.hid hFe
  have HSt := Lib.hid hst
  have c11 := hst.cell hst.c11
  have hap : Apt A3 X (flS F1 FE q rq) := fun _ a ha hm => by
   have := HFl.out a.block (by rw [hFe]; exact hm); have := n3 a ha; have := HF1.out.size; omega
  have hsum := cts_sum L
  have HA := Lib.hid (hst.addQ HL3.out hap (by rw [hsum]; omega))
  have HAp := Lib.hid hap
  clear hFe hst hap hfb hfa hf3 l1 l2 l3 hb n1 n2 n3 HS1 HL1 HS HL
  go_upto_region 5 with (fail)
  generalize (w2.alloc (.cells #[.slice A1 XO.length c1, .slice A2 XI.length c2] TDl)) = w3 at *
  go_wp2_with fail
  refine HA.out.mono ?_
  rintro e w4 ⟨rfl, hs4, ht4⟩
  have HS4 := Lib.hid hs4; have HT4 := Lib.hid ht4
  clear hs4 ht4 HA c11
  have HT : Hid (Tn F F w w4) := (Tn.of_fr HF3.out HFl.out).trans (show Tn F F w3 w4 by rw [HFe.out]; exact HT4.out)
  cases hok : QuotaP.okM (max f.sp 0) (max f.tr 0) (X.map Sn.t) (cts L) with
  | false =>
   rw [hok, if_neg (by simp)] at HE
   obtain rfl : 5 = E := HE.out
   rw [show QuotaP.addA (max f.sp 0) (max f.tr 0) (X.map Sn.t) (cts L) = cts L from by unfold QuotaP.addA; rw [hok]; rfl] at HS4
   have HP : Hid (St w4 B f L F ∧ Tn F F w w4) := ⟨⟨⟨_, _, _, _, _, _, HS4.out, HFe.out⟩, HO.out, HK.out, HI.out⟩, HT.out⟩
   go_wp2_with fail
   all_goals (go_ret; exact ⟨rfl, HP.out⟩)
  | true =>
   rw [hok, if_pos rfl] at HE
   obtain rfl : 0 = E := HE.out
   rw [show QuotaP.addA (max f.sp 0) (max f.tr 0) (X.map Sn.t) (cts L) = QuotaP.addM (X.map Sn.t) (cts L) from by unfold QuotaP.addA; rw [hok]; rfl] at HS4
   have HL4 := Lib.hid (show Ls w4 A3 c3 X from by
    refine ⟨?_, HL3.out.ok⟩
    by_cases hX : X = []
    ·subst hX
     obtain ⟨h1, h2, h3, h4, h5⟩ := HL3.out.s
     exact ⟨h1, h2, h3, h4, fun h => absurd rfl h⟩
    ·exact HL3.out.s.fr HT4.out.fr (fun a ha => HAp.out hX a ha))
   have HD := Lib.hid (HS4.out.dropQ HL4.out HAp.out)
   rw [QuotaP.dropM_addM _ (cts_cs L)] at HD
   have c11 := HS4.out.cell HS4.out.c11
   go_wp2_with fail
   refine HD.out.mono ?_
   rintro e w5 ⟨rfl, hs5, ht5⟩
   have HP : Hid (St w5 B f L F ∧ Tn F F w w5) := ⟨⟨⟨_, _, _, _, _, _, hs5, HFe.out⟩, HO.out, HK.out, HI.out⟩, HT.out.trans (show Tn F F w4 w5 by rw [HFe.out]; exact ht5)⟩
   clear hs5 ht5 c11
   go_wp2_with fail
   all_goals (go_ret; exact ⟨rfl, HP.out⟩)
theorem Can_no {v : Value} {w : World} (h : NoS v w) (A : Option Addr) (n c : Nat) : Calls prog 64 #[v, .slice A n c] w fun e w' => e = .returned (.int .i64 10) ∧ Fr (fun _ => False) w w' := by
 have HM := Lib.hid (may_no h A n c)
 clear h
 go_enter func64, ntmps64
 go_wp2_with fail
 refine HM.out.mono ?_
 rintro e w1 ⟨rfl, hf⟩
 have HF := Lib.hid hf
 clear hf
 go_wp2_with fail
 go_ret
 exact ⟨rfl, HF.out⟩
end Sto
end Go.Proofs.YtdpngmgaomghoaaGreat
