/- The document's store: New, Horizon, past, lets. -/
import Derived.Test.YtdpngmgaomghoaaGreatRefD
import Derived.Test.YtdpngmgaomghoaaGreatR17
import Derived.Test.YtdpngmgaomghoaaGreatSetFs
import Derived.Test.YtdpngmgaomghoaaGreatL18
namespace Go.Proofs.YtdpngmgaomghoaaGreat
open Go.RowKit
namespace Ref18
open Name KeyP PackP SetP SetW SetF Delta Sto Law18
open Sat2 (endS cl cl_in)
attribute [local go_sem] Eng.ev Eng.getO_cons Eng.getO_nil
abbrev TRs : TypeId := 109
abbrev rsc (f : Cf) (A : Option Addr) (n c : Nat) : Array Value := #[.int .i64 f.sp, .int .i64 f.tr, .int .i64 f.wi, .int .i64 f.sg, .int .i64 f.now, .slice A n c]
theorem not_small {w : World} {B : Nat} {cs : Array Value} {T : TypeId} {A : Option Addr} {c : Nat} {L : List Sn} (hb : Bk w B cs T) (hs : cs.size < 9) (hl : Ls w A c L) : L ≠ [] → ∀ a, A = some a → a.block ≠ B := by
 intro hne a ha e
 have h0 : 0 < L.length := List.length_pos_iff.2 hne
 obtain ⟨b1, o1, hA, hb1, c1⟩ := hl.s.at h0 (by omega)
 have h8 := At.row c1 h0 8 _ rfl
 rw [ha] at hA
 cases hA
 dsimp only at e
 subst e
 rw [hb.cell] at h8
 have : cs[o1 + 0 * 9 + 8]? = none := Array.getElem?_eq_none (by omega)
 rw [this] at h8; cases h8
structure RS (w : World) (B : Nat) (f : Cf) (L : List Sn) (A : Option Addr) (c : Nat) : Prop where
 b : Bk w B (rsc f A L.length c) TRs
 l : Ls w A c L
 i : in64 f.sp ∧ in64 f.tr ∧ in64 f.wi ∧ in64 f.now
section
variable {w w' : World} {B : Nat} {f f' : Cf} {L L' : List Sn} {A A' : Option Addr} {c c' : Nat}
theorem RS.below (h : RS w B f L A c) (hb : Below w.heap.size w w') : RS w' B f L A c := ⟨h.b.fr (Fr.of_below' hb (fun _ => False)) (fun _ _ h => h), h.l.below hb, h.i⟩
theorem RS.fr (h : RS w B f L A c) (hf : Fr (fun _ => False) w w') : RS w' B f L A c := h.below (hf.below (Nat.le_refl _) (fun _ _ h => h))
theorem RS.cs (h : RS w B f L A c) : w.cell? ⟨B, 0, none⟩ = some (.int .i64 f.sp) ∧ w.cell? ⟨B, 1, none⟩ = some (.int .i64 f.tr) ∧ w.cell? ⟨B, 2, none⟩ = some (.int .i64 f.wi) ∧ w.cell? ⟨B, 3, none⟩ = some (.int .i64 f.sg) ∧ w.cell? ⟨B, 4, none⟩ = some (.int .i64 f.now) ∧ w.cell? ⟨B, 5, none⟩ = some (.slice A L.length c) :=
 ⟨h.b.cell 0, h.b.cell 1, h.b.cell 2, h.b.cell 3, h.b.cell 4, h.b.cell 5⟩
end
structure HX (w0 w : World) (B : Nat) (f : Cf) (L : List Sn) (A : Option Addr) (c : Nat) : Prop where
 r : RS w B f L A c
 f : Fr (fun _ => False) w0 w
theorem HX.fr {w0 w w' : World} {B : Nat} {f : Cf} {L : List Sn} {A : Option Addr} {c : Nat} (h : HX w0 w B f L A c) (hf : Fr (fun _ => False) w w') : HX w0 w' B f L A c := ⟨h.r.fr hf, h.f.trans hf (fun _ _ h => h) (fun _ _ h => h)⟩
set_option maxRecDepth 100000 in
set_option maxHeartbeats 1000000 in
theorem ho1 {ops : Array Oper} (hops : Eng.fnOps Tryz.f67 1 = ops) (a0 : Act) (Q : Exit → Act → World → Prop) (w0 w : World) (B : Nat) (f : Cf) (L : List Sn) (A : Option Addr) (c : Nat) (hst : HX w0 w B f L A c)
  (hn : a0.tmps.size = 13) (h_0 : a0.tmps.getD 0 undef = .pointer (some ⟨B, 0, none⟩))
  (hpost : ∀ (x : Nat → Value) (w' : World), x 2 = .int .i64 (hz f) → HX w0 w' B f L A c → Q .normal (Eng.setAll a0 [2, 3, 4, 5, 6, 7, 8, 9, 10, 11, 12] x) w') :
  (Code.region 1 ops true).wp Tryz.prog Q a0 w := by
 simp only [Eng.fnOps, Eng.regOps, Tryz.f67, Option.bind_some, Option.getD_some, Nat.reduceEqDiff, ↓reduceIte] at hops
 subst hops
 have HSt := Lib.hid (hst.fr (Fr.drew _ _))
 have hSS : w.drew.cell? ⟨B, 4, none⟩ = some (.int .i64 f.now) ∧ w.drew.cell? ⟨B, 2, none⟩ = some (.int .i64 f.wi) := ⟨HSt.out.r.cs.2.2.2.2.1, HSt.out.r.cs.2.2.1⟩
 refine Eng.regionN [(0, true), (1, true), (2, true), (3, true), (4, true), (5, true), (6, true), (7, true), (8, true), (9, false), (10, true)] (fun w' => w'.cell? ⟨B, 4, none⟩ = some (.int .i64 f.now) ∧ w'.cell? ⟨B, 2, none⟩ = some (.int .i64 f.wi)) (by kernel_rfl) 13 hn (by kernel_rfl) rfl (by kernel_rfl) (hSS) (fun a b ha hb => ?_)
 subst ha
 have hb0 : b 0 = .pointer (some ⟨B, 0, none⟩) := (hb 0).symm.trans h_0
 clear hb h_0
 have HP := Lib.hid hpost; have HN := Lib.hid hn
 clear hpost hn
 iterate 9 (refine Eng.Sch.take (v := ?_) rfl rfl (by decide) (by kernel_rfl) (fun w hw => ?_) ?_; rotate_left; · (try dsimp only at hw); go_simp; first | done | with_reducible rfl)
 refine Eng.Sch.call rfl rfl (by decide) (by kernel_rfl) ?_ (Law16.RefHorizon f.now f.wi hst.r.i.2.2.2 hst.r.i.2.2.1 _) ?_
 ·go_simp
 rintro e w_1 ⟨rfl, rfl⟩
 refine ⟨_, rfl, hSS, ?_⟩
 refine Eng.Sch.take (v := ?_) rfl rfl (by decide) (by kernel_rfl) (fun w hw => ?_) ?_
 rotate_left
 ·(try dsimp only at hw); go_simp; first | done | with_reducible rfl
 refine Eng.Sch.end_ [2, 3, 4, 5, 6, 7, 8, 9, 10, 11, 12] HN.out (by kernel_rfl) (by kernel_rfl) ?_
 exact HP.out _ _ rfl HSt.out
theorem Horizon {w : World} {B : Nat} {f : Cf} {L : List Sn} {A : Option Addr} {c : Nat} (h : RS w B f L A c) : Calls Tryz.prog 67 #[.pointer (some ⟨B, 0, none⟩)] w fun e w' => e = .returned (.int .i64 (hz f)) ∧ Fr (fun _ => False) w w' := by
 have H := Lib.hid h
 clear h
 go_enter Tryz.func67, Tryz.ntmps67
 go_upto_region 1 with (fail)
 refine ho1 (by kernel_rfl) _ _ w w B f L A c ⟨H.out, Fr.refl _ _⟩ (by simp) rfl ?_
 intro x w2 h2 hst
 simp only [Eng.setAll, Act.put, List.setIfInBounds_toArray, List.set_cons_succ, List.set_cons_zero]
 rw [h2]
 have HF := Lib.hid hst.f
 clear hst h2
 go_wp2_with fail
 go_ret
 exact ⟨rfl, HF.out⟩
set_option maxRecDepth 100000 in
set_option maxHeartbeats 1000000 in
theorem Past_ (A : Option Addr) (c : Nat) (L : List Sn) (h : Int) (w : World) (hS : Ls w A c L) (hl : L.length ≤ 1000000) : Calls Tryz.prog 128 #[.slice A L.length c, .int .i64 h] w fun e w' => e = .returned (.bool (L.any (Sto.past h))) ∧ Fr (fun _ => False) w w' := by
 have HS := Lib.hid hS
 clear hS
 go_enter Tryz.func128, Tryz.ntmps128
 go_wp2_with fail
 go_loopg [5] L.length (fun gk i wr => ∃ k : Nat, i = .int .i64 k ∧ k ≤ L.length ∧ gk = L.length - k ∧ (∀ x ∈ L.take k, Sto.past h x = false) ∧ Fr (fun _ => False) w wr)
 case atStart => exact ⟨0, rfl, Nat.zero_le _, rfl, by simp, Fr.refl _ _⟩
 case round =>
  obtain ⟨k, rfl, hk, hg, ha, hf⟩ := hrel
  have HG := Lib.hid hg; have HA := Lib.hid ha; have HF := Lib.hid hf
  clear hg ha hf
  by_cases hlt : k < L.length
  ·obtain ⟨b1, o1, rfl, hb1, c1⟩ := (HS.out.keep HF.out).s.at hlt (by omega)
   have HR := Lib.hid (At.row c1 hlt)
   have HOk := Lib.hid (HS.out.ok _ (List.getElem_mem hlt))
   have HT : Hid (Sto.past h L[k] = false → ∀ x ∈ L.take (k + 1), Sto.past h x = false) := fun hp x hx => by
    rw [List.take_succ_eq_append_getElem hlt, List.mem_append] at hx
    rcases hx with hx | hx
    ·exact HA.out x hx
    ·simp at hx; subst hx; exact hp
   have HY : Hid (Sto.past h L[k] = true → L.any (Sto.past h) = true) := fun hp => List.any_eq_true.2 ⟨_, List.getElem_mem hlt, hp⟩
   clear c1 hb1
   generalize L[k] = y at *
   have q1 : (0 : Int) ≤ (k : Int) := by omega
   have q2 : decide ((k : Int) < (L.length : Int)) = true := by simp; omega
   have q3 : wrap64 ((k : Int) + 1) = (k : Int) + 1 := by unfold wrap64; omega
   have yc0 : wr.cell? ⟨b1, o1 + k * 9, none⟩ = some (.int .i64 y.t) := HR.out 0 _ rfl
   have yc1 : wr.cell? ⟨b1, o1 + k * 9 + 1, none⟩ = some (.int .i64 y.i) := HR.out 1 _ rfl
   have yc2 : wr.cell? ⟨b1, o1 + k * 9 + 1 + 1, none⟩ = some (.int .i64 y.p) := HR.out 2 _ rfl
   have yc3 : wr.cell? ⟨b1, o1 + k * 9 + 1 + 1 + 1, none⟩ = some (.int .i64 y.r) := HR.out 3 _ rfl
   have yc4 : wr.cell? ⟨b1, o1 + k * 9 + 1 + 1 + 1 + 1, none⟩ = some (.string y.s) := HR.out 4 _ rfl
   have yc5 : wr.cell? ⟨b1, o1 + k * 9 + 1 + 1 + 1 + 1 + 1, none⟩ = some (.string y.o) := HR.out 5 _ rfl
   have yc6 : wr.cell? ⟨b1, o1 + k * 9 + 1 + 1 + 1 + 1 + 1 + 1, none⟩ = some (.int .i64 y.b) := HR.out 6 _ rfl
   have yc7 : wr.cell? ⟨b1, o1 + k * 9 + 1 + 1 + 1 + 1 + 1 + 1 + 1, none⟩ = some (.int .i64 y.d) := HR.out 7 _ rfl
   have yc8 : wr.cell? ⟨b1, o1 + k * 9 + 1 + 1 + 1 + 1 + 1 + 1 + 1 + 1, none⟩ = some (.bool y.g) := HR.out 8 _ rfl
   go_wp2_with fail
   refine (Law16.RefPast y HOk.out.b h wr).mono ?_
   rintro e w2 ⟨rfl, hf⟩
   have HF2 := Lib.hid (HF.out.trans hf (T := fun _ => False) (fun _ _ h => h) (fun _ _ h => h))
   clear hf yc0 yc1 yc2 yc3 yc4 yc5 yc6 yc7 yc8
   cases hp : decide (endS y < h) with
   | true =>
    have HE := Lib.hid (HY.out hp)
    clear hp
    go_wp2_with fail
    go_ret
    exact ⟨by rw [HE.out]; rfl, HF2.out⟩
   | false =>
    have HE := Lib.hid (HT.out hp)
    clear hp
    go_wp2_with fail
    go_roundg (L.length - (k + 1))
    case rel => exact ⟨k + 1, by go_num, by omega, rfl, HE.out, HF2.out⟩
    case measure => have := HG.out; omega
  ·obtain rfl : k = L.length := by omega
   have q2 : decide ((L.length : Int) < (L.length : Int)) = false := by simp
   have HE : Hid (L.any (Sto.past h) = false) := by
    show _ = _
    rw [List.any_eq_false]
    intro x hx
    have := HA.out x (by rw [List.take_length]; exact hx)
    simpa using this
   go_wp2_with fail
   go_ret
   exact ⟨by rw [HE.out]; rfl, HF.out⟩
theorem lets_eq (all tr : Int) (l : List Sn) : QuotaP.okS all tr ((l.map spn).map Quota.Sp.t) [] = fits all tr l := by
 rw [map_t]
 unfold fits
 exact (QuotaP.Rel.ok QuotaP.Rel.nil QuotaP.Cs.nil all tr _).symm
set_option maxRecDepth 100000 in
set_option maxHeartbeats 1000000 in
theorem Lets (f : Cf) (A : Option Addr) (c : Nat) (L : List Sn) (w : World) (hS : Ls w A c L) (hl : L.length ≤ 100000) : Calls Tryz.prog 129 #[.agg (cfc f), .slice A L.length c] w fun e w' => e = .returned (.bool (fits (max f.sp 0) (max f.tr 0) L)) ∧ Fr (fun _ => False) w w' := by
 have hf := Fr.alloc (fun _ => False) w (.cells (cfc f) TCf)
 have hbk := Bk.new w (cfc f) TCf
 have HS := Lib.hid (hS.keep hf); have HF := Lib.hid hf
 clear hS hf
 go_enter Tryz.func129, Tryz.ntmps129
 go_upto_region 1 with (fail)
 have hz : w.heap.size ≤ (w.alloc (.cells (cfc f) TCf)).heap.size := by simp
 generalize w.alloc (.cells (cfc f) TCf) = w1 at *
 have e0 : w1.cell? ⟨w.heap.size, 0, none⟩ = some (.int .i64 f.sp) := hbk.cell 0
 have e1 : w1.cell? ⟨w.heap.size, 1, none⟩ = some (.int .i64 f.tr) := hbk.cell 1
 clear hbk
 go_wp2_with fail
 refine (Ref17.New f.sp f.tr w1).mono ?_
 rintro e w2 ⟨rfl, hq, hz2, hb⟩
 have HRQ : Hid (Ref17.RQ w2 w1.heap.size (max f.sp 0) (max f.tr 0) [] [w1.heap.size]) := ⟨none, 0, hq, Sl.empty _ _, rfl, by simp⟩
 have HS2 := Lib.hid (HS.out.below hb)
 have HF2 := Lib.hid (HF.out.trans (Fr.of_below' hb (fun _ => False)) (T := fun _ => False) (fun _ _ h => h) (fun _ _ h => h))
 clear hb hq hz2 HF HS
 have HAd := Lib.hid (Ref17.Add w1.heap.size (max f.sp 0) (max f.tr 0) A c (L.map spn) [] _ w2 HRQ.out (by rw [spn_cs, List.length_map]; exact HS2.out.s) (by simp; omega))
 unfold Ref17.AddPost at HAd
 rw [lets_eq, List.length_map] at HAd
 go_wp2_with fail
 refine HAd.out.mono ?_
 rintro e w3 ⟨rfl, F', -, ht⟩
 have HF3 : Hid (Fr (fun _ => False) w w3) := HF2.out.trans ht.fr (fun _ _ h => h) (fun k hk hm => by simp at hm; omega)
 clear ht HAd
 go_wp2_with fail
 go_ret
 exact ⟨rfl, HF3.out⟩
end Ref18
end Go.Proofs.YtdpngmgaomghoaaGreat
