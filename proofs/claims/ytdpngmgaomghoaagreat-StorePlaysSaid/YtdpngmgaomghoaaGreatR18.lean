/- The document's store: New, Horizon, past, lets. -/
import Derived.Test.YtdpngmgaomghoaaGreatR17
import Derived.Test.YtdpngmgaomghoaaGreatL18
namespace Go.Proofs.YtdpngmgaomghoaaGreat
open Tryz
set_option maxRecDepth 100000
set_option maxHeartbeats 1000000
open Go.RowKit
namespace Ref18
open Name KeyP PackP SetP SetW SetF Delta Sto Law18
open Sat2 (endS cl cl_in)
attribute [local go_sem] Eng.ev Eng.getO_cons Eng.getO_nil
abbrev TRs : TypeId := 109
abbrev rsc (f : Cf) (A : Option Addr) (n c : Nat) : Array Value := #[.int .i64 f.sp, .int .i64 f.tr, .int .i64 f.wi, .int .i64 f.sg, .int .i64 f.now, .slice A n c]
theorem not_small {w : World} {B : Nat} {cs : Array Value} {T : TypeId} {A : Option Addr} {c : Nat} {L : List Sn} (hb : Bk w B cs T) (hs : cs.size < 9) (hl : Ls w A c L) : L ≠ [] → ∀ a, A = some a → a.block ≠ B := by
 intro hne a ha e
 have h0 : 0 < L.length := List.length_pos_iff.2 hne
 obtain ⟨b1, o1, hA, hb1, c1⟩ := hl.s.at h0 (by omega)
 have h8 := At.row c1 h0 8 _ rfl
 rw [ha] at hA
 cases hA
 dsimp only at e
 subst e
 rw [hb.cell] at h8
 have : cs[o1 + 0 * 9 + 8]? = none := Array.getElem?_eq_none (by omega)
 rw [this] at h8; cases h8
structure RS (w : World) (B : Nat) (f : Cf) (L : List Sn) (A : Option Addr) (c : Nat) : Prop where
 b : Bk w B (rsc f A L.length c) TRs
 l : Ls w A c L
 i : in64 f.sp ∧ in64 f.tr ∧ in64 f.wi ∧ in64 f.now
section
variable {w w' : World} {B : Nat} {f f' : Cf} {L L' : List Sn} {A A' : Option Addr} {c c' : Nat}
theorem RS.below (h : RS w B f L A c) (hb : Below w.heap.size w w') : RS w' B f L A c := ⟨h.b.fr (Fr.of_below' hb (fun _ => False)) (fun _ _ h => h), h.l.below hb, h.i⟩
theorem RS.fr (h : RS w B f L A c) (hf : Fr (fun _ => False) w w') : RS w' B f L A c := h.below (hf.below (Nat.le_refl _) (fun _ _ h => h))
theorem RS.lt (h : RS w B f L A c) : B < w.heap.size := lt_of_heap h.b
theorem RS.cs (h : RS w B f L A c) : w.cell? ⟨B, 0, none⟩ = some (.int .i64 f.sp) ∧ w.cell? ⟨B, 1, none⟩ = some (.int .i64 f.tr) ∧ w.cell? ⟨B, 2, none⟩ = some (.int .i64 f.wi) ∧ w.cell? ⟨B, 3, none⟩ = some (.int .i64 f.sg) ∧ w.cell? ⟨B, 4, none⟩ = some (.int .i64 f.now) ∧ w.cell? ⟨B, 5, none⟩ = some (.slice A L.length c) :=
 ⟨h.b.cell 0, h.b.cell 1, h.b.cell 2, h.b.cell 3, h.b.cell 4, h.b.cell 5⟩
end
theorem in_mnI : in64 mnI := by show in64 (-9223372036854775808); decide
theorem New (f : Cf) (w : World) (hi : in64 f.sp ∧ in64 f.tr ∧ in64 f.wi) : Calls prog 53 #[.agg (cfc f)] w fun e w' => ∃ B, e = .returned (.pointer (some ⟨B, 0, none⟩)) ∧ w.heap.size ≤ B ∧ RS w' B (f.at mnI) [] none 0 ∧ Fr (fun _ => False) w w' := by
 have hf := Fr.alloc (fun _ => False) w (.cells (cfc f) TCf)
 have hbk := Bk.new w (cfc f) TCf
 have HF := Lib.hid hf; have HI := Lib.hid hi
 clear hf hi
 go_enter func53, ntmps53
 go_upto_region 1 with (fail)
 have hz : w.heap.size ≤ (w.alloc (.cells (cfc f) TCf)).heap.size := by simp
 generalize w.alloc (.cells (cfc f) TCf) = w1 at *
 have e0 : w1.cell? ⟨w.heap.size, 0, none⟩ = some (.int .i64 f.sp) := hbk.cell 0
 have e1 : w1.cell? ⟨w.heap.size, 1, none⟩ = some (.int .i64 f.tr) := hbk.cell 1
 have e2 : w1.cell? ⟨w.heap.size, 2, none⟩ = some (.int .i64 f.wi) := hbk.cell 2
 have e3 : w1.cell? ⟨w.heap.size, 3, none⟩ = some (.int .i64 f.sg) := hbk.cell 3
 have HP : Hid (∃ B, Ending.returned (.pointer (some ⟨w1.heap.size, 0, none⟩)) = .returned (.pointer (some ⟨B, 0, none⟩)) ∧ w.heap.size ≤ B ∧ RS (w1.alloc (.cells (rsc (f.at mnI) none 0 0) TRs)) B (f.at mnI) [] none 0 ∧ Fr (fun _ => False) w (w1.alloc (.cells (rsc (f.at mnI) none 0 0) TRs))) :=
  ⟨_, rfl, hz, ⟨Bk.new _ _ _, Ls.nil _, HI.out.1, HI.out.2.1, HI.out.2.2, in_mnI⟩, HF.out.trans (Fr.alloc (fun _ => False) _ _) (fun _ _ h => h) (fun _ _ h => h)⟩
 clear hbk hz
 go_wp2_with fail
 go_ret
 exact HP.out
structure HX (w0 w : World) (B : Nat) (f : Cf) (L : List Sn) (A : Option Addr) (c : Nat) : Prop where
 r : RS w B f L A c
 f : Fr (fun _ => False) w0 w
theorem HX.fr {w0 w w' : World} {B : Nat} {f : Cf} {L : List Sn} {A : Option Addr} {c : Nat} (h : HX w0 w B f L A c) (hf : Fr (fun _ => False) w w') : HX w0 w' B f L A c := ⟨h.r.fr hf, h.f.trans hf (fun _ _ h => h) (fun _ _ h => h)⟩
theorem ho1 {ops : Array Oper} (hops : Eng.fnOps Tryz.f67 1 = ops) (a0 : Act) (Q : Exit → Act → World → Prop) (w0 w : World) (B : Nat) (f : Cf) (L : List Sn) (A : Option Addr) (c : Nat) (hst : HX w0 w B f L A c)
  (hn : a0.tmps.size = 13) (h_0 : a0.tmps.getD 0 undef = .pointer (some ⟨B, 0, none⟩))
  (hpost : ∀ (x : Nat → Value) (w' : World), x 2 = .int .i64 (hz f) → HX w0 w' B f L A c → Q .normal (Eng.setAll a0 [2, 3, 4, 5, 6, 7, 8, 9, 10, 11, 12] x) w') :
  (Code.region 1 ops true).wp prog Q a0 w := by
 simp only [Eng.fnOps, Eng.regOps, Tryz.f67, Option.bind_some, Option.getD_some, Nat.reduceEqDiff, ↓reduceIte, Nat.reduceBEq] at hops
 subst hops
 have HSt := Lib.hid (hst.fr (Fr.drew _ _))
 have hSS : w.drew.cell? ⟨B, 4, none⟩ = some (.int .i64 f.now) ∧ w.drew.cell? ⟨B, 2, none⟩ = some (.int .i64 f.wi) := ⟨HSt.out.r.cs.2.2.2.2.1, HSt.out.r.cs.2.2.1⟩
 refine Eng.regionN [(0, true), (1, true), (2, true), (3, true), (4, true), (5, true), (6, true), (7, true), (8, true), (9, false), (10, true)] (fun w' => w'.cell? ⟨B, 4, none⟩ = some (.int .i64 f.now) ∧ w'.cell? ⟨B, 2, none⟩ = some (.int .i64 f.wi)) (by kernel_rfl) 13 hn (by kernel_rfl) rfl (by kernel_rfl) (hSS) (fun a b ha hb => ?_)
 subst ha
 have hb0 : b 0 = .pointer (some ⟨B, 0, none⟩) := (hb 0).symm.trans h_0
 clear hb h_0
 have HP := Lib.hid hpost; have HN := Lib.hid hn
 clear hpost hn
 iterate 9 (refine Eng.Sch.tk ?_)
 refine Eng.Sch.call rfl rfl (by decide) (by kernel_rfl) ?_ (Law16.RefHorizon f.now f.wi hst.r.i.2.2.2 hst.r.i.2.2.1 _) ?_
 ·go_simp
 rintro e w_1 ⟨rfl, rfl⟩
 refine ⟨_, rfl, hSS, ?_⟩
 refine Eng.Sch.tk ?_
 refine Eng.Sch.end_ [2, 3, 4, 5, 6, 7, 8, 9, 10, 11, 12] HN.out (by kernel_rfl) (by kernel_rfl) ?_
 exact HP.out _ _ rfl HSt.out
theorem Horizon {w : World} {B : Nat} {f : Cf} {L : List Sn} {A : Option Addr} {c : Nat} (h : RS w B f L A c) : Calls prog 67 #[.pointer (some ⟨B, 0, none⟩)] w fun e w' => e = .returned (.int .i64 (hz f)) ∧ Fr (fun _ => False) w w' := by
 have H := Lib.hid h
 clear h
 go_enter func67, ntmps67
 go_upto_region 1 with (fail)
 refine ho1 (by kernel_rfl) _ _ w w B f L A c ⟨H.out, Fr.refl _ _⟩ (by simp) rfl ?_
 intro x w2 h2 hst
 simp only [Eng.setAll, Act.put, List.setIfInBounds_toArray, List.set_cons_succ, List.set_cons_zero]
 rw [h2]
 have HF := Lib.hid hst.f
 clear hst h2
 go_wp2_with fail
 go_ret
 exact ⟨rfl, HF.out⟩
theorem Past_ (A : Option Addr) (c : Nat) (L : List Sn) (h : Int) (w : World) (hS : Ls w A c L) (hl : L.length ≤ 1000000) : Calls prog 128 #[.slice A L.length c, .int .i64 h] w fun e w' => e = .returned (.bool (L.any (Sto.past h))) ∧ Fr (fun _ => False) w w' := by
 have HS := Lib.hid hS
 clear hS
 go_enter func128, ntmps128
 go_wp2_with fail
 go_loopg [5] L.length (fun gk i wr => ∃ k : Nat, i = .int .i64 k ∧ k ≤ L.length ∧ gk = L.length - k ∧ (∀ x ∈ L.take k, Sto.past h x = false) ∧ Fr (fun _ => False) w wr)
 case atStart => exact ⟨0, rfl, Nat.zero_le _, rfl, by simp, Fr.refl _ _⟩
 case round =>
  obtain ⟨k, rfl, hk, hg, ha, hf⟩ := hrel
  have HG := Lib.hid hg; have HA := Lib.hid ha; have HF := Lib.hid hf
  clear hg ha hf
  by_cases hlt : k < L.length
  ·obtain ⟨b1, o1, rfl, hb1, c1⟩ := (HS.out.keep HF.out).s.at hlt (by omega)
   have HR := Lib.hid (At.row c1 hlt)
   have HOk := Lib.hid (HS.out.ok _ (List.getElem_mem hlt))
   have HT : Hid (Sto.past h L[k] = false → ∀ x ∈ L.take (k + 1), Sto.past h x = false) := fun hp x hx => by
    rw [List.take_succ_eq_append_getElem hlt, List.mem_append] at hx
    rcases hx with hx | hx
    ·exact HA.out x hx
    ·simp at hx; subst hx; exact hp
   have HY : Hid (Sto.past h L[k] = true → L.any (Sto.past h) = true) := fun hp => List.any_eq_true.2 ⟨_, List.getElem_mem hlt, hp⟩
   clear c1 hb1
   generalize L[k] = y at *
   have q1 : (0 : Int) ≤ (k : Int) := by omega
   have q2 : decide ((k : Int) < (L.length : Int)) = true := by simp; omega
   have q3 : wrap64 ((k : Int) + 1) = (k : Int) + 1 := by unfold wrap64; omega
   obtain ⟨yc0, yc1, yc2, yc3, yc4, yc5, yc6, yc7, yc8⟩ := SetW.at9 HR.out
   go_wp2_with fail
   refine (Law16.RefPast y HOk.out.b h wr).mono ?_
   rintro e w2 ⟨rfl, hf⟩
   have HF2 := Lib.hid (HF.out.trans hf (T := fun _ => False) (fun _ _ h => h) (fun _ _ h => h))
   clear hf yc0 yc1 yc2 yc3 yc4 yc5 yc6 yc7 yc8
   cases hp : decide (endS y < h) with
   | true =>
    have HE := Lib.hid (HY.out hp)
    clear hp
    go_wp2_with fail
    go_ret
    exact ⟨by rw [HE.out]; rfl, HF2.out⟩
   | false =>
    have HE := Lib.hid (HT.out hp)
    clear hp
    go_wp2_with fail
    go_roundg (L.length - (k + 1))
    case rel => exact ⟨k + 1, by go_num, by omega, rfl, HE.out, HF2.out⟩
    case measure => have := HG.out; omega
  ·obtain rfl : k = L.length := by omega
   have q2 : decide ((L.length : Int) < (L.length : Int)) = false := by simp
   have HE : Hid (L.any (Sto.past h) = false) := by
    show _ = _
    rw [List.any_eq_false]
    intro x hx
    have := HA.out x (by rw [List.take_length]; exact hx)
    simpa using this
   go_wp2_with fail
   go_ret
   exact ⟨by rw [HE.out]; rfl, HF.out⟩
theorem lets_eq (all tr : Int) (l : List Sn) : QuotaP.okS all tr ((l.map spn).map Quota.Sp.t) [] = fits all tr l := by
 rw [map_t]
 unfold fits
 exact (QuotaP.Rel.ok QuotaP.Rel.nil QuotaP.Cs.nil all tr _).symm
theorem Lets (f : Cf) (A : Option Addr) (c : Nat) (L : List Sn) (w : World) (hS : Ls w A c L) (hl : L.length ≤ 100000) : Calls prog 129 #[.agg (cfc f), .slice A L.length c] w fun e w' => e = .returned (.bool (fits (max f.sp 0) (max f.tr 0) L)) ∧ Fr (fun _ => False) w w' := by
 have hf := Fr.alloc (fun _ => False) w (.cells (cfc f) TCf)
 have hbk := Bk.new w (cfc f) TCf
 have HS := Lib.hid (hS.keep hf); have HF := Lib.hid hf
 clear hS hf
 go_enter func129, ntmps129
 go_upto_region 1 with (fail)
 have hz : w.heap.size ≤ (w.alloc (.cells (cfc f) TCf)).heap.size := by simp
 generalize w.alloc (.cells (cfc f) TCf) = w1 at *
 have e0 : w1.cell? ⟨w.heap.size, 0, none⟩ = some (.int .i64 f.sp) := hbk.cell 0
 have e1 : w1.cell? ⟨w.heap.size, 1, none⟩ = some (.int .i64 f.tr) := hbk.cell 1
 clear hbk
 go_wp2_with fail
 refine (Ref17.New f.sp f.tr w1).mono ?_
 rintro e w2 ⟨rfl, hq, hz2, hb⟩
 have HRQ : Hid (Ref17.RQ w2 w1.heap.size (max f.sp 0) (max f.tr 0) [] [w1.heap.size]) := ⟨none, 0, hq, Sl.empty _ _, rfl, by simp⟩
 have HS2 := Lib.hid (HS.out.below hb)
 have HF2 := Lib.hid (HF.out.trans (Fr.of_below' hb (fun _ => False)) (T := fun _ => False) (fun _ _ h => h) (fun _ _ h => h))
 clear hb hq hz2 HF HS
 have HAd := Lib.hid (Ref17.Add w1.heap.size (max f.sp 0) (max f.tr 0) A c (L.map spn) [] _ w2 HRQ.out (by rw [spn_cs, List.length_map]; exact HS2.out.s) (by simp; omega))
 unfold Ref17.AddPost at HAd
 rw [lets_eq, List.length_map] at HAd
 go_wp2_with fail
 refine HAd.out.mono ?_
 rintro e w3 ⟨rfl, F', -, ht⟩
 have HF3 : Hid (Fr (fun _ => False) w w3) := HF2.out.trans ht.fr (fun _ _ h => h) (fun k hk hm => by simp at hm; omega)
 clear ht HAd
 go_wp2_with fail
 go_ret
 exact ⟨rfl, HF3.out⟩
end Ref18
set_option maxRecDepth 100000
set_option maxHeartbeats 8000000
namespace Ref18
open Name KeyP PackP SetP SetW SetF Delta Sto Law18
open Sat2 (endS cl cl_in)
attribute [local go_sem] Eng.ev Eng.getO_cons Eng.getO_nil
def RPost (B : Nat) (f : Cf) (L O I : List Sn) (E : Int) (A0 : Option Addr) (L0 : List Sn) (w : World) (e : Ending) (w' : World) : Prop :=
 ∃ A1 c1 A2 c2 A c, e = .returned (.tuple #[.agg #[.slice A1 O.length c1, .slice A2 I.length c2], .int .i64 E]) ∧ RS w' B f L A c ∧ Ls w' A1 c1 O ∧ Ls w' A2 c2 I ∧ Fr (· = B) w w' ∧ ((A = A0 ∧ L = L0) ∨ (L ≠ [] → ∀ a, A = some a → w.heap.size ≤ a.block))
theorem RPost.mk {w w1 w2 : World} {B N : Nat} {f : Cf} {L O I : List Sn} {E : Int} {A0 A1 A2 A : Option Addr} {L0 : List Sn} {c1 c2 c n1 n2 : Nat} (hb : Bk w1 N #[.slice none 0 0, .slice none 0 0] TDl) (hr : RS w1 B f L A c) (h1 : Ls w1 A1 c1 O) (h2 : Ls w1 A2 c2 I) (hf : Fr (· = B) w w1) (hN : N = w.heap.size) (hs : Fr (· = N) w1 w2) (hB : B < N) (hn : (A = A0 ∧ L = L0) ∨ (L ≠ [] → ∀ a, A = some a → w.heap.size ≤ a.block)) (e1 : n1 = O.length := by rfl) (e2 : n2 = I.length := by rfl) :
  RPost B f L O I E A0 L0 w (.returned (.tuple #[.agg #[.slice A1 n1 c1, .slice A2 n2 c2], .int .i64 E])) w2 := by
 subst e1; subst e2
 have k : ∀ {A : Option Addr} {c : Nat} {M : List Sn}, Ls w1 A c M → Ls w2 A c M := fun h => Ls.frA h hs (fun hne a ha => not_small hb (by decide) h hne a ha)
 refine ⟨A1, c1, A2, c2, A, c, rfl, ⟨hr.b.fr hs (fun b hb e => by simp at hb; omega), k hr.l, hr.i⟩, k h1, k h2, hf.trans hs (fun _ _ h => h) (fun i hi e => by omega), hn⟩
theorem can_may {f : Cf} {L l : List Sn} {x : Sn} (hx : x ∈ l) (h : mayN x ≠ 0) : canE f L l = 1 := by
 unfold canE mayE
 rw [if_pos (List.any_eq_true.2 ⟨x, hx, by simpa using h⟩ : (l.any fun x => mayN x != 0) = true)]
 rfl
theorem can_past {f : Cf} {L l : List Sn} (hm : ∀ x ∈ l, mayN x = 0) (h : l.any (past (hz f)) = true) : canE f L l = 6 := by
 unfold canE mayE
 rw [if_neg (by simp only [Bool.not_eq_true, List.any_eq_false]; intro x hx; simp [hm x hx] : ¬ (l.any fun x => mayN x != 0) = true), if_pos (show (l.any fun x => decide (endS x < hz f)) = true from h)]
 rfl
theorem can_room {f : Cf} {L l : List Sn} (hL : Ok L) (hft : fits (max f.sp 0) (max f.tr 0) L = true) (hm : ∀ x ∈ l, mayN x = 0) (h : l.any (past (hz f)) = false) : canE f L l = if (decide (wout L (setOf (L ++ l)) = []) || fits (max f.sp 0) (max f.tr 0) (setOf (L ++ l))) then 0 else 5 := by
 have e : mayE f l = 0 := by
  unfold mayE
  rw [if_neg (by simp only [Bool.not_eq_true, List.any_eq_false]; intro x hx; simp [hm x hx] : ¬ (l.any fun x => mayN x != 0) = true), if_neg (by rw [show (l.any fun x => decide (endS x < hz f)) = false from h]; simp)]
 unfold canE
 rw [e, room hL (setOf_ok l) hft, setOf_app_r]
 rfl
theorem put_err {f : Cf} {L l : List Sn} (h : canE f L l ≠ 0) : putL f L l = L ∧ putO f L l = [] ∧ putI f L l = [] := by unfold putL putO putI; rw [if_neg h, if_neg h, if_neg h]; exact ⟨rfl, rfl, rfl⟩
theorem Put {w : World} {B : Nat} {f : Cf} {L : List Sn} {A0 : Option Addr} {c0 : Nat} (A : Option Addr) (c : Nat) (l : List Sn) (h : RS w B f L A0 c0) (hl : Ls w A c l) (hOk : Ok L) (hft : fits (max f.sp 0) (max f.tr 0) L = true) (hlen : l.length ≤ 10000) (hL : L.length ≤ 50000) :
  Calls prog 116 #[.pointer (some ⟨B, 0, none⟩), .slice A l.length c] w (RPost B f (putL f L l) (putO f L l) (putI f L l) (canE f L l) A0 L w) := by
 obtain ⟨i0, hi, hz0, hz1, hz2⟩ := info_parts infoS
 have hf := Fr.alloc (fun _ => False) w (.cells #[.slice none 0 0, .slice none 0 0] TDl)
 have HB0 := Lib.hid (Bk.new w #[.slice none 0 0, .slice none 0 0] TDl)
 have HR := Lib.hid (h.fr hf); have HL := Lib.hid (hl.keep hf); have HF := Lib.hid hf; have HOk := Lib.hid hOk; have HFt := Lib.hid hft; have HBl := Lib.hid h.lt
 obtain ⟨N0, hN0⟩ : ∃ b, w.heap.size = b := ⟨_, rfl⟩
 have HN0 := Lib.hid hN0
 obtain ⟨N, hN⟩ : ∃ N, setOf (L ++ l) = N := ⟨_, rfl⟩
 obtain ⟨O, hO⟩ : ∃ O, wout N L = O := ⟨_, rfl⟩
 obtain ⟨I, hI⟩ : ∃ I, wout L N = I := ⟨_, rfl⟩
 have HNk : Hid (Ok N) := by show Ok N; rw [← hN]; exact setOf_ok _
 have hNl : N.length ≤ L.length + l.length := by rw [← hN, ← List.length_append]; exact setOf_len _
 have HE1 : Hid (∀ x ∈ l, mayN x ≠ 0 → canE f L l = 1) := fun x hx h => can_may hx h
 have HE6 : Hid ((∀ x ∈ l, mayN x = 0) → l.any (past (hz f)) = true → canE f L l = 6) := can_past
 have HE0 : Hid ((∀ x ∈ l, mayN x = 0) → l.any (past (hz f)) = false → canE f L l = if (decide (I = []) || fits (max f.sp 0) (max f.tr 0) N) then 0 else 5) := fun h1 h2 => by rw [can_room HOk.out HFt.out h1 h2, hN, hI]
 have HPut : Hid (canE f L l = 0 → putL f L l = N ∧ putO f L l = O ∧ putI f L l = I) := fun h => by
  have h1 : putL f L l = N := by unfold putL; rw [if_pos h, hN]
  rw [putO_eq HOk.out, putI_eq HOk.out, h1, hO, hI]
  exact ⟨rfl, rfl, rfl⟩
 have HErr : Hid (canE f L l ≠ 0 → putL f L l = L ∧ putO f L l = [] ∧ putI f L l = []) := put_err
 have HBt : Hid (wout (setOf N) (setOf L) = O ∧ wout (setOf L) (setOf N) = I) := by show _ ∧ _; rw [HOk.out.set, HNk.out.set, hO, hI]; exact ⟨rfl, rfl⟩
 have HWo := Lib.hid hI; have HSt := Lib.hid hN
 clear hO hI hN h hl hf hOk hft
 obtain ⟨fo, hfo⟩ : ∃ fo, f = fo := ⟨_, rfl⟩
 have HFo := Lib.hid hfo
 rw [show RPost B f = RPost B fo by rw [hfo]]
 clear hfo
 generalize canE f L l = E at *
 generalize putL f L l = PL at *
 generalize putO f L l = PO at *
 generalize putI f L l = PI at *
 go_enter func116, ntmps116
 rw [hN0] at HB0
 go_upto_region 1 with (fail)
 (try rw [hN0])
 clear hN0
 generalize (w.alloc (.cells #[.slice none 0 0, .slice none 0 0] TDl)) = w1 at *
 go_wp2_with fail
 go_loopg [6] l.length (fun gk i wr => ∃ k : Nat, i = .int .i64 k ∧ k ≤ l.length ∧ gk = l.length - k ∧ (∀ x ∈ l.take k, mayN x = 0) ∧ Fr (fun _ => False) w1 wr)
 case atStart => exact ⟨0, rfl, Nat.zero_le _, rfl, by simp, Fr.refl _ _⟩
 case round =>
  obtain ⟨k, rfl, hk, hg, ha, hf⟩ := hrel
  have HG := Lib.hid hg; have HA := Lib.hid ha
  replace HF := Lib.hid (HF.out.trans hf (T := fun _ => False) (fun _ _ h => h) (fun _ _ h => h)); replace HB0 := Lib.hid (HB0.out.fr hf (fun _ _ h => h)); replace HR := Lib.hid (HR.out.fr hf); replace HL := Lib.hid (HL.out.keep hf)
  have HFr := Lib.hid hf
  clear hg ha hf
  by_cases hlt : k < l.length
  ·obtain ⟨b1, o1, rfl, hb1, c1⟩ := HL.out.s.at hlt (by omega)
   have HRw := Lib.hid (At.row c1 hlt)
   have HYk := Lib.hid (HL.out.ok _ (List.getElem_mem hlt))
   have HT : Hid (mayN l[k] = 0 → ∀ x ∈ l.take (k + 1), mayN x = 0) := fun hp x hx => by
    rw [List.take_succ_eq_append_getElem hlt, List.mem_append] at hx
    rcases hx with hx | hx
    ·exact HA.out x hx
    ·simp at hx; subst hx; exact hp
   have HY : Hid (mayN l[k] ≠ 0 → E = 1) := fun hp => HE1.out _ (List.getElem_mem hlt) hp
   clear c1 hb1
   generalize l[k] = y at *
   have q1 : (0 : Int) ≤ (k : Int) := by omega
   have q2 : decide ((k : Int) < (l.length : Int)) = true := by simp; omega
   have q3 : wrap64 ((k : Int) + 1) = (k : Int) + 1 := by unfold wrap64; omega
   obtain ⟨yc0, yc1, yc2, yc3, yc4, yc5, yc6, yc7, yc8⟩ := SetW.at9 HRw.out
   go_wp2_with fail
   refine (Name.RefMay y HYk.out wr).mono ?_
   rintro e w2 ⟨rfl, hf⟩
   have HF2 := Lib.hid (HF.out.trans hf (T := fun _ => False) (fun _ _ h => h) (fun _ _ h => h)); replace HB0 := Lib.hid (HB0.out.fr hf (fun _ _ h => h)); have HR2 := Lib.hid (HR.out.fr hf)
   have HFr2 := Lib.hid (HFr.out.trans hf (T := fun _ => False) (fun _ _ h => h) (fun _ _ h => h))
   clear hf yc0 yc1 yc2 yc3 yc4 yc5 yc6 yc7 yc8
   by_cases hm : mayN y = 0
   ·have HEE := Lib.hid (HT.out hm)
    have q5 : (mayN y == 0) = true := by simpa using hm
    have q6 : (mayN y != 0) = false := by simpa using hm
    clear hm
    go_wp2_with fail
    go_roundg (l.length - (k + 1))
    case rel => exact ⟨k + 1, by go_num, by omega, rfl, HEE.out, HFr2.out⟩
    case measure => have := HG.out; omega
   ·have hE := HY.out hm
    obtain ⟨p1, p2, p3⟩ := HErr.out (by rw [hE]; decide)
    have HRf := HFo.out ▸ HR2
    have q5 : (mayN y == 0) = false := by simpa using hm
    have q6 : (mayN y != 0) = true := by simpa using hm
    clear hm
    have r0 := HB0.out.cell 0; have r1 := HB0.out.cell 1
    have g0 := HB0.out.free 0; have g1 := HB0.out.free 1
    have hf3 : Fr (· = N0) w2 ((w2.setCell ⟨N0, 0, none⟩ (.slice none 0 0)).setCell ⟨N0, 1, none⟩ (.slice none 0 0)) := (Fr.setCell w2 ⟨N0, 0, none⟩ _ (S := (· = N0)) rfl).trans (Fr.setCell _ ⟨N0, 1, none⟩ _ (S := (· = N0)) rfl) (fun _ _ h => h) (fun _ _ h => h)
    have HR0 : Hid (Bk ((w2.setCell ⟨N0, 0, none⟩ (.slice none 0 0)).setCell ⟨N0, 1, none⟩ (.slice none 0 0)) N0 #[.slice none 0 0, .slice none 0 0] TDl) := (HB0.out.set 0 _).set 1 _
    have HP : Hid (RPost B fo PL PO PI E A0 L w (.returned (.tuple #[.agg #[.slice none 0 0, .slice none 0 0], .int .i64 1])) ((w2.setCell ⟨N0, 0, none⟩ (.slice none 0 0)).setCell ⟨N0, 1, none⟩ (.slice none 0 0))) := by
     show RPost _ _ _ _ _ _ _ _ _ _ _
     rw [hE, p1, p2, p3]
     exact RPost.mk HB0.out HRf.out (Ls.nil _) (Ls.nil _) (HF2.out.mono (fun _ _ h => h.elim)) HN0.out.symm hf3 (by have := HBl.out; have := HN0.out; omega) (.inl ⟨rfl, rfl⟩)
    clear hf3 p1 p2 p3 hE
    go_wp2_with fail
    exact bodyPost_ret (results_row_slot (p := 4) (q := 5) rfl _ _ N0 TDl _ _ _ rfl rfl HR0.out underlying35 rfl (by kernel_rfl)) rfl HP.out
  ·obtain rfl : k = l.length := by omega
   have q2 : decide ((l.length : Int) < (l.length : Int)) = false := by simp
   have HAll : Hid (∀ x ∈ l, mayN x = 0) := fun x hx => HA.out x (by rw [List.take_length]; exact hx)
   clear HG HA HFr
   go_wp2_with fail
   refine (Horizon HR.out).mono ?_
   rintro e w2 ⟨rfl, hf⟩
   replace HF := Lib.hid (HF.out.trans hf (T := fun _ => False) (fun _ _ h => h) (fun _ _ h => h)); replace HB0 := Lib.hid (HB0.out.fr hf (fun _ _ h => h)); replace HR := Lib.hid (HR.out.fr hf); replace HL := Lib.hid (HL.out.keep hf)
   clear hf
   go_wp2_with fail
   refine (Past_ A c l (hz f) w2 HL.out (by omega)).mono ?_
   rintro e w3 ⟨rfl, hf⟩
   replace HF := Lib.hid (HF.out.trans hf (T := fun _ => False) (fun _ _ h => h) (fun _ _ h => h)); replace HB0 := Lib.hid (HB0.out.fr hf (fun _ _ h => h)); replace HR := Lib.hid (HR.out.fr hf); replace HL := Lib.hid (HL.out.keep hf)
   clear hf
   cases hp : l.any (past (hz f)) with
   | true =>
    have hE := HE6.out HAll.out hp
    obtain ⟨p1, p2, p3⟩ := HErr.out (by rw [hE]; decide)
    have HRf := HFo.out ▸ HR
    clear hp
    have r0 := HB0.out.cell 0; have r1 := HB0.out.cell 1
    have g0 := HB0.out.free 0; have g1 := HB0.out.free 1
    have hf3 : Fr (· = N0) w3 ((w3.setCell ⟨N0, 0, none⟩ (.slice none 0 0)).setCell ⟨N0, 1, none⟩ (.slice none 0 0)) := (Fr.setCell w3 ⟨N0, 0, none⟩ _ (S := (· = N0)) rfl).trans (Fr.setCell _ ⟨N0, 1, none⟩ _ (S := (· = N0)) rfl) (fun _ _ h => h) (fun _ _ h => h)
    have HR0 : Hid (Bk ((w3.setCell ⟨N0, 0, none⟩ (.slice none 0 0)).setCell ⟨N0, 1, none⟩ (.slice none 0 0)) N0 #[.slice none 0 0, .slice none 0 0] TDl) := (HB0.out.set 0 _).set 1 _
    have HP : Hid (RPost B fo PL PO PI E A0 L w (.returned (.tuple #[.agg #[.slice none 0 0, .slice none 0 0], .int .i64 6])) ((w3.setCell ⟨N0, 0, none⟩ (.slice none 0 0)).setCell ⟨N0, 1, none⟩ (.slice none 0 0))) := by
     show RPost _ _ _ _ _ _ _ _ _ _ _
     rw [hE, p1, p2, p3]
     exact RPost.mk HB0.out HRf.out (Ls.nil _) (Ls.nil _) (HF.out.mono (fun _ _ h => h.elim)) HN0.out.symm hf3 (by have := HBl.out; have := HN0.out; omega) (.inl ⟨rfl, rfl⟩)
    clear hf3 p1 p2 p3 hE
    go_wp2_with fail
    exact bodyPost_ret (results_row_slot (p := 4) (q := 5) rfl _ _ N0 TDl _ _ _ rfl rfl HR0.out underlying35 rfl (by kernel_rfl)) rfl HP.out
   | false =>
    have HEx := Lib.hid (HE0.out HAll.out hp)
    clear hp HE1 HE6 HE0 HAll
    obtain ⟨z0, z1, z2, z3, z4, z5⟩ := HR.out.cs
    go_wp2_with (at_builtin; refine wpList_append_sl _ rfl (.tmp 28) (.tmp 32) TSs rfl w3.heap.size TSn i0 (.agg #[.int .i64 0, .int .i64 0, .int .i64 0, .int .i64 0, .string ByteArray.empty, .string ByteArray.empty, .int .i64 0, .int .i64 0, .bool false]) 9 88 underlying22 hi hz0 hz1 hz2 rfl (by decide) _ _ _ rfl (World.ownsRow_nil _ _ _ _) _ _ _ _ rfl HR.out.l.s (cells_one _) ?_ ?_ ?_ ?_)
    ·unfold maxLen; omega
    ·omega
    ·exact Nat.le_refl _
    intro va w4 howna hgrowa
    have hfa := Fr.grown hgrowa (S := fun _ => False) (fun k e => by cases e)
    have HOa := Lib.hid howna; have HLa := Lib.hid (HL.out.keep hfa); have HRa := Lib.hid (HR.out.fr hfa); have HBa := Lib.hid (HB0.out.fr hfa (fun _ _ h => h))
    have HFa := Lib.hid hfa; have hsa := hfa.size
    clear howna hgrowa hfa z0 z1 z2 z3 z4 z5
    go_wp2_with (at_builtin; refine wpList_append_sl _ rfl (.tmp 34) (.tmp 35) TSs rfl w3.heap.size TSn i0 (.agg #[.int .i64 0, .int .i64 0, .int .i64 0, .int .i64 0, .string ByteArray.empty, .string ByteArray.empty, .int .i64 0, .int .i64 0, .bool false]) 9 88 underlying22 hi hz0 hz1 hz2 rfl (by decide) _ _ _ rfl HOa.out _ _ _ _ rfl HLa.out.s (cells_one _) ?_ ?_ ?_ ?_)
    ·unfold maxLen; omega
    ·omega
    ·omega
    intro vb w5 hownb hgrowb
    have hfb := HFa.out.trans (Fr.grown hgrowb (S := fun k => w3.heap.size ≤ k) (fun k e => (ownsRow_blk HOa.out k e).1)) (T := fun _ => False) (fun _ _ h => h) (fun i hi h => by omega)
    obtain ⟨Aa, ca, hva, hsb, -⟩ := Sl.of_own hownb
    subst hva
    have HAl : Hid (Ls w5 Aa ca (L ++ l)) := ⟨by rw [List.length_append, List.flatMap_append]; simpa using hsb, fun z hz => by
     rcases List.mem_append.1 hz with h | h
     ·exact HR.out.l.ok z h
     ·exact HL.out.ok z h⟩
    replace HF := Lib.hid (HF.out.trans hfb (T := fun _ => False) (fun _ _ h => h) (fun _ _ h => h)); replace HB0 := Lib.hid (HB0.out.fr hfb (fun _ _ h => h)); replace HR := Lib.hid (HR.out.fr hfb)
    clear hownb hgrowb hsb hfb HFa HOa HLa hsa HRa HBa HL
    have HSe := Lib.hid (RefSet Aa ca (L ++ l) w5 HAl.out (by rw [List.length_append]; omega))
    rw [HSt.out, List.length_append] at HSe
    go_wp2_with fail
    refine HSe.out.mono ?_
    rintro e w6 ⟨An, cn, rfl, hls, hown, hb⟩
    have HLn := Lib.hid hls
    have HNw : Hid (N ≠ [] → ∀ a, An = some a → w.heap.size ≤ a.block) := fun _ a ha => Nat.le_trans HF.out.size (row_new hown a ha)
    have hfq := Fr.of_below' hb (fun _ => False)
    replace HF := Lib.hid (HF.out.trans hfq (T := fun _ => False) (fun _ _ h => h) (fun _ _ h => h)); replace HB0 := Lib.hid (HB0.out.fr hfq (fun _ _ h => h)); replace HR := Lib.hid (HR.out.fr hfq)
    clear hls hown hb hfq HAl HSe HSt
    obtain ⟨z0, z1, z2, z3, z4, z5⟩ := HR.out.cs
    have HWt := Lib.hid (RefD.WithoutL HLn.out HR.out.l (by omega))
    rw [HWo.out] at HWt
    go_wp2_with fail
    refine HWt.out.mono ?_
    rintro e w7 ⟨Ax, cx, rfl, hls, hown, hb⟩
    have hfq := Fr.of_below' hb (fun _ => False)
    replace HF := Lib.hid (HF.out.trans hfq (T := fun _ => False) (fun _ _ h => h) (fun _ _ h => h)); replace HB0 := Lib.hid (HB0.out.fr hfq (fun _ _ h => h)); replace HR := Lib.hid (HR.out.fr hfq); replace HLn := Lib.hid (HLn.out.keep hfq)
    clear hls hown hb hfq HWt z0 z1 z2 z3 z4 z5
    obtain ⟨z0, z1, z2, z3, z4, z5⟩ := HR.out.cs
    have HFin : Hid ((E = 0 ∧ (I = [] ∨ fits (max f.sp 0) (max f.tr 0) N = true)) ∨ (I ≠ [] ∧ fits (max f.sp 0) (max f.tr 0) N = false ∧ E = 5)) := by
     rw [HEx.out]
     cases h1 : decide (I = []) with
     | true => exact .inl ⟨rfl, .inl (by simpa using h1)⟩
     | false => cases h2 : fits (max f.sp 0) (max f.tr 0) N with
      | true => exact .inl ⟨rfl, .inr rfl⟩
      | false => exact .inr ⟨by simpa using h1, rfl, rfl⟩
    have HBe := Lib.hid (fun (W : World) (h1 : Ls W A0 c0 L) (h2 : Ls W An cn N) => RefD.Between A0 An c0 cn L N W h1 h2 (by omega) (by omega))
    rw [HBt.out.1, HBt.out.2] at HBe
    have hIl : (0 : Int) ≤ (I.length : Int) := by omega
    by_cases hw : I = []
    ·have hE : E = 0 := by rcases HFin.out with h | h; exact h.1; exact absurd hw h.1
     have q7 : decide ((0 : Int) < (I.length : Int)) = false := by rw [hw]; rfl
     have q8 : decide (0 < I.length) = false := by rw [hw]; rfl
     clear hw HFin HEx
     have HEE := Lib.hid hE
     clear hE
     go_wp2_with fail
     refine (HBe.out w7 HR.out.l HLn.out).mono ?_
     rintro e w9 ⟨A1, c1, A2, c2, rfl, hd, hb⟩
     have hfq := Fr.of_below' hb (fun _ => False)
     replace HF := Lib.hid (HF.out.trans hfq (T := fun _ => False) (fun _ _ h => h) (fun _ _ h => h)); replace HB0 := Lib.hid (HB0.out.fr hfq (fun _ _ h => h)); replace HR := Lib.hid (HR.out.fr hfq); replace HLn := Lib.hid (HLn.out.keep hfq); have HD := Lib.hid hd
     clear hd hb hfq z0 z1 z2 z3 z4 z5 HBe
     have hfq := Fr.alloc (fun _ => False) w9 (.cells #[.slice A1 O.length c1, .slice A2 I.length c2] TDl)
     have hbk := Bk.new w9 #[.slice A1 O.length c1, .slice A2 I.length c2] TDl
     replace HF := Lib.hid (HF.out.trans hfq (T := fun _ => False) (fun _ _ h => h) (fun _ _ h => h)); replace HB0 := Lib.hid (HB0.out.fr hfq (fun _ _ h => h)); have hl9 := HR.out.lt; replace HR := Lib.hid (HR.out.fr hfq); replace HLn := Lib.hid (HLn.out.keep hfq); replace HD := Lib.hid (HD.out.keep hfq)
     go_upto_region 15 with (fail)
     obtain ⟨bg, hbg⟩ : ∃ b, w9.heap.size = b := ⟨_, rfl⟩
     rw [hbg] at hbk
     (try rw [hbg])
     have hne : ¬ bg = B := by omega
     have hne' : ¬ B = bg := by omega
     clear hfq
     generalize w9.alloc (.cells #[.slice A1 O.length c1, .slice A2 I.length c2] TDl) = w10 at *
     clear hbg hl9
     have z5 := HR.out.cs.2.2.2.2.2
     have gB := HR.out.b.free 5
     have hfs := Fr.setCell w10 ⟨B, 5, none⟩ (.slice An N.length cn) (S := (· = B)) rfl
     have HRn : Hid (RS (w10.setCell ⟨B, 5, none⟩ (.slice An N.length cn)) B fo N An cn) := by
      have hb5 := HR.out.b.set 5 (.slice An N.length cn)
      refine ⟨HFo.out ▸ hb5, Ls.frA HLn.out hfs (fun hne a ha => not_small HR.out.b (show (6 : Nat) < 9 by decide) HLn.out hne a ha), HFo.out ▸ HR.out.i⟩
     have HD1 := Lib.hid (Ls.frA HD.out.o hfs (fun hne a ha => not_small HR.out.b (show (6 : Nat) < 9 by decide) HD.out.o hne a ha))
     have HD2 := Lib.hid (Ls.frA HD.out.i hfs (fun hne a ha => not_small HR.out.b (show (6 : Nat) < 9 by decide) HD.out.i hne a ha))
     have HFn : Hid (Fr (· = B) w (w10.setCell ⟨B, 5, none⟩ (.slice An N.length cn))) := HF.out.trans hfs (fun _ _ h => h.elim) (fun _ _ h => h)
     have hBN : ∀ b ∈ [N0], ¬ b = B := fun b hb => by simp at hb; have := HBl.out; have := HN0.out; omega
     replace HB0 := Lib.hid (HB0.out.fr hfs hBN)
     have hbk2 := hbk.fr hfs (fun b hb e => by simp at hb; omega)
     clear hbk HR HLn HD HF hBN hfs
     go_upto_region 16 with (fail)
     generalize w10.setCell ⟨B, 5, none⟩ (.slice An N.length cn) = w11 at *
     clear z5 gB
     have d0 : w11.cell? ⟨bg, 0, none⟩ = some (.slice A1 O.length c1) := hbk2.cell 0
     have d1 : w11.cell? ⟨bg, 1, none⟩ = some (.slice A2 I.length c2) := hbk2.cell 1
     clear hbk2
     have hE := HEE.out
     obtain ⟨p1, p2, p3⟩ := HPut.out hE
     have r0 := HB0.out.cell 0; have r1 := HB0.out.cell 1
     have g0 := HB0.out.free 0; have g1 := HB0.out.free 1
     have hf3 : Fr (· = N0) w11 ((w11.setCell ⟨N0, 0, none⟩ (.slice A1 O.length c1)).setCell ⟨N0, 1, none⟩ (.slice A2 I.length c2)) := (Fr.setCell w11 ⟨N0, 0, none⟩ _ (S := (· = N0)) rfl).trans (Fr.setCell _ ⟨N0, 1, none⟩ _ (S := (· = N0)) rfl) (fun _ _ h => h) (fun _ _ h => h)
     have HR0 : Hid (Bk ((w11.setCell ⟨N0, 0, none⟩ (.slice A1 O.length c1)).setCell ⟨N0, 1, none⟩ (.slice A2 I.length c2)) N0 #[.slice A1 O.length c1, .slice A2 I.length c2] TDl) := (HB0.out.set 0 _).set 1 _
     have HP : Hid (RPost B fo PL PO PI E A0 L w (.returned (.tuple #[.agg #[.slice A1 O.length c1, .slice A2 I.length c2], .int .i64 0])) ((w11.setCell ⟨N0, 0, none⟩ (.slice A1 O.length c1)).setCell ⟨N0, 1, none⟩ (.slice A2 I.length c2))) := by
      show RPost _ _ _ _ _ _ _ _ _ _ _
      rw [hE, p1, p2, p3]
      exact RPost.mk HB0.out HRn.out HD1.out HD2.out HFn.out HN0.out.symm hf3 (by have := HBl.out; have := HN0.out; omega) (.inr HNw.out)
     clear hf3 p1 p2 p3 hE
     go_wp2_with fail
     exact bodyPost_ret (results_row_slot (p := 4) (q := 5) rfl _ _ N0 TDl _ _ _ rfl rfl HR0.out underlying35 rfl (by kernel_rfl)) rfl HP.out
    ·have q7 : decide ((0 : Int) < (I.length : Int)) = true := by have := List.length_pos_iff.2 hw; simp; omega
     have q8 : decide (0 < I.length) = true := by have := List.length_pos_iff.2 hw; simp; omega
     clear HEx
     go_wp2_with fail
     refine (Lets f An cn N w7 HLn.out (by omega)).mono ?_
     rintro e w8 ⟨rfl, hfq⟩
     replace HF := Lib.hid (HF.out.trans hfq (T := fun _ => False) (fun _ _ h => h) (fun _ _ h => h)); replace HB0 := Lib.hid (HB0.out.fr hfq (fun _ _ h => h)); replace HR := Lib.hid (HR.out.fr hfq); replace HLn := Lib.hid (HLn.out.keep hfq)
     clear hfq z0 z1 z2 z3 z4 z5
     obtain ⟨z0, z1, z2, z3, z4, z5⟩ := HR.out.cs
     cases hft : fits (max f.sp 0) (max f.tr 0) N with
     | true =>
      have hE : E = 0 := by rcases HFin.out with h | h; exact h.1; rw [h.2.1] at hft; cases hft
      clear hft HFin
      have HEE := Lib.hid hE
      clear hE
      go_wp2_with fail
      refine (HBe.out w8 HR.out.l HLn.out).mono ?_
      rintro e w9 ⟨A1, c1, A2, c2, rfl, hd, hb⟩
      have hfq := Fr.of_below' hb (fun _ => False)
      replace HF := Lib.hid (HF.out.trans hfq (T := fun _ => False) (fun _ _ h => h) (fun _ _ h => h)); replace HB0 := Lib.hid (HB0.out.fr hfq (fun _ _ h => h)); replace HR := Lib.hid (HR.out.fr hfq); replace HLn := Lib.hid (HLn.out.keep hfq); have HD := Lib.hid hd
      clear hd hb hfq z0 z1 z2 z3 z4 z5 HBe
      have hfq := Fr.alloc (fun _ => False) w9 (.cells #[.slice A1 O.length c1, .slice A2 I.length c2] TDl)
      have hbk := Bk.new w9 #[.slice A1 O.length c1, .slice A2 I.length c2] TDl
      replace HF := Lib.hid (HF.out.trans hfq (T := fun _ => False) (fun _ _ h => h) (fun _ _ h => h)); replace HB0 := Lib.hid (HB0.out.fr hfq (fun _ _ h => h)); have hl9 := HR.out.lt; replace HR := Lib.hid (HR.out.fr hfq); replace HLn := Lib.hid (HLn.out.keep hfq); replace HD := Lib.hid (HD.out.keep hfq)
      go_upto_region 15 with (fail)
      obtain ⟨bg, hbg⟩ : ∃ b, w9.heap.size = b := ⟨_, rfl⟩
      rw [hbg] at hbk
      (try rw [hbg])
      have hne : ¬ bg = B := by omega
      have hne' : ¬ B = bg := by omega
      clear hfq
      generalize w9.alloc (.cells #[.slice A1 O.length c1, .slice A2 I.length c2] TDl) = w10 at *
      clear hbg hl9
      have z5 := HR.out.cs.2.2.2.2.2
      have gB := HR.out.b.free 5
      have hfs := Fr.setCell w10 ⟨B, 5, none⟩ (.slice An N.length cn) (S := (· = B)) rfl
      have HRn : Hid (RS (w10.setCell ⟨B, 5, none⟩ (.slice An N.length cn)) B fo N An cn) := by
       have hb5 := HR.out.b.set 5 (.slice An N.length cn)
       refine ⟨HFo.out ▸ hb5, Ls.frA HLn.out hfs (fun hne a ha => not_small HR.out.b (show (6 : Nat) < 9 by decide) HLn.out hne a ha), HFo.out ▸ HR.out.i⟩
      have HD1 := Lib.hid (Ls.frA HD.out.o hfs (fun hne a ha => not_small HR.out.b (show (6 : Nat) < 9 by decide) HD.out.o hne a ha))
      have HD2 := Lib.hid (Ls.frA HD.out.i hfs (fun hne a ha => not_small HR.out.b (show (6 : Nat) < 9 by decide) HD.out.i hne a ha))
      have HFn : Hid (Fr (· = B) w (w10.setCell ⟨B, 5, none⟩ (.slice An N.length cn))) := HF.out.trans hfs (fun _ _ h => h.elim) (fun _ _ h => h)
      have hBN : ∀ b ∈ [N0], ¬ b = B := fun b hb => by simp at hb; have := HBl.out; have := HN0.out; omega
      replace HB0 := Lib.hid (HB0.out.fr hfs hBN)
      have hbk2 := hbk.fr hfs (fun b hb e => by simp at hb; omega)
      clear hbk HR HLn HD HF hBN hfs
      go_upto_region 16 with (fail)
      generalize w10.setCell ⟨B, 5, none⟩ (.slice An N.length cn) = w11 at *
      clear z5 gB
      have d0 : w11.cell? ⟨bg, 0, none⟩ = some (.slice A1 O.length c1) := hbk2.cell 0
      have d1 : w11.cell? ⟨bg, 1, none⟩ = some (.slice A2 I.length c2) := hbk2.cell 1
      clear hbk2
      have hE := HEE.out
      obtain ⟨p1, p2, p3⟩ := HPut.out hE
      have r0 := HB0.out.cell 0; have r1 := HB0.out.cell 1
      have g0 := HB0.out.free 0; have g1 := HB0.out.free 1
      have hf3 : Fr (· = N0) w11 ((w11.setCell ⟨N0, 0, none⟩ (.slice A1 O.length c1)).setCell ⟨N0, 1, none⟩ (.slice A2 I.length c2)) := (Fr.setCell w11 ⟨N0, 0, none⟩ _ (S := (· = N0)) rfl).trans (Fr.setCell _ ⟨N0, 1, none⟩ _ (S := (· = N0)) rfl) (fun _ _ h => h) (fun _ _ h => h)
      have HR0 : Hid (Bk ((w11.setCell ⟨N0, 0, none⟩ (.slice A1 O.length c1)).setCell ⟨N0, 1, none⟩ (.slice A2 I.length c2)) N0 #[.slice A1 O.length c1, .slice A2 I.length c2] TDl) := (HB0.out.set 0 _).set 1 _
      have HP : Hid (RPost B fo PL PO PI E A0 L w (.returned (.tuple #[.agg #[.slice A1 O.length c1, .slice A2 I.length c2], .int .i64 0])) ((w11.setCell ⟨N0, 0, none⟩ (.slice A1 O.length c1)).setCell ⟨N0, 1, none⟩ (.slice A2 I.length c2))) := by
       show RPost _ _ _ _ _ _ _ _ _ _ _
       rw [hE, p1, p2, p3]
       exact RPost.mk HB0.out HRn.out HD1.out HD2.out HFn.out HN0.out.symm hf3 (by have := HBl.out; have := HN0.out; omega) (.inr HNw.out)
      clear hf3 p1 p2 p3 hE
      go_wp2_with fail
      exact bodyPost_ret (results_row_slot (p := 4) (q := 5) rfl _ _ N0 TDl _ _ _ rfl rfl HR0.out underlying35 rfl (by kernel_rfl)) rfl HP.out
     | false =>
      have hE : E = 5 := by
       rcases HFin.out with h | h
       ·rcases h.2 with h | h
        ·exact absurd h hw
        ·rw [h] at hft; cases hft
       ·exact h.2.2
      obtain ⟨p1, p2, p3⟩ := HErr.out (by rw [hE]; decide)
      have HRf := HFo.out ▸ HR
      clear hft HFin z0 z1 z2 z3 z4 z5
      have r0 := HB0.out.cell 0; have r1 := HB0.out.cell 1
      have g0 := HB0.out.free 0; have g1 := HB0.out.free 1
      have hf3 : Fr (· = N0) w8 ((w8.setCell ⟨N0, 0, none⟩ (.slice none 0 0)).setCell ⟨N0, 1, none⟩ (.slice none 0 0)) := (Fr.setCell w8 ⟨N0, 0, none⟩ _ (S := (· = N0)) rfl).trans (Fr.setCell _ ⟨N0, 1, none⟩ _ (S := (· = N0)) rfl) (fun _ _ h => h) (fun _ _ h => h)
      have HR0 : Hid (Bk ((w8.setCell ⟨N0, 0, none⟩ (.slice none 0 0)).setCell ⟨N0, 1, none⟩ (.slice none 0 0)) N0 #[.slice none 0 0, .slice none 0 0] TDl) := (HB0.out.set 0 _).set 1 _
      have HP : Hid (RPost B fo PL PO PI E A0 L w (.returned (.tuple #[.agg #[.slice none 0 0, .slice none 0 0], .int .i64 5])) ((w8.setCell ⟨N0, 0, none⟩ (.slice none 0 0)).setCell ⟨N0, 1, none⟩ (.slice none 0 0))) := by
       show RPost _ _ _ _ _ _ _ _ _ _ _
       rw [hE, p1, p2, p3]
       exact RPost.mk HB0.out HRf.out (Ls.nil _) (Ls.nil _) (HF.out.mono (fun _ _ h => h.elim)) HN0.out.symm hf3 (by have := HBl.out; have := HN0.out; omega) (.inl ⟨rfl, rfl⟩)
      clear hf3 p1 p2 p3 hE
      go_wp2_with fail
      exact bodyPost_ret (results_row_slot (p := 4) (q := 5) rfl _ _ N0 TDl _ _ _ rfl rfl HR0.out underlying35 rfl (by kernel_rfl)) rfl HP.out
end Ref18
set_option maxRecDepth 100000
set_option maxHeartbeats 8000000
namespace Ref18
open Name KeyP PackP SetP SetW SetF Delta Sto Law18
open Sat2 (endS cl cl_in)
attribute [local go_sem] Eng.ev Eng.getO_cons Eng.getO_nil
structure TX (w0 w : World) (B : Nat) (f : Cf) (L : List Sn) (A : Option Addr) (c : Nat) (b1 oj : Nat) (y : Sn) : Prop where
 r : RS w B f L A c
 a : At w b1 oj y
 f : Fr (fun _ => False) w0 w
theorem TX.fr {w0 w w' : World} {B : Nat} {f : Cf} {L : List Sn} {A : Option Addr} {c : Nat} {b1 oj : Nat} {y : Sn} (h : TX w0 w B f L A c b1 oj y) (hf : Fr (fun _ => False) w w') : TX w0 w' B f L A c b1 oj y := ⟨h.r.fr hf, h.a.keep hf, h.f.trans hf (fun _ _ h => h) (fun _ _ h => h)⟩
theorem rt8 {ops : Array Oper} (hops : Eng.fnOps Tryz.f115 8 = ops) (a0 : Act) (Q : Exit → Act → World → Prop) (w0 w : World) (B : Nat) (f : Cf) (L : List Sn) (c : Nat) (b1 o1 k : Nat) (y : Sn) (hst : TX w0 w B f L (some ⟨b1, o1, none⟩) c b1 (o1 + k * 9) y) (hk : k < L.length) (hl : L.length ≤ 1000000) (hy : y.ok)
  (hn : a0.tmps.size = 61) (h_0 : a0.tmps.getD 0 undef = .pointer (some ⟨B, 0, none⟩)) (h_7 : a0.tmps.getD 7 undef = .int .i64 k)
  (hpost : ∀ (x : Nat → Value) (w' : World), x 39 = .bool (!past (hz f) y) → TX w0 w' B f L (some ⟨b1, o1, none⟩) c b1 (o1 + k * 9) y → Q .normal (Eng.setAll a0 [29, 30, 31, 32, 33, 34, 35, 36, 37, 38, 39] x) w') :
  (Code.region 8 ops true).wp prog Q a0 w := by
 simp only [Eng.fnOps, Eng.regOps, Tryz.f115, Option.bind_some, Option.getD_some, Nat.reduceEqDiff, ↓reduceIte, Nat.reduceBEq] at hops
 subst hops
 have HSt := Lib.hid (hst.fr (Fr.drew _ _))
 refine Eng.regionN [(0, true), (1, true), (2, true), (3, true), (4, true), (5, true), (6, true), (7, true), (8, false), (9, false), (10, true)] (fun w' => w'.cell? ⟨B, 5, none⟩ = some (.slice (some ⟨b1, o1, none⟩) L.length c) ∧ w'.cell? ⟨b1, o1 + k * 9, none⟩ = some (.int .i64 y.t) ∧ w'.cell? ⟨b1, o1 + k * 9 + 1, none⟩ = some (.int .i64 y.i) ∧ w'.cell? ⟨b1, o1 + k * 9 + 1 + 1, none⟩ = some (.int .i64 y.p) ∧ w'.cell? ⟨b1, o1 + k * 9 + 1 + 1 + 1, none⟩ = some (.int .i64 y.r) ∧ w'.cell? ⟨b1, o1 + k * 9 + 1 + 1 + 1 + 1, none⟩ = some (.string y.s) ∧ w'.cell? ⟨b1, o1 + k * 9 + 1 + 1 + 1 + 1 + 1, none⟩ = some (.string y.o) ∧ w'.cell? ⟨b1, o1 + k * 9 + 1 + 1 + 1 + 1 + 1 + 1, none⟩ = some (.int .i64 y.b) ∧ w'.cell? ⟨b1, o1 + k * 9 + 1 + 1 + 1 + 1 + 1 + 1 + 1, none⟩ = some (.int .i64 y.d) ∧ w'.cell? ⟨b1, o1 + k * 9 + 1 + 1 + 1 + 1 + 1 + 1 + 1 + 1, none⟩ = some (.bool y.g)) (by kernel_rfl) 61 hn (by kernel_rfl) rfl (by kernel_rfl) (⟨HSt.out.r.cs.2.2.2.2.2, HSt.out.a 0 _ rfl, HSt.out.a 1 _ rfl, HSt.out.a 2 _ rfl, HSt.out.a 3 _ rfl, HSt.out.a 4 _ rfl, HSt.out.a 5 _ rfl, HSt.out.a 6 _ rfl, HSt.out.a 7 _ rfl, HSt.out.a 8 _ rfl⟩) (fun a b ha hb => ?_)
 subst ha
 have hb0 : b 0 = .pointer (some ⟨B, 0, none⟩) := (hb 0).symm.trans h_0
 have hb7 : b 7 = .int .i64 k := (hb 7).symm.trans h_7
 clear hb h_0 h_7
 have HP := Lib.hid hpost; have HN := Lib.hid hn
 clear hpost hn
 iterate 8 (refine Eng.Sch.tk ?_)
 refine Eng.Sch.call rfl rfl (by decide) (by kernel_rfl) ?_ (Horizon HSt.out.r) ?_
 ·go_simp
 rintro e w2 ⟨rfl, hf⟩
 have HSt1 := Lib.hid (HSt.out.fr hf)
 refine ⟨_, rfl, ⟨HSt1.out.r.cs.2.2.2.2.2, HSt1.out.a 0 _ rfl, HSt1.out.a 1 _ rfl, HSt1.out.a 2 _ rfl, HSt1.out.a 3 _ rfl, HSt1.out.a 4 _ rfl, HSt1.out.a 5 _ rfl, HSt1.out.a 6 _ rfl, HSt1.out.a 7 _ rfl, HSt1.out.a 8 _ rfl⟩, ?_⟩
 refine Eng.Sch.call rfl rfl (by decide) (by kernel_rfl) ?_ (Law16.RefPast y hy.b (hz f) _) ?_
 ·go_simp
 rintro e w3 ⟨rfl, hf2⟩
 have HSt2 := Lib.hid (HSt1.out.fr hf2)
 refine ⟨_, rfl, ⟨HSt2.out.r.cs.2.2.2.2.2, HSt2.out.a 0 _ rfl, HSt2.out.a 1 _ rfl, HSt2.out.a 2 _ rfl, HSt2.out.a 3 _ rfl, HSt2.out.a 4 _ rfl, HSt2.out.a 5 _ rfl, HSt2.out.a 6 _ rfl, HSt2.out.a 7 _ rfl, HSt2.out.a 8 _ rfl⟩, ?_⟩
 refine Eng.Sch.tk ?_
 refine Eng.Sch.end_ [29, 30, 31, 32, 33, 34, 35, 36, 37, 38, 39] HN.out (by kernel_rfl) (by kernel_rfl) ?_
 exact HP.out _ _ rfl HSt2.out
theorem filt_snoc {p : Sn → Bool} {L : List Sn} {k : Nat} (hk : k < L.length) : (L.take (k + 1)).filter p = (L.take k).filter p ++ if p L[k] then [L[k]] else [] := Sto.filt_take hk
theorem Tick {w : World} {B : Nat} {f : Cf} {L : List Sn} {A0 : Option Addr} {c0 : Nat} (now : Int) (h : RS w B f L A0 c0) (hOk : Ok L) (hnow : in64 now) (hL : L.length ≤ 50000) :
  Calls prog 115 #[.pointer (some ⟨B, 0, none⟩), .int .i64 now] w (RPost B (tickF f now) (tickL f now L) (tickO f now L) [] (tickE f now) A0 L w) := by
 obtain ⟨i0, hi, hz0, hz1, hz2⟩ := info_parts infoS
 have hf := Fr.alloc (fun _ => False) w (.cells #[.slice none 0 0, .slice none 0 0] TDl)
 have HB0 := Lib.hid (Bk.new w #[.slice none 0 0, .slice none 0 0] TDl)
 have HR := Lib.hid (h.fr hf); have HF : Hid (Fr (fun k => k = B) w _) := hf.mono (fun _ _ h => h.elim); have HOk := Lib.hid hOk; have HBl := Lib.hid h.lt; have HNw := Lib.hid hnow
 obtain ⟨N0, hN0⟩ : ∃ b, w.heap.size = b := ⟨_, rfl⟩
 have HN0 := Lib.hid hN0
 have HErr : Hid (now < f.now → tickE f now = 1 ∧ tickF f now = f ∧ tickL f now L = L ∧ tickO f now L = []) := fun h => ⟨if_pos h, if_pos h, if_pos h, if_pos h⟩
 have HGo : Hid (¬ now < f.now → tickE f now = 0 ∧ tickF f now = f.at now ∧ tickL f now L = L.filter (fun x => !past (hz (f.at now)) x) ∧ tickO f now L = wout (L.filter (fun x => !past (hz (f.at now)) x)) L) := fun h => ⟨if_neg h, if_neg h, if_neg h, by rw [tick_out]; exact if_neg h⟩
 clear h hf hOk hnow
 generalize tickE f now = E at *
 generalize tickF f now = fo at *
 generalize tickL f now L = PL at *
 generalize tickO f now L = PO at *
 obtain ⟨PI, hPI⟩ : ∃ PI : List Sn, [] = PI := ⟨_, rfl⟩
 rw [hPI]
 have HPI := Lib.hid hPI
 clear hPI
 go_enter func115, ntmps115
 rw [hN0] at HB0
 go_upto_region 1 with (fail)
 (try rw [hN0])
 clear hN0
 generalize (w.alloc (.cells #[.slice none 0 0, .slice none 0 0] TDl)) = w1 at *
 obtain ⟨z0, z1, z2, z3, z4, z5⟩ := HR.out.cs
 by_cases hn : now < f.now
 ·have q1 : decide (now < f.now) = true := by simpa using hn
  obtain ⟨hE, p0, p1, p2⟩ := HErr.out hn
  have p3 := HPI.out.symm
  have HRf : Hid (RS w1 B fo L A0 c0) := by show RS _ _ _ _ _ _; rw [p0]; exact HR.out
  clear p0
  have r0 := HB0.out.cell 0; have r1 := HB0.out.cell 1
  have g0 := HB0.out.free 0; have g1 := HB0.out.free 1
  have hf3 : Fr (· = N0) w1 ((w1.setCell ⟨N0, 0, none⟩ (.slice none 0 0)).setCell ⟨N0, 1, none⟩ (.slice none 0 0)) := (Fr.setCell w1 ⟨N0, 0, none⟩ _ (S := (· = N0)) rfl).trans (Fr.setCell _ ⟨N0, 1, none⟩ _ (S := (· = N0)) rfl) (fun _ _ h => h) (fun _ _ h => h)
  have HR0 : Hid (Bk ((w1.setCell ⟨N0, 0, none⟩ (.slice none 0 0)).setCell ⟨N0, 1, none⟩ (.slice none 0 0)) N0 #[.slice none 0 0, .slice none 0 0] TDl) := (HB0.out.set 0 _).set 1 _
  have HP : Hid (RPost B fo PL PO PI E A0 L w (.returned (.tuple #[.agg #[.slice none 0 0, .slice none 0 0], .int .i64 1])) ((w1.setCell ⟨N0, 0, none⟩ (.slice none 0 0)).setCell ⟨N0, 1, none⟩ (.slice none 0 0))) := by
   show RPost _ _ _ _ _ _ _ _ _ _ _
   rw [hE, p1, p2, p3]
   exact RPost.mk HB0.out HRf.out (Ls.nil _) (Ls.nil _) HF.out HN0.out.symm hf3 (by have := HBl.out; have := HN0.out; omega) (.inl ⟨rfl, rfl⟩)
  clear hf3 p1 p2 p3 hE
  go_wp2_with fail
  exact bodyPost_ret (results_row_slot (p := 4) (q := 5) rfl _ _ N0 TDl _ _ _ rfl rfl HR0.out underlying35 rfl (by kernel_rfl)) rfl HP.out
 ·have q1 : decide (now < f.now) = false := by simpa using hn
  have HGo2 := Lib.hid (HGo.out hn)
  have gB := HR.out.b.free 4
  have hfs := Fr.setCell w1 ⟨B, 4, none⟩ (.int .i64 now) (S := (· = B)) rfl
  have hb4 := HR.out.b.set 4 (.int .i64 now)
  have hRn : RS (w1.setCell ⟨B, 4, none⟩ (.int .i64 now)) B (f.at now) L A0 c0 := ⟨hb4, Ls.frA HR.out.l hfs (fun hne a ha => not_small HR.out.b (show (6 : Nat) < 9 by decide) HR.out.l hne a ha), HR.out.i.1, HR.out.i.2.1, HR.out.i.2.2.1, HNw.out⟩
  have hBN : ∀ b ∈ [N0], ¬ b = B := fun b hb => by simp at hb; have := HBl.out; have := HN0.out; omega
  have HB1 := Lib.hid (HB0.out.fr hfs hBN)
  have HF1 := Lib.hid (HF.out.trans hfs (T := fun k => k = B) (fun _ _ h => h) (fun _ _ h => h))
  have HR1 := Lib.hid hRn
  clear hRn hb4 hfs hBN HErr HGo hn HB0 HF
  go_upto_region 4 with (fail)
  clear HR z0 z1 z2 z3 z4 z5 gB q1
  generalize w1.setCell ⟨B, 4, none⟩ (.int .i64 now) = w2 at *
  obtain ⟨f2, hf2⟩ : ∃ f2, f.at now = f2 := ⟨_, rfl⟩
  rw [hf2] at HR1 HGo2
  clear hf2
  have hsz : w2.heap.size ≤ w2.heap.size := Nat.le_refl _
  go_wp2_with fail
  go_loopg [6, 7] L.length (fun gk v i wr => ∃ k : Nat, i = .int .i64 k ∧ k ≤ L.length ∧ gk = L.length - k ∧ wr.ownsRow w2.heap.size TSn 9 v ((L.take k).filter (fun x => !past (hz f2) x)).length (((L.take k).filter (fun x => !past (hz f2) x)).flatMap scs) ∧ Fr (fun _ => False) w2 wr)
  case atStart => exact ⟨0, rfl, Nat.zero_le _, rfl, World.ownsRow_nil _ _ _ _, Fr.refl _ _⟩
  case round =>
   obtain ⟨k, rfl, hk, hg, hown, hf⟩ := hrel
   have HG := Lib.hid hg; have HO := Lib.hid hown; have HFr := Lib.hid hf
   have HF := HF1; have HB0 := HB1; have HR := HR1
   replace HF := Lib.hid (HF.out.trans hf (T := fun k => k = B) (fun _ _ h => h) (fun _ _ h => h.elim)); replace HB0 := Lib.hid (HB0.out.fr hf (fun _ _ h => h)); replace HR := Lib.hid (HR.out.fr hf)
   clear hg hown hf
   obtain ⟨z0, z1, z2, z3, z4, z5⟩ := HR.out.cs
   by_cases hlt : k < L.length
   ·obtain ⟨b1, o1, rfl, hb1, c1⟩ := HR.out.l.s.at hlt (by omega)
    have HRw := Lib.hid (At.row c1 hlt)
    have HYk := Lib.hid (HR.out.l.ok _ (List.getElem_mem hlt))
    have HSn := Lib.hid (filt_snoc (p := fun x => !past (hz f2) x) hlt)
    have hfl : ((L.take k).filter (fun x => !past (hz f2) x)).length ≤ k := Nat.le_trans (List.length_filter_le _ _) (by rw [List.length_take]; omega)
    clear c1 hb1
    generalize L[k] = y at *
    generalize (L.take k).filter (fun x => !past (hz f2) x) = M at *
    have q1 : (0 : Int) ≤ (k : Int) := by omega
    have q2 : decide ((k : Int) < (L.length : Int)) = true := by simp; omega
    have q3 : wrap64 ((k : Int) + 1) = (k : Int) + 1 := by unfold wrap64; omega
    go_upto_region 8 with (fail)
    refine rt8 (by kernel_rfl) _ _ wr wr B f2 L c0 b1 o1 k y ⟨HR.out, HRw.out, Fr.refl _ _⟩ hlt (by omega) HYk.out (by simp) rfl rfl ?_
    intro x w4 h39 hst
    simp only [Eng.setAll, Act.put, List.setIfInBounds_toArray, List.set_cons_succ, List.set_cons_zero]
    rw [h39]
    have HX := Lib.hid hst
    have HO4 := Lib.hid (ownsRow_fr HO.out hst.f (fun b hb h => h))
    have HFr4 := Lib.hid (HFr.out.trans hst.f (T := fun _ => False) (fun _ _ h => h) (fun _ _ h => h))
    clear h39 hst HO HFr HR HB0 HF HRw z0 z1 z2 z3 z4 z5
    have hw4 : w2.heap.size ≤ w4.heap.size := HFr4.out.size
    cases hp : past (hz f2) y with
    | true =>
     have HE : Hid ((L.take (k + 1)).filter (fun x => !past (hz f2) x) = M) := by show _ = _; rw [HSn.out, hp]; simp
     clear hp HSn
     go_wp2_with fail
     go_roundg (L.length - (k + 1))
     case rel => exact ⟨k + 1, by go_num, by omega, rfl, by rw [HE.out]; exact HO4.out, HFr4.out⟩
     case measure => have := HG.out; omega
    | false =>
     have HE : Hid ((L.take (k + 1)).filter (fun x => !past (hz f2) x) = M ++ [y]) := by show _ = _; rw [HSn.out, hp]; simp
     clear hp HSn
     obtain ⟨z0, z1, z2, z3, z4, z5⟩ := HX.out.r.cs
     obtain ⟨yc0, yc1, yc2, yc3, yc4, yc5, yc6, yc7, yc8⟩ := SetW.at9 (HX.out.a)
     have hown' := HO4.out.alloc (.cells y.arr TSn)
     have HBk := Lib.hid (ownsRow_blk HO4.out)
     go_wp2_with (at_builtin; refine wpList_append_sl _ rfl (.tmp 40) (.tmp 48) TSs rfl w2.heap.size TSn i0 (.agg #[.int .i64 0, .int .i64 0, .int .i64 0, .int .i64 0, .string ByteArray.empty, .string ByteArray.empty, .int .i64 0, .int .i64 0, .bool false]) 9 88 underlying22 hi hz0 hz1 hz2 rfl (by decide) _ _ _ rfl hown' _ _ _ _ rfl (Sl.one w4 TSn (scs y) 9 rfl) (by simp [Value.oneCell']) ?_ ?_ ?_ ?_)
     ·unfold maxLen; omega
     ·omega
     ·first | omega | (simp; omega)
     intro v1 w7 hown1 hgrow1
     have HO7 := Lib.hid hown1
     have HF7 := Lib.hid ((HFr4.out.trans (Fr.alloc (fun _ => False) w4 (.cells y.arr TSn)) (T := fun _ => False) (fun _ _ h => h) (fun _ _ h => h)).trans (Fr.grown hgrow1 (S := fun k => w2.heap.size ≤ k) (fun k e => (HBk.out k e).1)) (T := fun _ => False) (fun _ _ h => h) (fun i hi h => by omega))
     clear hown1 hgrow1 hown' yc0 yc1 yc2 yc3 yc4 yc5 yc6 yc7 yc8 z0 z1 z2 z3 z4 z5
     go_wp2_with fail
     go_roundg (L.length - (k + 1))
     case rel => exact ⟨k + 1, by go_num, by omega, rfl, by rw [HE.out]; simpa using HO7.out, HF7.out⟩
     case measure => have := HG.out; omega
   ·obtain rfl : k = L.length := by omega
    have q2 : decide ((L.length : Int) < (L.length : Int)) = false := by simp
    rw [List.take_length] at HO
    obtain ⟨hE, p0, p1, p2⟩ := HGo2.out
    have HPl := Lib.hid p1; have HPo := Lib.hid p2; have HEE := Lib.hid hE; have HFo := Lib.hid p0
    have HNok : Hid (∀ x ∈ L.filter (fun x => !past (hz f2) x), x.ok) := fun x hx => HR.out.l.ok x (List.mem_filter.1 hx).1
    have HBt : Hid (wout (setOf (L.filter (fun x => !past (hz f2) x))) (setOf L) = wout (L.filter (fun x => !past (hz f2) x)) L ∧ wout (setOf L) (setOf (L.filter (fun x => !past (hz f2) x))) = []) := by
     show _ ∧ _
     rw [HOk.out.set, (HOk.out.filter (fun x => !past (hz f2) x)).set, tick_in]; exact ⟨rfl, rfl⟩
    have hNl := List.length_filter_le (fun x => !past (hz f2) x) L
    clear hE p0 p1 p2 HG HGo2
    generalize L.filter (fun x => !past (hz f2) x) = N at *
    generalize wout N L = O at *
    obtain ⟨An, cn, hva, hsb, hnw⟩ := Sl.of_own HO.out
    subst hva
    have HLn : Hid (Ls wr An cn N) := ⟨hsb, HNok.out⟩
    have HNw2 : Hid (N ≠ [] → ∀ a, An = some a → w.heap.size ≤ a.block) := fun _ a ha => by
     have h1 := (hnw a ha).1; have h2 := HF1.out.size; omega
    clear hsb hnw HO
    have HBe := Lib.hid (RefD.Between A0 An c0 cn L N wr HR.out.l HLn.out (by omega) (by omega))
    rw [HBt.out.1, HBt.out.2] at HBe
    go_wp2_with fail
    refine HBe.out.mono ?_
    rintro e w9 ⟨A1, c1, A2, c2, rfl, hd, hb⟩
    have hfq := Fr.of_below' hb (fun _ => False)
    replace HF := Lib.hid (HF.out.trans hfq (T := fun k => k = B) (fun _ _ h => h) (fun _ _ h => h.elim)); replace HB0 := Lib.hid (HB0.out.fr hfq (fun _ _ h => h)); replace HR := Lib.hid (HR.out.fr hfq)
    replace HLn := Lib.hid (HLn.out.keep hfq); have HD := Lib.hid hd
    clear hd hb hfq z0 z1 z2 z3 z4 z5 HBe
    have hfq := Fr.alloc (fun _ => False) w9 (.cells #[.slice A1 O.length c1, .slice A2 0 c2] TDl)
    have hbk := Bk.new w9 #[.slice A1 O.length c1, .slice A2 0 c2] TDl
    have hl9 := HR.out.lt
    replace HF := Lib.hid (HF.out.trans hfq (T := fun k => k = B) (fun _ _ h => h) (fun _ _ h => h.elim)); replace HB0 := Lib.hid (HB0.out.fr hfq (fun _ _ h => h)); replace HR := Lib.hid (HR.out.fr hfq)
    replace HLn := Lib.hid (HLn.out.keep hfq); replace HD := Lib.hid (HD.out.keep hfq)
    go_upto_region 11 with (fail)
    obtain ⟨bg, hbg⟩ : ∃ b, w9.heap.size = b := ⟨_, rfl⟩
    rw [hbg] at hbk
    (try rw [hbg])
    have hne : ¬ bg = B := by omega
    have hne' : ¬ B = bg := by omega
    clear hfq
    generalize w9.alloc (.cells #[.slice A1 O.length c1, .slice A2 0 c2] TDl) = w10 at *
    clear hbg hl9
    have z5 := HR.out.cs.2.2.2.2.2
    have gB := HR.out.b.free 5
    have hfs := Fr.setCell w10 ⟨B, 5, none⟩ (.slice An N.length cn) (S := (· = B)) rfl
    have HRn : Hid (RS (w10.setCell ⟨B, 5, none⟩ (.slice An N.length cn)) B fo N An cn) := by
     have hb5 := HR.out.b.set 5 (.slice An N.length cn)
     show RS _ _ _ _ _ _
     rw [HFo.out]
     exact ⟨hb5, Ls.frA HLn.out hfs (fun hne a ha => not_small HR.out.b (show (6 : Nat) < 9 by decide) HLn.out hne a ha), HR.out.i⟩
    have HD1 := Lib.hid (Ls.frA HD.out.o hfs (fun hne a ha => not_small HR.out.b (show (6 : Nat) < 9 by decide) HD.out.o hne a ha))
    have HD2 := Lib.hid (Ls.frA HD.out.i hfs (fun hne a ha => not_small HR.out.b (show (6 : Nat) < 9 by decide) HD.out.i hne a ha))
    have HFn : Hid (Fr (· = B) w (w10.setCell ⟨B, 5, none⟩ (.slice An N.length cn))) := HF.out.trans hfs (fun _ _ h => h) (fun _ _ h => h)
    have hBN : ∀ b ∈ [N0], ¬ b = B := fun b hb => by simp at hb; have := HBl.out; have := HN0.out; omega
    replace HB0 := Lib.hid (HB0.out.fr hfs hBN)
    have hbk2 := hbk.fr hfs (fun b hb e => by simp at hb; omega)
    clear hbk HR HLn HD HF hBN hfs
    go_upto_region 12 with (fail)
    generalize w10.setCell ⟨B, 5, none⟩ (.slice An N.length cn) = w11 at *
    clear z5 gB
    have d0 : w11.cell? ⟨bg, 0, none⟩ = some (.slice A1 O.length c1) := hbk2.cell 0
    have d1 : w11.cell? ⟨bg, 1, none⟩ = some (.slice A2 0 c2) := hbk2.cell 1
    clear hbk2
    have hE := HEE.out
    have p1 := HPl.out; have p2 := HPo.out; have p3 := HPI.out.symm
    have r0 := HB0.out.cell 0; have r1 := HB0.out.cell 1
    have g0 := HB0.out.free 0; have g1 := HB0.out.free 1
    have hf3 : Fr (· = N0) w11 ((w11.setCell ⟨N0, 0, none⟩ (.slice A1 O.length c1)).setCell ⟨N0, 1, none⟩ (.slice A2 0 c2)) := (Fr.setCell w11 ⟨N0, 0, none⟩ _ (S := (· = N0)) rfl).trans (Fr.setCell _ ⟨N0, 1, none⟩ _ (S := (· = N0)) rfl) (fun _ _ h => h) (fun _ _ h => h)
    have HR0 : Hid (Bk ((w11.setCell ⟨N0, 0, none⟩ (.slice A1 O.length c1)).setCell ⟨N0, 1, none⟩ (.slice A2 0 c2)) N0 #[.slice A1 O.length c1, .slice A2 0 c2] TDl) := (HB0.out.set 0 _).set 1 _
    have HP : Hid (RPost B fo PL PO PI E A0 L w (.returned (.tuple #[.agg #[.slice A1 O.length c1, .slice A2 0 c2], .int .i64 0])) ((w11.setCell ⟨N0, 0, none⟩ (.slice A1 O.length c1)).setCell ⟨N0, 1, none⟩ (.slice A2 0 c2))) := by
     show RPost _ _ _ _ _ _ _ _ _ _ _
     rw [hE, p1, p2, p3]
     exact RPost.mk HB0.out HRn.out HD1.out HD2.out HFn.out HN0.out.symm hf3 (by have := HBl.out; have := HN0.out; omega) (.inr HNw2.out)
    clear hf3 p1 p2 p3 hE
    go_wp2_with fail
    exact bodyPost_ret (results_row_slot (p := 4) (q := 5) rfl _ _ N0 TDl _ _ _ rfl rfl HR0.out underlying35 rfl (by kernel_rfl)) rfl HP.out
theorem RPost.box {w0 w1 w2 w3 : World} {B N : Nat} {f : Cf} {L O I : List Sn} {E : Int} {A0 A1 A2 A : Option Addr} {L0 : List Sn} {c1 c2 c : Nat} (hb : Bk w2 N #[.slice none 0 0, .slice none 0 0] TDl) (hr : RS w2 B f L A c) (h1 : Ls w2 A1 c1 O) (h2 : Ls w2 A2 c2 I) (hf : Fr (· = B) w0 w2) (hN : w0.heap.size ≤ N) (hs : Fr (· = N) w2 w3) (hB : B < N) (hn : (A = A0 ∧ L = L0) ∨ (L ≠ [] → ∀ a, A = some a → w1.heap.size ≤ a.block)) (hw : w0.heap.size ≤ w1.heap.size) :
  RPost B f L O I E A0 L0 w0 (.returned (.tuple #[.agg #[.slice A1 O.length c1, .slice A2 I.length c2], .int .i64 E])) w3 := by
 have k : ∀ {A : Option Addr} {c : Nat} {M : List Sn}, Ls w2 A c M → Ls w3 A c M := fun h => Ls.frA h hs (fun hne a ha => not_small hb (by decide) h hne a ha)
 refine ⟨A1, c1, A2, c2, A, c, rfl, ⟨hr.b.fr hs (fun b hb e => by simp at hb; omega), k hr.l, hr.i⟩, k h1, k h2, hf.trans hs (fun _ _ h => h) (fun i hi e => by omega), ?_⟩
 rcases hn with hn | hn
 ·exact .inl hn
 ·exact .inr (fun hne a ha => Nat.le_trans hw (hn hne a ha))
theorem Do {w : World} {B : Nat} {f : Cf} {L : List Sn} {A0 : Option Addr} {c0 : Nat} (a : Ac) (h : RS w B f L A0 c0) (hr : Rd w a) (hOk : Ok L) (hft : fits (max f.sp 0) (max f.tr 0) L = true) (hlen : a.L.length ≤ 10000) (hL : L.length ≤ 50000) :
  Calls prog 54 #[.pointer (some ⟨B, 0, none⟩), .agg a.arr] w (RPost B (doF f a) (doL f L a) (doO f L a) (doI f L a) (doE f L a) A0 L w) := by
 have hf1 := Fr.alloc (fun _ => False) w (.cells a.arr TAc)
 have hf2 := Fr.alloc (fun _ => False) (w.alloc (.cells a.arr TAc)) (.cells #[.slice none 0 0, .slice none 0 0] TDl)
 have hf := hf1.trans hf2 (T := fun _ => False) (fun _ _ h => h) (fun _ _ h => h)
 have HS := Lib.hid (h.fr hf); have HL := Lib.hid (hr.1.keep hf); have HF := Lib.hid hf; have HBl := Lib.hid h.lt; have HN := Lib.hid hr.2; have HOk := Lib.hid hOk; have HFt := Lib.hid hft
 have HBa := Lib.hid ((Bk.new w a.arr TAc).fr hf2 (fun _ _ h => h))
 have HBd := Lib.hid (Bk.new (w.alloc (.cells a.arr TAc)) #[.slice none 0 0, .slice none 0 0] TDl)
 have hz1 : (w.alloc (.cells a.arr TAc)).heap.size = w.heap.size + 1 := by simp
 have hz2 : ((w.alloc (.cells a.arr TAc)).alloc (.cells #[.slice none 0 0, .slice none 0 0] TDl)).heap.size = w.heap.size + 2 := by simp
 clear h hr hf1 hf2 hf hOk hft
 have HDo : Hid (∀ e w', (if a.k = 2 then RPost B (tickF f a.n) (tickL f a.n L) (tickO f a.n L) [] (tickE f a.n) A0 L w else RPost B f (putL f L a.L) (putO f L a.L) (putI f L a.L) (canE f L a.L) A0 L w) e w' → RPost B (doF f a) (doL f L a) (doO f L a) (doI f L a) (doE f L a) A0 L w e w') := fun e w' hp => by
  unfold doF doL doO doI doE
  by_cases hk : a.k = 2
  ·rw [if_pos hk] at hp ⊢; rw [if_pos hk, if_pos hk, if_pos hk, if_pos hk]; exact hp
  ·rw [if_neg hk] at hp ⊢; rw [if_neg hk, if_neg hk, if_neg hk, if_neg hk]; exact hp
 generalize RPost B (doF f a) (doL f L a) (doO f L a) (doI f L a) (doE f L a) A0 L w = Qo at *
 go_enter func54, ntmps54
 go_upto_region 1 with (fail)
 rw [hz1] at HBd
 have HZ := Lib.hid hz2
 (try rw [hz1])
 generalize ((w.alloc (.cells a.arr TAc)).alloc (.cells #[.slice none 0 0, .slice none 0 0] TDl)) = w1 at *
 clear hz1 hz2
 have a0 : w1.cell? ⟨w.heap.size, 0, none⟩ = some (.int .i64 a.k) := HBa.out.cell 0
 have a1 : w1.cell? ⟨w.heap.size, 1, none⟩ = some (.slice a.A a.L.length a.c) := HBa.out.cell 1
 have a2 : w1.cell? ⟨w.heap.size, 2, none⟩ = some (.int .i64 a.n) := HBa.out.cell 2
 by_cases hk : a.k = 2
 ·have q0 : decide (a.k = 2) = true := by simpa using hk
  have hk2 := hk
  rw [hk2] at a0
  have HT := Lib.hid (Tick a.n HS.out HOk.out HN.out hL)
  go_wp2_with fail
  refine HT.out.mono ?_
  rintro e w2 ⟨A1, c1, A2, c2, A, c, rfl, hr, h1, h2, hf, hn⟩
  have HB2 := Lib.hid (HBd.out.fr hf (fun b hb e => by simp at hb; have := HBl.out; omega))
  have HF2 := Lib.hid (HF.out.trans hf (T := (· = B)) (fun _ _ h => h.elim) (fun _ _ h => h))
  have HR2 := Lib.hid hr; have HL1 := Lib.hid h1; have HL2 := Lib.hid h2
  have HN2 := Lib.hid hn
  clear hr h1 h2 hf hn a0 a1 a2 HT
  have r0 := HB2.out.cell 0; have r1 := HB2.out.cell 1
  have g0 := HB2.out.free 0; have g1 := HB2.out.free 1
  have hf3 : Fr (· = w.heap.size + 1) w2 ((w2.setCell ⟨w.heap.size + 1, 0, none⟩ (.slice A1 (tickO f a.n L).length c1)).setCell ⟨w.heap.size + 1, 1, none⟩ (.slice A2 0 c2)) := (Fr.setCell w2 ⟨w.heap.size + 1, 0, none⟩ _ (S := (· = w.heap.size + 1)) rfl).trans (Fr.setCell _ ⟨w.heap.size + 1, 1, none⟩ _ (S := (· = w.heap.size + 1)) rfl) (fun _ _ h => h) (fun _ _ h => h)
  have HR0 : Hid (Bk ((w2.setCell ⟨w.heap.size + 1, 0, none⟩ (.slice A1 (tickO f a.n L).length c1)).setCell ⟨w.heap.size + 1, 1, none⟩ (.slice A2 0 c2)) (w.heap.size + 1) #[.slice A1 (tickO f a.n L).length c1, .slice A2 0 c2] TDl) := (HB2.out.set 0 _).set 1 _
  have HP : Hid (Qo (.returned (.tuple #[.agg #[.slice A1 (tickO f a.n L).length c1, .slice A2 0 c2], .int .i64 (tickE f a.n)])) ((w2.setCell ⟨w.heap.size + 1, 0, none⟩ (.slice A1 (tickO f a.n L).length c1)).setCell ⟨w.heap.size + 1, 1, none⟩ (.slice A2 0 c2))) := HDo.out _ _ (by
   rw [if_pos hk]
   exact RPost.box (w1 := w1) HB2.out HR2.out HL1.out HL2.out HF2.out (by omega) hf3 (by have := HBl.out; omega) HN2.out (by rw [HZ.out]; omega))
  clear hf3
  go_wp2_with fail
  exact bodyPost_ret (results_row_slot (p := 4) (q := 5) rfl _ _ (w.heap.size + 1) TDl _ _ _ rfl rfl HR0.out underlying35 rfl (by kernel_rfl)) rfl HP.out
 ·have q0 : decide (a.k = 2) = false := by simpa using hk
  have HT := Lib.hid (Put a.A a.c a.L HS.out HL.out HOk.out HFt.out hlen hL)
  go_wp2_with fail
  refine HT.out.mono ?_
  rintro e w2 ⟨A1, c1, A2, c2, A, c, rfl, hr, h1, h2, hf, hn⟩
  have HB2 := Lib.hid (HBd.out.fr hf (fun b hb e => by simp at hb; have := HBl.out; omega))
  have HF2 := Lib.hid (HF.out.trans hf (T := (· = B)) (fun _ _ h => h.elim) (fun _ _ h => h))
  have HR2 := Lib.hid hr; have HL1 := Lib.hid h1; have HL2 := Lib.hid h2
  have HN2 := Lib.hid hn
  clear hr h1 h2 hf hn a0 a1 a2 HT
  have r0 := HB2.out.cell 0; have r1 := HB2.out.cell 1
  have g0 := HB2.out.free 0; have g1 := HB2.out.free 1
  have hf3 : Fr (· = w.heap.size + 1) w2 ((w2.setCell ⟨w.heap.size + 1, 0, none⟩ (.slice A1 (putO f L a.L).length c1)).setCell ⟨w.heap.size + 1, 1, none⟩ (.slice A2 (putI f L a.L).length c2)) := (Fr.setCell w2 ⟨w.heap.size + 1, 0, none⟩ _ (S := (· = w.heap.size + 1)) rfl).trans (Fr.setCell _ ⟨w.heap.size + 1, 1, none⟩ _ (S := (· = w.heap.size + 1)) rfl) (fun _ _ h => h) (fun _ _ h => h)
  have HR0 : Hid (Bk ((w2.setCell ⟨w.heap.size + 1, 0, none⟩ (.slice A1 (putO f L a.L).length c1)).setCell ⟨w.heap.size + 1, 1, none⟩ (.slice A2 (putI f L a.L).length c2)) (w.heap.size + 1) #[.slice A1 (putO f L a.L).length c1, .slice A2 (putI f L a.L).length c2] TDl) := (HB2.out.set 0 _).set 1 _
  have HP : Hid (Qo (.returned (.tuple #[.agg #[.slice A1 (putO f L a.L).length c1, .slice A2 (putI f L a.L).length c2], .int .i64 (canE f L a.L)])) ((w2.setCell ⟨w.heap.size + 1, 0, none⟩ (.slice A1 (putO f L a.L).length c1)).setCell ⟨w.heap.size + 1, 1, none⟩ (.slice A2 (putI f L a.L).length c2))) := HDo.out _ _ (by
   rw [if_neg hk]
   exact RPost.box (w1 := w1) HB2.out HR2.out HL1.out HL2.out HF2.out (by omega) hf3 (by have := HBl.out; omega) HN2.out (by rw [HZ.out]; omega))
  clear hf3
  go_wp2_with fail
  exact bodyPost_ret (results_row_slot (p := 4) (q := 5) rfl _ _ (w.heap.size + 1) TDl _ _ _ rfl rfl HR0.out underlying35 rfl (by kernel_rfl)) rfl HP.out
end Ref18
end Go.Proofs.YtdpngmgaomghoaaGreat
