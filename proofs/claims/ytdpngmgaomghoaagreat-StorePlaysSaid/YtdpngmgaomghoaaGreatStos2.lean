/- store.Put. -/
import Derived.Test.YtdpngmgaomghoaaGreatStos1
namespace Go.Proofs.YtdpngmgaomghoaaGreat
open Tryz
set_option maxRecDepth 100000
set_option maxHeartbeats 4000000
open Go.RowKit
namespace Sto
open Name KeyP PackP SetP SetW SetF Delta Comp BagP
open Sat2 (endS cl cl_in)
structure ActOut (B : Nat) (f : Cf) (L O I : List Sn) (F : List Nat) (w w' : World) (A1 : Option Addr) (c1 : Nat) (A2 : Option Addr) (c2 : Nat) (F' : List Nat) : Prop where
 st : St w' B f L F'
 t : Tn F F' w w'
 lo : Ls w' A1 c1 O
 li : Ls w' A2 c2 I
 no : O ≠ [] → ∀ a, A1 = some a → w.heap.size ≤ a.block ∧ a.block ∉ F'
 ni : I ≠ [] → ∀ a, A2 = some a → w.heap.size ≤ a.block ∧ a.block ∉ F'
def ActPost (B : Nat) (f : Cf) (L O I : List Sn) (F : List Nat) (E : Int) (w : World) (e : Ending) (w' : World) : Prop :=
 ∃ A1 c1 A2 c2 F', e = .returned (.tuple #[.agg #[.slice A1 O.length c1, .slice A2 I.length c2], .int .i64 E]) ∧ ActOut B f L O I F w w' A1 c1 A2 c2 F'
def putL (f : Cf) (L l : List Sn) : List Sn := if canE f L l = 0 then setOf (L ++ l) else L
def putO (f : Cf) (L l : List Sn) : List Sn := if canE f L l = 0 then dO L (setOf l) else []
def putI (f : Cf) (L l : List Sn) : List Sn := if canE f L l = 0 then dI L (setOf l) else []
def pus (L D : List Sn) (k : Nat) : List Sn := (D.take k).foldl (fun N x => ins x N) L
theorem pus_succ {L D : List Sn} {k : Nat} (hk : k < D.length) : pus L D (k + 1) = ins D[k] (pus L D k) := by
 unfold pus; rw [List.take_succ_eq_append_getElem hk, List.foldl_append]; rfl
theorem pus_srs {L D : List Sn} (hs : Srs L) (k : Nat) : Srs (pus L D k) := foldl_ins_srs hs
theorem pus_ok {L D : List Sn} (hL : ∀ x ∈ L, x.ok) (hD : ∀ x ∈ D, x.ok) (hs : Srs L) : ∀ k, k ≤ D.length → ∀ x ∈ pus L D k, x.ok := by
 intro k
 induction k with
 | zero => intro _ x hx; exact hL x hx
 | succ k ih =>
  intro hk x hx
  rw [pus_succ (by omega), ins_mem (pus_srs hs k)] at hx
  rcases hx with rfl | ⟨hx, -⟩
  ·exact hD _ (List.getElem_mem _)
  ·exact ih (by omega) x hx
theorem pus_len {L D : List Sn} (hs : Srs L) : ∀ k, k ≤ D.length → (pus L D k).length ≤ L.length + k := by
 intro k
 induction k with
 | zero => intro _; exact Nat.le_refl _
 | succ k ih => intro hk; rw [pus_succ (by omega)]; have := ins_len D[k] (pus_srs (D := D) hs k); have := ih (by omega); omega
theorem Ls.frA {S : Nat → Prop} {w w' : World} {A : Option Addr} {c : Nat} {L : List Sn} (h : Ls w A c L) (hf : Fr S w w') (hs : L ≠ [] → ∀ a, A = some a → ¬ S a.block) : Ls w' A c L := by
 refine ⟨?_, h.ok⟩
 by_cases hX : L = []
 ·subst hX
  obtain ⟨h1, h2, h3, h4, h5⟩ := h.s
  exact ⟨h1, h2, h3, h4, fun h => absurd rfl h⟩
 ·exact h.s.fr hf (hs hX)
theorem Put (B : Nat) (f : Cf) (L : List Sn) (F : List Nat) (A : Option Addr) (c : Nat) (l : List Sn) (w : World) (h : St w B f L F) (hl : Ls w A c l) (ha : Apt A l F) (hlen : l.length ≤ 10000) (hL : L.length ≤ 100000) :
  Calls prog 17 #[.pointer (some ⟨B, 0, none⟩), .slice A l.length c] w (ActPost B f (putL f L l) (putO f L l) (putI f L l) F (canE f L l) w) := by
 have hf := Fr.alloc (fun _ => False) w (.cells #[.slice none 0 0, .slice none 0 0] TDl)
 have HB0 := Lib.hid (Bk.new w #[.slice none 0 0, .slice none 0 0] TDl)
 have HC := Lib.hid (Can B f L F A c l (w.alloc (.cells #[.slice none 0 0, .slice none 0 0] TDl)) ⟨h.s.keep hf, h.o, h.k, h.f⟩ (hl.keep hf) hlen hL)
 have HL0 := Lib.hid (hl.keep hf); have HF0 := Lib.hid hf; have HFl := Lib.hid h.lt; have HAp := Lib.hid ha
 have HO := Lib.hid h.o; have HK := Lib.hid h.k; have HI := Lib.hid h.f
 have hz1 : (w.alloc (.cells #[.slice none 0 0, .slice none 0 0] TDl)).heap.size = w.heap.size + 1 := by simp
 obtain ⟨E, hE⟩ : ∃ E, canE f L l = E := ⟨_, rfl⟩
 obtain ⟨RL, hRL⟩ : ∃ E, putL f L l = E := ⟨_, rfl⟩
 obtain ⟨RO, hRO⟩ : ∃ E, putO f L l = E := ⟨_, rfl⟩
 obtain ⟨RI, hRI⟩ : ∃ E, putI f L l = E := ⟨_, rfl⟩
 rw [hE, hRL, hRO, hRI]
 rw [hE] at HC
 have HE := Lib.hid hE
 have HRL : Hid ((if E = 0 then setOf (L ++ l) else L) = RL) := by show _ = _; rw [← hRL, ← hE]; rfl
 have HRO : Hid ((if E = 0 then dO L (setOf l) else []) = RO) := by show _ = _; rw [← hRO, ← hE]; rfl
 have HRI : Hid ((if E = 0 then dI L (setOf l) else []) = RI) := by show _ = _; rw [← hRI, ← hE]; rfl
 clear h hl ha hf hE hRL hRO hRI
 go_enter func17, ntmps17
 go_wp2_with fail
 obtain ⟨N0, hN0⟩ : ∃ b, w.heap.size = b := ⟨_, rfl⟩
 have HN0 := Lib.hid hN0
 rw [hN0] at HB0 hz1
 (try rw [hN0])
 clear hN0
 generalize (w.alloc (.cells #[.slice none 0 0, .slice none 0 0] TDl)) = w1 at *
 refine HC.out.mono ?_
 rintro e w2 ⟨rfl, hst2, ht2⟩
 have HSt2 := Lib.hid hst2
 have HT2 := Lib.hid ((Tn.of_fr HF0.out HFl.out).trans ht2)
 have HL2 := Lib.hid (Ls.frA HL0.out ht2.fr HAp.out)
 have HB2 := Lib.hid (HB0.out.fr ht2.fr (fun b hb hm => by simp at hb; subst hb; have := HFl.out _ hm; have := HN0.out; omega))
 clear hst2 ht2 HC HL0 HB0 HF0
 cases hm : (E != 0) with
 | true =>
  have hne : E ≠ 0 := by simpa using hm
  rw [if_neg hne] at HRL HRO HRI
  obtain rfl := HRL.out
  obtain rfl := HRO.out
  obtain rfl := HRI.out
  clear HRL HRO HRI
  have r0 : w2.cell? ⟨N0, 0, none⟩ = some (.slice none 0 0) := HB2.out.cell 0
  have r1 : w2.cell? ⟨N0, 1, none⟩ = some (.slice none 0 0) := HB2.out.cell 1
  have g0 := HB2.out.free 0
  have g1 := HB2.out.free 1
  have hf3 : Fr (· = N0) w2 ((w2.setCell ⟨N0, 0, none⟩ (.slice none 0 0)).setCell ⟨N0, 1, none⟩ (.slice none 0 0)) := (Fr.setCell w2 ⟨N0, 0, none⟩ _ (S := (· = N0)) rfl).trans (Fr.setCell _ ⟨N0, 1, none⟩ _ (S := (· = N0)) rfl) (fun _ _ h => h) (fun _ _ h => h)
  have HR0 : Hid (Bk ((w2.setCell ⟨N0, 0, none⟩ (.slice none 0 0)).setCell ⟨N0, 1, none⟩ (.slice none 0 0)) N0 #[.slice none 0 0, .slice none 0 0] TDl) := (HB2.out.set 0 _).set 1 _
  have HP : Hid (ActPost B f L [] [] F E w (.returned (.tuple #[.agg #[.slice none 0 0, .slice none 0 0], .int .i64 E])) ((w2.setCell ⟨N0, 0, none⟩ (.slice none 0 0)).setCell ⟨N0, 1, none⟩ (.slice none 0 0))) := by
   have hs3 : SB ((w2.setCell ⟨N0, 0, none⟩ (.slice none 0 0)).setCell ⟨N0, 1, none⟩ (.slice none 0 0)) B f L (ens L) (Sto.cts L) F := HSt2.out.s.fr hf3 (fun x hx e => by have := HFl.out _ hx; have := HN0.out; omega)
   exact ⟨none, 0, none, 0, F, rfl, ⟨hs3, HO.out, HK.out, HI.out⟩, ⟨HT2.out.fr.trans hf3 (fun _ _ h => h) (fun i hi e => by have := HN0.out; omega), fun x hx => ⟨.inl hx, hs3.lt x hx⟩⟩, Ls.nil _, Ls.nil _, fun _ a ha => (by cases ha), fun _ a ha => (by cases ha)⟩
  clear hf3
  go_wp2_with fail
  exact bodyPost_ret (results_row_slot (p := 4) (q := 5) rfl _ _ N0 TDl _ _ _ rfl rfl HR0.out underlying35 rfl (by kernel_rfl)) rfl HP.out
 | false =>
  obtain rfl : E = 0 := by simpa using hm
  rw [if_pos rfl] at HRL HRO HRI
  obtain rfl := HRL.out
  obtain rfl := HRO.out
  obtain rfl := HRI.out
  clear HRL HRO HRI hm
  have HOk : Hid (QuotaP.okM (max f.sp 0) (max f.tr 0) ((frs L (setOf l)).map Sn.t) (Sto.cts L) = true) := by
   have := HE.out
   unfold canE at this
   show _ = _
   split at this
   ·rename_i h; rw [this] at h; simp at h
   ·split at this
    ·assumption
    ·cases this
  have HNx : Hid ((dI L (setOf l)).foldl (fun N x => ins x N) L = setOf (L ++ l)) := by
   show _ = _
   rw [next_eq HO.out (setOf_ok l), setOf_app_r]
  have HCt : Hid (QuotaP.addM ((frs L (setOf l)).map Sn.t) (Sto.cts L) = Sto.cts (setOf (L ++ l))) := by
   show _ = _
   rw [cts_next HO.out (setOf_ok l), setOf_app_r]
  have HOkN := Lib.hid (setOf_ok (L ++ l))
  go_wp2_with fail
  refine (becomes B f L _ _ F A c l w2 HSt2.out.s HK.out HL2.out (by omega)).mono ?_
  rintro e w3 ⟨A1, c1, A2, c2, A3, c3, rfl, l1, l2, l3, hb, n1, n2, n3⟩
  have hfr := frs_len L (setOf l)
  have hdi := dI_len L (setOf l)
  have hsl := setOf_len l
  generalize setOf (L ++ l) = NX at *
  generalize frs L (setOf l) = X at *
  generalize dO L (setOf l) = XO at *
  generalize dI L (setOf l) = XI at *
  have hfb := Fr.of_below' hb (fun _ => False)
  have hfa := Fr.alloc (fun _ => False) w3 (.cells #[.slice A1 XO.length c1, .slice A2 XI.length c2] TDl)
  have hf4 := hfb.trans hfa (T := fun _ => False) (fun _ _ h => h) (fun _ _ h => h)
  have HT4 := Lib.hid (HT2.out.trans (Tn.of_fr hf4 HSt2.out.lt))
  have HL1 := Lib.hid (l1.keep hfa); have HLi := Lib.hid (l2.keep hfa); have HL3 := Lib.hid (l3.keep hfa)
  have HB4 := Lib.hid (HB2.out.fr hf4 (fun _ _ h => h)); have HBd := Lib.hid (Bk.new w3 #[.slice A1 XO.length c1, .slice A2 XI.length c2] TDl)
  have hz2 := HT2.out.fr.size
  have hz3 := hfb.size
  have HN1 : Hid (∀ a, A1 = some a → w.heap.size + 1 ≤ a.block) := fun a ha => by have := n1 a ha; have hq := HB2.out; have := lt_of_heap hq; have := HN0.out; omega
  have HN2 : Hid (∀ a, A2 = some a → w.heap.size + 1 ≤ a.block) := fun a ha => by have := n2 a ha; have hq := HB2.out; have := lt_of_heap hq; have := HN0.out; omega
  have HN3 : Hid (∀ a, A3 = some a → w.heap.size ≤ a.block) := fun a ha => by have := n3 a ha; omega
  obtain ⟨cc, r, F1, FE, q, rq, hst, hFe⟩ := HSt2.out.s.keep hf4
  have HFe := Lib.hid hFe
  have c11 := hst.cell hst.c11
  have hap : Apt A3 X (flS F1 FE q rq) := fun _ a ha hm => by
   have := HFl.out a.block (by rw [hFe]; exact hm); have := HN3.out a ha; omega
  have hsum := cts_sum L
  have HA := Lib.hid (hst.addQ HL3.out hap (by rw [hsum]; omega))
  rw [show QuotaP.addA (max f.sp 0) (max f.tr 0) (X.map Sn.t) (Sto.cts L) = QuotaP.addM (X.map Sn.t) (Sto.cts L) from by unfold QuotaP.addA; rw [HOk.out]; rfl, HCt.out] at HA
  obtain ⟨Bd, hBd⟩ : ∃ b, w3.heap.size = b := ⟨_, rfl⟩
  have HBdn : Hid (w.heap.size ≤ Bd ∧ Bd ≠ N0) := by
   have hq := HB2.out; have := lt_of_heap hq; have := HN0.out
   exact ⟨by omega, by omega⟩
  rw [hBd] at HBd
  clear hFe hst hap hfb hfa hf4 l1 l2 l3 hb n1 n2 n3 HSt2 HB2 HT2 HL2 hz2 hz3
  go_upto_region 5 with (fail)
  (try rw [hBd])
  clear hBd
  generalize (w3.alloc (.cells #[.slice A1 XO.length c1, .slice A2 XI.length c2] TDl)) = w4 at *
  go_wp2_with fail
  refine HA.out.mono ?_
  rintro e w5 ⟨rfl, hs5, ht5⟩
  have HS5 : Hid (SB w5 B f (pus L XI 0) (ens (pus L XI 0)) (Sto.cts NX) F) := ⟨_, _, _, _, _, _, hs5, HFe.out⟩
  have HT5f : Hid (Tn F F w4 w5) := by show Tn F F w4 w5; rw [HFe.out]; exact ht5
  have HT5 := Lib.hid (HT4.out.trans HT5f.out)
  have nF : Hid (∀ b, w.heap.size ≤ b → b ∉ F) := fun b hb hm => by have := HFl.out b hm; omega
  have HLi5 := Lib.hid (Ls.frA HLi.out HT5f.out.fr (fun _ a ha => nF.out _ (by have := HN2.out a ha; omega)))
  have HLo5 := Lib.hid (Ls.frA HL1.out HT5f.out.fr (fun _ a ha => nF.out _ (by have := HN1.out a ha; omega)))
  have HBd5 := Lib.hid (HBd.out.fr HT5f.out.fr (fun b hb => by simp at hb; subst hb; exact nF.out _ HBdn.out.1))
  have HB5 := Lib.hid (HB4.out.fr HT5f.out.fr (fun b hb => by simp at hb; subst hb; exact nF.out _ (by have := HN0.out; omega)))
  have hlt5 := HS5.out.lt
  clear hs5 ht5 HA c11 HLi HL1 HL3 HBd HB4 HT5f
  have e1 : w5.cell? ⟨Bd, 1, none⟩ = some (.slice A2 XI.length c2) := HBd5.out.cell 1
  go_wp2_with fail
  go_loopg [33] XI.length (fun gk i wr => ∃ (k : Nat) (Fk : List Nat), i = .int .i64 k ∧ k ≤ XI.length ∧ gk = XI.length - k ∧ SB wr B f (pus L XI k) (ens (pus L XI k)) (Sto.cts NX) Fk ∧ Tn F Fk w5 wr)
  case atStart => exact ⟨0, F, rfl, Nat.zero_le _, rfl, HS5.out, Tn.refl hlt5⟩
  case round =>
   clear HS5 e1
   obtain ⟨k, Fk, rfl, hk, hg, hs, ht⟩ := hrel
   obtain ⟨wo, hwo⟩ : ∃ wo, wo = wr := ⟨_, rfl⟩
   subst hwo
   have HG := Lib.hid hg; have HS := Lib.hid hs; have HT := Lib.hid ht
   clear hg hs ht
   by_cases hlt : k < XI.length
   ·have hlo : Ls wo A2 c2 XI := Ls.frA HLi5.out HT.out.fr (fun _ a ha => nF.out _ (by have := HN2.out a ha; omega))
    obtain ⟨b1, o1, rfl, hb1, c1'⟩ := hlo.s.at hlt (by omega)
    have HY := Lib.hid (At.row c1' hlt)
    have hyo := hlo.ok _ (List.getElem_mem hlt)
    have HPs := Lib.hid (pus_succ (L := L) hlt)
    have hpl := pus_len HO.out.srs k hk (D := XI)
    have HPk := Lib.hid (pus_ok HK.out hlo.ok HO.out.srs k hk)
    have hfx := Fr.alloc (fun _ => False) wo (.cells (scs XI[k]).toArray TSn)
    have q1 : (0 : Int) ≤ (k : Int) := by omega
    have q2 : decide ((k : Int) < (XI.length : Int)) = true := by simp; omega
    have q3 : (k : Int) < (XI.length : Int) := by omega
    clear c1' hlo hb1
    generalize XI[k] = y at *
    have HX := Lib.hid (At.box (Bk.new wo y.arr TSn))
    have HSx := Lib.hid (HS.out.keep hfx)
    have HTx := Lib.hid (HT.out.trans (Tn.of_fr hfx HS.out.lt))
    clear hfx
    obtain ⟨yc0, yc1, yc2, yc3, yc4, yc5, yc6, yc7, yc8⟩ := SetW.at9 HY.out
    go_upto_region 9 with (fail)
    generalize wo.heap.size = Bx at *
    clear yc0 yc1 yc2 yc3 yc4 yc5 yc6 yc7 yc8 HY HT HS
    generalize (wo.alloc (.cells y.arr TSn)) = w6 at *
    have yc0 : w6.cell? ⟨Bx, 0, none⟩ = some (.int .i64 y.t) := by have := HX.out 0 _ rfl; simpa using this
    have yc1 : w6.cell? ⟨Bx, 1, none⟩ = some (.int .i64 y.i) := by have := HX.out 1 _ rfl; simpa using this
    have yc2 : w6.cell? ⟨Bx, 2, none⟩ = some (.int .i64 y.p) := by have := HX.out 2 _ rfl; simpa using this
    have yc3 : w6.cell? ⟨Bx, 3, none⟩ = some (.int .i64 y.r) := by have := HX.out 3 _ rfl; simpa using this
    have yc4 : w6.cell? ⟨Bx, 4, none⟩ = some (.string y.s) := by have := HX.out 4 _ rfl; simpa using this
    have yc5 : w6.cell? ⟨Bx, 5, none⟩ = some (.string y.o) := by have := HX.out 5 _ rfl; simpa using this
    have yc6 : w6.cell? ⟨Bx, 6, none⟩ = some (.int .i64 y.b) := by have := HX.out 6 _ rfl; simpa using this
    have yc7 : w6.cell? ⟨Bx, 7, none⟩ = some (.int .i64 y.d) := by have := HX.out 7 _ rfl; simpa using this
    have yc8 : w6.cell? ⟨Bx, 8, none⟩ = some (.bool y.g) := by have := HX.out 8 _ rfl; simpa using this
    go_wp2_with fail
    refine (put B f _ _ _ Fk y w6 HSx.out (pus_srs HO.out.srs k) HPk.out hyo (by omega) (by rw [len_mp]; omega)).mono ?_
    rintro e w7 ⟨rfl, F7, hs7, ht7⟩
    rw [ins_mp (f := endS) (pus_srs HO.out.srs k) (gk_ok hyo) (fun z hz => gk_ok (HPk.out z hz)), ← HPs.out] at hs7
    have HS7 := Lib.hid hs7; have HT7 := Lib.hid (HTx.out.trans ht7)
    clear hs7 ht7 HX HSx HTx yc0 yc1 yc2 yc3 yc4 yc5 yc6 yc7 yc8
    go_wp2_with fail
    go_roundg (XI.length - (k + 1))
    case rel => exact ⟨k + 1, F7, by go_num, by omega, rfl, HS7.out, HT7.out⟩
    case measure => have := HG.out; omega
   ·obtain rfl : k = XI.length := by omega
    have q2 : decide ((XI.length : Int) < (XI.length : Int)) = false := by simp
    have hs := HS.out
    rw [show pus L XI XI.length = NX from by unfold pus; rw [List.take_length]; exact HNx.out] at hs
    have hNk : ∀ x ∈ NX, x.ok := by
     have := pus_ok HK.out HLi5.out.ok HO.out.srs XI.length (Nat.le_refl _)
     rwa [show pus L XI XI.length = NX from by unfold pus; rw [List.take_length]; exact HNx.out] at this
    have hbd := HBd5.out.fr HT.out.fr (fun b hb => by simp at hb; subst hb; exact nF.out _ HBdn.out.1)
    have hb0 := HB5.out.fr HT.out.fr (fun b hb => by simp at hb; subst hb; exact nF.out _ (by have := HN0.out; omega))
    have hlo := Ls.frA HLo5.out HT.out.fr (fun _ a ha => nF.out _ (by have := HN1.out a ha; omega))
    have hli := Ls.frA HLi5.out HT.out.fr (fun _ a ha => nF.out _ (by have := HN2.out a ha; omega))
    have e0 : wo.cell? ⟨Bd, 0, none⟩ = some (.slice A1 XO.length c1) := hbd.cell 0
    have e1 : wo.cell? ⟨Bd, 1, none⟩ = some (.slice A2 XI.length c2) := hbd.cell 1
    have r0 : wo.cell? ⟨N0, 0, none⟩ = some (.slice none 0 0) := hb0.cell 0
    have r1 : wo.cell? ⟨N0, 1, none⟩ = some (.slice none 0 0) := hb0.cell 1
    have g0 := hb0.free 0
    have g1 := hb0.free 1
    have hf3 : Fr (· = N0) wo ((wo.setCell ⟨N0, 0, none⟩ (.slice A1 XO.length c1)).setCell ⟨N0, 1, none⟩ (.slice A2 XI.length c2)) := (Fr.setCell wo ⟨N0, 0, none⟩ _ (S := (· = N0)) rfl).trans (Fr.setCell _ ⟨N0, 1, none⟩ _ (S := (· = N0)) rfl) (fun _ _ h => h) (fun _ _ h => h)
    have HR0 : Hid (Bk ((wo.setCell ⟨N0, 0, none⟩ (.slice A1 XO.length c1)).setCell ⟨N0, 1, none⟩ (.slice A2 XI.length c2)) N0 #[.slice A1 XO.length c1, .slice A2 XI.length c2] TDl) := (hb0.set 0 _).set 1 _
    have nk : ∀ b, w.heap.size ≤ b → b < w5.heap.size → b ∉ Fk := fun b hb1 hb2 hm => by
     rcases (HT.out.sub b hm).1 with e | e
     ·exact nF.out b hb1 e
     ·omega
    have hN05 := lt_of_heap HB5.out
    have blt : ∀ {A : Option Addr} {c : Nat} {X : List Sn}, Ls w5 A c X → ∀ a, A = some a → w.heap.size ≤ a.block → X ≠ [] → a.block ∉ Fk := fun hX a ha h1 hne => nk _ h1 (hX.s.lt (fun e => hne (by have := hX.s.1; rw [e] at this; simp at this; exact List.length_eq_zero_iff.1 (by omega))) a ha)
    have hs3 : SB ((wo.setCell ⟨N0, 0, none⟩ (.slice A1 XO.length c1)).setCell ⟨N0, 1, none⟩ (.slice A2 XI.length c2)) B f NX (ens NX) (Sto.cts NX) Fk := hs.fr hf3 (fun x hx e => nk N0 (by have := HN0.out; omega) hN05 (by rw [← (show x = N0 from e)]; exact hx))
    have ht3 : Tn F Fk w ((wo.setCell ⟨N0, 0, none⟩ (.slice A1 XO.length c1)).setCell ⟨N0, 1, none⟩ (.slice A2 XI.length c2)) := by
     have hh := HT5.out.trans HT.out
     exact ⟨hh.fr.trans hf3 (fun _ _ h => h) (fun i hi e => by have := HN0.out; omega), fun x hx => ⟨(hh.sub x hx).1, hs3.lt x hx⟩⟩
    have HP : Hid (ActPost B f NX XO XI F 0 w (.returned (.tuple #[.agg #[.slice A1 XO.length c1, .slice A2 XI.length c2], .int .i64 0])) ((wo.setCell ⟨N0, 0, none⟩ (.slice A1 XO.length c1)).setCell ⟨N0, 1, none⟩ (.slice A2 XI.length c2))) := by
     refine ⟨A1, c1, A2, c2, Fk, rfl, ⟨hs3, HOkN.out, hNk, HI.out⟩, ht3, Ls.frA hlo hf3 (fun _ a ha e => by have := HN1.out a ha; have := HN0.out; omega), Ls.frA hli hf3 (fun _ a ha e => by have := HN2.out a ha; have := HN0.out; omega), ?_, ?_⟩
     ·intro hne a ha
      have h1 := HN1.out a ha
      exact ⟨by omega, blt HLo5.out a ha (by omega) hne⟩
     ·intro hne a ha
      have h1 := HN2.out a ha
      exact ⟨by omega, blt HLi5.out a ha (by omega) hne⟩
    clear hs hbd hb0 hlo hli hf3 nk blt hs3 ht3 HLi5 HLo5 HBd5 HB5
    go_wp2_with fail
    exact bodyPost_ret (results_row_slot (p := 4) (q := 5) rfl _ _ N0 TDl _ _ _ rfl rfl HR0.out underlying35 rfl (by kernel_rfl)) rfl HP.out
end Sto
set_option maxRecDepth 100000
set_option maxHeartbeats 2000000
open Go.RowKit Go.Shelf
attribute [local go_sem] Oper.semAt_some
namespace Sto
open Name KeyP PackP SetP SetW SetF Delta Comp BagP
open Sat2 (endS cl cl_in)
abbrev TPm : TypeId := 155
abbrev TFn : TypeId := 145
def AllAt (v : Value) (p : Option Addr) (w : World) : Prop := ∀ W, Below w.heap.size w W → Calls prog 144 #[v] W fun e w' => e = .returned (.func (.func 211) #[] #[.pointer (some ⟨W.heap.size, 0, none⟩)]) ∧ W.alloc (.cells #[.pointer p] TPm) = w'
theorem all_ (B : Nat) (f : Cf) (R : List Sn) (M : List (ByteArray × Int)) (Q : List (Int × Int)) (F : List Nat) (w : World) (h : SB w B f R M Q F) : AllAt (.pointer (some ⟨B, 0, none⟩)) (some ⟨B, 5, none⟩) w := by
 intro W hW
 have HM := Lib.hid (made B f R M Q F W (h.keep (Fr.of_below' hW _)))
 have HA := Lib.hid (AvlSS.All (some ⟨B, 5, none⟩) W)
 clear h hW
 go_enter func144, ntmps144
 go_wp2_with fail
 refine HM.out.mono ?_
 rintro e w1 ⟨rfl, rfl⟩
 go_wp2_with fail
 refine HA.out.mono ?_
 rintro e w1 ⟨rfl, rfl⟩
 go_wp2_with fail
 go_ret
 exact ⟨rfl, rfl⟩
theorem all_no {v : Value} {w : World} (h : NoS v w) : AllAt v none w := by
 intro W hW
 have HM := Lib.hid (h W hW)
 have HA := Lib.hid (AvlSS.All none W)
 clear h hW
 go_enter func144, ntmps144
 go_wp2_with fail
 refine HM.out.mono ?_
 rintro e w1 ⟨rfl, rfl⟩
 go_wp2_with fail
 refine HA.out.mono ?_
 rintro e w1 ⟨rfl, rfl⟩
 go_wp2_with fail
 go_ret
 exact ⟨rfl, rfl⟩
theorem filt_take {p : Sn → Bool} {L : List Sn} {k : Nat} (hk : k < L.length) : (L.take (k + 1)).filter p = (L.take k).filter p ++ if p L[k] then [L[k]] else [] := by
 rw [List.take_succ_eq_append_getElem hk, List.filter_append, List.filter_cons]; split <;> simp
structure SoI (w W0 : World) (fv : Value) (L : List Sn) (p : Sn → Bool) (m : Nat) (W : World) : Prop where
 c : Coll w.heap.size W0.heap.size (W0.heap.size + 2 + 0) (w.heap.size + 1) TSs TSn 9 w W ((L.take m).filter p).length (((L.take m).filter p).flatMap scs)
 f : Bk W w.heap.size #[fv] TFn
 z : W0.heap.size ≤ W.heap.size
theorem some_ (v : Value) (a : Option Addr) (g : Nat) (lb : Array Value) (p : Sn → Bool) (L : List Sn) (F : List Nat) (w : World) (eg : ∀ args w, (callFunc g args).run prog w = .ok (.enter g args) w) (hal : AllAt v a w) (hM : AvlSS.MapP w a (mp idS L) F) (hF : ∀ b ∈ F, b < w.heap.size) (hok : ∀ x ∈ L, x.ok) (sz : L.length ≤ 1000000) (hp : Sli.Pred g lb p L w) :
  Calls prog 83 #[v, .func (.func g) #[] lb] w (LsPost (L.filter p) w) := by
 obtain ⟨i0, hi, hz0, hz1_, hz2⟩ := info_parts infoS
 have HAl := Lib.hid hal; have HPr := Lib.hid hp; have HOk := Lib.hid hok
 clear hal hp hok
 refine (callsIn_wide (n := 3)).1 ?_
 refine callsIn_of_wp_marks func83 rfl trivial ?_ rfl
 simp only [ntmps83, List.size_toArray, List.length_cons, List.length_nil, Nat.reduceAdd, Nat.reduceSub, Array.replicate_succ, Array.replicate_zero, List.push_toArray, List.append_toArray, List.nil_append, List.cons_append]
 refine wpIn_wide.2 ?_
 go_wp2_with fail
 refine (HAl.out ((w.alloc (.cells #[.func (.func g) #[] lb] TFn)).alloc (.cells #[.slice none 0 0] TSs)) (((Below.refl _ w).alloc (Nat.le_refl _) _).alloc (by simp) _)).mono ?_
 rintro e w1 ⟨rfl, rfl⟩
 go_wp2_with fail
 have fa := fun (w : World) (o : Obj) => Fr.alloc (fun _ => False) w o
 have nn : ∀ G : List Nat, ∀ b ∈ G, ¬ False := fun _ _ _ h => h
 have hs0 : (((w.alloc (.cells #[.func (.func g) #[] lb] TFn)).alloc (.cells #[.slice none 0 0] TSs)).alloc (.cells #[.pointer a] TPm)).heap.size = w.heap.size + 3 := by simp
 have bf : Bk (((w.alloc (.cells #[.func (.func g) #[] lb] TFn)).alloc (.cells #[.slice none 0 0] TSs)).alloc (.cells #[.pointer a] TPm)) w.heap.size #[.func (.func g) #[] lb] TFn := ((Bk.new w _ _).fr (fa _ _) (nn _)).fr (fa _ _) (nn _)
 have bo : Bk (((w.alloc (.cells #[.func (.func g) #[] lb] TFn)).alloc (.cells #[.slice none 0 0] TSs)).alloc (.cells #[.pointer a] TPm)) (w.heap.size + 1) #[.slice none 0 0] TSs := by
  have := (Bk.new (w.alloc (.cells #[.func (.func g) #[] lb] TFn)) #[.slice none 0 0] TSs).fr (fa _ (.cells #[.pointer a] TPm)) (nn _)
  rwa [World.size_alloc] at this
 have hcc : (((w.alloc (.cells #[.func (.func g) #[] lb] TFn)).alloc (.cells #[.slice none 0 0] TSs)).alloc (.cells #[.pointer a] TPm)).cell? ⟨w.heap.size + 1 + 1, 0, none⟩ = some (.pointer a) := by
  have := (Bk.new ((w.alloc (.cells #[.func (.func g) #[] lb] TFn)).alloc (.cells #[.slice none 0 0] TSs)) #[.pointer a] TPm).cell 0
  rwa [World.size_alloc, World.size_alloc] at this
 have hb0 : Below w.heap.size w (((w.alloc (.cells #[.func (.func g) #[] lb] TFn)).alloc (.cells #[.slice none 0 0] TSs)).alloc (.cells #[.pointer a] TPm)) := (((Below.refl _ w).alloc (Nat.le_refl _) _).alloc (by simp) _).alloc (by simp; omega) _
 have hM0 := hM.below hb0
 generalize (((w.alloc (.cells #[.func (.func g) #[] lb] TFn)).alloc (.cells #[.slice none 0 0] TSs)).alloc (.cells #[.pointer a] TPm)) = W0 at *
 have HS0 := Lib.hid hs0
 have HB0 := Lib.hid hb0
 have n0 : w.heap.size + 1 + 1 < W0.heap.size := by omega
 clear hs0 fa hM HAl hb0 nn
 refine (wpIn_wide (n := 3)).1 ?_
 refine range_B (n := 3) (a₁ := ?fr) (gf := 211) (lb := #[.pointer (some ⟨w.heap.size + 1 + 1, 0, none⟩)]) rfl (enters_of func211 (by kernel_rfl) rfl)
  (AvlSS.All_seq F (w.heap.size + 1 + 1) a (mp idS L) F W0 hcc n0 hM0 (fun _ h => h)) (fun b hb => by have := hF b hb; have := HS0.out; omega) (fun _ => rfl)
  (fun (pre : List (ByteArray × Sn)) (W : World) => SoI w W0 (.func (.func g) #[] lb) L p pre.length W)
  (fun k (pre : List (ByteArray × Sn)) (W : World) => False)
  (fun pre A C h hf => ⟨h.c.abide hf (by omega) (fun h => by have := h.1; omega) (by have := h.z; omega), h.f.fr hf (fun b hb e => by simp at hb; subst hb; have := e.1; omega), Nat.le_trans h.z hf.size⟩)
  (fun k pre A C h hf => h)
  ⟨Coll.start bo HB0.out, bf, Nat.le_refl _⟩ (fun x => x.2.arr) TSn (fun pre W o h hsz => ⟨h.c.alloc o (by have := h.z; omega), h.f.fr (Fr.alloc (fun _ => False) W o) (fun _ _ h => h), by simp; have := h.z; omega⟩) ?assign ?body ?done ?stop
 case assign =>
  intro l m x W b K hb hK
  gi_wp2_with fail
  exact hK
 case body =>
  rintro l m pre x b W hI hbk hbb hsz hpre rfl ⟨r, hl⟩ hd
  (try dsimp only)
  have hlt : pre.length < L.length := by have := hpre.length_le; rw [List.length_append, List.length_singleton, List.length_map] at this; omega
  have hx : x = (kk L[pre.length], L[pre.length]) := by
   obtain ⟨t, ht⟩ := hpre
   have h1 : (mp idS L)[pre.length]? = some x := by rw [← ht]; simp
   rw [List.getElem?_map, List.getElem?_eq_getElem hlt] at h1
   simpa using h1.symm
  subst hx
  have HTk := Lib.hid (filt_take (p := p) hlt)
  have hym := List.getElem_mem hlt
  have HCl := Lib.hid (fun W1 (hf : Fr (fun _ => False) w W1) => HPr.out W1 hf _ hym)
  generalize L[pre.length] = y at *
  have HI := Lib.hid hI
  have hfw : Fr (fun _ => False) w W := by
   obtain ⟨v', -, -, h3, -⟩ := hI.c
   exact Fr.of_below' h3 _
  have HC := Lib.hid (HCl.out W hfw)
  have HBk := Lib.hid hbk
  have cf : W.cell? ⟨w.heap.size, 0, none⟩ = some (.func (.func g) #[] lb) := hI.f.cell 0
  have HL := Lib.hid hl; have HD := Lib.hid hd; have HSz := Lib.hid hsz; have HZ0 := Lib.hid hI.z
  have c0 : W.cell? ⟨b, 0, none⟩ = some (.int .i64 y.t) := hbk.cell 0
  have c1 : W.cell? ⟨b, 1, none⟩ = some (.int .i64 y.i) := hbk.cell 1
  have c2 : W.cell? ⟨b, 2, none⟩ = some (.int .i64 y.p) := hbk.cell 2
  have c3 : W.cell? ⟨b, 3, none⟩ = some (.int .i64 y.r) := hbk.cell 3
  have c4 : W.cell? ⟨b, 4, none⟩ = some (.string y.s) := hbk.cell 4
  have c5 : W.cell? ⟨b, 5, none⟩ = some (.string y.o) := hbk.cell 5
  have c6 : W.cell? ⟨b, 6, none⟩ = some (.int .i64 y.b) := hbk.cell 6
  have c7 : W.cell? ⟨b, 7, none⟩ = some (.int .i64 y.d) := hbk.cell 7
  have c8 : W.cell? ⟨b, 8, none⟩ = some (.bool y.g) := hbk.cell 8
  clear hI hl hd hpre hbk HCl hfw
  gi_wp2_with fail
  refine ⟨trivial, fun h => (by cases h), CallsIn.inRound _ (callsIn_wide.2 ?_)⟩
  refine HC.out.mono ?_
  rintro e w1 ⟨rfl, hf1⟩
  clear c0 c1 c2 c3 c4 c5 c6 c7 c8 cf HC
  have hlt1 := lt_of_heap HL.out
  have hb1 := HBk.out.fr hf1 (fun _ _ h => h)
  obtain ⟨v', hv, hown, hbel, hout⟩ := HI.out.c
  have hv1 := hv.fr hf1 (fun _ _ h => h)
  have hown1 := ownsRow_fr hown hf1 (fun _ _ h => h)
  have hbel1 := hbel.trans (hf1.below hbel.size (fun _ _ h => h))
  have hl1 := (hf1.block _ (lt_of_heap HL.out) (fun h => h)).trans HL.out
  have hd1 := (hf1.block _ (lt_of_heap HD.out) (fun h => h)).trans HD.out
  have HF1 := Lib.hid hf1; have HFu := Lib.hid (HI.out.f.fr hf1 (fun _ _ h => h))
  have hz1 := hf1.size
  have hq1 := List.length_filter_le p (L.take pre.length)
  have hq2 := List.length_take_le pre.length L
  cases hpy : p y with
  | false =>
   rw [hpy] at HTk
   have HNx : Hid (SoI w W0 (.func (.func g) #[] lb) L p (pre.length + 1) w1) := ⟨by rw [HTk.out]; simpa using ⟨v', hv1, hown1, hbel1, hout⟩, HFu.out, by have := HZ0.out; omega⟩
   clear hb1 hv hown hbel hout hv1 hown1 hbel1 hl1 hd1 hf1
   gi_wp2_with fail
   refine ⟨KeptR.of_fr HF1.out HSz.out (fun _ _ h => h), HF1.out.size, KeptL.of_fr HF1.out (fun b hb => ⟨by have := hF b hb; have := HS0.out; have := HZ0.out; omega, fun h => h⟩), ?_⟩
   show SoI w W0 (.func (.func g) #[] lb) L p (pre ++ [(kk y, y)]).length w1
   rw [List.length_append, List.length_singleton]
   exact HNx.out
  | true =>
   rw [hpy, if_pos rfl] at HTk
   have cv : w1.cell? ⟨w.heap.size + 1, 0, none⟩ = some v' := hv1.cell 0
   have fv := hv1.free 0
   have c0 : w1.cell? ⟨b, 0, none⟩ = some (.int .i64 y.t) := hb1.cell 0
   have c1 : w1.cell? ⟨b, 1, none⟩ = some (.int .i64 y.i) := hb1.cell 1
   have c2 : w1.cell? ⟨b, 2, none⟩ = some (.int .i64 y.p) := hb1.cell 2
   have c3 : w1.cell? ⟨b, 3, none⟩ = some (.int .i64 y.r) := hb1.cell 3
   have c4 : w1.cell? ⟨b, 4, none⟩ = some (.string y.s) := hb1.cell 4
   have c5 : w1.cell? ⟨b, 5, none⟩ = some (.string y.o) := hb1.cell 5
   have c6 : w1.cell? ⟨b, 6, none⟩ = some (.int .i64 y.b) := hb1.cell 6
   have c7 : w1.cell? ⟨b, 7, none⟩ = some (.int .i64 y.d) := hb1.cell 7
   have c8 : w1.cell? ⟨b, 8, none⟩ = some (.bool y.g) := hb1.cell 8
   have hown' := hown1.alloc (.cells y.arr TSn)
   have HV := Lib.hid hv1; have HO := Lib.hid hown1; have HBe := Lib.hid hbel1; have HOut := Lib.hid hout; have HL1 := Lib.hid hl1; have HD1 := Lib.hid hd1
   have hn1 : w.heap.size ≤ w1.heap.size := hbel1.size
   clear hb1 hv hown hbel hout hv1 hown1 hbel1 hl1 hd1 hf1
   gi_wp2_with (gi_at_builtin; refine wpListIn_append_own _ rfl (.tmp 15) (.tmp 17) TSs rfl w.heap.size TSn i0 (.agg #[.int .i64 0, .int .i64 0, .int .i64 0, .int .i64 0, .string ByteArray.empty, .string ByteArray.empty, .int .i64 0, .int .i64 0, .bool false]) 9 88 underlying22 hi hz0 hz1_ hz2 rfl (by decide) _ _ _ rfl hown' ⟨w1.heap.size, 0, none⟩ 1 1 y.cs rfl rfl (new_cells w1 TSn y.cs) (by simp [Value.oneCell']) (by unfold maxLen; omega) (by omega) (by rw [World.size_alloc]; omega) ?_)
   intro v2 w2 hown2 hgrow _
   obtain ⟨g', cap', rfl⟩ := ownsRow_succ hown2
   have hb : ¬ Rg W0.heap.size (W0.heap.size + 2 + 0) (w.heap.size + 1) := fun h => by have := h.1; have := HS0.out; omega
   obtain ⟨k1, k2, k3⟩ := Coll.step HV.out HO.out HBe.out HOut.out (by decide) hn1 (by omega) hb HL1.out HD1.out hown2 hgrow
   have cv1 : w2.cell? ⟨w.heap.size + 1, 0, none⟩ = some v' := k1.cell 0
   have fv1 := k1.free 0
   have K2 := Lib.hid k2; have K3 := Lib.hid k3; have KO := Lib.hid (ownsRow_blk HO.out)
   clear k1 k2 k3 hown2 hgrow hown' cv fv c0 c1 c2 c3 c4 c5 c6 c7 c8
   gi_wp2_with fail
   have hs1 := HS0.out
   have hF3 := HF1.out.trans K3.out (T := fun b => b = w.heap.size + 1 ∨ v'.ownBlock = some b) (fun _ _ h => h.elim) (fun _ _ h => h)
   have hne : ∀ b, v'.ownBlock = some b → b ≠ w.heap.size := fun b hb e => by
    obtain ⟨_, _, c, hc⟩ := ownsRow_blk HO.out b hb
    rw [e, show w1.heap[w.heap.size]? = _ from HFu.out] at hc
    cases hc
   have hZ := HZ0.out
   refine ⟨KeptR.of_fr hF3 HSz.out ?_, hF3.size, KeptL.of_fr hF3 (fun b hb => ⟨by have := hF b hb; omega, ?_⟩), ⟨?_, HFu.out.fr K3.out (fun b hb e => by
    simp at hb; subst hb
    rcases e with e | e
    ·omega
    ·exact hne _ e rfl), by have := hF3.size; omega⟩⟩
   ·rintro b hr (e | e)
    ·exact hb (e ▸ hr)
    ·exact HOut.out b e hr
   ·rintro (e | e)
    ·have := hF b hb; omega
    ·have := (KO.out b e).1; have := hF b hb; omega
   ·rw [List.length_append, List.length_singleton, HTk.out]
    simpa using K2.out
 case done =>
  rintro W hsz hI hK
  rw [List.length_map] at hI
  obtain ⟨v', hv, hown, hbel, hout⟩ := hI.c
  rw [List.take_length] at hown
  have cv : W.cell? ⟨w.heap.size + 1, 0, none⟩ = some v' := hv.cell 0
  have HO := Lib.hid hown; have HBe := Lib.hid hbel; have HOut := Lib.hid hout; have HK := Lib.hid hK
  clear hI hv hown hbel hout hK hM0 hcc bo bf
  obtain ⟨A, cA, rfl, -, -⟩ := Sl.of_own HO.out
  go_wp2_with fail
  try rw [Exit.noGoto_ret]
  refine ⟨by simp, .inl ⟨_, _, rfl, run_takeDeferred HK.out, ?_⟩⟩
  have hs1 := HS0.out
  have hf := Fr.putObj W W0.heap.size (.deferred none) (S := (· = W0.heap.size)) rfl
  have hown2 := ownsRow_fr HO.out hf (fun b hb e => HOut.out b hb ⟨by omega, by omega⟩)
  obtain ⟨A', c', e1, hs2, -⟩ := Sl.of_own hown2
  cases e1
  exact ⟨_, by simp [results, Tryz.results83, go_sem], A, cA, rfl, ⟨hs2, fun x hx => HOk.out x (List.mem_filter.1 hx).1⟩, hown2, HBe.out.trans (hf.below (by omega) (fun k hk e => by omega))⟩
 case stop =>
  rintro k pre W hsz hpre hF hK
  exact hF.elim
end Sto
namespace Sto
open Name KeyP PackP SetP SetW SetF Delta Comp BagP
theorem SB.mapP {w : World} {B : Nat} {f : Cf} {R : List Sn} {M : List (ByteArray × Int)} {Q : List (Int × Int)} {F : List Nat} (h : SB w B f R M Q F) : ∃ F1, AvlSS.MapP w (some ⟨B, 5, none⟩) (mp idS R) F1 ∧ ∀ b ∈ F1, b ∈ F := by
 obtain ⟨c, r, F1, FE, q, rq, h, rfl⟩ := h
 exact ⟨F1, .inr ⟨B, 5, r, rfl, h.cell h.c5, h.m⟩, fun b hb => mem_flS.2 (.inr (.inl hb))⟩
theorem mapP_nil (w : World) : AvlSS.MapP w none (mp idS []) [] := .inl ⟨rfl, rfl, rfl⟩
theorem All1 (x : Sn) (w : World) : Calls prog 84 #[x.v] w fun e w' => e = .returned (.bool ((fun _ => true) x)) ∧ Fr (fun _ => False) w w' := by
 have hf := Fr.alloc (fun _ => False) w (.cells x.arr TSn)
 have HX := Lib.hid (At.box (Bk.new w x.arr TSn))
 have HF := Lib.hid hf
 clear hf
 have xc8 : (w.alloc (.cells x.arr TSn)).cell? ⟨w.heap.size, 8, none⟩ = some (.bool x.g) := HX.out 8 _ rfl
 go_enter func84, ntmps84
 go_wp2_with fail
 go_ret
 exact ⟨rfl, HF.out⟩
theorem All_of (v : Value) (a : Option Addr) (L : List Sn) (F : List Nat) (w : World) (hal : AllAt v a w) (hM : AvlSS.MapP w a (mp idS L) F) (hF : ∀ b ∈ F, b < w.heap.size) (hok : ∀ x ∈ L, x.ok) (sz : L.length ≤ 1000000) :
  Calls prog 20 #[v] w (LsPost (L.filter (fun _ => true)) w) := by
 have HS := Lib.hid (some_ v a 84 #[] (fun _ => true) L F w (enters_of func84 (by kernel_rfl) rfl) hal hM hF hok sz (fun W hW x hx => All1 x W))
 clear hal hM hF hok sz
 generalize L.filter (fun _ => true) = X at *
 go_enter func20, ntmps20
 go_wp2_with fail
 refine HS.out.mono ?_
 rintro e w1 ⟨A, c, rfl, h1, h2, h3⟩
 have H1 := Lib.hid h1; have H2 := Lib.hid h2; have H3 := Lib.hid h3
 clear h1 h2 h3 HS
 go_wp2_with fail
 go_ret
 exact ⟨A, c, rfl, H1.out, H2.out, H3.out⟩
theorem All_no {v : Value} {w : World} (h : NoS v w) : Calls prog 20 #[v] w (LsPost [] w) := All_of v none [] [] w (all_no h) (mapP_nil w) (by simp) (by simp) (by simp)
theorem Live1 (x : Sn) (w : World) : Calls prog 132 #[x.v] w fun e w' => e = .returned (.bool ((fun x => !x.g) x)) ∧ Fr (fun _ => False) w w' := by
 have hf := Fr.alloc (fun _ => False) w (.cells x.arr TSn)
 have HX := Lib.hid (At.box (Bk.new w x.arr TSn))
 have HF := Lib.hid hf
 clear hf
 have xc8 : (w.alloc (.cells x.arr TSn)).cell? ⟨w.heap.size, 8, none⟩ = some (.bool x.g) := HX.out 8 _ rfl
 go_enter func132, ntmps132
 go_wp2_with fail
 go_ret
 exact ⟨rfl, HF.out⟩
theorem Live_of (v : Value) (a : Option Addr) (L : List Sn) (F : List Nat) (w : World) (hal : AllAt v a w) (hM : AvlSS.MapP w a (mp idS L) F) (hF : ∀ b ∈ F, b < w.heap.size) (hok : ∀ x ∈ L, x.ok) (sz : L.length ≤ 1000000) :
  Calls prog 65 #[v] w (LsPost (L.filter (fun x => !x.g)) w) := by
 have HS := Lib.hid (some_ v a 132 #[] (fun x => !x.g) L F w (enters_of func132 (by kernel_rfl) rfl) hal hM hF hok sz (fun W hW x hx => Live1 x W))
 clear hal hM hF hok sz
 generalize L.filter (fun x => !x.g) = X at *
 go_enter func65, ntmps65
 go_wp2_with fail
 refine HS.out.mono ?_
 rintro e w1 ⟨A, c, rfl, h1, h2, h3⟩
 have H1 := Lib.hid h1; have H2 := Lib.hid h2; have H3 := Lib.hid h3
 clear h1 h2 h3 HS
 go_wp2_with fail
 go_ret
 exact ⟨A, c, rfl, H1.out, H2.out, H3.out⟩
theorem All (B : Nat) (f : Cf) (L : List Sn) (F : List Nat) (w : World) (h : St w B f L F) (sz : L.length ≤ 1000000) : Calls prog 20 #[.pointer (some ⟨B, 0, none⟩)] w (LsPost L w) := by
 obtain ⟨F1, h1, h2⟩ := h.s.mapP
 have := All_of _ _ L F1 w (all_ B f _ _ _ F w h.s) h1 (fun b hb => h.lt b (h2 b hb)) h.k sz
 rwa [List.filter_eq_self.2 (fun _ _ => rfl)] at this
theorem Live (B : Nat) (f : Cf) (L : List Sn) (F : List Nat) (w : World) (h : St w B f L F) (sz : L.length ≤ 1000000) : Calls prog 65 #[.pointer (some ⟨B, 0, none⟩)] w (LsPost (L.filter (fun x => !x.g)) w) := by
 obtain ⟨F1, h1, h2⟩ := h.s.mapP
 exact Live_of _ _ L F1 w (all_ B f _ _ _ F w h.s) h1 (fun b hb => h.lt b (h2 b hb)) h.k sz
end Sto
end Go.Proofs.YtdpngmgaomghoaaGreat
