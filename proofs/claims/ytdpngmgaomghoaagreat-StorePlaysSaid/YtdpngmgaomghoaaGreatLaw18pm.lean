/- Layer 18's statements: StorePlays: for every input the answer is true. -/
import Derived.Test.YtdpngmgaomghoaaGreatLaw18p
import Derived.Test.YtdpngmgaomghoaaGreatLaw18r
namespace Go.Proofs.YtdpngmgaomghoaaGreat
open Tryz
set_option maxRecDepth 100000
set_option maxHeartbeats 8000000
open Go.RowKit
namespace Law18
open Name KeyP PackP SetP SetW SetF Delta Sto BagP Ref18
attribute [local go_sem] Eng.ev Eng.getO_cons Eng.getO_nil
theorem plays (f : Cf) (A : Option Addr) (c : Nat) (l : List Ac) (w0 : World) (hS : Sl w0 3 A l.length c (l.flatMap acc)) (hR : ∀ a ∈ l, Rd w0 a) (hf : in64 f.sp ∧ in64 f.tr ∧ in64 f.wi) :
  Calls prog 11 #[.agg (cfc f), .slice A l.length c] w0 fun e w' => e = .returned (.bool true) ∧ Below w0.heap.size w0 w' := by
 have HS := Lib.hid hS; have HR := Lib.hid hR; have HI := Lib.hid hf
 have HB1 := Lib.hid ((Below.refl w0.heap.size w0).alloc (Nat.le_refl _) (.cells (cfc f) TCf)); have HBk := Lib.hid (Bk.new w0 (cfc f) TCf)
 clear hS hR hf
 go_enter func11, ntmps11
 go_upto_region 1 with (fail)
 generalize hg : w0.alloc (.cells (cfc f) TCf) = w1 at *
 clear hg
 go_wp2_with fail
 refine (Few A c l 20 w1 (HS.out.fr (Fr.of_below' HB1.out (fun _ => False)) (fun _ _ h => h)) (fun a ha => (HR.out a ha).below HB1.out) (by omega)).mono ?_
 rintro e w2 ⟨rfl, hf⟩
 have HB2 := Lib.hid (HB1.out.trans (hf.below HB1.out.size (fun _ _ h => h))); have HBk2 := Lib.hid (HBk.out.fr hf (fun _ _ h => h))
 clear hf HB1 HBk
 cases hq : fewsB l 20 with
 | false =>
  go_wp2_with fail
  refine (awake w2).mono ?_
  rintro e w3 ⟨rfl, hb⟩
  have HB3 := Lib.hid (HB2.out.trans (hb.mono HB2.out.size))
  clear hb
  go_wp2_with fail
  go_ret
  exact ⟨rfl, HB3.out⟩
 | true =>
  obtain ⟨hl, hla⟩ := few_len hq
  have HLa := Lib.hid hla
  clear hq hla
  go_upto_region 3 with (fail)
  refine pl3 (by kernel_rfl) _ _ w0 w2 w0.heap.size f [] ⟨HBk2.out, HB2.out, by simp⟩ HI.out (by simp) rfl ?_
  intro x w3 B R F h5 h6 hst
  simp only [Eng.setAll, Act.put, List.setIfInBounds_toArray, List.set_cons_succ, List.set_cons_zero]
  rw [h5, h6]
  have HZ3 := Lib.hid ((hst.alloc stz TSt).alloc #[.pointer none, .pointer (some ⟨w3.heap.size, 0, none⟩)] TPSt2)
  rw [World.size_alloc] at HZ3
  clear h5 h6 hst HB2 HBk2
  go_upto_region 5 with (fail)
  obtain ⟨bz, hbz⟩ : ∃ b, w3.heap.size = b := ⟨_, rfl⟩
  rw [hbz] at HZ3 ⊢
  generalize hg : (w3.alloc (.cells stz TSt)).alloc (.cells #[.pointer none, .pointer (some ⟨bz, 0, none⟩)] TPSt2) = w4 at *
  clear hg hbz
  go_wp2_with fail
  go_loopg [8] l.length (fun gk i wr => ∃ (k : Nat) (f' : Cf) (L : List Sn) (F : List Nat) (AM : Option Addr) (cM : Nat), i = .int .i64 k ∧ k ≤ l.length ∧ gk = l.length - k ∧ (f'.sp = f.sp ∧ f'.tr = f.tr) ∧ fits (max f.sp 0) (max f.tr 0) L = true ∧ L.length ≤ 12 * k ∧ AR w0 wr B f' L F R f' L AM cM [(bz + 1, #[.pointer none, .pointer (some ⟨bz, 0, none⟩)], TPSt2), (bz, stz, TSt)] [])
  case atStart => exact ⟨0, f.at mnI, [], F, none, 0, rfl, Nat.zero_le _, rfl, ⟨rfl, rfl⟩, fits_iff.2 (.inl rfl), Nat.le_refl _, HZ3.out⟩
  case round =>
   clear HZ3
   obtain ⟨k, f', L, F, AM, cM, rfl, hk, hg, hc, hft, hLl, hz⟩ := hrel
   have HG := Lib.hid hg; have HC := Lib.hid hc; have HFt := Lib.hid hft; have HZ := Lib.hid hz
   clear hg hc hft hz
   by_cases hlt : k < l.length
   ·have HRk := Lib.hid (HR.out _ (List.getElem_mem hlt))
    have hlk := HLa.out _ (List.getElem_mem hlt)
    obtain ⟨b1, o1, rfl, hb1, a0, a1, a2⟩ := at3 HS.out hlt
    have HAt : Hid (∀ W : World, Below w0.heap.size w0 W → W.cell? ⟨b1, o1 + k * 3, none⟩ = some (.int .i64 l[k].k) ∧ W.cell? ⟨b1, o1 + k * 3 + 1, none⟩ = some (.slice l[k].A l[k].L.length l[k].c) ∧ W.cell? ⟨b1, o1 + k * 3 + 1 + 1, none⟩ = some (.int .i64 l[k].n)) := fun W hW =>
     ⟨(hW.cell (p := ⟨b1, o1 + k * 3, none⟩) hb1).trans a0, (hW.cell (p := ⟨b1, o1 + k * 3 + 1, none⟩) hb1).trans a1, (hW.cell (p := ⟨b1, o1 + k * 3 + 1 + 1, none⟩) hb1).trans a2⟩
    clear hb1 a0 a1 a2
    generalize l[k] = a at *
    have hdl := doL_len f' L a
    have hdc := doF_c f' a
    have HFt2 : Hid (fits (max f.sp 0) (max f.tr 0) (doL f' L a) = true) := by
     have h1 := do_fits (a := a) (f := f') HZ.out.z.s.o (by rw [HC.out.1, HC.out.2]; exact HFt.out)
     rwa [HC.out.1, HC.out.2] at h1
    have HC2 : Hid ((doF f' a).sp = f.sp ∧ (doF f' a).tr = f.tr) := ⟨hdc.1.trans HC.out.1, hdc.2.1.trans HC.out.2⟩
    have HOk := Lib.hid HZ.out.z.s.o
    have HCn : Hid (a.k ≠ 2 → canE f' L a.L = doE f' L a) := fun h => by unfold doE; rw [if_neg h]
    have hol := doO_len (f := f') (a := a) HOk.out; have hil := doI_len (f := f') (a := a) HOk.out
    have HDo := Lib.hid (do_ B f' L F a)
    have HRd := Lib.hid (fun (W : World) (h : RS W R f' L AM cM) (hr : Rd W a) => Ref18.Do a h hr HOk.out (by rw [HC.out.1, HC.out.2]; exact HFt.out) (by omega) (by omega))
    have HCa := Lib.hid (Sto.Can B f' L F a.A a.c a.L)
    have HSr : Hid (Srs (doL f' L a)) := (doL_ok (f := f') (a := a) HOk.out).srs
    clear HOk hdc HC HFt
    generalize canE f' L a.L = Cn at *
    generalize doL f' L a = L2 at *
    generalize doF f' a = f2 at *
    generalize doO f' L a = O2 at *
    generalize doI f' L a = I2 at *
    generalize doE f' L a = E2 at *
    have q1 : (0 : Int) ≤ (k : Int) := by omega
    have q2 : decide ((k : Int) < (l.length : Int)) = true := by simp; omega
    have q3 : wrap64 ((k : Int) + 1) = (k : Int) + 1 := by unfold wrap64; omega
    obtain ⟨a0, a1, a2⟩ := HAt.out wr HZ.out.z.b
    have HCa2 := Lib.hid (HCa.out wr HZ.out.z.s (HRk.out.below HZ.out.z.b).1 (by omega) (by omega))
    clear HCa
    go_wp2_with fail
    refine HCa2.out.mono ?_
    rintro e w5 ⟨rfl, hs, ht⟩
    have HZ5 := Lib.hid (HZ.out.turn hs ht)
    clear hs ht HZ HCa2 a0 a1 a2
    obtain ⟨a0, a1, a2⟩ := HAt.out w5 HZ5.out.z.b
    have HDo2 := Lib.hid (HDo.out w5 HZ5.out.z.s (HRk.out.below HZ5.out.z.b) (HZ5.out.z.apt HRk.out.1) (by omega) (by omega))
    clear HDo
    go_wp2_with fail
    refine HDo2.out.mono ?_
    rintro e w6 ⟨A1, c1, A2, c2, F2, rfl, ho⟩
    have HZ6 := Lib.hid ((HZ5.out.act ho).alloc #[.slice A1 O2.length c1, .slice A2 I2.length c2] TDl)
    clear ho HDo2 HZ5 a0 a1 a2
    go_upto_region 10 with (fail)
    obtain ⟨bd, hbd⟩ : ∃ b, w6.heap.size = b := ⟨_, rfl⟩
    generalize hg : w6.alloc (.cells #[.slice A1 O2.length c1, .slice A2 I2.length c2] TDl) = w7 at *
    clear hg
    rw [hbd] at HZ6 ⊢
    clear hbd
    obtain ⟨a0, a1, a2⟩ := HAt.out w7 HZ6.out.z.b
    have HRd2 := Lib.hid (HRd.out w7 HZ6.out.r (HRk.out.below HZ6.out.z.b))
    clear HRd
    go_wp2_with fail
    refine HRd2.out.mono ?_
    rintro e w8 ⟨A3, c3, A4, c4, AM2, cM2, rfl, hr, h3, h4, hf, hn⟩
    have HZ8 := Lib.hid ((HZ6.out.ref hr hf hn).alloc #[.slice A3 O2.length c3, .slice A4 I2.length c4] TDl)
    have hfa := Fr.alloc (fun _ => False) w8 (.cells #[.slice A3 O2.length c3, .slice A4 I2.length c4] TDl)
    have HRe : Hid (RdD (w8.alloc (.cells #[.slice A3 O2.length c3, .slice A4 I2.length c4] TDl)) ⟨A3, c3, O2, A4, c4, I2⟩) := ⟨h3.keep hfa, h4.keep hfa⟩
    clear hr h3 h4 hf hn HRd2 HZ6 a0 a1 a2 hfa
    go_upto_region 11 with (fail)
    obtain ⟨be, hbe⟩ : ∃ b, w8.heap.size = b := ⟨_, rfl⟩
    generalize hg : w8.alloc (.cells #[.slice A3 O2.length c3, .slice A4 I2.length c4] TDl) = w9 at *
    clear hg
    rw [hbe] at HZ8 ⊢
    clear hbe
    have HPK : Hid (PK w0 w9 B f2 L2 F2 R AM2 cM2 _ bd be A1 A2 A3 A4 c1 c2 c3 c4 O2 I2 b1 (o1 + k * 3) a.k) :=
     ⟨HZ8.out.pickL (K' := []) (by simp), ⟨(HZ8.out.z.k (A1, c1, O2) (by simp)).1, (HZ8.out.z.k (A2, c2, I2) (by simp)).1⟩, HRe.out, (HZ8.out.z.d (bd, #[.slice A1 O2.length c1, .slice A2 I2.length c2], TDl) (by simp)).1.1, (HZ8.out.z.d (be, #[.slice A3 O2.length c3, .slice A4 I2.length c4], TDl) (by simp)).1.1, (HAt.out w9 HZ8.out.z.b).1⟩
    clear HZ8 HRe
    have HPost : Hid (∃ q : Bool, (a.k != 2) = q ∧ (q = true → Cn = E2)) := by
     refine ⟨a.k != 2, rfl, fun h => HCn.out (by simpa using h)⟩
    obtain ⟨q, hq, hqE⟩ := HPost.out
    clear HPost HCn
    have HGo : Hid (∀ (Q : Exit → Act → World → Prop) (a0 : Act), a0.tmps.size = 229 → a0.tmps.getD 1 undef = .slice (some ⟨b1, o1, none⟩) l.length c → a0.tmps.getD 5 undef = .pointer (some ⟨B, 0, none⟩) → a0.tmps.getD 6 undef = .pointer (some ⟨R, 0, none⟩) → a0.tmps.getD 8 undef = .int .i64 k → a0.tmps.getD 9 undef = .int .i64 Cn → a0.tmps.getD 10 undef = .pointer (some ⟨bd, 0, none⟩) → a0.tmps.getD 11 undef = .int .i64 E2 → a0.tmps.getD 12 undef = .pointer (some ⟨be, 0, none⟩) → a0.tmps.getD 13 undef = .int .i64 E2 →
      (∀ (x : Nat → Value) (w' : World), x 146 = .bool false → AR w0 w' B f2 L2 F2 R f2 L2 AM2 cM2 [(bz + 1, #[.pointer none, .pointer (some ⟨bz, 0, none⟩)], TPSt2), (bz, stz, TSt)] [] → Q .normal (Eng.setAll a0 [59, 60, 61, 62, 63, 64, 65, 66, 67, 68, 69, 70, 71, 72, 73, 74, 75, 76, 77, 78, 79, 80, 81, 82, 83, 84, 85, 86, 87, 88, 89, 90, 91, 92, 93, 94, 95, 96, 97, 98, 99, 100, 101, 102, 103, 104, 105, 106, 107, 108, 109, 110, 111, 112, 113, 114, 115, 116, 117, 118, 119, 120, 121, 122, 123, 124, 125, 126, 127, 128, 129, 130, 131, 132, 133, 134, 135, 136, 137, 138, 139, 140, 141, 142, 143, 144, 145, 146] x) w') →
      (Code.region 11 (Eng.fnOps Tryz.f11 11) true).wp prog Q a0 w9) := fun Q a0 n h1 h5 h6 h8 h9 h10 h11 h12 h13 hp => by
     cases hqq : q with
     | false => exact pl11t rfl a0 Q w0 w9 B f2 L2 F2 R AM2 cM2 _ bd be A1 A2 A3 A4 c1 c2 c3 c4 O2 I2 b1 o1 k l.length c a.k E2 HPK.out (by omega) (by omega) (by omega) HSr.out hlt (by omega) (by rw [hq, hqq]) n h1 h5 h6 h8 h10 h11 h12 h13 (fun x w' h z => hp x w' h (z.z.pickD (by simp)))
     | true =>
      rw [hqE hqq] at h9
      exact pl11 rfl a0 Q w0 w9 B f2 L2 F2 R AM2 cM2 _ bd be A1 A2 A3 A4 c1 c2 c3 c4 O2 I2 b1 o1 k l.length c a.k E2 HPK.out (by omega) (by omega) (by omega) HSr.out hlt (by omega) (by rw [hq, hqq]) n h1 h5 h6 h8 h9 h10 h11 h12 h13 (fun x w' h z => hp x w' h (z.z.pickD (by simp)))
    clear hq hqE HPK
    refine HGo.out _ _ (by simp) rfl rfl rfl rfl rfl rfl rfl rfl rfl ?_
    intro x w10 h146 hst
    simp only [Eng.setAll, Act.put, List.setIfInBounds_toArray, List.set_cons_succ, List.set_cons_zero]
    rw [h146]
    obtain ⟨P, hPe⟩ : ∃ P : World → Prop, ∀ W, P W ↔ AR w0 W B f2 L2 F2 R f2 L2 AM2 cM2 [(bz + 1, #[.pointer none, .pointer (some ⟨bz, 0, none⟩)], TPSt2), (bz, stz, TSt)] [] := ⟨_, fun _ => Iff.rfl⟩
    have HZA := Lib.hid ((hPe _).2 hst)
    have HPe := Lib.hid hPe
    have HSy : Hid (Stays P) := fun W W' h hb => (hPe W').2 (((hPe W).1 h).below hb)
    clear h146 hst HGo hPe
    go_wp2_with fail
    go_loopg [14] 2 (fun gk i wr => ∃ j : Nat, i = .int .i64 j ∧ j ≤ 2 ∧ gk = 2 - j ∧ P wr)
    case atStart => exact ⟨0, rfl, by omega, rfl, HZA.out⟩
    case round =>
     clear HZA
     obtain ⟨j, rfl, hj, hg2, hz⟩ := hrel
     have HG2 := Lib.hid hg2; have HP := Lib.hid hz
     clear hg2 hz
     by_cases hlj : j < 2
     ·have r1 : (0 : Int) ≤ (j : Int) := by omega
      have r2 : decide ((j : Int) < 2) = true := by simp; omega
      have r3 : wrap64 ((j : Int) + 1) = (j : Int) + 1 := by unfold wrap64; omega
      obtain ⟨v, hv, hns⟩ : ∃ v : Value, (∀ W, P W → W.cell? ⟨bz + 1, 0 + j, none⟩ = some v) ∧ (∀ W, P W → NoS v W) := by
       have hd := fun (W : World) (h : P W) => (((HPe.out W).1 h).z.d (bz + 1, #[.pointer none, .pointer (some ⟨bz, 0, none⟩)], TPSt2) (by simp)).1.1
       have hz := fun (W : World) (h : P W) => (((HPe.out W).1 h).z.d (bz, stz, TSt) (by simp)).1.1
       rcases (show j = 0 ∨ j = 1 by omega) with rfl | rfl
       ·exact ⟨.pointer none, fun W h => (hd W h).cell 0, fun W _ => NoS.nil W⟩
       ·exact ⟨.pointer (some ⟨bz, 0, none⟩), fun W h => (hd W h).cell 1, fun W h => NoS.zero (hz W h) rfl⟩
      have HSe : Hid (Sees P (bz + 1) 0 j v b1 o1 k a) := fun W hW => ⟨hv W hW, HAt.out W ((HPe.out W).1 hW).z.b⟩
      have HN0 : Hid (N0 P v wr) := ⟨HP.out, hns wr HP.out⟩
      clear hv hns HP
      go_upto_region 16 with (fail)
      refine pl16 (by kernel_rfl) _ _ P HSy.out wr v (bz + 1) 0 j b1 o1 k l.length c a HSe.out hlj hlt (by omega) HN0.out (by simp) rfl rfl rfl rfl ?_
      intro x w11 bg h15 h16 hst
      simp only [Eng.setAll, Act.put, List.setIfInBounds_toArray, List.set_cons_succ, List.set_cons_zero]
      rw [h15, h16]
      have HNK := Lib.hid hst
      clear h15 h16 hst HN0
      go_upto_region 17 with (fail)
      refine pl17 (by kernel_rfl) _ _ P HSy.out w11 v (bz + 1) 0 j b1 o1 k l.length c a HSe.out hlj hlt (by omega) bg HNK.out (by simp) rfl rfl rfl rfl rfl rfl ?_
      intro x w12 h227 hst
      simp only [Eng.setAll, Act.put, List.setIfInBounds_toArray, List.set_cons_succ, List.set_cons_zero]
      rw [h227]
      have HP := Lib.hid hst
      clear h227 hst HNK HSe
      go_wp2_with fail
      go_roundg (2 - (j + 1))
      case rel => exact ⟨j + 1, by go_num, by omega, rfl, HP.out⟩
      case measure => have := HG2.out; omega
     ·obtain rfl : j = 2 := by omega
      have r2 : decide ((2 : Int) < 2) = false := by decide
      have HZB := Lib.hid ((HPe.out wr).1 HP.out)
      clear HP HPe HSy HG2
      go_wp2_with fail
      go_roundg (l.length - (k + 1))
      case rel => exact ⟨k + 1, f2, L2, F2, AM2, cM2, by go_num, by omega, rfl, HC2.out, HFt2.out, by omega, HZB.out⟩
      case measure => have := HG.out; omega
   ·obtain rfl : k = l.length := by omega
    have q2 : decide ((l.length : Int) < (l.length : Int)) = false := by simp
    go_wp2_with fail
    refine (awake wr).mono ?_
    rintro e w3 ⟨rfl, hb⟩
    have HB3 := Lib.hid (HZ.out.z.below hb).b
    clear hb
    go_wp2_with fail
    go_ret
    exact ⟨rfl, HB3.out⟩
end Law18
end Go.Proofs.YtdpngmgaomghoaaGreat
