/- Layer 18's statements: StoreLoads: for every input the answer is true. -/
import Derived.Test.YtdpngmgaomghoaaGreatL18l
namespace Go.Proofs.YtdpngmgaomghoaaGreat
open Go.RowKit
namespace Law18
open Name KeyP PackP SetP SetW SetF Delta Sto BagP Ref18
attribute [local go_sem] Eng.ev Eng.getO_cons Eng.getO_nil
set_option maxRecDepth 100000 in
set_option maxHeartbeats 16000000 in
theorem loads (f : Cf) (x : Ac) (A : Option Addr) (c : Nat) (l : List Ac) (w0 : World) (hx : Rd w0 x) (hS : Sl w0 3 A l.length c (l.flatMap acc)) (hR : ∀ a ∈ l, Rd w0 a) (hf : in64 f.sp ∧ in64 f.tr ∧ in64 f.wi) :
  Calls Tryz.prog 10 #[.agg (cfc f), .agg x.arr, .slice A l.length c] w0 fun e w' => e = .returned (.bool true) ∧ Below w0.heap.size w0 w' := by
 have HS := Lib.hid hS; have HR := Lib.hid hR; have HI := Lib.hid hf; have HXr := Lib.hid hx
 have fa := fun (w : World) (o : Obj) => Fr.alloc (fun _ => False) w o
 have HB1 : Hid (Below w0.heap.size w0 ((w0.alloc (.cells (cfc f) TCf)).alloc (.cells x.arr TAc))) := ((Below.refl w0.heap.size w0).alloc (Nat.le_refl _) _).alloc (by simp) _
 have HBk : Hid (Bk ((w0.alloc (.cells (cfc f) TCf)).alloc (.cells x.arr TAc)) w0.heap.size (cfc f) TCf) := (Bk.new w0 (cfc f) TCf).fr (fa _ _) (fun _ _ h => h)
 have HBx : Hid (Bk ((w0.alloc (.cells (cfc f) TCf)).alloc (.cells x.arr TAc)) (w0.heap.size + 1) x.arr TAc) := by
  have := Bk.new (w0.alloc (.cells (cfc f) TCf)) x.arr TAc
  rwa [World.size_alloc] at this
 have hz1 : (w0.alloc (.cells (cfc f) TCf)).heap.size = w0.heap.size + 1 := by simp
 clear hS hR hf hx fa
 go_enter Tryz.func10, Tryz.ntmps10
 go_upto_region 1 with (fail)
 (try rw [hz1])
 clear hz1
 generalize ((w0.alloc (.cells (cfc f) TCf)).alloc (.cells x.arr TAc)) = w1 at *
 have a1 : w1.cell? ⟨w0.heap.size + 1, 1, none⟩ = some (.slice x.A x.L.length x.c) := HBx.out.cell 1
 go_wp2_with fail
 refine (SetF.Few x.A x.c 20 x.L w1 (HXr.out.1.below HB1.out).s).mono ?_
 rintro e w2 ⟨rfl, hf⟩
 have HB2 := Lib.hid (HB1.out.trans (hf.below HB1.out.size (fun _ _ h => h))); have HBk2 := Lib.hid (HBk.out.fr hf (fun _ _ h => h)); have HBx2 := Lib.hid (HBx.out.fr hf (fun _ _ h => h))
 clear hf HB1 HBk HBx a1
 cases hq0 : fewB x.L 20 with
 | false =>
  go_wp2_with fail
  refine (awake w2).mono ?_
  rintro e wz ⟨rfl, hb⟩
  have HBz := Lib.hid (HB2.out.trans (hb.mono HB2.out.size))
  clear hb
  go_wp2_with fail
  go_ret
  exact ⟨rfl, HBz.out⟩
 | true =>
  have hxl : x.L.length ≤ 20 := by unfold fewB at hq0; simp at hq0; exact hq0.2
  clear hq0
  go_wp2_with fail
  refine (Few A c l 16 w2 (HS.out.fr (Fr.of_below' HB2.out (fun _ => False)) (fun _ _ h => h)) (fun a ha => (HR.out a ha).below HB2.out) (by omega)).mono ?_
  rintro e w3 ⟨rfl, hf⟩
  have HB3 := Lib.hid (HB2.out.trans (hf.below HB2.out.size (fun _ _ h => h))); have HBk3 := Lib.hid (HBk2.out.fr hf (fun _ _ h => h)); have HBx3 := Lib.hid (HBx2.out.fr hf (fun _ _ h => h))
  clear hf HB2 HBk2 HBx2
  cases hq : fewsB l 16 with
  | false =>
   go_wp2_with fail
   refine (awake w3).mono ?_
   rintro e wz ⟨rfl, hb⟩
   have HBz := Lib.hid (HB3.out.trans (hb.mono HB3.out.size))
   clear hb
   go_wp2_with fail
   go_ret
   exact ⟨rfl, HBz.out⟩
  | true =>
   obtain ⟨hl, hla⟩ := few_len hq
   have HLa := Lib.hid hla
   clear hq hla
   have HIx : Hid (in64 (f.at x.n).sp ∧ in64 (f.at x.n).tr ∧ in64 (f.at x.n).wi ∧ in64 (f.at x.n).now) := ⟨HI.out.1, HI.out.2.1, HI.out.2.2, HXr.out.2⟩
   have HLd := Lib.hid (Sto.Load (f.at x.n) x.A x.c x.L w3 (HXr.out.1.below HB3.out) (by omega) HIx.out)
   have e0 : w3.cell? ⟨w0.heap.size, 0, none⟩ = some (.int .i64 f.sp) := HBk3.out.cell 0
   have e1 : w3.cell? ⟨w0.heap.size, 1, none⟩ = some (.int .i64 f.tr) := HBk3.out.cell 1
   have e2 : w3.cell? ⟨w0.heap.size, 2, none⟩ = some (.int .i64 f.wi) := HBk3.out.cell 2
   have e3 : w3.cell? ⟨w0.heap.size, 3, none⟩ = some (.int .i64 f.sg) := HBk3.out.cell 3
   have a1 : w3.cell? ⟨w0.heap.size + 1, 1, none⟩ = some (.slice x.A x.L.length x.c) := HBx3.out.cell 1
   have a2 : w3.cell? ⟨w0.heap.size + 1, 2, none⟩ = some (.int .i64 x.n) := HBx3.out.cell 2
   go_wp2_with fail
   refine HLd.out.mono ?_
   rintro e w4 ⟨⟨p, rfl, hp1, hp2⟩, hb⟩
   have HB4 := Lib.hid (HB3.out.trans (hb.mono HB3.out.size))
   have hfb := Fr.of_below' hb (fun _ => False)
   have HBk4 := Lib.hid (HBk3.out.fr hfb (fun _ _ h => h)); have HBx4 := Lib.hid (HBx3.out.fr hfb (fun _ _ h => h))
   have HP1 := Lib.hid hp1; have HP2 := Lib.hid hp2; have HB34 := Lib.hid hb
   clear e0 e1 e2 e3 a1 a2 hb hfb hp1 hp2 HLd HBx3
   have HRd := Lib.hid (Ref18.Load (f.at x.n) x.A x.c x.L w4 (HXr.out.1.below HB4.out) (by omega) HIx.out)
   have e0 : w4.cell? ⟨w0.heap.size, 0, none⟩ = some (.int .i64 f.sp) := HBk4.out.cell 0
   have e1 : w4.cell? ⟨w0.heap.size, 1, none⟩ = some (.int .i64 f.tr) := HBk4.out.cell 1
   have e2 : w4.cell? ⟨w0.heap.size, 2, none⟩ = some (.int .i64 f.wi) := HBk4.out.cell 2
   have e3 : w4.cell? ⟨w0.heap.size, 3, none⟩ = some (.int .i64 f.sg) := HBk4.out.cell 3
   have a1 : w4.cell? ⟨w0.heap.size + 1, 1, none⟩ = some (.slice x.A x.L.length x.c) := HBx4.out.cell 1
   have a2 : w4.cell? ⟨w0.heap.size + 1, 2, none⟩ = some (.int .i64 x.n) := HBx4.out.cell 2
   obtain ⟨E, hE⟩ : ∃ E, loadE (f.at x.n) x.L = E := ⟨_, rfl⟩
   rw [hE] at HRd HP1 HP2 ⊢
   clear hE
   go_wp2_with fail
   refine HRd.out.mono ?_
   rintro e w5 ⟨⟨q, rfl, hq1, hq2⟩, hf⟩
   have HB5 := Lib.hid (HB4.out.trans (hf.below HB4.out.size (fun _ _ h => h))); have HBk5 := Lib.hid (HBk4.out.fr hf (fun _ _ h => h))
   have HQ1 := Lib.hid hq1; have HQ2 := Lib.hid hq2; have HF45 := Lib.hid hf
   clear e0 e1 e2 e3 a1 a2 hf hq1 hq2 HRd HBx4 HBk4
   have HGo : Hid (∀ (Q : Exit → Act → World → Prop) (a0 : Act), a0.tmps.size = 166 → a0.tmps.getD 7 undef = .pointer p → a0.tmps.getD 8 undef = .int .i64 E → a0.tmps.getD 9 undef = .pointer q → a0.tmps.getD 10 undef = .int .i64 E →
     (∀ (x : Nat → Value) (w' : World), x 90 = .bool false → (Below w0.heap.size w0 w' ∧ Bk w' w0.heap.size (cfc f) TCf) → Q .normal (Eng.setAll a0 [48, 49, 50, 51, 52, 53, 54, 55, 56, 57, 58, 59, 60, 61, 62, 63, 64, 65, 66, 67, 68, 69, 70, 71, 72, 73, 74, 75, 76, 77, 78, 79, 80, 81, 82, 83, 84, 85, 86, 87, 88, 89, 90] x) w') →
     (Code.region 5 (Eng.fnOps Tryz.f10 5) true).wp Tryz.prog Q a0 w5) := fun Q a0 n h7 h8 h9 h10 hp => by
    by_cases hE : E = 0
    ·obtain ⟨B, F, rfl, hs, hF⟩ := HP2.out hE
     obtain ⟨R, A', c', rfl, hr, hR, hN⟩ := HQ2.out hE
     rw [hE] at h8 h10
     have hlB := HBk3.out
     have hz : AZ w0 w4 B (f.at x.n) x.L F [(w0.heap.size, cfc f, TCf)] [] := by
      refine ⟨hs, fun k hk => Nat.le_trans HB3.out.size (hF k hk), HB4.out, fun p hp => ?_, by simp⟩
      rw [List.mem_singleton] at hp
      subst hp
      exact ⟨⟨hlB.fr (Fr.of_below' HB34.out (fun _ => False)) (fun _ _ h => h), fun hm => by have := hF _ hm; have := lt_of_heap hlB; omega⟩, Nat.le_refl _⟩
     have har : AR w0 w5 B (f.at x.n) x.L F R (f.at x.n) x.L A' c' [(w0.heap.size, cfc f, TCf)] [] := by
      have hz5 := hz.fr HF45.out
      refine ⟨hz5, hr, fun hm => by have := hs.lt _ hm; omega, fun hne a ha hm => ?_, Nat.le_trans HB4.out.size hR, fun p hp => ?_⟩
      ·have := hN hne a ha; have := hs.lt _ hm; omega
      ·rw [List.mem_singleton] at hp
       subst hp
       have := lt_of_heap hlB; have := HB34.out.size; dsimp only; omega
     exact lo5 rfl a0 Q w0 w5 B (f.at x.n) x.L F R A' c' _ har (by omega) n h7 h8 h9 h10 (fun y w' h z => hp y w' h ⟨z.z.b, (z.z.d (w0.heap.size, cfc f, TCf) (by simp)).1.1⟩)
    ·obtain rfl := HP1.out hE
     obtain rfl := HQ1.out hE
     exact lo5e rfl a0 Q w5 w5 E (Fr.refl _ _) n h7 h8 h9 h10 (fun y w' h z => hp y w' h ⟨HB5.out.trans (z.below HB5.out.size (fun _ _ h => h)), HBk5.out.fr z (fun _ _ h => h)⟩)
   go_upto_region 5 with (fail)
   refine HGo.out _ _ (by simp) rfl rfl rfl rfl ?_
   rintro y w6 h90 ⟨hb6, hk6⟩
   simp only [Eng.setAll, Act.put, List.setIfInBounds_toArray, List.set_cons_succ, List.set_cons_zero]
   rw [h90]
   have HB6 := Lib.hid hb6; have HBk6 := Lib.hid hk6
   clear h90 hb6 hk6 HGo HB3 HBk3 HB4 HB5 HBk5 HP1 HP2 HQ1 HQ2 HF45 HB34 HXr HIx
   have e0 : w6.cell? ⟨w0.heap.size, 0, none⟩ = some (.int .i64 f.sp) := HBk6.out.cell 0
   have e1 : w6.cell? ⟨w0.heap.size, 1, none⟩ = some (.int .i64 f.tr) := HBk6.out.cell 1
   have e2 : w6.cell? ⟨w0.heap.size, 2, none⟩ = some (.int .i64 f.wi) := HBk6.out.cell 2
   have e3 : w6.cell? ⟨w0.heap.size, 3, none⟩ = some (.int .i64 f.sg) := HBk6.out.cell 3
   go_wp2_with fail
   refine (Sto.New f w6).mono ?_
   rintro e w7 ⟨B, F, rfl, hs, hF, hb⟩
   have HZ : Hid (AZ w0 w7 B (f.at mnI) [] F [(w0.heap.size, cfc f, TCf)] []) := (AZ.new HB6.out (St.new hs HI.out) hF hb).addD (HBk6.out.fr (Fr.of_below' hb (fun _ => False)) (fun _ _ h => h)) (fun hm => by have := hF _ hm; have := lt_of_heap HBk6.out; omega) (Nat.le_refl _)
   clear hs hF hb e0 e1 e2 e3 HB6 HBk6
   obtain ⟨h, hh⟩ : ∃ h, l.length / 2 = h := ⟨_, rfl⟩
   have hhl : h ≤ l.length := by omega
   have qd : (l.length : Int).tdiv 2 = (h : Int) := by rw [← hh]; exact (Int.ofNat_tdiv l.length 2).symm
   have qd2 : wrap64 (h : Int) = (h : Int) := by unfold wrap64; omega
   clear hh
   go_wp2_with fail
   go_loopg [12] h (fun gk i wr => ∃ (k : Nat) (f' : Cf) (L : List Sn) (F : List Nat), i = .int .i64 k ∧ k ≤ h ∧ gk = h - k ∧ (f'.sp = f.sp ∧ f'.tr = f.tr) ∧ cfc f' = cfc f ∧ fits (max f.sp 0) (max f.tr 0) L = true ∧ NP f' L ∧ L.length ≤ 12 * k ∧ AZ w0 wr B f' L F [(w0.heap.size, cfc f, TCf)] [])
   case atStart => exact ⟨0, f.at mnI, [], F, rfl, Nat.zero_le _, rfl, ⟨rfl, rfl⟩, rfl, fits_iff.2 (.inl rfl), fun x hx => by simp at hx, Nat.le_refl _, HZ.out⟩
   case round =>
    clear HZ
    obtain ⟨k, f', L, F, rfl, hk, hg, hc, hcf, hft, hnp, hLl, hz⟩ := hrel
    have HG := Lib.hid hg; have HC := Lib.hid hc; have HCf := Lib.hid hcf; have HFt := Lib.hid hft; have HNp := Lib.hid hnp; have HZ := Lib.hid hz
    clear hg hc hcf hft hnp hz
    by_cases hlh : k < h
    ·have hlt : k < l.length := by omega
     have HRk := Lib.hid (HR.out _ (List.getElem_mem hlt))
     have hlk := HLa.out _ (List.getElem_mem hlt)
     obtain ⟨b1, o1, rfl, hb1, a0, a1, a2⟩ := at3 HS.out hlt
     have HAt : Hid (∀ W : World, Below w0.heap.size w0 W → W.cell? ⟨b1, o1 + k * 3, none⟩ = some (.int .i64 l[k].k) ∧ W.cell? ⟨b1, o1 + k * 3 + 1, none⟩ = some (.slice l[k].A l[k].L.length l[k].c) ∧ W.cell? ⟨b1, o1 + k * 3 + 1 + 1, none⟩ = some (.int .i64 l[k].n)) := fun W hW =>
      ⟨(hW.cell (p := ⟨b1, o1 + k * 3, none⟩) hb1).trans a0, (hW.cell (p := ⟨b1, o1 + k * 3 + 1, none⟩) hb1).trans a1, (hW.cell (p := ⟨b1, o1 + k * 3 + 1 + 1, none⟩) hb1).trans a2⟩
     clear hb1 a0 a1 a2
     generalize l[k] = a at *
     have hdl := doL_len f' L a
     have hdc := doF_c f' a
     have HOk := Lib.hid HZ.out.s.o
     have HFt2 : Hid (fits (max f.sp 0) (max f.tr 0) (doL f' L a) = true) := by
      have h1 := do_fits (a := a) (f := f') HZ.out.s.o (by rw [HC.out.1, HC.out.2]; exact HFt.out)
      rwa [HC.out.1, HC.out.2] at h1
     have HC2 : Hid ((doF f' a).sp = f.sp ∧ (doF f' a).tr = f.tr) := ⟨hdc.1.trans HC.out.1, hdc.2.1.trans HC.out.2⟩
     have HCf2 : Hid (cfc (doF f' a) = cfc f) := (doF_cfc f' a).trans HCf.out
     have HNp2 : Hid (NP (doF f' a) (doL f' L a)) := do_np HOk.out HNp.out
     have HDo := Lib.hid (do_ B f' L F a wr HZ.out.s (HRk.out.below HZ.out.b) (HZ.out.apt HRk.out.1) (by omega) (by omega))
     clear HOk hdc HC HCf HFt HNp
     generalize doL f' L a = L2 at *
     generalize doF f' a = f2 at *
     generalize doO f' L a = O2 at *
     generalize doI f' L a = I2 at *
     generalize doE f' L a = E2 at *
     have q1 : (0 : Int) ≤ (k : Int) := by omega
     have q2 : decide ((k : Int) < (h : Int)) = true := by simp; omega
     have q4 : decide ((k : Int) < (l.length : Int)) = true := by simp; omega
     have q5 : (k : Int) < (l.length : Int) := by omega
     have q3 : wrap64 ((k : Int) + 1) = (k : Int) + 1 := by unfold wrap64; omega
     obtain ⟨a0, a1, a2⟩ := HAt.out wr HZ.out.b
     go_wp2_with fail
     refine HDo.out.mono ?_
     rintro e w8 ⟨A1, c1, A2, c2, F2, rfl, ho⟩
     have HZ2 := Lib.hid ((HZ.out.act ho).pickL (K' := []) (by simp))
     clear ho HDo HZ a0 a1 a2
     go_wp2_with fail
     go_roundg (h - (k + 1))
     case rel => exact ⟨k + 1, f2, L2, F2, by go_num, by omega, rfl, HC2.out, HCf2.out, HFt2.out, HNp2.out, by omega, HZ2.out⟩
     case measure => have := HG.out; omega
    ·obtain rfl : k = h := by omega
     have q2 : decide ((k : Int) < (k : Int)) = false := by simp
     have HL0 : Hid (loadE f' L = 0) := load_0 HZ.out.s.o (by rw [HC.out.1, HC.out.2]; exact HFt.out) HNp.out
     go_upto_region 12 with (fail)
     refine lo12 (by kernel_rfl) _ _ w0 wr B f' f L F w0.heap.size _ (by simp) HZ.out (by omega) (by omega) HL0.out HCf.out (by simp) rfl rfl ?_
     intro y w8 B2 F2 h13 h14 hst
     simp only [Eng.setAll, Act.put, List.setIfInBounds_toArray, List.set_cons_succ, List.set_cons_zero]
     rw [h13, h14]
     have HB2 := Lib.hid (hst.pickD (D' := []) (by simp))
     clear h13 h14 hst HZ HL0 HC HCf HFt HNp HG
     go_wp2_with fail
     go_loopg [15] (l.length - k) (fun gk i wr => ∃ (k : Nat) (f' : Cf) (L : List Sn) (F1 F2 : List Nat), i = .int .i64 k ∧ k ≤ l.length ∧ gk = l.length - k ∧ L.length ≤ 12 * k ∧ BZ w0 wr B f' L F1 B2 f' L F2 [] [])
     case atStart => exact ⟨k, f', L, F, F2, rfl, hhl, rfl, hLl, HB2.out⟩
     case round =>
      clear HB2 hLl hlh hhl hk q2 qd qd2
      obtain ⟨k, f', L, F, F2, rfl, hk, hg, hLl, hz⟩ := hrel
      have HG := Lib.hid hg; have HZ := Lib.hid hz
      clear hg hz
      by_cases hlt : k < l.length
      ·have HRk := Lib.hid (HR.out _ (List.getElem_mem hlt))
       have hlk := HLa.out _ (List.getElem_mem hlt)
       obtain ⟨b1, o1, rfl, hb1, a0, a1, a2⟩ := at3 HS.out hlt
       have HAt : Hid (∀ W : World, Below w0.heap.size w0 W → W.cell? ⟨b1, o1 + k * 3, none⟩ = some (.int .i64 l[k].k) ∧ W.cell? ⟨b1, o1 + k * 3 + 1, none⟩ = some (.slice l[k].A l[k].L.length l[k].c) ∧ W.cell? ⟨b1, o1 + k * 3 + 1 + 1, none⟩ = some (.int .i64 l[k].n)) := fun W hW =>
        ⟨(hW.cell (p := ⟨b1, o1 + k * 3, none⟩) hb1).trans a0, (hW.cell (p := ⟨b1, o1 + k * 3 + 1, none⟩) hb1).trans a1, (hW.cell (p := ⟨b1, o1 + k * 3 + 1 + 1, none⟩) hb1).trans a2⟩
       clear hb1 a0 a1 a2
       generalize l[k] = a at *
       have hdl := doL_len f' L a
       have hdc := doF_c f' a
       have hol := doO_len (f := f') (a := a) HZ.out.z.s.o; have hil := doI_len (f := f') (a := a) HZ.out.z.s.o
       have HDo := Lib.hid (do_ B f' L F a); have HDo2 := Lib.hid (do_ B2 f' L F2 a)
       clear hdc
       generalize doL f' L a = L2 at *
       generalize doF f' a = f2 at *
       generalize doO f' L a = O2 at *
       generalize doI f' L a = I2 at *
       generalize doE f' L a = E2 at *
       have q1 : (0 : Int) ≤ (k : Int) := by omega
       have q2 : decide ((k : Int) < (l.length : Int)) = true := by simp; omega
       have q3 : wrap64 ((k : Int) + 1) = (k : Int) + 1 := by unfold wrap64; omega
       obtain ⟨a0, a1, a2⟩ := HAt.out wr HZ.out.z.b
       have HD1 := Lib.hid (HDo.out wr HZ.out.z.s (HRk.out.below HZ.out.z.b) (HZ.out.z.apt HRk.out.1) (by omega) (by omega))
       clear HDo
       go_wp2_with fail
       refine HD1.out.mono ?_
       rintro e w9 ⟨A1, c1, A2, c2, F3, rfl, ho⟩
       have HZ2 := Lib.hid ((HZ.out.act1 ho).alloc #[.slice A1 O2.length c1, .slice A2 I2.length c2] TDl)
       clear ho HD1 HZ a0 a1 a2
       go_upto_region 19 with (fail)
       obtain ⟨bd, hbd⟩ : ∃ b, w9.heap.size = b := ⟨_, rfl⟩
       generalize hg : w9.alloc (.cells #[.slice A1 O2.length c1, .slice A2 I2.length c2] TDl) = w10 at *
       clear hg
       rw [hbd] at HZ2 ⊢
       clear hbd
       obtain ⟨a0, a1, a2⟩ := HAt.out w10 HZ2.out.z.b
       have HD1 := Lib.hid (HDo2.out w10 HZ2.out.y.s (HRk.out.below HZ2.out.z.b) (HZ2.out.y.apt HRk.out.1) (by omega) (by omega))
       clear HDo2
       go_wp2_with fail
       refine HD1.out.mono ?_
       rintro e w11 ⟨A3, c3, A4, c4, F4, rfl, ho⟩
       have HZ3 := Lib.hid ((HZ2.out.act2 ho).alloc #[.slice A3 O2.length c3, .slice A4 I2.length c4] TDl)
       clear ho HD1 HZ2 a0 a1 a2
       go_upto_region 20 with (fail)
       obtain ⟨be, hbe⟩ : ∃ b, w11.heap.size = b := ⟨_, rfl⟩
       generalize hg : w11.alloc (.cells #[.slice A3 O2.length c3, .slice A4 I2.length c4] TDl) = w12 at *
       clear hg
       rw [hbe] at HZ3 ⊢
       clear hbe
       have d0 : w12.cell? ⟨bd, 0, none⟩ = some (.slice A1 O2.length c1) := (HZ3.out.d (bd, #[.slice A1 O2.length c1, .slice A2 I2.length c2], TDl) (by simp)).1.1.cell 0
       have d1 : w12.cell? ⟨bd, 1, none⟩ = some (.slice A2 I2.length c2) := (HZ3.out.d (bd, #[.slice A1 O2.length c1, .slice A2 I2.length c2], TDl) (by simp)).1.1.cell 1
       have d2 : w12.cell? ⟨be, 0, none⟩ = some (.slice A3 O2.length c3) := (HZ3.out.d (be, #[.slice A3 O2.length c3, .slice A4 I2.length c4], TDl) (by simp)).1.1.cell 0
       have d3 : w12.cell? ⟨be, 1, none⟩ = some (.slice A4 I2.length c4) := (HZ3.out.d (be, #[.slice A3 O2.length c3, .slice A4 I2.length c4], TDl) (by simp)).1.1.cell 1
       go_wp2_with fail
       refine (SameDl.SameDT ⟨A1, c1, O2, A2, c2, I2⟩ ⟨A3, c3, O2, A4, c4, I2⟩ w12 ⟨(HZ3.out.k (A1, c1, O2) (by simp)).1, (HZ3.out.k (A2, c2, I2) (by simp)).1⟩ ⟨(HZ3.out.k (A3, c3, O2) (by simp)).1, (HZ3.out.k (A4, c4, I2) (by simp)).1⟩ (by simp [SameDl.sameD])).mono ?_
       rintro e w13 ⟨rfl, hf⟩
       have HZ4 := Lib.hid (((HZ3.out.fr hf).pickD (D' := []) (by simp)).pickL (K' := []) (by simp))
       clear hf HZ3 d0 d1 d2 d3
       go_wp2_with fail
       refine (Sto.All B f2 L2 F3 w13 HZ4.out.z.s (by omega)).mono ?_
       rintro e w14 ⟨A9, c9, rfl, hls, -, hb⟩
       have HZ5 := Lib.hid (HZ4.out.below hb); have HL9 := Lib.hid hls
       clear hls hb HZ4
       go_wp2_with fail
       refine (Sto.All B2 f2 L2 F4 w14 HZ5.out.y.s (by omega)).mono ?_
       rintro e w15 ⟨A10, c10, rfl, hls, -, hb⟩
       have HZ6 := Lib.hid (HZ5.out.below hb); have HL10 := Lib.hid hls; have HL9b := Lib.hid (HL9.out.below hb)
       clear hls hb HZ5 HL9
       go_wp2_with fail
       refine (SameT HL9b.out HL10.out rfl rfl rfl).mono ?_
       rintro e w16 ⟨rfl, hf⟩
       have HZ7 := Lib.hid (HZ6.out.fr hf)
       clear hf HZ6 HL9b HL10
       go_wp2_with fail
       go_roundg (l.length - (k + 1))
       case rel => exact ⟨k + 1, f2, L2, F3, F4, by go_num, by omega, rfl, by omega, HZ7.out⟩
       case measure => have := HG.out; omega
      ·obtain rfl : k = l.length := by omega
       have q2 : decide ((l.length : Int) < (l.length : Int)) = false := by simp
       go_wp2_with fail
       refine (awake wr).mono ?_
       rintro e wz ⟨rfl, hb⟩
       have HBz := Lib.hid (HZ.out.below hb).z.b
       clear hb
       go_wp2_with fail
       go_ret
       exact ⟨rfl, HBz.out⟩
end Law18
end Go.Proofs.YtdpngmgaomghoaaGreat
