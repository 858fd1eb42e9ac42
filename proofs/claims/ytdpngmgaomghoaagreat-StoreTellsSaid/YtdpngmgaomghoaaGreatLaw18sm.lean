/- Layer 18's statements: StoreTells: for every input the answer is true. -/
import Derived.Test.YtdpngmgaomghoaaGreatLaw18s
import Derived.Test.YtdpngmgaomghoaaGreatSto78
namespace Go.Proofs.YtdpngmgaomghoaaGreat
open Go.RowKit Go.Shelf
namespace Law18
attribute [local go_sem] Oper.semAt_some
open Name KeyP PackP SetP SetW SetF Delta Sto BagP Ref18
attribute [local go_sem] Eng.ev Eng.getO_cons Eng.getO_nil
theorem pos_fd {z : Sn} {L : List Sn} : (∃ k, ∃ h : k < L.length, posI z L = (k : Int) ∧ fnd z L = some L[k]) ∨ (posI z L = -1 ∧ fnd z L = none) := by
 rcases pos_fnd (x := z) (L := L) with ⟨k, hk, h1, h2⟩ | ⟨h1, h2⟩
 ·exact .inl ⟨k, hk, by unfold posI; rw [h1], h2⟩
 ·exact .inr ⟨by unfold posI; rw [h1], h2⟩
set_option maxRecDepth 100000 in
set_option maxHeartbeats 16000000 in
theorem tells (f : Cf) (A : Option Addr) (c : Nat) (l : List Ac) (m0 m1 m2 : Int) (w0 : World) (hS : Sl w0 3 A l.length c (l.flatMap acc)) (hR : ∀ a ∈ l, Rd w0 a) (hf : in64 f.sp ∧ in64 f.tr ∧ in64 f.wi) (hm : in64 m0 ∧ in64 m1) :
  Calls Tryz.prog 8 #[.agg (cfc f), .slice A l.length c, .agg (n3 m0 m1 m2)] w0 fun e w' => e = .returned (.bool true) ∧ Below w0.heap.size w0 w' := by
 obtain ⟨i0, hi, hz0, hz1_, hz2⟩ := info_parts infoS
 have HS := Lib.hid hS; have HR := Lib.hid hR; have HI := Lib.hid hf; have HM := Lib.hid hm
 have fa := fun (w : World) (o : Obj) => Fr.alloc (fun _ => False) w o
 have HB1 : Hid (Below w0.heap.size w0 ((w0.alloc (.cells (cfc f) TCf)).alloc (.cells (n3 m0 m1 m2) TN3))) := ((Below.refl w0.heap.size w0).alloc (Nat.le_refl _) _).alloc (by simp) _
 have HBk : Hid (Bk ((w0.alloc (.cells (cfc f) TCf)).alloc (.cells (n3 m0 m1 m2) TN3)) w0.heap.size (cfc f) TCf) := (Bk.new w0 (cfc f) TCf).fr (fa _ _) (fun _ _ h => h)
 have HBn : Hid (Bk ((w0.alloc (.cells (cfc f) TCf)).alloc (.cells (n3 m0 m1 m2) TN3)) (w0.heap.size + 1) (n3 m0 m1 m2) TN3) := by
  have := Bk.new (w0.alloc (.cells (cfc f) TCf)) (n3 m0 m1 m2) TN3
  rwa [World.size_alloc] at this
 have hz1 : (w0.alloc (.cells (cfc f) TCf)).heap.size = w0.heap.size + 1 := by simp
 clear hS hR hf hm fa
 cases hq : fewsB l 20 with
 | false =>
  go_enter Tryz.func8, Tryz.ntmps8
  go_upto_region 1 with (fail)
  (try rw [hz1])
  clear hz1
  generalize ((w0.alloc (.cells (cfc f) TCf)).alloc (.cells (n3 m0 m1 m2) TN3)) = w1 at *
  go_wp2_with fail
  refine (Few A c l 20 w1 (HS.out.fr (Fr.of_below' HB1.out (fun _ => False)) (fun _ _ h => h)) (fun a ha => (HR.out a ha).below HB1.out) (by omega)).mono ?_
  rintro e w2 ⟨rfl, hf⟩
  have HB2 := Lib.hid (HB1.out.trans (hf.below HB1.out.size (fun _ _ h => h)))
  rw [hq]
  clear hf HB1 HBk
  go_wp2_with fail
  refine (awake w2).mono ?_
  rintro e w3 ⟨rfl, hb⟩
  have HB3 := Lib.hid (HB2.out.trans (hb.mono HB2.out.size))
  clear hb
  go_wp2_with fail
  go_ret
  exact ⟨rfl, HB3.out⟩
 | true =>
  obtain ⟨hl, hla⟩ := few_len hq
  have HLa := Lib.hid hla
  have HQ := Lib.hid hq
  clear hq hla
  refine (callsIn_wide (n := 3)).1 ?_
  refine callsIn_of_wp_marks Tryz.func8 rfl trivial ?_ rfl
  simp only [Tryz.ntmps8, List.size_toArray, List.length_cons, List.length_nil, Nat.reduceAdd, Nat.reduceSub, Array.replicate_succ, Array.replicate_zero, List.push_toArray, List.append_toArray, List.nil_append, List.cons_append]
  refine wpIn_wide.2 ?_
  go_upto_region 1 with (fail)
  (try rw [hz1])
  clear hz1
  generalize ((w0.alloc (.cells (cfc f) TCf)).alloc (.cells (n3 m0 m1 m2) TN3)) = w1 at *
  go_wp2_with fail
  refine (Few A c l 20 w1 (HS.out.fr (Fr.of_below' HB1.out (fun _ => False)) (fun _ _ h => h)) (fun a ha => (HR.out a ha).below HB1.out) (by omega)).mono ?_
  rintro e w2 ⟨rfl, hf⟩
  have HB2 := Lib.hid (HB1.out.trans (hf.below HB1.out.size (fun _ _ h => h))); have HBk2 := Lib.hid (HBk.out.fr hf (fun _ _ h => h)); have HBn2 := Lib.hid (HBn.out.fr hf (fun _ _ h => h))
  rw [HQ.out]
  clear hf HB1 HBk HBn HQ
  go_upto_region 3 with (fail)
  obtain ⟨Bn, hBn⟩ : ∃ b, w0.heap.size + 1 = b := ⟨_, rfl⟩
  rw [hBn] at HBn2 ⊢
  have hBn0 : w0.heap.size ≤ Bn := by omega
  clear hBn
  refine te3 (by kernel_rfl) _ _ w0 w2 w0.heap.size f [(Bn, n3 m0 m1 m2, TN3)] ⟨HBk2.out, HB2.out, fun p hp => by rw [List.mem_singleton] at hp; subst hp; exact ⟨HBn2.out, hBn0⟩⟩ HI.out (by simp) rfl ?_
  intro x w3 B R F h5 h6 hst
  simp only [Eng.setAll, Act.put, List.setIfInBounds_toArray, List.set_cons_succ, List.set_cons_zero]
  rw [h5, h6]
  have HZ3 := Lib.hid hst
  clear h5 h6 hst HB2 HBk2 HBn2
  go_wp2_with fail
  go_loopg [9] l.length (fun gk i wr => ∃ (k : Nat) (f' : Cf) (L : List Sn) (F : List Nat) (AM : Option Addr) (cM : Nat), i = .int .i64 k ∧ k ≤ l.length ∧ gk = l.length - k ∧ (f'.sp = f.sp ∧ f'.tr = f.tr) ∧ fits (max f.sp 0) (max f.tr 0) L = true ∧ L.length ≤ 12 * k ∧ AR w0 wr B f' L F R f' L AM cM [(Bn, n3 m0 m1 m2, TN3)] [])
  case atStart => exact ⟨0, f.at mnI, [], F, none, 0, rfl, Nat.zero_le _, rfl, ⟨rfl, rfl⟩, fits_iff.2 (.inl rfl), Nat.le_refl _, HZ3.out⟩
  case round =>
   clear HZ3
   obtain ⟨k, f', L, F, AM, cM, rfl, hk, hg, hc, hft, hLl, hz⟩ := hrel
   have HG := Lib.hid hg; have HC := Lib.hid hc; have HFt := Lib.hid hft; have HZ := Lib.hid hz
   clear hg hc hft hz
   by_cases hlt : k < l.length
   ·have HRk := Lib.hid (HR.out _ (List.getElem_mem hlt))
    have hlk := HLa.out _ (List.getElem_mem hlt)
    obtain ⟨b1, o1, rfl, hb1, a0, a1, a2⟩ := at3 HS.out hlt
    have HAt : Hid (∀ W : World, Below w0.heap.size w0 W → W.cell? ⟨b1, o1 + k * 3, none⟩ = some (.int .i64 l[k].k) ∧ W.cell? ⟨b1, o1 + k * 3 + 1, none⟩ = some (.slice l[k].A l[k].L.length l[k].c) ∧ W.cell? ⟨b1, o1 + k * 3 + 1 + 1, none⟩ = some (.int .i64 l[k].n)) := fun W hW =>
     ⟨(hW.cell (p := ⟨b1, o1 + k * 3, none⟩) hb1).trans a0, (hW.cell (p := ⟨b1, o1 + k * 3 + 1, none⟩) hb1).trans a1, (hW.cell (p := ⟨b1, o1 + k * 3 + 1 + 1, none⟩) hb1).trans a2⟩
    clear hb1 a0 a1 a2
    generalize l[k] = a at *
    have hdl := doL_len f' L a
    have hdc := doF_c f' a
    have HFt2 : Hid (fits (max f.sp 0) (max f.tr 0) (doL f' L a) = true) := by
     have h1 := do_fits (a := a) (f := f') HZ.out.z.s.o (by rw [HC.out.1, HC.out.2]; exact HFt.out)
     rwa [HC.out.1, HC.out.2] at h1
    have HC2 : Hid ((doF f' a).sp = f.sp ∧ (doF f' a).tr = f.tr) := ⟨hdc.1.trans HC.out.1, hdc.2.1.trans HC.out.2⟩
    have HOk := Lib.hid HZ.out.z.s.o
    have HDo := Lib.hid (do_ B f' L F a)
    have HRd := Lib.hid (fun (W : World) (h : RS W R f' L AM cM) (hr : Rd W a) => Ref18.Do a h hr HOk.out (by rw [HC.out.1, HC.out.2]; exact HFt.out) (by omega) (by omega))
    clear HOk hdc HC HFt
    generalize doL f' L a = L2 at *
    generalize doF f' a = f2 at *
    generalize doO f' L a = O2 at *
    generalize doI f' L a = I2 at *
    generalize doE f' L a = E2 at *
    have q1 : (0 : Int) ≤ (k : Int) := by omega
    have q2 : decide ((k : Int) < (l.length : Int)) = true := by simp; omega
    have q3 : wrap64 ((k : Int) + 1) = (k : Int) + 1 := by unfold wrap64; omega
    obtain ⟨a0, a1, a2⟩ := HAt.out wr HZ.out.z.b
    have HDo2 := Lib.hid (HDo.out wr HZ.out.z.s (HRk.out.below HZ.out.z.b) (HZ.out.z.apt HRk.out.1) (by omega) (by omega))
    clear HDo
    go_wp2_with fail
    refine HDo2.out.mono ?_
    rintro e w6 ⟨A1, c1, A2, c2, F2, rfl, ho⟩
    have HZ6 := Lib.hid ((HZ.out.act ho).pickL (K' := []) (by simp))
    clear ho HDo2 HZ a0 a1 a2
    obtain ⟨a0, a1, a2⟩ := HAt.out w6 HZ6.out.z.b
    have HRd2 := Lib.hid (HRd.out w6 HZ6.out.r (HRk.out.below HZ6.out.z.b))
    clear HRd
    go_wp2_with fail
    refine HRd2.out.mono ?_
    rintro e w8 ⟨A3, c3, A4, c4, AM2, cM2, rfl, hr, h3, h4, hf, hn⟩
    have HZ8 := Lib.hid (HZ6.out.ref hr hf hn)
    clear hr h3 h4 hf hn HRd2 HZ6 a0 a1 a2
    go_wp2_with fail
    go_roundg (l.length - (k + 1))
    case rel => exact ⟨k + 1, f2, L2, F2, AM2, cM2, by go_num, by omega, rfl, HC2.out, HFt2.out, by omega, HZ8.out⟩
    case measure => have := HG.out; omega
   ·obtain rfl : k = l.length := by omega
    have q2 : decide ((l.length : Int) < (l.length : Int)) = false := by simp
    have hL0 : L.length ≤ 240 := by omega
    clear HG HC HFt hk hlt hLl hl HLa HR HS
    have cn0 : wr.cell? ⟨Bn, 0, none⟩ = some (.int .i64 m0) := (HZ.out.z.d (Bn, n3 m0 m1 m2, TN3) (by simp)).1.1.cell 0
    have cn1 : wr.cell? ⟨Bn, 1, none⟩ = some (.int .i64 m1) := (HZ.out.z.d (Bn, n3 m0 m1 m2, TN3) (by simp)).1.1.cell 1
    have HGe := Lib.hid (Sto.Get B f' L _ _ F m0 m1 wr HZ.out.z.s.s HZ.out.z.s.k HM.out.1 HM.out.2)
    go_wp2_with fail
    refine HGe.out.mono ?_
    rintro e w4 ⟨rfl, hf⟩
    have HZ4 := Lib.hid ((HZ.out.fr hf).alloc ((fnd (zz m0 m1) L).getD z9).arr TSn)
    clear hf HGe HZ cn0 cn1
    obtain ⟨y, hy⟩ : ∃ y, (fnd (zz m0 m1) L).getD z9 = y := ⟨_, rfl⟩
    rw [hy] at HZ4 ⊢
    obtain ⟨ok, hok⟩ : ∃ b, (fnd (zz m0 m1) L).isSome = b := ⟨_, rfl⟩
    rw [hok]
    have HY := Lib.hid hy; have HOk := Lib.hid hok
    clear hy hok
    go_upto_region 10 with (fail)
    obtain ⟨ba, hba⟩ : ∃ b, w4.heap.size = b := ⟨_, rfl⟩
    rw [hba] at HZ4 ⊢
    generalize hg : w4.alloc (.cells y.arr TSn) = w5 at *
    clear hg hba
    refine te10 (by kernel_rfl) _ _ w0 w5 B f' L F R AM cM _ Bn m0 m1 m2 (by simp) (by omega) HZ4.out (by simp) rfl rfl ?_
    intro x w6 h12 hst
    simp only [Eng.setAll, Act.put, List.setIfInBounds_toArray, List.set_cons_succ, List.set_cons_zero]
    rw [h12]
    have HZ5 := Lib.hid hst
    clear h12 hst HZ4
    go_upto_region 11 with (fail)
    have HGo : Hid (∀ (Q : Exit → Act → World → Prop) (a0 : Act), a0.tmps.size = 126 → a0.tmps.getD 8 undef = .pointer (some ⟨R, 0, none⟩) → a0.tmps.getD 10 undef = .pointer (some ⟨ba, 0, none⟩) → a0.tmps.getD 11 undef = .bool ok → a0.tmps.getD 12 undef = .int .i64 (posI (zz m0 m1) L) →
      (∀ (x : Nat → Value) (w' : World), x 88 = .bool false → AR w0 w' B f' L F R f' L AM cM [(ba, y.arr, TSn), (Bn, n3 m0 m1 m2, TN3)] [] → Q .normal (Eng.setAll a0 [62, 63, 64, 65, 66, 67, 68, 69, 70, 71, 72, 73, 74, 75, 76, 77, 78, 79, 80, 81, 82, 83, 84, 85, 86, 87, 88] x) w') →
      (Code.region 11 (Eng.fnOps Tryz.f8 11) true).wp Tryz.prog Q a0 w6) := fun Q a0 n h8 h10 h11 h12 hp => by
     have hy := HY.out; have hok := HOk.out
     rcases pos_fd (z := zz m0 m1) (L := L) with ⟨k, hk, h1, h2⟩ | ⟨h1, h2⟩
     ·rw [h2] at hy hok
      rw [h1] at h12
      have hyy : L[k] = y := hy
      subst hok
      obtain ⟨b1, o1, rfl, hb1, c1⟩ := HZ5.out.r.l.s.at hk (by omega)
      have hat := At.row c1 hk
      rw [hyy] at hat
      exact te11s rfl a0 Q w0 w6 B f' L F R cM _ ba b1 o1 k y (by simp) hk (by omega) ⟨HZ5.out, hat⟩ n h8 h10 h11 h12 hp
     ·rw [h2] at hy hok
      rw [h1] at h12
      have hyy : z9 = y := hy
      subst hok
      subst hyy
      exact te11n rfl a0 Q w0 w6 B f' L F R AM cM _ ba (by simp) HZ5.out n h10 h11 h12 hp
    refine HGo.out _ _ (by simp) rfl rfl rfl rfl ?_
    intro x w7 h88 hst
    simp only [Eng.setAll, Act.put, List.setIfInBounds_toArray, List.set_cons_succ, List.set_cons_zero]
    rw [h88]
    have HZ6 : Hid (AR w0 w7 B f' L F R f' L AM cM [(Bn, n3 m0 m1 m2, TN3)] []) := hst.pickD (by simp)
    clear h88 hst HZ5 HGo HY HOk
    go_upto_region 13 with (fail)
    refine te13 (by kernel_rfl) _ _ w0 w7 B f' L F R AM cM _ Bn m0 m1 m2 (by simp) (by omega) HZ6.out (by simp) rfl rfl ?_
    intro x w8 Aw cw h13 hlw hst
    simp only [Eng.setAll, Act.put, List.setIfInBounds_toArray, List.set_cons_succ, List.set_cons_zero]
    rw [h13]
    have HZ7 := Lib.hid hst; have HW := Lib.hid hlw
    clear h13 hlw hst HZ6
    obtain ⟨M, hM⟩ : ∃ M, L.filter (fun x => decide (x.t = m0)) = M := ⟨_, rfl⟩
    have hMl : M.length ≤ 240 := by rw [← hM]; exact Nat.le_trans (List.length_filter_le _ _) hL0
    rw [hM] at HW ⊢
    have HMe := Lib.hid hM
    clear hM
    have cn0 : w8.cell? ⟨Bn, 0, none⟩ = some (.int .i64 m0) := (HZ7.out.z.d (Bn, n3 m0 m1 m2, TN3) (by simp)).1.1.cell 0
    go_wp2_with fail
    refine (Sto.Trace_ B m0 w8).mono ?_
    rintro e w9 ⟨rfl, hf, hz9, hx, hbt⟩
    have HZ8 := Lib.hid (HZ7.out.fr hf); have HW8 := Lib.hid (HW.out.keep hf)
    obtain ⟨Nc, hNc⟩ : ∃ b, w8.heap.size = b := ⟨_, rfl⟩
    rw [hNc] at hz9 hx hbt ⊢
    have hFl : ∀ b ∈ F, b < Nc := fun b hb => by rw [← hNc]; exact HZ7.out.z.s.lt b hb
    have hBnl : Bn < Nc := by rw [← hNc]; exact lt_of_heap (HZ7.out.z.d (Bn, n3 m0 m1 m2, TN3) (by simp)).1.1
    have HX := Lib.hid hx; have HBt := Lib.hid hbt; have HFl := Lib.hid hFl
    clear hf hx hbt hNc HZ7 HW cn0 hFl
    have kn : ∀ (W : World) (f : Fn) (a b : Array Value), (binOp .eql 112 (.func f a b) .nilFunc).run Tryz.prog W = .ok (.bool false) W := fun W f a b => run_eql_func_nil W f a b Tryz.underlying112
    go_wp2_with fail
    have hbg := Bk.new w9 #[.slice none 0 0] TSs
    have hfg := Fr.alloc (fun _ => False) w9 (.cells #[.slice none 0 0] TSs)
    have hz0' : (w9.alloc (.cells #[.slice none 0 0] TSs)).heap.size = w9.heap.size + 1 := by simp
    generalize w9.alloc (.cells #[.slice none 0 0] TSs) = W0 at *
    rw [hz9] at hbg hz0'
    have HBg := Lib.hid hbg; have HFg := Lib.hid hfg; have HZ0 := Lib.hid hz0'; have HZ9 := Lib.hid hz9
    have hb := hfg.below (Nat.le_refl _) (fun _ _ h => h)
    have wt : wf64 m0 := by have := HM.out.1; unfold in64 at this; unfold wf64; omega
    have hseq := Sto.Trace_seq ((Nc + 1) :: F) B Nc (Nc + 1) f' L F m0 W0 (HZ8.out.z.s.keep hfg) (HX.out.fr hfg (fun _ _ h => h)) (HBt.out.fr hfg (fun _ _ h => h)) wt (fun b hb => by simp [hb]) (by simp) (fun b hb => by
     rcases List.mem_cons.1 hb with rfl | hb
     ·omega
     ·have := HFl.out b hb; omega)
    rw [show L.filter (ofT m0) = M from HMe.out] at hseq
    clear hbg hfg hz0' kn hb hz9 wt
    refine (wpIn_wide (n := 3)).1 ?_
    refine range_B (n := 3) (a₁ := ?fr) (gf := 120) (lb := #[.pointer (some ⟨Nc, 0, none⟩), .pointer (some ⟨Nc + 1, 0, none⟩)]) rfl (enters_of Tryz.func120 (by kernel_rfl) rfl)
     hseq (fun b hb => by
      have := HZ0.out; have := HZ9.out
      rcases List.mem_cons.1 hb with rfl | hb
      ·omega
      ·have := HFl.out b hb; omega) (fun _ => rfl)
     (fun (pre : List Sn) (W : World) => BG (Nc + 2) (W0.heap.size + 2 + 7) (Nc + 2) Bn w9 W m0 m1 m2 pre ∧ (pre = [] ∨ (pre.length : Int) < m2) ∧ W0.heap.size ≤ W.heap.size)
     (fun k (_ : List Sn) (W : World) => (k = .exit 2 ∧ ∃ pre, BG (Nc + 2) (W0.heap.size + 2 + 7) (Nc + 2) Bn w9 W m0 m1 m2 pre ∧ pre <+: M ∧ 1 ≤ pre.length ∧ m2 ≤ pre.length ∧ (pre.length = 1 ∨ (pre.length : Int) ≤ m2)) ∧ W0.heap.size ≤ W.heap.size)
     ?abI ?abX ?st (fun x => x.arr) TSn ?al ?assign ?body ?done ?stop
    case abI =>
     intro pre A C h hf
     have := HZ0.out; have := HZ9.out
     exact ⟨⟨h.1.c.abide hf (by omega) (fun h => by have := h.1; omega) (Nat.le_refl _) (by have := h.2.2; omega), h.1.n.fr hf (fun b hb h => by have e : b = Bn := List.mem_singleton.1 hb; have hh : W0.heap.size ≤ b := h.1; omega)⟩, h.2.1, Nat.le_trans h.2.2 hf.size⟩
    case abX =>
     intro k pre A C h hf
     have hz := HZ0.out; have := HZ9.out
     obtain ⟨⟨rfl, pr, h1, h2⟩, h3⟩ := h
     exact ⟨⟨rfl, pr, ⟨h1.c.abide hf (by omega) (fun h => by have := h.1; omega) (Nat.le_refl _) (by have : W0.heap.size ≤ A.heap.size := h3; omega), h1.n.fr hf (fun b hb h => by have e : b = Bn := List.mem_singleton.1 hb; have hh : W0.heap.size ≤ b := h.1; omega)⟩, h2⟩, Nat.le_trans h3 hf.size⟩
    case st => exact ⟨⟨Coll2.start HBg.out (HFg.out.below (Nat.le_of_eq HZ9.out.symm) (fun _ _ h => h)), ((HZ8.out.z.d (Bn, n3 m0 m1 m2, TN3) (by simp)).1.1).fr HFg.out (fun _ _ h => h)⟩, .inl rfl, Nat.le_refl _⟩
    case al =>
     intro pre W o h hsz
     have := HZ0.out
     have hf := Fr.alloc (fun _ => False) W o
     exact ⟨⟨h.1.c.keep hf (by omega), h.1.n.fr hf (fun _ _ h => h)⟩, h.2.1, by have := hf.size; have := h.2.2; omega⟩
    case assign =>
     intro l m x W b K hb hK
     gi_wp2_with fail
     exact hK
    case body =>
     rintro l m pre x b W ⟨hI, hlo, hsz0⟩ hbk hbb hsz hpre rfl ⟨r, hl⟩ hd
     (try dsimp only)
     have hml : pre.length < M.length := by have := hpre.length_le; rw [List.length_append, List.length_singleton] at this; omega
     obtain ⟨v, hv, hown, hbel⟩ := hI.c
     have hIn := hI.n
     have cv : W.cell? ⟨Nc + 2, 0, none⟩ = some v := hv.cell 0
     have fv := hv.free 0
     have HVv := Lib.hid hv; have HO := Lib.hid hown; have HBe := Lib.hid hbel; have HIn := Lib.hid hIn; have HLo := Lib.hid hlo; have HSz := Lib.hid hsz; have HPre := Lib.hid hpre
     have c0 : W.cell? ⟨b, 0, none⟩ = some (.int .i64 x.t) := hbk.cell 0
     have c1 : W.cell? ⟨b, 1, none⟩ = some (.int .i64 x.i) := hbk.cell 1
     have c2 : W.cell? ⟨b, 2, none⟩ = some (.int .i64 x.p) := hbk.cell 2
     have c3 : W.cell? ⟨b, 3, none⟩ = some (.int .i64 x.r) := hbk.cell 3
     have c4 : W.cell? ⟨b, 4, none⟩ = some (.string x.s) := hbk.cell 4
     have c5 : W.cell? ⟨b, 5, none⟩ = some (.string x.o) := hbk.cell 5
     have c6 : W.cell? ⟨b, 6, none⟩ = some (.int .i64 x.b) := hbk.cell 6
     have c7 : W.cell? ⟨b, 7, none⟩ = some (.int .i64 x.d) := hbk.cell 7
     have c8 : W.cell? ⟨b, 8, none⟩ = some (.bool x.g) := hbk.cell 8
     have hown' := hown.alloc (.cells x.arr TSn)
     have hne1 : ¬ Bn = (Nc + 2) := by have := HZ9.out; omega
     have hne2 : ¬ (Nc + 2) = Bn := by have := HZ9.out; omega
     have hszW : W0.heap.size + 2 + 7 ≤ W.heap.size := hsz
     clear hI hv hown hbel hIn hlo hsz hpre hl hd hsz0 hbk hbb
     gi_wp2_with (gi_at_builtin; refine wpListIn_append_own _ rfl (.tmp 104) (.tmp 106) TSs rfl (W0.heap.size + 2 + 7) TSn i0 (.agg #[.int .i64 0, .int .i64 0, .int .i64 0, .int .i64 0, .string ByteArray.empty, .string ByteArray.empty, .int .i64 0, .int .i64 0, .bool false]) 9 88 Tryz.underlying22 hi hz0 hz1_ hz2 rfl (by decide) _ _ _ rfl hown' ⟨W.heap.size, 0, none⟩ 1 1 x.cs rfl rfl (new_cells W TSn x.cs) (by simp [Value.oneCell']) (by unfold maxLen; omega) (by omega) (by simp; omega) ?_)
     intro v' w2 hown1 hgrow _
     obtain ⟨g', cap', rfl⟩ := ownsRow_succ hown1
     obtain ⟨k1, k2, k3⟩ := Coll2.step HVv.out HO.out HBe.out (by have := HZ0.out; omega) (Nat.le_refl _) (by have := HZ0.out; omega) hown1 hgrow
     have cv1 : w2.cell? ⟨Nc + 2, 0, none⟩ = some v := k1.cell 0
     have fv1 := k1.free 0
     have hn2 : Bk w2 Bn (n3 m0 m1 m2) TN3 := HIn.out.fr ((Fr.alloc (fun _ => False) W (.cells x.arr TSn)).trans (Fr.grown hgrow (S := fun b => W0.heap.size + 2 + 7 ≤ b) (fun k h => (ownsRow_blk HO.out k h).1)) (fun _ _ h => h.elim) (fun _ _ h => h)) (fun b hb h => by simp at hb; subst hb; have := HZ9.out; have := HZ0.out; omega)
     have cn2 : w2.cell? ⟨Bn, 2, none⟩ = some (.int .i64 m2) := hn2.cell 2
     have K2 := Lib.hid k2; have K3 := Lib.hid k3; have HN2 := Lib.hid hn2
     clear k1 k2 k3 hown1 hgrow hown' cv fv hn2 c0 c1 c2 c3 c4 c5 c6 c7 c8
     have hend : Hid (KeptR W0.heap.size (W0.heap.size + 2 + 7) W (w2.setCell ⟨Nc + 2, 0, none⟩ (.slice (some ⟨g', 0, none⟩) (pre.length + 1) cap')) ∧ KeptL ((Nc + 1) :: F) W (w2.setCell ⟨Nc + 2, 0, none⟩ (.slice (some ⟨g', 0, none⟩) (pre.length + 1) cap'))) := by
      have hz := HZ0.out; have hz6 := HZ9.out
      refine ⟨KeptR.of_fr K3.out HSz.out (fun b hb e => by have := hb.1; have := hb.2; omega), KeptL.of_fr K3.out (fun b hb => ?_)⟩
      rcases List.mem_cons.1 hb with rfl | hb
      ·exact ⟨by omega, by omega⟩
      ·have := HFl.out b hb; exact ⟨by omega, by omega⟩
     have HNx : Hid (BG (Nc + 2) (W0.heap.size + 2 + 7) (Nc + 2) Bn w9 (w2.setCell ⟨Nc + 2, 0, none⟩ (.slice (some ⟨g', 0, none⟩) (pre.length + 1) cap')) m0 m1 m2 (pre ++ [x])) := ⟨by rw [List.length_append, List.length_singleton, List.flatMap_append]; exact K2.out, HN2.out.fr (Fr.setCell w2 ⟨Nc + 2, 0, none⟩ _ (S := (· = (Nc + 2))) rfl) (fun b hb e => by simp at hb; subst hb; exact hne1 e)⟩
     by_cases hge : m2 ≤ (pre.length : Int) + 1
     ·have u1 : decide (m2 ≤ (pre.length : Int) + 1) = true := by simpa using hge
      have u2 : decide (m2 ≤ ((pre.length + 1 : Nat) : Int)) = true := by simp; omega
      have HGe := Lib.hid hge
      clear hge
      gi_wp2_with fail
      refine ⟨hend.out.1, K3.out.size, ⟨rfl, _, HNx.out, HPre.out, by simp, by have := HGe.out; simp; omega, ?_⟩, by have := K3.out.size; omega⟩
      rcases HLo.out with rfl | h
      ·exact .inl rfl
      ·right; simp; omega
     ·have u1 : decide (m2 ≤ (pre.length : Int) + 1) = false := by simpa using hge
      have u2 : decide (m2 ≤ ((pre.length + 1 : Nat) : Int)) = false := by simp; omega
      have HGe := Lib.hid hge
      clear hge
      gi_wp2_with fail
      exact ⟨hend.out.1, K3.out.size, hend.out.2, HNx.out, .inr (by have := HGe.out; simp; omega), by have := K3.out.size; omega⟩
    case done =>
     rintro W hsz ⟨hI, hlo, hsz0⟩ hK
     have hp : M <+: M := List.prefix_refl _
     have hcond : M.length = M.length ∧ (M = [] ∨ (M.length : Int) < m2) ∨ (1 ≤ M.length ∧ m2 ≤ M.length ∧ (M.length = 1 ∨ (M.length : Int) ≤ m2)) := .inl ⟨rfl, hlo⟩
     have hp1 := hp.length_le
     obtain ⟨hG1, hG2⟩ := got_of hp hcond
     obtain ⟨v, hv, hown, hbel⟩ := hI.c
     obtain ⟨Ag, cg, rfl, hSg, -⟩ := Sl.of_own hown
     have hPok : ∀ z ∈ M, z.ok := fun z hz => HW8.out.ok z (hp.subset hz)
     have HSt2 : Hid (SH W W Bn (Nc + 2) m0 m1 m2 Aw cw M Ag cg M) := ⟨Below.refl _ _, hI.n, HW8.out.below (hbel.mono (Nat.le_of_eq HZ9.out)), hv, ⟨hSg, hPok⟩⟩
     have hcw : M.length ≤ cw ∧ cw ≤ 9223372036854775807 := by have := HW8.out.s.2.1; have := HW8.out.s.2.2.1; unfold maxLen at this; omega
     have HK := Lib.hid hK; have HBe := Lib.hid hbel; have HG1 := Lib.hid hG1; have HG2 := Lib.hid hG2; have HSz := Lib.hid hsz
     clear hG1 hG2 hI hv hown hbel hSg hK hcond hp hsz hPok
     go_upto_region 22 with (fail)
     refine te22 (by kernel_rfl) _ _ W W Bn (Nc + 2) m0 m1 m2 Aw cw M Ag cg M M.length HSt2.out hp1 hcw.1 hcw.2 HG2.out (Lib.hid HG1.out.symm) (by simp) rfl rfl rfl ?_
     intro z w10 x4_ hst
     simp only [Eng.setAll, Act.put, List.setIfInBounds_toArray, List.set_cons_succ, List.set_cons_zero]
     rw [x4_]
     have HF9 := Lib.hid hst.f
     clear hst x4_ HSt2
     go_wp2_with fail
     try rw [Exit.noGoto_ret]
     have hK9 := (HF9.out.block W0.heap.size (by have := HSz.out; omega)).trans HK.out
     have hf := Fr.putObj w10 W0.heap.size (.deferred none) (S := (· = W0.heap.size)) rfl
     have hz := HZ0.out
     have hz9 := HF9.out.size
     have hzW := HSz.out
     have hB := HZ8.out.z.b
     have hzB := hB.size
     refine ⟨by simp, .inl ⟨_, _, rfl, run_takeDeferred hK9, ?_⟩⟩
     exact ⟨_, by simp [results, Tryz.results8, go_sem], rfl, hB.trans ((HBe.out.mono (by have := HZ9.out; omega)).trans ((HF9.out.mono (by omega)).trans (hf.below (by omega) (fun k hk e => by omega))))⟩
    case stop =>
     rintro k _ W hsz _ ⟨⟨rfl, pre, hI, hp, h1, h2, h3⟩, hsz0⟩ hK
     have hcond : pre.length = M.length ∧ (pre = [] ∨ (pre.length : Int) < m2) ∨ (1 ≤ pre.length ∧ m2 ≤ pre.length ∧ (pre.length = 1 ∨ (pre.length : Int) ≤ m2)) := .inr ⟨h1, h2, h3⟩
     refine (wpIn_wide (n := 3)).2 ?_
     have hp1 := hp.length_le
     obtain ⟨hG1, hG2⟩ := got_of hp hcond
     obtain ⟨v, hv, hown, hbel⟩ := hI.c
     obtain ⟨Ag, cg, rfl, hSg, -⟩ := Sl.of_own hown
     have hPok : ∀ z ∈ pre, z.ok := fun z hz => HW8.out.ok z (hp.subset hz)
     have HSt2 : Hid (SH W W Bn (Nc + 2) m0 m1 m2 Aw cw M Ag cg pre) := ⟨Below.refl _ _, hI.n, HW8.out.below (hbel.mono (Nat.le_of_eq HZ9.out)), hv, ⟨hSg, hPok⟩⟩
     have hcw : M.length ≤ cw ∧ cw ≤ 9223372036854775807 := by have := HW8.out.s.2.1; have := HW8.out.s.2.2.1; unfold maxLen at this; omega
     have HK := Lib.hid hK; have HBe := Lib.hid hbel; have HG1 := Lib.hid hG1; have HG2 := Lib.hid hG2; have HSz := Lib.hid hsz
     clear hG1 hG2 hI hv hown hbel hSg hK hcond hp hsz hPok
     go_upto_region 22 with (fail)
     refine te22 (by kernel_rfl) _ _ W W Bn (Nc + 2) m0 m1 m2 Aw cw M Ag cg pre pre.length HSt2.out hp1 hcw.1 hcw.2 HG2.out (Lib.hid HG1.out.symm) (by simp) rfl rfl rfl ?_
     intro z w10 x4_ hst
     simp only [Eng.setAll, Act.put, List.setIfInBounds_toArray, List.set_cons_succ, List.set_cons_zero]
     rw [x4_]
     have HF9 := Lib.hid hst.f
     clear hst x4_ HSt2
     go_wp2_with fail
     try rw [Exit.noGoto_ret]
     have hK9 := (HF9.out.block W0.heap.size (by have := HSz.out; omega)).trans HK.out
     have hf := Fr.putObj w10 W0.heap.size (.deferred none) (S := (· = W0.heap.size)) rfl
     have hz := HZ0.out
     have hz9 := HF9.out.size
     have hzW := HSz.out
     have hB := HZ8.out.z.b
     have hzB := hB.size
     refine ⟨by simp, .inl ⟨_, _, rfl, run_takeDeferred hK9, ?_⟩⟩
     exact ⟨_, by simp [results, Tryz.results8, go_sem], rfl, hB.trans ((HBe.out.mono (by have := HZ9.out; omega)).trans ((HF9.out.mono (by omega)).trans (hf.below (by omega) (fun k hk e => by omega))))⟩
end Law18
end Go.Proofs.YtdpngmgaomghoaaGreat
