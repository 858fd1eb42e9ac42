/- Layer 20's statements: KidsGiven: for every input the answer is true. -/
import Derived.Test.YtkhhdadlpilbmaaLaw20g
import Derived.Test.YtkhhdadlpilbmaaColl2
namespace Go.Proofs.Ytkhhdadlpilbmaa
open Go.RowKit Go.Shelf
attribute [local go_sem] Oper.semAt_some
namespace Law20
open KeyP SetP KidsP Kds
abbrev n3 (n0 n1 n2 : Int) : Array Value := #[.int .i64 n0, .int .i64 n1, .int .i64 n2]
/-- The indexes after some acts. -/
def GPost (w : World) (Bn B Bx : Nat) (n0 n1 n2 : Int) (n : Nat) (wr : World) : Prop := ∃ L F FX, SGv w wr Bn B Bx L L F FX n0 n1 n2 ∧ L.length ≤ n
theorem gstart (w : World) (n0 n1 n2 : Int) : GPost w w.heap.size (w.heap.size + 1) (w.heap.size + 1 + 1) n0 n1 n2 0 (((w.alloc (.cells (n3 n0 n1 n2) TN3)).alloc (.cells (cellsX none 0 none 0) TX)).alloc (.cells #[.slice none 0 0] Ref20.TR)) := by
  have z := (((Zs.start w).alloc (.cells (n3 n0 n1 n2) TN3)).alloc (.cells (cellsX none 0 none 0) TX)).alloc (.cells #[.slice none 0 0] Ref20.TR)
  have fa := fun (w : World) (o : Obj) => Fr.alloc (fun _ => False) w o
  have h0 := ((Bk.new w (n3 n0 n1 n2) TN3).fr (fa _ (.cells (cellsX none 0 none 0) TX)) (fun _ _ h => h)).fr (fa _ (.cells #[.slice none 0 0] Ref20.TR)) (fun _ _ h => h)
  have h1 := (IB.new (w.alloc (.cells (n3 n0 n1 n2) TN3))).fr (fa _ (.cells #[.slice none 0 0] Ref20.TR)) (fun _ _ h => h)
  have h2 := RX_new ((w.alloc (.cells (n3 n0 n1 n2) TN3)).alloc (.cells (cellsX none 0 none 0) TX))
  simp only [World.size_alloc, List.nil_append, List.cons_append] at z h1 h2
  exact ⟨[], [w.heap.size + 1], [w.heap.size + 1 + 1], ⟨z, h0, h1, h2⟩, by simp⟩
/-- What is got. -/
structure BG (n0 bs Bg Bn : Nat) (w0 W : World) (m0 m1 m2 : Int) (pre : List Int) : Prop where
  c : Coll2 n0 bs Bg TInts TI 1 w0 W pre.length (ints pre)
  n : Bk W Bn (n3 m0 m1 m2) TN3
theorem got_of {LL pre : List Int} {n2 : Int} (hp : pre <+: LL) (h : pre.length = LL.length ∧ (pre = [] ∨ (pre.length : Int) < n2) ∨ (1 ≤ pre.length ∧ n2 ≤ pre.length ∧ (pre.length = 1 ∨ (pre.length : Int) ≤ n2))) : pre = LL.take pre.length ∧ (if (if 1 < n2 then n2 else 1) < (LL.length : Int) then (if 1 < n2 then n2 else 1) else (LL.length : Int)) = (pre.length : Int) := by
  obtain ⟨t, rfl⟩ := hp
  refine ⟨by simp, ?_⟩
  rw [List.length_append] at h ⊢
  rcases h with ⟨h1, h2⟩ | ⟨h1, h2, h3⟩
  · rcases h2 with rfl | h2
    · have ht : t.length = 0 := by have h1' : (0 : Nat) = 0 + t.length := h1; omega
      rw [ht]; simp only [List.length_nil]; split <;> split <;> omega
    · split <;> split <;> omega
  · split <;> split <;> omega
set_option maxRecDepth 100000 in
set_option maxHeartbeats 4000000 in
theorem given (A0 : Option Addr) (c0 : Nat) (acts : List Ac) (n0 n1 n2 : Int) (w : World) (hS0 : Sl w 10 A0 acts.length c0 (acts.flatMap ac)) (hG : ∀ a ∈ acts, a.s.ok) (wn0 : wf64 n0) (wn1 : wf64 n1) :
    Calls Try.prog 4 #[.slice A0 acts.length c0, .agg (n3 n0 n1 n2)] w fun e w' => e = .returned (.bool true) ∧ Below w.heap.size w w' := by
  obtain ⟨i0, hi, hz0, hz1_, hz2⟩ := info_parts Kds.infoN
  by_cases hfew : 40 < acts.length
  · have t1 : decide (40 < acts.length) = true := by simpa using hfew
    have t2 : decide ((40 : Int) < (acts.length : Int)) = true := by simp; omega
    have HF0 := Lib.hid (Fr.alloc (fun _ => False) w (.cells (n3 n0 n1 n2) TN3))
    clear hfew hS0 hG
    go_enter Try.func4, Try.ntmps4
    go_wp2_with fail
    refine (awake _).mono ?_
    rintro e w1 ⟨rfl, hb⟩
    have HB := Lib.hid (HF0.out.trans hb (T := fun _ => False) (fun _ _ h => h) (fun _ _ h => h))
    clear hb
    go_wp2_with fail
    go_ret
    exact ⟨rfl, HB.out.below (Nat.le_refl _) (fun _ _ h => h)⟩
  · have t1 : decide (40 < acts.length) = false := by simpa using hfew
    have t2 : decide ((40 : Int) < (acts.length : Int)) = false := by simp; omega
    have hl : acts.length ≤ 40 := by omega
    have HL0 := Lib.hid hS0; have HGa := Lib.hid hG
    have HS0 := Lib.hid (gstart w n0 n1 n2)
    clear hS0 hfew hG
    refine (callsIn_wide (n := 3)).1 ?_
    refine callsIn_of_wp_marks Try.func4 rfl trivial ?_ rfl
    simp only [Try.ntmps4, List.size_toArray, List.length_cons, List.length_nil, Nat.reduceAdd, Nat.reduceSub, Array.replicate_succ, Array.replicate_zero, List.push_toArray, List.append_toArray, List.nil_append, List.cons_append]
    refine wpIn_wide.2 ?_
    go_wp2_with fail
    generalize ((w.alloc (.cells (n3 n0 n1 n2) TN3)).alloc (.cells (cellsX none 0 none 0) TX)).alloc (.cells #[.slice none 0 0] Ref20.TR) = w3 at *
    generalize hB : w.heap.size = Bn at *
    have HBB := Lib.hid hB
    clear hB
    generalize Bn + 1 = B at *
    generalize B + 1 = Bx at *
    go_loopg [7] acts.length (fun gk i wr => ∃ j : Nat, i = .int .i64 j ∧ j ≤ acts.length ∧ gk = acts.length - j ∧ GPost w Bn B Bx n0 n1 n2 j wr)
    case atStart => exact ⟨0, rfl, Nat.zero_le _, rfl, HS0.out⟩
    case round =>
      clear HS0
      obtain ⟨j, rfl, hj, hg, L, F, FX, hst, hln⟩ := hrel
      have HG := Lib.hid hg; have HSt := Lib.hid hst; have HLn0 := Lib.hid hln
      have hll : L.length ≤ 40 := by omega
      have HSrs := Lib.hid hst.i.rel.1
      clear hg hst hln
      by_cases hlt : j < acts.length
      · obtain ⟨b1, o1, rfl, hb1, hcs⟩ := HL0.out.at hlt (by omega)
        have d0 : wr.cell? ⟨b1, o1 + j * 10, none⟩ = some (.int .i64 acts[j].k) := HSt.out.old hb1 (hcs (j * 10) _ (by rw [← Nat.add_zero (j * 10), flat_at ac_len hlt (by omega)]; rfl))
        have E0 : w.cell? ⟨b1, o1 + j * 10 + 1, none⟩ = some (.int .i64 acts[j].s.t) := hcs (j * 10 + 1) _ (by rw [flat_at ac_len hlt (by omega)]; rfl)
        have E1 : w.cell? ⟨b1, o1 + j * 10 + 1 + 1, none⟩ = some (.int .i64 acts[j].s.i) := hcs (j * 10 + 2) _ (by rw [flat_at ac_len hlt (by omega)]; rfl)
        have E2 : w.cell? ⟨b1, o1 + j * 10 + 1 + 1 + 1, none⟩ = some (.int .i64 acts[j].s.p) := hcs (j * 10 + 3) _ (by rw [flat_at ac_len hlt (by omega)]; rfl)
        have E3 : w.cell? ⟨b1, o1 + j * 10 + 1 + 1 + 1 + 1, none⟩ = some (.int .i64 acts[j].s.r) := hcs (j * 10 + 4) _ (by rw [flat_at ac_len hlt (by omega)]; rfl)
        have E4 : w.cell? ⟨b1, o1 + j * 10 + 1 + 1 + 1 + 1 + 1, none⟩ = some (.string acts[j].s.s) := hcs (j * 10 + 5) _ (by rw [flat_at ac_len hlt (by omega)]; rfl)
        have E5 : w.cell? ⟨b1, o1 + j * 10 + 1 + 1 + 1 + 1 + 1 + 1, none⟩ = some (.string acts[j].s.o) := hcs (j * 10 + 6) _ (by rw [flat_at ac_len hlt (by omega)]; rfl)
        have E6 : w.cell? ⟨b1, o1 + j * 10 + 1 + 1 + 1 + 1 + 1 + 1 + 1, none⟩ = some (.int .i64 acts[j].s.b) := hcs (j * 10 + 7) _ (by rw [flat_at ac_len hlt (by omega)]; rfl)
        have E7 : w.cell? ⟨b1, o1 + j * 10 + 1 + 1 + 1 + 1 + 1 + 1 + 1 + 1, none⟩ = some (.int .i64 acts[j].s.d) := hcs (j * 10 + 8) _ (by rw [flat_at ac_len hlt (by omega)]; rfl)
        have E8 : w.cell? ⟨b1, o1 + j * 10 + 1 + 1 + 1 + 1 + 1 + 1 + 1 + 1 + 1, none⟩ = some (.bool acts[j].s.g) := hcs (j * 10 + 9) _ (by rw [flat_at ac_len hlt (by omega)]; rfl)
        have HGy := Lib.hid (HGa.out _ (List.getElem_mem hlt))
        clear hcs
        generalize acts[j] = y at *
        obtain ⟨kd, q⟩ := y
        dsimp only at d0 E0 E1 E2 E3 E4 E5 E6 E7 E8 HGy
        have HGd : Hid (gd q) := ok_gd HGy.out
        by_cases h1 : kd = 2
        · have k1 : (kd == 2) = true := by simp [h1]
          have HE0 := Lib.hid E0; have HE1 := Lib.hid E1
          clear h1 E0 E1 E2 E3 E4 E5 E6 E7 E8
          go_upto_region 9 with (fail)
          refine kg9 (by kernel_rfl) _ _ w _ Bn B Bx L L F FX n0 n1 n2 b1 o1 acts.length c0 j q.t q.i HSt.out hlt (by omega) hb1 HE0.out HE1.out HGd.out.1 HGd.out.2.1 (by omega) rfl rfl rfl rfl ?_
          intro x wk F2 hst
          simp only [Eng.setAll, Act.put, List.setIfInBounds_toArray, List.set_cons_succ, List.set_cons_zero]
          have HX := Lib.hid hst
          clear hst HSt d0
          go_upto_region 10 with (fail)
          refine kg10 (by kernel_rfl) _ _ w _ Bn B Bx _ L F2 FX n0 n1 n2 b1 o1 acts.length c0 j q.t q.i HX.out hlt (by omega) hb1 HE0.out HE1.out HSrs.out (by omega) rfl rfl rfl rfl ?_
          intro x wk2 FX2 hst
          simp only [Eng.setAll, Act.put, List.setIfInBounds_toArray, List.set_cons_succ, List.set_cons_zero]
          have HX2 := Lib.hid hst
          clear hst HX
          go_wp2_with fail
          go_roundg (acts.length - (j + 1))
          case rel => exact ⟨j + 1, by go_num, by omega, rfl, _, F2, FX2, HX2.out, by have := out_len q.t q.i L; have := HLn0.out; omega⟩
          case measure => have := HG.out; omega
        · have k1 : (kd == 2) = false := by simp [h1]
          clear h1
          have f0 := HSt.out.old hb1 E0
          have f1 := HSt.out.old hb1 E1
          have f2 := HSt.out.old hb1 E2
          have f3 := HSt.out.old hb1 E3
          have f4 := HSt.out.old hb1 E4
          have f5 := HSt.out.old hb1 E5
          have f6 := HSt.out.old hb1 E6
          have f7 := HSt.out.old hb1 E7
          have f8 := HSt.out.old hb1 E8
          go_wp2_with fail
          refine (HSt.out.put HGd.out (by omega)).mono ?_
          rintro e w4 ⟨rfl, F2, h⟩
          have HX := Lib.hid h
          clear h f0 f1 f2 f3 f4 f5 f6 f7 f8 d0 HSt
          have f0 := HX.out.old hb1 E0
          have f1 := HX.out.old hb1 E1
          have f2 := HX.out.old hb1 E2
          have f3 := HX.out.old hb1 E3
          have f4 := HX.out.old hb1 E4
          have f5 := HX.out.old hb1 E5
          have f6 := HX.out.old hb1 E6
          have f7 := HX.out.old hb1 E7
          have f8 := HX.out.old hb1 E8
          clear E0 E1 E2 E3 E4 E5 E6 E7 E8
          go_wp2_with fail
          refine (HX.out.putX q (by omega)).mono ?_
          rintro e w5 ⟨rfl, FX2, h⟩
          have HX2 := Lib.hid h
          clear h f0 f1 f2 f3 f4 f5 f6 f7 f8 HX
          go_wp2_with fail
          go_roundg (acts.length - (j + 1))
          case rel => exact ⟨j + 1, by go_num, by omega, rfl, _, F2, FX2, HX2.out, by have := putK_len q HSrs.out; have := HLn0.out; omega⟩
          case measure => have := HG.out; omega
      · obtain rfl : j = acts.length := by omega
        have cn0 : wr.cell? ⟨Bn, 0, none⟩ = some (.int .i64 n0) := HSt.out.n.cell 0
        have cn1 : wr.cell? ⟨Bn, 1, none⟩ = some (.int .i64 n1) := HSt.out.n.cell 1
        go_wp2_with fail
        refine (RKids Bx L FX n0 n1 wr HSt.out.x (by omega)).mono ?_
        rintro e w5 ⟨Aw, cw, rfl, hS, hf⟩
        have H5 := Lib.hid (HSt.out.fr hf); have HSw := Lib.hid hS
        clear hf hS cn0 cn1 HSt
        have cn0 : w5.cell? ⟨Bn, 0, none⟩ = some (.int .i64 n0) := H5.out.n.cell 0
        have cn1 : w5.cell? ⟨Bn, 1, none⟩ = some (.int .i64 n1) := H5.out.n.cell 1
        have kn : ∀ (W : World) (f : Fn) (a b : Array Value), (binOp .eql 53 (.func f a b) .nilFunc).run Try.prog W = .ok (.bool false) W := fun W f a b => run_eql_func_nil W f a b Try.underlying53
        have hkl : (kids n0 n1 L).length ≤ 40 := Nat.le_trans (Ref20.kids_len n0 n1 L) (by omega)
        generalize hM : kids n0 n1 L = M at *
        have HM := Lib.hid hM
        clear hM
        go_wp2_with fail
        refine (Kids_ (some ⟨B, 0, none⟩) n0 n1 w5).mono ?_
        rintro e w6 ⟨rfl, hgw, hbx, hbt, hbi⟩
        have H6 := Lib.hid (H5.out.fr hgw.f); have HSw6 := Lib.hid (HSw.out.fr hgw.f (fun _ _ h => h))
        have HBx := Lib.hid hbx; have HBt := Lib.hid hbt; have HBi := Lib.hid hbi; have HZ6 := Lib.hid hgw.z
        clear hgw hbx hbt hbi cn0 cn1 HSw
        go_wp2_with fail
        have hbg := Bk.new w6 #[.slice none 0 0] TInts
        have hfg := Fr.alloc (fun _ => False) w6 (.cells #[.slice none 0 0] TInts)
        have hz0 : (w6.alloc (.cells #[.slice none 0 0] TInts)).heap.size = w6.heap.size + 1 := by simp
        generalize w6.alloc (.cells #[.slice none 0 0] TInts) = W0 at *
        have HBg := Lib.hid hbg; have HFg := Lib.hid hfg; have HZ0 := Lib.hid hz0
        have h7 := H6.out.fr hfg
        have hseq := Kids_seq ((w5.heap.size + 1) :: (w5.heap.size + 2) :: F) B w5.heap.size (w5.heap.size + 1) (w5.heap.size + 2) L F n0 n1 W0 h7.i (HBx.out.fr hfg (fun _ _ h => h)) (HBt.out.fr hfg (fun _ _ h => h)) (HBi.out.fr hfg (fun _ _ h => h)) wn0 wn1 (fun b hb => by simp [hb]) (by simp) (by simp) (fun b hb => by
          have := HZ6.out
          rcases List.mem_cons.1 hb with rfl | hb
          · omega
          · rcases List.mem_cons.1 hb with rfl | hb
            · omega
            · exact h7.i.lt b hb)
        rw [HM.out] at hseq
        have HFlt : Hid (∀ b ∈ F, b < w6.heap.size) := H6.out.i.lt
        have H7 := Lib.hid h7
        have HBnz : Hid (Bn < w6.heap.size) := lt_of_heap H6.out.n
        clear hbg hfg hz0 h7 kn
        refine (wpIn_wide (n := 3)).1 ?_
        refine range_P' (n := 3) (a₁ := ?fr) (gf := 77) (lb := #[.pointer (some ⟨w5.heap.size, 0, none⟩), .pointer (some ⟨w5.heap.size + 1, 0, none⟩), .pointer (some ⟨w5.heap.size + 2, 0, none⟩)]) rfl (enters_of Try.func77 (by kernel_rfl) rfl)
          hseq (fun b hb => by
            have := HZ0.out; have := HZ6.out
            rcases List.mem_cons.1 hb with rfl | hb
            · omega
            · rcases List.mem_cons.1 hb with rfl | hb
              · omega
              · have := HFlt.out b hb; omega) (fun _ => rfl)
          (fun (pre : List Int) (W : World) => BG w6.heap.size (W0.heap.size + 2 + 8) w6.heap.size Bn w6 W n0 n1 n2 pre ∧ (pre = [] ∨ (pre.length : Int) < n2) ∧ W0.heap.size ≤ W.heap.size)
          (fun k (_ : List Int) (W : World) => (k = .exit 2 ∧ ∃ pre, BG w6.heap.size (W0.heap.size + 2 + 8) w6.heap.size Bn w6 W n0 n1 n2 pre ∧ pre <+: M ∧ 1 ≤ pre.length ∧ n2 ≤ pre.length ∧ (pre.length = 1 ∨ (pre.length : Int) ≤ n2)) ∧ W0.heap.size ≤ W.heap.size)
          ?abI ?abX ?st ?assign ?body ?done ?stop
        case abI =>
          intro pre A C h hf
          have := HZ0.out
          exact ⟨⟨h.1.c.abide hf (by omega) (fun h => by have := h.1; omega) (Nat.le_refl _) (by have := h.2.2; omega), h.1.n.fr hf (fun b hb h => by have e : b = Bn := List.mem_singleton.1 hb; have hh : W0.heap.size ≤ b := h.1; have := HZ0.out; have := HBnz.out; omega)⟩, h.2.1, Nat.le_trans h.2.2 hf.size⟩
        case abX =>
          intro k pre A C h hf
          have hz := HZ0.out
          have hbn := HBnz.out
          obtain ⟨⟨rfl, pr, h1, h2⟩, h3⟩ := h
          exact ⟨⟨rfl, pr, ⟨h1.c.abide hf (by omega) (fun h => by have := h.1; omega) (Nat.le_refl _) (by have : W0.heap.size ≤ A.heap.size := h3; omega), h1.n.fr hf (fun b hb h => by have e : b = Bn := List.mem_singleton.1 hb; have hh : W0.heap.size ≤ b := h.1; omega)⟩, h2⟩, Nat.le_trans h3 hf.size⟩
        case st => exact ⟨⟨Coll2.start HBg.out (HFg.out.below (Nat.le_refl _) (fun _ _ h => h)), H7.out.n⟩, .inl rfl, Nat.le_refl _⟩
        case assign =>
          intro l m x W K hK
          gi_wp2
          exact hK
        case body =>
          rintro l m pre x W ⟨hI, hlo, hsz0⟩ hsz hpre rfl ⟨r, hl⟩ hd
          (try dsimp only)
          have hml : pre.length < M.length := by have := hpre.length_le; rw [List.length_append, List.length_singleton] at this; omega
          obtain ⟨v, hv, hown, hbel⟩ := hI.c
          have hIn := hI.n
          have cv : W.cell? ⟨w6.heap.size, 0, none⟩ = some v := hv.cell 0
          have fv := hv.free 0
          have HV := Lib.hid hv; have HO := Lib.hid hown; have HBe := Lib.hid hbel; have HIn := Lib.hid hIn; have HLo := Lib.hid hlo; have HSz := Lib.hid hsz; have HPre := Lib.hid hpre
          have hown' := hown.alloc (.cells #[.int .i64 x] TI)
          have hne1 : ¬ Bn = w6.heap.size := by have := HBnz.out; omega
          have hne2 : ¬ w6.heap.size = Bn := by have := HBnz.out; omega
          have hszW : W0.heap.size + 2 + 8 ≤ W.heap.size := hsz
          clear hI hv hown hbel hIn hlo hsz hpre hl hd hsz0
          gi_wp2_with (gi_at_builtin; refine wpListIn_append_own _ rfl (.tmp 85) (.tmp 87) TInts rfl (W0.heap.size + 2 + 8) TI i0 (.int .i64 0) 1 8 Try.underlying43 hi hz0 hz1_ hz2 rfl (by decide) _ _ _ rfl hown' ⟨W.heap.size, 0, none⟩ 1 1 [.int .i64 x] rfl rfl (new_cells W TI [.int .i64 x]) (by simp [Value.oneCell']) (by unfold maxLen; omega) (by omega) (by simp; omega) ?_)
          intro v' w2 hown1 hgrow _
          obtain ⟨g', cap', rfl⟩ := ownsRow_succ hown1
          obtain ⟨k1, k2, k3⟩ := Coll2.step HV.out HO.out HBe.out (by have := HZ0.out; omega) (Nat.le_refl _) (by have := HZ0.out; omega) hown1 hgrow
          have cv1 : w2.cell? ⟨w6.heap.size, 0, none⟩ = some v := k1.cell 0
          have fv1 := k1.free 0
          have hn2 : Bk w2 Bn (n3 n0 n1 n2) TN3 := HIn.out.fr ((Fr.alloc (fun _ => False) W (.cells #[.int .i64 x] TI)).trans (Fr.grown hgrow (S := fun b => W0.heap.size + 2 + 8 ≤ b) (fun k h => (ownsRow_blk HO.out k h).1)) (fun _ _ h => h.elim) (fun _ _ h => h)) (fun b hb h => by simp at hb; subst hb; have := HBnz.out; have := HZ0.out; omega)
          have cn2 : w2.cell? ⟨Bn, 2, none⟩ = some (.int .i64 n2) := hn2.cell 2
          have K2 := Lib.hid k2; have K3 := Lib.hid k3; have HN2 := Lib.hid hn2
          clear k1 k2 k3 hown1 hgrow hown' cv fv hn2
          have hend : Hid (KeptR W0.heap.size (W0.heap.size + 2 + 8) W (w2.setCell ⟨w6.heap.size, 0, none⟩ (.slice (some ⟨g', 0, none⟩) (pre.length + 1) cap')) ∧ KeptL ((w5.heap.size + 1) :: (w5.heap.size + 2) :: F) W (w2.setCell ⟨w6.heap.size, 0, none⟩ (.slice (some ⟨g', 0, none⟩) (pre.length + 1) cap'))) := by
            have hz := HZ0.out; have hz6 := HZ6.out
            refine ⟨KeptR.of_fr K3.out HSz.out (fun b hb e => by have := hb.1; have := hb.2; omega), KeptL.of_fr K3.out (fun b hb => ?_)⟩
            rcases List.mem_cons.1 hb with rfl | hb
            · exact ⟨by omega, by omega⟩
            · rcases List.mem_cons.1 hb with rfl | hb
              · exact ⟨by omega, by omega⟩
              · have := HFlt.out b hb; exact ⟨by omega, by omega⟩
          have HNx : Hid (BG w6.heap.size (W0.heap.size + 2 + 8) w6.heap.size Bn w6 (w2.setCell ⟨w6.heap.size, 0, none⟩ (.slice (some ⟨g', 0, none⟩) (pre.length + 1) cap')) n0 n1 n2 (pre ++ [x])) := ⟨by rw [List.length_append, List.length_singleton, ints, List.map_append]; exact K2.out, HN2.out.fr (Fr.setCell w2 ⟨w6.heap.size, 0, none⟩ _ (S := (· = w6.heap.size)) rfl) (fun b hb e => by simp at hb; subst hb; exact hne1 e)⟩
          by_cases hge : n2 ≤ (pre.length : Int) + 1
          · have u1 : decide (n2 ≤ (pre.length : Int) + 1) = true := by simpa using hge
            have u2 : decide (n2 ≤ ((pre.length + 1 : Nat) : Int)) = true := by simp; omega
            have HGe := Lib.hid hge
            clear hge
            gi_wp2_with fail
            refine ⟨hend.out.1, K3.out.size, ⟨rfl, _, HNx.out, HPre.out, by simp, by have := HGe.out; simp; omega, ?_⟩, by have := K3.out.size; omega⟩
            rcases HLo.out with rfl | h
            · exact .inl rfl
            · right; simp; omega
          · have u1 : decide (n2 ≤ (pre.length : Int) + 1) = false := by simpa using hge
            have u2 : decide (n2 ≤ ((pre.length + 1 : Nat) : Int)) = false := by simp; omega
            have HGe := Lib.hid hge
            clear hge
            gi_wp2_with fail
            exact ⟨hend.out.1, K3.out.size, hend.out.2, HNx.out, .inr (by have := HGe.out; simp; omega), by have := K3.out.size; omega⟩
        case done =>
          rintro W hsz ⟨hI, hlo, hsz0⟩ hK
          have hp : M <+: M := List.prefix_refl _
          have hcond : M.length = M.length ∧ (M = [] ∨ (M.length : Int) < n2) ∨ (1 ≤ M.length ∧ n2 ≤ M.length ∧ (M.length = 1 ∨ (M.length : Int) ≤ n2)) := .inl ⟨rfl, hlo⟩
          have hp1 := hp.length_le
          obtain ⟨hG1, hG2⟩ := got_of hp hcond
          obtain ⟨v, hv, hown, hbel⟩ := hI.c
          obtain ⟨Ag, cg, rfl, hSg, -⟩ := Sl.of_own hown
          have hfb := Fr.of_below' hbel (fun _ => False)
          have HSt2 : Hid (SH2 W W Bn w6.heap.size n0 n1 n2 Aw cw M Ag cg M) := ⟨Fr.refl _ _, hI.n, HSw6.out.fr hfb (fun _ _ h => h), hv, hSg⟩
          have hcw : M.length ≤ cw ∧ cw ≤ 9223372036854775807 := by have := HSw6.out.2.1; have := HSw6.out.2.2.1; unfold maxLen at this; omega
          have HK := Lib.hid hK; have HBe := Lib.hid hbel; have HG1 := Lib.hid hG1; have HG2 := Lib.hid hG2; have HSz := Lib.hid hsz
          clear hG1 hG2 hI hv hown hbel hSg hfb hK hcond hp hsz hlo hsz0
          go_upto_region 22 with (fail)
          refine kg22 (by kernel_rfl) _ _ W W Bn w6.heap.size n0 n1 n2 Aw cw M Ag cg M M.length HSt2.out hp1 hcw.1 hcw.2 _ rfl HG2.out (Lib.hid rfl) (Lib.hid HG1.out.symm) rfl rfl rfl rfl ?_
          intro z w9 x4_ hst
          simp only [Eng.setAll, Act.put, List.setIfInBounds_toArray, List.set_cons_succ, List.set_cons_zero]
          rw [x4_]
          have HF9 := Lib.hid hst.f
          clear hst x4_ HSt2
          go_wp2_with fail
          try rw [Exit.noGoto_ret]
          have hK9 := (HF9.out.block W0.heap.size (by have := HSz.out; omega) (fun h => h)).trans HK.out
          refine ⟨by simp, .inl ⟨_, _, rfl, run_takeDeferred hK9, ?_⟩⟩
          have hf := Fr.putObj w9 W0.heap.size (.deferred none) (S := (· = W0.heap.size)) rfl
          have h0 := H6.out.zs.n0le
          have hz := HZ0.out
          have hz9 := HF9.out.size
          have hzW := HSz.out
          exact ⟨_, by simp [results, Try.results4, go_sem], rfl, H6.out.zs.bel.trans ((HBe.out.mono h0).trans ((HF9.out.below (by omega) (fun _ _ h => h)).trans (hf.below (by omega) (fun k hk e => by omega))))⟩
        case stop =>
          rintro k _ W hsz _ ⟨⟨rfl, pre, hI, hp, h1, h2, h3⟩, hsz0⟩ hK
          have hcond : pre.length = M.length ∧ (pre = [] ∨ (pre.length : Int) < n2) ∨ (1 ≤ pre.length ∧ n2 ≤ pre.length ∧ (pre.length = 1 ∨ (pre.length : Int) ≤ n2)) := .inr ⟨h1, h2, h3⟩
          refine (wpIn_wide (n := 3)).2 ?_
          have hp1 := hp.length_le
          obtain ⟨hG1, hG2⟩ := got_of hp hcond
          obtain ⟨v, hv, hown, hbel⟩ := hI.c
          obtain ⟨Ag, cg, rfl, hSg, -⟩ := Sl.of_own hown
          have hfb := Fr.of_below' hbel (fun _ => False)
          have HSt2 : Hid (SH2 W W Bn w6.heap.size n0 n1 n2 Aw cw M Ag cg pre) := ⟨Fr.refl _ _, hI.n, HSw6.out.fr hfb (fun _ _ h => h), hv, hSg⟩
          have hcw : M.length ≤ cw ∧ cw ≤ 9223372036854775807 := by have := HSw6.out.2.1; have := HSw6.out.2.2.1; unfold maxLen at this; omega
          have HK := Lib.hid hK; have HBe := Lib.hid hbel; have HG1 := Lib.hid hG1; have HG2 := Lib.hid hG2; have HSz := Lib.hid hsz
          clear hG1 hG2 hI hv hown hbel hSg hfb hK hcond hp hsz h1 h2 h3 hsz0
          go_upto_region 22 with (fail)
          refine kg22 (by kernel_rfl) _ _ W W Bn w6.heap.size n0 n1 n2 Aw cw M Ag cg pre pre.length HSt2.out hp1 hcw.1 hcw.2 _ rfl HG2.out (Lib.hid rfl) (Lib.hid HG1.out.symm) rfl rfl rfl rfl ?_
          intro z w9 x4_ hst
          simp only [Eng.setAll, Act.put, List.setIfInBounds_toArray, List.set_cons_succ, List.set_cons_zero]
          rw [x4_]
          have HF9 := Lib.hid hst.f
          clear hst x4_ HSt2
          go_wp2_with fail
          try rw [Exit.noGoto_ret]
          have hK9 := (HF9.out.block W0.heap.size (by have := HSz.out; omega) (fun h => h)).trans HK.out
          refine ⟨by simp, .inl ⟨_, _, rfl, run_takeDeferred hK9, ?_⟩⟩
          have hf := Fr.putObj w9 W0.heap.size (.deferred none) (S := (· = W0.heap.size)) rfl
          have h0 := H6.out.zs.n0le
          have hz := HZ0.out
          have hz9 := HF9.out.size
          have hzW := HSz.out
          exact ⟨_, by simp [results, Try.results4, go_sem], rfl, H6.out.zs.bel.trans ((HBe.out.mono h0).trans ((HF9.out.below (by omega) (fun _ _ h => h)).trans (hf.below (by omega) (fun k hk e => by omega))))⟩
end Law20
end Go.Proofs.Ytkhhdadlpilbmaa
