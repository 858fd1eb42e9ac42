/- Layer 18's statements: StoreFull: for every input the answer is true. -/
import Derived.Test.YtdpngmgaomghoaaGreatLaw18s
import Derived.Test.YtdpngmgaomghoaaGreatSto78
namespace Go.Proofs.YtdpngmgaomghoaaGreat
open Go.RowKit
namespace Law18
open Name KeyP PackP SetP SetW SetF Delta Sto BagP
attribute [local go_sem] Eng.ev Eng.getO_cons Eng.getO_nil
theorem few_len {l : List Ac} {m : Nat} (h : fewsB l m = true) : l.length ≤ m ∧ ∀ a ∈ l, a.L.length ≤ 12 := by
  unfold fewsB at h
  rw [Bool.and_eq_true, List.all_eq_true] at h
  have h2 : l.length ≤ m := of_decide_eq_true h.2
  refine ⟨h2, fun a ha => ?_⟩
  have := h.1 a (by rwa [List.take_of_length_le h2])
  unfold fewB at this
  simp at this
  exact this.2
theorem doF_c (f : Cf) (a : Ac) : (doF f a).sp = f.sp ∧ (doF f a).tr = f.tr ∧ (doF f a).wi = f.wi := by
  unfold doF tickF
  split
  · split <;> exact ⟨rfl, rfl, rfl⟩
  · exact ⟨rfl, rfl, rfl⟩
theorem doL_len (f : Cf) (L : List Sn) (a : Ac) : (doL f L a).length ≤ L.length + a.L.length := by
  unfold doL tickL putL
  split
  · split
    · omega
    · have := List.length_filter_le (fun x => !past (hz (f.at a.n)) x) L; omega
  · split
    · have := setOf_len (L ++ a.L); rw [List.length_append] at this; exact this
    · omega
theorem put_fits {f : Cf} {L l : List Sn} (hL : Ok L) (h : fits (max f.sp 0) (max f.tr 0) L = true) : fits (max f.sp 0) (max f.tr 0) (putL f L l) = true := by
  unfold putL
  split
  · rename_i hc
    unfold canE at hc
    split at hc
    · rename_i hm; rw [hc] at hm; simp at hm
    · split at hc
      · rename_i hk
        rw [room hL (setOf_ok l) h, Bool.or_eq_true] at hk
        rcases hk with hk | hk
        · have h1 := next_eq hL (setOf_ok l)
          rw [in_eq hL (setOf_ok l), of_decide_eq_true hk] at h1
          rw [← setOf_app_r, ← h1]
          exact h
        · rwa [setOf_app_r] at hk
      · cases hc
  · exact h
theorem len_sum : ∀ (M : List (Int × Int)), (∀ x ∈ M, 0 < x.2) → (M.length : Int) ≤ sumL M
  | [], _ => by simp [sumL]
  | x :: M, h => by
    have h1 := len_sum M (fun y hy => h y (List.mem_cons_of_mem _ hy))
    have h2 := h x List.mem_cons_self
    rw [List.length_cons]
    have h3 : sumL (x :: M) = x.2 + sumL M := by simp [sumL]
    omega
theorem cts_len (L : List Sn) : (cts L).length ≤ L.length := by
  have h1 := len_sum (cts L) (fun x hx => (cts_cs L).pos x hx)
  rw [cts_sum] at h1
  omega
theorem do_fits {f : Cf} {L : List Sn} {a : Ac} (hL : Ok L) (h : fits (max f.sp 0) (max f.tr 0) L = true) : fits (max f.sp 0) (max f.tr 0) (doL f L a) = true := by
  unfold doL tickL
  split
  · split
    · exact h
    · exact fits_drop _ h
  · exact put_fits hL h
structure FX (w0 w : World) (B : Nat) (f2 : Cf) (L2 : List Sn) (F2 : List Nat) (Bc : Nat) (f : Cf) (A3 : Option Addr) (c3 b2 oj : Nat) (t : Int) : Prop where
  z : AZ w0 w B f2 L2 F2 [(Bc, cfc f, TCf)] [(A3, c3, L2)]
  c : w.cell? ⟨b2, oj, none⟩ = some (.int .i64 t)
theorem FX.below {w0 w w' : World} {B : Nat} {f2 : Cf} {L2 : List Sn} {F2 : List Nat} {Bc : Nat} {f : Cf} {A3 : Option Addr} {c3 b2 oj : Nat} {t : Int} (h : FX w0 w B f2 L2 F2 Bc f A3 c3 b2 oj t) (hb : Below w.heap.size w w') : FX w0 w' B f2 L2 F2 Bc f A3 c3 b2 oj t :=
  ⟨h.z.below hb, (hb.cell (p := ⟨b2, oj, none⟩) (World.block_lt_of_cell? w ⟨b2, oj, none⟩ h.c)).trans h.c⟩
theorem FX.fr {w0 w w' : World} {B : Nat} {f2 : Cf} {L2 : List Sn} {F2 : List Nat} {Bc : Nat} {f : Cf} {A3 : Option Addr} {c3 b2 oj : Nat} {t : Int} (h : FX w0 w B f2 L2 F2 Bc f A3 c3 b2 oj t) (hf : Fr (fun _ => False) w w') : FX w0 w' B f2 L2 F2 Bc f A3 c3 b2 oj t := h.below (hf.below (Nat.le_refl _) (fun _ _ h => h))
set_option maxRecDepth 100000 in
set_option maxHeartbeats 1000000 in
theorem fu14 {ops : Array Oper} (hops : Eng.fnOps Tryz.f9 14 = ops) (a0 : Act) (Q : Exit → Act → World → Prop) (w0 w : World) (B : Nat) (f2 : Cf) (L2 : List Sn) (F2 : List Nat) (Bc : Nat) (f : Cf) (A3 : Option Addr) (c3 b2 o2 j m c4 : Nat) (t : Int) (hst : FX w0 w B f2 L2 F2 Bc f A3 c3 b2 (o2 + j) t) (hj : j < m) (hm : m ≤ 1000000) (hl : L2.length ≤ 1000000)
    (hn : a0.tmps.size = 56) (h_2 : a0.tmps.getD 2 undef = .pointer (some ⟨Bc, 0, none⟩)) (h_7 : a0.tmps.getD 7 undef = .slice A3 L2.length c3) (h_8 : a0.tmps.getD 8 undef = .slice (some ⟨b2, o2, none⟩) m c4) (h_9 : a0.tmps.getD 9 undef = .int .i64 j)
    (hpost : ∀ (x : Nat → Value) (w' : World), x 54 = .bool (decide (max f.tr 0 < ((L2.filter (fun x => decide (x.t = t))).length : Int))) → FX w0 w' B f2 L2 F2 Bc f A3 c3 b2 (o2 + j) t → Fr (fun _ => False) w w' → Q .normal (Eng.setAll a0 [44, 45, 46, 47, 48, 49, 50, 51, 52, 53, 54] x) w') :
    (Code.region 14 ops true).wp Tryz.prog Q a0 w := by
  simp only [Eng.fnOps, Eng.regOps, Tryz.f9, Option.bind_some, Option.getD_some, Nat.reduceEqDiff, ↓reduceIte, Nat.reduceBEq] at hops
  subst hops
  have HSt := Lib.hid (hst.fr (Fr.drew _ _))
  have hSS : w.drew.cell? ⟨Bc, 1, none⟩ = some (.int .i64 f.tr) ∧ w.drew.cell? ⟨b2, o2 + j, none⟩ = some (.int .i64 t) := ⟨(HSt.out.z.d (Bc, cfc f, TCf) (by simp)).1.1.cell 1, HSt.out.c⟩
  refine Eng.regionN [(0, true), (1, true), (2, true), (3, true), (4, true), (7, true), (8, true), (9, true), (5, false), (6, true), (10, true)] (fun w' => w'.cell? ⟨Bc, 1, none⟩ = some (.int .i64 f.tr) ∧ w'.cell? ⟨b2, o2 + j, none⟩ = some (.int .i64 t)) (by kernel_rfl) 56 hn (by kernel_rfl) rfl (by kernel_rfl) (hSS) (fun a b ha hb => ?_)
  subst ha
  have hb2 : b 2 = .pointer (some ⟨Bc, 0, none⟩) := (hb 2).symm.trans h_2
  have hb7 : b 7 = .slice A3 L2.length c3 := (hb 7).symm.trans h_7
  have hb8 : b 8 = .slice (some ⟨b2, o2, none⟩) m c4 := (hb 8).symm.trans h_8
  have hb9 : b 9 = .int .i64 j := (hb 9).symm.trans h_9
  clear hb h_2 h_7 h_8 h_9
  have HP := Lib.hid hpost; have HN := Lib.hid hn
  clear hpost hn
  refine Eng.Sch.take (v := ?_) rfl rfl (by decide) (by kernel_rfl) (fun w hw => ?_) ?_
  rotate_left
  · (try dsimp only at hw); go_simp; first | done | with_reducible rfl
  refine Eng.Sch.take (v := ?_) rfl rfl (by decide) (by kernel_rfl) (fun w hw => ?_) ?_
  rotate_left
  · (try dsimp only at hw); go_simp; first | done | with_reducible rfl
  refine Eng.Sch.take (v := ?_) rfl rfl (by decide) (by kernel_rfl) (fun w hw => ?_) ?_
  rotate_left
  · (try dsimp only at hw); go_simp; first | done | with_reducible rfl
  refine Eng.Sch.take (v := ?_) rfl rfl (by decide) (by kernel_rfl) (fun w hw => ?_) ?_
  rotate_left
  · (try dsimp only at hw); go_simp; first | done | with_reducible rfl
  refine Eng.Sch.take (v := ?_) rfl rfl (by decide) (by kernel_rfl) (fun w hw => ?_) ?_
  rotate_left
  · (try dsimp only at hw); go_simp; first | done | with_reducible rfl
  refine Eng.Sch.take (v := ?_) rfl rfl (by decide) (by kernel_rfl) (fun w hw => ?_) ?_
  rotate_left
  · (try dsimp only at hw); go_simp; first | done | with_reducible rfl
  refine Eng.Sch.take (v := ?_) rfl rfl (by decide) (by kernel_rfl) (fun w hw => ?_) ?_
  rotate_left
  · (try dsimp only at hw); go_simp; first | done | with_reducible rfl
  refine Eng.Sch.take (v := ?_) rfl rfl (by decide) (by kernel_rfl) (fun w hw => ?_) ?_
  rotate_left
  · (try dsimp only at hw); go_simp; first | done | with_reducible rfl
  refine Eng.Sch.call rfl rfl (by decide) (by kernel_rfl) ?_ (Ref18.Trace A3 c3 L2 t _ (HSt.out.z.k (A3, c3, L2) (by simp)).1 hl) ?_
  · go_simp
  rintro e w2 ⟨A9, c9, rfl, hls, -, hb⟩
  have HSt1 := Lib.hid (HSt.out.below hb)
  have hSS : w2.cell? ⟨Bc, 1, none⟩ = some (.int .i64 f.tr) ∧ w2.cell? ⟨b2, o2 + j, none⟩ = some (.int .i64 t) := ⟨(HSt1.out.z.d (Bc, cfc f, TCf) (by simp)).1.1.cell 1, HSt1.out.c⟩
  refine ⟨_, rfl, hSS, ?_⟩
  refine Eng.Sch.take (v := ?_) rfl rfl (by decide) (by kernel_rfl) (fun w hw => ?_) ?_
  rotate_left
  · (try dsimp only at hw); go_simp; first | done | with_reducible rfl
  refine Eng.Sch.take (v := ?_) rfl rfl (by decide) (by kernel_rfl) (fun w hw => ?_) ?_
  rotate_left
  · (try dsimp only at hw); go_simp; first | done | with_reducible rfl
  refine Eng.Sch.end_ [44, 45, 46, 47, 48, 49, 50, 51, 52, 53, 54] HN.out (by kernel_rfl) (by kernel_rfl) ?_
  exact HP.out _ _ rfl HSt1.out ((Fr.drew (fun _ => False) w).trans (Fr.of_below' hb (fun _ => False)) (fun _ _ h => h) (fun _ _ h => h))

theorem at3 {w : World} {A : Option Addr} {c : Nat} {l : List Ac} (hS : Sl w 3 A l.length c (l.flatMap acc)) {k : Nat} (hk : k < l.length) : ∃ b1 o1, A = some ⟨b1, o1, none⟩ ∧ b1 < w.heap.size ∧ w.cell? ⟨b1, o1 + k * 3, none⟩ = some (.int .i64 l[k].k) ∧ w.cell? ⟨b1, o1 + k * 3 + 1, none⟩ = some (.slice l[k].A l[k].L.length l[k].c) ∧ w.cell? ⟨b1, o1 + k * 3 + 1 + 1, none⟩ = some (.int .i64 l[k].n) := by
  obtain ⟨b1, o1, rfl, hb1, c1⟩ := hS.at hk (by omega)
  have h0 := c1 (k * 3 + 0) _ (ac_at hk 0 (by omega)); have h1 := c1 (k * 3 + 1) _ (ac_at hk 1 (by omega)); have h2 := c1 (k * 3 + 2) _ (ac_at hk 2 (by omega))
  exact ⟨b1, o1, rfl, hb1, h0, h1, h2⟩
set_option maxRecDepth 100000 in
set_option maxHeartbeats 4000000 in
theorem full (f : Cf) (A : Option Addr) (c : Nat) (l : List Ac) (w0 : World) (hS : Sl w0 3 A l.length c (l.flatMap acc)) (hR : ∀ a ∈ l, Rd w0 a) (hf : in64 f.sp ∧ in64 f.tr ∧ in64 f.wi) :
    Calls Tryz.prog 9 #[.agg (cfc f), .slice A l.length c] w0 fun e w' => e = .returned (.bool true) ∧ Below w0.heap.size w0 w' := by
  have HS := Lib.hid hS; have HR := Lib.hid hR; have HI := Lib.hid hf
  have HB1 := Lib.hid ((Below.refl w0.heap.size w0).alloc (Nat.le_refl _) (.cells (cfc f) TCf)); have HBk := Lib.hid (Bk.new w0 (cfc f) TCf)
  clear hS hR hf
  go_enter Tryz.func9, Tryz.ntmps9
  go_upto_region 1 with (fail)
  generalize hg : w0.alloc (.cells (cfc f) TCf) = w1 at *
  clear hg
  go_wp2_with fail
  refine (Few A c l 20 w1 (HS.out.fr (Fr.of_below' HB1.out (fun _ => False)) (fun _ _ h => h)) (fun a ha => (HR.out a ha).below HB1.out) (by omega)).mono ?_
  rintro e w2 ⟨rfl, hf⟩
  have HB2 := Lib.hid (HB1.out.trans (hf.below HB1.out.size (fun _ _ h => h))); have HBk2 := Lib.hid (HBk.out.fr hf (fun _ _ h => h))
  clear hf HB1 HBk
  cases hq : fewsB l 20 with
  | false =>
    go_wp2_with fail
    refine (awake w2).mono ?_
    rintro e w3 ⟨rfl, hb⟩
    have HB3 := Lib.hid (HB2.out.trans (hb.mono HB2.out.size))
    clear hb
    go_wp2_with fail
    go_ret
    exact ⟨rfl, HB3.out⟩
  | true =>
    obtain ⟨hl, hla⟩ := few_len hq
    have HLa := Lib.hid hla
    clear hq hla
    have e0 : w2.cell? ⟨w0.heap.size, 0, none⟩ = some (.int .i64 f.sp) := HBk2.out.cell 0
    have e1 : w2.cell? ⟨w0.heap.size, 1, none⟩ = some (.int .i64 f.tr) := HBk2.out.cell 1
    have e2 : w2.cell? ⟨w0.heap.size, 2, none⟩ = some (.int .i64 f.wi) := HBk2.out.cell 2
    have e3 : w2.cell? ⟨w0.heap.size, 3, none⟩ = some (.int .i64 f.sg) := HBk2.out.cell 3
    go_wp2_with fail
    refine (Sto.New f w2).mono ?_
    rintro e w3 ⟨B, F, rfl, hs, hF, hb⟩
    have HZ : Hid (AZ w0 w3 B (f.at mnI) [] F [(w0.heap.size, cfc f, TCf)] []) := (AZ.new HB2.out (St.new hs HI.out) hF hb).addD (HBk2.out.fr (Fr.of_below' hb (fun _ => False)) (fun _ _ h => h)) (fun hm => by have := hF _ hm; have := lt_of_heap HBk2.out; omega) (Nat.le_refl _)
    clear hs hF hb e0 e1 e2 e3 HB2 HBk2
    go_wp2_with fail
    go_loopg [6] l.length (fun gk i wr => ∃ (k : Nat) (f' : Cf) (L : List Sn) (F : List Nat), i = .int .i64 k ∧ k ≤ l.length ∧ gk = l.length - k ∧ (f'.sp = f.sp ∧ f'.tr = f.tr) ∧ fits (max f.sp 0) (max f.tr 0) L = true ∧ L.length ≤ 12 * k ∧ AZ w0 wr B f' L F [(w0.heap.size, cfc f, TCf)] [])
    case atStart => exact ⟨0, f.at mnI, [], F, rfl, Nat.zero_le _, rfl, ⟨rfl, rfl⟩, fits_iff.2 (.inl rfl), Nat.le_refl _, HZ.out⟩
    case round =>
      clear HZ
      obtain ⟨k, f', L, F, rfl, hk, hg, hc, hft, hLl, hz⟩ := hrel
      have HG := Lib.hid hg; have HC := Lib.hid hc; have HFt := Lib.hid hft; have HZ := Lib.hid hz
      clear hg hc hft hz
      by_cases hlt : k < l.length
      · have HRk := Lib.hid (HR.out _ (List.getElem_mem hlt))
        have hlk := HLa.out _ (List.getElem_mem hlt)
        obtain ⟨b1, o1, rfl, hb1, a0, a1, a2⟩ := at3 (HS.out.fr (Fr.of_below' HZ.out.b (fun _ => False)) (fun _ _ h => h)) hlt
        clear hb1
        generalize l[k] = a at *
        have hdl := doL_len f' L a
        have hdc := doF_c f' a
        have HFt2 : Hid (fits (max f.sp 0) (max f.tr 0) (doL f' L a) = true) := by
          have h1 := do_fits (a := a) (f := f') HZ.out.s.o (by rw [HC.out.1, HC.out.2]; exact HFt.out)
          rwa [HC.out.1, HC.out.2] at h1
        have HC2 : Hid ((doF f' a).sp = f.sp ∧ (doF f' a).tr = f.tr) := ⟨hdc.1.trans HC.out.1, hdc.2.1.trans HC.out.2⟩
        have HDo := Lib.hid (do_ B f' L F a wr HZ.out.s (HRk.out.below HZ.out.b) (HZ.out.apt HRk.out.1) (by omega) (by omega))
        clear hdc HC HFt
        generalize doL f' L a = L2 at *
        generalize doF f' a = f2 at *
        generalize doO f' L a = O2 at *
        generalize doI f' L a = I2 at *
        generalize doE f' L a = E2 at *
        have q1 : (0 : Int) ≤ (k : Int) := by omega
        have q2 : decide ((k : Int) < (l.length : Int)) = true := by simp; omega
        have q3 : wrap64 ((k : Int) + 1) = (k : Int) + 1 := by unfold wrap64; omega
        go_wp2_with fail
        refine HDo.out.mono ?_
        rintro e w4 ⟨A1, c1, A2, c2, F2, rfl, ho⟩
        have HZ2 := Lib.hid ((HZ.out.act ho).pickL (K' := []) (by simp))
        clear ho HDo HZ a0 a1 a2
        go_wp2_with fail
        refine (Sto.All B f2 L2 F2 w4 HZ2.out.s (by omega)).mono ?_
        rintro e w5 ⟨A3, c3, rfl, hls, hown, hb⟩
        have HZ3 := Lib.hid (HZ2.out.own hls hown hb)
        clear hls hown hb HZ2
        go_wp2_with fail
        refine (Sto.Traces B f2 L2 _ _ F2 w5 HZ3.out.s.s).mono ?_
        rintro e w6 ⟨v, rfl, hown, hb⟩
        obtain ⟨A4, c4, rfl, hsl, -⟩ := Sl.of_own hown
        have HZ4 := Lib.hid (HZ3.out.below hb); have HT := Lib.hid hsl
        clear hown hsl hb HZ3
        have hmo := fits_most (Int.le_max_right f.sp 0) HFt2.out
        have e0 : w6.cell? ⟨w0.heap.size, 0, none⟩ = some (.int .i64 f.sp) := (HZ4.out.d (w0.heap.size, cfc f, TCf) (by simp)).1.1.cell 0
        go_upto_region 11 with (fail)
        clear e0 hmo
        go_wp2_with fail
        go_loopg [9] (cts L2).length (fun gk i wr => ∃ j : Nat, i = .int .i64 j ∧ j ≤ (cts L2).length ∧ gk = (cts L2).length - j ∧ AZ w0 wr B f2 L2 F2 [(w0.heap.size, cfc f, TCf)] [(A3, c3, L2)] ∧ Sl wr 1 A4 (cts L2).length c4 ((cts L2).map (fun x => .int .i64 x.1)))
        case atStart => exact ⟨0, rfl, Nat.zero_le _, rfl, HZ4.out, HT.out⟩
        case round =>
          clear HZ4 HT
          obtain ⟨j, rfl, hj, hg2, hz, ht⟩ := hrel
          have HG2 := Lib.hid hg2; have HZ5 := Lib.hid hz; have HT := Lib.hid ht
          clear hg2 hz ht
          have hcl : (cts L2).length ≤ 1000000 := by
            have h1 := cts_len L2
            omega
          by_cases hlj : j < (cts L2).length
          · obtain ⟨b2, o2, rfl, hb2, cT⟩ := HT.out.at hlj (by omega)
            have HC2' := Lib.hid cT
            have hct : wr.cell? ⟨b2, o2 + j, none⟩ = some (.int .i64 (cts L2)[j].1) := cT j _ (by simp [hlj])
            have hmt := fits_trace (Int.le_max_right f.tr 0) HFt2.out (cts L2)[j].1
            have HX : Hid (FX w0 wr B f2 L2 F2 w0.heap.size f A3 c3 b2 (o2 + j) (cts L2)[j].1) := ⟨HZ5.out, hct⟩
            clear hct cT hb2 HC2'
            generalize (cts L2)[j].1 = t at *
            generalize hcm : (cts L2).length = m at *
            clear hcm
            have r1 : (0 : Int) ≤ (j : Int) := by omega
            have r2 : decide ((j : Int) < (m : Int)) = true := by simp; omega
            have r3 : wrap64 ((j : Int) + 1) = (j : Int) + 1 := by unfold wrap64; omega
            go_upto_region 14 with (fail)
            refine fu14 (by kernel_rfl) _ _ w0 wr B f2 L2 F2 w0.heap.size f A3 c3 b2 o2 j m c4 t HX.out hlj hcl (by omega) rfl rfl rfl rfl rfl ?_
            intro x w8 h54 hst hfr
            simp only [Eng.setAll, Act.put, List.setIfInBounds_toArray, List.set_cons_succ, List.set_cons_zero]
            rw [h54, decide_eq_false (show ¬ max f.tr 0 < ((L2.filter (fun x => decide (x.t = t))).length : Int) by omega)]
            have HZ6 := Lib.hid hst.z
            have HT6 := Lib.hid (HT.out.fr hfr (fun _ _ h => h))
            clear h54 hst hmt hfr
            go_wp2_with fail
            go_roundg (m - (j + 1))
            case rel => exact ⟨j + 1, by go_num, by omega, rfl, (HZ6.out.pickL (K' := [(A3, c3, L2)]) (by simp)), HT6.out⟩
            case measure => have := HG2.out; omega
          · obtain rfl : j = (cts L2).length := by omega
            have HZ6 := Lib.hid (HZ5.out.pickL (K' := []) (by simp))
            have r2 : decide (((cts L2).length : Int) < ((cts L2).length : Int)) = false := by simp
            clear HZ5 HT hcl
            go_wp2_with fail
            go_roundg (l.length - (k + 1))
            case rel => exact ⟨k + 1, f2, L2, F2, by go_num, by omega, rfl, HC2.out, HFt2.out, by omega, HZ6.out⟩
            case measure => have := HG.out; omega
      · obtain rfl : k = l.length := by omega
        have q2 : decide ((l.length : Int) < (l.length : Int)) = false := by simp
        go_wp2_with fail
        refine (awake wr).mono ?_
        rintro e w3 ⟨rfl, hb⟩
        have HB3 := Lib.hid (HZ.out.below hb).b
        clear hb
        go_wp2_with fail
        go_ret
        exact ⟨rfl, HB3.out⟩
end Law18
end Go.Proofs.YtdpngmgaomghoaaGreat
