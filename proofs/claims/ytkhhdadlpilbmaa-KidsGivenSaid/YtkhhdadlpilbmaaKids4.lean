/- Spans by their parents: the spans of a trace. -/
import Derived.Test.YtkhhdadlpilbmaaKids3
namespace Go.Proofs.Ytkhhdadlpilbmaa
open Go.RowKit Go.Shelf
namespace Kds
open KeyP SetP KidsP
section
attribute [local go_sem] Eng.ev Eng.getO_cons Eng.getO_nil
abbrev TInts : TypeId := 43
theorem infoN : (Try.prog.info? 3).map (fun i => (i.zero, i.size, i.bytes)) = some (some (.int .i64 0), 1, 8) := by kernel_rfl
abbrev ints (l : List Int) : List Value := l.map (Value.int .i64)
theorem FromI (a : Addr) (k : ByteArray) (w : World) (N : Nat) (hz : w.heap.size = N) : Calls Try.prog 75 #[.pointer (some a), .string k] w fun e w' => e = .returned (.func (.func 123) #[] #[.pointer (some ⟨N, 0, none⟩), .pointer (some ⟨N + 1, 0, none⟩)]) ∧ Fr (fun _ => False) w w' ∧ w'.heap.size = w.heap.size + 2 ∧ w'.cell? ⟨N, 0, none⟩ = some (.pointer (some a)) ∧ Bk w' (N + 1) #[.string k] 9 := by
  subst hz
  refine (AvlSI.From (some a) k w).mono ?_
  rintro e w' ⟨rfl, rfl⟩
  refine ⟨rfl, (Fr.alloc _ _ _).trans (Fr.alloc (fun _ => False) _ _) (fun _ _ h => h) (fun _ _ h => h), by simp, ?_, ?_⟩
  · exact ((Bk.new w _ _).fr (Fr.alloc (fun _ => False) _ _) (fun _ _ h => h)).cell 0
  · have := Bk.new (w.alloc (.cells #[.pointer (some a)] 161)) #[.string k] 9
    rwa [World.size_alloc] at this
theorem OfN {a b : Int} (ha : wf64 a) (hb : wf64 b) (w : World) : Calls Try.prog 65 #[.int .i64 a, .int .i64 b] w fun e w' => e = .returned (.string (key2 a b)) ∧ Fr (fun _ => False) w w' ∧ w'.heap.size = w.heap.size + 2 :=
  (Key.Of_n ha hb w).mono (fun _ _ ⟨h, hb, hz⟩ => ⟨h, (Fr.of_below hb).mono (fun i hi h => by omega), hz⟩)
set_option maxRecDepth 100000 in
set_option maxHeartbeats 400000 in
theorem s4 {ops : Array Oper} (hops : Eng.fnOps Try.f24 4 = ops) (a0 : Act) (Q : Exit → Act → World → Prop) (w : World) (B Bt : Nat) (t : Int) (c2 : w.cell? ⟨Bt, 0, none⟩ = some (.int .i64 t)) (ht : wf64 t)
    (hn : a0.tmps.size = 35) (h_0 : a0.tmps.getD 0 undef = .pointer (some ⟨B, 0, none⟩)) (h_3 : a0.tmps.getD 3 undef = .pointer (some ⟨Bt, 0, none⟩))
    (hpost : ∀ (x : Nat → Value) (w' : World), x 18 = .func (.func 123) #[] #[.pointer (some ⟨w.heap.size + 2, 0, none⟩), .pointer (some ⟨w.heap.size + 2 + 1, 0, none⟩)] → Gw w w' 4 → (w'.cell? ⟨w.heap.size + 2, 0, none⟩ = some (.pointer (some ⟨B, 0, none⟩)) ∧ Bk w' (w.heap.size + 2 + 1) #[.string (key2 t mn)] 9) → Q .normal (Eng.setAll a0 [13, 14, 15, 16, 17, 18] x) w') :
    (Code.region 4 ops true).wp Try.prog Q a0 w := by
  simp only [Eng.fnOps, Eng.regOps, Try.f24, Option.bind_some, Option.getD_some, Nat.reduceEqDiff, ↓reduceIte, Nat.reduceBEq] at hops
  subst hops
  have HSt := Lib.hid ((⟨Fr.drew _ _, rfl⟩ : Gw w w.drew 0))
  have hSS : w.drew.cell? ⟨Bt, 0, none⟩ = some (.int .i64 t) := HSt.out.cell c2
  refine Eng.regionT (.take 0 (.take 1 (.take 2 (.take 3 (.alt 4 (.alt 5 (.done) (.stop)) (.stop)))))) (fun w' => w'.cell? ⟨Bt, 0, none⟩ = some (.int .i64 t)) (by kernel_rfl) 35 hn (by kernel_rfl) (by kernel_rfl) (by kernel_rfl) (hSS) (fun a b ha hb => ?_)
  subst ha
  have hb0 : b 0 = .pointer (some ⟨B, 0, none⟩) := (hb 0).symm.trans h_0
  have hb3 : b 3 = .pointer (some ⟨Bt, 0, none⟩) := (hb 3).symm.trans h_3
  clear hb h_0 h_3
  have HP := Lib.hid hpost; have HN := Lib.hid hn
  clear hpost hn
  refine Eng.TW.take' (v := ?_) rfl rfl (by decide) (by kernel_rfl) (fun w hw => ?_) ?_
  rotate_left
  · (try dsimp only at hw); go_simp; first | done | with_reducible rfl
  refine Eng.TW.take' (v := ?_) rfl rfl (by decide) (by kernel_rfl) (fun w hw => ?_) ?_
  rotate_left
  · (try dsimp only at hw); go_simp; first | done | with_reducible rfl
  refine Eng.TW.take' (v := ?_) rfl rfl (by decide) (by kernel_rfl) (fun w hw => ?_) ?_
  rotate_left
  · (try dsimp only at hw); go_simp; first | done | with_reducible rfl
  refine Eng.TW.take' (v := ?_) rfl rfl (by decide) (by kernel_rfl) (fun w hw => ?_) ?_
  rotate_left
  · (try dsimp only at hw); go_simp; first | done | with_reducible rfl
  refine Eng.TW.call rfl rfl (by decide) (by kernel_rfl) ?_ (OfN ht wf_mn _) ?_
  · go_simp
  rintro e w2 ⟨rfl, hf, hz⟩
  have HSt2 := Lib.hid (HSt.out.to hf hz)
  have hSS : w2.cell? ⟨Bt, 0, none⟩ = some (.int .i64 t) := HSt2.out.cell c2
  clear hf hz
  refine ⟨_, rfl, hSS, ?_⟩
  refine Eng.TW.call rfl rfl (by decide) (by kernel_rfl) ?_ (FromI ⟨B, 0, none⟩ (key2 t mn) _ (w.heap.size + 2) HSt2.out.z) ?_
  · go_simp
  rintro e w3 ⟨rfl, hf, hz, hq1, hq2⟩
  have HSt3 := Lib.hid (HSt2.out.to hf hz)
  have hSS : w3.cell? ⟨Bt, 0, none⟩ = some (.int .i64 t) := HSt3.out.cell c2
  have HQ := Lib.hid (⟨hq1, hq2⟩ : _ ∧ _)
  clear hf hz hq1 hq2
  refine ⟨_, rfl, hSS, ?_⟩
  refine Eng.TW.end_ [13, 14, 15, 16, 17, 18] HN.out (by kernel_rfl) (by kernel_rfl) ?_
  exact HP.out _ _ rfl HSt3.out HQ.out

end
attribute [local go_sem] Oper.semAt_some
/-- What is collected, as long as it is of the trace. -/
structure BS (n0 lo hi Bt Bo Bf : Nat) (ks : ByteArray) (t : Int) (LQ : List Sn) (w0 W : World) (m : Nat) : Prop where
  c : Coll n0 lo hi Bo TInts TI 1 w0 W m (ints ((LQ.take m).map (fun s : Sn => s.i)))
  bt : Bk W Bt #[.int .i64 t] TI
  a : ∀ y ∈ LQ.take m, decide (y.t = t) = true
  k : Bk W Bf #[.string ks] 9
theorem BS.abide {n0 lo hi Bt Bo Bf : Nat} {ks : ByteArray} {t : Int} {LQ : List Sn} {w0 A B : World} {m : Nat} (h : BS n0 lo hi Bt Bo Bf ks t LQ w0 A m) (hf : Fr (Rg lo hi) A B) (hn : n0 ≤ lo) (hb : ¬ Rg lo hi Bo) (ht : ¬ Rg lo hi Bt) (hk : ¬ Rg lo hi Bf) (hs : n0 ≤ A.heap.size) : BS n0 lo hi Bt Bo Bf ks t LQ w0 B m :=
  ⟨h.c.abide hf hn hb hs, h.bt.fr hf (fun b hb => by simp at hb; subst hb; exact ht), h.a, h.k.fr hf (fun b hb => by simp at hb; subst hb; exact hk)⟩
def SpPost (M : List Int) (w : World) (e : Ending) (w' : World) : Prop := ∃ v, e = .returned v ∧ w'.ownsRow w.heap.size TI 1 v M.length (ints M) ∧ Below w.heap.size w w'
set_option maxRecDepth 100000 in
set_option maxHeartbeats 1000000 in
theorem Spans (B : Nat) (L : List Sn) (F : List Nat) (t : Int) (w : World) (h : IB w B L F) (ht : wf64 t) (sz : L.length ≤ 1000000) :
    Calls Try.prog 24 #[.pointer (some ⟨B, 0, none⟩), .int .i64 t] w (SpPost (spans t L) w) := by
  obtain ⟨i0, hi, hz0, hz1_, hz2⟩ := info_parts infoN
  have hFlt := h.lt
  obtain ⟨K, r1, r2, F1, F2, h, hr, rfl⟩ := h
  obtain ⟨run1, run2⟩ := spans_run hr.s hr.g ht
  have hgd : ∀ y ∈ L.filter (fun x => decide (t ≤ x.t)), gd y := fun y hy => hr.g y (List.mem_filter.1 hy).1
  have hlen : (L.filter (fun x => decide (t ≤ x.t))).length ≤ 1000000 := Nat.le_trans (List.length_filter_le _ _) sz
  have hFlt1 : ∀ b ∈ F1, b < w.heap.size := fun b hb => hFlt b (by simp [hb])
  have hMP : AvlSI.MapP w (some ⟨B, 0, none⟩) (mp (fun x => x.p) L) F1 := .inr ⟨B, 0, r1, rfl, h.cells.1, h.m1⟩
  generalize hLQ : L.filter (fun x => decide (t ≤ x.t)) = LQ at *
  have hLL : spans t L = (LQ.takeWhile (fun x => decide (x.t = t))).map (fun s : Sn => s.i) := by show (ofT t L).map _ = _; rw [← run2]
  rw [hLL]
  have HRun := Lib.hid run1
  have HGd := Lib.hid hgd
  have HMP := Lib.hid hMP
  clear h hr hFlt hgd run1 run2 hLQ hLL hMP sz
  refine (callsIn_wide (n := 3)).1 ?_
  refine callsIn_of_wp_marks Try.func24 rfl trivial ?_ rfl
  simp only [Try.ntmps24, List.size_toArray, List.length_cons, List.length_nil, Nat.reduceAdd, Nat.reduceSub, Array.replicate_succ, Array.replicate_zero, List.push_toArray, List.append_toArray, List.nil_append, List.cons_append]
  refine wpIn_wide.2 ?_
  go_wp2_with fail
  have fa := fun (w : World) (o : Obj) => Fr.alloc (fun _ => False) w o
  have nn : ∀ G : List Nat, ∀ b ∈ G, ¬ False := fun _ _ _ h => h
  have hsA : (w.alloc (.cells #[.int .i64 t] TI)).heap.size = w.heap.size + 1 := by simp
  have hbA : Fr (fun _ => False) w (w.alloc (.cells #[.int .i64 t] TI)) := fa _ _
  have bA : Bk (w.alloc (.cells #[.int .i64 t] TI)) w.heap.size #[.int .i64 t] TI := Bk.new w _ _
  generalize w.alloc (.cells #[.int .i64 t] TI) = wA at *
  have hs0 : (wA.alloc (.cells #[.slice none 0 0] TInts)).heap.size = wA.heap.size + 1 := by simp
  have bt : Bk (wA.alloc (.cells #[.slice none 0 0] TInts)) w.heap.size #[.int .i64 t] TI := bA.fr (fa _ _) (nn _)
  have bo : Bk (wA.alloc (.cells #[.slice none 0 0] TInts)) (w.heap.size + 1) #[.slice none 0 0] TInts := by
    have := Bk.new wA #[.slice none 0 0] TInts
    rwa [hsA] at this
  have hbV : Fr (fun _ => False) wA (wA.alloc (.cells #[.slice none 0 0] TInts)) := fa _ _
  generalize wA.alloc (.cells #[.slice none 0 0] TInts) = V at *
  rw [hsA] at hs0
  have HWA : Hid (Fr (fun _ => False) w wA) := hbA
  have HSA : Hid (wA.heap.size = w.heap.size + 1) := hsA
  have HFV : Hid (Fr (fun _ => False) w V) := hbA.trans hbV (fun _ _ h => h) (fun _ _ h => h)
  refine s4 (by kernel_rfl) _ _ V B w.heap.size t (bt.cell 0) ht rfl rfl rfl ?_
  intro x W0 e18 hG hq
  simp only [Eng.setAll, Act.put, List.setIfInBounds_toArray, List.set_cons_succ, List.set_cons_zero]
  rw [e18]
  rw [hs0] at hq ⊢
  have hz := hG.z
  rw [hs0] at hz
  have HZ : Hid (W0.heap.size = w.heap.size + 6) := hz
  have HB0 : Hid (Below w.heap.size w W0) := (HFV.out.trans hG.f (T := fun _ => False) (fun _ _ h => h) (fun _ _ h => h)).below (Nat.le_refl _) (fun _ _ h => h)
  have HBA : Hid (Below wA.heap.size wA W0) := (hbV.trans hG.f (T := fun _ => False) (fun _ _ h => h) (fun _ _ h => h)).below (Nat.le_refl _) (fun _ _ h => h)
  have HBt : Hid (Bk W0 w.heap.size #[.int .i64 t] TI) := bt.fr hG.f (nn _)
  have HBo : Hid (Bk W0 (w.heap.size + 1) #[.slice none 0 0] TInts) := bo.fr hG.f (nn _)
  have HQ := Lib.hid hq
  have HMP1 : Hid (AvlSI.MapP W0 (some ⟨B, 0, none⟩) (mp (fun x => x.p) L) F1) := HMP.out.below HB0.out
  clear fa nn hs0 bt bo hbA hbV bA hsA hG hz hq e18 HMP
  go_wp2_with fail
  have hseq := AvlSI.From_seq ((w.heap.size + 2 + 2 + 1) :: F1) (w.heap.size + 2 + 2) (w.heap.size + 2 + 2 + 1) (key2 t mn) (some ⟨B, 0, none⟩) (mp (fun x => x.p) L) F1 W0 HQ.out.1 (by have := HZ.out; omega) (HQ.out.2.cell 0) (by have := HZ.out; omega) (by simp) HMP1.out (fun b hb => by simp [hb])
  rw [HRun.out] at hseq
  refine (wpIn_wide (n := 3)).1 ?_
  refine range_P' (n := 3) (a₁ := ?fr) (gf := 123) (lb := #[.pointer (some ⟨w.heap.size + 2 + 2, 0, none⟩), .pointer (some ⟨w.heap.size + 2 + 2 + 1, 0, none⟩)]) rfl (enters_of Try.func123 (by kernel_rfl) rfl)
    hseq (fun b hb => by
      have := HZ.out
      rcases List.mem_cons.1 hb with rfl | hb
      · omega
      · have := hFlt1 b hb; omega) (fun _ => rfl)
    (fun (pre : List (ByteArray × Int)) (W : World) => BS wA.heap.size W0.heap.size (W0.heap.size + 2 + 0) w.heap.size (w.heap.size + 1) (w.heap.size + 2 + 2 + 1) (key2 t mn) t LQ wA W pre.length ∧ W0.heap.size ≤ W.heap.size)
    (fun k (pre : List (ByteArray × Int)) (W : World) => (k = .exit 0 ∧ ∃ m, ∃ hm : m < LQ.length, BS wA.heap.size W0.heap.size (W0.heap.size + 2 + 0) w.heap.size (w.heap.size + 1) (w.heap.size + 2 + 2 + 1) (key2 t mn) t LQ wA W m ∧ decide (LQ[m].t = t) = false) ∧ W0.heap.size ≤ W.heap.size)
    (fun pre A C h hf => ⟨h.1.abide hf (by have := HZ.out; have := HSA.out; omega) (fun h => by have := h.1; have := HZ.out; omega) (fun h => by have := h.1; have := HZ.out; omega) (fun h => by have := h.1; have := HZ.out; omega) (by have := h.2; have := HZ.out; have := HSA.out; omega), Nat.le_trans h.2 hf.size⟩)
    (fun k pre A C h hf => ⟨⟨h.1.1, h.1.2.imp fun m h' => h'.imp fun hm h' => ⟨h'.1.abide hf (by have := HZ.out; have := HSA.out; omega) (fun h => by have := h.1; have := HZ.out; omega) (fun h => by have := h.1; have := HZ.out; omega) (fun h => by have := h.1; have := HZ.out; omega) (by have := h.2; have := HZ.out; have := HSA.out; omega), h'.2⟩⟩, Nat.le_trans h.2 hf.size⟩)
    ⟨⟨Coll.start HBo.out HBA.out, HBt.out, by simp, HQ.out.2⟩, Nat.le_refl _⟩ ?assign ?body ?done ?stop
  case assign =>
    intro l m x W K hK
    gi_wp2
    exact hK
  case body =>
    rintro l m pre x W ⟨hI, hsz0⟩ hsz hpre rfl ⟨r, hl⟩ hd
    (try dsimp only)
    have hlt : pre.length < LQ.length := by have := hpre.length_le; rw [List.length_append, List.length_singleton, List.length_map] at this; omega
    have hx : x = (kk LQ[pre.length], LQ[pre.length].p) := by
      obtain ⟨t', ht'⟩ := hpre
      have h1 : (mp (fun x => x.p) LQ)[pre.length]? = some x := by rw [← ht']; simp
      rw [List.getElem?_map, List.getElem?_eq_getElem hlt] at h1
      simpa using h1.symm
    subst hx
    have hg := HGd.out _ (List.getElem_mem hlt)
    have HSp := Lib.hid (Key.Split hg.1 hg.2.1 W)
    have HI := Lib.hid hI; have HL := Lib.hid hl; have HD := Lib.hid hd
    have HSz := Lib.hid hsz0; have HSz2 := Lib.hid hsz
    have HTk := Lib.hid (List.take_succ_eq_append_getElem hlt)
    have HLt := Lib.hid hlt
    clear hg hI hl hd hpre hsz hsz0
    generalize hp : LQ[pre.length] = y at *
    have HYq := Lib.hid hp
    clear hp
    generalize hee : key2 y.t y.i = ee at *
    rw [show kk y = ee from hee] at *
    clear hee
    dsimp only at *
    gi_wp2_with fail
    refine ⟨trivial, fun h => (by cases h), CallsIn.inRound _ (callsIn_wide.2 ?_)⟩
    refine HSp.out.mono ?_
    rintro e w1 ⟨rfl, hf⟩
    have HF := Lib.hid hf
    have hB1 : Bk w1 w.heap.size #[.int .i64 t] TI := HI.out.bt.fr hf (fun _ _ h => h)
    have ct : w1.cell? ⟨w.heap.size, 0, none⟩ = some (.int .i64 t) := hB1.cell 0
    have HB1 := Lib.hid hB1
    clear hf HSp hB1
    have HI1 := Lib.hid (show BS wA.heap.size W0.heap.size (W0.heap.size + 2 + 0) w.heap.size (w.heap.size + 1) (w.heap.size + 2 + 2 + 1) (key2 t mn) t LQ wA w1 pre.length from by
      obtain ⟨⟨v, c1, c2, c3, c4⟩, c5, c6, c7⟩ := HI.out
      exact ⟨⟨v, c1.fr HF.out (fun _ _ h => h), ownsRow_fr c2 HF.out (fun _ _ h => h), c3.trans (HF.out.below (by have := HSz.out; have := HZ.out; have := HSA.out; omega) (fun _ _ h => h)), c4⟩, HB1.out, c6, c7.fr HF.out (fun _ _ h => h)⟩)
    have hz1 : W.heap.size ≤ w1.heap.size := HF.out.size
    have HL1 := Lib.hid ((HF.out.block (W0.heap.size + 1) (by have := HSz2.out; omega) (fun h => h)).trans HL.out)
    have HD1 := Lib.hid ((HF.out.block W0.heap.size (by have := HSz2.out; omega) (fun h => h)).trans HD.out)
    by_cases hq : y.t = t
    · have q1 : (y.t != t) = false := by simp [hq]
      have HAl : Hid (∀ p ∈ LQ.take (pre.length + 1), decide (p.t = t) = true) := fun p hp => by
        rw [HTk.out] at hp
        rcases List.mem_append.1 hp with hp | hp
        · exact HI.out.a p hp
        · simp at hp; subst hp; simpa using hq
      obtain ⟨⟨v, hv, hown, hbel, hout⟩, -, -, hkb⟩ := HI1.out
      have HKb := Lib.hid hkb
      have cv : w1.cell? ⟨w.heap.size + 1, 0, none⟩ = some v := hv.cell 0
      have fv := hv.free 0
      have hn1 : wA.heap.size ≤ w1.heap.size := by have := HSz.out; have := HZ.out; have := HSA.out; omega
      have HV := Lib.hid hv; have HO := Lib.hid hown; have HBe := Lib.hid hbel; have HOut := Lib.hid hout
      have hown' := hown.alloc (.cells #[.int .i64 y.i] TI)
      have hml : pre.length ≤ 1000000 := by have := HLt.out; omega
      have HNt : Hid (∀ b, v.ownBlock = some b → b ≠ w.heap.size) := fun b hb e => by
        have := (ownsRow_blk HO.out b hb).1
        have := HSA.out
        omega
      have HNk : Hid (∀ b, v.ownBlock = some b → b ≠ w.heap.size + 2 + 2 + 1) := fun b hb e => by
        obtain ⟨_, _, c, hc⟩ := ownsRow_blk HO.out b hb
        rw [e, show w1.heap[w.heap.size + 2 + 2 + 1]? = _ from HKb.out] at hc
        cases hc
      clear hq hv hown hbel hout hkb
      gi_wp2_with (gi_at_builtin; refine wpListIn_append_own _ rfl (.tmp 30) (.tmp 32) TInts rfl wA.heap.size TI i0 (.int .i64 0) 1 8 Try.underlying43 hi hz0 hz1_ hz2 rfl (by decide) _ _ _ rfl hown' ⟨w1.heap.size, 0, none⟩ 1 1 [.int .i64 y.i] rfl rfl (new_cells w1 TI [.int .i64 y.i]) (by simp [Value.oneCell']) (by unfold maxLen; omega) (by omega) (by simp; omega) ?_)
      intro v' w2 hown1 hgrow _
      obtain ⟨g', cap', rfl⟩ := ownsRow_succ hown1
      have hb : ¬ Rg W0.heap.size (W0.heap.size + 2 + 0) (w.heap.size + 1) := fun h => by have := h.1; have := HZ.out; omega
      obtain ⟨k1, k2, k3⟩ := Coll.step HV.out HO.out HBe.out HOut.out (by decide) hn1 (by have := HSA.out; omega) hb HL1.out HD1.out hown1 hgrow
      have cv1 : w2.cell? ⟨w.heap.size + 1, 0, none⟩ = some v := k1.cell 0
      have fv1 := k1.free 0
      have K2 := Lib.hid k2; have K3 := Lib.hid k3; have KO := Lib.hid (ownsRow_blk HO.out)
      clear k1 k2 k3 hown1 hgrow hown' cv fv ct
      gi_wp2_with fail
      have hs1 := HZ.out
      have hsA := HSA.out
      have hF3 : Fr (fun b => b = w.heap.size + 1 ∨ v.ownBlock = some b) W _ := HF.out.trans K3.out (fun _ _ h => h.elim) (fun _ _ h => h)
      refine ⟨KeptR.of_fr hF3 HSz2.out ?_, hF3.size, KeptL.of_fr hF3 (fun b hb => ?_), ⟨⟨?_, HB1.out.fr K3.out (fun b hb e => ?_), by rw [List.length_append, List.length_singleton]; exact HAl.out, HKb.out.fr K3.out (fun b hb e => ?_)⟩, by have := hF3.size; have := HSz.out; omega⟩⟩
      · rintro b hr (e | e)
        · exact hb (e ▸ hr)
        · exact HOut.out b e hr
      · have := HSz2.out
        rcases List.mem_cons.1 hb with rfl | hb
        · refine ⟨by omega, ?_⟩
          rintro (e | e)
          · omega
          · exact HNk.out _ e rfl
        · have := hFlt1 b hb
          refine ⟨by omega, ?_⟩
          rintro (e | e)
          · omega
          · have := (KO.out b e).1; omega
      · rw [List.length_append, List.length_singleton, HTk.out]
        simpa [ints] using K2.out
      · simp at hb; subst hb
        rcases e with e | e
        · omega
        · exact HNt.out _ e rfl
      · simp at hb; subst hb
        rcases e with e | e
        · omega
        · exact HNk.out _ e rfl
    · have q1 : (y.t != t) = true := by simp [hq]
      have HLt2 : Hid (decide (LQ[pre.length].t = t) = false) := by show _ = _; rw [HYq.out]; simpa using hq
      clear hq
      gi_wp2_with fail
      exact ⟨KeptR.of_fr HF.out HSz2.out (fun _ _ h => h), HF.out.size, ⟨rfl, pre.length, HLt.out, HI1.out, HLt2.out⟩, by have := HSz.out; omega⟩
  case done =>
    rintro W hsz ⟨hI, hsz0⟩ hK
    rw [List.length_map] at hI
    obtain ⟨⟨v, hv, hown, hbel, hout⟩, hbt, hal, -⟩ := hI
    rw [List.take_length] at hal hown
    have HE : Hid (LQ.takeWhile (fun x => decide (x.t = t)) = LQ) := by
      have := run_stop (p := fun x : Sn => decide (x.t = t)) (L := LQ) (m := LQ.length) (by rw [List.take_length]; exact hal) (fun h => absurd h (Nat.lt_irrefl _))
      rwa [List.take_length] at this
    have cv : W.cell? ⟨w.heap.size + 1, 0, none⟩ = some v := hv.cell 0
    have HO := Lib.hid hown; have HBe := Lib.hid hbel; have HOut := Lib.hid hout; have HK := Lib.hid hK
    clear hv hown hbel hout hK hbt hal
    obtain ⟨A, cA, rfl, -, -⟩ := Sl.of_own HO.out
    go_wp2_with fail
    try rw [Exit.noGoto_ret]
    refine ⟨by simp, .inl ⟨_, _, rfl, run_takeDeferred HK.out, ?_⟩⟩
    have hs1 := HZ.out
    have hsA := HSA.out
    have hf := Fr.putObj W W0.heap.size (.deferred none) (S := (· = W0.heap.size)) rfl
    refine ⟨_, by simp [results, Try.results24, go_sem], .slice A LQ.length cA, rfl, ?_, (HWA.out.below (Nat.le_refl _) (fun _ _ h => h)).trans ((HBe.out.mono (by omega)).trans (hf.below (by omega) (fun k hk e => by omega)))⟩
    rw [HE.out, List.length_map]
    exact ownsRow_base (ownsRow_fr HO.out hf (fun b hb e => HOut.out b hb ⟨by omega, by omega⟩)) (by omega)
  case stop =>
    rintro k pre W hsz hpre ⟨⟨rfl, m, hm, hI, hge⟩, hsz0⟩ hK
    obtain ⟨⟨v, hv, hown, hbel, hout⟩, hbt, hal, -⟩ := hI
    have HE : Hid (LQ.takeWhile (fun x => decide (x.t = t)) = LQ.take m) := run_stop hal (fun _ => hge)
    have hml : m = (LQ.take m).length := by rw [List.length_take]; omega
    have cv : W.cell? ⟨w.heap.size + 1, 0, none⟩ = some v := hv.cell 0
    have HO := Lib.hid hown; have HBe := Lib.hid hbel; have HOut := Lib.hid hout; have HK := Lib.hid hK
    have HM := Lib.hid hml
    clear hv hown hbel hout hK hbt hal hml
    obtain ⟨A, cA, rfl, -, -⟩ := Sl.of_own HO.out
    refine (wpIn_wide (n := 3)).2 ?_
    go_wp2_with fail
    try rw [Exit.noGoto_ret]
    refine ⟨by simp, .inl ⟨_, _, rfl, run_takeDeferred HK.out, ?_⟩⟩
    have hs1 := HZ.out
    have hsA := HSA.out
    have hf := Fr.putObj W W0.heap.size (.deferred none) (S := (· = W0.heap.size)) rfl
    refine ⟨_, by simp [results, Try.results24, go_sem], .slice A m cA, rfl, ?_, (HWA.out.below (Nat.le_refl _) (fun _ _ h => h)).trans ((HBe.out.mono (by omega)).trans (hf.below (by omega) (fun k hk e => by omega)))⟩
    rw [HE.out, List.length_map, ← HM.out]
    exact ownsRow_base (ownsRow_fr HO.out hf (fun b hb e => HOut.out b hb ⟨by omega, by omega⟩)) (by omega)
theorem Spans_none (t : Int) (w : World) : Calls Try.prog 24 #[.pointer none, .int .i64 t] w fun e w' => e = .returned (.slice none 0 0) ∧ Fr (fun _ => False) w w' := by
  have HF : Hid (Fr (fun _ => False) w ((w.alloc (.cells #[.int .i64 t] TI)).alloc (.cells #[.slice none 0 0] TInts))) := (Fr.alloc _ _ _).trans (Fr.alloc (fun _ => False) _ _) (fun _ _ h => h) (fun _ _ h => h)
  go_enter Try.func24, Try.ntmps24
  go_wp2_with fail
  try rw [Exit.noGoto_ret]
  go_ret
  exact ⟨rfl, HF.out⟩
end Kds
end Go.Proofs.Ytkhhdadlpilbmaa
