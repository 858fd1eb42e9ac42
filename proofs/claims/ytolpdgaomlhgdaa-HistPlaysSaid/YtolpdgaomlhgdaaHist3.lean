/- Histograms: Quantile. -/
import Derived.Test.YtolpdgaomlhgdaaHist2
import Derived.Test.YtolpdgaomlhgdaaRng
import Derived.Test.YtolpdgaomlhgdaaColl
import Derived.RangeFuncLeaves
import Derived.OwnWalkIn
namespace Go.Proofs.Ytolpdgaomlhgdaa
open Go.RowKit Go.Shelf
namespace Hist
open HistP BagP Bag Wide Bucket
attribute [local go_sem] Oper.semAt_some
theorem findQ_app (r : Int) (A B : List (Int × Int)) (h : findQ r A = none) : findQ r (A ++ B) = findQ (r - sumL A) B := by
  induction A generalizing r with
  | nil => simp [sumL]
  | cons p A ih =>
    obtain ⟨k, m⟩ := p
    unfold findQ at h
    rw [List.cons_append]
    conv => lhs; unfold findQ
    by_cases hr : r ≤ m
    · rw [if_pos hr] at h; cases h
    · rw [if_neg hr] at h ⊢
      rw [ih _ h, show sumL ((k, m) :: A) = m + sumL A by simp [sumL], Int.sub_sub]
theorem findQ_pre {r k : Int} {A L : List (Int × Int)} (h : findQ r A = some k) (hp : A <+: L) : findQ r L = some k := by
  obtain ⟨B, rfl⟩ := hp
  induction A generalizing r with
  | nil => cases h
  | cons p A ih =>
    obtain ⟨k', m⟩ := p
    unfold findQ at h
    rw [List.cons_append]
    unfold findQ
    by_cases hr : r ≤ m
    · rw [if_pos hr] at h ⊢; exact h
    · rw [if_neg hr] at h ⊢; exact ih h
theorem sum_pre {A L : List (Int × Int)} (hp : A <+: L) (hP : Pos L) : 0 ≤ sumL A ∧ sumL A ≤ sumL L := by
  obtain ⟨B, rfl⟩ := hp
  have h1 : Pos A := fun p h => hP p (by simp [h])
  have h2 : Pos B := fun p h => hP p (by simp [h])
  have := (h1.cnt 0).2.2
  have := (h2.cnt 0).2.2
  rw [sumL_append]; omega
set_option maxRecDepth 100000 in
theorem Quantile_none (p : Int) (w : World) : Calls Try.prog 61 #[.pointer none, .int .i64 p] w fun e w' => e = .returned (bv (0, 0, false)) ∧ w = w' := by
  have HL := Lib.hid (Len_none w)
  go_enter Try.func61, Try.ntmps61
  go_wp2_with fail
  go_step3
  go_wp2_with fail
  refine HL.out.mono ?_
  rintro e w1 ⟨rfl, rfl⟩
  go_wp2_with fail
  rw [Exit.noGoto_ret]
  go_ret3
  exact ⟨rfl, rfl⟩
/-- The state of the loop. -/
structure QI (w : World) (Bl Ba : Nat) (W : World) (r k : Int) : Prop where
  l : Bk W Bl #[.int .i64 r] TI
  a : Bk W Ba #[.int .i64 k] TI
  f : Fr (fun _ => False) w W
theorem QI.frR {w W W' : World} {Bl Ba lo hi : Nat} {r k : Int} (h : QI w Bl Ba W r k) (hf : Fr (Rg lo hi) W W') (h1 : Bl < lo) (h2 : Ba < lo) (h3 : w.heap.size ≤ lo) : QI w Bl Ba W' r k :=
  ⟨h.l.fr hf (fun b hb hr => by simp at hb; subst hb; have := hr.1; omega), h.a.fr hf (fun b hb hr => by simp at hb; subst hb; have := hr.1; omega), h.f.trans hf (fun _ _ h => h) (fun i hi hr => by have := hr.1; omega)⟩
def lastK (pre : List (Int × Int)) : Int := (pre.getLast?.map (·.1)).getD 0
set_option maxRecDepth 100000 in
set_option maxHeartbeats 1000000 in
theorem Quantile (B : Nat) (p : Int) (x : HS) (F : List Nat) (w : World) (h : HB w B x F) : Calls Try.prog 61 #[.pointer (some ⟨B, 0, none⟩), .int .i64 p] w fun e w' => e = .returned (bv (quant x p)) ∧ Fr (fun _ => False) w w' := by
  have HL := Lib.hid (Len B x F w h)
  have hok := h.ok
  have hs0 := (hok.pos.cnt 0).2.2
  by_cases hz : sumL x.1 = 0
  · have HE : Hid (quant x p = (0, 0, false)) := by
      show _ = _
      have hnil : x.1 = [] := by
        cases hx : x.1 with
        | nil => rfl
        | cons q t =>
          exfalso
          have h1 := hok.pos q (by rw [hx]; simp)
          have h2 : Pos t := fun q hq => hok.pos q (by rw [hx]; simp [hq])
          have h3 := (h2.cnt 0).2.2
          rw [hx] at hz
          simp [sumL] at hz
          omega
      unfold quant; rw [hnil]; rfl
    rw [hz] at HL
    clear h hok hs0 hz
    go_enter Try.func61, Try.ntmps61
    go_wp2_with fail
    go_step3
    go_wp2_with fail
    refine HL.out.mono ?_
    rintro e w1 ⟨rfl, rfl⟩
    go_wp2_with fail
    rw [Exit.noGoto_ret]
    go_ret3
    exact ⟨by rw [HE.out]; rfl, Fr.refl _ _⟩
  · have hn1 : 1 ≤ sumL x.1 := by omega
    have hmost := hok.most
    have HRk := Lib.hid (rank (sumL x.1) p w hs0 hmost)
    have hr := rank_rng (p := p) hn1
    obtain ⟨kq, hkq⟩ := findQ_some hr.1 hr.2
    have HE : Hid (quant x p = bnd kq) := by show _ = _; unfold quant; rw [hkq]
    have HKq := Lib.hid hkq
    have t0 : (sumL x.1 == 0) = false := by simpa using hz
    obtain ⟨G, hM, hGF⟩ := h.mapP
    have HPos := Lib.hid hok.pos
    have hGlt : Hid (∀ b ∈ G, b < w.heap.size) := fun b hb => h.lt b (hGF b hb)
    have HM := Lib.hid hM
    clear h hok hz hkq hM hGF
    obtain ⟨L, s⟩ := x
    dsimp only at *
    generalize hrr : HistP.rank (sumL L) p = r at *
    clear hrr
    have HAll := fun w => Lib.hid (Bag.All B 0 w)
    refine (callsIn_wide (n := 3)).1 ?_
    refine callsIn_of_wp_marks Try.func61 rfl trivial ?_ rfl
    simp only [Try.ntmps61, List.size_toArray, List.length_cons, List.length_nil, Nat.reduceAdd, Nat.reduceSub, Array.replicate_succ, Array.replicate_zero, List.push_toArray, List.append_toArray, List.nil_append, List.cons_append]
    refine wpIn_wide.2 ?_
    go_wp2_with fail
    go_step3
    go_wp2_with fail
    refine HL.out.mono ?_
    rintro e w1 ⟨rfl, rfl⟩
    go_wp2_with fail
    refine HL.out.mono ?_
    rintro e w1 ⟨rfl, rfl⟩
    go_wp2_with fail
    refine HRk.out.mono ?_
    rintro e w1 ⟨rfl, rfl⟩
    go_wp2_with fail
    go_step3
    go_wp2_with fail
    refine (HAll _).out.mono ?_
    rintro e w1 ⟨rfl, rfl⟩
    go_wp2_with fail
    have hq0 : QI w w.heap.size (w.heap.size + 1) (((w.alloc (.cells #[.int .i64 r] TI)).alloc (.cells #[.int .i64 0] TI)).alloc (.cells #[.pointer (some ⟨B, 0, none⟩)] 52)) r 0 := by
      have b2 := (Bk.new (w.alloc (.cells #[.int .i64 r] TI)) #[.int .i64 0] TI).frF (Fr.alloc _ _ (.cells #[.pointer (some ⟨B, 0, none⟩)] 52))
      rw [World.size_alloc] at b2
      exact ⟨((Bk.new w _ _).frF (Fr.alloc _ _ _)).frF (Fr.alloc _ _ _), b2, ((Fr.alloc _ _ _).to (Fr.alloc _ _ _)).to (Fr.alloc _ _ _)⟩
    have hcc : (((w.alloc (.cells #[.int .i64 r] TI)).alloc (.cells #[.int .i64 0] TI)).alloc (.cells #[.pointer (some ⟨B, 0, none⟩)] 52)).cell? ⟨w.heap.size + 1 + 1, 0, none⟩ = some (.pointer (some ⟨B, 0, none⟩)) := by
      have := (Bk.new ((w.alloc (.cells #[.int .i64 r] TI)).alloc (.cells #[.int .i64 0] TI)) #[.pointer (some ⟨B, 0, none⟩)] 52).cell 0
      simpa using this
    have hsz0 : (((w.alloc (.cells #[.int .i64 r] TI)).alloc (.cells #[.int .i64 0] TI)).alloc (.cells #[.pointer (some ⟨B, 0, none⟩)] 52)).heap.size = w.heap.size + 3 := by simp
    have hM0 := HM.out.below (hq0.f.below (Nat.le_refl _) (fun _ _ h => h))
    generalize ((w.alloc (.cells #[.int .i64 r] TI)).alloc (.cells #[.int .i64 0] TI)).alloc (.cells #[.pointer (some ⟨B, 0, none⟩)] 52) = W0 at *
    have HS0 := Lib.hid hsz0; have HQ0 := Lib.hid hq0
    clear hsz0 HM HL HRk HAll hq0
    refine (wpIn_wide (n := 3)).1 ?_
    refine range_P' (n := 3) (a₁ := ?fr) (gf := 92) (lb := #[.pointer (some ⟨w.heap.size + 1 + 1, 0, none⟩)]) rfl (enters_of Try.func92 (by kernel_rfl) rfl)
      (AvlII.All_seq G (w.heap.size + 1 + 1) (some ⟨B, 0, none⟩) L G W0 hcc (by have := HS0.out; omega) hM0 (fun _ h => h)) (fun b hb => by have := hGlt.out b hb; have := HS0.out; omega) (fun _ => rfl)
      (fun (pre : List (Int × Int)) (W : World) => QI w w.heap.size (w.heap.size + 1) W (r - sumL pre) (lastK pre) ∧ findQ r pre = none)
      (fun k (pre : List (Int × Int)) (W : World) => k = .exit 0 ∧ ∃ kk r', QI w w.heap.size (w.heap.size + 1) W r' kk ∧ findQ r pre = some kk)
      (fun pre A B h hf => ⟨h.1.frR hf (by have := HS0.out; omega) (by have := HS0.out; omega) (by have := HS0.out; omega), h.2⟩)
      (fun k pre A B h hf => ⟨h.1, h.2.imp fun kk h => h.imp fun r' h => ⟨h.1.frR hf (by have := HS0.out; omega) (by have := HS0.out; omega) (by have := HS0.out; omega), h.2⟩⟩)
      ⟨by simpa [sumL, lastK] using HQ0.out, rfl⟩ ?assign ?body ?done ?stop
    case assign =>
      intro l m x W K hK
      gi_wp2
      exact hK
    case body =>
      rintro l m pre x W ⟨hI, hno⟩ hsz hpre rfl _ _
      (try dsimp only)
      obtain ⟨xk, xm⟩ := x
      have hs1 := sum_pre hpre HPos.out
      have hs2 := sum_pre (List.IsPrefix.trans (List.prefix_append _ _) hpre) HPos.out
      have hsn : sumL (pre ++ [(xk, xm)]) = sumL pre + xm := by rw [sumL_append]; simp [sumL]
      have HF := Lib.hid (findQ_app r pre [(xk, xm)] hno)
      have HSn := Lib.hid hsn
      rw [hsn] at hs1
      have HLk : Hid (lastK (pre ++ [(xk, xm)]) = xk) := by show _ = _; simp [lastK]
      have cl0 : W.cell? ⟨w.heap.size, 0, none⟩ = some (.int .i64 (r - sumL pre)) := hI.l.cell 0
      have ca0 : W.cell? ⟨w.heap.size + 1, 0, none⟩ = some (.int .i64 (lastK pre)) := hI.a.cell 0
      have fl0 := hI.l.free 0
      have fa0 := hI.a.free 0
      have HI := Lib.hid hI
      clear hsn hno hI
      generalize hsp : sumL pre = sp at *
      clear hsp
      have hW : Hid (∀ u v : Value, Fr (fun k => k = w.heap.size ∨ k = w.heap.size + 1) W ((W.setCell ⟨w.heap.size + 1, 0, none⟩ u).setCell ⟨w.heap.size, 0, none⟩ v)) := fun u v =>
        (Fr.setCell W ⟨w.heap.size + 1, 0, none⟩ u (S := fun k => k = w.heap.size ∨ k = w.heap.size + 1) (.inr rfl)).trans (Fr.setCell _ ⟨w.heap.size, 0, none⟩ v (S := fun k => k = w.heap.size ∨ k = w.heap.size + 1) (.inl rfl)) (fun _ _ h => h) (fun _ _ h => h)
      have HQ : Hid (∀ u v : Int, QI w w.heap.size (w.heap.size + 1) ((W.setCell ⟨w.heap.size + 1, 0, none⟩ (.int .i64 u)).setCell ⟨w.heap.size, 0, none⟩ (.int .i64 v)) v u) := fun u v =>
        ⟨(HI.out.l.other (a := ⟨w.heap.size + 1, 0, none⟩) (by simp) _).set 0 _, (HI.out.a.set 0 _).other (a := ⟨w.heap.size, 0, none⟩) (by simp) _, (HI.out.f.set_new (by simp) _).set_new (by simp) _⟩
      by_cases hle : r - sp - xm ≤ 0
      · have HFd : Hid (findQ r (pre ++ [(xk, xm)]) = some xk) := by show _ = _; rw [HF.out]; unfold findQ; rw [if_pos (by omega)]
        gi_wp2
        have hs3 := HS0.out
        refine ⟨KeptR.of_fr (hW.out _ _) hsz (fun b hr h => by have := hr.1; omega), (hW.out _ _).size, rfl, _, _, HQ.out _ _, HFd.out⟩
      · have HFd : Hid (findQ r (pre ++ [(xk, xm)]) = none) := by show _ = _; rw [HF.out]; unfold findQ; rw [if_neg (by omega)]; rfl
        gi_wp2
        have hs3 := HS0.out
        refine ⟨KeptR.of_fr (hW.out _ _) hsz (fun b hr h => by have := hr.1; omega), (hW.out _ _).size, KeptL.of_fr (hW.out _ _) (fun b hb => ⟨by have := hGlt.out b hb; omega, fun h => by have := hGlt.out b hb; omega⟩), ?_, HFd.out⟩
        rw [HSn.out, HLk.out, ← Int.sub_sub]
        exact HQ.out _ _
    case done =>
      rintro W hsz ⟨hI, hno⟩ hK
      have := HKq.out
      rw [hno] at this
      cases this
    case stop =>
      rintro k pre W hsz hpre ⟨rfl, kk, r', hI, hfd⟩ hK
      have hkk : kk = kq := by
        have h1 := findQ_pre hfd hpre
        rw [HKq.out] at h1
        cases h1; rfl
      subst hkk
      have ca0 : W.cell? ⟨w.heap.size + 1, 0, none⟩ = some (.int .i64 kk) := hI.a.cell 0
      have HI := Lib.hid hI; have HK := Lib.hid hK
      clear hI hK hfd hcc hM0
      have HBo := Lib.hid (Bucket.Bounds kk W)
      refine (wpIn_wide (n := 3)).2 ?_
      go_wp2_with fail
      refine HBo.out.mono ?_
      rintro e w2 ⟨rfl, rfl⟩
      generalize bnd kk = bb at *
      obtain ⟨b1, b2, b3⟩ := bb
      go_wp2_with fail
      rw [Exit.noGoto_ret]
      refine ⟨by simp, .inl ⟨_, _, rfl, run_takeDeferred HK.out, ?_⟩⟩
      have hs1 := HS0.out
      have hf := Fr.putObj W W0.heap.size (.deferred none) (S := (· = W0.heap.size)) rfl
      exact ⟨bv (b1, b2, b3), by simp [results, Try.results61, go_sem], by rw [HE.out], HI.out.f.trans hf (fun _ _ h => h) (fun i hi e => by omega)⟩
end Hist
end Go.Proofs.Ytolpdgaomlhgdaa
