/- What is past: the keys below a time, where the index is a part of another object. -/
import Derived.Test.YtdpngmgaomghoaaGreatExps
import Derived.Test.YtdpngmgaomghoaaGreatExp34
import Derived.Deep.CutBlock
import Derived.Shelf.Abstract
import Derived.RangeFuncCalls
import Derived.RangeFuncBound
import Derived.RangeFuncLeaves
import Derived.TacticsInMore
import Derived.Sort.AtCallIn
import Derived.Maps.OwnIn
namespace Go.Proofs.YtdpngmgaomghoaaGreat
open Go.RowKit Go.Shelf
open KeyP ExpP
attribute [local go_sem] Oper.semAt_some
namespace ExpO
open KeyP ExpP Exp
set_option maxRecDepth 100000 in
set_option maxHeartbeats 1000000 in
theorem Below_ (B off : Nat) (c : Array Value) (T : TypeId) (M : List It) (F : List Nat) (time : Int) (w : World) (h : IB w B off c T M F) (sz : M.length ≤ 1000000) :
    Calls Tryz.prog 108 #[.pointer (some ⟨B, off, none⟩), .int .i64 time] w (BelowPost M time w) := by
  obtain ⟨i0, hi, hz0, hz1_, hz2⟩ := info_parts infoS
  have hFlt := h.lt
  obtain ⟨K, r1, r2, F1, F2, h, hr, rfl⟩ := h
  obtain ⟨KL, rfl, hsK, hmK⟩ := hr.items
  have hgd : ∀ p ∈ KL, gd p := fun p hp => hr.g p ((hmK p).1 hp)
  have hlen : KL.length ≤ 1000000 := by have := hr.len; rw [List.length_map] at this; omega
  have hFlt2 : ∀ b ∈ F2, b < w.heap.size := fun b hb => hFlt b (by simp [hb])
  have HPost := Lib.hid (⟨hsK, hmK⟩ : KL.Pairwise (fun p q => lt2 p q = true) ∧ (∀ p, p ∈ KL ↔ p ∈ M))
  have hMP : AvlSE.MapP w (some ⟨B, off + 2, none⟩) (KL.map (fun p => (ek p, ()))) F2 := .inr ⟨B, off + 2, r2, rfl, h.cells.2.2.1, h.m2⟩
  have HAll := fun w => Lib.hid (All_any B (off + 2) w)
  have hBl := lt_of_heap h.blk
  have HGd := Lib.hid hgd
  clear h hr hFlt hsK hmK hgd
  refine (callsIn_wide (n := 3)).1 ?_
  refine callsIn_of_wp_marks Tryz.func108 rfl trivial ?_ rfl
  simp only [Tryz.ntmps108, List.size_toArray, List.length_cons, List.length_nil, Nat.reduceAdd, Nat.reduceSub, Array.replicate_succ, Array.replicate_zero, List.push_toArray, List.append_toArray, List.nil_append, List.cons_append]
  refine wpIn_wide.2 ?_
  go_wp2_with fail
  go_step3
  go_wp2_with fail
  go_step3
  go_wp2_with fail
  refine (HAll _).out.mono ?_
  rintro e w1 ⟨rfl, rfl⟩
  go_wp2_with fail
  have fa := fun (w : World) (o : Obj) => Fr.alloc (fun _ => False) w o
  have nn : ∀ G : List Nat, ∀ b ∈ G, ¬ False := fun _ _ _ h => h
  have hs0 : (((w.alloc (.cells #[.int .i64 time] TI)).alloc (.cells #[.slice none 0 0] TSs)).alloc (.cells #[.pointer (some ⟨B, off + 2, none⟩)] 274)).heap.size = w.heap.size + 3 := by simp
  have bt : Bk (((w.alloc (.cells #[.int .i64 time] TI)).alloc (.cells #[.slice none 0 0] TSs)).alloc (.cells #[.pointer (some ⟨B, off + 2, none⟩)] 274)) w.heap.size #[.int .i64 time] TI := ((Bk.new w _ _).fr (fa _ _) (nn _)).fr (fa _ _) (nn _)
  have bo : Bk (((w.alloc (.cells #[.int .i64 time] TI)).alloc (.cells #[.slice none 0 0] TSs)).alloc (.cells #[.pointer (some ⟨B, off + 2, none⟩)] 274)) (w.heap.size + 1) #[.slice none 0 0] TSs := by
    have := (Bk.new (w.alloc (.cells #[.int .i64 time] TI)) #[.slice none 0 0] TSs).fr (fa _ (.cells #[.pointer (some ⟨B, off + 2, none⟩)] 274)) (nn _)
    rwa [World.size_alloc] at this
  have hcc : (((w.alloc (.cells #[.int .i64 time] TI)).alloc (.cells #[.slice none 0 0] TSs)).alloc (.cells #[.pointer (some ⟨B, off + 2, none⟩)] 274)).cell? ⟨w.heap.size + 1 + 1, 0, none⟩ = some (.pointer (some ⟨B, off + 2, none⟩)) := by
    have := (Bk.new ((w.alloc (.cells #[.int .i64 time] TI)).alloc (.cells #[.slice none 0 0] TSs)) #[.pointer (some ⟨B, off + 2, none⟩)] 274).cell 0
    simpa using this
  have hb0 : Below w.heap.size w (((w.alloc (.cells #[.int .i64 time] TI)).alloc (.cells #[.slice none 0 0] TSs)).alloc (.cells #[.pointer (some ⟨B, off + 2, none⟩)] 274)) := (((Below.refl _ w).alloc (Nat.le_refl _) _).alloc (by simp) _).alloc (by simp; omega) _
  have hM0 := hMP.below hb0
  generalize ((w.alloc (.cells #[.int .i64 time] TI)).alloc (.cells #[.slice none 0 0] TSs)).alloc (.cells #[.pointer (some ⟨B, off + 2, none⟩)] 274) = W0 at *
  have HS0 := Lib.hid hs0
  have HB0 := Lib.hid hb0
  have n0 : w.heap.size + 1 + 1 < W0.heap.size := by omega
  clear hs0 fa hMP HAll hb0
  refine (wpIn_wide (n := 3)).1 ?_
  refine range_P' (n := 3) (a₁ := ?fr) (gf := 229) (lb := #[.pointer (some ⟨w.heap.size + 1 + 1, 0, none⟩)]) rfl (enters_of Tryz.func229 (by kernel_rfl) rfl)
    (AvlSE.All_seq F2 (w.heap.size + 1 + 1) (some ⟨B, off + 2, none⟩) (KL.map (fun p => (ek p, ()))) F2 W0 hcc n0 hM0 (fun _ h => h)) (fun b hb => by have := hFlt2 b hb; have := HS0.out; omega) (fun _ => rfl)
    (fun (pre : List (ByteArray × Unit)) (W : World) => BI w.heap.size W0.heap.size (W0.heap.size + 2 + 0) w.heap.size (w.heap.size + 1) time KL w W pre.length ∧ W0.heap.size ≤ W.heap.size)
    (fun k (pre : List (ByteArray × Unit)) (W : World) => (k = .exit 0 ∧ ∃ m, ∃ hm : m < KL.length, BI w.heap.size W0.heap.size (W0.heap.size + 2 + 0) w.heap.size (w.heap.size + 1) time KL w W m ∧ ¬ KL[m].2 < time) ∧ W0.heap.size ≤ W.heap.size)
    (fun pre A C h hf => ⟨h.1.abide hf (by omega) (fun h => by have := h.1; omega) (fun h => by have := h.1; omega) (by have := h.2; omega), Nat.le_trans h.2 hf.size⟩)
    (fun k pre A C h hf => ⟨⟨h.1.1, h.1.2.imp fun m h' => h'.imp fun hm h' => ⟨h'.1.abide hf (by omega) (fun h => by have := h.1; omega) (fun h => by have := h.1; omega) (by have := h.2; omega), h'.2⟩⟩, Nat.le_trans h.2 hf.size⟩)
    ⟨⟨Coll.start bo HB0.out, bt, by simp⟩, Nat.le_refl _⟩ ?assign ?body ?done ?stop
  case assign =>
    intro l m x W K hK
    gi_wp2
    exact hK
  case body =>
    rintro l m pre x W ⟨hI, hsz0⟩ hsz hpre rfl ⟨r, hl⟩ hd
    (try dsimp only)
    have hlt : pre.length < KL.length := by have := hpre.length_le; rw [List.length_append, List.length_singleton, List.length_map] at this; omega
    have hx : x = (ek KL[pre.length], ()) := by
      obtain ⟨t, ht⟩ := hpre
      have h1 : (KL.map (fun p => (ek p, ())))[pre.length]? = some x := by rw [← ht]; simp
      rw [List.getElem?_map, List.getElem?_eq_getElem hlt] at h1
      simpa using h1.symm
    subst hx
    have hg := HGd.out _ (List.getElem_mem hlt)
    have HSp := Lib.hid (SplitEk KL[pre.length] hg W)
    have HI := Lib.hid hI; have HL := Lib.hid hl; have HD := Lib.hid hd
    have HSz := Lib.hid hsz0
    have hTk : KL.take (pre.length + 1) = KL.take pre.length ++ [KL[pre.length]] := List.take_succ_eq_append_getElem hlt
    have HTk := Lib.hid hTk
    have HLt := Lib.hid hlt
    clear hg hI hl hd hpre hTk hM0 hcc bo bt
    generalize hp : KL[pre.length] = q at *
    have HQ := Lib.hid hp
    clear hp
    obtain ⟨qk, qe⟩ := q
    generalize ek (qk, qe) = ee at *
    dsimp only at *
    have hdd : ∀ k : Nat, (Fence.wide.depth.isSome = true → 1 ≤ k) := fun k h => by cases h
    gi_wp2_with fail
    refine ⟨trivial, fun h => (by cases h), CallsIn.inRound _ (callsIn_wide.2 ?_)⟩
    refine HSp.out.mono ?_
    rintro e w1 ⟨rfl, hf⟩
    have HF := Lib.hid hf
    have hB1 : Bk w1 w.heap.size #[.int .i64 time] TI := HI.out.t.fr hf (fun _ _ h => h)
    have ct : w1.cell? ⟨w.heap.size, 0, none⟩ = some (.int .i64 time) := hB1.cell 0
    clear hf HSp
    have HI1 := Lib.hid (show BI w.heap.size W0.heap.size (W0.heap.size + 2 + 0) w.heap.size (w.heap.size + 1) time KL w w1 pre.length from by
      obtain ⟨⟨v, c1, c2, c3, c4⟩, c5, c6⟩ := HI.out
      exact ⟨⟨v, c1.fr HF.out (fun _ _ h => h), ownsRow_fr c2 HF.out (fun _ _ h => h), c3.trans (HF.out.below (by have := HSz.out; omega) (fun _ _ h => h)), c4⟩, hB1, c6⟩)
    have hz1 : W.heap.size ≤ w1.heap.size := HF.out.size
    have HL1 := Lib.hid ((HF.out.block (W0.heap.size + 1) (by omega) (fun h => h)).trans HL.out)
    have HD1 := Lib.hid ((HF.out.block W0.heap.size (by omega) (fun h => h)).trans HD.out)
    by_cases hlt2 : qe < time
    · have q1 : decide (time ≤ qe) = false := by simp; omega
      have HAl : Hid (∀ p ∈ KL.take (pre.length + 1), p.2 < time) := fun p hp => by
        rw [HTk.out] at hp
        rcases List.mem_append.1 hp with hp | hp
        · exact HI.out.a p hp
        · simp at hp; subst hp; exact hlt2
      obtain ⟨⟨v, hv, hown, hbel, hout⟩, -, -⟩ := HI1.out
      have cv : w1.cell? ⟨w.heap.size + 1, 0, none⟩ = some v := hv.cell 0
      have fv := hv.free 0
      have hn1 : w.heap.size ≤ w1.heap.size := by have := HSz.out; omega
      have HV := Lib.hid hv; have HO := Lib.hid hown; have HBe := Lib.hid hbel; have HOut := Lib.hid hout
      have hown' := hown.alloc (.cells #[.string qk] TStr)
      have HNt : Hid (∀ b, v.ownBlock = some b → b ≠ w.heap.size) := fun b hb e => by
        obtain ⟨_, _, c, hc⟩ := ownsRow_blk HO.out b hb
        rw [e, show w1.heap[w.heap.size]? = _ from hB1] at hc
        cases hc
      clear hlt2 hv hown hbel hout
      gi_wp2_with (gi_at_builtin; refine wpListIn_append_own _ rfl (.tmp 28) (.tmp 30) TSs rfl w.heap.size TStr i0 (.string ByteArray.empty) 1 16 Tryz.underlying60 hi hz0 hz1_ hz2 rfl (by decide) _ _ _ rfl hown' ⟨w1.heap.size, 0, none⟩ 1 1 [.string qk] rfl rfl (new_cells w1 TStr [.string qk]) (by simp [Value.oneCell']) (by unfold maxLen; omega) (by omega) (by simp; omega) ?_)
      intro v' w2 hown1 hgrow _
      obtain ⟨g', cap', rfl⟩ := ownsRow_succ hown1
      have hb : ¬ Rg W0.heap.size (W0.heap.size + 2 + 0) (w.heap.size + 1) := fun h => by have := h.1; have := HS0.out; omega
      obtain ⟨k1, k2, k3⟩ := Coll.step HV.out HO.out HBe.out HOut.out (by decide) hn1 (by omega) hb HL1.out HD1.out hown1 hgrow
      have cv1 : w2.cell? ⟨w.heap.size + 1, 0, none⟩ = some v := k1.cell 0
      have fv1 := k1.free 0
      have K2 := Lib.hid k2; have K3 := Lib.hid k3; have KO := Lib.hid (ownsRow_blk HO.out)
      clear k1 k2 k3 hown1 hgrow hown' cv fv ct
      gi_wp2_with fail
      have hs1 := HS0.out
      have hF3 : Fr (fun b => b = w.heap.size + 1 ∨ v.ownBlock = some b) W _ := HF.out.trans K3.out (fun _ _ h => h.elim) (fun _ _ h => h)
      refine ⟨KeptR.of_fr hF3 hsz ?_, hF3.size, KeptL.of_fr hF3 (fun b hb => ⟨by have := hFlt2 b hb; omega, ?_⟩), ⟨⟨?_, hB1.fr K3.out (fun b hb e => ?_), by rw [List.length_append, List.length_singleton]; exact HAl.out⟩, by have := hF3.size; omega⟩⟩
      · rintro b hr (e | e)
        · exact hb (e ▸ hr)
        · exact HOut.out b e hr
      · rintro (e | e)
        · have := hFlt2 b hb; omega
        · have := (KO.out b e).1; have := hFlt2 b hb; omega
      · rw [List.length_append, List.length_singleton, HTk.out]
        simpa [strs] using K2.out
      · simp at hb; subst hb
        rcases e with e | e
        · omega
        · exact HNt.out _ e rfl
    · have q1 : decide (time ≤ qe) = true := by simp; omega
      have HLt2 : Hid (¬ KL[pre.length].2 < time) := by show ¬ _; rw [HQ.out]; exact hlt2
      clear hlt2
      gi_wp2_with fail
      exact ⟨KeptR.of_fr HF.out hsz (fun _ _ h => h), HF.out.size, ⟨rfl, pre.length, HI1.out, HLt.out, HLt2.out⟩, by have := HSz.out; omega⟩
  case done =>
    rintro W hsz ⟨hI, hsz0⟩ hK
    rw [List.length_map] at hI
    obtain ⟨⟨v, hv, hown, hbel, hout⟩, hbt, hal⟩ := hI
    rw [List.take_length] at hal hown
    have HE := Lib.hid (all_below hal)
    have cv : W.cell? ⟨w.heap.size + 1, 0, none⟩ = some v := hv.cell 0
    have HO := Lib.hid hown; have HBe := Lib.hid hbel; have HOut := Lib.hid hout; have HK := Lib.hid hK
    clear hv hown hbel hout hK hM0 hcc bo bt hbt hal
    obtain ⟨A, cA, rfl, -, -⟩ := Sl.of_own HO.out
    go_wp2_with fail
    try rw [Exit.noGoto_ret]
    refine ⟨by simp, .inl ⟨_, _, rfl, run_takeDeferred HK.out, ?_⟩⟩
    have hs1 := HS0.out
    have hf := Fr.putObj W W0.heap.size (.deferred none) (S := (· = W0.heap.size)) rfl
    refine ⟨_, by simp [results, Tryz.results108, go_sem], KL, .slice A KL.length cA, HPost.out.1, HPost.out.2, rfl, ?_, HBe.out.trans (hf.below (by omega) (fun k hk e => by omega))⟩
    rw [← HE.out]
    exact ownsRow_fr HO.out hf (fun b hb e => HOut.out b hb ⟨by omega, by omega⟩)
  case stop =>
    rintro k pre W hsz hpre ⟨⟨rfl, m, hm, hI, hge⟩, hsz0⟩ hK
    obtain ⟨⟨v, hv, hown, hbel, hout⟩, hbt, hal⟩ := hI
    have hE := take_below hal hm hge
    rw [hE] at hown
    have hml : m = (below time KL).length := by rw [← hE, List.length_take]; omega
    have cv : W.cell? ⟨w.heap.size + 1, 0, none⟩ = some v := hv.cell 0
    have HO := Lib.hid hown; have HBe := Lib.hid hbel; have HOut := Lib.hid hout; have HK := Lib.hid hK
    have HM := Lib.hid hml
    clear hv hown hbel hout hK hM0 hcc bo bt hbt hal hE hml
    obtain ⟨A, cA, rfl, -, -⟩ := Sl.of_own HO.out
    refine (wpIn_wide (n := 3)).2 ?_
    go_wp2_with fail
    try rw [Exit.noGoto_ret]
    refine ⟨by simp, .inl ⟨_, _, rfl, run_takeDeferred HK.out, ?_⟩⟩
    have hs1 := HS0.out
    have hf := Fr.putObj W W0.heap.size (.deferred none) (S := (· = W0.heap.size)) rfl
    refine ⟨_, by simp [results, Tryz.results108, go_sem], KL, .slice A m cA, HPost.out.1, HPost.out.2, rfl, ?_, HBe.out.trans (hf.below (by omega) (fun k hk e => by omega))⟩
    have := ownsRow_fr HO.out hf (fun b hb e => HOut.out b hb ⟨by omega, by omega⟩)
    rw [HM.out] at this ⊢
    exact this
end ExpO
end Go.Proofs.YtdpngmgaomghoaaGreat
