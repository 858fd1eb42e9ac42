/- All records of a map, in order: the program's. -/
import Derived.Test.YtdpngmgaomghoaaGreatNewest
import Derived.Test.YtdpngmgaomghoaaGreatRngs
import Derived.Test.YtdpngmgaomghoaaGreatSetWs
import Derived.Deep.CutBlock
import Derived.Shelf.Abstract
import Derived.RangeFuncCalls
import Derived.RangeFuncBound
import Derived.RangeFuncLeaves
import Derived.TacticsInMore
import Derived.Sort.AtCallIn
import Derived.Maps.OwnIn
namespace Go.Proofs.YtdpngmgaomghoaaGreat
open Go.RowKit Go.Shelf
attribute [local go_sem] Oper.semAt_some
namespace Values
open KeyP PackP SetP SetW
theorem All_any (B off : Nat) (w : World) : Calls Tryz.prog 145 #[.pointer (some ⟨B, off, none⟩)] w fun e w' => e = .returned (.func (.func 211) #[] #[.pointer (some ⟨w.heap.size, 0, none⟩)]) ∧ w.alloc (.cells #[.pointer (some ⟨B, off, none⟩)] 155) = w' := AvlSS.All _ w
set_option maxRecDepth 100000 in
set_option maxHeartbeats 1000000 in
theorem values (B : Nat) (L : List Sn) (F : List Nat) (w : World) (h : AvlSS.MapB w B (mp id L) F) (sz : L.length ≤ 1000000) :
    Calls Tryz.prog 85 #[.pointer (some ⟨B, 0, none⟩)] w (OwnPost L w) := by
  obtain ⟨i0, hi, hz0, hz1_, hz2⟩ := info_parts infoS
  have hFlt := h.lt
  have hMP := h.mapP
  have HAll := fun w => Lib.hid (All_any B 0 w)
  have hBl := hFlt.1
  clear h
  refine (callsIn_wide (n := 3)).1 ?_
  refine callsIn_of_wp_marks Tryz.func85 rfl trivial ?_ rfl
  simp only [Tryz.ntmps85, List.size_toArray, List.length_cons, List.length_nil, Nat.reduceAdd, Nat.reduceSub, Array.replicate_succ, Array.replicate_zero, List.push_toArray, List.append_toArray, List.nil_append, List.cons_append]
  refine wpIn_wide.2 ?_
  go_wp2_with fail
  refine (HAll _).out.mono ?_
  rintro e w1 ⟨rfl, rfl⟩
  go_wp2_with fail
  have fa := fun (w : World) (o : Obj) => Fr.alloc (fun _ => False) w o
  have nn : ∀ G : List Nat, ∀ b ∈ G, ¬ False := fun _ _ _ h => h
  have hs0 : ((w.alloc (.cells #[.slice none 0 0] TSs)).alloc (.cells #[.pointer (some ⟨B, 0, none⟩)] 155)).heap.size = w.heap.size + 2 := by simp
  have bo : Bk ((w.alloc (.cells #[.slice none 0 0] TSs)).alloc (.cells #[.pointer (some ⟨B, 0, none⟩)] 155)) w.heap.size #[.slice none 0 0] TSs := (Bk.new w _ _).fr (fa _ _) (nn _)
  have hcc : ((w.alloc (.cells #[.slice none 0 0] TSs)).alloc (.cells #[.pointer (some ⟨B, 0, none⟩)] 155)).cell? ⟨w.heap.size + 1, 0, none⟩ = some (.pointer (some ⟨B, 0, none⟩)) := by
    have := (Bk.new (w.alloc (.cells #[.slice none 0 0] TSs)) #[.pointer (some ⟨B, 0, none⟩)] 155).cell 0
    rw [World.size_alloc] at this
    exact this
  have hb0 : Below w.heap.size w ((w.alloc (.cells #[.slice none 0 0] TSs)).alloc (.cells #[.pointer (some ⟨B, 0, none⟩)] 155)) := ((Below.refl _ w).alloc (Nat.le_refl _) _).alloc (by simp) _
  have hM0 := hMP.below hb0
  generalize ((w.alloc (.cells #[.slice none 0 0] TSs)).alloc (.cells #[.pointer (some ⟨B, 0, none⟩)] 155)) = W0 at *
  have HS0 := Lib.hid hs0
  have HB0 := Lib.hid hb0
  have n0 : w.heap.size + 1 < W0.heap.size := by omega
  clear hs0 fa hMP HAll hb0
  refine (wpIn_wide (n := 3)).1 ?_
  refine range_B (n := 3) (a₁ := ?fr) (gf := 211) (lb := #[.pointer (some ⟨w.heap.size + 1, 0, none⟩)]) rfl (enters_of Tryz.func211 (by kernel_rfl) rfl)
    (AvlSS.All_seq F (w.heap.size + 1) (some ⟨B, 0, none⟩) (mp id L) F W0 hcc n0 hM0 (fun _ h => h)) (fun b hb => by have := hFlt.2 b hb; have := HS0.out; omega) (fun _ => rfl)
    (fun (pre : List (ByteArray × Sn)) (W : World) => Coll w.heap.size W0.heap.size (W0.heap.size + 2 + 0) w.heap.size TSs TSn 9 w W pre.length ((L.take pre.length).flatMap scs) ∧ W0.heap.size ≤ W.heap.size)
    (fun k (pre : List (ByteArray × Sn)) (W : World) => False)
    (fun pre A C h hf => ⟨h.1.abide hf (by omega) (fun h => by have := h.1; omega) (by have := h.2; omega), Nat.le_trans h.2 hf.size⟩)
    (fun k pre A C h hf => h)
    ⟨Coll.start bo HB0.out, Nat.le_refl _⟩ (fun x => x.2.arr) TSn (fun pre W o h hsz => ⟨h.1.alloc o (by have := h.2; omega), by simp; omega⟩) ?assign ?body ?done ?stop
  case assign =>
    intro l m x W b K hb hK
    gi_wp2_with fail
    exact hK
  case body =>
    rintro l m pre x b W ⟨hI, hsz0⟩ hbk hbb hsz hpre rfl ⟨r, hl⟩ hd
    (try dsimp only)
    have hlt : pre.length < L.length := by have := hpre.length_le; rw [List.length_append, List.length_singleton, List.length_map] at this; omega
    have hx : x = (kk L[pre.length], L[pre.length]) := by
      obtain ⟨t, ht⟩ := hpre
      have h1 : (mp id L)[pre.length]? = some x := by rw [← ht]; simp
      rw [List.getElem?_map, List.getElem?_eq_getElem hlt] at h1
      simpa using h1.symm
    subst hx
    have HTk := Lib.hid (List.take_succ_eq_append_getElem hlt)
    generalize L[pre.length] = y at *
    obtain ⟨v, hv, hown, hbel, hout⟩ := hI
    have cv : W.cell? ⟨w.heap.size, 0, none⟩ = some v := hv.cell 0
    have fv := hv.free 0
    have hn1 : w.heap.size ≤ W.heap.size := by omega
    have HV := Lib.hid hv; have HO := Lib.hid hown; have HBe := Lib.hid hbel; have HOut := Lib.hid hout
    have HL := Lib.hid hl; have HD := Lib.hid hd; have HSz := Lib.hid hsz; have HSz0 := Lib.hid hsz0
    have hown' := hown.alloc (.cells y.arr TSn)
    have c0 : W.cell? ⟨b, 0, none⟩ = some (.int .i64 y.t) := hbk.cell 0
    have c1 : W.cell? ⟨b, 1, none⟩ = some (.int .i64 y.i) := hbk.cell 1
    have c2 : W.cell? ⟨b, 2, none⟩ = some (.int .i64 y.p) := hbk.cell 2
    have c3 : W.cell? ⟨b, 3, none⟩ = some (.int .i64 y.r) := hbk.cell 3
    have c4 : W.cell? ⟨b, 4, none⟩ = some (.string y.s) := hbk.cell 4
    have c5 : W.cell? ⟨b, 5, none⟩ = some (.string y.o) := hbk.cell 5
    have c6 : W.cell? ⟨b, 6, none⟩ = some (.int .i64 y.b) := hbk.cell 6
    have c7 : W.cell? ⟨b, 7, none⟩ = some (.int .i64 y.d) := hbk.cell 7
    have c8 : W.cell? ⟨b, 8, none⟩ = some (.bool y.g) := hbk.cell 8
    clear hv hown hbel hout hl hd hpre hbk
    gi_wp2_with (gi_at_builtin; refine wpListIn_append_own _ rfl (.tmp 10) (.tmp 12) TSs rfl w.heap.size TSn i0 (.agg #[.int .i64 0, .int .i64 0, .int .i64 0, .int .i64 0, .string ByteArray.empty, .string ByteArray.empty, .int .i64 0, .int .i64 0, .bool false]) 9 88 Tryz.underlying22 hi hz0 hz1_ hz2 rfl (by decide) _ _ _ rfl hown' ⟨W.heap.size, 0, none⟩ 1 1 y.cs rfl rfl (new_cells W TSn y.cs) (by simp [Value.oneCell']) (by unfold maxLen; omega) (by omega) (by simp; omega) ?_)
    intro v' w2 hown1 hgrow _
    obtain ⟨g', cap', rfl⟩ := ownsRow_succ hown1
    have hb : ¬ Rg W0.heap.size (W0.heap.size + 2 + 0) w.heap.size := fun h => by have := h.1; have := HS0.out; omega
    obtain ⟨k1, k2, k3⟩ := Coll.step HV.out HO.out HBe.out HOut.out (by decide) hn1 (by omega) hb HL.out HD.out hown1 hgrow
    have cv1 : w2.cell? ⟨w.heap.size, 0, none⟩ = some v := k1.cell 0
    have fv1 := k1.free 0
    have K2 := Lib.hid k2; have K3 := Lib.hid k3; have KO := Lib.hid (ownsRow_blk HO.out)
    clear k1 k2 k3 hown1 hgrow hown' cv fv c0 c1 c2 c3 c4 c5 c6 c7 c8
    gi_wp2_with fail
    have hs1 := HS0.out
    have hF3 := K3.out
    refine ⟨KeptR.of_fr hF3 hsz ?_, hF3.size, KeptL.of_fr hF3 (fun b hb => ⟨by have := hFlt.2 b hb; omega, ?_⟩), ⟨?_, by have := hF3.size; omega⟩⟩
    · rintro b hr (e | e)
      · exact hb (e ▸ hr)
      · exact HOut.out b e hr
    · rintro (e | e)
      · have := hFlt.2 b hb; omega
      · have := (KO.out b e).1; have := hFlt.2 b hb; omega
    · rw [List.length_append, List.length_singleton, HTk.out]
      simpa using K2.out
  case done =>
    rintro W hsz ⟨hI, hsz0⟩ hK
    rw [List.length_map] at hI
    obtain ⟨v, hv, hown, hbel, hout⟩ := hI
    rw [List.take_length] at hown
    have cv : W.cell? ⟨w.heap.size, 0, none⟩ = some v := hv.cell 0
    have HO := Lib.hid hown; have HBe := Lib.hid hbel; have HOut := Lib.hid hout; have HK := Lib.hid hK
    clear hv hown hbel hout hK hM0 hcc bo
    obtain ⟨A, cA, rfl, -, -⟩ := Sl.of_own HO.out
    go_wp2_with fail
    try rw [Exit.noGoto_ret]
    refine ⟨by simp, .inl ⟨_, _, rfl, run_takeDeferred HK.out, ?_⟩⟩
    have hs1 := HS0.out
    have hf := Fr.putObj W W0.heap.size (.deferred none) (S := (· = W0.heap.size)) rfl
    refine ⟨_, by simp [results, Tryz.results85, go_sem], .slice A L.length cA, rfl, ?_, HBe.out.trans (hf.below (by omega) (fun k hk e => by omega))⟩
    exact ownsRow_fr HO.out hf (fun b hb e => HOut.out b hb ⟨by omega, by omega⟩)
  case stop =>
    rintro k pre W hsz hpre hF hK
    exact hF.elim
end Values
end Go.Proofs.YtdpngmgaomghoaaGreat
