/- A store of records, plain: what is put, what goes, and how many may be. No program is named. -/
import Derived.Test.YtdpngmgaomghoaaGreatCS
import Derived.Test.YtdpngmgaomghoaaGreatQuotaPs
namespace Go.Proofs.YtdpngmgaomghoaaGreat
open Go.RowKit
namespace Sto
open KeyP PackP SetP SetW Comp BagP
def frs (L S : List Sn) : List Sn := S.filter (fun x => (fnd x L).isNone)
def dI (L S : List Sn) : List Sn := S.filter (bring L)
def dO (L S : List Sn) : List Sn := S.filterMap (fun x => match fnd x L with | some z => if nwr x z then some z else none | none => none)
theorem bring_none {L : List Sn} {x : Sn} (h : fnd x L = none) : bring L x = true := by unfold bring; rw [h]
theorem bring_some {L : List Sn} {x z : Sn} (h : fnd x L = some z) : bring L x = nwr x z := by unfold bring; rw [h]
section
variable {L S : List Sn}
theorem dI_mem (hL : Ok L) {y : Sn} : y ∈ dI L S ↔ y ∈ S ∧ ∀ z ∈ L, one z y = true → nwr y z = true := by
 unfold dI
 rw [List.mem_filter]
 refine and_congr_right (fun _ => ?_)
 cases h : fnd y L with
 | none =>
  rw [bring_none h]
  refine ⟨fun _ z hz h1 => ?_, fun _ => rfl⟩
  have := fnd_none h z hz
  rw [this] at h1; cases h1
 | some z =>
  rw [bring_some h]
  obtain ⟨hz, h1⟩ := fnd_some h
  refine ⟨fun hn u hu h2 => ?_, fun hh => hh z hz h1⟩
  rw [srs_uni hL.srs hu hz (one_tr h2 (one_sm h1))]; exact hn
theorem in_eq (hL : Ok L) (hS : Ok S) : dI L S = wout L (setOf (L ++ S)) := by
 refine srs_ext (hS.srs.filter _) (wout_srs (setOf_ok _).srs) (fun y => ?_)
 rw [dI_mem hL, wout_mem, mem_app hL hS]
 constructor
 ·rintro ⟨hy, hb⟩
  refine ⟨⟨.inr hy, fun x hx h1 => ?_⟩, fun hyL => ?_⟩
  ·rcases hx with hx | hx
   ·exact nwr_asym (hb x hx h1)
   ·rw [srs_uni hS.srs hx hy h1, nwr_irr]
  ·have := hb y hyL (one_refl y); rw [nwr_irr] at this; cases this
 ·rintro ⟨⟨hy, hn⟩, hyL⟩
  have hyS := hy.resolve_left hyL
  refine ⟨hyS, fun z hz h1 => ?_⟩
  cases hh : nwr y z with
  | true => rfl
  | false =>
   have e := nwr_tri (hL.may z hz) (hS.may y hyS) (hn z (.inl hz) h1) hh
   rw [hL.kept z hz, hS.kept y hyS] at e
   subst e; exact absurd hz hyL
theorem dO_mem {z : Sn} (hL : Ok L) : z ∈ dO L S ↔ z ∈ L ∧ ∃ x ∈ S, one x z = true ∧ nwr x z = true := by
 unfold dO
 rw [List.mem_filterMap]
 constructor
 ·rintro ⟨x, hx, h⟩
  cases hf : fnd x L with
  | none => rw [hf] at h; cases h
  | some u =>
   rw [hf] at h
   dsimp only at h
   obtain ⟨h1, h2⟩ := fnd_some hf
   split at h
   ·rename_i hn; cases h; exact ⟨h1, x, hx, one_sm h2, hn⟩
   ·cases h
 ·rintro ⟨hz, x, hx, h1, hn⟩
  refine ⟨x, hx, ?_⟩
  rw [fnd_mem hL.srs hz (one_sm h1)]
  dsimp only
  rw [if_pos hn]
theorem dO_srs (_hL : Ok L) (hS : Ok S) : Srs (dO L S) := by
 unfold dO
 refine List.Pairwise.filterMap _ (fun x y hxy u hu v hv => ?_) hS.srs
 cases hf : fnd x L with
 | none => rw [hf] at hu; cases hu
 | some p =>
  rw [hf] at hu
  dsimp only at hu
  cases hg : fnd y L with
  | none => rw [hg] at hv; cases hv
  | some q =>
   rw [hg] at hv
   dsimp only at hv
   split at hu
   ·split at hv
    ·cases hu; cases hv
     rw [(one_bef (fnd_some hf).2).1, (one_bef (fnd_some hg).2).2]; exact hxy
    ·cases hv
   ·cases hu
theorem out_eq (hL : Ok L) (hS : Ok S) : dO L S = wout (setOf (L ++ S)) L := by
 refine srs_ext (dO_srs hL hS) (wout_srs hL.srs) (fun z => ?_)
 rw [dO_mem hL, wout_mem]
 refine and_congr_right (fun hz => ?_)
 rw [mem_app hL hS]
 constructor
 ·rintro ⟨x, hx, h1, hn⟩ ⟨-, hh⟩
  have := hh x (.inr hx) h1
  rw [hn] at this; cases this
 ·intro hh
  refine Classical.byContradiction (fun hc => hh ⟨.inl hz, fun x hx h1 => ?_⟩)
  rcases hx with hx | hx
  ·rw [srs_uni hL.srs hx hz h1, nwr_irr]
  ·cases hn : nwr x z with
   | false => rfl
   | true => exact absurd ⟨x, hx, h1, hn⟩ hc
theorem next_eq (hL : Ok L) (hS : Ok S) : (dI L S).foldl (fun N x => ins x N) L = setOf (L ++ S) := by
 have hi := in_eq hL hS
 have hw : Srs (dI L S) := hS.srs.filter _
 refine srs_ext (foldl_ins_srs hL.srs) (setOf_ok _).srs (fun y => ?_)
 rw [foldl_ins_mem hL.srs hw]
 constructor
 ·rintro (⟨hy, hn⟩ | hy)
  ·refine Classical.byContradiction (fun hc => ?_)
   have : y ∈ wout (setOf (L ++ S)) L := wout_mem.2 ⟨hy, hc⟩
   rw [← out_eq hL hS, dO_mem hL] at this
   obtain ⟨-, x, hx, h1, h2⟩ := this
   have h3 : x ∈ dI L S := (dI_mem hL).2 ⟨hx, fun z hz h => by rw [srs_uni hL.srs hz hy (one_tr h h1)]; exact h2⟩
   have := hn x h3
   rw [one_sm h1] at this; cases this
  ·rw [hi] at hy; exact (wout_mem.1 hy).1
 ·intro hy
  by_cases hyL : y ∈ L
  ·refine .inl ⟨hyL, fun z hz => ?_⟩
   rw [hi] at hz
   obtain ⟨h1, h2⟩ := wout_mem.1 hz
   cases hh : one y z with
   | false => rfl
   | true => rw [srs_uni (setOf_ok _).srs hy h1 hh] at hyL; exact absurd hyL h2
  ·refine .inr ?_
   rw [hi]; exact wout_mem.2 ⟨hy, hyL⟩
theorem frs_dI : frs L S = (dI L S).filter (fun x => (fnd x L).isNone) := by
 unfold frs dI
 rw [List.filter_filter]
 refine List.filter_congr (fun x _ => ?_)
 cases h : fnd x L with
 | none => rw [bring_none h]; rfl
 | some z => rfl
theorem ins_tr {N : List Sn} {x : Sn} (hN : Srs N) : ((ins x N).map Sn.t).Perm (N.map Sn.t ++ if (fnd x N).isNone then [x.t] else []) := by
 cases h : fnd x N with
 | none =>
  have hx : x ∉ N := fun hm => by have := fnd_none h x hm; rw [one_refl] at this; cases this
  have : (ins x N).Perm (x :: N) := by
   rw [List.perm_ext_iff_of_nodup (srs_nodup (ins_srs hN)) (List.nodup_cons.2 ⟨hx, srs_nodup hN⟩)]
   intro y
   rw [ins_mem hN, List.mem_cons]
   refine or_congr_right ⟨fun h => h.1, fun hy => ⟨hy, fnd_none h y hy⟩⟩
  have := this.map Sn.t
  rw [List.map_cons] at this
  exact this.trans (List.perm_append_singleton _ _).symm
 | some z =>
  obtain ⟨hz, h1⟩ := fnd_some h
  have hx : x ∉ N.erase z := fun hm => by
   obtain ⟨h2, h3⟩ := (List.Nodup.mem_erase_iff (srs_nodup hN)).1 hm
   exact h2 (srs_uni hN h3 hz (one_sm h1))
  have : (ins x N).Perm (x :: N.erase z) := by
   rw [List.perm_ext_iff_of_nodup (srs_nodup (ins_srs hN)) (List.nodup_cons.2 ⟨hx, (srs_nodup hN).erase _⟩)]
   intro y
   rw [ins_mem hN, List.mem_cons, List.Nodup.mem_erase_iff (srs_nodup hN), and_comm (a := y ≠ z)]
   refine or_congr_right (and_congr_right (fun hy => ⟨fun h2 e => ?_, fun h2 => ?_⟩))
   ·subst e; rw [h1] at h2; cases h2
   ·cases hh : one y x with
    | false => rfl
    | true => exact absurd (srs_uni hN hy hz (one_tr hh (one_sm h1))) h2
  have h2 := this.map Sn.t
  have h3 := (List.perm_cons_erase hz).map Sn.t
  rw [List.map_cons] at h2 h3
  rw [(one_iff.1 h1).1] at h3
  show ((ins x N).map Sn.t).Perm (N.map Sn.t ++ [])
  rw [List.append_nil]
  exact h2.trans h3.symm
theorem fold_tr : ∀ {D N : List Sn}, Srs D → Srs N → ((D.foldl (fun N x => ins x N) N).map Sn.t).Perm (N.map Sn.t ++ (D.filter (fun x => (fnd x N).isNone)).map Sn.t)
 | [], N, _, _ => by simp
 | x :: D, N, hD, hN => by
  obtain ⟨h1, h2⟩ := List.pairwise_cons.1 hD
  rw [List.foldl_cons]
  refine (fold_tr h2 (ins_srs (x := x) hN)).trans ?_
  have e : D.filter (fun y => (fnd y (ins x N)).isNone) = D.filter (fun y => (fnd y N).isNone) := by
   refine List.filter_congr (fun y hy => ?_)
   have := fnd_ins hN (bef_ne (h1 y hy))
   revert this
   cases fnd y (ins x N) <;> cases fnd y N <;> simp
  rw [e, List.filter_cons]
  refine (List.Perm.append_right _ (ins_tr hN)).trans ?_
  rw [List.append_assoc]
  refine List.Perm.append_left _ ?_
  cases fnd x N <;> simp
theorem next_tr (hL : Ok L) (hS : Ok S) : ((setOf (L ++ S)).map Sn.t).Perm (L.map Sn.t ++ (frs L S).map Sn.t) := by
 rw [← next_eq hL hS, frs_dI]
 exact fold_tr (hS.srs.filter _) hL.srs
end
def cts (L : List Sn) : List (Int × Int) := QuotaP.addM (L.map Sn.t) []
def fits (all tr : Int) (L : List Sn) : Bool := QuotaP.okM all tr (L.map Sn.t) []
theorem cts_cs (L : List Sn) : QuotaP.Cs (cts L) := QuotaP.Cs.addM _ QuotaP.Cs.nil
theorem cts_cnt (L : List Sn) (t : Int) : cnt t (cts L) = (L.map Sn.t).count t := by unfold cts; rw [QuotaP.cnt_addM _ _ QuotaP.Cs.nil, cnt_nil]; omega
theorem cts_sum (L : List Sn) : sumL (cts L) = L.length := by unfold cts; rw [QuotaP.sum_addM _ QuotaP.Cs.nil, List.length_map]; simp [sumL]
theorem fits_iff {all tr : Int} {L : List Sn} : fits all tr L = true ↔ L = [] ∨ ((L.length : Int) ≤ all ∧ ∀ t ∈ L.map Sn.t, ((L.map Sn.t).count t : Int) ≤ tr) := by
 unfold fits
 rw [QuotaP.okM_iff all tr _ QuotaP.Cs.nil, List.map_eq_nil_iff, List.length_map]
 simp only [sumL, cnt_nil, Int.zero_add]
section
variable {L S : List Sn} {all tr : Int}
theorem cs_ext {A B : List (Int × Int)} (hA : QuotaP.Cs A) (hB : QuotaP.Cs B) (h : ∀ t, cnt t A = cnt t B) : A = B := bag_ext hA.srt hB.srt hA.pos hB.pos h
theorem cts_next (hL : Ok L) (hS : Ok S) : QuotaP.addM ((frs L S).map Sn.t) (cts L) = cts (setOf (L ++ S)) := by
 refine cs_ext ((cts_cs L).addM _) (cts_cs _) (fun t => ?_)
 rw [QuotaP.cnt_addM _ _ (cts_cs L), cts_cnt, cts_cnt, (next_tr hL hS).count_eq, List.count_append]
 omega
theorem room (hL : Ok L) (hS : Ok S) (hf : fits all tr L = true) : QuotaP.okM all tr ((frs L S).map Sn.t) (cts L) = (decide (wout L (setOf (L ++ S)) = []) || fits all tr (setOf (L ++ S))) := by
 have hp := next_tr hL hS
 have hlen := hp.length_eq
 rw [List.length_append, List.length_map, List.length_map, List.length_map] at hlen
 rw [Bool.eq_iff_iff, QuotaP.okM_iff all tr _ (cts_cs L), Bool.or_eq_true, decide_eq_true_eq, fits_iff, cts_sum, List.length_map, List.map_eq_nil_iff]
 rw [fits_iff] at hf
 by_cases hn : frs L S = []
 ·refine ⟨fun _ => .inr ?_, fun _ => .inl hn⟩
  rw [hn] at hp hlen
  rw [List.map_nil, List.append_nil] at hp
  rcases hf with rfl | ⟨h1, h2⟩
  ·exact .inl (List.length_eq_zero_iff.1 (by simpa using hlen))
  ·refine .inr ⟨by rw [hlen]; simpa using h1, fun t ht => ?_⟩
   rw [hp.count_eq]; exact h2 t (hp.mem_iff.1 ht)
 ·have hw : wout L (setOf (L ++ S)) ≠ [] := by
   rw [← in_eq hL hS]
   intro e
   rw [frs_dI, e] at hn
   exact hn rfl
  have hl0 : 0 < (frs L S).length := List.length_pos_iff.2 hn
  have hnn : setOf (L ++ S) ≠ [] := fun e => by rw [e] at hlen; simp at hlen; omega
  constructor
  ·rintro (h | ⟨h1, h2⟩)
   ·exact absurd h hn
   ·refine .inr (.inr ⟨by omega, fun t ht => ?_⟩)
    rw [hp.count_eq, List.count_append]
    by_cases hm : t ∈ (frs L S).map Sn.t
    ·have := h2 t hm; rw [cts_cnt] at this; omega
    ·rw [List.count_eq_zero.2 hm]
     have ht2 := (List.mem_append.1 (hp.mem_iff.1 ht)).resolve_right hm
     rcases hf with rfl | ⟨-, h3⟩
     ·simp at ht2
     ·have := h3 t ht2; omega
  ·rintro (h | h | ⟨h1, h2⟩)
   ·exact absurd h hw
   ·exact absurd h hnn
   ·refine .inr ⟨by omega, fun t ht => ?_⟩
    have := h2 t (hp.mem_iff.2 (List.mem_append.2 (.inr ht)))
    rw [hp.count_eq, List.count_append] at this
    rw [cts_cnt]; omega
theorem cts_drop (p : Sn → Bool) (L : List Sn) : QuotaP.dropM ((L.filter p).map Sn.t) (cts L) = cts (L.filter (fun x => !p x)) := by
 refine cs_ext ((cts_cs L).dropM _) (cts_cs _) (fun t => ?_)
 rw [QuotaP.cnt_dropM _ _ (cts_cs L), cts_cnt, cts_cnt]
 have := ((List.filter_append_perm p L).map Sn.t).count_eq t
 rw [List.map_append, List.count_append] at this
 omega
theorem fits_drop (p : Sn → Bool) (h : fits all tr L = true) : fits all tr (L.filter p) = true := by
 rw [fits_iff] at *
 rcases h with rfl | ⟨h1, h2⟩
 ·exact .inl rfl
 ·refine .inr ⟨by have := List.length_filter_le p L; omega, fun t ht => ?_⟩
  have hs : (List.map Sn.t (L.filter p)).Sublist (L.map Sn.t) := List.filter_sublist.map _
  have := h2 t (hs.subset ht)
  have := hs.count_le t
  omega
theorem tick_out (p : Sn → Bool) (L : List Sn) : wout (L.filter (fun x => !p x)) L = L.filter p := by
 unfold wout
 refine List.filter_congr (fun x hx => ?_)
 cases hp : p x <;> simp [List.mem_filter, hx, hp]
theorem tick_in (p : Sn → Bool) (L : List Sn) : wout L (L.filter p) = [] := by
 unfold wout
 rw [List.filter_eq_nil_iff]
 intro x hx
 simp [(List.mem_filter.1 hx).1]
end
end Sto
end Go.Proofs.YtdpngmgaomghoaaGreat
