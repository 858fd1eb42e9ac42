/- Quotas: the walk of Traces. -/
import Derived.Test.YtolpdgaomlhgdaaQuota2
import Derived.Test.YtolpdgaomlhgdaaAvlLII
import Derived.Maps.RangeWalk
namespace Go.Proofs.Ytolpdgaomlhgdaa
open Go.RowKit
namespace Quota
open BagP QuotaP
theorem ranges_fr {S : Nat → Prop} {P : Program} {k : TypeId} {R : Value → Option (DataW Unit × List MemPlace)} {w w' : World} {b r n : Nat} {D : DataW Unit} {left : Lit → Bool} {cnt : Nat} (h : w.ranges P k R b r n D left cnt) (hf : Fr S w w') (h1 : ¬ S b) (h2 : ¬ S r) : w'.ranges P k R b r n D left cnt := by
  obtain ⟨es, clock, since, seen, c0, hb, a1, a2, a3, hr, rest⟩ := h
  exact ⟨es, clock, since, seen, c0, (hf.block b (Array.getElem?_eq_some_iff.1 hb).1 h1).trans hb, a1, a2, a3, (hf.block r (Array.getElem?_eq_some_iff.1 hr).1 h2).trans hr, rest⟩
theorem ranges_lt {P : Program} {k : TypeId} {R : Value → Option (DataW Unit × List MemPlace)} {w : World} {b r n : Nat} {D : DataW Unit} {left : Lit → Bool} {cnt : Nat} (h : w.ranges P k R b r n D left cnt) : r < w.heap.size := by
  obtain ⟨es, clock, since, seen, c0, hb, a1, a2, a3, hr, rest⟩ := h
  exact (Array.getElem?_eq_some_iff.1 hr).1
theorem has_mD (y : Int) (L : List (Int × Int)) : Maps.has (mD L) (.int .i64 y) = hasL y L := by
  unfold mD
  rw [Maps.has_eq]
  induction L with
  | nil => rfl
  | cons p t ih => rw [List.map_cons, List.any_cons, ih, hasL_cons, sameKey_int]

set_option maxRecDepth 100000 in
set_option maxHeartbeats 1000000 in
theorem Traces (B r : Nat) (all tr : Int) (L : List (Int × Int)) (w : World) (h : QB w B r all tr L) :
    Calls Try.prog 27 #[.pointer (some ⟨B, 0, none⟩)] w fun e w' => ∃ v, e = .returned v ∧ w'.ownsRow w.heap.size 3 1 v L.length (L.map (fun x => .int .i64 x.1)) ∧ Below w.heap.size w w' := by
  have hBlt := lt_of_heap h.blk
  have hrlt := h.gm.lt
  have hlen := h.len
  have H1 : QB (w.alloc (.cells #[.pointer none, .int .i64 0] 51)) B r all tr L := h.fr (Fr.alloc (fun _ => False) w _) (fun h => h) (fun h => h)
  have c3 : (w.alloc (.cells #[.pointer none, .int .i64 0] 51)).cell? ⟨B, 3, none⟩ = some (.map (some r)) := H1.blk.cell 3
  have hown := H1.gm.2.2.2
  have HSrt := Lib.hid h.gm.1; have HO := Lib.hid hown
  clear h H1 hown
  have HB0 := Lib.hid (AvlII.MapB.new w)
  have hsz0 : (w.alloc (.cells #[.pointer none, .int .i64 0] 51)).heap.size = w.heap.size + 1 := by simp
  go_enter Try.func27, Try.ntmps27
  go_wp2_with (at_range; refine wpList_range_own _ rfl _ TM rfl 3 3 (Maps.int_keyed Try.underlying3) uM (plainElem Try.prog 3) r L.length (mD L) rfl HO.out ?_)
  intro w2 hr2 hg2 hs2
  have hb2 : Below w.heap.size w w2 := ((Below.refl _ w).alloc (Nat.le_refl _) _).grown hg2 (by simp) (fun k e => by cases e)
  have hm2 : AvlII.MapB w2 w.heap.size [] [] := HB0.out.fr (Fr.grown hg2 (S := fun _ => False) (fun k e => by cases e)) (fun h => h) (fun _ _ h => h)
  have HR2 : Hid (w2.ranges Try.prog 3 (plainElem Try.prog 3) r (w.heap.size + 1) L.length (mD L) (Maps.has (mD L)) (Maps.size (mD L))) := hr2
  have HB2 := Lib.hid hb2; have HM2 := Lib.hid hm2
  have hsize : Maps.size (mD L) = L.length := by rw [mD, Maps.size_eq]; simp
  have HSz := Lib.hid hsize
  clear hr2 hg2 hs2 hb2 hm2 c3 hsz0 hsize HB0 HO
  go_wp2_with fail
  go_loopg [4, 5] (Maps.size (mD L)) (fun gk _ _ wl => ∃ (M : List (Int × Int)) (F : List Nat) (left : Lit → Bool), wl.ranges Try.prog 3 (plainElem Try.prog 3) r (w.heap.size + 1) L.length (mD L) left gk ∧ (∀ y, getL y M = if left (.int .i64 y) = true then none else getL y L) ∧
    AvlII.MapB wl w.heap.size M F ∧ Below w.heap.size w wl ∧ (∀ b ∈ F, w.heap.size ≤ b ∧ b ≠ w.heap.size + 1) ∧ M.length + gk ≤ L.length)
  case atStart =>
    refine ⟨[], [], Maps.has (mD L), HR2.out, fun y => ?_, HM2.out, HB2.out, by simp, by rw [HSz.out]; simp⟩
    rw [has_mD, hasL_get]
    cases getL y L <;> simp [getL_nil]
  case round =>
    clear HR2 HB2 HM2
    obtain ⟨M, F, left, hr, hget, hm, hb, hF, hl⟩ := hrel
    have HR := Lib.hid hr; have HGet := Lib.hid hget; have HM := Lib.hid hm; have HB := Lib.hid hb; have HF := Lib.hid hF
    clear hr hget hm hb hF
    go_wp2_with (at_next; refine wpList_next_ranges_ii _ rfl (.tmp 12) rfl 3 3 .i64 .i64 (Maps.int_keyed Try.underlying3) Try.underlying3 Try.underlying3 r (w.heap.size + 1) L.length (mD L) left gk rfl HR.out ?_ ?_)
    · intro h0 hleft
      have hML : M = L := srt_ext HM.out.srt HSrt.out (fun y => by rw [HGet.out, hleft, if_neg (by simp)])
      have HK := Lib.hid (AvlII.KeysB w.heap.size M F wr HM.out (by omega))
      have HE := Lib.hid hML
      have hszw : w.heap.size ≤ wr.heap.size := HB.out.size
      clear h0 hleft hML
      go_wp2_with fail
      refine HK.out.mono ?_
      rintro e w5 ⟨v, rfl, hown, hb5⟩
      have HO5 := Lib.hid (ownsRow_base hown hszw); have HB5 := Lib.hid (HB.out.trans (hb5.mono hszw))
      clear hown hb5
      go_wp2_with fail
      go_ret
      exact ⟨v, rfl, by rw [← HE.out]; exact HO5.out, HB5.out⟩
    · intro x c w3 cnt' hwx hwc hlx hat hr3 hlt3 hg3 hs3 hen
      have hcx : getL x L = some c := by
        have h1 := hat (.lit (.int .i64 0))
        have h2 := hat (.lit (.int .i64 1))
        rw [mD_at] at h1 h2
        simp only [DataW.lit.injEq, Lit.int.injEq, true_and] at h1 h2
        cases hg : getL x L with
        | none => rw [hg] at h1 h2; simp at h1 h2; omega
        | some z => rw [hg] at h1; simpa using h1
      have hfr3 := Fr.grown hg3 (S := fun k => k = w.heap.size + 1) (fun k e => by cases e; rfl)
      have hm3 : AvlII.MapB w3 w.heap.size M F := HM.out.fr hfr3 (by omega) (fun b hb => (HF.out b hb).2)
      have hb3 : Below w.heap.size w w3 := HB.out.trans (hfr3.below HB.out.size (fun k hk e => by omega))
      have HPut := Lib.hid (AvlII.PutB w.heap.size x c M F w3 hm3 (by omega))
      have HR3 := Lib.hid hr3; have HB3 := Lib.hid hb3; have HM3 := Lib.hid hm3; have HC := Lib.hid hcx
      clear hr3 hg3 hs3 hfr3 hm3 hb3 hcx hat HR HM HB
      go_wp2_with fail
      refine HPut.out.mono ?_
      rintro e w4 ⟨rfl, F', hm4, hF4, hfr4⟩
      have HM4 := Lib.hid hm4; have HF4 := Lib.hid hF4; have HFr4 := Lib.hid hfr4
      have hi3 : w.heap.size + 1 < w3.heap.size := ranges_lt HR3.out
      clear hm4 hF4 hfr4
      go_wp2_with fail
      go_roundg cnt'
      case rel =>
        refine ⟨insL x c M, F', _, ranges_fr HR3.out HFr4.out ?_ ?_, fun y => ?_, HM4.out, HB3.out.trans (HFr4.out.below HB3.out.size ?_), fun b hb => ?_, by have := insL_len' x c M; omega⟩
        · rintro (e | e)
          · omega
          · have := (HF.out r e).1; omega
        · rintro (e | e)
          · omega
          · exact (HF.out _ e).2 rfl
        · rw [getL_ins, HGet.out y, sameKey_int]
          by_cases e : sameK y x = true
          · have e' := sameK_iff.1 e; subst e'
            rw [if_pos e, sameK_comm, e]; simp [HC.out]
          · rw [if_neg e]
            have e2 : sameK x y = false := by rw [sameK_comm]; simpa using e
            rw [e2]; simp
        · rintro k hk (e | e)
          · omega
          · have := (HF.out k e).1; omega
        · rcases HF4.out b hb with e | e
          · exact HF.out b e
          · omega
      case measure => omega
end Quota
end Go.Proofs.Ytolpdgaomlhgdaa
