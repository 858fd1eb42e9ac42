/- The document's answer for layer 17: the walk of Drop. -/
import Derived.Test.YtolpdgaomlhgdaaRef17
namespace Go.Proofs.Ytolpdgaomlhgdaa
open Go.RowKit
namespace Ref17
open BagP QuotaP Quota Law17
theorem eraM_snoc (l T : List Int) (t : Int) : eraM (l ++ [t]) T = (eraM l T).erase t := by simp [eraM]
theorem eraM_len (l : List Int) : ∀ T : List Int, (eraM l T).length ≤ T.length := by
  induction l with
  | nil => intro T; exact Nat.le_refl _
  | cons t l ih => intro T; exact Nat.le_trans (ih (T.erase t)) List.length_erase_le
theorem era_snoc (l : List Int) (x t : Int) : (l ++ [x]).erase t = if t ∈ l then l.erase t ++ [x] else if x = t then l.erase t else l.erase t ++ [x] := by
  rw [List.erase_append]
  by_cases h : t ∈ l
  · rw [if_pos h, if_pos h]
  · rw [if_neg h, if_neg h, List.erase_of_not_mem h]
    by_cases e : x = t
    · subst e; simp
    · rw [if_neg e, List.erase_of_not_mem (by simpa using fun h => e h.symm)]
set_option maxRecDepth 100000 in
set_option maxHeartbeats 1000000 in
theorem Drop (B : Nat) (all tr : Int) (A0 : Option Addr) (c0 : Nat) (xs : List Sp) (T : List Int) (F : List Nat) (w : World) (h : RQ w B all tr T F) (hS0 : Sl w 9 A0 xs.length c0 (xs.flatMap Sp.cs)) (hA : xs ≠ [] → ∀ a, A0 = some a → ¬ a.block ∈ F) (hm : T.length ≤ 1000000) :
    Calls Try.prog 21 #[.pointer (some ⟨B, 0, none⟩), .slice A0 xs.length c0] w fun e w' => e = .returned (.tuple #[]) ∧ ∃ F', RQ w' B all tr (eraM (xs.map (·.t)) T) F' ∧ Tn F F' w w' := by
  obtain ⟨i0, hi, hz0, hz1, hz2⟩ := info_parts Ref12.infoI
  have hxl : xs.length ≤ 9223372036854775807 := by have := hS0.2.1; have := hS0.2.2.1; unfold maxLen at this; omega
  have HH := Lib.hid h; have HS0 := Lib.hid hS0; have HA := Lib.hid hA
  clear h hS0 hA
  go_enter Try.func21, Try.ntmps21
  go_wp2_with fail
  go_loopg [4, 5, 6, 7] xs.length (fun gk i _ _ _ wr => ∃ (j : Nat) (F' : List Nat), i = .int .i64 j ∧ j ≤ xs.length ∧ gk = xs.length - j ∧ RQ wr B all tr (eraM ((xs.map (·.t)).take j) T) F' ∧ Tn F F' w wr)
  case atStart => exact ⟨0, F, rfl, Nat.zero_le _, rfl, HH.out, Tn.refl HH.out.lt⟩
  case round =>
    obtain ⟨j, F1, rfl, hj, hg, hrq, htn⟩ := hrel
    have HG := Lib.hid hg; have HTn := Lib.hid htn; have HR := Lib.hid hrq
    clear hg htn hrq
    obtain ⟨wo, rfl⟩ : ∃ wo : World, wo = wr := ⟨_, rfl⟩
    by_cases hlt : j < xs.length
    · obtain ⟨b1, o1, rfl, hb1, c1⟩ := HS0.out.at hlt (by omega)
      have hbF := HA.out (by rintro rfl; simp at hlt) _ rfl
      have d0 : wo.cell? ⟨b1, o1 + j * 9, none⟩ = some (.int .i64 xs[j].t) := (World.cell?_of_block (w := w) (a := ⟨b1, _, none⟩) (HTn.out.fr.block b1 hb1 hbF)).trans (c1 (j * 9) _ (by rw [← Nat.add_zero (j * 9), flat_at Sp.cs_len hlt (by omega)]; rfl))
      have hb1o : b1 < wo.heap.size := Nat.lt_of_lt_of_le hb1 HTn.out.fr.size
      have HSn : Hid (eraM ((xs.map (·.t)).take (j + 1)) T = (eraM ((xs.map (·.t)).take j) T).erase xs[j].t) := by
        show _ = _
        rw [List.take_succ_eq_append_getElem (by simpa using hlt), eraM_snoc]; simp
      have hMl := eraM_len ((xs.map (·.t)).take j) T
      clear c1 hbF
      generalize eraM ((xs.map (·.t)).take j) T = M at *
      generalize xs[j].t = t at *
      have hMm : M.length ≤ 1000000 := by omega
      obtain ⟨A, c, hB, hS, -, -⟩ := HR.out
      have hBl := lt_of_heap hB
      have HB := Lib.hid hB; have HS := Lib.hid hS
      clear hB hS hMl
      go_wp2_with fail
      go_loopg [5, 6, 7] M.length (fun gk v g i wr => ∃ k : Nat, i = .int .i64 k ∧ k ≤ M.length ∧ gk = M.length - k ∧ g = .bool (decide (t ∈ M.take k)) ∧ wr.ownsRow wo.heap.size TI 1 v ((M.take k).erase t).length (ints ((M.take k).erase t)) ∧ Below wo.heap.size wo wr)
      case atStart => exact ⟨0, rfl, Nat.zero_le _, rfl, by simp, by simpa using World.ownsRow_nil _ _ _ _, Below.refl _ _⟩
      case round =>
        obtain ⟨k, rfl, hk, hg2, rfl, hown, hbel⟩ := hrel
        have HG2 := Lib.hid hg2; have HBe := Lib.hid hbel
        have hszw : wo.heap.size ≤ wr.heap.size := hbel.size
        have cB : wr.cell? ⟨B, 2, none⟩ = some (.slice A M.length c) := (hbel.cell (p := ⟨B, 2, none⟩) hBl).trans (HB.out.cell 2)
        have d1 : wr.cell? ⟨b1, o1 + j * 9, none⟩ = some (.int .i64 t) := (hbel.cell (p := ⟨b1, _, none⟩) hb1o).trans d0
        clear hg2 hbel
        by_cases hlk : k < M.length
        · obtain ⟨b2, o2, rfl, hb2, c2⟩ := HS.out.at hlk (by omega)
          have d2 : wr.cell? ⟨b2, o2 + k, none⟩ = some (.int .i64 M[k]) := (HBe.out.cell (p := ⟨b2, _, none⟩) hb2).trans (c2 k _ (by simp [ints, hlk]))
          have HT := Lib.hid (List.take_succ_eq_append_getElem hlk)
          have hel : ((M.take k).erase t).length ≤ M.length := Nat.le_trans List.length_erase_le (by simp; omega)
          have i1 : (k : Int) < (M.length : Int) := by omega
          have i2 : (j : Int) < (xs.length : Int) := by omega
          clear c2
          generalize M[k] = x at *
          by_cases hin : t ∈ M.take k
          · have HEr : Hid ((M.take (k + 1)).erase t = (M.take k).erase t ++ [x]) := by show _ = _; rw [HT.out, era_snoc, if_pos hin]
            have HMem : Hid (decide (t ∈ M.take (k + 1)) = true) := by show _ = _; rw [HT.out]; simp [hin]
            have e1 : decide (t ∈ M.take k) = true := by simpa using hin
            rw [e1]
            clear hin e1
            generalize (M.take k).erase t = R at *
            go_upto_region 8 with (fail)
            go_quiet (fail)
            have HBq := Lib.hid (HBe.out.trans ((Fr.drewN (fun _ => False) wr nq).below hszw (fun _ _ h => h)))
            have hownq := ownsRow_fr hown (Fr.drewN (fun _ => False) wr nq) (fun _ _ h => h)
            have hszq : wo.heap.size ≤ (wr.drewN nq).heap.size := hszw
            have cB' : (wr.drewN nq).cell? ⟨B, 2, none⟩ = some (.slice (some ⟨b2, o2, none⟩) M.length c) := cB
            have d2' : (wr.drewN nq).cell? ⟨b2, o2 + k, none⟩ = some (.int .i64 x) := d2
            clear hown cB d2 d1
            generalize wr.drewN nq = wq at *
            go_upto_region 10 with (fail)
            have hown1' := hownq.alloc (.cells #[.int .i64 x] TI)
            have HK1 := Lib.hid (ownsRow_blk hownq)
            clear hownq
            go_wp2_with (at_builtin; refine wpList_append_sl _ rfl (.tmp 40) (.tmp 48) TIs rfl wo.heap.size TI i0 (.int .i64 0) 1 8 Try.underlying40 hi hz0 hz1 hz2 rfl (by decide) _ _ _ rfl hown1' _ _ _ _ rfl (Sl.one wq TI [.int .i64 x] 1 rfl) (by simp [Value.oneCell']) ?_ ?_ ?_ ?_)
            · unfold maxLen; omega
            · omega
            · first | omega | (simp; omega)
            intro v2 w2 hown2 hgrow2
            have HO := Lib.hid hown2; have HGr := Lib.hid hgrow2
            clear hown2 hgrow2 hown1'
            go_wp2_with fail
            go_roundg (M.length - (k + 1))
            case rel => exact ⟨k + 1, by go_num, by omega, rfl, by rw [HMem.out], by rw [HEr.out]; simpa using HO.out, (HBq.out.alloc hszq _).grown HGr.out (by simp; omega) (fun k e => (HK1.out k e).1)⟩
            case measure => have := HG2.out; omega
          · have e1 : decide (t ∈ M.take k) = false := by simpa using hin
            rw [e1]
            by_cases hx : x = t
            · have HEr : Hid ((M.take (k + 1)).erase t = (M.take k).erase t) := by show _ = _; rw [HT.out, era_snoc, if_neg hin, if_pos hx]
              have HMem : Hid (decide (t ∈ M.take (k + 1)) = true) := by show _ = _; rw [HT.out]; simp [hx]
              have t2 : (x == t) = true := by simp [hx]
              clear hin e1 hx
              generalize (M.take k).erase t = R at *
              go_upto_region 8 with (fail)
              go_quiet (fail)
              have HBq := Lib.hid (HBe.out.trans ((Fr.drewN (fun _ => False) wr nq).below hszw (fun _ _ h => h)))
              have hownq := ownsRow_fr hown (Fr.drewN (fun _ => False) wr nq) (fun _ _ h => h)
              have hszq : wo.heap.size ≤ (wr.drewN nq).heap.size := hszw
              have cB' : (wr.drewN nq).cell? ⟨B, 2, none⟩ = some (.slice (some ⟨b2, o2, none⟩) M.length c) := cB
              have d2' : (wr.drewN nq).cell? ⟨b2, o2 + k, none⟩ = some (.int .i64 x) := d2
              clear hown cB d2 d1
              generalize wr.drewN nq = wq at *
              go_wp2_with fail
              go_roundg (M.length - (k + 1))
              case rel => exact ⟨k + 1, by go_num, by omega, rfl, by rw [HMem.out], by rw [HEr.out]; exact hownq, HBq.out⟩
              case measure => have := HG2.out; omega
            · have HEr : Hid ((M.take (k + 1)).erase t = (M.take k).erase t ++ [x]) := by show _ = _; rw [HT.out, era_snoc, if_neg hin, if_neg hx]
              have HMem : Hid (decide (t ∈ M.take (k + 1)) = false) := by
                show _ = _
                rw [HT.out, decide_eq_false_iff_not, List.mem_append]
                rintro (h | h)
                · exact hin h
                · simp at h; exact hx h.symm
              have t2 : (x == t) = false := by simp [hx]
              clear hin e1 hx
              generalize (M.take k).erase t = R at *
              go_upto_region 8 with (fail)
              go_quiet (fail)
              have HBq := Lib.hid (HBe.out.trans ((Fr.drewN (fun _ => False) wr nq).below hszw (fun _ _ h => h)))
              have hownq := ownsRow_fr hown (Fr.drewN (fun _ => False) wr nq) (fun _ _ h => h)
              have hszq : wo.heap.size ≤ (wr.drewN nq).heap.size := hszw
              have cB' : (wr.drewN nq).cell? ⟨B, 2, none⟩ = some (.slice (some ⟨b2, o2, none⟩) M.length c) := cB
              have d2' : (wr.drewN nq).cell? ⟨b2, o2 + k, none⟩ = some (.int .i64 x) := d2
              clear hown cB d2 d1
              generalize wr.drewN nq = wq at *
              go_upto_region 10 with (fail)
              have hown1' := hownq.alloc (.cells #[.int .i64 x] TI)
              have HK1 := Lib.hid (ownsRow_blk hownq)
              clear hownq
              go_wp2_with (at_builtin; refine wpList_append_sl _ rfl (.tmp 40) (.tmp 48) TIs rfl wo.heap.size TI i0 (.int .i64 0) 1 8 Try.underlying40 hi hz0 hz1 hz2 rfl (by decide) _ _ _ rfl hown1' _ _ _ _ rfl (Sl.one wq TI [.int .i64 x] 1 rfl) (by simp [Value.oneCell']) ?_ ?_ ?_ ?_)
              · unfold maxLen; omega
              · omega
              · first | omega | (simp; omega)
              intro v2 w2 hown2 hgrow2
              have HO := Lib.hid hown2; have HGr := Lib.hid hgrow2
              clear hown2 hgrow2 hown1'
              go_wp2_with fail
              go_roundg (M.length - (k + 1))
              case rel => exact ⟨k + 1, by go_num, by omega, rfl, by rw [HMem.out], by rw [HEr.out]; simpa using HO.out, (HBq.out.alloc hszq _).grown HGr.out (by simp; omega) (fun k e => (HK1.out k e).1)⟩
              case measure => have := HG2.out; omega
        · obtain rfl : k = M.length := by omega
          rw [List.take_length] at hown
          obtain ⟨A2, c2, rfl, -, -⟩ := Sl.of_own hown
          have hbk : Bk wr B #[.int .i64 all, .int .i64 tr, .slice A M.length c] TR := (HBe.out.block B hBl).trans HB.out
          have fB := hbk.free 2
          obtain ⟨F2, hR2, hT2⟩ := RQ.store HR.out HBe.out hown
          have HR2 := Lib.hid hR2; have HT2 := Lib.hid (HTn.out.trans hT2)
          clear hbk hown hR2 hT2
          go_wp2_with fail
          go_roundg (xs.length - (j + 1))
          case rel => exact ⟨j + 1, F2, by go_num, by omega, rfl, by rw [HSn.out]; exact HR2.out, HT2.out⟩
          case measure => have := HG.out; omega
    · obtain rfl : j = xs.length := by omega
      have HE : Hid ((xs.map (·.t)).take xs.length = xs.map (·.t)) := List.take_of_length_le (by simp)
      go_wp2_with fail
      go_end0
      exact ⟨rfl, F1, by rw [← HE.out]; exact HR.out, HTn.out⟩
end Ref17
end Go.Proofs.Ytolpdgaomlhgdaa
