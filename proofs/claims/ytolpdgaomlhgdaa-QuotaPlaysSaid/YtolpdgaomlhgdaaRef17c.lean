/- The document's answer for layer 17: the walk of Traces. -/
import Derived.Test.YtolpdgaomlhgdaaRef17
namespace Go.Proofs.Ytolpdgaomlhgdaa
open Go.RowKit
namespace Ref17
open BagP QuotaP Quota Law17
theorem low_at (t : Int) : ∀ (out : List Int) (k : Nat), (∀ i (h : i < out.length), i < k → out[i] < t) → (k = out.length ∨ ∃ h : k < out.length, ¬ out[k] < t) → low t out = k
  | [], k, _, h => by
    rcases h with h | ⟨h, _⟩
    · simp at h; subst h; rfl
    · simp at h
  | x :: out, 0, _, h => by
    rw [low_cons]
    rcases h with h | ⟨_, h⟩
    · simp at h
    · have h' : ¬ x < t := h
      rw [if_neg h']
  | x :: out, k + 1, h0, h => by
    have h1 : x < t := h0 0 (by simp) (by omega)
    rw [low_cons, if_pos h1, low_at t out k (fun i hi hk => h0 (i + 1) (by simpa using hi) (by omega))]
    rcases h with h | ⟨hl, h⟩
    · exact .inl (by simpa using h)
    · exact .inr ⟨by simpa using hl, h⟩
theorem insT_len (t : Int) : ∀ out : List Int, (insT t out).length ≤ out.length + 1 := by
  intro out
  unfold insT
  split
  · omega
  · have := low_le t out; simp; omega
theorem trT_len (T : List Int) : (trT T).length ≤ T.length := by
  unfold trT
  suffices h : ∀ (T out : List Int), (T.foldl (fun out t => insT t out) out).length ≤ T.length + out.length by simpa using h T []
  intro T
  induction T with
  | nil => intro out; simp
  | cons t T ih => intro out; have := ih (insT t out); have := insT_len t out; simp only [List.foldl_cons, List.length_cons]; omega
set_option maxRecDepth 100000 in
set_option maxHeartbeats 1000000 in
theorem Traces (B : Nat) (all tr : Int) (T : List Int) (F : List Nat) (w : World) (h : RQ w B all tr T F) (hm : T.length ≤ 1000000) :
    Calls Try.prog 24 #[.pointer (some ⟨B, 0, none⟩)] w fun e w' => ∃ v, e = .returned v ∧ w'.ownsRow w.heap.size TI 1 v (trT T).length (ints (trT T)) ∧ Below w.heap.size w w' := by
  obtain ⟨i0, hi, hz0, hz1, hz2⟩ := info_parts Ref12.infoI
  obtain ⟨A, c, hB, hS, -, -⟩ := h
  have hBl := lt_of_heap hB
  have HB := Lib.hid hB; have HS := Lib.hid hS
  clear hB hS
  go_enter Try.func24, Try.ntmps24
  go_wp2_with fail
  go_loopg [3, 4, 5, 6] T.length (fun gk v i _ _ wr => ∃ j : Nat, i = .int .i64 j ∧ j ≤ T.length ∧ gk = T.length - j ∧ wr.ownsRow w.heap.size TI 1 v (trT (T.take j)).length (ints (trT (T.take j))) ∧ Below w.heap.size w wr)
  case atStart => exact ⟨0, rfl, Nat.zero_le _, rfl, World.ownsRow_nil _ _ _ _, Below.refl _ _⟩
  case round =>
    obtain ⟨j, rfl, hj, hg, hown, hbel⟩ := hrel
    have HG := Lib.hid hg; have HBe := Lib.hid hbel; have HOw := Lib.hid hown
    have hszw : w.heap.size ≤ wr.heap.size := hbel.size
    clear hg hbel hown
    obtain ⟨wo, rfl⟩ : ∃ wo : World, wo = wr := ⟨_, rfl⟩
    by_cases hlt : j < T.length
    · obtain ⟨b1, o1, rfl, hb1, c1⟩ := HS.out.at hlt (by omega)
      have HD : Hid (∀ w', Below w.heap.size w w' → w'.cell? ⟨B, 2, none⟩ = some (.slice (some ⟨b1, o1, none⟩) T.length c) ∧ w'.cell? ⟨b1, o1 + j, none⟩ = some (.int .i64 T[j])) := fun w' hb =>
        ⟨(hb.cell (p := ⟨B, 2, none⟩) hBl).trans (HB.out.cell 2), (hb.cell (p := ⟨b1, _, none⟩) hb1).trans (c1 j _ (by simp [ints, hlt]))⟩
      have HSn : Hid (trT (T.take (j + 1)) = insT T[j] (trT (T.take j))) := by
        show _ = _
        rw [List.take_succ_eq_append_getElem hlt, trT_snoc]
      have hol : (trT (T.take j)).length ≤ j := Nat.le_trans (trT_len _) (by simp; omega)
      clear c1
      generalize T[j] = t at *
      generalize trT (T.take j) = out at *
      obtain ⟨A1, ca, hv, hS1, hA1⟩ := Sl.of_own HOw.out
      subst hv
      have HS1 := Lib.hid hS1; have HA1 := Lib.hid hA1
      have hca : out.length ≤ ca ∧ ca ≤ 9223372036854775807 := by have := hS1.2.1; have := hS1.2.2.1; unfold maxLen at this; omega
      have i2 : (j : Int) < (T.length : Int) := by omega
      obtain ⟨cB, dj⟩ := HD.out _ HBe.out
      clear hS1 hA1
      go_upto_block 2 with (fail)
      go_cut [5] (fun s5 wc => s5 = .int .i64 (low t out) ∧ ∃ m, wc = wo.drewN m)
      case first =>
        go_wp2_with fail
        go_loopg [5] out.length (fun gk i wq => ∃ k m : Nat, i = .int .i64 k ∧ k ≤ out.length ∧ gk = out.length - k ∧ wq = wo.drewN m ∧ ∀ i (h : i < out.length), i < k → out[i] < t)
        case atStart => exact ⟨0, 0, rfl, Nat.zero_le _, rfl, rfl, fun i h h' => by omega⟩
        case round =>
          obtain ⟨k, m, rfl, hk, hg2, rfl, hlow⟩ := hrel
          have HG2 := Lib.hid hg2; have HLow := Lib.hid hlow
          clear hg2 hlow
          have cB' : (wo.drewN m).cell? ⟨B, 2, none⟩ = some (.slice (some ⟨b1, o1, none⟩) T.length c) := cB
          have dj' : (wo.drewN m).cell? ⟨b1, o1 + j, none⟩ = some (.int .i64 t) := dj
          by_cases hlk : k < out.length
          · obtain ⟨b2, o2, rfl, hb2, c2⟩ := HS1.out.at hlk (by omega)
            have dk : (wo.drewN m).cell? ⟨b2, o2 + k, none⟩ = some (.int .i64 out[k]) := c2 k _ (by simp [ints, hlk])
            have i1 : (k : Int) < (out.length : Int) := by omega
            clear c2
            generalize hwm : wo.drewN m = wm at *
            have HW := Lib.hid hwm
            clear hwm
            by_cases hx : out[k] < t
            · have HX : Hid (∀ i (h : i < out.length), i < k + 1 → out[i] < t) := fun i h hi => by
                rcases Nat.lt_succ_iff_lt_or_eq.1 hi with hi | rfl
                · exact HLow.out i h hi
                · exact hx
              generalize out[k] = x at *
              have t1 : decide (x < t) = true := by simpa using hx
              go_upto_region 6 with (fail)
              go_quiet (fail)
              go_wp2_with fail
              go_roundg (out.length - (k + 1))
              case rel => exact ⟨k + 1, m + nq, by go_num, by omega, rfl, by rw [← HW.out]; simp [World.drewN, Nat.add_assoc], HX.out⟩
              case measure => have := HG2.out; omega
            · have HX := Lib.hid (low_at t out k HLow.out (.inr ⟨hlk, hx⟩))
              generalize out[k] = x at *
              have t1 : decide (x < t) = false := by simpa using hx
              go_upto_region 6 with (fail)
              go_quiet (fail)
              go_wp2_with fail
              go_meet
              exact ⟨by rw [HX.out], m + nq, by rw [← HW.out]; simp [World.drewN, Nat.add_assoc]⟩
          · obtain rfl : k = out.length := by omega
            have HX := Lib.hid (low_at t out out.length HLow.out (.inl rfl))
            generalize hwm : wo.drewN m = wm at *
            have HW := Lib.hid hwm
            clear hwm
            have t1 : decide ((out.length : Int) < (out.length : Int)) = false := by simp
            go_upto_region 6 with (fail)
            go_quiet (fail)
            go_wp2_with fail
            go_meet
            exact ⟨by rw [HX.out], m + nq, by rw [← HW.out]; simp [World.drewN, Nat.add_assoc]⟩
      case rest =>
        obtain ⟨rfl, m, rfl⟩ := hcut
        have hll := low_le t out
        have HIn : Hid (insT t out = if out[low t out]? = some t then out else out.take (low t out) ++ t :: out.drop (low t out)) := rfl
        generalize low t out = k at *
        go_upto_region 8 with (fail)
        go_cut [53] (fun s53 wc => s53 = .bool (decide (out[k]? = some t)) ∧ ∃ m, wc = wo.drewN m)
        case first =>
          have cB' : (wo.drewN m).cell? ⟨B, 2, none⟩ = some (.slice (some ⟨b1, o1, none⟩) T.length c) := cB
          have dj' : (wo.drewN m).cell? ⟨b1, o1 + j, none⟩ = some (.int .i64 t) := dj
          by_cases hlk : k < out.length
          · obtain ⟨b2, o2, rfl, hb2, c2⟩ := HS1.out.at hlk (by omega)
            have dk : (wo.drewN m).cell? ⟨b2, o2 + k, none⟩ = some (.int .i64 out[k]) := c2 k _ (by simp [ints, hlk])
            have i1 : (k : Int) < (out.length : Int) := by omega
            have HE : Hid (out[k]? = some out[k]) := List.getElem?_eq_getElem hlk
            clear c2
            generalize hwm : wo.drewN m = wm at *
            have HW := Lib.hid hwm
            clear hwm
            generalize out[k] = x at *
            by_cases hx : x = t
            · have t1 : (x == t) = true := by simpa using hx
              have HX := Lib.hid hx
              clear hx
              go_quiet (fail)
              go_wp2_with fail
              go_meet
              exact ⟨by rw [HE.out, HX.out]; simp, m + nq, by rw [← HW.out]; simp [World.drewN, Nat.add_assoc]⟩
            · have t1 : (x == t) = false := by simpa using hx
              have HX := Lib.hid hx
              clear hx
              go_quiet (fail)
              go_wp2_with fail
              go_meet
              exact ⟨by rw [HE.out]; simp [HX.out], m + nq, by rw [← HW.out]; simp [World.drewN, Nat.add_assoc]⟩
          · obtain rfl : k = out.length := by omega
            generalize hwm : wo.drewN m = wm at *
            have HW := Lib.hid hwm
            clear hwm
            have t1 : decide ((out.length : Int) < (out.length : Int)) = false := by simp
            go_quiet (fail)
            go_wp2_with fail
            go_meet
            exact ⟨by simp, m + nq, by rw [← HW.out]; simp [World.drewN, Nat.add_assoc]⟩
        case rest =>
          clear m
          obtain ⟨rfl, m, rfl⟩ := hcut
          have HBm := Lib.hid (HBe.out.trans ((Fr.drewN (fun _ => False) wo m).below hszw (fun _ _ h => h)))
          have HOm := Lib.hid (ownsRow_fr HOw.out (Fr.drewN (fun _ => False) wo m) (fun _ _ h => h))
          have HSm := Lib.hid (HS1.out.fr (Fr.drewN (fun _ => False) wo m) (fun _ _ h => h))
          have HAm : Hid (∀ a, A1 = some a → a.block < (wo.drewN m).heap.size) := fun a ha => (HA1.out a ha).2.2
          have hszm : w.heap.size ≤ (wo.drewN m).heap.size := hszw
          clear cB dj HBe HOw HS1 HA1
          generalize wo.drewN m = wm at *
          by_cases hin : out[k]? = some t
          · have t1 : decide (out[k]? = some t) = true := by simpa using hin
            have HX := Lib.hid hin
            rw [t1]
            clear hin t1
            go_wp2_with fail
            go_roundg (T.length - (j + 1))
            case rel => exact ⟨j + 1, by go_num, by omega, rfl, by rw [HSn.out, HIn.out, if_pos HX.out]; exact HOm.out, HBm.out⟩
            case measure => have := HG.out; omega
          · have t1 : decide (out[k]? = some t) = false := by simpa using hin
            have HX := Lib.hid hin
            rw [t1]
            clear hin t1
            have hS1 : Sl wm 1 A1 k ca (ints (out.take k)) := by have := HSm.out.take (k := k) hll; rwa [Nat.mul_one, ← List.map_take] at this
            go_wp2_with (at_builtin; refine wpList_append_sl _ rfl (.tmp 54) (.tmp 57) TIs rfl wm.heap.size TI i0 (.int .i64 0) 1 8 Try.underlying40 hi hz0 hz1 hz2 rfl (by decide) _ _ _ rfl (World.ownsRow_nil _ _ _ _) _ _ _ _ rfl hS1 (cells_int _) ?_ ?_ (Nat.le_refl _) ?_)
            · unfold maxLen; omega
            · omega
            intro v1 w1 hown1 hgrow1
            have hb1 : Below wm.heap.size wm w1 := (Below.refl _ _).grown hgrow1 (Nat.le_refl _) (fun k e => by simp [Value.ownBlock] at e)
            obtain ⟨cB1, dj1⟩ := HD.out w1 (HBm.out.trans (hb1.mono hszm))
            have hown1' := hown1.alloc (.cells #[.int .i64 t] TI)
            have HB1 := Lib.hid hb1; have HK1 := Lib.hid (ownsRow_blk hown1)
            have hsz1 : wm.heap.size ≤ w1.heap.size := hb1.size
            clear hb1 hgrow1 hown1 hS1
            go_wp2_with (at_builtin; refine wpList_append_sl _ rfl (.tmp 59) (.tmp 67) TIs rfl wm.heap.size TI i0 (.int .i64 0) 1 8 Try.underlying40 hi hz0 hz1 hz2 rfl (by decide) _ _ _ rfl hown1' _ _ _ _ rfl (Sl.one w1 TI [.int .i64 t] 1 rfl) (by simp [Value.oneCell']) ?_ ?_ ?_ ?_)
            · unfold maxLen; omega
            · omega
            · simp; omega
            intro v2 w2 hown2 hgrow2
            have hb2 : Below wm.heap.size wm w2 := (HB1.out.alloc hsz1 _).grown hgrow2 (by simp; omega) (fun k e => (HK1.out k e).1)
            have hS3 : Sl w2 1 (if ca = k then A1 else A1.map (·.add (k * 1))) (out.length - k) (ca - k) (ints (out.drop k)) := by have := (HSm.out.below hb2 HAm.out).drop (k := k) hll; rw [Nat.mul_one, ← List.map_drop] at this; rw [Nat.mul_one]; exact this
            have HB2 := Lib.hid hb2; have HK2 := Lib.hid (ownsRow_blk hown2)
            have hsz2 : wm.heap.size ≤ w2.heap.size := hb2.size
            clear hb2 hgrow2 hown1' HB1 HK1 hsz1 cB1 dj1
            go_wp2_with (at_builtin; refine wpList_append_sl _ rfl (.tmp 69) (.tmp 72) TIs rfl wm.heap.size TI i0 (.int .i64 0) 1 8 Try.underlying40 hi hz0 hz1 hz2 rfl (by decide) _ _ _ rfl hown2 _ _ _ _ ?_ hS3 (cells_int _) ?_ ?_ ?_ ?_)
            any_goals (unfold maxLen; omega)
            any_goals omega
            all_goals
              intro v3 w3 hown3 hgrow3
              have hb3 : Below wm.heap.size wm w3 := HB2.out.grown hgrow3 hsz2 (fun k e => (HK2.out k e).1)
              have HB3 := Lib.hid (HBm.out.trans (hb3.mono hszm)); have HO3 := Lib.hid (ownsRow_base hown3 hszm)
              have HL : Hid ((out.take k ++ t :: out.drop k).length = k + 1 + (out.length - k)) := by show _ = _; simp; omega
              clear hb3 hgrow3 hown3 hown2 hS3
              go_wp2_with fail
              go_roundg (T.length - (j + 1))
              case rel => exact ⟨j + 1, by go_num, by omega, rfl, by rw [HSn.out, HIn.out, if_neg HX.out, HL.out]; simpa [List.append_assoc] using HO3.out, HB3.out⟩
              case measure => have := HG.out; omega
    · obtain rfl : j = T.length := by omega
      rw [List.take_length] at HOw
      obtain ⟨cB, -⟩ : wo.cell? ⟨B, 2, none⟩ = some (.slice A T.length c) ∧ True := ⟨(HBe.out.cell (p := ⟨B, 2, none⟩) hBl).trans (HB.out.cell 2), trivial⟩
      go_wp2_with fail
      go_ret
      exact ⟨_, rfl, HOw.out, HBe.out⟩
end Ref17
end Go.Proofs.Ytolpdgaomlhgdaa
