/- Is a number among others: the document's. -/
import Derived.Test.YtmcghchhegfilaaRef01
import Derived.Test.YtmcghchhegfilaaDigW
namespace Go.Proofs.Ytmcghchhegfilaa
open Go.RowKit
namespace DigW
theorem no_take {l : List Int} {n : Int} {k : Nat} (h : k < l.length) : n ∈ l.take (k + 1) ↔ n ∈ l.take k ∨ n = l[k] := by
  rw [List.take_succ_eq_append_getElem h, List.mem_append, List.mem_singleton]
set_option maxRecDepth 100000 in
theorem Has (A : Option Addr) (ca : Nat) (l : List Int) (n : Int) (w : World) (ha : Sl w 1 A l.length ca (ints l)) :
    Calls Try.prog 48 #[.slice A l.length ca, .int .i64 n] w fun e w' => e = .returned (.bool (decide (n ∈ l))) ∧ w' = w := by
  have la : l.length ≤ 9223372036854775807 := by have := ha.2.1; have := ha.2.2.1; unfold maxLen at this; omega
  go_enter Try.func48, Try.ntmps48
  go_wp2_with fail
  go_loopg [5] l.length (fun gk i wr => ∃ k : Nat, i = .int .i64 k ∧ k ≤ l.length ∧ gk = l.length - k ∧ n ∉ l.take k ∧ w = wr)
  case atStart => exact ⟨0, rfl, Nat.zero_le _, rfl, by simp, rfl⟩
  case round =>
    obtain ⟨k, rfl, hk, hg, htk, rfl⟩ := hrel
    have HT := Lib.hid htk; have HG := Lib.hid hg
    clear htk hg
    by_cases hlt : k < l.length
    · obtain ⟨b1, o1, rfl, -, c1⟩ := ha.at hlt (by omega)
      have d1 : w.cell? ⟨b1, o1 + k, none⟩ = some (.int .i64 l[k]) := c1 k _ (ints_at hlt)
      have HA := Lib.hid ha
      clear c1 ha
      have i1 : (k : Int) < (l.length : Int) := by omega
      have HM := Lib.hid (no_take (n := n) hlt)
      have HI := Lib.hid (List.getElem_mem hlt)
      generalize hak : l[k] = x at *
      have HAK := Lib.hid hak
      clear hak
      by_cases hxy : x = n
      · have t2 : (x == n) = true := by simp [hxy]
        have HE : Hid (n ∈ l) := by show _; rw [← hxy]; exact HI.out
        clear hxy
        go_wp2_with fail
        go_ret
        exact ⟨by rw [decide_eq_true HE.out]; rfl, rfl⟩
      · have t2 : (x == n) = false := by simp [hxy]
        have HN : Hid (n ∉ l.take (k + 1)) := by
          show _
          rw [HM.out]; rintro (h | h)
          · exact HT.out h
          · exact hxy h.symm
        clear hxy
        go_wp2_with fail
        go_roundg (l.length - (k + 1))
        case rel => exact ⟨k + 1, by go_num, by omega, rfl, HN.out, rfl⟩
        case measure => have := HG.out; omega
    · have HE : Hid (n ∉ l) := by
        show _
        have := HT.out
        rwa [List.take_of_length_le (by omega)] at this
      have HA := Lib.hid ha
      clear ha
      go_wp2_with fail
      go_ret
      exact ⟨by rw [decide_eq_false HE.out]; rfl, rfl⟩
end DigW
end Go.Proofs.Ytmcghchhegfilaa
