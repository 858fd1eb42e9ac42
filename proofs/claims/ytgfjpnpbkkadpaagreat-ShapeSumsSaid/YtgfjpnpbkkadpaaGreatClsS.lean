/- Is a text among others: the library's. -/
import Derived.Test.YtgfjpnpbkkadpaaGreatRef01
import Derived.Test.YtgfjpnpbkkadpaaGreatCls1
namespace Go.Proofs.YtgfjpnpbkkadpaaGreat
open Go.RowKit
namespace ClsS
open KeyP
instance decBA : DecidableEq ByteArray := fun x y => if h : x.data = y.data then isTrue (ByteArray.ext h) else isFalse (fun e => h (by rw [e]))
instance decMem (n : ByteArray) (l : List ByteArray) : Decidable (n ∈ l) := decidable_of_iff (l.any (fun x => decide (x = n)) = true) (by simp)
abbrev strs (l : List ByteArray) : List Value := l.map Value.string
theorem strs_at {l : List ByteArray} {k : Nat} (h : k < l.length) : (strs l)[k]? = some (.string l[k]) := by simp [h]
theorem no_take {l : List ByteArray} {n : ByteArray} {k : Nat} (h : k < l.length) : n ∈ l.take (k + 1) ↔ n ∈ l.take k ∨ n = l[k] := by
  rw [List.take_succ_eq_append_getElem h, List.mem_append, List.mem_singleton]
set_option maxRecDepth 100000 in
theorem Index (A : Option Addr) (ca : Nat) (l : List ByteArray) (n : ByteArray) (w : World) (ha : Sl w 1 A l.length ca (strs l)) :
    Calls Tryz.prog 221 #[.slice A l.length ca, .string n] w fun e w' => (∃ i : Int, e = .returned (.int .i64 i) ∧ decide (0 ≤ i) = decide (n ∈ l)) ∧ w' = w := by
  have la : l.length ≤ 9223372036854775807 := by have := ha.2.1; have := ha.2.2.1; unfold maxLen at this; omega
  go_enter Tryz.func221, Tryz.ntmps221
  go_wp2_with fail
  go_loopg [5, 8] l.length (fun gk _ i wr => ∃ k : Nat, i = .int .i64 k ∧ k ≤ l.length ∧ gk = l.length - k ∧ n ∉ l.take k ∧ w = wr)
  case atStart => exact ⟨0, rfl, Nat.zero_le _, rfl, by simp, rfl⟩
  case round =>
    obtain ⟨k, rfl, hk, hg, htk, rfl⟩ := hrel
    have HT := Lib.hid htk; have HG := Lib.hid hg
    clear htk hg
    by_cases hlt : k < l.length
    · obtain ⟨b1, o1, rfl, -, c1⟩ := ha.at hlt (by omega)
      have d1 : w.cell? ⟨b1, o1 + k, none⟩ = some (.string l[k]) := c1 k _ (strs_at hlt)
      have HA := Lib.hid ha
      clear c1 ha
      have i1 : (k : Int) < (l.length : Int) := by omega
      have HM := Lib.hid (no_take (n := n) hlt)
      have HI := Lib.hid (List.getElem_mem hlt)
      generalize hak : l[k] = x at *
      have HAK := Lib.hid hak
      clear hak
      by_cases hxy : x = n
      · have t2 : (n.toList == x.toList) = true := by simp [hxy]
        have HE : Hid (n ∈ l) := by show _; rw [← hxy]; exact HI.out
        clear hxy
        go_wp2_with fail
        go_ret
        exact ⟨⟨(k : Int), rfl, by rw [decide_eq_true HE.out]; simp⟩, rfl⟩
      · have t2 : (n.toList == x.toList) = false := by
          cases hq : n.toList == x.toList with
          | false => rfl
          | true => exact absurd (str_ext (by simpa using hq)).symm hxy
        have HN : Hid (n ∉ l.take (k + 1)) := by
          show _
          rw [HM.out]; rintro (h | h)
          · exact HT.out h
          · exact hxy h.symm
        clear hxy
        go_wp2_with fail
        go_roundg (l.length - (k + 1))
        case rel => exact ⟨k + 1, by go_num, by omega, rfl, HN.out, rfl⟩
        case measure => have := HG.out; omega
    · have HE : Hid (n ∉ l) := by
        show _
        have := HT.out
        rwa [List.take_of_length_le (by omega)] at this
      have HA := Lib.hid ha
      clear ha
      go_wp2_with fail
      go_ret
      exact ⟨⟨-1, rfl, by rw [decide_eq_false HE.out]; rfl⟩, rfl⟩
set_option maxRecDepth 100000 in
theorem Contains (A : Option Addr) (ca : Nat) (l : List ByteArray) (n : ByteArray) (w : World) (ha : Sl w 1 A l.length ca (strs l)) :
    Calls Tryz.prog 200 #[.slice A l.length ca, .string n] w fun e w' => e = .returned (.bool (decide (n ∈ l))) ∧ w' = w := by
  have H := Lib.hid (Index A ca l n w ha)
  clear ha
  go_enter Tryz.func200, Tryz.ntmps200
  go_wp2_with fail
  refine H.out.mono ?_
  rintro e w1 ⟨⟨i, rfl, hi⟩, rfl⟩
  have HI := Lib.hid hi
  clear hi
  go_wp2_with fail
  go_ret
  exact ⟨by rw [← HI.out]; rfl, rfl⟩
end ClsS
end Go.Proofs.YtgfjpnpbkkadpaaGreat
