/- Sums of 32 bits: the document's. -/
import Derived.Test.YtmcghchhegfilaaCrcR
namespace Go.Proofs.Ytmcghchhegfilaa
open Go.RowKit
namespace Crc
open KeyP
theorem stps_succ (n c : Nat) : stps (n + 1) c = stp (stps n c) := by rw [stps_add]; rfl
set_option maxRecDepth 100000 in
theorem refEight {c : Nat} (hc : c < 4294967296) (w : World) : Calls Try.prog 96 #[.int .u32 (c : Int)] w fun e w' => e = .returned (.int .u32 ((stps 8 c : Nat) : Int)) ∧ w' = w := by
  have HC := Lib.hid hc
  clear hc
  go_enter Try.func96, Try.ntmps96
  go_wp2_with fail
  go_loopg [0, 3] 8 (fun gk u i wr => ∃ k : Nat, i = .int .i64 k ∧ k ≤ 8 ∧ gk = 8 - k ∧ u = .int .u32 ((stps k c : Nat) : Int) ∧ w = wr)
  case atStart => exact ⟨0, rfl, Nat.zero_le _, rfl, rfl, rfl⟩
  case round =>
    obtain ⟨k, rfl, hk, hg, rfl, rfl⟩ := hrel
    have HG := Lib.hid hg
    clear hg
    by_cases hlt : k < 8
    · have hX : stps k c < 4294967296 := stps_lt HC.out
      have HT := Lib.hid (stps_succ k c)
      generalize stps k c = X at *
      have HX := Lib.hid hX
      clear hX
      go_upto_region 4 with (fail)
      have hX := HX.out
      clear hk
      rcases Nat.mod_two_eq_zero_or_one X with h | h
      · have HE : Hid (stps (k + 1) c = X / 2) := by show _ = _; rw [HT.out, stp, if_neg (by omega)]
        have hm : (X : Int) % 2 = 0 := by omega
        have q3 : (0 : Int) ≤ (X : Int) := by omega
        have q4 : (X : Int) ≤ 4294967295 := by omega
        have HK := Lib.hid hlt
        clear HT hX h hlt HX
        go_wp2_with fail
        have hlt := HK.out
        go_roundg (8 - (k + 1))
        case rel => exact ⟨k + 1, by go_num, by omega, rfl, by rw [HE.out]; rfl, rfl⟩
        case measure => have := HG.out; omega
      · have hx : bits .xor .u32 ((X : Int) / 2) 2197175160 = ((X / 2 ^^^ 2197175160 : Nat) : Int) := by rw [half]; exact xor32 (by omega) (by decide)
        have HE : Hid (stps (k + 1) c = X / 2 ^^^ 2197175160) := by show _ = _; rw [HT.out, stp, if_pos h]
        have hm : (X : Int) % 2 = 1 := by omega
        have q3 : (0 : Int) ≤ (X : Int) := by omega
        have q4 : (X : Int) ≤ 4294967295 := by omega
        have HK := Lib.hid hlt
        generalize X / 2 ^^^ 2197175160 = Y at *
        clear HT hX h hlt HX
        go_wp2_with fail
        have hlt := HK.out
        go_roundg (8 - (k + 1))
        case rel => exact ⟨k + 1, by go_num, by omega, rfl, by rw [HE.out], rfl⟩
        case measure => have := HG.out; omega
    · obtain rfl : k = 8 := by omega
      go_wp2_with fail
      go_ret
      exact ⟨rfl, rfl⟩
set_option maxRecDepth 100000 in
set_option maxHeartbeats 1000000 in
theorem refMore {c : Nat} (hc : c < 4294967296) (s : ByteArray) (hs : s.size ≤ 1000000) (w : World) : Calls Try.prog 67 #[.int .i64 (c : Int), .string s] w fun e w' => e = .returned (.int .i64 ((more c s.data.toList : Nat) : Int)) ∧ w' = w := by
  have H8 := Lib.hid (fun (c : Nat) (hc : c < 4294967296) (W : World) => refEight hc W)
  have hx := xor32 hc (by omega : (4294967295 : Nat) < 4294967296)
  have hX : c ^^^ 4294967295 < 4294967296 := xor_lt hc (by omega)
  have HE : Hid (more c s.data.toList = run (c ^^^ 4294967295) s.data.toList ^^^ 4294967295) := rfl
  rw [HE.out]
  clear HE
  generalize c ^^^ 4294967295 = C at *
  have q1 : (0 : Int) ≤ (c : Int) := by omega
  have q2 : (c : Int) ≤ 4294967295 := by omega
  have hx' : bits .xor .u32 (c : Int) 4294967295 = (C : Int) := hx
  have hl : s.data.toList.length = s.size := by simp
  obtain ⟨l, hL⟩ : ∃ l, l = s.data.toList := ⟨_, rfl⟩
  obtain ⟨N, hN⟩ : ∃ N, s.size = N := ⟨_, rfl⟩
  have HGt : Hid (∀ k, ∀ (h : k < s.size) (h' : k < l.length), s[k] = l[k]) := fun k h h' => by subst hL; rfl
  rw [← hL, hN] at hl
  rw [← hL]
  rw [hN] at hs
  clear hL
  generalize hR : run C l ^^^ 4294967295 = R
  have HR := Lib.hid hR
  clear hR
  have HL := Lib.hid hl; have HX := Lib.hid hX; have HS := Lib.hid hs
  clear hc hX hs hx hl
  go_enter Try.func67, Try.ntmps67
  go_wp2_with fail
  clear q1 q2 hx'
  go_loopg [5, 6] N (fun gk u i wr => ∃ k : Nat, i = .int .i64 k ∧ k ≤ N ∧ gk = N - k ∧ u = .int .u32 ((run C (l.take k) : Nat) : Int) ∧ w = wr)
  case atStart => exact ⟨0, rfl, Nat.zero_le _, rfl, rfl, rfl⟩
  case round =>
    obtain ⟨k, rfl, hk, hg, rfl, rfl⟩ := hrel
    have HG := Lib.hid hg
    clear hg
    by_cases hlt : k < N
    · have hkl : k < l.length := by rw [HL.out]; exact hlt
      have hkN : k < s.size := by rw [hN]; exact hlt
      have HT : Hid (run C (l.take (k + 1)) = byt (run C (l.take k)) l[k]) := by show _ = _; rw [List.take_succ_eq_append_getElem hkl, run_snoc]
      have hX : run C (l.take k) < 4294967296 := run_lt HX.out
      rw [byt, ← HGt.out k hkN hkl] at HT
      generalize run C (l.take k) = X at *
      have hb := s[k].toNat_lt
      have hxb := xor32 hX (by omega : s[k].toNat < 4294967296)
      have hY : X ^^^ s[k].toNat < 4294967296 := xor_lt hX (by omega)
      generalize X ^^^ s[k].toNat = Y at *
      have k1 : (k : Int) < 1000000 := by have := HS.out; omega
      have HY := Lib.hid hY
      have hxm : bits .xor .u32 (X : Int) (((s[k].toNat : Nat) : Int) % 4294967296) = (Y : Int) := by rw [Int.emod_eq_of_lt (by omega) (by omega)]; exact hxb
      clear hb hX hY hxb
      go_wp2_with fail
      refine (H8.out _ HY.out _).mono ?_
      rintro e w1 ⟨rfl, rfl⟩
      go_wp2_with fail
      go_roundg (N - (k + 1))
      case rel => exact ⟨k + 1, by go_num, by omega, rfl, by rw [HT.out], rfl⟩
      case measure => have := HG.out; omega
    · obtain rfl : k = N := by omega
      have HT : Hid (l.take k = l) := by show _ = _; exact List.take_of_length_le (by rw [HL.out]; omega)
      rw [HT.out]
      have hZ : run C l < 4294967296 := run_lt HX.out
      have hy := xor32 hZ (by omega : (4294967295 : Nat) < 4294967296)
      have hW : run C l ^^^ 4294967295 < 4294967296 := xor_lt hZ (by omega)
      rw [HR.out] at hy hW
      clear HR HT
      generalize run C l = Z at *
      have hy' : bits .xor .u32 (Z : Int) 4294967295 = (R : Int) := hy
      have q3 : (0 : Int) ≤ (R : Int) := by omega
      have q4 : (R : Int) ≤ 4294967295 := by omega
      clear hZ hy hW
      go_wp2_with fail
      go_ret
      exact ⟨rfl, rfl⟩
set_option maxRecDepth 100000 in
theorem refSum (s : ByteArray) (hs : s.size ≤ 1000000) (w : World) : Calls Try.prog 40 #[.string s] w fun e w' => e = .returned (.int .i64 ((sum s.data.toList : Nat) : Int)) ∧ w' = w := by
  have H := Lib.hid (refMore (by decide : 0 < 4294967296) s hs w)
  have HE : sum s.data.toList = more 0 s.data.toList := rfl
  rw [HE]
  clear HE hs
  generalize more 0 s.data.toList = R at *
  go_enter Try.func40, Try.ntmps40
  go_wp2_with fail
  refine H.out.mono ?_
  rintro e w1 ⟨rfl, rfl⟩
  go_wp2_with fail
  go_ret
  exact ⟨rfl, rfl⟩
end Crc
end Go.Proofs.Ytmcghchhegfilaa
