/- Sums of 32 bits over bytes: the program's. -/
import Derived.Test.YtmcghchhegfilaaCrc
namespace Go.Proofs.Ytmcghchhegfilaa
open Go.RowKit
namespace Crc
open KeyP
theorem tbs_at {m : Nat} (h : m < 16) : tbs[m]? = some (.int .u32 ((stps 4 m : Nat) : Int)) := by
  match m, h with
  | 0, _ => rfl | 1, _ => rfl | 2, _ => rfl | 3, _ => rfl | 4, _ => rfl | 5, _ => rfl | 6, _ => rfl | 7, _ => rfl
  | n + 16, h => exact absurd h (by omega)
  | 8, _ => rfl | 9, _ => rfl | 10, _ => rfl | 11, _ => rfl | 12, _ => rfl | 13, _ => rfl | 14, _ => rfl | 15, _ => rfl
theorem run_snoc (c : Nat) (l : List UInt8) (b : UInt8) : run c (l ++ [b]) = byt (run c l) b := by unfold run; rw [List.foldl_append]; rfl
theorem tbl_at (w1 : World) {m : Nat} (h : m < 16) : (w1.alloc (.cells tbs 145)).cell? ⟨w1.heap.size, m, none⟩ = some (.int .u32 ((stps 4 m : Nat) : Int)) :=
  (cell_of_block (heap_new w1 (.cells tbs 145)) m).trans (tbs_at h)
set_option maxRecDepth 100000 in
theorem run_ {c : Nat} (hc : c < 4294967296) (s : ByteArray) (hs : s.size ≤ 1000000) (w : World) : Calls Try.prog 73 #[.int .u32 (c : Int), .string s] w fun e w' => e = .returned (.int .u32 ((run c s.data.toList : Nat) : Int)) ∧ Below w.heap.size w w' := by
  have HT := Lib.hid (table w)
  unfold tbs at HT
  go_enter Try.func73, Try.ntmps73
  go_wp2_with fail
  refine HT.out.mono ?_
  rintro e w1 ⟨rfl, hb⟩
  have HB := Lib.hid hb
  clear hb HT
  have HA0 := Lib.hid (fun m (h : m < 16) => tbl_at w1 h)
  have HB1 := Lib.hid (HB.out.alloc (by have := HB.out.size; omega) (.cells #[.int .u32 (tb 0), .int .u32 (tb 1), .int .u32 (tb 2), .int .u32 (tb 3), .int .u32 (tb 4), .int .u32 (tb 5), .int .u32 (tb 6), .int .u32 (tb 7), .int .u32 (tb 8), .int .u32 (tb 9), .int .u32 (tb 10), .int .u32 (tb 11), .int .u32 (tb 12), .int .u32 (tb 13), .int .u32 (tb 14), .int .u32 (tb 15)] 145))
  have hW1 : (w1.alloc (.cells #[.int .u32 (tb 0), .int .u32 (tb 1), .int .u32 (tb 2), .int .u32 (tb 3), .int .u32 (tb 4), .int .u32 (tb 5), .int .u32 (tb 6), .int .u32 (tb 7), .int .u32 (tb 8), .int .u32 (tb 9), .int .u32 (tb 10), .int .u32 (tb 11), .int .u32 (tb 12), .int .u32 (tb 13), .int .u32 (tb 14), .int .u32 (tb 15)] 145)).heap.size = w1.heap.size + 1 := by simp
  have HW1 := Lib.hid hW1
  have kc := run_bytes_of_string (P := Try.prog) (w1.alloc (.cells #[.int .u32 (tb 0), .int .u32 (tb 1), .int .u32 (tb 2), .int .u32 (tb 3), .int .u32 (tb 4), .int .u32 (tb 5), .int .u32 (tb 6), .int .u32 (tb 7), .int .u32 (tb 8), .int .u32 (tb 9), .int .u32 (tb 10), .int .u32 (tb 11), .int .u32 (tb 12), .int .u32 (tb 13), .int .u32 (tb 14), .int .u32 (tb 15)] 145)) 9 39 5 s Try.underlying9 Try.underlying39 Try.underlying5
  rw [hW1] at kc
  clear hW1
  have HA := Lib.hid (fun j hj => bytesRow_at s (grownCap (w1.alloc (.cells #[.int .u32 (tb 0), .int .u32 (tb 1), .int .u32 (tb 2), .int .u32 (tb 3), .int .u32 (tb 4), .int .u32 (tb 5), .int .u32 (tb 6), .int .u32 (tb 7), .int .u32 (tb 8), .int .u32 (tb 9), .int .u32 (tb 10), .int .u32 (tb 11), .int .u32 (tb 12), .int .u32 (tb 13), .int .u32 (tb 14), .int .u32 (tb 15)] 145)) s.size 0 5) j hj)
  generalize hC : bytesRow s (grownCap (w1.alloc (.cells #[.int .u32 (tb 0), .int .u32 (tb 1), .int .u32 (tb 2), .int .u32 (tb 3), .int .u32 (tb 4), .int .u32 (tb 5), .int .u32 (tb 6), .int .u32 (tb 7), .int .u32 (tb 8), .int .u32 (tb 9), .int .u32 (tb 10), .int .u32 (tb 11), .int .u32 (tb 12), .int .u32 (tb 13), .int .u32 (tb 14), .int .u32 (tb 15)] 145)) s.size 0 5) = C at *
  generalize grownCap (w1.alloc (.cells #[.int .u32 (tb 0), .int .u32 (tb 1), .int .u32 (tb 2), .int .u32 (tb 3), .int .u32 (tb 4), .int .u32 (tb 5), .int .u32 (tb 6), .int .u32 (tb 7), .int .u32 (tb 8), .int .u32 (tb 9), .int .u32 (tb 10), .int .u32 (tb 11), .int .u32 (tb 12), .int .u32 (tb 13), .int .u32 (tb 14), .int .u32 (tb 15)] 145)) s.size 0 5 = cap at *
  clear hC
  have HB2 := Lib.hid ((HB1.out.drew).alloc (by have := HB1.out.size; simpa using this) (.cells C 5 (C.size, C.size + 1)))
  have HC : Hid (∀ j (hj : j < s.data.toList.length), ((w1.alloc (.cells #[.int .u32 (tb 0), .int .u32 (tb 1), .int .u32 (tb 2), .int .u32 (tb 3), .int .u32 (tb 4), .int .u32 (tb 5), .int .u32 (tb 6), .int .u32 (tb 7), .int .u32 (tb 8), .int .u32 (tb 9), .int .u32 (tb 10), .int .u32 (tb 11), .int .u32 (tb 12), .int .u32 (tb 13), .int .u32 (tb 14), .int .u32 (tb 15)] 145)).drew.alloc (.cells C 5 (C.size, C.size + 1))).cell? ⟨w1.heap.size + 1, j, none⟩ = some (.int .u8 (s.data.toList[j].toNat : Nat))) := fun j hj => by
    have h0 := HW1.out
    have h1 := World.cell?_alloc_mark (w1.alloc (.cells #[.int .u32 (tb 0), .int .u32 (tb 1), .int .u32 (tb 2), .int .u32 (tb 3), .int .u32 (tb 4), .int .u32 (tb 5), .int .u32 (tb 6), .int .u32 (tb 7), .int .u32 (tb 8), .int .u32 (tb 9), .int .u32 (tb 10), .int .u32 (tb 11), .int .u32 (tb 12), .int .u32 (tb 13), .int .u32 (tb 14), .int .u32 (tb 15)] 145)).drew C 5 (C.size, C.size + 1) j
    have h2 := HA.out j (by simpa using hj)
    rw [h2] at h1
    have h3 : (w1.alloc (.cells #[.int .u32 (tb 0), .int .u32 (tb 1), .int .u32 (tb 2), .int .u32 (tb 3), .int .u32 (tb 4), .int .u32 (tb 5), .int .u32 (tb 6), .int .u32 (tb 7), .int .u32 (tb 8), .int .u32 (tb 9), .int .u32 (tb 10), .int .u32 (tb 11), .int .u32 (tb 12), .int .u32 (tb 13), .int .u32 (tb 14), .int .u32 (tb 15)] 145)).drew.heap.size = w1.heap.size + 1 := h0
    rw [h3] at h1
    simpa using h1
  have HTb : Hid (∀ m, m < 16 → ((w1.alloc (.cells #[.int .u32 (tb 0), .int .u32 (tb 1), .int .u32 (tb 2), .int .u32 (tb 3), .int .u32 (tb 4), .int .u32 (tb 5), .int .u32 (tb 6), .int .u32 (tb 7), .int .u32 (tb 8), .int .u32 (tb 9), .int .u32 (tb 10), .int .u32 (tb 11), .int .u32 (tb 12), .int .u32 (tb 13), .int .u32 (tb 14), .int .u32 (tb 15)] 145)).drew.alloc (.cells C 5 (C.size, C.size + 1))).cell? ⟨w1.heap.size, m, none⟩ = some (.int .u32 ((stps 4 m : Nat) : Int))) := fun m hm => by
    have h1 := HA0.out m hm
    have hz : w1.heap.size + 1 ≤ (w1.alloc (.cells #[.int .u32 (tb 0), .int .u32 (tb 1), .int .u32 (tb 2), .int .u32 (tb 3), .int .u32 (tb 4), .int .u32 (tb 5), .int .u32 (tb 6), .int .u32 (tb 7), .int .u32 (tb 8), .int .u32 (tb 9), .int .u32 (tb 10), .int .u32 (tb 11), .int .u32 (tb 12), .int .u32 (tb 13), .int .u32 (tb 14), .int .u32 (tb 15)] 145)).heap.size := Nat.le_of_eq HW1.out.symm
    exact ((((Below.refl (w1.heap.size + 1) (w1.alloc (.cells #[.int .u32 (tb 0), .int .u32 (tb 1), .int .u32 (tb 2), .int .u32 (tb 3), .int .u32 (tb 4), .int .u32 (tb 5), .int .u32 (tb 6), .int .u32 (tb 7), .int .u32 (tb 8), .int .u32 (tb 9), .int .u32 (tb 10), .int .u32 (tb 11), .int .u32 (tb 12), .int .u32 (tb 13), .int .u32 (tb 14), .int .u32 (tb 15)] 145))).drew).alloc hz (.cells C 5 (C.size, C.size + 1))).cell (p := ⟨w1.heap.size, m, none⟩) (Nat.lt_succ_self _)).trans h1
  have hl : s.data.toList.length = s.size := by simp
  generalize (w1.alloc (.cells #[.int .u32 (tb 0), .int .u32 (tb 1), .int .u32 (tb 2), .int .u32 (tb 3), .int .u32 (tb 4), .int .u32 (tb 5), .int .u32 (tb 6), .int .u32 (tb 7), .int .u32 (tb 8), .int .u32 (tb 9), .int .u32 (tb 10), .int .u32 (tb 11), .int .u32 (tb 12), .int .u32 (tb 13), .int .u32 (tb 14), .int .u32 (tb 15)] 145)).drew.alloc (.cells C 5 (C.size, C.size + 1)) = w2 at *
  generalize hL : s.data.toList = l at *
  generalize s.size = n at *
  have HL := Lib.hid hl
  have HLe := Lib.hid hL
  have HcL := Lib.hid hc
  have HS := Lib.hid hs
  clear hL HA hl hc hs HB HA0 HB1 HW1
  go_wp2_with fail
  go_loopg [0, 7, 12] n (fun gk u _ i wr => ∃ k : Nat, i = .int .i64 k ∧ k ≤ n ∧ gk = n - k ∧ u = .int .u32 ((run c (l.take k) : Nat) : Int) ∧ w2 = wr)
  case atStart => exact ⟨0, rfl, Nat.zero_le _, rfl, rfl, rfl⟩
  case round =>
    obtain ⟨k, rfl, hk, hg, rfl, rfl⟩ := hrel
    have HG := Lib.hid hg
    clear hg
    by_cases hlt : k < n
    · have hkl : k < l.length := by rw [HL.out]; exact hlt
      have k1 : (k : Int) < 1000000 := by have := HS.out; omega
      have d0 : w2.cell? ⟨w1.heap.size + 1, k, none⟩ = some (.int .u8 ((l[k].toNat : Nat) : Int)) := HC.out k hkl
      have HT : Hid (run c (l.take (k + 1)) = byt (run c (l.take k)) l[k]) := by show _ = _; rw [List.take_succ_eq_append_getElem hkl, run_snoc]
      have hX : run c (l.take k) < 4294967296 := run_lt HcL.out
      rw [byt, eight, four (stps 4 _), four (_ ^^^ _)] at HT
      generalize run c (l.take k) = X at *
      have hb := l[k].toNat_lt
      generalize l[k].toNat = b at *
      have hxb := xor32 hX (by omega : b < 4294967296)
      have hY : X ^^^ b < 4294967296 := xor_lt hX (by omega)
      generalize X ^^^ b = Y at *
      have q1 : (0 : Int) ≤ (b : Int) := by omega
      have q2 : (b : Int) < 256 := by omega
      have q3 : (0 : Int) ≤ (Y : Int) := by omega
      have q4 : (Y : Int) < 4294967296 := by omega
      have a1 := and15 hY
      have d1 : w2.cell? ⟨w1.heap.size, Y % 16, none⟩ = some (.int .u32 ((stps 4 (Y % 16) : Nat) : Int)) := HTb.out _ (by omega)
      have hz1 : stps 4 (Y % 16) < 4294967296 := stps_lt (by omega)
      have m1 : ((Y % 16 : Nat) : Int) < 16 := by omega
      generalize stps 4 (Y % 16) = Z1 at *
      generalize Y % 16 = M1 at *
      have m1' : (0 : Int) ≤ (M1 : Int) := by omega
      have hx1 : bits .xor .u32 ((Y : Int) / 16) (Z1 : Int) = ((Y / 16 ^^^ Z1 : Nat) : Int) := by rw [sixt]; exact xor32 (by omega) hz1
      have hY2 : Y / 16 ^^^ Z1 < 4294967296 := xor_lt (by omega) hz1
      generalize Y / 16 ^^^ Z1 = Y2 at *
      have a2 := and15 hY2
      have d2 : w2.cell? ⟨w1.heap.size, Y2 % 16, none⟩ = some (.int .u32 ((stps 4 (Y2 % 16) : Nat) : Int)) := HTb.out _ (by omega)
      have hz2 : stps 4 (Y2 % 16) < 4294967296 := stps_lt (by omega)
      have m2 : ((Y2 % 16 : Nat) : Int) < 16 := by omega
      generalize stps 4 (Y2 % 16) = Z2 at *
      generalize Y2 % 16 = M2 at *
      have m2' : (0 : Int) ≤ (M2 : Int) := by omega
      have hx2 : bits .xor .u32 ((Y2 : Int) / 16) (Z2 : Int) = ((Y2 / 16 ^^^ Z2 : Nat) : Int) := by rw [sixt]; exact xor32 (by omega) hz2
      generalize Y2 / 16 ^^^ Z2 = Y3 at *
      have q5 : (0 : Int) ≤ (Y2 : Int) := by omega
      have q6 : (Y2 : Int) < 4294967296 := by omega
      clear hb hX hY hY2 hz1 hz2
      go_wp2_with fail
      go_roundg (n - (k + 1))
      case rel => exact ⟨k + 1, by go_num, by omega, rfl, by rw [HT.out], rfl⟩
      case measure => have := HG.out; omega
    · obtain rfl : k = n := by omega
      have HT : Hid (l.take k = l) := by show _ = _; exact List.take_of_length_le (by rw [HL.out]; omega)
      rw [HT.out]
      go_wp2_with fail
      go_ret
      exact ⟨by rw [HLe.out]; rfl, HB2.out⟩
set_option maxRecDepth 100000 in
theorem More {c : Nat} (hc : c < 4294967296) (s : ByteArray) (hs : s.size ≤ 1000000) (w : World) : Calls Try.prog 43 #[.int .i64 (c : Int), .string s] w fun e w' => e = .returned (.int .i64 ((more c s.data.toList : Nat) : Int)) ∧ Below w.heap.size w w' := by
  have hx := xor32 hc (by omega : (4294967295 : Nat) < 4294967296)
  have hX : c ^^^ 4294967295 < 4294967296 := xor_lt hc (by omega)
  have HR := Lib.hid (run_ hX s hs w)
  have hy := xor32 (run_lt (l := s.data.toList) hX) (by omega : (4294967295 : Nat) < 4294967296)
  have hZ : run (c ^^^ 4294967295) s.data.toList ^^^ 4294967295 < 4294967296 := xor_lt (run_lt hX) (by omega)
  have HE : Hid (more c s.data.toList = run (c ^^^ 4294967295) s.data.toList ^^^ 4294967295) := rfl
  rw [HE.out]
  clear HE
  generalize c ^^^ 4294967295 = X at *
  generalize run X s.data.toList = Y at *
  generalize Y ^^^ 4294967295 = Z at *
  have q1 : (0 : Int) ≤ (c : Int) := by omega
  have q2 : (c : Int) < 4294967296 := by omega
  have q3 : (0 : Int) ≤ (Z : Int) := by omega
  have q4 : (Z : Int) < 4294967296 := by omega
  have hx' : bits .xor .u32 (c : Int) 4294967295 = (X : Int) := hx
  have hy' : bits .xor .u32 (Y : Int) 4294967295 = (Z : Int) := hy
  clear hc hX hZ hs hx hy
  go_enter Try.func43, Try.ntmps43
  go_wp2_with fail
  refine HR.out.mono ?_
  rintro e w1 ⟨rfl, hb⟩
  have HB := Lib.hid hb
  clear hb
  go_wp2_with fail
  go_ret
  exact ⟨rfl, HB.out⟩
end Crc
end Go.Proofs.Ytmcghchhegfilaa
