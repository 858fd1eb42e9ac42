/- Which part a trace is of: the program's, and the document's. -/
import Derived.Test.YtmcghchhegfilaaDigP
import Derived.Test.YtmcghchhegfilaaRef02
import Derived.Test.YtmcghchhegfilaaVari
namespace Go.Proofs.Ytmcghchhegfilaa
open Go.RowKit
namespace DigW
open KeyP PackP Crc
set_option maxRecDepth 100000 in
theorem Sum1 (b o cp : Nat) (s : ByteArray) (hs : s.size ≤ 1000000) (w : World) (hc : w.cell? ⟨b, o, none⟩ = some (.string s)) :
    Calls Try.prog 38 #[.slice (some ⟨b, o, none⟩) 1 cp] w fun e w' => e = .returned (.int .i64 ((Crc.sum s.data.toList : Nat) : Int)) ∧ Below w.heap.size w w' := by
  have H := Lib.hid (More (by decide : 0 < 4294967296) s hs w)
  have HE : Crc.sum s.data.toList = more 0 s.data.toList := rfl
  rw [HE]
  clear HE hs
  generalize more 0 s.data.toList = R at *
  go_enter Try.func38, Try.ntmps38
  go_wp2_with fail
  refine wp_loop_rounds 2 ?_
  rw [rounds_succ]; go_wp2_with fail
  refine H.out.mono ?_
  rintro e w1 ⟨rfl, hb⟩
  have HB := Lib.hid hb
  clear hb
  go_wp2_with fail
  rw [rounds_succ]; go_wp2_with fail
  go_ret
  exact ⟨rfl, HB.out⟩
set_option maxRecDepth 100000 in
theorem Part {n : Int} (h : in64 n) (w : World) : Calls Try.prog 12 #[.int .i64 n] w fun e w' => e = .returned (.int .i64 ((Dig.part n : Nat) : Int)) ∧ Below w.heap.size w w' := by
  have H1 := Lib.hid (Vari.PutSigned h w)
  have hl : (vb (zz n)).length ≤ 10 := vb_len10 (zz_lt h)
  have H2 := Lib.hid (fun (b : Nat) (W : World) (hc : W.cell? ⟨b, 0, none⟩ = some (.string (ks (vb (zz n))))) => Sum1 b 0 1 (ks (vb (zz n))) (by rw [ks_size]; omega) W hc)
  have HS := sum_lt (vb (zz n))
  have HE : Dig.part n = Crc.sum (vb (zz n)) % 16 := rfl
  rw [HE]
  simp only [ks_data] at H2
  clear HE hl
  generalize Crc.sum (vb (zz n)) = R at *
  generalize ks (vb (zz n)) = s at *
  have q1 : (0 : Int) ≤ (R : Int) := by omega
  have q2 : (R : Int) ≤ 4294967295 := by omega
  have hr : (R : Int) % 16 = ((R % 16 : Nat) : Int) := by omega
  have HR := Lib.hid hr
  clear HS h hr
  go_enter Try.func12, Try.ntmps12
  go_wp2_with fail
  refine H1.out.mono ?_
  rintro e w1 ⟨rfl, hb⟩
  have HB := Lib.hid hb
  clear hb
  go_wp2_with fail
  refine (H2.out _ _ ?_).mono ?_
  · exact cell_of_block (heap_new w1 _) 0
  rintro e w2 ⟨rfl, hb⟩
  have HB2 := Lib.hid (HB.out.alloc (by have := HB.out.size; omega) (.cells #[.string s] 9))
  have HB3 := Lib.hid (HB2.out.trans (hb.mono (by have := HB2.out.size; omega)))
  clear hb
  go_wp2_with fail
  go_ret
  exact ⟨by rw [← HR.out]; rfl, HB3.out⟩
set_option maxRecDepth 100000 in
theorem RefPart {n : Int} (h : in64 n) (w : World) : Calls Try.prog 13 #[.int .i64 n] w fun e w' => e = .returned (.int .i64 ((Dig.part n : Nat) : Int)) ∧ Below w.heap.size w w' := by
  have H1 := Lib.hid (Vari.RefPutSigned h w)
  have hl : (vb (zz n)).length ≤ 10 := vb_len10 (zz_lt h)
  have H2 := Lib.hid (fun (W : World) => refSum (ks (vb (zz n))) (by rw [ks_size]; omega) W)
  have HS := sum_lt (vb (zz n))
  have HE : Dig.part n = Crc.sum (vb (zz n)) % 16 := rfl
  rw [HE]
  simp only [ks_data] at H2
  clear HE hl
  generalize Crc.sum (vb (zz n)) = R at *
  generalize ks (vb (zz n)) = s at *
  have q1 : (0 : Int) ≤ (R : Int) := by omega
  have q2 : (R : Int) ≤ 4294967295 := by omega
  have hr : (R : Int) % 16 = ((R % 16 : Nat) : Int) := by omega
  have HR := Lib.hid hr
  clear HS h hr
  go_enter Try.func13, Try.ntmps13
  go_wp2_with fail
  refine H1.out.mono ?_
  rintro e w1 ⟨rfl, hb⟩
  have HB := Lib.hid hb
  clear hb
  go_wp2_with fail
  refine (H2.out _).mono ?_
  rintro e w2 ⟨rfl, rfl⟩
  go_wp2_with fail
  go_ret
  exact ⟨by rw [← HR.out]; rfl, HB.out⟩
end DigW
end Go.Proofs.Ytmcghchhegfilaa
