/- Layer 16: lists of texts that are the same; the horizons; few acts. -/
import Derived.Test.YtdpngmgaomghoaaGreatRef16
import Derived.Test.YtdpngmgaomghoaaGreatSat2
import Derived.Test.YtdpngmgaomghoaaGreatExp3
namespace Go.Proofs.YtdpngmgaomghoaaGreat
open Go.RowKit
namespace Law16
open KeyP ExpP
theorem Horizon (a b : Int) (ha : in64 a) (hb : in64 b) (w : World) : Calls Tryz.prog 113 #[.int .i64 a, .int .i64 b] w fun e w' => e = .returned (.int .i64 (Sat2.cl (a - max b 0))) ∧ w = w' := by
  have hm : in64 (max b 0) := by unfold in64 at *; omega
  have HS := Lib.hid (Sat2.Sub ha hm w)
  clear ha hb hm
  go_enter Tryz.func113, Tryz.ntmps113
  rcases Int.lt_trichotomy b 0 with hb | rfl | hb
  · have h1 : max b 0 = 0 := by omega
    rw [h1] at HS ⊢
    go_wp2_with fail
    all_goals
      refine HS.out.mono ?_
      rintro e w1 ⟨rfl, rfl⟩
      go_wp2_with fail
      go_ret
      exact ⟨by rw [Int.sub_zero]; rfl, rfl⟩
  · have h1 : max (0 : Int) 0 = 0 := by omega
    rw [h1] at HS ⊢
    go_wp2_with fail
    all_goals
      refine HS.out.mono ?_
      rintro e w1 ⟨rfl, rfl⟩
      go_wp2_with fail
      go_ret
      exact ⟨by rw [Int.sub_zero]; rfl, rfl⟩
  · have h1 : max b 0 = b := by omega
    rw [h1] at HS ⊢
    go_wp2_with fail
    all_goals
      refine HS.out.mono ?_
      rintro e w1 ⟨rfl, rfl⟩
      go_wp2_with fail
      go_ret
      exact ⟨rfl, rfl⟩
set_option maxRecDepth 100000 in
theorem Past (x : Sn) (hb : in64 x.b) (h : Int) (w : World) : Calls Tryz.prog 126 #[x.v, .int .i64 h] w fun e w' => e = .returned (.bool (decide (Sat2.endS x < h))) ∧ Fr (fun _ => False) w w' := by
  have HE := fun w => Lib.hid (Sat2.End x hb w)
  clear hb
  obtain ⟨t, i, p, r, s, o, u, d, g⟩ := x
  have HB := Lib.hid (Bk.new w #[.int .i64 t, .int .i64 i, .int .i64 p, .int .i64 r, .string s, .string o, .int .i64 u, .int .i64 d, .bool g] Sat2.TSn)
  have HF0 := Lib.hid (Fr.alloc (fun _ => False) w (.cells #[.int .i64 t, .int .i64 i, .int .i64 p, .int .i64 r, .string s, .string o, .int .i64 u, .int .i64 d, .bool g] Sat2.TSn))
  go_enter Tryz.func126, Tryz.ntmps126
  go_wp2_with fail
  refine (HE _).out.mono ?_
  rintro e w1 ⟨rfl, hf⟩
  have HF := Lib.hid (HF0.out.trans hf (fun _ _ h => h) (fun _ _ h => h))
  clear hf
  go_wp2_with fail
  go_ret
  exact ⟨rfl, HF.out⟩
end Law16
end Go.Proofs.YtdpngmgaomghoaaGreat
namespace Go.Proofs.YtdpngmgaomghoaaGreat
open Go.RowKit
namespace Law16
open KeyP ExpP Ref16 Exp
attribute [local go_sem] Eng.ev Eng.getO_cons Eng.getO_nil
end Law16
end Go.Proofs.YtdpngmgaomghoaaGreat
