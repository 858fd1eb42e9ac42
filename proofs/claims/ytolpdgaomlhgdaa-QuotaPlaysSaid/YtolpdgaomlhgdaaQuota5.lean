/- Quotas that nobody made: Drop and Add. -/
import Derived.Test.YtolpdgaomlhgdaaQuota4
import Derived.Deep.QuietTactic
import Derived.BigQuiet
namespace Go.Proofs.Ytolpdgaomlhgdaa
open Go.RowKit
namespace Quota
open BagP QuotaP
set_option maxRecDepth 100000 in
set_option maxHeartbeats 1000000 in
theorem Drop_nob (q : Option Addr) (A : Option Addr) (c : Nat) (xs : List Sp) (w : World) (h : Nob w q) (hS : Sl w 9 A xs.length c (xs.flatMap Sp.cs)) (hwf : ∀ x ∈ xs, wfI x.t) :
    Calls Try.prog 20 #[.pointer q, .slice A xs.length c] w fun e w' => e = .returned (.tuple #[]) ∧ Fr (fun _ => False) w w' := by
  have hlen : xs.length ≤ 9223372036854775807 := by have := hS.2.1; have := hS.2.2.1; unfold maxLen at this; omega
  have HS := Lib.hid hS; have HWf := Lib.hid hwf; have H0 := Lib.hid h
  clear hS hwf h
  go_enter Try.func20, Try.ntmps20
  go_wp2_with fail
  go_loopg [5, 8] xs.length (fun gk _ i wr => ∃ k : Nat, i = .int .i64 k ∧ k ≤ xs.length ∧ gk = xs.length - k ∧ Fr (fun _ => False) w wr)
  case atStart => exact ⟨0, rfl, Nat.zero_le _, rfl, Fr.refl _ _⟩
  case round =>
    obtain ⟨k, rfl, hk, hg, hfr⟩ := hrel
    have HG := Lib.hid hg; have HFr := Lib.hid hfr
    clear hg hfr
    by_cases hlt : k < xs.length
    · obtain ⟨b1, o1, rfl, hb1, hc1⟩ := HS.out.at hlt (by omega)
      obtain ⟨d0, d1, d2, d3, d4, d5, d6, d7, d8⟩ := sp_cells (w := w) (wr := wr) (c := c) rfl hlt hc1 (fun j => World.cell?_of_block (w := w) (a := ⟨b1, j, none⟩) (HFr.out.block b1 hb1 (fun h => h)))
      have hwx := HWf.out _ (List.getElem_mem hlt)
      generalize xs[k] = x at *
      obtain ⟨t, i, p, rv, s, o, b, d, g⟩ := x
      dsimp only at d0 d1 d2 d3 d4 d5 d6 d7 d8 hwx
      have HF1 := Lib.hid (HFr.out.trans (Fr.alloc (fun _ => False) wr (.cells #[.int .i64 t, .int .i64 i, .int .i64 p, .int .i64 rv, .string s, .string o, .int .i64 b, .int .i64 d, .bool g] TSp)) (T := fun _ => False) (fun _ _ h => h) (fun _ _ h => h))
      have HOf := Lib.hid (Of_nob q t _ (H0.out.fr HF1.out (fun _ _ h => h)) hwx)
      clear hc1
      go_wp2_with fail
      refine HOf.out.mono ?_
      rintro e w2 ⟨rfl, rfl⟩
      go_wp2_with fail
      go_roundg (xs.length - (k + 1))
      case rel => exact ⟨k + 1, by go_num, by omega, rfl, HF1.out⟩
      case measure => have := HG.out; omega
    · obtain rfl : k = xs.length := by omega
      go_wp2_with fail
      go_end0
      exact ⟨rfl, HFr.out⟩
set_option maxRecDepth 100000 in
theorem one_zero (B : Nat) (x : Sp) (w : World) (h : QN w B) :
    Calls Try.prog 87 #[.pointer (some ⟨B, 0, none⟩), .agg #[.int .i64 x.t, .int .i64 x.i, .int .i64 x.p, .int .i64 x.r, .string x.s, .string x.o, .int .i64 x.b, .int .i64 x.d, .bool x.g]] w fun e w' => e = .returned (.bool false) ∧ Fr (fun _ => False) w w' := by
  obtain ⟨t, i, p, rv, s, o, b, d, g⟩ := x
  dsimp only
  have hlt := lt_of_heap h
  have c0 : (w.alloc (.cells #[.int .i64 t, .int .i64 i, .int .i64 p, .int .i64 rv, .string s, .string o, .int .i64 b, .int .i64 d, .bool g] TSp)).cell? ⟨B, 0, none⟩ = some (.int .i64 0) := (h.fr (Fr.alloc (fun _ => False) w _) (fun _ _ h => h)).cell 0
  have c2 : (w.alloc (.cells #[.int .i64 t, .int .i64 i, .int .i64 p, .int .i64 rv, .string s, .string o, .int .i64 b, .int .i64 d, .bool g] TSp)).cell? ⟨B, 2, none⟩ = some (.int .i64 0) := (h.fr (Fr.alloc (fun _ => False) w _) (fun _ _ h => h)).cell 2
  have HF1 := Lib.hid (Fr.alloc (fun _ => False) w (.cells #[.int .i64 t, .int .i64 i, .int .i64 p, .int .i64 rv, .string s, .string o, .int .i64 b, .int .i64 d, .bool g] TSp))
  clear h
  go_enter Try.func87, Try.ntmps87
  go_upto_region 1 with (fail)
  generalize (w.alloc (.cells #[.int .i64 t, .int .i64 i, .int .i64 p, .int .i64 rv, .string s, .string o, .int .i64 b, .int .i64 d, .bool g] TSp)) = W at *
  go_quiet (fail)
  go_wp2_with fail
  go_ret
  exact ⟨rfl, HF1.out.trans (Fr.drewN (fun _ => False) _ _) (fun _ _ h => h) (fun _ _ h => h)⟩
set_option maxRecDepth 100000 in
set_option maxHeartbeats 1000000 in
theorem Add_zero (B : Nat) (A : Option Addr) (c : Nat) (xs : List Sp) (w : World) (h : QN w B) (hS : Sl w 9 A xs.length c (xs.flatMap Sp.cs)) (hwf : ∀ x ∈ xs, wfI x.t) :
    Calls Try.prog 22 #[.pointer (some ⟨B, 0, none⟩), .slice A xs.length c] w fun e w' => e = .returned (.bool ((xs.length : Int) == 0)) ∧ Fr (fun _ => False) w w' := by
  have hlen : xs.length ≤ 9223372036854775807 := by have := hS.2.1; have := hS.2.2.1; unfold maxLen at this; omega
  have hcl : xs.length ≤ c ∧ c ≤ 9223372036854775807 := by have := hS.2.1; have := hS.2.2.1; unfold maxLen at this; omega
  have HS := Lib.hid hS; have HWf := Lib.hid hwf; have H0 := Lib.hid h
  clear hS hwf h
  go_enter Try.func22, Try.ntmps22
  go_wp2_with fail
  refine wp_loop_rounds 1 ?_
  rw [rounds_succ]
  by_cases hlt : 0 < xs.length
  · obtain ⟨b1, o1, rfl, hb1, hc1⟩ := HS.out.at hlt (by omega)
    obtain ⟨d0, d1, d2, d3, d4, d5, d6, d7, d8⟩ := sp_cells (w := w) (wr := w) (c := c) rfl hlt hc1 (fun j => rfl)
    simp only [Nat.zero_mul, Nat.add_zero] at d0 d1 d2 d3 d4 d5 d6 d7 d8
    have HOne := fun W (hq : QN W B) => Lib.hid (one_zero B xs[0] W hq)
    generalize xs[0] = x at *
    obtain ⟨t, i, p, rv, s, o, b, d, g⟩ := x
    dsimp only at d0 d1 d2 d3 d4 d5 d6 d7 d8 HOne
    have HF1 := Lib.hid (Fr.alloc (fun _ => False) w (.cells #[.int .i64 t, .int .i64 i, .int .i64 p, .int .i64 rv, .string s, .string o, .int .i64 b, .int .i64 d, .bool g] TSp))
    have HO1 := HOne _ (H0.out.fr HF1.out (fun _ _ h => h))
    clear hc1 HOne
    go_wp2_with fail
    refine HO1.out.mono ?_
    rintro e w2 ⟨rfl, hf2⟩
    have hf02 := HF1.out.trans hf2 (T := fun _ => False) (fun _ _ h => h) (fun _ _ h => h)
    have HDr := Lib.hid (Drop_nob (some ⟨B, 0, none⟩) (some ⟨b1, o1, none⟩) c [] w2 (.inr ⟨B, rfl, H0.out.fr hf02 (fun _ _ h => h)⟩) (by have := (HS.out.take (k := 0) (Nat.zero_le _)).fr hf02 (fun _ _ h => h); simpa using this) (by simp))
    have HF2 := Lib.hid hf02
    have HE : Hid (((xs.length : Int) == 0) = false) := by show _ = _; rw [beq_eq_false_iff_ne]; omega
    clear hf2 hf02
    go_wp2_with fail
    refine HDr.out.mono ?_
    rintro e w3 ⟨rfl, hf3⟩
    have HF3 := Lib.hid (HF2.out.trans hf3 (T := fun _ => False) (fun _ _ h => h) (fun _ _ h => h))
    clear hf3
    go_wp2_with fail
    go_ret
    exact ⟨by rw [HE.out]; rfl, HF3.out⟩
  · have HZ : Hid (xs.length = 0) := by show _ = _; omega
    rw [HZ.out]
    go_wp2_with fail
    go_ret
    exact ⟨by rw [HZ.out]; rfl, Fr.refl _ _⟩
theorem Add_nob (q : Option Addr) (A : Option Addr) (c : Nat) (xs : List Sp) (w : World) (h : Nob w q) (hS : Sl w 9 A xs.length c (xs.flatMap Sp.cs)) (hwf : ∀ x ∈ xs, wfI x.t) :
    Calls Try.prog 22 #[.pointer q, .slice A xs.length c] w fun e w' => e = .returned (.bool ((xs.length : Int) == 0)) ∧ Fr (fun _ => False) w w' := by
  rcases h with rfl | ⟨B, rfl, h⟩
  · exact (Add_none A xs.length c w).mono (fun e w' h => ⟨h.1, h.2 ▸ Fr.refl _ _⟩)
  · exact Add_zero B A c xs w h hS hwf
end Quota
end Go.Proofs.Ytolpdgaomlhgdaa
