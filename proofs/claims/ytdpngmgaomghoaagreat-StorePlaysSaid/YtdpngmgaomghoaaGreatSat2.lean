/- Numbers that are held at their ends, and the document's: sums, differences, when a span ends. -/
import Derived.Test.YtdpngmgaomghoaaGreatKeys
import Derived.Test.YtdpngmgaomghoaaGreatRngs
namespace Go.Proofs.YtdpngmgaomghoaaGreat
open Tryz
set_option maxRecDepth 100000
set_option maxHeartbeats 400000
open Go.RowKit
namespace Sat2
attribute [local go_sem] Eng.ev Eng.getO_cons Eng.getO_nil
def cl (n : Int) : Int := max (-9223372036854775808) (min n 9223372036854775807)
def kd (d : Int) : Int := max 0 (min d 4611686018427387904)
def endS (x : Sn) : Int := cl (x.b + kd x.d)
def keptS (x : Sn) : Sn := { x with d := kd x.d }
theorem cl_in (n : Int) : in64 (cl n) := by unfold in64 cl; omega
theorem kd_in (n : Int) : 0 ≤ kd n ∧ kd n ≤ 4611686018427387904 := by unfold kd; omega
theorem ret_cl {m n : Int} (h : m = cl n) : Ending.returned (.int .i64 m) = .returned (.int .i64 (cl n)) := by rw [h]
theorem wr_up {s : Int} (h1 : 9223372036854775807 < s) (h2 : s ≤ 18446744073709551616) : wrap64 s = s - 18446744073709551616 := by unfold wrap64; omega
theorem wr_dn {s : Int} (h1 : s < -9223372036854775808) (h2 : -18446744073709551616 ≤ s) : wrap64 s = s + 18446744073709551616 := by unfold wrap64; omega
theorem wr_in {s : Int} (h1 : -9223372036854775808 ≤ s) (h2 : s ≤ 9223372036854775807) : wrap64 s = s := by unfold wrap64; omega
theorem Add {a b : Int} (ha : in64 a) (hb : in64 b) (w : World) : Calls prog 210 #[.int .i64 a, .int .i64 b] w fun e w' => e = .returned (.int .i64 (cl (a + b))) ∧ w = w' := by
 obtain ⟨a1, a2⟩ := ha
 obtain ⟨b1, b2⟩ := hb
 by_cases hu : 9223372036854775807 < a + b
 ·have hw := wr_up hu (by omega)
  have HE : Hid ((9223372036854775807 : Int) = cl (a + b)) := by show _ = _; unfold cl; omega
  have t1 : decide (0 < b) = true := by simp; omega
  have t2 : decide (wrap64 (a + b) < a) = true := by rw [hw]; simp; omega
  clear hu a1 a2 b1 b2 hw
  go_enter func210, ntmps210
  go_wp2_with fail
  go_ret
  exact ⟨ret_cl HE.out, rfl⟩
 ·by_cases hd : a + b < -9223372036854775808
  ·have hw := wr_dn hd (by omega)
   have HE : Hid ((-9223372036854775808 : Int) = cl (a + b)) := by show _ = _; unfold cl; omega
   have t1 : decide (0 < b) = false := by simp; omega
   have t2 : decide (b < 0) = true := by simp; omega
   have t3 : decide (a < wrap64 (a + b)) = true := by rw [hw]; simp; omega
   clear hu hd a1 a2 b1 b2 hw
   go_enter func210, ntmps210
   go_wp2_with fail
   go_ret
   exact ⟨ret_cl HE.out, rfl⟩
  ·have hw := wr_in (s := a + b) (by omega) (by omega)
   have HE : Hid (wrap64 (a + b) = cl (a + b)) := by show _ = _; rw [hw]; unfold cl; omega
   by_cases p : 0 < b
   ·have t1 : decide (0 < b) = true := by simpa using p
    have t2 : decide (wrap64 (a + b) < a) = false := by rw [hw]; simp; omega
    have t3 : decide (b < 0) = false := by simp; omega
    clear hu hd a1 a2 b1 b2 hw p
    go_enter func210, ntmps210
    go_wp2_with fail
    go_ret
    exact ⟨ret_cl HE.out, rfl⟩
   ·have t1 : decide (0 < b) = false := by simpa using p
    by_cases q : b < 0
    ·have t2 : decide (b < 0) = true := by simpa using q
     have t3 : decide (a < wrap64 (a + b)) = false := by rw [hw]; simp; omega
     clear hu hd a1 a2 b1 b2 hw p q
     go_enter func210, ntmps210
     go_wp2_with fail
     go_ret
     exact ⟨ret_cl HE.out, rfl⟩
    ·have t2 : decide (b < 0) = false := by simpa using q
     clear hu hd a1 a2 b1 b2 hw p q
     go_enter func210, ntmps210
     go_wp2_with fail
     go_ret
     exact ⟨ret_cl HE.out, rfl⟩
theorem Sub {a b : Int} (ha : in64 a) (hb : in64 b) (w : World) : Calls prog 183 #[.int .i64 a, .int .i64 b] w fun e w' => e = .returned (.int .i64 (cl (a - b))) ∧ w = w' := by
 obtain ⟨a1, a2⟩ := ha
 obtain ⟨b1, b2⟩ := hb
 by_cases hu : 9223372036854775807 < a - b
 ·have hw := wr_up hu (by omega)
  have HE : Hid ((9223372036854775807 : Int) = cl (a - b)) := by show _ = _; unfold cl; omega
  have t1 : decide (b < 0) = true := by simp; omega
  have t2 : decide (wrap64 (a - b) < a) = true := by rw [hw]; simp; omega
  clear hu a1 a2 b1 b2 hw
  go_enter func183, ntmps183
  go_wp2_with fail
  go_ret
  exact ⟨ret_cl HE.out, rfl⟩
 ·by_cases hd : a - b < -9223372036854775808
  ·have hw := wr_dn hd (by omega)
   have HE : Hid ((-9223372036854775808 : Int) = cl (a - b)) := by show _ = _; unfold cl; omega
   have t1 : decide (b < 0) = false := by simp; omega
   have t2 : decide (0 < b) = true := by simp; omega
   have t3 : decide (a < wrap64 (a - b)) = true := by rw [hw]; simp; omega
   clear hu hd a1 a2 b1 b2 hw
   go_enter func183, ntmps183
   go_wp2_with fail
   go_ret
   exact ⟨ret_cl HE.out, rfl⟩
  ·have hw := wr_in (s := a - b) (by omega) (by omega)
   have HE : Hid (wrap64 (a - b) = cl (a - b)) := by show _ = _; rw [hw]; unfold cl; omega
   by_cases p : b < 0
   ·have t1 : decide (b < 0) = true := by simpa using p
    have t2 : decide (wrap64 (a - b) < a) = false := by rw [hw]; simp; omega
    have t3 : decide (0 < b) = false := by simp; omega
    clear hu hd a1 a2 b1 b2 hw p
    go_enter func183, ntmps183
    go_wp2_with fail
    go_ret
    exact ⟨ret_cl HE.out, rfl⟩
   ·have t1 : decide (b < 0) = false := by simpa using p
    by_cases q : 0 < b
    ·have t2 : decide (0 < b) = true := by simpa using q
     have t3 : decide (a < wrap64 (a - b)) = false := by rw [hw]; simp; omega
     clear hu hd a1 a2 b1 b2 hw p q
     go_enter func183, ntmps183
     go_wp2_with fail
     go_ret
     exact ⟨ret_cl HE.out, rfl⟩
    ·have t2 : decide (0 < b) = false := by simpa using q
     clear hu hd a1 a2 b1 b2 hw p q
     go_enter func183, ntmps183
     go_wp2_with fail
     go_ret
     exact ⟨ret_cl HE.out, rfl⟩
theorem RefAdd {a b : Int} (ha : in64 a) (hb : in64 b) (w : World) : Calls prog 184 #[.int .i64 a, .int .i64 b] w fun e w' => e = .returned (.int .i64 (cl (a + b))) ∧ w = w' := by
 obtain ⟨a1, a2⟩ := ha
 obtain ⟨b1, b2⟩ := hb
 by_cases p : 0 < b
 ·have t1 : decide (0 < b) = true := by simpa using p
  have tn : decide (b < 0) = false := by simp; omega
  have hm := wr_in (s := 9223372036854775807 - b) (by omega) (by omega)
  by_cases hu : 9223372036854775807 - b < a
  ·have t2 : decide (wrap64 (9223372036854775807 - b) < a) = true := by rw [hm]; simpa using hu
   have HE : Hid ((9223372036854775807 : Int) = cl (a + b)) := by show _ = _; unfold cl; omega
   clear p hu a1 a2 b1 b2 hm
   go_enter func184, ntmps184
   go_wp2_with fail
   go_ret
   exact ⟨ret_cl HE.out, rfl⟩
  ·have t2 : decide (wrap64 (9223372036854775807 - b) < a) = false := by rw [hm]; simpa using hu
   have hw := wr_in (s := a + b) (by omega) (by omega)
   have HE : Hid (wrap64 (a + b) = cl (a + b)) := by show _ = _; rw [hw]; unfold cl; omega
   clear p hu a1 a2 b1 b2 hm hw
   go_enter func184, ntmps184
   go_wp2_with fail
   go_ret
   exact ⟨ret_cl HE.out, rfl⟩
 ·have t1 : decide (0 < b) = false := by simpa using p
  by_cases q : b < 0
  ·have tn : decide (b < 0) = true := by simpa using q
   have hm := wr_in (s := -9223372036854775808 - b) (by omega) (by omega)
   by_cases hu : a < -9223372036854775808 - b
   ·have t2 : decide (a < wrap64 (-9223372036854775808 - b)) = true := by rw [hm]; simpa using hu
    have HE : Hid ((-9223372036854775808 : Int) = cl (a + b)) := by show _ = _; unfold cl; omega
    clear p q hu a1 a2 b1 b2 hm
    go_enter func184, ntmps184
    go_wp2_with fail
    go_ret
    exact ⟨ret_cl HE.out, rfl⟩
   ·have t2 : decide (a < wrap64 (-9223372036854775808 - b)) = false := by rw [hm]; simpa using hu
    have hw := wr_in (s := a + b) (by omega) (by omega)
    have HE : Hid (wrap64 (a + b) = cl (a + b)) := by show _ = _; rw [hw]; unfold cl; omega
    clear p q hu a1 a2 b1 b2 hm hw
    go_enter func184, ntmps184
    go_wp2_with fail
    go_ret
    exact ⟨ret_cl HE.out, rfl⟩
  ·have tn : decide (b < 0) = false := by simpa using q
   have hw := wr_in (s := a + b) (by omega) (by omega)
   have HE : Hid (wrap64 (a + b) = cl (a + b)) := by show _ = _; rw [hw]; unfold cl; omega
   clear p q a1 a2 b1 b2 hw
   go_enter func184, ntmps184
   go_wp2_with fail
   go_ret
   exact ⟨ret_cl HE.out, rfl⟩
theorem RefSub {a b : Int} (ha : in64 a) (hb : in64 b) (w : World) : Calls prog 112 #[.int .i64 a, .int .i64 b] w fun e w' => e = .returned (.int .i64 (cl (a - b))) ∧ w = w' := by
 obtain ⟨a1, a2⟩ := ha
 obtain ⟨b1, b2⟩ := hb
 by_cases p : b < 0
 ·have t1 : decide (b < 0) = true := by simpa using p
  have tn : decide (0 < b) = false := by simp; omega
  have hm := wr_in (s := 9223372036854775807 + b) (by omega) (by omega)
  by_cases hu : 9223372036854775807 + b < a
  ·have t2 : decide (wrap64 (9223372036854775807 + b) < a) = true := by rw [hm]; simpa using hu
   have HE : Hid ((9223372036854775807 : Int) = cl (a - b)) := by show _ = _; unfold cl; omega
   clear p hu a1 a2 b1 b2 hm
   go_enter func112, ntmps112
   go_wp2_with fail
   go_ret
   exact ⟨ret_cl HE.out, rfl⟩
  ·have t2 : decide (wrap64 (9223372036854775807 + b) < a) = false := by rw [hm]; simpa using hu
   have hw := wr_in (s := a - b) (by omega) (by omega)
   have HE : Hid (wrap64 (a - b) = cl (a - b)) := by show _ = _; rw [hw]; unfold cl; omega
   clear p hu a1 a2 b1 b2 hm hw
   go_enter func112, ntmps112
   go_wp2_with fail
   go_ret
   exact ⟨ret_cl HE.out, rfl⟩
 ·have t1 : decide (b < 0) = false := by simpa using p
  by_cases q : 0 < b
  ·have tn : decide (0 < b) = true := by simpa using q
   have hm := wr_in (s := -9223372036854775808 + b) (by omega) (by omega)
   by_cases hu : a < -9223372036854775808 + b
   ·have t2 : decide (a < wrap64 (-9223372036854775808 + b)) = true := by rw [hm]; simpa using hu
    have HE : Hid ((-9223372036854775808 : Int) = cl (a - b)) := by show _ = _; unfold cl; omega
    clear p q hu a1 a2 b1 b2 hm
    go_enter func112, ntmps112
    go_wp2_with fail
    go_ret
    exact ⟨ret_cl HE.out, rfl⟩
   ·have t2 : decide (a < wrap64 (-9223372036854775808 + b)) = false := by rw [hm]; simpa using hu
    have hw := wr_in (s := a - b) (by omega) (by omega)
    have HE : Hid (wrap64 (a - b) = cl (a - b)) := by show _ = _; rw [hw]; unfold cl; omega
    clear p q hu a1 a2 b1 b2 hm hw
    go_enter func112, ntmps112
    go_wp2_with fail
    go_ret
    exact ⟨ret_cl HE.out, rfl⟩
  ·have tn : decide (0 < b) = false := by simpa using q
   have hw := wr_in (s := a - b) (by omega) (by omega)
   have HE : Hid (wrap64 (a - b) = cl (a - b)) := by show _ = _; rw [hw]; unfold cl; omega
   clear p q a1 a2 b1 b2 hw
   go_enter func112, ntmps112
   go_wp2_with fail
   go_ret
   exact ⟨ret_cl HE.out, rfl⟩
theorem Clamp (n : Int) (w : World) : Calls prog 213 #[.int .i64 n, .int .i64 0, .int .i64 4611686018427387904] w fun e w' => e = .returned (.int .i64 (kd n)) ∧ w = w' := by
 have HE : Hid (∀ m : Int, m = max 0 (min n 4611686018427387904) → Ending.returned (.int .i64 m) = .returned (.int .i64 (kd n))) := fun m hm => by rw [hm]; rfl
 go_enter func213, ntmps213
 go_wp2
 all_goals
  go_ret
  exact ⟨HE.out _ (by omega), rfl⟩
theorem RefClamp (n : Int) (w : World) : Calls prog 101 #[.int .i64 n, .int .i64 0, .int .i64 4611686018427387904] w fun e w' => e = .returned (.int .i64 (kd n)) ∧ w = w' := by
 have HE : Hid (∀ m : Int, m = max 0 (min n 4611686018427387904) → Ending.returned (.int .i64 m) = .returned (.int .i64 (kd n))) := fun m hm => by rw [hm]; rfl
 by_cases h2 : n < 0
 ·go_enter func101, ntmps101
  go_wp2
  go_ret
  exact ⟨HE.out _ (by omega), rfl⟩
 ·by_cases h3 : 4611686018427387904 < n
  all_goals
   go_enter func101, ntmps101
   go_wp2
   go_ret
   exact ⟨HE.out _ (by omega), rfl⟩
theorem run_dur (t i p r : Int) (s o : ByteArray) (u d : Int) (g : Bool) (w : World) : (Instr.field 29 (.agg #[.int .i64 t, .int .i64 i, .int .i64 p, .int .i64 r, .string s, .string o, .int .i64 u, .int .i64 d, .bool g]) 7).run prog w = .ok (.int .i64 d) w := by kernel_rfl
abbrev TSn : TypeId := 29
theorem Kept (x : Sn) (w : World) : Calls prog 147 #[x.v] w fun e w' => e = .returned (keptS x).v ∧ Fr (fun _ => False) w w' := by
 obtain ⟨t, i, p, r, s, o, u, d, g⟩ := x
 have HC := Lib.hid (fun W => Clamp d W)
 go_enter func147, ntmps147
 go_wp2_with fail
 refine (HC.out _).mono ?_
 rintro e w1 ⟨rfl, rfl⟩
 go_wp2_with fail
 have hh := heap_new (w.alloc (.cells (Sn.arr ⟨t, i, p, r, s, o, u, kd d, g⟩) TSn)) (.cells (Sn.arr ⟨t, i, p, r, s, o, u, kd d, g⟩) TSn)
 rw [World.size_alloc] at hh
 exact bodyPost_ret (results_cell_row rfl _ _ (w.heap.size + 1) TSn _ (0, 0) _ rfl hh underlying29 rfl (by kernel_rfl)) rfl ⟨rfl, (Fr.alloc _ _ _).trans (Fr.alloc (fun _ => False) _ _) (fun _ _ h => h) (fun _ _ h => h)⟩
theorem Keptc (t i p r : Int) (s o : ByteArray) (u d : Int) (g : Bool) (w : World) : Calls prog 147 #[.agg #[.int .i64 t, .int .i64 i, .int .i64 p, .int .i64 r, .string s, .string o, .int .i64 u, .int .i64 d, .bool g]] w fun e w' => e = .returned (.agg #[.int .i64 t, .int .i64 i, .int .i64 p, .int .i64 r, .string s, .string o, .int .i64 u, .int .i64 (kd d), .bool g]) ∧ Fr (fun _ => False) w w' := Kept ⟨t, i, p, r, s, o, u, d, g⟩ w
theorem e1 {ops : Array Oper} (hops : Eng.fnOps Tryz.f143 1 = ops) (a0 : Act) (Q : Exit → Act → World → Prop) (w0 w : World) (Bp : Nat) (t i p r : Int) (s o : ByteArray) (u d : Int) (g : Bool) (hst : Bk w Bp #[.int .i64 t, .int .i64 i, .int .i64 p, .int .i64 r, .string s, .string o, .int .i64 u, .int .i64 d, .bool g] TSn ∧ Fr (fun _ => False) w0 w) (hb_ : Hid (in64 u)) (hd_ : Hid (in64 (kd d)))
  (hn : a0.tmps.size = 9) (h_1 : a0.tmps.getD 1 undef = .pointer (some ⟨Bp, 0, none⟩))
  (hpost : ∀ (x : Nat → Value) (w' : World), x 2 = .int .i64 (cl (u + kd d)) → Fr (fun _ => False) w0 w' → Q .normal (Eng.setAll a0 [2, 3, 4, 5, 6, 7, 8] x) w') :
  (Code.region 1 ops true).wp prog Q a0 w := by
 simp only [Eng.fnOps, Eng.regOps, Tryz.f143, Option.bind_some, Option.getD_some, Nat.reduceEqDiff, ↓reduceIte] at hops
 subst hops
 have hfd := fun W : World => run_dur t i p r s o u (kd d) g W
 have HSt := Lib.hid ((⟨hst.1.fr (Fr.drew (fun _ => False) w) (fun _ _ h => h), hst.2.trans (Fr.drew (fun _ => False) w) (T := fun _ => False) (fun _ _ h => h) (fun _ _ h => h)⟩ : _ ∧ _))
 refine Eng.regionT (.take 0 (.take 1 (.take 2 (.alt 3 (.take 4 (.alt 5 (.take 6 (.done)) (.stop))) (.stop))))) (fun w' => w'.cell? ⟨Bp, 0, none⟩ = some (.int .i64 t) ∧ w'.cell? ⟨Bp, 1, none⟩ = some (.int .i64 i) ∧ w'.cell? ⟨Bp, 2, none⟩ = some (.int .i64 p) ∧ w'.cell? ⟨Bp, 3, none⟩ = some (.int .i64 r) ∧ w'.cell? ⟨Bp, 4, none⟩ = some (.string s) ∧ w'.cell? ⟨Bp, 5, none⟩ = some (.string o) ∧ w'.cell? ⟨Bp, 6, none⟩ = some (.int .i64 u) ∧ w'.cell? ⟨Bp, 7, none⟩ = some (.int .i64 d) ∧ w'.cell? ⟨Bp, 8, none⟩ = some (.bool g)) (by kernel_rfl) 9 hn (by kernel_rfl) (by kernel_rfl) (by kernel_rfl) (⟨HSt.out.1.cell 0, HSt.out.1.cell 1, HSt.out.1.cell 2, HSt.out.1.cell 3, HSt.out.1.cell 4, HSt.out.1.cell 5, HSt.out.1.cell 6, HSt.out.1.cell 7, HSt.out.1.cell 8⟩) (fun a b ha hb => ?_)
 subst ha
 have hb1 : b 1 = .pointer (some ⟨Bp, 0, none⟩) := (hb 1).symm.trans h_1
 clear hb h_1
 have HP := Lib.hid hpost; have HN := Lib.hid hn
 clear hpost hn
 iterate 3 (refine Eng.TW.tk ?_)
 refine Eng.TW.call rfl rfl (by decide) (by kernel_rfl) ?_ (Keptc t i p r s o u d g _) ?_
 ·go_simp
 rintro e w2 ⟨rfl, hf⟩
 have HSt2 := Lib.hid ((⟨HSt.out.1.fr hf (fun _ _ h => h), HSt.out.2.trans hf (T := fun _ => False) (fun _ _ h => h) (fun _ _ h => h)⟩ : _ ∧ _))
 have hSS : w2.cell? ⟨Bp, 0, none⟩ = some (.int .i64 t) ∧ w2.cell? ⟨Bp, 1, none⟩ = some (.int .i64 i) ∧ w2.cell? ⟨Bp, 2, none⟩ = some (.int .i64 p) ∧ w2.cell? ⟨Bp, 3, none⟩ = some (.int .i64 r) ∧ w2.cell? ⟨Bp, 4, none⟩ = some (.string s) ∧ w2.cell? ⟨Bp, 5, none⟩ = some (.string o) ∧ w2.cell? ⟨Bp, 6, none⟩ = some (.int .i64 u) ∧ w2.cell? ⟨Bp, 7, none⟩ = some (.int .i64 d) ∧ w2.cell? ⟨Bp, 8, none⟩ = some (.bool g) := ⟨HSt2.out.1.cell 0, HSt2.out.1.cell 1, HSt2.out.1.cell 2, HSt2.out.1.cell 3, HSt2.out.1.cell 4, HSt2.out.1.cell 5, HSt2.out.1.cell 6, HSt2.out.1.cell 7, HSt2.out.1.cell 8⟩
 clear hf
 refine ⟨_, rfl, hSS, ?_⟩
 refine Eng.TW.tk ?_
 refine Eng.TW.call rfl rfl (by decide) (by kernel_rfl) ?_ (Add hb_.out hd_.out _) ?_
 ·go_simp
 rintro e w_3 ⟨rfl, rfl⟩
 refine ⟨_, rfl, hSS, ?_⟩
 refine Eng.TW.tk ?_
 refine Eng.TW.end_ [2, 3, 4, 5, 6, 7, 8] HN.out (by kernel_rfl) (by kernel_rfl) ?_
 exact HP.out _ _ rfl HSt2.out.2
theorem re1 {ops : Array Oper} (hops : Eng.fnOps Tryz.f114 1 = ops) (a0 : Act) (Q : Exit → Act → World → Prop) (w0 w : World) (Bp : Nat) (t i p r : Int) (s o : ByteArray) (u d : Int) (g : Bool) (hst : Bk w Bp #[.int .i64 t, .int .i64 i, .int .i64 p, .int .i64 r, .string s, .string o, .int .i64 u, .int .i64 d, .bool g] TSn ∧ Fr (fun _ => False) w0 w) (hb_ : Hid (in64 u)) (hd_ : Hid (in64 (kd d)))
  (hn : a0.tmps.size = 9) (h_1 : a0.tmps.getD 1 undef = .pointer (some ⟨Bp, 0, none⟩))
  (hpost : ∀ (x : Nat → Value) (w' : World), x 2 = .int .i64 (cl (u + kd d)) → Fr (fun _ => False) w0 w' → Q .normal (Eng.setAll a0 [2, 3, 4, 5, 6, 7, 8] x) w') :
  (Code.region 1 ops true).wp prog Q a0 w := by
 simp only [Eng.fnOps, Eng.regOps, Tryz.f114, Option.bind_some, Option.getD_some, Nat.reduceEqDiff, ↓reduceIte] at hops
 subst hops
 have HSt := Lib.hid ((⟨hst.1.fr (Fr.drew (fun _ => False) w) (fun _ _ h => h), hst.2.trans (Fr.drew (fun _ => False) w) (T := fun _ => False) (fun _ _ h => h) (fun _ _ h => h)⟩ : _ ∧ _))
 have hSS : w.drew.cell? ⟨Bp, 0, none⟩ = some (.int .i64 t) ∧ w.drew.cell? ⟨Bp, 1, none⟩ = some (.int .i64 i) ∧ w.drew.cell? ⟨Bp, 2, none⟩ = some (.int .i64 p) ∧ w.drew.cell? ⟨Bp, 3, none⟩ = some (.int .i64 r) ∧ w.drew.cell? ⟨Bp, 4, none⟩ = some (.string s) ∧ w.drew.cell? ⟨Bp, 5, none⟩ = some (.string o) ∧ w.drew.cell? ⟨Bp, 6, none⟩ = some (.int .i64 u) ∧ w.drew.cell? ⟨Bp, 7, none⟩ = some (.int .i64 d) ∧ w.drew.cell? ⟨Bp, 8, none⟩ = some (.bool g) := ⟨HSt.out.1.cell 0, HSt.out.1.cell 1, HSt.out.1.cell 2, HSt.out.1.cell 3, HSt.out.1.cell 4, HSt.out.1.cell 5, HSt.out.1.cell 6, HSt.out.1.cell 7, HSt.out.1.cell 8⟩
 refine Eng.regionT (.take 0 (.take 1 (.take 2 (.take 3 (.alt 4 (.alt 5 (.take 6 (.done)) (.stop)) (.stop)))))) (fun w' => w'.cell? ⟨Bp, 0, none⟩ = some (.int .i64 t) ∧ w'.cell? ⟨Bp, 1, none⟩ = some (.int .i64 i) ∧ w'.cell? ⟨Bp, 2, none⟩ = some (.int .i64 p) ∧ w'.cell? ⟨Bp, 3, none⟩ = some (.int .i64 r) ∧ w'.cell? ⟨Bp, 4, none⟩ = some (.string s) ∧ w'.cell? ⟨Bp, 5, none⟩ = some (.string o) ∧ w'.cell? ⟨Bp, 6, none⟩ = some (.int .i64 u) ∧ w'.cell? ⟨Bp, 7, none⟩ = some (.int .i64 d) ∧ w'.cell? ⟨Bp, 8, none⟩ = some (.bool g)) (by kernel_rfl) 9 hn (by kernel_rfl) (by kernel_rfl) (by kernel_rfl) (hSS) (fun a b ha hb => ?_)
 subst ha
 have hb1 : b 1 = .pointer (some ⟨Bp, 0, none⟩) := (hb 1).symm.trans h_1
 clear hb h_1
 have HP := Lib.hid hpost; have HN := Lib.hid hn
 clear hpost hn
 iterate 4 (refine Eng.TW.tk ?_)
 refine Eng.TW.call rfl rfl (by decide) (by kernel_rfl) ?_ (RefClamp d _) ?_
 ·go_simp
 rintro e w_2 ⟨rfl, rfl⟩
 refine ⟨_, rfl, hSS, ?_⟩
 refine Eng.TW.call rfl rfl (by decide) (by kernel_rfl) ?_ (RefAdd hb_.out hd_.out _) ?_
 ·go_simp
 rintro e w_3 ⟨rfl, rfl⟩
 refine ⟨_, rfl, hSS, ?_⟩
 refine Eng.TW.tk ?_
 refine Eng.TW.end_ [2, 3, 4, 5, 6, 7, 8] HN.out (by kernel_rfl) (by kernel_rfl) ?_
 exact HP.out _ _ rfl HSt.out.2
theorem End (x : Sn) (hb : in64 x.b) (w : World) : Calls prog 143 #[x.v] w fun e w' => e = .returned (.int .i64 (endS x)) ∧ Fr (fun _ => False) w w' := by
 obtain ⟨t, i, p, r, s, o, u, d, g⟩ := x
 have HB := Lib.hid (Bk.new w #[.int .i64 t, .int .i64 i, .int .i64 p, .int .i64 r, .string s, .string o, .int .i64 u, .int .i64 d, .bool g] TSn)
 have H1 := Lib.hid (show in64 u from hb)
 have H2 : Hid (in64 (kd d)) := by have := kd_in d; show in64 _; unfold in64; omega
 clear hb
 go_enter func143, ntmps143
 go_upto_region 1 with (fail)
 refine e1 (by kernel_rfl) _ _ w _ w.heap.size t i p r s o u d g ⟨HB.out, Fr.alloc _ _ _⟩ H1 H2 rfl rfl ?_
 intro x w' e2 hf
 simp only [Eng.setAll, Act.put, List.setIfInBounds_toArray, List.set_cons_succ, List.set_cons_zero]
 rw [e2]
 have HF := Lib.hid hf
 clear e2 hf
 go_wp2_with fail
 go_ret
 exact ⟨rfl, HF.out⟩
theorem RefEnd (x : Sn) (hb : in64 x.b) (w : World) : Calls prog 114 #[x.v] w fun e w' => e = .returned (.int .i64 (endS x)) ∧ Fr (fun _ => False) w w' := by
 obtain ⟨t, i, p, r, s, o, u, d, g⟩ := x
 have HB := Lib.hid (Bk.new w #[.int .i64 t, .int .i64 i, .int .i64 p, .int .i64 r, .string s, .string o, .int .i64 u, .int .i64 d, .bool g] TSn)
 have H1 := Lib.hid (show in64 u from hb)
 have H2 : Hid (in64 (kd d)) := by have := kd_in d; show in64 _; unfold in64; omega
 clear hb
 go_enter func114, ntmps114
 go_upto_region 1 with (fail)
 refine re1 (by kernel_rfl) _ _ w _ w.heap.size t i p r s o u d g ⟨HB.out, Fr.alloc _ _ _⟩ H1 H2 rfl rfl ?_
 intro x w' e2 hf
 simp only [Eng.setAll, Act.put, List.setIfInBounds_toArray, List.set_cons_succ, List.set_cons_zero]
 rw [e2]
 have HF := Lib.hid hf
 clear e2 hf
 go_wp2_with fail
 go_ret
 exact ⟨rfl, HF.out⟩
end Sat2
end Go.Proofs.YtdpngmgaomghoaaGreat
