/- What is past: the index as an object in memory. -/
import Derived.Test.YtdpngmgaomghoaaGreatExpP
import Derived.Test.YtdpngmgaomghoaaGreatAvlSI2
import Derived.Test.YtdpngmgaomghoaaGreatAvlSE2
import Derived.Test.YtdpngmgaomghoaaGreatSat2
import Derived.Deep.CutBlock
import Derived.Sort.AtCallIn
import Derived.Maps.OwnIn
namespace Go.Proofs.YtdpngmgaomghoaaGreat
open Tryz
open Go.RowKit
namespace Exp
open KeyP ExpP
attribute [local go_sem] Eng.ev Eng.getO_cons Eng.getO_nil
section
variable {w w' : World} {B : Nat} {M : List It} {K : List (ByteArray × Unit)} {r1 r2 : Option Addr} {F1 F2 : List Nat}
end
theorem KeyEnd' {k : ByteArray} {v : Int} (hk : k.size = 16) (hv : wf64 v) (w : World) : Calls prog 209 #[.int .i64 v, .string k] w fun e w' => e = .returned (.string (ek (k, v))) ∧ Fr (fun _ => False) w w' :=
 (Key.End hv k (by omega) w).mono (fun _ _ ⟨h, hb⟩ => ⟨h, (Fr.of_below hb).mono (fun i hi h => by omega)⟩)
end Exp
namespace Exp
open KeyP ExpP
end Exp
open Go.RowKit Go.Shelf
attribute [local go_sem] Oper.semAt_some
namespace Exp
open KeyP ExpP
abbrev TSs : TypeId := 60
abbrev TStr : TypeId := 9
abbrev TI : TypeId := 3
theorem infoS : (prog.info? 9).map (fun i => (i.zero, i.size, i.bytes)) = some (some (.string ByteArray.empty), 1, 16) := by kernel_rfl
abbrev strs (l : List ByteArray) : List Value := l.map Value.string
structure BI (n0 lo hi Bt Bo : Nat) (time : Int) (KL : List It) (w0 W : World) (m : Nat) : Prop where
 c : Coll n0 lo hi Bo TSs TStr 1 w0 W m (strs ((KL.take m).map (·.1)))
 t : Bk W Bt #[.int .i64 time] TI
 a : ∀ p ∈ KL.take m, p.2 < time
theorem BI.abide {n0 lo hi Bt Bo : Nat} {time : Int} {KL : List It} {w0 A B : World} {m : Nat} (h : BI n0 lo hi Bt Bo time KL w0 A m) (hf : Fr (Rg lo hi) A B) (hn : n0 ≤ lo) (hb : ¬ Rg lo hi Bo) (ht : ¬ Rg lo hi Bt) (hs : n0 ≤ A.heap.size) : BI n0 lo hi Bt Bo time KL w0 B m :=
 ⟨h.c.abide hf hn hb hs, h.t.fr hf (fun b hb => by simp at hb; subst hb; exact ht), h.a⟩
theorem take_below {time : Int} {KL : List It} {m : Nat} (h : ∀ p ∈ KL.take m, p.2 < time) (hm : m < KL.length) (hx : ¬ KL[m].2 < time) : KL.take m = below time KL := by
 unfold below
 induction KL generalizing m with
 | nil => simp at hm
 | cons a t ih =>
  cases m with
  | zero => simp only [List.getElem_cons_zero] at hx; rw [List.takeWhile_cons, if_neg (by simpa using hx)]; rfl
  | succ m =>
   rw [List.takeWhile_cons, if_pos (by simpa using h a (by simp)), List.take_succ_cons, ih (fun p hp => h p (by simp [hp])) (by simpa using hm) (by simpa using hx)]
theorem all_below {time : Int} {KL : List It} (h : ∀ p ∈ KL, p.2 < time) : KL = below time KL := by
 unfold below
 induction KL with
 | nil => rfl
 | cons a t ih => rw [List.takeWhile_cons, if_pos (by simpa using h a (by simp)), ← ih (fun p hp => h p (by simp [hp]))]
theorem SplitEk (p : It) (hp : gd p) (w : World) : Calls prog 178 #[.string (ek p)] w fun e w' => e = .returned (.tuple #[.int .i64 p.2, .string p.1, .bool true]) ∧ Fr (fun _ => False) w w' := by
 have h := Key.SplitEnd hp.2 p.1.data.toList (by rw [Array.length_toList]; exact hp.1) w
 rwa [ks_of] at h
def BelowPost (M : List It) (time : Int) (w : World) (e : Ending) (w' : World) : Prop := ∃ KL v, KL.Pairwise (fun p q => lt2 p q = true) ∧ (∀ p, p ∈ KL ↔ p ∈ M) ∧ e = .returned v ∧ w'.ownsRow w.heap.size TStr 1 v (below time KL).length (strs ((below time KL).map (·.1))) ∧ Below w.heap.size w w'
theorem All_any (B off : Nat) (w : World) : Calls prog 177 #[.pointer (some ⟨B, off, none⟩)] w fun e w' => e = .returned (.func (.func 229) #[] #[.pointer (some ⟨w.heap.size, 0, none⟩)]) ∧ w.alloc (.cells #[.pointer (some ⟨B, off, none⟩)] 274 (0, 0)) = w' := AvlSE.All _ w
end Exp
set_option maxRecDepth 100000
namespace Law16
open KeyP ExpP
theorem Horizon (a b : Int) (ha : in64 a) (hb : in64 b) (w : World) : Calls prog 113 #[.int .i64 a, .int .i64 b] w fun e w' => e = .returned (.int .i64 (Sat2.cl (a - max b 0))) ∧ w = w' := by
 have hm : in64 (max b 0) := by unfold in64 at *; omega
 have HS := Lib.hid (Sat2.Sub ha hm w)
 clear ha hb hm
 go_enter func113, ntmps113
 rcases Int.lt_trichotomy b 0 with hb | rfl | hb
 ·have h1 : max b 0 = 0 := by omega
  rw [h1] at HS ⊢
  go_wp2_with fail
  all_goals
   refine HS.out.mono ?_
   rintro e w1 ⟨rfl, rfl⟩
   go_wp2_with fail
   go_ret
   exact ⟨by rw [Int.sub_zero]; rfl, rfl⟩
 ·have h1 : max (0 : Int) 0 = 0 := by omega
  rw [h1] at HS ⊢
  go_wp2_with fail
  all_goals
   refine HS.out.mono ?_
   rintro e w1 ⟨rfl, rfl⟩
   go_wp2_with fail
   go_ret
   exact ⟨by rw [Int.sub_zero]; rfl, rfl⟩
 ·have h1 : max b 0 = b := by omega
  rw [h1] at HS ⊢
  go_wp2_with fail
  all_goals
   refine HS.out.mono ?_
   rintro e w1 ⟨rfl, rfl⟩
   go_wp2_with fail
   go_ret
   exact ⟨rfl, rfl⟩
theorem RefHorizon (a b : Int) (ha : in64 a) (hb : in64 b) (w : World) : Calls prog 48 #[.int .i64 a, .int .i64 b] w fun e w' => e = .returned (.int .i64 (Sat2.cl (a - max b 0))) ∧ w = w' := by
 have hm : in64 (max b 0) := by unfold in64 at *; omega
 have HS := Lib.hid (Sat2.RefSub ha hm w)
 clear ha hb hm
 go_enter func48, ntmps48
 rcases Int.lt_trichotomy b 0 with hb | rfl | hb
 ·have h1 : max b 0 = 0 := by omega
  rw [h1] at HS ⊢
  go_wp2_with fail
  all_goals
   refine HS.out.mono ?_
   rintro e w1 ⟨rfl, rfl⟩
   go_wp2_with fail
   go_ret
   exact ⟨by rw [Int.sub_zero]; rfl, rfl⟩
 ·have h1 : max (0 : Int) 0 = 0 := by omega
  rw [h1] at HS ⊢
  go_wp2_with fail
  all_goals
   refine HS.out.mono ?_
   rintro e w1 ⟨rfl, rfl⟩
   go_wp2_with fail
   go_ret
   exact ⟨by rw [Int.sub_zero]; rfl, rfl⟩
 ·have h1 : max b 0 = b := by omega
  rw [h1] at HS ⊢
  go_wp2_with fail
  all_goals
   refine HS.out.mono ?_
   rintro e w1 ⟨rfl, rfl⟩
   go_wp2_with fail
   go_ret
   exact ⟨rfl, rfl⟩
theorem Past (x : Sn) (hb : in64 x.b) (h : Int) (w : World) : Calls prog 126 #[x.v, .int .i64 h] w fun e w' => e = .returned (.bool (decide (Sat2.endS x < h))) ∧ Fr (fun _ => False) w w' := by
 have HE := fun w => Lib.hid (Sat2.End x hb w)
 clear hb
 obtain ⟨t, i, p, r, s, o, u, d, g⟩ := x
 have HB := Lib.hid (Bk.new w #[.int .i64 t, .int .i64 i, .int .i64 p, .int .i64 r, .string s, .string o, .int .i64 u, .int .i64 d, .bool g] Sat2.TSn)
 have HF0 := Lib.hid (Fr.alloc (fun _ => False) w (.cells #[.int .i64 t, .int .i64 i, .int .i64 p, .int .i64 r, .string s, .string o, .int .i64 u, .int .i64 d, .bool g] Sat2.TSn))
 go_enter func126, ntmps126
 go_wp2_with fail
 refine (HE _).out.mono ?_
 rintro e w1 ⟨rfl, hf⟩
 have HF := Lib.hid (HF0.out.trans hf (fun _ _ h => h) (fun _ _ h => h))
 clear hf
 go_wp2_with fail
 go_ret
 exact ⟨rfl, HF.out⟩
theorem RefPast (x : Sn) (hb : in64 x.b) (h : Int) (w : World) : Calls prog 51 #[x.v, .int .i64 h] w fun e w' => e = .returned (.bool (decide (Sat2.endS x < h))) ∧ Fr (fun _ => False) w w' := by
 have HE := fun w => Lib.hid (Sat2.RefEnd x hb w)
 clear hb
 obtain ⟨t, i, p, r, s, o, u, d, g⟩ := x
 have HB := Lib.hid (Bk.new w #[.int .i64 t, .int .i64 i, .int .i64 p, .int .i64 r, .string s, .string o, .int .i64 u, .int .i64 d, .bool g] Sat2.TSn)
 have HF0 := Lib.hid (Fr.alloc (fun _ => False) w (.cells #[.int .i64 t, .int .i64 i, .int .i64 p, .int .i64 r, .string s, .string o, .int .i64 u, .int .i64 d, .bool g] Sat2.TSn))
 go_enter func51, ntmps51
 go_wp2_with fail
 refine (HE _).out.mono ?_
 rintro e w1 ⟨rfl, hf⟩
 have HF := Lib.hid (HF0.out.trans hf (fun _ _ h => h) (fun _ _ h => h))
 clear hf
 go_wp2_with fail
 go_ret
 exact ⟨rfl, HF.out⟩
end Law16
namespace Law16
open KeyP ExpP Exp
attribute [local go_sem] Eng.ev Eng.getO_cons Eng.getO_nil
end Law16
end Go.Proofs.YtdpngmgaomghoaaGreat
