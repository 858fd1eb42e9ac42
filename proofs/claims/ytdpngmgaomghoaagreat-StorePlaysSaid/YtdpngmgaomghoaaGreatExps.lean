/- What is past: the index as a part of another object in memory. -/
import Derived.Test.YtdpngmgaomghoaaGreatExp34
import Derived.Test.YtdpngmgaomghoaaGreatStoP
import Derived.Test.YtdpngmgaomghoaaGreatQuotas
namespace Go.Proofs.YtdpngmgaomghoaaGreat
open Tryz
set_option maxRecDepth 100000
set_option maxHeartbeats 400000
open Go.RowKit
namespace ExpO
open KeyP ExpP Exp
attribute [local go_sem] Eng.ev Eng.getO_cons Eng.getO_nil
def Oth (off : Nat) (c c' : Array Value) : Prop := c'.size = c.size ∧ ∀ i, (i < off ∨ off + 4 ≤ i) → c'[i]? = c[i]?
theorem Oth.refl (off : Nat) (c : Array Value) : Oth off c c := ⟨rfl, fun _ _ => rfl⟩
theorem Oth.trans {off : Nat} {a b c : Array Value} (h : Oth off a b) (k : Oth off b c) : Oth off a c := ⟨k.1.trans h.1, fun i hi => (k.2 i hi).trans (h.2 i hi)⟩
theorem Oth.set {off j : Nat} {c : Array Value} {u v : Value} (h1 : off ≤ j) (h2 : j + 1 < off + 4) : Oth off c ((c.setIfInBounds j u).setIfInBounds (j + 1) v) := by
 refine ⟨by simp, fun i hi => ?_⟩
 rw [Array.getElem?_setIfInBounds, if_neg (by omega), Array.getElem?_setIfInBounds, if_neg (by omega)]
structure IY (w : World) (B off : Nat) (c : Array Value) (T : TypeId) (M : List It) (K : List (ByteArray × Unit)) (r1 r2 : Option Addr) (F1 F2 : List Nat) : Prop where
 blk : w.heap[B]? = some (.cells c T (0, 0))
 h0 : c[off]? = some (.pointer r1)
 h1 : c[off + 1]? = some (.int .i64 M.length)
 h2 : c[off + 2]? = some (.pointer r2)
 h3 : c[off + 2 + 1]? = some (.int .i64 K.length)
 m1 : AvlSI.MapIn w r1 M F1
 m2 : AvlSE.MapIn w r2 K F2
 n1 : B ∉ F1
 n2 : B ∉ F2
 ap : ∀ x ∈ F1, x ∉ F2
section
variable {w w' : World} {B off : Nat} {c : Array Value} {T : TypeId} {M : List It} {K : List (ByteArray × Unit)} {r1 r2 : Option Addr} {F1 F2 : List Nat}
theorem IY.lt (h : IY w B off c T M K r1 r2 F1 F2) : ∀ b ∈ B :: (F1 ++ F2), b < w.heap.size := by
 intro b hb
 simp only [List.mem_cons, List.mem_append] at hb
 rcases hb with rfl | hb | hb
 ·exact lt_of_heap h.blk
 ·exact h.m1.lt b hb
 ·exact h.m2.lt b hb
theorem IY.fr {S : Nat → Prop} (h : IY w B off c T M K r1 r2 F1 F2) (hf : Fr S w w') (hs : ∀ b ∈ B :: (F1 ++ F2), ¬ S b) : IY w' B off c T M K r1 r2 F1 F2 :=
 ⟨(hf.block B (lt_of_heap h.blk) (hs B (by simp))).trans h.blk, h.h0, h.h1, h.h2, h.h3, h.m1.fr hf (fun b hb => hs b (by simp [hb])), h.m2.fr hf (fun b hb => hs b (by simp [hb])), h.n1, h.n2, h.ap⟩
theorem IY.cells (h : IY w B off c T M K r1 r2 F1 F2) : w.cell? ⟨B, off, none⟩ = some (.pointer r1) ∧ w.cell? ⟨B, off + 1, none⟩ = some (.int .i64 M.length) ∧ w.cell? ⟨B, off + 2, none⟩ = some (.pointer r2) ∧ w.cell? ⟨B, off + 2 + 1, none⟩ = some (.int .i64 K.length) :=
 ⟨(cell_of_block h.blk _).trans h.h0, (cell_of_block h.blk _).trans h.h1, (cell_of_block h.blk _).trans h.h2, (cell_of_block h.blk _).trans h.h3⟩
theorem in_size {c : Array Value} {i : Nat} {u : Value} (h : c[i]? = some u) : i < c.size := (Array.getElem?_eq_some_iff.1 h).1
theorem set_at {c : Array Value} {j : Nat} {u v : Value} (h : j + 1 < c.size) : ((c.setIfInBounds j u).setIfInBounds (j + 1) v)[j]? = some u ∧ ((c.setIfInBounds j u).setIfInBounds (j + 1) v)[j + 1]? = some v := by
 constructor
 ·rw [Array.getElem?_setIfInBounds, if_neg (by omega), Array.getElem?_setIfInBounds, if_pos rfl, if_pos (by omega)]
 ·rw [Array.getElem?_setIfInBounds, if_pos rfl, if_pos (by simpa using h)]
theorem set_ot {c : Array Value} {j i : Nat} {u v : Value} (h1 : i ≠ j) (h2 : i ≠ j + 1) : ((c.setIfInBounds j u).setIfInBounds (j + 1) v)[i]? = c[i]? := by
 rw [Array.getElem?_setIfInBounds, if_neg (fun e => h2 e.symm), Array.getElem?_setIfInBounds, if_neg (fun e => h1 e.symm)]
theorem IY.turn1 {M' : List It} {r1' : Option Addr} {F1' : List Nat} (h : IY w B off c T M K r1 r2 F1 F2) (hb : w'.heap[B]? = some (.cells ((c.setIfInBounds off (.pointer r1')).setIfInBounds (off + 1) (.int .i64 M'.length)) T (0, 0))) (hm : AvlSI.MapIn w' r1' M' F1') (hs : ∀ x ∈ F1', x ∈ F1 ∨ w.heap.size ≤ x) (hf : Fr (fun x => x = B ∨ x ∈ F1) w w') :
  IY w' B off ((c.setIfInBounds off (.pointer r1')).setIfInBounds (off + 1) (.int .i64 M'.length)) T M' K r1' r2 F1' F2 ∧ Oth off c ((c.setIfInBounds off (.pointer r1')).setIfInBounds (off + 1) (.int .i64 M'.length)) ∧ Tn (B :: (F1 ++ F2)) (B :: (F1' ++ F2)) w w' := by
 have hlt := h.lt
 have hz := in_size h.h1
 have i2 : IY w' B off ((c.setIfInBounds off (.pointer r1')).setIfInBounds (off + 1) (.int .i64 M'.length)) T M' K r1' r2 F1' F2 := by
  refine ⟨hb, (set_at hz).1, (set_at hz).2, (set_ot (by omega) (by omega)).trans h.h2, (set_ot (by omega) (by omega)).trans h.h3, hm, h.m2.fr hf (fun b hb' e => ?_), fun e => ?_, h.n2, fun x hx hx2 => ?_⟩
  ·rcases e with rfl | e
   ·exact h.n2 hb'
   ·exact h.ap b e hb'
  ·rcases hs B e with e | e
   ·exact h.n1 e
   ·have := lt_of_heap h.blk; omega
  ·rcases hs x hx with e | e
   ·exact h.ap x e hx2
   ·have := h.m2.lt x hx2; omega
 refine ⟨i2, Oth.set (by omega) (by omega), hf.mono (fun i _ e => by rcases e with rfl | e; simp; simp [e]), fun x hx => ⟨?_, i2.lt x hx⟩⟩
 simp only [List.mem_cons, List.mem_append] at hx ⊢
 rcases hx with rfl | hx | hx
 ·exact .inl (.inl rfl)
 ·exact (hs x hx).elim (fun e => .inl (.inr (.inl e))) .inr
 ·exact .inl (.inr (.inr hx))
theorem IY.turn2 {K' : List (ByteArray × Unit)} {r2' : Option Addr} {F2' : List Nat} (h : IY w B off c T M K r1 r2 F1 F2) (hb : w'.heap[B]? = some (.cells ((c.setIfInBounds (off + 2) (.pointer r2')).setIfInBounds (off + 2 + 1) (.int .i64 K'.length)) T (0, 0))) (hm : AvlSE.MapIn w' r2' K' F2') (hs : ∀ x ∈ F2', x ∈ F2 ∨ w.heap.size ≤ x) (hf : Fr (fun x => x = B ∨ x ∈ F2) w w') :
  IY w' B off ((c.setIfInBounds (off + 2) (.pointer r2')).setIfInBounds (off + 2 + 1) (.int .i64 K'.length)) T M K' r1 r2' F1 F2' ∧ Oth off c ((c.setIfInBounds (off + 2) (.pointer r2')).setIfInBounds (off + 2 + 1) (.int .i64 K'.length)) ∧ Tn (B :: (F1 ++ F2)) (B :: (F1 ++ F2')) w w' := by
 have hlt := h.lt
 have hz := in_size h.h3
 have i2 : IY w' B off ((c.setIfInBounds (off + 2) (.pointer r2')).setIfInBounds (off + 2 + 1) (.int .i64 K'.length)) T M K' r1 r2' F1 F2' := by
  refine ⟨hb, (set_ot (by omega) (by omega)).trans h.h0, (set_ot (by omega) (by omega)).trans h.h1, (set_at hz).1, (set_at hz).2, h.m1.fr hf (fun b hb' e => ?_), hm, h.n1, fun e => ?_, fun x hx hx2 => ?_⟩
  ·rcases e with rfl | e
   ·exact h.n1 hb'
   ·exact h.ap b hb' e
  ·rcases hs B e with e | e
   ·exact h.n2 e
   ·have := lt_of_heap h.blk; omega
  ·rcases hs x hx2 with e | e
   ·exact h.ap x hx e
   ·have := h.m1.lt x hx; omega
 refine ⟨i2, Oth.set (by omega) (by omega), hf.mono (fun i _ e => by rcases e with rfl | e; simp; simp [e]), fun x hx => ⟨?_, i2.lt x hx⟩⟩
 simp only [List.mem_cons, List.mem_append] at hx ⊢
 rcases hx with rfl | hx | hx
 ·exact .inl (.inl rfl)
 ·exact .inl (.inr (.inl hx))
 ·exact (hs x hx).elim (fun e => .inl (.inr (.inr e))) .inr
theorem IY.dropM (h : IY w B off c T M K r1 r2 F1 F2) (k : ByteArray) (sz : M.length < 144115188075855872) : Calls prog 245 #[.pointer (some ⟨B, off, none⟩), .string k] w fun e w' => e = .returned (.bool (hasL k M)) ∧ ∃ c' r1' F1', IY w' B off c' T (delL k M) K r1' r2 F1' F2 ∧ Oth off c c' ∧ Tn (B :: (F1 ++ F2)) (B :: (F1' ++ F2)) w w' := by
 refine (AvlSI.Drop B off c T k r1 M F1 w h.blk h.h0 h.h1 h.m1 h.n1 sz).mono ?_
 rintro e w' ⟨r', F', rfl, hb, hm, hs, hf⟩
 exact ⟨rfl, _, r', F', h.turn1 hb hm (fun x hx => .inl (hs x hx)) hf⟩
theorem IY.putM (h : IY w B off c T M K r1 r2 F1 F2) (k : ByteArray) (v : Int) (sz : M.length < 144115188075855872) : Calls prog 207 #[.pointer (some ⟨B, off, none⟩), .string k, .int .i64 v] w fun e w' => e = .returned (.bool (!hasL k M)) ∧ ∃ c' r1' F1', IY w' B off c' T (insL k v M) K r1' r2 F1' F2 ∧ Oth off c c' ∧ Tn (B :: (F1 ++ F2)) (B :: (F1' ++ F2)) w w' := by
 refine (AvlSI.Put B off c T k v r1 M F1 w h.blk h.h0 h.h1 h.m1 h.n1 sz).mono ?_
 rintro e w' ⟨r', F', rfl, hb, hm, hs, hf⟩
 exact ⟨rfl, _, r', F', h.turn1 hb hm hs hf⟩
theorem IY.dropK (h : IY w B off c T M K r1 r2 F1 F2) (k : ByteArray) (sz : K.length < 144115188075855872) : Calls prog 246 #[.pointer (some ⟨B, off + 2, none⟩), .string k] w fun e w' => e = .returned (.bool (hasL k K)) ∧ ∃ c' r2' F2', IY w' B off c' T M (delL k K) r1 r2' F1 F2' ∧ Oth off c c' ∧ Tn (B :: (F1 ++ F2)) (B :: (F1 ++ F2')) w w' := by
 refine (AvlSE.Drop B (off + 2) c T k r2 K F2 w h.blk h.h2 h.h3 h.m2 h.n2 sz).mono ?_
 rintro e w' ⟨r', F', rfl, hb, hm, hs, hf⟩
 exact ⟨rfl, _, r', F', h.turn2 hb hm (fun x hx => .inl (hs x hx)) hf⟩
theorem IY.putK (h : IY w B off c T M K r1 r2 F1 F2) (k : ByteArray) (sz : K.length < 144115188075855872) : Calls prog 208 #[.pointer (some ⟨B, off + 2, none⟩), .string k, .agg #[]] w fun e w' => e = .returned (.bool (!hasL k K)) ∧ ∃ c' r2' F2', IY w' B off c' T M (insL k () K) r1 r2' F1 F2' ∧ Oth off c c' ∧ Tn (B :: (F1 ++ F2)) (B :: (F1 ++ F2')) w w' := by
 refine (AvlSE.Put B (off + 2) c T k () r2 K F2 w h.blk h.h2 h.h3 h.m2 h.n2 sz).mono ?_
 rintro e w' ⟨r', F', rfl, hb, hm, hs, hf⟩
 exact ⟨rfl, _, r', F', h.turn2 hb hm hs hf⟩
theorem IY.get (h : IY w B off c T M K r1 r2 F1 F2) (k : ByteArray) : Calls prog 281 #[.pointer (some ⟨B, off, none⟩), .string k] w fun e w' => e = .returned (.tuple #[.int .i64 ((getL k M).getD 0), .bool (getL k M).isSome]) ∧ w = w' :=
 AvlSI.Get_map k B off r1 M F1 w h.m1 h.cells.1
end
def IB (w : World) (B off : Nat) (c : Array Value) (T : TypeId) (M : List It) (F : List Nat) : Prop := ∃ K r1 r2 F1 F2, IY w B off c T M K r1 r2 F1 F2 ∧ Rel M K ∧ F = B :: (F1 ++ F2)
theorem IB.lt {w : World} {B off : Nat} {c : Array Value} {T : TypeId} {M : List It} {F : List Nat} (h : IB w B off c T M F) : ∀ b ∈ F, b < w.heap.size := by obtain ⟨K, r1, r2, F1, F2, h, -, rfl⟩ := h; exact h.lt
theorem IB.fr {S : Nat → Prop} {w w' : World} {B off : Nat} {c : Array Value} {T : TypeId} {M : List It} {F : List Nat} (h : IB w B off c T M F) (hf : Fr S w w') (hs : ∀ b ∈ F, ¬ S b) : IB w' B off c T M F := by
 obtain ⟨K, r1, r2, F1, F2, h, hr, rfl⟩ := h
 exact ⟨K, r1, r2, F1, F2, h.fr hf hs, hr, rfl⟩
theorem End (B off : Nat) (c : Array Value) (T : TypeId) (M : List It) (F : List Nat) (k : ByteArray) (w : World) (h : IB w B off c T M F) : Calls prog 244 #[.pointer (some ⟨B, off, none⟩), .string k] w fun e w' => e = .returned (.tuple #[.int .i64 ((getL k M).getD 0), .bool (getL k M).isSome]) ∧ w = w' := by
 obtain ⟨K, r1, r2, F1, F2, h, -, -⟩ := h
 have HG := Lib.hid (h.get k)
 clear h
 go_enter func244, ntmps244
 go_wp2_with fail
 refine HG.out.mono ?_
 rintro e w1 ⟨rfl, rfl⟩
 go_wp2_with fail
 go_ret2
 exact ⟨rfl, rfl⟩
theorem d3 {ops : Array Oper} (hops : Eng.fnOps Tryz.f181 3 = ops) (a0 : Act) (Q : Exit → Act → World → Prop) (w : World) (B off : Nat) (c : Array Value) (T : TypeId) (M : List It) (K : List (ByteArray × Unit)) (r1 r2 : Option Addr) (F1 F2 : List Nat) (k : ByteArray) (v : Int) (hst : IY w B off c T M K r1 r2 F1 F2) (sz : K.length < 144115188075855872) (hk : Hid (k.size = 16)) (hv : wf64 v)
  (hn : a0.tmps.size = 25) (h_0 : a0.tmps.getD 0 undef = .pointer (some ⟨B, off, none⟩)) (h_1 : a0.tmps.getD 1 undef = .string k) (h_4 : a0.tmps.getD 4 undef = .int .i64 v)
  (hpost : ∀ (x : Nat → Value) (w' : World) (c' : Array Value) (r2' : Option Addr) (F2' : List Nat), IY w' B off c' T M (delL (ek (k, v)) K) r1 r2' F1 F2' → Oth off c c' → Tn (B :: (F1 ++ F2)) (B :: (F1 ++ F2')) w w' → Q .normal (Eng.setAll a0 [18, 19, 20, 21, 22, 23, 24] x) w') :
  (Code.region 3 ops true).wp prog Q a0 w := by
 simp only [Eng.fnOps, Eng.regOps, Tryz.f181, Option.bind_some, Option.getD_some, Nat.reduceEqDiff, ↓reduceIte] at hops
 subst hops
 have HSt := Lib.hid (hst.fr (Fr.drew (fun _ => False) w) (fun _ _ h => h))
 refine Eng.regionT (.take 0 (.take 1 (.take 2 (.take 3 (.take 4 (.alt 5 (.alt 6 (.done) (.stop)) (.stop))))))) (fun w' => True) (by kernel_rfl) 25 hn (by kernel_rfl) (by kernel_rfl) (by kernel_rfl) (trivial) (fun a b ha hb => ?_)
 subst ha
 have hb0 : b 0 = .pointer (some ⟨B, off, none⟩) := (hb 0).symm.trans h_0
 have hb1 : b 1 = .string k := (hb 1).symm.trans h_1
 have hb4 : b 4 = .int .i64 v := (hb 4).symm.trans h_4
 clear hb h_0 h_1 h_4
 have HP := Lib.hid hpost; have HN := Lib.hid hn
 clear hpost hn
 iterate 5 (refine Eng.TW.tk ?_)
 refine Eng.TW.call rfl rfl (by decide) (by kernel_rfl) ?_ (KeyEnd' hk.out hv _) ?_
 ·go_simp
 rintro e w2 ⟨rfl, hf⟩
 have HF := Lib.hid ((Fr.drew (fun _ => False) w).trans hf (T := fun _ => False) (fun _ _ h => h) (fun _ _ h => h))
 have HSt2 := Lib.hid (HSt.out.fr hf (fun _ _ h => h))
 clear hf
 refine ⟨_, rfl, trivial, ?_⟩
 refine Eng.TW.call rfl rfl (by decide) (by kernel_rfl) ?_ (HSt2.out.dropK (ek (k, v)) sz) ?_
 ·go_simp
 rintro e w3 ⟨rfl, c', r2', F2', hI, hO, hT⟩
 have HT := Lib.hid ((Tn.of_fr HF.out hst.lt).trans hT)
 have HSt3 := Lib.hid (hI)
 clear hT hI
 refine ⟨_, rfl, trivial, ?_⟩
 refine Eng.TW.end_ [18, 19, 20, 21, 22, 23, 24] HN.out (by kernel_rfl) (by kernel_rfl) ?_
 exact HP.out _ _ c' r2' F2' HSt3.out hO HT.out
theorem p3 {ops : Array Oper} (hops : Eng.fnOps Tryz.f142 3 = ops) (a0 : Act) (Q : Exit → Act → World → Prop) (w : World) (B off : Nat) (c : Array Value) (T : TypeId) (M : List It) (K : List (ByteArray × Unit)) (r1 r2 : Option Addr) (F1 F2 : List Nat) (k : ByteArray) (v : Int) (hst : IY w B off c T M K r1 r2 F1 F2) (sz : K.length < 144115188075855872) (hk : Hid (k.size = 16)) (hv : wf64 v)
  (hn : a0.tmps.size = 30) (h_0 : a0.tmps.getD 0 undef = .pointer (some ⟨B, off, none⟩)) (h_1 : a0.tmps.getD 1 undef = .string k) (h_2 : a0.tmps.getD 2 undef = .int .i64 v)
  (hpost : ∀ (x : Nat → Value) (w' : World) (c' : Array Value) (r2' : Option Addr) (F2' : List Nat), IY w' B off c' T M (insL (ek (k, v)) () K) r1 r2' F1 F2' → Oth off c c' → Tn (B :: (F1 ++ F2)) (B :: (F1 ++ F2')) w w' → Q .normal (Eng.setAll a0 [22, 23, 24, 25, 26, 27, 28, 29] x) w') :
  (Code.region 3 ops true).wp prog Q a0 w := by
 simp only [Eng.fnOps, Eng.regOps, Tryz.f142, Option.bind_some, Option.getD_some, Nat.reduceEqDiff, ↓reduceIte] at hops
 subst hops
 have HSt := Lib.hid (hst.fr (Fr.drew (fun _ => False) w) (fun _ _ h => h))
 refine Eng.regionT (.take 0 (.take 1 (.take 2 (.take 3 (.take 4 (.take 6 (.alt 5 (.alt 7 (.done) (.stop)) (.stop)))))))) (fun w' => True) (by kernel_rfl) 30 hn (by kernel_rfl) (by kernel_rfl) (by kernel_rfl) (trivial) (fun a b ha hb => ?_)
 subst ha
 have hb0 : b 0 = .pointer (some ⟨B, off, none⟩) := (hb 0).symm.trans h_0
 have hb1 : b 1 = .string k := (hb 1).symm.trans h_1
 have hb2 : b 2 = .int .i64 v := (hb 2).symm.trans h_2
 clear hb h_0 h_1 h_2
 have HP := Lib.hid hpost; have HN := Lib.hid hn
 clear hpost hn
 iterate 6 (refine Eng.TW.tk ?_)
 refine Eng.TW.call rfl rfl (by decide) (by kernel_rfl) ?_ (KeyEnd' hk.out hv _) ?_
 ·go_simp
 rintro e w2 ⟨rfl, hf⟩
 have HF := Lib.hid ((Fr.drew (fun _ => False) w).trans hf (T := fun _ => False) (fun _ _ h => h) (fun _ _ h => h))
 have HSt2 := Lib.hid (HSt.out.fr hf (fun _ _ h => h))
 clear hf
 refine ⟨_, rfl, trivial, ?_⟩
 refine Eng.TW.call rfl rfl (by decide) (by kernel_rfl) ?_ (HSt2.out.putK (ek (k, v)) sz) ?_
 ·go_simp
 rintro e w3 ⟨rfl, c', r2', F2', hI, hO, hT⟩
 have HT := Lib.hid ((Tn.of_fr HF.out hst.lt).trans hT)
 have HSt3 := Lib.hid (hI)
 clear hT hI
 refine ⟨_, rfl, trivial, ?_⟩
 refine Eng.TW.end_ [22, 23, 24, 25, 26, 27, 28, 29] HN.out (by kernel_rfl) (by kernel_rfl) ?_
 exact HP.out _ _ c' r2' F2' HSt3.out hO HT.out
theorem Drop (B off : Nat) (c : Array Value) (T : TypeId) (M : List It) (F : List Nat) (k : ByteArray) (w : World) (h : IB w B off c T M F) (sz : M.length < 1000000) : Calls prog 181 #[.pointer (some ⟨B, off, none⟩), .string k] w fun e w' => e = .returned (.tuple #[]) ∧ ∃ c' F', IB w' B off c' T (delL k M) F' ∧ Oth off c c' ∧ Tn F F' w w' := by
 have HE := Lib.hid (End B off c T M F k w h)
 have hlt := h.lt
 obtain ⟨K, r1, r2, F1, F2, h, hr, rfl⟩ := h
 have hkl := hr.len
 cases hg : getL k M with
 | none =>
  rw [hg] at HE
  have HP : Hid (∃ c' F', IB w B off c' T (delL k M) F' ∧ Oth off c c' ∧ Tn (B :: (F1 ++ F2)) F' w w) := ⟨c, _, ⟨K, r1, r2, F1, F2, by rw [del_none hr.m hg]; exact h, by rw [del_none hr.m hg]; exact hr, rfl⟩, Oth.refl _ _, Tn.refl hlt⟩
  clear h hr hg hlt hkl
  go_enter func181, ntmps181
  go_wp2_with fail
  refine HE.out.mono ?_
  rintro e w1 ⟨rfl, rfl⟩
  go_wp2_with fail
  first | (go_end0; exact ⟨rfl, HP.out⟩) | exact bodyPost_ret (results_none rfl _ _ _) rfl ⟨rfl, HP.out⟩
 | some v =>
  rw [hg] at HE
  have hm := getL_mem hg
  have hgd := hr.g _ hm
  have HR := Lib.hid (hr.drop hm)
  have HD := Lib.hid (h.dropM k (by omega))
  have hK : Hid (k.size = 16) := hgd.1
  have hsz : K.length < 144115188075855872 := by omega
  clear h hr hg hlt hm hkl
  go_enter func181, ntmps181
  go_wp2_with fail
  refine HE.out.mono ?_
  rintro e w1 ⟨rfl, rfl⟩
  go_wp2_with fail
  refine HD.out.mono ?_
  rintro e w2 ⟨rfl, c1, r1', F1', hI, ho, ht⟩
  have HI := Lib.hid hI; have HT := Lib.hid ht; have HOt := Lib.hid ho
  clear hI ht HE HD ho
  go_upto_region 3 with (fail)
  refine d3 (by kernel_rfl) _ _ w2 B off c1 T _ K r1' r2 F1' F2 k v HI.out hsz hK hgd.2 rfl rfl rfl rfl ?_
  intro x w3 c2 r2' F2' hI3 ho3 ht3
  simp only [Eng.setAll, Act.put, List.setIfInBounds_toArray, List.set_cons_succ, List.set_cons_zero]
  have HP : Hid (∃ c' F', IB w3 B off c' T (delL k M) F' ∧ Oth off c c' ∧ Tn (B :: (F1 ++ F2)) F' w w3) := ⟨c2, _, ⟨_, r1', r2', F1', F2', hI3, HR.out, rfl⟩, HOt.out.trans ho3, HT.out.trans ht3⟩
  clear hI3 ht3 ho3
  go_wp2_with fail
  first | (go_end0; exact ⟨rfl, HP.out⟩) | exact bodyPost_ret (results_none rfl _ _ _) rfl ⟨rfl, HP.out⟩
theorem Put (B off : Nat) (c : Array Value) (T : TypeId) (M : List It) (F : List Nat) (k : ByteArray) (v : Int) (w : World) (h : IB w B off c T M F) (sz : M.length < 1000000) (hk : k.size = 16) (hv : wf64 v) : Calls prog 142 #[.pointer (some ⟨B, off, none⟩), .string k, .int .i64 v] w fun e w' => e = .returned (.tuple #[]) ∧ ∃ c' F', IB w' B off c' T (insL k v M) F' ∧ Oth off c c' ∧ Tn F F' w w' := by
 have HD := Lib.hid (Drop B off c T M F k w h sz)
 have q : ((k.size : Int) != 16) = false := by rw [hk]; rfl
 have hK := Lib.hid hk
 have hsm : Srt M := by obtain ⟨K, r1, r2, F1, F2, h, hr, rfl⟩ := h; exact hr.m
 have HIns := Lib.hid (ins_del (k := k) v hsm)
 clear h hk hsm
 go_enter func142, ntmps142
 go_wp2_with fail
 refine HD.out.mono ?_
 rintro e w1 ⟨rfl, c1, F', hI, ho, ht⟩
 obtain ⟨K, r1, r2, F1, F2, h, hr, rfl⟩ := hI
 have hkl := hr.len
 have hdl := delL_len' k M
 have HR := Lib.hid (hr.put (e := v) ⟨hK.out, hv⟩ (get_del k))
 have HP := Lib.hid (h.putM k v (by omega))
 have HT := Lib.hid ht; have HOt := Lib.hid ho
 have hsz : K.length < 144115188075855872 := by omega
 clear h hr ht hkl hdl HD ho
 go_wp2_with fail
 refine HP.out.mono ?_
 rintro e w2 ⟨rfl, c2, r1', F1', hI, ho, ht⟩
 have HI := Lib.hid hI; have HT2 := Lib.hid (HT.out.trans ht); have HOt2 := Lib.hid (HOt.out.trans ho)
 clear hI ht HP HT ho
 go_upto_region 3 with (fail)
 refine p3 (by kernel_rfl) _ _ w2 B off c2 T _ K r1' r2 F1' F2 k v HI.out hsz hK hv rfl rfl rfl rfl ?_
 intro x w3 c3 r2' F2' hI3 ho3 ht3
 simp only [Eng.setAll, Act.put, List.setIfInBounds_toArray, List.set_cons_succ, List.set_cons_zero]
 have HP : Hid (∃ c' F', IB w3 B off c' T (insL k v M) F' ∧ Oth off c c' ∧ Tn F F' w w3) := ⟨c3, _, ⟨_, r1', r2', F1', F2', by rw [← HIns.out]; exact hI3, by rw [← HIns.out]; exact HR.out, rfl⟩, HOt2.out.trans ho3, HT2.out.trans ht3⟩
 clear hI3 ht3 ho3
 go_wp2_with fail
 first | (go_end0; exact ⟨rfl, HP.out⟩) | exact bodyPost_ret (results_none rfl _ _ _) rfl ⟨rfl, HP.out⟩
end ExpO
namespace ExpO
open KeyP ExpP Exp
theorem IB.recell {S : Nat → Prop} {w w' : World} {B off : Nat} {c c' : Array Value} {T : TypeId} {M : List It} {F : List Nat} (h : IB w B off c T M F) (hb : w'.heap[B]? = some (.cells c' T (0, 0))) (hc : ∀ i, off ≤ i → i < off + 4 → c'[i]? = c[i]?) (hf : Fr S w w') (hs : ∀ b ∈ F, b ≠ B → ¬ S b) : IB w' B off c' T M F := by
 obtain ⟨K, r1, r2, F1, F2, h, hr, rfl⟩ := h
 have ne1 : ∀ b ∈ F1, b ≠ B := fun b hb e => h.n1 (e ▸ hb)
 have ne2 : ∀ b ∈ F2, b ≠ B := fun b hb e => h.n2 (e ▸ hb)
 exact ⟨K, r1, r2, F1, F2, ⟨hb, (hc _ (by omega) (by omega)).trans h.h0, (hc _ (by omega) (by omega)).trans h.h1, (hc _ (by omega) (by omega)).trans h.h2, (hc _ (by omega) (by omega)).trans h.h3, h.m1.fr hf (fun b hb => hs b (by simp [hb]) (ne1 b hb)), h.m2.fr hf (fun b hb => hs b (by simp [hb]) (ne2 b hb)), h.n1, h.n2, h.ap⟩, hr, rfl⟩
theorem IB.blk {w : World} {B off : Nat} {c : Array Value} {T : TypeId} {M : List It} {F : List Nat} (h : IB w B off c T M F) : w.heap[B]? = some (.cells c T (0, 0)) := by obtain ⟨K, r1, r2, F1, F2, h, hr, rfl⟩ := h; exact h.blk
theorem IB.hd {w : World} {B off : Nat} {c : Array Value} {T : TypeId} {M : List It} {F : List Nat} (h : IB w B off c T M F) : B ∈ F := by obtain ⟨K, r1, r2, F1, F2, h, hr, rfl⟩ := h; simp
end ExpO
namespace Sto
open KeyP PackP SetP SetW SetF Comp BagP Sat2
abbrev TSt : TypeId := 137
abbrev idS (x : Sn) : Sn := x
abbrev ens (L : List Sn) : List (ByteArray × Int) := mp endS L
def spn (x : Sn) : Quota.Sp := ⟨x.t, x.i, x.p, x.r, x.s, x.o, x.b, x.d, x.g⟩
theorem spn_cs (L : List Sn) : (L.map spn).flatMap Quota.Sp.cs = L.flatMap scs := by rw [List.flatMap_map]; rfl
theorem wf_end (x : Sn) : wf64 (endS x) := by unfold wf64 endS cl; omega
theorem gk_ok {x : Sn} (h : x.ok) : gk x := ⟨h.t, h.i⟩
theorem kk_size (x : Sn) : (kk x).size = 16 := by show (ks (kb x.t ++ kb x.i)).size = 16; rw [ks_size, List.length_append, kb_len, kb_len]
structure Cf where
 sp : Int
 tr : Int
 wi : Int
 sg : Int
 now : Int
abbrev Cf.at (f : Cf) (now : Int) : Cf := ⟨f.sp, f.tr, f.wi, f.sg, now⟩
structure StI (w : World) (B : Nat) (f : Cf) (R : List Sn) (M : List (ByteArray × Int)) (Q : List (Int × Int)) (c : Array Value) (r : Option Addr) (F1 FE : List Nat) (q rq : Nat) : Prop where
 sz : c.size = 12
 c0 : c[0]? = some (.int .i64 f.sp)
 c1 : c[1]? = some (.int .i64 f.tr)
 c2 : c[2]? = some (.int .i64 f.wi)
 c3 : c[3]? = some (.int .i64 f.sg)
 c4 : c[4]? = some (.int .i64 f.now)
 c5 : c[5]? = some (.pointer r)
 c6 : c[6]? = some (.int .i64 R.length)
 c11 : c[11]? = some (.pointer (some ⟨q, 0, none⟩))
 m : AvlSS.MapIn w r (mp idS R) F1
 e : ExpO.IB w B 7 c TSt M FE
 qu : Quota.QB w q rq (max f.sp 0) (max f.tr 0) Q
 ap : ∀ x ∈ F1, x ∉ FE
 nq : q ∉ F1 ∧ q ∉ FE
 nr : rq ∉ F1 ∧ rq ∉ FE
abbrev flS (F1 FE : List Nat) (q rq : Nat) : List Nat := FE ++ (F1 ++ [q, rq])
section
variable {w w' : World} {B : Nat} {f : Cf} {R : List Sn} {M : List (ByteArray × Int)} {Q : List (Int × Int)} {c : Array Value} {r : Option Addr} {F1 FE : List Nat} {q rq : Nat}
theorem mem_flS {x : Nat} : x ∈ flS F1 FE q rq ↔ x ∈ FE ∨ x ∈ F1 ∨ x = q ∨ x = rq := by simp [flS]
theorem StI.lt (h : StI w B f R M Q c r F1 FE q rq) : ∀ x ∈ flS F1 FE q rq, x < w.heap.size := by
 intro x hx
 rcases mem_flS.1 hx with hx | hx | rfl | rfl
 ·exact h.e.lt x hx
 ·exact h.m.lt x hx
 ·exact lt_of_heap h.qu.blk
 ·exact h.qu.gm.lt
theorem StI.fr {S : Nat → Prop} (h : StI w B f R M Q c r F1 FE q rq) (hf : Fr S w w') (hs : ∀ x ∈ flS F1 FE q rq, ¬ S x) : StI w' B f R M Q c r F1 FE q rq :=
 ⟨h.sz, h.c0, h.c1, h.c2, h.c3, h.c4, h.c5, h.c6, h.c11, h.m.fr hf (fun x hx => hs x (mem_flS.2 (.inr (.inl hx)))), h.e.fr hf (fun x hx => hs x (mem_flS.2 (.inl hx))), h.qu.fr hf (hs q (mem_flS.2 (.inr (.inr (.inl rfl))))) (hs rq (mem_flS.2 (.inr (.inr (.inr rfl))))), h.ap, h.nq, h.nr⟩
theorem StI.cell (h : StI w B f R M Q c r F1 FE q rq) {i : Nat} {u : Value} (hu : c[i]? = some u) : w.cell? ⟨B, i, none⟩ = some u := (cell_of_block h.e.blk i).trans hu
theorem StI.nB (h : StI w B f R M Q c r F1 FE q rq) : B ∉ F1 := fun hx => h.ap B hx h.e.hd
theorem StI.turnR {R' : List Sn} {r' : Option Addr} {F1' : List Nat} (h : StI w B f R M Q c r F1 FE q rq)
  (hb : w'.heap[B]? = some (.cells ((c.setIfInBounds 5 (.pointer r')).setIfInBounds (5 + 1) (.int .i64 R'.length)) TSt (0, 0))) (hm : AvlSS.MapIn w' r' (mp idS R') F1') (hs : ∀ x ∈ F1', x ∈ F1 ∨ w.heap.size ≤ x) (hf : Fr (fun x => x = B ∨ x ∈ F1) w w') :
  StI w' B f R' M Q ((c.setIfInBounds 5 (.pointer r')).setIfInBounds (5 + 1) (.int .i64 R'.length)) r' F1' FE q rq ∧ Tn (flS F1 FE q rq) (flS F1' FE q rq) w w' := by
 have hlt := h.lt
 have hz := h.sz
 have hq1 := lt_of_heap h.qu.blk
 have hq2 := h.qu.gm.lt
 have nqB : q ≠ B := fun e => h.nq.2 (e ▸ h.e.hd)
 have nrB : rq ≠ B := fun e => h.nr.2 (e ▸ h.e.hd)
 have ot : ∀ i, i ≠ 5 → i ≠ 6 → ((c.setIfInBounds 5 (.pointer r')).setIfInBounds (5 + 1) (.int .i64 R'.length))[i]? = c[i]? := fun i h1 h2 => ExpO.set_ot h1 h2
 have i2 : StI w' B f R' M Q ((c.setIfInBounds 5 (.pointer r')).setIfInBounds (5 + 1) (.int .i64 R'.length)) r' F1' FE q rq := by
  refine ⟨by simpa using hz, (ot 0 (by omega) (by omega)).trans h.c0, (ot 1 (by omega) (by omega)).trans h.c1, (ot 2 (by omega) (by omega)).trans h.c2, (ot 3 (by omega) (by omega)).trans h.c3, (ot 4 (by omega) (by omega)).trans h.c4, (ExpO.set_at (by omega)).1, (ExpO.set_at (by omega)).2, (ot 11 (by omega) (by omega)).trans h.c11, hm, h.e.recell hb (fun i h1 h2 => ot i (by omega) (by omega)) hf (fun b hb hne e => ?_), h.qu.fr hf (fun e => ?_) (fun e => ?_), fun x hx hx2 => ?_, ⟨fun hx => ?_, h.nq.2⟩, ⟨fun hx => ?_, h.nr.2⟩⟩
  ·rcases e with e | e
   ·exact hne e
   ·exact h.ap b e hb
  ·rcases e with e | e
   ·exact nqB e
   ·exact h.nq.1 e
  ·rcases e with e | e
   ·exact nrB e
   ·exact h.nr.1 e
  ·rcases hs x hx with e | e
   ·exact h.ap x e hx2
   ·have := h.e.lt x hx2; omega
  ·rcases hs q hx with e | e
   ·exact h.nq.1 e
   ·omega
  ·rcases hs rq hx with e | e
   ·exact h.nr.1 e
   ·omega
 refine ⟨i2, hf.mono (fun i _ e => ?_), fun x hx => ⟨?_, i2.lt x hx⟩⟩
 ·rcases e with rfl | e
  ·exact mem_flS.2 (.inl h.e.hd)
  ·exact mem_flS.2 (.inr (.inl e))
 ·rcases mem_flS.1 hx with hx | hx | hx
  ·exact .inl (mem_flS.2 (.inl hx))
  ·rcases hs x hx with e | e
   ·exact .inl (mem_flS.2 (.inr (.inl e)))
   ·exact .inr e
  ·exact .inl (mem_flS.2 (.inr (.inr hx)))
theorem StI.turnE {M' : List (ByteArray × Int)} {c' : Array Value} {FE' : List Nat} (h : StI w B f R M Q c r F1 FE q rq) (he : ExpO.IB w' B 7 c' TSt M' FE') (ho : ExpO.Oth 7 c c') (ht : Tn FE FE' w w') :
  StI w' B f R M' Q c' r F1 FE' q rq ∧ Tn (flS F1 FE q rq) (flS F1 FE' q rq) w w' := by
 have hq1 := lt_of_heap h.qu.blk
 have hq2 := h.qu.gm.lt
 have i2 : StI w' B f R M' Q c' r F1 FE' q rq := by
  refine ⟨ho.1.trans h.sz, (ho.2 0 (by omega)).trans h.c0, (ho.2 1 (by omega)).trans h.c1, (ho.2 2 (by omega)).trans h.c2, (ho.2 3 (by omega)).trans h.c3, (ho.2 4 (by omega)).trans h.c4, (ho.2 5 (by omega)).trans h.c5, (ho.2 6 (by omega)).trans h.c6, (ho.2 11 (by omega)).trans h.c11, h.m.fr ht.fr (fun b hb e => h.ap b hb e), he, h.qu.fr ht.fr h.nq.2 h.nr.2, fun x hx hx2 => ?_, ⟨h.nq.1, fun hx => ?_⟩, ⟨h.nr.1, fun hx => ?_⟩⟩
  ·rcases (ht.sub x hx2).1 with e | e
   ·exact h.ap x hx e
   ·have := h.m.lt x hx; omega
  ·rcases (ht.sub q hx).1 with e | e
   ·exact h.nq.2 e
   ·omega
  ·rcases (ht.sub rq hx).1 with e | e
   ·exact h.nr.2 e
   ·omega
 refine ⟨i2, ht.fr.mono (fun i _ e => mem_flS.2 (.inl e)), fun x hx => ⟨?_, i2.lt x hx⟩⟩
 rcases mem_flS.1 hx with hx | hx
 ·exact (ht.sub x hx).1.imp (fun e => mem_flS.2 (.inl e)) id
 ·exact .inl (mem_flS.2 (.inr hx))
theorem StI.turnQ {Q' : List (Int × Int)} (h : StI w B f R M Q c r F1 FE q rq) (hq : Quota.QB w' q rq (max f.sp 0) (max f.tr 0) Q') (hf : Fr (fun k => k = q ∨ k = rq) w w') :
  StI w' B f R M Q' c r F1 FE q rq ∧ Tn (flS F1 FE q rq) (flS F1 FE q rq) w w' := by
 have i2 : StI w' B f R M Q' c r F1 FE q rq := ⟨h.sz, h.c0, h.c1, h.c2, h.c3, h.c4, h.c5, h.c6, h.c11, h.m.fr hf (fun b hb e => by rcases e with rfl | rfl; exact h.nq.1 hb; exact h.nr.1 hb), h.e.fr hf (fun b hb e => by rcases e with rfl | rfl; exact h.nq.2 hb; exact h.nr.2 hb), hq, h.ap, h.nq, h.nr⟩
 exact ⟨i2, hf.mono (fun i _ e => mem_flS.2 (.inr (.inr e))), fun x hx => ⟨.inl hx, i2.lt x hx⟩⟩
theorem StI.turnT (h : StI w B f R M Q c r F1 FE q rq) (now : Int) : StI (w.setCell ⟨B, 4, none⟩ (.int .i64 now)) B (f.at now) R M Q (c.setIfInBounds 4 (.int .i64 now)) r F1 FE q rq ∧ Tn (flS F1 FE q rq) (flS F1 FE q rq) w (w.setCell ⟨B, 4, none⟩ (.int .i64 now)) := by
 have hf := Fr.setCell w ⟨B, 4, none⟩ (.int .i64 now) (S := (· = B)) rfl
 have ot : ∀ i, i ≠ 4 → (c.setIfInBounds 4 (.int .i64 now))[i]? = c[i]? := fun i h1 => by rw [Array.getElem?_setIfInBounds, if_neg (fun e => h1 e.symm)]
 have hz := h.sz
 have i2 : StI (w.setCell ⟨B, 4, none⟩ (.int .i64 now)) B (f.at now) R M Q (c.setIfInBounds 4 (.int .i64 now)) r F1 FE q rq :=
  ⟨by simpa using hz, (ot 0 (by omega)).trans h.c0, (ot 1 (by omega)).trans h.c1, (ot 2 (by omega)).trans h.c2, (ot 3 (by omega)).trans h.c3, by rw [Array.getElem?_setIfInBounds, if_pos rfl, if_pos (by omega)], (ot 5 (by omega)).trans h.c5, (ot 6 (by omega)).trans h.c6, (ot 11 (by omega)).trans h.c11, h.m.fr hf (fun b hb e => h.nB (by subst e; exact hb)), h.e.recell (heap_setCell_same h.e.blk _) (fun i h1 h2 => ot i (by omega)) hf (fun b hb hne e => hne e), h.qu.fr hf (fun e => h.nq.2 (by have := h.e.hd; rw [← e] at this; exact this)) (fun e => h.nr.2 (by have := h.e.hd; rw [← e] at this; exact this)), h.ap, h.nq, h.nr⟩
 exact ⟨i2, hf.mono (fun i _ e => mem_flS.2 (.inl (by rw [show i = B from e]; exact h.e.hd))), fun x hx => ⟨.inl hx, i2.lt x hx⟩⟩
theorem len_mp {ν : Type} (g : Sn → ν) (L : List Sn) : (mp g L).length = L.length := List.length_map _
theorem StI.putR (h : StI w B f R M Q c r F1 FE q rq) (hs : Srs R) (hR : ∀ y ∈ R, y.ok) {x : Sn} (hx : x.ok) (sz : R.length < 1000000) :
  Calls prog 138 #[.pointer (some ⟨B, 5, none⟩), .string (kk x), x.v] w fun e w' => (∃ b, e = .returned (.bool b)) ∧ ∃ c' r' F1', StI w' B f (ins x R) M Q c' r' F1' FE q rq ∧ Tn (flS F1 FE q rq) (flS F1' FE q rq) w w' := by
 refine (AvlSS.Put B 5 c TSt (kk x) x r (mp idS R) F1 w h.e.blk h.c5 (by rw [len_mp]; exact h.c6) h.m h.nB (by rw [len_mp]; omega)).mono ?_
 rintro e w' ⟨r', F', rfl, hb, hm, hsub, hf⟩
 rw [ins_mp (f := idS) hs (gk_ok hx) (fun y hy => gk_ok (hR y hy))] at hb hm
 rw [len_mp] at hb
 exact ⟨⟨_, rfl⟩, _, r', F', h.turnR hb hm hsub hf⟩
theorem StI.dropR (h : StI w B f R M Q c r F1 FE q rq) (hR : ∀ y ∈ R, y.ok) {x : Sn} (hx : x.ok) (sz : R.length < 1000000) :
  Calls prog 137 #[.pointer (some ⟨B, 5, none⟩), .string (kk x)] w fun e w' => (∃ b, e = .returned (.bool b)) ∧ ∃ c' r' F1', StI w' B f (out x.t x.i R) M Q c' r' F1' FE q rq ∧ Tn (flS F1 FE q rq) (flS F1' FE q rq) w w' := by
 refine (AvlSS.Drop B 5 c TSt (kk x) r (mp idS R) F1 w h.e.blk h.c5 (by rw [len_mp]; exact h.c6) h.m h.nB (by rw [len_mp]; omega)).mono ?_
 rintro e w' ⟨r', F', rfl, hb, hm, hsub, hf⟩
 rw [del_mp (f := idS) (gk_ok hx) (fun y hy => gk_ok (hR y hy))] at hb hm
 rw [len_mp] at hb
 exact ⟨⟨_, rfl⟩, _, r', F', h.turnR hb hm (fun y hy => .inl (hsub y hy)) hf⟩
theorem StI.putE (h : StI w B f R M Q c r F1 FE q rq) (x : Sn) (sz : M.length < 1000000) :
  Calls prog 142 #[.pointer (some ⟨B, 7, none⟩), .string (kk x), .int .i64 (endS x)] w fun e w' => e = .returned (.tuple #[]) ∧ ∃ c' FE', StI w' B f R (insL (kk x) (endS x) M) Q c' r F1 FE' q rq ∧ Tn (flS F1 FE q rq) (flS F1 FE' q rq) w w' := by
 refine (ExpO.Put B 7 c TSt M FE (kk x) (endS x) w h.e sz (kk_size x) (wf_end x)).mono ?_
 rintro e w' ⟨rfl, c', FE', h1, h2, h3⟩
 exact ⟨rfl, c', FE', h.turnE h1 h2 h3⟩
theorem StI.dropE (h : StI w B f R M Q c r F1 FE q rq) (x : Sn) (sz : M.length < 1000000) :
  Calls prog 181 #[.pointer (some ⟨B, 7, none⟩), .string (kk x)] w fun e w' => e = .returned (.tuple #[]) ∧ ∃ c' FE', StI w' B f R (delL (kk x) M) Q c' r F1 FE' q rq ∧ Tn (flS F1 FE q rq) (flS F1 FE' q rq) w w' := by
 refine (ExpO.Drop B 7 c TSt M FE (kk x) w h.e sz).mono ?_
 rintro e w' ⟨rfl, c', FE', h1, h2, h3⟩
 exact ⟨rfl, c', FE', h.turnE h1 h2 h3⟩
abbrev Apt (A : Option Addr) (L : List Sn) (F : List Nat) : Prop := L ≠ [] → ∀ a, A = some a → a.block ∉ F
theorem apt_q {A : Option Addr} {L : List Sn} (ha : Apt A L (flS F1 FE q rq)) {cp : Nat} (hL : Ls w A cp L) : L.map spn ≠ [] → ∀ a, A = some a → a.block ≠ q ∧ a.block ≠ rq ∧ a.block < w.heap.size := by
 intro hne a h1
 have hn : L ≠ [] := fun e => hne (by rw [e]; rfl)
 refine ⟨fun e => ha hn a h1 (mem_flS.2 (.inr (.inr (.inl e)))), fun e => ha hn a h1 (mem_flS.2 (.inr (.inr (.inr e)))), ?_⟩
 exact hL.s.lt (fun e => hn (by have := hL.s.1; rw [e] at this; simp at this; exact List.length_eq_zero_iff.1 (by omega))) a h1
theorem map_t (L : List Sn) : (L.map spn).map Quota.Sp.t = L.map Sn.t := by rw [List.map_map]; rfl
theorem wfI_of {n : Int} (h : in64 n) : wfI n := by
 show (Lit.int .i64 n).wf = true
 simp only [Lit.wf, Bool.and_eq_true, decide_eq_true_eq]
 have e1 : IntKind.i64.min = -9223372036854775808 := rfl
 have e2 : IntKind.i64.max = 9223372036854775807 := rfl
 unfold in64 at h; omega
theorem StI.addQ (h : StI w B f R M Q c r F1 FE q rq) {A : Option Addr} {cp : Nat} {L : List Sn} (hL : Ls w A cp L) (ha : Apt A L (flS F1 FE q rq)) (hm : sumL Q + L.length < 1000000) :
  Calls prog 81 #[.pointer (some ⟨q, 0, none⟩), .slice A L.length cp] w fun e w' => e = .returned (.bool (QuotaP.okM (max f.sp 0) (max f.tr 0) (L.map Sn.t) Q)) ∧ StI w' B f R M (QuotaP.addA (max f.sp 0) (max f.tr 0) (L.map Sn.t) Q) c r F1 FE q rq ∧ Tn (flS F1 FE q rq) (flS F1 FE q rq) w w' := by
 have h1 := Quota.Add q rq (max f.sp 0) (max f.tr 0) A cp (L.map spn) Q w h.qu (by rw [spn_cs, List.length_map]; exact hL.s) (apt_q ha hL) (fun y hy => by
  obtain ⟨x, hx, rfl⟩ := List.mem_map.1 hy
  exact wfI_of (hL.ok x hx).t) (by rw [List.length_map]; exact hm)
 rw [List.length_map, map_t] at h1
 refine h1.mono ?_
 rintro e w' ⟨rfl, h2, h3⟩
 exact ⟨rfl, h.turnQ h2 h3⟩
theorem StI.dropQ (h : StI w B f R M Q c r F1 FE q rq) {A : Option Addr} {cp : Nat} {L : List Sn} (hL : Ls w A cp L) (ha : Apt A L (flS F1 FE q rq)) :
  Calls prog 111 #[.pointer (some ⟨q, 0, none⟩), .slice A L.length cp] w fun e w' => e = .returned (.tuple #[]) ∧ StI w' B f R M (QuotaP.dropM (L.map Sn.t) Q) c r F1 FE q rq ∧ Tn (flS F1 FE q rq) (flS F1 FE q rq) w w' := by
 have h1 := Quota.Drop q rq (max f.sp 0) (max f.tr 0) A cp (L.map spn) Q w h.qu (by rw [spn_cs, List.length_map]; exact hL.s) (apt_q ha hL) (fun y hy => by
  obtain ⟨x, hx, rfl⟩ := List.mem_map.1 hy
  exact wfI_of (hL.ok x hx).t)
 rw [List.length_map, map_t] at h1
 refine h1.mono ?_
 rintro e w' ⟨rfl, h2, h3⟩
 exact ⟨rfl, h.turnQ h2 h3⟩
end
end Sto
set_option maxRecDepth 100000
set_option maxHeartbeats 1000000
open Go.RowKit Go.Shelf
open KeyP ExpP
attribute [local go_sem] Oper.semAt_some
namespace ExpO
open KeyP ExpP Exp
theorem Below_ (B off : Nat) (c : Array Value) (T : TypeId) (M : List It) (F : List Nat) (time : Int) (w : World) (h : IB w B off c T M F) (sz : M.length ≤ 1000000) :
  Calls prog 108 #[.pointer (some ⟨B, off, none⟩), .int .i64 time] w (BelowPost M time w) := by
 obtain ⟨i0, hi, hz0, hz1_, hz2⟩ := info_parts infoS
 have hFlt := h.lt
 obtain ⟨K, r1, r2, F1, F2, h, hr, rfl⟩ := h
 obtain ⟨KL, rfl, hsK, hmK⟩ := hr.items
 have hgd : ∀ p ∈ KL, gd p := fun p hp => hr.g p ((hmK p).1 hp)
 have hlen : KL.length ≤ 1000000 := by have := hr.len; rw [List.length_map] at this; omega
 have hFlt2 : ∀ b ∈ F2, b < w.heap.size := fun b hb => hFlt b (by simp [hb])
 have HPost := Lib.hid (⟨hsK, hmK⟩ : KL.Pairwise (fun p q => lt2 p q = true) ∧ (∀ p, p ∈ KL ↔ p ∈ M))
 have hMP : AvlSE.MapP w (some ⟨B, off + 2, none⟩) (KL.map (fun p => (ek p, ()))) F2 := .inr ⟨B, off + 2, r2, rfl, h.cells.2.2.1, h.m2⟩
 have HAll := fun w => Lib.hid (All_any B (off + 2) w)
 have hBl := lt_of_heap h.blk
 have HGd := Lib.hid hgd
 clear h hr hFlt hsK hmK hgd
 refine (callsIn_wide (n := 3)).1 ?_
 refine callsIn_of_wp_marks func108 rfl trivial ?_ rfl
 simp only [ntmps108, List.size_toArray, List.length_cons, List.length_nil, Nat.reduceAdd, Nat.reduceSub, Array.replicate_succ, Array.replicate_zero, List.push_toArray, List.append_toArray, List.nil_append, List.cons_append]
 refine wpIn_wide.2 ?_
 go_wp2_with fail
 go_step3
 go_wp2_with fail
 go_step3
 go_wp2_with fail
 refine (HAll _).out.mono ?_
 rintro e w1 ⟨rfl, rfl⟩
 go_wp2_with fail
 have fa := fun (w : World) (o : Obj) => Fr.alloc (fun _ => False) w o
 have nn : ∀ G : List Nat, ∀ b ∈ G, ¬ False := fun _ _ _ h => h
 have hs0 : (((w.alloc (.cells #[.int .i64 time] TI)).alloc (.cells #[.slice none 0 0] TSs)).alloc (.cells #[.pointer (some ⟨B, off + 2, none⟩)] 274)).heap.size = w.heap.size + 3 := by simp
 have bt : Bk (((w.alloc (.cells #[.int .i64 time] TI)).alloc (.cells #[.slice none 0 0] TSs)).alloc (.cells #[.pointer (some ⟨B, off + 2, none⟩)] 274)) w.heap.size #[.int .i64 time] TI := ((Bk.new w _ _).fr (fa _ _) (nn _)).fr (fa _ _) (nn _)
 have bo : Bk (((w.alloc (.cells #[.int .i64 time] TI)).alloc (.cells #[.slice none 0 0] TSs)).alloc (.cells #[.pointer (some ⟨B, off + 2, none⟩)] 274)) (w.heap.size + 1) #[.slice none 0 0] TSs := by
  have := (Bk.new (w.alloc (.cells #[.int .i64 time] TI)) #[.slice none 0 0] TSs).fr (fa _ (.cells #[.pointer (some ⟨B, off + 2, none⟩)] 274)) (nn _)
  rwa [World.size_alloc] at this
 have hcc : (((w.alloc (.cells #[.int .i64 time] TI)).alloc (.cells #[.slice none 0 0] TSs)).alloc (.cells #[.pointer (some ⟨B, off + 2, none⟩)] 274)).cell? ⟨w.heap.size + 1 + 1, 0, none⟩ = some (.pointer (some ⟨B, off + 2, none⟩)) := by
  have := (Bk.new ((w.alloc (.cells #[.int .i64 time] TI)).alloc (.cells #[.slice none 0 0] TSs)) #[.pointer (some ⟨B, off + 2, none⟩)] 274).cell 0
  simpa using this
 have hb0 : Below w.heap.size w (((w.alloc (.cells #[.int .i64 time] TI)).alloc (.cells #[.slice none 0 0] TSs)).alloc (.cells #[.pointer (some ⟨B, off + 2, none⟩)] 274)) := (((Below.refl _ w).alloc (Nat.le_refl _) _).alloc (by simp) _).alloc (by simp; omega) _
 have hM0 := hMP.below hb0
 generalize ((w.alloc (.cells #[.int .i64 time] TI)).alloc (.cells #[.slice none 0 0] TSs)).alloc (.cells #[.pointer (some ⟨B, off + 2, none⟩)] 274) = W0 at *
 have HS0 := Lib.hid hs0
 have HB0 := Lib.hid hb0
 have n0 : w.heap.size + 1 + 1 < W0.heap.size := by omega
 clear hs0 fa hMP HAll hb0
 refine (wpIn_wide (n := 3)).1 ?_
 refine range_P' (n := 3) (a₁ := ?fr) (gf := 229) (lb := #[.pointer (some ⟨w.heap.size + 1 + 1, 0, none⟩)]) rfl (enters_of func229 (by kernel_rfl) rfl)
  (AvlSE.All_seq F2 (w.heap.size + 1 + 1) (some ⟨B, off + 2, none⟩) (KL.map (fun p => (ek p, ()))) F2 W0 hcc n0 hM0 (fun _ h => h)) (fun b hb => by have := hFlt2 b hb; have := HS0.out; omega) (fun _ => rfl)
  (fun (pre : List (ByteArray × Unit)) (W : World) => BI w.heap.size W0.heap.size (W0.heap.size + 2 + 0) w.heap.size (w.heap.size + 1) time KL w W pre.length ∧ W0.heap.size ≤ W.heap.size)
  (fun k (pre : List (ByteArray × Unit)) (W : World) => (k = .exit 0 ∧ ∃ m, ∃ hm : m < KL.length, BI w.heap.size W0.heap.size (W0.heap.size + 2 + 0) w.heap.size (w.heap.size + 1) time KL w W m ∧ ¬ KL[m].2 < time) ∧ W0.heap.size ≤ W.heap.size)
  (fun pre A C h hf => ⟨h.1.abide hf (by omega) (fun h => by have := h.1; omega) (fun h => by have := h.1; omega) (by have := h.2; omega), Nat.le_trans h.2 hf.size⟩)
  (fun k pre A C h hf => ⟨⟨h.1.1, h.1.2.imp fun m h' => h'.imp fun hm h' => ⟨h'.1.abide hf (by omega) (fun h => by have := h.1; omega) (fun h => by have := h.1; omega) (by have := h.2; omega), h'.2⟩⟩, Nat.le_trans h.2 hf.size⟩)
  ⟨⟨Coll.start bo HB0.out, bt, by simp⟩, Nat.le_refl _⟩ ?assign ?body ?done ?stop
 case assign =>
  intro l m x W K hK
  gi_wp2
  exact hK
 case body =>
  rintro l m pre x W ⟨hI, hsz0⟩ hsz hpre rfl ⟨r, hl⟩ hd
  (try dsimp only)
  have hlt : pre.length < KL.length := by have := hpre.length_le; rw [List.length_append, List.length_singleton, List.length_map] at this; omega
  have hx : x = (ek KL[pre.length], ()) := by
   obtain ⟨t, ht⟩ := hpre
   have h1 : (KL.map (fun p => (ek p, ())))[pre.length]? = some x := by rw [← ht]; simp
   rw [List.getElem?_map, List.getElem?_eq_getElem hlt] at h1
   simpa using h1.symm
  subst hx
  have hg := HGd.out _ (List.getElem_mem hlt)
  have HSp := Lib.hid (SplitEk KL[pre.length] hg W)
  have HI := Lib.hid hI; have HL := Lib.hid hl; have HD := Lib.hid hd
  have HSz := Lib.hid hsz0
  have hTk : KL.take (pre.length + 1) = KL.take pre.length ++ [KL[pre.length]] := List.take_succ_eq_append_getElem hlt
  have HTk := Lib.hid hTk
  have HLt := Lib.hid hlt
  clear hg hI hl hd hpre hTk hM0 hcc bo bt
  generalize hp : KL[pre.length] = q at *
  have HQ := Lib.hid hp
  clear hp
  obtain ⟨qk, qe⟩ := q
  generalize ek (qk, qe) = ee at *
  dsimp only at *
  have hdd : ∀ k : Nat, (Fence.wide.depth.isSome = true → 1 ≤ k) := fun k h => by cases h
  gi_wp2_with fail
  refine ⟨trivial, fun h => (by cases h), CallsIn.inRound _ (callsIn_wide.2 ?_)⟩
  refine HSp.out.mono ?_
  rintro e w1 ⟨rfl, hf⟩
  have HF := Lib.hid hf
  have hB1 : Bk w1 w.heap.size #[.int .i64 time] TI := HI.out.t.fr hf (fun _ _ h => h)
  have ct : w1.cell? ⟨w.heap.size, 0, none⟩ = some (.int .i64 time) := hB1.cell 0
  clear hf HSp
  have HI1 := Lib.hid (show BI w.heap.size W0.heap.size (W0.heap.size + 2 + 0) w.heap.size (w.heap.size + 1) time KL w w1 pre.length from by
   obtain ⟨⟨v, c1, c2, c3, c4⟩, c5, c6⟩ := HI.out
   exact ⟨⟨v, c1.fr HF.out (fun _ _ h => h), ownsRow_fr c2 HF.out (fun _ _ h => h), c3.trans (HF.out.below (by have := HSz.out; omega) (fun _ _ h => h)), c4⟩, hB1, c6⟩)
  have hz1 : W.heap.size ≤ w1.heap.size := HF.out.size
  have HL1 := Lib.hid ((HF.out.block (W0.heap.size + 1) (by omega) (fun h => h)).trans HL.out)
  have HD1 := Lib.hid ((HF.out.block W0.heap.size (by omega) (fun h => h)).trans HD.out)
  by_cases hlt2 : qe < time
  ·have q1 : decide (time ≤ qe) = false := by simp; omega
   have HAl : Hid (∀ p ∈ KL.take (pre.length + 1), p.2 < time) := fun p hp => by
    rw [HTk.out] at hp
    rcases List.mem_append.1 hp with hp | hp
    ·exact HI.out.a p hp
    ·simp at hp; subst hp; exact hlt2
   obtain ⟨⟨v, hv, hown, hbel, hout⟩, -, -⟩ := HI1.out
   have cv : w1.cell? ⟨w.heap.size + 1, 0, none⟩ = some v := hv.cell 0
   have fv := hv.free 0
   have hn1 : w.heap.size ≤ w1.heap.size := by have := HSz.out; omega
   have HV := Lib.hid hv; have HO := Lib.hid hown; have HBe := Lib.hid hbel; have HOut := Lib.hid hout
   have hown' := hown.alloc (.cells #[.string qk] TStr)
   have HNt : Hid (∀ b, v.ownBlock = some b → b ≠ w.heap.size) := fun b hb e => by
    obtain ⟨_, _, c, hc⟩ := ownsRow_blk HO.out b hb
    rw [e, show w1.heap[w.heap.size]? = _ from hB1] at hc
    cases hc
   clear hlt2 hv hown hbel hout
   gi_wp2_with (gi_at_builtin; refine wpListIn_append_own _ rfl (.tmp 28) (.tmp 30) TSs rfl w.heap.size TStr i0 (.string ByteArray.empty) 1 16 underlying60 hi hz0 hz1_ hz2 rfl (by decide) _ _ _ rfl hown' ⟨w1.heap.size, 0, none⟩ 1 1 [.string qk] rfl rfl (new_cells w1 TStr [.string qk]) (by simp [Value.oneCell']) (by unfold maxLen; omega) (by omega) (by simp; omega) ?_)
   intro v' w2 hown1 hgrow _
   obtain ⟨g', cap', rfl⟩ := ownsRow_succ hown1
   have hb : ¬ Rg W0.heap.size (W0.heap.size + 2 + 0) (w.heap.size + 1) := fun h => by have := h.1; have := HS0.out; omega
   obtain ⟨k1, k2, k3⟩ := Coll.step HV.out HO.out HBe.out HOut.out (by decide) hn1 (by omega) hb HL1.out HD1.out hown1 hgrow
   have cv1 : w2.cell? ⟨w.heap.size + 1, 0, none⟩ = some v := k1.cell 0
   have fv1 := k1.free 0
   have K2 := Lib.hid k2; have K3 := Lib.hid k3; have KO := Lib.hid (ownsRow_blk HO.out)
   clear k1 k2 k3 hown1 hgrow hown' cv fv ct
   gi_wp2_with fail
   have hs1 := HS0.out
   have hF3 : Fr (fun b => b = w.heap.size + 1 ∨ v.ownBlock = some b) W _ := HF.out.trans K3.out (fun _ _ h => h.elim) (fun _ _ h => h)
   refine ⟨KeptR.of_fr hF3 hsz ?_, hF3.size, KeptL.of_fr hF3 (fun b hb => ⟨by have := hFlt2 b hb; omega, ?_⟩), ⟨⟨?_, hB1.fr K3.out (fun b hb e => ?_), by rw [List.length_append, List.length_singleton]; exact HAl.out⟩, by have := hF3.size; omega⟩⟩
   ·rintro b hr (e | e)
    ·exact hb (e ▸ hr)
    ·exact HOut.out b e hr
   ·rintro (e | e)
    ·have := hFlt2 b hb; omega
    ·have := (KO.out b e).1; have := hFlt2 b hb; omega
   ·rw [List.length_append, List.length_singleton, HTk.out]
    simpa [strs] using K2.out
   ·simp at hb; subst hb
    rcases e with e | e
    ·omega
    ·exact HNt.out _ e rfl
  ·have q1 : decide (time ≤ qe) = true := by simp; omega
   have HLt2 : Hid (¬ KL[pre.length].2 < time) := by show ¬ _; rw [HQ.out]; exact hlt2
   clear hlt2
   gi_wp2_with fail
   exact ⟨KeptR.of_fr HF.out hsz (fun _ _ h => h), HF.out.size, ⟨rfl, pre.length, HI1.out, HLt.out, HLt2.out⟩, by have := HSz.out; omega⟩
 case done =>
  rintro W hsz ⟨hI, hsz0⟩ hK
  rw [List.length_map] at hI
  obtain ⟨⟨v, hv, hown, hbel, hout⟩, hbt, hal⟩ := hI
  rw [List.take_length] at hal hown
  have HE := Lib.hid (all_below hal)
  have cv : W.cell? ⟨w.heap.size + 1, 0, none⟩ = some v := hv.cell 0
  have HO := Lib.hid hown; have HBe := Lib.hid hbel; have HOut := Lib.hid hout; have HK := Lib.hid hK
  clear hv hown hbel hout hK hM0 hcc bo bt hbt hal
  obtain ⟨A, cA, rfl, -, -⟩ := Sl.of_own HO.out
  go_wp2_with fail
  try rw [Exit.noGoto_ret]
  refine ⟨by simp, .inl ⟨_, _, rfl, run_takeDeferred HK.out, ?_⟩⟩
  have hs1 := HS0.out
  have hf := Fr.putObj W W0.heap.size (.deferred none) (S := (· = W0.heap.size)) rfl
  refine ⟨_, by simp [results, Tryz.results108, go_sem], KL, .slice A KL.length cA, HPost.out.1, HPost.out.2, rfl, ?_, HBe.out.trans (hf.below (by omega) (fun k hk e => by omega))⟩
  rw [← HE.out]
  exact ownsRow_fr HO.out hf (fun b hb e => HOut.out b hb ⟨by omega, by omega⟩)
 case stop =>
  rintro k pre W hsz hpre ⟨⟨rfl, m, hm, hI, hge⟩, hsz0⟩ hK
  obtain ⟨⟨v, hv, hown, hbel, hout⟩, hbt, hal⟩ := hI
  have hE := take_below hal hm hge
  rw [hE] at hown
  have hml : m = (below time KL).length := by rw [← hE, List.length_take]; omega
  have cv : W.cell? ⟨w.heap.size + 1, 0, none⟩ = some v := hv.cell 0
  have HO := Lib.hid hown; have HBe := Lib.hid hbel; have HOut := Lib.hid hout; have HK := Lib.hid hK
  have HM := Lib.hid hml
  clear hv hown hbel hout hK hM0 hcc bo bt hbt hal hE hml
  obtain ⟨A, cA, rfl, -, -⟩ := Sl.of_own HO.out
  refine (wpIn_wide (n := 3)).2 ?_
  go_wp2_with fail
  try rw [Exit.noGoto_ret]
  refine ⟨by simp, .inl ⟨_, _, rfl, run_takeDeferred HK.out, ?_⟩⟩
  have hs1 := HS0.out
  have hf := Fr.putObj W W0.heap.size (.deferred none) (S := (· = W0.heap.size)) rfl
  refine ⟨_, by simp [results, Tryz.results108, go_sem], KL, .slice A m cA, HPost.out.1, HPost.out.2, rfl, ?_, HBe.out.trans (hf.below (by omega) (fun k hk e => by omega))⟩
  have := ownsRow_fr HO.out hf (fun b hb e => HOut.out b hb ⟨by omega, by omega⟩)
  rw [HM.out] at this ⊢
  exact this
end ExpO
end Go.Proofs.YtdpngmgaomghoaaGreat
