/- What is past: the index as an object in memory. -/
import Derived.Test.YtkhhdadlpilbmaaExpP
import Derived.Test.YtkhhdadlpilbmaaAvlLSI
import Derived.Test.YtkhhdadlpilbmaaAvlLSE
import Derived.Test.YtkhhdadlpilbmaaKey
import Derived.Deep.RegionWith
import Derived.Deep.DeepCutAuto
namespace Go.Proofs.Ytkhhdadlpilbmaa
open Go.RowKit
namespace Exp
open KeyP ExpP
attribute [local go_sem] Eng.ev Eng.getO_cons Eng.getO_nil
abbrev TX : TypeId := 65
abbrev cellsX (r1 : Option Addr) (n1 : Nat) (r2 : Option Addr) (n2 : Nat) : Array Value := #[.pointer r1, .int .i64 n1, .pointer r2, .int .i64 n2]
structure IY (w : World) (B : Nat) (M : List It) (K : List (ByteArray × Unit)) (r1 r2 : Option Addr) (F1 F2 : List Nat) : Prop where
  blk : w.heap[B]? = some (.cells (cellsX r1 M.length r2 K.length) TX (0, 0))
  m1 : AvlSI.MapIn w r1 M F1
  m2 : AvlSE.MapIn w r2 K F2
  n1 : B ∉ F1
  n2 : B ∉ F2
  ap : ∀ x ∈ F1, x ∉ F2
section
variable {w w' : World} {B : Nat} {M : List It} {K : List (ByteArray × Unit)} {r1 r2 : Option Addr} {F1 F2 : List Nat}
theorem IY.lt (h : IY w B M K r1 r2 F1 F2) : ∀ b ∈ B :: (F1 ++ F2), b < w.heap.size := by
  intro b hb
  simp only [List.mem_cons, List.mem_append] at hb
  rcases hb with rfl | hb | hb
  · exact lt_of_heap h.blk
  · exact h.m1.lt b hb
  · exact h.m2.lt b hb
theorem IY.fr {S : Nat → Prop} (h : IY w B M K r1 r2 F1 F2) (hf : Fr S w w') (hs : ∀ b ∈ B :: (F1 ++ F2), ¬ S b) : IY w' B M K r1 r2 F1 F2 :=
  ⟨(hf.block B (lt_of_heap h.blk) (hs B (by simp))).trans h.blk, h.m1.fr hf (fun b hb => hs b (by simp [hb])), h.m2.fr hf (fun b hb => hs b (by simp [hb])), h.n1, h.n2, h.ap⟩
theorem IY.cells (h : IY w B M K r1 r2 F1 F2) : w.cell? ⟨B, 0, none⟩ = some (.pointer r1) ∧ w.cell? ⟨B, 1, none⟩ = some (.int .i64 M.length) ∧ w.cell? ⟨B, 2, none⟩ = some (.pointer r2) ∧ w.cell? ⟨B, 3, none⟩ = some (.int .i64 K.length) :=
  ⟨cell_of_block h.blk 0, cell_of_block h.blk 1, cell_of_block h.blk 2, cell_of_block h.blk 3⟩
theorem IY.turn1 {M' : List It} {r1' : Option Addr} {F1' : List Nat} (h : IY w B M K r1 r2 F1 F2) (hb : w'.heap[B]? = some (.cells (cellsX r1' M'.length r2 K.length) TX (0, 0))) (hm : AvlSI.MapIn w' r1' M' F1') (hs : ∀ x ∈ F1', x ∈ F1 ∨ w.heap.size ≤ x) (hf : Fr (fun x => x = B ∨ x ∈ F1) w w') :
    IY w' B M' K r1' r2 F1' F2 ∧ Tn (B :: (F1 ++ F2)) (B :: (F1' ++ F2)) w w' := by
  have hlt := h.lt
  have i2 : IY w' B M' K r1' r2 F1' F2 := by
    refine ⟨hb, hm, h.m2.fr hf (fun b hb' e => ?_), fun e => ?_, h.n2, fun x hx hx2 => ?_⟩
    · rcases e with rfl | e
      · exact h.n2 hb'
      · exact h.ap b e hb'
    · rcases hs B e with e | e
      · exact h.n1 e
      · have := lt_of_heap h.blk; omega
    · rcases hs x hx with e | e
      · exact h.ap x e hx2
      · have := h.m2.lt x hx2; omega
  refine ⟨i2, hf.mono (fun i _ e => by rcases e with rfl | e; simp; simp [e]), fun x hx => ⟨?_, i2.lt x hx⟩⟩
  simp only [List.mem_cons, List.mem_append] at hx ⊢
  rcases hx with rfl | hx | hx
  · exact .inl (.inl rfl)
  · exact (hs x hx).elim (fun e => .inl (.inr (.inl e))) .inr
  · exact .inl (.inr (.inr hx))
theorem IY.turn2 {K' : List (ByteArray × Unit)} {r2' : Option Addr} {F2' : List Nat} (h : IY w B M K r1 r2 F1 F2) (hb : w'.heap[B]? = some (.cells (cellsX r1 M.length r2' K'.length) TX (0, 0))) (hm : AvlSE.MapIn w' r2' K' F2') (hs : ∀ x ∈ F2', x ∈ F2 ∨ w.heap.size ≤ x) (hf : Fr (fun x => x = B ∨ x ∈ F2) w w') :
    IY w' B M K' r1 r2' F1 F2' ∧ Tn (B :: (F1 ++ F2)) (B :: (F1 ++ F2')) w w' := by
  have hlt := h.lt
  have i2 : IY w' B M K' r1 r2' F1 F2' := by
    refine ⟨hb, h.m1.fr hf (fun b hb' e => ?_), hm, h.n1, fun e => ?_, fun x hx hx2 => ?_⟩
    · rcases e with rfl | e
      · exact h.n1 hb'
      · exact h.ap b hb' e
    · rcases hs B e with e | e
      · exact h.n2 e
      · have := lt_of_heap h.blk; omega
    · rcases hs x hx2 with e | e
      · exact h.ap x hx e
      · have := h.m1.lt x hx; omega
  refine ⟨i2, hf.mono (fun i _ e => by rcases e with rfl | e; simp; simp [e]), fun x hx => ⟨?_, i2.lt x hx⟩⟩
  simp only [List.mem_cons, List.mem_append] at hx ⊢
  rcases hx with rfl | hx | hx
  · exact .inl (.inl rfl)
  · exact .inl (.inr (.inl hx))
  · exact (hs x hx).elim (fun e => .inl (.inr (.inr e))) .inr
theorem IY.dropM (h : IY w B M K r1 r2 F1 F2) (k : ByteArray) (sz : M.length < 144115188075855872) : Calls Try.prog 64 #[.pointer (some ⟨B, 0, none⟩), .string k] w fun e w' => e = .returned (.bool (hasL k M)) ∧ ∃ r1' F1', IY w' B (delL k M) K r1' r2 F1' F2 ∧ Tn (B :: (F1 ++ F2)) (B :: (F1' ++ F2)) w w' := by
  refine (AvlSI.Drop B 0 _ TX k r1 M F1 w h.blk rfl rfl h.m1 h.n1 sz).mono ?_
  rintro e w' ⟨r', F', rfl, hb, hm, hs, hf⟩
  exact ⟨rfl, r', F', h.turn1 hb hm (fun x hx => .inl (hs x hx)) hf⟩
theorem IY.putM (h : IY w B M K r1 r2 F1 F2) (k : ByteArray) (v : Int) (sz : M.length < 144115188075855872) : Calls Try.prog 70 #[.pointer (some ⟨B, 0, none⟩), .string k, .int .i64 v] w fun e w' => e = .returned (.bool (!hasL k M)) ∧ ∃ r1' F1', IY w' B (insL k v M) K r1' r2 F1' F2 ∧ Tn (B :: (F1 ++ F2)) (B :: (F1' ++ F2)) w w' := by
  refine (AvlSI.Put B 0 _ TX k v r1 M F1 w h.blk rfl rfl h.m1 h.n1 sz).mono ?_
  rintro e w' ⟨r', F', rfl, hb, hm, hs, hf⟩
  exact ⟨rfl, r', F', h.turn1 hb hm hs hf⟩
theorem IY.dropK (h : IY w B M K r1 r2 F1 F2) (k : ByteArray) (sz : K.length < 144115188075855872) : Calls Try.prog 84 #[.pointer (some ⟨B, 2, none⟩), .string k] w fun e w' => e = .returned (.bool (hasL k K)) ∧ ∃ r2' F2', IY w' B M (delL k K) r1 r2' F1 F2' ∧ Tn (B :: (F1 ++ F2)) (B :: (F1 ++ F2')) w w' := by
  refine (AvlSE.Drop B 2 _ TX k r2 K F2 w h.blk rfl rfl h.m2 h.n2 sz).mono ?_
  rintro e w' ⟨r', F', rfl, hb, hm, hs, hf⟩
  exact ⟨rfl, r', F', h.turn2 hb hm (fun x hx => .inl (hs x hx)) hf⟩
theorem IY.putK (h : IY w B M K r1 r2 F1 F2) (k : ByteArray) (sz : K.length < 144115188075855872) : Calls Try.prog 86 #[.pointer (some ⟨B, 2, none⟩), .string k, .agg #[]] w fun e w' => e = .returned (.bool (!hasL k K)) ∧ ∃ r2' F2', IY w' B M (insL k () K) r1 r2' F1 F2' ∧ Tn (B :: (F1 ++ F2)) (B :: (F1 ++ F2')) w w' := by
  refine (AvlSE.Put B 2 _ TX k () r2 K F2 w h.blk rfl rfl h.m2 h.n2 sz).mono ?_
  rintro e w' ⟨r', F', rfl, hb, hm, hs, hf⟩
  exact ⟨rfl, r', F', h.turn2 hb hm hs hf⟩
theorem IY.get (h : IY w B M K r1 r2 F1 F2) (k : ByteArray) : Calls Try.prog 74 #[.pointer (some ⟨B, 0, none⟩), .string k] w fun e w' => e = .returned (.tuple #[.int .i64 ((getL k M).getD 0), .bool (getL k M).isSome]) ∧ w = w' :=
  AvlSI.Get_map k B 0 r1 M F1 w h.m1 h.cells.1
end
/-- The index in block B, with the items M. -/
def IB (w : World) (B : Nat) (M : List It) (F : List Nat) : Prop := ∃ K r1 r2 F1 F2, IY w B M K r1 r2 F1 F2 ∧ Rel M K ∧ F = B :: (F1 ++ F2)
theorem IB.lt {w : World} {B : Nat} {M : List It} {F : List Nat} (h : IB w B M F) : ∀ b ∈ F, b < w.heap.size := by obtain ⟨K, r1, r2, F1, F2, h, -, rfl⟩ := h; exact h.lt
theorem IB.fr {S : Nat → Prop} {w w' : World} {B : Nat} {M : List It} {F : List Nat} (h : IB w B M F) (hf : Fr S w w') (hs : ∀ b ∈ F, ¬ S b) : IB w' B M F := by
  obtain ⟨K, r1, r2, F1, F2, h, hr, rfl⟩ := h
  exact ⟨K, r1, r2, F1, F2, h.fr hf hs, hr, rfl⟩
theorem IB.new (w : World) : IB (w.alloc (.cells (cellsX none 0 none 0) TX)) w.heap.size [] [w.heap.size] :=
  ⟨[], none, none, [], [], ⟨heap_new _ _, AvlSI.MapIn.nil _, AvlSE.MapIn.nil _, by simp, by simp, by simp⟩, Rel.nil, rfl⟩
set_option maxRecDepth 100000 in
theorem End (B : Nat) (M : List It) (F : List Nat) (k : ByteArray) (w : World) (h : IB w B M F) : Calls Try.prog 38 #[.pointer (some ⟨B, 0, none⟩), .string k] w fun e w' => e = .returned (.tuple #[.int .i64 ((getL k M).getD 0), .bool (getL k M).isSome]) ∧ w = w' := by
  obtain ⟨K, r1, r2, F1, F2, h, -, -⟩ := h
  have HG := Lib.hid (h.get k)
  clear h
  go_enter Try.func38, Try.ntmps38
  go_wp2_with fail
  refine HG.out.mono ?_
  rintro e w1 ⟨rfl, rfl⟩
  go_wp2_with fail
  go_ret2
  exact ⟨rfl, rfl⟩
theorem End_none (k : ByteArray) (w : World) : Calls Try.prog 38 #[.pointer none, .string k] w fun e w' => e = .returned (.tuple #[.int .i64 0, .bool false]) ∧ w = w' := by
  go_enter Try.func38, Try.ntmps38
  go_wp2_with fail
  go_ret2
  exact ⟨rfl, rfl⟩
theorem Len (B : Nat) (M : List It) (F : List Nat) (w : World) (h : IB w B M F) : Calls Try.prog 40 #[.pointer (some ⟨B, 0, none⟩)] w fun e w' => e = .returned (.int .i64 M.length) ∧ w = w' := by
  obtain ⟨K, r1, r2, F1, F2, h, -, -⟩ := h
  have HG := Lib.hid (AvlSI.Len B 0 M.length w h.cells.2.1)
  clear h
  go_enter Try.func40, Try.ntmps40
  go_wp2_with fail
  refine HG.out.mono ?_
  rintro e w1 ⟨rfl, rfl⟩
  go_wp2_with fail
  go_ret
  exact ⟨rfl, rfl⟩
theorem Len_none (w : World) : Calls Try.prog 40 #[.pointer none] w fun e w' => e = .returned (.int .i64 0) ∧ w = w' := by
  go_enter Try.func40, Try.ntmps40
  go_wp2_with fail
  go_ret
  exact ⟨rfl, rfl⟩
theorem KeyEnd' {k : ByteArray} {v : Int} (hk : k.size = 16) (hv : wf64 v) (w : World) : Calls Try.prog 85 #[.int .i64 v, .string k] w fun e w' => e = .returned (.string (ek (k, v))) ∧ Fr (fun _ => False) w w' :=
  (Key.End hv k (by omega) w).mono (fun _ _ ⟨h, hb⟩ => ⟨h, (Fr.of_below hb).mono (fun i hi h => by omega)⟩)
set_option maxRecDepth 100000 in
set_option maxHeartbeats 400000 in
theorem d3 {ops : Array Oper} (hops : Eng.fnOps Try.f34 3 = ops) (a0 : Act) (Q : Exit → Act → World → Prop) (w : World) (B : Nat) (M : List It) (K : List (ByteArray × Unit)) (r1 r2 : Option Addr) (F1 F2 : List Nat) (k : ByteArray) (v : Int) (hst : IY w B M K r1 r2 F1 F2) (sz : K.length < 144115188075855872) (hk : Hid (k.size = 16)) (hv : wf64 v)
    (hn : a0.tmps.size = 25) (h_0 : a0.tmps.getD 0 undef = .pointer (some ⟨B, 0, none⟩)) (h_1 : a0.tmps.getD 1 undef = .string k) (h_4 : a0.tmps.getD 4 undef = .int .i64 v)
    (hpost : ∀ (x : Nat → Value) (w' : World) (r2' : Option Addr) (F2' : List Nat), IY w' B M (delL (ek (k, v)) K) r1 r2' F1 F2' → Tn (B :: (F1 ++ F2)) (B :: (F1 ++ F2')) w w' → Q .normal (Eng.setAll a0 [18, 19, 20, 21, 22, 23, 24] x) w') :
    (Code.region 3 ops true).wp Try.prog Q a0 w := by
  simp only [Eng.fnOps, Eng.regOps, Try.f34, Option.bind_some, Option.getD_some, Nat.reduceEqDiff, ↓reduceIte, Nat.reduceBEq] at hops
  subst hops
  have HSt := Lib.hid (hst.fr (Fr.drew (fun _ => False) w) (fun _ _ h => h))
  have hSS : True := trivial
  refine Eng.regionT (.take 0 (.take 1 (.take 2 (.take 3 (.take 4 (.alt 5 (.alt 6 (.done) (.stop)) (.stop))))))) (fun w' => True) (by kernel_rfl) 25 hn (by kernel_rfl) (by kernel_rfl) (by kernel_rfl) (hSS) (fun a b ha hb => ?_)
  subst ha
  have hb0 : b 0 = .pointer (some ⟨B, 0, none⟩) := (hb 0).symm.trans h_0
  have hb1 : b 1 = .string k := (hb 1).symm.trans h_1
  have hb4 : b 4 = .int .i64 v := (hb 4).symm.trans h_4
  clear hb h_0 h_1 h_4
  have HP := Lib.hid hpost; have HN := Lib.hid hn
  clear hpost hn
  refine Eng.TW.take' (v := ?_) rfl rfl (by decide) (by kernel_rfl) (fun w hw => ?_) ?_
  rotate_left
  · (try dsimp only at hw); go_simp; first | done | with_reducible rfl
  refine Eng.TW.take' (v := ?_) rfl rfl (by decide) (by kernel_rfl) (fun w hw => ?_) ?_
  rotate_left
  · (try dsimp only at hw); go_simp; first | done | with_reducible rfl
  refine Eng.TW.take' (v := ?_) rfl rfl (by decide) (by kernel_rfl) (fun w hw => ?_) ?_
  rotate_left
  · (try dsimp only at hw); go_simp; first | done | with_reducible rfl
  refine Eng.TW.take' (v := ?_) rfl rfl (by decide) (by kernel_rfl) (fun w hw => ?_) ?_
  rotate_left
  · (try dsimp only at hw); go_simp; first | done | with_reducible rfl
  refine Eng.TW.take' (v := ?_) rfl rfl (by decide) (by kernel_rfl) (fun w hw => ?_) ?_
  rotate_left
  · (try dsimp only at hw); go_simp; first | done | with_reducible rfl
  refine Eng.TW.call rfl rfl (by decide) (by kernel_rfl) ?_ (KeyEnd' hk.out hv _) ?_
  · go_simp
  rintro e w2 ⟨rfl, hf⟩
  have HF := Lib.hid ((Fr.drew (fun _ => False) w).trans hf (T := fun _ => False) (fun _ _ h => h) (fun _ _ h => h))
  have HSt2 := Lib.hid (HSt.out.fr hf (fun _ _ h => h))
  have hSS : True := trivial
  clear hf
  refine ⟨_, rfl, hSS, ?_⟩
  refine Eng.TW.call rfl rfl (by decide) (by kernel_rfl) ?_ (HSt2.out.dropK (ek (k, v)) sz) ?_
  · go_simp
  rintro e w3 ⟨rfl, r2', F2', hI, hT⟩
  have HT := Lib.hid ((Tn.of_fr HF.out hst.lt).trans hT)
  have HSt3 := Lib.hid (hI)
  have hSS : True := trivial
  clear hT hI
  refine ⟨_, rfl, hSS, ?_⟩
  refine Eng.TW.end_ [18, 19, 20, 21, 22, 23, 24] HN.out (by kernel_rfl) (by kernel_rfl) ?_
  exact HP.out _ _ r2' F2' HSt3.out HT.out

set_option maxRecDepth 100000 in
set_option maxHeartbeats 400000 in
theorem p3 {ops : Array Oper} (hops : Eng.fnOps Try.f36 3 = ops) (a0 : Act) (Q : Exit → Act → World → Prop) (w : World) (B : Nat) (M : List It) (K : List (ByteArray × Unit)) (r1 r2 : Option Addr) (F1 F2 : List Nat) (k : ByteArray) (v : Int) (hst : IY w B M K r1 r2 F1 F2) (sz : K.length < 144115188075855872) (hk : Hid (k.size = 16)) (hv : wf64 v)
    (hn : a0.tmps.size = 30) (h_0 : a0.tmps.getD 0 undef = .pointer (some ⟨B, 0, none⟩)) (h_1 : a0.tmps.getD 1 undef = .string k) (h_2 : a0.tmps.getD 2 undef = .int .i64 v)
    (hpost : ∀ (x : Nat → Value) (w' : World) (r2' : Option Addr) (F2' : List Nat), IY w' B M (insL (ek (k, v)) () K) r1 r2' F1 F2' → Tn (B :: (F1 ++ F2)) (B :: (F1 ++ F2')) w w' → Q .normal (Eng.setAll a0 [22, 23, 24, 25, 26, 27, 28, 29] x) w') :
    (Code.region 3 ops true).wp Try.prog Q a0 w := by
  simp only [Eng.fnOps, Eng.regOps, Try.f36, Option.bind_some, Option.getD_some, Nat.reduceEqDiff, ↓reduceIte, Nat.reduceBEq] at hops
  subst hops
  have HSt := Lib.hid (hst.fr (Fr.drew (fun _ => False) w) (fun _ _ h => h))
  have hSS : True := trivial
  refine Eng.regionT (.take 0 (.take 1 (.take 2 (.take 3 (.take 4 (.take 6 (.alt 5 (.alt 7 (.done) (.stop)) (.stop)))))))) (fun w' => True) (by kernel_rfl) 30 hn (by kernel_rfl) (by kernel_rfl) (by kernel_rfl) (hSS) (fun a b ha hb => ?_)
  subst ha
  have hb0 : b 0 = .pointer (some ⟨B, 0, none⟩) := (hb 0).symm.trans h_0
  have hb1 : b 1 = .string k := (hb 1).symm.trans h_1
  have hb2 : b 2 = .int .i64 v := (hb 2).symm.trans h_2
  clear hb h_0 h_1 h_2
  have HP := Lib.hid hpost; have HN := Lib.hid hn
  clear hpost hn
  refine Eng.TW.take' (v := ?_) rfl rfl (by decide) (by kernel_rfl) (fun w hw => ?_) ?_
  rotate_left
  · (try dsimp only at hw); go_simp; first | done | with_reducible rfl
  refine Eng.TW.take' (v := ?_) rfl rfl (by decide) (by kernel_rfl) (fun w hw => ?_) ?_
  rotate_left
  · (try dsimp only at hw); go_simp; first | done | with_reducible rfl
  refine Eng.TW.take' (v := ?_) rfl rfl (by decide) (by kernel_rfl) (fun w hw => ?_) ?_
  rotate_left
  · (try dsimp only at hw); go_simp; first | done | with_reducible rfl
  refine Eng.TW.take' (v := ?_) rfl rfl (by decide) (by kernel_rfl) (fun w hw => ?_) ?_
  rotate_left
  · (try dsimp only at hw); go_simp; first | done | with_reducible rfl
  refine Eng.TW.take' (v := ?_) rfl rfl (by decide) (by kernel_rfl) (fun w hw => ?_) ?_
  rotate_left
  · (try dsimp only at hw); go_simp; first | done | with_reducible rfl
  refine Eng.TW.take' (v := ?_) rfl rfl (by decide) (by kernel_rfl) (fun w hw => ?_) ?_
  rotate_left
  · (try dsimp only at hw); go_simp; first | done | with_reducible rfl
  refine Eng.TW.call rfl rfl (by decide) (by kernel_rfl) ?_ (KeyEnd' hk.out hv _) ?_
  · go_simp
  rintro e w2 ⟨rfl, hf⟩
  have HF := Lib.hid ((Fr.drew (fun _ => False) w).trans hf (T := fun _ => False) (fun _ _ h => h) (fun _ _ h => h))
  have HSt2 := Lib.hid (HSt.out.fr hf (fun _ _ h => h))
  have hSS : True := trivial
  clear hf
  refine ⟨_, rfl, hSS, ?_⟩
  refine Eng.TW.call rfl rfl (by decide) (by kernel_rfl) ?_ (HSt2.out.putK (ek (k, v)) sz) ?_
  · go_simp
  rintro e w3 ⟨rfl, r2', F2', hI, hT⟩
  have HT := Lib.hid ((Tn.of_fr HF.out hst.lt).trans hT)
  have HSt3 := Lib.hid (hI)
  have hSS : True := trivial
  clear hT hI
  refine ⟨_, rfl, hSS, ?_⟩
  refine Eng.TW.end_ [22, 23, 24, 25, 26, 27, 28, 29] HN.out (by kernel_rfl) (by kernel_rfl) ?_
  exact HP.out _ _ r2' F2' HSt3.out HT.out

end Exp
end Go.Proofs.Ytkhhdadlpilbmaa
namespace Go.Proofs.Ytkhhdadlpilbmaa
open Go.RowKit
namespace Exp
open KeyP ExpP
set_option maxRecDepth 100000 in
theorem Drop (B : Nat) (M : List It) (F : List Nat) (k : ByteArray) (w : World) (h : IB w B M F) (sz : M.length < 1000000) : Calls Try.prog 34 #[.pointer (some ⟨B, 0, none⟩), .string k] w fun e w' => e = .returned (.tuple #[]) ∧ ∃ F', IB w' B (delL k M) F' ∧ Tn F F' w w' := by
  have HE := Lib.hid (End B M F k w h)
  have hlt := h.lt
  obtain ⟨K, r1, r2, F1, F2, h, hr, rfl⟩ := h
  have hkl := hr.len
  cases hg : getL k M with
  | none =>
    rw [hg] at HE
    have HP : Hid (∃ F', IB w B (delL k M) F' ∧ Tn (B :: (F1 ++ F2)) F' w w) := ⟨_, ⟨K, r1, r2, F1, F2, by rw [del_none hr.m hg]; exact h, by rw [del_none hr.m hg]; exact hr, rfl⟩, Tn.refl hlt⟩
    clear h hr hg hlt hkl
    go_enter Try.func34, Try.ntmps34
    go_wp2_with fail
    refine HE.out.mono ?_
    rintro e w1 ⟨rfl, rfl⟩
    go_wp2_with fail
    first | (go_end0; exact ⟨rfl, HP.out⟩) | exact bodyPost_ret (results_none rfl _ _ _) rfl ⟨rfl, HP.out⟩
  | some v =>
    rw [hg] at HE
    have hm := getL_mem hg
    have hgd := hr.g _ hm
    have HR := Lib.hid (hr.drop hm)
    have HD := Lib.hid (h.dropM k (by omega))
    have hK : Hid (k.size = 16) := hgd.1
    have hsz : K.length < 144115188075855872 := by omega
    clear h hr hg hlt hm hkl
    go_enter Try.func34, Try.ntmps34
    go_wp2_with fail
    refine HE.out.mono ?_
    rintro e w1 ⟨rfl, rfl⟩
    go_wp2_with fail
    refine HD.out.mono ?_
    rintro e w2 ⟨rfl, r1', F1', hI, ht⟩
    have HI := Lib.hid hI; have HT := Lib.hid ht
    clear hI ht HE HD
    go_upto_region 3 with (fail)
    refine d3 (by kernel_rfl) _ _ w2 B _ K r1' r2 F1' F2 k v HI.out hsz hK hgd.2 rfl rfl rfl rfl ?_
    intro x w3 r2' F2' hI3 ht3
    simp only [Eng.setAll, Act.put, List.setIfInBounds_toArray, List.set_cons_succ, List.set_cons_zero]
    have HP : Hid (∃ F', IB w3 B (delL k M) F' ∧ Tn (B :: (F1 ++ F2)) F' w w3) := ⟨_, ⟨_, r1', r2', F1', F2', hI3, HR.out, rfl⟩, HT.out.trans ht3⟩
    clear hI3 ht3
    go_wp2_with fail
    first | (go_end0; exact ⟨rfl, HP.out⟩) | exact bodyPost_ret (results_none rfl _ _ _) rfl ⟨rfl, HP.out⟩
theorem Drop_none (k : ByteArray) (w : World) : Calls Try.prog 34 #[.pointer none, .string k] w fun e w' => e = .returned (.tuple #[]) ∧ w = w' := by
  have HE := Lib.hid (End_none k w)
  go_enter Try.func34, Try.ntmps34
  go_wp2_with fail
  refine HE.out.mono ?_
  rintro e w1 ⟨rfl, rfl⟩
  go_wp2_with fail
  first | (go_end0; exact ⟨rfl, rfl⟩) | exact bodyPost_ret (results_none rfl _ _ _) rfl ⟨rfl, rfl⟩
set_option maxRecDepth 100000 in
theorem Put (B : Nat) (M : List It) (F : List Nat) (k : ByteArray) (v : Int) (w : World) (h : IB w B M F) (sz : M.length < 1000000) (hk : k.size = 16) (hv : wf64 v) : Calls Try.prog 36 #[.pointer (some ⟨B, 0, none⟩), .string k, .int .i64 v] w fun e w' => e = .returned (.tuple #[]) ∧ ∃ F', IB w' B (insL k v M) F' ∧ Tn F F' w w' := by
  have HD := Lib.hid (Drop B M F k w h sz)
  have q : ((k.size : Int) != 16) = false := by rw [hk]; rfl
  have hK := Lib.hid hk
  have hsm : Srt M := by obtain ⟨K, r1, r2, F1, F2, h, hr, rfl⟩ := h; exact hr.m
  have HIns := Lib.hid (ins_del (k := k) v hsm)
  clear h hk hsm
  go_enter Try.func36, Try.ntmps36
  go_wp2_with fail
  refine HD.out.mono ?_
  rintro e w1 ⟨rfl, F', hI, ht⟩
  obtain ⟨K, r1, r2, F1, F2, h, hr, rfl⟩ := hI
  have hkl := hr.len
  have hdl := delL_len' k M
  have HR := Lib.hid (hr.put (e := v) ⟨hK.out, hv⟩ (get_del k))
  have HP := Lib.hid (h.putM k v (by omega))
  have HT := Lib.hid ht
  have hsz : K.length < 144115188075855872 := by omega
  clear h hr ht hkl hdl HD
  go_wp2_with fail
  refine HP.out.mono ?_
  rintro e w2 ⟨rfl, r1', F1', hI, ht⟩
  have HI := Lib.hid hI; have HT2 := Lib.hid (HT.out.trans ht)
  clear hI ht HP HT
  go_upto_region 3 with (fail)
  refine p3 (by kernel_rfl) _ _ w2 B _ K r1' r2 F1' F2 k v HI.out hsz hK hv rfl rfl rfl rfl ?_
  intro x w3 r2' F2' hI3 ht3
  simp only [Eng.setAll, Act.put, List.setIfInBounds_toArray, List.set_cons_succ, List.set_cons_zero]
  have HP : Hid (∃ F', IB w3 B (insL k v M) F' ∧ Tn F F' w w3) := ⟨_, ⟨_, r1', r2', F1', F2', by rw [← HIns.out]; exact hI3, by rw [← HIns.out]; exact HR.out, rfl⟩, HT2.out.trans ht3⟩
  clear hI3 ht3
  go_wp2_with fail
  first | (go_end0; exact ⟨rfl, HP.out⟩) | exact bodyPost_ret (results_none rfl _ _ _) rfl ⟨rfl, HP.out⟩
theorem Put_short (p : Option Addr) (k : ByteArray) (v : Int) (w : World) (hk : k.size ≠ 16) (hp : p = none ∨ ∃ B, p = some ⟨B, 0, none⟩) : Calls Try.prog 36 #[.pointer p, .string k, .int .i64 v] w fun e w' => e = .returned (.tuple #[]) ∧ w = w' := by
  have q : ((k.size : Int) != 16) = true := by simp; omega
  clear hk
  rcases hp with rfl | ⟨B, rfl⟩
  all_goals
    go_enter Try.func36, Try.ntmps36
    go_wp2_with fail
    first | (go_end0; exact ⟨rfl, rfl⟩) | exact bodyPost_ret (results_none rfl _ _ _) rfl ⟨rfl, rfl⟩
theorem Put_none (k : ByteArray) (v : Int) (w : World) : Calls Try.prog 36 #[.pointer none, .string k, .int .i64 v] w fun e w' => e = .returned (.tuple #[]) ∧ w = w' := by
  go_enter Try.func36, Try.ntmps36
  go_wp2_with fail
  first | (go_end0; exact ⟨rfl, rfl⟩) | exact bodyPost_ret (results_none rfl _ _ _) rfl ⟨rfl, rfl⟩
end Exp
end Go.Proofs.Ytkhhdadlpilbmaa
