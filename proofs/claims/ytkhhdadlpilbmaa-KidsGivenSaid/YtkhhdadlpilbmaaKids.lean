/- Spans by their parents: the index as an object in memory. -/
import Derived.Test.YtkhhdadlpilbmaaKidsP
import Derived.Test.YtkhhdadlpilbmaaAvlSI2
import Derived.Test.YtkhhdadlpilbmaaAvlSN2
import Derived.Test.YtkhhdadlpilbmaaKeyN
import Derived.Deep.RegionWith
import Derived.Deep.DeepCutAuto
namespace Go.Proofs.Ytkhhdadlpilbmaa
open Go.RowKit
namespace Kds
open KeyP SetP KidsP
attribute [local go_sem] Eng.ev Eng.getO_cons Eng.getO_nil
abbrev TX : TypeId := 31
abbrev cellsX (r1 : Option Addr) (n1 : Nat) (r2 : Option Addr) (n2 : Nat) : Array Value := #[.pointer r1, .int .i64 n1, .pointer r2, .int .i64 n2]
structure IY (w : World) (B : Nat) (M : List (ByteArray × Int)) (K : List (ByteArray × Unit)) (r1 r2 : Option Addr) (F1 F2 : List Nat) : Prop where
  blk : w.heap[B]? = some (.cells (cellsX r1 M.length r2 K.length) TX (0, 0))
  m1 : AvlSI.MapIn w r1 M F1
  m2 : AvlSN.MapIn w r2 K F2
  n1 : B ∉ F1
  n2 : B ∉ F2
  ap : ∀ x ∈ F1, x ∉ F2
section
variable {w w' : World} {B : Nat} {M : List (ByteArray × Int)} {K : List (ByteArray × Unit)} {r1 r2 : Option Addr} {F1 F2 : List Nat}
theorem IY.lt (h : IY w B M K r1 r2 F1 F2) : ∀ b ∈ B :: (F1 ++ F2), b < w.heap.size := by
  intro b hb
  simp only [List.mem_cons, List.mem_append] at hb
  rcases hb with rfl | hb | hb
  · exact lt_of_heap h.blk
  · exact h.m1.lt b hb
  · exact h.m2.lt b hb
theorem IY.fr {S : Nat → Prop} (h : IY w B M K r1 r2 F1 F2) (hf : Fr S w w') (hs : ∀ b ∈ B :: (F1 ++ F2), ¬ S b) : IY w' B M K r1 r2 F1 F2 :=
  ⟨(hf.block B (lt_of_heap h.blk) (hs B (by simp))).trans h.blk, h.m1.fr hf (fun b hb => hs b (by simp [hb])), h.m2.fr hf (fun b hb => hs b (by simp [hb])), h.n1, h.n2, h.ap⟩
theorem IY.cells (h : IY w B M K r1 r2 F1 F2) : w.cell? ⟨B, 0, none⟩ = some (.pointer r1) ∧ w.cell? ⟨B, 1, none⟩ = some (.int .i64 M.length) ∧ w.cell? ⟨B, 2, none⟩ = some (.pointer r2) ∧ w.cell? ⟨B, 3, none⟩ = some (.int .i64 K.length) :=
  ⟨cell_of_block h.blk 0, cell_of_block h.blk 1, cell_of_block h.blk 2, cell_of_block h.blk 3⟩
theorem IY.turn1 {M' : List (ByteArray × Int)} {r1' : Option Addr} {F1' : List Nat} (h : IY w B M K r1 r2 F1 F2) (hb : w'.heap[B]? = some (.cells (cellsX r1' M'.length r2 K.length) TX (0, 0))) (hm : AvlSI.MapIn w' r1' M' F1') (hs : ∀ x ∈ F1', x ∈ F1 ∨ w.heap.size ≤ x) (hf : Fr (fun x => x = B ∨ x ∈ F1) w w') :
    IY w' B M' K r1' r2 F1' F2 ∧ Tn (B :: (F1 ++ F2)) (B :: (F1' ++ F2)) w w' := by
  have hlt := h.lt
  have i2 : IY w' B M' K r1' r2 F1' F2 := by
    refine ⟨hb, hm, h.m2.fr hf (fun b hb' e => ?_), fun e => ?_, h.n2, fun x hx hx2 => ?_⟩
    · rcases e with rfl | e
      · exact h.n2 hb'
      · exact h.ap b e hb'
    · rcases hs B e with e | e
      · exact h.n1 e
      · have := lt_of_heap h.blk; omega
    · rcases hs x hx with e | e
      · exact h.ap x e hx2
      · have := h.m2.lt x hx2; omega
  refine ⟨i2, hf.mono (fun i _ e => by rcases e with rfl | e; simp; simp [e]), fun x hx => ⟨?_, i2.lt x hx⟩⟩
  simp only [List.mem_cons, List.mem_append] at hx ⊢
  rcases hx with rfl | hx | hx
  · exact .inl (.inl rfl)
  · exact (hs x hx).elim (fun e => .inl (.inr (.inl e))) .inr
  · exact .inl (.inr (.inr hx))
theorem IY.turn2 {K' : List (ByteArray × Unit)} {r2' : Option Addr} {F2' : List Nat} (h : IY w B M K r1 r2 F1 F2) (hb : w'.heap[B]? = some (.cells (cellsX r1 M.length r2' K'.length) TX (0, 0))) (hm : AvlSN.MapIn w' r2' K' F2') (hs : ∀ x ∈ F2', x ∈ F2 ∨ w.heap.size ≤ x) (hf : Fr (fun x => x = B ∨ x ∈ F2) w w') :
    IY w' B M K' r1 r2' F1 F2' ∧ Tn (B :: (F1 ++ F2)) (B :: (F1 ++ F2')) w w' := by
  have hlt := h.lt
  have i2 : IY w' B M K' r1 r2' F1 F2' := by
    refine ⟨hb, h.m1.fr hf (fun b hb' e => ?_), hm, h.n1, fun e => ?_, fun x hx hx2 => ?_⟩
    · rcases e with rfl | e
      · exact h.n1 hb'
      · exact h.ap b hb' e
    · rcases hs B e with e | e
      · exact h.n2 e
      · have := lt_of_heap h.blk; omega
    · rcases hs x hx2 with e | e
      · exact h.ap x hx e
      · have := h.m1.lt x hx; omega
  refine ⟨i2, hf.mono (fun i _ e => by rcases e with rfl | e; simp; simp [e]), fun x hx => ⟨?_, i2.lt x hx⟩⟩
  simp only [List.mem_cons, List.mem_append] at hx ⊢
  rcases hx with rfl | hx | hx
  · exact .inl (.inl rfl)
  · exact .inl (.inr (.inl hx))
  · exact (hs x hx).elim (fun e => .inl (.inr (.inr e))) .inr
theorem IY.dropM (h : IY w B M K r1 r2 F1 F2) (k : ByteArray) (sz : M.length < 144115188075855872) : Calls Try.prog 64 #[.pointer (some ⟨B, 0, none⟩), .string k] w fun e w' => e = .returned (.bool (hasL k M)) ∧ ∃ r1' F1', IY w' B (delL k M) K r1' r2 F1' F2 ∧ Tn (B :: (F1 ++ F2)) (B :: (F1' ++ F2)) w w' := by
  refine (AvlSI.Drop B 0 _ TX k r1 M F1 w h.blk rfl rfl h.m1 h.n1 sz).mono ?_
  rintro e w' ⟨r', F', rfl, hb, hm, hs, hf⟩
  exact ⟨rfl, r', F', h.turn1 hb hm (fun x hx => .inl (hs x hx)) hf⟩
theorem IY.putM (h : IY w B M K r1 r2 F1 F2) (k : ByteArray) (v : Int) (sz : M.length < 144115188075855872) : Calls Try.prog 70 #[.pointer (some ⟨B, 0, none⟩), .string k, .int .i64 v] w fun e w' => e = .returned (.bool (!hasL k M)) ∧ ∃ r1' F1', IY w' B (insL k v M) K r1' r2 F1' F2 ∧ Tn (B :: (F1 ++ F2)) (B :: (F1' ++ F2)) w w' := by
  refine (AvlSI.Put B 0 _ TX k v r1 M F1 w h.blk rfl rfl h.m1 h.n1 sz).mono ?_
  rintro e w' ⟨r', F', rfl, hb, hm, hs, hf⟩
  exact ⟨rfl, r', F', h.turn1 hb hm hs hf⟩
theorem IY.dropK (h : IY w B M K r1 r2 F1 F2) (k : ByteArray) (sz : K.length < 144115188075855872) : Calls Try.prog 66 #[.pointer (some ⟨B, 2, none⟩), .string k] w fun e w' => e = .returned (.bool (hasL k K)) ∧ ∃ r2' F2', IY w' B M (delL k K) r1 r2' F1 F2' ∧ Tn (B :: (F1 ++ F2)) (B :: (F1 ++ F2')) w w' := by
  refine (AvlSN.Drop B 2 _ TX k r2 K F2 w h.blk rfl rfl h.m2 h.n2 sz).mono ?_
  rintro e w' ⟨r', F', rfl, hb, hm, hs, hf⟩
  exact ⟨rfl, r', F', h.turn2 hb hm (fun x hx => .inl (hs x hx)) hf⟩
theorem IY.putK (h : IY w B M K r1 r2 F1 F2) (k : ByteArray) (sz : K.length < 144115188075855872) : Calls Try.prog 72 #[.pointer (some ⟨B, 2, none⟩), .string k, .agg #[]] w fun e w' => e = .returned (.bool (!hasL k K)) ∧ ∃ r2' F2', IY w' B M (insL k () K) r1 r2' F1 F2' ∧ Tn (B :: (F1 ++ F2)) (B :: (F1 ++ F2')) w w' := by
  refine (AvlSN.Put B 2 _ TX k () r2 K F2 w h.blk rfl rfl h.m2 h.n2 sz).mono ?_
  rintro e w' ⟨r', F', rfl, hb, hm, hs, hf⟩
  exact ⟨rfl, r', F', h.turn2 hb hm hs hf⟩
theorem IY.get (h : IY w B M K r1 r2 F1 F2) (k : ByteArray) : Calls Try.prog 74 #[.pointer (some ⟨B, 0, none⟩), .string k] w fun e w' => e = .returned (.tuple #[.int .i64 ((getL k M).getD 0), .bool (getL k M).isSome]) ∧ w = w' :=
  AvlSI.Get_map k B 0 r1 M F1 w h.m1 h.cells.1
end
/-- The index in block B, with the spans L. -/
def IB (w : World) (B : Nat) (L : List Sn) (F : List Nat) : Prop := ∃ K r1 r2 F1 F2, IY w B (mp (fun x => x.p) L) K r1 r2 F1 F2 ∧ Rel L K ∧ F = B :: (F1 ++ F2)
theorem IB.lt {w : World} {B : Nat} {L : List Sn} {F : List Nat} (h : IB w B L F) : ∀ b ∈ F, b < w.heap.size := by obtain ⟨K, r1, r2, F1, F2, h, -, rfl⟩ := h; exact h.lt
theorem IB.fr {S : Nat → Prop} {w w' : World} {B : Nat} {L : List Sn} {F : List Nat} (h : IB w B L F) (hf : Fr S w w') (hs : ∀ b ∈ F, ¬ S b) : IB w' B L F := by
  obtain ⟨K, r1, r2, F1, F2, h, hr, rfl⟩ := h
  exact ⟨K, r1, r2, F1, F2, h.fr hf hs, hr, rfl⟩
theorem IB.new (w : World) : IB (w.alloc (.cells (cellsX none 0 none 0) TX)) w.heap.size [] [w.heap.size] :=
  ⟨[], none, none, [], [], ⟨heap_new _ _, AvlSI.MapIn.nil _, AvlSN.MapIn.nil _, by simp, by simp, by simp⟩, Rel.nil, rfl⟩
theorem IB.rel {w : World} {B : Nat} {L : List Sn} {F : List Nat} (h : IB w B L F) : Srs L ∧ (∀ x ∈ L, gd x) ∧ ∀ x ∈ L, bare x := by obtain ⟨K, r1, r2, F1, F2, h, hr, rfl⟩ := h; exact ⟨hr.s, hr.g, hr.b⟩
theorem IB.get {w : World} {B : Nat} {L : List Sn} {F : List Nat} (h : IB w B L F) {t i : Int} (ht : wf64 t) (hi : wf64 i) : Calls Try.prog 74 #[.pointer (some ⟨B, 0, none⟩), .string (key2 t i)] w fun e w' => e = .returned (.tuple #[.int .i64 (((fnd (sn t i 0) L).map (·.p)).getD 0), .bool (fnd (sn t i 0) L).isSome]) ∧ w = w' := by
  obtain ⟨K, r1, r2, F1, F2, h, hr, rfl⟩ := h
  have hg := h.get (key2 t i)
  rw [show key2 t i = kk (sn t i 0) from rfl, get_mp (x := sn t i 0) ⟨ht, hi⟩ hr.gk, Option.isSome_map] at hg
  exact hg
theorem Of' {a b : Int} (ha : wf64 a) (hb : wf64 b) (w : World) : Calls Try.prog 65 #[.int .i64 a, .int .i64 b] w fun e w' => e = .returned (.string (key2 a b)) ∧ Fr (fun _ => False) w w' :=
  (Key.Of ha hb w).mono (fun _ _ ⟨h, hb⟩ => ⟨h, (Fr.of_below hb).mono (fun i hi h => by omega)⟩)
theorem Span' (x : Sn) (ha : wf64 x.t) (hb : wf64 x.i) (w : World) : Calls Try.prog 71 #[x.v] w fun e w' => e = .returned (.string (key2 x.t x.i)) ∧ Fr (fun _ => False) w w' :=
  (Key.Span x ha hb w).mono (fun _ _ ⟨h, hb⟩ => ⟨h, (Fr.of_below hb).mono (fun i hi h => by omega)⟩)
/-- The index, as it was at first. -/
structure KS (w0 w : World) (B : Nat) (L : List Sn) (F : List Nat) : Prop where
  ib : IB w B L F
  f : Fr (fun _ => False) w0 w
theorem KS.fr {w0 w w' : World} {B : Nat} {L : List Sn} {F : List Nat} (h : KS w0 w B L F) (hf : Fr (fun _ => False) w w') : KS w0 w' B L F := ⟨h.ib.fr hf (fun _ _ h => h), h.f.trans hf (fun _ _ h => h) (fun _ _ h => h)⟩
set_option maxRecDepth 100000 in
set_option maxHeartbeats 400000 in
theorem a3 {ops : Array Oper} (hops : Eng.fnOps Try.f19 3 = ops) (a0 : Act) (Q : Exit → Act → World → Prop) (w0 w : World) (B : Nat) (L : List Sn) (F : List Nat) (t i : Int) (hst : KS w0 w B L F) (ht : wf64 t) (hi : wf64 i)
    (hn : a0.tmps.size = 19) (h_0 : a0.tmps.getD 0 undef = .pointer (some ⟨B, 0, none⟩)) (h_1 : a0.tmps.getD 1 undef = .int .i64 t) (h_2 : a0.tmps.getD 2 undef = .int .i64 i)
    (hpost : ∀ (x : Nat → Value) (w' : World), x 6 = .int .i64 (((fnd (sn t i 0) L).map (·.p)).getD 0) → x 7 = .bool (fnd (sn t i 0) L).isSome → KS w0 w' B L F → Q .normal (Eng.setAll a0 [6, 7, 10, 11, 12, 13, 14, 15, 16, 17, 18] x) w') :
    (Code.region 3 ops true).wp Try.prog Q a0 w := by
  simp only [Eng.fnOps, Eng.regOps, Try.f19, Option.bind_some, Option.getD_some, Nat.reduceEqDiff, ↓reduceIte, Nat.reduceBEq] at hops
  subst hops
  have HSt := Lib.hid (hst.fr (Fr.drew _ _))
  have hSS : True := trivial
  refine Eng.regionT (.take 0 (.take 1 (.take 2 (.take 3 (.take 4 (.alt 5 (.alt 6 (.take 7 (.take 8 (.take 9 (.take 10 (.done))))) (.stop)) (.stop))))))) (fun w' => True) (by kernel_rfl) 19 hn (by kernel_rfl) (by kernel_rfl) (by kernel_rfl) (hSS) (fun a b ha hb => ?_)
  subst ha
  have hb0 : b 0 = .pointer (some ⟨B, 0, none⟩) := (hb 0).symm.trans h_0
  have hb1 : b 1 = .int .i64 t := (hb 1).symm.trans h_1
  have hb2 : b 2 = .int .i64 i := (hb 2).symm.trans h_2
  clear hb h_0 h_1 h_2
  have HP := Lib.hid hpost; have HN := Lib.hid hn
  clear hpost hn
  refine Eng.TW.take' (v := ?_) rfl rfl (by decide) (by kernel_rfl) (fun w hw => ?_) ?_
  rotate_left
  · (try dsimp only at hw); go_simp; first | done | with_reducible rfl
  refine Eng.TW.take' (v := ?_) rfl rfl (by decide) (by kernel_rfl) (fun w hw => ?_) ?_
  rotate_left
  · (try dsimp only at hw); go_simp; first | done | with_reducible rfl
  refine Eng.TW.take' (v := ?_) rfl rfl (by decide) (by kernel_rfl) (fun w hw => ?_) ?_
  rotate_left
  · (try dsimp only at hw); go_simp; first | done | with_reducible rfl
  refine Eng.TW.take' (v := ?_) rfl rfl (by decide) (by kernel_rfl) (fun w hw => ?_) ?_
  rotate_left
  · (try dsimp only at hw); go_simp; first | done | with_reducible rfl
  refine Eng.TW.take' (v := ?_) rfl rfl (by decide) (by kernel_rfl) (fun w hw => ?_) ?_
  rotate_left
  · (try dsimp only at hw); go_simp; first | done | with_reducible rfl
  refine Eng.TW.call rfl rfl (by decide) (by kernel_rfl) ?_ (Of' ht hi _) ?_
  · go_simp
  rintro e w2 ⟨rfl, hf⟩
  have HSt2 := Lib.hid (HSt.out.fr hf)
  have hSS : True := trivial
  clear hf
  refine ⟨_, rfl, hSS, ?_⟩
  refine Eng.TW.call rfl rfl (by decide) (by kernel_rfl) ?_ (HSt2.out.ib.get ht hi) ?_
  · go_simp
  rintro e w_3 ⟨rfl, rfl⟩
  refine ⟨_, rfl, hSS, ?_⟩
  refine Eng.TW.take' (v := ?_) rfl rfl (by decide) (by kernel_rfl) (fun w hw => ?_) ?_
  rotate_left
  · (try dsimp only at hw); go_simp; first | done | with_reducible rfl
  refine Eng.TW.take' (v := ?_) rfl rfl (by decide) (by kernel_rfl) (fun w hw => ?_) ?_
  rotate_left
  · (try dsimp only at hw); go_simp; first | done | with_reducible rfl
  refine Eng.TW.take' (v := ?_) rfl rfl (by decide) (by kernel_rfl) (fun w hw => ?_) ?_
  rotate_left
  · (try dsimp only at hw); go_simp; first | done | with_reducible rfl
  refine Eng.TW.take' (v := ?_) rfl rfl (by decide) (by kernel_rfl) (fun w hw => ?_) ?_
  rotate_left
  · (try dsimp only at hw); go_simp; first | done | with_reducible rfl
  refine Eng.TW.end_ [6, 7, 10, 11, 12, 13, 14, 15, 16, 17, 18] HN.out (by kernel_rfl) (by kernel_rfl) ?_
  exact HP.out _ _ rfl rfl HSt2.out

set_option maxRecDepth 100000 in
theorem Parent (B : Nat) (L : List Sn) (F : List Nat) (t i : Int) (w : World) (h : IB w B L F) (ht : wf64 t) (hi : wf64 i) : Calls Try.prog 19 #[.pointer (some ⟨B, 0, none⟩), .int .i64 t, .int .i64 i] w fun e w' => e = .returned (.tuple #[.int .i64 (((fnd (sn t i 0) L).map (·.p)).getD 0), .bool (fnd (sn t i 0) L).isSome]) ∧ Fr (fun _ => False) w w' := by
  have H := Lib.hid h; have HT := Lib.hid ht; have HI := Lib.hid hi
  clear h ht hi
  go_enter Try.func19, Try.ntmps19
  go_upto_region 3 with (fail)
  refine a3 (by kernel_rfl) _ _ w w B L F t i ⟨H.out, Fr.refl _ _⟩ HT.out HI.out rfl rfl rfl rfl ?_
  intro x w' e6 e7 hst
  simp only [Eng.setAll, Act.put, List.setIfInBounds_toArray, List.set_cons_succ, List.set_cons_zero]
  rw [e6, e7]
  have HF := Lib.hid hst.f
  clear hst e6 e7
  go_wp2_with fail
  go_ret2
  exact ⟨rfl, HF.out⟩
theorem Parent_none (t i : Int) (w : World) : Calls Try.prog 19 #[.pointer none, .int .i64 t, .int .i64 i] w fun e w' => e = .returned (.tuple #[.int .i64 0, .bool false]) ∧ w = w' := by
  go_enter Try.func19, Try.ntmps19
  go_wp2_with fail
  go_ret2
  exact ⟨rfl, rfl⟩
set_option maxRecDepth 100000 in
set_option maxHeartbeats 400000 in
theorem d3 {ops : Array Oper} (hops : Eng.fnOps Try.f15 3 = ops) (a0 : Act) (Q : Exit → Act → World → Prop) (w : World) (B : Nat) (M : List (ByteArray × Int)) (K : List (ByteArray × Unit)) (r1 r2 : Option Addr) (F1 F2 : List Nat) (t i : Int) (hst : IY w B M K r1 r2 F1 F2) (sz : M.length < 144115188075855872) (ht : wf64 t) (hi : wf64 i)
    (hn : a0.tmps.size = 33) (h_0 : a0.tmps.getD 0 undef = .pointer (some ⟨B, 0, none⟩)) (h_1 : a0.tmps.getD 1 undef = .int .i64 t) (h_2 : a0.tmps.getD 2 undef = .int .i64 i)
    (hpost : ∀ (x : Nat → Value) (w' : World) (r1' : Option Addr) (F1' : List Nat), IY w' B (delL (key2 t i) M) K r1' r2 F1' F2 → Tn (B :: (F1 ++ F2)) (B :: (F1' ++ F2)) w w' → Q .normal (Eng.setAll a0 [17, 18, 19, 20, 21, 22, 23] x) w') :
    (Code.region 3 ops true).wp Try.prog Q a0 w := by
  simp only [Eng.fnOps, Eng.regOps, Try.f15, Option.bind_some, Option.getD_some, Nat.reduceEqDiff, ↓reduceIte, Nat.reduceBEq] at hops
  subst hops
  have HSt := Lib.hid (hst.fr (Fr.drew (fun _ => False) w) (fun _ _ h => h))
  have hSS : True := trivial
  refine Eng.regionT (.take 0 (.take 1 (.take 2 (.take 3 (.take 4 (.alt 5 (.alt 6 (.done) (.stop)) (.stop))))))) (fun w' => True) (by kernel_rfl) 33 hn (by kernel_rfl) (by kernel_rfl) (by kernel_rfl) (hSS) (fun a b ha hb => ?_)
  subst ha
  have hb0 : b 0 = .pointer (some ⟨B, 0, none⟩) := (hb 0).symm.trans h_0
  have hb1 : b 1 = .int .i64 t := (hb 1).symm.trans h_1
  have hb2 : b 2 = .int .i64 i := (hb 2).symm.trans h_2
  clear hb h_0 h_1 h_2
  have HP := Lib.hid hpost; have HN := Lib.hid hn
  clear hpost hn
  refine Eng.TW.take' (v := ?_) rfl rfl (by decide) (by kernel_rfl) (fun w hw => ?_) ?_
  rotate_left
  · (try dsimp only at hw); go_simp; first | done | with_reducible rfl
  refine Eng.TW.take' (v := ?_) rfl rfl (by decide) (by kernel_rfl) (fun w hw => ?_) ?_
  rotate_left
  · (try dsimp only at hw); go_simp; first | done | with_reducible rfl
  refine Eng.TW.take' (v := ?_) rfl rfl (by decide) (by kernel_rfl) (fun w hw => ?_) ?_
  rotate_left
  · (try dsimp only at hw); go_simp; first | done | with_reducible rfl
  refine Eng.TW.take' (v := ?_) rfl rfl (by decide) (by kernel_rfl) (fun w hw => ?_) ?_
  rotate_left
  · (try dsimp only at hw); go_simp; first | done | with_reducible rfl
  refine Eng.TW.take' (v := ?_) rfl rfl (by decide) (by kernel_rfl) (fun w hw => ?_) ?_
  rotate_left
  · (try dsimp only at hw); go_simp; first | done | with_reducible rfl
  refine Eng.TW.call rfl rfl (by decide) (by kernel_rfl) ?_ (Of' ht hi _) ?_
  · go_simp
  rintro e w2 ⟨rfl, hf⟩
  have HF := Lib.hid ((Fr.drew (fun _ => False) w).trans hf (T := fun _ => False) (fun _ _ h => h) (fun _ _ h => h))
  have HSt2 := Lib.hid (HSt.out.fr hf (fun _ _ h => h))
  have hSS : True := trivial
  clear hf
  refine ⟨_, rfl, hSS, ?_⟩
  refine Eng.TW.call rfl rfl (by decide) (by kernel_rfl) ?_ (HSt2.out.dropM (key2 t i) sz) ?_
  · go_simp
  rintro e w3 ⟨rfl, r1', F1', hI, hT⟩
  have HT := Lib.hid ((Tn.of_fr HF.out hst.lt).trans hT)
  have HSt3 := Lib.hid (hI)
  have hSS : True := trivial
  clear hT hI
  refine ⟨_, rfl, hSS, ?_⟩
  refine Eng.TW.end_ [17, 18, 19, 20, 21, 22, 23] HN.out (by kernel_rfl) (by kernel_rfl) ?_
  exact HP.out _ _ r1' F1' HSt3.out HT.out

set_option maxRecDepth 100000 in
set_option maxHeartbeats 400000 in
theorem d4 {ops : Array Oper} (hops : Eng.fnOps Try.f15 4 = ops) (a0 : Act) (Q : Exit → Act → World → Prop) (w : World) (B : Nat) (M : List (ByteArray × Int)) (K : List (ByteArray × Unit)) (r1 r2 : Option Addr) (F1 F2 : List Nat) (t p i : Int) (hst : IY w B M K r1 r2 F1 F2) (sz : K.length < 144115188075855872) (ht : wf64 t) (hp : wf64 p) (hi : wf64 i)
    (hn : a0.tmps.size = 33) (h_0 : a0.tmps.getD 0 undef = .pointer (some ⟨B, 0, none⟩)) (h_1 : a0.tmps.getD 1 undef = .int .i64 t) (h_2 : a0.tmps.getD 2 undef = .int .i64 i) (h_7 : a0.tmps.getD 7 undef = .int .i64 p)
    (hpost : ∀ (x : Nat → Value) (w' : World) (r2' : Option Addr) (F2' : List Nat), IY w' B M (delL (key3 t p i) K) r1 r2' F1 F2' → Tn (B :: (F1 ++ F2)) (B :: (F1 ++ F2')) w w' → Q .normal (Eng.setAll a0 [24, 25, 26, 27, 28, 29, 30, 31] x) w') :
    (Code.region 4 ops true).wp Try.prog Q a0 w := by
  simp only [Eng.fnOps, Eng.regOps, Try.f15, Option.bind_some, Option.getD_some, Nat.reduceEqDiff, ↓reduceIte, Nat.reduceBEq] at hops
  subst hops
  have HSt := Lib.hid (hst.fr (Fr.drew (fun _ => False) w) (fun _ _ h => h))
  have hSS : True := trivial
  refine Eng.regionT (.take 0 (.take 1 (.take 2 (.take 3 (.take 4 (.take 5 (.alt 6 (.alt 7 (.done) (.stop)) (.stop)))))))) (fun w' => True) (by kernel_rfl) 33 hn (by kernel_rfl) (by kernel_rfl) (by kernel_rfl) (hSS) (fun a b ha hb => ?_)
  subst ha
  have hb0 : b 0 = .pointer (some ⟨B, 0, none⟩) := (hb 0).symm.trans h_0
  have hb1 : b 1 = .int .i64 t := (hb 1).symm.trans h_1
  have hb2 : b 2 = .int .i64 i := (hb 2).symm.trans h_2
  have hb7 : b 7 = .int .i64 p := (hb 7).symm.trans h_7
  clear hb h_0 h_1 h_2 h_7
  have HP := Lib.hid hpost; have HN := Lib.hid hn
  clear hpost hn
  refine Eng.TW.take' (v := ?_) rfl rfl (by decide) (by kernel_rfl) (fun w hw => ?_) ?_
  rotate_left
  · (try dsimp only at hw); go_simp; first | done | with_reducible rfl
  refine Eng.TW.take' (v := ?_) rfl rfl (by decide) (by kernel_rfl) (fun w hw => ?_) ?_
  rotate_left
  · (try dsimp only at hw); go_simp; first | done | with_reducible rfl
  refine Eng.TW.take' (v := ?_) rfl rfl (by decide) (by kernel_rfl) (fun w hw => ?_) ?_
  rotate_left
  · (try dsimp only at hw); go_simp; first | done | with_reducible rfl
  refine Eng.TW.take' (v := ?_) rfl rfl (by decide) (by kernel_rfl) (fun w hw => ?_) ?_
  rotate_left
  · (try dsimp only at hw); go_simp; first | done | with_reducible rfl
  refine Eng.TW.take' (v := ?_) rfl rfl (by decide) (by kernel_rfl) (fun w hw => ?_) ?_
  rotate_left
  · (try dsimp only at hw); go_simp; first | done | with_reducible rfl
  refine Eng.TW.take' (v := ?_) rfl rfl (by decide) (by kernel_rfl) (fun w hw => ?_) ?_
  rotate_left
  · (try dsimp only at hw); go_simp; first | done | with_reducible rfl
  refine Eng.TW.call rfl rfl (by decide) (by kernel_rfl) ?_ (Key.link ht hp hi _) ?_
  · go_simp
  rintro e w2 ⟨rfl, hf⟩
  have HF := Lib.hid ((Fr.drew (fun _ => False) w).trans hf (T := fun _ => False) (fun _ _ h => h) (fun _ _ h => h))
  have HSt2 := Lib.hid (HSt.out.fr hf (fun _ _ h => h))
  have hSS : True := trivial
  clear hf
  refine ⟨_, rfl, hSS, ?_⟩
  refine Eng.TW.call rfl rfl (by decide) (by kernel_rfl) ?_ (HSt2.out.dropK (key3 t p i) sz) ?_
  · go_simp
  rintro e w3 ⟨rfl, r2', F2', hI, hT⟩
  have HT := Lib.hid ((Tn.of_fr HF.out hst.lt).trans hT)
  have HSt3 := Lib.hid (hI)
  have hSS : True := trivial
  clear hT hI
  refine ⟨_, rfl, hSS, ?_⟩
  refine Eng.TW.end_ [24, 25, 26, 27, 28, 29, 30, 31] HN.out (by kernel_rfl) (by kernel_rfl) ?_
  exact HP.out _ _ r2' F2' HSt3.out HT.out

/-- A record lies there. -/
def At (w : World) (b o : Nat) (x : Sn) : Prop := ∀ j u, x.cs[j]? = some u → w.cell? ⟨b, o + j, none⟩ = some u
theorem At.lt {w : World} {b o : Nat} {x : Sn} (h : At w b o x) : b < w.heap.size := World.block_lt_of_cell? w ⟨b, o + 0, none⟩ (h 0 _ rfl)
theorem At.fr {S : Nat → Prop} {w w' : World} {b o : Nat} {x : Sn} (h : At w b o x) (hf : Fr S w w') (hs : ¬ S b) : At w' b o x := fun j u hu => (World.cell?_of_block (w := w) (a := ⟨b, o + j, none⟩) (hf.block b h.lt hs)).trans (h j u hu)
/-- The index, and a record in a box. -/
structure IZ (w : World) (B : Nat) (M : List (ByteArray × Int)) (K : List (ByteArray × Unit)) (r1 r2 : Option Addr) (F1 F2 : List Nat) (Bx : Nat) (q : Sn) : Prop where
  i : IY w B M K r1 r2 F1 F2
  b : At w Bx 0 q
  nb : ∀ b ∈ B :: (F1 ++ F2), b ≠ Bx
theorem IZ.fr {w w' : World} {B : Nat} {M : List (ByteArray × Int)} {K : List (ByteArray × Unit)} {r1 r2 : Option Addr} {F1 F2 : List Nat} {Bx : Nat} {q : Sn} (h : IZ w B M K r1 r2 F1 F2 Bx q) (hf : Fr (fun _ => False) w w') : IZ w' B M K r1 r2 F1 F2 Bx q := ⟨h.i.fr hf (fun _ _ h => h), h.b.fr hf (fun h => h), h.nb⟩
theorem IZ.turn {w w' : World} {B : Nat} {M M' : List (ByteArray × Int)} {K K' : List (ByteArray × Unit)} {r1 r2 r1' r2' : Option Addr} {F1 F2 F1' F2' : List Nat} {Bx : Nat} {q : Sn} (h : IZ w B M K r1 r2 F1 F2 Bx q) (hi : IY w' B M' K' r1' r2' F1' F2') (ht : Tn (B :: (F1 ++ F2)) (B :: (F1' ++ F2')) w w') : IZ w' B M' K' r1' r2' F1' F2' Bx q :=
  ⟨hi, h.b.fr ht.fr (fun e => h.nb Bx e rfl), fun b hb e => by
    subst e
    rcases (ht.sub b hb).1 with e | e
    · exact h.nb b e rfl
    · have := h.b.lt; omega⟩
set_option maxRecDepth 100000 in
set_option maxHeartbeats 400000 in
theorem p3 {ops : Array Oper} (hops : Eng.fnOps Try.f17 3 = ops) (a0 : Act) (Q : Exit → Act → World → Prop) (w : World) (B : Nat) (M : List (ByteArray × Int)) (K : List (ByteArray × Unit)) (r1 r2 : Option Addr) (F1 F2 : List Nat) (Bx : Nat) (q : Sn) (hst : IZ w B M K r1 r2 F1 F2 Bx q) (sz : M.length < 144115188075855872) (hg : gd q)
    (hn : a0.tmps.size = 32) (h_0 : a0.tmps.getD 0 undef = .pointer (some ⟨B, 0, none⟩)) (h_3 : a0.tmps.getD 3 undef = .pointer (some ⟨Bx, 0, none⟩))
    (hpost : ∀ (x : Nat → Value) (w' : World) (r1' : Option Addr) (F1' : List Nat), IZ w' B (insL (key2 q.t q.i) q.p M) K r1' r2 F1' F2 Bx q → Tn (B :: (F1 ++ F2)) (B :: (F1' ++ F2)) w w' → Q .normal (Eng.setAll a0 [12, 13, 14, 15, 16, 17, 18, 19] x) w') :
    (Code.region 3 ops true).wp Try.prog Q a0 w := by
  simp only [Eng.fnOps, Eng.regOps, Try.f17, Option.bind_some, Option.getD_some, Nat.reduceEqDiff, ↓reduceIte, Nat.reduceBEq] at hops
  subst hops
  have HSt := Lib.hid (hst.fr (Fr.drew (fun _ => False) w))
  have hSS : w.drew.cell? ⟨Bx, 0, none⟩ = some (.int .i64 q.t) ∧ w.drew.cell? ⟨Bx, 1, none⟩ = some (.int .i64 q.i) ∧ w.drew.cell? ⟨Bx, 2, none⟩ = some (.int .i64 q.p) ∧ w.drew.cell? ⟨Bx, 3, none⟩ = some (.int .i64 q.r) ∧ w.drew.cell? ⟨Bx, 4, none⟩ = some (.string q.s) ∧ w.drew.cell? ⟨Bx, 5, none⟩ = some (.string q.o) ∧ w.drew.cell? ⟨Bx, 6, none⟩ = some (.int .i64 q.b) ∧ w.drew.cell? ⟨Bx, 7, none⟩ = some (.int .i64 q.d) ∧ w.drew.cell? ⟨Bx, 8, none⟩ = some (.bool q.g) := ⟨HSt.out.b 0 _ rfl, HSt.out.b 1 _ rfl, HSt.out.b 2 _ rfl, HSt.out.b 3 _ rfl, HSt.out.b 4 _ rfl, HSt.out.b 5 _ rfl, HSt.out.b 6 _ rfl, HSt.out.b 7 _ rfl, HSt.out.b 8 _ rfl⟩
  refine Eng.regionT (.take 0 (.take 1 (.take 2 (.take 3 (.take 5 (.take 6 (.alt 4 (.alt 7 (.done) (.stop)) (.stop)))))))) (fun w' => w'.cell? ⟨Bx, 0, none⟩ = some (.int .i64 q.t) ∧ w'.cell? ⟨Bx, 1, none⟩ = some (.int .i64 q.i) ∧ w'.cell? ⟨Bx, 2, none⟩ = some (.int .i64 q.p) ∧ w'.cell? ⟨Bx, 3, none⟩ = some (.int .i64 q.r) ∧ w'.cell? ⟨Bx, 4, none⟩ = some (.string q.s) ∧ w'.cell? ⟨Bx, 5, none⟩ = some (.string q.o) ∧ w'.cell? ⟨Bx, 6, none⟩ = some (.int .i64 q.b) ∧ w'.cell? ⟨Bx, 7, none⟩ = some (.int .i64 q.d) ∧ w'.cell? ⟨Bx, 8, none⟩ = some (.bool q.g)) (by kernel_rfl) 32 hn (by kernel_rfl) (by kernel_rfl) (by kernel_rfl) (hSS) (fun a b ha hb => ?_)
  subst ha
  have hb0 : b 0 = .pointer (some ⟨B, 0, none⟩) := (hb 0).symm.trans h_0
  have hb3 : b 3 = .pointer (some ⟨Bx, 0, none⟩) := (hb 3).symm.trans h_3
  clear hb h_0 h_3
  have HP := Lib.hid hpost; have HN := Lib.hid hn
  clear hpost hn
  refine Eng.TW.take' (v := ?_) rfl rfl (by decide) (by kernel_rfl) (fun w hw => ?_) ?_
  rotate_left
  · (try dsimp only at hw); go_simp; first | done | with_reducible rfl
  refine Eng.TW.take' (v := ?_) rfl rfl (by decide) (by kernel_rfl) (fun w hw => ?_) ?_
  rotate_left
  · (try dsimp only at hw); go_simp; first | done | with_reducible rfl
  refine Eng.TW.take' (v := ?_) rfl rfl (by decide) (by kernel_rfl) (fun w hw => ?_) ?_
  rotate_left
  · (try dsimp only at hw); go_simp; first | done | with_reducible rfl
  refine Eng.TW.take' (v := ?_) rfl rfl (by decide) (by kernel_rfl) (fun w hw => ?_) ?_
  rotate_left
  · (try dsimp only at hw); go_simp; first | done | with_reducible rfl
  refine Eng.TW.take' (v := ?_) rfl rfl (by decide) (by kernel_rfl) (fun w hw => ?_) ?_
  rotate_left
  · (try dsimp only at hw); go_simp; first | done | with_reducible rfl
  refine Eng.TW.take' (v := ?_) rfl rfl (by decide) (by kernel_rfl) (fun w hw => ?_) ?_
  rotate_left
  · (try dsimp only at hw); go_simp; first | done | with_reducible rfl
  refine Eng.TW.call rfl rfl (by decide) (by kernel_rfl) ?_ (Span' q hg.1 hg.2.1 _) ?_
  · go_simp
  rintro e w2 ⟨rfl, hf⟩
  have HF := Lib.hid ((Fr.drew (fun _ => False) w).trans hf (T := fun _ => False) (fun _ _ h => h) (fun _ _ h => h))
  have HSt2 := Lib.hid (HSt.out.fr hf)
  have hSS : w2.cell? ⟨Bx, 0, none⟩ = some (.int .i64 q.t) ∧ w2.cell? ⟨Bx, 1, none⟩ = some (.int .i64 q.i) ∧ w2.cell? ⟨Bx, 2, none⟩ = some (.int .i64 q.p) ∧ w2.cell? ⟨Bx, 3, none⟩ = some (.int .i64 q.r) ∧ w2.cell? ⟨Bx, 4, none⟩ = some (.string q.s) ∧ w2.cell? ⟨Bx, 5, none⟩ = some (.string q.o) ∧ w2.cell? ⟨Bx, 6, none⟩ = some (.int .i64 q.b) ∧ w2.cell? ⟨Bx, 7, none⟩ = some (.int .i64 q.d) ∧ w2.cell? ⟨Bx, 8, none⟩ = some (.bool q.g) := ⟨HSt2.out.b 0 _ rfl, HSt2.out.b 1 _ rfl, HSt2.out.b 2 _ rfl, HSt2.out.b 3 _ rfl, HSt2.out.b 4 _ rfl, HSt2.out.b 5 _ rfl, HSt2.out.b 6 _ rfl, HSt2.out.b 7 _ rfl, HSt2.out.b 8 _ rfl⟩
  clear hf
  refine ⟨_, rfl, hSS, ?_⟩
  refine Eng.TW.call rfl rfl (by decide) (by kernel_rfl) ?_ (HSt2.out.i.putM (key2 q.t q.i) q.p sz) ?_
  · go_simp
  rintro e w3 ⟨rfl, r1', F1', hI, hT⟩
  have HT := Lib.hid ((Tn.of_fr HF.out hst.i.lt).trans hT)
  have HSt3 := Lib.hid (HSt2.out.turn hI hT)
  have hSS : w3.cell? ⟨Bx, 0, none⟩ = some (.int .i64 q.t) ∧ w3.cell? ⟨Bx, 1, none⟩ = some (.int .i64 q.i) ∧ w3.cell? ⟨Bx, 2, none⟩ = some (.int .i64 q.p) ∧ w3.cell? ⟨Bx, 3, none⟩ = some (.int .i64 q.r) ∧ w3.cell? ⟨Bx, 4, none⟩ = some (.string q.s) ∧ w3.cell? ⟨Bx, 5, none⟩ = some (.string q.o) ∧ w3.cell? ⟨Bx, 6, none⟩ = some (.int .i64 q.b) ∧ w3.cell? ⟨Bx, 7, none⟩ = some (.int .i64 q.d) ∧ w3.cell? ⟨Bx, 8, none⟩ = some (.bool q.g) := ⟨HSt3.out.b 0 _ rfl, HSt3.out.b 1 _ rfl, HSt3.out.b 2 _ rfl, HSt3.out.b 3 _ rfl, HSt3.out.b 4 _ rfl, HSt3.out.b 5 _ rfl, HSt3.out.b 6 _ rfl, HSt3.out.b 7 _ rfl, HSt3.out.b 8 _ rfl⟩
  clear hT hI
  refine ⟨_, rfl, hSS, ?_⟩
  refine Eng.TW.end_ [12, 13, 14, 15, 16, 17, 18, 19] HN.out (by kernel_rfl) (by kernel_rfl) ?_
  exact HP.out _ _ r1' F1' HSt3.out HT.out

set_option maxRecDepth 100000 in
set_option maxHeartbeats 400000 in
theorem p4 {ops : Array Oper} (hops : Eng.fnOps Try.f17 4 = ops) (a0 : Act) (Q : Exit → Act → World → Prop) (w : World) (B : Nat) (M : List (ByteArray × Int)) (K : List (ByteArray × Unit)) (r1 r2 : Option Addr) (F1 F2 : List Nat) (Bx : Nat) (q : Sn) (hst : IZ w B M K r1 r2 F1 F2 Bx q) (sz : K.length < 144115188075855872) (hg : gd q)
    (hn : a0.tmps.size = 32) (h_0 : a0.tmps.getD 0 undef = .pointer (some ⟨B, 0, none⟩)) (h_3 : a0.tmps.getD 3 undef = .pointer (some ⟨Bx, 0, none⟩))
    (hpost : ∀ (x : Nat → Value) (w' : World) (r2' : Option Addr) (F2' : List Nat), IZ w' B M (insL (key3 q.t q.p q.i) () K) r1 r2' F1 F2' Bx q → Tn (B :: (F1 ++ F2)) (B :: (F1 ++ F2')) w w' → Q .normal (Eng.setAll a0 [20, 21, 22, 23, 24, 25, 26, 27, 28, 29, 30, 31] x) w') :
    (Code.region 4 ops true).wp Try.prog Q a0 w := by
  simp only [Eng.fnOps, Eng.regOps, Try.f17, Option.bind_some, Option.getD_some, Nat.reduceEqDiff, ↓reduceIte, Nat.reduceBEq] at hops
  subst hops
  have HSt := Lib.hid (hst.fr (Fr.drew (fun _ => False) w))
  have hSS : w.drew.cell? ⟨Bx, 0, none⟩ = some (.int .i64 q.t) ∧ w.drew.cell? ⟨Bx, 1, none⟩ = some (.int .i64 q.i) ∧ w.drew.cell? ⟨Bx, 2, none⟩ = some (.int .i64 q.p) ∧ w.drew.cell? ⟨Bx, 3, none⟩ = some (.int .i64 q.r) ∧ w.drew.cell? ⟨Bx, 4, none⟩ = some (.string q.s) ∧ w.drew.cell? ⟨Bx, 5, none⟩ = some (.string q.o) ∧ w.drew.cell? ⟨Bx, 6, none⟩ = some (.int .i64 q.b) ∧ w.drew.cell? ⟨Bx, 7, none⟩ = some (.int .i64 q.d) ∧ w.drew.cell? ⟨Bx, 8, none⟩ = some (.bool q.g) := ⟨HSt.out.b 0 _ rfl, HSt.out.b 1 _ rfl, HSt.out.b 2 _ rfl, HSt.out.b 3 _ rfl, HSt.out.b 4 _ rfl, HSt.out.b 5 _ rfl, HSt.out.b 6 _ rfl, HSt.out.b 7 _ rfl, HSt.out.b 8 _ rfl⟩
  refine Eng.regionT (.take 0 (.take 1 (.take 2 (.take 3 (.take 4 (.take 5 (.take 6 (.take 7 (.take 8 (.take 10 (.alt 9 (.alt 11 (.done) (.stop)) (.stop)))))))))))) (fun w' => w'.cell? ⟨Bx, 0, none⟩ = some (.int .i64 q.t) ∧ w'.cell? ⟨Bx, 1, none⟩ = some (.int .i64 q.i) ∧ w'.cell? ⟨Bx, 2, none⟩ = some (.int .i64 q.p) ∧ w'.cell? ⟨Bx, 3, none⟩ = some (.int .i64 q.r) ∧ w'.cell? ⟨Bx, 4, none⟩ = some (.string q.s) ∧ w'.cell? ⟨Bx, 5, none⟩ = some (.string q.o) ∧ w'.cell? ⟨Bx, 6, none⟩ = some (.int .i64 q.b) ∧ w'.cell? ⟨Bx, 7, none⟩ = some (.int .i64 q.d) ∧ w'.cell? ⟨Bx, 8, none⟩ = some (.bool q.g)) (by kernel_rfl) 32 hn (by kernel_rfl) (by kernel_rfl) (by kernel_rfl) (hSS) (fun a b ha hb => ?_)
  subst ha
  have hb0 : b 0 = .pointer (some ⟨B, 0, none⟩) := (hb 0).symm.trans h_0
  have hb3 : b 3 = .pointer (some ⟨Bx, 0, none⟩) := (hb 3).symm.trans h_3
  clear hb h_0 h_3
  have HP := Lib.hid hpost; have HN := Lib.hid hn
  clear hpost hn
  refine Eng.TW.take' (v := ?_) rfl rfl (by decide) (by kernel_rfl) (fun w hw => ?_) ?_
  rotate_left
  · (try dsimp only at hw); go_simp; first | done | with_reducible rfl
  refine Eng.TW.take' (v := ?_) rfl rfl (by decide) (by kernel_rfl) (fun w hw => ?_) ?_
  rotate_left
  · (try dsimp only at hw); go_simp; first | done | with_reducible rfl
  refine Eng.TW.take' (v := ?_) rfl rfl (by decide) (by kernel_rfl) (fun w hw => ?_) ?_
  rotate_left
  · (try dsimp only at hw); go_simp; first | done | with_reducible rfl
  refine Eng.TW.take' (v := ?_) rfl rfl (by decide) (by kernel_rfl) (fun w hw => ?_) ?_
  rotate_left
  · (try dsimp only at hw); go_simp; first | done | with_reducible rfl
  refine Eng.TW.take' (v := ?_) rfl rfl (by decide) (by kernel_rfl) (fun w hw => ?_) ?_
  rotate_left
  · (try dsimp only at hw); go_simp; first | done | with_reducible rfl
  refine Eng.TW.take' (v := ?_) rfl rfl (by decide) (by kernel_rfl) (fun w hw => ?_) ?_
  rotate_left
  · (try dsimp only at hw); go_simp; first | done | with_reducible rfl
  refine Eng.TW.take' (v := ?_) rfl rfl (by decide) (by kernel_rfl) (fun w hw => ?_) ?_
  rotate_left
  · (try dsimp only at hw); go_simp; first | done | with_reducible rfl
  refine Eng.TW.take' (v := ?_) rfl rfl (by decide) (by kernel_rfl) (fun w hw => ?_) ?_
  rotate_left
  · (try dsimp only at hw); go_simp; first | done | with_reducible rfl
  refine Eng.TW.take' (v := ?_) rfl rfl (by decide) (by kernel_rfl) (fun w hw => ?_) ?_
  rotate_left
  · (try dsimp only at hw); go_simp; first | done | with_reducible rfl
  refine Eng.TW.take' (v := ?_) rfl rfl (by decide) (by kernel_rfl) (fun w hw => ?_) ?_
  rotate_left
  · (try dsimp only at hw); go_simp; first | done | with_reducible rfl
  refine Eng.TW.call rfl rfl (by decide) (by kernel_rfl) ?_ (Key.link hg.1 hg.2.2 hg.2.1 _) ?_
  · go_simp
  rintro e w2 ⟨rfl, hf⟩
  have HF := Lib.hid ((Fr.drew (fun _ => False) w).trans hf (T := fun _ => False) (fun _ _ h => h) (fun _ _ h => h))
  have HSt2 := Lib.hid (HSt.out.fr hf)
  have hSS : w2.cell? ⟨Bx, 0, none⟩ = some (.int .i64 q.t) ∧ w2.cell? ⟨Bx, 1, none⟩ = some (.int .i64 q.i) ∧ w2.cell? ⟨Bx, 2, none⟩ = some (.int .i64 q.p) ∧ w2.cell? ⟨Bx, 3, none⟩ = some (.int .i64 q.r) ∧ w2.cell? ⟨Bx, 4, none⟩ = some (.string q.s) ∧ w2.cell? ⟨Bx, 5, none⟩ = some (.string q.o) ∧ w2.cell? ⟨Bx, 6, none⟩ = some (.int .i64 q.b) ∧ w2.cell? ⟨Bx, 7, none⟩ = some (.int .i64 q.d) ∧ w2.cell? ⟨Bx, 8, none⟩ = some (.bool q.g) := ⟨HSt2.out.b 0 _ rfl, HSt2.out.b 1 _ rfl, HSt2.out.b 2 _ rfl, HSt2.out.b 3 _ rfl, HSt2.out.b 4 _ rfl, HSt2.out.b 5 _ rfl, HSt2.out.b 6 _ rfl, HSt2.out.b 7 _ rfl, HSt2.out.b 8 _ rfl⟩
  clear hf
  refine ⟨_, rfl, hSS, ?_⟩
  refine Eng.TW.call rfl rfl (by decide) (by kernel_rfl) ?_ (HSt2.out.i.putK (key3 q.t q.p q.i) sz) ?_
  · go_simp
  rintro e w3 ⟨rfl, r2', F2', hI, hT⟩
  have HT := Lib.hid ((Tn.of_fr HF.out hst.i.lt).trans hT)
  have HSt3 := Lib.hid (HSt2.out.turn hI hT)
  have hSS : w3.cell? ⟨Bx, 0, none⟩ = some (.int .i64 q.t) ∧ w3.cell? ⟨Bx, 1, none⟩ = some (.int .i64 q.i) ∧ w3.cell? ⟨Bx, 2, none⟩ = some (.int .i64 q.p) ∧ w3.cell? ⟨Bx, 3, none⟩ = some (.int .i64 q.r) ∧ w3.cell? ⟨Bx, 4, none⟩ = some (.string q.s) ∧ w3.cell? ⟨Bx, 5, none⟩ = some (.string q.o) ∧ w3.cell? ⟨Bx, 6, none⟩ = some (.int .i64 q.b) ∧ w3.cell? ⟨Bx, 7, none⟩ = some (.int .i64 q.d) ∧ w3.cell? ⟨Bx, 8, none⟩ = some (.bool q.g) := ⟨HSt3.out.b 0 _ rfl, HSt3.out.b 1 _ rfl, HSt3.out.b 2 _ rfl, HSt3.out.b 3 _ rfl, HSt3.out.b 4 _ rfl, HSt3.out.b 5 _ rfl, HSt3.out.b 6 _ rfl, HSt3.out.b 7 _ rfl, HSt3.out.b 8 _ rfl⟩
  clear hT hI
  refine ⟨_, rfl, hSS, ?_⟩
  refine Eng.TW.end_ [20, 21, 22, 23, 24, 25, 26, 27, 28, 29, 30, 31] HN.out (by kernel_rfl) (by kernel_rfl) ?_
  exact HP.out _ _ r2' F2' HSt3.out HT.out

set_option maxRecDepth 100000 in
theorem Drop (B : Nat) (L : List Sn) (F : List Nat) (t i : Int) (w : World) (h : IB w B L F) (ht : wf64 t) (hi : wf64 i) (sz : L.length < 1000000) : Calls Try.prog 15 #[.pointer (some ⟨B, 0, none⟩), .int .i64 t, .int .i64 i] w fun e w' => e = .returned (.bool (fnd (sn t i 0) L).isSome) ∧ ∃ F', IB w' B (out t i L) F' ∧ Tn F F' w w' := by
  have HE := Lib.hid (Parent B L F t i w h ht hi)
  have H := Lib.hid h
  have HT := Lib.hid ht; have HI := Lib.hid hi
  clear h
  cases hf : fnd (sn t i 0) L with
  | none =>
    have HO : Hid (out t i L = L) := out_fnd (x := sn t i 0) hf
    rw [hf] at HE
    clear hf ht hi
    go_enter Try.func15, Try.ntmps15
    go_wp2_with fail
    refine HE.out.mono ?_
    rintro e w1 ⟨rfl, hf⟩
    have HF := Lib.hid hf
    clear hf
    dsimp only [Option.isSome_none, Option.map_none, Option.getD_none]
    go_wp2_with fail
    go_ret
    rw [HO.out]
    exact ⟨rfl, F, H.out.fr HF.out (fun _ _ h => h), Tn.of_fr HF.out H.out.lt⟩
  | some y =>
    obtain ⟨hy, hk⟩ := fnd_some hf
    obtain ⟨k1, k2⟩ := one_iff.1 hk
    have HL := Lib.hid H.out.lt
    obtain ⟨K, r1, r2, F1, F2, hiy, hr, rfl⟩ := H.out
    have hg := hr.g y hy
    have HKL := hr.len
    have HD : Hid (delL (key2 t i) (mp (fun x => x.p) L) = mp (fun x => x.p) (out t i L)) := del_mp (x := sn t i 0) ⟨ht, hi⟩ hr.gk
    have HR : Hid (Rel (out t i L) (delL (key3 t y.p i) K)) := by
      have h := hr.drop hy
      rw [k1, k2, show k3 y = key3 t y.p i by unfold k3; rw [k1, k2]] at h
      exact h
    have hp : wf64 y.p := hg.2.2
    have HIY := Lib.hid hiy
    rw [hf] at HE
    clear hf hy hk k1 k2 hg hr hiy H
    dsimp only [Option.isSome_some, Option.map_some, Option.getD_some] at HE ⊢
    have hlm : (mp (fun x => x.p) L).length = L.length := List.length_map _
    have HLm := Lib.hid hlm
    clear hlm
    generalize y.p = p at *
    go_enter Try.func15, Try.ntmps15
    go_wp2_with fail
    refine HE.out.mono ?_
    rintro e w1 ⟨rfl, hf⟩
    have HF := Lib.hid hf
    have H1 := Lib.hid (HIY.out.fr hf (fun _ _ h => h))
    clear hf
    go_upto_region 3 with (fail)
    refine d3 (by kernel_rfl) _ _ w1 B _ K r1 r2 F1 F2 t i H1.out (by have := HLm.out; omega) ht hi rfl rfl rfl rfl ?_
    intro x w2 r1' F1' hI2 hT2
    simp only [Eng.setAll, Act.put, List.setIfInBounds_toArray, List.set_cons_succ, List.set_cons_zero]
    have H2 := Lib.hid hI2; have HT2 := Lib.hid hT2
    clear hI2 hT2
    go_upto_region 4 with (fail)
    refine d4 (by kernel_rfl) _ _ w2 B _ K r1' r2 F1' F2 t p i H2.out (by omega) ht hp hi rfl rfl rfl rfl rfl ?_
    intro x w3 r2' F2' hI3 hT3
    simp only [Eng.setAll, Act.put, List.setIfInBounds_toArray, List.set_cons_succ, List.set_cons_zero]
    have hI3' := hI3
    rw [HD.out] at hI3'
    have HP : Hid (∃ F', IB w3 B (out t i L) F' ∧ Tn (B :: (F1 ++ F2)) F' w w3) := ⟨_, ⟨_, r1', r2', F1', F2', hI3', HR.out, rfl⟩, ((Tn.of_fr HF.out HL.out).trans HT2.out).trans hT3⟩
    clear hI3 hT3 hI3'
    go_wp2_with fail
    go_ret
    exact ⟨rfl, HP.out⟩
theorem Drop_none (t i : Int) (w : World) : Calls Try.prog 15 #[.pointer none, .int .i64 t, .int .i64 i] w fun e w' => e = .returned (.bool false) ∧ w = w' := by
  have HE := Lib.hid (Parent_none t i w)
  go_enter Try.func15, Try.ntmps15
  go_wp2_with fail
  refine HE.out.mono ?_
  rintro e w1 ⟨rfl, rfl⟩
  go_wp2_with fail
  go_ret
  exact ⟨rfl, rfl⟩
set_option maxRecDepth 100000 in
theorem Put (B : Nat) (L : List Sn) (F : List Nat) (x : Sn) (w : World) (h : IB w B L F) (hg : gd x) (sz : L.length < 1000000) : Calls Try.prog 17 #[.pointer (some ⟨B, 0, none⟩), x.v] w fun e w' => e = .returned (.tuple #[]) ∧ ∃ F', IB w' B (putK x L) F' ∧ Tn F F' w w' := by
  have h0 := h.fr (Fr.alloc (fun _ => False) w (.cells x.arr 38)) (fun _ _ h => h)
  have HD := Lib.hid (Drop B L F x.t x.i _ h0 hg.1 hg.2.1 sz)
  have HL := Lib.hid h.lt
  have hBx : ∀ b ∈ F, b ≠ w.heap.size := fun b hb e => by have := h.lt b hb; omega
  have HBx := Lib.hid hBx
  have HAt : Hid (At (w.alloc (.cells x.arr 38)) w.heap.size 0 x) := fun j u hu => by
    rw [(Bk.new w x.arr 38).cell, Nat.zero_add]
    have : x.arr[j]? = x.cs[j]? := by show x.cs.toArray[j]? = _; simp
    rw [this]; exact hu
  have HO := Lib.hid (ins_out (x := sn x.t x.i x.p) h.rel.1)
  have ho := out_len x.t x.i L
  have cx0 : (w.alloc (.cells x.arr 38)).cell? ⟨w.heap.size, 0, none⟩ = some (.int .i64 x.t) := HAt.out 0 _ rfl
  have cx1 : (w.alloc (.cells x.arr 38)).cell? ⟨w.heap.size, 1, none⟩ = some (.int .i64 x.i) := HAt.out 1 _ rfl
  have HFr : Hid (Fr (fun _ => False) w (w.alloc (.cells x.arr 38))) := Fr.alloc _ _ _
  clear h h0 hBx
  go_enter Try.func17, Try.ntmps17
  go_upto_region 2 with (fail)
  generalize w.alloc (.cells x.arr 38) = W0 at *
  generalize hBx : w.heap.size = Bx at *
  have HBq := Lib.hid hBx
  have HLw : Hid (∀ b ∈ F, b < w.heap.size) := fun b hb => by have := HL.out b hb; omega
  clear hBx
  go_wp2_with fail
  refine HD.out.mono ?_
  rintro e w1 ⟨rfl, F', hi, ht⟩
  obtain ⟨K, r1, r2, F1, F2, hiy, hr, rfl⟩ := hi
  have H1 : Hid (IZ w1 B (mp (fun x => x.p) (out x.t x.i L)) K r1 r2 F1 F2 Bx x) := ⟨hiy, HAt.out.fr ht.fr (fun e => HBx.out _ e rfl), fun b hb e => by
    subst e
    rcases (ht.sub b hb).1 with e | e
    · exact HBx.out b e rfl
    · have := HAt.out.lt; omega⟩
  have HT := Lib.hid ht
  have hgk : ∀ y ∈ out x.t x.i L, SetP.gk y := hr.gk
  have HI : Hid (insL (key2 x.t x.i) x.p (mp (fun x => x.p) (out x.t x.i L)) = mp (fun x => x.p) (putK x L)) := by
    have := ins_mp (f := fun x => x.p) (x := sn x.t x.i x.p) hr.s ⟨hg.1, hg.2.1⟩ hgk
    rw [HO.out] at this
    exact this
  have HR : Hid (Rel (putK x L) (insL (key3 x.t x.p x.i) () K)) := by
    have := hr.put (x := sn x.t x.i x.p) hg rfl (fnd_out (x := sn x.t x.i x.p))
    rw [HO.out] at this
    exact this
  have hkl := hr.len
  have hlm : (mp (fun x => x.p) (out x.t x.i L)).length = (out x.t x.i L).length := List.length_map _
  have HLm := Lib.hid hlm
  clear hiy ht hr hgk hlm HD cx0 cx1
  go_upto_region 3 with (fail)
  refine p3 (by kernel_rfl) _ _ w1 B _ K r1 r2 F1 F2 Bx x H1.out (by have := HLm.out; omega) hg rfl rfl rfl ?_
  intro z w2 r1' F1' hI2 hT2
  simp only [Eng.setAll, Act.put, List.setIfInBounds_toArray, List.set_cons_succ, List.set_cons_zero]
  have H2 := Lib.hid hI2; have HT2 := Lib.hid hT2
  clear hI2 hT2
  go_upto_region 4 with (fail)
  refine p4 (by kernel_rfl) _ _ w2 B _ K r1' r2 F1' F2 Bx x H2.out (by omega) hg rfl rfl rfl ?_
  intro z w3 r2' F2' hI3 hT3
  simp only [Eng.setAll, Act.put, List.setIfInBounds_toArray, List.set_cons_succ, List.set_cons_zero]
  have hI3' := hI3.i
  rw [HI.out] at hI3'
  have HP : Hid (∃ F', IB w3 B (putK x L) F' ∧ Tn F F' w w3) := ⟨_, ⟨_, r1', r2', F1', F2', hI3', HR.out, rfl⟩, (((Tn.of_fr HFr.out HLw.out).trans HT.out).trans HT2.out).trans hT3⟩
  clear hI3 hT3 hI3'
  go_wp2_with fail
  first | (go_end0; exact ⟨rfl, HP.out⟩) | exact bodyPost_ret (results_none rfl _ _ _) rfl ⟨rfl, HP.out⟩
theorem Put_none (x : Sn) (w : World) : Calls Try.prog 17 #[.pointer none, x.v] w fun e w' => e = .returned (.tuple #[]) ∧ Fr (fun _ => False) w w' := by
  have HF := Lib.hid (Fr.alloc (fun _ => False) w (.cells x.arr 38))
  go_enter Try.func17, Try.ntmps17
  go_wp2_with fail
  first | (go_end0; exact ⟨rfl, HF.out⟩) | exact bodyPost_ret (results_none rfl _ _ _) rfl ⟨rfl, HF.out⟩
end Kds
end Go.Proofs.Ytkhhdadlpilbmaa
