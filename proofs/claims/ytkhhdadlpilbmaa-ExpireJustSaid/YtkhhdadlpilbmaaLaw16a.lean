/- Layer 16's statements: awake, and ExpireIs: for every input the answer is true. -/
import Derived.Test.YtkhhdadlpilbmaaExp4
namespace Go.Proofs.Ytkhhdadlpilbmaa
open Go.RowKit
namespace Law16
open KeyP ExpP Ref16 Exp
attribute [local go_sem] Eng.ev Eng.getO_cons Eng.getO_nil
theorem sl_row (w : World) (t : TypeId) (cs : List Value) (n sz : Nat) (hs : cs.length = n * sz) (hn : n ≤ maxLen) : Sl (w.alloc (.cells cs.toArray t)) sz (some ⟨w.heap.size, 0, none⟩) n n cs := by
  refine ⟨hs, Nat.le_refl _, hn, (by simp), fun _ => ⟨_, 0, rfl, fun i u hu => ?_⟩⟩
  rw [Nat.zero_add, cell_of_block (heap_new w _)]
  simpa using hu
/-- awake's index. -/
structure A16 (w0 w : World) (B : Nat) (M : List It) (F : List Nat) : Prop where
  i : IB w B M F
  f : Fr (fun _ => False) w0 w
  lo : ∀ b ∈ F, w0.heap.size ≤ b
theorem A16.fr {w0 w w' : World} {B : Nat} {M : List It} {F : List Nat} (h : A16 w0 w B M F) (hf : Fr (fun _ => False) w w') : A16 w0 w' B M F := ⟨h.i.fr hf (fun _ _ h => h), h.f.trans hf (fun _ _ h => h) (fun _ _ h => h), h.lo⟩
theorem A16.turn {w0 w w' : World} {B : Nat} {M M' : List It} {F F' : List Nat} (h : A16 w0 w B M F) (hi : IB w' B M' F') (ht : Tn F F' w w') : A16 w0 w' B M' F' :=
  ⟨hi, h.f.trans ht.fr (fun _ _ h => h) (fun i hi hF => by have := h.lo i hF; omega), fun b hb => by
    rcases (ht.sub b hb).1 with hb | hb
    · exact h.lo b hb
    · have := h.f.size; omega⟩
structure IX (w0 w : World) (Bx : Nat) (a : Array Value) : Prop where
  b : Bk w Bx a Sat2.TSn
  f : Fr (fun _ => False) w0 w
theorem IX.fr {w0 w w' : World} {Bx : Nat} {a : Array Value} (h : IX w0 w Bx a) (hf : Fr (fun _ => False) w w') : IX w0 w' Bx a := ⟨h.b.fr hf (fun _ _ h => h), h.f.trans hf (fun _ _ h => h) (fun _ _ h => h)⟩
theorem aw_tt (A : Option Addr) (c : Nat) (t : Int) (l : List ByteArray) (ht : tt t L2 = l) (n : Nat) (hn : l.length = n) {w : World} (h : Sl w 1 A (belowR t L2).length c (strs (tt t L2))) : (belowR t L2).length = n ∧ Sl w 1 A n c (strs l) := by
  have e : (belowR t L2).length = n := by rw [← tt_len, ht, hn]
  rw [e, ht] at h
  exact ⟨e, h⟩
theorem aw_tell6 {w : World} {B : Nat} {F : List Nat} (h : IB w B L2 F) : Calls Try.prog 42 #[.pointer (some ⟨B, 0, none⟩), .int .i64 6] w fun e w' => ∃ A c, e = .returned (.slice A 2 c) ∧ Sl w' 1 A 2 c (strs [c2, c1]) ∧ Fr (fun _ => False) w w' := by
  refine (TellI h rl_L2 (by decide) 6).mono ?_
  rintro e w' ⟨A, c, he, hS, hf⟩
  obtain ⟨e1, h1⟩ := aw_tt A c 6 _ tt6 2 rfl hS
  rw [e1] at he
  exact ⟨A, c, he, h1, hf⟩
theorem aw_tell5 {w : World} {B : Nat} {F : List Nat} (h : IB w B L2 F) : Calls Try.prog 42 #[.pointer (some ⟨B, 0, none⟩), .int .i64 5] w fun e w' => ∃ A c, e = .returned (.slice A 1 c) ∧ Sl w' 1 A 1 c (strs [c2]) ∧ Fr (fun _ => False) w w' := by
  refine (TellI h rl_L2 (by decide) 5).mono ?_
  rintro e w' ⟨A, c, he, hS, hf⟩
  obtain ⟨e1, h1⟩ := aw_tt A c 5 _ tt5 1 rfl hS
  rw [e1] at he
  exact ⟨A, c, he, h1, hf⟩
theorem aw_row2 (w : World) : Sl (w.alloc (.cells #[.string c2, .string c1] Exp.TStr)) 1 (some ⟨w.heap.size, 0, none⟩) 2 2 (strs [c2, c1]) := sl_row w Exp.TStr (strs [c2, c1]) 2 1 rfl (by simp [maxLen])
theorem aw_row1 (w : World) : Sl (w.alloc (.cells #[.string c2] Exp.TStr)) 1 (some ⟨w.heap.size, 0, none⟩) 1 1 (strs [c2]) := sl_row w Exp.TStr (strs [c2]) 1 1 rfl (by simp [maxLen])
set_option maxRecDepth 100000 in
set_option maxHeartbeats 1000000 in
theorem awake (w : World) : Calls Try.prog 32 #[] w fun e w' => e = .returned (.bool true) ∧ Fr (fun _ => False) w w' := by
  have H0 : Hid (A16 w (w.alloc (.cells (cellsX none 0 none 0) TX)) w.heap.size [] [w.heap.size]) := ⟨IB.new w, Fr.alloc _ _ _, by simp⟩
  go_enter Try.func32, Try.ntmps32
  go_wp2_with fail
  generalize w.alloc (.cells (cellsX none 0 none 0) TX) = w1 at *
  generalize w.heap.size = B at *
  refine (Exp.Put B [] _ c1 5 _ H0.out.i (by decide) z1 (by unfold wf64; omega)).mono ?_
  rintro e w2 ⟨rfl, F2, hi, ht⟩
  have H2 := Lib.hid (H0.out.turn hi ht)
  clear hi ht H0
  go_wp2_with fail
  refine (Exp.Put B _ _ c2 3 _ H2.out.i (by decide +kernel) z2 (by unfold wf64; omega)).mono ?_
  rintro e w3 ⟨rfl, F3, hi, ht⟩
  have H3 := Lib.hid (H2.out.turn hi ht)
  clear hi ht H2
  go_wp2_with fail
  refine (Exp.Put B _ _ c2 4 _ H3.out.i (by decide +kernel) z2 (by unfold wf64; omega)).mono ?_
  rintro e w4 ⟨rfl, F4, hi, ht⟩
  rw [mL2] at hi
  have H4 := Lib.hid (H3.out.turn hi ht)
  clear hi ht H3
  go_wp2_with fail
  have HEn := Exp.End B L2 _ c2 _ H4.out.i
  rw [get2] at HEn
  refine HEn.mono ?_
  clear HEn
  rintro e w5 ⟨rfl, rfl⟩
  dsimp only [Option.getD_some, Option.isSome_some]
  go_wp2_with fail
  refine (aw_hor _).mono ?_
  rintro e w5 ⟨rfl, rfl⟩
  go_wp2_with fail
  refine (aw_p8 _).mono ?_
  rintro e w5 ⟨rfl, hf⟩
  have H5 := Lib.hid (H4.out.fr hf)
  clear hf H4
  go_wp2_with fail
  refine (aw_p7 _).mono ?_
  rintro e w6 ⟨rfl, hf⟩
  have H6 := Lib.hid (H5.out.fr hf)
  clear hf H5
  go_wp2_with fail
  refine (Exp.Len B L2 _ _ H6.out.i).mono ?_
  rintro e w7 ⟨rfl, rfl⟩
  go_wp2_with fail
  refine (aw_tell6 H6.out.i).mono ?_
  rintro e w7 ⟨A1, n1, rfl, hS, hf⟩
  have H7 := Lib.hid (H6.out.fr hf); have HS := Lib.hid hS
  clear hf hS H6
  go_wp2_with fail
  have HA := Lib.hid (Fr.alloc (fun _ => False) w7 (.cells #[.string c2, .string c1] Exp.TStr))
  refine (SameTT A1 _ n1 _ [c2, c1] _ 2 rfl (HS.out.fr HA.out (fun _ _ h => h)) (aw_row2 w7)).mono ?_
  rintro e w8 ⟨rfl, hf⟩
  have H8 := Lib.hid ((H7.out.fr HA.out).fr hf)
  clear hf H7 HA HS
  go_wp2_with fail
  refine (aw_tell5 H8.out.i).mono ?_
  rintro e w9 ⟨A2, n2, rfl, hS, hf⟩
  have H9 := Lib.hid (H8.out.fr hf); have HS := Lib.hid hS
  clear hf hS H8
  go_wp2_with fail
  have HA := Lib.hid (Fr.alloc (fun _ => False) w9 (.cells #[.string c2] Exp.TStr))
  refine (SameTT A2 _ n2 _ [c2] _ 1 rfl (HS.out.fr HA.out (fun _ _ h => h)) (aw_row1 w9)).mono ?_
  rintro e w10 ⟨rfl, hf⟩
  have H10 := Lib.hid ((H9.out.fr HA.out).fr hf)
  clear hf H9 HA HS
  go_wp2_with fail
  go_ret
  exact ⟨rfl, H10.out.f⟩
set_option maxRecDepth 100000 in
set_option maxHeartbeats 1000000 in
theorem ei2 {ops : Array Oper} (hops : Eng.fnOps Try.f6 2 = ops) (a0 : Act) (Q : Exit → Act → World → Prop) (w0 w : World) (Bx : Nat) (n0 n1 : Int) (t i p r : Int) (s o : ByteArray) (u d : Int) (g : Bool) (hst : IX w0 w Bx #[.int .i64 t, .int .i64 i, .int .i64 p, .int .i64 r, .string s, .string o, .int .i64 u, .int .i64 d, .bool g]) (hn0 : in64 n0) (hn1 : in64 n1) (hu : in64 u)
    (hn : a0.tmps.size = 37) (h_0 : a0.tmps.getD 0 undef = .int .i64 n0) (h_1 : a0.tmps.getD 1 undef = .int .i64 n1) (h_5 : a0.tmps.getD 5 undef = .pointer (some ⟨Bx, 0, none⟩)) (h_7 : a0.tmps.getD 7 undef = .int .i64 (Sat2.cl (n0 - max n1 0)))
    (hpost : ∀ (x : Nat → Value) (w' : World), x 6 = .bool true → Fr (fun _ => False) w0 w' → Q .normal (Eng.setAll a0 [6, 11, 12, 13, 14, 15, 16, 17, 18, 19, 20, 21, 22, 23, 24, 25, 26, 27, 28, 29, 30, 31, 32, 33, 34, 35, 36] x) w') :
    (Code.region 2 ops true).wp Try.prog Q a0 w := by
  simp only [Eng.fnOps, Eng.regOps, Try.f6, Option.bind_some, Option.getD_some, Nat.reduceEqDiff, ↓reduceIte, Nat.reduceBEq] at hops
  subst hops
  have q1 : (Sat2.cl (n0 - max n1 0) == Sat2.cl (n0 - max n1 0)) = true := by simp
  have q2 : (decide (Sat2.endS ⟨t, i, p, r, s, o, u, d, g⟩ < Sat2.cl (n0 - max n1 0)) == decide (Sat2.endS ⟨t, i, p, r, s, o, u, d, g⟩ < Sat2.cl (n0 - max n1 0))) = true := by simp
  have q3 : (decide (Sat2.endS ⟨t, i, p, r, s, o, u, d, g⟩ < n1) == decide (Sat2.endS ⟨t, i, p, r, s, o, u, d, g⟩ < n1)) = true := by simp
  have HSt := Lib.hid (hst.fr (Fr.drew _ _))
  have hSS : w.drew.cell? ⟨Bx, 0, none⟩ = some (.int .i64 t) ∧ w.drew.cell? ⟨Bx, 1, none⟩ = some (.int .i64 i) ∧ w.drew.cell? ⟨Bx, 2, none⟩ = some (.int .i64 p) ∧ w.drew.cell? ⟨Bx, 3, none⟩ = some (.int .i64 r) ∧ w.drew.cell? ⟨Bx, 4, none⟩ = some (.string s) ∧ w.drew.cell? ⟨Bx, 5, none⟩ = some (.string o) ∧ w.drew.cell? ⟨Bx, 6, none⟩ = some (.int .i64 u) ∧ w.drew.cell? ⟨Bx, 7, none⟩ = some (.int .i64 d) ∧ w.drew.cell? ⟨Bx, 8, none⟩ = some (.bool g) := ⟨HSt.out.b.cell 0, HSt.out.b.cell 1, HSt.out.b.cell 2, HSt.out.b.cell 3, HSt.out.b.cell 4, HSt.out.b.cell 5, HSt.out.b.cell 6, HSt.out.b.cell 7, HSt.out.b.cell 8⟩
  refine Eng.regionT (.take 0 (.take 1 (.take 2 (.alt 3 (.take 4 (.take 5 (.take 6 (.take 7 (.take 9 (.take 10 (.alt 8 (.alt 11 (.take 12 (.take 13 (.take 14 (.take 15 (.take 16 (.take 18 (.take 19 (.alt 17 (.alt 20 (.take 21 (.take 22 (.take 23 (.alt 24 (.take 25 (.take 26 (.done))) (.stop))))) (.stop)) (.stop))))))))) (.stop)) (.stop)))))))) (.stop))))) (fun w' => w'.cell? ⟨Bx, 0, none⟩ = some (.int .i64 t) ∧ w'.cell? ⟨Bx, 1, none⟩ = some (.int .i64 i) ∧ w'.cell? ⟨Bx, 2, none⟩ = some (.int .i64 p) ∧ w'.cell? ⟨Bx, 3, none⟩ = some (.int .i64 r) ∧ w'.cell? ⟨Bx, 4, none⟩ = some (.string s) ∧ w'.cell? ⟨Bx, 5, none⟩ = some (.string o) ∧ w'.cell? ⟨Bx, 6, none⟩ = some (.int .i64 u) ∧ w'.cell? ⟨Bx, 7, none⟩ = some (.int .i64 d) ∧ w'.cell? ⟨Bx, 8, none⟩ = some (.bool g)) (by kernel_rfl) 37 hn (by kernel_rfl) (by kernel_rfl) (by kernel_rfl) (hSS) (fun a b ha hb => ?_)
  subst ha
  have hb0 : b 0 = .int .i64 n0 := (hb 0).symm.trans h_0
  have hb1 : b 1 = .int .i64 n1 := (hb 1).symm.trans h_1
  have hb5 : b 5 = .pointer (some ⟨Bx, 0, none⟩) := (hb 5).symm.trans h_5
  have hb7 : b 7 = .int .i64 (Sat2.cl (n0 - max n1 0)) := (hb 7).symm.trans h_7
  clear hb h_0 h_1 h_5 h_7
  have HP := Lib.hid hpost; have HN := Lib.hid hn
  clear hpost hn
  refine Eng.TW.take' (v := ?_) rfl rfl (by decide) (by kernel_rfl) (fun w hw => ?_) ?_
  rotate_left
  · (try dsimp only at hw); go_simp; first | done | with_reducible rfl
  refine Eng.TW.take' (v := ?_) rfl rfl (by decide) (by kernel_rfl) (fun w hw => ?_) ?_
  rotate_left
  · (try dsimp only at hw); go_simp; first | done | with_reducible rfl
  refine Eng.TW.take' (v := ?_) rfl rfl (by decide) (by kernel_rfl) (fun w hw => ?_) ?_
  rotate_left
  · (try dsimp only at hw); go_simp; first | done | with_reducible rfl
  refine Eng.TW.call rfl rfl (by decide) (by kernel_rfl) ?_ (RefHorizon n0 n1 hn0 hn1 _) ?_
  · go_simp
  rintro e w_2 ⟨rfl, rfl⟩
  refine ⟨_, rfl, hSS, ?_⟩
  refine Eng.TW.take' (v := ?_) rfl rfl (by decide) (by kernel_rfl) (fun w hw => ?_) ?_
  rotate_left
  · (try dsimp only at hw); go_simp; first | done | with_reducible rfl
  refine Eng.TW.take' (v := ?_) rfl rfl (by decide) (by kernel_rfl) (fun w hw => ?_) ?_
  rotate_left
  · (try dsimp only at hw); go_simp; first | done | with_reducible rfl
  refine Eng.TW.take' (v := ?_) rfl rfl (by decide) (by kernel_rfl) (fun w hw => ?_) ?_
  rotate_left
  · (try dsimp only at hw); go_simp; first | done | with_reducible rfl
  refine Eng.TW.take' (v := ?_) rfl rfl (by decide) (by kernel_rfl) (fun w hw => ?_) ?_
  rotate_left
  · (try dsimp only at hw); go_simp; first | done | with_reducible rfl
  refine Eng.TW.take' (v := ?_) rfl rfl (by decide) (by kernel_rfl) (fun w hw => ?_) ?_
  rotate_left
  · (try dsimp only at hw); go_simp; first | done | with_reducible rfl
  refine Eng.TW.take' (v := ?_) rfl rfl (by decide) (by kernel_rfl) (fun w hw => ?_) ?_
  rotate_left
  · (try dsimp only at hw); go_simp; first | done | with_reducible rfl
  refine Eng.TW.call rfl rfl (by decide) (by kernel_rfl) ?_ (Past ⟨t, i, p, r, s, o, u, d, g⟩ hu (Sat2.cl (n0 - max n1 0)) _) ?_
  · go_simp
  rintro e w3 ⟨rfl, hf⟩
  have HSt3 := Lib.hid (HSt.out.fr hf)
  have hSS : w3.cell? ⟨Bx, 0, none⟩ = some (.int .i64 t) ∧ w3.cell? ⟨Bx, 1, none⟩ = some (.int .i64 i) ∧ w3.cell? ⟨Bx, 2, none⟩ = some (.int .i64 p) ∧ w3.cell? ⟨Bx, 3, none⟩ = some (.int .i64 r) ∧ w3.cell? ⟨Bx, 4, none⟩ = some (.string s) ∧ w3.cell? ⟨Bx, 5, none⟩ = some (.string o) ∧ w3.cell? ⟨Bx, 6, none⟩ = some (.int .i64 u) ∧ w3.cell? ⟨Bx, 7, none⟩ = some (.int .i64 d) ∧ w3.cell? ⟨Bx, 8, none⟩ = some (.bool g) := ⟨HSt3.out.b.cell 0, HSt3.out.b.cell 1, HSt3.out.b.cell 2, HSt3.out.b.cell 3, HSt3.out.b.cell 4, HSt3.out.b.cell 5, HSt3.out.b.cell 6, HSt3.out.b.cell 7, HSt3.out.b.cell 8⟩
  clear hf
  refine ⟨_, rfl, hSS, ?_⟩
  refine Eng.TW.call rfl rfl (by decide) (by kernel_rfl) ?_ (RefPast ⟨t, i, p, r, s, o, u, d, g⟩ hu (Sat2.cl (n0 - max n1 0)) _) ?_
  · go_simp
  rintro e w4 ⟨rfl, hf⟩
  have HSt4 := Lib.hid (HSt3.out.fr hf)
  have hSS : w4.cell? ⟨Bx, 0, none⟩ = some (.int .i64 t) ∧ w4.cell? ⟨Bx, 1, none⟩ = some (.int .i64 i) ∧ w4.cell? ⟨Bx, 2, none⟩ = some (.int .i64 p) ∧ w4.cell? ⟨Bx, 3, none⟩ = some (.int .i64 r) ∧ w4.cell? ⟨Bx, 4, none⟩ = some (.string s) ∧ w4.cell? ⟨Bx, 5, none⟩ = some (.string o) ∧ w4.cell? ⟨Bx, 6, none⟩ = some (.int .i64 u) ∧ w4.cell? ⟨Bx, 7, none⟩ = some (.int .i64 d) ∧ w4.cell? ⟨Bx, 8, none⟩ = some (.bool g) := ⟨HSt4.out.b.cell 0, HSt4.out.b.cell 1, HSt4.out.b.cell 2, HSt4.out.b.cell 3, HSt4.out.b.cell 4, HSt4.out.b.cell 5, HSt4.out.b.cell 6, HSt4.out.b.cell 7, HSt4.out.b.cell 8⟩
  clear hf
  refine ⟨_, rfl, hSS, ?_⟩
  refine Eng.TW.take' (v := ?_) rfl rfl (by decide) (by kernel_rfl) (fun w hw => ?_) ?_
  rotate_left
  · (try dsimp only at hw); go_simp; first | done | with_reducible rfl
  refine Eng.TW.take' (v := ?_) rfl rfl (by decide) (by kernel_rfl) (fun w hw => ?_) ?_
  rotate_left
  · (try dsimp only at hw); go_simp; first | done | with_reducible rfl
  refine Eng.TW.take' (v := ?_) rfl rfl (by decide) (by kernel_rfl) (fun w hw => ?_) ?_
  rotate_left
  · (try dsimp only at hw); go_simp; first | done | with_reducible rfl
  refine Eng.TW.take' (v := ?_) rfl rfl (by decide) (by kernel_rfl) (fun w hw => ?_) ?_
  rotate_left
  · (try dsimp only at hw); go_simp; first | done | with_reducible rfl
  refine Eng.TW.take' (v := ?_) rfl rfl (by decide) (by kernel_rfl) (fun w hw => ?_) ?_
  rotate_left
  · (try dsimp only at hw); go_simp; first | done | with_reducible rfl
  refine Eng.TW.take' (v := ?_) rfl rfl (by decide) (by kernel_rfl) (fun w hw => ?_) ?_
  rotate_left
  · (try dsimp only at hw); go_simp; first | done | with_reducible rfl
  refine Eng.TW.take' (v := ?_) rfl rfl (by decide) (by kernel_rfl) (fun w hw => ?_) ?_
  rotate_left
  · (try dsimp only at hw); go_simp; first | done | with_reducible rfl
  refine Eng.TW.call rfl rfl (by decide) (by kernel_rfl) ?_ (Past ⟨t, i, p, r, s, o, u, d, g⟩ hu n1 _) ?_
  · go_simp
  rintro e w5 ⟨rfl, hf⟩
  have HSt5 := Lib.hid (HSt4.out.fr hf)
  have hSS : w5.cell? ⟨Bx, 0, none⟩ = some (.int .i64 t) ∧ w5.cell? ⟨Bx, 1, none⟩ = some (.int .i64 i) ∧ w5.cell? ⟨Bx, 2, none⟩ = some (.int .i64 p) ∧ w5.cell? ⟨Bx, 3, none⟩ = some (.int .i64 r) ∧ w5.cell? ⟨Bx, 4, none⟩ = some (.string s) ∧ w5.cell? ⟨Bx, 5, none⟩ = some (.string o) ∧ w5.cell? ⟨Bx, 6, none⟩ = some (.int .i64 u) ∧ w5.cell? ⟨Bx, 7, none⟩ = some (.int .i64 d) ∧ w5.cell? ⟨Bx, 8, none⟩ = some (.bool g) := ⟨HSt5.out.b.cell 0, HSt5.out.b.cell 1, HSt5.out.b.cell 2, HSt5.out.b.cell 3, HSt5.out.b.cell 4, HSt5.out.b.cell 5, HSt5.out.b.cell 6, HSt5.out.b.cell 7, HSt5.out.b.cell 8⟩
  clear hf
  refine ⟨_, rfl, hSS, ?_⟩
  refine Eng.TW.call rfl rfl (by decide) (by kernel_rfl) ?_ (RefPast ⟨t, i, p, r, s, o, u, d, g⟩ hu n1 _) ?_
  · go_simp
  rintro e w6 ⟨rfl, hf⟩
  have HSt6 := Lib.hid (HSt5.out.fr hf)
  have hSS : w6.cell? ⟨Bx, 0, none⟩ = some (.int .i64 t) ∧ w6.cell? ⟨Bx, 1, none⟩ = some (.int .i64 i) ∧ w6.cell? ⟨Bx, 2, none⟩ = some (.int .i64 p) ∧ w6.cell? ⟨Bx, 3, none⟩ = some (.int .i64 r) ∧ w6.cell? ⟨Bx, 4, none⟩ = some (.string s) ∧ w6.cell? ⟨Bx, 5, none⟩ = some (.string o) ∧ w6.cell? ⟨Bx, 6, none⟩ = some (.int .i64 u) ∧ w6.cell? ⟨Bx, 7, none⟩ = some (.int .i64 d) ∧ w6.cell? ⟨Bx, 8, none⟩ = some (.bool g) := ⟨HSt6.out.b.cell 0, HSt6.out.b.cell 1, HSt6.out.b.cell 2, HSt6.out.b.cell 3, HSt6.out.b.cell 4, HSt6.out.b.cell 5, HSt6.out.b.cell 6, HSt6.out.b.cell 7, HSt6.out.b.cell 8⟩
  clear hf
  refine ⟨_, rfl, hSS, ?_⟩
  refine Eng.TW.take' (v := ?_) rfl rfl (by decide) (by kernel_rfl) (fun w hw => ?_) ?_
  rotate_left
  · (try dsimp only at hw); go_simp; first | done | with_reducible rfl
  refine Eng.TW.take' (v := ?_) rfl rfl (by decide) (by kernel_rfl) (fun w hw => ?_) ?_
  rotate_left
  · (try dsimp only at hw); go_simp; first | done | with_reducible rfl
  refine Eng.TW.take' (v := ?_) rfl rfl (by decide) (by kernel_rfl) (fun w hw => ?_) ?_
  rotate_left
  · (try dsimp only at hw); go_simp; first | done | with_reducible rfl
  refine Eng.TW.call rfl rfl (by decide) (by kernel_rfl) ?_ (awake _) ?_
  · go_simp
  rintro e w7 ⟨rfl, hf⟩
  have HSt7 := Lib.hid (HSt6.out.fr hf)
  have hSS : w7.cell? ⟨Bx, 0, none⟩ = some (.int .i64 t) ∧ w7.cell? ⟨Bx, 1, none⟩ = some (.int .i64 i) ∧ w7.cell? ⟨Bx, 2, none⟩ = some (.int .i64 p) ∧ w7.cell? ⟨Bx, 3, none⟩ = some (.int .i64 r) ∧ w7.cell? ⟨Bx, 4, none⟩ = some (.string s) ∧ w7.cell? ⟨Bx, 5, none⟩ = some (.string o) ∧ w7.cell? ⟨Bx, 6, none⟩ = some (.int .i64 u) ∧ w7.cell? ⟨Bx, 7, none⟩ = some (.int .i64 d) ∧ w7.cell? ⟨Bx, 8, none⟩ = some (.bool g) := ⟨HSt7.out.b.cell 0, HSt7.out.b.cell 1, HSt7.out.b.cell 2, HSt7.out.b.cell 3, HSt7.out.b.cell 4, HSt7.out.b.cell 5, HSt7.out.b.cell 6, HSt7.out.b.cell 7, HSt7.out.b.cell 8⟩
  clear hf
  refine ⟨_, rfl, hSS, ?_⟩
  refine Eng.TW.take' (v := ?_) rfl rfl (by decide) (by kernel_rfl) (fun w hw => ?_) ?_
  rotate_left
  · (try dsimp only at hw); go_simp; first | done | with_reducible rfl
  refine Eng.TW.take' (v := ?_) rfl rfl (by decide) (by kernel_rfl) (fun w hw => ?_) ?_
  rotate_left
  · (try dsimp only at hw); go_simp; first | done | with_reducible rfl
  refine Eng.TW.end_ [6, 11, 12, 13, 14, 15, 16, 17, 18, 19, 20, 21, 22, 23, 24, 25, 26, 27, 28, 29, 30, 31, 32, 33, 34, 35, 36] HN.out (by kernel_rfl) (by kernel_rfl) ?_
  exact HP.out _ _ rfl HSt7.out.f

set_option maxRecDepth 100000 in
set_option maxHeartbeats 400000 in
theorem is_ (n0 n1 : Int) (x : Sn) (w : World) (hn0 : in64 n0) (hn1 : in64 n1) (hu : in64 x.b) :
    Calls Try.prog 6 #[.int .i64 n0, .int .i64 n1, x.v] w fun e w' => e = .returned (.bool true) ∧ Below w.heap.size w w' := by
  obtain ⟨t, i, p, r, s, o, u, d, g⟩ := x
  have HB := Lib.hid (Bk.new w #[.int .i64 t, .int .i64 i, .int .i64 p, .int .i64 r, .string s, .string o, .int .i64 u, .int .i64 d, .bool g] Sat2.TSn)
  have HF := Lib.hid (Fr.alloc (fun _ => False) w (.cells #[.int .i64 t, .int .i64 i, .int .i64 p, .int .i64 r, .string s, .string o, .int .i64 u, .int .i64 d, .bool g] Sat2.TSn))
  have HH := fun w => Lib.hid (Horizon n0 n1 hn0 hn1 w)
  go_enter Try.func6, Try.ntmps6
  go_wp2_with fail
  refine (HH _).out.mono ?_
  rintro e w1 ⟨rfl, rfl⟩
  go_upto_region 2 with (fail)
  refine ei2 (by kernel_rfl) _ _ w _ w.heap.size n0 n1 t i p r s o u d g ⟨HB.out, HF.out⟩ hn0 hn1 hu rfl rfl rfl rfl rfl ?_
  intro z w1 h6 hf
  simp only [Eng.setAll, Act.put, List.setIfInBounds_toArray, List.set_cons_succ, List.set_cons_zero]
  rw [h6]
  have HF1 := Lib.hid hf
  clear hf h6
  go_wp2_with fail
  go_ret
  exact ⟨rfl, HF1.out.below (Nat.le_refl _) (fun _ _ h => h)⟩
end Law16
end Go.Proofs.Ytkhhdadlpilbmaa
