/- Layer 20's statements: KidsPlays: for every input the answer is true. -/
import Derived.Test.YtkhhdadlpilbmaaLaw20
namespace Go.Proofs.Ytkhhdadlpilbmaa
open Go.RowKit
namespace Law20
open KeyP SetP KidsP Kds
attribute [local go_sem] Eng.ev Eng.getO_cons Eng.getO_nil
abbrev TSn : TypeId := 38
/-- An act. -/
structure Ac where
  k : Int
  s : Sn
abbrev ac (a : Ac) : List Value := .int .i64 a.k :: a.s.cs
theorem ac_len (a : Ac) : (ac a).length = 10 := rfl
theorem ok_gd {x : Sn} (h : x.ok) : gd x := ⟨h.t, h.i, h.p⟩
theorem putK_len {L : List Sn} (x : Sn) (hs : Srs L) : (putK x L).length ≤ L.length + 1 := ins_len _ hs
theorem RX_new (w : World) : Ref20.RX (w.alloc (.cells #[.slice none 0 0] Ref20.TR)) w.heap.size [] [w.heap.size] := ⟨none, 0, Bk.new _ _ _, Sl.empty _ _, rfl, by simp⟩
/-- The index, the document's, and the act's span. -/
structure S3 (w0 w : World) (B Bx Ba : Nat) (L : List Sn) (F FX : List Nat) (q : Sn) : Prop where
  zs : Zs w0.heap.size w0 w [F, FX, [Ba]]
  i : IB w B L F
  x : Ref20.RX w Bx L FX
  a : Bk w Ba q.arr TSn
/-- In between: the index is ahead. -/
structure S3' (w0 w : World) (B Bx Ba : Nat) (L L' : List Sn) (F FX : List Nat) (q : Sn) : Prop where
  zs : Zs w0.heap.size w0 w [F, FX, [Ba]]
  i : IB w B L F
  x : Ref20.RX w Bx L' FX
  a : Bk w Ba q.arr TSn
section
variable {w0 w w' : World} {B Bx Ba : Nat} {L L' L2 : List Sn} {F FX F' FX' : List Nat} {q : Sn}
theorem S3.fr (h : S3 w0 w B Bx Ba L F FX q) (hf : Fr (fun _ => False) w w') : S3 w0 w' B Bx Ba L F FX q := ⟨h.zs.fr hf, h.i.fr hf (fun _ _ h => h), h.x.fr hf (fun _ _ h => h), h.a.fr hf (fun _ _ h => h)⟩
theorem S3'.fr (h : S3' w0 w B Bx Ba L L' F FX q) (hf : Fr (fun _ => False) w w') : S3' w0 w' B Bx Ba L L' F FX q := ⟨h.zs.fr hf, h.i.fr hf (fun _ _ h => h), h.x.fr hf (fun _ _ h => h), h.a.fr hf (fun _ _ h => h)⟩
theorem S3.turnI (h : S3 w0 w B Bx Ba L F FX q) (hi : IB w' B L2 F') (ht : Tn F F' w w') : S3' w0 w' B Bx Ba L2 L F' FX q :=
  ⟨h.zs.turn [] [FX, [Ba]] ht, hi, h.x.fr ht.fr (h.zs.ap 0 1 rfl rfl (by decide)), h.a.fr ht.fr (h.zs.ap 0 2 rfl rfl (by decide))⟩
theorem S3'.turnX (h : S3' w0 w B Bx Ba L L' F FX q) (hx : Ref20.RX w' Bx L FX') (ht : Tn FX FX' w w') : S3 w0 w' B Bx Ba L F FX' q :=
  ⟨h.zs.turn [F] [[Ba]] ht, h.i.fr ht.fr (h.zs.ap 1 0 rfl rfl (by decide)), hx, h.a.fr ht.fr (h.zs.ap 1 2 rfl rfl (by decide))⟩
theorem S3.at (h : S3 w0 w B Bx Ba L F FX q) : Kds.At w Ba 0 q := fun j u hu => by
  rw [h.a.cell, Nat.zero_add]
  have : q.arr[j]? = q.cs[j]? := by show q.cs.toArray[j]? = _; simp
  rw [this]; exact hu
theorem S3'.at (h : S3' w0 w B Bx Ba L L' F FX q) : Kds.At w Ba 0 q := fun j u hu => by
  rw [h.a.cell, Nat.zero_add]
  have : q.arr[j]? = q.cs[j]? := by show q.cs.toArray[j]? = _; simp
  rw [this]; exact hu
theorem S3.drop (h : S3 w0 w B Bx Ba L F FX q) {t i : Int} (ht : wf64 t) (hi : wf64 i) (sz : L.length < 1000000) : Calls Try.prog 15 #[.pointer (some ⟨B, 0, none⟩), .int .i64 t, .int .i64 i] w fun e w' => e = .returned (.bool (fnd (sn t i 0) L).isSome) ∧ ∃ F', S3' w0 w' B Bx Ba (out t i L) L F' FX q :=
  (Kds.Drop B L F t i w h.i ht hi sz).mono (fun _ _ ⟨he, F', k1, k2⟩ => ⟨he, F', h.turnI k1 k2⟩)
theorem S3'.drop {t i : Int} (h : S3' w0 w B Bx Ba (out t i L') L' F FX q) (hs : Srs L') (sz : L'.length ≤ 1000000) : Calls Try.prog 16 #[.pointer (some ⟨Bx, 0, none⟩), .int .i64 t, .int .i64 i] w fun e w' => e = .returned (.bool (fnd (sn t i 0) L').isSome) ∧ ∃ FX', S3 w0 w' B Bx Ba (out t i L') F FX' q :=
  (Ref20.Drop Bx L' FX t i w h.x hs sz).mono (fun _ _ ⟨he, F', k1, k2⟩ => ⟨he, F', h.turnX k1 k2⟩)
theorem S3.put (h : S3 w0 w B Bx Ba L F FX q) (hg : gd q) (sz : L.length < 1000000) : Calls Try.prog 17 #[.pointer (some ⟨B, 0, none⟩), q.v] w fun e w' => e = .returned (.tuple #[]) ∧ ∃ F', S3' w0 w' B Bx Ba (putK q L) L F' FX q :=
  (Kds.Put B L F q w h.i hg sz).mono (fun _ _ ⟨he, F', k1, k2⟩ => ⟨he, F', h.turnI k1 k2⟩)
theorem S3'.put (h : S3' w0 w B Bx Ba (putK q L') L' F FX q) (sz : L'.length ≤ 1000000) : Calls Try.prog 18 #[.pointer (some ⟨Bx, 0, none⟩), q.v] w fun e w' => e = .returned (.tuple #[]) ∧ ∃ FX', S3 w0 w' B Bx Ba (putK q L') F FX' q :=
  (Ref20.Put Bx L' FX q w h.x sz).mono (fun _ _ ⟨he, F', k1, k2⟩ => ⟨he, F', h.turnX k1 k2⟩)
/-- What is asked, besides. -/
structure S4 (w0 w : World) (B Bx Ba Bq : Nat) (L : List Sn) (F FX : List Nat) (q : Sn) (Q : List Int) : Prop where
  s : S3 w0 w B Bx Ba L F FX q
  q : Bk w Bq (ints Q).toArray TI
theorem S4.fr {Bq : Nat} {Q : List Int} (h : S4 w0 w B Bx Ba Bq L F FX q Q) (hf : Fr (fun _ => False) w w') : S4 w0 w' B Bx Ba Bq L F FX q Q := ⟨h.s.fr hf, h.q.fr hf (fun _ _ h => h)⟩
theorem S4.ask {Bq : Nat} {Q : List Int} (h : S4 w0 w B Bx Ba Bq L F FX q Q) {k : Nat} (hk : k < Q.length) : w.cell? ⟨Bq, k, none⟩ = some (.int .i64 Q[k]) := by
  rw [h.q.cell]; simp [hk]
end
theorem IntsSl {M : List Int} {w : World} {e : Ending} {w' : World} (h : Ref20.IntsPost M w e w') : ∃ A c, e = .returned (.slice A M.length c) ∧ Sl w' 1 A M.length c (ints M) ∧ Fr (fun _ => False) w w' := by
  obtain ⟨v, he, ho, hb⟩ := h
  obtain ⟨A, c, rfl, hS, -⟩ := Sl.of_own ho
  exact ⟨A, c, he, hS, Fr.of_below' hb _⟩
theorem KSpans (B : Nat) (L : List Sn) (F : List Nat) (t : Int) (w : World) (h : IB w B L F) (ht : wf64 t) (sz : L.length ≤ 1000000) : Calls Try.prog 24 #[.pointer (some ⟨B, 0, none⟩), .int .i64 t] w fun e w' => ∃ A c, e = .returned (.slice A (spans t L).length c) ∧ Sl w' 1 A (spans t L).length c (ints (spans t L)) ∧ Fr (fun _ => False) w w' :=
  (Kds.Spans B L F t w h ht sz).mono (fun _ _ h => SpSl h)
theorem RSpans (B : Nat) (L : List Sn) (F : List Nat) (t : Int) (w : World) (h : Ref20.RX w B L F) (sz : L.length ≤ 1000000) : Calls Try.prog 25 #[.pointer (some ⟨B, 0, none⟩), .int .i64 t] w fun e w' => ∃ A c, e = .returned (.slice A (spans t L).length c) ∧ Sl w' 1 A (spans t L).length c (ints (spans t L)) ∧ Fr (fun _ => False) w w' :=
  (Ref20.Spans B L F t w h sz).mono (fun _ _ h => IntsSl h)
theorem RKids (B : Nat) (L : List Sn) (F : List Nat) (t p : Int) (w : World) (h : Ref20.RX w B L F) (sz : L.length ≤ 1000000) : Calls Try.prog 22 #[.pointer (some ⟨B, 0, none⟩), .int .i64 t, .int .i64 p] w fun e w' => ∃ A c, e = .returned (.slice A (kids t p L).length c) ∧ Sl w' 1 A (kids t p L).length c (ints (kids t p L)) ∧ Fr (fun _ => False) w w' :=
  (Ref20.Kids B L F t p w h sz).mono (fun _ _ h => IntsSl h)
theorem SameTT (A A1 : Option Addr) (c c1 : Nat) (M : List Int) (w : World) (n n1 : Nat) (hn : n = M.length) (hn1 : n1 = M.length) (ha : Sl w 1 A n c (ints M)) (hb : Sl w 1 A1 n1 c1 (ints M)) : Calls Try.prog 23 #[.slice A n c, .slice A1 n1 c1] w fun e w' => e = .returned (.bool true) ∧ Fr (fun _ => False) w w' := by
  subst hn; subst hn1
  have h := SameInts A A1 c c1 M M w ha hb
  rwa [show decide (M = M) = true by simp] at h
set_option maxRecDepth 100000 in
set_option maxHeartbeats 400000 in
theorem kp11 {ops : Array Oper} (hops : Eng.fnOps Try.f3 11 = ops) (a0 : Act) (Q : Exit → Act → World → Prop) (w0 w : World) (B Bx Ba : Nat) (L : List Sn) (F FX : List Nat) (q : Sn) (hst : S3 w0 w B Bx Ba L F FX q) (hg : gd q) (hs : Srs L) (sz : L.length < 1000000)
    (hn : a0.tmps.size = 171) (h_3 : a0.tmps.getD 3 undef = .pointer (some ⟨B, 0, none⟩)) (h_4 : a0.tmps.getD 4 undef = .pointer none) (h_5 : a0.tmps.getD 5 undef = .pointer (some ⟨Bx, 0, none⟩)) (h_7 : a0.tmps.getD 7 undef = .pointer (some ⟨Ba, 0, none⟩))
    (hpost : ∀ (x : Nat → Value) (w' : World), x 58 = .bool false → (∃ F' FX', S3 w0 w' B Bx Ba (out q.t q.i L) F' FX' q) → Q .normal (Eng.setAll a0 [39, 40, 41, 42, 43, 44, 45, 46, 47, 48, 49, 50, 51, 52, 53, 54, 55, 56, 57, 58] x) w') :
    (Code.region 11 ops true).wp Try.prog Q a0 w := by
  simp only [Eng.fnOps, Eng.regOps, Try.f3, Option.bind_some, Option.getD_some, Nat.reduceEqDiff, ↓reduceIte, Nat.reduceBEq] at hops
  subst hops
  have q3 : ((fnd (sn q.t q.i 0) L).isSome != (fnd (sn q.t q.i 0) L).isSome) = false := by simp
  have HSt := Lib.hid (hst.fr (Fr.drew _ _))
  have hSS : w.drew.cell? ⟨Ba, 0, none⟩ = some (.int .i64 q.t) ∧ w.drew.cell? ⟨Ba, 1, none⟩ = some (.int .i64 q.i) := ⟨HSt.out.at 0 _ rfl, HSt.out.at 1 _ rfl⟩
  refine Eng.regionT (.take 0 (.take 1 (.take 2 (.take 3 (.take 5 (.take 6 (.take 7 (.take 8 (.take 9 (.alt 4 (.alt 10 (.take 11 (.take 12 (.take 13 (.take 14 (.take 15 (.take 16 (.take 17 (.alt 18 (.take 19 (.done)) (.stop))))))))) (.stop)) (.stop))))))))))) (fun w' => w'.cell? ⟨Ba, 0, none⟩ = some (.int .i64 q.t) ∧ w'.cell? ⟨Ba, 1, none⟩ = some (.int .i64 q.i)) (by kernel_rfl) 171 hn (by kernel_rfl) (by kernel_rfl) (by kernel_rfl) (hSS) (fun a b ha hb => ?_)
  subst ha
  have hb3 : b 3 = .pointer (some ⟨B, 0, none⟩) := (hb 3).symm.trans h_3
  have hb4 : b 4 = .pointer none := (hb 4).symm.trans h_4
  have hb5 : b 5 = .pointer (some ⟨Bx, 0, none⟩) := (hb 5).symm.trans h_5
  have hb7 : b 7 = .pointer (some ⟨Ba, 0, none⟩) := (hb 7).symm.trans h_7
  clear hb h_3 h_4 h_5 h_7
  have HP := Lib.hid hpost; have HN := Lib.hid hn
  clear hpost hn
  refine Eng.TW.take' (v := ?_) rfl rfl (by decide) (by kernel_rfl) (fun w hw => ?_) ?_
  rotate_left
  · (try dsimp only at hw); go_simp; first | done | with_reducible rfl
  refine Eng.TW.take' (v := ?_) rfl rfl (by decide) (by kernel_rfl) (fun w hw => ?_) ?_
  rotate_left
  · (try dsimp only at hw); go_simp; first | done | with_reducible rfl
  refine Eng.TW.take' (v := ?_) rfl rfl (by decide) (by kernel_rfl) (fun w hw => ?_) ?_
  rotate_left
  · (try dsimp only at hw); go_simp; first | done | with_reducible rfl
  refine Eng.TW.take' (v := ?_) rfl rfl (by decide) (by kernel_rfl) (fun w hw => ?_) ?_
  rotate_left
  · (try dsimp only at hw); go_simp; first | done | with_reducible rfl
  refine Eng.TW.take' (v := ?_) rfl rfl (by decide) (by kernel_rfl) (fun w hw => ?_) ?_
  rotate_left
  · (try dsimp only at hw); go_simp; first | done | with_reducible rfl
  refine Eng.TW.take' (v := ?_) rfl rfl (by decide) (by kernel_rfl) (fun w hw => ?_) ?_
  rotate_left
  · (try dsimp only at hw); go_simp; first | done | with_reducible rfl
  refine Eng.TW.take' (v := ?_) rfl rfl (by decide) (by kernel_rfl) (fun w hw => ?_) ?_
  rotate_left
  · (try dsimp only at hw); go_simp; first | done | with_reducible rfl
  refine Eng.TW.take' (v := ?_) rfl rfl (by decide) (by kernel_rfl) (fun w hw => ?_) ?_
  rotate_left
  · (try dsimp only at hw); go_simp; first | done | with_reducible rfl
  refine Eng.TW.take' (v := ?_) rfl rfl (by decide) (by kernel_rfl) (fun w hw => ?_) ?_
  rotate_left
  · (try dsimp only at hw); go_simp; first | done | with_reducible rfl
  refine Eng.TW.call rfl rfl (by decide) (by kernel_rfl) ?_ (HSt.out.drop hg.1 hg.2.1 sz) ?_
  · go_simp
  rintro e w2 ⟨rfl, F2, h⟩
  have HSt2 := Lib.hid (h)
  have hSS : w2.cell? ⟨Ba, 0, none⟩ = some (.int .i64 q.t) ∧ w2.cell? ⟨Ba, 1, none⟩ = some (.int .i64 q.i) := ⟨HSt2.out.at 0 _ rfl, HSt2.out.at 1 _ rfl⟩
  clear h
  refine ⟨_, rfl, hSS, ?_⟩
  refine Eng.TW.call rfl rfl (by decide) (by kernel_rfl) ?_ (HSt2.out.drop hs (by omega)) ?_
  · go_simp
  rintro e w3 ⟨rfl, FX2, h⟩
  have HSt3 := Lib.hid (h)
  have hSS : w3.cell? ⟨Ba, 0, none⟩ = some (.int .i64 q.t) ∧ w3.cell? ⟨Ba, 1, none⟩ = some (.int .i64 q.i) := ⟨HSt3.out.at 0 _ rfl, HSt3.out.at 1 _ rfl⟩
  clear h
  refine ⟨_, rfl, hSS, ?_⟩
  refine Eng.TW.take' (v := ?_) rfl rfl (by decide) (by kernel_rfl) (fun w hw => ?_) ?_
  rotate_left
  · (try dsimp only at hw); go_simp; first | done | with_reducible rfl
  refine Eng.TW.take' (v := ?_) rfl rfl (by decide) (by kernel_rfl) (fun w hw => ?_) ?_
  rotate_left
  · (try dsimp only at hw); go_simp; first | done | with_reducible rfl
  refine Eng.TW.take' (v := ?_) rfl rfl (by decide) (by kernel_rfl) (fun w hw => ?_) ?_
  rotate_left
  · (try dsimp only at hw); go_simp; first | done | with_reducible rfl
  refine Eng.TW.take' (v := ?_) rfl rfl (by decide) (by kernel_rfl) (fun w hw => ?_) ?_
  rotate_left
  · (try dsimp only at hw); go_simp; first | done | with_reducible rfl
  refine Eng.TW.take' (v := ?_) rfl rfl (by decide) (by kernel_rfl) (fun w hw => ?_) ?_
  rotate_left
  · (try dsimp only at hw); go_simp; first | done | with_reducible rfl
  refine Eng.TW.take' (v := ?_) rfl rfl (by decide) (by kernel_rfl) (fun w hw => ?_) ?_
  rotate_left
  · (try dsimp only at hw); go_simp; first | done | with_reducible rfl
  refine Eng.TW.take' (v := ?_) rfl rfl (by decide) (by kernel_rfl) (fun w hw => ?_) ?_
  rotate_left
  · (try dsimp only at hw); go_simp; first | done | with_reducible rfl
  refine Eng.TW.call rfl rfl (by decide) (by kernel_rfl) ?_ (Kds.Drop_none q.t q.i _) ?_
  · go_simp
  rintro e w_4 ⟨rfl, rfl⟩
  refine ⟨_, rfl, hSS, ?_⟩
  refine Eng.TW.take' (v := ?_) rfl rfl (by decide) (by kernel_rfl) (fun w hw => ?_) ?_
  rotate_left
  · (try dsimp only at hw); go_simp; first | done | with_reducible rfl
  refine Eng.TW.end_ [39, 40, 41, 42, 43, 44, 45, 46, 47, 48, 49, 50, 51, 52, 53, 54, 55, 56, 57, 58] HN.out (by kernel_rfl) (by kernel_rfl) ?_
  exact HP.out _ _ rfl ⟨_, _, HSt3.out⟩

set_option maxRecDepth 100000 in
set_option maxHeartbeats 400000 in
theorem kp20 {ops : Array Oper} (hops : Eng.fnOps Try.f3 20 = ops) (a0 : Act) (Q : Exit → Act → World → Prop) (w0 w : World) (B Bx Ba Bq : Nat) (L : List Sn) (F FX : List Nat) (q : Sn) (AS : List Int) (k : Nat) (z : Int) (hst : S4 w0 w B Bx Ba Bq L F FX q AS) (hk : k < 4) (hk2 : Hid (k < AS.length)) (hz : Hid (AS[k]'hk2.out = z)) (hg : gd q) (wz : wf64 z) (sz : L.length < 1000000)
    (hn : a0.tmps.size = 171) (h_3 : a0.tmps.getD 3 undef = .pointer (some ⟨B, 0, none⟩)) (h_7 : a0.tmps.getD 7 undef = .pointer (some ⟨Ba, 0, none⟩)) (h_8 : a0.tmps.getD 8 undef = .slice (some ⟨Bq, 0, none⟩) 4 4) (h_9 : a0.tmps.getD 9 undef = .int .i64 (k : Int))
    (hpost : ∀ (x : Nat → Value) (w' : World), x 10 = .int .i64 (((fnd (sn q.t z 0) L).map (·.p)).getD 0) → x 11 = .bool (fnd (sn q.t z 0) L).isSome → S4 w0 w' B Bx Ba Bq L F FX q AS → Q .normal (Eng.setAll a0 [10, 11, 80, 81, 82, 83, 84, 85, 86, 87, 88, 89] x) w') :
    (Code.region 20 ops true).wp Try.prog Q a0 w := by
  simp only [Eng.fnOps, Eng.regOps, Try.f3, Option.bind_some, Option.getD_some, Nat.reduceEqDiff, ↓reduceIte, Nat.reduceBEq] at hops
  subst hops
  have HAK : Hid (∀ (w' : World) (F' FX' : List Nat), S4 w0 w' B Bx Ba Bq L F' FX' q AS → w'.cell? ⟨Bq, k, none⟩ = some (.int .i64 z)) := fun w' F' FX' h => by rw [h.ask hk2.out, hz.out]
  have q1 : (0 : Int) ≤ (k : Int) := by omega
  have q2 : (k : Int) < 4 := by omega
  have HSt := Lib.hid (hst.fr (Fr.drew _ _))
  have hSS : w.drew.cell? ⟨Ba, 0, none⟩ = some (.int .i64 q.t) ∧ w.drew.cell? ⟨Ba, 1, none⟩ = some (.int .i64 q.i) ∧ w.drew.cell? ⟨Bq, k, none⟩ = some (.int .i64 z) := ⟨HSt.out.s.at 0 _ rfl, HSt.out.s.at 1 _ rfl, HAK.out _ _ _ HSt.out⟩
  refine Eng.regionT (.take 0 (.take 1 (.take 2 (.take 3 (.take 4 (.take 5 (.alt 6 (.take 7 (.take 8 (.take 9 (.take 10 (.take 11 (.done)))))) (.stop)))))))) (fun w' => w'.cell? ⟨Ba, 0, none⟩ = some (.int .i64 q.t) ∧ w'.cell? ⟨Ba, 1, none⟩ = some (.int .i64 q.i) ∧ w'.cell? ⟨Bq, k, none⟩ = some (.int .i64 z)) (by kernel_rfl) 171 hn (by kernel_rfl) (by kernel_rfl) (by kernel_rfl) (hSS) (fun a b ha hb => ?_)
  subst ha
  have hb3 : b 3 = .pointer (some ⟨B, 0, none⟩) := (hb 3).symm.trans h_3
  have hb7 : b 7 = .pointer (some ⟨Ba, 0, none⟩) := (hb 7).symm.trans h_7
  have hb8 : b 8 = .slice (some ⟨Bq, 0, none⟩) 4 4 := (hb 8).symm.trans h_8
  have hb9 : b 9 = .int .i64 (k : Int) := (hb 9).symm.trans h_9
  clear hb h_3 h_7 h_8 h_9
  have HP := Lib.hid hpost; have HN := Lib.hid hn
  clear hpost hn
  refine Eng.TW.take' (v := ?_) rfl rfl (by decide) (by kernel_rfl) (fun w hw => ?_) ?_
  rotate_left
  · (try dsimp only at hw); go_simp; first | done | with_reducible rfl
  refine Eng.TW.take' (v := ?_) rfl rfl (by decide) (by kernel_rfl) (fun w hw => ?_) ?_
  rotate_left
  · (try dsimp only at hw); go_simp; first | done | with_reducible rfl
  refine Eng.TW.take' (v := ?_) rfl rfl (by decide) (by kernel_rfl) (fun w hw => ?_) ?_
  rotate_left
  · (try dsimp only at hw); go_simp; first | done | with_reducible rfl
  refine Eng.TW.take' (v := ?_) rfl rfl (by decide) (by kernel_rfl) (fun w hw => ?_) ?_
  rotate_left
  · (try dsimp only at hw); go_simp; first | done | with_reducible rfl
  refine Eng.TW.take' (v := ?_) rfl rfl (by decide) (by kernel_rfl) (fun w hw => ?_) ?_
  rotate_left
  · (try dsimp only at hw); go_simp; first | done | with_reducible rfl
  refine Eng.TW.take' (v := ?_) rfl rfl (by decide) (by kernel_rfl) (fun w hw => ?_) ?_
  rotate_left
  · (try dsimp only at hw); go_simp; first | done | with_reducible rfl
  refine Eng.TW.call rfl rfl (by decide) (by kernel_rfl) ?_ (Kds.Parent B L F q.t z _ HSt.out.s.i hg.1 wz) ?_
  · go_simp
  rintro e w2 ⟨rfl, hf⟩
  have HSt2 := Lib.hid (HSt.out.fr hf)
  have hSS : w2.cell? ⟨Ba, 0, none⟩ = some (.int .i64 q.t) ∧ w2.cell? ⟨Ba, 1, none⟩ = some (.int .i64 q.i) ∧ w2.cell? ⟨Bq, k, none⟩ = some (.int .i64 z) := ⟨HSt2.out.s.at 0 _ rfl, HSt2.out.s.at 1 _ rfl, HAK.out _ _ _ HSt2.out⟩
  clear hf
  refine ⟨_, rfl, hSS, ?_⟩
  refine Eng.TW.take' (v := ?_) rfl rfl (by decide) (by kernel_rfl) (fun w hw => ?_) ?_
  rotate_left
  · (try dsimp only at hw); go_simp; first | done | with_reducible rfl
  refine Eng.TW.take' (v := ?_) rfl rfl (by decide) (by kernel_rfl) (fun w hw => ?_) ?_
  rotate_left
  · (try dsimp only at hw); go_simp; first | done | with_reducible rfl
  refine Eng.TW.take' (v := ?_) rfl rfl (by decide) (by kernel_rfl) (fun w hw => ?_) ?_
  rotate_left
  · (try dsimp only at hw); go_simp; first | done | with_reducible rfl
  refine Eng.TW.take' (v := ?_) rfl rfl (by decide) (by kernel_rfl) (fun w hw => ?_) ?_
  rotate_left
  · (try dsimp only at hw); go_simp; first | done | with_reducible rfl
  refine Eng.TW.take' (v := ?_) rfl rfl (by decide) (by kernel_rfl) (fun w hw => ?_) ?_
  rotate_left
  · (try dsimp only at hw); go_simp; first | done | with_reducible rfl
  refine Eng.TW.end_ [10, 11, 80, 81, 82, 83, 84, 85, 86, 87, 88, 89] HN.out (by kernel_rfl) (by kernel_rfl) ?_
  exact HP.out _ _ rfl rfl HSt2.out

set_option maxRecDepth 100000 in
set_option maxHeartbeats 400000 in
theorem kp21 {ops : Array Oper} (hops : Eng.fnOps Try.f3 21 = ops) (a0 : Act) (Q : Exit → Act → World → Prop) (w0 w : World) (B Bx Ba Bq : Nat) (L : List Sn) (F FX : List Nat) (q : Sn) (AS : List Int) (k : Nat) (z : Int) (hst : S4 w0 w B Bx Ba Bq L F FX q AS) (hk : k < 4) (hk2 : Hid (k < AS.length)) (hz : Hid (AS[k]'hk2.out = z)) (hg : gd q) (wz : wf64 z) (sz : L.length < 1000000)
    (hn : a0.tmps.size = 171) (h_5 : a0.tmps.getD 5 undef = .pointer (some ⟨Bx, 0, none⟩)) (h_7 : a0.tmps.getD 7 undef = .pointer (some ⟨Ba, 0, none⟩)) (h_8 : a0.tmps.getD 8 undef = .slice (some ⟨Bq, 0, none⟩) 4 4) (h_9 : a0.tmps.getD 9 undef = .int .i64 (k : Int))
    (hpost : ∀ (x : Nat → Value) (w' : World), x 12 = .int .i64 (((fnd (sn q.t z 0) L).map (·.p)).getD 0) → x 13 = .bool (fnd (sn q.t z 0) L).isSome → S4 w0 w' B Bx Ba Bq L F FX q AS → Q .normal (Eng.setAll a0 [12, 13, 90, 91, 92, 93, 94, 95, 96, 97, 98, 99, 100] x) w') :
    (Code.region 21 ops true).wp Try.prog Q a0 w := by
  simp only [Eng.fnOps, Eng.regOps, Try.f3, Option.bind_some, Option.getD_some, Nat.reduceEqDiff, ↓reduceIte, Nat.reduceBEq] at hops
  subst hops
  have HAK : Hid (∀ (w' : World) (F' FX' : List Nat), S4 w0 w' B Bx Ba Bq L F' FX' q AS → w'.cell? ⟨Bq, k, none⟩ = some (.int .i64 z)) := fun w' F' FX' h => by rw [h.ask hk2.out, hz.out]
  have q1 : (0 : Int) ≤ (k : Int) := by omega
  have q2 : (k : Int) < 4 := by omega
  have HSt := Lib.hid (hst.fr (Fr.drew _ _))
  have hSS : w.drew.cell? ⟨Ba, 0, none⟩ = some (.int .i64 q.t) ∧ w.drew.cell? ⟨Ba, 1, none⟩ = some (.int .i64 q.i) ∧ w.drew.cell? ⟨Bq, k, none⟩ = some (.int .i64 z) := ⟨HSt.out.s.at 0 _ rfl, HSt.out.s.at 1 _ rfl, HAK.out _ _ _ HSt.out⟩
  refine Eng.regionT (.take 0 (.take 1 (.take 2 (.take 3 (.take 4 (.take 5 (.take 6 (.alt 7 (.take 8 (.take 9 (.take 10 (.take 11 (.take 12 (.done)))))) (.stop))))))))) (fun w' => w'.cell? ⟨Ba, 0, none⟩ = some (.int .i64 q.t) ∧ w'.cell? ⟨Ba, 1, none⟩ = some (.int .i64 q.i) ∧ w'.cell? ⟨Bq, k, none⟩ = some (.int .i64 z)) (by kernel_rfl) 171 hn (by kernel_rfl) (by kernel_rfl) (by kernel_rfl) (hSS) (fun a b ha hb => ?_)
  subst ha
  have hb5 : b 5 = .pointer (some ⟨Bx, 0, none⟩) := (hb 5).symm.trans h_5
  have hb7 : b 7 = .pointer (some ⟨Ba, 0, none⟩) := (hb 7).symm.trans h_7
  have hb8 : b 8 = .slice (some ⟨Bq, 0, none⟩) 4 4 := (hb 8).symm.trans h_8
  have hb9 : b 9 = .int .i64 (k : Int) := (hb 9).symm.trans h_9
  clear hb h_5 h_7 h_8 h_9
  have HP := Lib.hid hpost; have HN := Lib.hid hn
  clear hpost hn
  refine Eng.TW.take' (v := ?_) rfl rfl (by decide) (by kernel_rfl) (fun w hw => ?_) ?_
  rotate_left
  · (try dsimp only at hw); go_simp; first | done | with_reducible rfl
  refine Eng.TW.take' (v := ?_) rfl rfl (by decide) (by kernel_rfl) (fun w hw => ?_) ?_
  rotate_left
  · (try dsimp only at hw); go_simp; first | done | with_reducible rfl
  refine Eng.TW.take' (v := ?_) rfl rfl (by decide) (by kernel_rfl) (fun w hw => ?_) ?_
  rotate_left
  · (try dsimp only at hw); go_simp; first | done | with_reducible rfl
  refine Eng.TW.take' (v := ?_) rfl rfl (by decide) (by kernel_rfl) (fun w hw => ?_) ?_
  rotate_left
  · (try dsimp only at hw); go_simp; first | done | with_reducible rfl
  refine Eng.TW.take' (v := ?_) rfl rfl (by decide) (by kernel_rfl) (fun w hw => ?_) ?_
  rotate_left
  · (try dsimp only at hw); go_simp; first | done | with_reducible rfl
  refine Eng.TW.take' (v := ?_) rfl rfl (by decide) (by kernel_rfl) (fun w hw => ?_) ?_
  rotate_left
  · (try dsimp only at hw); go_simp; first | done | with_reducible rfl
  refine Eng.TW.take' (v := ?_) rfl rfl (by decide) (by kernel_rfl) (fun w hw => ?_) ?_
  rotate_left
  · (try dsimp only at hw); go_simp; first | done | with_reducible rfl
  refine Eng.TW.call rfl rfl (by decide) (by kernel_rfl) ?_ (Ref20.Parent Bx L FX q.t z _ HSt.out.s.x) ?_
  · go_simp
  rintro e w2 ⟨rfl, hf⟩
  have HSt2 := Lib.hid (HSt.out.fr hf)
  have hSS : w2.cell? ⟨Ba, 0, none⟩ = some (.int .i64 q.t) ∧ w2.cell? ⟨Ba, 1, none⟩ = some (.int .i64 q.i) ∧ w2.cell? ⟨Bq, k, none⟩ = some (.int .i64 z) := ⟨HSt2.out.s.at 0 _ rfl, HSt2.out.s.at 1 _ rfl, HAK.out _ _ _ HSt2.out⟩
  clear hf
  refine ⟨_, rfl, hSS, ?_⟩
  refine Eng.TW.take' (v := ?_) rfl rfl (by decide) (by kernel_rfl) (fun w hw => ?_) ?_
  rotate_left
  · (try dsimp only at hw); go_simp; first | done | with_reducible rfl
  refine Eng.TW.take' (v := ?_) rfl rfl (by decide) (by kernel_rfl) (fun w hw => ?_) ?_
  rotate_left
  · (try dsimp only at hw); go_simp; first | done | with_reducible rfl
  refine Eng.TW.take' (v := ?_) rfl rfl (by decide) (by kernel_rfl) (fun w hw => ?_) ?_
  rotate_left
  · (try dsimp only at hw); go_simp; first | done | with_reducible rfl
  refine Eng.TW.take' (v := ?_) rfl rfl (by decide) (by kernel_rfl) (fun w hw => ?_) ?_
  rotate_left
  · (try dsimp only at hw); go_simp; first | done | with_reducible rfl
  refine Eng.TW.take' (v := ?_) rfl rfl (by decide) (by kernel_rfl) (fun w hw => ?_) ?_
  rotate_left
  · (try dsimp only at hw); go_simp; first | done | with_reducible rfl
  refine Eng.TW.end_ [12, 13, 90, 91, 92, 93, 94, 95, 96, 97, 98, 99, 100] HN.out (by kernel_rfl) (by kernel_rfl) ?_
  exact HP.out _ _ rfl rfl HSt2.out

set_option maxRecDepth 100000 in
set_option maxHeartbeats 400000 in
theorem kp22 {ops : Array Oper} (hops : Eng.fnOps Try.f3 22 = ops) (a0 : Act) (Q : Exit → Act → World → Prop) (w0 w : World) (B Bx Ba Bq : Nat) (L : List Sn) (F FX : List Nat) (q : Sn) (AS : List Int) (k : Nat) (z : Int) (hst : S4 w0 w B Bx Ba Bq L F FX q AS) (hk : k < 4) (hk2 : Hid (k < AS.length)) (hz : Hid (AS[k]'hk2.out = z)) (hg : gd q) (wz : wf64 z) (sz : L.length < 1000000)
    (hn : a0.tmps.size = 171) (h_4 : a0.tmps.getD 4 undef = .pointer none) (h_7 : a0.tmps.getD 7 undef = .pointer (some ⟨Ba, 0, none⟩)) (h_8 : a0.tmps.getD 8 undef = .slice (some ⟨Bq, 0, none⟩) 4 4) (h_9 : a0.tmps.getD 9 undef = .int .i64 (k : Int))
    (hpost : ∀ (x : Nat → Value) (w' : World), x 15 = .bool false → S4 w0 w' B Bx Ba Bq L F FX q AS → Q .normal (Eng.setAll a0 [14, 15, 101, 102, 103, 104, 105, 106, 107, 108, 109, 110, 111] x) w') :
    (Code.region 22 ops true).wp Try.prog Q a0 w := by
  simp only [Eng.fnOps, Eng.regOps, Try.f3, Option.bind_some, Option.getD_some, Nat.reduceEqDiff, ↓reduceIte, Nat.reduceBEq] at hops
  subst hops
  have HAK : Hid (∀ (w' : World) (F' FX' : List Nat), S4 w0 w' B Bx Ba Bq L F' FX' q AS → w'.cell? ⟨Bq, k, none⟩ = some (.int .i64 z)) := fun w' F' FX' h => by rw [h.ask hk2.out, hz.out]
  have q1 : (0 : Int) ≤ (k : Int) := by omega
  have q2 : (k : Int) < 4 := by omega
  have HSt := Lib.hid (hst.fr (Fr.drew _ _))
  have hSS : w.drew.cell? ⟨Ba, 0, none⟩ = some (.int .i64 q.t) ∧ w.drew.cell? ⟨Ba, 1, none⟩ = some (.int .i64 q.i) ∧ w.drew.cell? ⟨Bq, k, none⟩ = some (.int .i64 z) := ⟨HSt.out.s.at 0 _ rfl, HSt.out.s.at 1 _ rfl, HAK.out _ _ _ HSt.out⟩
  refine Eng.regionT (.take 0 (.take 1 (.take 2 (.take 3 (.take 4 (.take 5 (.take 6 (.alt 7 (.take 8 (.take 9 (.take 10 (.take 11 (.take 12 (.done)))))) (.stop))))))))) (fun w' => w'.cell? ⟨Ba, 0, none⟩ = some (.int .i64 q.t) ∧ w'.cell? ⟨Ba, 1, none⟩ = some (.int .i64 q.i) ∧ w'.cell? ⟨Bq, k, none⟩ = some (.int .i64 z)) (by kernel_rfl) 171 hn (by kernel_rfl) (by kernel_rfl) (by kernel_rfl) (hSS) (fun a b ha hb => ?_)
  subst ha
  have hb4 : b 4 = .pointer none := (hb 4).symm.trans h_4
  have hb7 : b 7 = .pointer (some ⟨Ba, 0, none⟩) := (hb 7).symm.trans h_7
  have hb8 : b 8 = .slice (some ⟨Bq, 0, none⟩) 4 4 := (hb 8).symm.trans h_8
  have hb9 : b 9 = .int .i64 (k : Int) := (hb 9).symm.trans h_9
  clear hb h_4 h_7 h_8 h_9
  have HP := Lib.hid hpost; have HN := Lib.hid hn
  clear hpost hn
  refine Eng.TW.take' (v := ?_) rfl rfl (by decide) (by kernel_rfl) (fun w hw => ?_) ?_
  rotate_left
  · (try dsimp only at hw); go_simp; first | done | with_reducible rfl
  refine Eng.TW.take' (v := ?_) rfl rfl (by decide) (by kernel_rfl) (fun w hw => ?_) ?_
  rotate_left
  · (try dsimp only at hw); go_simp; first | done | with_reducible rfl
  refine Eng.TW.take' (v := ?_) rfl rfl (by decide) (by kernel_rfl) (fun w hw => ?_) ?_
  rotate_left
  · (try dsimp only at hw); go_simp; first | done | with_reducible rfl
  refine Eng.TW.take' (v := ?_) rfl rfl (by decide) (by kernel_rfl) (fun w hw => ?_) ?_
  rotate_left
  · (try dsimp only at hw); go_simp; first | done | with_reducible rfl
  refine Eng.TW.take' (v := ?_) rfl rfl (by decide) (by kernel_rfl) (fun w hw => ?_) ?_
  rotate_left
  · (try dsimp only at hw); go_simp; first | done | with_reducible rfl
  refine Eng.TW.take' (v := ?_) rfl rfl (by decide) (by kernel_rfl) (fun w hw => ?_) ?_
  rotate_left
  · (try dsimp only at hw); go_simp; first | done | with_reducible rfl
  refine Eng.TW.take' (v := ?_) rfl rfl (by decide) (by kernel_rfl) (fun w hw => ?_) ?_
  rotate_left
  · (try dsimp only at hw); go_simp; first | done | with_reducible rfl
  refine Eng.TW.call rfl rfl (by decide) (by kernel_rfl) ?_ (Kds.Parent_none q.t z _) ?_
  · go_simp
  rintro e w_2 ⟨rfl, rfl⟩
  refine ⟨_, rfl, hSS, ?_⟩
  refine Eng.TW.take' (v := ?_) rfl rfl (by decide) (by kernel_rfl) (fun w hw => ?_) ?_
  rotate_left
  · (try dsimp only at hw); go_simp; first | done | with_reducible rfl
  refine Eng.TW.take' (v := ?_) rfl rfl (by decide) (by kernel_rfl) (fun w hw => ?_) ?_
  rotate_left
  · (try dsimp only at hw); go_simp; first | done | with_reducible rfl
  refine Eng.TW.take' (v := ?_) rfl rfl (by decide) (by kernel_rfl) (fun w hw => ?_) ?_
  rotate_left
  · (try dsimp only at hw); go_simp; first | done | with_reducible rfl
  refine Eng.TW.take' (v := ?_) rfl rfl (by decide) (by kernel_rfl) (fun w hw => ?_) ?_
  rotate_left
  · (try dsimp only at hw); go_simp; first | done | with_reducible rfl
  refine Eng.TW.take' (v := ?_) rfl rfl (by decide) (by kernel_rfl) (fun w hw => ?_) ?_
  rotate_left
  · (try dsimp only at hw); go_simp; first | done | with_reducible rfl
  refine Eng.TW.end_ [14, 15, 101, 102, 103, 104, 105, 106, 107, 108, 109, 110, 111] HN.out (by kernel_rfl) (by kernel_rfl) ?_
  exact HP.out _ _ rfl HSt.out

set_option maxRecDepth 100000 in
set_option maxHeartbeats 1000000 in
theorem kp23 {ops : Array Oper} (hops : Eng.fnOps Try.f3 23 = ops) (a0 : Act) (Q : Exit → Act → World → Prop) (w0 w : World) (B Bx Ba Bq : Nat) (L : List Sn) (F FX : List Nat) (q : Sn) (AS : List Int) (k : Nat) (z : Int) (hst : S4 w0 w B Bx Ba Bq L F FX q AS) (hk : k < 4) (hk2 : Hid (k < AS.length)) (hz : Hid (AS[k]'hk2.out = z)) (e1 : Int) (b1 : Bool) (hg : gd q) (wz : wf64 z) (sz : L.length < 1000000)
    (hn : a0.tmps.size = 171) (h_3 : a0.tmps.getD 3 undef = .pointer (some ⟨B, 0, none⟩)) (h_4 : a0.tmps.getD 4 undef = .pointer none) (h_5 : a0.tmps.getD 5 undef = .pointer (some ⟨Bx, 0, none⟩)) (h_7 : a0.tmps.getD 7 undef = .pointer (some ⟨Ba, 0, none⟩)) (h_8 : a0.tmps.getD 8 undef = .slice (some ⟨Bq, 0, none⟩) 4 4) (h_9 : a0.tmps.getD 9 undef = .int .i64 (k : Int)) (h_10 : a0.tmps.getD 10 undef = .int .i64 e1) (h_11 : a0.tmps.getD 11 undef = .bool b1) (h_12 : a0.tmps.getD 12 undef = .int .i64 e1) (h_13 : a0.tmps.getD 13 undef = .bool b1) (h_15 : a0.tmps.getD 15 undef = .bool false)
    (hpost : ∀ (x : Nat → Value) (w' : World), x 152 = .bool false → S4 w0 w' B Bx Ba Bq L F FX q AS → Q .normal (Eng.setAll a0 [112, 113, 114, 115, 116, 117, 118, 119, 120, 121, 122, 123, 124, 125, 126, 127, 128, 129, 130, 131, 132, 133, 134, 135, 136, 137, 138, 139, 140, 141, 142, 143, 144, 145, 146, 147, 148, 149, 150, 151, 152] x) w') :
    (Code.region 23 ops true).wp Try.prog Q a0 w := by
  simp only [Eng.fnOps, Eng.regOps, Try.f3, Option.bind_some, Option.getD_some, Nat.reduceEqDiff, ↓reduceIte, Nat.reduceBEq] at hops
  subst hops
  have HAK : Hid (∀ (w' : World) (F' FX' : List Nat), S4 w0 w' B Bx Ba Bq L F' FX' q AS → w'.cell? ⟨Bq, k, none⟩ = some (.int .i64 z)) := fun w' F' FX' h => by rw [h.ask hk2.out, hz.out]
  have q1 : (0 : Int) ≤ (k : Int) := by omega
  have q2 : (k : Int) < 4 := by omega
  have q3 : (e1 != e1) = false := by simp
  have q4 : (b1 != b1) = false := by simp
  have q5 : (((kids q.t z L).length : Int) != ((kids q.t z L).length : Int)) = false := by simp
  have HSt := Lib.hid (hst.fr (Fr.drew _ _))
  have hSS : w.drew.cell? ⟨Ba, 0, none⟩ = some (.int .i64 q.t) ∧ w.drew.cell? ⟨Ba, 1, none⟩ = some (.int .i64 q.i) ∧ w.drew.cell? ⟨Bq, k, none⟩ = some (.int .i64 z) := ⟨HSt.out.s.at 0 _ rfl, HSt.out.s.at 1 _ rfl, HAK.out _ _ _ HSt.out⟩
  refine Eng.regionT (.take 0 (.take 1 (.take 2 (.take 3 (.take 4 (.take 5 (.take 6 (.take 7 (.take 8 (.take 9 (.take 10 (.take 11 (.take 12 (.take 13 (.take 14 (.take 16 (.take 17 (.take 18 (.take 19 (.take 20 (.take 21 (.take 22 (.alt 15 (.alt 23 (.take 24 (.take 25 (.take 26 (.take 27 (.take 28 (.take 29 (.take 30 (.take 31 (.take 32 (.take 33 (.take 34 (.take 35 (.take 36 (.take 37 (.alt 38 (.take 39 (.take 40 (.done))) (.stop)))))))))))))))) (.stop)) (.stop)))))))))))))))))))))))) (fun w' => w'.cell? ⟨Ba, 0, none⟩ = some (.int .i64 q.t) ∧ w'.cell? ⟨Ba, 1, none⟩ = some (.int .i64 q.i) ∧ w'.cell? ⟨Bq, k, none⟩ = some (.int .i64 z)) (by kernel_rfl) 171 hn (by kernel_rfl) (by kernel_rfl) (by kernel_rfl) (hSS) (fun a b ha hb => ?_)
  subst ha
  have hb3 : b 3 = .pointer (some ⟨B, 0, none⟩) := (hb 3).symm.trans h_3
  have hb4 : b 4 = .pointer none := (hb 4).symm.trans h_4
  have hb5 : b 5 = .pointer (some ⟨Bx, 0, none⟩) := (hb 5).symm.trans h_5
  have hb7 : b 7 = .pointer (some ⟨Ba, 0, none⟩) := (hb 7).symm.trans h_7
  have hb8 : b 8 = .slice (some ⟨Bq, 0, none⟩) 4 4 := (hb 8).symm.trans h_8
  have hb9 : b 9 = .int .i64 (k : Int) := (hb 9).symm.trans h_9
  have hb10 : b 10 = .int .i64 e1 := (hb 10).symm.trans h_10
  have hb11 : b 11 = .bool b1 := (hb 11).symm.trans h_11
  have hb12 : b 12 = .int .i64 e1 := (hb 12).symm.trans h_12
  have hb13 : b 13 = .bool b1 := (hb 13).symm.trans h_13
  have hb15 : b 15 = .bool false := (hb 15).symm.trans h_15
  clear hb h_3 h_4 h_5 h_7 h_8 h_9 h_10 h_11 h_12 h_13 h_15
  have HP := Lib.hid hpost; have HN := Lib.hid hn
  clear hpost hn
  refine Eng.TW.take' (v := ?_) rfl rfl (by decide) (by kernel_rfl) (fun w hw => ?_) ?_
  rotate_left
  · (try dsimp only at hw); go_simp; first | done | with_reducible rfl
  refine Eng.TW.take' (v := ?_) rfl rfl (by decide) (by kernel_rfl) (fun w hw => ?_) ?_
  rotate_left
  · (try dsimp only at hw); go_simp; first | done | with_reducible rfl
  refine Eng.TW.take' (v := ?_) rfl rfl (by decide) (by kernel_rfl) (fun w hw => ?_) ?_
  rotate_left
  · (try dsimp only at hw); go_simp; first | done | with_reducible rfl
  refine Eng.TW.take' (v := ?_) rfl rfl (by decide) (by kernel_rfl) (fun w hw => ?_) ?_
  rotate_left
  · (try dsimp only at hw); go_simp; first | done | with_reducible rfl
  refine Eng.TW.take' (v := ?_) rfl rfl (by decide) (by kernel_rfl) (fun w hw => ?_) ?_
  rotate_left
  · (try dsimp only at hw); go_simp; first | done | with_reducible rfl
  refine Eng.TW.take' (v := ?_) rfl rfl (by decide) (by kernel_rfl) (fun w hw => ?_) ?_
  rotate_left
  · (try dsimp only at hw); go_simp; first | done | with_reducible rfl
  refine Eng.TW.take' (v := ?_) rfl rfl (by decide) (by kernel_rfl) (fun w hw => ?_) ?_
  rotate_left
  · (try dsimp only at hw); go_simp; first | done | with_reducible rfl
  refine Eng.TW.take' (v := ?_) rfl rfl (by decide) (by kernel_rfl) (fun w hw => ?_) ?_
  rotate_left
  · (try dsimp only at hw); go_simp; first | done | with_reducible rfl
  refine Eng.TW.take' (v := ?_) rfl rfl (by decide) (by kernel_rfl) (fun w hw => ?_) ?_
  rotate_left
  · (try dsimp only at hw); go_simp; first | done | with_reducible rfl
  refine Eng.TW.take' (v := ?_) rfl rfl (by decide) (by kernel_rfl) (fun w hw => ?_) ?_
  rotate_left
  · (try dsimp only at hw); go_simp; first | done | with_reducible rfl
  refine Eng.TW.take' (v := ?_) rfl rfl (by decide) (by kernel_rfl) (fun w hw => ?_) ?_
  rotate_left
  · (try dsimp only at hw); go_simp; first | done | with_reducible rfl
  refine Eng.TW.take' (v := ?_) rfl rfl (by decide) (by kernel_rfl) (fun w hw => ?_) ?_
  rotate_left
  · (try dsimp only at hw); go_simp; first | done | with_reducible rfl
  refine Eng.TW.take' (v := ?_) rfl rfl (by decide) (by kernel_rfl) (fun w hw => ?_) ?_
  rotate_left
  · (try dsimp only at hw); go_simp; first | done | with_reducible rfl
  refine Eng.TW.take' (v := ?_) rfl rfl (by decide) (by kernel_rfl) (fun w hw => ?_) ?_
  rotate_left
  · (try dsimp only at hw); go_simp; first | done | with_reducible rfl
  refine Eng.TW.take' (v := ?_) rfl rfl (by decide) (by kernel_rfl) (fun w hw => ?_) ?_
  rotate_left
  · (try dsimp only at hw); go_simp; first | done | with_reducible rfl
  refine Eng.TW.take' (v := ?_) rfl rfl (by decide) (by kernel_rfl) (fun w hw => ?_) ?_
  rotate_left
  · (try dsimp only at hw); go_simp; first | done | with_reducible rfl
  refine Eng.TW.take' (v := ?_) rfl rfl (by decide) (by kernel_rfl) (fun w hw => ?_) ?_
  rotate_left
  · (try dsimp only at hw); go_simp; first | done | with_reducible rfl
  refine Eng.TW.take' (v := ?_) rfl rfl (by decide) (by kernel_rfl) (fun w hw => ?_) ?_
  rotate_left
  · (try dsimp only at hw); go_simp; first | done | with_reducible rfl
  refine Eng.TW.take' (v := ?_) rfl rfl (by decide) (by kernel_rfl) (fun w hw => ?_) ?_
  rotate_left
  · (try dsimp only at hw); go_simp; first | done | with_reducible rfl
  refine Eng.TW.take' (v := ?_) rfl rfl (by decide) (by kernel_rfl) (fun w hw => ?_) ?_
  rotate_left
  · (try dsimp only at hw); go_simp; first | done | with_reducible rfl
  refine Eng.TW.take' (v := ?_) rfl rfl (by decide) (by kernel_rfl) (fun w hw => ?_) ?_
  rotate_left
  · (try dsimp only at hw); go_simp; first | done | with_reducible rfl
  refine Eng.TW.take' (v := ?_) rfl rfl (by decide) (by kernel_rfl) (fun w hw => ?_) ?_
  rotate_left
  · (try dsimp only at hw); go_simp; first | done | with_reducible rfl
  refine Eng.TW.call rfl rfl (by decide) (by kernel_rfl) ?_ (Kds.Fan B L F q.t z _ HSt.out.s.i hg.1 wz (by omega)) ?_
  · go_simp
  rintro e w2 ⟨rfl, hf⟩
  have HSt2 := Lib.hid (HSt.out.fr hf)
  have hSS : w2.cell? ⟨Ba, 0, none⟩ = some (.int .i64 q.t) ∧ w2.cell? ⟨Ba, 1, none⟩ = some (.int .i64 q.i) ∧ w2.cell? ⟨Bq, k, none⟩ = some (.int .i64 z) := ⟨HSt2.out.s.at 0 _ rfl, HSt2.out.s.at 1 _ rfl, HAK.out _ _ _ HSt2.out⟩
  clear hf
  refine ⟨_, rfl, hSS, ?_⟩
  refine Eng.TW.call rfl rfl (by decide) (by kernel_rfl) ?_ (RKids Bx L FX q.t z _ HSt2.out.s.x (by omega)) ?_
  · go_simp
  rintro e w3 ⟨A1, n1, rfl, -, hf⟩
  have HSt3 := Lib.hid (HSt2.out.fr hf)
  have hSS : w3.cell? ⟨Ba, 0, none⟩ = some (.int .i64 q.t) ∧ w3.cell? ⟨Ba, 1, none⟩ = some (.int .i64 q.i) ∧ w3.cell? ⟨Bq, k, none⟩ = some (.int .i64 z) := ⟨HSt3.out.s.at 0 _ rfl, HSt3.out.s.at 1 _ rfl, HAK.out _ _ _ HSt3.out⟩
  clear hf
  refine ⟨_, rfl, hSS, ?_⟩
  refine Eng.TW.take' (v := ?_) rfl rfl (by decide) (by kernel_rfl) (fun w hw => ?_) ?_
  rotate_left
  · (try dsimp only at hw); go_simp; first | done | with_reducible rfl
  refine Eng.TW.take' (v := ?_) rfl rfl (by decide) (by kernel_rfl) (fun w hw => ?_) ?_
  rotate_left
  · (try dsimp only at hw); go_simp; first | done | with_reducible rfl
  refine Eng.TW.take' (v := ?_) rfl rfl (by decide) (by kernel_rfl) (fun w hw => ?_) ?_
  rotate_left
  · (try dsimp only at hw); go_simp; first | done | with_reducible rfl
  refine Eng.TW.take' (v := ?_) rfl rfl (by decide) (by kernel_rfl) (fun w hw => ?_) ?_
  rotate_left
  · (try dsimp only at hw); go_simp; first | done | with_reducible rfl
  refine Eng.TW.take' (v := ?_) rfl rfl (by decide) (by kernel_rfl) (fun w hw => ?_) ?_
  rotate_left
  · (try dsimp only at hw); go_simp; first | done | with_reducible rfl
  refine Eng.TW.take' (v := ?_) rfl rfl (by decide) (by kernel_rfl) (fun w hw => ?_) ?_
  rotate_left
  · (try dsimp only at hw); go_simp; first | done | with_reducible rfl
  refine Eng.TW.take' (v := ?_) rfl rfl (by decide) (by kernel_rfl) (fun w hw => ?_) ?_
  rotate_left
  · (try dsimp only at hw); go_simp; first | done | with_reducible rfl
  refine Eng.TW.take' (v := ?_) rfl rfl (by decide) (by kernel_rfl) (fun w hw => ?_) ?_
  rotate_left
  · (try dsimp only at hw); go_simp; first | done | with_reducible rfl
  refine Eng.TW.take' (v := ?_) rfl rfl (by decide) (by kernel_rfl) (fun w hw => ?_) ?_
  rotate_left
  · (try dsimp only at hw); go_simp; first | done | with_reducible rfl
  refine Eng.TW.take' (v := ?_) rfl rfl (by decide) (by kernel_rfl) (fun w hw => ?_) ?_
  rotate_left
  · (try dsimp only at hw); go_simp; first | done | with_reducible rfl
  refine Eng.TW.take' (v := ?_) rfl rfl (by decide) (by kernel_rfl) (fun w hw => ?_) ?_
  rotate_left
  · (try dsimp only at hw); go_simp; first | done | with_reducible rfl
  refine Eng.TW.take' (v := ?_) rfl rfl (by decide) (by kernel_rfl) (fun w hw => ?_) ?_
  rotate_left
  · (try dsimp only at hw); go_simp; first | done | with_reducible rfl
  refine Eng.TW.take' (v := ?_) rfl rfl (by decide) (by kernel_rfl) (fun w hw => ?_) ?_
  rotate_left
  · (try dsimp only at hw); go_simp; first | done | with_reducible rfl
  refine Eng.TW.take' (v := ?_) rfl rfl (by decide) (by kernel_rfl) (fun w hw => ?_) ?_
  rotate_left
  · (try dsimp only at hw); go_simp; first | done | with_reducible rfl
  refine Eng.TW.call rfl rfl (by decide) (by kernel_rfl) ?_ (Kds.Fan_none q.t z _) ?_
  · go_simp
  rintro e w4 ⟨rfl, hf⟩
  have HSt4 := Lib.hid (HSt3.out.fr hf)
  have hSS : w4.cell? ⟨Ba, 0, none⟩ = some (.int .i64 q.t) ∧ w4.cell? ⟨Ba, 1, none⟩ = some (.int .i64 q.i) ∧ w4.cell? ⟨Bq, k, none⟩ = some (.int .i64 z) := ⟨HSt4.out.s.at 0 _ rfl, HSt4.out.s.at 1 _ rfl, HAK.out _ _ _ HSt4.out⟩
  clear hf
  refine ⟨_, rfl, hSS, ?_⟩
  refine Eng.TW.take' (v := ?_) rfl rfl (by decide) (by kernel_rfl) (fun w hw => ?_) ?_
  rotate_left
  · (try dsimp only at hw); go_simp; first | done | with_reducible rfl
  refine Eng.TW.take' (v := ?_) rfl rfl (by decide) (by kernel_rfl) (fun w hw => ?_) ?_
  rotate_left
  · (try dsimp only at hw); go_simp; first | done | with_reducible rfl
  refine Eng.TW.end_ [112, 113, 114, 115, 116, 117, 118, 119, 120, 121, 122, 123, 124, 125, 126, 127, 128, 129, 130, 131, 132, 133, 134, 135, 136, 137, 138, 139, 140, 141, 142, 143, 144, 145, 146, 147, 148, 149, 150, 151, 152] HN.out (by kernel_rfl) (by kernel_rfl) ?_
  exact HP.out _ _ rfl HSt4.out

set_option maxRecDepth 100000 in
set_option maxHeartbeats 400000 in
theorem kp25 {ops : Array Oper} (hops : Eng.fnOps Try.f3 25 = ops) (a0 : Act) (Q : Exit → Act → World → Prop) (w0 w : World) (B Bx Ba : Nat) (L : List Sn) (F FX : List Nat) (q : Sn) (hst : S3 w0 w B Bx Ba L F FX q) (hg : gd q) (sz : L.length < 1000000)
    (hn : a0.tmps.size = 171) (h_3 : a0.tmps.getD 3 undef = .pointer (some ⟨B, 0, none⟩)) (h_4 : a0.tmps.getD 4 undef = .pointer none) (h_5 : a0.tmps.getD 5 undef = .pointer (some ⟨Bx, 0, none⟩)) (h_7 : a0.tmps.getD 7 undef = .pointer (some ⟨Ba, 0, none⟩))
    (hpost : ∀ (x : Nat → Value) (w' : World), x 169 = .bool false → S3 w0 w' B Bx Ba L F FX q → Q .normal (Eng.setAll a0 [153, 154, 155, 156, 157, 158, 159, 160, 161, 162, 163, 164, 165, 166, 167, 168, 169] x) w') :
    (Code.region 25 ops true).wp Try.prog Q a0 w := by
  simp only [Eng.fnOps, Eng.regOps, Try.f3, Option.bind_some, Option.getD_some, Nat.reduceEqDiff, ↓reduceIte, Nat.reduceBEq] at hops
  subst hops
  have HSt := Lib.hid (hst.fr (Fr.drew _ _))
  have hSS : w.drew.cell? ⟨Ba, 0, none⟩ = some (.int .i64 q.t) := HSt.out.at 0 _ rfl
  refine Eng.regionT (.take 0 (.take 1 (.take 3 (.take 4 (.take 5 (.alt 2 (.alt 6 (.alt 7 (.take 8 (.take 9 (.take 10 (.take 11 (.take 12 (.alt 13 (.take 14 (.take 15 (.take 16 (.done)))) (.stop))))))) (.stop)) (.stop)) (.stop))))))) (fun w' => w'.cell? ⟨Ba, 0, none⟩ = some (.int .i64 q.t)) (by kernel_rfl) 171 hn (by kernel_rfl) (by kernel_rfl) (by kernel_rfl) (hSS) (fun a b ha hb => ?_)
  subst ha
  have hb3 : b 3 = .pointer (some ⟨B, 0, none⟩) := (hb 3).symm.trans h_3
  have hb4 : b 4 = .pointer none := (hb 4).symm.trans h_4
  have hb5 : b 5 = .pointer (some ⟨Bx, 0, none⟩) := (hb 5).symm.trans h_5
  have hb7 : b 7 = .pointer (some ⟨Ba, 0, none⟩) := (hb 7).symm.trans h_7
  clear hb h_3 h_4 h_5 h_7
  have HP := Lib.hid hpost; have HN := Lib.hid hn
  clear hpost hn
  refine Eng.TW.take' (v := ?_) rfl rfl (by decide) (by kernel_rfl) (fun w hw => ?_) ?_
  rotate_left
  · (try dsimp only at hw); go_simp; first | done | with_reducible rfl
  refine Eng.TW.take' (v := ?_) rfl rfl (by decide) (by kernel_rfl) (fun w hw => ?_) ?_
  rotate_left
  · (try dsimp only at hw); go_simp; first | done | with_reducible rfl
  refine Eng.TW.take' (v := ?_) rfl rfl (by decide) (by kernel_rfl) (fun w hw => ?_) ?_
  rotate_left
  · (try dsimp only at hw); go_simp; first | done | with_reducible rfl
  refine Eng.TW.take' (v := ?_) rfl rfl (by decide) (by kernel_rfl) (fun w hw => ?_) ?_
  rotate_left
  · (try dsimp only at hw); go_simp; first | done | with_reducible rfl
  refine Eng.TW.take' (v := ?_) rfl rfl (by decide) (by kernel_rfl) (fun w hw => ?_) ?_
  rotate_left
  · (try dsimp only at hw); go_simp; first | done | with_reducible rfl
  refine Eng.TW.call rfl rfl (by decide) (by kernel_rfl) ?_ (KSpans B L F q.t _ HSt.out.i hg.1 (by omega)) ?_
  · go_simp
  rintro e w2 ⟨A1, n1, rfl, hS, hf⟩
  have HS1 := Lib.hid (hS)
  have HSt2 := Lib.hid (HSt.out.fr hf)
  have hSS : w2.cell? ⟨Ba, 0, none⟩ = some (.int .i64 q.t) := HSt2.out.at 0 _ rfl
  clear hS hf
  refine ⟨_, rfl, hSS, ?_⟩
  refine Eng.TW.call rfl rfl (by decide) (by kernel_rfl) ?_ (RSpans Bx L FX q.t _ HSt2.out.x (by omega)) ?_
  · go_simp
  rintro e w3 ⟨A2, n2, rfl, hS2, hf⟩
  have HS1' := Lib.hid (HS1.out.fr hf (fun _ _ h => h)); have HS2 := Lib.hid (hS2)
  have HSt3 := Lib.hid (HSt2.out.fr hf)
  have hSS : w3.cell? ⟨Ba, 0, none⟩ = some (.int .i64 q.t) := HSt3.out.at 0 _ rfl
  clear hS2 hf
  refine ⟨_, rfl, hSS, ?_⟩
  refine Eng.TW.call rfl rfl (by decide) (by kernel_rfl) ?_ (SameTT A1 A2 n1 n2 _ _ _ _ rfl rfl HS1'.out HS2.out) ?_
  · go_simp
  rintro e w4 ⟨rfl, hf⟩
  have HSt4 := Lib.hid (HSt3.out.fr hf)
  have hSS : w4.cell? ⟨Ba, 0, none⟩ = some (.int .i64 q.t) := HSt4.out.at 0 _ rfl
  clear hf
  refine ⟨_, rfl, hSS, ?_⟩
  refine Eng.TW.take' (v := ?_) rfl rfl (by decide) (by kernel_rfl) (fun w hw => ?_) ?_
  rotate_left
  · (try dsimp only at hw); go_simp; first | done | with_reducible rfl
  refine Eng.TW.take' (v := ?_) rfl rfl (by decide) (by kernel_rfl) (fun w hw => ?_) ?_
  rotate_left
  · (try dsimp only at hw); go_simp; first | done | with_reducible rfl
  refine Eng.TW.take' (v := ?_) rfl rfl (by decide) (by kernel_rfl) (fun w hw => ?_) ?_
  rotate_left
  · (try dsimp only at hw); go_simp; first | done | with_reducible rfl
  refine Eng.TW.take' (v := ?_) rfl rfl (by decide) (by kernel_rfl) (fun w hw => ?_) ?_
  rotate_left
  · (try dsimp only at hw); go_simp; first | done | with_reducible rfl
  refine Eng.TW.take' (v := ?_) rfl rfl (by decide) (by kernel_rfl) (fun w hw => ?_) ?_
  rotate_left
  · (try dsimp only at hw); go_simp; first | done | with_reducible rfl
  refine Eng.TW.call rfl rfl (by decide) (by kernel_rfl) ?_ (Kds.Spans_none q.t _) ?_
  · go_simp
  rintro e w5 ⟨rfl, hf⟩
  have HSt5 := Lib.hid (HSt4.out.fr hf)
  have hSS : w5.cell? ⟨Ba, 0, none⟩ = some (.int .i64 q.t) := HSt5.out.at 0 _ rfl
  clear hf
  refine ⟨_, rfl, hSS, ?_⟩
  refine Eng.TW.take' (v := ?_) rfl rfl (by decide) (by kernel_rfl) (fun w hw => ?_) ?_
  rotate_left
  · (try dsimp only at hw); go_simp; first | done | with_reducible rfl
  refine Eng.TW.take' (v := ?_) rfl rfl (by decide) (by kernel_rfl) (fun w hw => ?_) ?_
  rotate_left
  · (try dsimp only at hw); go_simp; first | done | with_reducible rfl
  refine Eng.TW.take' (v := ?_) rfl rfl (by decide) (by kernel_rfl) (fun w hw => ?_) ?_
  rotate_left
  · (try dsimp only at hw); go_simp; first | done | with_reducible rfl
  refine Eng.TW.end_ [153, 154, 155, 156, 157, 158, 159, 160, 161, 162, 163, 164, 165, 166, 167, 168, 169] HN.out (by kernel_rfl) (by kernel_rfl) ?_
  exact HP.out _ _ rfl HSt5.out

end Law20
end Go.Proofs.Ytkhhdadlpilbmaa
