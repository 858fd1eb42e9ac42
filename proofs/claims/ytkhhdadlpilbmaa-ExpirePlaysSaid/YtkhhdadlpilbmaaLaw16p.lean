/- Layer 16's statements: ExpirePlays: for every input the answer is true. -/
import Derived.Test.YtkhhdadlpilbmaaLaw16a
namespace Go.Proofs.Ytkhhdadlpilbmaa
open Go.RowKit
namespace Law16
open KeyP ExpP Ref16 Exp
attribute [local go_sem] Eng.ev Eng.getO_cons Eng.getO_nil
abbrev TAct : TypeId := 72
theorem RX_new (w : World) : RX (w.alloc (.cells #[.slice none 0 0] Ref16.TR)) w.heap.size [] [w.heap.size] := ⟨none, 0, Bk.new _ _ _, Sl.empty _ _, rfl, by simp⟩
/-- The index, the document's, and an act. -/
structure SA (w0 w : World) (B Bx Ba : Nat) (M L : List It) (F FX : List Nat) (y : Ac) : Prop where
  zs : Zs w0.heap.size w0 w [F, FX, [Ba]]
  i : IB w B M F
  x : RX w Bx L FX
  a : Bk w Ba #[.int .i64 y.k, .string y.key, .int .i64 y.e] TAct
section
variable {w0 w w' : World} {B Bx Ba : Nat} {M L M' L' : List It} {F FX F' FX' : List Nat} {y : Ac}
theorem SA.fr (h : SA w0 w B Bx Ba M L F FX y) (hf : Fr (fun _ => False) w w') : SA w0 w' B Bx Ba M L F FX y := ⟨h.zs.fr hf, h.i.fr hf (fun _ _ h => h), h.x.fr hf (fun _ _ h => h), h.a.fr hf (fun _ _ h => h)⟩
theorem SA.turnI (h : SA w0 w B Bx Ba M L F FX y) (hi : IB w' B M' F') (ht : Tn F F' w w') : SA w0 w' B Bx Ba M' L F' FX y :=
  ⟨h.zs.turn [] [FX, [Ba]] ht, hi, h.x.fr ht.fr (h.zs.ap 0 1 rfl rfl (by decide)), h.a.fr ht.fr (h.zs.ap 0 2 rfl rfl (by decide))⟩
theorem SA.turnX (h : SA w0 w B Bx Ba M L F FX y) (hx : RX w' Bx L' FX') (ht : Tn FX FX' w w') : SA w0 w' B Bx Ba M L' F FX' y :=
  ⟨h.zs.turn [F] [[Ba]] ht, h.i.fr ht.fr (h.zs.ap 1 0 rfl rfl (by decide)), hx, h.a.fr ht.fr (h.zs.ap 1 2 rfl rfl (by decide))⟩
theorem SA.key (h : SA w0 w B Bx Ba M L F FX y) : w.cell? ⟨Ba, 1, none⟩ = some (.string y.key) ∧ w.cell? ⟨Ba, 2, none⟩ = some (.int .i64 y.e) := ⟨h.a.cell 1, h.a.cell 2⟩
end
/-- What has been told besides. -/
structure SY (w0 w : World) (B Bx Ba : Nat) (M L : List It) (F FX : List Nat) (y : Ac) (Ax : Option Addr) (cx : Nat) (Y : List (Option Addr × Nat × Int)) : Prop where
  s : SA w0 w B Bx Ba M L F FX y
  hd : Bk w Bx #[.slice Ax L.length cx] Ref16.TR
  y : ∀ s ∈ Y, Sl w 1 s.1 (belowR s.2.2 L).length s.2.1 (strs (tt s.2.2 L))
section
variable {w0 w w' : World} {B Bx Ba : Nat} {M L : List It} {F FX : List Nat} {y : Ac} {Ax : Option Addr} {cx : Nat} {Y : List (Option Addr × Nat × Int)}
theorem SY.fr (h : SY w0 w B Bx Ba M L F FX y Ax cx Y) (hf : Fr (fun _ => False) w w') : SY w0 w' B Bx Ba M L F FX y Ax cx Y := ⟨h.s.fr hf, h.hd.fr hf (fun _ _ h => h), fun s hs => (h.y s hs).fr hf (fun _ _ h => h)⟩
theorem SY.add {A : Option Addr} {c : Nat} {t : Int} (h : SY w0 w B Bx Ba M L F FX y Ax cx Y) (hf : Fr (fun _ => False) w w') (hS : Sl w' 1 A (belowR t L).length c (strs (tt t L))) : SY w0 w' B Bx Ba M L F FX y Ax cx ((A, c, t) :: Y) := by
  have k := h.fr hf
  refine ⟨k.s, k.hd, fun s hs => ?_⟩
  rcases List.mem_cons.1 hs with rfl | hs
  · exact hS
  · exact k.y s hs
theorem SA.sy (h : SA w0 w B Bx Ba M L F FX y) : ∃ Ax cx, SY w0 w B Bx Ba M L F FX y Ax cx [] := by
  obtain ⟨A, c, h1, -⟩ := h.x
  exact ⟨A, c, h, h1, by simp⟩
end
set_option maxRecDepth 100000 in
set_option maxHeartbeats 1000000 in
theorem ep20 {ops : Array Oper} (hops : Eng.fnOps Try.f7 20 = ops) (a0 : Act) (Q : Exit → Act → World → Prop) (w0 w : World) (B Bx Ba : Nat) (M L : List It) (F FX : List Nat) (y : Ac) (Ax : Option Addr) (cx : Nat) (t1 e1 : Int) (b1 : Bool) (hst : SY w0 w B Bx Ba M L F FX y Ax cx []) (hr : Rl L M) (hm : M.length ≤ 1000000) (hl : L.length ≤ 1000000) (hML : L.length = M.length)
    (hn : a0.tmps.size = 136) (h_1 : a0.tmps.getD 1 undef = .int .i64 t1) (h_5 : a0.tmps.getD 5 undef = .pointer (some ⟨B, 0, none⟩)) (h_6 : a0.tmps.getD 6 undef = .pointer none) (h_7 : a0.tmps.getD 7 undef = .pointer (some ⟨Bx, 0, none⟩)) (h_9 : a0.tmps.getD 9 undef = .pointer (some ⟨Ba, 0, none⟩)) (h_10 : a0.tmps.getD 10 undef = .int .i64 e1) (h_11 : a0.tmps.getD 11 undef = .bool b1) (h_12 : a0.tmps.getD 12 undef = .int .i64 e1) (h_13 : a0.tmps.getD 13 undef = .bool b1) (h_15 : a0.tmps.getD 15 undef = .bool false)
    (hpost : ∀ (x : Nat → Value) (w' : World), x 134 = .bool false → SA w0 w' B Bx Ba M L F FX y → Q .normal (Eng.setAll a0 [83, 84, 85, 86, 87, 88, 89, 90, 91, 92, 93, 94, 95, 96, 97, 98, 99, 100, 101, 102, 103, 104, 105, 106, 107, 108, 109, 110, 111, 112, 113, 114, 115, 116, 117, 118, 119, 120, 121, 122, 123, 124, 125, 126, 127, 128, 129, 130, 131, 132, 133, 134] x) w') :
    (Code.region 20 ops true).wp Try.prog Q a0 w := by
  simp only [Eng.fnOps, Eng.regOps, Try.f7, Option.bind_some, Option.getD_some, Nat.reduceEqDiff, ↓reduceIte, Nat.reduceBEq] at hops
  subst hops
  have q1 : ((M.length : Int) != (L.length : Int)) = false := by rw [hML]; simp
  have q2 : (e1 != e1) = false := by simp
  have q3 : (b1 != b1) = false := by simp
  have HSt := Lib.hid (hst.fr (Fr.drew _ _))
  have hSS : w.drew.cell? ⟨Bx, 0, none⟩ = some (.slice Ax L.length cx) ∧ w.drew.cell? ⟨Ba, 2, none⟩ = some (.int .i64 y.e) := ⟨HSt.out.hd.cell 0, HSt.out.s.a.cell 2⟩
  refine Eng.regionT (.take 0 (.take 1 (.take 2 (.take 3 (.take 4 (.take 5 (.take 6 (.take 7 (.take 8 (.take 10 (.take 11 (.take 12 (.take 13 (.take 14 (.alt 9 (.take 15 (.take 16 (.take 17 (.take 18 (.take 20 (.take 21 (.alt 19 (.alt 22 (.alt 23 (.take 24 (.take 25 (.take 26 (.take 27 (.take 28 (.take 30 (.take 31 (.take 32 (.alt 29 (.alt 33 (.alt 34 (.take 35 (.take 36 (.take 37 (.take 38 (.take 39 (.take 40 (.take 41 (.alt 42 (.take 43 (.take 44 (.take 45 (.take 46 (.take 47 (.alt 48 (.take 49 (.take 50 (.take 51 (.done)))) (.stop))))))) (.stop))))))))) (.stop)) (.stop)) (.stop)))))))))) (.stop)) (.stop)) (.stop)))))))) (.stop)))))))))))))))) (fun w' => w'.cell? ⟨Bx, 0, none⟩ = some (.slice Ax L.length cx) ∧ w'.cell? ⟨Ba, 2, none⟩ = some (.int .i64 y.e)) (by kernel_rfl) 136 hn (by kernel_rfl) (by kernel_rfl) (by kernel_rfl) (hSS) (fun a b ha hb => ?_)
  subst ha
  have hb1 : b 1 = .int .i64 t1 := (hb 1).symm.trans h_1
  have hb5 : b 5 = .pointer (some ⟨B, 0, none⟩) := (hb 5).symm.trans h_5
  have hb6 : b 6 = .pointer none := (hb 6).symm.trans h_6
  have hb7 : b 7 = .pointer (some ⟨Bx, 0, none⟩) := (hb 7).symm.trans h_7
  have hb9 : b 9 = .pointer (some ⟨Ba, 0, none⟩) := (hb 9).symm.trans h_9
  have hb10 : b 10 = .int .i64 e1 := (hb 10).symm.trans h_10
  have hb11 : b 11 = .bool b1 := (hb 11).symm.trans h_11
  have hb12 : b 12 = .int .i64 e1 := (hb 12).symm.trans h_12
  have hb13 : b 13 = .bool b1 := (hb 13).symm.trans h_13
  have hb15 : b 15 = .bool false := (hb 15).symm.trans h_15
  clear hb h_1 h_5 h_6 h_7 h_9 h_10 h_11 h_12 h_13 h_15
  have HP := Lib.hid hpost; have HN := Lib.hid hn
  clear hpost hn
  refine Eng.TW.take' (v := ?_) rfl rfl (by decide) (by kernel_rfl) (fun w hw => ?_) ?_
  rotate_left
  · (try dsimp only at hw); go_simp; first | done | with_reducible rfl
  refine Eng.TW.take' (v := ?_) rfl rfl (by decide) (by kernel_rfl) (fun w hw => ?_) ?_
  rotate_left
  · (try dsimp only at hw); go_simp; first | done | with_reducible rfl
  refine Eng.TW.take' (v := ?_) rfl rfl (by decide) (by kernel_rfl) (fun w hw => ?_) ?_
  rotate_left
  · (try dsimp only at hw); go_simp; first | done | with_reducible rfl
  refine Eng.TW.take' (v := ?_) rfl rfl (by decide) (by kernel_rfl) (fun w hw => ?_) ?_
  rotate_left
  · (try dsimp only at hw); go_simp; first | done | with_reducible rfl
  refine Eng.TW.take' (v := ?_) rfl rfl (by decide) (by kernel_rfl) (fun w hw => ?_) ?_
  rotate_left
  · (try dsimp only at hw); go_simp; first | done | with_reducible rfl
  refine Eng.TW.take' (v := ?_) rfl rfl (by decide) (by kernel_rfl) (fun w hw => ?_) ?_
  rotate_left
  · (try dsimp only at hw); go_simp; first | done | with_reducible rfl
  refine Eng.TW.take' (v := ?_) rfl rfl (by decide) (by kernel_rfl) (fun w hw => ?_) ?_
  rotate_left
  · (try dsimp only at hw); go_simp; first | done | with_reducible rfl
  refine Eng.TW.take' (v := ?_) rfl rfl (by decide) (by kernel_rfl) (fun w hw => ?_) ?_
  rotate_left
  · (try dsimp only at hw); go_simp; first | done | with_reducible rfl
  refine Eng.TW.take' (v := ?_) rfl rfl (by decide) (by kernel_rfl) (fun w hw => ?_) ?_
  rotate_left
  · (try dsimp only at hw); go_simp; first | done | with_reducible rfl
  refine Eng.TW.take' (v := ?_) rfl rfl (by decide) (by kernel_rfl) (fun w hw => ?_) ?_
  rotate_left
  · (try dsimp only at hw); go_simp; first | done | with_reducible rfl
  refine Eng.TW.take' (v := ?_) rfl rfl (by decide) (by kernel_rfl) (fun w hw => ?_) ?_
  rotate_left
  · (try dsimp only at hw); go_simp; first | done | with_reducible rfl
  refine Eng.TW.take' (v := ?_) rfl rfl (by decide) (by kernel_rfl) (fun w hw => ?_) ?_
  rotate_left
  · (try dsimp only at hw); go_simp; first | done | with_reducible rfl
  refine Eng.TW.take' (v := ?_) rfl rfl (by decide) (by kernel_rfl) (fun w hw => ?_) ?_
  rotate_left
  · (try dsimp only at hw); go_simp; first | done | with_reducible rfl
  refine Eng.TW.take' (v := ?_) rfl rfl (by decide) (by kernel_rfl) (fun w hw => ?_) ?_
  rotate_left
  · (try dsimp only at hw); go_simp; first | done | with_reducible rfl
  refine Eng.TW.call rfl rfl (by decide) (by kernel_rfl) ?_ (Exp.Len B M F _ HSt.out.s.i) ?_
  · go_simp
  rintro e w_2 ⟨rfl, rfl⟩
  refine ⟨_, rfl, hSS, ?_⟩
  refine Eng.TW.take' (v := ?_) rfl rfl (by decide) (by kernel_rfl) (fun w hw => ?_) ?_
  rotate_left
  · (try dsimp only at hw); go_simp; first | done | with_reducible rfl
  refine Eng.TW.take' (v := ?_) rfl rfl (by decide) (by kernel_rfl) (fun w hw => ?_) ?_
  rotate_left
  · (try dsimp only at hw); go_simp; first | done | with_reducible rfl
  refine Eng.TW.take' (v := ?_) rfl rfl (by decide) (by kernel_rfl) (fun w hw => ?_) ?_
  rotate_left
  · (try dsimp only at hw); go_simp; first | done | with_reducible rfl
  refine Eng.TW.take' (v := ?_) rfl rfl (by decide) (by kernel_rfl) (fun w hw => ?_) ?_
  rotate_left
  · (try dsimp only at hw); go_simp; first | done | with_reducible rfl
  refine Eng.TW.take' (v := ?_) rfl rfl (by decide) (by kernel_rfl) (fun w hw => ?_) ?_
  rotate_left
  · (try dsimp only at hw); go_simp; first | done | with_reducible rfl
  refine Eng.TW.take' (v := ?_) rfl rfl (by decide) (by kernel_rfl) (fun w hw => ?_) ?_
  rotate_left
  · (try dsimp only at hw); go_simp; first | done | with_reducible rfl
  refine Eng.TW.call rfl rfl (by decide) (by kernel_rfl) ?_ (TellI HSt.out.s.i hr hm t1) ?_
  · go_simp
  rintro e w3 ⟨A1, n1, rfl, hS, hf⟩
  have HSt3 := Lib.hid (HSt.out.add hf hS)
  have hSS : w3.cell? ⟨Bx, 0, none⟩ = some (.slice Ax L.length cx) ∧ w3.cell? ⟨Ba, 2, none⟩ = some (.int .i64 y.e) := ⟨HSt3.out.hd.cell 0, HSt3.out.s.a.cell 2⟩
  clear hS hf
  refine ⟨_, rfl, hSS, ?_⟩
  refine Eng.TW.call rfl rfl (by decide) (by kernel_rfl) ?_ (TellR HSt3.out.s.x hl t1) ?_
  · go_simp
  rintro e w4 ⟨A2, n2, rfl, hS, hf⟩
  have HSt4 := Lib.hid (HSt3.out.add hf hS)
  have hSS : w4.cell? ⟨Bx, 0, none⟩ = some (.slice Ax L.length cx) ∧ w4.cell? ⟨Ba, 2, none⟩ = some (.int .i64 y.e) := ⟨HSt4.out.hd.cell 0, HSt4.out.s.a.cell 2⟩
  clear hS hf
  refine ⟨_, rfl, hSS, ?_⟩
  refine Eng.TW.call rfl rfl (by decide) (by kernel_rfl) ?_ (SameTT A1 A2 n1 n2 (tt t1 L) _ _ (tt_len _ _).symm (HSt4.out.y (A1, n1, t1) (by simp)) (HSt4.out.y (A2, n2, t1) (by simp))) ?_
  · go_simp
  rintro e w5 ⟨rfl, hf⟩
  have HSt5 := Lib.hid (HSt4.out.fr hf)
  have hSS : w5.cell? ⟨Bx, 0, none⟩ = some (.slice Ax L.length cx) ∧ w5.cell? ⟨Ba, 2, none⟩ = some (.int .i64 y.e) := ⟨HSt5.out.hd.cell 0, HSt5.out.s.a.cell 2⟩
  clear hf
  refine ⟨_, rfl, hSS, ?_⟩
  refine Eng.TW.take' (v := ?_) rfl rfl (by decide) (by kernel_rfl) (fun w hw => ?_) ?_
  rotate_left
  · (try dsimp only at hw); go_simp; first | done | with_reducible rfl
  refine Eng.TW.take' (v := ?_) rfl rfl (by decide) (by kernel_rfl) (fun w hw => ?_) ?_
  rotate_left
  · (try dsimp only at hw); go_simp; first | done | with_reducible rfl
  refine Eng.TW.take' (v := ?_) rfl rfl (by decide) (by kernel_rfl) (fun w hw => ?_) ?_
  rotate_left
  · (try dsimp only at hw); go_simp; first | done | with_reducible rfl
  refine Eng.TW.take' (v := ?_) rfl rfl (by decide) (by kernel_rfl) (fun w hw => ?_) ?_
  rotate_left
  · (try dsimp only at hw); go_simp; first | done | with_reducible rfl
  refine Eng.TW.take' (v := ?_) rfl rfl (by decide) (by kernel_rfl) (fun w hw => ?_) ?_
  rotate_left
  · (try dsimp only at hw); go_simp; first | done | with_reducible rfl
  refine Eng.TW.take' (v := ?_) rfl rfl (by decide) (by kernel_rfl) (fun w hw => ?_) ?_
  rotate_left
  · (try dsimp only at hw); go_simp; first | done | with_reducible rfl
  refine Eng.TW.take' (v := ?_) rfl rfl (by decide) (by kernel_rfl) (fun w hw => ?_) ?_
  rotate_left
  · (try dsimp only at hw); go_simp; first | done | with_reducible rfl
  refine Eng.TW.take' (v := ?_) rfl rfl (by decide) (by kernel_rfl) (fun w hw => ?_) ?_
  rotate_left
  · (try dsimp only at hw); go_simp; first | done | with_reducible rfl
  refine Eng.TW.call rfl rfl (by decide) (by kernel_rfl) ?_ (TellI HSt5.out.s.i hr hm y.e) ?_
  · go_simp
  rintro e w6 ⟨A3, n3, rfl, hS, hf⟩
  have HSt6 := Lib.hid (HSt5.out.add hf hS)
  have hSS : w6.cell? ⟨Bx, 0, none⟩ = some (.slice Ax L.length cx) ∧ w6.cell? ⟨Ba, 2, none⟩ = some (.int .i64 y.e) := ⟨HSt6.out.hd.cell 0, HSt6.out.s.a.cell 2⟩
  clear hS hf
  refine ⟨_, rfl, hSS, ?_⟩
  refine Eng.TW.call rfl rfl (by decide) (by kernel_rfl) ?_ (TellR HSt6.out.s.x hl y.e) ?_
  · go_simp
  rintro e w7 ⟨A4, n4, rfl, hS, hf⟩
  have HSt7 := Lib.hid (HSt6.out.add hf hS)
  have hSS : w7.cell? ⟨Bx, 0, none⟩ = some (.slice Ax L.length cx) ∧ w7.cell? ⟨Ba, 2, none⟩ = some (.int .i64 y.e) := ⟨HSt7.out.hd.cell 0, HSt7.out.s.a.cell 2⟩
  clear hS hf
  refine ⟨_, rfl, hSS, ?_⟩
  refine Eng.TW.call rfl rfl (by decide) (by kernel_rfl) ?_ (SameTT A3 A4 n3 n4 (tt y.e L) _ _ (tt_len _ _).symm (HSt7.out.y (A3, n3, y.e) (by simp)) (HSt7.out.y (A4, n4, y.e) (by simp))) ?_
  · go_simp
  rintro e w8 ⟨rfl, hf⟩
  have HSt8 := Lib.hid (HSt7.out.fr hf)
  have hSS : w8.cell? ⟨Bx, 0, none⟩ = some (.slice Ax L.length cx) ∧ w8.cell? ⟨Ba, 2, none⟩ = some (.int .i64 y.e) := ⟨HSt8.out.hd.cell 0, HSt8.out.s.a.cell 2⟩
  clear hf
  refine ⟨_, rfl, hSS, ?_⟩
  refine Eng.TW.take' (v := ?_) rfl rfl (by decide) (by kernel_rfl) (fun w hw => ?_) ?_
  rotate_left
  · (try dsimp only at hw); go_simp; first | done | with_reducible rfl
  refine Eng.TW.take' (v := ?_) rfl rfl (by decide) (by kernel_rfl) (fun w hw => ?_) ?_
  rotate_left
  · (try dsimp only at hw); go_simp; first | done | with_reducible rfl
  refine Eng.TW.take' (v := ?_) rfl rfl (by decide) (by kernel_rfl) (fun w hw => ?_) ?_
  rotate_left
  · (try dsimp only at hw); go_simp; first | done | with_reducible rfl
  refine Eng.TW.take' (v := ?_) rfl rfl (by decide) (by kernel_rfl) (fun w hw => ?_) ?_
  rotate_left
  · (try dsimp only at hw); go_simp; first | done | with_reducible rfl
  refine Eng.TW.take' (v := ?_) rfl rfl (by decide) (by kernel_rfl) (fun w hw => ?_) ?_
  rotate_left
  · (try dsimp only at hw); go_simp; first | done | with_reducible rfl
  refine Eng.TW.take' (v := ?_) rfl rfl (by decide) (by kernel_rfl) (fun w hw => ?_) ?_
  rotate_left
  · (try dsimp only at hw); go_simp; first | done | with_reducible rfl
  refine Eng.TW.take' (v := ?_) rfl rfl (by decide) (by kernel_rfl) (fun w hw => ?_) ?_
  rotate_left
  · (try dsimp only at hw); go_simp; first | done | with_reducible rfl
  refine Eng.TW.call rfl rfl (by decide) (by kernel_rfl) ?_ (Exp.Len_none _) ?_
  · go_simp
  rintro e w_9 ⟨rfl, rfl⟩
  refine ⟨_, rfl, hSS, ?_⟩
  refine Eng.TW.take' (v := ?_) rfl rfl (by decide) (by kernel_rfl) (fun w hw => ?_) ?_
  rotate_left
  · (try dsimp only at hw); go_simp; first | done | with_reducible rfl
  refine Eng.TW.take' (v := ?_) rfl rfl (by decide) (by kernel_rfl) (fun w hw => ?_) ?_
  rotate_left
  · (try dsimp only at hw); go_simp; first | done | with_reducible rfl
  refine Eng.TW.take' (v := ?_) rfl rfl (by decide) (by kernel_rfl) (fun w hw => ?_) ?_
  rotate_left
  · (try dsimp only at hw); go_simp; first | done | with_reducible rfl
  refine Eng.TW.take' (v := ?_) rfl rfl (by decide) (by kernel_rfl) (fun w hw => ?_) ?_
  rotate_left
  · (try dsimp only at hw); go_simp; first | done | with_reducible rfl
  refine Eng.TW.take' (v := ?_) rfl rfl (by decide) (by kernel_rfl) (fun w hw => ?_) ?_
  rotate_left
  · (try dsimp only at hw); go_simp; first | done | with_reducible rfl
  refine Eng.TW.call rfl rfl (by decide) (by kernel_rfl) ?_ (Exp.Below_none t1 _) ?_
  · go_simp
  rintro e w10 ⟨rfl, hf⟩
  have HSt10 := Lib.hid (HSt8.out.fr hf)
  have hSS : w10.cell? ⟨Bx, 0, none⟩ = some (.slice Ax L.length cx) ∧ w10.cell? ⟨Ba, 2, none⟩ = some (.int .i64 y.e) := ⟨HSt10.out.hd.cell 0, HSt10.out.s.a.cell 2⟩
  clear hf
  refine ⟨_, rfl, hSS, ?_⟩
  refine Eng.TW.take' (v := ?_) rfl rfl (by decide) (by kernel_rfl) (fun w hw => ?_) ?_
  rotate_left
  · (try dsimp only at hw); go_simp; first | done | with_reducible rfl
  refine Eng.TW.take' (v := ?_) rfl rfl (by decide) (by kernel_rfl) (fun w hw => ?_) ?_
  rotate_left
  · (try dsimp only at hw); go_simp; first | done | with_reducible rfl
  refine Eng.TW.take' (v := ?_) rfl rfl (by decide) (by kernel_rfl) (fun w hw => ?_) ?_
  rotate_left
  · (try dsimp only at hw); go_simp; first | done | with_reducible rfl
  refine Eng.TW.end_ [83, 84, 85, 86, 87, 88, 89, 90, 91, 92, 93, 94, 95, 96, 97, 98, 99, 100, 101, 102, 103, 104, 105, 106, 107, 108, 109, 110, 111, 112, 113, 114, 115, 116, 117, 118, 119, 120, 121, 122, 123, 124, 125, 126, 127, 128, 129, 130, 131, 132, 133, 134] HN.out (by kernel_rfl) (by kernel_rfl) ?_
  exact HP.out _ _ rfl HSt10.out.s

def PPost (w : World) (B Bx : Nat) (n : Nat) (wr : World) : Prop := ∃ M L F FX, Zs w.heap.size w wr [F, FX] ∧ IB wr B M F ∧ RX wr Bx L FX ∧ Rl L M ∧ L.length ≤ n
theorem start (w : World) : PPost w w.heap.size (w.heap.size + 1) 0 ((w.alloc (.cells (cellsX none 0 none 0) TX)).alloc (.cells #[.slice none 0 0] Ref16.TR)) := by
  have z := ((Zs.start w).alloc (.cells (cellsX none 0 none 0) TX)).alloc (.cells #[.slice none 0 0] Ref16.TR)
  have h1 := (IB.new w).fr (Fr.alloc (fun _ => False) _ (.cells #[.slice none 0 0] Ref16.TR)) (fun _ _ h => h)
  have h2 := RX_new (w.alloc (.cells (cellsX none 0 none 0) TX))
  simp only [World.size_alloc, List.nil_append, List.cons_append] at z h2
  exact ⟨_, _, _, _, z, h1, h2, Rl.nil, by simp⟩
set_option maxRecDepth 100000 in
set_option maxHeartbeats 2000000 in
theorem plays (A0 : Option Addr) (c0 : Nat) (acts : List Ac) (t1 : Int) (w : World) (hS0 : Sl w 3 A0 acts.length c0 (acts.flatMap ac)) (hG : ∀ a ∈ acts, a.key.size ≤ maxLen ∧ in64 a.e) :
    Calls Try.prog 7 #[.slice A0 acts.length c0, .int .i64 t1] w fun e w' => e = .returned (.bool true) ∧ Below w.heap.size w w' := by
  have HFew := Lib.hid (Few A0 c0 acts w hS0 (fun a ha => by have := (hG a ha).1; unfold maxLen at this; omega))
  by_cases hfew : few acts = false
  · rw [hfew] at HFew
    have HA := Lib.hid (awake w)
    clear hfew hS0 hG
    go_enter Try.func7, Try.ntmps7
    go_wp2_with fail
    refine HFew.out.mono ?_
    rintro e w1 ⟨rfl, rfl⟩
    go_wp2_with fail
    refine HA.out.mono ?_
    rintro e w1 ⟨rfl, hb⟩
    have HB := Lib.hid hb
    clear hb
    go_wp2_with fail
    go_ret
    exact ⟨rfl, HB.out.below (Nat.le_refl _) (fun _ _ h => h)⟩
  · have hfew : few acts = true := by simpa using hfew
    rw [hfew] at HFew
    have hl : acts.length ≤ 60 := by unfold few at hfew; simp at hfew; exact hfew.2
    have HL0 := Lib.hid hS0; have HGa := Lib.hid hG
    have HS0 := Lib.hid (start w)
    clear hS0 hfew hG
    go_enter Try.func7, Try.ntmps7
    go_wp2_with fail
    refine HFew.out.mono ?_
    rintro e w1 ⟨rfl, rfl⟩
    clear HFew
    go_wp2_with fail
    generalize (w.alloc (.cells (cellsX none 0 none 0) TX)).alloc (.cells #[.slice none 0 0] Ref16.TR) = w3 at *
    generalize hB : w.heap.size = B at *
    have HBB := Lib.hid hB
    clear hB
    generalize B + 1 = Bx at *
    go_loopg [8, 9, 10, 11, 12, 13, 14, 15] acts.length (fun gk i _ _ _ _ _ _ _ wr => ∃ j : Nat, i = .int .i64 j ∧ j ≤ acts.length ∧ gk = acts.length - j ∧ PPost w B Bx j wr)
    case atStart => exact ⟨0, rfl, Nat.zero_le _, rfl, HS0.out⟩
    case round =>
      clear HS0
      obtain ⟨j, rfl, hj, hg, M, L, F, FX, hz, hi, hx, hr, hln⟩ := hrel
      have HG := Lib.hid hg; have HZ := Lib.hid hz; have HI := Lib.hid hi; have HR := Lib.hid hx; have HRl0 := Lib.hid hr; have HLn0 := Lib.hid hln
      have hml : M.length ≤ 60 := by have := hr.len; omega
      have hll : L.length ≤ 60 := by omega
      clear hg hz hi hx hr hln
      by_cases hlt : j < acts.length
      · obtain ⟨b1, o1, rfl, hb1, hcs⟩ := HL0.out.at hlt (by omega)
        have d0 : wr.cell? ⟨b1, o1 + j * 3, none⟩ = some (.int .i64 acts[j].k) := (HZ.out.bel.cell (p := ⟨b1, _, none⟩) hb1).trans (hcs (j * 3) _ (by rw [← Nat.add_zero (j * 3), flat_at ac_len hlt (by omega)]; rfl))
        have d1 : wr.cell? ⟨b1, o1 + j * 3 + 1, none⟩ = some (.string acts[j].key) := (HZ.out.bel.cell (p := ⟨b1, _, none⟩) hb1).trans (hcs (j * 3 + 1) _ (by rw [flat_at ac_len hlt (by omega)]; rfl))
        have d2 : wr.cell? ⟨b1, o1 + j * 3 + 1 + 1, none⟩ = some (.int .i64 acts[j].e) := (HZ.out.bel.cell (p := ⟨b1, _, none⟩) hb1).trans (hcs (j * 3 + 2) _ (by rw [flat_at ac_len hlt (by omega)]; rfl))
        have HGy := Lib.hid (HGa.out _ (List.getElem_mem hlt))
        clear hcs
        generalize acts[j] = y at *
        have HSt1 : Hid (SA w (wr.alloc (.cells #[.int .i64 y.k, .string y.key, .int .i64 y.e] TAct)) B Bx wr.heap.size M L F FX y) :=
          ⟨HZ.out.alloc _, HI.out.fr (Fr.alloc (fun _ => False) _ _) (fun _ _ h => h), HR.out.fr (Fr.alloc (fun _ => False) _ _) (fun _ _ h => h), Bk.new _ _ _⟩
        clear HZ HI HR
        go_upto_region 10 with (fail)
        clear d0 d1 d2
        generalize (wr.alloc (.cells #[.int .i64 y.k, .string y.key, .int .i64 y.e] TAct)) = W1 at *
        generalize wr.heap.size = Ba at *
        have c0 : W1.cell? ⟨Ba, 0, none⟩ = some (.int .i64 y.k) := HSt1.out.a.cell 0
        obtain ⟨kc1, kc2⟩ := HSt1.out.key
        by_cases h1 : y.k = 2
        · have k1 : (y.k == 2) = true := by simp [h1]
          clear h1
          go_wp2_with fail
          refine (Exp.Drop B M F y.key W1 HSt1.out.i (by omega)).mono ?_
          rintro e w4 ⟨rfl, F2, hi, ht⟩
          have H4 := Lib.hid (HSt1.out.turnI hi ht)
          clear hi ht kc1 kc2 c0
          obtain ⟨kc1, kc2⟩ := H4.out.key
          go_wp2_with fail
          refine (Ref16.Drop Bx y.key L FX w4 H4.out.x (by omega)).mono ?_
          rintro e wk ⟨rfl, FX2, hx, ht⟩
          have HX := Lib.hid (H4.out.turnX hx ht)
          clear hx ht kc1 kc2 H4
          obtain ⟨kc1, kc2⟩ := HX.out.key
          go_wp2_with fail
          refine (Exp.Drop_none y.key wk).mono ?_
          rintro e w_ ⟨rfl, rfl⟩
          have HRl := Lib.hid (HRl0.out.drop y.key)
          have HLn : Hid ((dropR y.key L).length ≤ j + 1) := by have := dropR_len y.key L; have := HLn0.out; show _ ≤ _; omega
          clear kc1 kc2
          generalize dropR y.key L = L2_ at *
          generalize delL y.key M = M2 at *
          have HEx := Ref16.End Bx y.key L2_ FX2 wk HX.out.x (by have := HLn.out; omega)
          rw [HRl.out.get y.key] at HEx
          have HEi := Lib.hid (Exp.End B M2 F2 y.key wk HX.out.i)
          have HEr := Lib.hid HEx
          clear HEx
          generalize (getL y.key M2).getD 0 = e1 at *
          generalize (getL y.key M2).isSome = b1 at *
          obtain ⟨kc1, kc2⟩ := HX.out.key
          go_wp2_with fail
          refine HEi.out.mono ?_
          rintro e w_ ⟨rfl, rfl⟩
          go_wp2_with fail
          refine HEr.out.mono ?_
          rintro e w_ ⟨rfl, rfl⟩
          go_wp2_with fail
          refine (Exp.End_none y.key wk).mono ?_
          rintro e w_ ⟨rfl, rfl⟩
          clear HEi HEr kc1 kc2
          obtain ⟨Ax, cx, hSY⟩ := HX.out.sy
          have HSY := Lib.hid hSY
          clear hSY
          have hl2 : L2_.length ≤ 1000000 := by have := HLn.out; omega
          have hm2 : M2.length ≤ 1000000 := by have := HLn.out; have := HRl.out.len; omega
          go_upto_region 20 with (fail)
          refine ep20 (by kernel_rfl) _ _ w _ B Bx Ba M2 L2_ F2 FX2 y Ax cx t1 e1 b1 HSY.out HRl.out hm2 hl2 HRl.out.len rfl rfl rfl rfl rfl rfl rfl rfl rfl rfl rfl ?_
          intro z w9 h134 hst
          simp only [Eng.setAll, Act.put, List.setIfInBounds_toArray, List.set_cons_succ, List.set_cons_zero]
          rw [h134]
          have H9 := Lib.hid hst
          clear hst h134 HSY HX
          go_wp2_with fail
          go_roundg (acts.length - (j + 1))
          case rel => exact ⟨j + 1, by go_num, by omega, rfl, M2, L2_, F2, FX2, H9.out.zs.less (by simp), H9.out.i, H9.out.x, HRl.out, HLn.out⟩
          case measure => have := HG.out; omega
        · have k1 : (y.k == 2) = false := by simp [h1]
          clear h1
          by_cases hk : y.key.size = 16
          · go_wp2_with fail
            refine (Exp.Put B M F y.key y.e W1 HSt1.out.i (by omega) hk HGy.out.2).mono ?_
            rintro e w4 ⟨rfl, F2, hi, ht⟩
            have H4 := Lib.hid (HSt1.out.turnI hi ht)
            clear hi ht kc1 kc2 c0
            obtain ⟨kc1, kc2⟩ := H4.out.key
            go_wp2_with fail
            refine (Ref16.Put Bx y.key y.e L FX w4 H4.out.x (by omega)).mono ?_
            rintro e wk ⟨rfl, FX2, hx, ht⟩
            have HX := Lib.hid (H4.out.turnX hx ht)
            clear hx ht kc1 kc2 H4
            obtain ⟨kc1, kc2⟩ := HX.out.key
            go_wp2_with fail
            refine (Exp.Put_none y.key y.e wk).mono ?_
            rintro e w_ ⟨rfl, rfl⟩
            have HRl := Lib.hid (HRl0.out.put y.key y.e hk)
            have HLn : Hid ((putR y.key y.e L).length ≤ j + 1) := by have := putR_len y.key y.e L; have := HLn0.out; show _ ≤ _; omega
            clear kc1 kc2 hk
            generalize putR y.key y.e L = L2_ at *
            generalize insL y.key y.e M = M2 at *
            have HEx := Ref16.End Bx y.key L2_ FX2 wk HX.out.x (by have := HLn.out; omega)
            rw [HRl.out.get y.key] at HEx
            have HEi := Lib.hid (Exp.End B M2 F2 y.key wk HX.out.i)
            have HEr := Lib.hid HEx
            clear HEx
            generalize (getL y.key M2).getD 0 = e1 at *
            generalize (getL y.key M2).isSome = b1 at *
            obtain ⟨kc1, kc2⟩ := HX.out.key
            go_wp2_with fail
            refine HEi.out.mono ?_
            rintro e w_ ⟨rfl, rfl⟩
            go_wp2_with fail
            refine HEr.out.mono ?_
            rintro e w_ ⟨rfl, rfl⟩
            go_wp2_with fail
            refine (Exp.End_none y.key wk).mono ?_
            rintro e w_ ⟨rfl, rfl⟩
            clear HEi HEr kc1 kc2
            obtain ⟨Ax, cx, hSY⟩ := HX.out.sy
            have HSY := Lib.hid hSY
            clear hSY
            have hl2 : L2_.length ≤ 1000000 := by have := HLn.out; omega
            have hm2 : M2.length ≤ 1000000 := by have := HLn.out; have := HRl.out.len; omega
            go_upto_region 20 with (fail)
            refine ep20 (by kernel_rfl) _ _ w _ B Bx Ba M2 L2_ F2 FX2 y Ax cx t1 e1 b1 HSY.out HRl.out hm2 hl2 HRl.out.len rfl rfl rfl rfl rfl rfl rfl rfl rfl rfl rfl ?_
            intro z w9 h134 hst
            simp only [Eng.setAll, Act.put, List.setIfInBounds_toArray, List.set_cons_succ, List.set_cons_zero]
            rw [h134]
            have H9 := Lib.hid hst
            clear hst h134 HSY HX
            go_wp2_with fail
            go_roundg (acts.length - (j + 1))
            case rel => exact ⟨j + 1, by go_num, by omega, rfl, M2, L2_, F2, FX2, H9.out.zs.less (by simp), H9.out.i, H9.out.x, HRl.out, HLn.out⟩
            case measure => have := HG.out; omega
          · go_wp2_with fail
            refine (Exp.Put_short _ y.key y.e W1 hk (.inr ⟨B, rfl⟩)).mono ?_
            rintro e w_ ⟨rfl, rfl⟩
            go_wp2_with fail
            refine (Ref16.Put Bx y.key y.e L FX W1 HSt1.out.x (by omega)).mono ?_
            rintro e wk ⟨rfl, FX2, hx, ht⟩
            rw [show putR y.key y.e L = L by unfold putR; rw [if_neg hk]] at hx
            have HX := Lib.hid (HSt1.out.turnX hx ht)
            clear hx ht kc1 kc2 c0
            obtain ⟨kc1, kc2⟩ := HX.out.key
            go_wp2_with fail
            refine (Exp.Put_none y.key y.e wk).mono ?_
            rintro e w_ ⟨rfl, rfl⟩
            have HRl := HRl0
            have HLn : Hid (L.length ≤ j + 1) := by have := HLn0.out; show _ ≤ _; omega
            clear kc1 kc2 hk HRl0 HLn0
            obtain ⟨F2, rfl⟩ : ∃ F2, F2 = F := ⟨_, rfl⟩
            obtain ⟨L2_, rfl⟩ : ∃ L2_, L2_ = L := ⟨_, rfl⟩
            obtain ⟨M2, rfl⟩ : ∃ M2, M2 = M := ⟨_, rfl⟩
            have HEx := Ref16.End Bx y.key L2_ FX2 wk HX.out.x (by have := HLn.out; omega)
            rw [HRl.out.get y.key] at HEx
            have HEi := Lib.hid (Exp.End B M2 F2 y.key wk HX.out.i)
            have HEr := Lib.hid HEx
            clear HEx
            generalize (getL y.key M2).getD 0 = e1 at *
            generalize (getL y.key M2).isSome = b1 at *
            obtain ⟨kc1, kc2⟩ := HX.out.key
            go_wp2_with fail
            refine HEi.out.mono ?_
            rintro e w_ ⟨rfl, rfl⟩
            go_wp2_with fail
            refine HEr.out.mono ?_
            rintro e w_ ⟨rfl, rfl⟩
            go_wp2_with fail
            refine (Exp.End_none y.key wk).mono ?_
            rintro e w_ ⟨rfl, rfl⟩
            clear HEi HEr kc1 kc2
            obtain ⟨Ax, cx, hSY⟩ := HX.out.sy
            have HSY := Lib.hid hSY
            clear hSY
            have hl2 : L2_.length ≤ 1000000 := by have := HLn.out; omega
            have hm2 : M2.length ≤ 1000000 := by have := HLn.out; have := HRl.out.len; omega
            go_upto_region 20 with (fail)
            refine ep20 (by kernel_rfl) _ _ w _ B Bx Ba M2 L2_ F2 FX2 y Ax cx t1 e1 b1 HSY.out HRl.out hm2 hl2 HRl.out.len rfl rfl rfl rfl rfl rfl rfl rfl rfl rfl rfl ?_
            intro z w9 h134 hst
            simp only [Eng.setAll, Act.put, List.setIfInBounds_toArray, List.set_cons_succ, List.set_cons_zero]
            rw [h134]
            have H9 := Lib.hid hst
            clear hst h134 HSY HX
            go_wp2_with fail
            go_roundg (acts.length - (j + 1))
            case rel => exact ⟨j + 1, by go_num, by omega, rfl, M2, L2_, F2, FX2, H9.out.zs.less (by simp), H9.out.i, H9.out.x, HRl.out, HLn.out⟩
            case measure => have := HG.out; omega
      · obtain rfl : j = acts.length := by omega
        have HAw := fun w => Lib.hid (awake w)
        go_wp2_with fail
        refine (HAw _).out.mono ?_
        rintro e w4 ⟨rfl, hf⟩
        have HF := Lib.hid hf
        clear hf
        go_wp2_with fail
        go_ret
        exact ⟨rfl, HZ.out.bel.trans (HF.out.below HZ.out.n0le (fun _ _ h => h))⟩
end Law16
end Go.Proofs.Ytkhhdadlpilbmaa
