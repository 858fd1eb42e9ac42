/- The document's index of kids. -/
import Derived.Test.YtkhhdadlpilbmaaSetW2
import Derived.Test.YtkhhdadlpilbmaaKidsP
namespace Go.Proofs.Ytkhhdadlpilbmaa
open Go.RowKit
namespace Ref20
open KeyP SetP SetW KidsP
abbrev TR : TypeId := 36
abbrev TInts : TypeId := 43
theorem infoN : (Try.prog.info? 3).map (fun i => (i.zero, i.size, i.bytes)) = some (some (.int .i64 0), 1, 8) := by kernel_rfl
abbrev ints (l : List Int) : List Value := l.map (Value.int .i64)
/-- The document's index. -/
abbrev RX (w : World) (B : Nat) (L : List Sn) (F : List Nat) : Prop := SB w B TR 9 scs L F
theorem RX.mem {w : World} {B : Nat} {L : List Sn} {F : List Nat} (h : RX w B L F) : B ∈ F ∧ B < w.heap.size := by obtain ⟨A, c, h1, h2, rfl, h4⟩ := h; exact ⟨by simp, lt_of_heap h1⟩
theorem build3 (t i p : Int) (w : World) : (Instr.build TSn #[(0, .int .i64 t), (1, .int .i64 i), (2, .int .i64 p)]).run Try.prog w = .ok (.agg #[.int .i64 t, .int .i64 i, .int .i64 p, .int .i64 0, .string ByteArray.empty, .string ByteArray.empty, .int .i64 0, .int .i64 0, .bool false]) w := by kernel_rfl
theorem build2 (t i : Int) (w : World) : (Instr.build TSn #[(0, .int .i64 t), (1, .int .i64 i)]).run Try.prog w = .ok (.agg #[.int .i64 t, .int .i64 i, .int .i64 0, .int .i64 0, .string ByteArray.empty, .string ByteArray.empty, .int .i64 0, .int .i64 0, .bool false]) w := by kernel_rfl
attribute [local go_sem] Eng.ev Eng.getO_cons Eng.getO_nil
/-- Ahead of a change: the index, and a record that is looked at. -/
structure P1 (w0 w : World) (B b o : Nat) (L : List Sn) (F : List Nat) (x : Sn) : Prop where
  rx : RX w B L F
  bx : At w b o x
  fr : Fr (fun _ => False) w0 w
  lt : ∀ b ∈ F, b < w0.heap.size
  nb : b ≠ B
theorem P1.to {w0 w w' : World} {B b o : Nat} {L : List Sn} {F : List Nat} {x : Sn} (h : P1 w0 w B b o L F x) (hf : Fr (fun _ => False) w w') : P1 w0 w' B b o L F x :=
  ⟨h.rx.fr hf (fun _ _ h => h), h.bx.keep hf, h.fr.trans hf (fun _ _ h => h) (fun _ _ h => h), h.lt, h.nb⟩
/-- The new records are made. -/
structure P2 (w0 w : World) (B b o : Nat) (L : List Sn) (F : List Nat) (x : Sn) (M : List Sn) (v : Value) : Prop where
  pre : ∃ wm, RX wm B L F ∧ Fr (fun _ => False) w0 wm ∧ w.ownsRow wm.heap.size TSn 9 v M.length (M.flatMap scs) ∧ Below wm.heap.size wm w
  bx : At w b o x
  lt : ∀ b ∈ F, b < w0.heap.size
  nb : b ≠ B
theorem P1.made {w0 w w' : World} {B b o : Nat} {L M : List Sn} {F : List Nat} {x : Sn} {v : Value} (h : P1 w0 w B b o L F x) (ho : w'.ownsRow w.heap.size TSn 9 v M.length (M.flatMap scs)) (hb : Below w.heap.size w w') : P2 w0 w' B b o L F x M v :=
  ⟨⟨w, h.rx, h.fr, ho, hb⟩, h.bx.keep (Fr.of_below' hb _), h.lt, h.nb⟩
theorem P2.cells {w0 w : World} {B b o : Nat} {L M : List Sn} {F : List Nat} {x : Sn} {v : Value} (h : P2 w0 w B b o L F x M v) : (∃ A c, w.cell? ⟨B, 0, none⟩ = some (.slice A L.length c)) ∧ w.frozen? ⟨B, 0, none⟩ = false ∧ ∃ A' c', v = .slice A' M.length c' := by
  obtain ⟨wm, ⟨A, c, hB, hS, -, -⟩, -, ho, hb⟩ := h.pre
  have hk : Bk w B #[.slice A L.length c] TR := (hb.block B (lt_of_heap hB)).trans hB
  obtain ⟨A', c', hv, -, -⟩ := Sl.of_own ho
  exact ⟨⟨A, c, hk.cell 0⟩, hk.free 0, A', c', hv⟩
/-- They are the index's. -/
structure P3 (w0 w : World) (B b o : Nat) (F : List Nat) (x : Sn) (M : List Sn) : Prop where
  rx : ∃ F', RX w B M F' ∧ Tn F F' w0 w
  bx : At w b o x
theorem P2.store {w0 w : World} {B b o : Nat} {L M : List Sn} {F : List Nat} {x : Sn} {v : Value} (h : P2 w0 w B b o L F x M v) : P3 w0 (w.setCell ⟨B, 0, none⟩ v) B b o F x M := by
  obtain ⟨wm, hr, hf, ho, hb⟩ := h.pre
  obtain ⟨F', k1, k2⟩ := hr.store hb ho
  exact ⟨⟨F', k1, (Tn.of_fr hf h.lt).trans k2⟩, h.bx.fr (Fr.setCell w ⟨B, 0, none⟩ v (S := (· = B)) rfl) h.nb⟩
theorem Ins3 (A : Option Addr) (c : Nat) (L : List Sn) (t i p : Int) (w : World) (hS : Sl w 9 A L.length c (L.flatMap scs)) (hlen : L.length ≤ 1000000) : Calls Try.prog 73 #[.slice A L.length c, .agg #[.int .i64 t, .int .i64 i, .int .i64 p, .int .i64 0, .string ⟨#[]⟩, .string ⟨#[]⟩, .int .i64 0, .int .i64 0, .bool false]] w (OwnPost (ins (sn t i p) L) w) := Insert A c L (sn t i p) w hS hlen
theorem Find2 (A : Option Addr) (c : Nat) (L : List Sn) (t i : Int) (w : World) (hS : Sl w 9 A L.length c (L.flatMap scs)) : Calls Try.prog 68 #[.slice A L.length c, .agg #[.int .i64 t, .int .i64 i, .int .i64 0, .int .i64 0, .string ⟨#[]⟩, .string ⟨#[]⟩, .int .i64 0, .int .i64 0, .bool false]] w fun e w' => e = .returned (.int .i64 (posI (sn t i 0) L)) ∧ Fr (fun _ => False) w w' := Find A c L (sn t i 0) w hS
set_option maxRecDepth 100000 in
set_option maxHeartbeats 400000 in
theorem p1 {ops : Array Oper} (hops : Eng.fnOps Try.f18 1 = ops) (a0 : Act) (Q : Exit → Act → World → Prop) (w0 w : World) (B Bx : Nat) (L : List Sn) (F : List Nat) (q : Sn) (hst : P1 w0 w B Bx 0 L F q) (hlen : L.length ≤ 1000000)
    (hn : a0.tmps.size = 19) (h_0 : a0.tmps.getD 0 undef = .pointer (some ⟨B, 0, none⟩)) (h_3 : a0.tmps.getD 3 undef = .pointer (some ⟨Bx, 0, none⟩))
    (hpost : ∀ (x : Nat → Value) (w' : World), P3 w0 w' B Bx 0 F q (ins (sn q.t q.i q.p) L) → Q .normal (Eng.setAll a0 [4, 5, 6, 7, 8, 9, 10, 11, 12, 13, 14, 15, 16, 17, 18] x) w') :
    (Code.region 1 ops true).wp Try.prog Q a0 w := by
  simp only [Eng.fnOps, Eng.regOps, Try.f18, Option.bind_some, Option.getD_some, Nat.reduceEqDiff, ↓reduceIte, Nat.reduceBEq] at hops
  subst hops
  obtain ⟨A, c, hB, hS, -, -⟩ := hst.rx.fr (Fr.drew (fun _ => False) w) (fun _ _ h => h)
  have cB : w.drew.cell? ⟨B, 0, none⟩ = some (.slice A L.length c) := hB.cell 0
  have HS := Lib.hid hS
  clear hB hS
  have kb := fun W : World => build3 q.t q.i q.p W
  have HSt := Lib.hid (hst.to (Fr.drew _ _))
  have hSS : w.drew.cell? ⟨Bx, 0, none⟩ = some (.int .i64 q.t) ∧ w.drew.cell? ⟨Bx, 1, none⟩ = some (.int .i64 q.i) ∧ w.drew.cell? ⟨Bx, 2, none⟩ = some (.int .i64 q.p) := ⟨HSt.out.bx 0 _ rfl, HSt.out.bx 1 _ rfl, HSt.out.bx 2 _ rfl⟩
  refine Eng.regionT (.take 0 (.take 1 (.take 2 (.take 3 (.take 5 (.take 6 (.take 7 (.take 8 (.take 9 (.take 10 (.take 11 (.alt 4 (.alt 12 (.take 13 (.take 14 (.alt 15 (.done) (.stop)))) (.stop)) (.stop))))))))))))) (fun w' => w'.cell? ⟨Bx, 0, none⟩ = some (.int .i64 q.t) ∧ w'.cell? ⟨Bx, 1, none⟩ = some (.int .i64 q.i) ∧ w'.cell? ⟨Bx, 2, none⟩ = some (.int .i64 q.p)) (by kernel_rfl) 19 hn (by kernel_rfl) (by kernel_rfl) (by kernel_rfl) (hSS) (fun a b ha hb => ?_)
  subst ha
  have hb0 : b 0 = .pointer (some ⟨B, 0, none⟩) := (hb 0).symm.trans h_0
  have hb3 : b 3 = .pointer (some ⟨Bx, 0, none⟩) := (hb 3).symm.trans h_3
  clear hb h_0 h_3
  have HP := Lib.hid hpost; have HN := Lib.hid hn
  clear hpost hn
  refine Eng.TW.take' (v := ?_) rfl rfl (by decide) (by kernel_rfl) (fun w hw => ?_) ?_
  rotate_left
  · (try dsimp only at hw); go_simp; first | done | with_reducible rfl
  refine Eng.TW.take' (v := ?_) rfl rfl (by decide) (by kernel_rfl) (fun w hw => ?_) ?_
  rotate_left
  · (try dsimp only at hw); go_simp; first | done | with_reducible rfl
  refine Eng.TW.take' (v := ?_) rfl rfl (by decide) (by kernel_rfl) (fun w hw => ?_) ?_
  rotate_left
  · (try dsimp only at hw); go_simp; first | done | with_reducible rfl
  refine Eng.TW.take' (v := ?_) rfl rfl (by decide) (by kernel_rfl) (fun w hw => ?_) ?_
  rotate_left
  · (try dsimp only at hw); go_simp; first | done | with_reducible rfl
  refine Eng.TW.take' (v := ?_) rfl rfl (by decide) (by kernel_rfl) (fun w hw => ?_) ?_
  rotate_left
  · (try dsimp only at hw); go_simp; first | done | with_reducible rfl
  refine Eng.TW.take' (v := ?_) rfl rfl (by decide) (by kernel_rfl) (fun w hw => ?_) ?_
  rotate_left
  · (try dsimp only at hw); go_simp; first | done | with_reducible rfl
  refine Eng.TW.take' (v := ?_) rfl rfl (by decide) (by kernel_rfl) (fun w hw => ?_) ?_
  rotate_left
  · (try dsimp only at hw); go_simp; first | done | with_reducible rfl
  refine Eng.TW.take' (v := ?_) rfl rfl (by decide) (by kernel_rfl) (fun w hw => ?_) ?_
  rotate_left
  · (try dsimp only at hw); go_simp; first | done | with_reducible rfl
  refine Eng.TW.take' (v := ?_) rfl rfl (by decide) (by kernel_rfl) (fun w hw => ?_) ?_
  rotate_left
  · (try dsimp only at hw); go_simp; first | done | with_reducible rfl
  refine Eng.TW.take' (v := ?_) rfl rfl (by decide) (by kernel_rfl) (fun w hw => ?_) ?_
  rotate_left
  · (try dsimp only at hw); go_simp; first | done | with_reducible rfl
  refine Eng.TW.take' (v := ?_) rfl rfl (by decide) (by kernel_rfl) (fun w hw => ?_) ?_
  rotate_left
  · (try dsimp only at hw); go_simp; first | done | with_reducible rfl
  refine Eng.TW.step rfl rfl (by decide) (by kernel_rfl) (by go_simp; first | done | with_reducible rfl) (⟨(HSt.out).bx 0 _ rfl, (HSt.out).bx 1 _ rfl, (HSt.out).bx 2 _ rfl⟩) ?_
  have HSt2 := Lib.hid (HSt.out)
  have hSS : (w.drew).cell? ⟨Bx, 0, none⟩ = some (.int .i64 q.t) ∧ (w.drew).cell? ⟨Bx, 1, none⟩ = some (.int .i64 q.i) ∧ (w.drew).cell? ⟨Bx, 2, none⟩ = some (.int .i64 q.p) := ⟨HSt2.out.bx 0 _ rfl, HSt2.out.bx 1 _ rfl, HSt2.out.bx 2 _ rfl⟩
  refine Eng.TW.call rfl rfl (by decide) (by kernel_rfl) ?_ (Ins3 A c L q.t q.i q.p _ HS.out hlen) ?_
  · go_simp
  rintro e w3 ⟨v, rfl, ho, hb⟩
  have HSt3 := Lib.hid (HSt2.out.made ho hb)
  have hSS : w3.cell? ⟨Bx, 0, none⟩ = some (.int .i64 q.t) ∧ w3.cell? ⟨Bx, 1, none⟩ = some (.int .i64 q.i) ∧ w3.cell? ⟨Bx, 2, none⟩ = some (.int .i64 q.p) := ⟨HSt3.out.bx 0 _ rfl, HSt3.out.bx 1 _ rfl, HSt3.out.bx 2 _ rfl⟩
  clear ho hb
  obtain ⟨⟨A1, c1, q0⟩, p0, A2, c2, rfl⟩ := HSt3.out.cells
  refine ⟨_, rfl, hSS, ?_⟩
  refine Eng.TW.take' (v := ?_) rfl rfl (by decide) (by kernel_rfl) (fun w hw => ?_) ?_
  rotate_left
  · (try dsimp only at hw); go_simp; first | done | with_reducible rfl
  refine Eng.TW.take' (v := ?_) rfl rfl (by decide) (by kernel_rfl) (fun w hw => ?_) ?_
  rotate_left
  · (try dsimp only at hw); go_simp; first | done | with_reducible rfl
  refine Eng.TW.step0 rfl rfl (by kernel_rfl) (by go_simp; first | done | with_reducible rfl) (⟨(HSt3.out.store).bx 0 _ rfl, (HSt3.out.store).bx 1 _ rfl, (HSt3.out.store).bx 2 _ rfl⟩) ?_
  have HSt4 := Lib.hid (HSt3.out.store)
  have hSS : (w3.setCell ⟨B, 0, none⟩ (.slice A2 (ins (sn q.t q.i q.p) L).length c2)).cell? ⟨Bx, 0, none⟩ = some (.int .i64 q.t) ∧ (w3.setCell ⟨B, 0, none⟩ (.slice A2 (ins (sn q.t q.i q.p) L).length c2)).cell? ⟨Bx, 1, none⟩ = some (.int .i64 q.i) ∧ (w3.setCell ⟨B, 0, none⟩ (.slice A2 (ins (sn q.t q.i q.p) L).length c2)).cell? ⟨Bx, 2, none⟩ = some (.int .i64 q.p) := ⟨HSt4.out.bx 0 _ rfl, HSt4.out.bx 1 _ rfl, HSt4.out.bx 2 _ rfl⟩
  refine Eng.TW.end_ [4, 5, 6, 7, 8, 9, 10, 11, 12, 13, 14, 15, 16, 17, 18] HN.out (by kernel_rfl) (by kernel_rfl) ?_
  exact HP.out _ _ HSt4.out

set_option maxRecDepth 100000 in
set_option maxHeartbeats 400000 in
theorem d4 {ops : Array Oper} (hops : Eng.fnOps Try.f16 4 = ops) (a0 : Act) (Q : Exit → Act → World → Prop) (w0 w : World) (B b1 o1 c k : Nat) (L : List Sn) (F : List Nat) (q : Sn) (hst : P1 w0 w B b1 (o1 + k * 9) L F q) (hc0 : w.cell? ⟨B, 0, none⟩ = some (.slice (some ⟨b1, o1, none⟩) L.length c)) (hS0 : Sl w 9 (some ⟨b1, o1, none⟩) L.length c (L.flatMap scs)) (hk : k < L.length) (hlen : L.length ≤ 1000000)
    (hn : a0.tmps.size = 34) (h_0 : a0.tmps.getD 0 undef = .pointer (some ⟨B, 0, none⟩)) (h_7 : a0.tmps.getD 7 undef = .int .i64 (k : Int))
    (hpost : ∀ (x : Nat → Value) (w' : World), P3 w0 w' B b1 (o1 + k * 9) F q (wout [q] L) → Q .normal (Eng.setAll a0 [18, 19, 20, 21, 22, 23, 24, 25, 26, 27, 28, 29, 30, 31, 32, 33] x) w') :
    (Code.region 4 ops true).wp Try.prog Q a0 w := by
  simp only [Eng.fnOps, Eng.regOps, Try.f16, Option.bind_some, Option.getD_some, Nat.reduceEqDiff, ↓reduceIte, Nat.reduceBEq] at hops
  subst hops
  have hcB : w.drew.cell? ⟨B, 0, none⟩ = some (.slice (some ⟨b1, o1, none⟩) L.length c) := hc0
  have hcA : (w.alloc (.cells q.arr TSn)).cell? ⟨B, 0, none⟩ = some (.slice (some ⟨b1, o1, none⟩) L.length c) := (World.cell?_of_block (w := w) (a := ⟨B, 0, none⟩) ((Fr.alloc (fun _ => False) w (.cells q.arr TSn)).block B hst.rx.mem.2 (fun h => h))).trans hc0
  have HS := Lib.hid ((hS0.fr (Fr.alloc (fun _ => False) w (.cells q.arr TSn)) (fun _ _ h => h)).fr (Fr.drew (fun _ => False) _) (fun _ _ h => h))
  have q1 : (0 : Int) ≤ (k : Int) := by omega
  have q2 : (k : Int) < (L.length : Int) := by omega
  have HSt := Lib.hid (hst.to (Fr.drew _ _))
  have hSS : w.drew.cell? ⟨b1, o1 + k * 9, none⟩ = some (.int .i64 q.t) ∧ w.drew.cell? ⟨b1, o1 + k * 9 + 1, none⟩ = some (.int .i64 q.i) ∧ w.drew.cell? ⟨b1, o1 + k * 9 + 1 + 1, none⟩ = some (.int .i64 q.p) ∧ w.drew.cell? ⟨b1, o1 + k * 9 + 1 + 1 + 1, none⟩ = some (.int .i64 q.r) ∧ w.drew.cell? ⟨b1, o1 + k * 9 + 1 + 1 + 1 + 1, none⟩ = some (.string q.s) ∧ w.drew.cell? ⟨b1, o1 + k * 9 + 1 + 1 + 1 + 1 + 1, none⟩ = some (.string q.o) ∧ w.drew.cell? ⟨b1, o1 + k * 9 + 1 + 1 + 1 + 1 + 1 + 1, none⟩ = some (.int .i64 q.b) ∧ w.drew.cell? ⟨b1, o1 + k * 9 + 1 + 1 + 1 + 1 + 1 + 1 + 1, none⟩ = some (.int .i64 q.d) ∧ w.drew.cell? ⟨b1, o1 + k * 9 + 1 + 1 + 1 + 1 + 1 + 1 + 1 + 1, none⟩ = some (.bool q.g) := ⟨HSt.out.bx 0 _ rfl, HSt.out.bx 1 _ rfl, HSt.out.bx 2 _ rfl, HSt.out.bx 3 _ rfl, HSt.out.bx 4 _ rfl, HSt.out.bx 5 _ rfl, HSt.out.bx 6 _ rfl, HSt.out.bx 7 _ rfl, HSt.out.bx 8 _ rfl⟩
  refine Eng.regionT (.take 0 (.take 1 (.take 2 (.take 3 (.take 5 (.take 6 (.take 7 (.take 9 (.alt 4 (.alt 8 (.take 10 (.take 11 (.alt 12 (.alt 13 (.take 14 (.take 15 (.alt 16 (.done) (.stop)))) (.stop)) (.stop)))) (.stop)) (.alt 8 (.take 10 (.take 11 (.alt 4 (.alt 12 (.alt 13 (.take 14 (.take 15 (.alt 16 (.done) (.stop)))) (.stop)) (.stop)) (.alt 12 (.alt 4 (.alt 13 (.take 14 (.take 15 (.alt 16 (.done) (.stop)))) (.stop)) (.stop)) (.stop))))) (.stop))))))))))) (fun w' => w'.cell? ⟨b1, o1 + k * 9, none⟩ = some (.int .i64 q.t) ∧ w'.cell? ⟨b1, o1 + k * 9 + 1, none⟩ = some (.int .i64 q.i) ∧ w'.cell? ⟨b1, o1 + k * 9 + 1 + 1, none⟩ = some (.int .i64 q.p) ∧ w'.cell? ⟨b1, o1 + k * 9 + 1 + 1 + 1, none⟩ = some (.int .i64 q.r) ∧ w'.cell? ⟨b1, o1 + k * 9 + 1 + 1 + 1 + 1, none⟩ = some (.string q.s) ∧ w'.cell? ⟨b1, o1 + k * 9 + 1 + 1 + 1 + 1 + 1, none⟩ = some (.string q.o) ∧ w'.cell? ⟨b1, o1 + k * 9 + 1 + 1 + 1 + 1 + 1 + 1, none⟩ = some (.int .i64 q.b) ∧ w'.cell? ⟨b1, o1 + k * 9 + 1 + 1 + 1 + 1 + 1 + 1 + 1, none⟩ = some (.int .i64 q.d) ∧ w'.cell? ⟨b1, o1 + k * 9 + 1 + 1 + 1 + 1 + 1 + 1 + 1 + 1, none⟩ = some (.bool q.g)) (by kernel_rfl) 34 hn (by kernel_rfl) (by kernel_rfl) (by kernel_rfl) (hSS) (fun a b ha hb => ?_)
  subst ha
  have hb0 : b 0 = .pointer (some ⟨B, 0, none⟩) := (hb 0).symm.trans h_0
  have hb7 : b 7 = .int .i64 (k : Int) := (hb 7).symm.trans h_7
  clear hb h_0 h_7
  have HP := Lib.hid hpost; have HN := Lib.hid hn
  clear hpost hn
  refine Eng.TW.take' (v := ?_) rfl rfl (by decide) (by kernel_rfl) (fun w hw => ?_) ?_
  rotate_left
  · (try dsimp only at hw); go_simp; first | done | with_reducible rfl
  refine Eng.TW.take' (v := ?_) rfl rfl (by decide) (by kernel_rfl) (fun w hw => ?_) ?_
  rotate_left
  · (try dsimp only at hw); go_simp; first | done | with_reducible rfl
  refine Eng.TW.take' (v := ?_) rfl rfl (by decide) (by kernel_rfl) (fun w hw => ?_) ?_
  rotate_left
  · (try dsimp only at hw); go_simp; first | done | with_reducible rfl
  refine Eng.TW.take' (v := ?_) rfl rfl (by decide) (by kernel_rfl) (fun w hw => ?_) ?_
  rotate_left
  · (try dsimp only at hw); go_simp; first | done | with_reducible rfl
  refine Eng.TW.take' (v := ?_) rfl rfl (by decide) (by kernel_rfl) (fun w hw => ?_) ?_
  rotate_left
  · (try dsimp only at hw); go_simp; first | done | with_reducible rfl
  refine Eng.TW.take' (v := ?_) rfl rfl (by decide) (by kernel_rfl) (fun w hw => ?_) ?_
  rotate_left
  · (try dsimp only at hw); go_simp; first | done | with_reducible rfl
  refine Eng.TW.take' (v := ?_) rfl rfl (by decide) (by kernel_rfl) (fun w hw => ?_) ?_
  rotate_left
  · (try dsimp only at hw); go_simp; first | done | with_reducible rfl
  refine Eng.TW.take' (v := ?_) rfl rfl (by decide) (by kernel_rfl) (fun w hw => ?_) ?_
  rotate_left
  · (try dsimp only at hw); go_simp; first | done | with_reducible rfl
  refine Eng.TW.both ?_ ?_
  · refine Eng.TW.step rfl rfl (by decide) (by kernel_rfl) (by go_simp; first | done | with_reducible rfl) (⟨(HSt.out).bx 0 _ rfl, (HSt.out).bx 1 _ rfl, (HSt.out).bx 2 _ rfl, (HSt.out).bx 3 _ rfl, (HSt.out).bx 4 _ rfl, (HSt.out).bx 5 _ rfl, (HSt.out).bx 6 _ rfl, (HSt.out).bx 7 _ rfl, (HSt.out).bx 8 _ rfl⟩) ?_
    have HSt2 := Lib.hid (HSt.out)
    have hSS : (w.drew).cell? ⟨b1, o1 + k * 9, none⟩ = some (.int .i64 q.t) ∧ (w.drew).cell? ⟨b1, o1 + k * 9 + 1, none⟩ = some (.int .i64 q.i) ∧ (w.drew).cell? ⟨b1, o1 + k * 9 + 1 + 1, none⟩ = some (.int .i64 q.p) ∧ (w.drew).cell? ⟨b1, o1 + k * 9 + 1 + 1 + 1, none⟩ = some (.int .i64 q.r) ∧ (w.drew).cell? ⟨b1, o1 + k * 9 + 1 + 1 + 1 + 1, none⟩ = some (.string q.s) ∧ (w.drew).cell? ⟨b1, o1 + k * 9 + 1 + 1 + 1 + 1 + 1, none⟩ = some (.string q.o) ∧ (w.drew).cell? ⟨b1, o1 + k * 9 + 1 + 1 + 1 + 1 + 1 + 1, none⟩ = some (.int .i64 q.b) ∧ (w.drew).cell? ⟨b1, o1 + k * 9 + 1 + 1 + 1 + 1 + 1 + 1 + 1, none⟩ = some (.int .i64 q.d) ∧ (w.drew).cell? ⟨b1, o1 + k * 9 + 1 + 1 + 1 + 1 + 1 + 1 + 1 + 1, none⟩ = some (.bool q.g) := ⟨HSt2.out.bx 0 _ rfl, HSt2.out.bx 1 _ rfl, HSt2.out.bx 2 _ rfl, HSt2.out.bx 3 _ rfl, HSt2.out.bx 4 _ rfl, HSt2.out.bx 5 _ rfl, HSt2.out.bx 6 _ rfl, HSt2.out.bx 7 _ rfl, HSt2.out.bx 8 _ rfl⟩
    refine Eng.TW.step rfl rfl (by decide) (by kernel_rfl) (by go_simp; first | done | with_reducible rfl) (⟨(HSt2.out).bx 0 _ rfl, (HSt2.out).bx 1 _ rfl, (HSt2.out).bx 2 _ rfl, (HSt2.out).bx 3 _ rfl, (HSt2.out).bx 4 _ rfl, (HSt2.out).bx 5 _ rfl, (HSt2.out).bx 6 _ rfl, (HSt2.out).bx 7 _ rfl, (HSt2.out).bx 8 _ rfl⟩) ?_
    have HSt3 := Lib.hid (HSt2.out)
    have hSS : ((w.drew)).cell? ⟨b1, o1 + k * 9, none⟩ = some (.int .i64 q.t) ∧ ((w.drew)).cell? ⟨b1, o1 + k * 9 + 1, none⟩ = some (.int .i64 q.i) ∧ ((w.drew)).cell? ⟨b1, o1 + k * 9 + 1 + 1, none⟩ = some (.int .i64 q.p) ∧ ((w.drew)).cell? ⟨b1, o1 + k * 9 + 1 + 1 + 1, none⟩ = some (.int .i64 q.r) ∧ ((w.drew)).cell? ⟨b1, o1 + k * 9 + 1 + 1 + 1 + 1, none⟩ = some (.string q.s) ∧ ((w.drew)).cell? ⟨b1, o1 + k * 9 + 1 + 1 + 1 + 1 + 1, none⟩ = some (.string q.o) ∧ ((w.drew)).cell? ⟨b1, o1 + k * 9 + 1 + 1 + 1 + 1 + 1 + 1, none⟩ = some (.int .i64 q.b) ∧ ((w.drew)).cell? ⟨b1, o1 + k * 9 + 1 + 1 + 1 + 1 + 1 + 1 + 1, none⟩ = some (.int .i64 q.d) ∧ ((w.drew)).cell? ⟨b1, o1 + k * 9 + 1 + 1 + 1 + 1 + 1 + 1 + 1 + 1, none⟩ = some (.bool q.g) := ⟨HSt3.out.bx 0 _ rfl, HSt3.out.bx 1 _ rfl, HSt3.out.bx 2 _ rfl, HSt3.out.bx 3 _ rfl, HSt3.out.bx 4 _ rfl, HSt3.out.bx 5 _ rfl, HSt3.out.bx 6 _ rfl, HSt3.out.bx 7 _ rfl, HSt3.out.bx 8 _ rfl⟩
    refine Eng.TW.take' (v := ?_) rfl rfl (by decide) (by kernel_rfl) (fun w hw => ?_) ?_
    rotate_left
    · (try dsimp only at hw); go_simp; first | done | with_reducible rfl
    refine Eng.TW.take' (v := ?_) rfl rfl (by decide) (by kernel_rfl) (fun w hw => ?_) ?_
    rotate_left
    · (try dsimp only at hw); go_simp; first | done | with_reducible rfl
    refine Eng.TW.step rfl rfl (by decide) (by kernel_rfl) (by go_simp; first | done | with_reducible rfl) (⟨((hst.to (Fr.alloc _ w (.cells q.arr TSn))).to (Fr.drew _ _)).bx 0 _ rfl, ((hst.to (Fr.alloc _ w (.cells q.arr TSn))).to (Fr.drew _ _)).bx 1 _ rfl, ((hst.to (Fr.alloc _ w (.cells q.arr TSn))).to (Fr.drew _ _)).bx 2 _ rfl, ((hst.to (Fr.alloc _ w (.cells q.arr TSn))).to (Fr.drew _ _)).bx 3 _ rfl, ((hst.to (Fr.alloc _ w (.cells q.arr TSn))).to (Fr.drew _ _)).bx 4 _ rfl, ((hst.to (Fr.alloc _ w (.cells q.arr TSn))).to (Fr.drew _ _)).bx 5 _ rfl, ((hst.to (Fr.alloc _ w (.cells q.arr TSn))).to (Fr.drew _ _)).bx 6 _ rfl, ((hst.to (Fr.alloc _ w (.cells q.arr TSn))).to (Fr.drew _ _)).bx 7 _ rfl, ((hst.to (Fr.alloc _ w (.cells q.arr TSn))).to (Fr.drew _ _)).bx 8 _ rfl⟩) ?_
    have HSt4 := Lib.hid ((hst.to (Fr.alloc _ w (.cells q.arr TSn))).to (Fr.drew _ _))
    have hSS : ((w.alloc (.cells q.arr TSn)).drew).cell? ⟨b1, o1 + k * 9, none⟩ = some (.int .i64 q.t) ∧ ((w.alloc (.cells q.arr TSn)).drew).cell? ⟨b1, o1 + k * 9 + 1, none⟩ = some (.int .i64 q.i) ∧ ((w.alloc (.cells q.arr TSn)).drew).cell? ⟨b1, o1 + k * 9 + 1 + 1, none⟩ = some (.int .i64 q.p) ∧ ((w.alloc (.cells q.arr TSn)).drew).cell? ⟨b1, o1 + k * 9 + 1 + 1 + 1, none⟩ = some (.int .i64 q.r) ∧ ((w.alloc (.cells q.arr TSn)).drew).cell? ⟨b1, o1 + k * 9 + 1 + 1 + 1 + 1, none⟩ = some (.string q.s) ∧ ((w.alloc (.cells q.arr TSn)).drew).cell? ⟨b1, o1 + k * 9 + 1 + 1 + 1 + 1 + 1, none⟩ = some (.string q.o) ∧ ((w.alloc (.cells q.arr TSn)).drew).cell? ⟨b1, o1 + k * 9 + 1 + 1 + 1 + 1 + 1 + 1, none⟩ = some (.int .i64 q.b) ∧ ((w.alloc (.cells q.arr TSn)).drew).cell? ⟨b1, o1 + k * 9 + 1 + 1 + 1 + 1 + 1 + 1 + 1, none⟩ = some (.int .i64 q.d) ∧ ((w.alloc (.cells q.arr TSn)).drew).cell? ⟨b1, o1 + k * 9 + 1 + 1 + 1 + 1 + 1 + 1 + 1 + 1, none⟩ = some (.bool q.g) := ⟨HSt4.out.bx 0 _ rfl, HSt4.out.bx 1 _ rfl, HSt4.out.bx 2 _ rfl, HSt4.out.bx 3 _ rfl, HSt4.out.bx 4 _ rfl, HSt4.out.bx 5 _ rfl, HSt4.out.bx 6 _ rfl, HSt4.out.bx 7 _ rfl, HSt4.out.bx 8 _ rfl⟩
    refine Eng.TW.call rfl rfl (by decide) (by kernel_rfl) ?_ (Without (some ⟨b1, o1, none⟩) _ c 1 L [q] _ HS.out (by simpa using (Sl.one w TSn (scs q) 9 rfl).fr (Fr.drew (fun _ => False) _) (fun _ _ h => h)) hlen) ?_
    · go_simp
    rintro e w5 ⟨v, rfl, ho, hb⟩
    have HSt5 := Lib.hid (HSt4.out.made ho hb)
    have hSS : w5.cell? ⟨b1, o1 + k * 9, none⟩ = some (.int .i64 q.t) ∧ w5.cell? ⟨b1, o1 + k * 9 + 1, none⟩ = some (.int .i64 q.i) ∧ w5.cell? ⟨b1, o1 + k * 9 + 1 + 1, none⟩ = some (.int .i64 q.p) ∧ w5.cell? ⟨b1, o1 + k * 9 + 1 + 1 + 1, none⟩ = some (.int .i64 q.r) ∧ w5.cell? ⟨b1, o1 + k * 9 + 1 + 1 + 1 + 1, none⟩ = some (.string q.s) ∧ w5.cell? ⟨b1, o1 + k * 9 + 1 + 1 + 1 + 1 + 1, none⟩ = some (.string q.o) ∧ w5.cell? ⟨b1, o1 + k * 9 + 1 + 1 + 1 + 1 + 1 + 1, none⟩ = some (.int .i64 q.b) ∧ w5.cell? ⟨b1, o1 + k * 9 + 1 + 1 + 1 + 1 + 1 + 1 + 1, none⟩ = some (.int .i64 q.d) ∧ w5.cell? ⟨b1, o1 + k * 9 + 1 + 1 + 1 + 1 + 1 + 1 + 1 + 1, none⟩ = some (.bool q.g) := ⟨HSt5.out.bx 0 _ rfl, HSt5.out.bx 1 _ rfl, HSt5.out.bx 2 _ rfl, HSt5.out.bx 3 _ rfl, HSt5.out.bx 4 _ rfl, HSt5.out.bx 5 _ rfl, HSt5.out.bx 6 _ rfl, HSt5.out.bx 7 _ rfl, HSt5.out.bx 8 _ rfl⟩
    clear ho hb
    obtain ⟨⟨A1, c1, q0⟩, p0, A2, c2, rfl⟩ := HSt5.out.cells
    refine ⟨_, rfl, hSS, ?_⟩
    refine Eng.TW.take' (v := ?_) rfl rfl (by decide) (by kernel_rfl) (fun w hw => ?_) ?_
    rotate_left
    · (try dsimp only at hw); go_simp; first | done | with_reducible rfl
    refine Eng.TW.take' (v := ?_) rfl rfl (by decide) (by kernel_rfl) (fun w hw => ?_) ?_
    rotate_left
    · (try dsimp only at hw); go_simp; first | done | with_reducible rfl
    refine Eng.TW.step0 rfl rfl (by kernel_rfl) (by go_simp; first | done | with_reducible rfl) (⟨(HSt5.out.store).bx 0 _ rfl, (HSt5.out.store).bx 1 _ rfl, (HSt5.out.store).bx 2 _ rfl, (HSt5.out.store).bx 3 _ rfl, (HSt5.out.store).bx 4 _ rfl, (HSt5.out.store).bx 5 _ rfl, (HSt5.out.store).bx 6 _ rfl, (HSt5.out.store).bx 7 _ rfl, (HSt5.out.store).bx 8 _ rfl⟩) ?_
    have HSt6 := Lib.hid (HSt5.out.store)
    have hSS : (w5.setCell ⟨B, 0, none⟩ (.slice A2 (wout [q] L).length c2)).cell? ⟨b1, o1 + k * 9, none⟩ = some (.int .i64 q.t) ∧ (w5.setCell ⟨B, 0, none⟩ (.slice A2 (wout [q] L).length c2)).cell? ⟨b1, o1 + k * 9 + 1, none⟩ = some (.int .i64 q.i) ∧ (w5.setCell ⟨B, 0, none⟩ (.slice A2 (wout [q] L).length c2)).cell? ⟨b1, o1 + k * 9 + 1 + 1, none⟩ = some (.int .i64 q.p) ∧ (w5.setCell ⟨B, 0, none⟩ (.slice A2 (wout [q] L).length c2)).cell? ⟨b1, o1 + k * 9 + 1 + 1 + 1, none⟩ = some (.int .i64 q.r) ∧ (w5.setCell ⟨B, 0, none⟩ (.slice A2 (wout [q] L).length c2)).cell? ⟨b1, o1 + k * 9 + 1 + 1 + 1 + 1, none⟩ = some (.string q.s) ∧ (w5.setCell ⟨B, 0, none⟩ (.slice A2 (wout [q] L).length c2)).cell? ⟨b1, o1 + k * 9 + 1 + 1 + 1 + 1 + 1, none⟩ = some (.string q.o) ∧ (w5.setCell ⟨B, 0, none⟩ (.slice A2 (wout [q] L).length c2)).cell? ⟨b1, o1 + k * 9 + 1 + 1 + 1 + 1 + 1 + 1, none⟩ = some (.int .i64 q.b) ∧ (w5.setCell ⟨B, 0, none⟩ (.slice A2 (wout [q] L).length c2)).cell? ⟨b1, o1 + k * 9 + 1 + 1 + 1 + 1 + 1 + 1 + 1, none⟩ = some (.int .i64 q.d) ∧ (w5.setCell ⟨B, 0, none⟩ (.slice A2 (wout [q] L).length c2)).cell? ⟨b1, o1 + k * 9 + 1 + 1 + 1 + 1 + 1 + 1 + 1 + 1, none⟩ = some (.bool q.g) := ⟨HSt6.out.bx 0 _ rfl, HSt6.out.bx 1 _ rfl, HSt6.out.bx 2 _ rfl, HSt6.out.bx 3 _ rfl, HSt6.out.bx 4 _ rfl, HSt6.out.bx 5 _ rfl, HSt6.out.bx 6 _ rfl, HSt6.out.bx 7 _ rfl, HSt6.out.bx 8 _ rfl⟩
    refine Eng.TW.end_ [18, 19, 20, 21, 22, 23, 24, 25, 26, 27, 28, 29, 30, 31, 32, 33] HN.out (by kernel_rfl) (by kernel_rfl) ?_
    exact HP.out _ _ HSt6.out
  refine Eng.TW.step rfl rfl (by decide) (by kernel_rfl) (by go_simp; first | done | with_reducible rfl) (⟨(HSt.out).bx 0 _ rfl, (HSt.out).bx 1 _ rfl, (HSt.out).bx 2 _ rfl, (HSt.out).bx 3 _ rfl, (HSt.out).bx 4 _ rfl, (HSt.out).bx 5 _ rfl, (HSt.out).bx 6 _ rfl, (HSt.out).bx 7 _ rfl, (HSt.out).bx 8 _ rfl⟩) ?_
  have HSt2 := Lib.hid (HSt.out)
  have hSS : (w.drew).cell? ⟨b1, o1 + k * 9, none⟩ = some (.int .i64 q.t) ∧ (w.drew).cell? ⟨b1, o1 + k * 9 + 1, none⟩ = some (.int .i64 q.i) ∧ (w.drew).cell? ⟨b1, o1 + k * 9 + 1 + 1, none⟩ = some (.int .i64 q.p) ∧ (w.drew).cell? ⟨b1, o1 + k * 9 + 1 + 1 + 1, none⟩ = some (.int .i64 q.r) ∧ (w.drew).cell? ⟨b1, o1 + k * 9 + 1 + 1 + 1 + 1, none⟩ = some (.string q.s) ∧ (w.drew).cell? ⟨b1, o1 + k * 9 + 1 + 1 + 1 + 1 + 1, none⟩ = some (.string q.o) ∧ (w.drew).cell? ⟨b1, o1 + k * 9 + 1 + 1 + 1 + 1 + 1 + 1, none⟩ = some (.int .i64 q.b) ∧ (w.drew).cell? ⟨b1, o1 + k * 9 + 1 + 1 + 1 + 1 + 1 + 1 + 1, none⟩ = some (.int .i64 q.d) ∧ (w.drew).cell? ⟨b1, o1 + k * 9 + 1 + 1 + 1 + 1 + 1 + 1 + 1 + 1, none⟩ = some (.bool q.g) := ⟨HSt2.out.bx 0 _ rfl, HSt2.out.bx 1 _ rfl, HSt2.out.bx 2 _ rfl, HSt2.out.bx 3 _ rfl, HSt2.out.bx 4 _ rfl, HSt2.out.bx 5 _ rfl, HSt2.out.bx 6 _ rfl, HSt2.out.bx 7 _ rfl, HSt2.out.bx 8 _ rfl⟩
  refine Eng.TW.take' (v := ?_) rfl rfl (by decide) (by kernel_rfl) (fun w hw => ?_) ?_
  rotate_left
  · (try dsimp only at hw); go_simp; first | done | with_reducible rfl
  refine Eng.TW.take' (v := ?_) rfl rfl (by decide) (by kernel_rfl) (fun w hw => ?_) ?_
  rotate_left
  · (try dsimp only at hw); go_simp; first | done | with_reducible rfl
  refine Eng.TW.both ?_ ?_
  · refine Eng.TW.step rfl rfl (by decide) (by kernel_rfl) (by go_simp; first | done | with_reducible rfl) (⟨(HSt2.out).bx 0 _ rfl, (HSt2.out).bx 1 _ rfl, (HSt2.out).bx 2 _ rfl, (HSt2.out).bx 3 _ rfl, (HSt2.out).bx 4 _ rfl, (HSt2.out).bx 5 _ rfl, (HSt2.out).bx 6 _ rfl, (HSt2.out).bx 7 _ rfl, (HSt2.out).bx 8 _ rfl⟩) ?_
    have HSt3 := Lib.hid (HSt2.out)
    have hSS : ((w.drew)).cell? ⟨b1, o1 + k * 9, none⟩ = some (.int .i64 q.t) ∧ ((w.drew)).cell? ⟨b1, o1 + k * 9 + 1, none⟩ = some (.int .i64 q.i) ∧ ((w.drew)).cell? ⟨b1, o1 + k * 9 + 1 + 1, none⟩ = some (.int .i64 q.p) ∧ ((w.drew)).cell? ⟨b1, o1 + k * 9 + 1 + 1 + 1, none⟩ = some (.int .i64 q.r) ∧ ((w.drew)).cell? ⟨b1, o1 + k * 9 + 1 + 1 + 1 + 1, none⟩ = some (.string q.s) ∧ ((w.drew)).cell? ⟨b1, o1 + k * 9 + 1 + 1 + 1 + 1 + 1, none⟩ = some (.string q.o) ∧ ((w.drew)).cell? ⟨b1, o1 + k * 9 + 1 + 1 + 1 + 1 + 1 + 1, none⟩ = some (.int .i64 q.b) ∧ ((w.drew)).cell? ⟨b1, o1 + k * 9 + 1 + 1 + 1 + 1 + 1 + 1 + 1, none⟩ = some (.int .i64 q.d) ∧ ((w.drew)).cell? ⟨b1, o1 + k * 9 + 1 + 1 + 1 + 1 + 1 + 1 + 1 + 1, none⟩ = some (.bool q.g) := ⟨HSt3.out.bx 0 _ rfl, HSt3.out.bx 1 _ rfl, HSt3.out.bx 2 _ rfl, HSt3.out.bx 3 _ rfl, HSt3.out.bx 4 _ rfl, HSt3.out.bx 5 _ rfl, HSt3.out.bx 6 _ rfl, HSt3.out.bx 7 _ rfl, HSt3.out.bx 8 _ rfl⟩
    refine Eng.TW.step rfl rfl (by decide) (by kernel_rfl) (by go_simp; first | done | with_reducible rfl) (⟨((hst.to (Fr.alloc _ w (.cells q.arr TSn))).to (Fr.drew _ _)).bx 0 _ rfl, ((hst.to (Fr.alloc _ w (.cells q.arr TSn))).to (Fr.drew _ _)).bx 1 _ rfl, ((hst.to (Fr.alloc _ w (.cells q.arr TSn))).to (Fr.drew _ _)).bx 2 _ rfl, ((hst.to (Fr.alloc _ w (.cells q.arr TSn))).to (Fr.drew _ _)).bx 3 _ rfl, ((hst.to (Fr.alloc _ w (.cells q.arr TSn))).to (Fr.drew _ _)).bx 4 _ rfl, ((hst.to (Fr.alloc _ w (.cells q.arr TSn))).to (Fr.drew _ _)).bx 5 _ rfl, ((hst.to (Fr.alloc _ w (.cells q.arr TSn))).to (Fr.drew _ _)).bx 6 _ rfl, ((hst.to (Fr.alloc _ w (.cells q.arr TSn))).to (Fr.drew _ _)).bx 7 _ rfl, ((hst.to (Fr.alloc _ w (.cells q.arr TSn))).to (Fr.drew _ _)).bx 8 _ rfl⟩) ?_
    have HSt4 := Lib.hid ((hst.to (Fr.alloc _ w (.cells q.arr TSn))).to (Fr.drew _ _))
    have hSS : ((w.alloc (.cells q.arr TSn)).drew).cell? ⟨b1, o1 + k * 9, none⟩ = some (.int .i64 q.t) ∧ ((w.alloc (.cells q.arr TSn)).drew).cell? ⟨b1, o1 + k * 9 + 1, none⟩ = some (.int .i64 q.i) ∧ ((w.alloc (.cells q.arr TSn)).drew).cell? ⟨b1, o1 + k * 9 + 1 + 1, none⟩ = some (.int .i64 q.p) ∧ ((w.alloc (.cells q.arr TSn)).drew).cell? ⟨b1, o1 + k * 9 + 1 + 1 + 1, none⟩ = some (.int .i64 q.r) ∧ ((w.alloc (.cells q.arr TSn)).drew).cell? ⟨b1, o1 + k * 9 + 1 + 1 + 1 + 1, none⟩ = some (.string q.s) ∧ ((w.alloc (.cells q.arr TSn)).drew).cell? ⟨b1, o1 + k * 9 + 1 + 1 + 1 + 1 + 1, none⟩ = some (.string q.o) ∧ ((w.alloc (.cells q.arr TSn)).drew).cell? ⟨b1, o1 + k * 9 + 1 + 1 + 1 + 1 + 1 + 1, none⟩ = some (.int .i64 q.b) ∧ ((w.alloc (.cells q.arr TSn)).drew).cell? ⟨b1, o1 + k * 9 + 1 + 1 + 1 + 1 + 1 + 1 + 1, none⟩ = some (.int .i64 q.d) ∧ ((w.alloc (.cells q.arr TSn)).drew).cell? ⟨b1, o1 + k * 9 + 1 + 1 + 1 + 1 + 1 + 1 + 1 + 1, none⟩ = some (.bool q.g) := ⟨HSt4.out.bx 0 _ rfl, HSt4.out.bx 1 _ rfl, HSt4.out.bx 2 _ rfl, HSt4.out.bx 3 _ rfl, HSt4.out.bx 4 _ rfl, HSt4.out.bx 5 _ rfl, HSt4.out.bx 6 _ rfl, HSt4.out.bx 7 _ rfl, HSt4.out.bx 8 _ rfl⟩
    refine Eng.TW.call rfl rfl (by decide) (by kernel_rfl) ?_ (Without (some ⟨b1, o1, none⟩) _ c 1 L [q] _ HS.out (by simpa using (Sl.one w TSn (scs q) 9 rfl).fr (Fr.drew (fun _ => False) _) (fun _ _ h => h)) hlen) ?_
    · go_simp
    rintro e w5 ⟨v, rfl, ho, hb⟩
    have HSt5 := Lib.hid (HSt4.out.made ho hb)
    have hSS : w5.cell? ⟨b1, o1 + k * 9, none⟩ = some (.int .i64 q.t) ∧ w5.cell? ⟨b1, o1 + k * 9 + 1, none⟩ = some (.int .i64 q.i) ∧ w5.cell? ⟨b1, o1 + k * 9 + 1 + 1, none⟩ = some (.int .i64 q.p) ∧ w5.cell? ⟨b1, o1 + k * 9 + 1 + 1 + 1, none⟩ = some (.int .i64 q.r) ∧ w5.cell? ⟨b1, o1 + k * 9 + 1 + 1 + 1 + 1, none⟩ = some (.string q.s) ∧ w5.cell? ⟨b1, o1 + k * 9 + 1 + 1 + 1 + 1 + 1, none⟩ = some (.string q.o) ∧ w5.cell? ⟨b1, o1 + k * 9 + 1 + 1 + 1 + 1 + 1 + 1, none⟩ = some (.int .i64 q.b) ∧ w5.cell? ⟨b1, o1 + k * 9 + 1 + 1 + 1 + 1 + 1 + 1 + 1, none⟩ = some (.int .i64 q.d) ∧ w5.cell? ⟨b1, o1 + k * 9 + 1 + 1 + 1 + 1 + 1 + 1 + 1 + 1, none⟩ = some (.bool q.g) := ⟨HSt5.out.bx 0 _ rfl, HSt5.out.bx 1 _ rfl, HSt5.out.bx 2 _ rfl, HSt5.out.bx 3 _ rfl, HSt5.out.bx 4 _ rfl, HSt5.out.bx 5 _ rfl, HSt5.out.bx 6 _ rfl, HSt5.out.bx 7 _ rfl, HSt5.out.bx 8 _ rfl⟩
    clear ho hb
    obtain ⟨⟨A1, c1, q0⟩, p0, A2, c2, rfl⟩ := HSt5.out.cells
    refine ⟨_, rfl, hSS, ?_⟩
    refine Eng.TW.take' (v := ?_) rfl rfl (by decide) (by kernel_rfl) (fun w hw => ?_) ?_
    rotate_left
    · (try dsimp only at hw); go_simp; first | done | with_reducible rfl
    refine Eng.TW.take' (v := ?_) rfl rfl (by decide) (by kernel_rfl) (fun w hw => ?_) ?_
    rotate_left
    · (try dsimp only at hw); go_simp; first | done | with_reducible rfl
    refine Eng.TW.step0 rfl rfl (by kernel_rfl) (by go_simp; first | done | with_reducible rfl) (⟨(HSt5.out.store).bx 0 _ rfl, (HSt5.out.store).bx 1 _ rfl, (HSt5.out.store).bx 2 _ rfl, (HSt5.out.store).bx 3 _ rfl, (HSt5.out.store).bx 4 _ rfl, (HSt5.out.store).bx 5 _ rfl, (HSt5.out.store).bx 6 _ rfl, (HSt5.out.store).bx 7 _ rfl, (HSt5.out.store).bx 8 _ rfl⟩) ?_
    have HSt6 := Lib.hid (HSt5.out.store)
    have hSS : (w5.setCell ⟨B, 0, none⟩ (.slice A2 (wout [q] L).length c2)).cell? ⟨b1, o1 + k * 9, none⟩ = some (.int .i64 q.t) ∧ (w5.setCell ⟨B, 0, none⟩ (.slice A2 (wout [q] L).length c2)).cell? ⟨b1, o1 + k * 9 + 1, none⟩ = some (.int .i64 q.i) ∧ (w5.setCell ⟨B, 0, none⟩ (.slice A2 (wout [q] L).length c2)).cell? ⟨b1, o1 + k * 9 + 1 + 1, none⟩ = some (.int .i64 q.p) ∧ (w5.setCell ⟨B, 0, none⟩ (.slice A2 (wout [q] L).length c2)).cell? ⟨b1, o1 + k * 9 + 1 + 1 + 1, none⟩ = some (.int .i64 q.r) ∧ (w5.setCell ⟨B, 0, none⟩ (.slice A2 (wout [q] L).length c2)).cell? ⟨b1, o1 + k * 9 + 1 + 1 + 1 + 1, none⟩ = some (.string q.s) ∧ (w5.setCell ⟨B, 0, none⟩ (.slice A2 (wout [q] L).length c2)).cell? ⟨b1, o1 + k * 9 + 1 + 1 + 1 + 1 + 1, none⟩ = some (.string q.o) ∧ (w5.setCell ⟨B, 0, none⟩ (.slice A2 (wout [q] L).length c2)).cell? ⟨b1, o1 + k * 9 + 1 + 1 + 1 + 1 + 1 + 1, none⟩ = some (.int .i64 q.b) ∧ (w5.setCell ⟨B, 0, none⟩ (.slice A2 (wout [q] L).length c2)).cell? ⟨b1, o1 + k * 9 + 1 + 1 + 1 + 1 + 1 + 1 + 1, none⟩ = some (.int .i64 q.d) ∧ (w5.setCell ⟨B, 0, none⟩ (.slice A2 (wout [q] L).length c2)).cell? ⟨b1, o1 + k * 9 + 1 + 1 + 1 + 1 + 1 + 1 + 1 + 1, none⟩ = some (.bool q.g) := ⟨HSt6.out.bx 0 _ rfl, HSt6.out.bx 1 _ rfl, HSt6.out.bx 2 _ rfl, HSt6.out.bx 3 _ rfl, HSt6.out.bx 4 _ rfl, HSt6.out.bx 5 _ rfl, HSt6.out.bx 6 _ rfl, HSt6.out.bx 7 _ rfl, HSt6.out.bx 8 _ rfl⟩
    refine Eng.TW.end_ [18, 19, 20, 21, 22, 23, 24, 25, 26, 27, 28, 29, 30, 31, 32, 33] HN.out (by kernel_rfl) (by kernel_rfl) ?_
    exact HP.out _ _ HSt6.out
  refine Eng.TW.step rfl rfl (by decide) (by kernel_rfl) (by go_simp; first | done | with_reducible rfl) (⟨((hst.to (Fr.alloc _ w (.cells q.arr TSn))).to (Fr.drew _ _)).bx 0 _ rfl, ((hst.to (Fr.alloc _ w (.cells q.arr TSn))).to (Fr.drew _ _)).bx 1 _ rfl, ((hst.to (Fr.alloc _ w (.cells q.arr TSn))).to (Fr.drew _ _)).bx 2 _ rfl, ((hst.to (Fr.alloc _ w (.cells q.arr TSn))).to (Fr.drew _ _)).bx 3 _ rfl, ((hst.to (Fr.alloc _ w (.cells q.arr TSn))).to (Fr.drew _ _)).bx 4 _ rfl, ((hst.to (Fr.alloc _ w (.cells q.arr TSn))).to (Fr.drew _ _)).bx 5 _ rfl, ((hst.to (Fr.alloc _ w (.cells q.arr TSn))).to (Fr.drew _ _)).bx 6 _ rfl, ((hst.to (Fr.alloc _ w (.cells q.arr TSn))).to (Fr.drew _ _)).bx 7 _ rfl, ((hst.to (Fr.alloc _ w (.cells q.arr TSn))).to (Fr.drew _ _)).bx 8 _ rfl⟩) ?_
  have HSt3 := Lib.hid ((hst.to (Fr.alloc _ w (.cells q.arr TSn))).to (Fr.drew _ _))
  have hSS : ((w.alloc (.cells q.arr TSn)).drew).cell? ⟨b1, o1 + k * 9, none⟩ = some (.int .i64 q.t) ∧ ((w.alloc (.cells q.arr TSn)).drew).cell? ⟨b1, o1 + k * 9 + 1, none⟩ = some (.int .i64 q.i) ∧ ((w.alloc (.cells q.arr TSn)).drew).cell? ⟨b1, o1 + k * 9 + 1 + 1, none⟩ = some (.int .i64 q.p) ∧ ((w.alloc (.cells q.arr TSn)).drew).cell? ⟨b1, o1 + k * 9 + 1 + 1 + 1, none⟩ = some (.int .i64 q.r) ∧ ((w.alloc (.cells q.arr TSn)).drew).cell? ⟨b1, o1 + k * 9 + 1 + 1 + 1 + 1, none⟩ = some (.string q.s) ∧ ((w.alloc (.cells q.arr TSn)).drew).cell? ⟨b1, o1 + k * 9 + 1 + 1 + 1 + 1 + 1, none⟩ = some (.string q.o) ∧ ((w.alloc (.cells q.arr TSn)).drew).cell? ⟨b1, o1 + k * 9 + 1 + 1 + 1 + 1 + 1 + 1, none⟩ = some (.int .i64 q.b) ∧ ((w.alloc (.cells q.arr TSn)).drew).cell? ⟨b1, o1 + k * 9 + 1 + 1 + 1 + 1 + 1 + 1 + 1, none⟩ = some (.int .i64 q.d) ∧ ((w.alloc (.cells q.arr TSn)).drew).cell? ⟨b1, o1 + k * 9 + 1 + 1 + 1 + 1 + 1 + 1 + 1 + 1, none⟩ = some (.bool q.g) := ⟨HSt3.out.bx 0 _ rfl, HSt3.out.bx 1 _ rfl, HSt3.out.bx 2 _ rfl, HSt3.out.bx 3 _ rfl, HSt3.out.bx 4 _ rfl, HSt3.out.bx 5 _ rfl, HSt3.out.bx 6 _ rfl, HSt3.out.bx 7 _ rfl, HSt3.out.bx 8 _ rfl⟩
  refine Eng.TW.step rfl rfl (by decide) (by kernel_rfl) (by go_simp; first | done | with_reducible rfl) (⟨(HSt3.out).bx 0 _ rfl, (HSt3.out).bx 1 _ rfl, (HSt3.out).bx 2 _ rfl, (HSt3.out).bx 3 _ rfl, (HSt3.out).bx 4 _ rfl, (HSt3.out).bx 5 _ rfl, (HSt3.out).bx 6 _ rfl, (HSt3.out).bx 7 _ rfl, (HSt3.out).bx 8 _ rfl⟩) ?_
  have HSt4 := Lib.hid (HSt3.out)
  have hSS : (((w.alloc (.cells q.arr TSn)).drew)).cell? ⟨b1, o1 + k * 9, none⟩ = some (.int .i64 q.t) ∧ (((w.alloc (.cells q.arr TSn)).drew)).cell? ⟨b1, o1 + k * 9 + 1, none⟩ = some (.int .i64 q.i) ∧ (((w.alloc (.cells q.arr TSn)).drew)).cell? ⟨b1, o1 + k * 9 + 1 + 1, none⟩ = some (.int .i64 q.p) ∧ (((w.alloc (.cells q.arr TSn)).drew)).cell? ⟨b1, o1 + k * 9 + 1 + 1 + 1, none⟩ = some (.int .i64 q.r) ∧ (((w.alloc (.cells q.arr TSn)).drew)).cell? ⟨b1, o1 + k * 9 + 1 + 1 + 1 + 1, none⟩ = some (.string q.s) ∧ (((w.alloc (.cells q.arr TSn)).drew)).cell? ⟨b1, o1 + k * 9 + 1 + 1 + 1 + 1 + 1, none⟩ = some (.string q.o) ∧ (((w.alloc (.cells q.arr TSn)).drew)).cell? ⟨b1, o1 + k * 9 + 1 + 1 + 1 + 1 + 1 + 1, none⟩ = some (.int .i64 q.b) ∧ (((w.alloc (.cells q.arr TSn)).drew)).cell? ⟨b1, o1 + k * 9 + 1 + 1 + 1 + 1 + 1 + 1 + 1, none⟩ = some (.int .i64 q.d) ∧ (((w.alloc (.cells q.arr TSn)).drew)).cell? ⟨b1, o1 + k * 9 + 1 + 1 + 1 + 1 + 1 + 1 + 1 + 1, none⟩ = some (.bool q.g) := ⟨HSt4.out.bx 0 _ rfl, HSt4.out.bx 1 _ rfl, HSt4.out.bx 2 _ rfl, HSt4.out.bx 3 _ rfl, HSt4.out.bx 4 _ rfl, HSt4.out.bx 5 _ rfl, HSt4.out.bx 6 _ rfl, HSt4.out.bx 7 _ rfl, HSt4.out.bx 8 _ rfl⟩
  refine Eng.TW.call rfl rfl (by decide) (by kernel_rfl) ?_ (Without (some ⟨b1, o1, none⟩) _ c 1 L [q] _ HS.out (by simpa using (Sl.one w TSn (scs q) 9 rfl).fr (Fr.drew (fun _ => False) _) (fun _ _ h => h)) hlen) ?_
  · go_simp
  rintro e w5 ⟨v, rfl, ho, hb⟩
  have HSt5 := Lib.hid (HSt4.out.made ho hb)
  have hSS : w5.cell? ⟨b1, o1 + k * 9, none⟩ = some (.int .i64 q.t) ∧ w5.cell? ⟨b1, o1 + k * 9 + 1, none⟩ = some (.int .i64 q.i) ∧ w5.cell? ⟨b1, o1 + k * 9 + 1 + 1, none⟩ = some (.int .i64 q.p) ∧ w5.cell? ⟨b1, o1 + k * 9 + 1 + 1 + 1, none⟩ = some (.int .i64 q.r) ∧ w5.cell? ⟨b1, o1 + k * 9 + 1 + 1 + 1 + 1, none⟩ = some (.string q.s) ∧ w5.cell? ⟨b1, o1 + k * 9 + 1 + 1 + 1 + 1 + 1, none⟩ = some (.string q.o) ∧ w5.cell? ⟨b1, o1 + k * 9 + 1 + 1 + 1 + 1 + 1 + 1, none⟩ = some (.int .i64 q.b) ∧ w5.cell? ⟨b1, o1 + k * 9 + 1 + 1 + 1 + 1 + 1 + 1 + 1, none⟩ = some (.int .i64 q.d) ∧ w5.cell? ⟨b1, o1 + k * 9 + 1 + 1 + 1 + 1 + 1 + 1 + 1 + 1, none⟩ = some (.bool q.g) := ⟨HSt5.out.bx 0 _ rfl, HSt5.out.bx 1 _ rfl, HSt5.out.bx 2 _ rfl, HSt5.out.bx 3 _ rfl, HSt5.out.bx 4 _ rfl, HSt5.out.bx 5 _ rfl, HSt5.out.bx 6 _ rfl, HSt5.out.bx 7 _ rfl, HSt5.out.bx 8 _ rfl⟩
  clear ho hb
  obtain ⟨⟨A1, c1, q0⟩, p0, A2, c2, rfl⟩ := HSt5.out.cells
  refine ⟨_, rfl, hSS, ?_⟩
  refine Eng.TW.take' (v := ?_) rfl rfl (by decide) (by kernel_rfl) (fun w hw => ?_) ?_
  rotate_left
  · (try dsimp only at hw); go_simp; first | done | with_reducible rfl
  refine Eng.TW.take' (v := ?_) rfl rfl (by decide) (by kernel_rfl) (fun w hw => ?_) ?_
  rotate_left
  · (try dsimp only at hw); go_simp; first | done | with_reducible rfl
  refine Eng.TW.step0 rfl rfl (by kernel_rfl) (by go_simp; first | done | with_reducible rfl) (⟨(HSt5.out.store).bx 0 _ rfl, (HSt5.out.store).bx 1 _ rfl, (HSt5.out.store).bx 2 _ rfl, (HSt5.out.store).bx 3 _ rfl, (HSt5.out.store).bx 4 _ rfl, (HSt5.out.store).bx 5 _ rfl, (HSt5.out.store).bx 6 _ rfl, (HSt5.out.store).bx 7 _ rfl, (HSt5.out.store).bx 8 _ rfl⟩) ?_
  have HSt6 := Lib.hid (HSt5.out.store)
  have hSS : (w5.setCell ⟨B, 0, none⟩ (.slice A2 (wout [q] L).length c2)).cell? ⟨b1, o1 + k * 9, none⟩ = some (.int .i64 q.t) ∧ (w5.setCell ⟨B, 0, none⟩ (.slice A2 (wout [q] L).length c2)).cell? ⟨b1, o1 + k * 9 + 1, none⟩ = some (.int .i64 q.i) ∧ (w5.setCell ⟨B, 0, none⟩ (.slice A2 (wout [q] L).length c2)).cell? ⟨b1, o1 + k * 9 + 1 + 1, none⟩ = some (.int .i64 q.p) ∧ (w5.setCell ⟨B, 0, none⟩ (.slice A2 (wout [q] L).length c2)).cell? ⟨b1, o1 + k * 9 + 1 + 1 + 1, none⟩ = some (.int .i64 q.r) ∧ (w5.setCell ⟨B, 0, none⟩ (.slice A2 (wout [q] L).length c2)).cell? ⟨b1, o1 + k * 9 + 1 + 1 + 1 + 1, none⟩ = some (.string q.s) ∧ (w5.setCell ⟨B, 0, none⟩ (.slice A2 (wout [q] L).length c2)).cell? ⟨b1, o1 + k * 9 + 1 + 1 + 1 + 1 + 1, none⟩ = some (.string q.o) ∧ (w5.setCell ⟨B, 0, none⟩ (.slice A2 (wout [q] L).length c2)).cell? ⟨b1, o1 + k * 9 + 1 + 1 + 1 + 1 + 1 + 1, none⟩ = some (.int .i64 q.b) ∧ (w5.setCell ⟨B, 0, none⟩ (.slice A2 (wout [q] L).length c2)).cell? ⟨b1, o1 + k * 9 + 1 + 1 + 1 + 1 + 1 + 1 + 1, none⟩ = some (.int .i64 q.d) ∧ (w5.setCell ⟨B, 0, none⟩ (.slice A2 (wout [q] L).length c2)).cell? ⟨b1, o1 + k * 9 + 1 + 1 + 1 + 1 + 1 + 1 + 1 + 1, none⟩ = some (.bool q.g) := ⟨HSt6.out.bx 0 _ rfl, HSt6.out.bx 1 _ rfl, HSt6.out.bx 2 _ rfl, HSt6.out.bx 3 _ rfl, HSt6.out.bx 4 _ rfl, HSt6.out.bx 5 _ rfl, HSt6.out.bx 6 _ rfl, HSt6.out.bx 7 _ rfl, HSt6.out.bx 8 _ rfl⟩
  refine Eng.TW.end_ [18, 19, 20, 21, 22, 23, 24, 25, 26, 27, 28, 29, 30, 31, 32, 33] HN.out (by kernel_rfl) (by kernel_rfl) ?_
  exact HP.out _ _ HSt6.out

theorem wout_out {L : List Sn} {y : Sn} (hs : Srs L) (hy : y ∈ L) : wout [y] L = out y.t y.i L := by
  unfold wout out
  apply List.filter_congr
  intro x hx
  have h : x ∈ [y] ↔ (x.t = y.t ∧ x.i = y.i) := by
    rw [List.mem_singleton]
    exact ⟨fun e => by rw [e]; exact ⟨rfl, rfl⟩, fun e => srs_uni hs hx hy (one_iff.2 e)⟩
  rw [show decide (x ∈ [y]) = (decide (x.t = y.t) && decide (x.i = y.i)) by rw [Bool.eq_iff_iff, decide_eq_true_iff, Bool.and_eq_true, decide_eq_true_iff, decide_eq_true_iff]; exact h]
theorem fnd_sn (t i p : Int) (L : List Sn) : fnd (sn t i p) L = fnd (sn t i 0) L := rfl
set_option maxRecDepth 100000 in
theorem Put (B : Nat) (L : List Sn) (F : List Nat) (x : Sn) (w : World) (h : RX w B L F) (hlen : L.length ≤ 1000000) : Calls Try.prog 18 #[.pointer (some ⟨B, 0, none⟩), x.v] w fun e w' => e = .returned (.tuple #[]) ∧ ∃ F', RX w' B (putK x L) F' ∧ Tn F F' w w' := by
  have HP1 : Hid (P1 w (w.alloc (.cells x.arr TSn)) B w.heap.size 0 L F x) := ⟨h.fr (Fr.alloc (fun _ => False) _ _) (fun _ _ h => h), At.box (Bk.new w x.arr TSn), Fr.alloc _ _ _, h.lt, fun e => by have := h.mem.2; omega⟩
  clear h
  go_enter Try.func18, Try.ntmps18
  go_upto_region 1 with (fail)
  refine p1 (by kernel_rfl) _ _ w _ B w.heap.size L F x HP1.out hlen rfl rfl rfl ?_
  intro z w' hst
  simp only [Eng.setAll, Act.put, List.setIfInBounds_toArray, List.set_cons_succ, List.set_cons_zero]
  have HR := Lib.hid hst.rx
  clear hst
  go_wp2_with fail
  first | (go_end0; exact ⟨rfl, HR.out⟩) | exact bodyPost_ret (results_none rfl _ _ _) rfl ⟨rfl, HR.out⟩
set_option maxRecDepth 100000 in
theorem Drop (B : Nat) (L : List Sn) (F : List Nat) (t i : Int) (w : World) (h : RX w B L F) (hs : Srs L) (hlen : L.length ≤ 1000000) : Calls Try.prog 16 #[.pointer (some ⟨B, 0, none⟩), .int .i64 t, .int .i64 i] w fun e w' => e = .returned (.bool (fnd (sn t i 0) L).isSome) ∧ ∃ F', RX w' B (out t i L) F' ∧ Tn F F' w w' := by
  have H := Lib.hid h
  obtain ⟨A, c, hB, hS, -, -⟩ := h
  have HS := Lib.hid hS
  have HF := Lib.hid (Find2 A c L t i w hS)
  have kb := fun W : World => build2 t i W
  have c0 : w.cell? ⟨B, 0, none⟩ = some (.slice A L.length c) := hB.cell 0
  have HB := Lib.hid hB
  clear hB hS
  go_enter Try.func16, Try.ntmps16
  go_wp2_with fail
  refine HF.out.mono ?_
  rintro e w1 ⟨rfl, hf⟩
  have H1 := Lib.hid (H.out.fr hf (fun _ _ h => h)); have HFr := Lib.hid hf
  have HB1 := Lib.hid (HB.out.fr hf (fun _ _ h => h)); have HS1 := Lib.hid (HS.out.fr hf (fun _ _ h => h))
  clear hf c0 kb HF
  rcases pos_fnd (x := sn t i 0) (L := L) with ⟨k, hk, e1, e2⟩ | ⟨e1, e2⟩
  · have hpi : posI (sn t i 0) L = k := by unfold posI; rw [e1]
    have hmem := fnd_some e2
    have HE : Hid ((fnd (sn t i 0) L).isSome = true ∧ wout [L[k]] L = out t i L) := ⟨by rw [e2]; rfl, by
      rw [wout_out hs hmem.1]
      have := one_iff.1 hmem.2
      rw [this.1, this.2]⟩
    rw [hpi]
    have hlt : decide ((k : Int) < 0) = false := by rw [decide_eq_false_iff_not]; omega
    obtain ⟨b1, o1, rfl, hb1, c1⟩ := HS1.out.at hk (by omega)
    have HAt := Lib.hid (At.row c1 hk)
    have HNb : Hid (b1 ≠ B) := by
      obtain ⟨A', c', hB', -, -, h4⟩ := H1.out
      have h5 := hB'.cell 0
      rw [HB1.out.cell 0] at h5
      simp at h5
      exact (h4 _ h5.1.symm).1
    clear e1 e2 hmem hpi c1
    generalize L[k] = q at *
    go_upto_region 4 with (fail)
    refine d4 (by kernel_rfl) _ _ w _ B b1 o1 c k L F q ⟨H1.out, HAt.out, HFr.out, H.out.lt, HNb.out⟩ (HB1.out.cell 0) HS1.out hk hlen rfl rfl rfl ?_
    intro z w' hst
    simp only [Eng.setAll, Act.put, List.setIfInBounds_toArray, List.set_cons_succ, List.set_cons_zero]
    have HR := Lib.hid hst.rx
    clear hst
    go_wp2_with fail
    go_ret
    rw [HE.out.1, ← HE.out.2]
    exact ⟨rfl, HR.out⟩
  · have hpi : posI (sn t i 0) L = -1 := by unfold posI; rw [e1]
    have HE : Hid ((fnd (sn t i 0) L).isSome = false ∧ out t i L = L) := ⟨by rw [e2]; rfl, out_none (fun y hy e => by have := fnd_none e2 y hy; rw [one_iff.2 e] at this; cases this)⟩
    rw [hpi]
    clear e1 e2 hpi
    go_wp2_with fail
    go_ret
    rw [HE.out.1, HE.out.2]
    exact ⟨rfl, F, H1.out, Tn.of_fr HFr.out H.out.lt⟩
set_option maxRecDepth 100000 in
theorem Parent (B : Nat) (L : List Sn) (F : List Nat) (t i : Int) (w : World) (h : RX w B L F) : Calls Try.prog 20 #[.pointer (some ⟨B, 0, none⟩), .int .i64 t, .int .i64 i] w fun e w' => e = .returned (.tuple #[.int .i64 (((fnd (sn t i 0) L).map (·.p)).getD 0), .bool (fnd (sn t i 0) L).isSome]) ∧ Fr (fun _ => False) w w' := by
  obtain ⟨A, c, hB, hS, -, -⟩ := h
  have HS := Lib.hid hS
  have HF := Lib.hid (Find2 A c L t i w hS)
  have kb := fun W : World => build2 t i W
  have c0 : w.cell? ⟨B, 0, none⟩ = some (.slice A L.length c) := hB.cell 0
  have hlen : L.length ≤ 9223372036854775807 := by have := hS.2.1; have := hS.2.2.1; unfold maxLen at this; omega
  have HB := Lib.hid hB
  clear hB hS
  go_enter Try.func20, Try.ntmps20
  go_wp2_with fail
  refine HF.out.mono ?_
  rintro e w1 ⟨rfl, hf⟩
  have HFr := Lib.hid hf
  have c1 : w1.cell? ⟨B, 0, none⟩ = some (.slice A L.length c) := (HB.out.fr hf (fun _ _ h => h)).cell 0
  have HS1 := Lib.hid (HS.out.fr hf (fun _ _ h => h))
  clear hf c0 kb HF
  rcases pos_fnd (x := sn t i 0) (L := L) with ⟨k, hk, e1, e2⟩ | ⟨e1, e2⟩
  · have hpi : posI (sn t i 0) L = k := by unfold posI; rw [e1]
    have HE : Hid (fnd (sn t i 0) L = some L[k]) := e2
    rw [hpi]
    have hlt : decide ((k : Int) < 0) = false := by rw [decide_eq_false_iff_not]; omega
    obtain ⟨b1, o1, rfl, hb1, c1'⟩ := HS1.out.at hk (by omega)
    have d0 : w1.cell? ⟨b1, o1 + k * 9 + 2, none⟩ = some (.int .i64 L[k].p) := (At.row c1' hk) 2 _ rfl
    clear e1 e2 hpi c1'
    generalize L[k] = q at *
    go_wp2_with fail
    go_ret2
    rw [HE.out]
    exact ⟨rfl, HFr.out⟩
  · have hpi : posI (sn t i 0) L = -1 := by unfold posI; rw [e1]
    have HE : Hid (fnd (sn t i 0) L = none) := e2
    rw [hpi]
    clear e1 e2 hpi
    go_wp2_with fail
    go_ret2
    rw [HE.out]
    exact ⟨rfl, HFr.out⟩
end Ref20
end Go.Proofs.Ytkhhdadlpilbmaa
