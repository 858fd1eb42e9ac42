/- Places: the document's. -/
import Derived.Test.YtmcghchhegfilaaClsX
namespace Go.Proofs.Ytmcghchhegfilaa
open Go.RowKit
namespace ClsF
open KeyP PackP SetP SetW SetF Cls ClsW ClsS
attribute [local go_sem] Eng.ev Eng.getO_cons Eng.getO_nil
structure AS (wc w : World) (A : Option Addr) (c : Nat) (L : List Sn) (Bx : Nat) (x : Sn) (bs : List Nat) (q : Pc) : Prop where
  s : Sl w 9 A L.length c (L.flatMap scs)
  a : At w Bx 0 x
  r : Fr (fun _ => False) wc w
  p : ∀ b ∈ bs, Bk w b q.arr TPl ∧ wc.heap.size ≤ b
theorem AS.fr {wc w w' : World} {A : Option Addr} {c : Nat} {L : List Sn} {Bx : Nat} {x : Sn} {bs : List Nat} {q : Pc} (H : AS wc w A c L Bx x bs q) (hf : Fr (fun _ => False) w w') : AS wc w' A c L Bx x bs q :=
  ⟨H.s.fr hf (fun _ _ h => h), H.a.keep hf, H.r.trans hf (fun _ _ h => h) (fun _ _ h => h), fun b hb => ⟨(H.p b hb).1.fr hf (fun _ _ h => h), (H.p b hb).2⟩⟩
theorem AS.alloc {wc w : World} {A : Option Addr} {c : Nat} {L : List Sn} {Bx : Nat} {x : Sn} {q : Pc} (H : AS wc w A c L Bx x [] q) (p : Pc) : AS wc (w.alloc (.cells p.arr TPl)) A c L Bx x [w.heap.size] p := by
  have hf := Fr.alloc (fun _ => False) w (.cells p.arr TPl)
  exact ⟨H.s.fr hf (fun _ _ h => h), H.a.keep hf, H.r.trans hf (fun _ _ h => h) (fun _ _ h => h), fun b hb => by
    simp only [List.mem_singleton] at hb; subst hb
    exact ⟨Bk.new w p.arr TPl, H.r.size⟩⟩
theorem _root_.Go.Proofs.Ytmcghchhegfilaa.Sl.fr' {S : Nat → Prop} {w w' : World} {sz : Nat} {A : Option Addr} {n c : Nat} {xs : List Value} (h : Sl w sz A n c xs) (hf : Fr S w w') (hs : xs ≠ [] → ∀ a, A = some a → ¬ S a.block) : Sl w' sz A n c xs := by
  by_cases hne : xs = []
  · obtain ⟨h1, h2, h3, h4, h5⟩ := h
    exact ⟨h1, h2, h3, h4, fun h => absurd hne h⟩
  · exact h.fr hf (hs hne)
theorem AS.store {wc w : World} {A : Option Addr} {c : Nat} {L : List Sn} {Bx Bp : Nat} {x : Sn} {q : Pc} (H : AS wc w A c L Bx x [Bp] q) (p : Pc) (h1 : L.flatMap scs ≠ [] → ∀ a, A = some a → a.block < wc.heap.size) (h2 : Bx < wc.heap.size) : AS wc (put6 w Bp p) A c L Bx x [Bp] p := by
  obtain ⟨h3, h4⟩ := H.p Bp (by simp)
  have hf := put6_fr w Bp p
  exact ⟨H.s.fr' hf (fun hne a ha e => by have := h1 hne a ha; omega), H.a.fr hf (fun e => by omega), H.r.trans hf (fun _ _ h => h) (fun k hk e => by omega), fun b hb => by
    simp only [List.mem_singleton] at hb; subst hb
    exact ⟨put6_bk h3 p, h4⟩⟩
theorem buildP3 (t i f : Int) (W : World) : (Instr.build TPl #[(0, .int .i64 t), (1, .int .i64 i), (5, .int .i64 f)]).run Try.prog W = .ok (.agg #[.int .i64 t, .int .i64 i, .int .i64 0, .int .i64 0, .int .i64 0, .int .i64 f]) W := by kernel_rfl
set_option maxRecDepth 100000 in
set_option maxHeartbeats 2000000 in
theorem at2 {ops : Array Oper} (hops : Eng.fnOps Try.f58 2 = ops) (a0 : Act) (Q : Exit → Act → World → Prop) (wc w : World) (A : Option Addr) (c : Nat) (L : List Sn) (Bx : Nat) (x : Sn) (h1 : L.flatMap scs ≠ [] → ∀ a, A = some a → a.block < wc.heap.size) (h2 : Bx < wc.heap.size) (hst : AS wc w A c L Bx x [] z6)
    (hn : a0.tmps.size = 52) (h_0 : a0.tmps.getD 0 undef = .slice A L.length c) (h_3 : a0.tmps.getD 3 undef = .pointer (some ⟨Bx, 0, none⟩))
    (hpost : ∀ (x_ : Nat → Value) (w' : World) (Bp : Nat), x_ 7 = .pointer (some ⟨Bp, 0, none⟩) → AS wc w' A c L Bx x [Bp] ⟨x.t, x.i, 0, 0, 0, ((fan L x : Nat) : Int)⟩ → Q .normal (Eng.setAll a0 [7, 18, 19, 20, 21, 22, 23, 24, 25] x_) w') :
    (Code.region 2 ops true).wp Try.prog Q a0 w := by
  simp only [Eng.fnOps, Eng.regOps, Try.f58, Option.bind_some, Option.getD_some, Nat.reduceEqDiff, ↓reduceIte, Nat.reduceBEq] at hops
  subst hops
  have kb := buildP3
  have HSt := Lib.hid (hst.fr (Fr.drew _ _))
  have hSS : w.drew.cell? ⟨Bx, 0, none⟩ = some (.int .i64 x.t) ∧ w.drew.cell? ⟨Bx, 1, none⟩ = some (.int .i64 x.i) ∧ w.drew.cell? ⟨Bx, 2, none⟩ = some (.int .i64 x.p) ∧ w.drew.cell? ⟨Bx, 3, none⟩ = some (.int .i64 x.r) ∧ w.drew.cell? ⟨Bx, 4, none⟩ = some (.string x.s) ∧ w.drew.cell? ⟨Bx, 5, none⟩ = some (.string x.o) ∧ w.drew.cell? ⟨Bx, 6, none⟩ = some (.int .i64 x.b) ∧ w.drew.cell? ⟨Bx, 7, none⟩ = some (.int .i64 x.d) ∧ w.drew.cell? ⟨Bx, 8, none⟩ = some (.bool x.g) := ⟨HSt.out.a 0 _ rfl, HSt.out.a 1 _ rfl, HSt.out.a 2 _ rfl, HSt.out.a 3 _ rfl, HSt.out.a 4 _ rfl, HSt.out.a 5 _ rfl, HSt.out.a 6 _ rfl, HSt.out.a 7 _ rfl, HSt.out.a 8 _ rfl⟩
  refine Eng.regionT (.take 0 (.take 1 (.take 2 (.take 3 (.take 4 (.take 5 (.alt 6 (.take 7 (.alt 8 (.alt 9 (.done) (.stop)) (.stop))) (.alt 8 (.alt 6 (.take 7 (.alt 9 (.done) (.stop))) (.stop)) (.stop))))))))) (fun w' => w'.cell? ⟨Bx, 0, none⟩ = some (.int .i64 x.t) ∧ w'.cell? ⟨Bx, 1, none⟩ = some (.int .i64 x.i) ∧ w'.cell? ⟨Bx, 2, none⟩ = some (.int .i64 x.p) ∧ w'.cell? ⟨Bx, 3, none⟩ = some (.int .i64 x.r) ∧ w'.cell? ⟨Bx, 4, none⟩ = some (.string x.s) ∧ w'.cell? ⟨Bx, 5, none⟩ = some (.string x.o) ∧ w'.cell? ⟨Bx, 6, none⟩ = some (.int .i64 x.b) ∧ w'.cell? ⟨Bx, 7, none⟩ = some (.int .i64 x.d) ∧ w'.cell? ⟨Bx, 8, none⟩ = some (.bool x.g)) (by kernel_rfl) 52 hn (by kernel_rfl) (by kernel_rfl) (by kernel_rfl) (hSS) (fun a b ha hb => ?_)
  subst ha
  have hb0 : b 0 = .slice A L.length c := (hb 0).symm.trans h_0
  have hb3 : b 3 = .pointer (some ⟨Bx, 0, none⟩) := (hb 3).symm.trans h_3
  clear hb h_0 h_3
  have HP := Lib.hid hpost; have HN := Lib.hid hn
  clear hpost hn
  refine Eng.TW.take' (v := ?_) rfl rfl (by decide) (by kernel_rfl) (fun w hw => ?_) ?_
  rotate_left
  · (try dsimp only at hw); go_simp; first | done | with_reducible rfl
  refine Eng.TW.take' (v := ?_) rfl rfl (by decide) (by kernel_rfl) (fun w hw => ?_) ?_
  rotate_left
  · (try dsimp only at hw); go_simp; first | done | with_reducible rfl
  refine Eng.TW.take' (v := ?_) rfl rfl (by decide) (by kernel_rfl) (fun w hw => ?_) ?_
  rotate_left
  · (try dsimp only at hw); go_simp; first | done | with_reducible rfl
  refine Eng.TW.take' (v := ?_) rfl rfl (by decide) (by kernel_rfl) (fun w hw => ?_) ?_
  rotate_left
  · (try dsimp only at hw); go_simp; first | done | with_reducible rfl
  refine Eng.TW.take' (v := ?_) rfl rfl (by decide) (by kernel_rfl) (fun w hw => ?_) ?_
  rotate_left
  · (try dsimp only at hw); go_simp; first | done | with_reducible rfl
  refine Eng.TW.take' (v := ?_) rfl rfl (by decide) (by kernel_rfl) (fun w hw => ?_) ?_
  rotate_left
  · (try dsimp only at hw); go_simp; first | done | with_reducible rfl
  refine Eng.TW.both ?_ ?_
  · refine Eng.TW.call rfl rfl (by decide) (by kernel_rfl) ?_ (Fan A c L x _ (HSt.out.s)) ?_
    · go_simp
    rintro e w2 ⟨rfl, hf1⟩
    have HSt2 := Lib.hid (HSt.out.fr hf1)
    have hSS : w2.cell? ⟨Bx, 0, none⟩ = some (.int .i64 x.t) ∧ w2.cell? ⟨Bx, 1, none⟩ = some (.int .i64 x.i) ∧ w2.cell? ⟨Bx, 2, none⟩ = some (.int .i64 x.p) ∧ w2.cell? ⟨Bx, 3, none⟩ = some (.int .i64 x.r) ∧ w2.cell? ⟨Bx, 4, none⟩ = some (.string x.s) ∧ w2.cell? ⟨Bx, 5, none⟩ = some (.string x.o) ∧ w2.cell? ⟨Bx, 6, none⟩ = some (.int .i64 x.b) ∧ w2.cell? ⟨Bx, 7, none⟩ = some (.int .i64 x.d) ∧ w2.cell? ⟨Bx, 8, none⟩ = some (.bool x.g) := ⟨HSt2.out.a 0 _ rfl, HSt2.out.a 1 _ rfl, HSt2.out.a 2 _ rfl, HSt2.out.a 3 _ rfl, HSt2.out.a 4 _ rfl, HSt2.out.a 5 _ rfl, HSt2.out.a 6 _ rfl, HSt2.out.a 7 _ rfl, HSt2.out.a 8 _ rfl⟩
    clear hf1
    refine ⟨_, rfl, hSS, ?_⟩
    refine Eng.TW.take' (v := ?_) rfl rfl (by decide) (by kernel_rfl) (fun w hw => ?_) ?_
    rotate_left
    · (try dsimp only at hw); go_simp; first | done | with_reducible rfl
    refine Eng.TW.step rfl rfl (by decide) (by kernel_rfl) (by go_simp; first | done | with_reducible rfl) (⟨(HSt2.out.alloc z6).a 0 _ rfl, (HSt2.out.alloc z6).a 1 _ rfl, (HSt2.out.alloc z6).a 2 _ rfl, (HSt2.out.alloc z6).a 3 _ rfl, (HSt2.out.alloc z6).a 4 _ rfl, (HSt2.out.alloc z6).a 5 _ rfl, (HSt2.out.alloc z6).a 6 _ rfl, (HSt2.out.alloc z6).a 7 _ rfl, (HSt2.out.alloc z6).a 8 _ rfl⟩) ?_
    have HSt3 := Lib.hid (HSt2.out.alloc z6)
    have hSS : ((w2).alloc (.cells #[.int .i64 0, .int .i64 0, .int .i64 0, .int .i64 0, .int .i64 0, .int .i64 0] TPl)).cell? ⟨Bx, 0, none⟩ = some (.int .i64 x.t) ∧ ((w2).alloc (.cells #[.int .i64 0, .int .i64 0, .int .i64 0, .int .i64 0, .int .i64 0, .int .i64 0] TPl)).cell? ⟨Bx, 1, none⟩ = some (.int .i64 x.i) ∧ ((w2).alloc (.cells #[.int .i64 0, .int .i64 0, .int .i64 0, .int .i64 0, .int .i64 0, .int .i64 0] TPl)).cell? ⟨Bx, 2, none⟩ = some (.int .i64 x.p) ∧ ((w2).alloc (.cells #[.int .i64 0, .int .i64 0, .int .i64 0, .int .i64 0, .int .i64 0, .int .i64 0] TPl)).cell? ⟨Bx, 3, none⟩ = some (.int .i64 x.r) ∧ ((w2).alloc (.cells #[.int .i64 0, .int .i64 0, .int .i64 0, .int .i64 0, .int .i64 0, .int .i64 0] TPl)).cell? ⟨Bx, 4, none⟩ = some (.string x.s) ∧ ((w2).alloc (.cells #[.int .i64 0, .int .i64 0, .int .i64 0, .int .i64 0, .int .i64 0, .int .i64 0] TPl)).cell? ⟨Bx, 5, none⟩ = some (.string x.o) ∧ ((w2).alloc (.cells #[.int .i64 0, .int .i64 0, .int .i64 0, .int .i64 0, .int .i64 0, .int .i64 0] TPl)).cell? ⟨Bx, 6, none⟩ = some (.int .i64 x.b) ∧ ((w2).alloc (.cells #[.int .i64 0, .int .i64 0, .int .i64 0, .int .i64 0, .int .i64 0, .int .i64 0] TPl)).cell? ⟨Bx, 7, none⟩ = some (.int .i64 x.d) ∧ ((w2).alloc (.cells #[.int .i64 0, .int .i64 0, .int .i64 0, .int .i64 0, .int .i64 0, .int .i64 0] TPl)).cell? ⟨Bx, 8, none⟩ = some (.bool x.g) := ⟨HSt3.out.a 0 _ rfl, HSt3.out.a 1 _ rfl, HSt3.out.a 2 _ rfl, HSt3.out.a 3 _ rfl, HSt3.out.a 4 _ rfl, HSt3.out.a 5 _ rfl, HSt3.out.a 6 _ rfl, HSt3.out.a 7 _ rfl, HSt3.out.a 8 _ rfl⟩
    have u0 := (HSt3.out.p _ (List.mem_cons_self ..)).1.cell 0
    have v0 := (HSt3.out.p _ (List.mem_cons_self ..)).1.free 0
    have u1 := (HSt3.out.p _ (List.mem_cons_self ..)).1.cell 1
    have v1 := (HSt3.out.p _ (List.mem_cons_self ..)).1.free 1
    have u2 := (HSt3.out.p _ (List.mem_cons_self ..)).1.cell 2
    have v2 := (HSt3.out.p _ (List.mem_cons_self ..)).1.free 2
    have u3 := (HSt3.out.p _ (List.mem_cons_self ..)).1.cell 3
    have v3 := (HSt3.out.p _ (List.mem_cons_self ..)).1.free 3
    have u4 := (HSt3.out.p _ (List.mem_cons_self ..)).1.cell 4
    have v4 := (HSt3.out.p _ (List.mem_cons_self ..)).1.free 4
    have u5 := (HSt3.out.p _ (List.mem_cons_self ..)).1.cell 5
    have v5 := (HSt3.out.p _ (List.mem_cons_self ..)).1.free 5
    simp only [List.getElem?_toArray, List.getElem?_cons_zero, List.getElem?_cons_succ] at u0 u1 u2 u3 u4 u5
    refine Eng.TW.step0 rfl rfl (by kernel_rfl) (by go_simp; first | done | with_reducible rfl) (⟨(HSt2.out.alloc ⟨x.t, x.i, 0, 0, 0, ((fan L x : Nat) : Int)⟩).a 0 _ rfl, (HSt2.out.alloc ⟨x.t, x.i, 0, 0, 0, ((fan L x : Nat) : Int)⟩).a 1 _ rfl, (HSt2.out.alloc ⟨x.t, x.i, 0, 0, 0, ((fan L x : Nat) : Int)⟩).a 2 _ rfl, (HSt2.out.alloc ⟨x.t, x.i, 0, 0, 0, ((fan L x : Nat) : Int)⟩).a 3 _ rfl, (HSt2.out.alloc ⟨x.t, x.i, 0, 0, 0, ((fan L x : Nat) : Int)⟩).a 4 _ rfl, (HSt2.out.alloc ⟨x.t, x.i, 0, 0, 0, ((fan L x : Nat) : Int)⟩).a 5 _ rfl, (HSt2.out.alloc ⟨x.t, x.i, 0, 0, 0, ((fan L x : Nat) : Int)⟩).a 6 _ rfl, (HSt2.out.alloc ⟨x.t, x.i, 0, 0, 0, ((fan L x : Nat) : Int)⟩).a 7 _ rfl, (HSt2.out.alloc ⟨x.t, x.i, 0, 0, 0, ((fan L x : Nat) : Int)⟩).a 8 _ rfl⟩) ?_
    have HSt4 := Lib.hid (HSt2.out.alloc ⟨x.t, x.i, 0, 0, 0, ((fan L x : Nat) : Int)⟩)
    refine Eng.TW.end_ [7, 18, 19, 20, 21, 22, 23, 24, 25] HN.out (by kernel_rfl) (by kernel_rfl) ?_
    exact HP.out _ _ _ rfl HSt4.out
  refine Eng.TW.step rfl rfl (by decide) (by kernel_rfl) (by go_simp; first | done | with_reducible rfl) (⟨(HSt.out.alloc z6).a 0 _ rfl, (HSt.out.alloc z6).a 1 _ rfl, (HSt.out.alloc z6).a 2 _ rfl, (HSt.out.alloc z6).a 3 _ rfl, (HSt.out.alloc z6).a 4 _ rfl, (HSt.out.alloc z6).a 5 _ rfl, (HSt.out.alloc z6).a 6 _ rfl, (HSt.out.alloc z6).a 7 _ rfl, (HSt.out.alloc z6).a 8 _ rfl⟩) ?_
  have HSt2 := Lib.hid (show AS wc _ A c L Bx x [w.heap.size] z6 from HSt.out.alloc z6)
  have hSS : ((w.drew).alloc (.cells #[.int .i64 0, .int .i64 0, .int .i64 0, .int .i64 0, .int .i64 0, .int .i64 0] TPl)).cell? ⟨Bx, 0, none⟩ = some (.int .i64 x.t) ∧ ((w.drew).alloc (.cells #[.int .i64 0, .int .i64 0, .int .i64 0, .int .i64 0, .int .i64 0, .int .i64 0] TPl)).cell? ⟨Bx, 1, none⟩ = some (.int .i64 x.i) ∧ ((w.drew).alloc (.cells #[.int .i64 0, .int .i64 0, .int .i64 0, .int .i64 0, .int .i64 0, .int .i64 0] TPl)).cell? ⟨Bx, 2, none⟩ = some (.int .i64 x.p) ∧ ((w.drew).alloc (.cells #[.int .i64 0, .int .i64 0, .int .i64 0, .int .i64 0, .int .i64 0, .int .i64 0] TPl)).cell? ⟨Bx, 3, none⟩ = some (.int .i64 x.r) ∧ ((w.drew).alloc (.cells #[.int .i64 0, .int .i64 0, .int .i64 0, .int .i64 0, .int .i64 0, .int .i64 0] TPl)).cell? ⟨Bx, 4, none⟩ = some (.string x.s) ∧ ((w.drew).alloc (.cells #[.int .i64 0, .int .i64 0, .int .i64 0, .int .i64 0, .int .i64 0, .int .i64 0] TPl)).cell? ⟨Bx, 5, none⟩ = some (.string x.o) ∧ ((w.drew).alloc (.cells #[.int .i64 0, .int .i64 0, .int .i64 0, .int .i64 0, .int .i64 0, .int .i64 0] TPl)).cell? ⟨Bx, 6, none⟩ = some (.int .i64 x.b) ∧ ((w.drew).alloc (.cells #[.int .i64 0, .int .i64 0, .int .i64 0, .int .i64 0, .int .i64 0, .int .i64 0] TPl)).cell? ⟨Bx, 7, none⟩ = some (.int .i64 x.d) ∧ ((w.drew).alloc (.cells #[.int .i64 0, .int .i64 0, .int .i64 0, .int .i64 0, .int .i64 0, .int .i64 0] TPl)).cell? ⟨Bx, 8, none⟩ = some (.bool x.g) := ⟨HSt2.out.a 0 _ rfl, HSt2.out.a 1 _ rfl, HSt2.out.a 2 _ rfl, HSt2.out.a 3 _ rfl, HSt2.out.a 4 _ rfl, HSt2.out.a 5 _ rfl, HSt2.out.a 6 _ rfl, HSt2.out.a 7 _ rfl, HSt2.out.a 8 _ rfl⟩
  refine Eng.TW.call rfl rfl (by decide) (by kernel_rfl) ?_ (Fan A c L x _ (HSt2.out.s)) ?_
  · go_simp
  rintro e w3 ⟨rfl, hf1⟩
  have HSt3 := Lib.hid (HSt2.out.fr hf1)
  have hSS : w3.cell? ⟨Bx, 0, none⟩ = some (.int .i64 x.t) ∧ w3.cell? ⟨Bx, 1, none⟩ = some (.int .i64 x.i) ∧ w3.cell? ⟨Bx, 2, none⟩ = some (.int .i64 x.p) ∧ w3.cell? ⟨Bx, 3, none⟩ = some (.int .i64 x.r) ∧ w3.cell? ⟨Bx, 4, none⟩ = some (.string x.s) ∧ w3.cell? ⟨Bx, 5, none⟩ = some (.string x.o) ∧ w3.cell? ⟨Bx, 6, none⟩ = some (.int .i64 x.b) ∧ w3.cell? ⟨Bx, 7, none⟩ = some (.int .i64 x.d) ∧ w3.cell? ⟨Bx, 8, none⟩ = some (.bool x.g) := ⟨HSt3.out.a 0 _ rfl, HSt3.out.a 1 _ rfl, HSt3.out.a 2 _ rfl, HSt3.out.a 3 _ rfl, HSt3.out.a 4 _ rfl, HSt3.out.a 5 _ rfl, HSt3.out.a 6 _ rfl, HSt3.out.a 7 _ rfl, HSt3.out.a 8 _ rfl⟩
  clear hf1
  refine ⟨_, rfl, hSS, ?_⟩
  refine Eng.TW.take' (v := ?_) rfl rfl (by decide) (by kernel_rfl) (fun w hw => ?_) ?_
  rotate_left
  · (try dsimp only at hw); go_simp; first | done | with_reducible rfl
  have u0 := (HSt3.out.p _ (List.mem_cons_self ..)).1.cell 0
  have v0 := (HSt3.out.p _ (List.mem_cons_self ..)).1.free 0
  have u1 := (HSt3.out.p _ (List.mem_cons_self ..)).1.cell 1
  have v1 := (HSt3.out.p _ (List.mem_cons_self ..)).1.free 1
  have u2 := (HSt3.out.p _ (List.mem_cons_self ..)).1.cell 2
  have v2 := (HSt3.out.p _ (List.mem_cons_self ..)).1.free 2
  have u3 := (HSt3.out.p _ (List.mem_cons_self ..)).1.cell 3
  have v3 := (HSt3.out.p _ (List.mem_cons_self ..)).1.free 3
  have u4 := (HSt3.out.p _ (List.mem_cons_self ..)).1.cell 4
  have v4 := (HSt3.out.p _ (List.mem_cons_self ..)).1.free 4
  have u5 := (HSt3.out.p _ (List.mem_cons_self ..)).1.cell 5
  have v5 := (HSt3.out.p _ (List.mem_cons_self ..)).1.free 5
  simp only [List.getElem?_toArray, List.getElem?_cons_zero, List.getElem?_cons_succ] at u0 u1 u2 u3 u4 u5
  refine Eng.TW.step0 rfl rfl (by kernel_rfl) (by go_simp; first | done | with_reducible rfl) (⟨(HSt3.out.store ⟨x.t, x.i, 0, 0, 0, ((fan L x : Nat) : Int)⟩ h1 h2).a 0 _ rfl, (HSt3.out.store ⟨x.t, x.i, 0, 0, 0, ((fan L x : Nat) : Int)⟩ h1 h2).a 1 _ rfl, (HSt3.out.store ⟨x.t, x.i, 0, 0, 0, ((fan L x : Nat) : Int)⟩ h1 h2).a 2 _ rfl, (HSt3.out.store ⟨x.t, x.i, 0, 0, 0, ((fan L x : Nat) : Int)⟩ h1 h2).a 3 _ rfl, (HSt3.out.store ⟨x.t, x.i, 0, 0, 0, ((fan L x : Nat) : Int)⟩ h1 h2).a 4 _ rfl, (HSt3.out.store ⟨x.t, x.i, 0, 0, 0, ((fan L x : Nat) : Int)⟩ h1 h2).a 5 _ rfl, (HSt3.out.store ⟨x.t, x.i, 0, 0, 0, ((fan L x : Nat) : Int)⟩ h1 h2).a 6 _ rfl, (HSt3.out.store ⟨x.t, x.i, 0, 0, 0, ((fan L x : Nat) : Int)⟩ h1 h2).a 7 _ rfl, (HSt3.out.store ⟨x.t, x.i, 0, 0, 0, ((fan L x : Nat) : Int)⟩ h1 h2).a 8 _ rfl⟩) ?_
  have HSt4 := Lib.hid (HSt3.out.store ⟨x.t, x.i, 0, 0, 0, ((fan L x : Nat) : Int)⟩ h1 h2)
  refine Eng.TW.end_ [7, 18, 19, 20, 21, 22, 23, 24, 25] HN.out (by kernel_rfl) (by kernel_rfl) ?_
  exact HP.out _ _ _ rfl HSt4.out

/-- A span's place, by the document. -/
abbrev rPc (L : List Sn) (x : Sn) : Pc := ⟨x.t, x.i, (refAt L x).1, (refAt L x).2.1, (refAt L x).2.2, ((fan L x : Nat) : Int)⟩
theorem rPc_plc {L : List Sn} (hs : Srs L) {x : Sn} (hx : x ∈ L) : rPc L x = plc L x := by unfold rPc plc; rw [ref_at hs hx]
theorem rPc_cyc {L : List Sn} {x : Sn} {s : List Sn} {sb : Bool} (hW : way L x.t (L.length + 1) [] x.i = (s, sb)) (h : (sb || decide (s.length = 0)) = true) : rPc L x = ⟨x.t, x.i, 3, 0, 0, ((fan L x : Nat) : Int)⟩ := by
  have h2 : refAt L x = (3, 0, 0) := by unfold refAt; rw [hW]; dsimp only; rw [if_pos h]
  unfold rPc; rw [h2]
theorem rPc_top {L : List Sn} {x z : Sn} {s : List Sn} (hW : way L x.t (L.length + 1) [] x.i = (s, false)) {q : Nat} (hq : s.length = q + 1) (hz : s[q] = z) : rPc L x = ⟨x.t, x.i, if z.p = 0 then 1 else 2, (s.length : Int), z.i, ((fan L x : Nat) : Int)⟩ := by
  have hl : s.getLast? = some z := by rw [List.getLast?_eq_getElem?, hq, Nat.add_sub_cancel, List.getElem?_eq_getElem (by omega), hz]
  have h2 : refAt L x = (if z.p = 0 then 1 else 2, (s.length : Int), z.i) := by
    unfold refAt; rw [hW]; dsimp only; rw [if_neg (by simp [hq]), hl]
  unfold rPc; rw [h2]
set_option maxRecDepth 100000 in
set_option maxHeartbeats 2000000 in
theorem RAt (A : Option Addr) (c : Nat) (L : List Sn) (x : Sn) (w : World) (hS : Ls w A c L) (hlen : L.length ≤ 1000000) (U : Pc) (hU : rPc L x = U) :
    Calls Try.prog 58 #[.slice A L.length c, x.v] w fun e w' => e = .returned U.v ∧ Below w.heap.size w w' := by
  have f1 := Fr.alloc (fun _ => False) w (.cells x.arr TSn)
  have f2 := Fr.alloc (fun _ => False) (w.alloc (.cells x.arr TSn)) (.cells #[.int .i64 0, .int .i64 0, .int .i64 0, .int .i64 0, .int .i64 0, .int .i64 0] TPl)
  have f12 := f1.trans f2 (T := fun _ => False) (fun _ _ h => h) (fun _ _ h => h)
  have r2 : Bk ((w.alloc (.cells x.arr TSn)).alloc (.cells #[.int .i64 0, .int .i64 0, .int .i64 0, .int .i64 0, .int .i64 0, .int .i64 0] TPl)) (w.heap.size + 1) z6.arr TPl := by
    have := Bk.new (w.alloc (.cells x.arr TSn)) #[.int .i64 0, .int .i64 0, .int .i64 0, .int .i64 0, .int .i64 0, .int .i64 0] TPl
    rwa [World.size_alloc] at this
  have hsz1 : ((w.alloc (.cells x.arr TSn)).alloc (.cells #[.int .i64 0, .int .i64 0, .int .i64 0, .int .i64 0, .int .i64 0, .int .i64 0] TPl)).heap.size = w.heap.size + 2 := by rw [World.size_alloc, World.size_alloc]
  have HR := Lib.hid r2
  have HA := Lib.hid ((At.box (Bk.new w x.arr TSn)).keep f2)
  have HB := Lib.hid (f12.below (Nat.le_refl _) (fun _ _ h => h))
  have HS := Lib.hid (hS.below (f12.below (Nat.le_refl _) (fun _ _ h => h)))
  have hAb : L.flatMap scs ≠ [] → ∀ a, A = some a → a.block < w.heap.size := fun hne a ha => hS.s.lt hne a ha
  obtain ⟨⟨s, sb⟩, hW⟩ : ∃ W, way L x.t (L.length + 1) [] x.i = W := ⟨_, rfl⟩
  have HW := Lib.hid hW
  have hsl : s.length ≤ L.length := by have := wy_len L x.t x.i; rw [wy, hW] at this; exact this
  have HAb := Lib.hid hAb; have HU := Lib.hid hU
  clear f1 f2 f12 r2 hS hW hAb hU
  go_enter Try.func58, Try.ntmps58
  go_upto_region 1 with (fail)
  generalize ((w.alloc (.cells x.arr TSn)).alloc (.cells #[.int .i64 0, .int .i64 0, .int .i64 0, .int .i64 0, .int .i64 0, .int .i64 0] TPl)) = w1 at *
  have HCh := Lib.hid (RChain x.t x.i A c L w1 HS.out hlen (s, sb) HW.out)
  have xc0 : w1.cell? ⟨w.heap.size, 0, none⟩ = some (.int .i64 x.t) := HA.out 0 _ rfl
  have xc1 : w1.cell? ⟨w.heap.size, 1, none⟩ = some (.int .i64 x.i) := HA.out 1 _ rfl
  have xc2 : w1.cell? ⟨w.heap.size, 2, none⟩ = some (.int .i64 x.p) := HA.out 2 _ rfl
  have xc3 : w1.cell? ⟨w.heap.size, 3, none⟩ = some (.int .i64 x.r) := HA.out 3 _ rfl
  have xc4 : w1.cell? ⟨w.heap.size, 4, none⟩ = some (.string x.s) := HA.out 4 _ rfl
  have xc5 : w1.cell? ⟨w.heap.size, 5, none⟩ = some (.string x.o) := HA.out 5 _ rfl
  have xc6 : w1.cell? ⟨w.heap.size, 6, none⟩ = some (.int .i64 x.b) := HA.out 6 _ rfl
  have xc7 : w1.cell? ⟨w.heap.size, 7, none⟩ = some (.int .i64 x.d) := HA.out 7 _ rfl
  have xc8 : w1.cell? ⟨w.heap.size, 8, none⟩ = some (.bool x.g) := HA.out 8 _ rfl
  go_wp2_with fail
  refine HCh.out.mono ?_
  rintro e w3 ⟨A3, c3, rfl, hs3, hb⟩
  have f3 := Fr.of_below' hb (fun _ => False)
  have HS3 := Lib.hid hs3
  have HSt := Lib.hid (show AS w3 w3 A c L w.heap.size x [] z6 from ⟨(HS.out.below hb).s, HA.out.keep f3, Fr.refl _ _, by simp⟩)
  have HR3 := Lib.hid (HR.out.fr f3 (fun _ _ h => h)); have HB3 := Lib.hid (HB.out.trans (hb.mono HB.out.size))
  have hsz3 : w.heap.size + 2 ≤ w3.heap.size := by have := f3.size; omega
  clear hs3 hb f3 HCh HA HS HR HB xc0 xc1 xc2 xc3 xc4 xc5 xc6 xc7 xc8
  go_upto_region 2 with (fail)
  refine at2 (by kernel_rfl) _ _ w3 w3 A c L w.heap.size x (fun hne a ha => by have := HAb.out hne a ha; omega) (by omega) HSt.out rfl rfl rfl ?_
  intro v w4 Bp hv hst
  simp only [hv, Eng.setAll, Act.put, List.setIfInBounds_toArray, List.set_cons_succ, List.set_cons_zero]
  have HP4 := Lib.hid (hst.p Bp (by simp)).1
  have hbp := (hst.p Bp (by simp)).2
  have HR4 := Lib.hid (HR3.out.fr hst.r (fun _ _ h => h)); have HB4 := Lib.hid (HB3.out.trans (hst.r.below HB3.out.size (fun _ _ h => h)))
  have HS4 := Lib.hid (HS3.out.fr hst.r (fun _ _ h => h))
  have n1 : ¬ Bp = w.heap.size + 1 := by omega
  have n2 : ¬ w.heap.size + 1 = Bp := by omega
  clear hst hv HSt HR3 HB3 HS3
  cases sb with
  | true =>
    have HE := Lib.hid (HU.out.symm.trans (rPc_cyc HW.out (by simp)))
    have u0 : w4.cell? ⟨Bp, 0, none⟩ = some (.int .i64 x.t) := HP4.out.cell 0
    have v0 : w4.frozen? ⟨Bp, 0, none⟩ = false := HP4.out.free 0
    have u1 : w4.cell? ⟨Bp, 1, none⟩ = some (.int .i64 x.i) := HP4.out.cell 1
    have v1 : w4.frozen? ⟨Bp, 1, none⟩ = false := HP4.out.free 1
    have u2 : w4.cell? ⟨Bp, 2, none⟩ = some (.int .i64 0) := HP4.out.cell 2
    have v2 : w4.frozen? ⟨Bp, 2, none⟩ = false := HP4.out.free 2
    have u3 : w4.cell? ⟨Bp, 3, none⟩ = some (.int .i64 0) := HP4.out.cell 3
    have v3 : w4.frozen? ⟨Bp, 3, none⟩ = false := HP4.out.free 3
    have u4 : w4.cell? ⟨Bp, 4, none⟩ = some (.int .i64 0) := HP4.out.cell 4
    have v4 : w4.frozen? ⟨Bp, 4, none⟩ = false := HP4.out.free 4
    have u5 : w4.cell? ⟨Bp, 5, none⟩ = some (.int .i64 ((fan L x : Nat) : Int)) := HP4.out.cell 5
    have v5 : w4.frozen? ⟨Bp, 5, none⟩ = false := HP4.out.free 5
    have o0 : w4.cell? ⟨(w.heap.size + 1), 0, none⟩ = some (.int .i64 0) := HR4.out.cell 0
    have z0 : w4.frozen? ⟨(w.heap.size + 1), 0, none⟩ = false := HR4.out.free 0
    have o1 : w4.cell? ⟨(w.heap.size + 1), 1, none⟩ = some (.int .i64 0) := HR4.out.cell 1
    have z1 : w4.frozen? ⟨(w.heap.size + 1), 1, none⟩ = false := HR4.out.free 1
    have o2 : w4.cell? ⟨(w.heap.size + 1), 2, none⟩ = some (.int .i64 0) := HR4.out.cell 2
    have z2 : w4.frozen? ⟨(w.heap.size + 1), 2, none⟩ = false := HR4.out.free 2
    have o3 : w4.cell? ⟨(w.heap.size + 1), 3, none⟩ = some (.int .i64 0) := HR4.out.cell 3
    have z3 : w4.frozen? ⟨(w.heap.size + 1), 3, none⟩ = false := HR4.out.free 3
    have o4 : w4.cell? ⟨(w.heap.size + 1), 4, none⟩ = some (.int .i64 0) := HR4.out.cell 4
    have z4 : w4.frozen? ⟨(w.heap.size + 1), 4, none⟩ = false := HR4.out.free 4
    have o5 : w4.cell? ⟨(w.heap.size + 1), 5, none⟩ = some (.int .i64 0) := HR4.out.cell 5
    have z5 : w4.frozen? ⟨(w.heap.size + 1), 5, none⟩ = false := HR4.out.free 5
    go_wp2_with fail
    have hb := (HP4.out.set 2 (.int .i64 3))
    have hf5 : Fr (fun k => k = Bp) w4 (w4.setCell ⟨Bp, 2, none⟩ (.int .i64 3)) := Fr.setCell _ _ _ rfl
    have hr5 := HR4.out.fr hf5 (fun k hk e => by simp at hk; omega)
    clear hb
    generalize (w4.setCell ⟨Bp, 2, none⟩ (.int .i64 3)) = w5 at *
    exact bodyPost_ret (results_cell_row rfl _ _ (w.heap.size + 1) TPl _ (0, 0) _ rfl (put6_bk hr5 ⟨x.t, x.i, 3, 0, 0, ((fan L x : Nat) : Int)⟩) Try.underlying55 rfl (by kernel_rfl)) rfl ⟨by rw [HE.out], (HB4.out.trans (hf5.below HB4.out.size (fun k hk e => by omega))).trans ((put6_fr w5 (w.heap.size + 1) ⟨x.t, x.i, 3, 0, 0, ((fan L x : Nat) : Int)⟩).below (Nat.le_trans HB4.out.size hf5.size) (fun k hk e => by omega))⟩
  | false =>
    by_cases h0 : s.length = 0
    · have q0 : ((s.length : Int) == 0) = true := by simp [h0]
      have HE := Lib.hid (HU.out.symm.trans (rPc_cyc HW.out (by simp [h0])))
      have u0 : w4.cell? ⟨Bp, 0, none⟩ = some (.int .i64 x.t) := HP4.out.cell 0
      have v0 : w4.frozen? ⟨Bp, 0, none⟩ = false := HP4.out.free 0
      have u1 : w4.cell? ⟨Bp, 1, none⟩ = some (.int .i64 x.i) := HP4.out.cell 1
      have v1 : w4.frozen? ⟨Bp, 1, none⟩ = false := HP4.out.free 1
      have u2 : w4.cell? ⟨Bp, 2, none⟩ = some (.int .i64 0) := HP4.out.cell 2
      have v2 : w4.frozen? ⟨Bp, 2, none⟩ = false := HP4.out.free 2
      have u3 : w4.cell? ⟨Bp, 3, none⟩ = some (.int .i64 0) := HP4.out.cell 3
      have v3 : w4.frozen? ⟨Bp, 3, none⟩ = false := HP4.out.free 3
      have u4 : w4.cell? ⟨Bp, 4, none⟩ = some (.int .i64 0) := HP4.out.cell 4
      have v4 : w4.frozen? ⟨Bp, 4, none⟩ = false := HP4.out.free 4
      have u5 : w4.cell? ⟨Bp, 5, none⟩ = some (.int .i64 ((fan L x : Nat) : Int)) := HP4.out.cell 5
      have v5 : w4.frozen? ⟨Bp, 5, none⟩ = false := HP4.out.free 5
      have o0 : w4.cell? ⟨(w.heap.size + 1), 0, none⟩ = some (.int .i64 0) := HR4.out.cell 0
      have z0 : w4.frozen? ⟨(w.heap.size + 1), 0, none⟩ = false := HR4.out.free 0
      have o1 : w4.cell? ⟨(w.heap.size + 1), 1, none⟩ = some (.int .i64 0) := HR4.out.cell 1
      have z1 : w4.frozen? ⟨(w.heap.size + 1), 1, none⟩ = false := HR4.out.free 1
      have o2 : w4.cell? ⟨(w.heap.size + 1), 2, none⟩ = some (.int .i64 0) := HR4.out.cell 2
      have z2 : w4.frozen? ⟨(w.heap.size + 1), 2, none⟩ = false := HR4.out.free 2
      have o3 : w4.cell? ⟨(w.heap.size + 1), 3, none⟩ = some (.int .i64 0) := HR4.out.cell 3
      have z3 : w4.frozen? ⟨(w.heap.size + 1), 3, none⟩ = false := HR4.out.free 3
      have o4 : w4.cell? ⟨(w.heap.size + 1), 4, none⟩ = some (.int .i64 0) := HR4.out.cell 4
      have z4 : w4.frozen? ⟨(w.heap.size + 1), 4, none⟩ = false := HR4.out.free 4
      have o5 : w4.cell? ⟨(w.heap.size + 1), 5, none⟩ = some (.int .i64 0) := HR4.out.cell 5
      have z5 : w4.frozen? ⟨(w.heap.size + 1), 5, none⟩ = false := HR4.out.free 5
      go_wp2_with fail
      have hb := (HP4.out.set 2 (.int .i64 3))
      have hf5 : Fr (fun k => k = Bp) w4 (w4.setCell ⟨Bp, 2, none⟩ (.int .i64 3)) := Fr.setCell _ _ _ rfl
      have hr5 := HR4.out.fr hf5 (fun k hk e => by simp at hk; omega)
      clear hb
      generalize (w4.setCell ⟨Bp, 2, none⟩ (.int .i64 3)) = w5 at *
      exact bodyPost_ret (results_cell_row rfl _ _ (w.heap.size + 1) TPl _ (0, 0) _ rfl (put6_bk hr5 ⟨x.t, x.i, 3, 0, 0, ((fan L x : Nat) : Int)⟩) Try.underlying55 rfl (by kernel_rfl)) rfl ⟨by rw [HE.out], (HB4.out.trans (hf5.below HB4.out.size (fun k hk e => by omega))).trans ((put6_fr w5 (w.heap.size + 1) ⟨x.t, x.i, 3, 0, 0, ((fan L x : Nat) : Int)⟩).below (Nat.le_trans HB4.out.size hf5.size) (fun k hk e => by omega))⟩
    · have q0 : ((s.length : Int) == 0) = false := by simpa using h0
      obtain ⟨q, hq⟩ : ∃ q, s.length = q + 1 := ⟨s.length - 1, by omega⟩
      have hql : q < s.length := by omega
      obtain ⟨b1, o1, rfl, hb1, c1⟩ := HS4.out.at hql (by omega)
      obtain ⟨z, hz⟩ : ∃ z, s[q] = z := ⟨_, rfl⟩
      have HZ := Lib.hid (At.row c1 hql)
      rw [hz] at HZ
      have HQe := Lib.hid hq; have HZe := Lib.hid hz
      clear c1 hb1 hz hq h0
      have q3 : IntKind.i64.wrap ((s.length : Int) - 1) = (q : Int) := by rw [IntKind.wrap_i64]; have := HQe.out; omega
      have q4 : (0 : Int) ≤ (q : Int) := by omega
      have q5 : (q : Int) < (s.length : Int) := by omega
      have zc0 : w4.cell? ⟨b1, o1 + q * 9, none⟩ = some (.int .i64 z.t) := HZ.out 0 _ rfl
      have zc1 : w4.cell? ⟨b1, o1 + q * 9 + 1, none⟩ = some (.int .i64 z.i) := HZ.out 1 _ rfl
      have zc2 : w4.cell? ⟨b1, o1 + q * 9 + 1 + 1, none⟩ = some (.int .i64 z.p) := HZ.out 2 _ rfl
      have zc3 : w4.cell? ⟨b1, o1 + q * 9 + 1 + 1 + 1, none⟩ = some (.int .i64 z.r) := HZ.out 3 _ rfl
      have zc4 : w4.cell? ⟨b1, o1 + q * 9 + 1 + 1 + 1 + 1, none⟩ = some (.string z.s) := HZ.out 4 _ rfl
      have zc5 : w4.cell? ⟨b1, o1 + q * 9 + 1 + 1 + 1 + 1 + 1, none⟩ = some (.string z.o) := HZ.out 5 _ rfl
      have zc6 : w4.cell? ⟨b1, o1 + q * 9 + 1 + 1 + 1 + 1 + 1 + 1, none⟩ = some (.int .i64 z.b) := HZ.out 6 _ rfl
      have zc7 : w4.cell? ⟨b1, o1 + q * 9 + 1 + 1 + 1 + 1 + 1 + 1 + 1, none⟩ = some (.int .i64 z.d) := HZ.out 7 _ rfl
      have zc8 : w4.cell? ⟨b1, o1 + q * 9 + 1 + 1 + 1 + 1 + 1 + 1 + 1 + 1, none⟩ = some (.bool z.g) := HZ.out 8 _ rfl
      go_upto_region 7 with (fail)
      have f5 := Fr.alloc (fun _ => False) w4 (.cells z.arr TSn)
      have HZ5 := Lib.hid (At.box (Bk.new w4 z.arr TSn))
      have HP5 := Lib.hid (HP4.out.fr f5 (fun _ _ h => h)); have HR5 := Lib.hid (HR4.out.fr f5 (fun _ _ h => h)); have HB5 := Lib.hid (HB4.out.trans (f5.below HB4.out.size (fun _ _ h => h)))
      have hlt := lt_of_heap HP4.out
      clear f5 HZ zc0 zc1 zc2 zc3 zc4 zc5 zc6 zc7 zc8
      generalize (w4.alloc (.cells z.arr TSn)) = w5 at *
      generalize w4.heap.size = Bz at *
      have n3 : ¬ Bp = Bz := by omega
      have n4 : ¬ Bz = Bp := by omega
      have zc0 : w5.cell? ⟨Bz, 0, none⟩ = some (.int .i64 z.t) := HZ5.out 0 _ rfl
      have zc1 : w5.cell? ⟨Bz, 1, none⟩ = some (.int .i64 z.i) := HZ5.out 1 _ rfl
      have zc2 : w5.cell? ⟨Bz, 2, none⟩ = some (.int .i64 z.p) := HZ5.out 2 _ rfl
      have zc3 : w5.cell? ⟨Bz, 3, none⟩ = some (.int .i64 z.r) := HZ5.out 3 _ rfl
      have zc4 : w5.cell? ⟨Bz, 4, none⟩ = some (.string z.s) := HZ5.out 4 _ rfl
      have zc5 : w5.cell? ⟨Bz, 5, none⟩ = some (.string z.o) := HZ5.out 5 _ rfl
      have zc6 : w5.cell? ⟨Bz, 6, none⟩ = some (.int .i64 z.b) := HZ5.out 6 _ rfl
      have zc7 : w5.cell? ⟨Bz, 7, none⟩ = some (.int .i64 z.d) := HZ5.out 7 _ rfl
      have zc8 : w5.cell? ⟨Bz, 8, none⟩ = some (.bool z.g) := HZ5.out 8 _ rfl
      cases hz0 : (z.p == 0) with
      | true =>
        have HE : Hid (U = ⟨x.t, x.i, 1, (s.length : Int), z.i, ((fan L x : Nat) : Int)⟩) := by show _ = _; rw [← HU.out, rPc_top HW.out HQe.out HZe.out, if_pos (by simpa using hz0)]
        have u0 : w5.cell? ⟨Bp, 0, none⟩ = some (.int .i64 x.t) := HP5.out.cell 0
        have v0 : w5.frozen? ⟨Bp, 0, none⟩ = false := HP5.out.free 0
        have u1 : w5.cell? ⟨Bp, 1, none⟩ = some (.int .i64 x.i) := HP5.out.cell 1
        have v1 : w5.frozen? ⟨Bp, 1, none⟩ = false := HP5.out.free 1
        have u2 : w5.cell? ⟨Bp, 2, none⟩ = some (.int .i64 0) := HP5.out.cell 2
        have v2 : w5.frozen? ⟨Bp, 2, none⟩ = false := HP5.out.free 2
        have u3 : w5.cell? ⟨Bp, 3, none⟩ = some (.int .i64 0) := HP5.out.cell 3
        have v3 : w5.frozen? ⟨Bp, 3, none⟩ = false := HP5.out.free 3
        have u4 : w5.cell? ⟨Bp, 4, none⟩ = some (.int .i64 0) := HP5.out.cell 4
        have v4 : w5.frozen? ⟨Bp, 4, none⟩ = false := HP5.out.free 4
        have u5 : w5.cell? ⟨Bp, 5, none⟩ = some (.int .i64 ((fan L x : Nat) : Int)) := HP5.out.cell 5
        have v5 : w5.frozen? ⟨Bp, 5, none⟩ = false := HP5.out.free 5
        have o0 : w5.cell? ⟨(w.heap.size + 1), 0, none⟩ = some (.int .i64 0) := HR5.out.cell 0
        have z0 : w5.frozen? ⟨(w.heap.size + 1), 0, none⟩ = false := HR5.out.free 0
        have o1 : w5.cell? ⟨(w.heap.size + 1), 1, none⟩ = some (.int .i64 0) := HR5.out.cell 1
        have z1 : w5.frozen? ⟨(w.heap.size + 1), 1, none⟩ = false := HR5.out.free 1
        have o2 : w5.cell? ⟨(w.heap.size + 1), 2, none⟩ = some (.int .i64 0) := HR5.out.cell 2
        have z2 : w5.frozen? ⟨(w.heap.size + 1), 2, none⟩ = false := HR5.out.free 2
        have o3 : w5.cell? ⟨(w.heap.size + 1), 3, none⟩ = some (.int .i64 0) := HR5.out.cell 3
        have z3 : w5.frozen? ⟨(w.heap.size + 1), 3, none⟩ = false := HR5.out.free 3
        have o4 : w5.cell? ⟨(w.heap.size + 1), 4, none⟩ = some (.int .i64 0) := HR5.out.cell 4
        have z4 : w5.frozen? ⟨(w.heap.size + 1), 4, none⟩ = false := HR5.out.free 4
        have o5 : w5.cell? ⟨(w.heap.size + 1), 5, none⟩ = some (.int .i64 0) := HR5.out.cell 5
        have z5 : w5.frozen? ⟨(w.heap.size + 1), 5, none⟩ = false := HR5.out.free 5
        have hf6 := ((((((((Fr.refl (fun k => k = Bp) w5).trans (Fr.setCell (S := fun k => k = Bp) w5 ⟨Bp, 2, none⟩ (.int .i64 2) rfl) (fun _ _ h => h) (fun _ _ h => h))).trans (Fr.setCell (S := fun k => k = Bp) (w5.setCell ⟨Bp, 2, none⟩ (.int .i64 2)) ⟨Bp, 2, none⟩ (.int .i64 1) rfl) (fun _ _ h => h) (fun _ _ h => h))).trans (Fr.setCell (S := fun k => k = Bp) ((w5.setCell ⟨Bp, 2, none⟩ (.int .i64 2)).setCell ⟨Bp, 2, none⟩ (.int .i64 1)) ⟨Bp, 3, none⟩ (.int .i64 (s.length : Int)) rfl) (fun _ _ h => h) (fun _ _ h => h))).trans (Fr.setCell (S := fun k => k = Bp) (((w5.setCell ⟨Bp, 2, none⟩ (.int .i64 2)).setCell ⟨Bp, 2, none⟩ (.int .i64 1)).setCell ⟨Bp, 3, none⟩ (.int .i64 (s.length : Int))) ⟨Bp, 4, none⟩ (.int .i64 z.i) rfl) (fun _ _ h => h) (fun _ _ h => h))
        have hr6 := HR5.out.fr hf6 (fun k hk e => by simp at hk; omega)
        have HR6 := Lib.hid hr6; have HF6 := Lib.hid hf6
        clear hf6 hr6
        go_wp2_with fail
        generalize ((((w5.setCell ⟨Bp, 2, none⟩ (.int .i64 2)).setCell ⟨Bp, 2, none⟩ (.int .i64 1)).setCell ⟨Bp, 3, none⟩ (.int .i64 (s.length : Int))).setCell ⟨Bp, 4, none⟩ (.int .i64 z.i)) = w6 at *
        exact bodyPost_ret (results_cell_row rfl _ _ (w.heap.size + 1) TPl _ (0, 0) _ rfl (put6_bk HR6.out ⟨x.t, x.i, 1, (s.length : Int), z.i, ((fan L x : Nat) : Int)⟩) Try.underlying55 rfl (by kernel_rfl)) rfl ⟨by rw [HE.out], (HB5.out.trans (HF6.out.below HB5.out.size (fun k hk e => by omega))).trans ((put6_fr w6 (w.heap.size + 1) ⟨x.t, x.i, 1, (s.length : Int), z.i, ((fan L x : Nat) : Int)⟩).below (Nat.le_trans HB5.out.size HF6.out.size) (fun k hk e => by omega))⟩
      | false =>
        have HE : Hid (U = ⟨x.t, x.i, 2, (s.length : Int), z.i, ((fan L x : Nat) : Int)⟩) := by show _ = _; rw [← HU.out, rPc_top HW.out HQe.out HZe.out, if_neg (by simpa using hz0)]
        have u0 : w5.cell? ⟨Bp, 0, none⟩ = some (.int .i64 x.t) := HP5.out.cell 0
        have v0 : w5.frozen? ⟨Bp, 0, none⟩ = false := HP5.out.free 0
        have u1 : w5.cell? ⟨Bp, 1, none⟩ = some (.int .i64 x.i) := HP5.out.cell 1
        have v1 : w5.frozen? ⟨Bp, 1, none⟩ = false := HP5.out.free 1
        have u2 : w5.cell? ⟨Bp, 2, none⟩ = some (.int .i64 0) := HP5.out.cell 2
        have v2 : w5.frozen? ⟨Bp, 2, none⟩ = false := HP5.out.free 2
        have u3 : w5.cell? ⟨Bp, 3, none⟩ = some (.int .i64 0) := HP5.out.cell 3
        have v3 : w5.frozen? ⟨Bp, 3, none⟩ = false := HP5.out.free 3
        have u4 : w5.cell? ⟨Bp, 4, none⟩ = some (.int .i64 0) := HP5.out.cell 4
        have v4 : w5.frozen? ⟨Bp, 4, none⟩ = false := HP5.out.free 4
        have u5 : w5.cell? ⟨Bp, 5, none⟩ = some (.int .i64 ((fan L x : Nat) : Int)) := HP5.out.cell 5
        have v5 : w5.frozen? ⟨Bp, 5, none⟩ = false := HP5.out.free 5
        have o0 : w5.cell? ⟨(w.heap.size + 1), 0, none⟩ = some (.int .i64 0) := HR5.out.cell 0
        have z0 : w5.frozen? ⟨(w.heap.size + 1), 0, none⟩ = false := HR5.out.free 0
        have o1 : w5.cell? ⟨(w.heap.size + 1), 1, none⟩ = some (.int .i64 0) := HR5.out.cell 1
        have z1 : w5.frozen? ⟨(w.heap.size + 1), 1, none⟩ = false := HR5.out.free 1
        have o2 : w5.cell? ⟨(w.heap.size + 1), 2, none⟩ = some (.int .i64 0) := HR5.out.cell 2
        have z2 : w5.frozen? ⟨(w.heap.size + 1), 2, none⟩ = false := HR5.out.free 2
        have o3 : w5.cell? ⟨(w.heap.size + 1), 3, none⟩ = some (.int .i64 0) := HR5.out.cell 3
        have z3 : w5.frozen? ⟨(w.heap.size + 1), 3, none⟩ = false := HR5.out.free 3
        have o4 : w5.cell? ⟨(w.heap.size + 1), 4, none⟩ = some (.int .i64 0) := HR5.out.cell 4
        have z4 : w5.frozen? ⟨(w.heap.size + 1), 4, none⟩ = false := HR5.out.free 4
        have o5 : w5.cell? ⟨(w.heap.size + 1), 5, none⟩ = some (.int .i64 0) := HR5.out.cell 5
        have z5 : w5.frozen? ⟨(w.heap.size + 1), 5, none⟩ = false := HR5.out.free 5
        have hf6 := ((((((Fr.refl (fun k => k = Bp) w5).trans (Fr.setCell (S := fun k => k = Bp) w5 ⟨Bp, 2, none⟩ (.int .i64 2) rfl) (fun _ _ h => h) (fun _ _ h => h))).trans (Fr.setCell (S := fun k => k = Bp) (w5.setCell ⟨Bp, 2, none⟩ (.int .i64 2)) ⟨Bp, 3, none⟩ (.int .i64 (s.length : Int)) rfl) (fun _ _ h => h) (fun _ _ h => h))).trans (Fr.setCell (S := fun k => k = Bp) ((w5.setCell ⟨Bp, 2, none⟩ (.int .i64 2)).setCell ⟨Bp, 3, none⟩ (.int .i64 (s.length : Int))) ⟨Bp, 4, none⟩ (.int .i64 z.i) rfl) (fun _ _ h => h) (fun _ _ h => h))
        have hr6 := HR5.out.fr hf6 (fun k hk e => by simp at hk; omega)
        have HR6 := Lib.hid hr6; have HF6 := Lib.hid hf6
        clear hf6 hr6
        go_wp2_with fail
        generalize (((w5.setCell ⟨Bp, 2, none⟩ (.int .i64 2)).setCell ⟨Bp, 3, none⟩ (.int .i64 (s.length : Int))).setCell ⟨Bp, 4, none⟩ (.int .i64 z.i)) = w6 at *
        exact bodyPost_ret (results_cell_row rfl _ _ (w.heap.size + 1) TPl _ (0, 0) _ rfl (put6_bk HR6.out ⟨x.t, x.i, 2, (s.length : Int), z.i, ((fan L x : Nat) : Int)⟩) Try.underlying55 rfl (by kernel_rfl)) rfl ⟨by rw [HE.out], (HB5.out.trans (HF6.out.below HB5.out.size (fun k hk e => by omega))).trans ((put6_fr w6 (w.heap.size + 1) ⟨x.t, x.i, 2, (s.length : Int), z.i, ((fan L x : Nat) : Int)⟩).below (Nat.le_trans HB5.out.size HF6.out.size) (fun k hk e => by omega))⟩

end ClsF
end Go.Proofs.Ytmcghchhegfilaa
