/- Layer 21's statements: ClassBelow: for every input the answer is true. -/
import Derived.Test.YtmcghchhegfilaaLaw21i
namespace Go.Proofs.Ytmcghchhegfilaa
open Go.RowKit
namespace Law21
open KeyP PackP SetP SetW SetF Cls ClsW ClsS ClsF Pack
attribute [local go_sem] Eng.ev Eng.getO_cons Eng.getO_nil
/-- What a span's place is by its parent's place. -/
inductive BelC (P : List Pc) (x : Sn) (p : Pc) : Int → Prop
  | root (k : Int) : x.p = 0 → p.c = 1 → p.d = 1 → p.p = p.i → BelC P x p k
  | orph (k : Int) : x.p ≠ 0 → k < 0 → p.c = 2 → p.d = 1 → p.p = p.i → BelC P x p k
  | ring (k : Nat) (q : Pc) (hk : k < P.length) : x.p ≠ 0 → P[k] = q → p.c = q.c → p.p = q.p → p.c = 3 → p.d = 0 → p.p = 0 → BelC P x p (k : Int)
  | low (k : Nat) (q : Pc) (hk : k < P.length) : x.p ≠ 0 → P[k] = q → p.c = q.c → p.p = q.p → p.c ≠ 3 → p.d = q.d + 1 → 0 ≤ q.d → q.d ≤ 1000000 → BelC P x p (k : Int)
theorem belC {M : List Sn} (hs : Srs M) (h0 : ∀ x ∈ M, x.i ≠ 0) (hl : M.length ≤ 1000) {x : Sn} (hx : x ∈ M) : BelC (plcs M) x (plc M x) (fdI (plcs M) x.t x.p) := by
  have hst := cdt_step hs hx
  by_cases hp : x.p = 0
  · have hn : nx M x.t x.p = none := by
      cases h : nx M x.t x.p with
      | none => rfl
      | some y => obtain ⟨h1, -, h3⟩ := nx_some h; exact absurd (h3.trans hp) (h0 y h1)
    rw [hn] at hst
    refine .root _ hp ?_ ?_ ?_
    · show (cdt M x).1 = 1; rw [hst]; simp [hp]
    · show (cdt M x).2.1 = 1; rw [hst]
    · show (cdt M x).2.2 = x.i; rw [hst]
  · cases h : nx M x.t x.p with
    | none =>
      rw [h] at hst
      refine .orph _ hp (by rw [fd_no h]; decide) ?_ ?_ ?_
      · show (cdt M x).1 = 2; rw [hst]; simp [hp]
      · show (cdt M x).2.1 = 1; rw [hst]
      · show (cdt M x).2.2 = x.i; rw [hst]
    | some y =>
      obtain ⟨k, hk, hfd, hky⟩ := fd_yes h
      have hy : y ∈ M := (nx_some h).1
      rw [h] at hst; dsimp only at hst
      have hkp : k < (plcs M).length := by simpa using hk
      have hq : (plcs M)[k] = plc M y := by simp [hky]
      rw [hfd]
      by_cases hc : (cdt M y).1 = 3
      · rw [if_pos hc] at hst
        have hy3 := cdt_three hc
        refine .ring k (plc M y) hkp hp hq ?_ ?_ ?_ ?_ ?_
        · show (cdt M x).1 = (cdt M y).1; rw [hst, hy3]
        · show (cdt M x).2.2 = (cdt M y).2.2; rw [hst, hy3]
        · show (cdt M x).1 = 3; rw [hst]
        · show (cdt M x).2.1 = 0; rw [hst]
        · show (cdt M x).2.2 = 0; rw [hst]
      · rw [if_neg hc] at hst
        obtain ⟨s, z, -, -, -, -, -, hle, hge⟩ := cdt_way hs hy
        refine .low k (plc M y) hkp hp hq ?_ ?_ ?_ ?_ hge (by show (cdt M y).2.1 ≤ _; omega)
        · show (cdt M x).1 = (cdt M y).1; rw [hst]
        · show (cdt M x).2.2 = (cdt M y).2.2; rw [hst]
        · show (cdt M x).1 ≠ 3; rw [hst]; exact hc
        · show (cdt M x).2.1 = (cdt M y).2.1 + 1; rw [hst]
theorem spn_id {a : List Sn} {x : Sn} (hx : x ∈ spn a) : x.i ≠ 0 := by
  have := may_iff.1 ((setOf_ok a).may x (List.mem_filter.1 hx).1)
  have := this.i
  omega
theorem spn_ok {a : List Sn} {x : Sn} (hx : x ∈ spn a) : May x := may_iff.1 ((setOf_ok a).may x (List.mem_filter.1 hx).1)
/-- Both rows of a round. -/
structure TR (w0 w : World) (b o : Nat) (y : Sn) (A : Option Addr) (c n : Nat) (P : List Pc) : Prop where
  a : At w b o y
  p : Pl w A c n P
  f : Fr (fun _ => False) w0 w
theorem TR.fr {w0 w w' : World} {b o : Nat} {y : Sn} {A : Option Addr} {c n : Nat} {P : List Pc} (H : TR w0 w b o y A c n P) (hf : Fr (fun _ => False) w w') : TR w0 w' b o y A c n P := ⟨H.a.fr hf (fun h => h), H.p.below (hf.below (Nat.le_refl _) (fun _ _ h => h)), H.f.trans hf (fun _ _ h => h) (fun _ _ h => h)⟩
structure TB (w0 w : World) (b o b' o' : Nat) (y : Sn) (p : Pc) : Prop where
  a : At w b o y
  b : AtP w b' o' p
  f : Fr (fun _ => False) w0 w
theorem TB.fr {w0 w w' : World} {b o b' o' : Nat} {y : Sn} {p : Pc} (H : TB w0 w b o b' o' y p) (hf : Fr (fun _ => False) w w') : TB w0 w' b o b' o' y p := ⟨H.a.fr hf (fun h => h), H.b.keep hf, H.f.trans hf (fun _ _ h => h) (fun _ _ h => h)⟩
set_option maxRecDepth 100000 in
set_option maxHeartbeats 400000 in
theorem cb9 {ops : Array Oper} (hops : Eng.fnOps Try.f8 9 = ops) (a0 : Act) (Q : Exit → Act → World → Prop) (w0 w : World) (b1 o1 len c k : Nat) (y : Sn) (P : List Pc) (A2 : Option Addr) (c2 n2 : Nat) (kk : Int) (hst : TR w0 w b1 (o1 + k * 9) y A2 c2 n2 P) (hk : k < len) (hlen : len ≤ 9223372036854775807) (hkk : fdI P y.t y.p = kk)
    (hn : a0.tmps.size = 192) (h_3 : a0.tmps.getD 3 undef = .slice (some ⟨b1, o1, none⟩) len c) (h_4 : a0.tmps.getD 4 undef = .slice A2 n2 c2) (h_5 : a0.tmps.getD 5 undef = .int .i64 (k : Int))
    (hpost : ∀ (x : Nat → Value) (w' : World), x 6 = .int .i64 kk → TR w0 w' b1 (o1 + k * 9) y A2 c2 n2 P → Q .normal (Eng.setAll a0 [6, 32, 33, 34, 35, 36, 37, 38, 39, 40, 41, 42, 43] x) w') :
    (Code.region 9 ops true).wp Try.prog Q a0 w := by
  simp only [Eng.fnOps, Eng.regOps, Try.f8, Option.bind_some, Option.getD_some, Nat.reduceEqDiff, ↓reduceIte, Nat.reduceBEq] at hops
  subst hops
  have q1 : (0 : Int) ≤ (k : Int) := by omega
  have q2 : (k : Int) < (len : Int) := by omega
  have HSt := Lib.hid (hst.fr (Fr.drew _ _))
  have hSS : w.drew.cell? ⟨b1, o1 + k * 9, none⟩ = some (.int .i64 y.t) ∧ w.drew.cell? ⟨b1, o1 + k * 9 + 1, none⟩ = some (.int .i64 y.i) ∧ w.drew.cell? ⟨b1, o1 + k * 9 + 1 + 1, none⟩ = some (.int .i64 y.p) ∧ w.drew.cell? ⟨b1, o1 + k * 9 + 1 + 1 + 1, none⟩ = some (.int .i64 y.r) ∧ w.drew.cell? ⟨b1, o1 + k * 9 + 1 + 1 + 1 + 1, none⟩ = some (.string y.s) ∧ w.drew.cell? ⟨b1, o1 + k * 9 + 1 + 1 + 1 + 1 + 1, none⟩ = some (.string y.o) ∧ w.drew.cell? ⟨b1, o1 + k * 9 + 1 + 1 + 1 + 1 + 1 + 1, none⟩ = some (.int .i64 y.b) ∧ w.drew.cell? ⟨b1, o1 + k * 9 + 1 + 1 + 1 + 1 + 1 + 1 + 1, none⟩ = some (.int .i64 y.d) ∧ w.drew.cell? ⟨b1, o1 + k * 9 + 1 + 1 + 1 + 1 + 1 + 1 + 1 + 1, none⟩ = some (.bool y.g) := ⟨HSt.out.a 0 _ rfl, HSt.out.a 1 _ rfl, HSt.out.a 2 _ rfl, HSt.out.a 3 _ rfl, HSt.out.a 4 _ rfl, HSt.out.a 5 _ rfl, HSt.out.a 6 _ rfl, HSt.out.a 7 _ rfl, HSt.out.a 8 _ rfl⟩
  refine Eng.regionN [(0, true), (1, true), (2, true), (3, true), (4, true), (5, true), (6, true), (7, true), (8, true), (9, true), (10, true), (11, false), (12, true)] (fun w' => w'.cell? ⟨b1, o1 + k * 9, none⟩ = some (.int .i64 y.t) ∧ w'.cell? ⟨b1, o1 + k * 9 + 1, none⟩ = some (.int .i64 y.i) ∧ w'.cell? ⟨b1, o1 + k * 9 + 1 + 1, none⟩ = some (.int .i64 y.p) ∧ w'.cell? ⟨b1, o1 + k * 9 + 1 + 1 + 1, none⟩ = some (.int .i64 y.r) ∧ w'.cell? ⟨b1, o1 + k * 9 + 1 + 1 + 1 + 1, none⟩ = some (.string y.s) ∧ w'.cell? ⟨b1, o1 + k * 9 + 1 + 1 + 1 + 1 + 1, none⟩ = some (.string y.o) ∧ w'.cell? ⟨b1, o1 + k * 9 + 1 + 1 + 1 + 1 + 1 + 1, none⟩ = some (.int .i64 y.b) ∧ w'.cell? ⟨b1, o1 + k * 9 + 1 + 1 + 1 + 1 + 1 + 1 + 1, none⟩ = some (.int .i64 y.d) ∧ w'.cell? ⟨b1, o1 + k * 9 + 1 + 1 + 1 + 1 + 1 + 1 + 1 + 1, none⟩ = some (.bool y.g)) (by kernel_rfl) 192 hn (by kernel_rfl) rfl (by kernel_rfl) (hSS) (fun a b ha hb => ?_)
  subst ha
  have hb3 : b 3 = .slice (some ⟨b1, o1, none⟩) len c := (hb 3).symm.trans h_3
  have hb4 : b 4 = .slice A2 n2 c2 := (hb 4).symm.trans h_4
  have hb5 : b 5 = .int .i64 (k : Int) := (hb 5).symm.trans h_5
  clear hb h_3 h_4 h_5
  have HP := Lib.hid hpost; have HN := Lib.hid hn
  clear hpost hn
  refine Eng.Sch.take (v := ?_) rfl rfl (by decide) (by kernel_rfl) (fun w hw => ?_) ?_
  rotate_left
  · (try dsimp only at hw); go_simp; first | done | with_reducible rfl
  refine Eng.Sch.take (v := ?_) rfl rfl (by decide) (by kernel_rfl) (fun w hw => ?_) ?_
  rotate_left
  · (try dsimp only at hw); go_simp; first | done | with_reducible rfl
  refine Eng.Sch.take (v := ?_) rfl rfl (by decide) (by kernel_rfl) (fun w hw => ?_) ?_
  rotate_left
  · (try dsimp only at hw); go_simp; first | done | with_reducible rfl
  refine Eng.Sch.take (v := ?_) rfl rfl (by decide) (by kernel_rfl) (fun w hw => ?_) ?_
  rotate_left
  · (try dsimp only at hw); go_simp; first | done | with_reducible rfl
  refine Eng.Sch.take (v := ?_) rfl rfl (by decide) (by kernel_rfl) (fun w hw => ?_) ?_
  rotate_left
  · (try dsimp only at hw); go_simp; first | done | with_reducible rfl
  refine Eng.Sch.take (v := ?_) rfl rfl (by decide) (by kernel_rfl) (fun w hw => ?_) ?_
  rotate_left
  · (try dsimp only at hw); go_simp; first | done | with_reducible rfl
  refine Eng.Sch.take (v := ?_) rfl rfl (by decide) (by kernel_rfl) (fun w hw => ?_) ?_
  rotate_left
  · (try dsimp only at hw); go_simp; first | done | with_reducible rfl
  refine Eng.Sch.take (v := ?_) rfl rfl (by decide) (by kernel_rfl) (fun w hw => ?_) ?_
  rotate_left
  · (try dsimp only at hw); go_simp; first | done | with_reducible rfl
  refine Eng.Sch.take (v := ?_) rfl rfl (by decide) (by kernel_rfl) (fun w hw => ?_) ?_
  rotate_left
  · (try dsimp only at hw); go_simp; first | done | with_reducible rfl
  refine Eng.Sch.take (v := ?_) rfl rfl (by decide) (by kernel_rfl) (fun w hw => ?_) ?_
  rotate_left
  · (try dsimp only at hw); go_simp; first | done | with_reducible rfl
  refine Eng.Sch.take (v := ?_) rfl rfl (by decide) (by kernel_rfl) (fun w hw => ?_) ?_
  rotate_left
  · (try dsimp only at hw); go_simp; first | done | with_reducible rfl
  refine Eng.Sch.call rfl rfl (by decide) (by kernel_rfl) ?_ (FindE HSt.out.p y.t y.p kk hkk) ?_
  · go_simp
  rintro e w2 ⟨rfl, hf⟩
  have HSt1 := Lib.hid (HSt.out.fr hf)
  have hSS : w2.cell? ⟨b1, o1 + k * 9, none⟩ = some (.int .i64 y.t) ∧ w2.cell? ⟨b1, o1 + k * 9 + 1, none⟩ = some (.int .i64 y.i) ∧ w2.cell? ⟨b1, o1 + k * 9 + 1 + 1, none⟩ = some (.int .i64 y.p) ∧ w2.cell? ⟨b1, o1 + k * 9 + 1 + 1 + 1, none⟩ = some (.int .i64 y.r) ∧ w2.cell? ⟨b1, o1 + k * 9 + 1 + 1 + 1 + 1, none⟩ = some (.string y.s) ∧ w2.cell? ⟨b1, o1 + k * 9 + 1 + 1 + 1 + 1 + 1, none⟩ = some (.string y.o) ∧ w2.cell? ⟨b1, o1 + k * 9 + 1 + 1 + 1 + 1 + 1 + 1, none⟩ = some (.int .i64 y.b) ∧ w2.cell? ⟨b1, o1 + k * 9 + 1 + 1 + 1 + 1 + 1 + 1 + 1, none⟩ = some (.int .i64 y.d) ∧ w2.cell? ⟨b1, o1 + k * 9 + 1 + 1 + 1 + 1 + 1 + 1 + 1 + 1, none⟩ = some (.bool y.g) := ⟨HSt1.out.a 0 _ rfl, HSt1.out.a 1 _ rfl, HSt1.out.a 2 _ rfl, HSt1.out.a 3 _ rfl, HSt1.out.a 4 _ rfl, HSt1.out.a 5 _ rfl, HSt1.out.a 6 _ rfl, HSt1.out.a 7 _ rfl, HSt1.out.a 8 _ rfl⟩
  refine ⟨_, rfl, hSS, ?_⟩
  refine Eng.Sch.take (v := ?_) rfl rfl (by decide) (by kernel_rfl) (fun w hw => ?_) ?_
  rotate_left
  · (try dsimp only at hw); go_simp; first | done | with_reducible rfl
  refine Eng.Sch.end_ [6, 32, 33, 34, 35, 36, 37, 38, 39, 40, 41, 42, 43] HN.out (by kernel_rfl) (by kernel_rfl) ?_
  exact HP.out _ _ rfl HSt1.out

set_option maxRecDepth 100000 in
set_option maxHeartbeats 400000 in
theorem cb12 {ops : Array Oper} (hops : Eng.fnOps Try.f8 12 = ops) (a0 : Act) (Q : Exit → Act → World → Prop) (w0 w : World) (b1 o1 len c b2 o2 c2 k : Nat) (y : Sn) (p : Pc) (hst : TB w0 w b1 (o1 + k * 9) b2 (o2 + k * 6) y p) (hk : k < len) (hlen : len ≤ 9223372036854775807) (h1 : (p.t != y.t) = false) (h2 : (p.i != y.i) = false)
    (hn : a0.tmps.size = 192) (h_3 : a0.tmps.getD 3 undef = .slice (some ⟨b1, o1, none⟩) len c) (h_4 : a0.tmps.getD 4 undef = .slice (some ⟨b2, o2, none⟩) len c2) (h_5 : a0.tmps.getD 5 undef = .int .i64 (k : Int))
    (hpost : ∀ (x : Nat → Value) (w' : World), x 56 = .bool false → TB w0 w' b1 (o1 + k * 9) b2 (o2 + k * 6) y p → Q .normal (Eng.setAll a0 [56, 57, 58, 59, 60, 61, 62, 63, 64, 65, 66, 67, 68, 69, 70, 71, 72, 73, 74, 75, 76, 77, 78, 79, 80] x) w') :
    (Code.region 12 ops true).wp Try.prog Q a0 w := by
  simp only [Eng.fnOps, Eng.regOps, Try.f8, Option.bind_some, Option.getD_some, Nat.reduceEqDiff, ↓reduceIte, Nat.reduceBEq] at hops
  subst hops
  have q1 : (0 : Int) ≤ (k : Int) := by omega
  have q2 : (k : Int) < (len : Int) := by omega
  have HSt := Lib.hid (hst.fr (Fr.drew _ _))
  have hSS : w.drew.cell? ⟨b1, o1 + k * 9, none⟩ = some (.int .i64 y.t) ∧ w.drew.cell? ⟨b1, o1 + k * 9 + 1, none⟩ = some (.int .i64 y.i) ∧ w.drew.cell? ⟨b1, o1 + k * 9 + 1 + 1, none⟩ = some (.int .i64 y.p) ∧ w.drew.cell? ⟨b1, o1 + k * 9 + 1 + 1 + 1, none⟩ = some (.int .i64 y.r) ∧ w.drew.cell? ⟨b1, o1 + k * 9 + 1 + 1 + 1 + 1, none⟩ = some (.string y.s) ∧ w.drew.cell? ⟨b1, o1 + k * 9 + 1 + 1 + 1 + 1 + 1, none⟩ = some (.string y.o) ∧ w.drew.cell? ⟨b1, o1 + k * 9 + 1 + 1 + 1 + 1 + 1 + 1, none⟩ = some (.int .i64 y.b) ∧ w.drew.cell? ⟨b1, o1 + k * 9 + 1 + 1 + 1 + 1 + 1 + 1 + 1, none⟩ = some (.int .i64 y.d) ∧ w.drew.cell? ⟨b1, o1 + k * 9 + 1 + 1 + 1 + 1 + 1 + 1 + 1 + 1, none⟩ = some (.bool y.g) ∧ w.drew.cell? ⟨b2, o2 + k * 6, none⟩ = some (.int .i64 p.t) ∧ w.drew.cell? ⟨b2, o2 + k * 6 + 1, none⟩ = some (.int .i64 p.i) ∧ w.drew.cell? ⟨b2, o2 + k * 6 + 1 + 1, none⟩ = some (.int .i64 p.c) ∧ w.drew.cell? ⟨b2, o2 + k * 6 + 1 + 1 + 1, none⟩ = some (.int .i64 p.d) ∧ w.drew.cell? ⟨b2, o2 + k * 6 + 1 + 1 + 1 + 1, none⟩ = some (.int .i64 p.p) ∧ w.drew.cell? ⟨b2, o2 + k * 6 + 1 + 1 + 1 + 1 + 1, none⟩ = some (.int .i64 p.f) := ⟨HSt.out.a 0 _ rfl, HSt.out.a 1 _ rfl, HSt.out.a 2 _ rfl, HSt.out.a 3 _ rfl, HSt.out.a 4 _ rfl, HSt.out.a 5 _ rfl, HSt.out.a 6 _ rfl, HSt.out.a 7 _ rfl, HSt.out.a 8 _ rfl, HSt.out.b 0 _ rfl, HSt.out.b 1 _ rfl, HSt.out.b 2 _ rfl, HSt.out.b 3 _ rfl, HSt.out.b 4 _ rfl, HSt.out.b 5 _ rfl⟩
  refine Eng.regionN [(0, true), (1, true), (2, true), (3, true), (4, true), (5, true), (6, true), (7, true), (8, true), (9, true), (10, true), (11, true), (12, true), (13, true), (14, true), (15, true), (16, true), (17, true), (18, true), (19, true), (20, true), (21, true), (22, true), (23, true), (24, true)] (fun w' => w'.cell? ⟨b1, o1 + k * 9, none⟩ = some (.int .i64 y.t) ∧ w'.cell? ⟨b1, o1 + k * 9 + 1, none⟩ = some (.int .i64 y.i) ∧ w'.cell? ⟨b1, o1 + k * 9 + 1 + 1, none⟩ = some (.int .i64 y.p) ∧ w'.cell? ⟨b1, o1 + k * 9 + 1 + 1 + 1, none⟩ = some (.int .i64 y.r) ∧ w'.cell? ⟨b1, o1 + k * 9 + 1 + 1 + 1 + 1, none⟩ = some (.string y.s) ∧ w'.cell? ⟨b1, o1 + k * 9 + 1 + 1 + 1 + 1 + 1, none⟩ = some (.string y.o) ∧ w'.cell? ⟨b1, o1 + k * 9 + 1 + 1 + 1 + 1 + 1 + 1, none⟩ = some (.int .i64 y.b) ∧ w'.cell? ⟨b1, o1 + k * 9 + 1 + 1 + 1 + 1 + 1 + 1 + 1, none⟩ = some (.int .i64 y.d) ∧ w'.cell? ⟨b1, o1 + k * 9 + 1 + 1 + 1 + 1 + 1 + 1 + 1 + 1, none⟩ = some (.bool y.g) ∧ w'.cell? ⟨b2, o2 + k * 6, none⟩ = some (.int .i64 p.t) ∧ w'.cell? ⟨b2, o2 + k * 6 + 1, none⟩ = some (.int .i64 p.i) ∧ w'.cell? ⟨b2, o2 + k * 6 + 1 + 1, none⟩ = some (.int .i64 p.c) ∧ w'.cell? ⟨b2, o2 + k * 6 + 1 + 1 + 1, none⟩ = some (.int .i64 p.d) ∧ w'.cell? ⟨b2, o2 + k * 6 + 1 + 1 + 1 + 1, none⟩ = some (.int .i64 p.p) ∧ w'.cell? ⟨b2, o2 + k * 6 + 1 + 1 + 1 + 1 + 1, none⟩ = some (.int .i64 p.f)) (by kernel_rfl) 192 hn (by kernel_rfl) rfl (by kernel_rfl) (hSS) (fun a b ha hb => ?_)
  subst ha
  have hb3 : b 3 = .slice (some ⟨b1, o1, none⟩) len c := (hb 3).symm.trans h_3
  have hb4 : b 4 = .slice (some ⟨b2, o2, none⟩) len c2 := (hb 4).symm.trans h_4
  have hb5 : b 5 = .int .i64 (k : Int) := (hb 5).symm.trans h_5
  clear hb h_3 h_4 h_5
  have HP := Lib.hid hpost; have HN := Lib.hid hn
  clear hpost hn
  refine Eng.Sch.take (v := ?_) rfl rfl (by decide) (by kernel_rfl) (fun w hw => ?_) ?_
  rotate_left
  · (try dsimp only at hw); go_simp; first | done | with_reducible rfl
  refine Eng.Sch.take (v := ?_) rfl rfl (by decide) (by kernel_rfl) (fun w hw => ?_) ?_
  rotate_left
  · (try dsimp only at hw); go_simp; first | done | with_reducible rfl
  refine Eng.Sch.take (v := ?_) rfl rfl (by decide) (by kernel_rfl) (fun w hw => ?_) ?_
  rotate_left
  · (try dsimp only at hw); go_simp; first | done | with_reducible rfl
  refine Eng.Sch.take (v := ?_) rfl rfl (by decide) (by kernel_rfl) (fun w hw => ?_) ?_
  rotate_left
  · (try dsimp only at hw); go_simp; first | done | with_reducible rfl
  refine Eng.Sch.take (v := ?_) rfl rfl (by decide) (by kernel_rfl) (fun w hw => ?_) ?_
  rotate_left
  · (try dsimp only at hw); go_simp; first | done | with_reducible rfl
  refine Eng.Sch.take (v := ?_) rfl rfl (by decide) (by kernel_rfl) (fun w hw => ?_) ?_
  rotate_left
  · (try dsimp only at hw); go_simp; first | done | with_reducible rfl
  refine Eng.Sch.take (v := ?_) rfl rfl (by decide) (by kernel_rfl) (fun w hw => ?_) ?_
  rotate_left
  · (try dsimp only at hw); go_simp; first | done | with_reducible rfl
  refine Eng.Sch.take (v := ?_) rfl rfl (by decide) (by kernel_rfl) (fun w hw => ?_) ?_
  rotate_left
  · (try dsimp only at hw); go_simp; first | done | with_reducible rfl
  refine Eng.Sch.take (v := ?_) rfl rfl (by decide) (by kernel_rfl) (fun w hw => ?_) ?_
  rotate_left
  · (try dsimp only at hw); go_simp; first | done | with_reducible rfl
  refine Eng.Sch.take (v := ?_) rfl rfl (by decide) (by kernel_rfl) (fun w hw => ?_) ?_
  rotate_left
  · (try dsimp only at hw); go_simp; first | done | with_reducible rfl
  refine Eng.Sch.take (v := ?_) rfl rfl (by decide) (by kernel_rfl) (fun w hw => ?_) ?_
  rotate_left
  · (try dsimp only at hw); go_simp; first | done | with_reducible rfl
  refine Eng.Sch.take (v := ?_) rfl rfl (by decide) (by kernel_rfl) (fun w hw => ?_) ?_
  rotate_left
  · (try dsimp only at hw); go_simp; first | done | with_reducible rfl
  refine Eng.Sch.take (v := ?_) rfl rfl (by decide) (by kernel_rfl) (fun w hw => ?_) ?_
  rotate_left
  · (try dsimp only at hw); go_simp; first | done | with_reducible rfl
  refine Eng.Sch.take (v := ?_) rfl rfl (by decide) (by kernel_rfl) (fun w hw => ?_) ?_
  rotate_left
  · (try dsimp only at hw); go_simp; first | done | with_reducible rfl
  refine Eng.Sch.take (v := ?_) rfl rfl (by decide) (by kernel_rfl) (fun w hw => ?_) ?_
  rotate_left
  · (try dsimp only at hw); go_simp; first | done | with_reducible rfl
  refine Eng.Sch.take (v := ?_) rfl rfl (by decide) (by kernel_rfl) (fun w hw => ?_) ?_
  rotate_left
  · (try dsimp only at hw); go_simp; first | done | with_reducible rfl
  refine Eng.Sch.take (v := ?_) rfl rfl (by decide) (by kernel_rfl) (fun w hw => ?_) ?_
  rotate_left
  · (try dsimp only at hw); go_simp; first | done | with_reducible rfl
  refine Eng.Sch.take (v := ?_) rfl rfl (by decide) (by kernel_rfl) (fun w hw => ?_) ?_
  rotate_left
  · (try dsimp only at hw); go_simp; first | done | with_reducible rfl
  refine Eng.Sch.take (v := ?_) rfl rfl (by decide) (by kernel_rfl) (fun w hw => ?_) ?_
  rotate_left
  · (try dsimp only at hw); go_simp; first | done | with_reducible rfl
  refine Eng.Sch.take (v := ?_) rfl rfl (by decide) (by kernel_rfl) (fun w hw => ?_) ?_
  rotate_left
  · (try dsimp only at hw); go_simp; first | done | with_reducible rfl
  refine Eng.Sch.take (v := ?_) rfl rfl (by decide) (by kernel_rfl) (fun w hw => ?_) ?_
  rotate_left
  · (try dsimp only at hw); go_simp; first | done | with_reducible rfl
  refine Eng.Sch.take (v := ?_) rfl rfl (by decide) (by kernel_rfl) (fun w hw => ?_) ?_
  rotate_left
  · (try dsimp only at hw); go_simp; first | done | with_reducible rfl
  refine Eng.Sch.take (v := ?_) rfl rfl (by decide) (by kernel_rfl) (fun w hw => ?_) ?_
  rotate_left
  · (try dsimp only at hw); go_simp; first | done | with_reducible rfl
  refine Eng.Sch.take (v := ?_) rfl rfl (by decide) (by kernel_rfl) (fun w hw => ?_) ?_
  rotate_left
  · (try dsimp only at hw); go_simp; first | done | with_reducible rfl
  refine Eng.Sch.take (v := ?_) rfl rfl (by decide) (by kernel_rfl) (fun w hw => ?_) ?_
  rotate_left
  · (try dsimp only at hw); go_simp; first | done | with_reducible rfl
  refine Eng.Sch.end_ [56, 57, 58, 59, 60, 61, 62, 63, 64, 65, 66, 67, 68, 69, 70, 71, 72, 73, 74, 75, 76, 77, 78, 79, 80] HN.out (by kernel_rfl) (by kernel_rfl) ?_
  exact HP.out _ _ rfl HSt.out

set_option maxRecDepth 100000 in
set_option maxHeartbeats 400000 in
theorem cb15 {ops : Array Oper} (hops : Eng.fnOps Try.f8 15 = ops) (a0 : Act) (Q : Exit → Act → World → Prop) (w0 w : World) (b1 o1 len c k : Nat) (p : Pc) (hst : PR w0 w b1 (o1 + k * 6) p) (hk : k < len) (hlen : len ≤ 9223372036854775807) (h1 : (p.c != 1) = false) (h2 : (p.d != 1) = false) (h3 : (p.p != p.i) = false)
    (hn : a0.tmps.size = 192) (h_4 : a0.tmps.getD 4 undef = .slice (some ⟨b1, o1, none⟩) len c) (h_5 : a0.tmps.getD 5 undef = .int .i64 (k : Int))
    (hpost : ∀ (x : Nat → Value) (w' : World), x 114 = .bool false → PR w0 w' b1 (o1 + k * 6) p → Q .normal (Eng.setAll a0 [88, 89, 90, 91, 92, 93, 94, 95, 96, 97, 98, 99, 100, 101, 102, 103, 104, 105, 106, 107, 108, 109, 110, 111, 112, 113, 114] x) w') :
    (Code.region 15 ops true).wp Try.prog Q a0 w := by
  simp only [Eng.fnOps, Eng.regOps, Try.f8, Option.bind_some, Option.getD_some, Nat.reduceEqDiff, ↓reduceIte, Nat.reduceBEq] at hops
  subst hops
  have q1 : (0 : Int) ≤ (k : Int) := by omega
  have q2 : (k : Int) < (len : Int) := by omega
  have HSt := Lib.hid (hst.fr (Fr.drew _ _))
  have hSS : w.drew.cell? ⟨b1, o1 + k * 6, none⟩ = some (.int .i64 p.t) ∧ w.drew.cell? ⟨b1, o1 + k * 6 + 1, none⟩ = some (.int .i64 p.i) ∧ w.drew.cell? ⟨b1, o1 + k * 6 + 1 + 1, none⟩ = some (.int .i64 p.c) ∧ w.drew.cell? ⟨b1, o1 + k * 6 + 1 + 1 + 1, none⟩ = some (.int .i64 p.d) ∧ w.drew.cell? ⟨b1, o1 + k * 6 + 1 + 1 + 1 + 1, none⟩ = some (.int .i64 p.p) ∧ w.drew.cell? ⟨b1, o1 + k * 6 + 1 + 1 + 1 + 1 + 1, none⟩ = some (.int .i64 p.f) := ⟨HSt.out.a 0 _ rfl, HSt.out.a 1 _ rfl, HSt.out.a 2 _ rfl, HSt.out.a 3 _ rfl, HSt.out.a 4 _ rfl, HSt.out.a 5 _ rfl⟩
  refine Eng.regionN [(0, true), (1, true), (2, true), (3, true), (4, true), (5, true), (6, true), (7, true), (8, true), (9, true), (10, true), (11, true), (12, true), (13, true), (14, true), (15, true), (16, true), (17, true), (18, true), (19, true), (20, true), (21, true), (22, true), (23, true), (24, true), (25, true), (26, true)] (fun w' => w'.cell? ⟨b1, o1 + k * 6, none⟩ = some (.int .i64 p.t) ∧ w'.cell? ⟨b1, o1 + k * 6 + 1, none⟩ = some (.int .i64 p.i) ∧ w'.cell? ⟨b1, o1 + k * 6 + 1 + 1, none⟩ = some (.int .i64 p.c) ∧ w'.cell? ⟨b1, o1 + k * 6 + 1 + 1 + 1, none⟩ = some (.int .i64 p.d) ∧ w'.cell? ⟨b1, o1 + k * 6 + 1 + 1 + 1 + 1, none⟩ = some (.int .i64 p.p) ∧ w'.cell? ⟨b1, o1 + k * 6 + 1 + 1 + 1 + 1 + 1, none⟩ = some (.int .i64 p.f)) (by kernel_rfl) 192 hn (by kernel_rfl) rfl (by kernel_rfl) (hSS) (fun a b ha hb => ?_)
  subst ha
  have hb4 : b 4 = .slice (some ⟨b1, o1, none⟩) len c := (hb 4).symm.trans h_4
  have hb5 : b 5 = .int .i64 (k : Int) := (hb 5).symm.trans h_5
  clear hb h_4 h_5
  have HP := Lib.hid hpost; have HN := Lib.hid hn
  clear hpost hn
  refine Eng.Sch.take (v := ?_) rfl rfl (by decide) (by kernel_rfl) (fun w hw => ?_) ?_
  rotate_left
  · (try dsimp only at hw); go_simp; first | done | with_reducible rfl
  refine Eng.Sch.take (v := ?_) rfl rfl (by decide) (by kernel_rfl) (fun w hw => ?_) ?_
  rotate_left
  · (try dsimp only at hw); go_simp; first | done | with_reducible rfl
  refine Eng.Sch.take (v := ?_) rfl rfl (by decide) (by kernel_rfl) (fun w hw => ?_) ?_
  rotate_left
  · (try dsimp only at hw); go_simp; first | done | with_reducible rfl
  refine Eng.Sch.take (v := ?_) rfl rfl (by decide) (by kernel_rfl) (fun w hw => ?_) ?_
  rotate_left
  · (try dsimp only at hw); go_simp; first | done | with_reducible rfl
  refine Eng.Sch.take (v := ?_) rfl rfl (by decide) (by kernel_rfl) (fun w hw => ?_) ?_
  rotate_left
  · (try dsimp only at hw); go_simp; first | done | with_reducible rfl
  refine Eng.Sch.take (v := ?_) rfl rfl (by decide) (by kernel_rfl) (fun w hw => ?_) ?_
  rotate_left
  · (try dsimp only at hw); go_simp; first | done | with_reducible rfl
  refine Eng.Sch.take (v := ?_) rfl rfl (by decide) (by kernel_rfl) (fun w hw => ?_) ?_
  rotate_left
  · (try dsimp only at hw); go_simp; first | done | with_reducible rfl
  refine Eng.Sch.take (v := ?_) rfl rfl (by decide) (by kernel_rfl) (fun w hw => ?_) ?_
  rotate_left
  · (try dsimp only at hw); go_simp; first | done | with_reducible rfl
  refine Eng.Sch.take (v := ?_) rfl rfl (by decide) (by kernel_rfl) (fun w hw => ?_) ?_
  rotate_left
  · (try dsimp only at hw); go_simp; first | done | with_reducible rfl
  refine Eng.Sch.take (v := ?_) rfl rfl (by decide) (by kernel_rfl) (fun w hw => ?_) ?_
  rotate_left
  · (try dsimp only at hw); go_simp; first | done | with_reducible rfl
  refine Eng.Sch.take (v := ?_) rfl rfl (by decide) (by kernel_rfl) (fun w hw => ?_) ?_
  rotate_left
  · (try dsimp only at hw); go_simp; first | done | with_reducible rfl
  refine Eng.Sch.take (v := ?_) rfl rfl (by decide) (by kernel_rfl) (fun w hw => ?_) ?_
  rotate_left
  · (try dsimp only at hw); go_simp; first | done | with_reducible rfl
  refine Eng.Sch.take (v := ?_) rfl rfl (by decide) (by kernel_rfl) (fun w hw => ?_) ?_
  rotate_left
  · (try dsimp only at hw); go_simp; first | done | with_reducible rfl
  refine Eng.Sch.take (v := ?_) rfl rfl (by decide) (by kernel_rfl) (fun w hw => ?_) ?_
  rotate_left
  · (try dsimp only at hw); go_simp; first | done | with_reducible rfl
  refine Eng.Sch.take (v := ?_) rfl rfl (by decide) (by kernel_rfl) (fun w hw => ?_) ?_
  rotate_left
  · (try dsimp only at hw); go_simp; first | done | with_reducible rfl
  refine Eng.Sch.take (v := ?_) rfl rfl (by decide) (by kernel_rfl) (fun w hw => ?_) ?_
  rotate_left
  · (try dsimp only at hw); go_simp; first | done | with_reducible rfl
  refine Eng.Sch.take (v := ?_) rfl rfl (by decide) (by kernel_rfl) (fun w hw => ?_) ?_
  rotate_left
  · (try dsimp only at hw); go_simp; first | done | with_reducible rfl
  refine Eng.Sch.take (v := ?_) rfl rfl (by decide) (by kernel_rfl) (fun w hw => ?_) ?_
  rotate_left
  · (try dsimp only at hw); go_simp; first | done | with_reducible rfl
  refine Eng.Sch.take (v := ?_) rfl rfl (by decide) (by kernel_rfl) (fun w hw => ?_) ?_
  rotate_left
  · (try dsimp only at hw); go_simp; first | done | with_reducible rfl
  refine Eng.Sch.take (v := ?_) rfl rfl (by decide) (by kernel_rfl) (fun w hw => ?_) ?_
  rotate_left
  · (try dsimp only at hw); go_simp; first | done | with_reducible rfl
  refine Eng.Sch.take (v := ?_) rfl rfl (by decide) (by kernel_rfl) (fun w hw => ?_) ?_
  rotate_left
  · (try dsimp only at hw); go_simp; first | done | with_reducible rfl
  refine Eng.Sch.take (v := ?_) rfl rfl (by decide) (by kernel_rfl) (fun w hw => ?_) ?_
  rotate_left
  · (try dsimp only at hw); go_simp; first | done | with_reducible rfl
  refine Eng.Sch.take (v := ?_) rfl rfl (by decide) (by kernel_rfl) (fun w hw => ?_) ?_
  rotate_left
  · (try dsimp only at hw); go_simp; first | done | with_reducible rfl
  refine Eng.Sch.take (v := ?_) rfl rfl (by decide) (by kernel_rfl) (fun w hw => ?_) ?_
  rotate_left
  · (try dsimp only at hw); go_simp; first | done | with_reducible rfl
  refine Eng.Sch.take (v := ?_) rfl rfl (by decide) (by kernel_rfl) (fun w hw => ?_) ?_
  rotate_left
  · (try dsimp only at hw); go_simp; first | done | with_reducible rfl
  refine Eng.Sch.take (v := ?_) rfl rfl (by decide) (by kernel_rfl) (fun w hw => ?_) ?_
  rotate_left
  · (try dsimp only at hw); go_simp; first | done | with_reducible rfl
  refine Eng.Sch.take (v := ?_) rfl rfl (by decide) (by kernel_rfl) (fun w hw => ?_) ?_
  rotate_left
  · (try dsimp only at hw); go_simp; first | done | with_reducible rfl
  refine Eng.Sch.end_ [88, 89, 90, 91, 92, 93, 94, 95, 96, 97, 98, 99, 100, 101, 102, 103, 104, 105, 106, 107, 108, 109, 110, 111, 112, 113, 114] HN.out (by kernel_rfl) (by kernel_rfl) ?_
  exact HP.out _ _ rfl HSt.out

set_option maxRecDepth 100000 in
set_option maxHeartbeats 400000 in
theorem cb18 {ops : Array Oper} (hops : Eng.fnOps Try.f8 18 = ops) (a0 : Act) (Q : Exit → Act → World → Prop) (w0 w : World) (b1 o1 len c k : Nat) (p : Pc) (hst : PR w0 w b1 (o1 + k * 6) p) (hk : k < len) (hlen : len ≤ 9223372036854775807) (h1 : (p.c != 2) = false) (h2 : (p.d != 1) = false) (h3 : (p.p != p.i) = false)
    (hn : a0.tmps.size = 192) (h_4 : a0.tmps.getD 4 undef = .slice (some ⟨b1, o1, none⟩) len c) (h_5 : a0.tmps.getD 5 undef = .int .i64 (k : Int))
    (hpost : ∀ (x : Nat → Value) (w' : World), x 144 = .bool false → PR w0 w' b1 (o1 + k * 6) p → Q .normal (Eng.setAll a0 [118, 119, 120, 121, 122, 123, 124, 125, 126, 127, 128, 129, 130, 131, 132, 133, 134, 135, 136, 137, 138, 139, 140, 141, 142, 143, 144] x) w') :
    (Code.region 18 ops true).wp Try.prog Q a0 w := by
  simp only [Eng.fnOps, Eng.regOps, Try.f8, Option.bind_some, Option.getD_some, Nat.reduceEqDiff, ↓reduceIte, Nat.reduceBEq] at hops
  subst hops
  have q1 : (0 : Int) ≤ (k : Int) := by omega
  have q2 : (k : Int) < (len : Int) := by omega
  have HSt := Lib.hid (hst.fr (Fr.drew _ _))
  have hSS : w.drew.cell? ⟨b1, o1 + k * 6, none⟩ = some (.int .i64 p.t) ∧ w.drew.cell? ⟨b1, o1 + k * 6 + 1, none⟩ = some (.int .i64 p.i) ∧ w.drew.cell? ⟨b1, o1 + k * 6 + 1 + 1, none⟩ = some (.int .i64 p.c) ∧ w.drew.cell? ⟨b1, o1 + k * 6 + 1 + 1 + 1, none⟩ = some (.int .i64 p.d) ∧ w.drew.cell? ⟨b1, o1 + k * 6 + 1 + 1 + 1 + 1, none⟩ = some (.int .i64 p.p) ∧ w.drew.cell? ⟨b1, o1 + k * 6 + 1 + 1 + 1 + 1 + 1, none⟩ = some (.int .i64 p.f) := ⟨HSt.out.a 0 _ rfl, HSt.out.a 1 _ rfl, HSt.out.a 2 _ rfl, HSt.out.a 3 _ rfl, HSt.out.a 4 _ rfl, HSt.out.a 5 _ rfl⟩
  refine Eng.regionN [(0, true), (1, true), (2, true), (3, true), (4, true), (5, true), (6, true), (7, true), (8, true), (9, true), (10, true), (11, true), (12, true), (13, true), (14, true), (15, true), (16, true), (17, true), (18, true), (19, true), (20, true), (21, true), (22, true), (23, true), (24, true), (25, true), (26, true)] (fun w' => w'.cell? ⟨b1, o1 + k * 6, none⟩ = some (.int .i64 p.t) ∧ w'.cell? ⟨b1, o1 + k * 6 + 1, none⟩ = some (.int .i64 p.i) ∧ w'.cell? ⟨b1, o1 + k * 6 + 1 + 1, none⟩ = some (.int .i64 p.c) ∧ w'.cell? ⟨b1, o1 + k * 6 + 1 + 1 + 1, none⟩ = some (.int .i64 p.d) ∧ w'.cell? ⟨b1, o1 + k * 6 + 1 + 1 + 1 + 1, none⟩ = some (.int .i64 p.p) ∧ w'.cell? ⟨b1, o1 + k * 6 + 1 + 1 + 1 + 1 + 1, none⟩ = some (.int .i64 p.f)) (by kernel_rfl) 192 hn (by kernel_rfl) rfl (by kernel_rfl) (hSS) (fun a b ha hb => ?_)
  subst ha
  have hb4 : b 4 = .slice (some ⟨b1, o1, none⟩) len c := (hb 4).symm.trans h_4
  have hb5 : b 5 = .int .i64 (k : Int) := (hb 5).symm.trans h_5
  clear hb h_4 h_5
  have HP := Lib.hid hpost; have HN := Lib.hid hn
  clear hpost hn
  refine Eng.Sch.take (v := ?_) rfl rfl (by decide) (by kernel_rfl) (fun w hw => ?_) ?_
  rotate_left
  · (try dsimp only at hw); go_simp; first | done | with_reducible rfl
  refine Eng.Sch.take (v := ?_) rfl rfl (by decide) (by kernel_rfl) (fun w hw => ?_) ?_
  rotate_left
  · (try dsimp only at hw); go_simp; first | done | with_reducible rfl
  refine Eng.Sch.take (v := ?_) rfl rfl (by decide) (by kernel_rfl) (fun w hw => ?_) ?_
  rotate_left
  · (try dsimp only at hw); go_simp; first | done | with_reducible rfl
  refine Eng.Sch.take (v := ?_) rfl rfl (by decide) (by kernel_rfl) (fun w hw => ?_) ?_
  rotate_left
  · (try dsimp only at hw); go_simp; first | done | with_reducible rfl
  refine Eng.Sch.take (v := ?_) rfl rfl (by decide) (by kernel_rfl) (fun w hw => ?_) ?_
  rotate_left
  · (try dsimp only at hw); go_simp; first | done | with_reducible rfl
  refine Eng.Sch.take (v := ?_) rfl rfl (by decide) (by kernel_rfl) (fun w hw => ?_) ?_
  rotate_left
  · (try dsimp only at hw); go_simp; first | done | with_reducible rfl
  refine Eng.Sch.take (v := ?_) rfl rfl (by decide) (by kernel_rfl) (fun w hw => ?_) ?_
  rotate_left
  · (try dsimp only at hw); go_simp; first | done | with_reducible rfl
  refine Eng.Sch.take (v := ?_) rfl rfl (by decide) (by kernel_rfl) (fun w hw => ?_) ?_
  rotate_left
  · (try dsimp only at hw); go_simp; first | done | with_reducible rfl
  refine Eng.Sch.take (v := ?_) rfl rfl (by decide) (by kernel_rfl) (fun w hw => ?_) ?_
  rotate_left
  · (try dsimp only at hw); go_simp; first | done | with_reducible rfl
  refine Eng.Sch.take (v := ?_) rfl rfl (by decide) (by kernel_rfl) (fun w hw => ?_) ?_
  rotate_left
  · (try dsimp only at hw); go_simp; first | done | with_reducible rfl
  refine Eng.Sch.take (v := ?_) rfl rfl (by decide) (by kernel_rfl) (fun w hw => ?_) ?_
  rotate_left
  · (try dsimp only at hw); go_simp; first | done | with_reducible rfl
  refine Eng.Sch.take (v := ?_) rfl rfl (by decide) (by kernel_rfl) (fun w hw => ?_) ?_
  rotate_left
  · (try dsimp only at hw); go_simp; first | done | with_reducible rfl
  refine Eng.Sch.take (v := ?_) rfl rfl (by decide) (by kernel_rfl) (fun w hw => ?_) ?_
  rotate_left
  · (try dsimp only at hw); go_simp; first | done | with_reducible rfl
  refine Eng.Sch.take (v := ?_) rfl rfl (by decide) (by kernel_rfl) (fun w hw => ?_) ?_
  rotate_left
  · (try dsimp only at hw); go_simp; first | done | with_reducible rfl
  refine Eng.Sch.take (v := ?_) rfl rfl (by decide) (by kernel_rfl) (fun w hw => ?_) ?_
  rotate_left
  · (try dsimp only at hw); go_simp; first | done | with_reducible rfl
  refine Eng.Sch.take (v := ?_) rfl rfl (by decide) (by kernel_rfl) (fun w hw => ?_) ?_
  rotate_left
  · (try dsimp only at hw); go_simp; first | done | with_reducible rfl
  refine Eng.Sch.take (v := ?_) rfl rfl (by decide) (by kernel_rfl) (fun w hw => ?_) ?_
  rotate_left
  · (try dsimp only at hw); go_simp; first | done | with_reducible rfl
  refine Eng.Sch.take (v := ?_) rfl rfl (by decide) (by kernel_rfl) (fun w hw => ?_) ?_
  rotate_left
  · (try dsimp only at hw); go_simp; first | done | with_reducible rfl
  refine Eng.Sch.take (v := ?_) rfl rfl (by decide) (by kernel_rfl) (fun w hw => ?_) ?_
  rotate_left
  · (try dsimp only at hw); go_simp; first | done | with_reducible rfl
  refine Eng.Sch.take (v := ?_) rfl rfl (by decide) (by kernel_rfl) (fun w hw => ?_) ?_
  rotate_left
  · (try dsimp only at hw); go_simp; first | done | with_reducible rfl
  refine Eng.Sch.take (v := ?_) rfl rfl (by decide) (by kernel_rfl) (fun w hw => ?_) ?_
  rotate_left
  · (try dsimp only at hw); go_simp; first | done | with_reducible rfl
  refine Eng.Sch.take (v := ?_) rfl rfl (by decide) (by kernel_rfl) (fun w hw => ?_) ?_
  rotate_left
  · (try dsimp only at hw); go_simp; first | done | with_reducible rfl
  refine Eng.Sch.take (v := ?_) rfl rfl (by decide) (by kernel_rfl) (fun w hw => ?_) ?_
  rotate_left
  · (try dsimp only at hw); go_simp; first | done | with_reducible rfl
  refine Eng.Sch.take (v := ?_) rfl rfl (by decide) (by kernel_rfl) (fun w hw => ?_) ?_
  rotate_left
  · (try dsimp only at hw); go_simp; first | done | with_reducible rfl
  refine Eng.Sch.take (v := ?_) rfl rfl (by decide) (by kernel_rfl) (fun w hw => ?_) ?_
  rotate_left
  · (try dsimp only at hw); go_simp; first | done | with_reducible rfl
  refine Eng.Sch.take (v := ?_) rfl rfl (by decide) (by kernel_rfl) (fun w hw => ?_) ?_
  rotate_left
  · (try dsimp only at hw); go_simp; first | done | with_reducible rfl
  refine Eng.Sch.take (v := ?_) rfl rfl (by decide) (by kernel_rfl) (fun w hw => ?_) ?_
  rotate_left
  · (try dsimp only at hw); go_simp; first | done | with_reducible rfl
  refine Eng.Sch.end_ [118, 119, 120, 121, 122, 123, 124, 125, 126, 127, 128, 129, 130, 131, 132, 133, 134, 135, 136, 137, 138, 139, 140, 141, 142, 143, 144] HN.out (by kernel_rfl) (by kernel_rfl) ?_
  exact HP.out _ _ rfl HSt.out

set_option maxRecDepth 100000 in
set_option maxHeartbeats 400000 in
theorem cb20 {ops : Array Oper} (hops : Eng.fnOps Try.f8 20 = ops) (a0 : Act) (Q : Exit → Act → World → Prop) (w0 w : World) (b1 o1 len c k j : Nat) (p q : Pc) (hst : PR2 w0 w b1 (o1 + k * 6) b1 (o1 + j * 6) p q) (hk : k < len) (hj : j < len) (hlen : len ≤ 9223372036854775807) (h1 : (p.c != q.c) = false) (h2 : (p.p != q.p) = false)
    (hn : a0.tmps.size = 192) (h_4 : a0.tmps.getD 4 undef = .slice (some ⟨b1, o1, none⟩) len c) (h_5 : a0.tmps.getD 5 undef = .int .i64 (k : Int)) (h_6 : a0.tmps.getD 6 undef = .int .i64 (j : Int))
    (hpost : ∀ (x : Nat → Value) (w' : World), x 145 = .bool false → PR2 w0 w' b1 (o1 + k * 6) b1 (o1 + j * 6) p q → Q .normal (Eng.setAll a0 [145, 146, 147, 148, 149, 150, 151, 152, 153, 154, 155, 156, 157, 158, 159, 160, 161, 162, 163, 164, 165, 166, 167, 168, 169] x) w') :
    (Code.region 20 ops true).wp Try.prog Q a0 w := by
  simp only [Eng.fnOps, Eng.regOps, Try.f8, Option.bind_some, Option.getD_some, Nat.reduceEqDiff, ↓reduceIte, Nat.reduceBEq] at hops
  subst hops
  have q1 : (0 : Int) ≤ (k : Int) := by omega
  have q2 : (k : Int) < (len : Int) := by omega
  have q5 : (0 : Int) ≤ (j : Int) := by omega
  have q6 : (j : Int) < (len : Int) := by omega
  have HSt := Lib.hid (hst.fr (Fr.drew _ _))
  have hSS : w.drew.cell? ⟨b1, o1 + k * 6, none⟩ = some (.int .i64 p.t) ∧ w.drew.cell? ⟨b1, o1 + k * 6 + 1, none⟩ = some (.int .i64 p.i) ∧ w.drew.cell? ⟨b1, o1 + k * 6 + 1 + 1, none⟩ = some (.int .i64 p.c) ∧ w.drew.cell? ⟨b1, o1 + k * 6 + 1 + 1 + 1, none⟩ = some (.int .i64 p.d) ∧ w.drew.cell? ⟨b1, o1 + k * 6 + 1 + 1 + 1 + 1, none⟩ = some (.int .i64 p.p) ∧ w.drew.cell? ⟨b1, o1 + k * 6 + 1 + 1 + 1 + 1 + 1, none⟩ = some (.int .i64 p.f) ∧ w.drew.cell? ⟨b1, o1 + j * 6, none⟩ = some (.int .i64 q.t) ∧ w.drew.cell? ⟨b1, o1 + j * 6 + 1, none⟩ = some (.int .i64 q.i) ∧ w.drew.cell? ⟨b1, o1 + j * 6 + 1 + 1, none⟩ = some (.int .i64 q.c) ∧ w.drew.cell? ⟨b1, o1 + j * 6 + 1 + 1 + 1, none⟩ = some (.int .i64 q.d) ∧ w.drew.cell? ⟨b1, o1 + j * 6 + 1 + 1 + 1 + 1, none⟩ = some (.int .i64 q.p) ∧ w.drew.cell? ⟨b1, o1 + j * 6 + 1 + 1 + 1 + 1 + 1, none⟩ = some (.int .i64 q.f) := ⟨HSt.out.a 0 _ rfl, HSt.out.a 1 _ rfl, HSt.out.a 2 _ rfl, HSt.out.a 3 _ rfl, HSt.out.a 4 _ rfl, HSt.out.a 5 _ rfl, HSt.out.b 0 _ rfl, HSt.out.b 1 _ rfl, HSt.out.b 2 _ rfl, HSt.out.b 3 _ rfl, HSt.out.b 4 _ rfl, HSt.out.b 5 _ rfl⟩
  refine Eng.regionN [(0, true), (1, true), (2, true), (3, true), (4, true), (5, true), (6, true), (7, true), (8, true), (9, true), (10, true), (11, true), (12, true), (13, true), (14, true), (15, true), (16, true), (17, true), (18, true), (19, true), (20, true), (21, true), (22, true), (23, true), (24, true)] (fun w' => w'.cell? ⟨b1, o1 + k * 6, none⟩ = some (.int .i64 p.t) ∧ w'.cell? ⟨b1, o1 + k * 6 + 1, none⟩ = some (.int .i64 p.i) ∧ w'.cell? ⟨b1, o1 + k * 6 + 1 + 1, none⟩ = some (.int .i64 p.c) ∧ w'.cell? ⟨b1, o1 + k * 6 + 1 + 1 + 1, none⟩ = some (.int .i64 p.d) ∧ w'.cell? ⟨b1, o1 + k * 6 + 1 + 1 + 1 + 1, none⟩ = some (.int .i64 p.p) ∧ w'.cell? ⟨b1, o1 + k * 6 + 1 + 1 + 1 + 1 + 1, none⟩ = some (.int .i64 p.f) ∧ w'.cell? ⟨b1, o1 + j * 6, none⟩ = some (.int .i64 q.t) ∧ w'.cell? ⟨b1, o1 + j * 6 + 1, none⟩ = some (.int .i64 q.i) ∧ w'.cell? ⟨b1, o1 + j * 6 + 1 + 1, none⟩ = some (.int .i64 q.c) ∧ w'.cell? ⟨b1, o1 + j * 6 + 1 + 1 + 1, none⟩ = some (.int .i64 q.d) ∧ w'.cell? ⟨b1, o1 + j * 6 + 1 + 1 + 1 + 1, none⟩ = some (.int .i64 q.p) ∧ w'.cell? ⟨b1, o1 + j * 6 + 1 + 1 + 1 + 1 + 1, none⟩ = some (.int .i64 q.f)) (by kernel_rfl) 192 hn (by kernel_rfl) rfl (by kernel_rfl) (hSS) (fun a b ha hb => ?_)
  subst ha
  have hb4 : b 4 = .slice (some ⟨b1, o1, none⟩) len c := (hb 4).symm.trans h_4
  have hb5 : b 5 = .int .i64 (k : Int) := (hb 5).symm.trans h_5
  have hb6 : b 6 = .int .i64 (j : Int) := (hb 6).symm.trans h_6
  clear hb h_4 h_5 h_6
  have HP := Lib.hid hpost; have HN := Lib.hid hn
  clear hpost hn
  refine Eng.Sch.take (v := ?_) rfl rfl (by decide) (by kernel_rfl) (fun w hw => ?_) ?_
  rotate_left
  · (try dsimp only at hw); go_simp; first | done | with_reducible rfl
  refine Eng.Sch.take (v := ?_) rfl rfl (by decide) (by kernel_rfl) (fun w hw => ?_) ?_
  rotate_left
  · (try dsimp only at hw); go_simp; first | done | with_reducible rfl
  refine Eng.Sch.take (v := ?_) rfl rfl (by decide) (by kernel_rfl) (fun w hw => ?_) ?_
  rotate_left
  · (try dsimp only at hw); go_simp; first | done | with_reducible rfl
  refine Eng.Sch.take (v := ?_) rfl rfl (by decide) (by kernel_rfl) (fun w hw => ?_) ?_
  rotate_left
  · (try dsimp only at hw); go_simp; first | done | with_reducible rfl
  refine Eng.Sch.take (v := ?_) rfl rfl (by decide) (by kernel_rfl) (fun w hw => ?_) ?_
  rotate_left
  · (try dsimp only at hw); go_simp; first | done | with_reducible rfl
  refine Eng.Sch.take (v := ?_) rfl rfl (by decide) (by kernel_rfl) (fun w hw => ?_) ?_
  rotate_left
  · (try dsimp only at hw); go_simp; first | done | with_reducible rfl
  refine Eng.Sch.take (v := ?_) rfl rfl (by decide) (by kernel_rfl) (fun w hw => ?_) ?_
  rotate_left
  · (try dsimp only at hw); go_simp; first | done | with_reducible rfl
  refine Eng.Sch.take (v := ?_) rfl rfl (by decide) (by kernel_rfl) (fun w hw => ?_) ?_
  rotate_left
  · (try dsimp only at hw); go_simp; first | done | with_reducible rfl
  refine Eng.Sch.take (v := ?_) rfl rfl (by decide) (by kernel_rfl) (fun w hw => ?_) ?_
  rotate_left
  · (try dsimp only at hw); go_simp; first | done | with_reducible rfl
  refine Eng.Sch.take (v := ?_) rfl rfl (by decide) (by kernel_rfl) (fun w hw => ?_) ?_
  rotate_left
  · (try dsimp only at hw); go_simp; first | done | with_reducible rfl
  refine Eng.Sch.take (v := ?_) rfl rfl (by decide) (by kernel_rfl) (fun w hw => ?_) ?_
  rotate_left
  · (try dsimp only at hw); go_simp; first | done | with_reducible rfl
  refine Eng.Sch.take (v := ?_) rfl rfl (by decide) (by kernel_rfl) (fun w hw => ?_) ?_
  rotate_left
  · (try dsimp only at hw); go_simp; first | done | with_reducible rfl
  refine Eng.Sch.take (v := ?_) rfl rfl (by decide) (by kernel_rfl) (fun w hw => ?_) ?_
  rotate_left
  · (try dsimp only at hw); go_simp; first | done | with_reducible rfl
  refine Eng.Sch.take (v := ?_) rfl rfl (by decide) (by kernel_rfl) (fun w hw => ?_) ?_
  rotate_left
  · (try dsimp only at hw); go_simp; first | done | with_reducible rfl
  refine Eng.Sch.take (v := ?_) rfl rfl (by decide) (by kernel_rfl) (fun w hw => ?_) ?_
  rotate_left
  · (try dsimp only at hw); go_simp; first | done | with_reducible rfl
  refine Eng.Sch.take (v := ?_) rfl rfl (by decide) (by kernel_rfl) (fun w hw => ?_) ?_
  rotate_left
  · (try dsimp only at hw); go_simp; first | done | with_reducible rfl
  refine Eng.Sch.take (v := ?_) rfl rfl (by decide) (by kernel_rfl) (fun w hw => ?_) ?_
  rotate_left
  · (try dsimp only at hw); go_simp; first | done | with_reducible rfl
  refine Eng.Sch.take (v := ?_) rfl rfl (by decide) (by kernel_rfl) (fun w hw => ?_) ?_
  rotate_left
  · (try dsimp only at hw); go_simp; first | done | with_reducible rfl
  refine Eng.Sch.take (v := ?_) rfl rfl (by decide) (by kernel_rfl) (fun w hw => ?_) ?_
  rotate_left
  · (try dsimp only at hw); go_simp; first | done | with_reducible rfl
  refine Eng.Sch.take (v := ?_) rfl rfl (by decide) (by kernel_rfl) (fun w hw => ?_) ?_
  rotate_left
  · (try dsimp only at hw); go_simp; first | done | with_reducible rfl
  refine Eng.Sch.take (v := ?_) rfl rfl (by decide) (by kernel_rfl) (fun w hw => ?_) ?_
  rotate_left
  · (try dsimp only at hw); go_simp; first | done | with_reducible rfl
  refine Eng.Sch.take (v := ?_) rfl rfl (by decide) (by kernel_rfl) (fun w hw => ?_) ?_
  rotate_left
  · (try dsimp only at hw); go_simp; first | done | with_reducible rfl
  refine Eng.Sch.take (v := ?_) rfl rfl (by decide) (by kernel_rfl) (fun w hw => ?_) ?_
  rotate_left
  · (try dsimp only at hw); go_simp; first | done | with_reducible rfl
  refine Eng.Sch.take (v := ?_) rfl rfl (by decide) (by kernel_rfl) (fun w hw => ?_) ?_
  rotate_left
  · (try dsimp only at hw); go_simp; first | done | with_reducible rfl
  refine Eng.Sch.take (v := ?_) rfl rfl (by decide) (by kernel_rfl) (fun w hw => ?_) ?_
  rotate_left
  · (try dsimp only at hw); go_simp; first | done | with_reducible rfl
  refine Eng.Sch.end_ [145, 146, 147, 148, 149, 150, 151, 152, 153, 154, 155, 156, 157, 158, 159, 160, 161, 162, 163, 164, 165, 166, 167, 168, 169] HN.out (by kernel_rfl) (by kernel_rfl) ?_
  exact HP.out _ _ rfl HSt.out

set_option maxRecDepth 100000 in
set_option maxHeartbeats 400000 in
theorem cb10 {ops : Array Oper} (hops : Eng.fnOps Try.f8 10 = ops) (a0 : Act) (Q : Exit → Act → World → Prop) (w0 w : World) (b1 o1 len c k j : Nat) (p q : Pc) (hst : PR2 w0 w b1 (o1 + k * 6) b1 (o1 + j * 6) p q) (hk : k < len) (hj : j < len) (hlen : len ≤ 9223372036854775807) (h1 : (p.d != q.d + 1) = false) (h2 : 0 ≤ q.d) (h3 : q.d ≤ 1000000)
    (hn : a0.tmps.size = 192) (h_4 : a0.tmps.getD 4 undef = .slice (some ⟨b1, o1, none⟩) len c) (h_5 : a0.tmps.getD 5 undef = .int .i64 (k : Int)) (h_6 : a0.tmps.getD 6 undef = .int .i64 (j : Int))
    (hpost : ∀ (x : Nat → Value) (w' : World), x 55 = .bool false → PR2 w0 w' b1 (o1 + k * 6) b1 (o1 + j * 6) p q → Q .normal (Eng.setAll a0 [44, 45, 46, 47, 48, 49, 50, 51, 52, 53, 54, 55] x) w') :
    (Code.region 10 ops true).wp Try.prog Q a0 w := by
  simp only [Eng.fnOps, Eng.regOps, Try.f8, Option.bind_some, Option.getD_some, Nat.reduceEqDiff, ↓reduceIte, Nat.reduceBEq] at hops
  subst hops
  have q1 : (0 : Int) ≤ (k : Int) := by omega
  have q2 : (k : Int) < (len : Int) := by omega
  have q5 : (0 : Int) ≤ (j : Int) := by omega
  have q6 : (j : Int) < (len : Int) := by omega
  have q3 : IntKind.i64.wrap (q.d + 1) = q.d + 1 := by rw [IntKind.wrap_i64]; omega
  have HSt := Lib.hid (hst.fr (Fr.drew _ _))
  have hSS : w.drew.cell? ⟨b1, o1 + k * 6, none⟩ = some (.int .i64 p.t) ∧ w.drew.cell? ⟨b1, o1 + k * 6 + 1, none⟩ = some (.int .i64 p.i) ∧ w.drew.cell? ⟨b1, o1 + k * 6 + 1 + 1, none⟩ = some (.int .i64 p.c) ∧ w.drew.cell? ⟨b1, o1 + k * 6 + 1 + 1 + 1, none⟩ = some (.int .i64 p.d) ∧ w.drew.cell? ⟨b1, o1 + k * 6 + 1 + 1 + 1 + 1, none⟩ = some (.int .i64 p.p) ∧ w.drew.cell? ⟨b1, o1 + k * 6 + 1 + 1 + 1 + 1 + 1, none⟩ = some (.int .i64 p.f) ∧ w.drew.cell? ⟨b1, o1 + j * 6, none⟩ = some (.int .i64 q.t) ∧ w.drew.cell? ⟨b1, o1 + j * 6 + 1, none⟩ = some (.int .i64 q.i) ∧ w.drew.cell? ⟨b1, o1 + j * 6 + 1 + 1, none⟩ = some (.int .i64 q.c) ∧ w.drew.cell? ⟨b1, o1 + j * 6 + 1 + 1 + 1, none⟩ = some (.int .i64 q.d) ∧ w.drew.cell? ⟨b1, o1 + j * 6 + 1 + 1 + 1 + 1, none⟩ = some (.int .i64 q.p) ∧ w.drew.cell? ⟨b1, o1 + j * 6 + 1 + 1 + 1 + 1 + 1, none⟩ = some (.int .i64 q.f) := ⟨HSt.out.a 0 _ rfl, HSt.out.a 1 _ rfl, HSt.out.a 2 _ rfl, HSt.out.a 3 _ rfl, HSt.out.a 4 _ rfl, HSt.out.a 5 _ rfl, HSt.out.b 0 _ rfl, HSt.out.b 1 _ rfl, HSt.out.b 2 _ rfl, HSt.out.b 3 _ rfl, HSt.out.b 4 _ rfl, HSt.out.b 5 _ rfl⟩
  refine Eng.regionN [(0, true), (1, true), (2, true), (3, true), (4, true), (5, true), (6, true), (7, true), (8, true), (9, true), (10, true), (11, true)] (fun w' => w'.cell? ⟨b1, o1 + k * 6, none⟩ = some (.int .i64 p.t) ∧ w'.cell? ⟨b1, o1 + k * 6 + 1, none⟩ = some (.int .i64 p.i) ∧ w'.cell? ⟨b1, o1 + k * 6 + 1 + 1, none⟩ = some (.int .i64 p.c) ∧ w'.cell? ⟨b1, o1 + k * 6 + 1 + 1 + 1, none⟩ = some (.int .i64 p.d) ∧ w'.cell? ⟨b1, o1 + k * 6 + 1 + 1 + 1 + 1, none⟩ = some (.int .i64 p.p) ∧ w'.cell? ⟨b1, o1 + k * 6 + 1 + 1 + 1 + 1 + 1, none⟩ = some (.int .i64 p.f) ∧ w'.cell? ⟨b1, o1 + j * 6, none⟩ = some (.int .i64 q.t) ∧ w'.cell? ⟨b1, o1 + j * 6 + 1, none⟩ = some (.int .i64 q.i) ∧ w'.cell? ⟨b1, o1 + j * 6 + 1 + 1, none⟩ = some (.int .i64 q.c) ∧ w'.cell? ⟨b1, o1 + j * 6 + 1 + 1 + 1, none⟩ = some (.int .i64 q.d) ∧ w'.cell? ⟨b1, o1 + j * 6 + 1 + 1 + 1 + 1, none⟩ = some (.int .i64 q.p) ∧ w'.cell? ⟨b1, o1 + j * 6 + 1 + 1 + 1 + 1 + 1, none⟩ = some (.int .i64 q.f)) (by kernel_rfl) 192 hn (by kernel_rfl) rfl (by kernel_rfl) (hSS) (fun a b ha hb => ?_)
  subst ha
  have hb4 : b 4 = .slice (some ⟨b1, o1, none⟩) len c := (hb 4).symm.trans h_4
  have hb5 : b 5 = .int .i64 (k : Int) := (hb 5).symm.trans h_5
  have hb6 : b 6 = .int .i64 (j : Int) := (hb 6).symm.trans h_6
  clear hb h_4 h_5 h_6
  have HP := Lib.hid hpost; have HN := Lib.hid hn
  clear hpost hn
  refine Eng.Sch.take (v := ?_) rfl rfl (by decide) (by kernel_rfl) (fun w hw => ?_) ?_
  rotate_left
  · (try dsimp only at hw); go_simp; first | done | with_reducible rfl
  refine Eng.Sch.take (v := ?_) rfl rfl (by decide) (by kernel_rfl) (fun w hw => ?_) ?_
  rotate_left
  · (try dsimp only at hw); go_simp; first | done | with_reducible rfl
  refine Eng.Sch.take (v := ?_) rfl rfl (by decide) (by kernel_rfl) (fun w hw => ?_) ?_
  rotate_left
  · (try dsimp only at hw); go_simp; first | done | with_reducible rfl
  refine Eng.Sch.take (v := ?_) rfl rfl (by decide) (by kernel_rfl) (fun w hw => ?_) ?_
  rotate_left
  · (try dsimp only at hw); go_simp; first | done | with_reducible rfl
  refine Eng.Sch.take (v := ?_) rfl rfl (by decide) (by kernel_rfl) (fun w hw => ?_) ?_
  rotate_left
  · (try dsimp only at hw); go_simp; first | done | with_reducible rfl
  refine Eng.Sch.take (v := ?_) rfl rfl (by decide) (by kernel_rfl) (fun w hw => ?_) ?_
  rotate_left
  · (try dsimp only at hw); go_simp; first | done | with_reducible rfl
  refine Eng.Sch.take (v := ?_) rfl rfl (by decide) (by kernel_rfl) (fun w hw => ?_) ?_
  rotate_left
  · (try dsimp only at hw); go_simp; first | done | with_reducible rfl
  refine Eng.Sch.take (v := ?_) rfl rfl (by decide) (by kernel_rfl) (fun w hw => ?_) ?_
  rotate_left
  · (try dsimp only at hw); go_simp; first | done | with_reducible rfl
  refine Eng.Sch.take (v := ?_) rfl rfl (by decide) (by kernel_rfl) (fun w hw => ?_) ?_
  rotate_left
  · (try dsimp only at hw); go_simp; first | done | with_reducible rfl
  refine Eng.Sch.take (v := ?_) rfl rfl (by decide) (by kernel_rfl) (fun w hw => ?_) ?_
  rotate_left
  · (try dsimp only at hw); go_simp; first | done | with_reducible rfl
  refine Eng.Sch.take (v := ?_) rfl rfl (by decide) (by kernel_rfl) (fun w hw => ?_) ?_
  rotate_left
  · (try dsimp only at hw); go_simp; first | done | with_reducible rfl
  refine Eng.Sch.take (v := ?_) rfl rfl (by decide) (by kernel_rfl) (fun w hw => ?_) ?_
  rotate_left
  · (try dsimp only at hw); go_simp; first | done | with_reducible rfl
  refine Eng.Sch.end_ [44, 45, 46, 47, 48, 49, 50, 51, 52, 53, 54, 55] HN.out (by kernel_rfl) (by kernel_rfl) ?_
  exact HP.out _ _ rfl HSt.out

set_option maxRecDepth 100000 in
set_option maxHeartbeats 4000000 in
theorem below_ (A0 : Option Addr) (c0 : Nat) (a : List Sn) (w : World) (h0 : Ls w A0 c0 a) :
    Calls Try.prog 8 #[.slice A0 a.length c0] w fun e w' => e = .returned (.bool true) ∧ Below w.heap.size w w' := by
  have HA := Lib.hid h0
  have HB := Lib.hid (Below.refl w.heap.size w)
  clear h0
  go_enter Try.func8, Try.ntmps8
  go_wp2_with fail
  refine (SetF.Few _ _ 30 a w HA.out.s).mono ?_
  rintro e w1 ⟨rfl, hf⟩
  have hb := hf.below (Nat.le_refl _) (fun _ _ h => h)
  clear hf
  replace HA := Lib.hid (HA.out.below hb)
  replace HB := Lib.hid (HB.out.trans (hb.mono HB.out.size))
  clear hb
  cases hq : fewB a 30 with
  | false =>
      go_wp2_with fail
      refine (awake w1).mono ?_
      rintro e w2 ⟨rfl, hb⟩
      replace HA := Lib.hid (HA.out.below hb)
      replace HB := Lib.hid (HB.out.trans (hb.mono HB.out.size))
      clear hb
      go_wp2_with fail
      go_ret
      exact ⟨rfl, HB.out⟩
  | true =>
      have hq_a := few_len hq
      clear hq
      have hsl := Nat.le_trans (spn_len a) hq_a
      have HSp := Lib.hid (RefSpans A0 c0 a w1 HA.out (by omega))
      have HSr := Lib.hid (spn_srs a)
      have HId : Hid (∀ x ∈ spn a, x.i ≠ 0) := fun x hx => spn_id hx
      obtain ⟨M, hM⟩ : ∃ M, spn a = M := ⟨_, rfl⟩
      obtain ⟨P, hP⟩ : ∃ P, plcs M = P := ⟨_, rfl⟩
      have hPl : P.length = M.length := by rw [← hP]; simp
      have HOf := Lib.hid (fun (w' : World) (h : Ls w' A0 c0 a) => OfE h (by omega) P (by rw [hM]; exact hP) M.length hPl)
      rw [hM] at HSp HSr HId hsl
      have HPe := Lib.hid hP; have HPl := Lib.hid hPl
      clear hM hP hPl
      go_wp2_with fail
      refine (HSp.out).mono ?_
      rintro e w2 ⟨A1, c1, rfl, hls, -, hb⟩
      replace HA := Lib.hid (HA.out.below hb)
      replace HB := Lib.hid (HB.out.trans (hb.mono HB.out.size))
      clear hb
      have HM := Lib.hid hls
      clear hls HSp
      go_wp2_with fail
      refine (HOf.out w2 HA.out).mono ?_
      rintro e w3 ⟨A2, c2, rfl, hls, hb⟩
      replace HA := Lib.hid (HA.out.below hb)
      replace HM := Lib.hid (HM.out.below hb)
      replace HB := Lib.hid (HB.out.trans (hb.mono HB.out.size))
      clear hb
      have HP := Lib.hid hls
      clear hls
      clear HOf
      have q0 : ((M.length : Int) != (M.length : Int)) = false := by simp
      go_wp2_with fail
      go_loopg [5] M.length (fun gk i wr => ∃ k : Nat, i = .int .i64 k ∧ k ≤ M.length ∧ gk = M.length - k ∧ Fr (fun _ => False) w3 wr)
      case atStart => exact ⟨0, rfl, Nat.zero_le _, rfl, Fr.refl _ _⟩
      case round =>
        obtain ⟨k, rfl, hk, hg, hf⟩ := hrel
        have HG := Lib.hid hg; have HF := Lib.hid hf
        clear hg hf
        by_cases hlt : k < M.length
        · have hkp : k < P.length := by rw [HPl.out]; exact hlt
          obtain ⟨b1, o1, rfl, hb1, c1'⟩ := HM.out.s.at hlt (by omega)
          obtain ⟨b2, o2, rfl, hb2, c2'⟩ := HP.out.s.at (i := k) (by omega) (by omega)
          have H1 := Lib.hid ((At.row c1' hlt).keep HF.out); have H2 := Lib.hid ((AtP.row c2' hkp).keep HF.out)
          have hC : BelC P M[k] P[k] (fdI P M[k].t M[k].p) ∧ P[k].t = M[k].t ∧ P[k].i = M[k].i := by
            have h2 : ∀ (Q : List Pc) (e : plcs M = Q) (h : k < Q.length), BelC Q M[k] Q[k] (fdI Q M[k].t M[k].p) ∧ Q[k].t = M[k].t ∧ Q[k].i = M[k].i := fun Q e h => by
              subst e; rw [List.getElem_map]; exact ⟨belC HSr.out HId.out (by omega) (List.getElem_mem hlt), rfl, rfl⟩
            exact h2 P HPe.out hkp
          obtain ⟨hC, e1, e2⟩ := hC
          have hy1 : (P[k].t != M[k].t) = false := by rw [e1]; simp
          have hy2 : (P[k].i != M[k].i) = false := by rw [e2]; simp
          have HPq : ∀ (j : Nat) (h : j < P.length), Hid (AtP wr b2 (o2 + j * 6) P[j]) := fun j h => (AtP.row c2' h).keep HF.out
          clear c1' hb1 c2' hb2 e1 e2
          generalize M[k] = y at *
          generalize P[k] = p at *
          obtain ⟨kk, hkk⟩ : ∃ kk, fdI P y.t y.p = kk := ⟨_, rfl⟩
          rw [hkk] at hC
          have HPw := Lib.hid (HP.out.below (HF.out.below (Nat.le_refl _) (fun _ _ h => h)))
          have hlm : M.length ≤ 9223372036854775807 := by omega
          have q1 : (0 : Int) ≤ (k : Int) := by omega
          have q2 : decide ((k : Int) < (M.length : Int)) = true := by simp; omega
          have q3 : (k : Int) < (M.length : Int) := by omega
          have HCl := Lib.hid hC; have HKK := Lib.hid hkk; have Hy1 := Lib.hid hy1; have Hy2 := Lib.hid hy2
          clear hC hkk hy1 hy2
          go_upto_region 9 with (fail)
          refine cb9 (by kernel_rfl) _ _ wr wr b1 o1 _ c1 k y P _ _ _ kk ⟨H1.out, HPw.out, Fr.refl _ _⟩ hlt hlm HKK.out rfl rfl rfl rfl ?_
          intro x w21 h17 hst
          simp only [Eng.setAll, Act.put, List.setIfInBounds_toArray, List.set_cons_succ, List.set_cons_zero]
          rw [h17]
          have F1 := Lib.hid hst.f
          clear h17 hst
          have H1 := Lib.hid (H1.out.keep F1.out); have H2 := Lib.hid (H2.out.keep F1.out)
          go_upto_region 12 with (fail)
          refine cb12 (by kernel_rfl) _ _ w21 w21 b1 o1 _ c1 b2 o2 _ k y p ⟨H1.out, H2.out, Fr.refl _ _⟩ hlt hlm Hy1.out Hy2.out rfl rfl rfl rfl ?_
          intro x w22 h17 hst
          simp only [Eng.setAll, Act.put, List.setIfInBounds_toArray, List.set_cons_succ, List.set_cons_zero]
          rw [h17]
          have F2k := Lib.hid hst.f
          have F2 := Lib.hid (F1.out.trans hst.f (fun _ _ h => h) (fun _ _ h => h))
          have H1 := Lib.hid (H1.out.keep hst.f); have H2 := Lib.hid (H2.out.keep hst.f)
          clear h17 hst
          have yc0 : w22.cell? ⟨b1, o1 + k * 9, none⟩ = some (.int .i64 y.t) := H1.out 0 _ rfl
          have yc1 : w22.cell? ⟨b1, o1 + k * 9 + 1, none⟩ = some (.int .i64 y.i) := H1.out 1 _ rfl
          have yc2 : w22.cell? ⟨b1, o1 + k * 9 + 1 + 1, none⟩ = some (.int .i64 y.p) := H1.out 2 _ rfl
          have yc3 : w22.cell? ⟨b1, o1 + k * 9 + 1 + 1 + 1, none⟩ = some (.int .i64 y.r) := H1.out 3 _ rfl
          have yc4 : w22.cell? ⟨b1, o1 + k * 9 + 1 + 1 + 1 + 1, none⟩ = some (.string y.s) := H1.out 4 _ rfl
          have yc5 : w22.cell? ⟨b1, o1 + k * 9 + 1 + 1 + 1 + 1 + 1, none⟩ = some (.string y.o) := H1.out 5 _ rfl
          have yc6 : w22.cell? ⟨b1, o1 + k * 9 + 1 + 1 + 1 + 1 + 1 + 1, none⟩ = some (.int .i64 y.b) := H1.out 6 _ rfl
          have yc7 : w22.cell? ⟨b1, o1 + k * 9 + 1 + 1 + 1 + 1 + 1 + 1 + 1, none⟩ = some (.int .i64 y.d) := H1.out 7 _ rfl
          have yc8 : w22.cell? ⟨b1, o1 + k * 9 + 1 + 1 + 1 + 1 + 1 + 1 + 1 + 1, none⟩ = some (.bool y.g) := H1.out 8 _ rfl
          have hC := HCl.out
          clear HCl
          cases hC with
          | root _ h0 h1 h2 h3 =>
            have t0 : (y.p == 0) = true := by rw [h0]; rfl
            have U1 : Hid ((p.c != 1) = false) := by show _ = _; rw [h1]; rfl
            have U2 : Hid ((p.d != 1) = false) := by show _ = _; rw [h2]; rfl
            have U3 : Hid ((p.p != p.i) = false) := by show _ = _; rw [h3]; simp
            clear h0 h1 h2 h3
            go_upto_region 15 with (fail)
            refine cb15 (by kernel_rfl) _ _ w22 w22 b2 o2 _ c2 k p ⟨H2.out, Fr.refl _ _⟩ hlt hlm U1.out U2.out U3.out rfl rfl rfl ?_
            intro x w23 h17 hst
            simp only [Eng.setAll, Act.put, List.setIfInBounds_toArray, List.set_cons_succ, List.set_cons_zero]
            rw [h17]
            have F3 := Lib.hid (F2.out.trans hst.f (fun _ _ h => h) (fun _ _ h => h))
            clear h17
            clear hst t0 yc0 yc1 yc2 yc3 yc4 yc5 yc6 yc7 yc8
            go_wp2_with fail
            go_roundg (M.length - (k + 1))
            case rel => exact ⟨k + 1, by go_num, by omega, rfl, HF.out.trans F3.out (fun _ _ h => h) (fun _ _ h => h)⟩
            case measure => have := HG.out; omega
          | orph _ h0 hk0 h1 h2 h3 =>
            have t0 : (y.p == 0) = false := by simpa using h0
            have tk : decide (kk < 0) = true := by simp; exact hk0
            clear hk0
            have U1 : Hid ((p.c != 2) = false) := by show _ = _; rw [h1]; rfl
            have U2 : Hid ((p.d != 1) = false) := by show _ = _; rw [h2]; rfl
            have U3 : Hid ((p.p != p.i) = false) := by show _ = _; rw [h3]; simp
            clear h0 h1 h2 h3
            go_upto_region 18 with (fail)
            refine cb18 (by kernel_rfl) _ _ w22 w22 b2 o2 _ c2 k p ⟨H2.out, Fr.refl _ _⟩ hlt hlm U1.out U2.out U3.out rfl rfl rfl ?_
            intro x w23 h17 hst
            simp only [Eng.setAll, Act.put, List.setIfInBounds_toArray, List.set_cons_succ, List.set_cons_zero]
            rw [h17]
            have F3 := Lib.hid (F2.out.trans hst.f (fun _ _ h => h) (fun _ _ h => h))
            clear h17
            clear hst t0 tk yc0 yc1 yc2 yc3 yc4 yc5 yc6 yc7 yc8
            go_wp2_with fail
            go_roundg (M.length - (k + 1))
            case rel => exact ⟨k + 1, by go_num, by omega, rfl, HF.out.trans F3.out (fun _ _ h => h) (fun _ _ h => h)⟩
            case measure => have := HG.out; omega
          | ring j q hj h0 hq h1 h2 h3 h4 h5 =>
            have t0 : (y.p == 0) = false := by simpa using h0
            have tk : decide ((j : Int) < 0) = false := by simp
            have HQ := (HPq j hj).out
            rw [hq] at HQ
            have HQ := Lib.hid ((HQ.keep F1.out).keep F2k.out)
            have hjl : j < M.length := by have := HPl.out; omega
            have U1 : Hid ((p.c != q.c) = false) := by show _ = _; rw [h1]; simp
            have U2 : Hid ((p.p != q.p) = false) := by show _ = _; rw [h2]; simp
            have U3 : (p.c == 3) = true := by rw [h3]; rfl
            have U4 : (p.d != 0) = false := by rw [h4]; rfl
            have U5 : (p.p != 0) = false := by rw [h5]; rfl
            clear h0 h1 h2 h3 h4 h5 hq
            go_upto_region 20 with (fail)
            refine cb20 (by kernel_rfl) _ _ w22 w22 b2 o2 _ c2 k j p q ⟨H2.out, HQ.out, Fr.refl _ _⟩ hlt hjl hlm U1.out U2.out rfl rfl rfl rfl ?_
            intro x w23 h17 hst
            simp only [Eng.setAll, Act.put, List.setIfInBounds_toArray, List.set_cons_succ, List.set_cons_zero]
            rw [h17]
            have F3 := Lib.hid (F2.out.trans hst.f (fun _ _ h => h) (fun _ _ h => h))
            clear h17
            have HP3 := Lib.hid hst.a; have HQ3 := Lib.hid hst.b
            clear hst t0 tk yc0 yc1 yc2 yc3 yc4 yc5 yc6 yc7 yc8
            have pc0 : w23.cell? ⟨b2, o2 + k * 6, none⟩ = some (.int .i64 p.t) := HP3.out 0 _ rfl
            have pc1 : w23.cell? ⟨b2, o2 + k * 6 + 1, none⟩ = some (.int .i64 p.i) := HP3.out 1 _ rfl
            have pc2 : w23.cell? ⟨b2, o2 + k * 6 + 1 + 1, none⟩ = some (.int .i64 p.c) := HP3.out 2 _ rfl
            have pc3 : w23.cell? ⟨b2, o2 + k * 6 + 1 + 1 + 1, none⟩ = some (.int .i64 p.d) := HP3.out 3 _ rfl
            have pc4 : w23.cell? ⟨b2, o2 + k * 6 + 1 + 1 + 1 + 1, none⟩ = some (.int .i64 p.p) := HP3.out 4 _ rfl
            have pc5 : w23.cell? ⟨b2, o2 + k * 6 + 1 + 1 + 1 + 1 + 1, none⟩ = some (.int .i64 p.f) := HP3.out 5 _ rfl
            go_wp2_with fail
            go_roundg (M.length - (k + 1))
            case rel => exact ⟨k + 1, by go_num, by omega, rfl, HF.out.trans F3.out (fun _ _ h => h) (fun _ _ h => h)⟩
            case measure => have := HG.out; omega
          | low j q hj h0 hq h1 h2 h3 h4 h5 h6 =>
            have t0 : (y.p == 0) = false := by simpa using h0
            have tk : decide ((j : Int) < 0) = false := by simp
            have HQ := (HPq j hj).out
            rw [hq] at HQ
            have HQ := Lib.hid ((HQ.keep F1.out).keep F2k.out)
            have hjl : j < M.length := by have := HPl.out; omega
            have U1 : Hid ((p.c != q.c) = false) := by show _ = _; rw [h1]; simp
            have U2 : Hid ((p.p != q.p) = false) := by show _ = _; rw [h2]; simp
            have U3 : (p.c == 3) = false := by simpa using h3
            have U4 : Hid ((p.d != q.d + 1) = false) := by show _ = _; rw [h4]; simp
            have U5 := Lib.hid h5; have U6 := Lib.hid h6
            clear h0 h1 h2 h3 h4 h5 hq h6
            go_upto_region 20 with (fail)
            refine cb20 (by kernel_rfl) _ _ w22 w22 b2 o2 _ c2 k j p q ⟨H2.out, HQ.out, Fr.refl _ _⟩ hlt hjl hlm U1.out U2.out rfl rfl rfl rfl ?_
            intro x w23 h17 hst
            simp only [Eng.setAll, Act.put, List.setIfInBounds_toArray, List.set_cons_succ, List.set_cons_zero]
            rw [h17]
            have F3 := Lib.hid (F2.out.trans hst.f (fun _ _ h => h) (fun _ _ h => h))
            clear h17
            have HP3 := Lib.hid hst.a; have HQ3 := Lib.hid hst.b
            clear hst t0 tk yc0 yc1 yc2 yc3 yc4 yc5 yc6 yc7 yc8
            have pc0 : w23.cell? ⟨b2, o2 + k * 6, none⟩ = some (.int .i64 p.t) := HP3.out 0 _ rfl
            have pc1 : w23.cell? ⟨b2, o2 + k * 6 + 1, none⟩ = some (.int .i64 p.i) := HP3.out 1 _ rfl
            have pc2 : w23.cell? ⟨b2, o2 + k * 6 + 1 + 1, none⟩ = some (.int .i64 p.c) := HP3.out 2 _ rfl
            have pc3 : w23.cell? ⟨b2, o2 + k * 6 + 1 + 1 + 1, none⟩ = some (.int .i64 p.d) := HP3.out 3 _ rfl
            have pc4 : w23.cell? ⟨b2, o2 + k * 6 + 1 + 1 + 1 + 1, none⟩ = some (.int .i64 p.p) := HP3.out 4 _ rfl
            have pc5 : w23.cell? ⟨b2, o2 + k * 6 + 1 + 1 + 1 + 1 + 1, none⟩ = some (.int .i64 p.f) := HP3.out 5 _ rfl
            go_upto_region 10 with (fail)
            refine cb10 (by kernel_rfl) _ _ w23 w23 b2 o2 _ c2 k j p q ⟨HP3.out, HQ3.out, Fr.refl _ _⟩ hlt hjl hlm U4.out U5.out U6.out rfl rfl rfl rfl ?_
            intro x w24 h17 hst
            simp only [Eng.setAll, Act.put, List.setIfInBounds_toArray, List.set_cons_succ, List.set_cons_zero]
            rw [h17]
            have F4 := Lib.hid (F3.out.trans hst.f (fun _ _ h => h) (fun _ _ h => h))
            clear h17
            clear hst U3 pc0 pc1 pc2 pc3 pc4 pc5
            go_wp2_with fail
            go_roundg (M.length - (k + 1))
            case rel => exact ⟨k + 1, by go_num, by omega, rfl, HF.out.trans F4.out (fun _ _ h => h) (fun _ _ h => h)⟩
            case measure => have := HG.out; omega
        · obtain rfl : k = M.length := by omega
          have q2 : decide ((M.length : Int) < (M.length : Int)) = false := by simp
          have hb := HF.out.below (Nat.le_refl _) (fun _ _ h => h)
          replace HB := Lib.hid (HB.out.trans (hb.mono HB.out.size))
          clear hb
          go_wp2_with fail
          refine (awake wr).mono ?_
          rintro e w30 ⟨rfl, hb⟩
          replace HB := Lib.hid (HB.out.trans (hb.mono HB.out.size))
          clear hb
          go_wp2_with fail
          go_ret
          exact ⟨rfl, HB.out⟩
end Law21
end Go.Proofs.Ytmcghchhegfilaa
