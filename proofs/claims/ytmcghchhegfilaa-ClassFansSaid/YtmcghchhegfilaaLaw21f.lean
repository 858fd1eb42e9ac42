/- Layer 21's statements: ClassFans: for every input the answer is true. -/
import Derived.Test.YtmcghchhegfilaaLaw21b
namespace Go.Proofs.Ytmcghchhegfilaa
open Go.RowKit
namespace Law21
open KeyP PackP SetP SetW SetF Cls ClsW ClsS ClsF Pack
attribute [local go_sem] Eng.ev Eng.getO_cons Eng.getO_nil
theorem fd_iff {M : List Sn} {t i : Int} : 0 ≤ fdI (plcs M) t i ↔ (nx M t i).isSome = true := by
  cases h : nx M t i with
  | none => rw [fd_no h]; simp
  | some y => obtain ⟨k, hk, hfd, -⟩ := fd_yes h; rw [hfd]; simp
/-- What a span's chain says of its place: m + 1 numbers, the last e, at j the span z of it. -/
structure FanC (M : List Sn) (P : List Pc) (y : Sn) (p : Pc) (l : List Int) (m j : Nat) (hj : j < M.length) (e kk up : Int) : Prop where
  il : ids (wy M p.t p.i) = l
  n : l.length = m + 1
  ie : l[m]? = some e
  ij : fdI P p.t e = (j : Int)
  k : fdI P y.t y.p = kk
  u : fdI P p.t M[j].p = up
  c : 0 ≤ up ↔ p.c = 3
  d : p.c ≠ 3 → p.d = ((m + 1 : Nat) : Int)
  b : p.d ≤ (M.length : Int)
  f : p.f = (fan M y : Int)
  x : 0 ≤ kk ↔ (nx M y.t y.p).isSome = true
theorem fanC {M : List Sn} (hs : Srs M) {x : Sn} (hx : x ∈ M) : ∃ l m j hj e kk up, FanC M (plcs M) x (plc M x) l m j hj e kk up := by
  obtain ⟨s, z, hw, hz, hzt, hc, hd, hle, hge⟩ := cdt_way hs hx
  obtain ⟨j, hj, hfd, hjz⟩ := fd_yes (nx_mem hs hz)
  refine ⟨_, s.length, j, hj, z.i, _, _, ⟨rfl, ?_, ?_, ?_, rfl, rfl, ?_, hd, hle, rfl, fd_iff⟩⟩
  · show (ids (wy M x.t x.i)).length = _; rw [wy, hw]; simp
  · show (ids (wy M x.t x.i))[s.length]? = _; rw [wy, hw]; simp
  · show fdI (plcs M) x.t z.i = _; rw [← hzt]; exact hfd
  · show 0 ≤ fdI (plcs M) x.t M[j].p ↔ (cdt M x).1 = 3
    rw [hjz, fd_iff, hc]
structure FC (w0 w : World) (b o : Nat) (p : Pc) (A0 : Option Addr) (c0 : Nat) (la : List Sn) : Prop where
  a : AtP w b o p
  l : Ls w A0 c0 la
  f : Fr (fun _ => False) w0 w
theorem FC.fr {w0 w w' : World} {b o : Nat} {p : Pc} {A0 : Option Addr} {c0 : Nat} {a : List Sn} (H : FC w0 w b o p A0 c0 a) (hf : Fr (fun _ => False) w w') : FC w0 w' b o p A0 c0 a := ⟨H.a.keep hf, H.l.below (hf.below (Nat.le_refl _) (fun _ _ h => h)), H.f.trans hf (fun _ _ h => h) (fun _ _ h => h)⟩
structure FD (w0 w : World) (b o : Nat) (p : Pc) (A : Option Addr) (c n : Nat) (l : List Int) : Prop where
  a : AtP w b o p
  i : Il w A c n l
  f : Fr (fun _ => False) w0 w
theorem FC.next {w0 w w' : World} {b o : Nat} {p : Pc} {A0 : Option Addr} {c0 : Nat} {a : List Sn} (H : FC w0 w b o p A0 c0 a) {A : Option Addr} {c n : Nat} {l : List Int} (hi : Il w' A c n l) (hb : Below w.heap.size w w') : FD w0 w' b o p A c n l := ⟨H.a.keep (Fr.of_below' hb _), hi, H.f.trans (Fr.of_below' hb (fun _ => False)) (fun _ _ h => h) (fun _ _ h => h)⟩
structure FE (w0 w : World) (b o b3 o3 : Nat) (p : Pc) (e : Int) (A : Option Addr) (c n : Nat) (P : List Pc) : Prop where
  a : AtP w b o p
  z : w.cell? ⟨b3, o3, none⟩ = some (.int .i64 e)
  p : Pl w A c n P
  f : Fr (fun _ => False) w0 w
theorem cell_lt {w : World} {b o : Nat} {v : Value} (h : w.cell? ⟨b, o, none⟩ = some v) : b < w.heap.size := by
  simp only [World.cell?] at h
  rcases Nat.lt_or_ge b w.heap.size with h1 | h1
  · exact h1
  · rw [Array.getElem?_eq_none h1] at h; cases h
theorem cell_keep {w w' : World} {b o : Nat} {v : Value} (h : w.cell? ⟨b, o, none⟩ = some v) (hf : Fr (fun _ => False) w w') : w'.cell? ⟨b, o, none⟩ = some v := by
  rw [← h]
  simp only [World.cell?]
  rw [hf.block b (cell_lt h) (fun h => h)]
theorem FE.fr {w0 w w' : World} {b o b3 o3 : Nat} {p : Pc} {e : Int} {A : Option Addr} {c n : Nat} {P : List Pc} (H : FE w0 w b o b3 o3 p e A c n P) (hf : Fr (fun _ => False) w w') : FE w0 w' b o b3 o3 p e A c n P := ⟨H.a.keep hf, cell_keep H.z hf, H.p.below (hf.below (Nat.le_refl _) (fun _ _ h => h)), H.f.trans hf (fun _ _ h => h) (fun _ _ h => h)⟩
structure FG (w0 w : World) (b o b' o' : Nat) (p : Pc) (z : Sn) (A : Option Addr) (c n : Nat) (P : List Pc) : Prop where
  a : AtP w b o p
  z : At w b' o' z
  p : Pl w A c n P
  f : Fr (fun _ => False) w0 w
theorem FG.fr {w0 w w' : World} {b o b' o' : Nat} {p : Pc} {z : Sn} {A : Option Addr} {c n : Nat} {P : List Pc} (H : FG w0 w b o b' o' p z A c n P) (hf : Fr (fun _ => False) w w') : FG w0 w' b o b' o' p z A c n P := ⟨H.a.keep hf, H.z.keep hf, H.p.below (hf.below (Nat.le_refl _) (fun _ _ h => h)), H.f.trans hf (fun _ _ h => h) (fun _ _ h => h)⟩
set_option maxRecDepth 100000 in
set_option maxHeartbeats 400000 in
theorem cf11 {ops : Array Oper} (hops : Eng.fnOps Try.f9 11 = ops) (a0 : Act) (Q : Exit → Act → World → Prop) (w0 w : World) (b1 o1 len c k : Nat) (y : Sn) (P : List Pc) (A2 : Option Addr) (c2 n2 : Nat) (kk : Int) (hst : TR w0 w b1 (o1 + k * 9) y A2 c2 n2 P) (hk : k < len) (hlen : len ≤ 9223372036854775807) (hkk : fdI P y.t y.p = kk)
    (hn : a0.tmps.size = 157) (h_3 : a0.tmps.getD 3 undef = .slice (some ⟨b1, o1, none⟩) len c) (h_4 : a0.tmps.getD 4 undef = .slice A2 n2 c2) (h_7 : a0.tmps.getD 7 undef = .int .i64 (k : Int))
    (hpost : ∀ (x : Nat → Value) (w' : World), x 55 = .bool (decide (kk ≥ 0)) → TR w0 w' b1 (o1 + k * 9) y A2 c2 n2 P → Q .normal (Eng.setAll a0 [43, 44, 45, 46, 47, 48, 49, 50, 51, 52, 53, 54, 55] x) w') :
    (Code.region 11 ops true).wp Try.prog Q a0 w := by
  simp only [Eng.fnOps, Eng.regOps, Try.f9, Option.bind_some, Option.getD_some, Nat.reduceEqDiff, ↓reduceIte, Nat.reduceBEq] at hops
  subst hops
  have q1 : (0 : Int) ≤ (k : Int) := by omega
  have q2 : (k : Int) < (len : Int) := by omega
  have HSt := Lib.hid (hst.fr (Fr.drew _ _))
  have hSS : w.drew.cell? ⟨b1, o1 + k * 9, none⟩ = some (.int .i64 y.t) ∧ w.drew.cell? ⟨b1, o1 + k * 9 + 1, none⟩ = some (.int .i64 y.i) ∧ w.drew.cell? ⟨b1, o1 + k * 9 + 1 + 1, none⟩ = some (.int .i64 y.p) ∧ w.drew.cell? ⟨b1, o1 + k * 9 + 1 + 1 + 1, none⟩ = some (.int .i64 y.r) ∧ w.drew.cell? ⟨b1, o1 + k * 9 + 1 + 1 + 1 + 1, none⟩ = some (.string y.s) ∧ w.drew.cell? ⟨b1, o1 + k * 9 + 1 + 1 + 1 + 1 + 1, none⟩ = some (.string y.o) ∧ w.drew.cell? ⟨b1, o1 + k * 9 + 1 + 1 + 1 + 1 + 1 + 1, none⟩ = some (.int .i64 y.b) ∧ w.drew.cell? ⟨b1, o1 + k * 9 + 1 + 1 + 1 + 1 + 1 + 1 + 1, none⟩ = some (.int .i64 y.d) ∧ w.drew.cell? ⟨b1, o1 + k * 9 + 1 + 1 + 1 + 1 + 1 + 1 + 1 + 1, none⟩ = some (.bool y.g) := ⟨HSt.out.a 0 _ rfl, HSt.out.a 1 _ rfl, HSt.out.a 2 _ rfl, HSt.out.a 3 _ rfl, HSt.out.a 4 _ rfl, HSt.out.a 5 _ rfl, HSt.out.a 6 _ rfl, HSt.out.a 7 _ rfl, HSt.out.a 8 _ rfl⟩
  refine Eng.regionN [(0, true), (1, true), (2, true), (3, true), (4, true), (5, true), (6, true), (7, true), (8, true), (9, true), (10, true), (11, false), (12, true)] (fun w' => w'.cell? ⟨b1, o1 + k * 9, none⟩ = some (.int .i64 y.t) ∧ w'.cell? ⟨b1, o1 + k * 9 + 1, none⟩ = some (.int .i64 y.i) ∧ w'.cell? ⟨b1, o1 + k * 9 + 1 + 1, none⟩ = some (.int .i64 y.p) ∧ w'.cell? ⟨b1, o1 + k * 9 + 1 + 1 + 1, none⟩ = some (.int .i64 y.r) ∧ w'.cell? ⟨b1, o1 + k * 9 + 1 + 1 + 1 + 1, none⟩ = some (.string y.s) ∧ w'.cell? ⟨b1, o1 + k * 9 + 1 + 1 + 1 + 1 + 1, none⟩ = some (.string y.o) ∧ w'.cell? ⟨b1, o1 + k * 9 + 1 + 1 + 1 + 1 + 1 + 1, none⟩ = some (.int .i64 y.b) ∧ w'.cell? ⟨b1, o1 + k * 9 + 1 + 1 + 1 + 1 + 1 + 1 + 1, none⟩ = some (.int .i64 y.d) ∧ w'.cell? ⟨b1, o1 + k * 9 + 1 + 1 + 1 + 1 + 1 + 1 + 1 + 1, none⟩ = some (.bool y.g)) (by kernel_rfl) 157 hn (by kernel_rfl) rfl (by kernel_rfl) (hSS) (fun a b ha hb => ?_)
  subst ha
  have hb3 : b 3 = .slice (some ⟨b1, o1, none⟩) len c := (hb 3).symm.trans h_3
  have hb4 : b 4 = .slice A2 n2 c2 := (hb 4).symm.trans h_4
  have hb7 : b 7 = .int .i64 (k : Int) := (hb 7).symm.trans h_7
  clear hb h_3 h_4 h_7
  have HP := Lib.hid hpost; have HN := Lib.hid hn
  clear hpost hn
  refine Eng.Sch.take (v := ?_) rfl rfl (by decide) (by kernel_rfl) (fun w hw => ?_) ?_
  rotate_left
  · (try dsimp only at hw); go_simp; first | done | with_reducible rfl
  refine Eng.Sch.take (v := ?_) rfl rfl (by decide) (by kernel_rfl) (fun w hw => ?_) ?_
  rotate_left
  · (try dsimp only at hw); go_simp; first | done | with_reducible rfl
  refine Eng.Sch.take (v := ?_) rfl rfl (by decide) (by kernel_rfl) (fun w hw => ?_) ?_
  rotate_left
  · (try dsimp only at hw); go_simp; first | done | with_reducible rfl
  refine Eng.Sch.take (v := ?_) rfl rfl (by decide) (by kernel_rfl) (fun w hw => ?_) ?_
  rotate_left
  · (try dsimp only at hw); go_simp; first | done | with_reducible rfl
  refine Eng.Sch.take (v := ?_) rfl rfl (by decide) (by kernel_rfl) (fun w hw => ?_) ?_
  rotate_left
  · (try dsimp only at hw); go_simp; first | done | with_reducible rfl
  refine Eng.Sch.take (v := ?_) rfl rfl (by decide) (by kernel_rfl) (fun w hw => ?_) ?_
  rotate_left
  · (try dsimp only at hw); go_simp; first | done | with_reducible rfl
  refine Eng.Sch.take (v := ?_) rfl rfl (by decide) (by kernel_rfl) (fun w hw => ?_) ?_
  rotate_left
  · (try dsimp only at hw); go_simp; first | done | with_reducible rfl
  refine Eng.Sch.take (v := ?_) rfl rfl (by decide) (by kernel_rfl) (fun w hw => ?_) ?_
  rotate_left
  · (try dsimp only at hw); go_simp; first | done | with_reducible rfl
  refine Eng.Sch.take (v := ?_) rfl rfl (by decide) (by kernel_rfl) (fun w hw => ?_) ?_
  rotate_left
  · (try dsimp only at hw); go_simp; first | done | with_reducible rfl
  refine Eng.Sch.take (v := ?_) rfl rfl (by decide) (by kernel_rfl) (fun w hw => ?_) ?_
  rotate_left
  · (try dsimp only at hw); go_simp; first | done | with_reducible rfl
  refine Eng.Sch.take (v := ?_) rfl rfl (by decide) (by kernel_rfl) (fun w hw => ?_) ?_
  rotate_left
  · (try dsimp only at hw); go_simp; first | done | with_reducible rfl
  refine Eng.Sch.call rfl rfl (by decide) (by kernel_rfl) ?_ (FindE HSt.out.p y.t y.p kk hkk) ?_
  · go_simp
  rintro e w2 ⟨rfl, hf⟩
  have HSt1 := Lib.hid (HSt.out.fr hf)
  have hSS : w2.cell? ⟨b1, o1 + k * 9, none⟩ = some (.int .i64 y.t) ∧ w2.cell? ⟨b1, o1 + k * 9 + 1, none⟩ = some (.int .i64 y.i) ∧ w2.cell? ⟨b1, o1 + k * 9 + 1 + 1, none⟩ = some (.int .i64 y.p) ∧ w2.cell? ⟨b1, o1 + k * 9 + 1 + 1 + 1, none⟩ = some (.int .i64 y.r) ∧ w2.cell? ⟨b1, o1 + k * 9 + 1 + 1 + 1 + 1, none⟩ = some (.string y.s) ∧ w2.cell? ⟨b1, o1 + k * 9 + 1 + 1 + 1 + 1 + 1, none⟩ = some (.string y.o) ∧ w2.cell? ⟨b1, o1 + k * 9 + 1 + 1 + 1 + 1 + 1 + 1, none⟩ = some (.int .i64 y.b) ∧ w2.cell? ⟨b1, o1 + k * 9 + 1 + 1 + 1 + 1 + 1 + 1 + 1, none⟩ = some (.int .i64 y.d) ∧ w2.cell? ⟨b1, o1 + k * 9 + 1 + 1 + 1 + 1 + 1 + 1 + 1 + 1, none⟩ = some (.bool y.g) := ⟨HSt1.out.a 0 _ rfl, HSt1.out.a 1 _ rfl, HSt1.out.a 2 _ rfl, HSt1.out.a 3 _ rfl, HSt1.out.a 4 _ rfl, HSt1.out.a 5 _ rfl, HSt1.out.a 6 _ rfl, HSt1.out.a 7 _ rfl, HSt1.out.a 8 _ rfl⟩
  refine ⟨_, rfl, hSS, ?_⟩
  refine Eng.Sch.take (v := ?_) rfl rfl (by decide) (by kernel_rfl) (fun w hw => ?_) ?_
  rotate_left
  · (try dsimp only at hw); go_simp; first | done | with_reducible rfl
  refine Eng.Sch.end_ [43, 44, 45, 46, 47, 48, 49, 50, 51, 52, 53, 54, 55] HN.out (by kernel_rfl) (by kernel_rfl) ?_
  exact HP.out _ _ rfl HSt1.out

set_option maxRecDepth 100000 in
set_option maxHeartbeats 400000 in
theorem cf13 {ops : Array Oper} (hops : Eng.fnOps Try.f9 13 = ops) (a0 : Act) (Q : Exit → Act → World → Prop) (w0 w : World) (b1 o1 len c k : Nat) (p : Pc) (A0 : Option Addr) (c0 : Nat) (la : List Sn) (l : List Int) (n : Nat) (hst : FC w0 w b1 (o1 + k * 6) p A0 c0 la) (hk : k < len) (hlen : len ≤ 9223372036854775807) (hla : la.length ≤ 900) (ht : in64 p.t) (hi : in64 p.i) (hl : ids (wy (spn la) p.t p.i) = l) (hln : l.length = n)
    (hn : a0.tmps.size = 157) (h_0 : a0.tmps.getD 0 undef = .slice A0 la.length c0) (h_4 : a0.tmps.getD 4 undef = .slice (some ⟨b1, o1, none⟩) len c) (h_7 : a0.tmps.getD 7 undef = .int .i64 (k : Int))
    (hpost : ∀ (x : Nat → Value) (w' : World) (A' : Option Addr) (c' : Nat), x 8 = .slice A' n c' → FD w0 w' b1 (o1 + k * 6) p A' c' n l → Q .normal (Eng.setAll a0 [8, 58, 59, 60, 61, 62, 63, 64, 65, 66, 67, 68, 69] x) w') :
    (Code.region 13 ops true).wp Try.prog Q a0 w := by
  simp only [Eng.fnOps, Eng.regOps, Try.f9, Option.bind_some, Option.getD_some, Nat.reduceEqDiff, ↓reduceIte, Nat.reduceBEq] at hops
  subst hops
  have q1 : (0 : Int) ≤ (k : Int) := by omega
  have q2 : (k : Int) < (len : Int) := by omega
  have HSt := Lib.hid (hst.fr (Fr.drew _ _))
  have hSS : w.drew.cell? ⟨b1, o1 + k * 6, none⟩ = some (.int .i64 p.t) ∧ w.drew.cell? ⟨b1, o1 + k * 6 + 1, none⟩ = some (.int .i64 p.i) ∧ w.drew.cell? ⟨b1, o1 + k * 6 + 1 + 1, none⟩ = some (.int .i64 p.c) ∧ w.drew.cell? ⟨b1, o1 + k * 6 + 1 + 1 + 1, none⟩ = some (.int .i64 p.d) ∧ w.drew.cell? ⟨b1, o1 + k * 6 + 1 + 1 + 1 + 1, none⟩ = some (.int .i64 p.p) ∧ w.drew.cell? ⟨b1, o1 + k * 6 + 1 + 1 + 1 + 1 + 1, none⟩ = some (.int .i64 p.f) := ⟨HSt.out.a 0 _ rfl, HSt.out.a 1 _ rfl, HSt.out.a 2 _ rfl, HSt.out.a 3 _ rfl, HSt.out.a 4 _ rfl, HSt.out.a 5 _ rfl⟩
  refine Eng.regionN [(0, true), (1, true), (2, true), (3, true), (4, true), (5, true), (6, true), (7, true), (8, true), (9, true), (10, true), (11, false), (12, true)] (fun w' => w'.cell? ⟨b1, o1 + k * 6, none⟩ = some (.int .i64 p.t) ∧ w'.cell? ⟨b1, o1 + k * 6 + 1, none⟩ = some (.int .i64 p.i) ∧ w'.cell? ⟨b1, o1 + k * 6 + 1 + 1, none⟩ = some (.int .i64 p.c) ∧ w'.cell? ⟨b1, o1 + k * 6 + 1 + 1 + 1, none⟩ = some (.int .i64 p.d) ∧ w'.cell? ⟨b1, o1 + k * 6 + 1 + 1 + 1 + 1, none⟩ = some (.int .i64 p.p) ∧ w'.cell? ⟨b1, o1 + k * 6 + 1 + 1 + 1 + 1 + 1, none⟩ = some (.int .i64 p.f)) (by kernel_rfl) 157 hn (by kernel_rfl) rfl (by kernel_rfl) (hSS) (fun a b ha hb => ?_)
  subst ha
  have hb0 : b 0 = .slice A0 la.length c0 := (hb 0).symm.trans h_0
  have hb4 : b 4 = .slice (some ⟨b1, o1, none⟩) len c := (hb 4).symm.trans h_4
  have hb7 : b 7 = .int .i64 (k : Int) := (hb 7).symm.trans h_7
  clear hb h_0 h_4 h_7
  have HP := Lib.hid hpost; have HN := Lib.hid hn
  clear hpost hn
  refine Eng.Sch.take (v := ?_) rfl rfl (by decide) (by kernel_rfl) (fun w hw => ?_) ?_
  rotate_left
  · (try dsimp only at hw); go_simp; first | done | with_reducible rfl
  refine Eng.Sch.take (v := ?_) rfl rfl (by decide) (by kernel_rfl) (fun w hw => ?_) ?_
  rotate_left
  · (try dsimp only at hw); go_simp; first | done | with_reducible rfl
  refine Eng.Sch.take (v := ?_) rfl rfl (by decide) (by kernel_rfl) (fun w hw => ?_) ?_
  rotate_left
  · (try dsimp only at hw); go_simp; first | done | with_reducible rfl
  refine Eng.Sch.take (v := ?_) rfl rfl (by decide) (by kernel_rfl) (fun w hw => ?_) ?_
  rotate_left
  · (try dsimp only at hw); go_simp; first | done | with_reducible rfl
  refine Eng.Sch.take (v := ?_) rfl rfl (by decide) (by kernel_rfl) (fun w hw => ?_) ?_
  rotate_left
  · (try dsimp only at hw); go_simp; first | done | with_reducible rfl
  refine Eng.Sch.take (v := ?_) rfl rfl (by decide) (by kernel_rfl) (fun w hw => ?_) ?_
  rotate_left
  · (try dsimp only at hw); go_simp; first | done | with_reducible rfl
  refine Eng.Sch.take (v := ?_) rfl rfl (by decide) (by kernel_rfl) (fun w hw => ?_) ?_
  rotate_left
  · (try dsimp only at hw); go_simp; first | done | with_reducible rfl
  refine Eng.Sch.take (v := ?_) rfl rfl (by decide) (by kernel_rfl) (fun w hw => ?_) ?_
  rotate_left
  · (try dsimp only at hw); go_simp; first | done | with_reducible rfl
  refine Eng.Sch.take (v := ?_) rfl rfl (by decide) (by kernel_rfl) (fun w hw => ?_) ?_
  rotate_left
  · (try dsimp only at hw); go_simp; first | done | with_reducible rfl
  refine Eng.Sch.take (v := ?_) rfl rfl (by decide) (by kernel_rfl) (fun w hw => ?_) ?_
  rotate_left
  · (try dsimp only at hw); go_simp; first | done | with_reducible rfl
  refine Eng.Sch.take (v := ?_) rfl rfl (by decide) (by kernel_rfl) (fun w hw => ?_) ?_
  rotate_left
  · (try dsimp only at hw); go_simp; first | done | with_reducible rfl
  refine Eng.Sch.call rfl rfl (by decide) (by kernel_rfl) ?_ (ChainE HSt.out.l hla ht hi l hl n hln) ?_
  · go_simp
  rintro e w2 ⟨A', c', rfl, hI, hb⟩
  have HSt1 := Lib.hid (HSt.out.next hI hb)
  have hSS : w2.cell? ⟨b1, o1 + k * 6, none⟩ = some (.int .i64 p.t) ∧ w2.cell? ⟨b1, o1 + k * 6 + 1, none⟩ = some (.int .i64 p.i) ∧ w2.cell? ⟨b1, o1 + k * 6 + 1 + 1, none⟩ = some (.int .i64 p.c) ∧ w2.cell? ⟨b1, o1 + k * 6 + 1 + 1 + 1, none⟩ = some (.int .i64 p.d) ∧ w2.cell? ⟨b1, o1 + k * 6 + 1 + 1 + 1 + 1, none⟩ = some (.int .i64 p.p) ∧ w2.cell? ⟨b1, o1 + k * 6 + 1 + 1 + 1 + 1 + 1, none⟩ = some (.int .i64 p.f) := ⟨HSt1.out.a 0 _ rfl, HSt1.out.a 1 _ rfl, HSt1.out.a 2 _ rfl, HSt1.out.a 3 _ rfl, HSt1.out.a 4 _ rfl, HSt1.out.a 5 _ rfl⟩
  refine ⟨_, rfl, hSS, ?_⟩
  refine Eng.Sch.take (v := ?_) rfl rfl (by decide) (by kernel_rfl) (fun w hw => ?_) ?_
  rotate_left
  · (try dsimp only at hw); go_simp; first | done | with_reducible rfl
  refine Eng.Sch.end_ [8, 58, 59, 60, 61, 62, 63, 64, 65, 66, 67, 68, 69] HN.out (by kernel_rfl) (by kernel_rfl) ?_
  exact HP.out _ _ _ _ rfl HSt1.out

set_option maxRecDepth 100000 in
set_option maxHeartbeats 400000 in
theorem cf16 {ops : Array Oper} (hops : Eng.fnOps Try.f9 16 = ops) (a0 : Act) (Q : Exit → Act → World → Prop) (w0 w : World) (b1 o1 len c k b3 o3 n3 c3 m : Nat) (p : Pc) (e : Int) (P : List Pc) (jj : Int) (hst : FE w0 w b1 (o1 + k * 6) b3 (o3 + m) p e (some ⟨b1, o1, none⟩) c len P) (hk : k < len) (hlen : len ≤ 9223372036854775807) (hm : Hid (n3 = m + 1)) (hn3 : n3 ≤ 1000000) (hjj : fdI P p.t e = jj)
    (hn : a0.tmps.size = 157) (h_4 : a0.tmps.getD 4 undef = .slice (some ⟨b1, o1, none⟩) len c) (h_7 : a0.tmps.getD 7 undef = .int .i64 (k : Int)) (h_8 : a0.tmps.getD 8 undef = .slice (some ⟨b3, o3, none⟩) n3 c3)
    (hpost : ∀ (x : Nat → Value) (w' : World), x 9 = .int .i64 jj → FE w0 w' b1 (o1 + k * 6) b3 (o3 + m) p e (some ⟨b1, o1, none⟩) c len P → Q .normal (Eng.setAll a0 [9, 109, 110, 111, 112, 113, 114, 115, 116, 117, 118, 119, 120, 121] x) w') :
    (Code.region 16 ops true).wp Try.prog Q a0 w := by
  simp only [Eng.fnOps, Eng.regOps, Try.f9, Option.bind_some, Option.getD_some, Nat.reduceEqDiff, ↓reduceIte, Nat.reduceBEq] at hops
  subst hops
  have q1 : (0 : Int) ≤ (k : Int) := by omega
  have q2 : (k : Int) < (len : Int) := by omega
  have q5 : IntKind.i64.wrap ((n3 : Int) - 1) = (m : Int) := by have := hm.out; rw [IntKind.wrap_i64]; omega
  have q6 : (0 : Int) ≤ (m : Int) := by omega
  have q7 : (m : Int) < (n3 : Int) := by have := hm.out; omega
  have HSt := Lib.hid (hst.fr (Fr.drew _ _))
  have hSS : w.drew.cell? ⟨b1, o1 + k * 6, none⟩ = some (.int .i64 p.t) ∧ w.drew.cell? ⟨b1, o1 + k * 6 + 1, none⟩ = some (.int .i64 p.i) ∧ w.drew.cell? ⟨b1, o1 + k * 6 + 1 + 1, none⟩ = some (.int .i64 p.c) ∧ w.drew.cell? ⟨b1, o1 + k * 6 + 1 + 1 + 1, none⟩ = some (.int .i64 p.d) ∧ w.drew.cell? ⟨b1, o1 + k * 6 + 1 + 1 + 1 + 1, none⟩ = some (.int .i64 p.p) ∧ w.drew.cell? ⟨b1, o1 + k * 6 + 1 + 1 + 1 + 1 + 1, none⟩ = some (.int .i64 p.f) ∧ w.drew.cell? ⟨b3, o3 + m, none⟩ = some (.int .i64 e) := ⟨HSt.out.a 0 _ rfl, HSt.out.a 1 _ rfl, HSt.out.a 2 _ rfl, HSt.out.a 3 _ rfl, HSt.out.a 4 _ rfl, HSt.out.a 5 _ rfl, HSt.out.z⟩
  refine Eng.regionN [(0, true), (1, true), (2, true), (3, true), (4, true), (5, true), (6, true), (7, true), (8, true), (9, true), (10, true), (11, true), (12, false), (13, true)] (fun w' => w'.cell? ⟨b1, o1 + k * 6, none⟩ = some (.int .i64 p.t) ∧ w'.cell? ⟨b1, o1 + k * 6 + 1, none⟩ = some (.int .i64 p.i) ∧ w'.cell? ⟨b1, o1 + k * 6 + 1 + 1, none⟩ = some (.int .i64 p.c) ∧ w'.cell? ⟨b1, o1 + k * 6 + 1 + 1 + 1, none⟩ = some (.int .i64 p.d) ∧ w'.cell? ⟨b1, o1 + k * 6 + 1 + 1 + 1 + 1, none⟩ = some (.int .i64 p.p) ∧ w'.cell? ⟨b1, o1 + k * 6 + 1 + 1 + 1 + 1 + 1, none⟩ = some (.int .i64 p.f) ∧ w'.cell? ⟨b3, o3 + m, none⟩ = some (.int .i64 e)) (by kernel_rfl) 157 hn (by kernel_rfl) rfl (by kernel_rfl) (hSS) (fun a b ha hb => ?_)
  subst ha
  have hb4 : b 4 = .slice (some ⟨b1, o1, none⟩) len c := (hb 4).symm.trans h_4
  have hb7 : b 7 = .int .i64 (k : Int) := (hb 7).symm.trans h_7
  have hb8 : b 8 = .slice (some ⟨b3, o3, none⟩) n3 c3 := (hb 8).symm.trans h_8
  clear hb h_4 h_7 h_8
  have HP := Lib.hid hpost; have HN := Lib.hid hn
  clear hpost hn
  refine Eng.Sch.take (v := ?_) rfl rfl (by decide) (by kernel_rfl) (fun w hw => ?_) ?_
  rotate_left
  · (try dsimp only at hw); go_simp; first | done | with_reducible rfl
  refine Eng.Sch.take (v := ?_) rfl rfl (by decide) (by kernel_rfl) (fun w hw => ?_) ?_
  rotate_left
  · (try dsimp only at hw); go_simp; first | done | with_reducible rfl
  refine Eng.Sch.take (v := ?_) rfl rfl (by decide) (by kernel_rfl) (fun w hw => ?_) ?_
  rotate_left
  · (try dsimp only at hw); go_simp; first | done | with_reducible rfl
  refine Eng.Sch.take (v := ?_) rfl rfl (by decide) (by kernel_rfl) (fun w hw => ?_) ?_
  rotate_left
  · (try dsimp only at hw); go_simp; first | done | with_reducible rfl
  refine Eng.Sch.take (v := ?_) rfl rfl (by decide) (by kernel_rfl) (fun w hw => ?_) ?_
  rotate_left
  · (try dsimp only at hw); go_simp; first | done | with_reducible rfl
  refine Eng.Sch.take (v := ?_) rfl rfl (by decide) (by kernel_rfl) (fun w hw => ?_) ?_
  rotate_left
  · (try dsimp only at hw); go_simp; first | done | with_reducible rfl
  refine Eng.Sch.take (v := ?_) rfl rfl (by decide) (by kernel_rfl) (fun w hw => ?_) ?_
  rotate_left
  · (try dsimp only at hw); go_simp; first | done | with_reducible rfl
  refine Eng.Sch.take (v := ?_) rfl rfl (by decide) (by kernel_rfl) (fun w hw => ?_) ?_
  rotate_left
  · (try dsimp only at hw); go_simp; first | done | with_reducible rfl
  refine Eng.Sch.take (v := ?_) rfl rfl (by decide) (by kernel_rfl) (fun w hw => ?_) ?_
  rotate_left
  · (try dsimp only at hw); go_simp; first | done | with_reducible rfl
  refine Eng.Sch.take (v := ?_) rfl rfl (by decide) (by kernel_rfl) (fun w hw => ?_) ?_
  rotate_left
  · (try dsimp only at hw); go_simp; first | done | with_reducible rfl
  refine Eng.Sch.take (v := ?_) rfl rfl (by decide) (by kernel_rfl) (fun w hw => ?_) ?_
  rotate_left
  · (try dsimp only at hw); go_simp; first | done | with_reducible rfl
  refine Eng.Sch.take (v := ?_) rfl rfl (by decide) (by kernel_rfl) (fun w hw => ?_) ?_
  rotate_left
  · (try dsimp only at hw); go_simp; first | done | with_reducible rfl
  refine Eng.Sch.call rfl rfl (by decide) (by kernel_rfl) ?_ (FindE HSt.out.p p.t e jj hjj) ?_
  · go_simp
  rintro e w2 ⟨rfl, hf⟩
  have HSt1 := Lib.hid (HSt.out.fr hf)
  have hSS : w2.cell? ⟨b1, o1 + k * 6, none⟩ = some (.int .i64 p.t) ∧ w2.cell? ⟨b1, o1 + k * 6 + 1, none⟩ = some (.int .i64 p.i) ∧ w2.cell? ⟨b1, o1 + k * 6 + 1 + 1, none⟩ = some (.int .i64 p.c) ∧ w2.cell? ⟨b1, o1 + k * 6 + 1 + 1 + 1, none⟩ = some (.int .i64 p.d) ∧ w2.cell? ⟨b1, o1 + k * 6 + 1 + 1 + 1 + 1, none⟩ = some (.int .i64 p.p) ∧ w2.cell? ⟨b1, o1 + k * 6 + 1 + 1 + 1 + 1 + 1, none⟩ = some (.int .i64 p.f) ∧ w2.cell? ⟨b3, o3 + m, none⟩ = some (.int .i64 e) := ⟨HSt1.out.a 0 _ rfl, HSt1.out.a 1 _ rfl, HSt1.out.a 2 _ rfl, HSt1.out.a 3 _ rfl, HSt1.out.a 4 _ rfl, HSt1.out.a 5 _ rfl, HSt1.out.z⟩
  refine ⟨_, rfl, hSS, ?_⟩
  refine Eng.Sch.take (v := ?_) rfl rfl (by decide) (by kernel_rfl) (fun w hw => ?_) ?_
  rotate_left
  · (try dsimp only at hw); go_simp; first | done | with_reducible rfl
  refine Eng.Sch.end_ [9, 109, 110, 111, 112, 113, 114, 115, 116, 117, 118, 119, 120, 121] HN.out (by kernel_rfl) (by kernel_rfl) ?_
  exact HP.out _ _ rfl HSt1.out

set_option maxRecDepth 100000 in
set_option maxHeartbeats 400000 in
theorem cf19 {ops : Array Oper} (hops : Eng.fnOps Try.f9 19 = ops) (a0 : Act) (Q : Exit → Act → World → Prop) (w0 w : World) (b1 o1 len c k b2 o2 c2 j : Nat) (p : Pc) (z : Sn) (P : List Pc) (uu : Int) (hst : FG w0 w b1 (o1 + k * 6) b2 (o2 + j * 9) p z (some ⟨b1, o1, none⟩) c len P) (hk : k < len) (hj : j < len) (hlen : len ≤ 9223372036854775807) (huu : fdI P p.t z.p = uu)
    (hn : a0.tmps.size = 157) (h_3 : a0.tmps.getD 3 undef = .slice (some ⟨b2, o2, none⟩) len c2) (h_4 : a0.tmps.getD 4 undef = .slice (some ⟨b1, o1, none⟩) len c) (h_7 : a0.tmps.getD 7 undef = .int .i64 (k : Int)) (h_9 : a0.tmps.getD 9 undef = .int .i64 (j : Int))
    (hpost : ∀ (x : Nat → Value) (w' : World), x 10 = .int .i64 uu → FG w0 w' b1 (o1 + k * 6) b2 (o2 + j * 9) p z (some ⟨b1, o1, none⟩) c len P → Q .normal (Eng.setAll a0 [10, 130, 131, 132, 133, 134, 135, 136, 137, 138, 139, 140, 141] x) w') :
    (Code.region 19 ops true).wp Try.prog Q a0 w := by
  simp only [Eng.fnOps, Eng.regOps, Try.f9, Option.bind_some, Option.getD_some, Nat.reduceEqDiff, ↓reduceIte, Nat.reduceBEq] at hops
  subst hops
  have q1 : (0 : Int) ≤ (k : Int) := by omega
  have q2 : (k : Int) < (len : Int) := by omega
  have q5 : (0 : Int) ≤ (j : Int) := by omega
  have q6 : (j : Int) < (len : Int) := by omega
  have HSt := Lib.hid (hst.fr (Fr.drew _ _))
  have hSS : w.drew.cell? ⟨b1, o1 + k * 6, none⟩ = some (.int .i64 p.t) ∧ w.drew.cell? ⟨b1, o1 + k * 6 + 1, none⟩ = some (.int .i64 p.i) ∧ w.drew.cell? ⟨b1, o1 + k * 6 + 1 + 1, none⟩ = some (.int .i64 p.c) ∧ w.drew.cell? ⟨b1, o1 + k * 6 + 1 + 1 + 1, none⟩ = some (.int .i64 p.d) ∧ w.drew.cell? ⟨b1, o1 + k * 6 + 1 + 1 + 1 + 1, none⟩ = some (.int .i64 p.p) ∧ w.drew.cell? ⟨b1, o1 + k * 6 + 1 + 1 + 1 + 1 + 1, none⟩ = some (.int .i64 p.f) ∧ w.drew.cell? ⟨b2, o2 + j * 9, none⟩ = some (.int .i64 z.t) ∧ w.drew.cell? ⟨b2, o2 + j * 9 + 1, none⟩ = some (.int .i64 z.i) ∧ w.drew.cell? ⟨b2, o2 + j * 9 + 1 + 1, none⟩ = some (.int .i64 z.p) ∧ w.drew.cell? ⟨b2, o2 + j * 9 + 1 + 1 + 1, none⟩ = some (.int .i64 z.r) ∧ w.drew.cell? ⟨b2, o2 + j * 9 + 1 + 1 + 1 + 1, none⟩ = some (.string z.s) ∧ w.drew.cell? ⟨b2, o2 + j * 9 + 1 + 1 + 1 + 1 + 1, none⟩ = some (.string z.o) ∧ w.drew.cell? ⟨b2, o2 + j * 9 + 1 + 1 + 1 + 1 + 1 + 1, none⟩ = some (.int .i64 z.b) ∧ w.drew.cell? ⟨b2, o2 + j * 9 + 1 + 1 + 1 + 1 + 1 + 1 + 1, none⟩ = some (.int .i64 z.d) ∧ w.drew.cell? ⟨b2, o2 + j * 9 + 1 + 1 + 1 + 1 + 1 + 1 + 1 + 1, none⟩ = some (.bool z.g) := ⟨HSt.out.a 0 _ rfl, HSt.out.a 1 _ rfl, HSt.out.a 2 _ rfl, HSt.out.a 3 _ rfl, HSt.out.a 4 _ rfl, HSt.out.a 5 _ rfl, HSt.out.z 0 _ rfl, HSt.out.z 1 _ rfl, HSt.out.z 2 _ rfl, HSt.out.z 3 _ rfl, HSt.out.z 4 _ rfl, HSt.out.z 5 _ rfl, HSt.out.z 6 _ rfl, HSt.out.z 7 _ rfl, HSt.out.z 8 _ rfl⟩
  refine Eng.regionN [(0, true), (1, true), (2, true), (3, true), (4, true), (5, true), (6, true), (7, true), (8, true), (9, true), (10, true), (11, false), (12, true)] (fun w' => w'.cell? ⟨b1, o1 + k * 6, none⟩ = some (.int .i64 p.t) ∧ w'.cell? ⟨b1, o1 + k * 6 + 1, none⟩ = some (.int .i64 p.i) ∧ w'.cell? ⟨b1, o1 + k * 6 + 1 + 1, none⟩ = some (.int .i64 p.c) ∧ w'.cell? ⟨b1, o1 + k * 6 + 1 + 1 + 1, none⟩ = some (.int .i64 p.d) ∧ w'.cell? ⟨b1, o1 + k * 6 + 1 + 1 + 1 + 1, none⟩ = some (.int .i64 p.p) ∧ w'.cell? ⟨b1, o1 + k * 6 + 1 + 1 + 1 + 1 + 1, none⟩ = some (.int .i64 p.f) ∧ w'.cell? ⟨b2, o2 + j * 9, none⟩ = some (.int .i64 z.t) ∧ w'.cell? ⟨b2, o2 + j * 9 + 1, none⟩ = some (.int .i64 z.i) ∧ w'.cell? ⟨b2, o2 + j * 9 + 1 + 1, none⟩ = some (.int .i64 z.p) ∧ w'.cell? ⟨b2, o2 + j * 9 + 1 + 1 + 1, none⟩ = some (.int .i64 z.r) ∧ w'.cell? ⟨b2, o2 + j * 9 + 1 + 1 + 1 + 1, none⟩ = some (.string z.s) ∧ w'.cell? ⟨b2, o2 + j * 9 + 1 + 1 + 1 + 1 + 1, none⟩ = some (.string z.o) ∧ w'.cell? ⟨b2, o2 + j * 9 + 1 + 1 + 1 + 1 + 1 + 1, none⟩ = some (.int .i64 z.b) ∧ w'.cell? ⟨b2, o2 + j * 9 + 1 + 1 + 1 + 1 + 1 + 1 + 1, none⟩ = some (.int .i64 z.d) ∧ w'.cell? ⟨b2, o2 + j * 9 + 1 + 1 + 1 + 1 + 1 + 1 + 1 + 1, none⟩ = some (.bool z.g)) (by kernel_rfl) 157 hn (by kernel_rfl) rfl (by kernel_rfl) (hSS) (fun a b ha hb => ?_)
  subst ha
  have hb3 : b 3 = .slice (some ⟨b2, o2, none⟩) len c2 := (hb 3).symm.trans h_3
  have hb4 : b 4 = .slice (some ⟨b1, o1, none⟩) len c := (hb 4).symm.trans h_4
  have hb7 : b 7 = .int .i64 (k : Int) := (hb 7).symm.trans h_7
  have hb9 : b 9 = .int .i64 (j : Int) := (hb 9).symm.trans h_9
  clear hb h_3 h_4 h_7 h_9
  have HP := Lib.hid hpost; have HN := Lib.hid hn
  clear hpost hn
  refine Eng.Sch.take (v := ?_) rfl rfl (by decide) (by kernel_rfl) (fun w hw => ?_) ?_
  rotate_left
  · (try dsimp only at hw); go_simp; first | done | with_reducible rfl
  refine Eng.Sch.take (v := ?_) rfl rfl (by decide) (by kernel_rfl) (fun w hw => ?_) ?_
  rotate_left
  · (try dsimp only at hw); go_simp; first | done | with_reducible rfl
  refine Eng.Sch.take (v := ?_) rfl rfl (by decide) (by kernel_rfl) (fun w hw => ?_) ?_
  rotate_left
  · (try dsimp only at hw); go_simp; first | done | with_reducible rfl
  refine Eng.Sch.take (v := ?_) rfl rfl (by decide) (by kernel_rfl) (fun w hw => ?_) ?_
  rotate_left
  · (try dsimp only at hw); go_simp; first | done | with_reducible rfl
  refine Eng.Sch.take (v := ?_) rfl rfl (by decide) (by kernel_rfl) (fun w hw => ?_) ?_
  rotate_left
  · (try dsimp only at hw); go_simp; first | done | with_reducible rfl
  refine Eng.Sch.take (v := ?_) rfl rfl (by decide) (by kernel_rfl) (fun w hw => ?_) ?_
  rotate_left
  · (try dsimp only at hw); go_simp; first | done | with_reducible rfl
  refine Eng.Sch.take (v := ?_) rfl rfl (by decide) (by kernel_rfl) (fun w hw => ?_) ?_
  rotate_left
  · (try dsimp only at hw); go_simp; first | done | with_reducible rfl
  refine Eng.Sch.take (v := ?_) rfl rfl (by decide) (by kernel_rfl) (fun w hw => ?_) ?_
  rotate_left
  · (try dsimp only at hw); go_simp; first | done | with_reducible rfl
  refine Eng.Sch.take (v := ?_) rfl rfl (by decide) (by kernel_rfl) (fun w hw => ?_) ?_
  rotate_left
  · (try dsimp only at hw); go_simp; first | done | with_reducible rfl
  refine Eng.Sch.take (v := ?_) rfl rfl (by decide) (by kernel_rfl) (fun w hw => ?_) ?_
  rotate_left
  · (try dsimp only at hw); go_simp; first | done | with_reducible rfl
  refine Eng.Sch.take (v := ?_) rfl rfl (by decide) (by kernel_rfl) (fun w hw => ?_) ?_
  rotate_left
  · (try dsimp only at hw); go_simp; first | done | with_reducible rfl
  refine Eng.Sch.call rfl rfl (by decide) (by kernel_rfl) ?_ (FindE HSt.out.p p.t z.p uu huu) ?_
  · go_simp
  rintro e w2 ⟨rfl, hf⟩
  have HSt1 := Lib.hid (HSt.out.fr hf)
  have hSS : w2.cell? ⟨b1, o1 + k * 6, none⟩ = some (.int .i64 p.t) ∧ w2.cell? ⟨b1, o1 + k * 6 + 1, none⟩ = some (.int .i64 p.i) ∧ w2.cell? ⟨b1, o1 + k * 6 + 1 + 1, none⟩ = some (.int .i64 p.c) ∧ w2.cell? ⟨b1, o1 + k * 6 + 1 + 1 + 1, none⟩ = some (.int .i64 p.d) ∧ w2.cell? ⟨b1, o1 + k * 6 + 1 + 1 + 1 + 1, none⟩ = some (.int .i64 p.p) ∧ w2.cell? ⟨b1, o1 + k * 6 + 1 + 1 + 1 + 1 + 1, none⟩ = some (.int .i64 p.f) ∧ w2.cell? ⟨b2, o2 + j * 9, none⟩ = some (.int .i64 z.t) ∧ w2.cell? ⟨b2, o2 + j * 9 + 1, none⟩ = some (.int .i64 z.i) ∧ w2.cell? ⟨b2, o2 + j * 9 + 1 + 1, none⟩ = some (.int .i64 z.p) ∧ w2.cell? ⟨b2, o2 + j * 9 + 1 + 1 + 1, none⟩ = some (.int .i64 z.r) ∧ w2.cell? ⟨b2, o2 + j * 9 + 1 + 1 + 1 + 1, none⟩ = some (.string z.s) ∧ w2.cell? ⟨b2, o2 + j * 9 + 1 + 1 + 1 + 1 + 1, none⟩ = some (.string z.o) ∧ w2.cell? ⟨b2, o2 + j * 9 + 1 + 1 + 1 + 1 + 1 + 1, none⟩ = some (.int .i64 z.b) ∧ w2.cell? ⟨b2, o2 + j * 9 + 1 + 1 + 1 + 1 + 1 + 1 + 1, none⟩ = some (.int .i64 z.d) ∧ w2.cell? ⟨b2, o2 + j * 9 + 1 + 1 + 1 + 1 + 1 + 1 + 1 + 1, none⟩ = some (.bool z.g) := ⟨HSt1.out.a 0 _ rfl, HSt1.out.a 1 _ rfl, HSt1.out.a 2 _ rfl, HSt1.out.a 3 _ rfl, HSt1.out.a 4 _ rfl, HSt1.out.a 5 _ rfl, HSt1.out.z 0 _ rfl, HSt1.out.z 1 _ rfl, HSt1.out.z 2 _ rfl, HSt1.out.z 3 _ rfl, HSt1.out.z 4 _ rfl, HSt1.out.z 5 _ rfl, HSt1.out.z 6 _ rfl, HSt1.out.z 7 _ rfl, HSt1.out.z 8 _ rfl⟩
  refine ⟨_, rfl, hSS, ?_⟩
  refine Eng.Sch.take (v := ?_) rfl rfl (by decide) (by kernel_rfl) (fun w hw => ?_) ?_
  rotate_left
  · (try dsimp only at hw); go_simp; first | done | with_reducible rfl
  refine Eng.Sch.end_ [10, 130, 131, 132, 133, 134, 135, 136, 137, 138, 139, 140, 141] HN.out (by kernel_rfl) (by kernel_rfl) ?_
  exact HP.out _ _ rfl HSt1.out

set_option maxRecDepth 100000 in
set_option maxHeartbeats 4000000 in
theorem fans (A0 : Option Addr) (c0 : Nat) (a : List Sn) (w : World) (h0 : Ls w A0 c0 a) :
    Calls Try.prog 9 #[.slice A0 a.length c0] w fun e w' => e = .returned (.bool true) ∧ Below w.heap.size w w' := by
  have HA := Lib.hid h0
  have HB := Lib.hid (Below.refl w.heap.size w)
  clear h0
  go_enter Try.func9, Try.ntmps9
  go_wp2_with fail
  refine (SetF.Few _ _ 30 a w HA.out.s).mono ?_
  rintro e w1 ⟨rfl, hf⟩
  have hb := hf.below (Nat.le_refl _) (fun _ _ h => h)
  clear hf
  replace HA := Lib.hid (HA.out.below hb)
  replace HB := Lib.hid (HB.out.trans (hb.mono HB.out.size))
  clear hb
  cases hq : fewB a 30 with
  | false =>
      go_wp2_with fail
      refine (awake w1).mono ?_
      rintro e w2 ⟨rfl, hb⟩
      replace HA := Lib.hid (HA.out.below hb)
      replace HB := Lib.hid (HB.out.trans (hb.mono HB.out.size))
      clear hb
      go_wp2_with fail
      go_ret
      exact ⟨rfl, HB.out⟩
  | true =>
      have hq_a := few_len hq
      clear hq
      have hsl := Nat.le_trans (spn_len a) hq_a
      have HSp := Lib.hid (RefSpans A0 c0 a w1 HA.out (by omega))
      have HSr := Lib.hid (spn_srs a)
      obtain ⟨M, hM⟩ : ∃ M, spn a = M := ⟨_, rfl⟩
      obtain ⟨P, hP⟩ : ∃ P, plcs M = P := ⟨_, rfl⟩
      have hPl : P.length = M.length := by rw [← hP]; simp
      have HOf := Lib.hid (fun (w' : World) (h : Ls w' A0 c0 a) => OfE h (by omega) P (by rw [hM]; exact hP) M.length hPl)
      rw [hM] at HSp HSr hsl
      have HPe := Lib.hid hP; have HPl := Lib.hid hPl; have HMe := Lib.hid hM
      clear hM hP hPl
      go_wp2_with fail
      refine (HSp.out).mono ?_
      rintro e w2 ⟨A1, c1, rfl, hls, -, hb⟩
      replace HA := Lib.hid (HA.out.below hb)
      replace HB := Lib.hid (HB.out.trans (hb.mono HB.out.size))
      clear hb
      have HM := Lib.hid hls
      clear hls HSp
      go_wp2_with fail
      refine (HOf.out w2 HA.out).mono ?_
      rintro e w3 ⟨A2, c2, rfl, hls, hb⟩
      replace HA := Lib.hid (HA.out.below hb)
      replace HM := Lib.hid (HM.out.below hb)
      replace HB := Lib.hid (HB.out.trans (hb.mono HB.out.size))
      clear hb
      have HP := Lib.hid hls
      clear hls
      clear HOf
      have q0 : ((M.length : Int) != (M.length : Int)) = false := by simp
      go_wp2_with fail
      go_loopg [5, 6, 7] M.length (fun gk vf vb i wr => ∃ k Fa Be : Nat, i = .int .i64 k ∧ vf = .int .i64 (Fa : Int) ∧ vb = .int .i64 (Be : Int) ∧ k ≤ M.length ∧ gk = M.length - k ∧ Fa ≤ k * 1000 ∧ Be ≤ k ∧ Fa = ((M.take k).map (fan M)).sum ∧ Be = ((M.take k).filter (fun y => (nx M y.t y.p).isSome)).length ∧ Fr (fun _ => False) w3 wr)
      case atStart => exact ⟨0, 0, 0, rfl, rfl, rfl, Nat.zero_le _, rfl, by omega, by omega, by simp, by simp, Fr.refl _ _⟩
      case round =>
        obtain ⟨k, Fa, Be, rfl, rfl, rfl, hk, hg, hFa, hBe, hFs, hBs, hf⟩ := hrel
        have HG := Lib.hid hg; have HF := Lib.hid hf; have HFs := Lib.hid hFs; have HBs := Lib.hid hBs
        clear hg hf hFs hBs
        by_cases hlt : k < M.length
        · have hkp : k < P.length := by rw [HPl.out]; exact hlt
          obtain ⟨b1, o1, rfl, hb1, c1'⟩ := HM.out.s.at hlt (by omega)
          obtain ⟨b2, o2, rfl, hb2, c2'⟩ := HP.out.s.at (i := k) (by omega) (by omega)
          have H1 := Lib.hid ((At.row c1' hlt).keep HF.out); have H2 := Lib.hid ((AtP.row c2' hkp).keep HF.out)
          have hC : ∃ l m j hj e kk up, FanC M P M[k] P[k] l m j hj e kk up := by
            have h2 : ∀ (Q : List Pc) (e : plcs M = Q) (h : k < Q.length), ∃ l m j hj e kk up, FanC M Q M[k] Q[k] l m j hj e kk up := fun Q e h => by
              subst e; rw [List.getElem_map]; exact fanC HSr.out (List.getElem_mem hlt)
            exact h2 P HPe.out hkp
          have hP1 : P[k].t = M[k].t ∧ P[k].i = M[k].i := by
            have h2 : ∀ (Q : List Pc) (e : plcs M = Q) (h : k < Q.length), Q[k].t = M[k].t ∧ Q[k].i = M[k].i := fun Q e h => by subst e; rw [List.getElem_map]; exact ⟨rfl, rfl⟩
            exact h2 P HPe.out hkp
          have HOk := HM.out.ok M[k] (List.getElem_mem hlt)
          have HT : Hid (in64 P[k].t) := by show in64 _; rw [hP1.1]; exact HOk.t
          have HI : Hid (in64 P[k].i) := by show in64 _; rw [hP1.2]; exact HOk.i
          obtain ⟨l, m, j, hj, e, kk, up, hC⟩ := hC
          have H3 := Lib.hid ((At.row c1' hj).keep HF.out)
          have hfl := fan_le (L := M) M[k]
          have HF1 : Hid (Fa + fan M M[k] = ((M.take (k + 1)).map (fan M)).sum) := by
            show _ = _; rw [List.take_succ_eq_append_getElem hlt, List.map_append, List.sum_append, HFs.out]; simp
          have HB1 : Hid (∀ b : Bool, (nx M M[k].t M[k].p).isSome = b → Be + (if b then 1 else 0) = ((M.take (k + 1)).filter (fun y => (nx M y.t y.p).isSome)).length) := fun b hb => by
            rw [List.take_succ_eq_append_getElem hlt, List.filter_append, List.length_append, HBs.out, List.filter_cons, hb]; cases b <;> rfl
          clear c1' hb1 c2' hb2 hP1 HOk HFs HBs
          have hju := hC.u
          generalize hzz : M[j] = z at *
          have HC := Lib.hid hC; have HJu := Lib.hid hju
          clear hC hju
          generalize M[k] = y at *
          generalize P[k] = p at *
          generalize hfn : fan M y = fn at *
          have HPw := Lib.hid (HP.out.below (HF.out.below (Nat.le_refl _) (fun _ _ h => h)))
          have HAw := Lib.hid (HA.out.below (HF.out.below (Nat.le_refl _) (fun _ _ h => h)))
          have hlm : M.length ≤ 9223372036854775807 := by omega
          have q1 : (0 : Int) ≤ (k : Int) := by omega
          have q2 : decide ((k : Int) < (M.length : Int)) = true := by simp; omega
          have q3 : (k : Int) < (M.length : Int) := by omega
          have q4 : IntKind.i64.wrap ((Fa : Int) + p.f) = ((Fa + fn : Nat) : Int) := by rw [HC.out.f, hfn, IntKind.wrap_i64]; omega
          have pc0 : wr.cell? ⟨b2, o2 + k * 6, none⟩ = some (.int .i64 p.t) := H2.out 0 _ rfl
          have pc1 : wr.cell? ⟨b2, o2 + k * 6 + 1, none⟩ = some (.int .i64 p.i) := H2.out 1 _ rfl
          have pc2 : wr.cell? ⟨b2, o2 + k * 6 + 1 + 1, none⟩ = some (.int .i64 p.c) := H2.out 2 _ rfl
          have pc3 : wr.cell? ⟨b2, o2 + k * 6 + 1 + 1 + 1, none⟩ = some (.int .i64 p.d) := H2.out 3 _ rfl
          have pc4 : wr.cell? ⟨b2, o2 + k * 6 + 1 + 1 + 1 + 1, none⟩ = some (.int .i64 p.p) := H2.out 4 _ rfl
          have pc5 : wr.cell? ⟨b2, o2 + k * 6 + 1 + 1 + 1 + 1 + 1, none⟩ = some (.int .i64 p.f) := H2.out 5 _ rfl
          go_upto_region 11 with (fail)
          refine cf11 (by kernel_rfl) _ _ wr wr b1 o1 _ c1 k y P _ _ _ kk ⟨H1.out, HPw.out, Fr.refl _ _⟩ hlt hlm HC.out.k rfl rfl rfl rfl ?_
          intro x w21 h17 hst
          simp only [Eng.setAll, Act.put, List.setIfInBounds_toArray, List.set_cons_succ, List.set_cons_zero]
          rw [h17]
          have f1 := hst.f
          clear h17 hst q4 pc0 pc1 pc2 pc3 pc4 pc5
          have HF1w := Lib.hid (HF.out.trans f1 (fun _ _ h => h) (fun _ _ h => h))
          have HPw1 := Lib.hid (HPw.out.below (f1.below (Nat.le_refl _) (fun _ _ h => h))); have HAw1 := Lib.hid (HAw.out.below (f1.below (Nat.le_refl _) (fun _ _ h => h)))
          have H21 := Lib.hid (H2.out.keep f1); have H31 := Lib.hid (H3.out.keep f1)
          clear f1 H1 H2 H3 HPw HAw HF
          cases hkc : decide (kk ≥ 0) with
          | true =>
            have HBn : Hid (Be + 1 = ((M.take (k + 1)).filter (fun y => (nx M y.t y.p).isSome)).length) := by
              show _ = _
              have h1 : (nx M y.t y.p).isSome = true := by
                have h2 := HC.out.x
                simp at hkc
                exact h2.1 (by omega)
              have h3 := HB1.out _ h1
              simpa using h3
            clear HB1 hkc
            have q4 : IntKind.i64.wrap ((Be : Int) + 1) = ((Be + 1 : Nat) : Int) := by rw [IntKind.wrap_i64]; omega
            go_upto_region 13 with (fail)
            refine cf13 (by kernel_rfl) _ _ w21 w21 b2 o2 _ c2 k p A0 c0 a l (m + 1) ⟨H21.out, HAw1.out, Fr.refl _ _⟩ hlt hlm (by omega) HT.out HI.out (by rw [HMe.out]; exact HC.out.il) HC.out.n rfl rfl rfl rfl ?_
            intro x w22 A3 c3 h17 hst
            simp only [Eng.setAll, Act.put, List.setIfInBounds_toArray, List.set_cons_succ, List.set_cons_zero]
            rw [h17]
            have f1 := hst.f
            have HF2 := Lib.hid (HF1w.out.trans f1 (fun _ _ h => h) (fun _ _ h => h))
            have HPw2 := Lib.hid (HPw1.out.below (f1.below (Nat.le_refl _) (fun _ _ h => h)))
            have H22 := Lib.hid (H21.out.keep f1); have H32 := Lib.hid (H31.out.keep f1)
            have HL := hst.i.s
            clear h17 hst f1 H21 H31 HPw1 HAw1 HF1w
            obtain ⟨b3, o3, rfl, hb3, c3'⟩ := HL.at (i := m) (by omega) (by omega)
            have HE : Hid (w22.cell? ⟨b3, o3 + m, none⟩ = some (.int .i64 e)) := by
              refine c3' m _ ?_
              have := HC.out.ie
              simp [this]
            clear HL hb3 c3'
            have hm1 := HC.out.n
            have hml := HC.out.b
            have hwl : m + 1 ≤ 1000 := by
              have h1 := wy_len M p.t p.i
              have h2 := congrArg List.length HC.out.il
              simp at h2
              omega
            have pc0 : w22.cell? ⟨b2, o2 + k * 6, none⟩ = some (.int .i64 p.t) := H22.out 0 _ rfl
            have pc1 : w22.cell? ⟨b2, o2 + k * 6 + 1, none⟩ = some (.int .i64 p.i) := H22.out 1 _ rfl
            have pc2 : w22.cell? ⟨b2, o2 + k * 6 + 1 + 1, none⟩ = some (.int .i64 p.c) := H22.out 2 _ rfl
            have pc3 : w22.cell? ⟨b2, o2 + k * 6 + 1 + 1 + 1, none⟩ = some (.int .i64 p.d) := H22.out 3 _ rfl
            have pc4 : w22.cell? ⟨b2, o2 + k * 6 + 1 + 1 + 1 + 1, none⟩ = some (.int .i64 p.p) := H22.out 4 _ rfl
            have pc5 : w22.cell? ⟨b2, o2 + k * 6 + 1 + 1 + 1 + 1 + 1, none⟩ = some (.int .i64 p.f) := H22.out 5 _ rfl
            have u1 : decide (p.d > (M.length : Int)) = false := by simp; omega
            have u2 : decide (((m + 1 : Nat) : Int) < 1) = false := by simp; omega
            have u3 : decide (p.f < 0) = false := by rw [HC.out.f]; simp
            clear hm1 hml
            cases hc3 : (p.c == 3) with
            | true =>
              have hcc : p.c = 3 := by simpa using hc3
              have u4 : (p.c != 3) = false := by rw [hcc]; rfl
              have uu : decide (up ≥ 0) = true := by simp; have := HC.out.c; exact this.2 hcc
              clear hcc
              generalize hmm : m + 1 = n3 at *
              go_upto_region 16 with (fail)
              refine cf16 (by kernel_rfl) _ _ w22 w22 b2 o2 _ c2 k b3 o3 n3 c3 m p e P j ⟨H22.out, HE.out, HPw2.out, Fr.refl _ _⟩ hlt hlm (Lib.hid hmm.symm) (by omega) HC.out.ij rfl rfl rfl rfl ?_
              intro x w23 h17 hst
              simp only [Eng.setAll, Act.put, List.setIfInBounds_toArray, List.set_cons_succ, List.set_cons_zero]
              rw [h17]
              have f1 := hst.f
              have HF3 := Lib.hid (HF2.out.trans f1 (fun _ _ h => h) (fun _ _ h => h))
              have HPw3 := Lib.hid (HPw2.out.below (f1.below (Nat.le_refl _) (fun _ _ h => h)))
              have H23 := Lib.hid (H22.out.keep f1); have H33 := Lib.hid (H32.out.keep f1)
              clear h17 hst f1 H22 H32 HPw2 HF2 HE u1 u2 u3 u4 pc0 pc1 pc2 pc3 pc4 pc5
              have u1 : decide ((j : Int) < 0) = false := by simp
              have u2 : decide ((j : Int) ≥ (M.length : Int)) = false := by simp; omega
              go_upto_region 19 with (fail)
              refine cf19 (by kernel_rfl) _ _ w23 w23 b2 o2 _ c2 k b1 o1 c1 j p z P up ⟨H23.out, H33.out, HPw3.out, Fr.refl _ _⟩ hlt hj hlm HJu.out rfl rfl rfl rfl rfl ?_
              intro x w24 h17 hst
              simp only [Eng.setAll, Act.put, List.setIfInBounds_toArray, List.set_cons_succ, List.set_cons_zero]
              rw [h17]
              have f1 := hst.f
              have HF4 := Lib.hid (HF3.out.trans f1 (fun _ _ h => h) (fun _ _ h => h))
              have H24 := Lib.hid (H23.out.keep f1)
              clear h17 hst f1 H23 H33 HPw3 HF3 u1 u2
              have pc0 : w24.cell? ⟨b2, o2 + k * 6, none⟩ = some (.int .i64 p.t) := H24.out 0 _ rfl
              have pc1 : w24.cell? ⟨b2, o2 + k * 6 + 1, none⟩ = some (.int .i64 p.i) := H24.out 1 _ rfl
              have pc2 : w24.cell? ⟨b2, o2 + k * 6 + 1 + 1, none⟩ = some (.int .i64 p.c) := H24.out 2 _ rfl
              have pc3 : w24.cell? ⟨b2, o2 + k * 6 + 1 + 1 + 1, none⟩ = some (.int .i64 p.d) := H24.out 3 _ rfl
              have pc4 : w24.cell? ⟨b2, o2 + k * 6 + 1 + 1 + 1 + 1, none⟩ = some (.int .i64 p.p) := H24.out 4 _ rfl
              have pc5 : w24.cell? ⟨b2, o2 + k * 6 + 1 + 1 + 1 + 1 + 1, none⟩ = some (.int .i64 p.f) := H24.out 5 _ rfl
              go_wp2_with fail
              go_roundg (M.length - (k + 1))
              case rel => exact ⟨k + 1, Fa + fn, Be + 1, by go_num, by go_num, by go_num, by omega, rfl, by omega, by omega, HF1.out, HBn.out, HF4.out⟩
              case measure => have := HG.out; omega
            | false =>
              have hcc : p.c ≠ 3 := by simpa using hc3
              have u4 : (p.c != 3) = true := by simpa using hcc
              have u5 : (((m + 1 : Nat) : Int) != p.d) = false := by rw [HC.out.d hcc]; simp
              have uu : decide (up ≥ 0) = false := by simp; have := HC.out.c; exact Int.not_le.1 (fun h => hcc (this.1 h))
              clear hcc
              generalize hmm : m + 1 = n3 at *
              go_upto_region 16 with (fail)
              refine cf16 (by kernel_rfl) _ _ w22 w22 b2 o2 _ c2 k b3 o3 n3 c3 m p e P j ⟨H22.out, HE.out, HPw2.out, Fr.refl _ _⟩ hlt hlm (Lib.hid hmm.symm) (by omega) HC.out.ij rfl rfl rfl rfl ?_
              intro x w23 h17 hst
              simp only [Eng.setAll, Act.put, List.setIfInBounds_toArray, List.set_cons_succ, List.set_cons_zero]
              rw [h17]
              have f1 := hst.f
              have HF3 := Lib.hid (HF2.out.trans f1 (fun _ _ h => h) (fun _ _ h => h))
              have HPw3 := Lib.hid (HPw2.out.below (f1.below (Nat.le_refl _) (fun _ _ h => h)))
              have H23 := Lib.hid (H22.out.keep f1); have H33 := Lib.hid (H32.out.keep f1)
              clear h17 hst f1 H22 H32 HPw2 HF2 HE u1 u2 u3 u4 u5 pc0 pc1 pc2 pc3 pc4 pc5
              have u1 : decide ((j : Int) < 0) = false := by simp
              have u2 : decide ((j : Int) ≥ (M.length : Int)) = false := by simp; omega
              go_upto_region 19 with (fail)
              refine cf19 (by kernel_rfl) _ _ w23 w23 b2 o2 _ c2 k b1 o1 c1 j p z P up ⟨H23.out, H33.out, HPw3.out, Fr.refl _ _⟩ hlt hj hlm HJu.out rfl rfl rfl rfl rfl ?_
              intro x w24 h17 hst
              simp only [Eng.setAll, Act.put, List.setIfInBounds_toArray, List.set_cons_succ, List.set_cons_zero]
              rw [h17]
              have f1 := hst.f
              have HF4 := Lib.hid (HF3.out.trans f1 (fun _ _ h => h) (fun _ _ h => h))
              have H24 := Lib.hid (H23.out.keep f1)
              clear h17 hst f1 H23 H33 HPw3 HF3 u1 u2
              have pc0 : w24.cell? ⟨b2, o2 + k * 6, none⟩ = some (.int .i64 p.t) := H24.out 0 _ rfl
              have pc1 : w24.cell? ⟨b2, o2 + k * 6 + 1, none⟩ = some (.int .i64 p.i) := H24.out 1 _ rfl
              have pc2 : w24.cell? ⟨b2, o2 + k * 6 + 1 + 1, none⟩ = some (.int .i64 p.c) := H24.out 2 _ rfl
              have pc3 : w24.cell? ⟨b2, o2 + k * 6 + 1 + 1 + 1, none⟩ = some (.int .i64 p.d) := H24.out 3 _ rfl
              have pc4 : w24.cell? ⟨b2, o2 + k * 6 + 1 + 1 + 1 + 1, none⟩ = some (.int .i64 p.p) := H24.out 4 _ rfl
              have pc5 : w24.cell? ⟨b2, o2 + k * 6 + 1 + 1 + 1 + 1 + 1, none⟩ = some (.int .i64 p.f) := H24.out 5 _ rfl
              go_wp2_with fail
              go_roundg (M.length - (k + 1))
              case rel => exact ⟨k + 1, Fa + fn, Be + 1, by go_num, by go_num, by go_num, by omega, rfl, by omega, by omega, HF1.out, HBn.out, HF4.out⟩
              case measure => have := HG.out; omega
          | false =>
            have HBn : Hid (Be = ((M.take (k + 1)).filter (fun y => (nx M y.t y.p).isSome)).length) := by
              show _ = _
              have h1 : (nx M y.t y.p).isSome = false := by
                have h2 := HC.out.x
                simp at hkc
                cases h : (nx M y.t y.p).isSome with
                | false => rfl
                | true => exact absurd (h2.2 h) (by omega)
              have h3 := HB1.out _ h1
              simpa using h3
            clear HB1 hkc
            go_upto_region 13 with (fail)
            refine cf13 (by kernel_rfl) _ _ w21 w21 b2 o2 _ c2 k p A0 c0 a l (m + 1) ⟨H21.out, HAw1.out, Fr.refl _ _⟩ hlt hlm (by omega) HT.out HI.out (by rw [HMe.out]; exact HC.out.il) HC.out.n rfl rfl rfl rfl ?_
            intro x w22 A3 c3 h17 hst
            simp only [Eng.setAll, Act.put, List.setIfInBounds_toArray, List.set_cons_succ, List.set_cons_zero]
            rw [h17]
            have f1 := hst.f
            have HF2 := Lib.hid (HF1w.out.trans f1 (fun _ _ h => h) (fun _ _ h => h))
            have HPw2 := Lib.hid (HPw1.out.below (f1.below (Nat.le_refl _) (fun _ _ h => h)))
            have H22 := Lib.hid (H21.out.keep f1); have H32 := Lib.hid (H31.out.keep f1)
            have HL := hst.i.s
            clear h17 hst f1 H21 H31 HPw1 HAw1 HF1w
            obtain ⟨b3, o3, rfl, hb3, c3'⟩ := HL.at (i := m) (by omega) (by omega)
            have HE : Hid (w22.cell? ⟨b3, o3 + m, none⟩ = some (.int .i64 e)) := by
              refine c3' m _ ?_
              have := HC.out.ie
              simp [this]
            clear HL hb3 c3'
            have hm1 := HC.out.n
            have hml := HC.out.b
            have hwl : m + 1 ≤ 1000 := by
              have h1 := wy_len M p.t p.i
              have h2 := congrArg List.length HC.out.il
              simp at h2
              omega
            have pc0 : w22.cell? ⟨b2, o2 + k * 6, none⟩ = some (.int .i64 p.t) := H22.out 0 _ rfl
            have pc1 : w22.cell? ⟨b2, o2 + k * 6 + 1, none⟩ = some (.int .i64 p.i) := H22.out 1 _ rfl
            have pc2 : w22.cell? ⟨b2, o2 + k * 6 + 1 + 1, none⟩ = some (.int .i64 p.c) := H22.out 2 _ rfl
            have pc3 : w22.cell? ⟨b2, o2 + k * 6 + 1 + 1 + 1, none⟩ = some (.int .i64 p.d) := H22.out 3 _ rfl
            have pc4 : w22.cell? ⟨b2, o2 + k * 6 + 1 + 1 + 1 + 1, none⟩ = some (.int .i64 p.p) := H22.out 4 _ rfl
            have pc5 : w22.cell? ⟨b2, o2 + k * 6 + 1 + 1 + 1 + 1 + 1, none⟩ = some (.int .i64 p.f) := H22.out 5 _ rfl
            have u1 : decide (p.d > (M.length : Int)) = false := by simp; omega
            have u2 : decide (((m + 1 : Nat) : Int) < 1) = false := by simp; omega
            have u3 : decide (p.f < 0) = false := by rw [HC.out.f]; simp
            clear hm1 hml
            cases hc3 : (p.c == 3) with
            | true =>
              have hcc : p.c = 3 := by simpa using hc3
              have u4 : (p.c != 3) = false := by rw [hcc]; rfl
              have uu : decide (up ≥ 0) = true := by simp; have := HC.out.c; exact this.2 hcc
              clear hcc
              generalize hmm : m + 1 = n3 at *
              go_upto_region 16 with (fail)
              refine cf16 (by kernel_rfl) _ _ w22 w22 b2 o2 _ c2 k b3 o3 n3 c3 m p e P j ⟨H22.out, HE.out, HPw2.out, Fr.refl _ _⟩ hlt hlm (Lib.hid hmm.symm) (by omega) HC.out.ij rfl rfl rfl rfl ?_
              intro x w23 h17 hst
              simp only [Eng.setAll, Act.put, List.setIfInBounds_toArray, List.set_cons_succ, List.set_cons_zero]
              rw [h17]
              have f1 := hst.f
              have HF3 := Lib.hid (HF2.out.trans f1 (fun _ _ h => h) (fun _ _ h => h))
              have HPw3 := Lib.hid (HPw2.out.below (f1.below (Nat.le_refl _) (fun _ _ h => h)))
              have H23 := Lib.hid (H22.out.keep f1); have H33 := Lib.hid (H32.out.keep f1)
              clear h17 hst f1 H22 H32 HPw2 HF2 HE u1 u2 u3 u4 pc0 pc1 pc2 pc3 pc4 pc5
              have u1 : decide ((j : Int) < 0) = false := by simp
              have u2 : decide ((j : Int) ≥ (M.length : Int)) = false := by simp; omega
              go_upto_region 19 with (fail)
              refine cf19 (by kernel_rfl) _ _ w23 w23 b2 o2 _ c2 k b1 o1 c1 j p z P up ⟨H23.out, H33.out, HPw3.out, Fr.refl _ _⟩ hlt hj hlm HJu.out rfl rfl rfl rfl rfl ?_
              intro x w24 h17 hst
              simp only [Eng.setAll, Act.put, List.setIfInBounds_toArray, List.set_cons_succ, List.set_cons_zero]
              rw [h17]
              have f1 := hst.f
              have HF4 := Lib.hid (HF3.out.trans f1 (fun _ _ h => h) (fun _ _ h => h))
              have H24 := Lib.hid (H23.out.keep f1)
              clear h17 hst f1 H23 H33 HPw3 HF3 u1 u2
              have pc0 : w24.cell? ⟨b2, o2 + k * 6, none⟩ = some (.int .i64 p.t) := H24.out 0 _ rfl
              have pc1 : w24.cell? ⟨b2, o2 + k * 6 + 1, none⟩ = some (.int .i64 p.i) := H24.out 1 _ rfl
              have pc2 : w24.cell? ⟨b2, o2 + k * 6 + 1 + 1, none⟩ = some (.int .i64 p.c) := H24.out 2 _ rfl
              have pc3 : w24.cell? ⟨b2, o2 + k * 6 + 1 + 1 + 1, none⟩ = some (.int .i64 p.d) := H24.out 3 _ rfl
              have pc4 : w24.cell? ⟨b2, o2 + k * 6 + 1 + 1 + 1 + 1, none⟩ = some (.int .i64 p.p) := H24.out 4 _ rfl
              have pc5 : w24.cell? ⟨b2, o2 + k * 6 + 1 + 1 + 1 + 1 + 1, none⟩ = some (.int .i64 p.f) := H24.out 5 _ rfl
              go_wp2_with fail
              go_roundg (M.length - (k + 1))
              case rel => exact ⟨k + 1, Fa + fn, Be, by go_num, by go_num, by go_num, by omega, rfl, by omega, by omega, HF1.out, HBn.out, HF4.out⟩
              case measure => have := HG.out; omega
            | false =>
              have hcc : p.c ≠ 3 := by simpa using hc3
              have u4 : (p.c != 3) = true := by simpa using hcc
              have u5 : (((m + 1 : Nat) : Int) != p.d) = false := by rw [HC.out.d hcc]; simp
              have uu : decide (up ≥ 0) = false := by simp; have := HC.out.c; exact Int.not_le.1 (fun h => hcc (this.1 h))
              clear hcc
              generalize hmm : m + 1 = n3 at *
              go_upto_region 16 with (fail)
              refine cf16 (by kernel_rfl) _ _ w22 w22 b2 o2 _ c2 k b3 o3 n3 c3 m p e P j ⟨H22.out, HE.out, HPw2.out, Fr.refl _ _⟩ hlt hlm (Lib.hid hmm.symm) (by omega) HC.out.ij rfl rfl rfl rfl ?_
              intro x w23 h17 hst
              simp only [Eng.setAll, Act.put, List.setIfInBounds_toArray, List.set_cons_succ, List.set_cons_zero]
              rw [h17]
              have f1 := hst.f
              have HF3 := Lib.hid (HF2.out.trans f1 (fun _ _ h => h) (fun _ _ h => h))
              have HPw3 := Lib.hid (HPw2.out.below (f1.below (Nat.le_refl _) (fun _ _ h => h)))
              have H23 := Lib.hid (H22.out.keep f1); have H33 := Lib.hid (H32.out.keep f1)
              clear h17 hst f1 H22 H32 HPw2 HF2 HE u1 u2 u3 u4 u5 pc0 pc1 pc2 pc3 pc4 pc5
              have u1 : decide ((j : Int) < 0) = false := by simp
              have u2 : decide ((j : Int) ≥ (M.length : Int)) = false := by simp; omega
              go_upto_region 19 with (fail)
              refine cf19 (by kernel_rfl) _ _ w23 w23 b2 o2 _ c2 k b1 o1 c1 j p z P up ⟨H23.out, H33.out, HPw3.out, Fr.refl _ _⟩ hlt hj hlm HJu.out rfl rfl rfl rfl rfl ?_
              intro x w24 h17 hst
              simp only [Eng.setAll, Act.put, List.setIfInBounds_toArray, List.set_cons_succ, List.set_cons_zero]
              rw [h17]
              have f1 := hst.f
              have HF4 := Lib.hid (HF3.out.trans f1 (fun _ _ h => h) (fun _ _ h => h))
              have H24 := Lib.hid (H23.out.keep f1)
              clear h17 hst f1 H23 H33 HPw3 HF3 u1 u2
              have pc0 : w24.cell? ⟨b2, o2 + k * 6, none⟩ = some (.int .i64 p.t) := H24.out 0 _ rfl
              have pc1 : w24.cell? ⟨b2, o2 + k * 6 + 1, none⟩ = some (.int .i64 p.i) := H24.out 1 _ rfl
              have pc2 : w24.cell? ⟨b2, o2 + k * 6 + 1 + 1, none⟩ = some (.int .i64 p.c) := H24.out 2 _ rfl
              have pc3 : w24.cell? ⟨b2, o2 + k * 6 + 1 + 1 + 1, none⟩ = some (.int .i64 p.d) := H24.out 3 _ rfl
              have pc4 : w24.cell? ⟨b2, o2 + k * 6 + 1 + 1 + 1 + 1, none⟩ = some (.int .i64 p.p) := H24.out 4 _ rfl
              have pc5 : w24.cell? ⟨b2, o2 + k * 6 + 1 + 1 + 1 + 1 + 1, none⟩ = some (.int .i64 p.f) := H24.out 5 _ rfl
              go_wp2_with fail
              go_roundg (M.length - (k + 1))
              case rel => exact ⟨k + 1, Fa + fn, Be, by go_num, by go_num, by go_num, by omega, rfl, by omega, by omega, HF1.out, HBn.out, HF4.out⟩
              case measure => have := HG.out; omega
        · obtain rfl : k = M.length := by omega
          have q2 : decide ((M.length : Int) < (M.length : Int)) = false := by simp
          have hFB : Fa = Be := by rw [HFs.out, HBs.out, List.take_length]; exact fans_sum HSr.out
          subst hFB
          have q3 : ((Fa : Int) == (Fa : Int)) = true := by simp
          have hb := HF.out.below (Nat.le_refl _) (fun _ _ h => h)
          replace HB := Lib.hid (HB.out.trans (hb.mono HB.out.size))
          clear hb
          go_wp2_with fail
          refine (awake wr).mono ?_
          rintro e w30 ⟨rfl, hb⟩
          replace HB := Lib.hid (HB.out.trans (hb.mono HB.out.size))
          clear hb
          go_wp2_with fail
          go_ret
          exact ⟨rfl, HB.out⟩
end Law21
end Go.Proofs.Ytmcghchhegfilaa
