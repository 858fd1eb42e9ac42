/- Layer 47's statements: SeriesPlays: for every input the answer is true. -/
import Derived.Test.YtgfjpnpbkkadpaaGreatLaw47
import Derived.Test.YtgfjpnpbkkadpaaGreatSerH
import Derived.Test.YtgfjpnpbkkadpaaGreatRef47s
import Derived.Test.YtgfjpnpbkkadpaaGreatFewD
namespace Go.Proofs.YtgfjpnpbkkadpaaGreat
open Go.RowKit
namespace Law47
open KeyP PackP SetP SetW SetF BagP Bag Mk Delta ClsW Ser
attribute [local go_sem] Eng.ev Eng.getO_cons Eng.getO_nil
abbrev web : ByteArray := ⟨#[119, 101, 98]⟩
abbrev get : ByteArray := ⟨#[103, 101, 116]⟩
theorem few_len {L : List Sn} {n : Nat} (h : fewB L n = true) : L.length ≤ n := by unfold fewB at h; simp at h; exact h.2
theorem neq_c (a c : Int) (w : World) : (binOp .neq TC (.agg #[.int .i64 a, .int .i64 c]) (.agg #[.int .i64 a, .int .i64 c])).run Tryz.prog w = .ok (.bool false) w := by
  have hS : Tryz.prog.underlying TC = some (.struct (Tryz.prog.fieldsOf TC)) := by kernel_rfl
  have hp : Tryz.prog.stoodInHeld TC = false := by kernel_rfl
  rw [run_neq_struct, show (10000 : Nat) = 9999 + 1 from rfl, run_equalIn_agg w 9999 TC _ _ hS hp]
  simp only [Program.fieldsOf, Tryz.underlying42]
  go_simp
theorem RPeakE {A : Option Addr} {c n : Nat} {X : List (Int × Int)} {w : World} (hC : Cl w A c n X) (a e : Int) (hX : peakL X = (a, e)) (b : Bool) (hb : decide (0 < X.length) = b) : Calls Tryz.prog 20 #[.slice A n c] w fun e' w' => e' = .returned (.tuple #[.agg #[.int .i64 a, .int .i64 e], .bool b]) ∧ Below w.heap.size w w' := by
  subst hb
  refine (Ref47.Peak A c n X w hC).mono ?_
  rintro e' w' ⟨h1, h2⟩
  rw [hX] at h1
  exact ⟨h1, h2⟩
/-- A count's box. -/
structure PBx (w : World) (B : Nat) (a c : Int) : Prop where
  h : Bk w B #[.int .i64 a, .int .i64 c] TC
theorem PBx.below {w w' : World} {B : Nat} {a c : Int} (H : PBx w B a c) (hb : Below w.heap.size w w') : PBx w' B a c := ⟨H.h.fr (Fr.of_below' hb (fun _ => False)) (fun _ _ h => h)⟩
abbrev TPv : TypeId := 24
/-- The view, the document's, and those that nobody made. -/
structure PS (w0 w : World) (h Bx Be Bn : Nat) (W : Int) (m : Nat) (q : List Pq) (L : List Sn) : Prop where
  v : VS w0 w h W m q [Bn, Be, Bx]
  x : Ref47.RV w Bx W L
  e : Bk w Be #[.int .i64 0, .map none] TVw
  n : Bk w Bn #[.pointer none, .pointer (some ⟨Be, 0, none⟩)] TPv
  g : w0.heap.size ≤ Bx ∧ w0.heap.size ≤ Be ∧ w0.heap.size ≤ Bn ∧ Be ≠ Bx ∧ Bn ≠ Bx
section
variable {w0 w w' : World} {h Bx Be Bn : Nat} {W : Int} {m m' : Nat} {q q2 : List Pq} {L L2 : List Sn}
theorem PS.fr (H : PS w0 w h Bx Be Bn W m q L) (hf : Fr (fun _ => False) w w') : PS w0 w' h Bx Be Bn W m q L := ⟨H.v.fr hf, H.x.keep hf, H.e.fr hf (fun _ _ h => h), H.n.fr hf (fun _ _ h => h), H.g⟩
theorem PS.below (H : PS w0 w h Bx Be Bn W m q L) (hb : Below w.heap.size w w') : PS w0 w' h Bx Be Bn W m q L := H.fr (Fr.of_below' hb _)
theorem PS.perm (H : PS w0 w h Bx Be Bn W m q L) (hp : q.Perm q2) : PS w0 w h Bx Be Bn W m q2 L := ⟨H.v.perm hp, H.x, H.e, H.n, H.g⟩
theorem PS.up (H : PS w0 w h Bx Be Bn W m q L) (hm : m ≤ m') : PS w0 w h Bx Be Bn W m' q L := ⟨H.v.up hm, H.x, H.e, H.n, H.g⟩
theorem PS.apV (H : PS w0 w h Bx Be Bn W m q L) (hv : VS w0 w' h W m' q2 [Bn, Be, Bx]) (hk : ∀ A c L, Ls w A c L → Ls w' A c L) (hf : Fr (fun x => w0.heap.size ≤ x ∧ ¬ x ∈ [Bn, Be, Bx]) w w') : PS w0 w' h Bx Be Bn W m' q2 L := by
  obtain ⟨A, c, h1, h2⟩ := H.x
  exact ⟨hv, ⟨A, c, h1.fr hf (fun b hb hs => by simp at hb; subst hb; exact hs.2 (by simp)), hk _ _ _ h2⟩, H.e.fr hf (fun b hb hs => by simp at hb; subst hb; exact hs.2 (by simp)), H.n.fr hf (fun b hb hs => by simp at hb; subst hb; exact hs.2 (by simp)), H.g⟩
theorem PS.apX (H : PS w0 w h Bx Be Bn W m q L) (hx : Ref47.RV w' Bx W L2) (hf : Fr (· = Bx) w w') : PS w0 w' h Bx Be Bn W m q L2 :=
  ⟨H.v.oth (hf.mono (fun _ _ e => by subst e; simp)) (fun x hx => by simp at hx; rcases hx with rfl | rfl | rfl; exact H.g.2.2.1; exact H.g.2.1; exact H.g.1), hx, H.e.fr hf (fun b hb e => by simp at hb; subst hb; exact H.g.2.2.2.1 e), H.n.fr hf (fun b hb e => by simp at hb; subst hb; exact H.g.2.2.2.2 e), H.g⟩
end
theorem fin_perm {W : Int} {q2 : List Pq} {L L2 O I : List Sn} (b : Bool) (hn1 : b = false → q2 = L.map (pr W)) (hy1 : b = true → ∃ qk, (qk ++ O.map (pr W)).Perm (L.map (pr W)) ∧ q2 = qk ++ I.map (pr W)) (hn2 : b = false → L2 = L) (hy2 : b = true → ∃ lk, L2 = lk ++ I ∧ (lk.map (pr W) ++ O.map (pr W)).Perm (L.map (pr W))) : q2.Perm (L2.map (pr W)) ∧ L2.length ≤ L.length + I.length := by
  cases b with
  | false => rw [hn1 rfl, hn2 rfl]; exact ⟨List.Perm.refl _, by omega⟩
  | true =>
    obtain ⟨qk, h1, rfl⟩ := hy1 rfl
    obtain ⟨lk, rfl, h2⟩ := hy2 rfl
    have h3 := h2.length_eq
    rw [List.length_append, List.length_map, List.length_map, List.length_map] at h3
    refine ⟨?_, by rw [List.length_append]; omega⟩
    rw [List.map_append]
    exact ((List.perm_append_right_iff _).1 (h1.trans h2.symm)).append_right _
theorem dl_at {l : List Dl} {k : Nat} (hk : k < l.length) : (l.flatMap Dl.cs)[k * 2]? = some (.slice l[k].A1 l[k].O.length l[k].c1) ∧ (l.flatMap Dl.cs)[k * 2 + 1]? = some (.slice l[k].A2 l[k].I.length l[k].c2) := by
  have h0 := flat_at (f := Dl.cs) (sz := 2) (fun _ => rfl) hk (j := 0) (by omega)
  have h1 := flat_at (f := Dl.cs) (sz := 2) (fun _ => rfl) hk (j := 1) (by omega)
  rw [Nat.add_zero] at h0
  exact ⟨h0, h1⟩
structure NR (w0 w : World) (b o : Nat) (y : Sn) : Prop where
  a : At w b o y
  f : Fr (fun _ => False) w0 w
theorem NR.fr {w0 w w' : World} {b o : Nat} {y : Sn} (H : NR w0 w b o y) (hf : Fr (fun _ => False) w w') : NR w0 w' b o y := ⟨H.a.keep hf, H.f.trans hf (fun _ _ h => h) (fun _ _ h => h)⟩
/-- One that nobody made, for a round. -/
structure QS (w0 w : World) (Bn k : Nat) (nv : Value) (b o : Nat) (u v : Value) : Prop where
  n : w.cell? ⟨Bn, k, none⟩ = some nv
  c1 : w.cell? ⟨b, o, none⟩ = some u
  c2 : w.cell? ⟨b, o + 1, none⟩ = some v
  m : NM nv w
  f : Below w0.heap.size w0 w
theorem QS.below {w0 w w' : World} {Bn k : Nat} {nv : Value} {b o : Nat} {u v : Value} (H : QS w0 w Bn k nv b o u v) (hb : Below w.heap.size w w') : QS w0 w' Bn k nv b o u v :=
  ⟨Ref47.cell_fr H.n (Fr.of_below' hb (fun _ => False)) (fun h => h), Ref47.cell_fr H.c1 (Fr.of_below' hb (fun _ => False)) (fun h => h), Ref47.cell_fr H.c2 (Fr.of_below' hb (fun _ => False)) (fun h => h), H.m.below hb, H.f.trans (hb.mono H.f.size)⟩
theorem drew_below (w : World) : Below w.heap.size w w.drew := (Fr.drew (fun _ => False) w).below (Nat.le_refl _) (fun _ _ h => h)
set_option maxRecDepth 100000 in
set_option maxHeartbeats 400000 in
theorem sp10 {ops : Array Oper} (hops : Eng.fnOps Tryz.f3 10 = ops) (a0 : Act) (Q : Exit → Act → World → Prop) (w0 w : World) (h Bx Be Bn : Nat) (W : Int) (m : Nat) (L : List Sn) (b1 o1 len c i : Nat) (A1 A2 : Option Addr) (c1 c2 : Nat) (O I : List Sn) (hin : ∀ W' : World, Below w0.heap.size w0 W' → W'.cell? ⟨b1, o1 + i * 2, none⟩ = some (.slice A1 O.length c1) ∧ W'.cell? ⟨b1, o1 + i * 2 + 1, none⟩ = some (.slice A2 I.length c2)) (hd0 : ∀ W' : World, Below w0.heap.size w0 W' → RdD W' ⟨A1, c1, O, A2, c2, I⟩) (hlo : O.length ≤ 12) (hli : I.length ≤ 12) (hlm : m ≤ 1000) (hlq : L.length ≤ 1000) (hst : PS w0 w h Bx Be Bn W m (L.map (pr W)) L) (hk : i < len) (hlen : len ≤ 9223372036854775807)
    (hn : a0.tmps.size = 166) (h_1 : a0.tmps.getD 1 undef = .slice (some ⟨b1, o1, none⟩) len c) (h_5 : a0.tmps.getD 5 undef = .pointer (some ⟨h, 0, none⟩)) (h_6 : a0.tmps.getD 6 undef = .pointer (some ⟨Bx, 0, none⟩)) (h_8 : a0.tmps.getD 8 undef = .int .i64 (i : Int))
    (hpost : ∀ (x : Nat → Value) (w' : World) (L2 : List Sn), x 58 = .bool false → PS w0 w' h Bx Be Bn W (m + O.length + I.length) (L2.map (pr W)) L2 → L2.length ≤ L.length + I.length → Q .normal (Eng.setAll a0 [46, 47, 48, 49, 50, 51, 52, 53, 54, 55, 56, 57, 58] x) w') :
    (Code.region 10 ops true).wp Tryz.prog Q a0 w := by
  simp only [Eng.fnOps, Eng.regOps, Tryz.f3, Option.bind_some, Option.getD_some, Nat.reduceEqDiff, ↓reduceIte, Nat.reduceBEq] at hops
  subst hops
  have q1 : (0 : Int) ≤ (i : Int) := by omega
  have q2' : (i : Int) < (len : Int) := by omega
  have HSt := Lib.hid (hst.fr (Fr.drew _ _))
  have hSS : w.drew.cell? ⟨b1, o1 + i * 2, none⟩ = some (.slice A1 O.length c1) ∧ w.drew.cell? ⟨b1, o1 + i * 2 + 1, none⟩ = some (.slice A2 I.length c2) := ⟨(hin _ HSt.out.v.bel).1, (hin _ HSt.out.v.bel).2⟩
  refine Eng.regionN [(0, true), (1, true), (2, true), (3, true), (4, true), (6, true), (7, true), (8, true), (9, true), (10, true), (5, false), (11, false), (12, true)] (fun w' => w'.cell? ⟨b1, o1 + i * 2, none⟩ = some (.slice A1 O.length c1) ∧ w'.cell? ⟨b1, o1 + i * 2 + 1, none⟩ = some (.slice A2 I.length c2)) (by kernel_rfl) 166 hn (by kernel_rfl) rfl (by kernel_rfl) (hSS) (fun a b ha hb => ?_)
  subst ha
  have hb1 : b 1 = .slice (some ⟨b1, o1, none⟩) len c := (hb 1).symm.trans h_1
  have hb5 : b 5 = .pointer (some ⟨h, 0, none⟩) := (hb 5).symm.trans h_5
  have hb6 : b 6 = .pointer (some ⟨Bx, 0, none⟩) := (hb 6).symm.trans h_6
  have hb8 : b 8 = .int .i64 (i : Int) := (hb 8).symm.trans h_8
  clear hb h_1 h_5 h_6 h_8
  have HP := Lib.hid hpost; have HN := Lib.hid hn
  clear hpost hn
  refine Eng.Sch.take (v := ?_) rfl rfl (by decide) (by kernel_rfl) (fun w hw => ?_) ?_
  rotate_left
  · (try dsimp only at hw); go_simp; first | done | with_reducible rfl
  refine Eng.Sch.take (v := ?_) rfl rfl (by decide) (by kernel_rfl) (fun w hw => ?_) ?_
  rotate_left
  · (try dsimp only at hw); go_simp; first | done | with_reducible rfl
  refine Eng.Sch.take (v := ?_) rfl rfl (by decide) (by kernel_rfl) (fun w hw => ?_) ?_
  rotate_left
  · (try dsimp only at hw); go_simp; first | done | with_reducible rfl
  refine Eng.Sch.take (v := ?_) rfl rfl (by decide) (by kernel_rfl) (fun w hw => ?_) ?_
  rotate_left
  · (try dsimp only at hw); go_simp; first | done | with_reducible rfl
  refine Eng.Sch.take (v := ?_) rfl rfl (by decide) (by kernel_rfl) (fun w hw => ?_) ?_
  rotate_left
  · (try dsimp only at hw); go_simp; first | done | with_reducible rfl
  refine Eng.Sch.take (v := ?_) rfl rfl (by decide) (by kernel_rfl) (fun w hw => ?_) ?_
  rotate_left
  · (try dsimp only at hw); go_simp; first | done | with_reducible rfl
  refine Eng.Sch.take (v := ?_) rfl rfl (by decide) (by kernel_rfl) (fun w hw => ?_) ?_
  rotate_left
  · (try dsimp only at hw); go_simp; first | done | with_reducible rfl
  refine Eng.Sch.take (v := ?_) rfl rfl (by decide) (by kernel_rfl) (fun w hw => ?_) ?_
  rotate_left
  · (try dsimp only at hw); go_simp; first | done | with_reducible rfl
  refine Eng.Sch.take (v := ?_) rfl rfl (by decide) (by kernel_rfl) (fun w hw => ?_) ?_
  rotate_left
  · (try dsimp only at hw); go_simp; first | done | with_reducible rfl
  refine Eng.Sch.take (v := ?_) rfl rfl (by decide) (by kernel_rfl) (fun w hw => ?_) ?_
  rotate_left
  · (try dsimp only at hw); go_simp; first | done | with_reducible rfl
  refine Eng.Sch.call rfl rfl (by decide) (by kernel_rfl) ?_ (ApplyE h W m (L.map (pr W)) [Bn, Be, Bx] ⟨A1, c1, O, A2, c2, I⟩ w0 _ HSt.out.v (hd0 _ HSt.out.v.bel) (by show O.length ≤ _; omega) (by show I.length ≤ _; omega) (by omega) (by rw [List.length_map]; omega)) ?_
  · go_simp
  rintro e w2 ⟨bb, q2, rfl, hv, hk1, hf1, hb1, hn1, hy1⟩
  have HSt1 := Lib.hid (HSt.out.apV hv hk1 hf1)
  have hSS : w2.cell? ⟨b1, o1 + i * 2, none⟩ = some (.slice A1 O.length c1) ∧ w2.cell? ⟨b1, o1 + i * 2 + 1, none⟩ = some (.slice A2 I.length c2) := ⟨(hin _ HSt1.out.v.bel).1, (hin _ HSt1.out.v.bel).2⟩
  refine ⟨_, rfl, hSS, ?_⟩
  refine Eng.Sch.call rfl rfl (by decide) (by kernel_rfl) ?_ (Ref47.Apply Bx W L ⟨A1, c1, O, A2, c2, I⟩ _ HSt1.out.x (hd0 _ HSt1.out.v.bel) (by show O.length ≤ _; omega) (by show I.length ≤ _; omega) (by omega)) ?_
  · go_simp
  rintro e w3 ⟨b2, L2, rfl, ho⟩
  have hbe : b2 = bb := ho.hb.trans hb1.symm
  have qb : (bb != b2) = false := by rw [hbe]; simp
  have HSt2 := Lib.hid (HSt1.out.apX ho.v ho.f)
  have hSS : w3.cell? ⟨b1, o1 + i * 2, none⟩ = some (.slice A1 O.length c1) ∧ w3.cell? ⟨b1, o1 + i * 2 + 1, none⟩ = some (.slice A2 I.length c2) := ⟨(hin _ HSt2.out.v.bel).1, (hin _ HSt2.out.v.bel).2⟩
  refine ⟨_, rfl, hSS, ?_⟩
  refine Eng.Sch.take (v := ?_) rfl rfl (by decide) (by kernel_rfl) (fun w hw => ?_) ?_
  rotate_left
  · (try dsimp only at hw); go_simp; first | done | with_reducible rfl
  refine Eng.Sch.end_ [46, 47, 48, 49, 50, 51, 52, 53, 54, 55, 56, 57, 58] HN.out (by kernel_rfl) (by kernel_rfl) ?_
  exact HP.out _ _ L2 rfl (HSt2.out.perm (fin_perm bb hn1 hy1 (hbe ▸ ho.no) (hbe ▸ ho.yes)).1) (fin_perm bb hn1 hy1 (hbe ▸ ho.no) (hbe ▸ ho.yes)).2

set_option maxRecDepth 100000 in
set_option maxHeartbeats 400000 in
theorem sp18 {ops : Array Oper} (hops : Eng.fnOps Tryz.f3 18 = ops) (a0 : Act) (Q : Exit → Act → World → Prop) (w0 w : World) (b1 o1 len c k : Nat) (y : Sn) (hst : NR w0 w b1 (o1 + k * 9) y) (hk : k < len) (hlen : len ≤ 9223372036854775807)
    (hn : a0.tmps.size = 166) (h_9 : a0.tmps.getD 9 undef = .slice (some ⟨b1, o1, none⟩) len c) (h_10 : a0.tmps.getD 10 undef = .int .i64 (k : Int))
    (hpost : ∀ (x : Nat → Value) (w' : World), x 11 = .string y.s → x 12 = .string y.o → NR w0 w' b1 (o1 + k * 9) y → Q .normal (Eng.setAll a0 [11, 12, 79, 80, 81, 82, 83, 84, 85, 86, 87, 88] x) w') :
    (Code.region 18 ops true).wp Tryz.prog Q a0 w := by
  simp only [Eng.fnOps, Eng.regOps, Tryz.f3, Option.bind_some, Option.getD_some, Nat.reduceEqDiff, ↓reduceIte, Nat.reduceBEq] at hops
  subst hops
  have q1 : (0 : Int) ≤ (k : Int) := by omega
  have q2 : (k : Int) < (len : Int) := by omega
  have HSt := Lib.hid (hst.fr (Fr.drew _ _))
  have hSS : w.drew.cell? ⟨b1, o1 + k * 9, none⟩ = some (.int .i64 y.t) ∧ w.drew.cell? ⟨b1, o1 + k * 9 + 1, none⟩ = some (.int .i64 y.i) ∧ w.drew.cell? ⟨b1, o1 + k * 9 + 1 + 1, none⟩ = some (.int .i64 y.p) ∧ w.drew.cell? ⟨b1, o1 + k * 9 + 1 + 1 + 1, none⟩ = some (.int .i64 y.r) ∧ w.drew.cell? ⟨b1, o1 + k * 9 + 1 + 1 + 1 + 1, none⟩ = some (.string y.s) ∧ w.drew.cell? ⟨b1, o1 + k * 9 + 1 + 1 + 1 + 1 + 1, none⟩ = some (.string y.o) ∧ w.drew.cell? ⟨b1, o1 + k * 9 + 1 + 1 + 1 + 1 + 1 + 1, none⟩ = some (.int .i64 y.b) ∧ w.drew.cell? ⟨b1, o1 + k * 9 + 1 + 1 + 1 + 1 + 1 + 1 + 1, none⟩ = some (.int .i64 y.d) ∧ w.drew.cell? ⟨b1, o1 + k * 9 + 1 + 1 + 1 + 1 + 1 + 1 + 1 + 1, none⟩ = some (.bool y.g) := ⟨HSt.out.a 0 _ rfl, HSt.out.a 1 _ rfl, HSt.out.a 2 _ rfl, HSt.out.a 3 _ rfl, HSt.out.a 4 _ rfl, HSt.out.a 5 _ rfl, HSt.out.a 6 _ rfl, HSt.out.a 7 _ rfl, HSt.out.a 8 _ rfl⟩
  refine Eng.regionN [(0, true), (1, true), (2, true), (3, true), (4, true), (5, true), (6, true), (7, true), (8, true), (9, true), (10, true), (11, true)] (fun w' => w'.cell? ⟨b1, o1 + k * 9, none⟩ = some (.int .i64 y.t) ∧ w'.cell? ⟨b1, o1 + k * 9 + 1, none⟩ = some (.int .i64 y.i) ∧ w'.cell? ⟨b1, o1 + k * 9 + 1 + 1, none⟩ = some (.int .i64 y.p) ∧ w'.cell? ⟨b1, o1 + k * 9 + 1 + 1 + 1, none⟩ = some (.int .i64 y.r) ∧ w'.cell? ⟨b1, o1 + k * 9 + 1 + 1 + 1 + 1, none⟩ = some (.string y.s) ∧ w'.cell? ⟨b1, o1 + k * 9 + 1 + 1 + 1 + 1 + 1, none⟩ = some (.string y.o) ∧ w'.cell? ⟨b1, o1 + k * 9 + 1 + 1 + 1 + 1 + 1 + 1, none⟩ = some (.int .i64 y.b) ∧ w'.cell? ⟨b1, o1 + k * 9 + 1 + 1 + 1 + 1 + 1 + 1 + 1, none⟩ = some (.int .i64 y.d) ∧ w'.cell? ⟨b1, o1 + k * 9 + 1 + 1 + 1 + 1 + 1 + 1 + 1 + 1, none⟩ = some (.bool y.g)) (by kernel_rfl) 166 hn (by kernel_rfl) rfl (by kernel_rfl) (hSS) (fun a b ha hb => ?_)
  subst ha
  have hb9 : b 9 = .slice (some ⟨b1, o1, none⟩) len c := (hb 9).symm.trans h_9
  have hb10 : b 10 = .int .i64 (k : Int) := (hb 10).symm.trans h_10
  clear hb h_9 h_10
  have HP := Lib.hid hpost; have HN := Lib.hid hn
  clear hpost hn
  refine Eng.Sch.take (v := ?_) rfl rfl (by decide) (by kernel_rfl) (fun w hw => ?_) ?_
  rotate_left
  · (try dsimp only at hw); go_simp; first | done | with_reducible rfl
  refine Eng.Sch.take (v := ?_) rfl rfl (by decide) (by kernel_rfl) (fun w hw => ?_) ?_
  rotate_left
  · (try dsimp only at hw); go_simp; first | done | with_reducible rfl
  refine Eng.Sch.take (v := ?_) rfl rfl (by decide) (by kernel_rfl) (fun w hw => ?_) ?_
  rotate_left
  · (try dsimp only at hw); go_simp; first | done | with_reducible rfl
  refine Eng.Sch.take (v := ?_) rfl rfl (by decide) (by kernel_rfl) (fun w hw => ?_) ?_
  rotate_left
  · (try dsimp only at hw); go_simp; first | done | with_reducible rfl
  refine Eng.Sch.take (v := ?_) rfl rfl (by decide) (by kernel_rfl) (fun w hw => ?_) ?_
  rotate_left
  · (try dsimp only at hw); go_simp; first | done | with_reducible rfl
  refine Eng.Sch.take (v := ?_) rfl rfl (by decide) (by kernel_rfl) (fun w hw => ?_) ?_
  rotate_left
  · (try dsimp only at hw); go_simp; first | done | with_reducible rfl
  refine Eng.Sch.take (v := ?_) rfl rfl (by decide) (by kernel_rfl) (fun w hw => ?_) ?_
  rotate_left
  · (try dsimp only at hw); go_simp; first | done | with_reducible rfl
  refine Eng.Sch.take (v := ?_) rfl rfl (by decide) (by kernel_rfl) (fun w hw => ?_) ?_
  rotate_left
  · (try dsimp only at hw); go_simp; first | done | with_reducible rfl
  refine Eng.Sch.take (v := ?_) rfl rfl (by decide) (by kernel_rfl) (fun w hw => ?_) ?_
  rotate_left
  · (try dsimp only at hw); go_simp; first | done | with_reducible rfl
  refine Eng.Sch.take (v := ?_) rfl rfl (by decide) (by kernel_rfl) (fun w hw => ?_) ?_
  rotate_left
  · (try dsimp only at hw); go_simp; first | done | with_reducible rfl
  refine Eng.Sch.take (v := ?_) rfl rfl (by decide) (by kernel_rfl) (fun w hw => ?_) ?_
  rotate_left
  · (try dsimp only at hw); go_simp; first | done | with_reducible rfl
  refine Eng.Sch.take (v := ?_) rfl rfl (by decide) (by kernel_rfl) (fun w hw => ?_) ?_
  rotate_left
  · (try dsimp only at hw); go_simp; first | done | with_reducible rfl
  refine Eng.Sch.end_ [11, 12, 79, 80, 81, 82, 83, 84, 85, 86, 87, 88] HN.out (by kernel_rfl) (by kernel_rfl) ?_
  exact HP.out _ _ rfl rfl HSt.out

set_option maxRecDepth 100000 in
set_option maxHeartbeats 400000 in
theorem sp28 {ops : Array Oper} (hops : Eng.fnOps Tryz.f3 28 = ops) (a0 : Act) (Q : Exit → Act → World → Prop) (w0 w : World) (Bn k : Nat) (nv : Value) (b1 o1 len c i : Nat) (A1 A2 : Option Addr) (c1 c2 : Nat) (O I : List Sn) (Aa : Option Addr) (n ca : Nat) (bz : Bool) (hn : O.length + I.length = n) (hbz : ((n : Int) == 0) = bz) (hlo : O.length ≤ 12) (hli : I.length ≤ 12) (hst : QS w0 w Bn k nv b1 (o1 + i * 2) (.slice A1 O.length c1) (.slice A2 I.length c2)) (hk : i < len) (hlen : len ≤ 9223372036854775807) (hk2 : k < 2)
    (hn : a0.tmps.size = 166) (h_1 : a0.tmps.getD 1 undef = .slice (some ⟨b1, o1, none⟩) len c) (h_7 : a0.tmps.getD 7 undef = .slice (some ⟨Bn, 0, none⟩) 2 2) (h_8 : a0.tmps.getD 8 undef = .int .i64 (i : Int)) (h_9 : a0.tmps.getD 9 undef = .slice Aa n ca) (h_18 : a0.tmps.getD 18 undef = .int .i64 (k : Int)) (h_20 : a0.tmps.getD 20 undef = .bool false)
    (hpost : ∀ (x : Nat → Value) (w' : World), x 164 = .bool false → QS w0 w' Bn k nv b1 (o1 + i * 2) (.slice A1 O.length c1) (.slice A2 I.length c2) → Q .normal (Eng.setAll a0 [140, 141, 142, 143, 144, 145, 146, 147, 148, 149, 150, 151, 152, 153, 154, 155, 156, 157, 158, 159, 160, 161, 162, 163, 164] x) w') :
    (Code.region 28 ops true).wp Tryz.prog Q a0 w := by
  simp only [Eng.fnOps, Eng.regOps, Tryz.f3, Option.bind_some, Option.getD_some, Nat.reduceEqDiff, ↓reduceIte, Nat.reduceBEq] at hops
  subst hops
  have q1 : (0 : Int) ≤ (i : Int) := by omega
  have q2 : (i : Int) < (len : Int) := by omega
  have q3 : (0 : Int) ≤ (k : Int) := by omega
  have q4 : (k : Int) < 2 := by omega
  have q5 : (bz != bz) = false := by simp
  have HSt := Lib.hid (hst.below (drew_below _))
  have hSS : w.drew.cell? ⟨Bn, k, none⟩ = some nv ∧ w.drew.cell? ⟨b1, o1 + i * 2, none⟩ = some (.slice A1 O.length c1) ∧ w.drew.cell? ⟨b1, o1 + i * 2 + 1, none⟩ = some (.slice A2 I.length c2) := ⟨HSt.out.n, HSt.out.c1, HSt.out.c2⟩
  refine Eng.regionN [(0, true), (1, true), (2, true), (3, true), (4, true), (5, true), (6, true), (7, true), (9, true), (10, true), (11, true), (8, false), (12, true), (13, true), (14, true), (15, true), (16, true), (17, true), (18, true), (19, true), (20, true), (21, false), (22, true), (23, true), (24, true)] (fun w' => w'.cell? ⟨Bn, k, none⟩ = some nv ∧ w'.cell? ⟨b1, o1 + i * 2, none⟩ = some (.slice A1 O.length c1) ∧ w'.cell? ⟨b1, o1 + i * 2 + 1, none⟩ = some (.slice A2 I.length c2)) (by kernel_rfl) 166 hn (by kernel_rfl) rfl (by kernel_rfl) (hSS) (fun a b ha hb => ?_)
  subst ha
  have hb1 : b 1 = .slice (some ⟨b1, o1, none⟩) len c := (hb 1).symm.trans h_1
  have hb7 : b 7 = .slice (some ⟨Bn, 0, none⟩) 2 2 := (hb 7).symm.trans h_7
  have hb8 : b 8 = .int .i64 (i : Int) := (hb 8).symm.trans h_8
  have hb9 : b 9 = .slice Aa n ca := (hb 9).symm.trans h_9
  have hb18 : b 18 = .int .i64 (k : Int) := (hb 18).symm.trans h_18
  have hb20 : b 20 = .bool false := (hb 20).symm.trans h_20
  clear hb h_1 h_7 h_8 h_9 h_18 h_20
  have HP := Lib.hid hpost; have HN := Lib.hid hn
  clear hpost hn
  refine Eng.Sch.take (v := ?_) rfl rfl (by decide) (by kernel_rfl) (fun w hw => ?_) ?_
  rotate_left
  · (try dsimp only at hw); go_simp; first | done | with_reducible rfl
  refine Eng.Sch.take (v := ?_) rfl rfl (by decide) (by kernel_rfl) (fun w hw => ?_) ?_
  rotate_left
  · (try dsimp only at hw); go_simp; first | done | with_reducible rfl
  refine Eng.Sch.take (v := ?_) rfl rfl (by decide) (by kernel_rfl) (fun w hw => ?_) ?_
  rotate_left
  · (try dsimp only at hw); go_simp; first | done | with_reducible rfl
  refine Eng.Sch.take (v := ?_) rfl rfl (by decide) (by kernel_rfl) (fun w hw => ?_) ?_
  rotate_left
  · (try dsimp only at hw); go_simp; first | done | with_reducible rfl
  refine Eng.Sch.take (v := ?_) rfl rfl (by decide) (by kernel_rfl) (fun w hw => ?_) ?_
  rotate_left
  · (try dsimp only at hw); go_simp; first | done | with_reducible rfl
  refine Eng.Sch.take (v := ?_) rfl rfl (by decide) (by kernel_rfl) (fun w hw => ?_) ?_
  rotate_left
  · (try dsimp only at hw); go_simp; first | done | with_reducible rfl
  refine Eng.Sch.take (v := ?_) rfl rfl (by decide) (by kernel_rfl) (fun w hw => ?_) ?_
  rotate_left
  · (try dsimp only at hw); go_simp; first | done | with_reducible rfl
  refine Eng.Sch.take (v := ?_) rfl rfl (by decide) (by kernel_rfl) (fun w hw => ?_) ?_
  rotate_left
  · (try dsimp only at hw); go_simp; first | done | with_reducible rfl
  refine Eng.Sch.take (v := ?_) rfl rfl (by decide) (by kernel_rfl) (fun w hw => ?_) ?_
  rotate_left
  · (try dsimp only at hw); go_simp; first | done | with_reducible rfl
  refine Eng.Sch.take (v := ?_) rfl rfl (by decide) (by kernel_rfl) (fun w hw => ?_) ?_
  rotate_left
  · (try dsimp only at hw); go_simp; first | done | with_reducible rfl
  refine Eng.Sch.take (v := ?_) rfl rfl (by decide) (by kernel_rfl) (fun w hw => ?_) ?_
  rotate_left
  · (try dsimp only at hw); go_simp; first | done | with_reducible rfl
  refine Eng.Sch.call rfl rfl (by decide) (by kernel_rfl) ?_ (ApplyN HSt.out.m ⟨A1, c1, O, A2, c2, I⟩ (by show O.length ≤ _; omega) (by show I.length ≤ _; omega) bz (by show (((O.length + I.length : Nat) : Int) == 0) = bz; rw [hn]; exact hbz)) ?_
  · go_simp
  rintro e w2 ⟨rfl, hb1⟩
  have HSt1 := Lib.hid (HSt.out.below hb1)
  have hSS : w2.cell? ⟨Bn, k, none⟩ = some nv ∧ w2.cell? ⟨b1, o1 + i * 2, none⟩ = some (.slice A1 O.length c1) ∧ w2.cell? ⟨b1, o1 + i * 2 + 1, none⟩ = some (.slice A2 I.length c2) := ⟨HSt1.out.n, HSt1.out.c1, HSt1.out.c2⟩
  refine ⟨_, rfl, hSS, ?_⟩
  refine Eng.Sch.take (v := ?_) rfl rfl (by decide) (by kernel_rfl) (fun w hw => ?_) ?_
  rotate_left
  · (try dsimp only at hw); go_simp; first | done | with_reducible rfl
  refine Eng.Sch.take (v := ?_) rfl rfl (by decide) (by kernel_rfl) (fun w hw => ?_) ?_
  rotate_left
  · (try dsimp only at hw); go_simp; first | done | with_reducible rfl
  refine Eng.Sch.take (v := ?_) rfl rfl (by decide) (by kernel_rfl) (fun w hw => ?_) ?_
  rotate_left
  · (try dsimp only at hw); go_simp; first | done | with_reducible rfl
  refine Eng.Sch.take (v := ?_) rfl rfl (by decide) (by kernel_rfl) (fun w hw => ?_) ?_
  rotate_left
  · (try dsimp only at hw); go_simp; first | done | with_reducible rfl
  refine Eng.Sch.take (v := ?_) rfl rfl (by decide) (by kernel_rfl) (fun w hw => ?_) ?_
  rotate_left
  · (try dsimp only at hw); go_simp; first | done | with_reducible rfl
  refine Eng.Sch.take (v := ?_) rfl rfl (by decide) (by kernel_rfl) (fun w hw => ?_) ?_
  rotate_left
  · (try dsimp only at hw); go_simp; first | done | with_reducible rfl
  refine Eng.Sch.take (v := ?_) rfl rfl (by decide) (by kernel_rfl) (fun w hw => ?_) ?_
  rotate_left
  · (try dsimp only at hw); go_simp; first | done | with_reducible rfl
  refine Eng.Sch.take (v := ?_) rfl rfl (by decide) (by kernel_rfl) (fun w hw => ?_) ?_
  rotate_left
  · (try dsimp only at hw); go_simp; first | done | with_reducible rfl
  refine Eng.Sch.take (v := ?_) rfl rfl (by decide) (by kernel_rfl) (fun w hw => ?_) ?_
  rotate_left
  · (try dsimp only at hw); go_simp; first | done | with_reducible rfl
  refine Eng.Sch.call rfl rfl (by decide) (by kernel_rfl) ?_ (CountsN HSt1.out.m web get) ?_
  · go_simp
  rintro e w3 ⟨A9, c9, rfl, hb2⟩
  have HSt2 := Lib.hid (HSt1.out.below hb2)
  have hSS : w3.cell? ⟨Bn, k, none⟩ = some nv ∧ w3.cell? ⟨b1, o1 + i * 2, none⟩ = some (.slice A1 O.length c1) ∧ w3.cell? ⟨b1, o1 + i * 2 + 1, none⟩ = some (.slice A2 I.length c2) := ⟨HSt2.out.n, HSt2.out.c1, HSt2.out.c2⟩
  refine ⟨_, rfl, hSS, ?_⟩
  refine Eng.Sch.take (v := ?_) rfl rfl (by decide) (by kernel_rfl) (fun w hw => ?_) ?_
  rotate_left
  · (try dsimp only at hw); go_simp; first | done | with_reducible rfl
  refine Eng.Sch.take (v := ?_) rfl rfl (by decide) (by kernel_rfl) (fun w hw => ?_) ?_
  rotate_left
  · (try dsimp only at hw); go_simp; first | done | with_reducible rfl
  refine Eng.Sch.take (v := ?_) rfl rfl (by decide) (by kernel_rfl) (fun w hw => ?_) ?_
  rotate_left
  · (try dsimp only at hw); go_simp; first | done | with_reducible rfl
  refine Eng.Sch.end_ [140, 141, 142, 143, 144, 145, 146, 147, 148, 149, 150, 151, 152, 153, 154, 155, 156, 157, 158, 159, 160, 161, 162, 163, 164] HN.out (by kernel_rfl) (by kernel_rfl) ?_
  exact HP.out _ _ rfl HSt2.out

theorem PS.start {w0 w1 : World} {h : Nat} {W : Int} (hv : VS w0 w1 h W 0 [] []) : PS w0 (((w1.alloc (.cells #[.int .i64 W, .slice none 0 0] Ref47.TRV)).alloc (.cells #[.int .i64 0, .map none] TVw)).alloc (.cells #[.pointer none, .pointer (some ⟨w1.heap.size + 1, 0, none⟩)] TPv)) h w1.heap.size (w1.heap.size + 1) (w1.heap.size + 1 + 1) W 0 [] [] := by
  have fa := fun (w : World) (o : Obj) => Fr.alloc (fun _ => False) w o
  have hs := hv.bel.size
  have v1 := hv.more (fa w1 (.cells #[.int .i64 W, .slice none 0 0] Ref47.TRV)) (Nat.le_refl _) (by simp)
  have v2 := v1.more (fa _ (.cells #[.int .i64 0, .map none] TVw)) (Nat.le_refl _) (by simp)
  have v3 := v2.more (fa _ (.cells #[.pointer none, .pointer (some ⟨w1.heap.size + 1, 0, none⟩)] TPv)) (Nat.le_refl _) (by simp)
  simp only [World.size_alloc] at v3
  refine ⟨v3, ⟨none, 0, ?_, Ls.nil _⟩, ?_, ?_, by omega, by omega, by omega, by omega, by omega⟩
  · exact ((Bk.new w1 _ _).fr (fa _ _) (fun _ _ h => h)).fr (fa _ _) (fun _ _ h => h)
  · have := (Bk.new (w1.alloc (.cells #[.int .i64 W, .slice none 0 0] Ref47.TRV)) #[.int .i64 0, .map none] TVw).fr (fa _ (.cells #[.pointer none, .pointer (some ⟨w1.heap.size + 1, 0, none⟩)] TPv)) (fun _ _ h => h)
    rwa [World.size_alloc] at this
  · have := Bk.new ((w1.alloc (.cells #[.int .i64 W, .slice none 0 0] Ref47.TRV)).alloc (.cells #[.int .i64 0, .map none] TVw)) #[.pointer none, .pointer (some ⟨w1.heap.size + 1, 0, none⟩)] TPv
    rwa [World.size_alloc, World.size_alloc] at this
def nobv (Be k : Nat) : Value := if k = 0 then .pointer none else .pointer (some ⟨Be, 0, none⟩)
theorem nob_cell {w : World} {Bn Be k : Nat} (h : Bk w Bn #[.pointer none, .pointer (some ⟨Be, 0, none⟩)] TPv) (hk : k < 2) : w.cell? ⟨Bn, k, none⟩ = some (nobv Be k) := by
  rw [h.cell k]
  rcases (by omega : k = 0 ∨ k = 1) with rfl | rfl <;> rfl
theorem nob_nm {w : World} {Be : Nat} (h : Bk w Be #[.int .i64 0, .map none] TVw) (k : Nat) : NM (nobv Be k) w := by
  unfold nobv; split
  · exact NM.nil w
  · exact NM.empty h
set_option maxRecDepth 100000 in
set_option maxHeartbeats 8000000 in
theorem plays (W : Int) (A0 : Option Addr) (c0 : Nat) (l : List Dl) (w : World) (hS : Sl w 2 A0 l.length c0 (l.flatMap Dl.cs)) (hR : ∀ x ∈ l, RdD w x) :
    Calls Tryz.prog 3 #[.int .i64 W, .slice A0 l.length c0] w fun e w' => e = .returned (.bool true) ∧ Below w.heap.size w w' := by
  obtain ⟨i0, hi, hz0, hz1, hz2⟩ := info_parts infoS
  have HSl := Lib.hid hS; have HR := Lib.hid hR
  have HB := Lib.hid (Below.refl w.heap.size w)
  have hl64 : l.length ≤ 9223372036854775807 := by have := hS.2.1; have := hS.2.2.1; unfold maxLen at this; omega
  clear hS hR
  go_enter Tryz.func3, Tryz.ntmps3
  by_cases h8 : l.length > 8
  · have q0 : decide ((l.length : Int) > 8) = true := by simp; omega
    go_wp2_with fail
    refine (awake w).mono ?_
    rintro e w1 ⟨rfl, hb⟩
    replace HB := Lib.hid (HB.out.trans (hb.mono HB.out.size))
    clear hb
    go_wp2_with fail
    go_ret
    exact ⟨rfl, HB.out⟩
  · have q0 : decide ((l.length : Int) > 8) = false := by simp; omega
    have h8' : l.length ≤ 8 := by omega
    clear h8
    go_wp2_with fail
    refine (NewV W w w HB.out [] (by simp)).mono ?_
    rintro e w1 ⟨h, rfl, hv, -, hb⟩
    have HP := Lib.hid (PS.start hv)
    clear hv hb HB
    go_wp2_with fail
    obtain ⟨Bx, hBx⟩ : ∃ b, w1.heap.size = b := ⟨_, rfl⟩
    generalize hwi : (((w1.alloc (.cells #[.int .i64 W, .slice none 0 0] Ref47.TRV)).alloc (.cells #[.int .i64 0, .map none] TVw)).alloc (.cells #[.pointer none, .pointer (some ⟨w1.heap.size + 1, 0, none⟩)] TPv)) = wi at *
    rw [hBx] at *
    obtain ⟨Be, hBe⟩ : ∃ b, Bx + 1 = b := ⟨_, rfl⟩
    obtain ⟨Bn, hBn⟩ : ∃ b, Be + 1 = b := ⟨_, rfl⟩
    rw [hBe] at HP; rw [hBn] at HP
    (try rw [hBe]); (try rw [hBn])
    clear hwi hBx hBe hBn
    go_loopg [8] l.length (fun gk i wr => ∃ (k : Nat) (L : List Sn), i = .int .i64 k ∧ k ≤ l.length ∧ gk = l.length - k ∧ L.length ≤ 12 * k ∧ PS w wr h Bx Be Bn W (24 * k) (L.map (pr W)) L)
    case atStart => exact ⟨0, [], rfl, Nat.zero_le _, rfl, by simp, HP.out⟩
    case round =>
      clear HP
      obtain ⟨k, L, rfl, hk, hg, hll, hps⟩ := hrel
      obtain ⟨wo, hwo⟩ : ∃ wo, wo = wr := ⟨_, rfl⟩
      subst hwo
      have HG := Lib.hid hg; have HP := Lib.hid hps; have HB := Lib.hid hps.v.bel
      clear hg hps
      by_cases hlt : k < l.length
      · obtain ⟨b1, o1, rfl, hb1, c1⟩ := HSl.out.at hlt (by omega)
        have e0 := c1 (k * 2) _ (dl_at hlt).1
        have e1 := c1 (k * 2 + 1) _ (dl_at hlt).2
        have HR1 := Lib.hid (HR.out _ (List.getElem_mem hlt))
        clear c1
        generalize l[k] = xd at *
        obtain ⟨A1, c1, O, A2, c2, I⟩ := xd
        dsimp only at *
        have HE : Hid (∀ W' : World, Below w.heap.size w W' → W'.cell? ⟨b1, o1 + k * 2, none⟩ = some (.slice A1 O.length c1) ∧ W'.cell? ⟨b1, o1 + k * 2 + 1, none⟩ = some (.slice A2 I.length c2)) := fun W' hW => ⟨(hW.cell (p := ⟨b1, _, none⟩) hb1).trans e0, (hW.cell (p := ⟨b1, _, none⟩) hb1).trans e1⟩
        have HD0 : Hid (∀ W' : World, Below w.heap.size w W' → RdD W' ⟨A1, c1, O, A2, c2, I⟩) := fun W' hW => HR1.out.below hW
        have HD := Lib.hid (HD0.out _ HB.out)
        clear e0 e1 HR1
        have q1 : (0 : Int) ≤ (k : Int) := by omega
        have q2 : decide ((k : Int) < (l.length : Int)) = true := by simp; omega
        have q3 : (k : Int) < (l.length : Int) := by omega
        have e0 := (HE.out _ HB.out).1
        have e1 := (HE.out _ HB.out).2
        go_wp2_with fail
        refine (FewD.FewD ⟨A1, c1, O, A2, c2, I⟩ wo HD.out).mono ?_
        rintro e wf1 ⟨rfl, hf⟩
        have hb := hf.below (Nat.le_refl _) (fun _ _ h => h)
        clear hf
        replace HP := Lib.hid (HP.out.below hb)
        replace HD := Lib.hid (HD.out.below hb)
        replace HB := Lib.hid (HB.out.trans (hb.mono HB.out.size))
        clear hb
        clear e0 e1
        dsimp only
        cases hq : (fewB O 12 && fewB I 12) with
        | false =>
          go_wp2_with fail
          refine (awake wf1).mono ?_
          rintro e wf2 ⟨rfl, hb⟩
          replace HP := Lib.hid (HP.out.below hb)
          replace HD := Lib.hid (HD.out.below hb)
          replace HB := Lib.hid (HB.out.trans (hb.mono HB.out.size))
          clear hb
          go_wp2_with fail
          go_ret
          exact ⟨rfl, HB.out⟩
        | true =>
          have hqs : fewB O 12 = true ∧ fewB I 12 = true := by simpa using hq
          have hlo := few_len hqs.1
          have hli := few_len hqs.2
          clear hqs
          go_upto_region 10 with (fail)
          refine sp10 (by kernel_rfl) _ _ w wf1 h Bx Be Bn W (24 * k) L b1 o1 l.length c0 k A1 A2 c1 c2 O I HE.out HD0.out hlo hli (by omega) (by omega) HP.out hlt hl64 rfl rfl rfl rfl rfl ?_
          intro x wf2 L2 h58 hst hl2
          simp only [Eng.setAll, Act.put, List.setIfInBounds_toArray, List.set_cons_succ, List.set_cons_zero]
          rw [h58]
          replace HP := Lib.hid hst; replace HB := Lib.hid hst.v.bel; replace HD := Lib.hid (HD0.out _ HB.out)
          clear h58 hst
          have e0 := (HE.out _ HB.out).1
          go_wp2_with (at_builtin; refine wpList_append_sl _ rfl (.tmp 59) (.tmp 64) TSs rfl wf2.heap.size TSn i0 (.agg #[.int .i64 0, .int .i64 0, .int .i64 0, .int .i64 0, .string ByteArray.empty, .string ByteArray.empty, .int .i64 0, .int .i64 0, .bool false]) 9 88 Tryz.underlying27 hi hz0 hz1 hz2 rfl (by decide) _ _ _ rfl (World.ownsRow_nil _ _ _ _) _ _ _ _ rfl HD.out.o.s (cells_one _) ?_ ?_ ?_ ?_)
          · unfold maxLen; omega
          · omega
          · exact Nat.le_refl _
          intro va wf3 howna hgrowa
          have hfa := Fr.grown hgrowa (S := fun _ => False) (fun k e => by cases e)
          have HOa := Lib.hid howna; have HDa := Lib.hid (HD.out.keep hfa)
          have HFa := Lib.hid hfa
          have hsa := hfa.size
          have e1 := (HE.out _ (HB.out.trans ((hfa.below (Nat.le_refl _) (fun _ _ h => h)).mono HB.out.size))).2
          clear howna hgrowa hfa e0
          go_wp2_with (at_builtin; refine wpList_append_sl _ rfl (.tmp 66) (.tmp 71) TSs rfl wf2.heap.size TSn i0 (.agg #[.int .i64 0, .int .i64 0, .int .i64 0, .int .i64 0, .string ByteArray.empty, .string ByteArray.empty, .int .i64 0, .int .i64 0, .bool false]) 9 88 Tryz.underlying27 hi hz0 hz1 hz2 rfl (by decide) _ _ _ rfl HOa.out _ _ _ _ rfl HDa.out.i.s (cells_one _) ?_ ?_ ?_ ?_)
          · unfold maxLen; omega
          · omega
          · omega
          intro vb wf4 hownb hgrowb
          have hfb := HFa.out.trans (Fr.grown hgrowb (S := fun k => wf2.heap.size ≤ k) (fun k e => (ownsRow_blk HOa.out k e).1)) (T := fun _ => False) (fun _ _ h => h) (fun i hi h => by omega)
          have hb := hfb.below (Nat.le_refl _) (fun _ _ h => h)
          obtain ⟨Aa, ca, hva, hsb, -⟩ := Sl.of_own hownb
          subst hva
          have HAl : Hid (Ls wf4 Aa ca (O ++ I)) := ⟨by rw [List.length_append, List.flatMap_append]; exact hsb, fun z hz => by
            rcases List.mem_append.1 hz with h | h
            · exact HD.out.o.ok z h
            · exact HD.out.i.ok z h⟩
          clear hownb hgrowb hsb e1 hfb HFa HOa HDa hsa
          replace HP := Lib.hid (HP.out.below hb)
          replace HD := Lib.hid (HD.out.below hb)
          replace HB := Lib.hid (HB.out.trans (hb.mono HB.out.size))
          clear hb
          obtain ⟨n, hn⟩ : ∃ n, O.length + I.length = n := ⟨_, rfl⟩
          obtain ⟨Y, hY⟩ : ∃ Y, O ++ I = Y := ⟨_, rfl⟩
          have hYn : Y.length = n := by rw [← hY, List.length_append, hn]
          rw [hY] at HAl
          rw [hn]
          clear hY
          have hn24 : n ≤ 24 := by omega
          go_wp2_with fail
          go_loopg [10] n (fun gk i wr => ∃ k2 : Nat, i = .int .i64 k2 ∧ k2 ≤ n ∧ gk = n - k2 ∧ Below wf4.heap.size wf4 wr)
          case atStart => exact ⟨0, rfl, Nat.zero_le _, rfl, Below.refl _ _⟩
          case round =>
            obtain ⟨k2, rfl, hk2, hg2, hb⟩ := hrel
            obtain ⟨w2o, hw2o⟩ : ∃ wo, wo = wr := ⟨_, rfl⟩
            subst hw2o
            have HG2 := Lib.hid hg2
            clear hg2
            replace HP := Lib.hid (HP.out.below hb); replace HAl := Lib.hid (HAl.out.below hb); replace HD := Lib.hid (HD.out.below hb)
            replace HB := Lib.hid (HB.out.trans (hb.mono HB.out.size))
            have HBw := Lib.hid hb
            clear hb
            by_cases hlt2 : k2 < n
            · have hlt2' : k2 < Y.length := by omega
              obtain ⟨bn, on, rfl, hbn, c2'⟩ := HAl.out.s.at hlt2' (by omega)
              have HY := Lib.hid (At.row c2' hlt2')
              have HYo := Lib.hid (HAl.out.ok _ (List.getElem_mem hlt2'))
              clear c2' hbn
              generalize Y[k2] = y at *
              have q4 : decide ((k2 : Int) < (n : Int)) = true := by simp; omega
              go_upto_region 18 with (fail)
              refine sp18 (by kernel_rfl) _ _ w2o w2o bn on n ca k2 y ⟨HY.out, Fr.refl _ _⟩ hlt2 (by omega) rfl rfl rfl ?_
              intro x wg h17 h18 hst
              simp only [Eng.setAll, Act.put, List.setIfInBounds_toArray, List.set_cons_succ, List.set_cons_zero]
              rw [h17, h18]
              have hb := hst.f.below (Nat.le_refl _) (fun _ _ h => h)
              clear h17 h18 hst HY
              replace HBw := Lib.hid (HBw.out.trans (hb.mono HBw.out.size))
              replace HP := Lib.hid (HP.out.below hb)
              replace HD := Lib.hid (HD.out.below hb)
              replace HAl := Lib.hid (HAl.out.below hb)
              replace HB := Lib.hid (HB.out.trans (hb.mono HB.out.size))
              clear hb
              have hoks : Ser.okN (y.s, y.o) := ⟨HYo.out.s, HYo.out.o⟩
              obtain ⟨X, hX⟩ : ∃ X, cts (L2.map (pr W)) (y.s, y.o) = X := ⟨_, rfl⟩
              have hlm : (L2.map (pr W)).length ≤ 1000000 := by rw [List.length_map]; omega
              have hXp := cts_pos L2 W (by omega) y.s y.o
              rw [hX] at hXp
              have hpk := peak_iff hXp
              obtain ⟨pa, pc, hpp⟩ : ∃ a c, peakL X = (a, c) := ⟨_, _, rfl⟩
              rw [hpp] at hpk
              dsimp only at hpk
              obtain ⟨bp, hbp⟩ : ∃ b, decide (0 < X.length) = b := ⟨_, rfl⟩
              rw [hbp] at hpk
              have HXe := Lib.hid hX; have HPP := Lib.hid hpp; have HPK := Lib.hid hpk; have HBP := Lib.hid hbp
              clear hX hXp hpp hpk hbp
              obtain ⟨A3, c3, hxb, hxl⟩ := HP.out.x
              have e1 := hxb.cell 1
              have HXL := Lib.hid hxl
              clear hxb hxl
              go_wp2_with fail
              refine (Ref47.Counts W y.s y.o A3 c3 L2 wg HXL.out (by omega) X HXe.out X.length rfl).mono ?_
              rintro e wh5 ⟨A8, c8, rfl, hcl, hb⟩
              replace HBw := Lib.hid (HBw.out.trans (hb.mono HBw.out.size))
              replace HP := Lib.hid (HP.out.below hb)
              replace HD := Lib.hid (HD.out.below hb)
              replace HAl := Lib.hid (HAl.out.below hb)
              replace HB := Lib.hid (HB.out.trans (hb.mono HB.out.size))
              clear hb
              have HC := Lib.hid hcl
              clear hcl e1 HXL
              go_wp2_with fail
              refine (PeakT y.s y.o HP.out.v hlm hoks pa pc (by rw [HXe.out]; exact HPP.out) bp HPK.out).mono ?_
              rintro e wh6 ⟨rfl, hb⟩
              replace HBw := Lib.hid (HBw.out.trans (hb.mono HBw.out.size))
              replace HP := Lib.hid (HP.out.below hb)
              replace HD := Lib.hid (HD.out.below hb)
              replace HAl := Lib.hid (HAl.out.below hb)
              replace HC := Lib.hid (HC.out.below hb)
              replace HB := Lib.hid (HB.out.trans (hb.mono HB.out.size))
              clear hb
              go_wp2_with fail
              have hb := (Below.refl wh6.heap.size wh6).alloc (Nat.le_refl _) (.cells #[.int .i64 pa, .int .i64 pc] TC)
              obtain ⟨HPab, hHPab⟩ : ∃ b, wh6.heap.size = b := ⟨_, rfl⟩
              have HPa : Hid (PBx (wh6.alloc (.cells #[.int .i64 pa, .int .i64 pc] TC)) wh6.heap.size pa pc) := ⟨Bk.new _ _ _⟩
              generalize (wh6.alloc (.cells #[.int .i64 pa, .int .i64 pc] TC)) = wh7 at *
              replace HBw := Lib.hid (HBw.out.trans (hb.mono HBw.out.size))
              replace HP := Lib.hid (HP.out.below hb)
              replace HD := Lib.hid (HD.out.below hb)
              replace HAl := Lib.hid (HAl.out.below hb)
              replace HC := Lib.hid (HC.out.below hb)
              replace HB := Lib.hid (HB.out.trans (hb.mono HB.out.size))
              clear hb
              rw [hHPab] at *
              clear hHPab
              refine (RPeakE HC.out pa pc HPP.out bp HBP.out).mono ?_
              rintro e wh8 ⟨rfl, hb⟩
              replace HBw := Lib.hid (HBw.out.trans (hb.mono HBw.out.size))
              replace HP := Lib.hid (HP.out.below hb)
              replace HD := Lib.hid (HD.out.below hb)
              replace HAl := Lib.hid (HAl.out.below hb)
              replace HC := Lib.hid (HC.out.below hb)
              replace HPa := Lib.hid (HPa.out.below hb)
              replace HB := Lib.hid (HB.out.trans (hb.mono HB.out.size))
              clear hb
              go_wp2_with fail
              have hb := (Below.refl wh8.heap.size wh8).alloc (Nat.le_refl _) (.cells #[.int .i64 pa, .int .i64 pc] TC)
              obtain ⟨HPbb, hHPbb⟩ : ∃ b, wh8.heap.size = b := ⟨_, rfl⟩
              have HPb : Hid (PBx (wh8.alloc (.cells #[.int .i64 pa, .int .i64 pc] TC)) wh8.heap.size pa pc) := ⟨Bk.new _ _ _⟩
              generalize (wh8.alloc (.cells #[.int .i64 pa, .int .i64 pc] TC)) = wh9 at *
              replace HBw := Lib.hid (HBw.out.trans (hb.mono HBw.out.size))
              replace HP := Lib.hid (HP.out.below hb)
              replace HD := Lib.hid (HD.out.below hb)
              replace HAl := Lib.hid (HAl.out.below hb)
              replace HC := Lib.hid (HC.out.below hb)
              replace HPa := Lib.hid (HPa.out.below hb)
              replace HB := Lib.hid (HB.out.trans (hb.mono HB.out.size))
              clear hb
              rw [hHPbb] at *
              clear hHPbb
              refine (CountsT y.s y.o HP.out.v hlm hoks X HXe.out X.length rfl).mono ?_
              rintro e wh10 ⟨A9, c9, rfl, hcl, hb⟩
              replace HBw := Lib.hid (HBw.out.trans (hb.mono HBw.out.size))
              replace HP := Lib.hid (HP.out.below hb)
              replace HD := Lib.hid (HD.out.below hb)
              replace HAl := Lib.hid (HAl.out.below hb)
              replace HC := Lib.hid (HC.out.below hb)
              replace HPa := Lib.hid (HPa.out.below hb)
              replace HPb := Lib.hid (HPb.out.below hb)
              replace HB := Lib.hid (HB.out.trans (hb.mono HB.out.size))
              clear hb
              have HC2 := Lib.hid hcl
              clear hcl
              go_wp2_with fail
              refine (SameC HC2.out HC.out).mono ?_
              rintro e wh11 ⟨rfl, hf⟩
              have hb := hf.below (Nat.le_refl _) (fun _ _ h => h)
              clear hf
              replace HBw := Lib.hid (HBw.out.trans (hb.mono HBw.out.size))
              replace HP := Lib.hid (HP.out.below hb)
              replace HD := Lib.hid (HD.out.below hb)
              replace HAl := Lib.hid (HAl.out.below hb)
              replace HC := Lib.hid (HC.out.below hb)
              replace HPa := Lib.hid (HPa.out.below hb)
              replace HPb := Lib.hid (HPb.out.below hb)
              replace HC2 := Lib.hid (HC2.out.below hb)
              replace HB := Lib.hid (HB.out.trans (hb.mono HB.out.size))
              clear hb
              have e0 : wh11.cell? ⟨HPab, 0, none⟩ = some (.int .i64 pa) := HPa.out.h.cell 0
              have e1 : wh11.cell? ⟨HPab, 1, none⟩ = some (.int .i64 pc) := HPa.out.h.cell 1
              have e2 : wh11.cell? ⟨HPbb, 0, none⟩ = some (.int .i64 pa) := HPb.out.h.cell 0
              have e3 : wh11.cell? ⟨HPbb, 1, none⟩ = some (.int .i64 pc) := HPb.out.h.cell 1
              have hnq := fun W : World => neq_c pa pc W
              have hbb : (bp != bp) = false := by simp
              go_wp2_with fail
              go_roundg (n - (k2 + 1))
              case rel => exact ⟨k2 + 1, by go_num, by omega, rfl, HBw.out⟩
              case measure => have := HG2.out; omega
            · obtain rfl : k2 = n := by omega
              have q4 : decide ((k2 : Int) < (k2 : Int)) = false := by simp
              clear HG2 HAl
              go_wp2_with fail
              obtain ⟨w3, hw3⟩ : ∃ wo, wo = w2o := ⟨_, rfl⟩
              subst hw3

              go_loopg [18] 2 (fun gk i wr => ∃ k3 : Nat, i = .int .i64 k3 ∧ k3 ≤ 2 ∧ gk = 2 - k3 ∧ Below w3.heap.size w3 wr)
              case atStart => exact ⟨0, rfl, Nat.zero_le _, rfl, Below.refl _ _⟩
              case round =>
                clear HBw
                obtain ⟨k3, rfl, hk3, hg3, hb⟩ := hrel
                obtain ⟨w3o, hw3o⟩ : ∃ wo, wo = wr := ⟨_, rfl⟩
                subst hw3o
                have HG3 := Lib.hid hg3
                clear hg3
                replace HP := Lib.hid (HP.out.below hb); replace HD := Lib.hid (HD.out.below hb)
                replace HB := Lib.hid (HB.out.trans (hb.mono HB.out.size))
                have HBw := Lib.hid hb
                clear hb
                by_cases hlt3 : k3 < 2
                · have HNv := Lib.hid (nob_nm HP.out.e k3)
                  have e0 := nob_cell HP.out.n hlt3
                  generalize hnv : nobv Be k3 = nv at *
                  have q4 : decide ((k3 : Int) < 2) = true := by simp; omega
                  have q5 : (0 : Int) ≤ (k3 : Int) := by omega
                  have q6 : (k3 : Int) < 2 := by omega
                  have HE0 : Hid (∀ W' : World, Below w3o.heap.size w3o W' → W'.cell? ⟨Bn, k3, none⟩ = some nv) := fun W' hW => (hW.cell (p := ⟨Bn, k3, none⟩) (World.block_lt_of_cell? w3o ⟨Bn, k3, none⟩ e0)).trans e0
                  have hb0 := Below.refl w3o.heap.size w3o
                  have HBz := Lib.hid hb0
                  clear hb0
                  go_wp2_with fail
                  refine (PeakN HNv.out web get).mono ?_
                  rintro e wj5 ⟨rfl, hb⟩
                  replace HBz := Lib.hid (HBz.out.trans (hb.mono HBz.out.size))
                  replace HBw := Lib.hid (HBw.out.trans (hb.mono HBw.out.size))
                  replace HP := Lib.hid (HP.out.below hb)
                  replace HD := Lib.hid (HD.out.below hb)
                  replace HNv := Lib.hid (HNv.out.below hb)
                  replace HB := Lib.hid (HB.out.trans (hb.mono HB.out.size))
                  clear hb
                  clear e0
                  go_upto_region 28 with (fail)
                  have hb := (Below.refl wj5.heap.size wj5).alloc (Nat.le_refl _) (.cells #[.int .i64 0, .int .i64 0] TC)
                  generalize (wj5.alloc (.cells #[.int .i64 0, .int .i64 0] TC)) = wj6 at *
                  replace HBz := Lib.hid (HBz.out.trans (hb.mono HBz.out.size))
                  replace HBw := Lib.hid (HBw.out.trans (hb.mono HBw.out.size))
                  replace HP := Lib.hid (HP.out.below hb)
                  replace HD := Lib.hid (HD.out.below hb)
                  replace HNv := Lib.hid (HNv.out.below hb)
                  replace HB := Lib.hid (HB.out.trans (hb.mono HB.out.size))
                  clear hb
                  obtain ⟨bz, hbz⟩ : ∃ b, ((k2 : Int) == 0) = b := ⟨_, rfl⟩
                  refine sp28 (by kernel_rfl) _ _ wj6 wj6 Bn k3 nv b1 o1 l.length c0 k A1 A2 c1 c2 O I Aa k2 ca bz hn hbz hlo hli ⟨HE0.out _ HBz.out, (HE.out _ HB.out).1, (HE.out _ HB.out).2, HNv.out, Below.refl _ _⟩ hlt hl64 hlt3 rfl rfl rfl rfl rfl rfl rfl ?_
                  intro x wj7 h64 hst
                  simp only [Eng.setAll, Act.put, List.setIfInBounds_toArray, List.set_cons_succ, List.set_cons_zero]
                  rw [h64]
                  have hb := hst.f
                  clear h64 hst hbz
                  replace HBz := Lib.hid (HBz.out.trans (hb.mono HBz.out.size))
                  replace HBw := Lib.hid (HBw.out.trans (hb.mono HBw.out.size))
                  replace HP := Lib.hid (HP.out.below hb)
                  replace HD := Lib.hid (HD.out.below hb)
                  replace HNv := Lib.hid (HNv.out.below hb)
                  replace HB := Lib.hid (HB.out.trans (hb.mono HB.out.size))
                  clear hb
                  go_wp2_with fail
                  go_roundg (2 - (k3 + 1))
                  case rel => exact ⟨k3 + 1, by go_num, by omega, rfl, HBw.out⟩
                  case measure => have := HG3.out; omega
                · obtain rfl : k3 = 2 := by omega
                  have q4 : decide (((2 : Nat) : Int) < 2) = false := by simp
                  clear HG3
                  go_wp2_with fail
                  go_roundg (l.length - (k + 1))
                  case rel => exact ⟨k + 1, L2, by go_num, by omega, rfl, by omega, HP.out.up (by omega)⟩
                  case measure => have := HG.out; omega
      · obtain rfl : k = l.length := by omega
        have q2 : decide ((l.length : Int) < (l.length : Int)) = false := by simp
        go_wp2_with fail
        refine (awake wo).mono ?_
        rintro e wg1 ⟨rfl, hb⟩
        replace HB := Lib.hid (HB.out.trans (hb.mono HB.out.size))
        clear hb
        go_wp2_with fail
        go_ret
        exact ⟨rfl, HB.out⟩
end Law47
end Go.Proofs.YtgfjpnpbkkadpaaGreat
