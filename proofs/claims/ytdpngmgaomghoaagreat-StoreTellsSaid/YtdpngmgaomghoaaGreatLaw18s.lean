/- Layer 18's statements: StoreTells: for every input the answer is true. -/
import Derived.Test.YtdpngmgaomghoaaGreatL18q
import Derived.Test.YtdpngmgaomghoaaGreatRngs
namespace Go.Proofs.YtdpngmgaomghoaaGreat
open Go.RowKit Go.Shelf
namespace Law18
attribute [local go_sem] Oper.semAt_some
open Name KeyP PackP SetP SetW SetF Delta Sto BagP Ref18
attribute [local go_sem] Eng.ev Eng.getO_cons Eng.getO_nil
theorem FindZ (A : Option Addr) (c : Nat) (L : List Sn) (t i : Int) (w : World) (hS : Sl w 9 A L.length c (L.flatMap scs)) : Calls Tryz.prog 56 #[.slice A L.length c, .agg #[.int .i64 t, .int .i64 i, .int .i64 0, .int .i64 0, .string ⟨#[]⟩, .string ⟨#[]⟩, .int .i64 0, .int .i64 0, .bool false]] w fun e w' => e = .returned (.int .i64 (posI (zz t i) L)) ∧ Fr (fun _ => False) w w' := SetW.Find A c L (zz t i) w hS
abbrev TN3 : TypeId := 101
abbrev n3 (a b c : Int) : Array Value := #[.int .i64 a, .int .i64 b, .int .i64 c]
set_option maxRecDepth 100000 in
set_option maxHeartbeats 1000000 in
theorem te3 {ops : Array Oper} (hops : Eng.fnOps Tryz.f8 3 = ops) (a0 : Act) (Q : Exit → Act → World → Prop) (w0 w : World) (Bc : Nat) (f : Cf) (D : List (Nat × Array Value × TypeId)) (hst : NS w Bc f (Below w0.heap.size w0 w ∧ ∀ p ∈ D, Bk w p.1 p.2.1 p.2.2 ∧ w0.heap.size ≤ p.1)) (hi : in64 f.sp ∧ in64 f.tr ∧ in64 f.wi)
  (hn : a0.tmps.size = 126) (h_3 : a0.tmps.getD 3 undef = .pointer (some ⟨Bc, 0, none⟩))
  (hpost : ∀ (x : Nat → Value) (w' : World) (B R : Nat) (F : List Nat), x 7 = .pointer (some ⟨B, 0, none⟩) → x 8 = .pointer (some ⟨R, 0, none⟩) → AR w0 w' B (f.at mnI) [] F R (f.at mnI) [] none 0 D [] → Q .normal (Eng.setAll a0 [7, 8, 21, 22, 23, 24] x) w') :
  (Code.region 3 ops true).wp Tryz.prog Q a0 w := by
 simp only [Eng.fnOps, Eng.regOps, Tryz.f8, Option.bind_some, Option.getD_some, Nat.reduceEqDiff, ↓reduceIte] at hops
 subst hops
 have HSt := Lib.hid (NS.drew hst)
 have hSS : w.drew.cell? ⟨Bc, 0, none⟩ = some (.int .i64 f.sp) ∧ w.drew.cell? ⟨Bc, 1, none⟩ = some (.int .i64 f.tr) ∧ w.drew.cell? ⟨Bc, 2, none⟩ = some (.int .i64 f.wi) ∧ w.drew.cell? ⟨Bc, 3, none⟩ = some (.int .i64 f.sg) := ⟨HSt.out.b.cell 0, HSt.out.b.cell 1, HSt.out.b.cell 2, HSt.out.b.cell 3⟩
 refine Eng.regionN [(0, true), (2, true), (1, false), (3, false), (4, true), (5, true)] (fun w' => w'.cell? ⟨Bc, 0, none⟩ = some (.int .i64 f.sp) ∧ w'.cell? ⟨Bc, 1, none⟩ = some (.int .i64 f.tr) ∧ w'.cell? ⟨Bc, 2, none⟩ = some (.int .i64 f.wi) ∧ w'.cell? ⟨Bc, 3, none⟩ = some (.int .i64 f.sg)) (by kernel_rfl) 126 hn (by kernel_rfl) rfl (by kernel_rfl) (hSS) (fun a b ha hb => ?_)
 subst ha
 have hb3 : b 3 = .pointer (some ⟨Bc, 0, none⟩) := (hb 3).symm.trans h_3
 clear hb h_3
 have HP := Lib.hid hpost; have HN := Lib.hid hn
 clear hpost hn
 iterate 2 (refine Eng.Sch.take (v := ?_) rfl rfl (by decide) (by kernel_rfl) (fun w hw => ?_) ?_; rotate_left; · (try dsimp only at hw); go_simp; first | done | with_reducible rfl)
 refine Eng.Sch.call rfl rfl (by decide) (by kernel_rfl) ?_ (Sto.New f _) ?_
 ·go_simp
 rintro e w2 ⟨B, F, rfl, hs, hF, hb⟩
 have HSt1 := Lib.hid (NS.one HSt.out hi hs hF hb)
 refine ⟨_, rfl, ⟨HSt1.out.b.cell 0, HSt1.out.b.cell 1, HSt1.out.b.cell 2, HSt1.out.b.cell 3⟩, ?_⟩
 refine Eng.Sch.call rfl rfl (by decide) (by kernel_rfl) ?_ (Ref18.New f _ hi) ?_
 ·go_simp
 rintro e w3 ⟨R, rfl, hR, hr, hf⟩
 have HSt2 := Lib.hid (NS.two HSt1.out hr hR hf)
 refine ⟨_, rfl, ⟨HSt2.out.b.cell 0, HSt2.out.b.cell 1, HSt2.out.b.cell 2, HSt2.out.b.cell 3⟩, ?_⟩
 iterate 2 (refine Eng.Sch.take (v := ?_) rfl rfl (by decide) (by kernel_rfl) (fun w hw => ?_) ?_; rotate_left; · (try dsimp only at hw); go_simp; first | done | with_reducible rfl)
 refine Eng.Sch.end_ [7, 8, 21, 22, 23, 24] HN.out (by kernel_rfl) (by kernel_rfl) ?_
 exact HP.out _ _ B R F rfl rfl HSt2.out.g
set_option maxRecDepth 100000 in
set_option maxHeartbeats 1000000 in
theorem te10 {ops : Array Oper} (hops : Eng.fnOps Tryz.f8 10 = ops) (a0 : Act) (Q : Exit → Act → World → Prop) (w0 w : World) (B : Nat) (f : Cf) (L : List Sn) (F : List Nat) (R : Nat) (A : Option Addr) (c : Nat) (D : List (Nat × Array Value × TypeId)) (Bn : Nat) (m0 m1 m2 : Int) (hD : (Bn, n3 m0 m1 m2, TN3) ∈ D) (_hl : L.length ≤ 1000000) (hst : AR w0 w B f L F R f L A c D [])
  (hn : a0.tmps.size = 126) (h_5 : a0.tmps.getD 5 undef = .pointer (some ⟨Bn, 0, none⟩)) (h_8 : a0.tmps.getD 8 undef = .pointer (some ⟨R, 0, none⟩))
  (hpost : ∀ (x : Nat → Value) (w' : World), x 12 = .int .i64 (posI (zz m0 m1) L) → AR w0 w' B f L F R f L A c D [] → Q .normal (Eng.setAll a0 [12, 52, 53, 54, 55, 56, 57, 58, 59, 60, 61] x) w') :
  (Code.region 10 ops true).wp Tryz.prog Q a0 w := by
 simp only [Eng.fnOps, Eng.regOps, Tryz.f8, Option.bind_some, Option.getD_some, Nat.reduceEqDiff, ↓reduceIte] at hops
 subst hops
 have kb : ∀ W : World, (Instr.build TSn #[(0, .int .i64 m0), (1, .int .i64 m1)]).run Tryz.prog W = .ok (.agg #[.int .i64 m0, .int .i64 m1, .int .i64 0, .int .i64 0, .string ByteArray.empty, .string ByteArray.empty, .int .i64 0, .int .i64 0, .bool false]) W := fun W => by kernel_rfl
 have HSt := Lib.hid (hst.fr (Fr.drew _ _))
 have hSS : w.drew.cell? ⟨R, 5, none⟩ = some (.slice A L.length c) ∧ w.drew.cell? ⟨Bn, 0, none⟩ = some (.int .i64 m0) ∧ w.drew.cell? ⟨Bn, 1, none⟩ = some (.int .i64 m1) := ⟨HSt.out.r.cs.2.2.2.2.2, (HSt.out.z.d _ hD).1.1.cell 0, (HSt.out.z.d _ hD).1.1.cell 1⟩
 refine Eng.regionN [(0, true), (1, true), (2, true), (3, true), (4, true), (5, true), (6, true), (7, true), (8, true), (9, false), (10, true)] (fun w' => w'.cell? ⟨R, 5, none⟩ = some (.slice A L.length c) ∧ w'.cell? ⟨Bn, 0, none⟩ = some (.int .i64 m0) ∧ w'.cell? ⟨Bn, 1, none⟩ = some (.int .i64 m1)) (by kernel_rfl) 126 hn (by kernel_rfl) rfl (by kernel_rfl) (hSS) (fun a b ha hb => ?_)
 subst ha
 have hb5 : b 5 = .pointer (some ⟨Bn, 0, none⟩) := (hb 5).symm.trans h_5
 have hb8 : b 8 = .pointer (some ⟨R, 0, none⟩) := (hb 8).symm.trans h_8
 clear hb h_5 h_8
 have HP := Lib.hid hpost; have HN := Lib.hid hn
 clear hpost hn
 iterate 9 (refine Eng.Sch.take (v := ?_) rfl rfl (by decide) (by kernel_rfl) (fun w hw => ?_) ?_; rotate_left; · (try dsimp only at hw); go_simp; first | done | with_reducible rfl)
 refine Eng.Sch.call rfl rfl (by decide) (by kernel_rfl) ?_ (FindZ A c L m0 m1 _ HSt.out.r.l.s) ?_
 ·go_simp
 rintro e w2 ⟨rfl, hf⟩
 have HSt1 := Lib.hid (HSt.out.fr hf)
 refine ⟨_, rfl, ⟨HSt1.out.r.cs.2.2.2.2.2, (HSt1.out.z.d _ hD).1.1.cell 0, (HSt1.out.z.d _ hD).1.1.cell 1⟩, ?_⟩
 refine Eng.Sch.take (v := ?_) rfl rfl (by decide) (by kernel_rfl) (fun w hw => ?_) ?_
 rotate_left
 ·(try dsimp only at hw); go_simp; first | done | with_reducible rfl
 refine Eng.Sch.end_ [12, 52, 53, 54, 55, 56, 57, 58, 59, 60, 61] HN.out (by kernel_rfl) (by kernel_rfl) ?_
 exact HP.out _ _ rfl HSt1.out
structure TA (w0 w : World) (B : Nat) (f : Cf) (L : List Sn) (F : List Nat) (R : Nat) (A : Option Addr) (c : Nat) (D : List (Nat × Array Value × TypeId)) (b1 oj : Nat) (y : Sn) : Prop where
 z : AR w0 w B f L F R f L A c D []
 a : At w b1 oj y
theorem TA.fr {w0 w w' : World} {B : Nat} {f : Cf} {L : List Sn} {F : List Nat} {R : Nat} {A : Option Addr} {c : Nat} {D : List (Nat × Array Value × TypeId)} {b1 oj : Nat} {y : Sn} (h : TA w0 w B f L F R A c D b1 oj y) (hf : Fr (fun _ => False) w w') : TA w0 w' B f L F R A c D b1 oj y := ⟨h.z.fr hf, h.a.keep hf⟩
theorem eqS_self (y : Sn) : eqS y y = true := by unfold eqS; simp
set_option maxRecDepth 100000 in
set_option maxHeartbeats 4000000 in
theorem te11s {ops : Array Oper} (hops : Eng.fnOps Tryz.f8 11 = ops) (a0 : Act) (Q : Exit → Act → World → Prop) (w0 w : World) (B : Nat) (f : Cf) (L : List Sn) (F : List Nat) (R c : Nat) (D : List (Nat × Array Value × TypeId)) (ba b1 o1 k : Nat) (y : Sn) (hA : (ba, y.arr, TSn) ∈ D) (hk : k < L.length) (_hl : L.length ≤ 1000000) (hst : TA w0 w B f L F R (some ⟨b1, o1, none⟩) c D b1 (o1 + k * 9) y)
  (hn : a0.tmps.size = 126) (h_8 : a0.tmps.getD 8 undef = .pointer (some ⟨R, 0, none⟩)) (h_10 : a0.tmps.getD 10 undef = .pointer (some ⟨ba, 0, none⟩)) (h_11 : a0.tmps.getD 11 undef = .bool true) (h_12 : a0.tmps.getD 12 undef = .int .i64 k)
  (hpost : ∀ (x : Nat → Value) (w' : World), x 88 = .bool false → AR w0 w' B f L F R f L (some ⟨b1, o1, none⟩) c D [] → Q .normal (Eng.setAll a0 [62, 63, 64, 65, 66, 67, 68, 69, 70, 71, 72, 73, 74, 75, 76, 77, 78, 79, 80, 81, 82, 83, 84, 85, 86, 87, 88] x) w') :
  (Code.region 11 ops true).wp Tryz.prog Q a0 w := by
 simp only [Eng.fnOps, Eng.regOps, Tryz.f8, Option.bind_some, Option.getD_some, Nat.reduceEqDiff, ↓reduceIte] at hops
 subst hops
 have q1 : (0 : Int) ≤ (k : Int) := by omega
 have q2 : (k : Int) < (L.length : Int) := by omega
 have q3 : decide ((0 : Int) ≤ (k : Int)) = true := by simp
 have hq0 := fun W : World => neq_parts y.t y.i y.p y.r y.b y.d y.t y.i y.p y.r y.b y.d y.s y.o y.s y.o y.g y.g W
 have hq1 : eqS (⟨y.t, y.i, y.p, y.r, y.s, y.o, y.b, y.d, y.g⟩ : Sn) ⟨y.t, y.i, y.p, y.r, y.s, y.o, y.b, y.d, y.g⟩ = true := eqS_self _
 have HSt := Lib.hid (hst.fr (Fr.drew _ _))
 have hSS : w.drew.cell? ⟨ba, 0, none⟩ = some (.int .i64 y.t) ∧ w.drew.cell? ⟨ba, 1, none⟩ = some (.int .i64 y.i) ∧ w.drew.cell? ⟨ba, 2, none⟩ = some (.int .i64 y.p) ∧ w.drew.cell? ⟨ba, 3, none⟩ = some (.int .i64 y.r) ∧ w.drew.cell? ⟨ba, 4, none⟩ = some (.string y.s) ∧ w.drew.cell? ⟨ba, 5, none⟩ = some (.string y.o) ∧ w.drew.cell? ⟨ba, 6, none⟩ = some (.int .i64 y.b) ∧ w.drew.cell? ⟨ba, 7, none⟩ = some (.int .i64 y.d) ∧ w.drew.cell? ⟨ba, 8, none⟩ = some (.bool y.g) ∧ w.drew.cell? ⟨R, 5, none⟩ = some (.slice (some ⟨b1, o1, none⟩) L.length c) ∧ w.drew.cell? ⟨b1, o1 + k * 9, none⟩ = some (.int .i64 y.t) ∧ w.drew.cell? ⟨b1, o1 + k * 9 + 1, none⟩ = some (.int .i64 y.i) ∧ w.drew.cell? ⟨b1, o1 + k * 9 + 1 + 1, none⟩ = some (.int .i64 y.p) ∧ w.drew.cell? ⟨b1, o1 + k * 9 + 1 + 1 + 1, none⟩ = some (.int .i64 y.r) ∧ w.drew.cell? ⟨b1, o1 + k * 9 + 1 + 1 + 1 + 1, none⟩ = some (.string y.s) ∧ w.drew.cell? ⟨b1, o1 + k * 9 + 1 + 1 + 1 + 1 + 1, none⟩ = some (.string y.o) ∧ w.drew.cell? ⟨b1, o1 + k * 9 + 1 + 1 + 1 + 1 + 1 + 1, none⟩ = some (.int .i64 y.b) ∧ w.drew.cell? ⟨b1, o1 + k * 9 + 1 + 1 + 1 + 1 + 1 + 1 + 1, none⟩ = some (.int .i64 y.d) ∧ w.drew.cell? ⟨b1, o1 + k * 9 + 1 + 1 + 1 + 1 + 1 + 1 + 1 + 1, none⟩ = some (.bool y.g) := ⟨(HSt.out.z.z.d _ hA).1.1.cell 0, (HSt.out.z.z.d _ hA).1.1.cell 1, (HSt.out.z.z.d _ hA).1.1.cell 2, (HSt.out.z.z.d _ hA).1.1.cell 3, (HSt.out.z.z.d _ hA).1.1.cell 4, (HSt.out.z.z.d _ hA).1.1.cell 5, (HSt.out.z.z.d _ hA).1.1.cell 6, (HSt.out.z.z.d _ hA).1.1.cell 7, (HSt.out.z.z.d _ hA).1.1.cell 8, HSt.out.z.r.cs.2.2.2.2.2, HSt.out.a 0 _ rfl, HSt.out.a 1 _ rfl, HSt.out.a 2 _ rfl, HSt.out.a 3 _ rfl, HSt.out.a 4 _ rfl, HSt.out.a 5 _ rfl, HSt.out.a 6 _ rfl, HSt.out.a 7 _ rfl, HSt.out.a 8 _ rfl⟩
 refine Eng.regionN [(0, true), (1, true), (2, true), (3, true), (4, true), (5, true), (6, true), (7, true), (8, true), (9, true), (10, true), (11, true), (12, true), (13, true), (14, true), (15, true), (16, true), (17, true), (18, true), (19, true), (20, true), (21, true), (22, true), (23, true), (24, true), (25, true), (26, true)] (fun w' => w'.cell? ⟨ba, 0, none⟩ = some (.int .i64 y.t) ∧ w'.cell? ⟨ba, 1, none⟩ = some (.int .i64 y.i) ∧ w'.cell? ⟨ba, 2, none⟩ = some (.int .i64 y.p) ∧ w'.cell? ⟨ba, 3, none⟩ = some (.int .i64 y.r) ∧ w'.cell? ⟨ba, 4, none⟩ = some (.string y.s) ∧ w'.cell? ⟨ba, 5, none⟩ = some (.string y.o) ∧ w'.cell? ⟨ba, 6, none⟩ = some (.int .i64 y.b) ∧ w'.cell? ⟨ba, 7, none⟩ = some (.int .i64 y.d) ∧ w'.cell? ⟨ba, 8, none⟩ = some (.bool y.g) ∧ w'.cell? ⟨R, 5, none⟩ = some (.slice (some ⟨b1, o1, none⟩) L.length c) ∧ w'.cell? ⟨b1, o1 + k * 9, none⟩ = some (.int .i64 y.t) ∧ w'.cell? ⟨b1, o1 + k * 9 + 1, none⟩ = some (.int .i64 y.i) ∧ w'.cell? ⟨b1, o1 + k * 9 + 1 + 1, none⟩ = some (.int .i64 y.p) ∧ w'.cell? ⟨b1, o1 + k * 9 + 1 + 1 + 1, none⟩ = some (.int .i64 y.r) ∧ w'.cell? ⟨b1, o1 + k * 9 + 1 + 1 + 1 + 1, none⟩ = some (.string y.s) ∧ w'.cell? ⟨b1, o1 + k * 9 + 1 + 1 + 1 + 1 + 1, none⟩ = some (.string y.o) ∧ w'.cell? ⟨b1, o1 + k * 9 + 1 + 1 + 1 + 1 + 1 + 1, none⟩ = some (.int .i64 y.b) ∧ w'.cell? ⟨b1, o1 + k * 9 + 1 + 1 + 1 + 1 + 1 + 1 + 1, none⟩ = some (.int .i64 y.d) ∧ w'.cell? ⟨b1, o1 + k * 9 + 1 + 1 + 1 + 1 + 1 + 1 + 1 + 1, none⟩ = some (.bool y.g)) (by kernel_rfl) 126 hn (by kernel_rfl) rfl (by kernel_rfl) (hSS) (fun a b ha hb => ?_)
 subst ha
 have hb8 : b 8 = .pointer (some ⟨R, 0, none⟩) := (hb 8).symm.trans h_8
 have hb10 : b 10 = .pointer (some ⟨ba, 0, none⟩) := (hb 10).symm.trans h_10
 have hb11 : b 11 = .bool true := (hb 11).symm.trans h_11
 have hb12 : b 12 = .int .i64 k := (hb 12).symm.trans h_12
 clear hb h_8 h_10 h_11 h_12
 have HP := Lib.hid hpost; have HN := Lib.hid hn
 clear hpost hn
 iterate 22 (refine Eng.Sch.take (v := ?_) rfl rfl (by decide) (by kernel_rfl) (fun w hw => ?_) ?_; rotate_left; · (try dsimp only at hw); go_simp; first | done | with_reducible rfl)
 iterate 3 (refine Eng.Sch.skip rfl rfl (by decide) (by kernel_rfl) ?_)
 iterate 2 (refine Eng.Sch.take (v := ?_) rfl rfl (by decide) (by kernel_rfl) (fun w hw => ?_) ?_; rotate_left; · (try dsimp only at hw); go_simp; first | done | with_reducible rfl)
 refine Eng.Sch.end_ [62, 63, 64, 65, 66, 67, 68, 69, 70, 71, 72, 73, 74, 75, 76, 77, 78, 79, 80, 81, 82, 83, 84, 85, 86, 87, 88] HN.out (by kernel_rfl) (by kernel_rfl) ?_
 exact HP.out _ _ rfl HSt.out.z
set_option maxRecDepth 100000 in
set_option maxHeartbeats 4000000 in
theorem te11n {ops : Array Oper} (hops : Eng.fnOps Tryz.f8 11 = ops) (a0 : Act) (Q : Exit → Act → World → Prop) (w0 w : World) (B : Nat) (f : Cf) (L : List Sn) (F : List Nat) (R : Nat) (A : Option Addr) (c : Nat) (D : List (Nat × Array Value × TypeId)) (ba : Nat) (hA : (ba, z9.arr, TSn) ∈ D) (hst : AR w0 w B f L F R f L A c D [])
  (hn : a0.tmps.size = 126) (h_10 : a0.tmps.getD 10 undef = .pointer (some ⟨ba, 0, none⟩)) (h_11 : a0.tmps.getD 11 undef = .bool false) (h_12 : a0.tmps.getD 12 undef = .int .i64 (-1))
  (hpost : ∀ (x : Nat → Value) (w' : World), x 88 = .bool false → AR w0 w' B f L F R f L A c D [] → Q .normal (Eng.setAll a0 [62, 63, 64, 65, 66, 67, 68, 69, 70, 71, 72, 73, 74, 75, 76, 77, 78, 79, 80, 81, 82, 83, 84, 85, 86, 87, 88] x) w') :
  (Code.region 11 ops true).wp Tryz.prog Q a0 w := by
 simp only [Eng.fnOps, Eng.regOps, Tryz.f8, Option.bind_some, Option.getD_some, Nat.reduceEqDiff, ↓reduceIte] at hops
 subst hops
 have hq0 := fun W : World => neq_parts 0 0 0 0 0 0 0 0 0 0 0 0 ByteArray.empty ByteArray.empty ByteArray.empty ByteArray.empty false false W
 have hq1 : eqS (⟨0, 0, 0, 0, ByteArray.empty, ByteArray.empty, 0, 0, false⟩ : Sn) ⟨0, 0, 0, 0, ByteArray.empty, ByteArray.empty, 0, 0, false⟩ = true := eqS_self _
 have HSt := Lib.hid (hst.fr (Fr.drew _ _))
 have hSS : w.drew.cell? ⟨ba, 0, none⟩ = some (.int .i64 0) ∧ w.drew.cell? ⟨ba, 1, none⟩ = some (.int .i64 0) ∧ w.drew.cell? ⟨ba, 2, none⟩ = some (.int .i64 0) ∧ w.drew.cell? ⟨ba, 3, none⟩ = some (.int .i64 0) ∧ w.drew.cell? ⟨ba, 4, none⟩ = some (.string ByteArray.empty) ∧ w.drew.cell? ⟨ba, 5, none⟩ = some (.string ByteArray.empty) ∧ w.drew.cell? ⟨ba, 6, none⟩ = some (.int .i64 0) ∧ w.drew.cell? ⟨ba, 7, none⟩ = some (.int .i64 0) ∧ w.drew.cell? ⟨ba, 8, none⟩ = some (.bool false) := ⟨(HSt.out.z.d _ hA).1.1.cell 0, (HSt.out.z.d _ hA).1.1.cell 1, (HSt.out.z.d _ hA).1.1.cell 2, (HSt.out.z.d _ hA).1.1.cell 3, (HSt.out.z.d _ hA).1.1.cell 4, (HSt.out.z.d _ hA).1.1.cell 5, (HSt.out.z.d _ hA).1.1.cell 6, (HSt.out.z.d _ hA).1.1.cell 7, (HSt.out.z.d _ hA).1.1.cell 8⟩
 refine Eng.regionN [(0, true), (1, true), (2, true), (3, true), (4, true), (5, true), (6, true), (7, true), (8, true), (9, true), (10, true), (11, true), (12, true), (13, true), (14, true), (15, true), (16, true), (17, true), (18, true), (19, true), (20, true), (21, true), (22, true), (23, true), (24, true), (25, true), (26, true)] (fun w' => w'.cell? ⟨ba, 0, none⟩ = some (.int .i64 0) ∧ w'.cell? ⟨ba, 1, none⟩ = some (.int .i64 0) ∧ w'.cell? ⟨ba, 2, none⟩ = some (.int .i64 0) ∧ w'.cell? ⟨ba, 3, none⟩ = some (.int .i64 0) ∧ w'.cell? ⟨ba, 4, none⟩ = some (.string ByteArray.empty) ∧ w'.cell? ⟨ba, 5, none⟩ = some (.string ByteArray.empty) ∧ w'.cell? ⟨ba, 6, none⟩ = some (.int .i64 0) ∧ w'.cell? ⟨ba, 7, none⟩ = some (.int .i64 0) ∧ w'.cell? ⟨ba, 8, none⟩ = some (.bool false)) (by kernel_rfl) 126 hn (by kernel_rfl) rfl (by kernel_rfl) (hSS) (fun a b ha hb => ?_)
 subst ha
 have hb10 : b 10 = .pointer (some ⟨ba, 0, none⟩) := (hb 10).symm.trans h_10
 have hb11 : b 11 = .bool false := (hb 11).symm.trans h_11
 have hb12 : b 12 = .int .i64 (-1) := (hb 12).symm.trans h_12
 clear hb h_10 h_11 h_12
 have HP := Lib.hid hpost; have HN := Lib.hid hn
 clear hpost hn
 iterate 7 (refine Eng.Sch.take (v := ?_) rfl rfl (by decide) (by kernel_rfl) (fun w hw => ?_) ?_; rotate_left; · (try dsimp only at hw); go_simp; first | done | with_reducible rfl)
 iterate 9 (refine Eng.Sch.skip rfl rfl (by decide) (by kernel_rfl) ?_)
 iterate 11 (refine Eng.Sch.take (v := ?_) rfl rfl (by decide) (by kernel_rfl) (fun w hw => ?_) ?_; rotate_left; · (try dsimp only at hw); go_simp; first | done | with_reducible rfl)
 refine Eng.Sch.end_ [62, 63, 64, 65, 66, 67, 68, 69, 70, 71, 72, 73, 74, 75, 76, 77, 78, 79, 80, 81, 82, 83, 84, 85, 86, 87, 88] HN.out (by kernel_rfl) (by kernel_rfl) ?_
 exact HP.out _ _ rfl HSt.out
set_option maxRecDepth 100000 in
set_option maxHeartbeats 1000000 in
theorem te13 {ops : Array Oper} (hops : Eng.fnOps Tryz.f8 13 = ops) (a0 : Act) (Q : Exit → Act → World → Prop) (w0 w : World) (B : Nat) (f : Cf) (L : List Sn) (F : List Nat) (R : Nat) (A : Option Addr) (c : Nat) (D : List (Nat × Array Value × TypeId)) (Bn : Nat) (m0 m1 m2 : Int) (hD : (Bn, n3 m0 m1 m2, TN3) ∈ D) (hl : L.length ≤ 1000000) (hst : AR w0 w B f L F R f L A c D [])
  (hn : a0.tmps.size = 126) (h_5 : a0.tmps.getD 5 undef = .pointer (some ⟨Bn, 0, none⟩)) (h_8 : a0.tmps.getD 8 undef = .pointer (some ⟨R, 0, none⟩))
  (hpost : ∀ (x : Nat → Value) (w' : World) (A13 : Option Addr) (c13 : Nat), x 13 = .slice A13 (L.filter (fun x => decide (x.t = m0))).length c13 → Ls w' A13 c13 (L.filter (fun x => decide (x.t = m0))) → AR w0 w' B f L F R f L A c D [] → Q .normal (Eng.setAll a0 [13, 89, 90, 91, 92, 93, 94, 95] x) w') :
  (Code.region 13 ops true).wp Tryz.prog Q a0 w := by
 simp only [Eng.fnOps, Eng.regOps, Tryz.f8, Option.bind_some, Option.getD_some, Nat.reduceEqDiff, ↓reduceIte] at hops
 subst hops
 have HSt := Lib.hid (hst.fr (Fr.drew _ _))
 have hSS : w.drew.cell? ⟨R, 5, none⟩ = some (.slice A L.length c) ∧ w.drew.cell? ⟨Bn, 0, none⟩ = some (.int .i64 m0) := ⟨HSt.out.r.cs.2.2.2.2.2, (HSt.out.z.d _ hD).1.1.cell 0⟩
 refine Eng.regionN [(0, true), (1, true), (2, true), (3, true), (4, true), (5, true), (6, false), (7, true)] (fun w' => w'.cell? ⟨R, 5, none⟩ = some (.slice A L.length c) ∧ w'.cell? ⟨Bn, 0, none⟩ = some (.int .i64 m0)) (by kernel_rfl) 126 hn (by kernel_rfl) rfl (by kernel_rfl) (hSS) (fun a b ha hb => ?_)
 subst ha
 have hb5 : b 5 = .pointer (some ⟨Bn, 0, none⟩) := (hb 5).symm.trans h_5
 have hb8 : b 8 = .pointer (some ⟨R, 0, none⟩) := (hb 8).symm.trans h_8
 clear hb h_5 h_8
 have HP := Lib.hid hpost; have HN := Lib.hid hn
 clear hpost hn
 iterate 6 (refine Eng.Sch.take (v := ?_) rfl rfl (by decide) (by kernel_rfl) (fun w hw => ?_) ?_; rotate_left; · (try dsimp only at hw); go_simp; first | done | with_reducible rfl)
 refine Eng.Sch.call rfl rfl (by decide) (by kernel_rfl) ?_ (Ref18.Trace A c L m0 _ HSt.out.r.l hl) ?_
 ·go_simp
 rintro e w2 ⟨A13, c13, rfl, hls, -, hb⟩
 have HL13 := Lib.hid hls
 clear hls
 have HSt1 := Lib.hid (HSt.out.below hb)
 refine ⟨_, rfl, ⟨HSt1.out.r.cs.2.2.2.2.2, (HSt1.out.z.d _ hD).1.1.cell 0⟩, ?_⟩
 refine Eng.Sch.take (v := ?_) rfl rfl (by decide) (by kernel_rfl) (fun w hw => ?_) ?_
 rotate_left
 ·(try dsimp only at hw); go_simp; first | done | with_reducible rfl
 refine Eng.Sch.end_ [13, 89, 90, 91, 92, 93, 94, 95] HN.out (by kernel_rfl) (by kernel_rfl) ?_
 exact HP.out _ _ A13 c13 rfl HL13.out HSt1.out
structure SH (w0 w : World) (Bn Bg : Nat) (n0 n1 n2 : Int) (Aw : Option Addr) (cw : Nat) (M : List Sn) (Ag : Option Addr) (cg : Nat) (G : List Sn) : Prop where
 f : Below w0.heap.size w0 w
 n : Bk w Bn (n3 n0 n1 n2) TN3
 m : Ls w Aw cw M
 b : Bk w Bg #[.slice Ag G.length cg] TSs
 g : Ls w Ag cg G
theorem SH.below {w0 w w' : World} {Bn Bg : Nat} {n0 n1 n2 : Int} {Aw Ag : Option Addr} {cw cg : Nat} {M G : List Sn} (h : SH w0 w Bn Bg n0 n1 n2 Aw cw M Ag cg G) (hb : Below w.heap.size w w') : SH w0 w' Bn Bg n0 n1 n2 Aw cw M Ag cg G :=
 ⟨h.f.trans (hb.mono h.f.size), h.n.fr (Fr.of_below' hb (fun _ => False)) (fun _ _ h => h), h.m.below hb, h.b.fr (Fr.of_below' hb (fun _ => False)) (fun _ _ h => h), h.g.below hb⟩
theorem drew_below (w : World) : Below w.heap.size w w.drew := (Fr.drew (fun _ => False) w).below (Nat.le_refl _) (fun _ _ h => h)
theorem take_ls {w : World} {A : Option Addr} {c k : Nat} {M : List Sn} (h : Ls w A c M) (hk : k ≤ M.length) : Ls w A c (M.take k) := by
 have := h.s.take hk
 rw [flat_take scs_len] at this
 exact ⟨by rw [List.length_take, Nat.min_eq_left hk]; exact this, fun x hx => h.ok x (List.mem_of_mem_take hx)⟩
theorem SameG {A B : Option Addr} {c c2 n : Nat} {M G : List Sn} {w : World} (h1 : Ls w A c G) (h2 : Ls w B c2 M) (hk : n ≤ M.length) (hg : M.take n = G) : Calls Tryz.prog 19 #[.slice A G.length c, .slice B n c2] w fun e w' => e = .returned (.bool true) ∧ Below w.heap.size w w' := by
 have h3 := take_ls h2 hk
 have hn : (M.take n).length = n := by rw [List.length_take, Nat.min_eq_left hk]
 rw [hg] at h3 hn
 exact (SameT h1 h3 rfl hn rfl).mono (fun e w' h => ⟨h.1, h.2.below (Nat.le_refl _) (fun _ _ h => h)⟩)
theorem got_of {α : Type} {LL pre : List α} {n2 : Int} (hp : pre <+: LL) (h : pre.length = LL.length ∧ (pre = [] ∨ (pre.length : Int) < n2) ∨ (1 ≤ pre.length ∧ n2 ≤ pre.length ∧ (pre.length = 1 ∨ (pre.length : Int) ≤ n2))) : pre = LL.take pre.length ∧ min (LL.length : Int) (max 1 n2) = (pre.length : Int) := by
 obtain ⟨t, rfl⟩ := hp
 refine ⟨by simp, ?_⟩
 rw [List.length_append] at h ⊢
 rcases h with ⟨h1, h2⟩ | ⟨h1, h2, h3⟩
 ·rcases h2 with rfl | h2
  ·have ht : t.length = 0 := by have h1' : (0 : Nat) = 0 + t.length := h1; omega
   rw [ht]; simp only [List.length_nil]; omega
  ·omega
 ·omega
structure BG (n0 bs Bg Bn : Nat) (w0 W : World) (m0 m1 m2 : Int) (pre : List Sn) : Prop where
 c : Coll2 n0 bs Bg TSs TSn 9 w0 W pre.length (pre.flatMap scs)
 n : Bk W Bn (n3 m0 m1 m2) TN3
set_option maxRecDepth 100000 in
set_option maxHeartbeats 400000 in
theorem te22 {ops : Array Oper} (hops : Eng.fnOps Tryz.f8 22 = ops) (a0 : Act) (Q : Exit → Act → World → Prop) (w0 w : World) (Bn Bg : Nat) (n0 n1 n2 : Int) (Aw : Option Addr) (cw : Nat) (M : List Sn) (Ag : Option Addr) (cg : Nat) (G : List Sn) (hi : Nat) (hst : SH w0 w Bn Bg n0 n1 n2 Aw cw M Ag cg G) (hle : hi ≤ M.length) (hcw : M.length ≤ cw) (_hcm : cw ≤ 9223372036854775807) (hmin : min (M.length : Int) (max 1 n2) = (hi : Int)) (hG : Hid (M.take hi = G))
  (hn : a0.tmps.size = 126) (h_5 : a0.tmps.getD 5 undef = .pointer (some ⟨Bn, 0, none⟩)) (h_13 : a0.tmps.getD 13 undef = .slice Aw M.length cw) (h_15 : a0.tmps.getD 15 undef = .pointer (some ⟨Bg, 0, none⟩))
  (hpost : ∀ (x : Nat → Value) (w' : World), x 6 = .bool true → SH w0 w' Bn Bg n0 n1 n2 Aw cw M Ag cg G → Q .normal (Eng.setAll a0 [6, 113, 114, 115, 116, 117, 118, 119, 120, 121, 122, 123, 124, 125] x) w') :
  (Code.region 22 ops true).wp Tryz.prog Q a0 w := by
 simp only [Eng.fnOps, Eng.regOps, Tryz.f8, Option.bind_some, Option.getD_some, Nat.reduceEqDiff, ↓reduceIte] at hops
 subst hops
 have q1 : (0 : Int) ≤ (hi : Int) := by omega
 have q2 : (hi : Int) ≤ (cw : Int) := by omega
 have q3 : hi ≤ cw := by omega
 have HSt := Lib.hid (hst.below (drew_below _))
 have hSS : w.drew.cell? ⟨Bg, 0, none⟩ = some (.slice Ag G.length cg) ∧ w.drew.cell? ⟨Bn, 2, none⟩ = some (.int .i64 n2) := ⟨HSt.out.b.cell 0, HSt.out.n.cell 2⟩
 refine Eng.regionT (.take 0 (.take 1 (.take 2 (.take 3 (.take 4 (.take 5 (.take 6 (.take 7 (.take 8 (.alt 9 (.take 10 (.alt 11 (.take 12 (.take 13 (.done))) (.stop))) (.stop))))))))))) (fun w' => w'.cell? ⟨Bg, 0, none⟩ = some (.slice Ag G.length cg) ∧ w'.cell? ⟨Bn, 2, none⟩ = some (.int .i64 n2)) (by kernel_rfl) 126 hn (by kernel_rfl) (by kernel_rfl) (by kernel_rfl) (hSS) (fun a b ha hb => ?_)
 subst ha
 have hb5 : b 5 = .pointer (some ⟨Bn, 0, none⟩) := (hb 5).symm.trans h_5
 have hb13 : b 13 = .slice Aw M.length cw := (hb 13).symm.trans h_13
 have hb15 : b 15 = .pointer (some ⟨Bg, 0, none⟩) := (hb 15).symm.trans h_15
 clear hb h_5 h_13 h_15
 have HP := Lib.hid hpost; have HN := Lib.hid hn
 clear hpost hn
 iterate 9 (refine Eng.TW.take' (v := ?_) rfl rfl (by decide) (by kernel_rfl) (fun w hw => ?_) ?_; rotate_left; · (try dsimp only at hw); go_simp; first | done | with_reducible rfl)
 refine Eng.TW.call rfl rfl (by decide) (by kernel_rfl) ?_ (SameG HSt.out.g HSt.out.m hle hG.out) ?_
 ·go_simp
 rintro e w2 ⟨rfl, hb⟩
 have HSt2 := Lib.hid (HSt.out.below hb)
 clear hb
 refine ⟨_, rfl, ⟨HSt2.out.b.cell 0, HSt2.out.n.cell 2⟩, ?_⟩
 refine Eng.TW.take' (v := ?_) rfl rfl (by decide) (by kernel_rfl) (fun w hw => ?_) ?_
 rotate_left
 ·(try dsimp only at hw); go_simp; first | done | with_reducible rfl
 refine Eng.TW.call rfl rfl (by decide) (by kernel_rfl) ?_ (awake _) ?_
 ·go_simp
 rintro e w3 ⟨rfl, hb⟩
 have HSt3 := Lib.hid (HSt2.out.below hb)
 clear hb
 refine ⟨_, rfl, ⟨HSt3.out.b.cell 0, HSt3.out.n.cell 2⟩, ?_⟩
 iterate 2 (refine Eng.TW.take' (v := ?_) rfl rfl (by decide) (by kernel_rfl) (fun w hw => ?_) ?_; rotate_left; · (try dsimp only at hw); go_simp; first | done | with_reducible rfl)
 refine Eng.TW.end_ [6, 113, 114, 115, 116, 117, 118, 119, 120, 121, 122, 123, 124, 125] HN.out (by kernel_rfl) (by kernel_rfl) ?_
 exact HP.out _ _ rfl HSt3.out
end Law18
end Go.Proofs.YtdpngmgaomghoaaGreat
