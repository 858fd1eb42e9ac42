/- Layer 18's statements: StorePlays: for every input the answer is true. -/
import Derived.Test.YtdpngmgaomghoaaGreatL18q
namespace Go.Proofs.YtdpngmgaomghoaaGreat
open Tryz
set_option maxRecDepth 100000
set_option maxHeartbeats 8000000
open Go.RowKit
namespace Law18
open Name KeyP PackP SetP SetW SetF Delta Sto BagP Ref18
attribute [local go_sem] Eng.ev Eng.getO_cons Eng.getO_nil
abbrev TPSt2 : TypeId := 32
abbrev stz : Array Value := #[.int .i64 0, .int .i64 0, .int .i64 0, .int .i64 0, .int .i64 0, .pointer none, .int .i64 0, .pointer none, .int .i64 0, .pointer none, .int .i64 0, .pointer none]
theorem pl3 {ops : Array Oper} (hops : Eng.fnOps Tryz.f11 3 = ops) (a0 : Act) (Q : Exit → Act → World → Prop) (w0 w : World) (Bc : Nat) (f : Cf) (D : List (Nat × Array Value × TypeId)) (hst : NS w Bc f (Below w0.heap.size w0 w ∧ ∀ p ∈ D, Bk w p.1 p.2.1 p.2.2 ∧ w0.heap.size ≤ p.1)) (hi : in64 f.sp ∧ in64 f.tr ∧ in64 f.wi)
  (hn : a0.tmps.size = 229) (h_2 : a0.tmps.getD 2 undef = .pointer (some ⟨Bc, 0, none⟩))
  (hpost : ∀ (x : Nat → Value) (w' : World) (B R : Nat) (F : List Nat), x 5 = .pointer (some ⟨B, 0, none⟩) → x 6 = .pointer (some ⟨R, 0, none⟩) → AR w0 w' B (f.at mnI) [] F R (f.at mnI) [] none 0 D [] → Q .normal (Eng.setAll a0 [5, 6, 21, 22, 23, 24] x) w') :
  (Code.region 3 ops true).wp prog Q a0 w := by
 simp only [Eng.fnOps, Eng.regOps, Tryz.f11, Option.bind_some, Option.getD_some, Nat.reduceEqDiff, ↓reduceIte] at hops
 subst hops
 have HSt := Lib.hid (NS.drew hst)
 refine Eng.regionN [(0, true), (2, true), (1, false), (3, false), (4, true), (5, true)] (fun w' => w'.cell? ⟨Bc, 0, none⟩ = some (.int .i64 f.sp) ∧ w'.cell? ⟨Bc, 1, none⟩ = some (.int .i64 f.tr) ∧ w'.cell? ⟨Bc, 2, none⟩ = some (.int .i64 f.wi) ∧ w'.cell? ⟨Bc, 3, none⟩ = some (.int .i64 f.sg)) (by kernel_rfl) 229 hn (by kernel_rfl) rfl (by kernel_rfl) (⟨HSt.out.b.cell 0, HSt.out.b.cell 1, HSt.out.b.cell 2, HSt.out.b.cell 3⟩) (fun a b ha hb => ?_)
 subst ha
 have hb2 : b 2 = .pointer (some ⟨Bc, 0, none⟩) := (hb 2).symm.trans h_2
 clear hb h_2
 have HP := Lib.hid hpost; have HN := Lib.hid hn
 clear hpost hn
 refine Eng.Sch.tk ?_
 refine Eng.Sch.tk ?_
 refine Eng.Sch.call rfl rfl (by decide) (by kernel_rfl) ?_ (Sto.New f _) ?_
 ·go_simp
 rintro e w2 ⟨B, F, rfl, hs, hF, hb⟩
 have HSt1 := Lib.hid (NS.one HSt.out hi hs hF hb)
 refine ⟨_, rfl, ⟨HSt1.out.b.cell 0, HSt1.out.b.cell 1, HSt1.out.b.cell 2, HSt1.out.b.cell 3⟩, ?_⟩
 refine Eng.Sch.call rfl rfl (by decide) (by kernel_rfl) ?_ (Ref18.New f _ hi) ?_
 ·go_simp
 rintro e w3 ⟨R, rfl, hR, hr, hf⟩
 have HSt2 := Lib.hid (NS.two HSt1.out hr hR hf)
 refine ⟨_, rfl, ⟨HSt2.out.b.cell 0, HSt2.out.b.cell 1, HSt2.out.b.cell 2, HSt2.out.b.cell 3⟩, ?_⟩
 refine Eng.Sch.tk ?_
 refine Eng.Sch.tk ?_
 refine Eng.Sch.end_ [5, 6, 21, 22, 23, 24] HN.out (by kernel_rfl) (by kernel_rfl) ?_
 exact HP.out _ _ B R F rfl rfl HSt2.out.g
structure PK (w0 w : World) (B : Nat) (f : Cf) (L : List Sn) (F : List Nat) (R : Nat) (A : Option Addr) (c : Nat) (D : List (Nat × Array Value × TypeId)) (bd be : Nat) (A1 A2 A3 A4 : Option Addr) (c1 c2 c3 c4 : Nat) (O I : List Sn) (b1 oj : Nat) (ak : Int) : Prop where
 z : AR w0 w B f L F R f L A c D []
 d : RdD w ⟨A1, c1, O, A2, c2, I⟩
 e : RdD w ⟨A3, c3, O, A4, c4, I⟩
 bd : Bk w bd #[.slice A1 O.length c1, .slice A2 I.length c2] TDl
 be : Bk w be #[.slice A3 O.length c3, .slice A4 I.length c4] TDl
 t : w.cell? ⟨b1, oj, none⟩ = some (.int .i64 ak)
section
variable {w0 w w' : World} {B : Nat} {f : Cf} {L : List Sn} {F : List Nat} {R : Nat} {A : Option Addr} {c : Nat} {D : List (Nat × Array Value × TypeId)} {bd be : Nat} {A1 A2 A3 A4 : Option Addr} {c1 c2 c3 c4 : Nat} {O I : List Sn} {b1 oj : Nat} {ak : Int}
theorem PK.below (h : PK w0 w B f L F R A c D bd be A1 A2 A3 A4 c1 c2 c3 c4 O I b1 oj ak) (hb : Below w.heap.size w w') : PK w0 w' B f L F R A c D bd be A1 A2 A3 A4 c1 c2 c3 c4 O I b1 oj ak :=
 ⟨h.z.below hb, rdb h.d hb, rdb h.e hb, h.bd.fr (Fr.of_below' hb (fun _ => False)) (fun _ _ h => h), h.be.fr (Fr.of_below' hb (fun _ => False)) (fun _ _ h => h), (hb.cell (p := ⟨b1, oj, none⟩) (World.block_lt_of_cell? w ⟨b1, oj, none⟩ h.t)).trans h.t⟩
theorem PK.fr (h : PK w0 w B f L F R A c D bd be A1 A2 A3 A4 c1 c2 c3 c4 O I b1 oj ak) (hf : Fr (fun _ => False) w w') : PK w0 w' B f L F R A c D bd be A1 A2 A3 A4 c1 c2 c3 c4 O I b1 oj ak := h.below (hf.below (Nat.le_refl _) (fun _ _ h => h))
end
theorem pl11 {ops : Array Oper} (hops : Eng.fnOps Tryz.f11 11 = ops) (a0 : Act) (Q : Exit → Act → World → Prop) (w0 w : World) (B : Nat) (f : Cf) (L : List Sn) (F : List Nat) (R : Nat) (A : Option Addr) (c : Nat) (D : List (Nat × Array Value × TypeId)) (bd be : Nat) (A1 A2 A3 A4 : Option Addr) (c1 c2 c3 c4 : Nat) (O I : List Sn) (b1 o1 k len c8 : Nat) (ak E : Int) (hst : PK w0 w B f L F R A c D bd be A1 A2 A3 A4 c1 c2 c3 c4 O I b1 (o1 + k * 3) ak) (hl : L.length ≤ 1000000) (ho : O.length ≤ 500000) (hi : I.length ≤ 500000) (hsr : Srs L) (hk : k < len) (_hlen : len ≤ 9223372036854775807) (hk2 : (ak != 2) = true)
  (hn : a0.tmps.size = 229) (h_1 : a0.tmps.getD 1 undef = .slice (some ⟨b1, o1, none⟩) len c8) (h_5 : a0.tmps.getD 5 undef = .pointer (some ⟨B, 0, none⟩)) (h_6 : a0.tmps.getD 6 undef = .pointer (some ⟨R, 0, none⟩)) (h_8 : a0.tmps.getD 8 undef = .int .i64 k) (h_9 : a0.tmps.getD 9 undef = .int .i64 E) (h_10 : a0.tmps.getD 10 undef = .pointer (some ⟨bd, 0, none⟩)) (h_11 : a0.tmps.getD 11 undef = .int .i64 E) (h_12 : a0.tmps.getD 12 undef = .pointer (some ⟨be, 0, none⟩)) (h_13 : a0.tmps.getD 13 undef = .int .i64 E)
  (hpost : ∀ (x : Nat → Value) (w' : World), x 146 = .bool false → PK w0 w' B f L F R A c D bd be A1 A2 A3 A4 c1 c2 c3 c4 O I b1 (o1 + k * 3) ak → Q .normal (Eng.setAll a0 [59, 60, 61, 62, 63, 64, 65, 66, 67, 68, 69, 70, 71, 72, 73, 74, 75, 76, 77, 78, 79, 80, 81, 82, 83, 84, 85, 86, 87, 88, 89, 90, 91, 92, 93, 94, 95, 96, 97, 98, 99, 100, 101, 102, 103, 104, 105, 106, 107, 108, 109, 110, 111, 112, 113, 114, 115, 116, 117, 118, 119, 120, 121, 122, 123, 124, 125, 126, 127, 128, 129, 130, 131, 132, 133, 134, 135, 136, 137, 138, 139, 140, 141, 142, 143, 144, 145, 146] x) w') :
  (Code.region 11 ops true).wp prog Q a0 w := by
 simp only [Eng.fnOps, Eng.regOps, Tryz.f11, Option.bind_some, Option.getD_some, Nat.reduceEqDiff, ↓reduceIte] at hops
 subst hops
 have q1 : (0 : Int) ≤ (k : Int) := by omega
 have q2 : decide ((k : Int) < (len : Int)) = true := by simp; omega
 have q3 : (k : Int) < (len : Int) := by omega
 have HSt := Lib.hid (hst.fr (Fr.drew _ _))
 refine Eng.regionN [(0, true), (1, true), (2, false), (3, true), (4, true), (5, true), (6, true), (7, true), (8, true), (9, true), (10, true), (11, true), (12, true), (13, true), (14, true), (15, true), (16, true), (17, true), (18, true), (19, true), (20, true), (21, true), (22, true), (23, true), (25, true), (26, true), (27, true), (28, true), (24, false), (29, false), (30, true), (31, true), (32, true), (33, true), (35, true), (36, true), (37, true), (38, true), (34, false), (39, false), (40, false), (41, true), (42, true), (43, true), (44, true), (46, true), (47, true), (48, true), (49, true), (50, true), (45, false), (51, true), (52, true), (53, true), (54, true), (56, true), (57, true), (58, true), (59, true), (55, false), (60, true), (61, true), (62, true), (63, true), (65, true), (64, false), (66, false), (67, true), (68, true), (69, true), (70, true), (72, true), (73, true), (74, true), (75, true), (71, false), (76, false), (77, false), (78, true), (79, true), (80, true), (81, true), (83, true), (82, false), (84, false), (85, false), (86, true), (87, true)] (fun w' => w'.cell? ⟨bd, 0, none⟩ = some (.slice A1 O.length c1) ∧ w'.cell? ⟨bd, 1, none⟩ = some (.slice A2 I.length c2) ∧ w'.cell? ⟨be, 0, none⟩ = some (.slice A3 O.length c3) ∧ w'.cell? ⟨be, 1, none⟩ = some (.slice A4 I.length c4) ∧ w'.cell? ⟨b1, o1 + k * 3, none⟩ = some (.int .i64 ak) ∧ w'.cell? ⟨R, 5, none⟩ = some (.slice A L.length c) ∧ w'.cell? ⟨R, 4, none⟩ = some (.int .i64 f.now)) (by kernel_rfl) 229 hn (by kernel_rfl) rfl (by kernel_rfl) (⟨HSt.out.bd.cell 0, HSt.out.bd.cell 1, HSt.out.be.cell 0, HSt.out.be.cell 1, HSt.out.t, HSt.out.z.r.cs.2.2.2.2.2, HSt.out.z.r.cs.2.2.2.2.1⟩) (fun a b ha hb => ?_)
 subst ha
 have hb1 : b 1 = .slice (some ⟨b1, o1, none⟩) len c8 := (hb 1).symm.trans h_1
 have hb5 : b 5 = .pointer (some ⟨B, 0, none⟩) := (hb 5).symm.trans h_5
 have hb6 : b 6 = .pointer (some ⟨R, 0, none⟩) := (hb 6).symm.trans h_6
 have hb8 : b 8 = .int .i64 k := (hb 8).symm.trans h_8
 have hb9 : b 9 = .int .i64 E := (hb 9).symm.trans h_9
 have hb10 : b 10 = .pointer (some ⟨bd, 0, none⟩) := (hb 10).symm.trans h_10
 have hb11 : b 11 = .int .i64 E := (hb 11).symm.trans h_11
 have hb12 : b 12 = .pointer (some ⟨be, 0, none⟩) := (hb 12).symm.trans h_12
 have hb13 : b 13 = .int .i64 E := (hb 13).symm.trans h_13
 clear hb h_1 h_5 h_6 h_8 h_9 h_10 h_11 h_12 h_13
 have HP := Lib.hid hpost; have HN := Lib.hid hn
 clear hpost hn
 refine Eng.Sch.tk ?_
 refine Eng.Sch.tk ?_
 refine Eng.Sch.call rfl rfl (by decide) (by kernel_rfl) ?_ (SameDl.SameDT ⟨A1, c1, O, A2, c2, I⟩ ⟨A3, c3, O, A4, c4, I⟩ _ HSt.out.d HSt.out.e (by simp [SameDl.sameD])) ?_
 ·go_simp
 rintro e w2 ⟨rfl, hf0⟩
 have HSt1 := Lib.hid (HSt.out.fr hf0)
 refine ⟨_, rfl, ⟨HSt1.out.bd.cell 0, HSt1.out.bd.cell 1, HSt1.out.be.cell 0, HSt1.out.be.cell 1, HSt1.out.t, HSt1.out.z.r.cs.2.2.2.2.2, HSt1.out.z.r.cs.2.2.2.2.1⟩, ?_⟩
 iterate 25 (refine Eng.Sch.tk ?_)
 refine Eng.Sch.call rfl rfl (by decide) (by kernel_rfl) ?_ (Sto.All B f L F _ HSt1.out.z.z.s hl) ?_
 ·go_simp
 rintro e w3 ⟨A9, c9, rfl, hls, -, hb⟩
 have HL9 := Lib.hid hls
 clear hls
 have HSt2 := Lib.hid (HSt1.out.below hb)
 refine ⟨_, rfl, ⟨HSt2.out.bd.cell 0, HSt2.out.bd.cell 1, HSt2.out.be.cell 0, HSt2.out.be.cell 1, HSt2.out.t, HSt2.out.z.r.cs.2.2.2.2.2, HSt2.out.z.r.cs.2.2.2.2.1⟩, ?_⟩
 refine Eng.Sch.call rfl rfl (by decide) (by kernel_rfl) ?_ (SameT HL9.out HSt2.out.z.r.l rfl rfl rfl) ?_
 ·go_simp
 rintro e w4 ⟨rfl, hf1⟩
 have HSt3 := Lib.hid (HSt2.out.fr hf1)
 refine ⟨_, rfl, ⟨HSt3.out.bd.cell 0, HSt3.out.bd.cell 1, HSt3.out.be.cell 0, HSt3.out.be.cell 1, HSt3.out.t, HSt3.out.z.r.cs.2.2.2.2.2, HSt3.out.z.r.cs.2.2.2.2.1⟩, ?_⟩
 iterate 8 (refine Eng.Sch.tk ?_)
 refine Eng.Sch.call rfl rfl (by decide) (by kernel_rfl) ?_ (Sto.Live B f L F _ HSt3.out.z.z.s hl) ?_
 ·go_simp
 rintro e w5 ⟨A10, c10, rfl, hls, -, hb2⟩
 have HL10 := Lib.hid hls
 clear hls
 have HSt4 := Lib.hid (HSt3.out.below hb2)
 refine ⟨_, rfl, ⟨HSt4.out.bd.cell 0, HSt4.out.bd.cell 1, HSt4.out.be.cell 0, HSt4.out.be.cell 1, HSt4.out.t, HSt4.out.z.r.cs.2.2.2.2.2, HSt4.out.z.r.cs.2.2.2.2.1⟩, ?_⟩
 refine Eng.Sch.call rfl rfl (by decide) (by kernel_rfl) ?_ (Ref18.Live A c L _ HSt4.out.z.r.l hl) ?_
 ·go_simp
 rintro e w6 ⟨A11, c11, rfl, hls, -, hb3⟩
 have HL11 := Lib.hid hls
 have HL10b := Lib.hid (HL10.out.below hb3)
 clear hls HL10
 have HSt5 := Lib.hid (HSt4.out.below hb3)
 refine ⟨_, rfl, ⟨HSt5.out.bd.cell 0, HSt5.out.bd.cell 1, HSt5.out.be.cell 0, HSt5.out.be.cell 1, HSt5.out.t, HSt5.out.z.r.cs.2.2.2.2.2, HSt5.out.z.r.cs.2.2.2.2.1⟩, ?_⟩
 refine Eng.Sch.call rfl rfl (by decide) (by kernel_rfl) ?_ (SameT HL10b.out HL11.out rfl rfl rfl) ?_
 ·go_simp
 rintro e w7 ⟨rfl, hf2⟩
 have HSt6 := Lib.hid (HSt5.out.fr hf2)
 have hSS : w7.cell? ⟨bd, 0, none⟩ = some (.slice A1 O.length c1) ∧ w7.cell? ⟨bd, 1, none⟩ = some (.slice A2 I.length c2) ∧ w7.cell? ⟨be, 0, none⟩ = some (.slice A3 O.length c3) ∧ w7.cell? ⟨be, 1, none⟩ = some (.slice A4 I.length c4) ∧ w7.cell? ⟨b1, o1 + k * 3, none⟩ = some (.int .i64 ak) ∧ w7.cell? ⟨R, 5, none⟩ = some (.slice A L.length c) ∧ w7.cell? ⟨R, 4, none⟩ = some (.int .i64 f.now) := ⟨HSt6.out.bd.cell 0, HSt6.out.bd.cell 1, HSt6.out.be.cell 0, HSt6.out.be.cell 1, HSt6.out.t, HSt6.out.z.r.cs.2.2.2.2.2, HSt6.out.z.r.cs.2.2.2.2.1⟩
 refine ⟨_, rfl, hSS, ?_⟩
 iterate 9 (refine Eng.Sch.tk ?_)
 refine Eng.Sch.call rfl rfl (by decide) (by kernel_rfl) ?_ (LenP HSt6.out.z.z.s) ?_
 ·go_simp
 rintro e w_7 ⟨rfl, rfl⟩
 refine ⟨_, rfl, hSS, ?_⟩
 iterate 8 (refine Eng.Sch.tk ?_)
 refine Eng.Sch.call rfl rfl (by decide) (by kernel_rfl) ?_ (NowP HSt6.out.z.z.s) ?_
 ·go_simp
 rintro e w_7 ⟨rfl, rfl⟩
 refine ⟨_, rfl, hSS, ?_⟩
 iterate 5 (refine Eng.Sch.tk ?_)
 refine Eng.Sch.call rfl rfl (by decide) (by kernel_rfl) ?_ (HorP HSt6.out.z.z.s) ?_
 ·go_simp
 rintro e w8 ⟨rfl, hf3⟩
 have HSt7 := Lib.hid (HSt6.out.fr hf3)
 refine ⟨_, rfl, ⟨HSt7.out.bd.cell 0, HSt7.out.bd.cell 1, HSt7.out.be.cell 0, HSt7.out.be.cell 1, HSt7.out.t, HSt7.out.z.r.cs.2.2.2.2.2, HSt7.out.z.r.cs.2.2.2.2.1⟩, ?_⟩
 refine Eng.Sch.call rfl rfl (by decide) (by kernel_rfl) ?_ (Ref18.Horizon HSt7.out.z.r) ?_
 ·go_simp
 rintro e w9 ⟨rfl, hf4⟩
 have HSt8 := Lib.hid (HSt7.out.fr hf4)
 refine ⟨_, rfl, ⟨HSt8.out.bd.cell 0, HSt8.out.bd.cell 1, HSt8.out.be.cell 0, HSt8.out.be.cell 1, HSt8.out.t, HSt8.out.z.r.cs.2.2.2.2.2, HSt8.out.z.r.cs.2.2.2.2.1⟩, ?_⟩
 iterate 8 (refine Eng.Sch.tk ?_)
 refine Eng.Sch.call rfl rfl (by decide) (by kernel_rfl) ?_ (TrcP HSt8.out.z.z.s) ?_
 ·go_simp
 rintro e w10 ⟨A12, c12, rfl, hs12, hb4⟩
 have HT12 := Lib.hid hs12
 clear hs12
 have HSt9 := Lib.hid (HSt8.out.below hb4)
 refine ⟨_, rfl, ⟨HSt9.out.bd.cell 0, HSt9.out.bd.cell 1, HSt9.out.be.cell 0, HSt9.out.be.cell 1, HSt9.out.t, HSt9.out.z.r.cs.2.2.2.2.2, HSt9.out.z.r.cs.2.2.2.2.1⟩, ?_⟩
 refine Eng.Sch.call rfl rfl (by decide) (by kernel_rfl) ?_ (Ref18.Traces A c L _ HSt9.out.z.r.l hsr hl) ?_
 ·go_simp
 rintro e w11 ⟨A13, c13, rfl, hs13, hb5⟩
 have HT13 := Lib.hid hs13
 have HT12b := Lib.hid (Sl.bel HT12.out hb5)
 clear hs13 HT12
 have HSt10 := Lib.hid (HSt9.out.below hb5)
 refine ⟨_, rfl, ⟨HSt10.out.bd.cell 0, HSt10.out.bd.cell 1, HSt10.out.be.cell 0, HSt10.out.be.cell 1, HSt10.out.t, HSt10.out.z.r.cs.2.2.2.2.2, HSt10.out.z.r.cs.2.2.2.2.1⟩, ?_⟩
 refine Eng.Sch.call rfl rfl (by decide) (by kernel_rfl) ?_ (SameIT HT12b.out HT13.out) ?_
 ·go_simp
 rintro e w12 ⟨rfl, hf5⟩
 have HSt11 := Lib.hid (HSt10.out.fr hf5)
 refine ⟨_, rfl, ⟨HSt11.out.bd.cell 0, HSt11.out.bd.cell 1, HSt11.out.be.cell 0, HSt11.out.be.cell 1, HSt11.out.t, HSt11.out.z.r.cs.2.2.2.2.2, HSt11.out.z.r.cs.2.2.2.2.1⟩, ?_⟩
 iterate 5 (refine Eng.Sch.tk ?_)
 refine Eng.Sch.call rfl rfl (by decide) (by kernel_rfl) ?_ (AliP HSt11.out.d ho hi) ?_
 ·go_simp
 rintro e w13 ⟨A14, c14, A15, c15, rfl, hr14, hb6⟩
 have HR14 := Lib.hid hr14
 clear hr14
 have HSt12 := Lib.hid (HSt11.out.below hb6)
 refine ⟨_, rfl, ⟨HSt12.out.bd.cell 0, HSt12.out.bd.cell 1, HSt12.out.be.cell 0, HSt12.out.be.cell 1, HSt12.out.t, HSt12.out.z.r.cs.2.2.2.2.2, HSt12.out.z.r.cs.2.2.2.2.1⟩, ?_⟩
 refine Eng.Sch.call rfl rfl (by decide) (by kernel_rfl) ?_ (AliR HSt12.out.e ho hi) ?_
 ·go_simp
 rintro e w14 ⟨A16, c16, A17, c17, rfl, hr16, hb7⟩
 have HR16 := Lib.hid hr16
 have HR14b := Lib.hid (rdb HR14.out hb7)
 clear hr16 HR14
 have HSt13 := Lib.hid (HSt12.out.below hb7)
 refine ⟨_, rfl, ⟨HSt13.out.bd.cell 0, HSt13.out.bd.cell 1, HSt13.out.be.cell 0, HSt13.out.be.cell 1, HSt13.out.t, HSt13.out.z.r.cs.2.2.2.2.2, HSt13.out.z.r.cs.2.2.2.2.1⟩, ?_⟩
 refine Eng.Sch.call rfl rfl (by decide) (by kernel_rfl) ?_ (SameDl.SameDT ⟨A14, c14, alv O, A15, c15, alv I⟩ ⟨A16, c16, alv O, A17, c17, alv I⟩ _ HR14b.out HR16.out (by simp [SameDl.sameD])) ?_
 ·go_simp
 rintro e w15 ⟨rfl, hf6⟩
 have HSt14 := Lib.hid (HSt13.out.fr hf6)
 refine ⟨_, rfl, ⟨HSt14.out.bd.cell 0, HSt14.out.bd.cell 1, HSt14.out.be.cell 0, HSt14.out.be.cell 1, HSt14.out.t, HSt14.out.z.r.cs.2.2.2.2.2, HSt14.out.z.r.cs.2.2.2.2.1⟩, ?_⟩
 refine Eng.Sch.tk ?_
 refine Eng.Sch.tk ?_
 refine Eng.Sch.end_ [59, 60, 61, 62, 63, 64, 65, 66, 67, 68, 69, 70, 71, 72, 73, 74, 75, 76, 77, 78, 79, 80, 81, 82, 83, 84, 85, 86, 87, 88, 89, 90, 91, 92, 93, 94, 95, 96, 97, 98, 99, 100, 101, 102, 103, 104, 105, 106, 107, 108, 109, 110, 111, 112, 113, 114, 115, 116, 117, 118, 119, 120, 121, 122, 123, 124, 125, 126, 127, 128, 129, 130, 131, 132, 133, 134, 135, 136, 137, 138, 139, 140, 141, 142, 143, 144, 145, 146] HN.out (by kernel_rfl) (by kernel_rfl) ?_
 exact HP.out _ _ rfl HSt14.out
theorem pl11t {ops : Array Oper} (hops : Eng.fnOps Tryz.f11 11 = ops) (a0 : Act) (Q : Exit → Act → World → Prop) (w0 w : World) (B : Nat) (f : Cf) (L : List Sn) (F : List Nat) (R : Nat) (A : Option Addr) (c : Nat) (D : List (Nat × Array Value × TypeId)) (bd be : Nat) (A1 A2 A3 A4 : Option Addr) (c1 c2 c3 c4 : Nat) (O I : List Sn) (b1 o1 k len c8 : Nat) (ak E : Int) (hst : PK w0 w B f L F R A c D bd be A1 A2 A3 A4 c1 c2 c3 c4 O I b1 (o1 + k * 3) ak) (hl : L.length ≤ 1000000) (ho : O.length ≤ 500000) (hi : I.length ≤ 500000) (hsr : Srs L) (hk : k < len) (_hlen : len ≤ 9223372036854775807) (hk2 : (ak != 2) = false)
  (hn : a0.tmps.size = 229) (h_1 : a0.tmps.getD 1 undef = .slice (some ⟨b1, o1, none⟩) len c8) (h_5 : a0.tmps.getD 5 undef = .pointer (some ⟨B, 0, none⟩)) (h_6 : a0.tmps.getD 6 undef = .pointer (some ⟨R, 0, none⟩)) (h_8 : a0.tmps.getD 8 undef = .int .i64 k) (h_10 : a0.tmps.getD 10 undef = .pointer (some ⟨bd, 0, none⟩)) (h_11 : a0.tmps.getD 11 undef = .int .i64 E) (h_12 : a0.tmps.getD 12 undef = .pointer (some ⟨be, 0, none⟩)) (h_13 : a0.tmps.getD 13 undef = .int .i64 E)
  (hpost : ∀ (x : Nat → Value) (w' : World), x 146 = .bool false → PK w0 w' B f L F R A c D bd be A1 A2 A3 A4 c1 c2 c3 c4 O I b1 (o1 + k * 3) ak → Q .normal (Eng.setAll a0 [59, 60, 61, 62, 63, 64, 65, 66, 67, 68, 69, 70, 71, 72, 73, 74, 75, 76, 77, 78, 79, 80, 81, 82, 83, 84, 85, 86, 87, 88, 89, 90, 91, 92, 93, 94, 95, 96, 97, 98, 99, 100, 101, 102, 103, 104, 105, 106, 107, 108, 109, 110, 111, 112, 113, 114, 115, 116, 117, 118, 119, 120, 121, 122, 123, 124, 125, 126, 127, 128, 129, 130, 131, 132, 133, 134, 135, 136, 137, 138, 139, 140, 141, 142, 143, 144, 145, 146] x) w') :
  (Code.region 11 ops true).wp prog Q a0 w := by
 simp only [Eng.fnOps, Eng.regOps, Tryz.f11, Option.bind_some, Option.getD_some, Nat.reduceEqDiff, ↓reduceIte] at hops
 subst hops
 have q1 : (0 : Int) ≤ (k : Int) := by omega
 have q2 : decide ((k : Int) < (len : Int)) = true := by simp; omega
 have q3 : (k : Int) < (len : Int) := by omega
 have HSt := Lib.hid (hst.fr (Fr.drew _ _))
 refine Eng.regionN [(0, true), (1, true), (2, false), (3, true), (4, true), (5, true), (6, true), (7, true), (8, true), (9, true), (10, true), (11, true), (12, true), (13, true), (14, true), (15, true), (16, true), (17, true), (18, true), (19, true), (20, true), (21, true), (22, true), (23, true), (25, true), (26, true), (27, true), (28, true), (24, false), (29, false), (30, true), (31, true), (32, true), (33, true), (35, true), (36, true), (37, true), (38, true), (34, false), (39, false), (40, false), (41, true), (42, true), (43, true), (44, true), (46, true), (47, true), (48, true), (49, true), (50, true), (45, false), (51, true), (52, true), (53, true), (54, true), (56, true), (57, true), (58, true), (59, true), (55, false), (60, true), (61, true), (62, true), (63, true), (65, true), (64, false), (66, false), (67, true), (68, true), (69, true), (70, true), (72, true), (73, true), (74, true), (75, true), (71, false), (76, false), (77, false), (78, true), (79, true), (80, true), (81, true), (83, true), (82, false), (84, false), (85, false), (86, true), (87, true)] (fun w' => w'.cell? ⟨bd, 0, none⟩ = some (.slice A1 O.length c1) ∧ w'.cell? ⟨bd, 1, none⟩ = some (.slice A2 I.length c2) ∧ w'.cell? ⟨be, 0, none⟩ = some (.slice A3 O.length c3) ∧ w'.cell? ⟨be, 1, none⟩ = some (.slice A4 I.length c4) ∧ w'.cell? ⟨b1, o1 + k * 3, none⟩ = some (.int .i64 ak) ∧ w'.cell? ⟨R, 5, none⟩ = some (.slice A L.length c) ∧ w'.cell? ⟨R, 4, none⟩ = some (.int .i64 f.now)) (by kernel_rfl) 229 hn (by kernel_rfl) rfl (by kernel_rfl) (⟨HSt.out.bd.cell 0, HSt.out.bd.cell 1, HSt.out.be.cell 0, HSt.out.be.cell 1, HSt.out.t, HSt.out.z.r.cs.2.2.2.2.2, HSt.out.z.r.cs.2.2.2.2.1⟩) (fun a b ha hb => ?_)
 subst ha
 have hb1 : b 1 = .slice (some ⟨b1, o1, none⟩) len c8 := (hb 1).symm.trans h_1
 have hb5 : b 5 = .pointer (some ⟨B, 0, none⟩) := (hb 5).symm.trans h_5
 have hb6 : b 6 = .pointer (some ⟨R, 0, none⟩) := (hb 6).symm.trans h_6
 have hb8 : b 8 = .int .i64 k := (hb 8).symm.trans h_8
 have hb10 : b 10 = .pointer (some ⟨bd, 0, none⟩) := (hb 10).symm.trans h_10
 have hb11 : b 11 = .int .i64 E := (hb 11).symm.trans h_11
 have hb12 : b 12 = .pointer (some ⟨be, 0, none⟩) := (hb 12).symm.trans h_12
 have hb13 : b 13 = .int .i64 E := (hb 13).symm.trans h_13
 clear hb h_1 h_5 h_6 h_8 h_10 h_11 h_12 h_13
 have HP := Lib.hid hpost; have HN := Lib.hid hn
 clear hpost hn
 refine Eng.Sch.tk ?_
 refine Eng.Sch.tk ?_
 refine Eng.Sch.call rfl rfl (by decide) (by kernel_rfl) ?_ (SameDl.SameDT ⟨A1, c1, O, A2, c2, I⟩ ⟨A3, c3, O, A4, c4, I⟩ _ HSt.out.d HSt.out.e (by simp [SameDl.sameD])) ?_
 ·go_simp
 rintro e w2 ⟨rfl, hf0⟩
 have HSt1 := Lib.hid (HSt.out.fr hf0)
 refine ⟨_, rfl, ⟨HSt1.out.bd.cell 0, HSt1.out.bd.cell 1, HSt1.out.be.cell 0, HSt1.out.be.cell 1, HSt1.out.t, HSt1.out.z.r.cs.2.2.2.2.2, HSt1.out.z.r.cs.2.2.2.2.1⟩, ?_⟩
 iterate 14 (refine Eng.Sch.tk ?_)
 iterate 3 (refine Eng.Sch.skip rfl rfl (by decide) (by kernel_rfl) ?_)
 iterate 8 (refine Eng.Sch.tk ?_)
 refine Eng.Sch.call rfl rfl (by decide) (by kernel_rfl) ?_ (Sto.All B f L F _ HSt1.out.z.z.s hl) ?_
 ·go_simp
 rintro e w3 ⟨A9, c9, rfl, hls, -, hb⟩
 have HL9 := Lib.hid hls
 clear hls
 have HSt2 := Lib.hid (HSt1.out.below hb)
 refine ⟨_, rfl, ⟨HSt2.out.bd.cell 0, HSt2.out.bd.cell 1, HSt2.out.be.cell 0, HSt2.out.be.cell 1, HSt2.out.t, HSt2.out.z.r.cs.2.2.2.2.2, HSt2.out.z.r.cs.2.2.2.2.1⟩, ?_⟩
 refine Eng.Sch.call rfl rfl (by decide) (by kernel_rfl) ?_ (SameT HL9.out HSt2.out.z.r.l rfl rfl rfl) ?_
 ·go_simp
 rintro e w4 ⟨rfl, hf1⟩
 have HSt3 := Lib.hid (HSt2.out.fr hf1)
 refine ⟨_, rfl, ⟨HSt3.out.bd.cell 0, HSt3.out.bd.cell 1, HSt3.out.be.cell 0, HSt3.out.be.cell 1, HSt3.out.t, HSt3.out.z.r.cs.2.2.2.2.2, HSt3.out.z.r.cs.2.2.2.2.1⟩, ?_⟩
 iterate 8 (refine Eng.Sch.tk ?_)
 refine Eng.Sch.call rfl rfl (by decide) (by kernel_rfl) ?_ (Sto.Live B f L F _ HSt3.out.z.z.s hl) ?_
 ·go_simp
 rintro e w5 ⟨A10, c10, rfl, hls, -, hb2⟩
 have HL10 := Lib.hid hls
 clear hls
 have HSt4 := Lib.hid (HSt3.out.below hb2)
 refine ⟨_, rfl, ⟨HSt4.out.bd.cell 0, HSt4.out.bd.cell 1, HSt4.out.be.cell 0, HSt4.out.be.cell 1, HSt4.out.t, HSt4.out.z.r.cs.2.2.2.2.2, HSt4.out.z.r.cs.2.2.2.2.1⟩, ?_⟩
 refine Eng.Sch.call rfl rfl (by decide) (by kernel_rfl) ?_ (Ref18.Live A c L _ HSt4.out.z.r.l hl) ?_
 ·go_simp
 rintro e w6 ⟨A11, c11, rfl, hls, -, hb3⟩
 have HL11 := Lib.hid hls
 have HL10b := Lib.hid (HL10.out.below hb3)
 clear hls HL10
 have HSt5 := Lib.hid (HSt4.out.below hb3)
 refine ⟨_, rfl, ⟨HSt5.out.bd.cell 0, HSt5.out.bd.cell 1, HSt5.out.be.cell 0, HSt5.out.be.cell 1, HSt5.out.t, HSt5.out.z.r.cs.2.2.2.2.2, HSt5.out.z.r.cs.2.2.2.2.1⟩, ?_⟩
 refine Eng.Sch.call rfl rfl (by decide) (by kernel_rfl) ?_ (SameT HL10b.out HL11.out rfl rfl rfl) ?_
 ·go_simp
 rintro e w7 ⟨rfl, hf2⟩
 have HSt6 := Lib.hid (HSt5.out.fr hf2)
 have hSS : w7.cell? ⟨bd, 0, none⟩ = some (.slice A1 O.length c1) ∧ w7.cell? ⟨bd, 1, none⟩ = some (.slice A2 I.length c2) ∧ w7.cell? ⟨be, 0, none⟩ = some (.slice A3 O.length c3) ∧ w7.cell? ⟨be, 1, none⟩ = some (.slice A4 I.length c4) ∧ w7.cell? ⟨b1, o1 + k * 3, none⟩ = some (.int .i64 ak) ∧ w7.cell? ⟨R, 5, none⟩ = some (.slice A L.length c) ∧ w7.cell? ⟨R, 4, none⟩ = some (.int .i64 f.now) := ⟨HSt6.out.bd.cell 0, HSt6.out.bd.cell 1, HSt6.out.be.cell 0, HSt6.out.be.cell 1, HSt6.out.t, HSt6.out.z.r.cs.2.2.2.2.2, HSt6.out.z.r.cs.2.2.2.2.1⟩
 refine ⟨_, rfl, hSS, ?_⟩
 iterate 9 (refine Eng.Sch.tk ?_)
 refine Eng.Sch.call rfl rfl (by decide) (by kernel_rfl) ?_ (LenP HSt6.out.z.z.s) ?_
 ·go_simp
 rintro e w_7 ⟨rfl, rfl⟩
 refine ⟨_, rfl, hSS, ?_⟩
 iterate 8 (refine Eng.Sch.tk ?_)
 refine Eng.Sch.call rfl rfl (by decide) (by kernel_rfl) ?_ (NowP HSt6.out.z.z.s) ?_
 ·go_simp
 rintro e w_7 ⟨rfl, rfl⟩
 refine ⟨_, rfl, hSS, ?_⟩
 iterate 5 (refine Eng.Sch.tk ?_)
 refine Eng.Sch.call rfl rfl (by decide) (by kernel_rfl) ?_ (HorP HSt6.out.z.z.s) ?_
 ·go_simp
 rintro e w8 ⟨rfl, hf3⟩
 have HSt7 := Lib.hid (HSt6.out.fr hf3)
 refine ⟨_, rfl, ⟨HSt7.out.bd.cell 0, HSt7.out.bd.cell 1, HSt7.out.be.cell 0, HSt7.out.be.cell 1, HSt7.out.t, HSt7.out.z.r.cs.2.2.2.2.2, HSt7.out.z.r.cs.2.2.2.2.1⟩, ?_⟩
 refine Eng.Sch.call rfl rfl (by decide) (by kernel_rfl) ?_ (Ref18.Horizon HSt7.out.z.r) ?_
 ·go_simp
 rintro e w9 ⟨rfl, hf4⟩
 have HSt8 := Lib.hid (HSt7.out.fr hf4)
 refine ⟨_, rfl, ⟨HSt8.out.bd.cell 0, HSt8.out.bd.cell 1, HSt8.out.be.cell 0, HSt8.out.be.cell 1, HSt8.out.t, HSt8.out.z.r.cs.2.2.2.2.2, HSt8.out.z.r.cs.2.2.2.2.1⟩, ?_⟩
 iterate 8 (refine Eng.Sch.tk ?_)
 refine Eng.Sch.call rfl rfl (by decide) (by kernel_rfl) ?_ (TrcP HSt8.out.z.z.s) ?_
 ·go_simp
 rintro e w10 ⟨A12, c12, rfl, hs12, hb4⟩
 have HT12 := Lib.hid hs12
 clear hs12
 have HSt9 := Lib.hid (HSt8.out.below hb4)
 refine ⟨_, rfl, ⟨HSt9.out.bd.cell 0, HSt9.out.bd.cell 1, HSt9.out.be.cell 0, HSt9.out.be.cell 1, HSt9.out.t, HSt9.out.z.r.cs.2.2.2.2.2, HSt9.out.z.r.cs.2.2.2.2.1⟩, ?_⟩
 refine Eng.Sch.call rfl rfl (by decide) (by kernel_rfl) ?_ (Ref18.Traces A c L _ HSt9.out.z.r.l hsr hl) ?_
 ·go_simp
 rintro e w11 ⟨A13, c13, rfl, hs13, hb5⟩
 have HT13 := Lib.hid hs13
 have HT12b := Lib.hid (Sl.bel HT12.out hb5)
 clear hs13 HT12
 have HSt10 := Lib.hid (HSt9.out.below hb5)
 refine ⟨_, rfl, ⟨HSt10.out.bd.cell 0, HSt10.out.bd.cell 1, HSt10.out.be.cell 0, HSt10.out.be.cell 1, HSt10.out.t, HSt10.out.z.r.cs.2.2.2.2.2, HSt10.out.z.r.cs.2.2.2.2.1⟩, ?_⟩
 refine Eng.Sch.call rfl rfl (by decide) (by kernel_rfl) ?_ (SameIT HT12b.out HT13.out) ?_
 ·go_simp
 rintro e w12 ⟨rfl, hf5⟩
 have HSt11 := Lib.hid (HSt10.out.fr hf5)
 refine ⟨_, rfl, ⟨HSt11.out.bd.cell 0, HSt11.out.bd.cell 1, HSt11.out.be.cell 0, HSt11.out.be.cell 1, HSt11.out.t, HSt11.out.z.r.cs.2.2.2.2.2, HSt11.out.z.r.cs.2.2.2.2.1⟩, ?_⟩
 iterate 5 (refine Eng.Sch.tk ?_)
 refine Eng.Sch.call rfl rfl (by decide) (by kernel_rfl) ?_ (AliP HSt11.out.d ho hi) ?_
 ·go_simp
 rintro e w13 ⟨A14, c14, A15, c15, rfl, hr14, hb6⟩
 have HR14 := Lib.hid hr14
 clear hr14
 have HSt12 := Lib.hid (HSt11.out.below hb6)
 refine ⟨_, rfl, ⟨HSt12.out.bd.cell 0, HSt12.out.bd.cell 1, HSt12.out.be.cell 0, HSt12.out.be.cell 1, HSt12.out.t, HSt12.out.z.r.cs.2.2.2.2.2, HSt12.out.z.r.cs.2.2.2.2.1⟩, ?_⟩
 refine Eng.Sch.call rfl rfl (by decide) (by kernel_rfl) ?_ (AliR HSt12.out.e ho hi) ?_
 ·go_simp
 rintro e w14 ⟨A16, c16, A17, c17, rfl, hr16, hb7⟩
 have HR16 := Lib.hid hr16
 have HR14b := Lib.hid (rdb HR14.out hb7)
 clear hr16 HR14
 have HSt13 := Lib.hid (HSt12.out.below hb7)
 refine ⟨_, rfl, ⟨HSt13.out.bd.cell 0, HSt13.out.bd.cell 1, HSt13.out.be.cell 0, HSt13.out.be.cell 1, HSt13.out.t, HSt13.out.z.r.cs.2.2.2.2.2, HSt13.out.z.r.cs.2.2.2.2.1⟩, ?_⟩
 refine Eng.Sch.call rfl rfl (by decide) (by kernel_rfl) ?_ (SameDl.SameDT ⟨A14, c14, alv O, A15, c15, alv I⟩ ⟨A16, c16, alv O, A17, c17, alv I⟩ _ HR14b.out HR16.out (by simp [SameDl.sameD])) ?_
 ·go_simp
 rintro e w15 ⟨rfl, hf6⟩
 have HSt14 := Lib.hid (HSt13.out.fr hf6)
 refine ⟨_, rfl, ⟨HSt14.out.bd.cell 0, HSt14.out.bd.cell 1, HSt14.out.be.cell 0, HSt14.out.be.cell 1, HSt14.out.t, HSt14.out.z.r.cs.2.2.2.2.2, HSt14.out.z.r.cs.2.2.2.2.1⟩, ?_⟩
 refine Eng.Sch.tk ?_
 refine Eng.Sch.tk ?_
 refine Eng.Sch.end_ [59, 60, 61, 62, 63, 64, 65, 66, 67, 68, 69, 70, 71, 72, 73, 74, 75, 76, 77, 78, 79, 80, 81, 82, 83, 84, 85, 86, 87, 88, 89, 90, 91, 92, 93, 94, 95, 96, 97, 98, 99, 100, 101, 102, 103, 104, 105, 106, 107, 108, 109, 110, 111, 112, 113, 114, 115, 116, 117, 118, 119, 120, 121, 122, 123, 124, 125, 126, 127, 128, 129, 130, 131, 132, 133, 134, 135, 136, 137, 138, 139, 140, 141, 142, 143, 144, 145, 146] HN.out (by kernel_rfl) (by kernel_rfl) ?_
 exact HP.out _ _ rfl HSt14.out
end Law18
end Go.Proofs.YtdpngmgaomghoaaGreat
