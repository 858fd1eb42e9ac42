/- Layer 18's statements: stores that nobody made. -/
import Derived.Test.YtdpngmgaomghoaaGreatL18q
namespace Go.Proofs.YtdpngmgaomghoaaGreat
open Tryz
set_option maxRecDepth 100000
set_option maxHeartbeats 4000000
open Go.RowKit
namespace Law18
open Name KeyP PackP SetP SetW SetF Delta Sto BagP Ref18
attribute [local go_sem] Eng.ev Eng.getO_cons Eng.getO_nil
structure N0 (P : World → Prop) (v : Value) (w : World) : Prop where
 p : P w
 n : NoS v w
structure NK (P : World → Prop) (v : Value) (bg : Nat) (w : World) : Prop where
 q : ∃ u, P u ∧ NoS v u ∧ Below u.heap.size u w ∧ u.heap.size ≤ bg
 g : Bk w bg #[.slice none 0 0, .slice none 0 0] TDl
abbrev Stays (P : World → Prop) : Prop := ∀ w w', P w → Below w.heap.size w w' → P w'
section
variable {P : World → Prop} {v : Value} {bg : Nat} {w w' : World}
theorem N0.pp (h : N0 P v w) (_ : Stays P) : P w := h.p
theorem NK.pp (h : NK P v bg w) (hP : Stays P) : P w := by obtain ⟨u, h1, -, h3, -⟩ := h.q; exact hP _ _ h1 h3
theorem NK.nn (h : NK P v bg w) : NoS v w := by obtain ⟨u, -, h2, h3, -⟩ := h.q; exact h2.below h3
theorem N0.below (h : N0 P v w) (hP : Stays P) (hb : Below w.heap.size w w') : N0 P v w' := ⟨hP _ _ h.p hb, h.n.below hb⟩
theorem N0.fr (h : N0 P v w) (hP : Stays P) (hf : Fr (fun _ => False) w w') : N0 P v w' := h.below hP (hf.below (Nat.le_refl _) (fun _ _ h => h))
theorem NK.below (h : NK P v bg w) (hb : Below w.heap.size w w') : NK P v bg w' := by
 obtain ⟨u, h1, h2, h3, h4⟩ := h.q
 exact ⟨⟨u, h1, h2, h3.trans (hb.mono h3.size), h4⟩, h.g.fr (Fr.of_below' hb (fun _ => False)) (fun _ _ h => h)⟩
theorem NK.fr (h : NK P v bg w) (hf : Fr (fun _ => False) w w') : NK P v bg w' := h.below (hf.below (Nat.le_refl _) (fun _ _ h => h))
theorem N0.nn (h : N0 P v w) : NoS v w := h.n
theorem N0.bl (h : N0 P v w) (hP : Stays P) (hb : Below w.heap.size w w') : N0 P v w' := h.below hP hb
theorem NK.bl (h : NK P v bg w) (_ : Stays P) (hb : Below w.heap.size w w') : NK P v bg w' := h.below hb
theorem N0.alloc (h : N0 P v w) : NK P v w.heap.size (w.alloc (.cells #[.slice none 0 0, .slice none 0 0] TDl)) :=
 ⟨⟨w, h.p, h.n, (Fr.alloc (fun _ => False) w _).below (Nat.le_refl _) (fun _ _ h => h), Nat.le_refl _⟩, Bk.new _ _ _⟩
theorem NK.store (h : NK P v bg w) : NK P v bg ((w.setCell ⟨bg, 0, none⟩ (.slice none 0 0)).setCell ⟨bg, 1, none⟩ (.slice none 0 0)) := by
 obtain ⟨u, h1, h2, h3, h4⟩ := h.q
 have hf3 : Fr (· = bg) w ((w.setCell ⟨bg, 0, none⟩ (.slice none 0 0)).setCell ⟨bg, 1, none⟩ (.slice none 0 0)) := (Fr.setCell w ⟨bg, 0, none⟩ _ (S := (· = bg)) rfl).trans (Fr.setCell _ ⟨bg, 1, none⟩ _ (S := (· = bg)) rfl) (fun _ _ h => h) (fun _ _ h => h)
 exact ⟨⟨u, h1, h2, h3.trans (hf3.below h3.size (fun k hk e => by omega)), h4⟩, (h.g.set 0 _).set 1 _⟩
end
abbrev Sees (P : World → Prop) (bl ol j : Nat) (v : Value) (b1 o1 k : Nat) (a : Ac) : Prop := ∀ w, P w → w.cell? ⟨bl, ol + j, none⟩ = some v ∧ w.cell? ⟨b1, o1 + k * 3, none⟩ = some (.int .i64 a.k) ∧ w.cell? ⟨b1, o1 + k * 3 + 1, none⟩ = some (.slice a.A a.L.length a.c) ∧ w.cell? ⟨b1, o1 + k * 3 + 1 + 1, none⟩ = some (.int .i64 a.n)
theorem pl16 {ops : Array Oper} (hops : Eng.fnOps Tryz.f11 16 = ops) (a0 : Act) (Q : Exit → Act → World → Prop) (P : World → Prop) (hP : Stays P) (w : World) (v : Value) (bl ol j b1 o1 k len c8 : Nat) (a : Ac) (hc : Sees P bl ol j v b1 o1 k a) (hj : j < 2) (hk : k < len) (_hlen : len ≤ 9223372036854775807) (hst : N0 P v w)
  (hn : a0.tmps.size = 229) (h_1 : a0.tmps.getD 1 undef = .slice (some ⟨b1, o1, none⟩) len c8) (h_7 : a0.tmps.getD 7 undef = .slice (some ⟨bl, ol, none⟩) 2 2) (h_8 : a0.tmps.getD 8 undef = .int .i64 k) (h_14 : a0.tmps.getD 14 undef = .int .i64 j)
  (hpost : ∀ (x : Nat → Value) (w' : World) (bg : Nat), x 15 = .pointer (some ⟨bg, 0, none⟩) → x 16 = .int .i64 10 → NK P v bg w' → Q .normal (Eng.setAll a0 [15, 16, 153, 154, 155, 156, 157, 158, 159, 160, 161, 162, 163, 164] x) w') :
  (Code.region 16 ops true).wp prog Q a0 w := by
 simp only [Eng.fnOps, Eng.regOps, Tryz.f11, Option.bind_some, Option.getD_some, Nat.reduceEqDiff, ↓reduceIte] at hops
 subst hops
 have q1 : (0 : Int) ≤ (k : Int) := by omega
 have q2 : decide ((k : Int) < (len : Int)) = true := by simp; omega
 have q3 : (0 : Int) ≤ (j : Int) := by omega
 have q4 : (j : Int) < 2 := by omega
 have HSt := Lib.hid (hst.fr hP (Fr.drew _ _))
 refine Eng.regionT (.take 0 (.take 1 (.take 2 (.take 3 (.take 4 (.take 5 (.take 6 (.take 7 (.alt 8 (.take 9 (.take 10 (.take 11 (.alt 12 (.alt 13 (.take 14 (.done)) (.stop)) (.stop))))) (.alt 12 (.alt 8 (.take 9 (.take 10 (.take 11 (.alt 13 (.take 14 (.done)) (.stop))))) (.stop)) (.stop))))))))))) (fun w' => w'.cell? ⟨bl, ol + j, none⟩ = some v ∧ w'.cell? ⟨b1, o1 + k * 3, none⟩ = some (.int .i64 a.k) ∧ w'.cell? ⟨b1, o1 + k * 3 + 1, none⟩ = some (.slice a.A a.L.length a.c) ∧ w'.cell? ⟨b1, o1 + k * 3 + 1 + 1, none⟩ = some (.int .i64 a.n)) (by kernel_rfl) 229 hn (by kernel_rfl) (by kernel_rfl) (by kernel_rfl) (⟨(hc _ (HSt.out.pp hP)).1, (hc _ (HSt.out.pp hP)).2.1, (hc _ (HSt.out.pp hP)).2.2.1, (hc _ (HSt.out.pp hP)).2.2.2⟩) (fun a b ha hb => ?_)
 subst ha
 have hb1 : b 1 = .slice (some ⟨b1, o1, none⟩) len c8 := (hb 1).symm.trans h_1
 have hb7 : b 7 = .slice (some ⟨bl, ol, none⟩) 2 2 := (hb 7).symm.trans h_7
 have hb8 : b 8 = .int .i64 k := (hb 8).symm.trans h_8
 have hb14 : b 14 = .int .i64 j := (hb 14).symm.trans h_14
 clear hb h_1 h_7 h_8 h_14
 have HP := Lib.hid hpost; have HN := Lib.hid hn
 clear hpost hn
 iterate 8 (refine Eng.TW.tk ?_)
 refine Eng.TW.both ?_ ?_
 ·refine Eng.TW.call rfl rfl (by decide) (by kernel_rfl) ?_ (do_no a HSt.out.nn) ?_
  ·go_simp
  rintro e w2 ⟨rfl, hb⟩
  have HSt2 := Lib.hid (HSt.out.bl hP hb)
  clear hb
  refine ⟨_, rfl, ⟨(hc _ (HSt2.out.pp hP)).1, (hc _ (HSt2.out.pp hP)).2.1, (hc _ (HSt2.out.pp hP)).2.2.1, (hc _ (HSt2.out.pp hP)).2.2.2⟩, ?_⟩
  iterate 3 (refine Eng.TW.tk ?_)
  refine Eng.TW.step rfl rfl (by decide) (by kernel_rfl) (by go_simp; first | done | with_reducible rfl | exact ⟨rfl, rfl⟩) (⟨(hc _ ((HSt2.out.alloc).pp hP)).1, (hc _ ((HSt2.out.alloc).pp hP)).2.1, (hc _ ((HSt2.out.alloc).pp hP)).2.2.1, (hc _ ((HSt2.out.alloc).pp hP)).2.2.2⟩) ?_
  have HSt3 := Lib.hid (HSt2.out.alloc)
  have hSS : (w2.alloc (.cells #[.slice none 0 0, .slice none 0 0] TDl)).cell? ⟨bl, ol + j, none⟩ = some v ∧ (w2.alloc (.cells #[.slice none 0 0, .slice none 0 0] TDl)).cell? ⟨b1, o1 + k * 3, none⟩ = some (.int .i64 a.k) ∧ (w2.alloc (.cells #[.slice none 0 0, .slice none 0 0] TDl)).cell? ⟨b1, o1 + k * 3 + 1, none⟩ = some (.slice a.A a.L.length a.c) ∧ (w2.alloc (.cells #[.slice none 0 0, .slice none 0 0] TDl)).cell? ⟨b1, o1 + k * 3 + 1 + 1, none⟩ = some (.int .i64 a.n) := ⟨(hc _ (HSt3.out.pp hP)).1, (hc _ (HSt3.out.pp hP)).2.1, (hc _ (HSt3.out.pp hP)).2.2.1, (hc _ (HSt3.out.pp hP)).2.2.2⟩
  have r0 := HSt3.out.g.cell 0
  have r1 := HSt3.out.g.cell 1
  have g0 := HSt3.out.g.free 0
  have g1 := HSt3.out.g.free 1
  simp only [List.getElem?_toArray, List.getElem?_cons_zero, List.getElem?_cons_succ] at r0 r1
  (try rw [show w.drew.heap.size = w.heap.size from rfl] at r0 r1 g0 g1)
  refine Eng.TW.step0 rfl rfl (by kernel_rfl) (by go_simp; first | done | with_reducible rfl | exact ⟨rfl, rfl⟩) (⟨(hc _ ((HSt3.out.store).pp hP)).1, (hc _ ((HSt3.out.store).pp hP)).2.1, (hc _ ((HSt3.out.store).pp hP)).2.2.1, (hc _ ((HSt3.out.store).pp hP)).2.2.2⟩) ?_
  have HSt4 := Lib.hid (HSt3.out.store)
  have hSS : (_ : World).cell? ⟨bl, ol + j, none⟩ = some v ∧ (_ : World).cell? ⟨b1, o1 + k * 3, none⟩ = some (.int .i64 a.k) ∧ (_ : World).cell? ⟨b1, o1 + k * 3 + 1, none⟩ = some (.slice a.A a.L.length a.c) ∧ (_ : World).cell? ⟨b1, o1 + k * 3 + 1 + 1, none⟩ = some (.int .i64 a.n) := ⟨(hc _ (HSt4.out.pp hP)).1, (hc _ (HSt4.out.pp hP)).2.1, (hc _ (HSt4.out.pp hP)).2.2.1, (hc _ (HSt4.out.pp hP)).2.2.2⟩
  refine Eng.TW.tk ?_
  refine Eng.TW.end_ [15, 16, 153, 154, 155, 156, 157, 158, 159, 160, 161, 162, 163, 164] HN.out (by kernel_rfl) (by kernel_rfl) ?_
  exact HP.out _ _ _ rfl rfl HSt4.out
 refine Eng.TW.step rfl rfl (by decide) (by kernel_rfl) (by go_simp; first | done | with_reducible rfl | exact ⟨rfl, rfl⟩) (⟨(hc _ ((HSt.out.alloc).pp hP)).1, (hc _ ((HSt.out.alloc).pp hP)).2.1, (hc _ ((HSt.out.alloc).pp hP)).2.2.1, (hc _ ((HSt.out.alloc).pp hP)).2.2.2⟩) ?_
 have HSt2 := Lib.hid (HSt.out.alloc)
 have hSS : (w.drew.alloc (.cells #[.slice none 0 0, .slice none 0 0] TDl)).cell? ⟨bl, ol + j, none⟩ = some v ∧ (w.drew.alloc (.cells #[.slice none 0 0, .slice none 0 0] TDl)).cell? ⟨b1, o1 + k * 3, none⟩ = some (.int .i64 a.k) ∧ (w.drew.alloc (.cells #[.slice none 0 0, .slice none 0 0] TDl)).cell? ⟨b1, o1 + k * 3 + 1, none⟩ = some (.slice a.A a.L.length a.c) ∧ (w.drew.alloc (.cells #[.slice none 0 0, .slice none 0 0] TDl)).cell? ⟨b1, o1 + k * 3 + 1 + 1, none⟩ = some (.int .i64 a.n) := ⟨(hc _ (HSt2.out.pp hP)).1, (hc _ (HSt2.out.pp hP)).2.1, (hc _ (HSt2.out.pp hP)).2.2.1, (hc _ (HSt2.out.pp hP)).2.2.2⟩
 refine Eng.TW.call rfl rfl (by decide) (by kernel_rfl) ?_ (do_no a HSt2.out.nn) ?_
 ·go_simp
 rintro e w3 ⟨rfl, hb⟩
 have HSt3 := Lib.hid (HSt2.out.bl hP hb)
 clear hb
 refine ⟨_, rfl, ⟨(hc _ (HSt3.out.pp hP)).1, (hc _ (HSt3.out.pp hP)).2.1, (hc _ (HSt3.out.pp hP)).2.2.1, (hc _ (HSt3.out.pp hP)).2.2.2⟩, ?_⟩
 iterate 3 (refine Eng.TW.tk ?_)
 have r0 := HSt3.out.g.cell 0
 have r1 := HSt3.out.g.cell 1
 have g0 := HSt3.out.g.free 0
 have g1 := HSt3.out.g.free 1
 simp only [List.getElem?_toArray, List.getElem?_cons_zero, List.getElem?_cons_succ] at r0 r1
 (try rw [show w.drew.heap.size = w.heap.size from rfl] at r0 r1 g0 g1)
 refine Eng.TW.step0 rfl rfl (by kernel_rfl) (by go_simp; first | done | with_reducible rfl | exact ⟨rfl, rfl⟩) (⟨(hc _ ((HSt3.out.store).pp hP)).1, (hc _ ((HSt3.out.store).pp hP)).2.1, (hc _ ((HSt3.out.store).pp hP)).2.2.1, (hc _ ((HSt3.out.store).pp hP)).2.2.2⟩) ?_
 have HSt4 := Lib.hid (HSt3.out.store)
 have hSS : (_ : World).cell? ⟨bl, ol + j, none⟩ = some v ∧ (_ : World).cell? ⟨b1, o1 + k * 3, none⟩ = some (.int .i64 a.k) ∧ (_ : World).cell? ⟨b1, o1 + k * 3 + 1, none⟩ = some (.slice a.A a.L.length a.c) ∧ (_ : World).cell? ⟨b1, o1 + k * 3 + 1 + 1, none⟩ = some (.int .i64 a.n) := ⟨(hc _ (HSt4.out.pp hP)).1, (hc _ (HSt4.out.pp hP)).2.1, (hc _ (HSt4.out.pp hP)).2.2.1, (hc _ (HSt4.out.pp hP)).2.2.2⟩
 refine Eng.TW.tk ?_
 refine Eng.TW.end_ [15, 16, 153, 154, 155, 156, 157, 158, 159, 160, 161, 162, 163, 164] HN.out (by kernel_rfl) (by kernel_rfl) ?_
 exact HP.out _ _ _ rfl rfl HSt4.out
theorem pl17 {ops : Array Oper} (hops : Eng.fnOps Tryz.f11 17 = ops) (a0 : Act) (Q : Exit → Act → World → Prop) (P : World → Prop) (hP : Stays P) (w : World) (v : Value) (bl ol j b1 o1 k len c8 : Nat) (a : Ac) (hc : Sees P bl ol j v b1 o1 k a) (hj : j < 2) (hk : k < len) (_hlen : len ≤ 9223372036854775807) (bg : Nat) (hst : NK P v bg w)
  (hn : a0.tmps.size = 229) (h_1 : a0.tmps.getD 1 undef = .slice (some ⟨b1, o1, none⟩) len c8) (h_7 : a0.tmps.getD 7 undef = .slice (some ⟨bl, ol, none⟩) 2 2) (h_8 : a0.tmps.getD 8 undef = .int .i64 k) (h_14 : a0.tmps.getD 14 undef = .int .i64 j) (h_15 : a0.tmps.getD 15 undef = .pointer (some ⟨bg, 0, none⟩)) (h_16 : a0.tmps.getD 16 undef = .int .i64 10)
  (hpost : ∀ (x : Nat → Value) (w' : World), x 227 = .bool false → P w' → Q .normal (Eng.setAll a0 [165, 166, 167, 168, 169, 170, 171, 172, 173, 174, 175, 176, 177, 178, 179, 180, 181, 182, 183, 184, 185, 186, 187, 188, 189, 190, 191, 192, 193, 194, 195, 196, 197, 198, 199, 200, 201, 202, 203, 204, 205, 206, 207, 208, 209, 210, 211, 212, 213, 214, 215, 216, 217, 218, 219, 220, 221, 222, 223, 224, 225, 226, 227] x) w') :
  (Code.region 17 ops true).wp prog Q a0 w := by
 simp only [Eng.fnOps, Eng.regOps, Tryz.f11, Option.bind_some, Option.getD_some, Nat.reduceEqDiff, ↓reduceIte] at hops
 subst hops
 have q1 : (0 : Int) ≤ (k : Int) := by omega
 have q2 : decide ((k : Int) < (len : Int)) = true := by simp; omega
 have q3 : (0 : Int) ≤ (j : Int) := by omega
 have q4 : (j : Int) < 2 := by omega
 have HSt := Lib.hid (hst.fr (Fr.drew _ _))
 refine Eng.regionN [(0, true), (1, true), (2, true), (3, true), (4, true), (5, true), (6, true), (7, true), (8, true), (9, true), (10, true), (11, true), (12, false), (13, true), (14, true), (15, true), (16, true), (17, true), (18, false), (19, true), (20, true), (21, true), (22, true), (23, true), (24, true), (25, true), (26, false), (27, true), (28, true), (29, true), (30, true), (31, true), (32, true), (33, true), (34, true), (35, false), (36, true), (37, true), (38, true), (39, true), (40, true), (41, true), (42, true), (43, true), (44, false), (45, true), (46, true), (47, true), (48, true), (49, true), (50, true), (51, true), (52, false), (53, true), (54, true), (55, true), (56, true), (57, true), (58, true), (59, true), (60, false), (61, true), (62, true)] (fun w' => w'.cell? ⟨bl, ol + j, none⟩ = some v ∧ w'.cell? ⟨b1, o1 + k * 3, none⟩ = some (.int .i64 a.k) ∧ w'.cell? ⟨b1, o1 + k * 3 + 1, none⟩ = some (.slice a.A a.L.length a.c) ∧ w'.cell? ⟨b1, o1 + k * 3 + 1 + 1, none⟩ = some (.int .i64 a.n) ∧ w'.cell? ⟨bg, 0, none⟩ = some (.slice none 0 0) ∧ w'.cell? ⟨bg, 1, none⟩ = some (.slice none 0 0)) (by kernel_rfl) 229 hn (by kernel_rfl) rfl (by kernel_rfl) (⟨(hc _ (HSt.out.pp hP)).1, (hc _ (HSt.out.pp hP)).2.1, (hc _ (HSt.out.pp hP)).2.2.1, (hc _ (HSt.out.pp hP)).2.2.2, HSt.out.g.cell 0, HSt.out.g.cell 1⟩) (fun a b ha hb => ?_)
 subst ha
 have hb1 : b 1 = .slice (some ⟨b1, o1, none⟩) len c8 := (hb 1).symm.trans h_1
 have hb7 : b 7 = .slice (some ⟨bl, ol, none⟩) 2 2 := (hb 7).symm.trans h_7
 have hb8 : b 8 = .int .i64 k := (hb 8).symm.trans h_8
 have hb14 : b 14 = .int .i64 j := (hb 14).symm.trans h_14
 have hb15 : b 15 = .pointer (some ⟨bg, 0, none⟩) := (hb 15).symm.trans h_15
 have hb16 : b 16 = .int .i64 10 := (hb 16).symm.trans h_16
 clear hb h_1 h_7 h_8 h_14 h_15 h_16
 have HP := Lib.hid hpost; have HN := Lib.hid hn
 clear hpost hn
 iterate 12 (refine Eng.Sch.tk ?_)
 refine Eng.Sch.call rfl rfl (by decide) (by kernel_rfl) ?_ (Can_no HSt.out.nn a.A a.L.length a.c) ?_
 ·go_simp
 rintro e w2 ⟨rfl, hf⟩
 have HSt1 := Lib.hid (HSt.out.fr hf)
 refine ⟨_, rfl, ⟨(hc _ (HSt1.out.pp hP)).1, (hc _ (HSt1.out.pp hP)).2.1, (hc _ (HSt1.out.pp hP)).2.2.1, (hc _ (HSt1.out.pp hP)).2.2.2, HSt1.out.g.cell 0, HSt1.out.g.cell 1⟩, ?_⟩
 iterate 5 (refine Eng.Sch.tk ?_)
 refine Eng.Sch.call rfl rfl (by decide) (by kernel_rfl) ?_ (SameDl.SameDT ⟨none, 0, [], none, 0, []⟩ ⟨none, 0, [], none, 0, []⟩ _ ⟨Ls.nil _, Ls.nil _⟩ ⟨Ls.nil _, Ls.nil _⟩ (by simp [SameDl.sameD])) ?_
 ·go_simp
 rintro e w3 ⟨rfl, hf2⟩
 have HSt2 := Lib.hid (HSt1.out.fr hf2)
 refine ⟨_, rfl, ⟨(hc _ (HSt2.out.pp hP)).1, (hc _ (HSt2.out.pp hP)).2.1, (hc _ (HSt2.out.pp hP)).2.2.1, (hc _ (HSt2.out.pp hP)).2.2.2, HSt2.out.g.cell 0, HSt2.out.g.cell 1⟩, ?_⟩
 iterate 7 (refine Eng.Sch.tk ?_)
 refine Eng.Sch.call rfl rfl (by decide) (by kernel_rfl) ?_ (All_no HSt2.out.nn) ?_
 ·go_simp
 rintro e w4 ⟨A9, c9, rfl, -, -, hb⟩
 have HSt3 := Lib.hid (HSt2.out.below hb)
 have hSS : w4.cell? ⟨bl, ol + j, none⟩ = some v ∧ w4.cell? ⟨b1, o1 + k * 3, none⟩ = some (.int .i64 a.k) ∧ w4.cell? ⟨b1, o1 + k * 3 + 1, none⟩ = some (.slice a.A a.L.length a.c) ∧ w4.cell? ⟨b1, o1 + k * 3 + 1 + 1, none⟩ = some (.int .i64 a.n) ∧ w4.cell? ⟨bg, 0, none⟩ = some (.slice none 0 0) ∧ w4.cell? ⟨bg, 1, none⟩ = some (.slice none 0 0) := ⟨(hc _ (HSt3.out.pp hP)).1, (hc _ (HSt3.out.pp hP)).2.1, (hc _ (HSt3.out.pp hP)).2.2.1, (hc _ (HSt3.out.pp hP)).2.2.2, HSt3.out.g.cell 0, HSt3.out.g.cell 1⟩
 refine ⟨_, rfl, hSS, ?_⟩
 iterate 8 (refine Eng.Sch.tk ?_)
 refine Eng.Sch.call rfl rfl (by decide) (by kernel_rfl) ?_ (Traces_no HSt3.out.nn) ?_
 ·go_simp
 rintro e w_4 ⟨rfl, rfl⟩
 refine ⟨_, rfl, hSS, ?_⟩
 iterate 8 (refine Eng.Sch.tk ?_)
 refine Eng.Sch.call rfl rfl (by decide) (by kernel_rfl) ?_ (Now_no HSt3.out.nn) ?_
 ·go_simp
 rintro e w_4 ⟨rfl, rfl⟩
 refine ⟨_, rfl, hSS, ?_⟩
 iterate 7 (refine Eng.Sch.tk ?_)
 refine Eng.Sch.call rfl rfl (by decide) (by kernel_rfl) ?_ (Horizon_no HSt3.out.nn) ?_
 ·go_simp
 rintro e w_4 ⟨rfl, rfl⟩
 refine ⟨_, rfl, hSS, ?_⟩
 iterate 7 (refine Eng.Sch.tk ?_)
 refine Eng.Sch.call rfl rfl (by decide) (by kernel_rfl) ?_ (Len_no HSt3.out.nn) ?_
 ·go_simp
 rintro e w_4 ⟨rfl, rfl⟩
 refine ⟨_, rfl, hSS, ?_⟩
 refine Eng.Sch.tk ?_
 refine Eng.Sch.tk ?_
 refine Eng.Sch.end_ [165, 166, 167, 168, 169, 170, 171, 172, 173, 174, 175, 176, 177, 178, 179, 180, 181, 182, 183, 184, 185, 186, 187, 188, 189, 190, 191, 192, 193, 194, 195, 196, 197, 198, 199, 200, 201, 202, 203, 204, 205, 206, 207, 208, 209, 210, 211, 212, 213, 214, 215, 216, 217, 218, 219, 220, 221, 222, 223, 224, 225, 226, 227] HN.out (by kernel_rfl) (by kernel_rfl) ?_
 exact HP.out _ _ rfl (HSt3.out.pp hP)
end Law18
end Go.Proofs.YtdpngmgaomghoaaGreat
