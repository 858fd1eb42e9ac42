/- Layer 22's statements: DredShifts: for every input the answer is true. -/
import Derived.Test.YtgfjpnpbkkadpaaGreatLaw22s
import Derived.Test.YtgfjpnpbkkadpaaGreatMov22
namespace Go.Proofs.YtgfjpnpbkkadpaaGreat
open Tryz
set_option maxRecDepth 100000
set_option maxHeartbeats 4000000
open Go.RowKit
namespace Law22
open KeyP PackP SetP SetW SetF Sli Delta KidsP Cls KdO Fst Drd Wrk
attribute [local go_sem] Eng.ev Eng.getO_cons Eng.getO_nil
open ClsF (AtP fdI)
theorem PlacesO {X : World} {B : Nat} {L : List Sn} {F : List Nat} (h : FB X B (L.map br) (pm (L.map br)) F) (sl : L.length ≤ 5000) (P : List Pq) (hP : L.map (plq L) = P) (n : Nat) (hn : P.length = n) : Calls prog 36 #[.pointer (some ⟨B, 0, none⟩)] X fun e w' => ∃ A1 c1, e = .returned (.slice A1 n c1) ∧ Pl_ w' X.heap.size A1 c1 n P ∧ Below X.heap.size X w' := by
 have hv : vals (pm (L.map br)) = P := by rw [pm_br]; unfold vals mp; rw [List.map_map, ← hP]; rfl
 refine (Places X h (by unfold pm mp; rw [List.length_map, List.length_map]; omega)).mono ?_
 rintro e w' ⟨A1, c1, rfl, h1, h2⟩
 rw [hv] at h1 ⊢
 rw [hn] at h1 ⊢
 exact ⟨A1, c1, rfl, ⟨h1, hn⟩, h2⟩
theorem Pl_.sl {w : World} {base : Nat} {A : Option Addr} {c n : Nat} {P : List Pq} (h : Pl_ w base A c n P) : Sl w 6 A n c (pcs P) := by
 obtain ⟨A', c', he, h3, -⟩ := Sl.of_own h.o
 cases he
 exact h3
theorem SameN {X : World} {A1 A2 : Option Addr} {c1 c2 n : Nat} {P : List Pq} (hn : P.length = n) (h1 : Sl X 6 A1 n c1 (pcs P)) (h2 : Sl X 6 A2 n c2 (pcs P)) : Calls prog 35 #[.slice A1 n c1, .slice A2 n c2] X fun e w' => e = .returned (.bool true) ∧ Fr (fun _ => False) X w' := by
 have := ClsF.SameP A1 A2 c1 c2 P P X n n hn hn h1 h2
 rwa [decide_eq_true rfl] at this
theorem dh17 {ops : Array Oper} (hops : Eng.fnOps Tryz.f7 17 = ops) (a0 : Act) (Q : Exit → Act → World → Prop) (w0 w : World) (Bs : Nat) (A1 : Option Addr) (c1 : Nat) (O : List Pq) (b3 o3 n2 c3 k : Nat) (s : Pq) (j : Int) (hk : k < n2) (hn2 : n2 ≤ 100000) (hO : Sl w0 6 A1 O.length c1 (pcs O)) (hs : AtP w0 b3 (o3 + k * 6) s) (hj : fdI O s.t s.i = j) (hst : Ref22.MR w0 w Bs #[.slice A1 O.length c1, .slice (some ⟨b3, o3, none⟩) n2 c3])
  (hn : a0.tmps.size = 99) (h_8 : a0.tmps.getD 8 undef = .pointer (some ⟨Bs, 0, none⟩)) (h_13 : a0.tmps.getD 13 undef = .int .i64 (k : Int))
  (hpost : ∀ (x_ : Nat → Value) (w' : World), x_ 14 = .int .i64 j → Fr (fun _ => False) w0 w' → Q .normal (Eng.setAll a0 [14, 64, 65, 66, 67, 68, 69, 70, 71, 72, 73, 74, 75, 76, 77, 78] x_) w') :
  (Code.region 17 ops true).wp prog Q a0 w := by
 simp only [Eng.fnOps, Eng.regOps, Tryz.f7, Option.bind_some, Option.getD_some, Nat.reduceEqDiff, ↓reduceIte, Nat.reduceBEq] at hops
 subst hops
 have q1 : (0 : Int) ≤ (k : Int) := by omega
 have q2 : (k : Int) < (n2 : Int) := by omega
 have HSt := Lib.hid (hst.fr (Fr.drew _ _))
 refine Eng.regionT (.take 0 (.take 1 (.take 2 (.take 3 (.take 4 (.take 5 (.take 6 (.take 7 (.take 8 (.take 9 (.take 10 (.take 11 (.take 12 (.take 13 (.alt 14 (.take 15 (.done)) (.stop)))))))))))))))) (fun w' => w'.cell? ⟨Bs, 0, none⟩ = some (.slice A1 O.length c1) ∧ w'.cell? ⟨Bs, 1, none⟩ = some (.slice (some ⟨b3, o3, none⟩) n2 c3) ∧ w'.cell? ⟨b3, o3 + k * 6, none⟩ = some (.int .i64 s.t) ∧ w'.cell? ⟨b3, o3 + k * 6 + 1, none⟩ = some (.int .i64 s.i)) (by kernel_rfl) 99 hn (by kernel_rfl) (by kernel_rfl) (by kernel_rfl) (⟨HSt.out.bk.cell 0, HSt.out.bk.cell 1, (HSt.out.at_ hs) 0 _ rfl, (HSt.out.at_ hs) 1 _ rfl⟩) (fun a b ha hb => ?_)
 subst ha
 have hb8 : b 8 = .pointer (some ⟨Bs, 0, none⟩) := (hb 8).symm.trans h_8
 have hb13 : b 13 = .int .i64 (k : Int) := (hb 13).symm.trans h_13
 clear hb h_8 h_13
 have HP := Lib.hid hpost; have HN := Lib.hid hn
 clear hpost hn
 iterate 14 (refine Eng.TW.tk ?_)
 refine Eng.TW.call rfl rfl (by decide) (by kernel_rfl) ?_ (ClsF.FindP A1 c1 O s.t s.i w.drew (hO.fr HSt.out.r (fun _ _ h => h))) ?_
 ·go_simp
 rintro e w2 ⟨rfl, hf1⟩
 rw [hj]
 have HSt2 := Lib.hid (HSt.out.fr hf1)
 clear hf1
 refine ⟨_, rfl, ⟨HSt2.out.bk.cell 0, HSt2.out.bk.cell 1, (HSt2.out.at_ hs) 0 _ rfl, (HSt2.out.at_ hs) 1 _ rfl⟩, ?_⟩
 refine Eng.TW.tk ?_
 refine Eng.TW.end_ [14, 64, 65, 66, 67, 68, 69, 70, 71, 72, 73, 74, 75, 76, 77, 78] HN.out (by kernel_rfl) (by kernel_rfl) ?_
 exact HP.out _ _ rfl HSt2.out.r
theorem dh18 {ops : Array Oper} (hops : Eng.fnOps Tryz.f7 18 = ops) (a0 : Act) (Q : Exit → Act → World → Prop) (w0 w : World) (Bs : Nat) (b2 o2 n1 c1 : Nat) (b3 o3 n2 c3 k j : Nat) (s z : Pq) (hk : k < n2) (hn2 : n2 ≤ 100000) (hj : j < n1) (hn1 : n1 ≤ 100000) (hs : AtP w0 b3 (o3 + k * 6) s) (hz : AtP w0 b2 (o2 + j * 6) z) (hst : Ref22.MR w0 w Bs #[.slice (some ⟨b2, o2, none⟩) n1 c1, .slice (some ⟨b3, o3, none⟩) n2 c3])
  (hn : a0.tmps.size = 99) (h_8 : a0.tmps.getD 8 undef = .pointer (some ⟨Bs, 0, none⟩)) (h_13 : a0.tmps.getD 13 undef = .int .i64 (k : Int)) (h_14 : a0.tmps.getD 14 undef = .int .i64 (j : Int))
  (hpost : ∀ (x_ : Nat → Value) (w' : World), x_ 93 = .bool (eqP z s) → Fr (fun _ => False) w0 w' → Q .normal (Eng.setAll a0 [79, 80, 81, 82, 83, 84, 85, 86, 87, 88, 89, 90, 91, 92, 93] x_) w') :
  (Code.region 18 ops true).wp prog Q a0 w := by
 simp only [Eng.fnOps, Eng.regOps, Tryz.f7, Option.bind_some, Option.getD_some, Nat.reduceEqDiff, ↓reduceIte, Nat.reduceBEq] at hops
 subst hops
 have q1 : (0 : Int) ≤ (k : Int) := by omega
 have q2 : (k : Int) < (n2 : Int) := by omega
 have q3 : (0 : Int) ≤ (j : Int) := by omega
 have q4 : (j : Int) < (n1 : Int) := by omega
 have q5 : decide ((j : Int) ≥ 0) = true := decide_eq_true q3
 have q6 : decide ((0 : Int) ≤ (j : Int)) = true := decide_eq_true q3
 have hq := fun W : World => eql_pc z.t z.i z.c z.d z.p z.f s.t s.i s.c s.d s.p s.f W
 have HSt := Lib.hid (hst.fr (Fr.drew _ _))
 refine Eng.regionN [(0, true), (1, true), (2, true), (3, true), (4, true), (5, true), (6, true), (7, true), (8, true), (9, true), (10, true), (11, true), (12, true), (13, true), (14, true)] (fun w' => w'.cell? ⟨Bs, 0, none⟩ = some (.slice (some ⟨b2, o2, none⟩) n1 c1) ∧ w'.cell? ⟨Bs, 1, none⟩ = some (.slice (some ⟨b3, o3, none⟩) n2 c3) ∧ w'.cell? ⟨b2, o2 + j * 6, none⟩ = some (.int .i64 z.t) ∧ w'.cell? ⟨b2, o2 + j * 6 + 1, none⟩ = some (.int .i64 z.i) ∧ w'.cell? ⟨b2, o2 + j * 6 + 1 + 1, none⟩ = some (.int .i64 z.c) ∧ w'.cell? ⟨b2, o2 + j * 6 + 1 + 1 + 1, none⟩ = some (.int .i64 z.d) ∧ w'.cell? ⟨b2, o2 + j * 6 + 1 + 1 + 1 + 1, none⟩ = some (.int .i64 z.p) ∧ w'.cell? ⟨b2, o2 + j * 6 + 1 + 1 + 1 + 1 + 1, none⟩ = some (.int .i64 z.f) ∧ w'.cell? ⟨b3, o3 + k * 6, none⟩ = some (.int .i64 s.t) ∧ w'.cell? ⟨b3, o3 + k * 6 + 1, none⟩ = some (.int .i64 s.i) ∧ w'.cell? ⟨b3, o3 + k * 6 + 1 + 1, none⟩ = some (.int .i64 s.c) ∧ w'.cell? ⟨b3, o3 + k * 6 + 1 + 1 + 1, none⟩ = some (.int .i64 s.d) ∧ w'.cell? ⟨b3, o3 + k * 6 + 1 + 1 + 1 + 1, none⟩ = some (.int .i64 s.p) ∧ w'.cell? ⟨b3, o3 + k * 6 + 1 + 1 + 1 + 1 + 1, none⟩ = some (.int .i64 s.f)) (by kernel_rfl) 99 hn (by kernel_rfl) rfl (by kernel_rfl) (⟨HSt.out.bk.cell 0, HSt.out.bk.cell 1, (HSt.out.at_ hz) 0 _ rfl, (HSt.out.at_ hz) 1 _ rfl, (HSt.out.at_ hz) 2 _ rfl, (HSt.out.at_ hz) 3 _ rfl, (HSt.out.at_ hz) 4 _ rfl, (HSt.out.at_ hz) 5 _ rfl, (HSt.out.at_ hs) 0 _ rfl, (HSt.out.at_ hs) 1 _ rfl, (HSt.out.at_ hs) 2 _ rfl, (HSt.out.at_ hs) 3 _ rfl, (HSt.out.at_ hs) 4 _ rfl, (HSt.out.at_ hs) 5 _ rfl⟩) (fun a b ha hb => ?_)
 subst ha
 have hb8 : b 8 = .pointer (some ⟨Bs, 0, none⟩) := (hb 8).symm.trans h_8
 have hb13 : b 13 = .int .i64 (k : Int) := (hb 13).symm.trans h_13
 have hb14 : b 14 = .int .i64 (j : Int) := (hb 14).symm.trans h_14
 clear hb h_8 h_13 h_14
 have HP := Lib.hid hpost; have HN := Lib.hid hn
 clear hpost hn
 iterate 15 (refine Eng.Sch.tk ?_)
 refine Eng.Sch.end_ [79, 80, 81, 82, 83, 84, 85, 86, 87, 88, 89, 90, 91, 92, 93] HN.out (by kernel_rfl) (by kernel_rfl) ?_
 exact HP.out _ _ rfl HSt.out.r
theorem dh18f {ops : Array Oper} (hops : Eng.fnOps Tryz.f7 18 = ops) (a0 : Act) (Q : Exit → Act → World → Prop) (w : World)
  (hn : a0.tmps.size = 99) (h_14 : a0.tmps.getD 14 undef = .int .i64 (-1))
  (hpost : ∀ (x_ : Nat → Value) (w' : World), x_ 93 = .bool false → Fr (fun _ => False) w w' → Q .normal (Eng.setAll a0 [79, 80, 81, 82, 83, 84, 85, 86, 87, 88, 89, 90, 91, 92, 93] x_) w') :
  (Code.region 18 ops true).wp prog Q a0 w := by
 simp only [Eng.fnOps, Eng.regOps, Tryz.f7, Option.bind_some, Option.getD_some, Nat.reduceEqDiff, ↓reduceIte, Nat.reduceBEq] at hops
 subst hops
 have HSt := Lib.hid (Lib.hid (Fr.drew (fun _ => False) w))
 refine Eng.regionN [(0, true), (1, true), (2, true), (3, true), (4, true), (5, true), (6, true), (7, true), (8, true), (9, true), (10, true), (11, true), (12, true), (13, true), (14, true)] (fun w' => True) (by kernel_rfl) 99 hn (by kernel_rfl) rfl (by kernel_rfl) (trivial) (fun a b ha hb => ?_)
 subst ha
 have hb14 : b 14 = .int .i64 (-1) := (hb 14).symm.trans h_14
 clear hb h_14
 have HP := Lib.hid hpost; have HN := Lib.hid hn
 clear hpost hn
 iterate 3 (refine Eng.Sch.tk ?_)
 iterate 11 (refine Eng.Sch.skip rfl rfl (by decide) (by kernel_rfl) ?_)
 refine Eng.Sch.tk ?_
 refine Eng.Sch.end_ [79, 80, 81, 82, 83, 84, 85, 86, 87, 88, 89, 90, 91, 92, 93] HN.out (by kernel_rfl) (by kernel_rfl) ?_
 exact HP.out _ _ rfl HSt.out.out
theorem dh18c {ops : Array Oper} (hops : Eng.fnOps Tryz.f7 18 = ops) (a0 : Act) (Q : Exit → Act → World → Prop) (w0 w : World) (Bs : Nat) (A1 : Option Addr) (c1 : Nat) (O : List Pq) (b3 o3 n2 c3 k : Nat) (s : Pq) (hk : k < n2) (hn2 : n2 ≤ 100000) (hn1 : O.length ≤ 100000) (hO : Sl w0 6 A1 O.length c1 (pcs O)) (hs : AtP w0 b3 (o3 + k * 6) s) (hno : s ∉ O) (hst : Ref22.MR w0 w Bs #[.slice A1 O.length c1, .slice (some ⟨b3, o3, none⟩) n2 c3])
  (hn : a0.tmps.size = 99) (h_8 : a0.tmps.getD 8 undef = .pointer (some ⟨Bs, 0, none⟩)) (h_13 : a0.tmps.getD 13 undef = .int .i64 (k : Int)) (h_14 : a0.tmps.getD 14 undef = .int .i64 (fdI O s.t s.i))
  (hpost : ∀ (x_ : Nat → Value) (w' : World), x_ 93 = .bool false → Fr (fun _ => False) w0 w' → Q .normal (Eng.setAll a0 [79, 80, 81, 82, 83, 84, 85, 86, 87, 88, 89, 90, 91, 92, 93] x_) w') :
  (Code.region 18 ops true).wp prog Q a0 w := by
 rcases Ref22.fd_spec O s with ⟨ej, -⟩ | ⟨j, hj, ej, -⟩
 ·rw [ej] at h_14
  exact dh18f hops a0 Q w hn h_14 (fun x_ w' hx hf => hpost x_ w' hx (hst.r.trans hf (fun _ _ h => h) (fun _ _ h => h)))
 ·rw [ej] at h_14
  obtain ⟨b2, o2, rfl, -, cc⟩ := hO.at hj (by omega)
  refine dh18 hops a0 Q w0 w Bs b2 o2 O.length c1 b3 o3 n2 c3 k j s O[j] hk hn2 hj hn1 hs (AtP.row cc hj) hst hn h_8 h_13 h_14 (fun x_ w' hx hf => hpost x_ w' ?_ hf)
  rw [hx]
  cases hq : eqP O[j] s with
  | false => rfl
  | true => exact absurd (by rw [← eqP_iff.1 hq]; exact List.getElem_mem hj) hno
theorem shifts (A0 : Option Addr) (c0 : Nat) (l : List Lv) (w : World) (h : LL w A0 c0 l) : Calls prog 7 #[.slice A0 l.length c0] w fun e w' => e = .returned (.bool true) ∧ Below w.heap.size w w' := by
 have HL := Lib.hid h
 clear h
 go_enter func7, ntmps7
 go_wp2_with fail
 refine (few A0 c0 l w HL.out).mono ?_
 rintro e w1 ⟨rfl, hf⟩
 have HB := Lib.hid (hf.below (Nat.le_refl _) (fun _ _ h => h))
 have HL1 := Lib.hid (HL.out.keep hf)
 clear hf HL
 cases hq : fewL l with
 | false =>
  clear hq
  go_wp2_with fail
  refine (awake w1).mono ?_
  rintro e w2 ⟨rfl, hb⟩
  replace HB := Lib.hid (HB.out.trans (hb.mono HB.out.size))
  clear hb
  go_wp2_with fail
  go_ret
  exact ⟨rfl, HB.out⟩
 | true =>
  obtain ⟨hl8, hl20⟩ := fewL_len hq
  have HL20 := Lib.hid hl20
  clear hq hl20
  go_upto_region 4 with (fail)
  have hfv := Fv.new w1
  have HB2 := Lib.hid (HB.out.trans (hfv.b.mono HB.out.size))
  have HF2 := Lib.hid hfv.f
  have HL2 := Lib.hid (HL1.out.below (hfv.b))
  have hz2 : (w1.alloc (.cells #[.pointer none, .int .i64 0, .pointer none, .int .i64 0, .pointer none, .int .i64 0] KdO.TX)).heap.size = w1.heap.size + 1 := by simp
  have HZ1 := Lib.hid HB.out.size
  clear hfv HB HL1
  generalize (w1.alloc (.cells #[.pointer none, .int .i64 0, .pointer none, .int .i64 0, .pointer none, .int .i64 0] KdO.TX)) = w2 at *
  obtain ⟨B, hB⟩ : ∃ B, w1.heap.size = B := ⟨_, rfl⟩
  rw [hB] at HF2 hz2 HZ1 ⊢
  have HZ2 := Lib.hid hz2
  clear hB hz2
  go_wp2_with fail
  refine (sets A0 c0 l w2 HL2.out (by omega) (fun x hx => Nat.le_trans (HL20.out x hx) (by omega))).mono ?_
  rintro e w3 ⟨A1, c1, m, rfl, h1, h2, h3, h4, h5⟩
  have hml : m.length = l.length := by have := congrArg List.length h2; simpa using this
  have HM := Lib.hid (LB.of (B := B) h1 h2 HL20.out h3 h4 (by have := HZ2.out; omega))
  have HB3 := Lib.hid (HB2.out.trans (h5.mono HB2.out.size))
  have HF3 : Hid (FL_ w3 w3 B ⟨none, 0, []⟩ [B]) := ⟨⟨HF2.out.fr (Fr.of_below' h5 (fun _ => False)) (fun _ _ h => h), Fr.refl _ _, by simp⟩, Ls.nil _, by simp, As.nil, by simp⟩
  have HBw : Hid (w.heap.size ≤ B) := HZ1.out
  have hm8 : m.length ≤ 8 := by rw [hml]; exact hl8
  clear hml h1 h2 h3 h4 h5 HB2 HF2 HL2 HZ1 HZ2 HL20
  have HW3 : Hid (B < w3.heap.size) := HF3.out.f.f.lt B (by simp)
  go_wp2_with fail
  go_loopg [5, 6] m.length (fun gk v i wr => ∃ (k : Nat) (p : Lv) (F : List Nat), i = .int .i64 k ∧ k ≤ m.length ∧ gk = m.length - k ∧ v = .slice p.A p.L.length p.c ∧ FL_ w3 wr B p F)
  case atStart => exact ⟨0, ⟨none, 0, []⟩, [B], rfl, Nat.zero_le _, rfl, rfl, HF3.out⟩
  case round =>
   clear HF3
   obtain ⟨k, p, F, rfl, hk, hg, rfl, hfl⟩ := hrel
   have HG := Lib.hid hg; have HFL := Lib.hid hfl
   clear hg hfl
   by_cases hlt : k < m.length
   ·have q1 : decide ((k : Int) < (m.length : Int)) = true := by simp; omega
    obtain ⟨b1, o1, rfl, hb1, c1'⟩ := HM.out.s.at hlt (by omega)
    have HE3 : Hid (w3.cell? ⟨b1, o1 + k, none⟩ = some (.slice m[k].A m[k].L.length m[k].c)) := c1' k _ (lv_at hlt)
    have hbB : b1 ≠ B := HM.out.n ⟨b1, o1, none⟩ rfl
    have HX3 := Lib.hid (HM.out.r _ (List.getElem_mem hlt))
    have HXn := Lib.hid (HM.out.k _ (List.getElem_mem hlt))
    have HXa := Lib.hid (HM.out.a _ (List.getElem_mem hlt))
    have HCl : Hid (∀ {X : World}, Fr (fun b => b = B) w3 X → X.cell? ⟨b1, o1 + k, none⟩ = some (.slice m[k].A m[k].L.length m[k].c)) := fun hf => (World.cell?_of_block (w := w3) (a := ⟨b1, o1 + k, none⟩) (hf.block b1 hb1 (fun e => hbB e))).trans HE3.out
    clear c1' hb1 hbB HE3
    generalize m[k] = x at *
    have e0 := HCl.out HFL.out.f.r
    have HX := Lib.hid (HX3.out.fr HFL.out.f.r (fun a ha e => HXn.out a ha e))
    have q2 : (0 : Int) ≤ (k : Int) := by omega
    have q3 : (k : Int) < (m.length : Int) := by omega
    have hpl := HFL.out.l
    have hxl := HXa.out.2
    have HAs := Lib.hid HFL.out.s
    have HGp := Lib.hid (Ls.gd HFL.out.q)
    have HFO := Lib.hid HFL.out.f
    have HP := Lib.hid HFL.out.ls
    have HFw : Hid (∀ b ∈ F, b < wr.heap.size) := fun b hb => HFL.out.f.f.lt b hb
    obtain ⟨PB, hPB⟩ : ∃ PB, p.L.map (plq p.L) = PB := ⟨_, rfl⟩
    obtain ⟨PX, hPX⟩ : ∃ PX, x.L.map (plq x.L) = PX := ⟨_, rfl⟩
    have HPB := Lib.hid hPB; have HPX := Lib.hid hPX
    clear e0 HFL hPB hPX
    go_wp2_with fail
    refine (PlacesO HFO.out.f (by omega) PB HPB.out _ rfl).mono ?_
    rintro e w4 ⟨A1', c1', rfl, hp4, hb⟩
    have hf4 := Fr.of_below' hb (fun _ => False)
    have HF4 := Lib.hid (HFO.out.keep hf4)
    have HP4 := Lib.hid (HP.out.keep hf4); have HX4 := Lib.hid (HX.out.keep hf4)
    have HPl := Lib.hid hp4
    have HS4 := Lib.hid hb.size
    have e4 := HCl.out HF4.out.r
    clear hp4 hb hf4 HFO HP HX
    go_wp2_with fail
    refine (BetweenN p.A x.A p.c x.c p.L x.L w4 HP4.out HX4.out (by omega) (by omega)).mono ?_
    rw [HAs.out.ok.set, HXa.out.1.ok.set]
    rintro e w5 ⟨D1, d1, D2, d2, rfl, hd, hb, hn1, hn2⟩
    have hf5 := Fr.of_below' hb (fun _ => False)
    have hFO := HF4.out
    have hap : ApD ⟨D1, d1, wout x.L p.L, D2, d2, wout p.L x.L⟩ F := apD_new (lo := w4.heap.size) (fun b hb => hFO.f.lt b hb) (fun _ a ha => hn1 a ha) (fun _ a ha => hn2 a ha)
    have HAp := Lib.hid (ApplyF (hFO.keep hf5) HAs.out HXa.out.1 HGp.out (Ls.gd HX3.out) (by omega) (by omega) hd hap)
    have HPl5 := Lib.hid (HPl.out.keep hf5)
    clear hd hb hn1 hn2 hFO hap hf5 e4 HF4 HP4 HX4 HPl HS4
    go_wp2_with fail
    refine HAp.out.mono ?_
    rintro e w6 ⟨A3, c3, A4, c4, N, F', rfl, g1, ht, p1, p2, p3, p4, -, -⟩
    have hfa := Fr.alloc (fun _ => False) w6 (.cells #[.slice A3 (mvd p.L x.L).length c3, .slice A4 (mvd x.L p.L).length c4] TSh)
    have HF7 := Lib.hid (g1.keep hfa)
    have HB7 := Lib.hid (((HPl5.out.turn ht (fun b hb hm => by have := (ownsRow_blk HPl5.out.o b hb).1; have := HFw.out b hm; omega)).keep hfa).sl)
    have HO7 := Lib.hid ((p1.keep hfa).sl); have HI7 := Lib.hid ((p2.keep hfa).sl)
    have HBk := Lib.hid (Bk.new w6 #[.slice A3 (mvd p.L x.L).length c3, .slice A4 (mvd x.L p.L).length c4] TSh)
    have HBn : Hid (w6.heap.size ∉ F') := fun hm => by have := g1.f.lt _ hm; omega
    clear g1 ht p1 p2 p3 p4 hfa HAp HPl5 HFw
    go_upto_region 11 with (fail)
    generalize (w6.alloc (.cells #[.slice A3 (mvd p.L x.L).length c3, .slice A4 (mvd x.L p.L).length c4] TSh)) = w7 at *
    have hlo : (mvd p.L x.L).length ≤ 900 := by unfold mvd; rw [List.length_map]; exact Nat.le_trans (List.length_filter_le _ _) hpl
    have hli : (mvd x.L p.L).length ≤ 900 := by unfold mvd; rw [List.length_map]; exact Nat.le_trans (List.length_filter_le _ _) hxl
    have hlp : PB.length ≤ 900 := by rw [← HPB.out, List.length_map]; exact hpl
    have hm1 := mvp HAs.out.ok.srs HXa.out.1.ok.srs; have hm2 := mv_left HAs.out.ok.srs HXa.out.1.ok.srs; have hm3 := mv_end HAs.out.ok.srs HXa.out.1.ok.srs
    rw [HPB.out] at hm1 hm2 hm3
    rw [HPX.out] at hm3
    have HMv := Lib.hid (Ref22.Move w7 hm1 rfl rfl rfl hm2 hm3 rfl HB7.out HO7.out HI7.out (by omega) (by omega) (by omega))
    clear hm1 hm2 hm3
    have HNo : Hid (∀ s ∈ mvd x.L p.L, s ∉ mvd p.L x.L) := fun s hs hm => ((mvd_mem HAs.out.ok.srs).1 hs).2 ((mvd_mem HXa.out.1.ok.srs).1 hm).1
    have z0 := HBk.out.cell 0; have z1 := HBk.out.cell 1
    simp only [List.getElem?_toArray, List.getElem?_cons_zero, List.getElem?_cons_succ] at z0 z1
    generalize mvd p.L x.L = O at *
    generalize mvd x.L p.L = I at *
    clear HAs HGp HB7
    go_wp2_with fail
    refine HMv.out.mono ?_
    rintro e w8 ⟨A5, c5, rfl, hn8, hf8⟩
    have HF8 := Lib.hid (HF7.out.keep hf8)
    have HO8 := Lib.hid (HO7.out.fr hf8 (fun _ _ h => h)); have HI8 := Lib.hid (HI7.out.fr hf8 (fun _ _ h => h)); have HBk8 := Lib.hid (HBk.out.fr hf8 (fun _ _ h => h))
    have HN8 := Lib.hid hn8
    clear hn8 hf8 HMv HF7 HO7 HI7 HBk z0 z1
    go_wp2_with fail
    refine (PlacesF HF8.out.f (by omega) PX HPX.out _ rfl).mono ?_
    rintro e w8b ⟨A6, c6, rfl, hs6, hf6⟩
    have HSm := Lib.hid (SameN rfl (HN8.out.fr hf6 (fun _ _ h => h)) hs6)
    have HF6 := Lib.hid hf6
    clear hs6 hf6
    go_wp2_with fail
    refine HSm.out.mono ?_
    rintro e w9 ⟨rfl, hf7⟩
    have hf9 := HF6.out.trans hf7 (T := fun _ => False) (fun _ _ h => h) (fun _ _ h => h)
    have HF9 : Hid (FL_ w3 w9 B x F') := ⟨HF8.out.keep hf9, HX3.out, HXn.out, HXa.out.1, hxl⟩
    have HO9 := Lib.hid (HO8.out.fr hf9 (fun _ _ h => h)); have HI9 := Lib.hid (HI8.out.fr hf9 (fun _ _ h => h)); have HBk9 := Lib.hid (HBk8.out.fr hf9 (fun _ _ h => h))
    clear hf9 hf7 HF6 HSm HF8 HO8 HI8 HBk8 HN8 hlp
    go_wp2_with fail
    clear q1 q2 q3
    go_loopg [13] I.length (fun gk i wq => ∃ q : Nat, i = .int .i64 q ∧ q ≤ I.length ∧ gk = I.length - q ∧ Fr (fun _ => False) w9 wq)
    case atStart => exact ⟨0, rfl, Nat.zero_le _, rfl, Fr.refl _ _⟩
    case round =>
     obtain ⟨q, rfl, hq, hg, hf⟩ := hrel
     have HGq := Lib.hid hg; have HFq := Lib.hid hf
     have HBq := Lib.hid (HBk9.out.fr hf (fun _ _ h => h))
     have z1 := HBq.out.cell 1
     simp only [List.getElem?_toArray, List.getElem?_cons_zero, List.getElem?_cons_succ] at z1
     clear hg
     by_cases hlq : q < I.length
     ·have q1 : decide ((q : Int) < (I.length : Int)) = true := by simp; omega
      obtain ⟨b3, o3, rfl, -, cc3⟩ := (HI9.out.fr hf (fun _ _ h => h)).at hlq (by omega)
      have HS := Lib.hid (AtP.row cc3 hlq)
      have HOq := Lib.hid (HO9.out.fr hf (fun _ _ h => h))
      have HNs := Lib.hid (HNo.out _ (List.getElem_mem hlq))
      have qk : IntKind.i64.wrap ((q : Int) + 1) = (q : Int) + 1 := by rw [IntKind.wrap_i64]; omega
      clear cc3 hf
      generalize I[q] = s at *
      go_upto_region 17 with (fail)
      refine dh17 (by kernel_rfl) _ _ wr wr w6.heap.size A3 c3 O b3 o3 I.length c4 q s _ hlq (by omega) HOq.out HS.out rfl ⟨Fr.refl _ _, HBq.out⟩ rfl rfl rfl ?_
      intro x_ w10 hx14 hf10
      simp only [Eng.setAll, Act.put, List.setIfInBounds_toArray, List.set_cons_succ, List.set_cons_zero, hx14]
      have HF10 := Lib.hid (HFq.out.trans hf10 (T := fun _ => False) (fun _ _ h => h) (fun _ _ h => h))
      have HOr := Lib.hid (HOq.out.fr hf10 (fun _ _ h => h)); have HSr := Lib.hid (HS.out.keep hf10); have HBr := Lib.hid (HBq.out.fr hf10 (fun _ _ h => h))
      clear hx14 hf10 HFq HOq HS HBq z1
      go_upto_region 18 with (fail)
      refine dh18c (by kernel_rfl) _ _ w10 w10 w6.heap.size A3 c3 O b3 o3 I.length c4 q s hlq (by omega) (by omega) HOr.out HSr.out HNs.out ⟨Fr.refl _ _, HBr.out⟩ rfl rfl rfl rfl ?_
      intro x_ w11 hx93 hf11
      simp only [Eng.setAll, Act.put, List.setIfInBounds_toArray, List.set_cons_succ, List.set_cons_zero, hx93]
      have HF11 := Lib.hid (HF10.out.trans hf11 (T := fun _ => False) (fun _ _ h => h) (fun _ _ h => h))
      clear hx93 hf11 HF10 HOr HSr HBr
      go_wp2_with fail
      go_roundg (I.length - (q + 1))
      case rel => exact ⟨q + 1, by go_num, by omega, rfl, HF11.out⟩
      case measure => have := HGq.out; omega
     ·have hqe : q = I.length := by omega
      subst hqe
      have q1 : decide ((I.length : Int) < (I.length : Int)) = false := by simp
      have HF12 : Hid (FL_ w3 wr B x F') := ⟨HF9.out.f.keep hf, HX3.out, HXn.out, HXa.out.1, hxl⟩
      have e7 := HCl.out HF12.out.f.r
      have q2 : (0 : Int) ≤ (k : Int) := by omega
      have q3 : (k : Int) < (m.length : Int) := by omega
      have qk : IntKind.i64.wrap ((k : Int) + 1) = (k : Int) + 1 := by rw [IntKind.wrap_i64]; omega
      clear hf HF9 HO9 HI9 HBk9
      go_wp2_with fail
      go_roundg (m.length - (k + 1))
      case rel => exact ⟨k + 1, x, F', by go_num, by omega, rfl, rfl, HF12.out⟩
      case measure => have := HG.out; omega
   ·have hke : k = m.length := by omega
    subst hke
    have q1 : decide ((m.length : Int) < (m.length : Int)) = false := by simp
    have HBr : Hid (Below w.heap.size w wr) := HB3.out.trans (HFL.out.f.r.below HB3.out.size (fun b hb e => by have := HBw.out; omega))
    clear HFL
    go_wp2_with fail
    refine (awake wr).mono ?_
    rintro e w9 ⟨rfl, hb⟩
    have HBz := Lib.hid (HBr.out.trans (hb.mono HBr.out.size))
    clear hb
    go_wp2_with fail
    go_ret
    exact ⟨rfl, HBz.out⟩
end Law22
end Go.Proofs.YtgfjpnpbkkadpaaGreat
