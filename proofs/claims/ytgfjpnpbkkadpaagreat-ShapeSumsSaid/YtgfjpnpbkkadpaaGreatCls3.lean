/- A span's place: the program's: the regions of its walk. -/
import Derived.Test.YtgfjpnpbkkadpaaGreatCls2
import Derived.Test.YtgfjpnpbkkadpaaGreatRef01
import Derived.Deep.CutBlock
import Derived.Deep.CutRange
import Derived.Deep.DeepCutAuto
namespace Go.Proofs.YtgfjpnpbkkadpaaGreat
open Go.RowKit
namespace ClsF
open KeyP PackP SetP SetW SetF Cls ClsW ClsS
attribute [local go_sem] Eng.ev Eng.getO_cons Eng.getO_nil
def plc (L : List Sn) (y : Sn) : Pc := ⟨y.t, y.i, (cdt L y).1, (cdt L y).2.1, (cdt L y).2.2, ((fan L y : Nat) : Int)⟩
/-- What is known of places is right. -/
def PG (L : List Sn) (P : Int → Int → Option Pc) : Prop := ∀ t i p, P t i = some p → ∃ y, nx L t i = some y ∧ p = plc L y
def updP (P : Int → Int → Option Pc) (a b : Int) (p : Pc) : Int → Int → Option Pc := fun c d => if c = a ∧ d = b then some p else P c d
theorem PG.upd {L : List Sn} {P : Int → Int → Option Pc} (h : PG L P) {y : Sn} (hy : nx L y.t y.i = some y) : PG L (updP P y.t y.i (plc L y)) := fun t i p hp => by
  unfold updP at hp
  split at hp
  · rename_i e; obtain ⟨rfl, rfl⟩ := e
    exact ⟨y, hy, by injection hp with hp; exact hp.symm⟩
  · exact h t i p hp
theorem Fo.putP {w0 w : World} {h : Nat} {S F : List Sn} {n m : Nat} {P : Int → Int → Option Pc} (H : Fo w0 w h S F n m P) {a b : Int} (ha : wf64 a) (hb : wf64 b) (p : Pc) (hm : m + 1 < 1000000) :
    ∃ w', (Instr.mapUpdate TMp (.map (some (h + 1))) (.string (key2 a b)) p.v).run Tryz.prog w = .ok () w' ∧ Fo w0 w' h S F n (m + 1) (updP P a b p) ∧ Fr (· = h + 1) w w' := by
  obtain ⟨w', h1, h2, h3⟩ := H.p.upd uP ha hb p.v (g := fun t i => (updP P a b p t i).map Pc.v) (by unfold updP; rw [if_pos ⟨rfl, rfl⟩]; rfl) (fun c d hne => by unfold updP; rw [if_neg hne]) hm
  exact ⟨w', h1, ⟨H.b.fr h3 (fun j hj e => by simp at hj; omega), H.s.fr h3 (by omega), h2, H.f.fr h3 (by omega), H.l.trans (h3.below H.l.size (fun j hj e => by have := H.z; omega)), H.z⟩, h3⟩
theorem Fo.known {w0 w : World} {h : Nat} {S F : List Sn} {n m : Nat} {P : Int → Int → Option Pc} (H : Fo w0 w h S F n m P) {a b : Int} (ha : wf64 a) (hb : wf64 b) {p : Pc} (hp : P a b = some p) : (Instr.lookup TMp (.map (some (h + 1))) (.string (key2 a b)) false).run Tryz.prog w = .ok p.v w := by
  rw [H.p.look uP zeroP ha hb, hp]; rfl
theorem Fo.off {w0 w : World} {h : Nat} {S F : List Sn} {n m : Nat} {P : Int → Int → Option Pc} {w' : World} {Bu : Nat} (H : Fo w0 w h S F n m P) (hf : Fr (fun k => k = Bu) w w') (h1 : h + 3 < Bu) (h2 : w0.heap.size ≤ Bu) : Fo w0 w' h S F n m P :=
  ⟨H.b.fr hf (fun j hj e => by simp at hj; omega), H.s.fr hf (by omega), H.p.fr hf (by omega), H.f.fr hf (by omega), H.l.trans (hf.below H.l.size (fun j hj e => by omega)), H.z⟩
/-- A forest; the frame since the call's start: the map of places alone, and what is new. -/
structure Fq (w0 wc w : World) (h : Nat) (L : List Sn) (n m : Nat) (P : Int → Int → Option Pc) : Prop where
  f : Fo w0 w h L L n m P
  r : Fr (fun k => k = h + 1) wc w
  z : h + 3 < wc.heap.size
  y : w0.heap.size ≤ wc.heap.size
theorem Fq.fr {w0 wc w w' : World} {h : Nat} {L : List Sn} {n m : Nat} {P : Int → Int → Option Pc} (H : Fq w0 wc w h L n m P) (hf : Fr (fun _ => False) w w') : Fq w0 wc w' h L n m P := ⟨H.f.fr hf, H.r.trans hf (fun _ _ h => h) (fun _ _ h => h.elim), H.z, H.y⟩
theorem Fq.off {w0 wc w w' : World} {h : Nat} {L : List Sn} {n m : Nat} {P : Int → Int → Option Pc} {Bu : Nat} (H : Fq w0 wc w h L n m P) (hf : Fr (fun k => k = Bu) w w') (hb : wc.heap.size ≤ Bu) : Fq w0 wc w' h L n m P :=
  ⟨H.f.off hf (by have := H.z; omega) (by have := H.y; omega), H.r.trans hf (fun _ _ h => h) (fun k hk e => by omega), H.z, H.y⟩
theorem Fq.put {w0 wc w : World} {h : Nat} {L : List Sn} {n m : Nat} {P : Int → Int → Option Pc} (H : Fq w0 wc w h L n m P) {a b : Int} (ha : wf64 a) (hb : wf64 b) (p : Pc) (hm : m + 1 < 1000000) :
    ∃ w', (Instr.mapUpdate TMp (.map (some (h + 1))) (.string (key2 a b)) p.v).run Tryz.prog w = .ok () w' ∧ Fq w0 wc w' h L n (m + 1) (updP P a b p) ∧ Fr (· = h + 1) w w' := by
  obtain ⟨w', h1, h2, h3⟩ := H.f.putP ha hb p hm
  exact ⟨w', h1, ⟨h2, H.r.trans h3 (fun _ _ h => h) (fun _ _ h => h), H.z, H.y⟩, h3⟩
/-- Region 8: what is above is the place of the next one. -/
structure P8 (w0 wc w : World) (h : Nat) (L : List Sn) (n m : Nat) (P : Int → Int → Option Pc) (Bu : Nat) (u : Pc) (b1 o : Nat) (z : Sn) : Prop where
  f : Fq w0 wc w h L n m P
  u : Bk w Bu u.arr TPl
  a : At w b1 o z
  n : wc.heap.size ≤ Bu ∧ b1 ≠ Bu
theorem P8.fr {w0 wc w w' : World} {h : Nat} {L : List Sn} {n m : Nat} {P : Int → Int → Option Pc} {Bu : Nat} {u : Pc} {b1 o : Nat} {z : Sn} (H : P8 w0 wc w h L n m P Bu u b1 o z) (hf : Fr (fun _ => False) w w') : P8 w0 wc w' h L n m P Bu u b1 o z := ⟨H.f.fr hf, H.u.fr hf (fun _ _ h => h), H.a.keep hf, H.n⟩
theorem P8.store {w0 wc w : World} {h : Nat} {L : List Sn} {n m : Nat} {P : Int → Int → Option Pc} {Bu : Nat} {u : Pc} {b1 o : Nat} {z : Sn} (H : P8 w0 wc w h L n m P Bu u b1 o z) (p : Pc) : P8 w0 wc (put6 w Bu p) h L n m P Bu p b1 o z :=
  ⟨H.f.off (put6_fr w Bu p) H.n.1, put6_bk H.u p, H.a.fr (put6_fr w Bu p) (fun e => H.n.2 e), H.n⟩
set_option maxRecDepth 100000 in
set_option maxHeartbeats 400000 in
theorem pc8 {ops : Array Oper} (hops : Eng.fnOps Tryz.f99 8 = ops) (a0 : Act) (Q : Exit → Act → World → Prop) (w0 wc w : World) (h : Nat) (L : List Sn) (n m : Nat) (P : Int → Int → Option Pc) (Bu : Nat) (u p : Pc) (b1 o1 len c k : Nat) (z : Sn) (hz : wf64 z.t) (hzi : wf64 z.i) (hp : P z.t z.i = some p) (hk : k + 1 < len) (hlen : len ≤ 1000) (hst : P8 w0 wc w h L n m P Bu u b1 (o1 + (k + 1) * 9) z)
    (hn : a0.tmps.size = 90) (h_0 : a0.tmps.getD 0 undef = .pointer (some ⟨h + 3, 0, none⟩)) (h_5 : a0.tmps.getD 5 undef = .slice (some ⟨b1, o1, none⟩) len c) (h_7 : a0.tmps.getD 7 undef = .int .i64 (k : Int)) (h_9 : a0.tmps.getD 9 undef = .pointer (some ⟨Bu, 0, none⟩))
    (hpost : ∀ (x : Nat → Value) (w' : World), P8 w0 wc w' h L n m P Bu p b1 (o1 + (k + 1) * 9) z → Q .normal (Eng.setAll a0 [42, 43, 44, 45, 46, 47, 48, 49, 50, 51, 52] x) w') :
    (Code.region 8 ops true).wp Tryz.prog Q a0 w := by
  simp only [Eng.fnOps, Eng.regOps, Tryz.f99, Option.bind_some, Option.getD_some, Nat.reduceEqDiff, ↓reduceIte, Nat.reduceBEq] at hops
  subst hops
  have q1 : (0 : Int) ≤ (k : Int) + 1 := by omega
  have q2 : (k : Int) + 1 < (len : Int) := by omega
  have q3 : IntKind.i64.wrap ((k : Int) + 1) = (k : Int) + 1 := by rw [IntKind.wrap_i64]; omega
  have HSt := Lib.hid (hst.fr (Fr.drew _ _))
  have hSS : w.drew.cell? ⟨h + 3, 1, none⟩ = some (.map (some (h + 1))) ∧ w.drew.cell? ⟨b1, o1 + (k + 1) * 9, none⟩ = some (.int .i64 z.t) ∧ w.drew.cell? ⟨b1, o1 + (k + 1) * 9 + 1, none⟩ = some (.int .i64 z.i) ∧ w.drew.cell? ⟨b1, o1 + (k + 1) * 9 + 1 + 1, none⟩ = some (.int .i64 z.p) ∧ w.drew.cell? ⟨b1, o1 + (k + 1) * 9 + 1 + 1 + 1, none⟩ = some (.int .i64 z.r) ∧ w.drew.cell? ⟨b1, o1 + (k + 1) * 9 + 1 + 1 + 1 + 1, none⟩ = some (.string z.s) ∧ w.drew.cell? ⟨b1, o1 + (k + 1) * 9 + 1 + 1 + 1 + 1 + 1, none⟩ = some (.string z.o) ∧ w.drew.cell? ⟨b1, o1 + (k + 1) * 9 + 1 + 1 + 1 + 1 + 1 + 1, none⟩ = some (.int .i64 z.b) ∧ w.drew.cell? ⟨b1, o1 + (k + 1) * 9 + 1 + 1 + 1 + 1 + 1 + 1 + 1, none⟩ = some (.int .i64 z.d) ∧ w.drew.cell? ⟨b1, o1 + (k + 1) * 9 + 1 + 1 + 1 + 1 + 1 + 1 + 1 + 1, none⟩ = some (.bool z.g) := ⟨(cell3 HSt.out.f.f).2.1, HSt.out.a 0 _ rfl, HSt.out.a 1 _ rfl, HSt.out.a 2 _ rfl, HSt.out.a 3 _ rfl, HSt.out.a 4 _ rfl, HSt.out.a 5 _ rfl, HSt.out.a 6 _ rfl, HSt.out.a 7 _ rfl, HSt.out.a 8 _ rfl⟩
  refine Eng.regionT (.take 0 (.take 1 (.take 2 (.take 3 (.take 4 (.take 5 (.take 6 (.take 7 (.take 8 (.alt 9 (.alt 10 (.alt 11 (.done) (.stop)) (.stop)) (.stop))))))))))) (fun w' => w'.cell? ⟨h + 3, 1, none⟩ = some (.map (some (h + 1))) ∧ w'.cell? ⟨b1, o1 + (k + 1) * 9, none⟩ = some (.int .i64 z.t) ∧ w'.cell? ⟨b1, o1 + (k + 1) * 9 + 1, none⟩ = some (.int .i64 z.i) ∧ w'.cell? ⟨b1, o1 + (k + 1) * 9 + 1 + 1, none⟩ = some (.int .i64 z.p) ∧ w'.cell? ⟨b1, o1 + (k + 1) * 9 + 1 + 1 + 1, none⟩ = some (.int .i64 z.r) ∧ w'.cell? ⟨b1, o1 + (k + 1) * 9 + 1 + 1 + 1 + 1, none⟩ = some (.string z.s) ∧ w'.cell? ⟨b1, o1 + (k + 1) * 9 + 1 + 1 + 1 + 1 + 1, none⟩ = some (.string z.o) ∧ w'.cell? ⟨b1, o1 + (k + 1) * 9 + 1 + 1 + 1 + 1 + 1 + 1, none⟩ = some (.int .i64 z.b) ∧ w'.cell? ⟨b1, o1 + (k + 1) * 9 + 1 + 1 + 1 + 1 + 1 + 1 + 1, none⟩ = some (.int .i64 z.d) ∧ w'.cell? ⟨b1, o1 + (k + 1) * 9 + 1 + 1 + 1 + 1 + 1 + 1 + 1 + 1, none⟩ = some (.bool z.g)) (by kernel_rfl) 90 hn (by kernel_rfl) (by kernel_rfl) (by kernel_rfl) (hSS) (fun a b ha hb => ?_)
  subst ha
  have hb0 : b 0 = .pointer (some ⟨h + 3, 0, none⟩) := (hb 0).symm.trans h_0
  have hb5 : b 5 = .slice (some ⟨b1, o1, none⟩) len c := (hb 5).symm.trans h_5
  have hb7 : b 7 = .int .i64 (k : Int) := (hb 7).symm.trans h_7
  have hb9 : b 9 = .pointer (some ⟨Bu, 0, none⟩) := (hb 9).symm.trans h_9
  clear hb h_0 h_5 h_7 h_9
  have HP := Lib.hid hpost; have HN := Lib.hid hn
  clear hpost hn
  refine Eng.TW.take' (v := ?_) rfl rfl (by decide) (by kernel_rfl) (fun w hw => ?_) ?_
  rotate_left
  · (try dsimp only at hw); go_simp; first | done | with_reducible rfl
  refine Eng.TW.take' (v := ?_) rfl rfl (by decide) (by kernel_rfl) (fun w hw => ?_) ?_
  rotate_left
  · (try dsimp only at hw); go_simp; first | done | with_reducible rfl
  refine Eng.TW.take' (v := ?_) rfl rfl (by decide) (by kernel_rfl) (fun w hw => ?_) ?_
  rotate_left
  · (try dsimp only at hw); go_simp; first | done | with_reducible rfl
  refine Eng.TW.take' (v := ?_) rfl rfl (by decide) (by kernel_rfl) (fun w hw => ?_) ?_
  rotate_left
  · (try dsimp only at hw); go_simp; first | done | with_reducible rfl
  refine Eng.TW.take' (v := ?_) rfl rfl (by decide) (by kernel_rfl) (fun w hw => ?_) ?_
  rotate_left
  · (try dsimp only at hw); go_simp; first | done | with_reducible rfl
  refine Eng.TW.take' (v := ?_) rfl rfl (by decide) (by kernel_rfl) (fun w hw => ?_) ?_
  rotate_left
  · (try dsimp only at hw); go_simp; first | done | with_reducible rfl
  refine Eng.TW.take' (v := ?_) rfl rfl (by decide) (by kernel_rfl) (fun w hw => ?_) ?_
  rotate_left
  · (try dsimp only at hw); go_simp; first | done | with_reducible rfl
  refine Eng.TW.take' (v := ?_) rfl rfl (by decide) (by kernel_rfl) (fun w hw => ?_) ?_
  rotate_left
  · (try dsimp only at hw); go_simp; first | done | with_reducible rfl
  refine Eng.TW.take' (v := ?_) rfl rfl (by decide) (by kernel_rfl) (fun w hw => ?_) ?_
  rotate_left
  · (try dsimp only at hw); go_simp; first | done | with_reducible rfl
  refine Eng.TW.call rfl rfl (by decide) (by kernel_rfl) ?_ (Key.Span z hz hzi _) ?_
  · go_simp
  rintro e w2 ⟨rfl, hb1⟩
  have HSt2 := Lib.hid (HSt.out.fr (Fr.of_below' hb1 _))
  have hSS : w2.cell? ⟨h + 3, 1, none⟩ = some (.map (some (h + 1))) ∧ w2.cell? ⟨b1, o1 + (k + 1) * 9, none⟩ = some (.int .i64 z.t) ∧ w2.cell? ⟨b1, o1 + (k + 1) * 9 + 1, none⟩ = some (.int .i64 z.i) ∧ w2.cell? ⟨b1, o1 + (k + 1) * 9 + 1 + 1, none⟩ = some (.int .i64 z.p) ∧ w2.cell? ⟨b1, o1 + (k + 1) * 9 + 1 + 1 + 1, none⟩ = some (.int .i64 z.r) ∧ w2.cell? ⟨b1, o1 + (k + 1) * 9 + 1 + 1 + 1 + 1, none⟩ = some (.string z.s) ∧ w2.cell? ⟨b1, o1 + (k + 1) * 9 + 1 + 1 + 1 + 1 + 1, none⟩ = some (.string z.o) ∧ w2.cell? ⟨b1, o1 + (k + 1) * 9 + 1 + 1 + 1 + 1 + 1 + 1, none⟩ = some (.int .i64 z.b) ∧ w2.cell? ⟨b1, o1 + (k + 1) * 9 + 1 + 1 + 1 + 1 + 1 + 1 + 1, none⟩ = some (.int .i64 z.d) ∧ w2.cell? ⟨b1, o1 + (k + 1) * 9 + 1 + 1 + 1 + 1 + 1 + 1 + 1 + 1, none⟩ = some (.bool z.g) := ⟨(cell3 HSt2.out.f.f).2.1, HSt2.out.a 0 _ rfl, HSt2.out.a 1 _ rfl, HSt2.out.a 2 _ rfl, HSt2.out.a 3 _ rfl, HSt2.out.a 4 _ rfl, HSt2.out.a 5 _ rfl, HSt2.out.a 6 _ rfl, HSt2.out.a 7 _ rfl, HSt2.out.a 8 _ rfl⟩
  clear hb1
  refine ⟨_, rfl, hSS, ?_⟩
  have hlk := HSt2.out.f.f.known hz hzi hp
  refine Eng.TW.step rfl rfl (by decide) (by kernel_rfl) (by go_simp; first | done | with_reducible rfl) (⟨(cell3 (HSt2.out).f.f).2.1, (HSt2.out).a 0 _ rfl, (HSt2.out).a 1 _ rfl, (HSt2.out).a 2 _ rfl, (HSt2.out).a 3 _ rfl, (HSt2.out).a 4 _ rfl, (HSt2.out).a 5 _ rfl, (HSt2.out).a 6 _ rfl, (HSt2.out).a 7 _ rfl, (HSt2.out).a 8 _ rfl⟩) ?_
  have HSt3 := Lib.hid (HSt2.out)
  have hSS : (w2).cell? ⟨h + 3, 1, none⟩ = some (.map (some (h + 1))) ∧ (w2).cell? ⟨b1, o1 + (k + 1) * 9, none⟩ = some (.int .i64 z.t) ∧ (w2).cell? ⟨b1, o1 + (k + 1) * 9 + 1, none⟩ = some (.int .i64 z.i) ∧ (w2).cell? ⟨b1, o1 + (k + 1) * 9 + 1 + 1, none⟩ = some (.int .i64 z.p) ∧ (w2).cell? ⟨b1, o1 + (k + 1) * 9 + 1 + 1 + 1, none⟩ = some (.int .i64 z.r) ∧ (w2).cell? ⟨b1, o1 + (k + 1) * 9 + 1 + 1 + 1 + 1, none⟩ = some (.string z.s) ∧ (w2).cell? ⟨b1, o1 + (k + 1) * 9 + 1 + 1 + 1 + 1 + 1, none⟩ = some (.string z.o) ∧ (w2).cell? ⟨b1, o1 + (k + 1) * 9 + 1 + 1 + 1 + 1 + 1 + 1, none⟩ = some (.int .i64 z.b) ∧ (w2).cell? ⟨b1, o1 + (k + 1) * 9 + 1 + 1 + 1 + 1 + 1 + 1 + 1, none⟩ = some (.int .i64 z.d) ∧ (w2).cell? ⟨b1, o1 + (k + 1) * 9 + 1 + 1 + 1 + 1 + 1 + 1 + 1 + 1, none⟩ = some (.bool z.g) := ⟨(cell3 HSt3.out.f.f).2.1, HSt3.out.a 0 _ rfl, HSt3.out.a 1 _ rfl, HSt3.out.a 2 _ rfl, HSt3.out.a 3 _ rfl, HSt3.out.a 4 _ rfl, HSt3.out.a 5 _ rfl, HSt3.out.a 6 _ rfl, HSt3.out.a 7 _ rfl, HSt3.out.a 8 _ rfl⟩
  have u0 : (w2).cell? ⟨Bu, 0, none⟩ = some (.int .i64 u.t) := HSt3.out.u.cell 0
  have v0 : (w2).frozen? ⟨Bu, 0, none⟩ = false := HSt3.out.u.free 0
  have u1 : (w2).cell? ⟨Bu, 1, none⟩ = some (.int .i64 u.i) := HSt3.out.u.cell 1
  have v1 : (w2).frozen? ⟨Bu, 1, none⟩ = false := HSt3.out.u.free 1
  have u2 : (w2).cell? ⟨Bu, 2, none⟩ = some (.int .i64 u.c) := HSt3.out.u.cell 2
  have v2 : (w2).frozen? ⟨Bu, 2, none⟩ = false := HSt3.out.u.free 2
  have u3 : (w2).cell? ⟨Bu, 3, none⟩ = some (.int .i64 u.d) := HSt3.out.u.cell 3
  have v3 : (w2).frozen? ⟨Bu, 3, none⟩ = false := HSt3.out.u.free 3
  have u4 : (w2).cell? ⟨Bu, 4, none⟩ = some (.int .i64 u.p) := HSt3.out.u.cell 4
  have v4 : (w2).frozen? ⟨Bu, 4, none⟩ = false := HSt3.out.u.free 4
  have u5 : (w2).cell? ⟨Bu, 5, none⟩ = some (.int .i64 u.f) := HSt3.out.u.cell 5
  have v5 : (w2).frozen? ⟨Bu, 5, none⟩ = false := HSt3.out.u.free 5
  refine Eng.TW.step0 rfl rfl (by kernel_rfl) (by go_simp; first | done | with_reducible rfl) (⟨(cell3 (HSt3.out.store p).f.f).2.1, (HSt3.out.store p).a 0 _ rfl, (HSt3.out.store p).a 1 _ rfl, (HSt3.out.store p).a 2 _ rfl, (HSt3.out.store p).a 3 _ rfl, (HSt3.out.store p).a 4 _ rfl, (HSt3.out.store p).a 5 _ rfl, (HSt3.out.store p).a 6 _ rfl, (HSt3.out.store p).a 7 _ rfl, (HSt3.out.store p).a 8 _ rfl⟩) ?_
  have HSt4 := Lib.hid (HSt3.out.store p)
  have hSS : ((((((((w2).setCell ⟨Bu, 0, none⟩ (.int .i64 p.t)).setCell ⟨Bu, 1, none⟩ (.int .i64 p.i)).setCell ⟨Bu, 2, none⟩ (.int .i64 p.c)).setCell ⟨Bu, 3, none⟩ (.int .i64 p.d)).setCell ⟨Bu, 4, none⟩ (.int .i64 p.p)).setCell ⟨Bu, 5, none⟩ (.int .i64 p.f))).cell? ⟨h + 3, 1, none⟩ = some (.map (some (h + 1))) ∧ ((((((((w2).setCell ⟨Bu, 0, none⟩ (.int .i64 p.t)).setCell ⟨Bu, 1, none⟩ (.int .i64 p.i)).setCell ⟨Bu, 2, none⟩ (.int .i64 p.c)).setCell ⟨Bu, 3, none⟩ (.int .i64 p.d)).setCell ⟨Bu, 4, none⟩ (.int .i64 p.p)).setCell ⟨Bu, 5, none⟩ (.int .i64 p.f))).cell? ⟨b1, o1 + (k + 1) * 9, none⟩ = some (.int .i64 z.t) ∧ ((((((((w2).setCell ⟨Bu, 0, none⟩ (.int .i64 p.t)).setCell ⟨Bu, 1, none⟩ (.int .i64 p.i)).setCell ⟨Bu, 2, none⟩ (.int .i64 p.c)).setCell ⟨Bu, 3, none⟩ (.int .i64 p.d)).setCell ⟨Bu, 4, none⟩ (.int .i64 p.p)).setCell ⟨Bu, 5, none⟩ (.int .i64 p.f))).cell? ⟨b1, o1 + (k + 1) * 9 + 1, none⟩ = some (.int .i64 z.i) ∧ ((((((((w2).setCell ⟨Bu, 0, none⟩ (.int .i64 p.t)).setCell ⟨Bu, 1, none⟩ (.int .i64 p.i)).setCell ⟨Bu, 2, none⟩ (.int .i64 p.c)).setCell ⟨Bu, 3, none⟩ (.int .i64 p.d)).setCell ⟨Bu, 4, none⟩ (.int .i64 p.p)).setCell ⟨Bu, 5, none⟩ (.int .i64 p.f))).cell? ⟨b1, o1 + (k + 1) * 9 + 1 + 1, none⟩ = some (.int .i64 z.p) ∧ ((((((((w2).setCell ⟨Bu, 0, none⟩ (.int .i64 p.t)).setCell ⟨Bu, 1, none⟩ (.int .i64 p.i)).setCell ⟨Bu, 2, none⟩ (.int .i64 p.c)).setCell ⟨Bu, 3, none⟩ (.int .i64 p.d)).setCell ⟨Bu, 4, none⟩ (.int .i64 p.p)).setCell ⟨Bu, 5, none⟩ (.int .i64 p.f))).cell? ⟨b1, o1 + (k + 1) * 9 + 1 + 1 + 1, none⟩ = some (.int .i64 z.r) ∧ ((((((((w2).setCell ⟨Bu, 0, none⟩ (.int .i64 p.t)).setCell ⟨Bu, 1, none⟩ (.int .i64 p.i)).setCell ⟨Bu, 2, none⟩ (.int .i64 p.c)).setCell ⟨Bu, 3, none⟩ (.int .i64 p.d)).setCell ⟨Bu, 4, none⟩ (.int .i64 p.p)).setCell ⟨Bu, 5, none⟩ (.int .i64 p.f))).cell? ⟨b1, o1 + (k + 1) * 9 + 1 + 1 + 1 + 1, none⟩ = some (.string z.s) ∧ ((((((((w2).setCell ⟨Bu, 0, none⟩ (.int .i64 p.t)).setCell ⟨Bu, 1, none⟩ (.int .i64 p.i)).setCell ⟨Bu, 2, none⟩ (.int .i64 p.c)).setCell ⟨Bu, 3, none⟩ (.int .i64 p.d)).setCell ⟨Bu, 4, none⟩ (.int .i64 p.p)).setCell ⟨Bu, 5, none⟩ (.int .i64 p.f))).cell? ⟨b1, o1 + (k + 1) * 9 + 1 + 1 + 1 + 1 + 1, none⟩ = some (.string z.o) ∧ ((((((((w2).setCell ⟨Bu, 0, none⟩ (.int .i64 p.t)).setCell ⟨Bu, 1, none⟩ (.int .i64 p.i)).setCell ⟨Bu, 2, none⟩ (.int .i64 p.c)).setCell ⟨Bu, 3, none⟩ (.int .i64 p.d)).setCell ⟨Bu, 4, none⟩ (.int .i64 p.p)).setCell ⟨Bu, 5, none⟩ (.int .i64 p.f))).cell? ⟨b1, o1 + (k + 1) * 9 + 1 + 1 + 1 + 1 + 1 + 1, none⟩ = some (.int .i64 z.b) ∧ ((((((((w2).setCell ⟨Bu, 0, none⟩ (.int .i64 p.t)).setCell ⟨Bu, 1, none⟩ (.int .i64 p.i)).setCell ⟨Bu, 2, none⟩ (.int .i64 p.c)).setCell ⟨Bu, 3, none⟩ (.int .i64 p.d)).setCell ⟨Bu, 4, none⟩ (.int .i64 p.p)).setCell ⟨Bu, 5, none⟩ (.int .i64 p.f))).cell? ⟨b1, o1 + (k + 1) * 9 + 1 + 1 + 1 + 1 + 1 + 1 + 1, none⟩ = some (.int .i64 z.d) ∧ ((((((((w2).setCell ⟨Bu, 0, none⟩ (.int .i64 p.t)).setCell ⟨Bu, 1, none⟩ (.int .i64 p.i)).setCell ⟨Bu, 2, none⟩ (.int .i64 p.c)).setCell ⟨Bu, 3, none⟩ (.int .i64 p.d)).setCell ⟨Bu, 4, none⟩ (.int .i64 p.p)).setCell ⟨Bu, 5, none⟩ (.int .i64 p.f))).cell? ⟨b1, o1 + (k + 1) * 9 + 1 + 1 + 1 + 1 + 1 + 1 + 1 + 1, none⟩ = some (.bool z.g) := ⟨(cell3 HSt4.out.f.f).2.1, HSt4.out.a 0 _ rfl, HSt4.out.a 1 _ rfl, HSt4.out.a 2 _ rfl, HSt4.out.a 3 _ rfl, HSt4.out.a 4 _ rfl, HSt4.out.a 5 _ rfl, HSt4.out.a 6 _ rfl, HSt4.out.a 7 _ rfl, HSt4.out.a 8 _ rfl⟩
  refine Eng.TW.end_ [42, 43, 44, 45, 46, 47, 48, 49, 50, 51, 52] HN.out (by kernel_rfl) (by kernel_rfl) ?_
  exact HP.out _ _ HSt4.out

/-- Region 9: a new place, in a block that may be made already. -/
structure P9 (w0 wc w : World) (h : Nat) (L : List Sn) (n m : Nat) (P : Int → Int → Option Pc) (Bu : Nat) (u : Pc) (By : Nat) (y : Sn) (bs : List Nat) (q : Pc) : Prop where
  f : Fq w0 wc w h L n m P
  u : Bk w Bu u.arr TPl
  a : At w By 0 y
  p : ∀ b ∈ bs, Bk w b q.arr TPl ∧ wc.heap.size ≤ b ∧ b ≠ Bu ∧ b ≠ By
theorem P9.fr {w0 wc w w' : World} {h : Nat} {L : List Sn} {n m : Nat} {P : Int → Int → Option Pc} {Bu : Nat} {u : Pc} {By : Nat} {y : Sn} {bs : List Nat} {q : Pc} (H : P9 w0 wc w h L n m P Bu u By y bs q) (hf : Fr (fun _ => False) w w') : P9 w0 wc w' h L n m P Bu u By y bs q := ⟨H.f.fr hf, H.u.fr hf (fun _ _ h => h), H.a.keep hf, fun b hb => ⟨(H.p b hb).1.fr hf (fun _ _ h => h), (H.p b hb).2⟩⟩
theorem P9.alloc {w0 wc w : World} {h : Nat} {L : List Sn} {n m : Nat} {P : Int → Int → Option Pc} {Bu : Nat} {u : Pc} {By : Nat} {y : Sn} (H : P9 w0 wc w h L n m P Bu u By y [] z6) : P9 w0 wc (w.alloc (.cells #[.int .i64 0, .int .i64 0, .int .i64 0, .int .i64 0, .int .i64 0, .int .i64 0] TPl)) h L n m P Bu u By y [w.heap.size] z6 :=
  ⟨H.f.fr (Fr.alloc _ w _), H.u.fr (Fr.alloc (fun _ => False) w _) (fun _ _ h => h), H.a.keep (Fr.alloc _ w _), fun b hb => by
    simp only [List.mem_singleton] at hb; subst hb
    exact ⟨Bk.new w z6.arr TPl, H.f.r.size, by have := lt_of_heap H.u; omega, by have := H.a.lt; omega⟩⟩
theorem P9.allocP {w0 wc w : World} {h : Nat} {L : List Sn} {n m : Nat} {P : Int → Int → Option Pc} {Bu : Nat} {u : Pc} {By : Nat} {y : Sn} (H : P9 w0 wc w h L n m P Bu u By y [] z6) (p : Pc) : P9 w0 wc (w.alloc (.cells p.arr TPl)) h L n m P Bu u By y [w.heap.size] p :=
  ⟨H.f.fr (Fr.alloc _ w _), H.u.fr (Fr.alloc (fun _ => False) w _) (fun _ _ h => h), H.a.keep (Fr.alloc _ w _), fun b hb => by
    simp only [List.mem_singleton] at hb; subst hb
    exact ⟨Bk.new w p.arr TPl, H.f.r.size, by have := lt_of_heap H.u; omega, by have := H.a.lt; omega⟩⟩
theorem P9.store {w0 wc w : World} {h : Nat} {L : List Sn} {n m : Nat} {P : Int → Int → Option Pc} {Bu : Nat} {u : Pc} {By : Nat} {y : Sn} {Bp : Nat} {q : Pc} (H : P9 w0 wc w h L n m P Bu u By y [Bp] q) (p : Pc) : P9 w0 wc (put6 w Bp p) h L n m P Bu u By y [Bp] p := by
  obtain ⟨h1, h2, h3, h4⟩ := H.p Bp (by simp)
  exact ⟨H.f.off (put6_fr w Bp p) h2, H.u.fr (put6_fr w Bp p) (fun k hk e => by simp at hk; omega), H.a.fr (put6_fr w Bp p) (fun e => h4 e.symm), fun b hb => by
    simp only [List.mem_singleton] at hb; subst hb
    exact ⟨put6_bk h1 p, h2, h3, h4⟩⟩
theorem buildP (t i c d q f : Int) (W : World) : (Instr.build TPl #[(0, .int .i64 t), (1, .int .i64 i), (2, .int .i64 c), (3, .int .i64 d), (4, .int .i64 q), (5, .int .i64 f)]).run Tryz.prog W = .ok (.agg #[.int .i64 t, .int .i64 i, .int .i64 c, .int .i64 d, .int .i64 q, .int .i64 f]) W := by kernel_rfl
set_option maxRecDepth 100000 in
set_option maxHeartbeats 2000000 in
theorem pc9 {ops : Array Oper} (hops : Eng.fnOps Tryz.f99 9 = ops) (a0 : Act) (Q : Exit → Act → World → Prop) (w0 wc w : World) (h : Nat) (L : List Sn) (n m : Nat) (P : Int → Int → Option Pc) (Bu : Nat) (u : Pc) (By : Nat) (y : Sn) (c : Nat) (hy : wf64 y.t) (hyi : wf64 y.i) (hc : cnt L y.t y.i = c) (hud : 0 ≤ u.d ∧ u.d ≤ 1000000) (hst : P9 w0 wc w h L n m P Bu u By y [] z6)
    (hn : a0.tmps.size = 90) (h_0 : a0.tmps.getD 0 undef = .pointer (some ⟨h + 3, 0, none⟩)) (h_8 : a0.tmps.getD 8 undef = .pointer (some ⟨By, 0, none⟩)) (h_9 : a0.tmps.getD 9 undef = .pointer (some ⟨Bu, 0, none⟩))
    (hpost : ∀ (x : Nat → Value) (w' : World) (Bp : Nat), x 10 = .pointer (some ⟨Bp, 0, none⟩) → P9 w0 wc w' h L n m P Bu u By y [Bp] ⟨y.t, y.i, u.c, u.d + 1, u.p, (c : Int)⟩ → Q .normal (Eng.setAll a0 [10, 53, 54, 55, 56, 57, 58, 59, 60, 61, 62, 63, 64, 65, 66, 67, 68, 69, 70, 71] x) w') :
    (Code.region 9 ops true).wp Tryz.prog Q a0 w := by
  simp only [Eng.fnOps, Eng.regOps, Tryz.f99, Option.bind_some, Option.getD_some, Nat.reduceEqDiff, ↓reduceIte, Nat.reduceBEq] at hops
  subst hops
  have q3 : IntKind.i64.wrap (u.d + 1) = u.d + 1 := by rw [IntKind.wrap_i64]; omega
  have kb := buildP
  have HSt := Lib.hid (hst.fr (Fr.drew _ _))
  have hSS : w.drew.cell? ⟨h + 3, 2, none⟩ = some (.map (some (h + 2))) ∧ w.drew.cell? ⟨By, 0, none⟩ = some (.int .i64 y.t) ∧ w.drew.cell? ⟨By, 1, none⟩ = some (.int .i64 y.i) ∧ w.drew.cell? ⟨By, 2, none⟩ = some (.int .i64 y.p) ∧ w.drew.cell? ⟨By, 3, none⟩ = some (.int .i64 y.r) ∧ w.drew.cell? ⟨By, 4, none⟩ = some (.string y.s) ∧ w.drew.cell? ⟨By, 5, none⟩ = some (.string y.o) ∧ w.drew.cell? ⟨By, 6, none⟩ = some (.int .i64 y.b) ∧ w.drew.cell? ⟨By, 7, none⟩ = some (.int .i64 y.d) ∧ w.drew.cell? ⟨By, 8, none⟩ = some (.bool y.g) ∧ w.drew.cell? ⟨Bu, 2, none⟩ = some (.int .i64 u.c) ∧ w.drew.cell? ⟨Bu, 3, none⟩ = some (.int .i64 u.d) ∧ w.drew.cell? ⟨Bu, 4, none⟩ = some (.int .i64 u.p) := ⟨(cell3 HSt.out.f.f).2.2, HSt.out.a 0 _ rfl, HSt.out.a 1 _ rfl, HSt.out.a 2 _ rfl, HSt.out.a 3 _ rfl, HSt.out.a 4 _ rfl, HSt.out.a 5 _ rfl, HSt.out.a 6 _ rfl, HSt.out.a 7 _ rfl, HSt.out.a 8 _ rfl, HSt.out.u.cell 2, HSt.out.u.cell 3, HSt.out.u.cell 4⟩
  refine Eng.regionT (.take 0 (.take 1 (.take 2 (.take 3 (.take 4 (.take 5 (.take 6 (.take 7 (.take 8 (.take 9 (.take 10 (.take 11 (.take 12 (.take 13 (.take 14 (.take 15 (.alt 16 (.alt 17 (.take 18 (.alt 19 (.alt 20 (.done) (.stop)) (.stop))) (.alt 19 (.alt 17 (.take 18 (.alt 20 (.done) (.stop))) (.stop)) (.stop))) (.alt 19 (.alt 16 (.alt 17 (.take 18 (.alt 20 (.done) (.stop))) (.stop)) (.stop)) (.stop))))))))))))))))))) (fun w' => w'.cell? ⟨h + 3, 2, none⟩ = some (.map (some (h + 2))) ∧ w'.cell? ⟨By, 0, none⟩ = some (.int .i64 y.t) ∧ w'.cell? ⟨By, 1, none⟩ = some (.int .i64 y.i) ∧ w'.cell? ⟨By, 2, none⟩ = some (.int .i64 y.p) ∧ w'.cell? ⟨By, 3, none⟩ = some (.int .i64 y.r) ∧ w'.cell? ⟨By, 4, none⟩ = some (.string y.s) ∧ w'.cell? ⟨By, 5, none⟩ = some (.string y.o) ∧ w'.cell? ⟨By, 6, none⟩ = some (.int .i64 y.b) ∧ w'.cell? ⟨By, 7, none⟩ = some (.int .i64 y.d) ∧ w'.cell? ⟨By, 8, none⟩ = some (.bool y.g) ∧ w'.cell? ⟨Bu, 2, none⟩ = some (.int .i64 u.c) ∧ w'.cell? ⟨Bu, 3, none⟩ = some (.int .i64 u.d) ∧ w'.cell? ⟨Bu, 4, none⟩ = some (.int .i64 u.p)) (by kernel_rfl) 90 hn (by kernel_rfl) (by kernel_rfl) (by kernel_rfl) (hSS) (fun a b ha hb => ?_)
  subst ha
  have hb0 : b 0 = .pointer (some ⟨h + 3, 0, none⟩) := (hb 0).symm.trans h_0
  have hb8 : b 8 = .pointer (some ⟨By, 0, none⟩) := (hb 8).symm.trans h_8
  have hb9 : b 9 = .pointer (some ⟨Bu, 0, none⟩) := (hb 9).symm.trans h_9
  clear hb h_0 h_8 h_9
  have HP := Lib.hid hpost; have HN := Lib.hid hn
  clear hpost hn
  refine Eng.TW.take' (v := ?_) rfl rfl (by decide) (by kernel_rfl) (fun w hw => ?_) ?_
  rotate_left
  · (try dsimp only at hw); go_simp; first | done | with_reducible rfl
  refine Eng.TW.take' (v := ?_) rfl rfl (by decide) (by kernel_rfl) (fun w hw => ?_) ?_
  rotate_left
  · (try dsimp only at hw); go_simp; first | done | with_reducible rfl
  refine Eng.TW.take' (v := ?_) rfl rfl (by decide) (by kernel_rfl) (fun w hw => ?_) ?_
  rotate_left
  · (try dsimp only at hw); go_simp; first | done | with_reducible rfl
  refine Eng.TW.take' (v := ?_) rfl rfl (by decide) (by kernel_rfl) (fun w hw => ?_) ?_
  rotate_left
  · (try dsimp only at hw); go_simp; first | done | with_reducible rfl
  refine Eng.TW.take' (v := ?_) rfl rfl (by decide) (by kernel_rfl) (fun w hw => ?_) ?_
  rotate_left
  · (try dsimp only at hw); go_simp; first | done | with_reducible rfl
  refine Eng.TW.take' (v := ?_) rfl rfl (by decide) (by kernel_rfl) (fun w hw => ?_) ?_
  rotate_left
  · (try dsimp only at hw); go_simp; first | done | with_reducible rfl
  refine Eng.TW.take' (v := ?_) rfl rfl (by decide) (by kernel_rfl) (fun w hw => ?_) ?_
  rotate_left
  · (try dsimp only at hw); go_simp; first | done | with_reducible rfl
  refine Eng.TW.take' (v := ?_) rfl rfl (by decide) (by kernel_rfl) (fun w hw => ?_) ?_
  rotate_left
  · (try dsimp only at hw); go_simp; first | done | with_reducible rfl
  refine Eng.TW.take' (v := ?_) rfl rfl (by decide) (by kernel_rfl) (fun w hw => ?_) ?_
  rotate_left
  · (try dsimp only at hw); go_simp; first | done | with_reducible rfl
  refine Eng.TW.take' (v := ?_) rfl rfl (by decide) (by kernel_rfl) (fun w hw => ?_) ?_
  rotate_left
  · (try dsimp only at hw); go_simp; first | done | with_reducible rfl
  refine Eng.TW.take' (v := ?_) rfl rfl (by decide) (by kernel_rfl) (fun w hw => ?_) ?_
  rotate_left
  · (try dsimp only at hw); go_simp; first | done | with_reducible rfl
  refine Eng.TW.take' (v := ?_) rfl rfl (by decide) (by kernel_rfl) (fun w hw => ?_) ?_
  rotate_left
  · (try dsimp only at hw); go_simp; first | done | with_reducible rfl
  refine Eng.TW.take' (v := ?_) rfl rfl (by decide) (by kernel_rfl) (fun w hw => ?_) ?_
  rotate_left
  · (try dsimp only at hw); go_simp; first | done | with_reducible rfl
  refine Eng.TW.take' (v := ?_) rfl rfl (by decide) (by kernel_rfl) (fun w hw => ?_) ?_
  rotate_left
  · (try dsimp only at hw); go_simp; first | done | with_reducible rfl
  refine Eng.TW.take' (v := ?_) rfl rfl (by decide) (by kernel_rfl) (fun w hw => ?_) ?_
  rotate_left
  · (try dsimp only at hw); go_simp; first | done | with_reducible rfl
  refine Eng.TW.take' (v := ?_) rfl rfl (by decide) (by kernel_rfl) (fun w hw => ?_) ?_
  rotate_left
  · (try dsimp only at hw); go_simp; first | done | with_reducible rfl
  refine Eng.TW.both ?_ ?_
  · refine Eng.TW.call rfl rfl (by decide) (by kernel_rfl) ?_ (Key.Span y hy hyi _) ?_
    · go_simp
    rintro e w2 ⟨rfl, hb1⟩
    have HSt2 := Lib.hid (HSt.out.fr (Fr.of_below' hb1 _))
    have hSS : w2.cell? ⟨h + 3, 2, none⟩ = some (.map (some (h + 2))) ∧ w2.cell? ⟨By, 0, none⟩ = some (.int .i64 y.t) ∧ w2.cell? ⟨By, 1, none⟩ = some (.int .i64 y.i) ∧ w2.cell? ⟨By, 2, none⟩ = some (.int .i64 y.p) ∧ w2.cell? ⟨By, 3, none⟩ = some (.int .i64 y.r) ∧ w2.cell? ⟨By, 4, none⟩ = some (.string y.s) ∧ w2.cell? ⟨By, 5, none⟩ = some (.string y.o) ∧ w2.cell? ⟨By, 6, none⟩ = some (.int .i64 y.b) ∧ w2.cell? ⟨By, 7, none⟩ = some (.int .i64 y.d) ∧ w2.cell? ⟨By, 8, none⟩ = some (.bool y.g) ∧ w2.cell? ⟨Bu, 2, none⟩ = some (.int .i64 u.c) ∧ w2.cell? ⟨Bu, 3, none⟩ = some (.int .i64 u.d) ∧ w2.cell? ⟨Bu, 4, none⟩ = some (.int .i64 u.p) := ⟨(cell3 HSt2.out.f.f).2.2, HSt2.out.a 0 _ rfl, HSt2.out.a 1 _ rfl, HSt2.out.a 2 _ rfl, HSt2.out.a 3 _ rfl, HSt2.out.a 4 _ rfl, HSt2.out.a 5 _ rfl, HSt2.out.a 6 _ rfl, HSt2.out.a 7 _ rfl, HSt2.out.a 8 _ rfl, HSt2.out.u.cell 2, HSt2.out.u.cell 3, HSt2.out.u.cell 4⟩
    clear hb1
    refine ⟨_, rfl, hSS, ?_⟩
    refine Eng.TW.both ?_ ?_
    · have hlk := HSt2.out.f.f.count hy hyi
      rw [hc] at hlk
      refine Eng.TW.step rfl rfl (by decide) (by kernel_rfl) (by go_simp; first | done | with_reducible rfl) (⟨(cell3 (HSt2.out).f.f).2.2, (HSt2.out).a 0 _ rfl, (HSt2.out).a 1 _ rfl, (HSt2.out).a 2 _ rfl, (HSt2.out).a 3 _ rfl, (HSt2.out).a 4 _ rfl, (HSt2.out).a 5 _ rfl, (HSt2.out).a 6 _ rfl, (HSt2.out).a 7 _ rfl, (HSt2.out).a 8 _ rfl, (HSt2.out).u.cell 2, (HSt2.out).u.cell 3, (HSt2.out).u.cell 4⟩) ?_
      have HSt3 := Lib.hid (HSt2.out)
      have hSS : (w2).cell? ⟨h + 3, 2, none⟩ = some (.map (some (h + 2))) ∧ (w2).cell? ⟨By, 0, none⟩ = some (.int .i64 y.t) ∧ (w2).cell? ⟨By, 1, none⟩ = some (.int .i64 y.i) ∧ (w2).cell? ⟨By, 2, none⟩ = some (.int .i64 y.p) ∧ (w2).cell? ⟨By, 3, none⟩ = some (.int .i64 y.r) ∧ (w2).cell? ⟨By, 4, none⟩ = some (.string y.s) ∧ (w2).cell? ⟨By, 5, none⟩ = some (.string y.o) ∧ (w2).cell? ⟨By, 6, none⟩ = some (.int .i64 y.b) ∧ (w2).cell? ⟨By, 7, none⟩ = some (.int .i64 y.d) ∧ (w2).cell? ⟨By, 8, none⟩ = some (.bool y.g) ∧ (w2).cell? ⟨Bu, 2, none⟩ = some (.int .i64 u.c) ∧ (w2).cell? ⟨Bu, 3, none⟩ = some (.int .i64 u.d) ∧ (w2).cell? ⟨Bu, 4, none⟩ = some (.int .i64 u.p) := ⟨(cell3 HSt3.out.f.f).2.2, HSt3.out.a 0 _ rfl, HSt3.out.a 1 _ rfl, HSt3.out.a 2 _ rfl, HSt3.out.a 3 _ rfl, HSt3.out.a 4 _ rfl, HSt3.out.a 5 _ rfl, HSt3.out.a 6 _ rfl, HSt3.out.a 7 _ rfl, HSt3.out.a 8 _ rfl, HSt3.out.u.cell 2, HSt3.out.u.cell 3, HSt3.out.u.cell 4⟩
      refine Eng.TW.take' (v := ?_) rfl rfl (by decide) (by kernel_rfl) (fun w hw => ?_) ?_
      rotate_left
      · (try dsimp only at hw); go_simp; first | done | with_reducible rfl
      refine Eng.TW.step rfl rfl (by decide) (by kernel_rfl) (by go_simp; first | done | with_reducible rfl) (⟨(cell3 (HSt3.out.alloc).f.f).2.2, (HSt3.out.alloc).a 0 _ rfl, (HSt3.out.alloc).a 1 _ rfl, (HSt3.out.alloc).a 2 _ rfl, (HSt3.out.alloc).a 3 _ rfl, (HSt3.out.alloc).a 4 _ rfl, (HSt3.out.alloc).a 5 _ rfl, (HSt3.out.alloc).a 6 _ rfl, (HSt3.out.alloc).a 7 _ rfl, (HSt3.out.alloc).a 8 _ rfl, (HSt3.out.alloc).u.cell 2, (HSt3.out.alloc).u.cell 3, (HSt3.out.alloc).u.cell 4⟩) ?_
      have HSt4 := Lib.hid (HSt3.out.alloc)
      have hSS : (((w2)).alloc (.cells #[.int .i64 0, .int .i64 0, .int .i64 0, .int .i64 0, .int .i64 0, .int .i64 0] TPl)).cell? ⟨h + 3, 2, none⟩ = some (.map (some (h + 2))) ∧ (((w2)).alloc (.cells #[.int .i64 0, .int .i64 0, .int .i64 0, .int .i64 0, .int .i64 0, .int .i64 0] TPl)).cell? ⟨By, 0, none⟩ = some (.int .i64 y.t) ∧ (((w2)).alloc (.cells #[.int .i64 0, .int .i64 0, .int .i64 0, .int .i64 0, .int .i64 0, .int .i64 0] TPl)).cell? ⟨By, 1, none⟩ = some (.int .i64 y.i) ∧ (((w2)).alloc (.cells #[.int .i64 0, .int .i64 0, .int .i64 0, .int .i64 0, .int .i64 0, .int .i64 0] TPl)).cell? ⟨By, 2, none⟩ = some (.int .i64 y.p) ∧ (((w2)).alloc (.cells #[.int .i64 0, .int .i64 0, .int .i64 0, .int .i64 0, .int .i64 0, .int .i64 0] TPl)).cell? ⟨By, 3, none⟩ = some (.int .i64 y.r) ∧ (((w2)).alloc (.cells #[.int .i64 0, .int .i64 0, .int .i64 0, .int .i64 0, .int .i64 0, .int .i64 0] TPl)).cell? ⟨By, 4, none⟩ = some (.string y.s) ∧ (((w2)).alloc (.cells #[.int .i64 0, .int .i64 0, .int .i64 0, .int .i64 0, .int .i64 0, .int .i64 0] TPl)).cell? ⟨By, 5, none⟩ = some (.string y.o) ∧ (((w2)).alloc (.cells #[.int .i64 0, .int .i64 0, .int .i64 0, .int .i64 0, .int .i64 0, .int .i64 0] TPl)).cell? ⟨By, 6, none⟩ = some (.int .i64 y.b) ∧ (((w2)).alloc (.cells #[.int .i64 0, .int .i64 0, .int .i64 0, .int .i64 0, .int .i64 0, .int .i64 0] TPl)).cell? ⟨By, 7, none⟩ = some (.int .i64 y.d) ∧ (((w2)).alloc (.cells #[.int .i64 0, .int .i64 0, .int .i64 0, .int .i64 0, .int .i64 0, .int .i64 0] TPl)).cell? ⟨By, 8, none⟩ = some (.bool y.g) ∧ (((w2)).alloc (.cells #[.int .i64 0, .int .i64 0, .int .i64 0, .int .i64 0, .int .i64 0, .int .i64 0] TPl)).cell? ⟨Bu, 2, none⟩ = some (.int .i64 u.c) ∧ (((w2)).alloc (.cells #[.int .i64 0, .int .i64 0, .int .i64 0, .int .i64 0, .int .i64 0, .int .i64 0] TPl)).cell? ⟨Bu, 3, none⟩ = some (.int .i64 u.d) ∧ (((w2)).alloc (.cells #[.int .i64 0, .int .i64 0, .int .i64 0, .int .i64 0, .int .i64 0, .int .i64 0] TPl)).cell? ⟨Bu, 4, none⟩ = some (.int .i64 u.p) := ⟨(cell3 HSt4.out.f.f).2.2, HSt4.out.a 0 _ rfl, HSt4.out.a 1 _ rfl, HSt4.out.a 2 _ rfl, HSt4.out.a 3 _ rfl, HSt4.out.a 4 _ rfl, HSt4.out.a 5 _ rfl, HSt4.out.a 6 _ rfl, HSt4.out.a 7 _ rfl, HSt4.out.a 8 _ rfl, HSt4.out.u.cell 2, HSt4.out.u.cell 3, HSt4.out.u.cell 4⟩
      have u0 := (HSt4.out.p _ (List.mem_cons_self ..)).1.cell 0
      have v0 := (HSt4.out.p _ (List.mem_cons_self ..)).1.free 0
      have u1 := (HSt4.out.p _ (List.mem_cons_self ..)).1.cell 1
      have v1 := (HSt4.out.p _ (List.mem_cons_self ..)).1.free 1
      have u2 := (HSt4.out.p _ (List.mem_cons_self ..)).1.cell 2
      have v2 := (HSt4.out.p _ (List.mem_cons_self ..)).1.free 2
      have u3 := (HSt4.out.p _ (List.mem_cons_self ..)).1.cell 3
      have v3 := (HSt4.out.p _ (List.mem_cons_self ..)).1.free 3
      have u4 := (HSt4.out.p _ (List.mem_cons_self ..)).1.cell 4
      have v4 := (HSt4.out.p _ (List.mem_cons_self ..)).1.free 4
      have u5 := (HSt4.out.p _ (List.mem_cons_self ..)).1.cell 5
      have v5 := (HSt4.out.p _ (List.mem_cons_self ..)).1.free 5
      simp only [List.getElem?_toArray, List.getElem?_cons_zero, List.getElem?_cons_succ] at u0 u1 u2 u3 u4 u5
      refine Eng.TW.step0 rfl rfl (by kernel_rfl) (by go_simp; first | done | with_reducible rfl) (⟨(cell3 (HSt3.out.allocP ⟨y.t, y.i, u.c, u.d + 1, u.p, (c : Int)⟩).f.f).2.2, (HSt3.out.allocP ⟨y.t, y.i, u.c, u.d + 1, u.p, (c : Int)⟩).a 0 _ rfl, (HSt3.out.allocP ⟨y.t, y.i, u.c, u.d + 1, u.p, (c : Int)⟩).a 1 _ rfl, (HSt3.out.allocP ⟨y.t, y.i, u.c, u.d + 1, u.p, (c : Int)⟩).a 2 _ rfl, (HSt3.out.allocP ⟨y.t, y.i, u.c, u.d + 1, u.p, (c : Int)⟩).a 3 _ rfl, (HSt3.out.allocP ⟨y.t, y.i, u.c, u.d + 1, u.p, (c : Int)⟩).a 4 _ rfl, (HSt3.out.allocP ⟨y.t, y.i, u.c, u.d + 1, u.p, (c : Int)⟩).a 5 _ rfl, (HSt3.out.allocP ⟨y.t, y.i, u.c, u.d + 1, u.p, (c : Int)⟩).a 6 _ rfl, (HSt3.out.allocP ⟨y.t, y.i, u.c, u.d + 1, u.p, (c : Int)⟩).a 7 _ rfl, (HSt3.out.allocP ⟨y.t, y.i, u.c, u.d + 1, u.p, (c : Int)⟩).a 8 _ rfl, (HSt3.out.allocP ⟨y.t, y.i, u.c, u.d + 1, u.p, (c : Int)⟩).u.cell 2, (HSt3.out.allocP ⟨y.t, y.i, u.c, u.d + 1, u.p, (c : Int)⟩).u.cell 3, (HSt3.out.allocP ⟨y.t, y.i, u.c, u.d + 1, u.p, (c : Int)⟩).u.cell 4⟩) ?_
      have HSt5 := Lib.hid (HSt3.out.allocP ⟨y.t, y.i, u.c, u.d + 1, u.p, (c : Int)⟩)
      refine Eng.TW.end_ [10, 53, 54, 55, 56, 57, 58, 59, 60, 61, 62, 63, 64, 65, 66, 67, 68, 69, 70, 71] HN.out (by kernel_rfl) (by kernel_rfl) ?_
      exact HP.out _ _ _ rfl HSt5.out
    refine Eng.TW.step rfl rfl (by decide) (by kernel_rfl) (by go_simp; first | done | with_reducible rfl) (⟨(cell3 (HSt2.out.alloc).f.f).2.2, (HSt2.out.alloc).a 0 _ rfl, (HSt2.out.alloc).a 1 _ rfl, (HSt2.out.alloc).a 2 _ rfl, (HSt2.out.alloc).a 3 _ rfl, (HSt2.out.alloc).a 4 _ rfl, (HSt2.out.alloc).a 5 _ rfl, (HSt2.out.alloc).a 6 _ rfl, (HSt2.out.alloc).a 7 _ rfl, (HSt2.out.alloc).a 8 _ rfl, (HSt2.out.alloc).u.cell 2, (HSt2.out.alloc).u.cell 3, (HSt2.out.alloc).u.cell 4⟩) ?_
    have HSt3 := Lib.hid (HSt2.out.alloc)
    have hSS : ((w2).alloc (.cells #[.int .i64 0, .int .i64 0, .int .i64 0, .int .i64 0, .int .i64 0, .int .i64 0] TPl)).cell? ⟨h + 3, 2, none⟩ = some (.map (some (h + 2))) ∧ ((w2).alloc (.cells #[.int .i64 0, .int .i64 0, .int .i64 0, .int .i64 0, .int .i64 0, .int .i64 0] TPl)).cell? ⟨By, 0, none⟩ = some (.int .i64 y.t) ∧ ((w2).alloc (.cells #[.int .i64 0, .int .i64 0, .int .i64 0, .int .i64 0, .int .i64 0, .int .i64 0] TPl)).cell? ⟨By, 1, none⟩ = some (.int .i64 y.i) ∧ ((w2).alloc (.cells #[.int .i64 0, .int .i64 0, .int .i64 0, .int .i64 0, .int .i64 0, .int .i64 0] TPl)).cell? ⟨By, 2, none⟩ = some (.int .i64 y.p) ∧ ((w2).alloc (.cells #[.int .i64 0, .int .i64 0, .int .i64 0, .int .i64 0, .int .i64 0, .int .i64 0] TPl)).cell? ⟨By, 3, none⟩ = some (.int .i64 y.r) ∧ ((w2).alloc (.cells #[.int .i64 0, .int .i64 0, .int .i64 0, .int .i64 0, .int .i64 0, .int .i64 0] TPl)).cell? ⟨By, 4, none⟩ = some (.string y.s) ∧ ((w2).alloc (.cells #[.int .i64 0, .int .i64 0, .int .i64 0, .int .i64 0, .int .i64 0, .int .i64 0] TPl)).cell? ⟨By, 5, none⟩ = some (.string y.o) ∧ ((w2).alloc (.cells #[.int .i64 0, .int .i64 0, .int .i64 0, .int .i64 0, .int .i64 0, .int .i64 0] TPl)).cell? ⟨By, 6, none⟩ = some (.int .i64 y.b) ∧ ((w2).alloc (.cells #[.int .i64 0, .int .i64 0, .int .i64 0, .int .i64 0, .int .i64 0, .int .i64 0] TPl)).cell? ⟨By, 7, none⟩ = some (.int .i64 y.d) ∧ ((w2).alloc (.cells #[.int .i64 0, .int .i64 0, .int .i64 0, .int .i64 0, .int .i64 0, .int .i64 0] TPl)).cell? ⟨By, 8, none⟩ = some (.bool y.g) ∧ ((w2).alloc (.cells #[.int .i64 0, .int .i64 0, .int .i64 0, .int .i64 0, .int .i64 0, .int .i64 0] TPl)).cell? ⟨Bu, 2, none⟩ = some (.int .i64 u.c) ∧ ((w2).alloc (.cells #[.int .i64 0, .int .i64 0, .int .i64 0, .int .i64 0, .int .i64 0, .int .i64 0] TPl)).cell? ⟨Bu, 3, none⟩ = some (.int .i64 u.d) ∧ ((w2).alloc (.cells #[.int .i64 0, .int .i64 0, .int .i64 0, .int .i64 0, .int .i64 0, .int .i64 0] TPl)).cell? ⟨Bu, 4, none⟩ = some (.int .i64 u.p) := ⟨(cell3 HSt3.out.f.f).2.2, HSt3.out.a 0 _ rfl, HSt3.out.a 1 _ rfl, HSt3.out.a 2 _ rfl, HSt3.out.a 3 _ rfl, HSt3.out.a 4 _ rfl, HSt3.out.a 5 _ rfl, HSt3.out.a 6 _ rfl, HSt3.out.a 7 _ rfl, HSt3.out.a 8 _ rfl, HSt3.out.u.cell 2, HSt3.out.u.cell 3, HSt3.out.u.cell 4⟩
    have hlk := HSt3.out.f.f.count hy hyi
    rw [hc] at hlk
    refine Eng.TW.step rfl rfl (by decide) (by kernel_rfl) (by go_simp; first | done | with_reducible rfl) (⟨(cell3 (HSt3.out).f.f).2.2, (HSt3.out).a 0 _ rfl, (HSt3.out).a 1 _ rfl, (HSt3.out).a 2 _ rfl, (HSt3.out).a 3 _ rfl, (HSt3.out).a 4 _ rfl, (HSt3.out).a 5 _ rfl, (HSt3.out).a 6 _ rfl, (HSt3.out).a 7 _ rfl, (HSt3.out).a 8 _ rfl, (HSt3.out).u.cell 2, (HSt3.out).u.cell 3, (HSt3.out).u.cell 4⟩) ?_
    have HSt4 := Lib.hid (HSt3.out)
    have hSS : (((w2).alloc (.cells #[.int .i64 0, .int .i64 0, .int .i64 0, .int .i64 0, .int .i64 0, .int .i64 0] TPl))).cell? ⟨h + 3, 2, none⟩ = some (.map (some (h + 2))) ∧ (((w2).alloc (.cells #[.int .i64 0, .int .i64 0, .int .i64 0, .int .i64 0, .int .i64 0, .int .i64 0] TPl))).cell? ⟨By, 0, none⟩ = some (.int .i64 y.t) ∧ (((w2).alloc (.cells #[.int .i64 0, .int .i64 0, .int .i64 0, .int .i64 0, .int .i64 0, .int .i64 0] TPl))).cell? ⟨By, 1, none⟩ = some (.int .i64 y.i) ∧ (((w2).alloc (.cells #[.int .i64 0, .int .i64 0, .int .i64 0, .int .i64 0, .int .i64 0, .int .i64 0] TPl))).cell? ⟨By, 2, none⟩ = some (.int .i64 y.p) ∧ (((w2).alloc (.cells #[.int .i64 0, .int .i64 0, .int .i64 0, .int .i64 0, .int .i64 0, .int .i64 0] TPl))).cell? ⟨By, 3, none⟩ = some (.int .i64 y.r) ∧ (((w2).alloc (.cells #[.int .i64 0, .int .i64 0, .int .i64 0, .int .i64 0, .int .i64 0, .int .i64 0] TPl))).cell? ⟨By, 4, none⟩ = some (.string y.s) ∧ (((w2).alloc (.cells #[.int .i64 0, .int .i64 0, .int .i64 0, .int .i64 0, .int .i64 0, .int .i64 0] TPl))).cell? ⟨By, 5, none⟩ = some (.string y.o) ∧ (((w2).alloc (.cells #[.int .i64 0, .int .i64 0, .int .i64 0, .int .i64 0, .int .i64 0, .int .i64 0] TPl))).cell? ⟨By, 6, none⟩ = some (.int .i64 y.b) ∧ (((w2).alloc (.cells #[.int .i64 0, .int .i64 0, .int .i64 0, .int .i64 0, .int .i64 0, .int .i64 0] TPl))).cell? ⟨By, 7, none⟩ = some (.int .i64 y.d) ∧ (((w2).alloc (.cells #[.int .i64 0, .int .i64 0, .int .i64 0, .int .i64 0, .int .i64 0, .int .i64 0] TPl))).cell? ⟨By, 8, none⟩ = some (.bool y.g) ∧ (((w2).alloc (.cells #[.int .i64 0, .int .i64 0, .int .i64 0, .int .i64 0, .int .i64 0, .int .i64 0] TPl))).cell? ⟨Bu, 2, none⟩ = some (.int .i64 u.c) ∧ (((w2).alloc (.cells #[.int .i64 0, .int .i64 0, .int .i64 0, .int .i64 0, .int .i64 0, .int .i64 0] TPl))).cell? ⟨Bu, 3, none⟩ = some (.int .i64 u.d) ∧ (((w2).alloc (.cells #[.int .i64 0, .int .i64 0, .int .i64 0, .int .i64 0, .int .i64 0, .int .i64 0] TPl))).cell? ⟨Bu, 4, none⟩ = some (.int .i64 u.p) := ⟨(cell3 HSt4.out.f.f).2.2, HSt4.out.a 0 _ rfl, HSt4.out.a 1 _ rfl, HSt4.out.a 2 _ rfl, HSt4.out.a 3 _ rfl, HSt4.out.a 4 _ rfl, HSt4.out.a 5 _ rfl, HSt4.out.a 6 _ rfl, HSt4.out.a 7 _ rfl, HSt4.out.a 8 _ rfl, HSt4.out.u.cell 2, HSt4.out.u.cell 3, HSt4.out.u.cell 4⟩
    refine Eng.TW.take' (v := ?_) rfl rfl (by decide) (by kernel_rfl) (fun w hw => ?_) ?_
    rotate_left
    · (try dsimp only at hw); go_simp; first | done | with_reducible rfl
    have u0 := (HSt4.out.p _ (List.mem_cons_self ..)).1.cell 0
    have v0 := (HSt4.out.p _ (List.mem_cons_self ..)).1.free 0
    have u1 := (HSt4.out.p _ (List.mem_cons_self ..)).1.cell 1
    have v1 := (HSt4.out.p _ (List.mem_cons_self ..)).1.free 1
    have u2 := (HSt4.out.p _ (List.mem_cons_self ..)).1.cell 2
    have v2 := (HSt4.out.p _ (List.mem_cons_self ..)).1.free 2
    have u3 := (HSt4.out.p _ (List.mem_cons_self ..)).1.cell 3
    have v3 := (HSt4.out.p _ (List.mem_cons_self ..)).1.free 3
    have u4 := (HSt4.out.p _ (List.mem_cons_self ..)).1.cell 4
    have v4 := (HSt4.out.p _ (List.mem_cons_self ..)).1.free 4
    have u5 := (HSt4.out.p _ (List.mem_cons_self ..)).1.cell 5
    have v5 := (HSt4.out.p _ (List.mem_cons_self ..)).1.free 5
    simp only [List.getElem?_toArray, List.getElem?_cons_zero, List.getElem?_cons_succ] at u0 u1 u2 u3 u4 u5
    refine Eng.TW.step0 rfl rfl (by kernel_rfl) (by go_simp; first | done | with_reducible rfl) (⟨(cell3 (HSt2.out.allocP ⟨y.t, y.i, u.c, u.d + 1, u.p, (c : Int)⟩).f.f).2.2, (HSt2.out.allocP ⟨y.t, y.i, u.c, u.d + 1, u.p, (c : Int)⟩).a 0 _ rfl, (HSt2.out.allocP ⟨y.t, y.i, u.c, u.d + 1, u.p, (c : Int)⟩).a 1 _ rfl, (HSt2.out.allocP ⟨y.t, y.i, u.c, u.d + 1, u.p, (c : Int)⟩).a 2 _ rfl, (HSt2.out.allocP ⟨y.t, y.i, u.c, u.d + 1, u.p, (c : Int)⟩).a 3 _ rfl, (HSt2.out.allocP ⟨y.t, y.i, u.c, u.d + 1, u.p, (c : Int)⟩).a 4 _ rfl, (HSt2.out.allocP ⟨y.t, y.i, u.c, u.d + 1, u.p, (c : Int)⟩).a 5 _ rfl, (HSt2.out.allocP ⟨y.t, y.i, u.c, u.d + 1, u.p, (c : Int)⟩).a 6 _ rfl, (HSt2.out.allocP ⟨y.t, y.i, u.c, u.d + 1, u.p, (c : Int)⟩).a 7 _ rfl, (HSt2.out.allocP ⟨y.t, y.i, u.c, u.d + 1, u.p, (c : Int)⟩).a 8 _ rfl, (HSt2.out.allocP ⟨y.t, y.i, u.c, u.d + 1, u.p, (c : Int)⟩).u.cell 2, (HSt2.out.allocP ⟨y.t, y.i, u.c, u.d + 1, u.p, (c : Int)⟩).u.cell 3, (HSt2.out.allocP ⟨y.t, y.i, u.c, u.d + 1, u.p, (c : Int)⟩).u.cell 4⟩) ?_
    have HSt5 := Lib.hid (HSt2.out.allocP ⟨y.t, y.i, u.c, u.d + 1, u.p, (c : Int)⟩)
    refine Eng.TW.end_ [10, 53, 54, 55, 56, 57, 58, 59, 60, 61, 62, 63, 64, 65, 66, 67, 68, 69, 70, 71] HN.out (by kernel_rfl) (by kernel_rfl) ?_
    exact HP.out _ _ _ rfl HSt5.out
  refine Eng.TW.step rfl rfl (by decide) (by kernel_rfl) (by go_simp; first | done | with_reducible rfl) (⟨(cell3 (HSt.out.alloc).f.f).2.2, (HSt.out.alloc).a 0 _ rfl, (HSt.out.alloc).a 1 _ rfl, (HSt.out.alloc).a 2 _ rfl, (HSt.out.alloc).a 3 _ rfl, (HSt.out.alloc).a 4 _ rfl, (HSt.out.alloc).a 5 _ rfl, (HSt.out.alloc).a 6 _ rfl, (HSt.out.alloc).a 7 _ rfl, (HSt.out.alloc).a 8 _ rfl, (HSt.out.alloc).u.cell 2, (HSt.out.alloc).u.cell 3, (HSt.out.alloc).u.cell 4⟩) ?_
  have HSt2 := Lib.hid (show P9 w0 wc _ h L n m P Bu u By y [w.heap.size] z6 from HSt.out.alloc)
  have hSS : ((w.drew).alloc (.cells #[.int .i64 0, .int .i64 0, .int .i64 0, .int .i64 0, .int .i64 0, .int .i64 0] TPl)).cell? ⟨h + 3, 2, none⟩ = some (.map (some (h + 2))) ∧ ((w.drew).alloc (.cells #[.int .i64 0, .int .i64 0, .int .i64 0, .int .i64 0, .int .i64 0, .int .i64 0] TPl)).cell? ⟨By, 0, none⟩ = some (.int .i64 y.t) ∧ ((w.drew).alloc (.cells #[.int .i64 0, .int .i64 0, .int .i64 0, .int .i64 0, .int .i64 0, .int .i64 0] TPl)).cell? ⟨By, 1, none⟩ = some (.int .i64 y.i) ∧ ((w.drew).alloc (.cells #[.int .i64 0, .int .i64 0, .int .i64 0, .int .i64 0, .int .i64 0, .int .i64 0] TPl)).cell? ⟨By, 2, none⟩ = some (.int .i64 y.p) ∧ ((w.drew).alloc (.cells #[.int .i64 0, .int .i64 0, .int .i64 0, .int .i64 0, .int .i64 0, .int .i64 0] TPl)).cell? ⟨By, 3, none⟩ = some (.int .i64 y.r) ∧ ((w.drew).alloc (.cells #[.int .i64 0, .int .i64 0, .int .i64 0, .int .i64 0, .int .i64 0, .int .i64 0] TPl)).cell? ⟨By, 4, none⟩ = some (.string y.s) ∧ ((w.drew).alloc (.cells #[.int .i64 0, .int .i64 0, .int .i64 0, .int .i64 0, .int .i64 0, .int .i64 0] TPl)).cell? ⟨By, 5, none⟩ = some (.string y.o) ∧ ((w.drew).alloc (.cells #[.int .i64 0, .int .i64 0, .int .i64 0, .int .i64 0, .int .i64 0, .int .i64 0] TPl)).cell? ⟨By, 6, none⟩ = some (.int .i64 y.b) ∧ ((w.drew).alloc (.cells #[.int .i64 0, .int .i64 0, .int .i64 0, .int .i64 0, .int .i64 0, .int .i64 0] TPl)).cell? ⟨By, 7, none⟩ = some (.int .i64 y.d) ∧ ((w.drew).alloc (.cells #[.int .i64 0, .int .i64 0, .int .i64 0, .int .i64 0, .int .i64 0, .int .i64 0] TPl)).cell? ⟨By, 8, none⟩ = some (.bool y.g) ∧ ((w.drew).alloc (.cells #[.int .i64 0, .int .i64 0, .int .i64 0, .int .i64 0, .int .i64 0, .int .i64 0] TPl)).cell? ⟨Bu, 2, none⟩ = some (.int .i64 u.c) ∧ ((w.drew).alloc (.cells #[.int .i64 0, .int .i64 0, .int .i64 0, .int .i64 0, .int .i64 0, .int .i64 0] TPl)).cell? ⟨Bu, 3, none⟩ = some (.int .i64 u.d) ∧ ((w.drew).alloc (.cells #[.int .i64 0, .int .i64 0, .int .i64 0, .int .i64 0, .int .i64 0, .int .i64 0] TPl)).cell? ⟨Bu, 4, none⟩ = some (.int .i64 u.p) := ⟨(cell3 HSt2.out.f.f).2.2, HSt2.out.a 0 _ rfl, HSt2.out.a 1 _ rfl, HSt2.out.a 2 _ rfl, HSt2.out.a 3 _ rfl, HSt2.out.a 4 _ rfl, HSt2.out.a 5 _ rfl, HSt2.out.a 6 _ rfl, HSt2.out.a 7 _ rfl, HSt2.out.a 8 _ rfl, HSt2.out.u.cell 2, HSt2.out.u.cell 3, HSt2.out.u.cell 4⟩
  refine Eng.TW.call rfl rfl (by decide) (by kernel_rfl) ?_ (Key.Span y hy hyi _) ?_
  · go_simp
  rintro e w3 ⟨rfl, hb1⟩
  have HSt3 := Lib.hid (HSt2.out.fr (Fr.of_below' hb1 _))
  have hSS : w3.cell? ⟨h + 3, 2, none⟩ = some (.map (some (h + 2))) ∧ w3.cell? ⟨By, 0, none⟩ = some (.int .i64 y.t) ∧ w3.cell? ⟨By, 1, none⟩ = some (.int .i64 y.i) ∧ w3.cell? ⟨By, 2, none⟩ = some (.int .i64 y.p) ∧ w3.cell? ⟨By, 3, none⟩ = some (.int .i64 y.r) ∧ w3.cell? ⟨By, 4, none⟩ = some (.string y.s) ∧ w3.cell? ⟨By, 5, none⟩ = some (.string y.o) ∧ w3.cell? ⟨By, 6, none⟩ = some (.int .i64 y.b) ∧ w3.cell? ⟨By, 7, none⟩ = some (.int .i64 y.d) ∧ w3.cell? ⟨By, 8, none⟩ = some (.bool y.g) ∧ w3.cell? ⟨Bu, 2, none⟩ = some (.int .i64 u.c) ∧ w3.cell? ⟨Bu, 3, none⟩ = some (.int .i64 u.d) ∧ w3.cell? ⟨Bu, 4, none⟩ = some (.int .i64 u.p) := ⟨(cell3 HSt3.out.f.f).2.2, HSt3.out.a 0 _ rfl, HSt3.out.a 1 _ rfl, HSt3.out.a 2 _ rfl, HSt3.out.a 3 _ rfl, HSt3.out.a 4 _ rfl, HSt3.out.a 5 _ rfl, HSt3.out.a 6 _ rfl, HSt3.out.a 7 _ rfl, HSt3.out.a 8 _ rfl, HSt3.out.u.cell 2, HSt3.out.u.cell 3, HSt3.out.u.cell 4⟩
  clear hb1
  refine ⟨_, rfl, hSS, ?_⟩
  have hlk := HSt3.out.f.f.count hy hyi
  rw [hc] at hlk
  refine Eng.TW.step rfl rfl (by decide) (by kernel_rfl) (by go_simp; first | done | with_reducible rfl) (⟨(cell3 (HSt3.out).f.f).2.2, (HSt3.out).a 0 _ rfl, (HSt3.out).a 1 _ rfl, (HSt3.out).a 2 _ rfl, (HSt3.out).a 3 _ rfl, (HSt3.out).a 4 _ rfl, (HSt3.out).a 5 _ rfl, (HSt3.out).a 6 _ rfl, (HSt3.out).a 7 _ rfl, (HSt3.out).a 8 _ rfl, (HSt3.out).u.cell 2, (HSt3.out).u.cell 3, (HSt3.out).u.cell 4⟩) ?_
  have HSt4 := Lib.hid (HSt3.out)
  have hSS : (w3).cell? ⟨h + 3, 2, none⟩ = some (.map (some (h + 2))) ∧ (w3).cell? ⟨By, 0, none⟩ = some (.int .i64 y.t) ∧ (w3).cell? ⟨By, 1, none⟩ = some (.int .i64 y.i) ∧ (w3).cell? ⟨By, 2, none⟩ = some (.int .i64 y.p) ∧ (w3).cell? ⟨By, 3, none⟩ = some (.int .i64 y.r) ∧ (w3).cell? ⟨By, 4, none⟩ = some (.string y.s) ∧ (w3).cell? ⟨By, 5, none⟩ = some (.string y.o) ∧ (w3).cell? ⟨By, 6, none⟩ = some (.int .i64 y.b) ∧ (w3).cell? ⟨By, 7, none⟩ = some (.int .i64 y.d) ∧ (w3).cell? ⟨By, 8, none⟩ = some (.bool y.g) ∧ (w3).cell? ⟨Bu, 2, none⟩ = some (.int .i64 u.c) ∧ (w3).cell? ⟨Bu, 3, none⟩ = some (.int .i64 u.d) ∧ (w3).cell? ⟨Bu, 4, none⟩ = some (.int .i64 u.p) := ⟨(cell3 HSt4.out.f.f).2.2, HSt4.out.a 0 _ rfl, HSt4.out.a 1 _ rfl, HSt4.out.a 2 _ rfl, HSt4.out.a 3 _ rfl, HSt4.out.a 4 _ rfl, HSt4.out.a 5 _ rfl, HSt4.out.a 6 _ rfl, HSt4.out.a 7 _ rfl, HSt4.out.a 8 _ rfl, HSt4.out.u.cell 2, HSt4.out.u.cell 3, HSt4.out.u.cell 4⟩
  refine Eng.TW.take' (v := ?_) rfl rfl (by decide) (by kernel_rfl) (fun w hw => ?_) ?_
  rotate_left
  · (try dsimp only at hw); go_simp; first | done | with_reducible rfl
  have u0 := (HSt4.out.p _ (List.mem_cons_self ..)).1.cell 0
  have v0 := (HSt4.out.p _ (List.mem_cons_self ..)).1.free 0
  have u1 := (HSt4.out.p _ (List.mem_cons_self ..)).1.cell 1
  have v1 := (HSt4.out.p _ (List.mem_cons_self ..)).1.free 1
  have u2 := (HSt4.out.p _ (List.mem_cons_self ..)).1.cell 2
  have v2 := (HSt4.out.p _ (List.mem_cons_self ..)).1.free 2
  have u3 := (HSt4.out.p _ (List.mem_cons_self ..)).1.cell 3
  have v3 := (HSt4.out.p _ (List.mem_cons_self ..)).1.free 3
  have u4 := (HSt4.out.p _ (List.mem_cons_self ..)).1.cell 4
  have v4 := (HSt4.out.p _ (List.mem_cons_self ..)).1.free 4
  have u5 := (HSt4.out.p _ (List.mem_cons_self ..)).1.cell 5
  have v5 := (HSt4.out.p _ (List.mem_cons_self ..)).1.free 5
  simp only [List.getElem?_toArray, List.getElem?_cons_zero, List.getElem?_cons_succ] at u0 u1 u2 u3 u4 u5
  refine Eng.TW.step0 rfl rfl (by kernel_rfl) (by go_simp; first | done | with_reducible rfl) (⟨(cell3 (HSt4.out.store ⟨y.t, y.i, u.c, u.d + 1, u.p, (c : Int)⟩).f.f).2.2, (HSt4.out.store ⟨y.t, y.i, u.c, u.d + 1, u.p, (c : Int)⟩).a 0 _ rfl, (HSt4.out.store ⟨y.t, y.i, u.c, u.d + 1, u.p, (c : Int)⟩).a 1 _ rfl, (HSt4.out.store ⟨y.t, y.i, u.c, u.d + 1, u.p, (c : Int)⟩).a 2 _ rfl, (HSt4.out.store ⟨y.t, y.i, u.c, u.d + 1, u.p, (c : Int)⟩).a 3 _ rfl, (HSt4.out.store ⟨y.t, y.i, u.c, u.d + 1, u.p, (c : Int)⟩).a 4 _ rfl, (HSt4.out.store ⟨y.t, y.i, u.c, u.d + 1, u.p, (c : Int)⟩).a 5 _ rfl, (HSt4.out.store ⟨y.t, y.i, u.c, u.d + 1, u.p, (c : Int)⟩).a 6 _ rfl, (HSt4.out.store ⟨y.t, y.i, u.c, u.d + 1, u.p, (c : Int)⟩).a 7 _ rfl, (HSt4.out.store ⟨y.t, y.i, u.c, u.d + 1, u.p, (c : Int)⟩).a 8 _ rfl, (HSt4.out.store ⟨y.t, y.i, u.c, u.d + 1, u.p, (c : Int)⟩).u.cell 2, (HSt4.out.store ⟨y.t, y.i, u.c, u.d + 1, u.p, (c : Int)⟩).u.cell 3, (HSt4.out.store ⟨y.t, y.i, u.c, u.d + 1, u.p, (c : Int)⟩).u.cell 4⟩) ?_
  have HSt5 := Lib.hid (HSt4.out.store ⟨y.t, y.i, u.c, u.d + 1, u.p, (c : Int)⟩)
  refine Eng.TW.end_ [10, 53, 54, 55, 56, 57, 58, 59, 60, 61, 62, 63, 64, 65, 66, 67, 68, 69, 70, 71] HN.out (by kernel_rfl) (by kernel_rfl) ?_
  exact HP.out _ _ _ rfl HSt5.out

/-- Region 12: the place is noted. -/
structure P12 (w0 wc w : World) (h : Nat) (L : List Sn) (n m : Nat) (P : Int → Int → Option Pc) (By : Nat) (y : Sn) (Bp : Nat) (p : Pc) : Prop where
  f : Fq w0 wc w h L n m P
  a : At w By 0 y
  p : Bk w Bp p.arr TPl
  n : wc.heap.size ≤ By ∧ wc.heap.size ≤ Bp
theorem P12.fr {w0 wc w w' : World} {h : Nat} {L : List Sn} {n m : Nat} {P : Int → Int → Option Pc} {By : Nat} {y : Sn} {Bp : Nat} {p : Pc} (H : P12 w0 wc w h L n m P By y Bp p) (hf : Fr (fun _ => False) w w') : P12 w0 wc w' h L n m P By y Bp p := ⟨H.f.fr hf, H.a.keep hf, H.p.fr hf (fun _ _ h => h), H.n⟩
theorem P12.put {w0 wc w w' : World} {h : Nat} {L : List Sn} {n m : Nat} {P : Int → Int → Option Pc} {By : Nat} {y : Sn} {Bp : Nat} {p : Pc} {m' : Nat} {P' : Int → Int → Option Pc} (H : P12 w0 wc w h L n m P By y Bp p) (h1 : Fq w0 wc w' h L n m' P') (hf : Fr (· = h + 1) w w') : P12 w0 wc w' h L n m' P' By y Bp p :=
  ⟨h1, H.a.fr hf (fun e => by have := H.n.1; have := H.f.z; omega), H.p.fr hf (fun k hk e => by simp at hk; have := H.n.2; have := H.f.z; omega), H.n⟩
set_option maxRecDepth 100000 in
set_option maxHeartbeats 400000 in
theorem pc12 {ops : Array Oper} (hops : Eng.fnOps Tryz.f99 12 = ops) (a0 : Act) (Q : Exit → Act → World → Prop) (w0 wc w : World) (h : Nat) (L : List Sn) (n m : Nat) (P : Int → Int → Option Pc) (By : Nat) (y : Sn) (Bp : Nat) (p : Pc) (hy : wf64 y.t) (hyi : wf64 y.i) (hm : m + 1 < 1000000) (hst : P12 w0 wc w h L n m P By y Bp p)
    (hn : a0.tmps.size = 90) (h_0 : a0.tmps.getD 0 undef = .pointer (some ⟨h + 3, 0, none⟩)) (h_8 : a0.tmps.getD 8 undef = .pointer (some ⟨By, 0, none⟩)) (h_10 : a0.tmps.getD 10 undef = .pointer (some ⟨Bp, 0, none⟩))
    (hpost : ∀ (x : Nat → Value) (w' : World), P12 w0 wc w' h L n (m + 1) (updP P y.t y.i p) By y Bp p → Q .normal (Eng.setAll a0 [76, 77, 78, 79, 80, 81, 82] x) w') :
    (Code.region 12 ops true).wp Tryz.prog Q a0 w := by
  simp only [Eng.fnOps, Eng.regOps, Tryz.f99, Option.bind_some, Option.getD_some, Nat.reduceEqDiff, ↓reduceIte, Nat.reduceBEq] at hops
  subst hops
  have HSt := Lib.hid (hst.fr (Fr.drew _ _))
  have hSS : w.drew.cell? ⟨h + 3, 1, none⟩ = some (.map (some (h + 1))) ∧ w.drew.cell? ⟨By, 0, none⟩ = some (.int .i64 y.t) ∧ w.drew.cell? ⟨By, 1, none⟩ = some (.int .i64 y.i) ∧ w.drew.cell? ⟨By, 2, none⟩ = some (.int .i64 y.p) ∧ w.drew.cell? ⟨By, 3, none⟩ = some (.int .i64 y.r) ∧ w.drew.cell? ⟨By, 4, none⟩ = some (.string y.s) ∧ w.drew.cell? ⟨By, 5, none⟩ = some (.string y.o) ∧ w.drew.cell? ⟨By, 6, none⟩ = some (.int .i64 y.b) ∧ w.drew.cell? ⟨By, 7, none⟩ = some (.int .i64 y.d) ∧ w.drew.cell? ⟨By, 8, none⟩ = some (.bool y.g) ∧ w.drew.cell? ⟨Bp, 0, none⟩ = some (.int .i64 p.t) ∧ w.drew.cell? ⟨Bp, 1, none⟩ = some (.int .i64 p.i) ∧ w.drew.cell? ⟨Bp, 2, none⟩ = some (.int .i64 p.c) ∧ w.drew.cell? ⟨Bp, 3, none⟩ = some (.int .i64 p.d) ∧ w.drew.cell? ⟨Bp, 4, none⟩ = some (.int .i64 p.p) ∧ w.drew.cell? ⟨Bp, 5, none⟩ = some (.int .i64 p.f) := ⟨(cell3 HSt.out.f.f).2.1, HSt.out.a 0 _ rfl, HSt.out.a 1 _ rfl, HSt.out.a 2 _ rfl, HSt.out.a 3 _ rfl, HSt.out.a 4 _ rfl, HSt.out.a 5 _ rfl, HSt.out.a 6 _ rfl, HSt.out.a 7 _ rfl, HSt.out.a 8 _ rfl, HSt.out.p.cell 0, HSt.out.p.cell 1, HSt.out.p.cell 2, HSt.out.p.cell 3, HSt.out.p.cell 4, HSt.out.p.cell 5⟩
  refine Eng.regionT (.take 0 (.take 1 (.take 2 (.take 3 (.take 4 (.take 6 (.alt 5 (.alt 7 (.done) (.stop)) (.stop)))))))) (fun w' => w'.cell? ⟨h + 3, 1, none⟩ = some (.map (some (h + 1))) ∧ w'.cell? ⟨By, 0, none⟩ = some (.int .i64 y.t) ∧ w'.cell? ⟨By, 1, none⟩ = some (.int .i64 y.i) ∧ w'.cell? ⟨By, 2, none⟩ = some (.int .i64 y.p) ∧ w'.cell? ⟨By, 3, none⟩ = some (.int .i64 y.r) ∧ w'.cell? ⟨By, 4, none⟩ = some (.string y.s) ∧ w'.cell? ⟨By, 5, none⟩ = some (.string y.o) ∧ w'.cell? ⟨By, 6, none⟩ = some (.int .i64 y.b) ∧ w'.cell? ⟨By, 7, none⟩ = some (.int .i64 y.d) ∧ w'.cell? ⟨By, 8, none⟩ = some (.bool y.g) ∧ w'.cell? ⟨Bp, 0, none⟩ = some (.int .i64 p.t) ∧ w'.cell? ⟨Bp, 1, none⟩ = some (.int .i64 p.i) ∧ w'.cell? ⟨Bp, 2, none⟩ = some (.int .i64 p.c) ∧ w'.cell? ⟨Bp, 3, none⟩ = some (.int .i64 p.d) ∧ w'.cell? ⟨Bp, 4, none⟩ = some (.int .i64 p.p) ∧ w'.cell? ⟨Bp, 5, none⟩ = some (.int .i64 p.f)) (by kernel_rfl) 90 hn (by kernel_rfl) (by kernel_rfl) (by kernel_rfl) (hSS) (fun a b ha hb => ?_)
  subst ha
  have hb0 : b 0 = .pointer (some ⟨h + 3, 0, none⟩) := (hb 0).symm.trans h_0
  have hb8 : b 8 = .pointer (some ⟨By, 0, none⟩) := (hb 8).symm.trans h_8
  have hb10 : b 10 = .pointer (some ⟨Bp, 0, none⟩) := (hb 10).symm.trans h_10
  clear hb h_0 h_8 h_10
  have HP := Lib.hid hpost; have HN := Lib.hid hn
  clear hpost hn
  refine Eng.TW.take' (v := ?_) rfl rfl (by decide) (by kernel_rfl) (fun w hw => ?_) ?_
  rotate_left
  · (try dsimp only at hw); go_simp; first | done | with_reducible rfl
  refine Eng.TW.take' (v := ?_) rfl rfl (by decide) (by kernel_rfl) (fun w hw => ?_) ?_
  rotate_left
  · (try dsimp only at hw); go_simp; first | done | with_reducible rfl
  refine Eng.TW.take' (v := ?_) rfl rfl (by decide) (by kernel_rfl) (fun w hw => ?_) ?_
  rotate_left
  · (try dsimp only at hw); go_simp; first | done | with_reducible rfl
  refine Eng.TW.take' (v := ?_) rfl rfl (by decide) (by kernel_rfl) (fun w hw => ?_) ?_
  rotate_left
  · (try dsimp only at hw); go_simp; first | done | with_reducible rfl
  refine Eng.TW.take' (v := ?_) rfl rfl (by decide) (by kernel_rfl) (fun w hw => ?_) ?_
  rotate_left
  · (try dsimp only at hw); go_simp; first | done | with_reducible rfl
  refine Eng.TW.take' (v := ?_) rfl rfl (by decide) (by kernel_rfl) (fun w hw => ?_) ?_
  rotate_left
  · (try dsimp only at hw); go_simp; first | done | with_reducible rfl
  refine Eng.TW.call rfl rfl (by decide) (by kernel_rfl) ?_ (Key.Span y hy hyi _) ?_
  · go_simp
  rintro e w2 ⟨rfl, hb1⟩
  have HSt2 := Lib.hid (HSt.out.fr (Fr.of_below' hb1 _))
  have hSS : w2.cell? ⟨h + 3, 1, none⟩ = some (.map (some (h + 1))) ∧ w2.cell? ⟨By, 0, none⟩ = some (.int .i64 y.t) ∧ w2.cell? ⟨By, 1, none⟩ = some (.int .i64 y.i) ∧ w2.cell? ⟨By, 2, none⟩ = some (.int .i64 y.p) ∧ w2.cell? ⟨By, 3, none⟩ = some (.int .i64 y.r) ∧ w2.cell? ⟨By, 4, none⟩ = some (.string y.s) ∧ w2.cell? ⟨By, 5, none⟩ = some (.string y.o) ∧ w2.cell? ⟨By, 6, none⟩ = some (.int .i64 y.b) ∧ w2.cell? ⟨By, 7, none⟩ = some (.int .i64 y.d) ∧ w2.cell? ⟨By, 8, none⟩ = some (.bool y.g) ∧ w2.cell? ⟨Bp, 0, none⟩ = some (.int .i64 p.t) ∧ w2.cell? ⟨Bp, 1, none⟩ = some (.int .i64 p.i) ∧ w2.cell? ⟨Bp, 2, none⟩ = some (.int .i64 p.c) ∧ w2.cell? ⟨Bp, 3, none⟩ = some (.int .i64 p.d) ∧ w2.cell? ⟨Bp, 4, none⟩ = some (.int .i64 p.p) ∧ w2.cell? ⟨Bp, 5, none⟩ = some (.int .i64 p.f) := ⟨(cell3 HSt2.out.f.f).2.1, HSt2.out.a 0 _ rfl, HSt2.out.a 1 _ rfl, HSt2.out.a 2 _ rfl, HSt2.out.a 3 _ rfl, HSt2.out.a 4 _ rfl, HSt2.out.a 5 _ rfl, HSt2.out.a 6 _ rfl, HSt2.out.a 7 _ rfl, HSt2.out.a 8 _ rfl, HSt2.out.p.cell 0, HSt2.out.p.cell 1, HSt2.out.p.cell 2, HSt2.out.p.cell 3, HSt2.out.p.cell 4, HSt2.out.p.cell 5⟩
  clear hb1
  refine ⟨_, rfl, hSS, ?_⟩
  obtain ⟨w9, hup, hm9, hf9⟩ := HSt2.out.f.put hy hyi p hm
  refine Eng.TW.step0 rfl rfl (by kernel_rfl) (by go_simp; first | done | with_reducible rfl) (⟨(cell3 ((HSt2.out.put hm9 hf9)).f.f).2.1, ((HSt2.out.put hm9 hf9)).a 0 _ rfl, ((HSt2.out.put hm9 hf9)).a 1 _ rfl, ((HSt2.out.put hm9 hf9)).a 2 _ rfl, ((HSt2.out.put hm9 hf9)).a 3 _ rfl, ((HSt2.out.put hm9 hf9)).a 4 _ rfl, ((HSt2.out.put hm9 hf9)).a 5 _ rfl, ((HSt2.out.put hm9 hf9)).a 6 _ rfl, ((HSt2.out.put hm9 hf9)).a 7 _ rfl, ((HSt2.out.put hm9 hf9)).a 8 _ rfl, ((HSt2.out.put hm9 hf9)).p.cell 0, ((HSt2.out.put hm9 hf9)).p.cell 1, ((HSt2.out.put hm9 hf9)).p.cell 2, ((HSt2.out.put hm9 hf9)).p.cell 3, ((HSt2.out.put hm9 hf9)).p.cell 4, ((HSt2.out.put hm9 hf9)).p.cell 5⟩) ?_
  have HSt3 := Lib.hid ((HSt2.out.put hm9 hf9))
  have hSS : (w9).cell? ⟨h + 3, 1, none⟩ = some (.map (some (h + 1))) ∧ (w9).cell? ⟨By, 0, none⟩ = some (.int .i64 y.t) ∧ (w9).cell? ⟨By, 1, none⟩ = some (.int .i64 y.i) ∧ (w9).cell? ⟨By, 2, none⟩ = some (.int .i64 y.p) ∧ (w9).cell? ⟨By, 3, none⟩ = some (.int .i64 y.r) ∧ (w9).cell? ⟨By, 4, none⟩ = some (.string y.s) ∧ (w9).cell? ⟨By, 5, none⟩ = some (.string y.o) ∧ (w9).cell? ⟨By, 6, none⟩ = some (.int .i64 y.b) ∧ (w9).cell? ⟨By, 7, none⟩ = some (.int .i64 y.d) ∧ (w9).cell? ⟨By, 8, none⟩ = some (.bool y.g) ∧ (w9).cell? ⟨Bp, 0, none⟩ = some (.int .i64 p.t) ∧ (w9).cell? ⟨Bp, 1, none⟩ = some (.int .i64 p.i) ∧ (w9).cell? ⟨Bp, 2, none⟩ = some (.int .i64 p.c) ∧ (w9).cell? ⟨Bp, 3, none⟩ = some (.int .i64 p.d) ∧ (w9).cell? ⟨Bp, 4, none⟩ = some (.int .i64 p.p) ∧ (w9).cell? ⟨Bp, 5, none⟩ = some (.int .i64 p.f) := ⟨(cell3 HSt3.out.f.f).2.1, HSt3.out.a 0 _ rfl, HSt3.out.a 1 _ rfl, HSt3.out.a 2 _ rfl, HSt3.out.a 3 _ rfl, HSt3.out.a 4 _ rfl, HSt3.out.a 5 _ rfl, HSt3.out.a 6 _ rfl, HSt3.out.a 7 _ rfl, HSt3.out.a 8 _ rfl, HSt3.out.p.cell 0, HSt3.out.p.cell 1, HSt3.out.p.cell 2, HSt3.out.p.cell 3, HSt3.out.p.cell 4, HSt3.out.p.cell 5⟩
  refine Eng.TW.end_ [76, 77, 78, 79, 80, 81, 82] HN.out (by kernel_rfl) (by kernel_rfl) ?_
  exact HP.out _ _ HSt3.out

/-- Region 13: the answer. -/
structure P13 (w0 wc w : World) (h : Nat) (L : List Sn) (n m : Nat) (P : Int → Int → Option Pc) (Bx : Nat) (x : Sn) (Br : Nat) (p : Pc) : Prop where
  f : Fq w0 wc w h L n m P
  a : At w Bx 0 x
  p : Bk w Br p.arr TPl
  n : wc.heap.size ≤ Br ∧ Br ≠ Bx
theorem P13.fr {w0 wc w w' : World} {h : Nat} {L : List Sn} {n m : Nat} {P : Int → Int → Option Pc} {Bx : Nat} {x : Sn} {Br : Nat} {p : Pc} (H : P13 w0 wc w h L n m P Bx x Br p) (hf : Fr (fun _ => False) w w') : P13 w0 wc w' h L n m P Bx x Br p := ⟨H.f.fr hf, H.a.keep hf, H.p.fr hf (fun _ _ h => h), H.n⟩
theorem P13.store {w0 wc w : World} {h : Nat} {L : List Sn} {n m : Nat} {P : Int → Int → Option Pc} {Bx : Nat} {x : Sn} {Br : Nat} {p : Pc} (H : P13 w0 wc w h L n m P Bx x Br p) (q : Pc) : P13 w0 wc (put6 w Br q) h L n m P Bx x Br q :=
  ⟨H.f.off (put6_fr w Br q) H.n.1, H.a.fr (put6_fr w Br q) (fun e => H.n.2 e.symm), put6_bk H.p q, H.n⟩
set_option maxRecDepth 100000 in
set_option maxHeartbeats 400000 in
theorem pc13 {ops : Array Oper} (hops : Eng.fnOps Tryz.f99 13 = ops) (a0 : Act) (Q : Exit → Act → World → Prop) (w0 wc w : World) (h : Nat) (L : List Sn) (n m : Nat) (P : Int → Int → Option Pc) (Bx : Nat) (y : Sn) (Br : Nat) (r p : Pc) (hy : wf64 y.t) (hyi : wf64 y.i) (hp : P y.t y.i = some p) (hst : P13 w0 wc w h L n m P Bx y Br r)
    (hn : a0.tmps.size = 90) (h_0 : a0.tmps.getD 0 undef = .pointer (some ⟨h + 3, 0, none⟩)) (h_3 : a0.tmps.getD 3 undef = .pointer (some ⟨Bx, 0, none⟩)) (h_4 : a0.tmps.getD 4 undef = .pointer (some ⟨Br, 0, none⟩))
    (hpost : ∀ (x : Nat → Value) (w' : World), P13 w0 wc w' h L n m P Bx y Br p → Q .normal (Eng.setAll a0 [83, 84, 85, 86, 87, 88, 89] x) w') :
    (Code.region 13 ops true).wp Tryz.prog Q a0 w := by
  simp only [Eng.fnOps, Eng.regOps, Tryz.f99, Option.bind_some, Option.getD_some, Nat.reduceEqDiff, ↓reduceIte, Nat.reduceBEq] at hops
  subst hops
  have HSt := Lib.hid (hst.fr (Fr.drew _ _))
  have hSS : w.drew.cell? ⟨h + 3, 1, none⟩ = some (.map (some (h + 1))) ∧ w.drew.cell? ⟨Bx, 0, none⟩ = some (.int .i64 y.t) ∧ w.drew.cell? ⟨Bx, 1, none⟩ = some (.int .i64 y.i) ∧ w.drew.cell? ⟨Bx, 2, none⟩ = some (.int .i64 y.p) ∧ w.drew.cell? ⟨Bx, 3, none⟩ = some (.int .i64 y.r) ∧ w.drew.cell? ⟨Bx, 4, none⟩ = some (.string y.s) ∧ w.drew.cell? ⟨Bx, 5, none⟩ = some (.string y.o) ∧ w.drew.cell? ⟨Bx, 6, none⟩ = some (.int .i64 y.b) ∧ w.drew.cell? ⟨Bx, 7, none⟩ = some (.int .i64 y.d) ∧ w.drew.cell? ⟨Bx, 8, none⟩ = some (.bool y.g) := ⟨(cell3 HSt.out.f.f).2.1, HSt.out.a 0 _ rfl, HSt.out.a 1 _ rfl, HSt.out.a 2 _ rfl, HSt.out.a 3 _ rfl, HSt.out.a 4 _ rfl, HSt.out.a 5 _ rfl, HSt.out.a 6 _ rfl, HSt.out.a 7 _ rfl, HSt.out.a 8 _ rfl⟩
  refine Eng.regionT (.take 0 (.take 1 (.take 2 (.take 3 (.take 4 (.alt 5 (.alt 6 (.alt 7 (.done) (.stop)) (.stop)) (.stop))))))) (fun w' => w'.cell? ⟨h + 3, 1, none⟩ = some (.map (some (h + 1))) ∧ w'.cell? ⟨Bx, 0, none⟩ = some (.int .i64 y.t) ∧ w'.cell? ⟨Bx, 1, none⟩ = some (.int .i64 y.i) ∧ w'.cell? ⟨Bx, 2, none⟩ = some (.int .i64 y.p) ∧ w'.cell? ⟨Bx, 3, none⟩ = some (.int .i64 y.r) ∧ w'.cell? ⟨Bx, 4, none⟩ = some (.string y.s) ∧ w'.cell? ⟨Bx, 5, none⟩ = some (.string y.o) ∧ w'.cell? ⟨Bx, 6, none⟩ = some (.int .i64 y.b) ∧ w'.cell? ⟨Bx, 7, none⟩ = some (.int .i64 y.d) ∧ w'.cell? ⟨Bx, 8, none⟩ = some (.bool y.g)) (by kernel_rfl) 90 hn (by kernel_rfl) (by kernel_rfl) (by kernel_rfl) (hSS) (fun a b ha hb => ?_)
  subst ha
  have hb0 : b 0 = .pointer (some ⟨h + 3, 0, none⟩) := (hb 0).symm.trans h_0
  have hb3 : b 3 = .pointer (some ⟨Bx, 0, none⟩) := (hb 3).symm.trans h_3
  have hb4 : b 4 = .pointer (some ⟨Br, 0, none⟩) := (hb 4).symm.trans h_4
  clear hb h_0 h_3 h_4
  have HP := Lib.hid hpost; have HN := Lib.hid hn
  clear hpost hn
  refine Eng.TW.take' (v := ?_) rfl rfl (by decide) (by kernel_rfl) (fun w hw => ?_) ?_
  rotate_left
  · (try dsimp only at hw); go_simp; first | done | with_reducible rfl
  refine Eng.TW.take' (v := ?_) rfl rfl (by decide) (by kernel_rfl) (fun w hw => ?_) ?_
  rotate_left
  · (try dsimp only at hw); go_simp; first | done | with_reducible rfl
  refine Eng.TW.take' (v := ?_) rfl rfl (by decide) (by kernel_rfl) (fun w hw => ?_) ?_
  rotate_left
  · (try dsimp only at hw); go_simp; first | done | with_reducible rfl
  refine Eng.TW.take' (v := ?_) rfl rfl (by decide) (by kernel_rfl) (fun w hw => ?_) ?_
  rotate_left
  · (try dsimp only at hw); go_simp; first | done | with_reducible rfl
  refine Eng.TW.take' (v := ?_) rfl rfl (by decide) (by kernel_rfl) (fun w hw => ?_) ?_
  rotate_left
  · (try dsimp only at hw); go_simp; first | done | with_reducible rfl
  refine Eng.TW.call rfl rfl (by decide) (by kernel_rfl) ?_ (Key.Span y hy hyi _) ?_
  · go_simp
  rintro e w2 ⟨rfl, hb1⟩
  have HSt2 := Lib.hid (HSt.out.fr (Fr.of_below' hb1 _))
  have hSS : w2.cell? ⟨h + 3, 1, none⟩ = some (.map (some (h + 1))) ∧ w2.cell? ⟨Bx, 0, none⟩ = some (.int .i64 y.t) ∧ w2.cell? ⟨Bx, 1, none⟩ = some (.int .i64 y.i) ∧ w2.cell? ⟨Bx, 2, none⟩ = some (.int .i64 y.p) ∧ w2.cell? ⟨Bx, 3, none⟩ = some (.int .i64 y.r) ∧ w2.cell? ⟨Bx, 4, none⟩ = some (.string y.s) ∧ w2.cell? ⟨Bx, 5, none⟩ = some (.string y.o) ∧ w2.cell? ⟨Bx, 6, none⟩ = some (.int .i64 y.b) ∧ w2.cell? ⟨Bx, 7, none⟩ = some (.int .i64 y.d) ∧ w2.cell? ⟨Bx, 8, none⟩ = some (.bool y.g) := ⟨(cell3 HSt2.out.f.f).2.1, HSt2.out.a 0 _ rfl, HSt2.out.a 1 _ rfl, HSt2.out.a 2 _ rfl, HSt2.out.a 3 _ rfl, HSt2.out.a 4 _ rfl, HSt2.out.a 5 _ rfl, HSt2.out.a 6 _ rfl, HSt2.out.a 7 _ rfl, HSt2.out.a 8 _ rfl⟩
  clear hb1
  refine ⟨_, rfl, hSS, ?_⟩
  have hlk := HSt2.out.f.f.known hy hyi hp
  refine Eng.TW.step rfl rfl (by decide) (by kernel_rfl) (by go_simp; first | done | with_reducible rfl) (⟨(cell3 (HSt2.out).f.f).2.1, (HSt2.out).a 0 _ rfl, (HSt2.out).a 1 _ rfl, (HSt2.out).a 2 _ rfl, (HSt2.out).a 3 _ rfl, (HSt2.out).a 4 _ rfl, (HSt2.out).a 5 _ rfl, (HSt2.out).a 6 _ rfl, (HSt2.out).a 7 _ rfl, (HSt2.out).a 8 _ rfl⟩) ?_
  have HSt3 := Lib.hid (HSt2.out)
  have hSS : (w2).cell? ⟨h + 3, 1, none⟩ = some (.map (some (h + 1))) ∧ (w2).cell? ⟨Bx, 0, none⟩ = some (.int .i64 y.t) ∧ (w2).cell? ⟨Bx, 1, none⟩ = some (.int .i64 y.i) ∧ (w2).cell? ⟨Bx, 2, none⟩ = some (.int .i64 y.p) ∧ (w2).cell? ⟨Bx, 3, none⟩ = some (.int .i64 y.r) ∧ (w2).cell? ⟨Bx, 4, none⟩ = some (.string y.s) ∧ (w2).cell? ⟨Bx, 5, none⟩ = some (.string y.o) ∧ (w2).cell? ⟨Bx, 6, none⟩ = some (.int .i64 y.b) ∧ (w2).cell? ⟨Bx, 7, none⟩ = some (.int .i64 y.d) ∧ (w2).cell? ⟨Bx, 8, none⟩ = some (.bool y.g) := ⟨(cell3 HSt3.out.f.f).2.1, HSt3.out.a 0 _ rfl, HSt3.out.a 1 _ rfl, HSt3.out.a 2 _ rfl, HSt3.out.a 3 _ rfl, HSt3.out.a 4 _ rfl, HSt3.out.a 5 _ rfl, HSt3.out.a 6 _ rfl, HSt3.out.a 7 _ rfl, HSt3.out.a 8 _ rfl⟩
  have u0 : (w2).cell? ⟨Br, 0, none⟩ = some (.int .i64 r.t) := HSt3.out.p.cell 0
  have v0 : (w2).frozen? ⟨Br, 0, none⟩ = false := HSt3.out.p.free 0
  have u1 : (w2).cell? ⟨Br, 1, none⟩ = some (.int .i64 r.i) := HSt3.out.p.cell 1
  have v1 : (w2).frozen? ⟨Br, 1, none⟩ = false := HSt3.out.p.free 1
  have u2 : (w2).cell? ⟨Br, 2, none⟩ = some (.int .i64 r.c) := HSt3.out.p.cell 2
  have v2 : (w2).frozen? ⟨Br, 2, none⟩ = false := HSt3.out.p.free 2
  have u3 : (w2).cell? ⟨Br, 3, none⟩ = some (.int .i64 r.d) := HSt3.out.p.cell 3
  have v3 : (w2).frozen? ⟨Br, 3, none⟩ = false := HSt3.out.p.free 3
  have u4 : (w2).cell? ⟨Br, 4, none⟩ = some (.int .i64 r.p) := HSt3.out.p.cell 4
  have v4 : (w2).frozen? ⟨Br, 4, none⟩ = false := HSt3.out.p.free 4
  have u5 : (w2).cell? ⟨Br, 5, none⟩ = some (.int .i64 r.f) := HSt3.out.p.cell 5
  have v5 : (w2).frozen? ⟨Br, 5, none⟩ = false := HSt3.out.p.free 5
  refine Eng.TW.step0 rfl rfl (by kernel_rfl) (by go_simp; first | done | with_reducible rfl) (⟨(cell3 (HSt3.out.store p).f.f).2.1, (HSt3.out.store p).a 0 _ rfl, (HSt3.out.store p).a 1 _ rfl, (HSt3.out.store p).a 2 _ rfl, (HSt3.out.store p).a 3 _ rfl, (HSt3.out.store p).a 4 _ rfl, (HSt3.out.store p).a 5 _ rfl, (HSt3.out.store p).a 6 _ rfl, (HSt3.out.store p).a 7 _ rfl, (HSt3.out.store p).a 8 _ rfl⟩) ?_
  have HSt4 := Lib.hid (HSt3.out.store p)
  have hSS : ((((((((w2).setCell ⟨Br, 0, none⟩ (.int .i64 p.t)).setCell ⟨Br, 1, none⟩ (.int .i64 p.i)).setCell ⟨Br, 2, none⟩ (.int .i64 p.c)).setCell ⟨Br, 3, none⟩ (.int .i64 p.d)).setCell ⟨Br, 4, none⟩ (.int .i64 p.p)).setCell ⟨Br, 5, none⟩ (.int .i64 p.f))).cell? ⟨h + 3, 1, none⟩ = some (.map (some (h + 1))) ∧ ((((((((w2).setCell ⟨Br, 0, none⟩ (.int .i64 p.t)).setCell ⟨Br, 1, none⟩ (.int .i64 p.i)).setCell ⟨Br, 2, none⟩ (.int .i64 p.c)).setCell ⟨Br, 3, none⟩ (.int .i64 p.d)).setCell ⟨Br, 4, none⟩ (.int .i64 p.p)).setCell ⟨Br, 5, none⟩ (.int .i64 p.f))).cell? ⟨Bx, 0, none⟩ = some (.int .i64 y.t) ∧ ((((((((w2).setCell ⟨Br, 0, none⟩ (.int .i64 p.t)).setCell ⟨Br, 1, none⟩ (.int .i64 p.i)).setCell ⟨Br, 2, none⟩ (.int .i64 p.c)).setCell ⟨Br, 3, none⟩ (.int .i64 p.d)).setCell ⟨Br, 4, none⟩ (.int .i64 p.p)).setCell ⟨Br, 5, none⟩ (.int .i64 p.f))).cell? ⟨Bx, 1, none⟩ = some (.int .i64 y.i) ∧ ((((((((w2).setCell ⟨Br, 0, none⟩ (.int .i64 p.t)).setCell ⟨Br, 1, none⟩ (.int .i64 p.i)).setCell ⟨Br, 2, none⟩ (.int .i64 p.c)).setCell ⟨Br, 3, none⟩ (.int .i64 p.d)).setCell ⟨Br, 4, none⟩ (.int .i64 p.p)).setCell ⟨Br, 5, none⟩ (.int .i64 p.f))).cell? ⟨Bx, 2, none⟩ = some (.int .i64 y.p) ∧ ((((((((w2).setCell ⟨Br, 0, none⟩ (.int .i64 p.t)).setCell ⟨Br, 1, none⟩ (.int .i64 p.i)).setCell ⟨Br, 2, none⟩ (.int .i64 p.c)).setCell ⟨Br, 3, none⟩ (.int .i64 p.d)).setCell ⟨Br, 4, none⟩ (.int .i64 p.p)).setCell ⟨Br, 5, none⟩ (.int .i64 p.f))).cell? ⟨Bx, 3, none⟩ = some (.int .i64 y.r) ∧ ((((((((w2).setCell ⟨Br, 0, none⟩ (.int .i64 p.t)).setCell ⟨Br, 1, none⟩ (.int .i64 p.i)).setCell ⟨Br, 2, none⟩ (.int .i64 p.c)).setCell ⟨Br, 3, none⟩ (.int .i64 p.d)).setCell ⟨Br, 4, none⟩ (.int .i64 p.p)).setCell ⟨Br, 5, none⟩ (.int .i64 p.f))).cell? ⟨Bx, 4, none⟩ = some (.string y.s) ∧ ((((((((w2).setCell ⟨Br, 0, none⟩ (.int .i64 p.t)).setCell ⟨Br, 1, none⟩ (.int .i64 p.i)).setCell ⟨Br, 2, none⟩ (.int .i64 p.c)).setCell ⟨Br, 3, none⟩ (.int .i64 p.d)).setCell ⟨Br, 4, none⟩ (.int .i64 p.p)).setCell ⟨Br, 5, none⟩ (.int .i64 p.f))).cell? ⟨Bx, 5, none⟩ = some (.string y.o) ∧ ((((((((w2).setCell ⟨Br, 0, none⟩ (.int .i64 p.t)).setCell ⟨Br, 1, none⟩ (.int .i64 p.i)).setCell ⟨Br, 2, none⟩ (.int .i64 p.c)).setCell ⟨Br, 3, none⟩ (.int .i64 p.d)).setCell ⟨Br, 4, none⟩ (.int .i64 p.p)).setCell ⟨Br, 5, none⟩ (.int .i64 p.f))).cell? ⟨Bx, 6, none⟩ = some (.int .i64 y.b) ∧ ((((((((w2).setCell ⟨Br, 0, none⟩ (.int .i64 p.t)).setCell ⟨Br, 1, none⟩ (.int .i64 p.i)).setCell ⟨Br, 2, none⟩ (.int .i64 p.c)).setCell ⟨Br, 3, none⟩ (.int .i64 p.d)).setCell ⟨Br, 4, none⟩ (.int .i64 p.p)).setCell ⟨Br, 5, none⟩ (.int .i64 p.f))).cell? ⟨Bx, 7, none⟩ = some (.int .i64 y.d) ∧ ((((((((w2).setCell ⟨Br, 0, none⟩ (.int .i64 p.t)).setCell ⟨Br, 1, none⟩ (.int .i64 p.i)).setCell ⟨Br, 2, none⟩ (.int .i64 p.c)).setCell ⟨Br, 3, none⟩ (.int .i64 p.d)).setCell ⟨Br, 4, none⟩ (.int .i64 p.p)).setCell ⟨Br, 5, none⟩ (.int .i64 p.f))).cell? ⟨Bx, 8, none⟩ = some (.bool y.g) := ⟨(cell3 HSt4.out.f.f).2.1, HSt4.out.a 0 _ rfl, HSt4.out.a 1 _ rfl, HSt4.out.a 2 _ rfl, HSt4.out.a 3 _ rfl, HSt4.out.a 4 _ rfl, HSt4.out.a 5 _ rfl, HSt4.out.a 6 _ rfl, HSt4.out.a 7 _ rfl, HSt4.out.a 8 _ rfl⟩
  refine Eng.TW.end_ [83, 84, 85, 86, 87, 88, 89] HN.out (by kernel_rfl) (by kernel_rfl) ?_
  exact HP.out _ _ HSt4.out

end ClsF
end Go.Proofs.YtgfjpnpbkkadpaaGreat
namespace Go.Proofs.YtgfjpnpbkkadpaaGreat
open Go.RowKit
namespace ClsF
open KeyP PackP SetP SetW SetF Cls ClsW ClsS
attribute [local go_sem] Eng.ev Eng.getO_cons Eng.getO_nil
/-- Where the loop stands. -/
structure PB (w0 wc w : World) (h : Nat) (L : List Sn) (n m : Nat) (P : Int → Int → Option Pc) (x : Sn) (s : List Sn) (A : Option Addr) (c : Nat) : Prop where
  f : Fq w0 wc w h L n m P
  g : PG L P
  a : At w wc.heap.size 0 x
  r : Bk w (wc.heap.size + 1) z6.arr TPl
  l : Sl w 9 A s.length c (s.flatMap scs)
  n : ∀ q, A = some q → wc.heap.size + 2 ≤ q.block ∧ q.block < w.heap.size
theorem PB.fr {w0 wc w w' : World} {h : Nat} {L : List Sn} {n m : Nat} {P : Int → Int → Option Pc} {x : Sn} {s : List Sn} {A : Option Addr} {c : Nat} (H : PB w0 wc w h L n m P x s A c) (hf : Fr (fun _ => False) w w') : PB w0 wc w' h L n m P x s A c :=
  ⟨H.f.fr hf, H.g, H.a.keep hf, H.r.fr hf (fun _ _ h => h), H.l.fr hf (fun _ _ h => h), fun q hq => ⟨(H.n q hq).1, Nat.lt_of_lt_of_le (H.n q hq).2 hf.size⟩⟩
/-- The map has turned, or blocks that are apart. -/
theorem PB.to {w0 wc w w' : World} {S : Nat → Prop} {h : Nat} {L : List Sn} {n m m' : Nat} {P P' : Int → Int → Option Pc} {x : Sn} {s : List Sn} {A : Option Addr} {c : Nat} (H : PB w0 wc w h L n m P x s A c) (hq : Fq w0 wc w' h L n m' P') (hg : PG L P') (hf : Fr S w w') (h1 : ¬ S wc.heap.size) (h2 : ¬ S (wc.heap.size + 1)) (h3 : ∀ q, A = some q → ¬ S q.block) : PB w0 wc w' h L n m' P' x s A c :=
  ⟨hq, hg, H.a.fr hf h1, H.r.fr hf (fun k hk => by simp at hk; subst hk; exact h2), H.l.fr hf h3, fun q hq => ⟨(H.n q hq).1, Nat.lt_of_lt_of_le (H.n q hq).2 hf.size⟩⟩
theorem abw_abv {L : List Sn} {P : Int → Int → Option Pc} (hg : PG L P) {z : Sn} {t e : Int} (ht : z.t = t) : ((abw L P z t e).c, (abw L P z t e).d, (abw L P z t e).p) = abv L (fun i => (P t i).isSome) z e := by
  subst ht
  unfold abw abv
  cases hP : P z.t e with
  | some p =>
    obtain ⟨y, hy, rfl⟩ := hg _ _ _ hP
    simp [hP, hy, plc]
  | none =>
    cases hn : nx L z.t e with
    | some y => simp [hP]
    | none => by_cases h0 : z.p = 0 <;> simp [h0]
theorem _root_.Go.Proofs.YtgfjpnpbkkadpaaGreat.Cls.Ch.last_i {L : List Sn} {t i e : Int} {s : List Sn} (h : Ch L t i s e) : e = i ∨ ∃ z ∈ s, z.p = e := by
  rcases List.eq_nil_or_concat s with rfl | ⟨q, z, rfl⟩
  · cases h; exact .inl rfl
  · exact .inr ⟨z, by simp, ch_last (by simpa using h)⟩
theorem low_bound {L : List Sn} (hs : Srs L) {y : Sn} (hy : y ∈ L) : 0 ≤ (cdt L y).2.1 ∧ (cdt L y).2.1 ≤ L.length := by
  obtain ⟨s, z, -, -, -, -, -, h1, h2⟩ := cdt_way hs hy
  exact ⟨h2, h1⟩
theorem abw_d {L : List Sn} {P : Int → Int → Option Pc} (hs : Srs L) (hg : PG L P) (z : Sn) (t e : Int) : 0 ≤ (abw L P z t e).d ∧ (abw L P z t e).d ≤ L.length := by
  unfold abw
  cases hP : P t e with
  | some p =>
    obtain ⟨y, hy, rfl⟩ := hg _ _ _ hP
    exact low_bound hs (nx_some hy).1
  | none =>
    dsimp only
    split
    · exact ⟨Int.le_refl 0, by show (0 : Int) ≤ _; omega⟩
    · split
      · exact ⟨Int.le_refl 0, by show (0 : Int) ≤ _; omega⟩
      · exact ⟨Int.le_refl 0, by show (0 : Int) ≤ _; omega⟩
theorem last_ok {L : List Sn} {P : Int → Int → Option Pc} {t i e : Int} {s : List Sn} (hs : Srs L) (hg : PG L P) (hc : Ch L t i s e) (he : nx L t e = none ∨ ((nx L t e).isSome = true ∧ ((P t e).isSome = true ∨ ∃ y ∈ s, y.i = e))) {k : Nat} (hk : k < s.length) (hl : k + 1 = s.length) : low3 ((abw L P s[k] t e).c, (abw L P s[k] t e).d, (abw L P s[k] t e).p) = cdt L s[k] := by
  rcases List.eq_nil_or_concat s with rfl | ⟨q, z, hqz⟩
  · cases hl
  · rw [List.concat_eq_append] at hqz
    subst hqz
    have hkq : k = q.length := by simpa using hl
    subst hkq
    have hz : (q ++ [z])[q.length] = z := by simp
    rw [hz, abw_abv hg (hc.mem z (by simp)).2.1]
    exact (last_cdt hs (K := fun i => (P t i).isSome) hc he).symm
theorem prev_ok {L : List Sn} {t i e : Int} {s : List Sn} (hs : Srs L) (hc : Ch L t i s e) {k : Nat} (hk : k + 1 < s.length) : low3 (cdt L s[k + 1]) = cdt L (s[k]'(by omega)) := by
  have h : s = s.take k ++ s[k]'(by omega) :: s[k + 1] :: s.drop (k + 2) := by
    rw [← List.drop_eq_getElem_cons hk, ← List.drop_eq_getElem_cons (by omega), List.take_append_drop]
  rw [h] at hc
  exact (prev_cdt hs hc).symm
theorem plc_low {L : List Sn} {y : Sn} {c d p : Int} (h : low3 (c, d, p) = cdt L y) : plc L y = ⟨y.t, y.i, c, if c = 3 then 0 else d + 1, p, ((cnt L y.t y.i : Nat) : Int)⟩ := by
  unfold plc; rw [← h]; rfl
/-- The last of all is known, at the end. -/
theorem known_x {L : List Sn} {P P' : Int → Int → Option Pc} {x : Sn} {s : List Sn} {e : Int} (hs : Srs L) (hx : x ∈ L) (hg : PG L P') (hc : Ch L x.t x.i s e) (he : nx L x.t e = none ∨ ((nx L x.t e).isSome = true ∧ ((P x.t e).isSome = true ∨ ∃ y ∈ s, y.i = e))) (hk : ∀ z ∈ s, P' z.t z.i = some (plc L z)) (h0 : s = [] → P' = P) : P' x.t x.i = some (plc L x) := by
  cases hc with
  | nil =>
    rw [nx_mem hs hx] at he
    rcases he with he | ⟨-, he | ⟨y, hy, -⟩⟩
    · cases he
    · rw [← h0 rfl] at he
      obtain ⟨p, hp⟩ := Option.isSome_iff_exists.1 he
      obtain ⟨y, hy, rfl⟩ := hg _ _ _ hp
      rw [nx_mem hs hx] at hy
      rw [hp, Option.some.inj hy]
    · cases hy
  | cons h1 h2 =>
    rw [nx_mem hs hx] at h1
    rw [Option.some.inj h1]
    exact hk _ (by simp)
theorem known_upd {L : List Sn} (hs : Srs L) {P : Int → Int → Option Pc} {s : List Sn} {k : Nat} (hm : ∀ z ∈ s, z ∈ L) (hk : k < s.length) (h : ∀ z ∈ s.drop (k + 1), P z.t z.i = some (plc L z)) : ∀ z ∈ s.drop k, updP P s[k].t s[k].i (plc L s[k]) z.t z.i = some (plc L z) := fun z hz => by
  unfold updP
  split
  · rename_i e
    have h1 := nx_mem hs (hm z (List.mem_of_mem_drop hz))
    have h2 := nx_mem hs (hm _ (List.getElem_mem hk))
    rw [← e.1, ← e.2, h1] at h2
    rw [Option.some.inj h2]
  · rename_i e
    rw [List.drop_eq_getElem_cons hk] at hz
    rcases List.mem_cons.1 hz with rfl | hz
    · exact absurd ⟨rfl, rfl⟩ e
    · exact h z hz
set_option maxRecDepth 100000 in
set_option maxHeartbeats 8000000 in
theorem place {w0 : World} {h n m : Nat} {L : List Sn} {P : Int → Int → Option Pc} (x : Sn) (w : World) (hF : Fo w0 w h L L n m P) (hPG : PG L P) (hs : Srs L) (hok : ∀ y ∈ L, y.ok) (hx : x ∈ L) (hlen : L.length ≤ 1000) (hm : m ≤ 900000) :
    Calls Tryz.prog 99 #[.pointer (some ⟨h + 3, 0, none⟩), x.v] w fun e w' => ∃ m' P', e = .returned (plc L x).v ∧ m' ≤ m + L.length ∧ Fo w0 w' h L L n m' P' ∧ PG L P' ∧ Fr (fun k => k = h + 1) w w' := by
  have f1 := Fr.alloc (fun _ => False) w (.cells x.arr TSn)
  have f2 := Fr.alloc (fun _ => False) (w.alloc (.cells x.arr TSn)) (.cells #[.int .i64 0, .int .i64 0, .int .i64 0, .int .i64 0, .int .i64 0, .int .i64 0] TPl)
  have f12 := f1.trans f2 (T := fun _ => False) (fun _ _ h => h) (fun _ _ h => h)
  have r2 : Bk ((w.alloc (.cells x.arr TSn)).alloc (.cells #[.int .i64 0, .int .i64 0, .int .i64 0, .int .i64 0, .int .i64 0, .int .i64 0] TPl)) (w.heap.size + 1) z6.arr TPl := by
    have := Bk.new (w.alloc (.cells x.arr TSn)) #[.int .i64 0, .int .i64 0, .int .i64 0, .int .i64 0, .int .i64 0, .int .i64 0] TPl
    rwa [World.size_alloc] at this
  have hsz1 : ((w.alloc (.cells x.arr TSn)).alloc (.cells #[.int .i64 0, .int .i64 0, .int .i64 0, .int .i64 0, .int .i64 0, .int .i64 0] TPl)).heap.size = w.heap.size + 2 := by rw [World.size_alloc, World.size_alloc]
  have HQ : Hid (Fq w0 w ((w.alloc (.cells x.arr TSn)).alloc (.cells #[.int .i64 0, .int .i64 0, .int .i64 0, .int .i64 0, .int .i64 0, .int .i64 0] TPl)) h L n m P) := ⟨hF.fr f12, f12.mono (fun _ _ h => h.elim), lt_of_heap hF.b, hF.l.size⟩
  have HR := Lib.hid r2
  have HA := Lib.hid ((At.box (Bk.new w x.arr TSn)).keep f2)
  have hxo := hok x hx
  obtain ⟨SE, hSE⟩ : ∃ SE, cw L x.t (fun i => (P x.t i).isSome) (L.length + 1) [] x.i = SE := ⟨_, rfl⟩
  have hsp := cw_spec (K := fun i => (P x.t i).isSome) (n := L.length + 1) (out := []) (Ch.nil (L := L) (t := x.t) x.i) List.nodup_nil (by simp)
  rw [hSE] at hsp
  have HCh := Lib.hid (chain x _ (hF.fr f12) hok hxo.t hxo.i hlen SE hSE)
  obtain ⟨s, e⟩ := SE
  obtain ⟨hch, hnd, hend⟩ := hsp
  have hsl : s.length ≤ L.length := sub_len hnd (fun z hz => (hch.mem z hz).1)
  have HC := Lib.hid hch; have HEn := Lib.hid hend; have HPG := Lib.hid hPG; have HS := Lib.hid hs; have HOk := Lib.hid hok; have HX := Lib.hid hx; have HXo := Lib.hid hxo
  have hwe : wf64 e := by
    rcases hch.last_i with rfl | ⟨z, hz, rfl⟩
    · exact hxo.i
    · exact (hok z (hch.mem z hz).1).p
  have HMem : Hid (∀ z ∈ s, z ∈ L ∧ z.t = x.t) := fun z hz => ⟨(hch.mem z hz).1, (hch.mem z hz).2.1⟩
  clear f1 f2 f12 r2 hF hPG hs hok hx hxo hSE hch hnd hend
  go_enter Tryz.func99, Tryz.ntmps99
  go_upto_region 1 with (fail)
  generalize ((w.alloc (.cells x.arr TSn)).alloc (.cells #[.int .i64 0, .int .i64 0, .int .i64 0, .int .i64 0, .int .i64 0, .int .i64 0] TPl)) = w1 at *
  have xc0 : w1.cell? ⟨w.heap.size, 0, none⟩ = some (.int .i64 x.t) := HA.out 0 _ rfl
  have xc1 : w1.cell? ⟨w.heap.size, 1, none⟩ = some (.int .i64 x.i) := HA.out 1 _ rfl
  have xc2 : w1.cell? ⟨w.heap.size, 2, none⟩ = some (.int .i64 x.p) := HA.out 2 _ rfl
  have xc3 : w1.cell? ⟨w.heap.size, 3, none⟩ = some (.int .i64 x.r) := HA.out 3 _ rfl
  have xc4 : w1.cell? ⟨w.heap.size, 4, none⟩ = some (.string x.s) := HA.out 4 _ rfl
  have xc5 : w1.cell? ⟨w.heap.size, 5, none⟩ = some (.string x.o) := HA.out 5 _ rfl
  have xc6 : w1.cell? ⟨w.heap.size, 6, none⟩ = some (.int .i64 x.b) := HA.out 6 _ rfl
  have xc7 : w1.cell? ⟨w.heap.size, 7, none⟩ = some (.int .i64 x.d) := HA.out 7 _ rfl
  have xc8 : w1.cell? ⟨w.heap.size, 8, none⟩ = some (.bool x.g) := HA.out 8 _ rfl
  go_wp2_with fail
  refine HCh.out.mono ?_
  rintro e' w2 ⟨A, c, rfl, hsl2, hb, hA2⟩
  have HPB : Hid (PB w0 w w2 h L n m P x s A c) := by
    have hf := Fr.of_below' hb (fun _ => False)
    exact ⟨HQ.out.fr hf, HPG.out, HA.out.keep hf, HR.out.fr hf (fun _ _ h => h), hsl2, fun q hq => ⟨by have := (hA2 q hq).1; omega, (hA2 q hq).2⟩⟩
  clear hsl2 hb hA2 HCh HQ HR HA xc0 xc1 xc2 xc3 xc4 xc5 xc6 xc7 xc8
  have q0 : IntKind.i64.wrap ((s.length : Int) - 1) = (s.length : Int) - 1 := by rw [IntKind.wrap_i64]; omega
  go_wp2_with fail
  clear q0
  go_loopg [7, 8, 9, 10] s.length (fun gk i _ _ _ wr => ∃ (j : Nat) (m' : Nat) (P' : Int → Int → Option Pc), i = .int .i64 ((j : Int) - 1) ∧ j ≤ s.length ∧ gk = j ∧ m' ≤ m + (s.length - j) ∧ PB w0 w wr h L n m' P' x s A c ∧ (∀ z ∈ s.drop j, P' z.t z.i = some (plc L z)) ∧ (j = s.length → P' = P))
  case atStart => exact ⟨s.length, m, P, rfl, Nat.le_refl _, rfl, by omega, HPB.out, by simp, fun _ => rfl⟩
  case round =>
    clear HPB
    obtain ⟨j, m', P', hi, hj, hg, hm', hpb, hkn, hpp⟩ := hrel
    have HG := Lib.hid hg; have HPB := Lib.hid hpb; have HKn := Lib.hid hkn; have HPp := Lib.hid hpp
    clear hg hpb hkn hpp
    cases j with
    | zero =>
      subst hi
      have q2 : decide (((0 : Nat) : Int) - 1 ≥ 0) = false := by decide
      go_upto_region 13 with (fail)
      refine pc13 (by kernel_rfl) _ _ w0 w wr h L n m' P' w.heap.size x (w.heap.size + 1) z6 (plc L x) HXo.out.t HXo.out.i (known_x HS.out HX.out HPB.out.g HC.out HEn.out (by simpa using HKn.out) (fun e0 => HPp.out (by rw [e0]; rfl))) ⟨HPB.out.f, HPB.out.a, HPB.out.r, by omega, by omega⟩ rfl rfl rfl rfl ?_
      intro v w' hst
      simp only [Eng.setAll, Act.put, List.setIfInBounds_toArray, List.set_cons_succ, List.set_cons_zero]
      have HZ := Lib.hid hst
      clear hst
      go_wp2_with fail
      exact bodyPost_ret (results_cell_row rfl _ _ (w.heap.size + 1) TPl _ (0, 0) _ rfl HZ.out.p Tryz.underlying91 rfl (by kernel_rfl)) rfl ⟨m', P', rfl, by omega, HZ.out.f.f, HPB.out.g, HZ.out.f.r⟩
    | succ k =>
      rw [show ((k + 1 : Nat) : Int) - 1 = (k : Int) by omega] at hi
      subst hi
      obtain ⟨q, hq⟩ : ∃ q, s.length = q + 1 := ⟨s.length - 1, by omega⟩
      have hkq : k ≤ q := by omega
      have hlt : k < s.length := by omega
      have hql : q < s.length := by omega
      obtain ⟨b1, o1, rfl, hb1, c1⟩ := HPB.out.l.at hlt (by omega)
      have HC1 := Lib.hid c1; have HB1 := Lib.hid hb1
      obtain ⟨y, hy⟩ : ∃ y, s[k] = y := ⟨_, rfl⟩
      obtain ⟨z, hz⟩ : ∃ z, s[q] = z := ⟨_, rfl⟩
      have HA := Lib.hid (At.row c1 hlt); have HZ := Lib.hid (At.row c1 hql)
      rw [hy] at HA
      rw [hz] at HZ
      have hyL : y ∈ L ∧ y.t = x.t := hy ▸ HMem.out _ (List.getElem_mem hlt)
      have hzL : z ∈ L ∧ z.t = x.t := hz ▸ HMem.out _ (List.getElem_mem hql)
      have HY := Lib.hid hyL; have HZL := Lib.hid hzL; have HYe := Lib.hid hy; have HZe := Lib.hid hz; have HQe := Lib.hid hq
      have HYo := Lib.hid (HOk.out y hyL.1)
      clear c1 hb1 hy hz hyL hzL hq
      have q1 : (0 : Int) ≤ (k : Int) := by omega
      have q2 : (k : Int) < (s.length : Int) := by omega
      have q3 : IntKind.i64.wrap ((s.length : Int) - 1) = (q : Int) := by rw [IntKind.wrap_i64]; have := HQe.out; omega
      have q4 : (0 : Int) ≤ (q : Int) := by omega
      have q5 : (q : Int) < (s.length : Int) := by omega
      have q6 : IntKind.i64.wrap ((k : Int) - 1) = (k : Int) - 1 := by rw [IntKind.wrap_i64]; omega
      have q7 : decide ((k : Int) ≥ 0) = true := by simp
      have yc0 : wr.cell? ⟨b1, o1 + k * 9, none⟩ = some (.int .i64 y.t) := HA.out 0 _ rfl
      have yc1 : wr.cell? ⟨b1, o1 + k * 9 + 1, none⟩ = some (.int .i64 y.i) := HA.out 1 _ rfl
      have yc2 : wr.cell? ⟨b1, o1 + k * 9 + 1 + 1, none⟩ = some (.int .i64 y.p) := HA.out 2 _ rfl
      have yc3 : wr.cell? ⟨b1, o1 + k * 9 + 1 + 1 + 1, none⟩ = some (.int .i64 y.r) := HA.out 3 _ rfl
      have yc4 : wr.cell? ⟨b1, o1 + k * 9 + 1 + 1 + 1 + 1, none⟩ = some (.string y.s) := HA.out 4 _ rfl
      have yc5 : wr.cell? ⟨b1, o1 + k * 9 + 1 + 1 + 1 + 1 + 1, none⟩ = some (.string y.o) := HA.out 5 _ rfl
      have yc6 : wr.cell? ⟨b1, o1 + k * 9 + 1 + 1 + 1 + 1 + 1 + 1, none⟩ = some (.int .i64 y.b) := HA.out 6 _ rfl
      have yc7 : wr.cell? ⟨b1, o1 + k * 9 + 1 + 1 + 1 + 1 + 1 + 1 + 1, none⟩ = some (.int .i64 y.d) := HA.out 7 _ rfl
      have yc8 : wr.cell? ⟨b1, o1 + k * 9 + 1 + 1 + 1 + 1 + 1 + 1 + 1 + 1, none⟩ = some (.bool y.g) := HA.out 8 _ rfl
      go_upto_region 6 with (fail)
      have f1 := Fr.alloc (fun _ => False) wr (.cells y.arr TSn)
      have HBy := Lib.hid (At.box (Bk.new wr y.arr TSn))
      have hz1 : (wr.alloc (.cells y.arr TSn)).heap.size = wr.heap.size + 1 := World.size_alloc _ _
      have HP1 := Lib.hid (HPB.out.fr f1)
      have HF1 := Lib.hid f1
      replace HZ := Lib.hid (HZ.out.keep f1)
      clear f1 HA yc0 yc1 yc2 yc3 yc4 yc5 yc6 yc7 yc8
      generalize (wr.alloc (.cells y.arr TSn)) = w1 at *
      obtain ⟨U, hU⟩ : ∃ U, abw L P' z x.t e = U := ⟨_, rfl⟩
      have HAb := Lib.hid (above z x.t e w1 HP1.out.f.f HXo.out.t hwe U hU)
      have HU : Hid (0 ≤ U.d ∧ U.d ≤ L.length) := hU ▸ abw_d HS.out HPB.out.g z x.t e
      have HU2 : Hid (k = q → low3 (U.c, U.d, U.p) = cdt L y) := fun hkq => by
        have h1 := HPp.out (by rw [hkq]; exact HQe.out.symm)
        subst hkq
        rw [← hU, ← HYe.out, ← HZe.out, h1]
        exact last_ok HS.out HPG.out HC.out HEn.out hlt HQe.out.symm
      clear hU
      have zc0 : w1.cell? ⟨b1, o1 + q * 9, none⟩ = some (.int .i64 z.t) := HZ.out 0 _ rfl
      have zc1 : w1.cell? ⟨b1, o1 + q * 9 + 1, none⟩ = some (.int .i64 z.i) := HZ.out 1 _ rfl
      have zc2 : w1.cell? ⟨b1, o1 + q * 9 + 1 + 1, none⟩ = some (.int .i64 z.p) := HZ.out 2 _ rfl
      have zc3 : w1.cell? ⟨b1, o1 + q * 9 + 1 + 1 + 1, none⟩ = some (.int .i64 z.r) := HZ.out 3 _ rfl
      have zc4 : w1.cell? ⟨b1, o1 + q * 9 + 1 + 1 + 1 + 1, none⟩ = some (.string z.s) := HZ.out 4 _ rfl
      have zc5 : w1.cell? ⟨b1, o1 + q * 9 + 1 + 1 + 1 + 1 + 1, none⟩ = some (.string z.o) := HZ.out 5 _ rfl
      have zc6 : w1.cell? ⟨b1, o1 + q * 9 + 1 + 1 + 1 + 1 + 1 + 1, none⟩ = some (.int .i64 z.b) := HZ.out 6 _ rfl
      have zc7 : w1.cell? ⟨b1, o1 + q * 9 + 1 + 1 + 1 + 1 + 1 + 1 + 1, none⟩ = some (.int .i64 z.d) := HZ.out 7 _ rfl
      have zc8 : w1.cell? ⟨b1, o1 + q * 9 + 1 + 1 + 1 + 1 + 1 + 1 + 1 + 1, none⟩ = some (.bool z.g) := HZ.out 8 _ rfl
      go_wp2_with fail
      refine HAb.out.mono ?_
      rintro _ w2 ⟨rfl, hb⟩
      have f2 := Fr.of_below' hb (fun _ => False)
      clear HAb hb HZ zc0 zc1 zc2 zc3 zc4 zc5 zc6 zc7 zc8
      replace HBy := Lib.hid (HBy.out.keep f2); have HP2 := Lib.hid (HP1.out.fr f2)
      have HF2 := Lib.hid (HF1.out.trans f2 (T := fun _ => False) (fun _ _ h => h) (fun _ _ h => h))
      clear f2 HF1 HP1
      go_upto_if 41 with (fail)
      have f3 := Fr.alloc (fun _ => False) w2 (.cells U.arr TPl)
      have HBu := Lib.hid (Bk.new w2 U.arr TPl)
      have HBy0 := HBy; replace HBy := Lib.hid (HBy.out.keep f3); have HP3 := Lib.hid (HP2.out.fr f3)
      have HF3 := Lib.hid (HF2.out.trans f3 (T := fun _ => False) (fun _ _ h => h) (fun _ _ h => h))
      have HF02 := HF2; have HF23 := Lib.hid f3; have HBy2 := HBy0
      clear f3 HF2 HBy0
      have hzz : wr.heap.size < w2.heap.size := by have := HBy2.out.lt; omega
      have hzh : h + 3 < wr.heap.size := by have := HPB.out.f.z; have := HPB.out.f.r.size; omega
      have hzy : w0.heap.size ≤ wr.heap.size := by have := HPB.out.f.y; have := HPB.out.f.r.size; omega
      generalize (w2.alloc (.cells U.arr TPl)) = w3 at *
      generalize hBu : w2.heap.size = Bu at *
      generalize hBy : wr.heap.size = By at *
      go_cut [9] (fun u wc => ∃ U' : Pc, u = .pointer (some ⟨Bu, 0, none⟩) ∧ Bk wc Bu U'.arr TPl ∧ low3 (U'.c, U'.d, U'.p) = cdt L y ∧ 0 ≤ U'.d ∧ U'.d ≤ L.length ∧ At wc By 0 y ∧ Fr (fun k => k = h + 1) wr wc ∧ Fq w0 w wc h L n m' P')
      case first =>
        by_cases hkl : k = q
        · have q8 : decide (k < q) = false := by simp; omega
          go_wp2_with fail
          go_meet
          exact ⟨U, rfl, HBu.out, HU2.out hkl, HU.out.1, HU.out.2, HBy.out, HF3.out.mono (fun _ _ h => h.elim), HP3.out.f⟩
        · have q8 : decide (k < q) = true := by simp; omega
          have hk1 : k + 1 < s.length := by omega
          obtain ⟨u, hu⟩ : ∃ u, s[k + 1] = u := ⟨_, rfl⟩
          have hup := HKn.out u (by rw [List.drop_eq_getElem_cons hk1, hu]; exact List.mem_cons_self ..)
          have huL : u ∈ L := hu ▸ (HMem.out _ (List.getElem_mem hk1)).1
          have HAu := Lib.hid ((At.row HC1.out hk1).keep HF3.out)
          rw [hu] at HAu
          have HL3 : Hid (low3 (cdt L u) = cdt L y) := by rw [← hu, ← HYe.out]; exact prev_ok HS.out HC.out hk1
          have HUp := Lib.hid hup; have HUo := Lib.hid (HOk.out u huL); have HUb := Lib.hid (low_bound HS.out huL)
          clear hu hup huL
          have HQ2 : Hid (Fq w0 w2 w3 h L n m' P') := ⟨HP3.out.f.f, HF23.out.mono (fun _ _ h => h.elim), by omega, by omega⟩
          go_upto_region 8 with (fail)
          refine pc8 (by kernel_rfl) _ _ w0 w2 w3 h L n m' P' Bu U (plc L u) b1 o1 s.length c k u HUo.out.t HUo.out.i HUp.out hk1 (by omega) ⟨HQ2.out, HBu.out, HAu.out, by omega, by have := HB1.out; omega⟩ rfl rfl rfl rfl rfl ?_
          intro v w4 hst
          simp only [Eng.setAll, Act.put, List.setIfInBounds_toArray, List.set_cons_succ, List.set_cons_zero]
          have HST := Lib.hid hst
          clear hst
          go_wp2_with fail
          go_meet
          have hf4 : Fr (fun k => k = h + 1) wr w4 := HF02.out.trans HST.out.f.r (fun _ _ h => h.elim) (fun _ _ h => h)
          exact ⟨plc L u, rfl, HST.out.u, HL3.out, HUb.out.1, HUb.out.2, HBy2.out.fr HST.out.f.r (by omega), hf4, ⟨HST.out.f.f, HP2.out.f.r.trans HST.out.f.r (fun _ _ h => h) (fun _ _ h => h), HP3.out.f.z, HP3.out.f.y⟩⟩
      case rest =>
        obtain ⟨U2, rfl, hub, hul, hud1, hud2, hya, hfr, hfq⟩ := hcut
        have HUl := Lib.hid hul; have HFr := Lib.hid hfr
        have hP9 : P9 w0 wr wc h L n m' P' Bu U2 By y [] z6 := ⟨⟨hfq.f, hfr, by omega, by omega⟩, hub, hya, by simp⟩
        have HP9 := Lib.hid hP9; have HFq := Lib.hid hfq
        clear hul hfr hP9 hfq hub hya HBu HBy HBy2 HF02 HF23 HF3 HP2 HP3 HU HU2
        go_upto_region 9 with (fail)
        refine pc9 (by kernel_rfl) _ _ w0 wr wc h L n m' P' Bu U2 By y (cnt L y.t y.i) HYo.out.t HYo.out.i rfl ⟨hud1, by omega⟩ HP9.out rfl rfl rfl rfl ?_
        intro v w5 Bp hv hst
        simp only [Eng.setAll, Act.put, List.setIfInBounds_toArray, List.set_cons_succ, List.set_cons_zero, hv]
        have HST := Lib.hid hst
        have HPp5 := Lib.hid (hst.p Bp (by simp))
        clear hst hv HP9
        have i2 : w5.cell? ⟨Bp, 2, none⟩ = some (.int .i64 U2.c) := HPp5.out.1.cell 2
        have i3 : w5.frozen? ⟨Bp, 3, none⟩ = false := HPp5.out.1.free 3
        have i4 : w5.cell? ⟨Bp, 3, none⟩ = some (.int .i64 (U2.d + 1)) := HPp5.out.1.cell 3
        go_upto_if 74 with (fail)
        go_cut [10] (fun u wd => u = .pointer (some ⟨Bp, 0, none⟩) ∧ Bk wd Bp (plc L y).arr TPl ∧ At wd By 0 y ∧ Fq w0 wr wd h L n m' P')
        case first =>
          by_cases hc3 : U2.c = 3
          · have q8 : (U2.c == 3) = true := by simp [hc3]
            have HB := Lib.hid (HPp5.out.1.set 3 (.int .i64 0)); have HCc := Lib.hid hc3
            have HFs := Lib.hid (Fr.setCell (S := fun k => k = Bp) w5 ⟨Bp, 3, none⟩ (.int .i64 0) rfl)
            clear hc3
            go_wp2_with fail
            go_meet
            refine ⟨rfl, ?_, HST.out.a.fr HFs.out (fun e => HPp5.out.2.2.2 e.symm), HST.out.f.off HFs.out HPp5.out.2.1⟩
            rw [plc_low HUl.out, if_pos HCc.out]
            simpa using HB.out
          · have q8 : (U2.c == 3) = false := by simp [hc3]
            have HCc := Lib.hid hc3
            clear hc3
            go_wp2_with fail
            go_meet
            refine ⟨rfl, ?_, HST.out.a, HST.out.f⟩
            rw [plc_low HUl.out, if_neg HCc.out]
            exact HPp5.out.1
        case rest =>
          obtain ⟨rfl, hpb, hya, hfq⟩ := hcut
          have HP12 : Hid (P12 w0 wr wc h L n m' P' By y Bp (plc L y)) := ⟨hfq, hya, hpb, by omega, HPp5.out.2.1⟩
          clear hfq hya hpb HST HUl i2 i3 i4
          go_upto_region 12 with (fail)
          refine pc12 (by kernel_rfl) _ _ w0 wr wc h L n m' P' By y Bp (plc L y) HYo.out.t HYo.out.i (by omega) HP12.out rfl rfl rfl rfl ?_
          intro v w6 hst
          simp only [Eng.setAll, Act.put, List.setIfInBounds_toArray, List.set_cons_succ, List.set_cons_zero]
          have HST := Lib.hid hst
          clear hst HP12
          go_wp2_with fail
          go_roundg k
          case rel =>
            refine ⟨k, m' + 1, _, rfl, by omega, rfl, by omega, HPB.out.to ⟨HST.out.f.f, HPB.out.f.r.trans HST.out.f.r (fun _ _ h => h) (fun _ _ h => h), HPB.out.f.z, HPB.out.f.y⟩ (HPB.out.g.upd (nx_mem HS.out HY.out.1)) HST.out.f.r (by have := HPB.out.f.z; omega) (by have := HPB.out.f.z; omega) (fun q hq => by have := (HPB.out.n q hq).1; have := HPB.out.f.z; omega), ?_, fun e => by omega⟩
            have := known_upd HS.out (fun z hz => (HMem.out z hz).1) hlt HKn.out
            rw [HYe.out] at this
            exact this
          case measure => have := HG.out; omega
end ClsF
end Go.Proofs.YtgfjpnpbkkadpaaGreat
namespace Go.Proofs.YtgfjpnpbkkadpaaGreat
open Go.RowKit
namespace ClsF
open KeyP PackP SetP SetW SetF Cls ClsW ClsS
attribute [local go_sem] Eng.ev Eng.getO_cons Eng.getO_nil
abbrev TPls : TypeId := 78
theorem infoP : (Tryz.prog.info? TPl).map (fun i => (i.zero, i.size, i.bytes)) = some (some zP, 6, 48) := by kernel_rfl
abbrev pcs (l : List Pc) : List Value := l.flatMap Pc.cs
theorem spn_srs (L : List Sn) : Srs (spn L) := List.Pairwise.filter _ (setOf_ok L).srs
theorem spn_len (L : List Sn) : (spn L).length ≤ L.length := Nat.le_trans (alive_len _) (setOf_len L)
/-- Places of spans among them. -/
abbrev plcs (L : List Sn) : List Pc := L.map (plc L)
structure OP (w1 w2 w : World) (h : Nat) (L : List Sn) (n m k : Nat) (P : Int → Int → Option Pc) (v : Value) : Prop where
  f : Fo w1 w h L L n m P
  g : PG L P
  o : w.ownsRow w2.heap.size TPl 6 v k (pcs ((plcs L).take k))
  b : Below w1.heap.size w1 w
  s : w2.heap.size ≤ w.heap.size
  z : h + 3 < w2.heap.size
set_option maxRecDepth 100000 in
set_option maxHeartbeats 1000000 in
theorem Of (A : Option Addr) (c : Nat) (L : List Sn) (w : World) (hS : Ls w A c L) (hlen : L.length ≤ 900) :
    Calls Tryz.prog 46 #[.slice A L.length c] w fun e w' => ∃ A' c', e = .returned (.slice A' (spn L).length c') ∧ Sl w' 6 A' (spn L).length c' (pcs (plcs (spn L))) ∧ Below w.heap.size w w' := by
  obtain ⟨i0, hi, hz0, hz1, hz2⟩ := info_parts infoP
  have HSp := Lib.hid (spans A c L w hS (by omega))
  have hsl := Nat.le_trans (spn_len L) hlen
  have HSr := Lib.hid (spn_srs L)
  clear hS
  generalize spn L = M at *
  go_enter Tryz.func46, Tryz.ntmps46
  go_wp2_with fail
  refine HSp.out.mono ?_
  rintro e w1 ⟨A1, c1, rfl, hls, hb⟩
  have HL := Lib.hid hls; have HB := Lib.hid hb
  have HPl := Lib.hid (plant A1 c1 M w1 hls HSr.out (by omega))
  clear hls hb HSp
  go_wp2_with fail
  refine HPl.out.mono ?_
  rintro e w2 ⟨h, n, rfl, -, hF⟩
  have HOP : Hid (OP w1 w2 w2 h M n 0 0 (fun _ _ => none) (.slice none 0 0)) := ⟨hF, fun _ _ _ h => (by cases h), World.ownsRow_nil _ _ _ _, hF.l, Nat.le_refl _, lt_of_heap hF.b⟩
  clear hF HPl
  go_wp2_with fail
  go_loopg [5, 7, 14] M.length (fun gk v _ i wr => ∃ (k m : Nat) (P : Int → Int → Option Pc), i = .int .i64 k ∧ k ≤ M.length ∧ gk = M.length - k ∧ m ≤ k * 900 ∧ OP w1 w2 wr h M n m k P v)
  case atStart => exact ⟨0, 0, _, rfl, Nat.zero_le _, rfl, Nat.zero_le _, HOP.out⟩
  case round =>
    clear HOP
    obtain ⟨k, m, P, rfl, hk, hg, hm, hop⟩ := hrel
    have HG := Lib.hid hg; have HO := Lib.hid hop
    clear hg hop
    by_cases hlt : k < M.length
    · obtain ⟨b1, o1, rfl, hb1, c1⟩ := HL.out.s.at hlt (by omega)
      have HA := Lib.hid ((At.row c1 hlt).fr (Fr.of_below' HO.out.b (fun _ => False)) (fun h => h))
      have HYm := Lib.hid (List.getElem_mem hlt)
      have HSn : Hid ((plcs M).take (k + 1) = (plcs M).take k ++ [plc M M[k]]) := by show _ = _; rw [List.take_succ_eq_append_getElem (by simpa using hlt)]; simp
      clear c1 hb1
      generalize M[k] = y at *
      obtain ⟨N, hN⟩ : ∃ N, (plcs M).take k = N := ⟨_, rfl⟩
      have hoo := HO.out.o
      rw [hN] at HSn hoo
      have HOo := Lib.hid hoo
      clear hN hoo
      have q1 : (0 : Int) ≤ (k : Int) := by omega
      have q2 : decide ((k : Int) < (M.length : Int)) = true := by simp; omega
      have yc0 : wr.cell? ⟨b1, o1 + k * 9, none⟩ = some (.int .i64 y.t) := HA.out 0 _ rfl
      have yc1 : wr.cell? ⟨b1, o1 + k * 9 + 1, none⟩ = some (.int .i64 y.i) := HA.out 1 _ rfl
      have yc2 : wr.cell? ⟨b1, o1 + k * 9 + 1 + 1, none⟩ = some (.int .i64 y.p) := HA.out 2 _ rfl
      have yc3 : wr.cell? ⟨b1, o1 + k * 9 + 1 + 1 + 1, none⟩ = some (.int .i64 y.r) := HA.out 3 _ rfl
      have yc4 : wr.cell? ⟨b1, o1 + k * 9 + 1 + 1 + 1 + 1, none⟩ = some (.string y.s) := HA.out 4 _ rfl
      have yc5 : wr.cell? ⟨b1, o1 + k * 9 + 1 + 1 + 1 + 1 + 1, none⟩ = some (.string y.o) := HA.out 5 _ rfl
      have yc6 : wr.cell? ⟨b1, o1 + k * 9 + 1 + 1 + 1 + 1 + 1 + 1, none⟩ = some (.int .i64 y.b) := HA.out 6 _ rfl
      have yc7 : wr.cell? ⟨b1, o1 + k * 9 + 1 + 1 + 1 + 1 + 1 + 1 + 1, none⟩ = some (.int .i64 y.d) := HA.out 7 _ rfl
      have yc8 : wr.cell? ⟨b1, o1 + k * 9 + 1 + 1 + 1 + 1 + 1 + 1 + 1 + 1, none⟩ = some (.bool y.g) := HA.out 8 _ rfl
      go_upto_region 7 with (fail)
      have f1 := Fr.alloc (fun _ => False) wr (.cells y.arr TSn)
      have a1 := At.box (Bk.new wr y.arr TSn)
      have hs1 : (wr.alloc (.cells y.arr TSn)).heap.size = wr.heap.size + 1 := World.size_alloc _ _
      have HA1 := Lib.hid a1; have HF1 := Lib.hid f1
      clear f1 a1 HA yc0 yc1 yc2 yc3 yc4 yc5 yc6 yc7 yc8
      generalize (wr.alloc (.cells y.arr TSn)) = w3 at *
      have HPc := Lib.hid (place y w3 (HO.out.f.fr HF1.out) HO.out.g HSr.out HL.out.ok HYm.out (by omega) (by omega))
      have yc0 : w3.cell? ⟨wr.heap.size, 0, none⟩ = some (.int .i64 y.t) := HA1.out 0 _ rfl
      have yc1 : w3.cell? ⟨wr.heap.size, 1, none⟩ = some (.int .i64 y.i) := HA1.out 1 _ rfl
      have yc2 : w3.cell? ⟨wr.heap.size, 2, none⟩ = some (.int .i64 y.p) := HA1.out 2 _ rfl
      have yc3 : w3.cell? ⟨wr.heap.size, 3, none⟩ = some (.int .i64 y.r) := HA1.out 3 _ rfl
      have yc4 : w3.cell? ⟨wr.heap.size, 4, none⟩ = some (.string y.s) := HA1.out 4 _ rfl
      have yc5 : w3.cell? ⟨wr.heap.size, 5, none⟩ = some (.string y.o) := HA1.out 5 _ rfl
      have yc6 : w3.cell? ⟨wr.heap.size, 6, none⟩ = some (.int .i64 y.b) := HA1.out 6 _ rfl
      have yc7 : w3.cell? ⟨wr.heap.size, 7, none⟩ = some (.int .i64 y.d) := HA1.out 7 _ rfl
      have yc8 : w3.cell? ⟨wr.heap.size, 8, none⟩ = some (.bool y.g) := HA1.out 8 _ rfl
      go_wp2_with fail
      refine HPc.out.mono ?_
      rintro e w4 ⟨m', P', rfl, hm', hF4, hg4, hf4⟩
      have HF4 := Lib.hid hF4; have HG4 := Lib.hid hg4
      have hO4 : w4.ownsRow w2.heap.size TPl 6 _ k (pcs N) := ownsRow_fr (ownsRow_fr HOo.out HF1.out (fun _ _ h => h)) hf4 (fun b hb e => by have := (ownsRow_blk HOo.out b hb).1; have := HO.out.z; omega)
      have hs4 := hf4.size
      have HB4 : Hid (Below w1.heap.size w1 w4) := hF4.l
      have HO4 := Lib.hid hO4
      obtain ⟨p, hp⟩ : ∃ p, plc M y = p := ⟨_, rfl⟩
      rw [hp] at HSn
      rw [hp]
      have hown1' := hO4.alloc (.cells p.arr TPl)
      have HK1 := Lib.hid (ownsRow_blk HO4.out)
      clear hF4 hg4 hf4 hO4 HPc HA1 yc0 yc1 yc2 yc3 yc4 yc5 yc6 yc7 yc8 hp
      go_wp2_with (at_builtin; refine wpList_append_sl _ rfl (.tmp 18) (.tmp 22) TPls rfl w2.heap.size TPl i0 zP 6 48 Tryz.underlying78 hi hz0 hz1 hz2 rfl (by decide) _ _ _ rfl hown1' _ _ _ _ rfl (Sl.one w4 TPl p.cs 6 rfl) (by simp [Value.oneCell']) ?_ ?_ ?_ ?_)
      · unfold maxLen; omega
      · omega
      · have := HO.out.s; first | omega | (simp; omega)
      intro v1 w5 hown1 hgrow1
      have HO5 := Lib.hid hown1; have HGr := Lib.hid hgrow1
      clear hown1 hgrow1 hown1'
      go_wp2_with fail
      go_roundg (M.length - (k + 1))
      case rel =>
        have hg := HGr.out
        have fa := Fr.alloc (fun _ => False) w4 (.cells p.arr TPl)
        have fg : Fr (fun b => w2.heap.size ≤ b) w4 w5 := fa.trans (Fr.grown (S := fun b => w2.heap.size ≤ b) hg (fun b e => (HK1.out b e).1)) (fun _ _ h => h.elim) (fun _ _ h => h)
        have hz := HO.out.z
        have hfo : Fo w1 w5 h M M n m' P' := by
          have H := HF4.out
          exact ⟨H.b.fr fg (fun j hj e => by simp at hj; omega), H.s.fr fg (by omega), H.p.fr fg (by omega), H.f.fr fg (by omega), H.l.trans (fg.below H.l.size (fun j hj e => by have := H.z; omega)), H.z⟩
        refine ⟨k + 1, m', P', by go_num, by omega, rfl, by omega, hfo, HG4.out, ?_, hfo.l, ?_, HO.out.z⟩
        · rw [HSn.out]; simpa using HO5.out
        · have := HO.out.s; have := fg.size; omega
      case measure => have := HG.out; omega
    · obtain rfl : k = M.length := by omega
      have q2 : decide ((M.length : Int) < (M.length : Int)) = false := by simp
      have hO := HO.out.o
      rw [List.take_of_length_le (by simp)] at hO
      obtain ⟨A2, c2, hv, h2, -⟩ := Sl.of_own hO
      subst hv
      have H2 := Lib.hid h2
      clear h2 hO
      go_wp2_with fail
      go_ret
      exact ⟨A2, c2, rfl, H2.out, HB.out.trans (HO.out.b.mono HB.out.size)⟩
end ClsF
end Go.Proofs.YtgfjpnpbkkadpaaGreat
namespace Go.Proofs.YtgfjpnpbkkadpaaGreat
open Go.RowKit
namespace ClsF
open KeyP PackP SetP SetW SetF Cls ClsW ClsS Pack
attribute [local go_sem] Eng.ev Eng.getO_cons Eng.getO_nil
end ClsF
end Go.Proofs.YtgfjpnpbkkadpaaGreat
