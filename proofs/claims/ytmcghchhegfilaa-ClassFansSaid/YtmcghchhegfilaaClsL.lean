/- A span's place: the program's: the regions of its walk. -/
import Derived.Test.YtmcghchhegfilaaClsB
namespace Go.Proofs.Ytmcghchhegfilaa
open Go.RowKit
namespace ClsF
open KeyP PackP SetP SetW SetF Cls ClsW ClsS
attribute [local go_sem] Eng.ev Eng.getO_cons Eng.getO_nil
def plc (L : List Sn) (y : Sn) : Pc := ⟨y.t, y.i, (cdt L y).1, (cdt L y).2.1, (cdt L y).2.2, ((fan L y : Nat) : Int)⟩
/-- What is known of places is right. -/
def PG (L : List Sn) (P : Int → Int → Option Pc) : Prop := ∀ t i p, P t i = some p → ∃ y, nx L t i = some y ∧ p = plc L y
def updP (P : Int → Int → Option Pc) (a b : Int) (p : Pc) : Int → Int → Option Pc := fun c d => if c = a ∧ d = b then some p else P c d
theorem PG.upd {L : List Sn} {P : Int → Int → Option Pc} (h : PG L P) {y : Sn} (hy : nx L y.t y.i = some y) : PG L (updP P y.t y.i (plc L y)) := fun t i p hp => by
  unfold updP at hp
  split at hp
  · rename_i e; obtain ⟨rfl, rfl⟩ := e
    exact ⟨y, hy, by injection hp with hp; exact hp.symm⟩
  · exact h t i p hp
theorem Fo.putP {w0 w : World} {h : Nat} {S F : List Sn} {n m : Nat} {P : Int → Int → Option Pc} (H : Fo w0 w h S F n m P) {a b : Int} (ha : wf64 a) (hb : wf64 b) (p : Pc) (hm : m + 1 < 1000000) :
    ∃ w', (Instr.mapUpdate TMp (.map (some (h + 1))) (.string (key2 a b)) p.v).run Try.prog w = .ok () w' ∧ Fo w0 w' h S F n (m + 1) (updP P a b p) ∧ Fr (· = h + 1) w w' := by
  obtain ⟨w', h1, h2, h3⟩ := H.p.upd uP ha hb p.v (g := fun t i => (updP P a b p t i).map Pc.v) (by unfold updP; rw [if_pos ⟨rfl, rfl⟩]; rfl) (fun c d hne => by unfold updP; rw [if_neg hne]) hm
  exact ⟨w', h1, ⟨H.b.fr h3 (fun j hj e => by simp at hj; omega), H.s.fr h3 (by omega), h2, H.f.fr h3 (by omega), H.l.trans (h3.below H.l.size (fun j hj e => by have := H.z; omega)), H.z⟩, h3⟩
theorem Fo.known {w0 w : World} {h : Nat} {S F : List Sn} {n m : Nat} {P : Int → Int → Option Pc} (H : Fo w0 w h S F n m P) {a b : Int} (ha : wf64 a) (hb : wf64 b) {p : Pc} (hp : P a b = some p) : (Instr.lookup TMp (.map (some (h + 1))) (.string (key2 a b)) false).run Try.prog w = .ok p.v w := by
  rw [H.p.look uP zeroP ha hb, hp]; rfl
theorem Fo.off {w0 w : World} {h : Nat} {S F : List Sn} {n m : Nat} {P : Int → Int → Option Pc} {w' : World} {Bu : Nat} (H : Fo w0 w h S F n m P) (hf : Fr (fun k => k = Bu) w w') (h1 : h + 3 < Bu) (h2 : w0.heap.size ≤ Bu) : Fo w0 w' h S F n m P :=
  ⟨H.b.fr hf (fun j hj e => by simp at hj; omega), H.s.fr hf (by omega), H.p.fr hf (by omega), H.f.fr hf (by omega), H.l.trans (hf.below H.l.size (fun j hj e => by omega)), H.z⟩
/-- A forest; the frame since the call's start: the map of places alone, and what is new. -/
structure Fq (w0 wc w : World) (h : Nat) (L : List Sn) (n m : Nat) (P : Int → Int → Option Pc) : Prop where
  f : Fo w0 w h L L n m P
  r : Fr (fun k => k = h + 1) wc w
  z : h + 3 < wc.heap.size
  y : w0.heap.size ≤ wc.heap.size
theorem Fq.fr {w0 wc w w' : World} {h : Nat} {L : List Sn} {n m : Nat} {P : Int → Int → Option Pc} (H : Fq w0 wc w h L n m P) (hf : Fr (fun _ => False) w w') : Fq w0 wc w' h L n m P := ⟨H.f.fr hf, H.r.trans hf (fun _ _ h => h) (fun _ _ h => h.elim), H.z, H.y⟩
theorem Fq.off {w0 wc w w' : World} {h : Nat} {L : List Sn} {n m : Nat} {P : Int → Int → Option Pc} {Bu : Nat} (H : Fq w0 wc w h L n m P) (hf : Fr (fun k => k = Bu) w w') (hb : wc.heap.size ≤ Bu) : Fq w0 wc w' h L n m P :=
  ⟨H.f.off hf (by have := H.z; omega) (by have := H.y; omega), H.r.trans hf (fun _ _ h => h) (fun k hk e => by omega), H.z, H.y⟩
theorem Fq.put {w0 wc w : World} {h : Nat} {L : List Sn} {n m : Nat} {P : Int → Int → Option Pc} (H : Fq w0 wc w h L n m P) {a b : Int} (ha : wf64 a) (hb : wf64 b) (p : Pc) (hm : m + 1 < 1000000) :
    ∃ w', (Instr.mapUpdate TMp (.map (some (h + 1))) (.string (key2 a b)) p.v).run Try.prog w = .ok () w' ∧ Fq w0 wc w' h L n (m + 1) (updP P a b p) ∧ Fr (· = h + 1) w w' := by
  obtain ⟨w', h1, h2, h3⟩ := H.f.putP ha hb p hm
  exact ⟨w', h1, ⟨h2, H.r.trans h3 (fun _ _ h => h) (fun _ _ h => h), H.z, H.y⟩, h3⟩
/-- Region 8: what is above is the place of the next one. -/
structure P8 (w0 wc w : World) (h : Nat) (L : List Sn) (n m : Nat) (P : Int → Int → Option Pc) (Bu : Nat) (u : Pc) (b1 o : Nat) (z : Sn) : Prop where
  f : Fq w0 wc w h L n m P
  u : Bk w Bu u.arr TPl
  a : At w b1 o z
  n : wc.heap.size ≤ Bu ∧ b1 ≠ Bu
theorem P8.fr {w0 wc w w' : World} {h : Nat} {L : List Sn} {n m : Nat} {P : Int → Int → Option Pc} {Bu : Nat} {u : Pc} {b1 o : Nat} {z : Sn} (H : P8 w0 wc w h L n m P Bu u b1 o z) (hf : Fr (fun _ => False) w w') : P8 w0 wc w' h L n m P Bu u b1 o z := ⟨H.f.fr hf, H.u.fr hf (fun _ _ h => h), H.a.keep hf, H.n⟩
theorem P8.store {w0 wc w : World} {h : Nat} {L : List Sn} {n m : Nat} {P : Int → Int → Option Pc} {Bu : Nat} {u : Pc} {b1 o : Nat} {z : Sn} (H : P8 w0 wc w h L n m P Bu u b1 o z) (p : Pc) : P8 w0 wc (put6 w Bu p) h L n m P Bu p b1 o z :=
  ⟨H.f.off (put6_fr w Bu p) H.n.1, put6_bk H.u p, H.a.fr (put6_fr w Bu p) (fun e => H.n.2 e), H.n⟩
set_option maxRecDepth 100000 in
set_option maxHeartbeats 400000 in
theorem pc8 {ops : Array Oper} (hops : Eng.fnOps Try.f62 8 = ops) (a0 : Act) (Q : Exit → Act → World → Prop) (w0 wc w : World) (h : Nat) (L : List Sn) (n m : Nat) (P : Int → Int → Option Pc) (Bu : Nat) (u p : Pc) (b1 o1 len c k : Nat) (z : Sn) (hz : wf64 z.t) (hzi : wf64 z.i) (hp : P z.t z.i = some p) (hk : k + 1 < len) (hlen : len ≤ 1000) (hst : P8 w0 wc w h L n m P Bu u b1 (o1 + (k + 1) * 9) z)
    (hn : a0.tmps.size = 90) (h_0 : a0.tmps.getD 0 undef = .pointer (some ⟨h + 3, 0, none⟩)) (h_5 : a0.tmps.getD 5 undef = .slice (some ⟨b1, o1, none⟩) len c) (h_7 : a0.tmps.getD 7 undef = .int .i64 (k : Int)) (h_9 : a0.tmps.getD 9 undef = .pointer (some ⟨Bu, 0, none⟩))
    (hpost : ∀ (x : Nat → Value) (w' : World), P8 w0 wc w' h L n m P Bu p b1 (o1 + (k + 1) * 9) z → Q .normal (Eng.setAll a0 [42, 43, 44, 45, 46, 47, 48, 49, 50, 51, 52] x) w') :
    (Code.region 8 ops true).wp Try.prog Q a0 w := by
  simp only [Eng.fnOps, Eng.regOps, Try.f62, Option.bind_some, Option.getD_some, Nat.reduceEqDiff, ↓reduceIte, Nat.reduceBEq] at hops
  subst hops
  have q1 : (0 : Int) ≤ (k : Int) + 1 := by omega
  have q2 : (k : Int) + 1 < (len : Int) := by omega
  have q3 : IntKind.i64.wrap ((k : Int) + 1) = (k : Int) + 1 := by rw [IntKind.wrap_i64]; omega
  have HSt := Lib.hid (hst.fr (Fr.drew _ _))
  have hSS : w.drew.cell? ⟨h + 3, 1, none⟩ = some (.map (some (h + 1))) ∧ w.drew.cell? ⟨b1, o1 + (k + 1) * 9, none⟩ = some (.int .i64 z.t) ∧ w.drew.cell? ⟨b1, o1 + (k + 1) * 9 + 1, none⟩ = some (.int .i64 z.i) ∧ w.drew.cell? ⟨b1, o1 + (k + 1) * 9 + 1 + 1, none⟩ = some (.int .i64 z.p) ∧ w.drew.cell? ⟨b1, o1 + (k + 1) * 9 + 1 + 1 + 1, none⟩ = some (.int .i64 z.r) ∧ w.drew.cell? ⟨b1, o1 + (k + 1) * 9 + 1 + 1 + 1 + 1, none⟩ = some (.string z.s) ∧ w.drew.cell? ⟨b1, o1 + (k + 1) * 9 + 1 + 1 + 1 + 1 + 1, none⟩ = some (.string z.o) ∧ w.drew.cell? ⟨b1, o1 + (k + 1) * 9 + 1 + 1 + 1 + 1 + 1 + 1, none⟩ = some (.int .i64 z.b) ∧ w.drew.cell? ⟨b1, o1 + (k + 1) * 9 + 1 + 1 + 1 + 1 + 1 + 1 + 1, none⟩ = some (.int .i64 z.d) ∧ w.drew.cell? ⟨b1, o1 + (k + 1) * 9 + 1 + 1 + 1 + 1 + 1 + 1 + 1 + 1, none⟩ = some (.bool z.g) := ⟨(cell3 HSt.out.f.f).2.1, HSt.out.a 0 _ rfl, HSt.out.a 1 _ rfl, HSt.out.a 2 _ rfl, HSt.out.a 3 _ rfl, HSt.out.a 4 _ rfl, HSt.out.a 5 _ rfl, HSt.out.a 6 _ rfl, HSt.out.a 7 _ rfl, HSt.out.a 8 _ rfl⟩
  refine Eng.regionT (.take 0 (.take 1 (.take 2 (.take 3 (.take 4 (.take 5 (.take 6 (.take 7 (.take 8 (.alt 9 (.alt 10 (.alt 11 (.done) (.stop)) (.stop)) (.stop))))))))))) (fun w' => w'.cell? ⟨h + 3, 1, none⟩ = some (.map (some (h + 1))) ∧ w'.cell? ⟨b1, o1 + (k + 1) * 9, none⟩ = some (.int .i64 z.t) ∧ w'.cell? ⟨b1, o1 + (k + 1) * 9 + 1, none⟩ = some (.int .i64 z.i) ∧ w'.cell? ⟨b1, o1 + (k + 1) * 9 + 1 + 1, none⟩ = some (.int .i64 z.p) ∧ w'.cell? ⟨b1, o1 + (k + 1) * 9 + 1 + 1 + 1, none⟩ = some (.int .i64 z.r) ∧ w'.cell? ⟨b1, o1 + (k + 1) * 9 + 1 + 1 + 1 + 1, none⟩ = some (.string z.s) ∧ w'.cell? ⟨b1, o1 + (k + 1) * 9 + 1 + 1 + 1 + 1 + 1, none⟩ = some (.string z.o) ∧ w'.cell? ⟨b1, o1 + (k + 1) * 9 + 1 + 1 + 1 + 1 + 1 + 1, none⟩ = some (.int .i64 z.b) ∧ w'.cell? ⟨b1, o1 + (k + 1) * 9 + 1 + 1 + 1 + 1 + 1 + 1 + 1, none⟩ = some (.int .i64 z.d) ∧ w'.cell? ⟨b1, o1 + (k + 1) * 9 + 1 + 1 + 1 + 1 + 1 + 1 + 1 + 1, none⟩ = some (.bool z.g)) (by kernel_rfl) 90 hn (by kernel_rfl) (by kernel_rfl) (by kernel_rfl) (hSS) (fun a b ha hb => ?_)
  subst ha
  have hb0 : b 0 = .pointer (some ⟨h + 3, 0, none⟩) := (hb 0).symm.trans h_0
  have hb5 : b 5 = .slice (some ⟨b1, o1, none⟩) len c := (hb 5).symm.trans h_5
  have hb7 : b 7 = .int .i64 (k : Int) := (hb 7).symm.trans h_7
  have hb9 : b 9 = .pointer (some ⟨Bu, 0, none⟩) := (hb 9).symm.trans h_9
  clear hb h_0 h_5 h_7 h_9
  have HP := Lib.hid hpost; have HN := Lib.hid hn
  clear hpost hn
  refine Eng.TW.take' (v := ?_) rfl rfl (by decide) (by kernel_rfl) (fun w hw => ?_) ?_
  rotate_left
  · (try dsimp only at hw); go_simp; first | done | with_reducible rfl
  refine Eng.TW.take' (v := ?_) rfl rfl (by decide) (by kernel_rfl) (fun w hw => ?_) ?_
  rotate_left
  · (try dsimp only at hw); go_simp; first | done | with_reducible rfl
  refine Eng.TW.take' (v := ?_) rfl rfl (by decide) (by kernel_rfl) (fun w hw => ?_) ?_
  rotate_left
  · (try dsimp only at hw); go_simp; first | done | with_reducible rfl
  refine Eng.TW.take' (v := ?_) rfl rfl (by decide) (by kernel_rfl) (fun w hw => ?_) ?_
  rotate_left
  · (try dsimp only at hw); go_simp; first | done | with_reducible rfl
  refine Eng.TW.take' (v := ?_) rfl rfl (by decide) (by kernel_rfl) (fun w hw => ?_) ?_
  rotate_left
  · (try dsimp only at hw); go_simp; first | done | with_reducible rfl
  refine Eng.TW.take' (v := ?_) rfl rfl (by decide) (by kernel_rfl) (fun w hw => ?_) ?_
  rotate_left
  · (try dsimp only at hw); go_simp; first | done | with_reducible rfl
  refine Eng.TW.take' (v := ?_) rfl rfl (by decide) (by kernel_rfl) (fun w hw => ?_) ?_
  rotate_left
  · (try dsimp only at hw); go_simp; first | done | with_reducible rfl
  refine Eng.TW.take' (v := ?_) rfl rfl (by decide) (by kernel_rfl) (fun w hw => ?_) ?_
  rotate_left
  · (try dsimp only at hw); go_simp; first | done | with_reducible rfl
  refine Eng.TW.take' (v := ?_) rfl rfl (by decide) (by kernel_rfl) (fun w hw => ?_) ?_
  rotate_left
  · (try dsimp only at hw); go_simp; first | done | with_reducible rfl
  refine Eng.TW.call rfl rfl (by decide) (by kernel_rfl) ?_ (Key.Span z hz hzi _) ?_
  · go_simp
  rintro e w2 ⟨rfl, hb1⟩
  have HSt2 := Lib.hid (HSt.out.fr (Fr.of_below' hb1 _))
  have hSS : w2.cell? ⟨h + 3, 1, none⟩ = some (.map (some (h + 1))) ∧ w2.cell? ⟨b1, o1 + (k + 1) * 9, none⟩ = some (.int .i64 z.t) ∧ w2.cell? ⟨b1, o1 + (k + 1) * 9 + 1, none⟩ = some (.int .i64 z.i) ∧ w2.cell? ⟨b1, o1 + (k + 1) * 9 + 1 + 1, none⟩ = some (.int .i64 z.p) ∧ w2.cell? ⟨b1, o1 + (k + 1) * 9 + 1 + 1 + 1, none⟩ = some (.int .i64 z.r) ∧ w2.cell? ⟨b1, o1 + (k + 1) * 9 + 1 + 1 + 1 + 1, none⟩ = some (.string z.s) ∧ w2.cell? ⟨b1, o1 + (k + 1) * 9 + 1 + 1 + 1 + 1 + 1, none⟩ = some (.string z.o) ∧ w2.cell? ⟨b1, o1 + (k + 1) * 9 + 1 + 1 + 1 + 1 + 1 + 1, none⟩ = some (.int .i64 z.b) ∧ w2.cell? ⟨b1, o1 + (k + 1) * 9 + 1 + 1 + 1 + 1 + 1 + 1 + 1, none⟩ = some (.int .i64 z.d) ∧ w2.cell? ⟨b1, o1 + (k + 1) * 9 + 1 + 1 + 1 + 1 + 1 + 1 + 1 + 1, none⟩ = some (.bool z.g) := ⟨(cell3 HSt2.out.f.f).2.1, HSt2.out.a 0 _ rfl, HSt2.out.a 1 _ rfl, HSt2.out.a 2 _ rfl, HSt2.out.a 3 _ rfl, HSt2.out.a 4 _ rfl, HSt2.out.a 5 _ rfl, HSt2.out.a 6 _ rfl, HSt2.out.a 7 _ rfl, HSt2.out.a 8 _ rfl⟩
  clear hb1
  refine ⟨_, rfl, hSS, ?_⟩
  have hlk := HSt2.out.f.f.known hz hzi hp
  refine Eng.TW.step rfl rfl (by decide) (by kernel_rfl) (by go_simp; first | done | with_reducible rfl) (⟨(cell3 (HSt2.out).f.f).2.1, (HSt2.out).a 0 _ rfl, (HSt2.out).a 1 _ rfl, (HSt2.out).a 2 _ rfl, (HSt2.out).a 3 _ rfl, (HSt2.out).a 4 _ rfl, (HSt2.out).a 5 _ rfl, (HSt2.out).a 6 _ rfl, (HSt2.out).a 7 _ rfl, (HSt2.out).a 8 _ rfl⟩) ?_
  have HSt3 := Lib.hid (HSt2.out)
  have hSS : (w2).cell? ⟨h + 3, 1, none⟩ = some (.map (some (h + 1))) ∧ (w2).cell? ⟨b1, o1 + (k + 1) * 9, none⟩ = some (.int .i64 z.t) ∧ (w2).cell? ⟨b1, o1 + (k + 1) * 9 + 1, none⟩ = some (.int .i64 z.i) ∧ (w2).cell? ⟨b1, o1 + (k + 1) * 9 + 1 + 1, none⟩ = some (.int .i64 z.p) ∧ (w2).cell? ⟨b1, o1 + (k + 1) * 9 + 1 + 1 + 1, none⟩ = some (.int .i64 z.r) ∧ (w2).cell? ⟨b1, o1 + (k + 1) * 9 + 1 + 1 + 1 + 1, none⟩ = some (.string z.s) ∧ (w2).cell? ⟨b1, o1 + (k + 1) * 9 + 1 + 1 + 1 + 1 + 1, none⟩ = some (.string z.o) ∧ (w2).cell? ⟨b1, o1 + (k + 1) * 9 + 1 + 1 + 1 + 1 + 1 + 1, none⟩ = some (.int .i64 z.b) ∧ (w2).cell? ⟨b1, o1 + (k + 1) * 9 + 1 + 1 + 1 + 1 + 1 + 1 + 1, none⟩ = some (.int .i64 z.d) ∧ (w2).cell? ⟨b1, o1 + (k + 1) * 9 + 1 + 1 + 1 + 1 + 1 + 1 + 1 + 1, none⟩ = some (.bool z.g) := ⟨(cell3 HSt3.out.f.f).2.1, HSt3.out.a 0 _ rfl, HSt3.out.a 1 _ rfl, HSt3.out.a 2 _ rfl, HSt3.out.a 3 _ rfl, HSt3.out.a 4 _ rfl, HSt3.out.a 5 _ rfl, HSt3.out.a 6 _ rfl, HSt3.out.a 7 _ rfl, HSt3.out.a 8 _ rfl⟩
  have u0 : (w2).cell? ⟨Bu, 0, none⟩ = some (.int .i64 u.t) := HSt3.out.u.cell 0
  have v0 : (w2).frozen? ⟨Bu, 0, none⟩ = false := HSt3.out.u.free 0
  have u1 : (w2).cell? ⟨Bu, 1, none⟩ = some (.int .i64 u.i) := HSt3.out.u.cell 1
  have v1 : (w2).frozen? ⟨Bu, 1, none⟩ = false := HSt3.out.u.free 1
  have u2 : (w2).cell? ⟨Bu, 2, none⟩ = some (.int .i64 u.c) := HSt3.out.u.cell 2
  have v2 : (w2).frozen? ⟨Bu, 2, none⟩ = false := HSt3.out.u.free 2
  have u3 : (w2).cell? ⟨Bu, 3, none⟩ = some (.int .i64 u.d) := HSt3.out.u.cell 3
  have v3 : (w2).frozen? ⟨Bu, 3, none⟩ = false := HSt3.out.u.free 3
  have u4 : (w2).cell? ⟨Bu, 4, none⟩ = some (.int .i64 u.p) := HSt3.out.u.cell 4
  have v4 : (w2).frozen? ⟨Bu, 4, none⟩ = false := HSt3.out.u.free 4
  have u5 : (w2).cell? ⟨Bu, 5, none⟩ = some (.int .i64 u.f) := HSt3.out.u.cell 5
  have v5 : (w2).frozen? ⟨Bu, 5, none⟩ = false := HSt3.out.u.free 5
  refine Eng.TW.step0 rfl rfl (by kernel_rfl) (by go_simp; first | done | with_reducible rfl) (⟨(cell3 (HSt3.out.store p).f.f).2.1, (HSt3.out.store p).a 0 _ rfl, (HSt3.out.store p).a 1 _ rfl, (HSt3.out.store p).a 2 _ rfl, (HSt3.out.store p).a 3 _ rfl, (HSt3.out.store p).a 4 _ rfl, (HSt3.out.store p).a 5 _ rfl, (HSt3.out.store p).a 6 _ rfl, (HSt3.out.store p).a 7 _ rfl, (HSt3.out.store p).a 8 _ rfl⟩) ?_
  have HSt4 := Lib.hid (HSt3.out.store p)
  have hSS : ((((((((w2).setCell ⟨Bu, 0, none⟩ (.int .i64 p.t)).setCell ⟨Bu, 1, none⟩ (.int .i64 p.i)).setCell ⟨Bu, 2, none⟩ (.int .i64 p.c)).setCell ⟨Bu, 3, none⟩ (.int .i64 p.d)).setCell ⟨Bu, 4, none⟩ (.int .i64 p.p)).setCell ⟨Bu, 5, none⟩ (.int .i64 p.f))).cell? ⟨h + 3, 1, none⟩ = some (.map (some (h + 1))) ∧ ((((((((w2).setCell ⟨Bu, 0, none⟩ (.int .i64 p.t)).setCell ⟨Bu, 1, none⟩ (.int .i64 p.i)).setCell ⟨Bu, 2, none⟩ (.int .i64 p.c)).setCell ⟨Bu, 3, none⟩ (.int .i64 p.d)).setCell ⟨Bu, 4, none⟩ (.int .i64 p.p)).setCell ⟨Bu, 5, none⟩ (.int .i64 p.f))).cell? ⟨b1, o1 + (k + 1) * 9, none⟩ = some (.int .i64 z.t) ∧ ((((((((w2).setCell ⟨Bu, 0, none⟩ (.int .i64 p.t)).setCell ⟨Bu, 1, none⟩ (.int .i64 p.i)).setCell ⟨Bu, 2, none⟩ (.int .i64 p.c)).setCell ⟨Bu, 3, none⟩ (.int .i64 p.d)).setCell ⟨Bu, 4, none⟩ (.int .i64 p.p)).setCell ⟨Bu, 5, none⟩ (.int .i64 p.f))).cell? ⟨b1, o1 + (k + 1) * 9 + 1, none⟩ = some (.int .i64 z.i) ∧ ((((((((w2).setCell ⟨Bu, 0, none⟩ (.int .i64 p.t)).setCell ⟨Bu, 1, none⟩ (.int .i64 p.i)).setCell ⟨Bu, 2, none⟩ (.int .i64 p.c)).setCell ⟨Bu, 3, none⟩ (.int .i64 p.d)).setCell ⟨Bu, 4, none⟩ (.int .i64 p.p)).setCell ⟨Bu, 5, none⟩ (.int .i64 p.f))).cell? ⟨b1, o1 + (k + 1) * 9 + 1 + 1, none⟩ = some (.int .i64 z.p) ∧ ((((((((w2).setCell ⟨Bu, 0, none⟩ (.int .i64 p.t)).setCell ⟨Bu, 1, none⟩ (.int .i64 p.i)).setCell ⟨Bu, 2, none⟩ (.int .i64 p.c)).setCell ⟨Bu, 3, none⟩ (.int .i64 p.d)).setCell ⟨Bu, 4, none⟩ (.int .i64 p.p)).setCell ⟨Bu, 5, none⟩ (.int .i64 p.f))).cell? ⟨b1, o1 + (k + 1) * 9 + 1 + 1 + 1, none⟩ = some (.int .i64 z.r) ∧ ((((((((w2).setCell ⟨Bu, 0, none⟩ (.int .i64 p.t)).setCell ⟨Bu, 1, none⟩ (.int .i64 p.i)).setCell ⟨Bu, 2, none⟩ (.int .i64 p.c)).setCell ⟨Bu, 3, none⟩ (.int .i64 p.d)).setCell ⟨Bu, 4, none⟩ (.int .i64 p.p)).setCell ⟨Bu, 5, none⟩ (.int .i64 p.f))).cell? ⟨b1, o1 + (k + 1) * 9 + 1 + 1 + 1 + 1, none⟩ = some (.string z.s) ∧ ((((((((w2).setCell ⟨Bu, 0, none⟩ (.int .i64 p.t)).setCell ⟨Bu, 1, none⟩ (.int .i64 p.i)).setCell ⟨Bu, 2, none⟩ (.int .i64 p.c)).setCell ⟨Bu, 3, none⟩ (.int .i64 p.d)).setCell ⟨Bu, 4, none⟩ (.int .i64 p.p)).setCell ⟨Bu, 5, none⟩ (.int .i64 p.f))).cell? ⟨b1, o1 + (k + 1) * 9 + 1 + 1 + 1 + 1 + 1, none⟩ = some (.string z.o) ∧ ((((((((w2).setCell ⟨Bu, 0, none⟩ (.int .i64 p.t)).setCell ⟨Bu, 1, none⟩ (.int .i64 p.i)).setCell ⟨Bu, 2, none⟩ (.int .i64 p.c)).setCell ⟨Bu, 3, none⟩ (.int .i64 p.d)).setCell ⟨Bu, 4, none⟩ (.int .i64 p.p)).setCell ⟨Bu, 5, none⟩ (.int .i64 p.f))).cell? ⟨b1, o1 + (k + 1) * 9 + 1 + 1 + 1 + 1 + 1 + 1, none⟩ = some (.int .i64 z.b) ∧ ((((((((w2).setCell ⟨Bu, 0, none⟩ (.int .i64 p.t)).setCell ⟨Bu, 1, none⟩ (.int .i64 p.i)).setCell ⟨Bu, 2, none⟩ (.int .i64 p.c)).setCell ⟨Bu, 3, none⟩ (.int .i64 p.d)).setCell ⟨Bu, 4, none⟩ (.int .i64 p.p)).setCell ⟨Bu, 5, none⟩ (.int .i64 p.f))).cell? ⟨b1, o1 + (k + 1) * 9 + 1 + 1 + 1 + 1 + 1 + 1 + 1, none⟩ = some (.int .i64 z.d) ∧ ((((((((w2).setCell ⟨Bu, 0, none⟩ (.int .i64 p.t)).setCell ⟨Bu, 1, none⟩ (.int .i64 p.i)).setCell ⟨Bu, 2, none⟩ (.int .i64 p.c)).setCell ⟨Bu, 3, none⟩ (.int .i64 p.d)).setCell ⟨Bu, 4, none⟩ (.int .i64 p.p)).setCell ⟨Bu, 5, none⟩ (.int .i64 p.f))).cell? ⟨b1, o1 + (k + 1) * 9 + 1 + 1 + 1 + 1 + 1 + 1 + 1 + 1, none⟩ = some (.bool z.g) := ⟨(cell3 HSt4.out.f.f).2.1, HSt4.out.a 0 _ rfl, HSt4.out.a 1 _ rfl, HSt4.out.a 2 _ rfl, HSt4.out.a 3 _ rfl, HSt4.out.a 4 _ rfl, HSt4.out.a 5 _ rfl, HSt4.out.a 6 _ rfl, HSt4.out.a 7 _ rfl, HSt4.out.a 8 _ rfl⟩
  refine Eng.TW.end_ [42, 43, 44, 45, 46, 47, 48, 49, 50, 51, 52] HN.out (by kernel_rfl) (by kernel_rfl) ?_
  exact HP.out _ _ HSt4.out

/-- Region 9: a new place, in a block that may be made already. -/
structure P9 (w0 wc w : World) (h : Nat) (L : List Sn) (n m : Nat) (P : Int → Int → Option Pc) (Bu : Nat) (u : Pc) (By : Nat) (y : Sn) (bs : List Nat) (q : Pc) : Prop where
  f : Fq w0 wc w h L n m P
  u : Bk w Bu u.arr TPl
  a : At w By 0 y
  p : ∀ b ∈ bs, Bk w b q.arr TPl ∧ wc.heap.size ≤ b ∧ b ≠ Bu ∧ b ≠ By
theorem P9.fr {w0 wc w w' : World} {h : Nat} {L : List Sn} {n m : Nat} {P : Int → Int → Option Pc} {Bu : Nat} {u : Pc} {By : Nat} {y : Sn} {bs : List Nat} {q : Pc} (H : P9 w0 wc w h L n m P Bu u By y bs q) (hf : Fr (fun _ => False) w w') : P9 w0 wc w' h L n m P Bu u By y bs q := ⟨H.f.fr hf, H.u.fr hf (fun _ _ h => h), H.a.keep hf, fun b hb => ⟨(H.p b hb).1.fr hf (fun _ _ h => h), (H.p b hb).2⟩⟩
theorem P9.alloc {w0 wc w : World} {h : Nat} {L : List Sn} {n m : Nat} {P : Int → Int → Option Pc} {Bu : Nat} {u : Pc} {By : Nat} {y : Sn} (H : P9 w0 wc w h L n m P Bu u By y [] z6) : P9 w0 wc (w.alloc (.cells #[.int .i64 0, .int .i64 0, .int .i64 0, .int .i64 0, .int .i64 0, .int .i64 0] TPl)) h L n m P Bu u By y [w.heap.size] z6 :=
  ⟨H.f.fr (Fr.alloc _ w _), H.u.fr (Fr.alloc (fun _ => False) w _) (fun _ _ h => h), H.a.keep (Fr.alloc _ w _), fun b hb => by
    simp only [List.mem_singleton] at hb; subst hb
    exact ⟨Bk.new w z6.arr TPl, H.f.r.size, by have := lt_of_heap H.u; omega, by have := H.a.lt; omega⟩⟩
theorem P9.allocP {w0 wc w : World} {h : Nat} {L : List Sn} {n m : Nat} {P : Int → Int → Option Pc} {Bu : Nat} {u : Pc} {By : Nat} {y : Sn} (H : P9 w0 wc w h L n m P Bu u By y [] z6) (p : Pc) : P9 w0 wc (w.alloc (.cells p.arr TPl)) h L n m P Bu u By y [w.heap.size] p :=
  ⟨H.f.fr (Fr.alloc _ w _), H.u.fr (Fr.alloc (fun _ => False) w _) (fun _ _ h => h), H.a.keep (Fr.alloc _ w _), fun b hb => by
    simp only [List.mem_singleton] at hb; subst hb
    exact ⟨Bk.new w p.arr TPl, H.f.r.size, by have := lt_of_heap H.u; omega, by have := H.a.lt; omega⟩⟩
theorem P9.store {w0 wc w : World} {h : Nat} {L : List Sn} {n m : Nat} {P : Int → Int → Option Pc} {Bu : Nat} {u : Pc} {By : Nat} {y : Sn} {Bp : Nat} {q : Pc} (H : P9 w0 wc w h L n m P Bu u By y [Bp] q) (p : Pc) : P9 w0 wc (put6 w Bp p) h L n m P Bu u By y [Bp] p := by
  obtain ⟨h1, h2, h3, h4⟩ := H.p Bp (by simp)
  exact ⟨H.f.off (put6_fr w Bp p) h2, H.u.fr (put6_fr w Bp p) (fun k hk e => by simp at hk; omega), H.a.fr (put6_fr w Bp p) (fun e => h4 e.symm), fun b hb => by
    simp only [List.mem_singleton] at hb; subst hb
    exact ⟨put6_bk h1 p, h2, h3, h4⟩⟩
theorem buildP (t i c d q f : Int) (W : World) : (Instr.build TPl #[(0, .int .i64 t), (1, .int .i64 i), (2, .int .i64 c), (3, .int .i64 d), (4, .int .i64 q), (5, .int .i64 f)]).run Try.prog W = .ok (.agg #[.int .i64 t, .int .i64 i, .int .i64 c, .int .i64 d, .int .i64 q, .int .i64 f]) W := by kernel_rfl
set_option maxRecDepth 100000 in
set_option maxHeartbeats 2000000 in
theorem pc9 {ops : Array Oper} (hops : Eng.fnOps Try.f62 9 = ops) (a0 : Act) (Q : Exit → Act → World → Prop) (w0 wc w : World) (h : Nat) (L : List Sn) (n m : Nat) (P : Int → Int → Option Pc) (Bu : Nat) (u : Pc) (By : Nat) (y : Sn) (c : Nat) (hy : wf64 y.t) (hyi : wf64 y.i) (hc : cnt L y.t y.i = c) (hud : 0 ≤ u.d ∧ u.d ≤ 1000000) (hst : P9 w0 wc w h L n m P Bu u By y [] z6)
    (hn : a0.tmps.size = 90) (h_0 : a0.tmps.getD 0 undef = .pointer (some ⟨h + 3, 0, none⟩)) (h_8 : a0.tmps.getD 8 undef = .pointer (some ⟨By, 0, none⟩)) (h_9 : a0.tmps.getD 9 undef = .pointer (some ⟨Bu, 0, none⟩))
    (hpost : ∀ (x : Nat → Value) (w' : World) (Bp : Nat), x 10 = .pointer (some ⟨Bp, 0, none⟩) → P9 w0 wc w' h L n m P Bu u By y [Bp] ⟨y.t, y.i, u.c, u.d + 1, u.p, (c : Int)⟩ → Q .normal (Eng.setAll a0 [10, 53, 54, 55, 56, 57, 58, 59, 60, 61, 62, 63, 64, 65, 66, 67, 68, 69, 70, 71] x) w') :
    (Code.region 9 ops true).wp Try.prog Q a0 w := by
  simp only [Eng.fnOps, Eng.regOps, Try.f62, Option.bind_some, Option.getD_some, Nat.reduceEqDiff, ↓reduceIte, Nat.reduceBEq] at hops
  subst hops
  have q3 : IntKind.i64.wrap (u.d + 1) = u.d + 1 := by rw [IntKind.wrap_i64]; omega
  have kb := buildP
  have HSt := Lib.hid (hst.fr (Fr.drew _ _))
  have hSS : w.drew.cell? ⟨h + 3, 2, none⟩ = some (.map (some (h + 2))) ∧ w.drew.cell? ⟨By, 0, none⟩ = some (.int .i64 y.t) ∧ w.drew.cell? ⟨By, 1, none⟩ = some (.int .i64 y.i) ∧ w.drew.cell? ⟨By, 2, none⟩ = some (.int .i64 y.p) ∧ w.drew.cell? ⟨By, 3, none⟩ = some (.int .i64 y.r) ∧ w.drew.cell? ⟨By, 4, none⟩ = some (.string y.s) ∧ w.drew.cell? ⟨By, 5, none⟩ = some (.string y.o) ∧ w.drew.cell? ⟨By, 6, none⟩ = some (.int .i64 y.b) ∧ w.drew.cell? ⟨By, 7, none⟩ = some (.int .i64 y.d) ∧ w.drew.cell? ⟨By, 8, none⟩ = some (.bool y.g) ∧ w.drew.cell? ⟨Bu, 2, none⟩ = some (.int .i64 u.c) ∧ w.drew.cell? ⟨Bu, 3, none⟩ = some (.int .i64 u.d) ∧ w.drew.cell? ⟨Bu, 4, none⟩ = some (.int .i64 u.p) := ⟨(cell3 HSt.out.f.f).2.2, HSt.out.a 0 _ rfl, HSt.out.a 1 _ rfl, HSt.out.a 2 _ rfl, HSt.out.a 3 _ rfl, HSt.out.a 4 _ rfl, HSt.out.a 5 _ rfl, HSt.out.a 6 _ rfl, HSt.out.a 7 _ rfl, HSt.out.a 8 _ rfl, HSt.out.u.cell 2, HSt.out.u.cell 3, HSt.out.u.cell 4⟩
  refine Eng.regionT (.take 0 (.take 1 (.take 2 (.take 3 (.take 4 (.take 5 (.take 6 (.take 7 (.take 8 (.take 9 (.take 10 (.take 11 (.take 12 (.take 13 (.take 14 (.take 15 (.alt 16 (.alt 17 (.take 18 (.alt 19 (.alt 20 (.done) (.stop)) (.stop))) (.alt 19 (.alt 17 (.take 18 (.alt 20 (.done) (.stop))) (.stop)) (.stop))) (.alt 19 (.alt 16 (.alt 17 (.take 18 (.alt 20 (.done) (.stop))) (.stop)) (.stop)) (.stop))))))))))))))))))) (fun w' => w'.cell? ⟨h + 3, 2, none⟩ = some (.map (some (h + 2))) ∧ w'.cell? ⟨By, 0, none⟩ = some (.int .i64 y.t) ∧ w'.cell? ⟨By, 1, none⟩ = some (.int .i64 y.i) ∧ w'.cell? ⟨By, 2, none⟩ = some (.int .i64 y.p) ∧ w'.cell? ⟨By, 3, none⟩ = some (.int .i64 y.r) ∧ w'.cell? ⟨By, 4, none⟩ = some (.string y.s) ∧ w'.cell? ⟨By, 5, none⟩ = some (.string y.o) ∧ w'.cell? ⟨By, 6, none⟩ = some (.int .i64 y.b) ∧ w'.cell? ⟨By, 7, none⟩ = some (.int .i64 y.d) ∧ w'.cell? ⟨By, 8, none⟩ = some (.bool y.g) ∧ w'.cell? ⟨Bu, 2, none⟩ = some (.int .i64 u.c) ∧ w'.cell? ⟨Bu, 3, none⟩ = some (.int .i64 u.d) ∧ w'.cell? ⟨Bu, 4, none⟩ = some (.int .i64 u.p)) (by kernel_rfl) 90 hn (by kernel_rfl) (by kernel_rfl) (by kernel_rfl) (hSS) (fun a b ha hb => ?_)
  subst ha
  have hb0 : b 0 = .pointer (some ⟨h + 3, 0, none⟩) := (hb 0).symm.trans h_0
  have hb8 : b 8 = .pointer (some ⟨By, 0, none⟩) := (hb 8).symm.trans h_8
  have hb9 : b 9 = .pointer (some ⟨Bu, 0, none⟩) := (hb 9).symm.trans h_9
  clear hb h_0 h_8 h_9
  have HP := Lib.hid hpost; have HN := Lib.hid hn
  clear hpost hn
  refine Eng.TW.take' (v := ?_) rfl rfl (by decide) (by kernel_rfl) (fun w hw => ?_) ?_
  rotate_left
  · (try dsimp only at hw); go_simp; first | done | with_reducible rfl
  refine Eng.TW.take' (v := ?_) rfl rfl (by decide) (by kernel_rfl) (fun w hw => ?_) ?_
  rotate_left
  · (try dsimp only at hw); go_simp; first | done | with_reducible rfl
  refine Eng.TW.take' (v := ?_) rfl rfl (by decide) (by kernel_rfl) (fun w hw => ?_) ?_
  rotate_left
  · (try dsimp only at hw); go_simp; first | done | with_reducible rfl
  refine Eng.TW.take' (v := ?_) rfl rfl (by decide) (by kernel_rfl) (fun w hw => ?_) ?_
  rotate_left
  · (try dsimp only at hw); go_simp; first | done | with_reducible rfl
  refine Eng.TW.take' (v := ?_) rfl rfl (by decide) (by kernel_rfl) (fun w hw => ?_) ?_
  rotate_left
  · (try dsimp only at hw); go_simp; first | done | with_reducible rfl
  refine Eng.TW.take' (v := ?_) rfl rfl (by decide) (by kernel_rfl) (fun w hw => ?_) ?_
  rotate_left
  · (try dsimp only at hw); go_simp; first | done | with_reducible rfl
  refine Eng.TW.take' (v := ?_) rfl rfl (by decide) (by kernel_rfl) (fun w hw => ?_) ?_
  rotate_left
  · (try dsimp only at hw); go_simp; first | done | with_reducible rfl
  refine Eng.TW.take' (v := ?_) rfl rfl (by decide) (by kernel_rfl) (fun w hw => ?_) ?_
  rotate_left
  · (try dsimp only at hw); go_simp; first | done | with_reducible rfl
  refine Eng.TW.take' (v := ?_) rfl rfl (by decide) (by kernel_rfl) (fun w hw => ?_) ?_
  rotate_left
  · (try dsimp only at hw); go_simp; first | done | with_reducible rfl
  refine Eng.TW.take' (v := ?_) rfl rfl (by decide) (by kernel_rfl) (fun w hw => ?_) ?_
  rotate_left
  · (try dsimp only at hw); go_simp; first | done | with_reducible rfl
  refine Eng.TW.take' (v := ?_) rfl rfl (by decide) (by kernel_rfl) (fun w hw => ?_) ?_
  rotate_left
  · (try dsimp only at hw); go_simp; first | done | with_reducible rfl
  refine Eng.TW.take' (v := ?_) rfl rfl (by decide) (by kernel_rfl) (fun w hw => ?_) ?_
  rotate_left
  · (try dsimp only at hw); go_simp; first | done | with_reducible rfl
  refine Eng.TW.take' (v := ?_) rfl rfl (by decide) (by kernel_rfl) (fun w hw => ?_) ?_
  rotate_left
  · (try dsimp only at hw); go_simp; first | done | with_reducible rfl
  refine Eng.TW.take' (v := ?_) rfl rfl (by decide) (by kernel_rfl) (fun w hw => ?_) ?_
  rotate_left
  · (try dsimp only at hw); go_simp; first | done | with_reducible rfl
  refine Eng.TW.take' (v := ?_) rfl rfl (by decide) (by kernel_rfl) (fun w hw => ?_) ?_
  rotate_left
  · (try dsimp only at hw); go_simp; first | done | with_reducible rfl
  refine Eng.TW.take' (v := ?_) rfl rfl (by decide) (by kernel_rfl) (fun w hw => ?_) ?_
  rotate_left
  · (try dsimp only at hw); go_simp; first | done | with_reducible rfl
  refine Eng.TW.both ?_ ?_
  · refine Eng.TW.call rfl rfl (by decide) (by kernel_rfl) ?_ (Key.Span y hy hyi _) ?_
    · go_simp
    rintro e w2 ⟨rfl, hb1⟩
    have HSt2 := Lib.hid (HSt.out.fr (Fr.of_below' hb1 _))
    have hSS : w2.cell? ⟨h + 3, 2, none⟩ = some (.map (some (h + 2))) ∧ w2.cell? ⟨By, 0, none⟩ = some (.int .i64 y.t) ∧ w2.cell? ⟨By, 1, none⟩ = some (.int .i64 y.i) ∧ w2.cell? ⟨By, 2, none⟩ = some (.int .i64 y.p) ∧ w2.cell? ⟨By, 3, none⟩ = some (.int .i64 y.r) ∧ w2.cell? ⟨By, 4, none⟩ = some (.string y.s) ∧ w2.cell? ⟨By, 5, none⟩ = some (.string y.o) ∧ w2.cell? ⟨By, 6, none⟩ = some (.int .i64 y.b) ∧ w2.cell? ⟨By, 7, none⟩ = some (.int .i64 y.d) ∧ w2.cell? ⟨By, 8, none⟩ = some (.bool y.g) ∧ w2.cell? ⟨Bu, 2, none⟩ = some (.int .i64 u.c) ∧ w2.cell? ⟨Bu, 3, none⟩ = some (.int .i64 u.d) ∧ w2.cell? ⟨Bu, 4, none⟩ = some (.int .i64 u.p) := ⟨(cell3 HSt2.out.f.f).2.2, HSt2.out.a 0 _ rfl, HSt2.out.a 1 _ rfl, HSt2.out.a 2 _ rfl, HSt2.out.a 3 _ rfl, HSt2.out.a 4 _ rfl, HSt2.out.a 5 _ rfl, HSt2.out.a 6 _ rfl, HSt2.out.a 7 _ rfl, HSt2.out.a 8 _ rfl, HSt2.out.u.cell 2, HSt2.out.u.cell 3, HSt2.out.u.cell 4⟩
    clear hb1
    refine ⟨_, rfl, hSS, ?_⟩
    refine Eng.TW.both ?_ ?_
    · have hlk := HSt2.out.f.f.count hy hyi
      rw [hc] at hlk
      refine Eng.TW.step rfl rfl (by decide) (by kernel_rfl) (by go_simp; first | done | with_reducible rfl) (⟨(cell3 (HSt2.out).f.f).2.2, (HSt2.out).a 0 _ rfl, (HSt2.out).a 1 _ rfl, (HSt2.out).a 2 _ rfl, (HSt2.out).a 3 _ rfl, (HSt2.out).a 4 _ rfl, (HSt2.out).a 5 _ rfl, (HSt2.out).a 6 _ rfl, (HSt2.out).a 7 _ rfl, (HSt2.out).a 8 _ rfl, (HSt2.out).u.cell 2, (HSt2.out).u.cell 3, (HSt2.out).u.cell 4⟩) ?_
      have HSt3 := Lib.hid (HSt2.out)
      have hSS : (w2).cell? ⟨h + 3, 2, none⟩ = some (.map (some (h + 2))) ∧ (w2).cell? ⟨By, 0, none⟩ = some (.int .i64 y.t) ∧ (w2).cell? ⟨By, 1, none⟩ = some (.int .i64 y.i) ∧ (w2).cell? ⟨By, 2, none⟩ = some (.int .i64 y.p) ∧ (w2).cell? ⟨By, 3, none⟩ = some (.int .i64 y.r) ∧ (w2).cell? ⟨By, 4, none⟩ = some (.string y.s) ∧ (w2).cell? ⟨By, 5, none⟩ = some (.string y.o) ∧ (w2).cell? ⟨By, 6, none⟩ = some (.int .i64 y.b) ∧ (w2).cell? ⟨By, 7, none⟩ = some (.int .i64 y.d) ∧ (w2).cell? ⟨By, 8, none⟩ = some (.bool y.g) ∧ (w2).cell? ⟨Bu, 2, none⟩ = some (.int .i64 u.c) ∧ (w2).cell? ⟨Bu, 3, none⟩ = some (.int .i64 u.d) ∧ (w2).cell? ⟨Bu, 4, none⟩ = some (.int .i64 u.p) := ⟨(cell3 HSt3.out.f.f).2.2, HSt3.out.a 0 _ rfl, HSt3.out.a 1 _ rfl, HSt3.out.a 2 _ rfl, HSt3.out.a 3 _ rfl, HSt3.out.a 4 _ rfl, HSt3.out.a 5 _ rfl, HSt3.out.a 6 _ rfl, HSt3.out.a 7 _ rfl, HSt3.out.a 8 _ rfl, HSt3.out.u.cell 2, HSt3.out.u.cell 3, HSt3.out.u.cell 4⟩
      refine Eng.TW.take' (v := ?_) rfl rfl (by decide) (by kernel_rfl) (fun w hw => ?_) ?_
      rotate_left
      · (try dsimp only at hw); go_simp; first | done | with_reducible rfl
      refine Eng.TW.step rfl rfl (by decide) (by kernel_rfl) (by go_simp; first | done | with_reducible rfl) (⟨(cell3 (HSt3.out.alloc).f.f).2.2, (HSt3.out.alloc).a 0 _ rfl, (HSt3.out.alloc).a 1 _ rfl, (HSt3.out.alloc).a 2 _ rfl, (HSt3.out.alloc).a 3 _ rfl, (HSt3.out.alloc).a 4 _ rfl, (HSt3.out.alloc).a 5 _ rfl, (HSt3.out.alloc).a 6 _ rfl, (HSt3.out.alloc).a 7 _ rfl, (HSt3.out.alloc).a 8 _ rfl, (HSt3.out.alloc).u.cell 2, (HSt3.out.alloc).u.cell 3, (HSt3.out.alloc).u.cell 4⟩) ?_
      have HSt4 := Lib.hid (HSt3.out.alloc)
      have hSS : (((w2)).alloc (.cells #[.int .i64 0, .int .i64 0, .int .i64 0, .int .i64 0, .int .i64 0, .int .i64 0] TPl)).cell? ⟨h + 3, 2, none⟩ = some (.map (some (h + 2))) ∧ (((w2)).alloc (.cells #[.int .i64 0, .int .i64 0, .int .i64 0, .int .i64 0, .int .i64 0, .int .i64 0] TPl)).cell? ⟨By, 0, none⟩ = some (.int .i64 y.t) ∧ (((w2)).alloc (.cells #[.int .i64 0, .int .i64 0, .int .i64 0, .int .i64 0, .int .i64 0, .int .i64 0] TPl)).cell? ⟨By, 1, none⟩ = some (.int .i64 y.i) ∧ (((w2)).alloc (.cells #[.int .i64 0, .int .i64 0, .int .i64 0, .int .i64 0, .int .i64 0, .int .i64 0] TPl)).cell? ⟨By, 2, none⟩ = some (.int .i64 y.p) ∧ (((w2)).alloc (.cells #[.int .i64 0, .int .i64 0, .int .i64 0, .int .i64 0, .int .i64 0, .int .i64 0] TPl)).cell? ⟨By, 3, none⟩ = some (.int .i64 y.r) ∧ (((w2)).alloc (.cells #[.int .i64 0, .int .i64 0, .int .i64 0, .int .i64 0, .int .i64 0, .int .i64 0] TPl)).cell? ⟨By, 4, none⟩ = some (.string y.s) ∧ (((w2)).alloc (.cells #[.int .i64 0, .int .i64 0, .int .i64 0, .int .i64 0, .int .i64 0, .int .i64 0] TPl)).cell? ⟨By, 5, none⟩ = some (.string y.o) ∧ (((w2)).alloc (.cells #[.int .i64 0, .int .i64 0, .int .i64 0, .int .i64 0, .int .i64 0, .int .i64 0] TPl)).cell? ⟨By, 6, none⟩ = some (.int .i64 y.b) ∧ (((w2)).alloc (.cells #[.int .i64 0, .int .i64 0, .int .i64 0, .int .i64 0, .int .i64 0, .int .i64 0] TPl)).cell? ⟨By, 7, none⟩ = some (.int .i64 y.d) ∧ (((w2)).alloc (.cells #[.int .i64 0, .int .i64 0, .int .i64 0, .int .i64 0, .int .i64 0, .int .i64 0] TPl)).cell? ⟨By, 8, none⟩ = some (.bool y.g) ∧ (((w2)).alloc (.cells #[.int .i64 0, .int .i64 0, .int .i64 0, .int .i64 0, .int .i64 0, .int .i64 0] TPl)).cell? ⟨Bu, 2, none⟩ = some (.int .i64 u.c) ∧ (((w2)).alloc (.cells #[.int .i64 0, .int .i64 0, .int .i64 0, .int .i64 0, .int .i64 0, .int .i64 0] TPl)).cell? ⟨Bu, 3, none⟩ = some (.int .i64 u.d) ∧ (((w2)).alloc (.cells #[.int .i64 0, .int .i64 0, .int .i64 0, .int .i64 0, .int .i64 0, .int .i64 0] TPl)).cell? ⟨Bu, 4, none⟩ = some (.int .i64 u.p) := ⟨(cell3 HSt4.out.f.f).2.2, HSt4.out.a 0 _ rfl, HSt4.out.a 1 _ rfl, HSt4.out.a 2 _ rfl, HSt4.out.a 3 _ rfl, HSt4.out.a 4 _ rfl, HSt4.out.a 5 _ rfl, HSt4.out.a 6 _ rfl, HSt4.out.a 7 _ rfl, HSt4.out.a 8 _ rfl, HSt4.out.u.cell 2, HSt4.out.u.cell 3, HSt4.out.u.cell 4⟩
      have u0 := (HSt4.out.p _ (List.mem_cons_self ..)).1.cell 0
      have v0 := (HSt4.out.p _ (List.mem_cons_self ..)).1.free 0
      have u1 := (HSt4.out.p _ (List.mem_cons_self ..)).1.cell 1
      have v1 := (HSt4.out.p _ (List.mem_cons_self ..)).1.free 1
      have u2 := (HSt4.out.p _ (List.mem_cons_self ..)).1.cell 2
      have v2 := (HSt4.out.p _ (List.mem_cons_self ..)).1.free 2
      have u3 := (HSt4.out.p _ (List.mem_cons_self ..)).1.cell 3
      have v3 := (HSt4.out.p _ (List.mem_cons_self ..)).1.free 3
      have u4 := (HSt4.out.p _ (List.mem_cons_self ..)).1.cell 4
      have v4 := (HSt4.out.p _ (List.mem_cons_self ..)).1.free 4
      have u5 := (HSt4.out.p _ (List.mem_cons_self ..)).1.cell 5
      have v5 := (HSt4.out.p _ (List.mem_cons_self ..)).1.free 5
      simp only [List.getElem?_toArray, List.getElem?_cons_zero, List.getElem?_cons_succ] at u0 u1 u2 u3 u4 u5
      refine Eng.TW.step0 rfl rfl (by kernel_rfl) (by go_simp; first | done | with_reducible rfl) (⟨(cell3 (HSt3.out.allocP ⟨y.t, y.i, u.c, u.d + 1, u.p, (c : Int)⟩).f.f).2.2, (HSt3.out.allocP ⟨y.t, y.i, u.c, u.d + 1, u.p, (c : Int)⟩).a 0 _ rfl, (HSt3.out.allocP ⟨y.t, y.i, u.c, u.d + 1, u.p, (c : Int)⟩).a 1 _ rfl, (HSt3.out.allocP ⟨y.t, y.i, u.c, u.d + 1, u.p, (c : Int)⟩).a 2 _ rfl, (HSt3.out.allocP ⟨y.t, y.i, u.c, u.d + 1, u.p, (c : Int)⟩).a 3 _ rfl, (HSt3.out.allocP ⟨y.t, y.i, u.c, u.d + 1, u.p, (c : Int)⟩).a 4 _ rfl, (HSt3.out.allocP ⟨y.t, y.i, u.c, u.d + 1, u.p, (c : Int)⟩).a 5 _ rfl, (HSt3.out.allocP ⟨y.t, y.i, u.c, u.d + 1, u.p, (c : Int)⟩).a 6 _ rfl, (HSt3.out.allocP ⟨y.t, y.i, u.c, u.d + 1, u.p, (c : Int)⟩).a 7 _ rfl, (HSt3.out.allocP ⟨y.t, y.i, u.c, u.d + 1, u.p, (c : Int)⟩).a 8 _ rfl, (HSt3.out.allocP ⟨y.t, y.i, u.c, u.d + 1, u.p, (c : Int)⟩).u.cell 2, (HSt3.out.allocP ⟨y.t, y.i, u.c, u.d + 1, u.p, (c : Int)⟩).u.cell 3, (HSt3.out.allocP ⟨y.t, y.i, u.c, u.d + 1, u.p, (c : Int)⟩).u.cell 4⟩) ?_
      have HSt5 := Lib.hid (HSt3.out.allocP ⟨y.t, y.i, u.c, u.d + 1, u.p, (c : Int)⟩)
      refine Eng.TW.end_ [10, 53, 54, 55, 56, 57, 58, 59, 60, 61, 62, 63, 64, 65, 66, 67, 68, 69, 70, 71] HN.out (by kernel_rfl) (by kernel_rfl) ?_
      exact HP.out _ _ _ rfl HSt5.out
    refine Eng.TW.step rfl rfl (by decide) (by kernel_rfl) (by go_simp; first | done | with_reducible rfl) (⟨(cell3 (HSt2.out.alloc).f.f).2.2, (HSt2.out.alloc).a 0 _ rfl, (HSt2.out.alloc).a 1 _ rfl, (HSt2.out.alloc).a 2 _ rfl, (HSt2.out.alloc).a 3 _ rfl, (HSt2.out.alloc).a 4 _ rfl, (HSt2.out.alloc).a 5 _ rfl, (HSt2.out.alloc).a 6 _ rfl, (HSt2.out.alloc).a 7 _ rfl, (HSt2.out.alloc).a 8 _ rfl, (HSt2.out.alloc).u.cell 2, (HSt2.out.alloc).u.cell 3, (HSt2.out.alloc).u.cell 4⟩) ?_
    have HSt3 := Lib.hid (HSt2.out.alloc)
    have hSS : ((w2).alloc (.cells #[.int .i64 0, .int .i64 0, .int .i64 0, .int .i64 0, .int .i64 0, .int .i64 0] TPl)).cell? ⟨h + 3, 2, none⟩ = some (.map (some (h + 2))) ∧ ((w2).alloc (.cells #[.int .i64 0, .int .i64 0, .int .i64 0, .int .i64 0, .int .i64 0, .int .i64 0] TPl)).cell? ⟨By, 0, none⟩ = some (.int .i64 y.t) ∧ ((w2).alloc (.cells #[.int .i64 0, .int .i64 0, .int .i64 0, .int .i64 0, .int .i64 0, .int .i64 0] TPl)).cell? ⟨By, 1, none⟩ = some (.int .i64 y.i) ∧ ((w2).alloc (.cells #[.int .i64 0, .int .i64 0, .int .i64 0, .int .i64 0, .int .i64 0, .int .i64 0] TPl)).cell? ⟨By, 2, none⟩ = some (.int .i64 y.p) ∧ ((w2).alloc (.cells #[.int .i64 0, .int .i64 0, .int .i64 0, .int .i64 0, .int .i64 0, .int .i64 0] TPl)).cell? ⟨By, 3, none⟩ = some (.int .i64 y.r) ∧ ((w2).alloc (.cells #[.int .i64 0, .int .i64 0, .int .i64 0, .int .i64 0, .int .i64 0, .int .i64 0] TPl)).cell? ⟨By, 4, none⟩ = some (.string y.s) ∧ ((w2).alloc (.cells #[.int .i64 0, .int .i64 0, .int .i64 0, .int .i64 0, .int .i64 0, .int .i64 0] TPl)).cell? ⟨By, 5, none⟩ = some (.string y.o) ∧ ((w2).alloc (.cells #[.int .i64 0, .int .i64 0, .int .i64 0, .int .i64 0, .int .i64 0, .int .i64 0] TPl)).cell? ⟨By, 6, none⟩ = some (.int .i64 y.b) ∧ ((w2).alloc (.cells #[.int .i64 0, .int .i64 0, .int .i64 0, .int .i64 0, .int .i64 0, .int .i64 0] TPl)).cell? ⟨By, 7, none⟩ = some (.int .i64 y.d) ∧ ((w2).alloc (.cells #[.int .i64 0, .int .i64 0, .int .i64 0, .int .i64 0, .int .i64 0, .int .i64 0] TPl)).cell? ⟨By, 8, none⟩ = some (.bool y.g) ∧ ((w2).alloc (.cells #[.int .i64 0, .int .i64 0, .int .i64 0, .int .i64 0, .int .i64 0, .int .i64 0] TPl)).cell? ⟨Bu, 2, none⟩ = some (.int .i64 u.c) ∧ ((w2).alloc (.cells #[.int .i64 0, .int .i64 0, .int .i64 0, .int .i64 0, .int .i64 0, .int .i64 0] TPl)).cell? ⟨Bu, 3, none⟩ = some (.int .i64 u.d) ∧ ((w2).alloc (.cells #[.int .i64 0, .int .i64 0, .int .i64 0, .int .i64 0, .int .i64 0, .int .i64 0] TPl)).cell? ⟨Bu, 4, none⟩ = some (.int .i64 u.p) := ⟨(cell3 HSt3.out.f.f).2.2, HSt3.out.a 0 _ rfl, HSt3.out.a 1 _ rfl, HSt3.out.a 2 _ rfl, HSt3.out.a 3 _ rfl, HSt3.out.a 4 _ rfl, HSt3.out.a 5 _ rfl, HSt3.out.a 6 _ rfl, HSt3.out.a 7 _ rfl, HSt3.out.a 8 _ rfl, HSt3.out.u.cell 2, HSt3.out.u.cell 3, HSt3.out.u.cell 4⟩
    have hlk := HSt3.out.f.f.count hy hyi
    rw [hc] at hlk
    refine Eng.TW.step rfl rfl (by decide) (by kernel_rfl) (by go_simp; first | done | with_reducible rfl) (⟨(cell3 (HSt3.out).f.f).2.2, (HSt3.out).a 0 _ rfl, (HSt3.out).a 1 _ rfl, (HSt3.out).a 2 _ rfl, (HSt3.out).a 3 _ rfl, (HSt3.out).a 4 _ rfl, (HSt3.out).a 5 _ rfl, (HSt3.out).a 6 _ rfl, (HSt3.out).a 7 _ rfl, (HSt3.out).a 8 _ rfl, (HSt3.out).u.cell 2, (HSt3.out).u.cell 3, (HSt3.out).u.cell 4⟩) ?_
    have HSt4 := Lib.hid (HSt3.out)
    have hSS : (((w2).alloc (.cells #[.int .i64 0, .int .i64 0, .int .i64 0, .int .i64 0, .int .i64 0, .int .i64 0] TPl))).cell? ⟨h + 3, 2, none⟩ = some (.map (some (h + 2))) ∧ (((w2).alloc (.cells #[.int .i64 0, .int .i64 0, .int .i64 0, .int .i64 0, .int .i64 0, .int .i64 0] TPl))).cell? ⟨By, 0, none⟩ = some (.int .i64 y.t) ∧ (((w2).alloc (.cells #[.int .i64 0, .int .i64 0, .int .i64 0, .int .i64 0, .int .i64 0, .int .i64 0] TPl))).cell? ⟨By, 1, none⟩ = some (.int .i64 y.i) ∧ (((w2).alloc (.cells #[.int .i64 0, .int .i64 0, .int .i64 0, .int .i64 0, .int .i64 0, .int .i64 0] TPl))).cell? ⟨By, 2, none⟩ = some (.int .i64 y.p) ∧ (((w2).alloc (.cells #[.int .i64 0, .int .i64 0, .int .i64 0, .int .i64 0, .int .i64 0, .int .i64 0] TPl))).cell? ⟨By, 3, none⟩ = some (.int .i64 y.r) ∧ (((w2).alloc (.cells #[.int .i64 0, .int .i64 0, .int .i64 0, .int .i64 0, .int .i64 0, .int .i64 0] TPl))).cell? ⟨By, 4, none⟩ = some (.string y.s) ∧ (((w2).alloc (.cells #[.int .i64 0, .int .i64 0, .int .i64 0, .int .i64 0, .int .i64 0, .int .i64 0] TPl))).cell? ⟨By, 5, none⟩ = some (.string y.o) ∧ (((w2).alloc (.cells #[.int .i64 0, .int .i64 0, .int .i64 0, .int .i64 0, .int .i64 0, .int .i64 0] TPl))).cell? ⟨By, 6, none⟩ = some (.int .i64 y.b) ∧ (((w2).alloc (.cells #[.int .i64 0, .int .i64 0, .int .i64 0, .int .i64 0, .int .i64 0, .int .i64 0] TPl))).cell? ⟨By, 7, none⟩ = some (.int .i64 y.d) ∧ (((w2).alloc (.cells #[.int .i64 0, .int .i64 0, .int .i64 0, .int .i64 0, .int .i64 0, .int .i64 0] TPl))).cell? ⟨By, 8, none⟩ = some (.bool y.g) ∧ (((w2).alloc (.cells #[.int .i64 0, .int .i64 0, .int .i64 0, .int .i64 0, .int .i64 0, .int .i64 0] TPl))).cell? ⟨Bu, 2, none⟩ = some (.int .i64 u.c) ∧ (((w2).alloc (.cells #[.int .i64 0, .int .i64 0, .int .i64 0, .int .i64 0, .int .i64 0, .int .i64 0] TPl))).cell? ⟨Bu, 3, none⟩ = some (.int .i64 u.d) ∧ (((w2).alloc (.cells #[.int .i64 0, .int .i64 0, .int .i64 0, .int .i64 0, .int .i64 0, .int .i64 0] TPl))).cell? ⟨Bu, 4, none⟩ = some (.int .i64 u.p) := ⟨(cell3 HSt4.out.f.f).2.2, HSt4.out.a 0 _ rfl, HSt4.out.a 1 _ rfl, HSt4.out.a 2 _ rfl, HSt4.out.a 3 _ rfl, HSt4.out.a 4 _ rfl, HSt4.out.a 5 _ rfl, HSt4.out.a 6 _ rfl, HSt4.out.a 7 _ rfl, HSt4.out.a 8 _ rfl, HSt4.out.u.cell 2, HSt4.out.u.cell 3, HSt4.out.u.cell 4⟩
    refine Eng.TW.take' (v := ?_) rfl rfl (by decide) (by kernel_rfl) (fun w hw => ?_) ?_
    rotate_left
    · (try dsimp only at hw); go_simp; first | done | with_reducible rfl
    have u0 := (HSt4.out.p _ (List.mem_cons_self ..)).1.cell 0
    have v0 := (HSt4.out.p _ (List.mem_cons_self ..)).1.free 0
    have u1 := (HSt4.out.p _ (List.mem_cons_self ..)).1.cell 1
    have v1 := (HSt4.out.p _ (List.mem_cons_self ..)).1.free 1
    have u2 := (HSt4.out.p _ (List.mem_cons_self ..)).1.cell 2
    have v2 := (HSt4.out.p _ (List.mem_cons_self ..)).1.free 2
    have u3 := (HSt4.out.p _ (List.mem_cons_self ..)).1.cell 3
    have v3 := (HSt4.out.p _ (List.mem_cons_self ..)).1.free 3
    have u4 := (HSt4.out.p _ (List.mem_cons_self ..)).1.cell 4
    have v4 := (HSt4.out.p _ (List.mem_cons_self ..)).1.free 4
    have u5 := (HSt4.out.p _ (List.mem_cons_self ..)).1.cell 5
    have v5 := (HSt4.out.p _ (List.mem_cons_self ..)).1.free 5
    simp only [List.getElem?_toArray, List.getElem?_cons_zero, List.getElem?_cons_succ] at u0 u1 u2 u3 u4 u5
    refine Eng.TW.step0 rfl rfl (by kernel_rfl) (by go_simp; first | done | with_reducible rfl) (⟨(cell3 (HSt2.out.allocP ⟨y.t, y.i, u.c, u.d + 1, u.p, (c : Int)⟩).f.f).2.2, (HSt2.out.allocP ⟨y.t, y.i, u.c, u.d + 1, u.p, (c : Int)⟩).a 0 _ rfl, (HSt2.out.allocP ⟨y.t, y.i, u.c, u.d + 1, u.p, (c : Int)⟩).a 1 _ rfl, (HSt2.out.allocP ⟨y.t, y.i, u.c, u.d + 1, u.p, (c : Int)⟩).a 2 _ rfl, (HSt2.out.allocP ⟨y.t, y.i, u.c, u.d + 1, u.p, (c : Int)⟩).a 3 _ rfl, (HSt2.out.allocP ⟨y.t, y.i, u.c, u.d + 1, u.p, (c : Int)⟩).a 4 _ rfl, (HSt2.out.allocP ⟨y.t, y.i, u.c, u.d + 1, u.p, (c : Int)⟩).a 5 _ rfl, (HSt2.out.allocP ⟨y.t, y.i, u.c, u.d + 1, u.p, (c : Int)⟩).a 6 _ rfl, (HSt2.out.allocP ⟨y.t, y.i, u.c, u.d + 1, u.p, (c : Int)⟩).a 7 _ rfl, (HSt2.out.allocP ⟨y.t, y.i, u.c, u.d + 1, u.p, (c : Int)⟩).a 8 _ rfl, (HSt2.out.allocP ⟨y.t, y.i, u.c, u.d + 1, u.p, (c : Int)⟩).u.cell 2, (HSt2.out.allocP ⟨y.t, y.i, u.c, u.d + 1, u.p, (c : Int)⟩).u.cell 3, (HSt2.out.allocP ⟨y.t, y.i, u.c, u.d + 1, u.p, (c : Int)⟩).u.cell 4⟩) ?_
    have HSt5 := Lib.hid (HSt2.out.allocP ⟨y.t, y.i, u.c, u.d + 1, u.p, (c : Int)⟩)
    refine Eng.TW.end_ [10, 53, 54, 55, 56, 57, 58, 59, 60, 61, 62, 63, 64, 65, 66, 67, 68, 69, 70, 71] HN.out (by kernel_rfl) (by kernel_rfl) ?_
    exact HP.out _ _ _ rfl HSt5.out
  refine Eng.TW.step rfl rfl (by decide) (by kernel_rfl) (by go_simp; first | done | with_reducible rfl) (⟨(cell3 (HSt.out.alloc).f.f).2.2, (HSt.out.alloc).a 0 _ rfl, (HSt.out.alloc).a 1 _ rfl, (HSt.out.alloc).a 2 _ rfl, (HSt.out.alloc).a 3 _ rfl, (HSt.out.alloc).a 4 _ rfl, (HSt.out.alloc).a 5 _ rfl, (HSt.out.alloc).a 6 _ rfl, (HSt.out.alloc).a 7 _ rfl, (HSt.out.alloc).a 8 _ rfl, (HSt.out.alloc).u.cell 2, (HSt.out.alloc).u.cell 3, (HSt.out.alloc).u.cell 4⟩) ?_
  have HSt2 := Lib.hid (show P9 w0 wc _ h L n m P Bu u By y [w.heap.size] z6 from HSt.out.alloc)
  have hSS : ((w.drew).alloc (.cells #[.int .i64 0, .int .i64 0, .int .i64 0, .int .i64 0, .int .i64 0, .int .i64 0] TPl)).cell? ⟨h + 3, 2, none⟩ = some (.map (some (h + 2))) ∧ ((w.drew).alloc (.cells #[.int .i64 0, .int .i64 0, .int .i64 0, .int .i64 0, .int .i64 0, .int .i64 0] TPl)).cell? ⟨By, 0, none⟩ = some (.int .i64 y.t) ∧ ((w.drew).alloc (.cells #[.int .i64 0, .int .i64 0, .int .i64 0, .int .i64 0, .int .i64 0, .int .i64 0] TPl)).cell? ⟨By, 1, none⟩ = some (.int .i64 y.i) ∧ ((w.drew).alloc (.cells #[.int .i64 0, .int .i64 0, .int .i64 0, .int .i64 0, .int .i64 0, .int .i64 0] TPl)).cell? ⟨By, 2, none⟩ = some (.int .i64 y.p) ∧ ((w.drew).alloc (.cells #[.int .i64 0, .int .i64 0, .int .i64 0, .int .i64 0, .int .i64 0, .int .i64 0] TPl)).cell? ⟨By, 3, none⟩ = some (.int .i64 y.r) ∧ ((w.drew).alloc (.cells #[.int .i64 0, .int .i64 0, .int .i64 0, .int .i64 0, .int .i64 0, .int .i64 0] TPl)).cell? ⟨By, 4, none⟩ = some (.string y.s) ∧ ((w.drew).alloc (.cells #[.int .i64 0, .int .i64 0, .int .i64 0, .int .i64 0, .int .i64 0, .int .i64 0] TPl)).cell? ⟨By, 5, none⟩ = some (.string y.o) ∧ ((w.drew).alloc (.cells #[.int .i64 0, .int .i64 0, .int .i64 0, .int .i64 0, .int .i64 0, .int .i64 0] TPl)).cell? ⟨By, 6, none⟩ = some (.int .i64 y.b) ∧ ((w.drew).alloc (.cells #[.int .i64 0, .int .i64 0, .int .i64 0, .int .i64 0, .int .i64 0, .int .i64 0] TPl)).cell? ⟨By, 7, none⟩ = some (.int .i64 y.d) ∧ ((w.drew).alloc (.cells #[.int .i64 0, .int .i64 0, .int .i64 0, .int .i64 0, .int .i64 0, .int .i64 0] TPl)).cell? ⟨By, 8, none⟩ = some (.bool y.g) ∧ ((w.drew).alloc (.cells #[.int .i64 0, .int .i64 0, .int .i64 0, .int .i64 0, .int .i64 0, .int .i64 0] TPl)).cell? ⟨Bu, 2, none⟩ = some (.int .i64 u.c) ∧ ((w.drew).alloc (.cells #[.int .i64 0, .int .i64 0, .int .i64 0, .int .i64 0, .int .i64 0, .int .i64 0] TPl)).cell? ⟨Bu, 3, none⟩ = some (.int .i64 u.d) ∧ ((w.drew).alloc (.cells #[.int .i64 0, .int .i64 0, .int .i64 0, .int .i64 0, .int .i64 0, .int .i64 0] TPl)).cell? ⟨Bu, 4, none⟩ = some (.int .i64 u.p) := ⟨(cell3 HSt2.out.f.f).2.2, HSt2.out.a 0 _ rfl, HSt2.out.a 1 _ rfl, HSt2.out.a 2 _ rfl, HSt2.out.a 3 _ rfl, HSt2.out.a 4 _ rfl, HSt2.out.a 5 _ rfl, HSt2.out.a 6 _ rfl, HSt2.out.a 7 _ rfl, HSt2.out.a 8 _ rfl, HSt2.out.u.cell 2, HSt2.out.u.cell 3, HSt2.out.u.cell 4⟩
  refine Eng.TW.call rfl rfl (by decide) (by kernel_rfl) ?_ (Key.Span y hy hyi _) ?_
  · go_simp
  rintro e w3 ⟨rfl, hb1⟩
  have HSt3 := Lib.hid (HSt2.out.fr (Fr.of_below' hb1 _))
  have hSS : w3.cell? ⟨h + 3, 2, none⟩ = some (.map (some (h + 2))) ∧ w3.cell? ⟨By, 0, none⟩ = some (.int .i64 y.t) ∧ w3.cell? ⟨By, 1, none⟩ = some (.int .i64 y.i) ∧ w3.cell? ⟨By, 2, none⟩ = some (.int .i64 y.p) ∧ w3.cell? ⟨By, 3, none⟩ = some (.int .i64 y.r) ∧ w3.cell? ⟨By, 4, none⟩ = some (.string y.s) ∧ w3.cell? ⟨By, 5, none⟩ = some (.string y.o) ∧ w3.cell? ⟨By, 6, none⟩ = some (.int .i64 y.b) ∧ w3.cell? ⟨By, 7, none⟩ = some (.int .i64 y.d) ∧ w3.cell? ⟨By, 8, none⟩ = some (.bool y.g) ∧ w3.cell? ⟨Bu, 2, none⟩ = some (.int .i64 u.c) ∧ w3.cell? ⟨Bu, 3, none⟩ = some (.int .i64 u.d) ∧ w3.cell? ⟨Bu, 4, none⟩ = some (.int .i64 u.p) := ⟨(cell3 HSt3.out.f.f).2.2, HSt3.out.a 0 _ rfl, HSt3.out.a 1 _ rfl, HSt3.out.a 2 _ rfl, HSt3.out.a 3 _ rfl, HSt3.out.a 4 _ rfl, HSt3.out.a 5 _ rfl, HSt3.out.a 6 _ rfl, HSt3.out.a 7 _ rfl, HSt3.out.a 8 _ rfl, HSt3.out.u.cell 2, HSt3.out.u.cell 3, HSt3.out.u.cell 4⟩
  clear hb1
  refine ⟨_, rfl, hSS, ?_⟩
  have hlk := HSt3.out.f.f.count hy hyi
  rw [hc] at hlk
  refine Eng.TW.step rfl rfl (by decide) (by kernel_rfl) (by go_simp; first | done | with_reducible rfl) (⟨(cell3 (HSt3.out).f.f).2.2, (HSt3.out).a 0 _ rfl, (HSt3.out).a 1 _ rfl, (HSt3.out).a 2 _ rfl, (HSt3.out).a 3 _ rfl, (HSt3.out).a 4 _ rfl, (HSt3.out).a 5 _ rfl, (HSt3.out).a 6 _ rfl, (HSt3.out).a 7 _ rfl, (HSt3.out).a 8 _ rfl, (HSt3.out).u.cell 2, (HSt3.out).u.cell 3, (HSt3.out).u.cell 4⟩) ?_
  have HSt4 := Lib.hid (HSt3.out)
  have hSS : (w3).cell? ⟨h + 3, 2, none⟩ = some (.map (some (h + 2))) ∧ (w3).cell? ⟨By, 0, none⟩ = some (.int .i64 y.t) ∧ (w3).cell? ⟨By, 1, none⟩ = some (.int .i64 y.i) ∧ (w3).cell? ⟨By, 2, none⟩ = some (.int .i64 y.p) ∧ (w3).cell? ⟨By, 3, none⟩ = some (.int .i64 y.r) ∧ (w3).cell? ⟨By, 4, none⟩ = some (.string y.s) ∧ (w3).cell? ⟨By, 5, none⟩ = some (.string y.o) ∧ (w3).cell? ⟨By, 6, none⟩ = some (.int .i64 y.b) ∧ (w3).cell? ⟨By, 7, none⟩ = some (.int .i64 y.d) ∧ (w3).cell? ⟨By, 8, none⟩ = some (.bool y.g) ∧ (w3).cell? ⟨Bu, 2, none⟩ = some (.int .i64 u.c) ∧ (w3).cell? ⟨Bu, 3, none⟩ = some (.int .i64 u.d) ∧ (w3).cell? ⟨Bu, 4, none⟩ = some (.int .i64 u.p) := ⟨(cell3 HSt4.out.f.f).2.2, HSt4.out.a 0 _ rfl, HSt4.out.a 1 _ rfl, HSt4.out.a 2 _ rfl, HSt4.out.a 3 _ rfl, HSt4.out.a 4 _ rfl, HSt4.out.a 5 _ rfl, HSt4.out.a 6 _ rfl, HSt4.out.a 7 _ rfl, HSt4.out.a 8 _ rfl, HSt4.out.u.cell 2, HSt4.out.u.cell 3, HSt4.out.u.cell 4⟩
  refine Eng.TW.take' (v := ?_) rfl rfl (by decide) (by kernel_rfl) (fun w hw => ?_) ?_
  rotate_left
  · (try dsimp only at hw); go_simp; first | done | with_reducible rfl
  have u0 := (HSt4.out.p _ (List.mem_cons_self ..)).1.cell 0
  have v0 := (HSt4.out.p _ (List.mem_cons_self ..)).1.free 0
  have u1 := (HSt4.out.p _ (List.mem_cons_self ..)).1.cell 1
  have v1 := (HSt4.out.p _ (List.mem_cons_self ..)).1.free 1
  have u2 := (HSt4.out.p _ (List.mem_cons_self ..)).1.cell 2
  have v2 := (HSt4.out.p _ (List.mem_cons_self ..)).1.free 2
  have u3 := (HSt4.out.p _ (List.mem_cons_self ..)).1.cell 3
  have v3 := (HSt4.out.p _ (List.mem_cons_self ..)).1.free 3
  have u4 := (HSt4.out.p _ (List.mem_cons_self ..)).1.cell 4
  have v4 := (HSt4.out.p _ (List.mem_cons_self ..)).1.free 4
  have u5 := (HSt4.out.p _ (List.mem_cons_self ..)).1.cell 5
  have v5 := (HSt4.out.p _ (List.mem_cons_self ..)).1.free 5
  simp only [List.getElem?_toArray, List.getElem?_cons_zero, List.getElem?_cons_succ] at u0 u1 u2 u3 u4 u5
  refine Eng.TW.step0 rfl rfl (by kernel_rfl) (by go_simp; first | done | with_reducible rfl) (⟨(cell3 (HSt4.out.store ⟨y.t, y.i, u.c, u.d + 1, u.p, (c : Int)⟩).f.f).2.2, (HSt4.out.store ⟨y.t, y.i, u.c, u.d + 1, u.p, (c : Int)⟩).a 0 _ rfl, (HSt4.out.store ⟨y.t, y.i, u.c, u.d + 1, u.p, (c : Int)⟩).a 1 _ rfl, (HSt4.out.store ⟨y.t, y.i, u.c, u.d + 1, u.p, (c : Int)⟩).a 2 _ rfl, (HSt4.out.store ⟨y.t, y.i, u.c, u.d + 1, u.p, (c : Int)⟩).a 3 _ rfl, (HSt4.out.store ⟨y.t, y.i, u.c, u.d + 1, u.p, (c : Int)⟩).a 4 _ rfl, (HSt4.out.store ⟨y.t, y.i, u.c, u.d + 1, u.p, (c : Int)⟩).a 5 _ rfl, (HSt4.out.store ⟨y.t, y.i, u.c, u.d + 1, u.p, (c : Int)⟩).a 6 _ rfl, (HSt4.out.store ⟨y.t, y.i, u.c, u.d + 1, u.p, (c : Int)⟩).a 7 _ rfl, (HSt4.out.store ⟨y.t, y.i, u.c, u.d + 1, u.p, (c : Int)⟩).a 8 _ rfl, (HSt4.out.store ⟨y.t, y.i, u.c, u.d + 1, u.p, (c : Int)⟩).u.cell 2, (HSt4.out.store ⟨y.t, y.i, u.c, u.d + 1, u.p, (c : Int)⟩).u.cell 3, (HSt4.out.store ⟨y.t, y.i, u.c, u.d + 1, u.p, (c : Int)⟩).u.cell 4⟩) ?_
  have HSt5 := Lib.hid (HSt4.out.store ⟨y.t, y.i, u.c, u.d + 1, u.p, (c : Int)⟩)
  refine Eng.TW.end_ [10, 53, 54, 55, 56, 57, 58, 59, 60, 61, 62, 63, 64, 65, 66, 67, 68, 69, 70, 71] HN.out (by kernel_rfl) (by kernel_rfl) ?_
  exact HP.out _ _ _ rfl HSt5.out

/-- Region 12: the place is noted. -/
structure P12 (w0 wc w : World) (h : Nat) (L : List Sn) (n m : Nat) (P : Int → Int → Option Pc) (By : Nat) (y : Sn) (Bp : Nat) (p : Pc) : Prop where
  f : Fq w0 wc w h L n m P
  a : At w By 0 y
  p : Bk w Bp p.arr TPl
  n : wc.heap.size ≤ By ∧ wc.heap.size ≤ Bp
theorem P12.fr {w0 wc w w' : World} {h : Nat} {L : List Sn} {n m : Nat} {P : Int → Int → Option Pc} {By : Nat} {y : Sn} {Bp : Nat} {p : Pc} (H : P12 w0 wc w h L n m P By y Bp p) (hf : Fr (fun _ => False) w w') : P12 w0 wc w' h L n m P By y Bp p := ⟨H.f.fr hf, H.a.keep hf, H.p.fr hf (fun _ _ h => h), H.n⟩
theorem P12.put {w0 wc w w' : World} {h : Nat} {L : List Sn} {n m : Nat} {P : Int → Int → Option Pc} {By : Nat} {y : Sn} {Bp : Nat} {p : Pc} {m' : Nat} {P' : Int → Int → Option Pc} (H : P12 w0 wc w h L n m P By y Bp p) (h1 : Fq w0 wc w' h L n m' P') (hf : Fr (· = h + 1) w w') : P12 w0 wc w' h L n m' P' By y Bp p :=
  ⟨h1, H.a.fr hf (fun e => by have := H.n.1; have := H.f.z; omega), H.p.fr hf (fun k hk e => by simp at hk; have := H.n.2; have := H.f.z; omega), H.n⟩
set_option maxRecDepth 100000 in
set_option maxHeartbeats 400000 in
theorem pc12 {ops : Array Oper} (hops : Eng.fnOps Try.f62 12 = ops) (a0 : Act) (Q : Exit → Act → World → Prop) (w0 wc w : World) (h : Nat) (L : List Sn) (n m : Nat) (P : Int → Int → Option Pc) (By : Nat) (y : Sn) (Bp : Nat) (p : Pc) (hy : wf64 y.t) (hyi : wf64 y.i) (hm : m + 1 < 1000000) (hst : P12 w0 wc w h L n m P By y Bp p)
    (hn : a0.tmps.size = 90) (h_0 : a0.tmps.getD 0 undef = .pointer (some ⟨h + 3, 0, none⟩)) (h_8 : a0.tmps.getD 8 undef = .pointer (some ⟨By, 0, none⟩)) (h_10 : a0.tmps.getD 10 undef = .pointer (some ⟨Bp, 0, none⟩))
    (hpost : ∀ (x : Nat → Value) (w' : World), P12 w0 wc w' h L n (m + 1) (updP P y.t y.i p) By y Bp p → Q .normal (Eng.setAll a0 [76, 77, 78, 79, 80, 81, 82] x) w') :
    (Code.region 12 ops true).wp Try.prog Q a0 w := by
  simp only [Eng.fnOps, Eng.regOps, Try.f62, Option.bind_some, Option.getD_some, Nat.reduceEqDiff, ↓reduceIte, Nat.reduceBEq] at hops
  subst hops
  have HSt := Lib.hid (hst.fr (Fr.drew _ _))
  have hSS : w.drew.cell? ⟨h + 3, 1, none⟩ = some (.map (some (h + 1))) ∧ w.drew.cell? ⟨By, 0, none⟩ = some (.int .i64 y.t) ∧ w.drew.cell? ⟨By, 1, none⟩ = some (.int .i64 y.i) ∧ w.drew.cell? ⟨By, 2, none⟩ = some (.int .i64 y.p) ∧ w.drew.cell? ⟨By, 3, none⟩ = some (.int .i64 y.r) ∧ w.drew.cell? ⟨By, 4, none⟩ = some (.string y.s) ∧ w.drew.cell? ⟨By, 5, none⟩ = some (.string y.o) ∧ w.drew.cell? ⟨By, 6, none⟩ = some (.int .i64 y.b) ∧ w.drew.cell? ⟨By, 7, none⟩ = some (.int .i64 y.d) ∧ w.drew.cell? ⟨By, 8, none⟩ = some (.bool y.g) ∧ w.drew.cell? ⟨Bp, 0, none⟩ = some (.int .i64 p.t) ∧ w.drew.cell? ⟨Bp, 1, none⟩ = some (.int .i64 p.i) ∧ w.drew.cell? ⟨Bp, 2, none⟩ = some (.int .i64 p.c) ∧ w.drew.cell? ⟨Bp, 3, none⟩ = some (.int .i64 p.d) ∧ w.drew.cell? ⟨Bp, 4, none⟩ = some (.int .i64 p.p) ∧ w.drew.cell? ⟨Bp, 5, none⟩ = some (.int .i64 p.f) := ⟨(cell3 HSt.out.f.f).2.1, HSt.out.a 0 _ rfl, HSt.out.a 1 _ rfl, HSt.out.a 2 _ rfl, HSt.out.a 3 _ rfl, HSt.out.a 4 _ rfl, HSt.out.a 5 _ rfl, HSt.out.a 6 _ rfl, HSt.out.a 7 _ rfl, HSt.out.a 8 _ rfl, HSt.out.p.cell 0, HSt.out.p.cell 1, HSt.out.p.cell 2, HSt.out.p.cell 3, HSt.out.p.cell 4, HSt.out.p.cell 5⟩
  refine Eng.regionT (.take 0 (.take 1 (.take 2 (.take 3 (.take 4 (.take 6 (.alt 5 (.alt 7 (.done) (.stop)) (.stop)))))))) (fun w' => w'.cell? ⟨h + 3, 1, none⟩ = some (.map (some (h + 1))) ∧ w'.cell? ⟨By, 0, none⟩ = some (.int .i64 y.t) ∧ w'.cell? ⟨By, 1, none⟩ = some (.int .i64 y.i) ∧ w'.cell? ⟨By, 2, none⟩ = some (.int .i64 y.p) ∧ w'.cell? ⟨By, 3, none⟩ = some (.int .i64 y.r) ∧ w'.cell? ⟨By, 4, none⟩ = some (.string y.s) ∧ w'.cell? ⟨By, 5, none⟩ = some (.string y.o) ∧ w'.cell? ⟨By, 6, none⟩ = some (.int .i64 y.b) ∧ w'.cell? ⟨By, 7, none⟩ = some (.int .i64 y.d) ∧ w'.cell? ⟨By, 8, none⟩ = some (.bool y.g) ∧ w'.cell? ⟨Bp, 0, none⟩ = some (.int .i64 p.t) ∧ w'.cell? ⟨Bp, 1, none⟩ = some (.int .i64 p.i) ∧ w'.cell? ⟨Bp, 2, none⟩ = some (.int .i64 p.c) ∧ w'.cell? ⟨Bp, 3, none⟩ = some (.int .i64 p.d) ∧ w'.cell? ⟨Bp, 4, none⟩ = some (.int .i64 p.p) ∧ w'.cell? ⟨Bp, 5, none⟩ = some (.int .i64 p.f)) (by kernel_rfl) 90 hn (by kernel_rfl) (by kernel_rfl) (by kernel_rfl) (hSS) (fun a b ha hb => ?_)
  subst ha
  have hb0 : b 0 = .pointer (some ⟨h + 3, 0, none⟩) := (hb 0).symm.trans h_0
  have hb8 : b 8 = .pointer (some ⟨By, 0, none⟩) := (hb 8).symm.trans h_8
  have hb10 : b 10 = .pointer (some ⟨Bp, 0, none⟩) := (hb 10).symm.trans h_10
  clear hb h_0 h_8 h_10
  have HP := Lib.hid hpost; have HN := Lib.hid hn
  clear hpost hn
  refine Eng.TW.take' (v := ?_) rfl rfl (by decide) (by kernel_rfl) (fun w hw => ?_) ?_
  rotate_left
  · (try dsimp only at hw); go_simp; first | done | with_reducible rfl
  refine Eng.TW.take' (v := ?_) rfl rfl (by decide) (by kernel_rfl) (fun w hw => ?_) ?_
  rotate_left
  · (try dsimp only at hw); go_simp; first | done | with_reducible rfl
  refine Eng.TW.take' (v := ?_) rfl rfl (by decide) (by kernel_rfl) (fun w hw => ?_) ?_
  rotate_left
  · (try dsimp only at hw); go_simp; first | done | with_reducible rfl
  refine Eng.TW.take' (v := ?_) rfl rfl (by decide) (by kernel_rfl) (fun w hw => ?_) ?_
  rotate_left
  · (try dsimp only at hw); go_simp; first | done | with_reducible rfl
  refine Eng.TW.take' (v := ?_) rfl rfl (by decide) (by kernel_rfl) (fun w hw => ?_) ?_
  rotate_left
  · (try dsimp only at hw); go_simp; first | done | with_reducible rfl
  refine Eng.TW.take' (v := ?_) rfl rfl (by decide) (by kernel_rfl) (fun w hw => ?_) ?_
  rotate_left
  · (try dsimp only at hw); go_simp; first | done | with_reducible rfl
  refine Eng.TW.call rfl rfl (by decide) (by kernel_rfl) ?_ (Key.Span y hy hyi _) ?_
  · go_simp
  rintro e w2 ⟨rfl, hb1⟩
  have HSt2 := Lib.hid (HSt.out.fr (Fr.of_below' hb1 _))
  have hSS : w2.cell? ⟨h + 3, 1, none⟩ = some (.map (some (h + 1))) ∧ w2.cell? ⟨By, 0, none⟩ = some (.int .i64 y.t) ∧ w2.cell? ⟨By, 1, none⟩ = some (.int .i64 y.i) ∧ w2.cell? ⟨By, 2, none⟩ = some (.int .i64 y.p) ∧ w2.cell? ⟨By, 3, none⟩ = some (.int .i64 y.r) ∧ w2.cell? ⟨By, 4, none⟩ = some (.string y.s) ∧ w2.cell? ⟨By, 5, none⟩ = some (.string y.o) ∧ w2.cell? ⟨By, 6, none⟩ = some (.int .i64 y.b) ∧ w2.cell? ⟨By, 7, none⟩ = some (.int .i64 y.d) ∧ w2.cell? ⟨By, 8, none⟩ = some (.bool y.g) ∧ w2.cell? ⟨Bp, 0, none⟩ = some (.int .i64 p.t) ∧ w2.cell? ⟨Bp, 1, none⟩ = some (.int .i64 p.i) ∧ w2.cell? ⟨Bp, 2, none⟩ = some (.int .i64 p.c) ∧ w2.cell? ⟨Bp, 3, none⟩ = some (.int .i64 p.d) ∧ w2.cell? ⟨Bp, 4, none⟩ = some (.int .i64 p.p) ∧ w2.cell? ⟨Bp, 5, none⟩ = some (.int .i64 p.f) := ⟨(cell3 HSt2.out.f.f).2.1, HSt2.out.a 0 _ rfl, HSt2.out.a 1 _ rfl, HSt2.out.a 2 _ rfl, HSt2.out.a 3 _ rfl, HSt2.out.a 4 _ rfl, HSt2.out.a 5 _ rfl, HSt2.out.a 6 _ rfl, HSt2.out.a 7 _ rfl, HSt2.out.a 8 _ rfl, HSt2.out.p.cell 0, HSt2.out.p.cell 1, HSt2.out.p.cell 2, HSt2.out.p.cell 3, HSt2.out.p.cell 4, HSt2.out.p.cell 5⟩
  clear hb1
  refine ⟨_, rfl, hSS, ?_⟩
  obtain ⟨w9, hup, hm9, hf9⟩ := HSt2.out.f.put hy hyi p hm
  refine Eng.TW.step0 rfl rfl (by kernel_rfl) (by go_simp; first | done | with_reducible rfl) (⟨(cell3 ((HSt2.out.put hm9 hf9)).f.f).2.1, ((HSt2.out.put hm9 hf9)).a 0 _ rfl, ((HSt2.out.put hm9 hf9)).a 1 _ rfl, ((HSt2.out.put hm9 hf9)).a 2 _ rfl, ((HSt2.out.put hm9 hf9)).a 3 _ rfl, ((HSt2.out.put hm9 hf9)).a 4 _ rfl, ((HSt2.out.put hm9 hf9)).a 5 _ rfl, ((HSt2.out.put hm9 hf9)).a 6 _ rfl, ((HSt2.out.put hm9 hf9)).a 7 _ rfl, ((HSt2.out.put hm9 hf9)).a 8 _ rfl, ((HSt2.out.put hm9 hf9)).p.cell 0, ((HSt2.out.put hm9 hf9)).p.cell 1, ((HSt2.out.put hm9 hf9)).p.cell 2, ((HSt2.out.put hm9 hf9)).p.cell 3, ((HSt2.out.put hm9 hf9)).p.cell 4, ((HSt2.out.put hm9 hf9)).p.cell 5⟩) ?_
  have HSt3 := Lib.hid ((HSt2.out.put hm9 hf9))
  have hSS : (w9).cell? ⟨h + 3, 1, none⟩ = some (.map (some (h + 1))) ∧ (w9).cell? ⟨By, 0, none⟩ = some (.int .i64 y.t) ∧ (w9).cell? ⟨By, 1, none⟩ = some (.int .i64 y.i) ∧ (w9).cell? ⟨By, 2, none⟩ = some (.int .i64 y.p) ∧ (w9).cell? ⟨By, 3, none⟩ = some (.int .i64 y.r) ∧ (w9).cell? ⟨By, 4, none⟩ = some (.string y.s) ∧ (w9).cell? ⟨By, 5, none⟩ = some (.string y.o) ∧ (w9).cell? ⟨By, 6, none⟩ = some (.int .i64 y.b) ∧ (w9).cell? ⟨By, 7, none⟩ = some (.int .i64 y.d) ∧ (w9).cell? ⟨By, 8, none⟩ = some (.bool y.g) ∧ (w9).cell? ⟨Bp, 0, none⟩ = some (.int .i64 p.t) ∧ (w9).cell? ⟨Bp, 1, none⟩ = some (.int .i64 p.i) ∧ (w9).cell? ⟨Bp, 2, none⟩ = some (.int .i64 p.c) ∧ (w9).cell? ⟨Bp, 3, none⟩ = some (.int .i64 p.d) ∧ (w9).cell? ⟨Bp, 4, none⟩ = some (.int .i64 p.p) ∧ (w9).cell? ⟨Bp, 5, none⟩ = some (.int .i64 p.f) := ⟨(cell3 HSt3.out.f.f).2.1, HSt3.out.a 0 _ rfl, HSt3.out.a 1 _ rfl, HSt3.out.a 2 _ rfl, HSt3.out.a 3 _ rfl, HSt3.out.a 4 _ rfl, HSt3.out.a 5 _ rfl, HSt3.out.a 6 _ rfl, HSt3.out.a 7 _ rfl, HSt3.out.a 8 _ rfl, HSt3.out.p.cell 0, HSt3.out.p.cell 1, HSt3.out.p.cell 2, HSt3.out.p.cell 3, HSt3.out.p.cell 4, HSt3.out.p.cell 5⟩
  refine Eng.TW.end_ [76, 77, 78, 79, 80, 81, 82] HN.out (by kernel_rfl) (by kernel_rfl) ?_
  exact HP.out _ _ HSt3.out

/-- Region 13: the answer. -/
structure P13 (w0 wc w : World) (h : Nat) (L : List Sn) (n m : Nat) (P : Int → Int → Option Pc) (Bx : Nat) (x : Sn) (Br : Nat) (p : Pc) : Prop where
  f : Fq w0 wc w h L n m P
  a : At w Bx 0 x
  p : Bk w Br p.arr TPl
  n : wc.heap.size ≤ Br ∧ Br ≠ Bx
theorem P13.fr {w0 wc w w' : World} {h : Nat} {L : List Sn} {n m : Nat} {P : Int → Int → Option Pc} {Bx : Nat} {x : Sn} {Br : Nat} {p : Pc} (H : P13 w0 wc w h L n m P Bx x Br p) (hf : Fr (fun _ => False) w w') : P13 w0 wc w' h L n m P Bx x Br p := ⟨H.f.fr hf, H.a.keep hf, H.p.fr hf (fun _ _ h => h), H.n⟩
theorem P13.store {w0 wc w : World} {h : Nat} {L : List Sn} {n m : Nat} {P : Int → Int → Option Pc} {Bx : Nat} {x : Sn} {Br : Nat} {p : Pc} (H : P13 w0 wc w h L n m P Bx x Br p) (q : Pc) : P13 w0 wc (put6 w Br q) h L n m P Bx x Br q :=
  ⟨H.f.off (put6_fr w Br q) H.n.1, H.a.fr (put6_fr w Br q) (fun e => H.n.2 e.symm), put6_bk H.p q, H.n⟩
set_option maxRecDepth 100000 in
set_option maxHeartbeats 400000 in
theorem pc13 {ops : Array Oper} (hops : Eng.fnOps Try.f62 13 = ops) (a0 : Act) (Q : Exit → Act → World → Prop) (w0 wc w : World) (h : Nat) (L : List Sn) (n m : Nat) (P : Int → Int → Option Pc) (Bx : Nat) (y : Sn) (Br : Nat) (r p : Pc) (hy : wf64 y.t) (hyi : wf64 y.i) (hp : P y.t y.i = some p) (hst : P13 w0 wc w h L n m P Bx y Br r)
    (hn : a0.tmps.size = 90) (h_0 : a0.tmps.getD 0 undef = .pointer (some ⟨h + 3, 0, none⟩)) (h_3 : a0.tmps.getD 3 undef = .pointer (some ⟨Bx, 0, none⟩)) (h_4 : a0.tmps.getD 4 undef = .pointer (some ⟨Br, 0, none⟩))
    (hpost : ∀ (x : Nat → Value) (w' : World), P13 w0 wc w' h L n m P Bx y Br p → Q .normal (Eng.setAll a0 [83, 84, 85, 86, 87, 88, 89] x) w') :
    (Code.region 13 ops true).wp Try.prog Q a0 w := by
  simp only [Eng.fnOps, Eng.regOps, Try.f62, Option.bind_some, Option.getD_some, Nat.reduceEqDiff, ↓reduceIte, Nat.reduceBEq] at hops
  subst hops
  have HSt := Lib.hid (hst.fr (Fr.drew _ _))
  have hSS : w.drew.cell? ⟨h + 3, 1, none⟩ = some (.map (some (h + 1))) ∧ w.drew.cell? ⟨Bx, 0, none⟩ = some (.int .i64 y.t) ∧ w.drew.cell? ⟨Bx, 1, none⟩ = some (.int .i64 y.i) ∧ w.drew.cell? ⟨Bx, 2, none⟩ = some (.int .i64 y.p) ∧ w.drew.cell? ⟨Bx, 3, none⟩ = some (.int .i64 y.r) ∧ w.drew.cell? ⟨Bx, 4, none⟩ = some (.string y.s) ∧ w.drew.cell? ⟨Bx, 5, none⟩ = some (.string y.o) ∧ w.drew.cell? ⟨Bx, 6, none⟩ = some (.int .i64 y.b) ∧ w.drew.cell? ⟨Bx, 7, none⟩ = some (.int .i64 y.d) ∧ w.drew.cell? ⟨Bx, 8, none⟩ = some (.bool y.g) := ⟨(cell3 HSt.out.f.f).2.1, HSt.out.a 0 _ rfl, HSt.out.a 1 _ rfl, HSt.out.a 2 _ rfl, HSt.out.a 3 _ rfl, HSt.out.a 4 _ rfl, HSt.out.a 5 _ rfl, HSt.out.a 6 _ rfl, HSt.out.a 7 _ rfl, HSt.out.a 8 _ rfl⟩
  refine Eng.regionT (.take 0 (.take 1 (.take 2 (.take 3 (.take 4 (.alt 5 (.alt 6 (.alt 7 (.done) (.stop)) (.stop)) (.stop))))))) (fun w' => w'.cell? ⟨h + 3, 1, none⟩ = some (.map (some (h + 1))) ∧ w'.cell? ⟨Bx, 0, none⟩ = some (.int .i64 y.t) ∧ w'.cell? ⟨Bx, 1, none⟩ = some (.int .i64 y.i) ∧ w'.cell? ⟨Bx, 2, none⟩ = some (.int .i64 y.p) ∧ w'.cell? ⟨Bx, 3, none⟩ = some (.int .i64 y.r) ∧ w'.cell? ⟨Bx, 4, none⟩ = some (.string y.s) ∧ w'.cell? ⟨Bx, 5, none⟩ = some (.string y.o) ∧ w'.cell? ⟨Bx, 6, none⟩ = some (.int .i64 y.b) ∧ w'.cell? ⟨Bx, 7, none⟩ = some (.int .i64 y.d) ∧ w'.cell? ⟨Bx, 8, none⟩ = some (.bool y.g)) (by kernel_rfl) 90 hn (by kernel_rfl) (by kernel_rfl) (by kernel_rfl) (hSS) (fun a b ha hb => ?_)
  subst ha
  have hb0 : b 0 = .pointer (some ⟨h + 3, 0, none⟩) := (hb 0).symm.trans h_0
  have hb3 : b 3 = .pointer (some ⟨Bx, 0, none⟩) := (hb 3).symm.trans h_3
  have hb4 : b 4 = .pointer (some ⟨Br, 0, none⟩) := (hb 4).symm.trans h_4
  clear hb h_0 h_3 h_4
  have HP := Lib.hid hpost; have HN := Lib.hid hn
  clear hpost hn
  refine Eng.TW.take' (v := ?_) rfl rfl (by decide) (by kernel_rfl) (fun w hw => ?_) ?_
  rotate_left
  · (try dsimp only at hw); go_simp; first | done | with_reducible rfl
  refine Eng.TW.take' (v := ?_) rfl rfl (by decide) (by kernel_rfl) (fun w hw => ?_) ?_
  rotate_left
  · (try dsimp only at hw); go_simp; first | done | with_reducible rfl
  refine Eng.TW.take' (v := ?_) rfl rfl (by decide) (by kernel_rfl) (fun w hw => ?_) ?_
  rotate_left
  · (try dsimp only at hw); go_simp; first | done | with_reducible rfl
  refine Eng.TW.take' (v := ?_) rfl rfl (by decide) (by kernel_rfl) (fun w hw => ?_) ?_
  rotate_left
  · (try dsimp only at hw); go_simp; first | done | with_reducible rfl
  refine Eng.TW.take' (v := ?_) rfl rfl (by decide) (by kernel_rfl) (fun w hw => ?_) ?_
  rotate_left
  · (try dsimp only at hw); go_simp; first | done | with_reducible rfl
  refine Eng.TW.call rfl rfl (by decide) (by kernel_rfl) ?_ (Key.Span y hy hyi _) ?_
  · go_simp
  rintro e w2 ⟨rfl, hb1⟩
  have HSt2 := Lib.hid (HSt.out.fr (Fr.of_below' hb1 _))
  have hSS : w2.cell? ⟨h + 3, 1, none⟩ = some (.map (some (h + 1))) ∧ w2.cell? ⟨Bx, 0, none⟩ = some (.int .i64 y.t) ∧ w2.cell? ⟨Bx, 1, none⟩ = some (.int .i64 y.i) ∧ w2.cell? ⟨Bx, 2, none⟩ = some (.int .i64 y.p) ∧ w2.cell? ⟨Bx, 3, none⟩ = some (.int .i64 y.r) ∧ w2.cell? ⟨Bx, 4, none⟩ = some (.string y.s) ∧ w2.cell? ⟨Bx, 5, none⟩ = some (.string y.o) ∧ w2.cell? ⟨Bx, 6, none⟩ = some (.int .i64 y.b) ∧ w2.cell? ⟨Bx, 7, none⟩ = some (.int .i64 y.d) ∧ w2.cell? ⟨Bx, 8, none⟩ = some (.bool y.g) := ⟨(cell3 HSt2.out.f.f).2.1, HSt2.out.a 0 _ rfl, HSt2.out.a 1 _ rfl, HSt2.out.a 2 _ rfl, HSt2.out.a 3 _ rfl, HSt2.out.a 4 _ rfl, HSt2.out.a 5 _ rfl, HSt2.out.a 6 _ rfl, HSt2.out.a 7 _ rfl, HSt2.out.a 8 _ rfl⟩
  clear hb1
  refine ⟨_, rfl, hSS, ?_⟩
  have hlk := HSt2.out.f.f.known hy hyi hp
  refine Eng.TW.step rfl rfl (by decide) (by kernel_rfl) (by go_simp; first | done | with_reducible rfl) (⟨(cell3 (HSt2.out).f.f).2.1, (HSt2.out).a 0 _ rfl, (HSt2.out).a 1 _ rfl, (HSt2.out).a 2 _ rfl, (HSt2.out).a 3 _ rfl, (HSt2.out).a 4 _ rfl, (HSt2.out).a 5 _ rfl, (HSt2.out).a 6 _ rfl, (HSt2.out).a 7 _ rfl, (HSt2.out).a 8 _ rfl⟩) ?_
  have HSt3 := Lib.hid (HSt2.out)
  have hSS : (w2).cell? ⟨h + 3, 1, none⟩ = some (.map (some (h + 1))) ∧ (w2).cell? ⟨Bx, 0, none⟩ = some (.int .i64 y.t) ∧ (w2).cell? ⟨Bx, 1, none⟩ = some (.int .i64 y.i) ∧ (w2).cell? ⟨Bx, 2, none⟩ = some (.int .i64 y.p) ∧ (w2).cell? ⟨Bx, 3, none⟩ = some (.int .i64 y.r) ∧ (w2).cell? ⟨Bx, 4, none⟩ = some (.string y.s) ∧ (w2).cell? ⟨Bx, 5, none⟩ = some (.string y.o) ∧ (w2).cell? ⟨Bx, 6, none⟩ = some (.int .i64 y.b) ∧ (w2).cell? ⟨Bx, 7, none⟩ = some (.int .i64 y.d) ∧ (w2).cell? ⟨Bx, 8, none⟩ = some (.bool y.g) := ⟨(cell3 HSt3.out.f.f).2.1, HSt3.out.a 0 _ rfl, HSt3.out.a 1 _ rfl, HSt3.out.a 2 _ rfl, HSt3.out.a 3 _ rfl, HSt3.out.a 4 _ rfl, HSt3.out.a 5 _ rfl, HSt3.out.a 6 _ rfl, HSt3.out.a 7 _ rfl, HSt3.out.a 8 _ rfl⟩
  have u0 : (w2).cell? ⟨Br, 0, none⟩ = some (.int .i64 r.t) := HSt3.out.p.cell 0
  have v0 : (w2).frozen? ⟨Br, 0, none⟩ = false := HSt3.out.p.free 0
  have u1 : (w2).cell? ⟨Br, 1, none⟩ = some (.int .i64 r.i) := HSt3.out.p.cell 1
  have v1 : (w2).frozen? ⟨Br, 1, none⟩ = false := HSt3.out.p.free 1
  have u2 : (w2).cell? ⟨Br, 2, none⟩ = some (.int .i64 r.c) := HSt3.out.p.cell 2
  have v2 : (w2).frozen? ⟨Br, 2, none⟩ = false := HSt3.out.p.free 2
  have u3 : (w2).cell? ⟨Br, 3, none⟩ = some (.int .i64 r.d) := HSt3.out.p.cell 3
  have v3 : (w2).frozen? ⟨Br, 3, none⟩ = false := HSt3.out.p.free 3
  have u4 : (w2).cell? ⟨Br, 4, none⟩ = some (.int .i64 r.p) := HSt3.out.p.cell 4
  have v4 : (w2).frozen? ⟨Br, 4, none⟩ = false := HSt3.out.p.free 4
  have u5 : (w2).cell? ⟨Br, 5, none⟩ = some (.int .i64 r.f) := HSt3.out.p.cell 5
  have v5 : (w2).frozen? ⟨Br, 5, none⟩ = false := HSt3.out.p.free 5
  refine Eng.TW.step0 rfl rfl (by kernel_rfl) (by go_simp; first | done | with_reducible rfl) (⟨(cell3 (HSt3.out.store p).f.f).2.1, (HSt3.out.store p).a 0 _ rfl, (HSt3.out.store p).a 1 _ rfl, (HSt3.out.store p).a 2 _ rfl, (HSt3.out.store p).a 3 _ rfl, (HSt3.out.store p).a 4 _ rfl, (HSt3.out.store p).a 5 _ rfl, (HSt3.out.store p).a 6 _ rfl, (HSt3.out.store p).a 7 _ rfl, (HSt3.out.store p).a 8 _ rfl⟩) ?_
  have HSt4 := Lib.hid (HSt3.out.store p)
  have hSS : ((((((((w2).setCell ⟨Br, 0, none⟩ (.int .i64 p.t)).setCell ⟨Br, 1, none⟩ (.int .i64 p.i)).setCell ⟨Br, 2, none⟩ (.int .i64 p.c)).setCell ⟨Br, 3, none⟩ (.int .i64 p.d)).setCell ⟨Br, 4, none⟩ (.int .i64 p.p)).setCell ⟨Br, 5, none⟩ (.int .i64 p.f))).cell? ⟨h + 3, 1, none⟩ = some (.map (some (h + 1))) ∧ ((((((((w2).setCell ⟨Br, 0, none⟩ (.int .i64 p.t)).setCell ⟨Br, 1, none⟩ (.int .i64 p.i)).setCell ⟨Br, 2, none⟩ (.int .i64 p.c)).setCell ⟨Br, 3, none⟩ (.int .i64 p.d)).setCell ⟨Br, 4, none⟩ (.int .i64 p.p)).setCell ⟨Br, 5, none⟩ (.int .i64 p.f))).cell? ⟨Bx, 0, none⟩ = some (.int .i64 y.t) ∧ ((((((((w2).setCell ⟨Br, 0, none⟩ (.int .i64 p.t)).setCell ⟨Br, 1, none⟩ (.int .i64 p.i)).setCell ⟨Br, 2, none⟩ (.int .i64 p.c)).setCell ⟨Br, 3, none⟩ (.int .i64 p.d)).setCell ⟨Br, 4, none⟩ (.int .i64 p.p)).setCell ⟨Br, 5, none⟩ (.int .i64 p.f))).cell? ⟨Bx, 1, none⟩ = some (.int .i64 y.i) ∧ ((((((((w2).setCell ⟨Br, 0, none⟩ (.int .i64 p.t)).setCell ⟨Br, 1, none⟩ (.int .i64 p.i)).setCell ⟨Br, 2, none⟩ (.int .i64 p.c)).setCell ⟨Br, 3, none⟩ (.int .i64 p.d)).setCell ⟨Br, 4, none⟩ (.int .i64 p.p)).setCell ⟨Br, 5, none⟩ (.int .i64 p.f))).cell? ⟨Bx, 2, none⟩ = some (.int .i64 y.p) ∧ ((((((((w2).setCell ⟨Br, 0, none⟩ (.int .i64 p.t)).setCell ⟨Br, 1, none⟩ (.int .i64 p.i)).setCell ⟨Br, 2, none⟩ (.int .i64 p.c)).setCell ⟨Br, 3, none⟩ (.int .i64 p.d)).setCell ⟨Br, 4, none⟩ (.int .i64 p.p)).setCell ⟨Br, 5, none⟩ (.int .i64 p.f))).cell? ⟨Bx, 3, none⟩ = some (.int .i64 y.r) ∧ ((((((((w2).setCell ⟨Br, 0, none⟩ (.int .i64 p.t)).setCell ⟨Br, 1, none⟩ (.int .i64 p.i)).setCell ⟨Br, 2, none⟩ (.int .i64 p.c)).setCell ⟨Br, 3, none⟩ (.int .i64 p.d)).setCell ⟨Br, 4, none⟩ (.int .i64 p.p)).setCell ⟨Br, 5, none⟩ (.int .i64 p.f))).cell? ⟨Bx, 4, none⟩ = some (.string y.s) ∧ ((((((((w2).setCell ⟨Br, 0, none⟩ (.int .i64 p.t)).setCell ⟨Br, 1, none⟩ (.int .i64 p.i)).setCell ⟨Br, 2, none⟩ (.int .i64 p.c)).setCell ⟨Br, 3, none⟩ (.int .i64 p.d)).setCell ⟨Br, 4, none⟩ (.int .i64 p.p)).setCell ⟨Br, 5, none⟩ (.int .i64 p.f))).cell? ⟨Bx, 5, none⟩ = some (.string y.o) ∧ ((((((((w2).setCell ⟨Br, 0, none⟩ (.int .i64 p.t)).setCell ⟨Br, 1, none⟩ (.int .i64 p.i)).setCell ⟨Br, 2, none⟩ (.int .i64 p.c)).setCell ⟨Br, 3, none⟩ (.int .i64 p.d)).setCell ⟨Br, 4, none⟩ (.int .i64 p.p)).setCell ⟨Br, 5, none⟩ (.int .i64 p.f))).cell? ⟨Bx, 6, none⟩ = some (.int .i64 y.b) ∧ ((((((((w2).setCell ⟨Br, 0, none⟩ (.int .i64 p.t)).setCell ⟨Br, 1, none⟩ (.int .i64 p.i)).setCell ⟨Br, 2, none⟩ (.int .i64 p.c)).setCell ⟨Br, 3, none⟩ (.int .i64 p.d)).setCell ⟨Br, 4, none⟩ (.int .i64 p.p)).setCell ⟨Br, 5, none⟩ (.int .i64 p.f))).cell? ⟨Bx, 7, none⟩ = some (.int .i64 y.d) ∧ ((((((((w2).setCell ⟨Br, 0, none⟩ (.int .i64 p.t)).setCell ⟨Br, 1, none⟩ (.int .i64 p.i)).setCell ⟨Br, 2, none⟩ (.int .i64 p.c)).setCell ⟨Br, 3, none⟩ (.int .i64 p.d)).setCell ⟨Br, 4, none⟩ (.int .i64 p.p)).setCell ⟨Br, 5, none⟩ (.int .i64 p.f))).cell? ⟨Bx, 8, none⟩ = some (.bool y.g) := ⟨(cell3 HSt4.out.f.f).2.1, HSt4.out.a 0 _ rfl, HSt4.out.a 1 _ rfl, HSt4.out.a 2 _ rfl, HSt4.out.a 3 _ rfl, HSt4.out.a 4 _ rfl, HSt4.out.a 5 _ rfl, HSt4.out.a 6 _ rfl, HSt4.out.a 7 _ rfl, HSt4.out.a 8 _ rfl⟩
  refine Eng.TW.end_ [83, 84, 85, 86, 87, 88, 89] HN.out (by kernel_rfl) (by kernel_rfl) ?_
  exact HP.out _ _ HSt4.out

end ClsF
end Go.Proofs.Ytmcghchhegfilaa
