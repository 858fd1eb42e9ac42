/- The document's histograms: Merge, Quantile. -/
import Derived.Test.YtolpdgaomlhgdaaRef25
import Derived.Test.YtolpdgaomlhgdaaHist3
namespace Go.Proofs.Ytolpdgaomlhgdaa
open Go.RowKit
namespace Ref25
open HistP BagP Bag Wide Bucket
attribute [local go_sem] Eng.ev Eng.getO_cons Eng.getO_nil
/-- .. and but its block has changed since w1. -/
structure RM (w0 : World) (F0 : List Nat) (w1 w : World) (B : Nat) (x : HS) (F : List Nat) : Prop where
  h : RT w0 F0 w B x F
  f : Fr (· = B) w1 w
theorem RM.fr {w0 w1 w w' : World} {F0 F : List Nat} {B : Nat} {x : HS} (h : RM w0 F0 w1 w B x F) (hf : Fr (fun _ => False) w w') : RM w0 F0 w1 w' B x F := ⟨h.h.fr hf, h.f.trans hf (fun _ _ h => h) (fun _ _ h => h.elim)⟩
theorem RM.add {w0 w1 w : World} {F0 F : List Nat} {B : Nat} {x : HS} (h : RM w0 F0 w1 w B x F) (k m : Int) (sz : x.1.length ≤ 1000000) :
    Calls Try.prog 47 #[.pointer (some ⟨B, 0, none⟩), .int .i64 k, .int .i64 m] w fun e w' => e = .returned (.bool (okA m x.1)) ∧ ∃ F', RM w0 F0 w1 w' B (addL k m x.1, x.2) F' := by
  refine (h.h.bagAdd k m sz).mono ?_
  rintro e w' ⟨he, F', ht, hf⟩
  exact ⟨he, F', ht, h.f.trans hf (fun _ _ h => h) (fun _ _ h => h)⟩
theorem RM.cell {w0 w1 w : World} {F0 F : List Nat} {B b o : Nat} {x : HS} {v : Value} (h : RM w0 F0 w1 w B x F) (hb : b < w1.heap.size) (hne : b ≠ B) (hc : w1.cell? ⟨b, o, none⟩ = some v) : w.cell? ⟨b, o, none⟩ = some v :=
  (World.cell?_of_block (w := w1) (a := ⟨b, o, none⟩) (h.f.block b hb hne)).trans hc
set_option maxRecDepth 100000 in
set_option maxHeartbeats 400000 in
theorem m5 {ops : Array Oper} (hops : Eng.fnOps Try.f68 5 = ops) (a0 : Act) (Q : Exit → Act → World → Prop) (w0 : World) (F0 : List Nat) (w1 w : World) (B : Nat) (x_ : HS) (F : List Nat) (b1 o1 len c j : Nat) (k m : Int) (hst : RM w0 F0 w1 w B x_ F) (hlen : x_.1.length ≤ 1000000) (hj : j < len) (hb : b1 < w1.heap.size) (hne : b1 ≠ B) (e0 : w1.cell? ⟨b1, o1 + j * 2, none⟩ = some (.int .i64 k)) (e1 : w1.cell? ⟨b1, o1 + j * 2 + 1, none⟩ = some (.int .i64 m))
    (hn : a0.tmps.size = 61) (h_0 : a0.tmps.getD 0 undef = .pointer (some ⟨B, 0, none⟩)) (h_4 : a0.tmps.getD 4 undef = .slice (some ⟨b1, o1, none⟩) len c) (h_6 : a0.tmps.getD 6 undef = .int .i64 (j : Int))
    (hpost : ∀ (x : Nat → Value) (w' : World) (F' : List Nat), RM w0 F0 w1 w' B (addL k m x_.1, x_.2) F' → Q .normal (Eng.setAll a0 [23, 24, 25, 26, 27, 28, 29, 30, 31, 32, 33, 34, 35, 36] x) w') :
    (Code.region 5 ops true).wp Try.prog Q a0 w := by
  simp only [Eng.fnOps, Eng.regOps, Try.f68, Option.bind_some, Option.getD_some, Nat.reduceEqDiff, ↓reduceIte, Nat.reduceBEq] at hops
  subst hops
  have q1 : (0 : Int) ≤ (j : Int) := by omega
  have q2 : (j : Int) < (len : Int) := by omega
  have HSt := Lib.hid (hst.fr (Fr.drew _ _))
  have hSS : w.drew.cell? ⟨b1, o1 + j * 2, none⟩ = some (.int .i64 k) ∧ w.drew.cell? ⟨b1, o1 + j * 2 + 1, none⟩ = some (.int .i64 m) := ⟨HSt.out.cell hb hne e0, HSt.out.cell hb hne e1⟩
  refine Eng.regionN [(0, true), (1, true), (2, true), (3, true), (4, true), (5, true), (6, true), (7, true), (8, true), (9, true), (10, true), (11, true), (12, true), (13, false)] (fun w' => w'.cell? ⟨b1, o1 + j * 2, none⟩ = some (.int .i64 k) ∧ w'.cell? ⟨b1, o1 + j * 2 + 1, none⟩ = some (.int .i64 m)) (by kernel_rfl) 61 hn (by kernel_rfl) rfl (by kernel_rfl) (hSS) (fun a b ha hb => ?_)
  subst ha
  have hb0 : b 0 = .pointer (some ⟨B, 0, none⟩) := (hb 0).symm.trans h_0
  have hb4 : b 4 = .slice (some ⟨b1, o1, none⟩) len c := (hb 4).symm.trans h_4
  have hb6 : b 6 = .int .i64 (j : Int) := (hb 6).symm.trans h_6
  clear hb h_0 h_4 h_6
  have HP := Lib.hid hpost; have HN := Lib.hid hn
  clear hpost hn
  refine Eng.Sch.take (v := ?_) rfl rfl (by decide) (by kernel_rfl) (fun w hw => ?_) ?_
  rotate_left
  · (try dsimp only at hw); go_simp; first | done | with_reducible rfl
  refine Eng.Sch.take (v := ?_) rfl rfl (by decide) (by kernel_rfl) (fun w hw => ?_) ?_
  rotate_left
  · (try dsimp only at hw); go_simp; first | done | with_reducible rfl
  refine Eng.Sch.take (v := ?_) rfl rfl (by decide) (by kernel_rfl) (fun w hw => ?_) ?_
  rotate_left
  · (try dsimp only at hw); go_simp; first | done | with_reducible rfl
  refine Eng.Sch.take (v := ?_) rfl rfl (by decide) (by kernel_rfl) (fun w hw => ?_) ?_
  rotate_left
  · (try dsimp only at hw); go_simp; first | done | with_reducible rfl
  refine Eng.Sch.take (v := ?_) rfl rfl (by decide) (by kernel_rfl) (fun w hw => ?_) ?_
  rotate_left
  · (try dsimp only at hw); go_simp; first | done | with_reducible rfl
  refine Eng.Sch.take (v := ?_) rfl rfl (by decide) (by kernel_rfl) (fun w hw => ?_) ?_
  rotate_left
  · (try dsimp only at hw); go_simp; first | done | with_reducible rfl
  refine Eng.Sch.take (v := ?_) rfl rfl (by decide) (by kernel_rfl) (fun w hw => ?_) ?_
  rotate_left
  · (try dsimp only at hw); go_simp; first | done | with_reducible rfl
  refine Eng.Sch.take (v := ?_) rfl rfl (by decide) (by kernel_rfl) (fun w hw => ?_) ?_
  rotate_left
  · (try dsimp only at hw); go_simp; first | done | with_reducible rfl
  refine Eng.Sch.take (v := ?_) rfl rfl (by decide) (by kernel_rfl) (fun w hw => ?_) ?_
  rotate_left
  · (try dsimp only at hw); go_simp; first | done | with_reducible rfl
  refine Eng.Sch.take (v := ?_) rfl rfl (by decide) (by kernel_rfl) (fun w hw => ?_) ?_
  rotate_left
  · (try dsimp only at hw); go_simp; first | done | with_reducible rfl
  refine Eng.Sch.take (v := ?_) rfl rfl (by decide) (by kernel_rfl) (fun w hw => ?_) ?_
  rotate_left
  · (try dsimp only at hw); go_simp; first | done | with_reducible rfl
  refine Eng.Sch.take (v := ?_) rfl rfl (by decide) (by kernel_rfl) (fun w hw => ?_) ?_
  rotate_left
  · (try dsimp only at hw); go_simp; first | done | with_reducible rfl
  refine Eng.Sch.take (v := ?_) rfl rfl (by decide) (by kernel_rfl) (fun w hw => ?_) ?_
  rotate_left
  · (try dsimp only at hw); go_simp; first | done | with_reducible rfl
  refine Eng.Sch.call rfl rfl (by decide) (by kernel_rfl) ?_ (HSt.out.add k m hlen) ?_
  · go_simp
  rintro e w2 ⟨rfl, F2, hT⟩
  have HSt1 := Lib.hid (hT)
  have hSS : w2.cell? ⟨b1, o1 + j * 2, none⟩ = some (.int .i64 k) ∧ w2.cell? ⟨b1, o1 + j * 2 + 1, none⟩ = some (.int .i64 m) := ⟨HSt1.out.cell hb hne e0, HSt1.out.cell hb hne e1⟩
  clear hT
  refine ⟨_, rfl, hSS, ?_⟩
  refine Eng.Sch.end_ [23, 24, 25, 26, 27, 28, 29, 30, 31, 32, 33, 34, 35, 36] HN.out (by kernel_rfl) (by kernel_rfl) ?_
  exact HP.out _ _ _ HSt1.out

/-- What lies behind the sums' addition. -/
structure MX (w : World) (F : List Nat) (Bs Bx B : Nat) (L : List (Int × Int)) (s u v : Int × Int) (F' : List Nat) (wc : World) : Prop where
  h : RH wc B (L, s) F'
  t : Tn F F' w wc
  bs : Bk wc Bs #[.int .i64 u.1, .int .i64 u.2] TS
  bx : Bk wc Bx #[.int .i64 v.1, .int .i64 v.2] TS
  n1 : Bs ∉ F'
  n2 : Bx ∉ F'
  n3 : Bx ≠ Bs
  l1 : w.heap.size ≤ Bx
theorem MX.setX {w : World} {F : List Nat} {Bs Bx B : Nat} {L : List (Int × Int)} {s u v : Int × Int} {F' : List Nat} {wc : World} (h : MX w F Bs Bx B L s u v F' wc) {wd : World} (hf : Fr (· = Bx) wc wd) (v' : Int × Int) (hb : Bk wd Bx #[.int .i64 v'.1, .int .i64 v'.2] TS) : MX w F Bs Bx B L s u v' F' wd :=
  ⟨h.h.fr hf (fun b hb e => h.n2 (e ▸ hb)), ⟨h.t.fr.trans hf (fun _ _ h => h) (fun i hi e => by have e : i = Bx := e; have := h.l1; omega), fun x hx => ⟨(h.t.sub x hx).1, Nat.lt_of_lt_of_le (h.h.lt x hx) hf.size⟩⟩, h.bs.fr hf (fun b hb e => by simp at hb; subst hb; exact h.n3 e.symm), hb, h.n1, h.n2, h.n3, h.l1⟩
set_option maxRecDepth 100000 in
set_option maxHeartbeats 2000000 in
theorem Merge_any (B Bo : Nat) (x y : HS) (F Fo : List Nat) (w : World) (h : RH w B x F) (ho : RH w Bo y Fo) (hlen : x.1.length + y.1.length < 1000000) (hd : B ∉ Fo ∨ Bo = B) :
    Calls Try.prog 68 #[.pointer (some ⟨B, 0, none⟩), .pointer (some ⟨Bo, 0, none⟩)] w fun e w' => e = .returned (.tuple #[]) ∧ ∃ F', RH w' B (mergeH y x) F' ∧ Tn F F' w w' := by
  obtain ⟨c1, c2, -, -⟩ := ho.cells
  have hBol := ho.lt Bo ho.mem
  have hBl := h.lt B h.mem
  have hFl := h.lt
  have HAd := fun w => Lib.hid (Ref04.Add x.2 y.2.2 h.may w)
  have HMb := Lib.hid (h.may.both ho.may)
  have hma := h.may.add y.2.2
  have hmy := ho.may
  have HE : Hid (mergeH y x = (addAll y.1 x.1, if 4294967296 < (addS x.2 y.2.2).1 + y.2.1 then (4294967296, 4611686018427387903) else ((addS x.2 y.2.2).1 + y.2.1, (addS x.2 y.2.2).2))) := rfl
  obtain ⟨⟨Ao, co, hbo, hSo, rfl, h4⟩, -, -⟩ := ho
  have c0 : w.cell? ⟨Bo, 0, none⟩ = some (.slice Ao y.1.length co) := hbo.c0
  have hAo : Hid (∀ a, Ao = some a → a.block ≠ B) := fun a ha => by
    rcases hd with hd | rfl
    · exact fun e => hd (List.mem_cons_of_mem _ (mem_ablk.2 ⟨a, ha, e⟩))
    · exact (h4 a ha).1
  have f1 := Fr.alloc (fun _ => False) w (.cells #[.int .i64 y.2.1, .int .i64 y.2.2] TS)
  have H1 : Hid (RM (w.alloc (.cells #[.int .i64 y.2.1, .int .i64 y.2.2] TS)) F (w.alloc (.cells #[.int .i64 y.2.1, .int .i64 y.2.2] TS)) (w.alloc (.cells #[.int .i64 y.2.1, .int .i64 y.2.2] TS)) B x F) := ⟨(h.fr f1 (fun _ _ h => h)).rt, Fr.refl _ _⟩
  have HS1 := Lib.hid (hSo.fr f1 (fun _ _ h => h))
  have HBs := Lib.hid (Bk.new w #[.int .i64 y.2.1, .int .i64 y.2.2] TS)
  have HF1 := Lib.hid f1
  have hFw := Lib.hid hFl
  have hs1 : w.heap.size < (w.alloc (.cells #[.int .i64 y.2.1, .int .i64 y.2.2] TS)).heap.size := by simp
  generalize mergeH y x = z at *
  clear h hbo hSo h4 hd f1 hFl
  obtain ⟨L, s⟩ := x
  obtain ⟨M, u1, u2⟩ := y
  dsimp only at *
  go_enter Try.func68, Try.ntmps68
  go_wp2_with fail
  clear c0 c1 c2
  generalize w.alloc (.cells #[.int .i64 u1, .int .i64 u2] TS) = w1 at *
  go_loopg [6] M.length (fun gk i wr => ∃ (k : Nat) (F' : List Nat), i = .int .i64 k ∧ k ≤ M.length ∧ gk = M.length - k ∧ RM w1 F w1 wr B (addAll (M.take k) L, s) F')
  case atStart => exact ⟨0, F, rfl, Nat.zero_le _, rfl, H1.out⟩
  case round =>
    clear H1
    obtain ⟨k, F', rfl, hk, hg, hst⟩ := hrel
    have HG := Lib.hid hg; have HSt := Lib.hid hst
    clear hg hst
    by_cases hlt : k < M.length
    · obtain ⟨b1, o1, rfl, hb1, hc1⟩ := HS1.out.at hlt (by omega)
      have e0 : w1.cell? ⟨b1, o1 + k * 2, none⟩ = some (.int .i64 M[k].1) := hc1 (k * 2) _ (by rw [← Nat.add_zero (k * 2), flat_at pc_len hlt (by omega)]; rfl)
      have e1 : w1.cell? ⟨b1, o1 + k * 2 + 1, none⟩ = some (.int .i64 M[k].2) := hc1 (k * 2 + 1) _ (by rw [flat_at pc_len hlt (by omega)]; rfl)
      have HSn := Lib.hid (Hist.addAll_snoc M L hlt)
      have hl := Hist.addAll_len (M.take k) L
      have hl2 : (M.take k).length ≤ M.length := by simp; omega
      have hl3 : (addAll (M.take k) L).length ≤ 1000000 := by omega
      have hne := hAo.out _ rfl
      dsimp only at hne
      generalize M[k] = p at *
      obtain ⟨kk, mm⟩ := p
      dsimp only at e0 e1 HSn
      clear hc1 hl hl2
      have E0 := Lib.hid e0; have E1 := Lib.hid e1
      clear e0 e1
      generalize addAll (M.take k) L = L1 at *
      go_upto_region 5 with (fail)
      refine m5 (by kernel_rfl) _ _ w1 F w1 _ B (L1, s) F' b1 o1 M.length co k kk mm HSt.out hl3 hlt hb1 hne E0.out E1.out rfl rfl rfl rfl ?_
      intro y2 w2 F2 hst
      simp only [Eng.setAll, Act.put, List.setIfInBounds_toArray, List.set_cons_succ, List.set_cons_zero]
      have H2 := Lib.hid hst
      clear hst
      go_wp2_with fail
      go_roundg (M.length - (k + 1))
      case rel => exact ⟨k + 1, F2, by go_num, by omega, rfl, by rw [HSn.out]; exact H2.out⟩
      case measure => have := HG.out; omega
    · obtain rfl : k = M.length := by omega
      rw [List.take_length] at HSt
      have hT : Tn F F' w wr := (Tn.of_fr HF1.out hFw.out).trans HSt.out.h.t
      have hBs : Bk wr w.heap.size #[.int .i64 u1, .int .i64 u2] TS := HBs.out.fr HSt.out.f (fun b hb e => by simp at hb; subst hb; have e : w.heap.size = B := e; omega)
      have hns : w.heap.size ∉ F' := fun hx => by
        rcases (HSt.out.h.t.sub _ hx).1 with e | e
        · have := hFw.out _ e; omega
        · omega
      have hr := HSt.out.h.h
      obtain ⟨d1, d2, f3, f4⟩ := hr.cells
      obtain ⟨e1, e2, -, -⟩ := Bk.cells hBs
      have HT := Lib.hid hT; have HBs2 := Lib.hid hBs; have HNs := Lib.hid hns; have HR := Lib.hid hr
      have hwl : w.heap.size < wr.heap.size := lt_of_heap hBs
      clear hT hBs hns hr HSt HS1 hAo HF1 hFw HBs
      generalize addAll M L = L1 at *
      obtain ⟨s1, s2⟩ := s
      dsimp only at d1 d2
      go_upto_region 6 with (fail)
      have HMX : Hid (∀ w2 v, Fr (fun _ => False) wr w2 → MX w F w.heap.size w2.heap.size B L1 (s1, s2) (u1, u2) v F' (w2.alloc (.cells #[.int .i64 v.1, .int .i64 v.2] TS))) := fun w2 v hf => by
        have f2 := hf.to (Fr.alloc (fun _ => False) w2 (.cells #[.int .i64 v.1, .int .i64 v.2] TS))
        have h2 := hf.size
        exact ⟨HR.out.fr f2 (fun _ _ h => h), HT.out.trans (Tn.of_fr f2 HR.out.lt), HBs2.out.frF f2, Bk.new _ _ _, HNs.out, fun hx => by have := HR.out.lt _ hx; omega, by omega, by omega⟩
      go_cut [7] (fun s7 wc => ∃ Bx, s7 = .pointer (some ⟨Bx, 0, none⟩) ∧ MX w F w.heap.size Bx B L1 (s1, s2) (u1, u2) (addS (s1, s2) u2) F' wc)
      case first =>
        generalize addS (s1, s2) u2 = v at *
        obtain ⟨v1, v2⟩ := v
        have HZ : Hid (∀ w2, Fr (fun _ => False) ((wr.alloc (.cells #[.int .i64 0, .int .i64 0] TS)).drew) w2 → Bk w2 wr.heap.size #[.int .i64 0, .int .i64 0] TS ∧ MX w F w.heap.size wr.heap.size B L1 (s1, s2) (u1, u2) (v1, v2) F' ((w2.setCell ⟨wr.heap.size, 0, none⟩ (.int .i64 v1)).setCell ⟨wr.heap.size, 1, none⟩ (.int .i64 v2))) := fun w2 hf => by
          have hz := ((Bk.new wr #[.int .i64 0, .int .i64 0] TS).frF (Fr.drew _ _)).frF hf
          have f2 := (Fr.alloc (fun _ => False) wr (.cells #[.int .i64 0, .int .i64 0] TS)).to ((Fr.drew _ _).to hf)
          refine ⟨hz, MX.setX (v := (0, 0)) (wc := w2) ⟨HR.out.fr f2 (fun _ _ h => h), HT.out.trans (Tn.of_fr f2 HR.out.lt), HBs2.out.frF f2, hz, HNs.out, fun hx => by have := HR.out.lt _ hx; omega, by omega, by omega⟩ ?_ (v1, v2) ((hz.set 0 _).set 1 _)⟩
          exact (Fr.setCell w2 ⟨wr.heap.size, 0, none⟩ _ (S := (· = wr.heap.size)) rfl).trans (Fr.setCell _ ⟨wr.heap.size, 1, none⟩ _ (S := (· = wr.heap.size)) rfl) (fun _ _ h => h) (fun _ _ h => h)
        have HA1 : Hid (Calls Try.prog 102 #[sv (s1, s2), .int .i64 u2] wr.drew fun e w2 => e = .returned (sv (v1, v2)) ∧ Hid (MX w F w.heap.size w2.heap.size B L1 (s1, s2) (u1, u2) (v1, v2) F' (w2.alloc (.cells #[.int .i64 v1, .int .i64 v2] TS)))) := (HAd _).out.mono (fun e w2 h => ⟨h.1, HMX.out _ (v1, v2) ((Fr.drew _ _).to h.2)⟩)
        have HA2 : Hid (Calls Try.prog 102 #[sv (s1, s2), .int .i64 u2] (wr.alloc (.cells #[.int .i64 0, .int .i64 0] TS)).drew fun e w2 => e = .returned (sv (v1, v2)) ∧ Hid (MX w F w.heap.size wr.heap.size B L1 (s1, s2) (u1, u2) (v1, v2) F' ((w2.setCell ⟨wr.heap.size, 0, none⟩ (.int .i64 v1)).setCell ⟨wr.heap.size, 1, none⟩ (.int .i64 v2))) ∧ w2.cell? ⟨wr.heap.size, 0, none⟩ = some (.int .i64 0) ∧ w2.cell? ⟨wr.heap.size, 1, none⟩ = some (.int .i64 0) ∧ w2.frozen? ⟨wr.heap.size, 0, none⟩ = false ∧ w2.frozen? ⟨wr.heap.size, 1, none⟩ = false) := (HAd _).out.mono (fun e w2 h => ⟨h.1, (HZ.out _ h.2).2, Bk.cells (HZ.out _ h.2).1⟩)
        have hBlr := HR.out.lt B HR.out.mem
        have z1 : ¬ wr.heap.size = B := by omega
        have z2 : ¬ B = wr.heap.size := by omega
        have z3 : ¬ wr.heap.size = w.heap.size := by omega
        have z4 : ¬ w.heap.size = wr.heap.size := by omega
        obtain ⟨y1, y2, -, -⟩ := (HR.out.fr (Fr.alloc (fun _ => False) wr (.cells #[.int .i64 0, .int .i64 0] TS)) (fun _ _ h => h)).cells
        obtain ⟨y3, y4, -, -⟩ := Bk.cells (HBs2.out.frF (Fr.alloc (fun _ => False) wr (.cells #[.int .i64 0, .int .i64 0] TS)))
        dsimp only at y1 y2
        clear HZ HMX HAd HR HT HBs2 HNs HE HMb HG hBlr
        go_region_with (first | (go_at_call 102; (with_reducible refine HA1.out.mono ?_); rintro e w2 ⟨rfl, hM⟩) | (go_at_call 102; (with_reducible refine HA2.out.mono ?_); rintro e w2 ⟨rfl, hM, q0, q1, p0, p1⟩))
        all_goals
          go_wp2_with fail
          go_meet
          exact ⟨_, rfl, hM.out⟩
      case rest =>
        obtain ⟨Bx, rfl, hmx⟩ := hcut
        have HX := Lib.hid hmx
        have hBx : ¬ Bx = B := fun e => hmx.n2 (e ▸ hmx.h.mem)
        have hBx2 : ¬ B = Bx := fun e => hBx e.symm
        have hBs2 : ¬ Bx = w.heap.size := hmx.n3
        have hBs3 : ¬ w.heap.size = Bx := fun e => hBs2 e.symm
        obtain ⟨x0, x1, g0, g1⟩ := Bk.cells hmx.bx
        obtain ⟨y0, y1, -, -⟩ := Bk.cells hmx.bs
        obtain ⟨m1, m2, m3, m4⟩ := hma
        obtain ⟨n1, n2, n3, n4⟩ := hmy
        clear hmx HMX HR HT HBs2 HNs d1 d2 f3 f4 e1 e2 HAd
        generalize addS (s1, s2) u2 = v at *
        obtain ⟨v1, v2⟩ := v
        dsimp only at *
        by_cases hg : 4294967296 < v1 + u1
        · rw [if_pos hg] at HE
          go_upto_region 10 with (fail)
          have H2 := Lib.hid (HX.out.setX (wd := (wc.setCell ⟨Bx, 0, none⟩ (.int .i64 4294967296)).setCell ⟨Bx, 1, none⟩ (.int .i64 4611686018427387903)) ((Fr.setCell wc ⟨Bx, 0, none⟩ _ (S := (· = Bx)) rfl).trans (Fr.setCell _ ⟨Bx, 1, none⟩ _ (S := (· = Bx)) rfl) (fun _ _ h => h) (fun _ _ h => h)) (4294967296, 4611686018427387903) ((HX.out.bx.set 0 _).set 1 _))
          clear x0 x1 g0 g1 y0 y1 HX
          generalize (wc.setCell ⟨Bx, 0, none⟩ (.int .i64 4294967296)).setCell ⟨Bx, 1, none⟩ (.int .i64 4611686018427387903) = wd at *
          obtain ⟨x0, x1, g0, g1⟩ := Bk.cells H2.out.bx
          obtain ⟨d1, d2, f3, f4⟩ := H2.out.h.cells
          dsimp only at d1 d2 x0 x1
          have H3 := Lib.hid (H2.out.h.setS (s := (4294967296, 4611686018427387903)) ⟨by simp, by simp, by simp, by simp⟩)
          dsimp only at H3
          go_wp2_with fail
          go_end0
          exact ⟨rfl, F', by rw [HE.out]; exact H3.out.1, H2.out.t.trans H3.out.2⟩
        · rw [if_neg hg] at HE
          go_upto_region 10 with (fail)
          have H2 := Lib.hid (HX.out.setX (wd := wc.setCell ⟨Bx, 0, none⟩ (.int .i64 (v1 + u1))) (Fr.setCell wc ⟨Bx, 0, none⟩ _ (S := (· = Bx)) rfl) (v1 + u1, v2) (HX.out.bx.set 0 _))
          clear x0 x1 g0 g1 y0 y1 HX
          generalize wc.setCell ⟨Bx, 0, none⟩ (.int .i64 (v1 + u1)) = wd at *
          obtain ⟨x0, x1, g0, g1⟩ := Bk.cells H2.out.bx
          obtain ⟨d1, d2, f3, f4⟩ := H2.out.h.cells
          dsimp only at d1 d2 x0 x1
          have H3 := Lib.hid (H2.out.h.setS (s := (v1 + u1, v2)) ⟨by dsimp only; omega, by dsimp only; omega, by dsimp only; omega, by dsimp only; omega⟩)
          dsimp only at H3
          go_wp2_with fail
          go_end0
          exact ⟨rfl, F', by rw [HE.out]; exact H3.out.1, H2.out.t.trans H3.out.2⟩
set_option maxRecDepth 100000 in
set_option maxHeartbeats 400000 in
theorem Quantile (B : Nat) (p : Int) (x : HS) (F : List Nat) (w : World) (h : RH w B x F) (hn : sumL x.1 ≤ 1000000) : Calls Try.prog 70 #[.pointer (some ⟨B, 0, none⟩), .int .i64 p] w fun e w' => e = .returned (bv (quant x p)) ∧ Fr (fun _ => False) w w' := by
  have HL := Lib.hid h.bagLen
  have hn0 := (h.ok.pos.cnt 0).2.2
  have HPos := Lib.hid h.ok.pos
  obtain ⟨A, c, hb, hS, -, -⟩ := h.b
  have c0 : w.cell? ⟨B, 0, none⟩ = some (.slice A x.1.length c) := hb.c0
  have HC := Lib.hid (Ref03.Clamp p 0 1000 w)
  have hc : 0 ≤ clamp p 0 1000 ∧ clamp p 0 1000 ≤ 1000 := by unfold clamp; omega
  have hlen : x.1.length ≤ 9223372036854775807 := by have := hS.2.1; have := hS.2.2.1; unfold maxLen at this; omega
  have HS := Lib.hid hS
  have hq0 : 0 ≤ sumL x.1 * clamp p 0 1000 := Int.mul_nonneg hn0 hc.1
  have hq1 : sumL x.1 * clamp p 0 1000 ≤ sumL x.1 * 1000 := Int.mul_le_mul_of_nonneg_left hc.2 hn0
  have HR : Hid (∀ r, 1 ≤ r → r ≤ max 1 (sumL x.1) → (r = 1 ∨ (r - 1) * 1000 < sumL x.1 * clamp p 0 1000) → ¬ (r < sumL x.1 ∧ r * 1000 < sumL x.1 * clamp p 0 1000) → r = rank (sumL x.1) p) := fun r h1 h2 h3 h4 => rank_is hn0 h1 h2 h3 h4
  have HQ : Hid (quant x p = match findQ (rank (sumL x.1) p) x.1 with | some k => bnd k | none => (0, 0, false)) := rfl
  generalize quant x p = qq at *
  generalize clamp p 0 1000 = cc at *
  clear h hb hS
  obtain ⟨L, s⟩ := x
  dsimp only at *
  generalize hnn : sumL L = n at *
  have HNN := Lib.hid hnn
  clear hnn
  generalize hrr : rank n p = rk at *
  clear hrr
  go_enter Try.func70, Try.ntmps70
  go_wp2_with fail
  refine HL.out.mono ?_
  rintro e w1 ⟨rfl, rfl⟩
  go_wp2_with fail
  refine HC.out.mono ?_
  rintro e w1 ⟨rfl, rfl⟩
  clear HL HC
  go_wp2_with fail
  go_loopg [9] (n - 1).toNat (fun gk i wr => ∃ r : Int, i = .int .i64 r ∧ 1 ≤ r ∧ r ≤ max 1 n ∧ gk = (n - r).toNat ∧ (r = 1 ∨ (r - 1) * 1000 < n * cc) ∧ w = wr)
  case atStart => exact ⟨1, rfl, by omega, by omega, rfl, .inl rfl, rfl⟩
  case round =>
    obtain ⟨r, rfl, hr1, hr2, hg, hlo, rfl⟩ := hrel
    have HG := Lib.hid hg; have HLo := Lib.hid hlo
    clear hg hlo
    have hrm : r ≤ 1000001 := by omega
    by_cases h1 : r < n ∧ r * 1000 < n * cc
    · obtain ⟨h1a, h1b⟩ := h1
      go_wp2_with fail
      go_roundg (n - (r + 1)).toNat
      case rel => exact ⟨r + 1, rfl, by omega, by omega, rfl, .inr (by rw [Int.add_sub_cancel]; exact h1b), rfl⟩
      case measure => have := HG.out; omega
    · obtain rfl := HR.out r hr1 hr2 HLo.out h1
      have h1' : ¬ r < n ∨ (r < n ∧ ¬ r * 1000 < n * cc) := by
        by_cases h : r < n
        · exact .inr ⟨h, fun h2 => h1 ⟨h, h2⟩⟩
        · exact .inl h
      clear h1 HLo HR
      rcases h1' with h1a | ⟨h1a, h1b⟩
      all_goals
        go_wp2_with fail
        go_loopg [9, 10] L.length (fun gk r' i wr => ∃ k : Nat, i = .int .i64 k ∧ k ≤ L.length ∧ gk = L.length - k ∧ r' = .int .i64 (r - sumL (L.take k)) ∧ findQ r (L.take k) = none ∧ w = wr)
        case atStart => exact ⟨0, rfl, Nat.zero_le _, rfl, by simp [sumL], rfl, rfl⟩
        case round =>
          obtain ⟨k, rfl, hk, hg2, rfl, hno, rfl⟩ := hrel
          have HG2 := Lib.hid hg2; have HNo := Lib.hid hno
          clear hg2 hno
          by_cases hlt : k < L.length
          · obtain ⟨b1, o1, rfl, hb1, hc1⟩ := HS.out.at hlt (by omega)
            have e0 : w.cell? ⟨b1, o1 + k * 2, none⟩ = some (.int .i64 L[k].1) := hc1 (k * 2) _ (by rw [← Nat.add_zero (k * 2), flat_at pc_len hlt (by omega)]; rfl)
            have e1 : w.cell? ⟨b1, o1 + k * 2 + 1, none⟩ = some (.int .i64 L[k].2) := hc1 (k * 2 + 1) _ (by rw [flat_at pc_len hlt (by omega)]; rfl)
            have HT := Lib.hid (List.take_succ_eq_append_getElem hlt)
            have HF := Lib.hid (Hist.findQ_app r (L.take k) [L[k]] HNo.out)
            have hs := Hist.sum_pre (List.take_prefix k L) HPos.out
            have hs2 := Hist.sum_pre (List.take_prefix (k + 1) L) HPos.out
            have hsn : sumL (L.take (k + 1)) = sumL (L.take k) + L[k].2 := by rw [HT.out, sumL_append]; simp [sumL]
            rw [hsn] at hs2
            rw [HNN.out] at hs hs2
            have HSn := Lib.hid hsn
            have HPr := Lib.hid (show L.take k ++ [L[k]] <+: L by rw [← HT.out]; exact List.take_prefix _ _)
            have HBo := Lib.hid (Ref24.Bounds L[k].1 w)
            generalize hp : L[k] = q at *
            clear hp hc1 hsn
            obtain ⟨qk, qm⟩ := q
            dsimp only at e0 e1 hs2 HBo HSn
            generalize sumL (L.take k) = sp at *
            by_cases hle : r - sp ≤ qm
            · have HFd : Hid (findQ r L = some qk) := by
                refine Hist.findQ_pre ?_ HPr.out
                rw [HF.out]; unfold findQ; rw [if_pos hle]
              rw [HFd.out] at HQ
              dsimp only at HQ
              go_wp2_with fail
              refine HBo.out.mono ?_
              rintro e w1 ⟨rfl, hf⟩
              have HFr := Lib.hid hf
              clear hf
              generalize bnd qk = bb at *
              obtain ⟨x1, x2, x3⟩ := bb
              go_wp2_with fail
              go_ret3
              exact ⟨by rw [HQ.out]; rfl, HFr.out⟩
            · have HFd : Hid (findQ r (L.take (k + 1)) = none) := by
                show _ = _
                rw [HT.out, HF.out]; unfold findQ; rw [if_neg hle]; rfl
              go_wp2_with fail
              go_roundg (L.length - (k + 1))
              case rel => exact ⟨k + 1, by go_num, by omega, rfl, by rw [HSn.out, ← Int.sub_sub], HFd.out, rfl⟩
              case measure => have := HG2.out; omega
          · obtain rfl : k = L.length := by omega
            rw [List.take_length] at HNo
            rw [HNo.out] at HQ
            dsimp only at HQ
            go_wp2_with fail
            go_ret3
            exact ⟨by rw [HQ.out]; rfl, Fr.refl _ _⟩
end Ref25
end Go.Proofs.Ytolpdgaomlhgdaa
