/- A span's place: the program's. -/
import Derived.Test.YtmcghchhegfilaaClsL
import Derived.Deep.CutBlock
import Derived.Deep.CutRange
import Derived.Deep.DeepCutAuto
namespace Go.Proofs.Ytmcghchhegfilaa
open Go.RowKit
namespace ClsF
open KeyP PackP SetP SetW SetF Cls ClsW ClsS
attribute [local go_sem] Eng.ev Eng.getO_cons Eng.getO_nil
/-- Where the loop stands. -/
structure PB (w0 wc w : World) (h : Nat) (L : List Sn) (n m : Nat) (P : Int → Int → Option Pc) (x : Sn) (s : List Sn) (A : Option Addr) (c : Nat) : Prop where
  f : Fq w0 wc w h L n m P
  g : PG L P
  a : At w wc.heap.size 0 x
  r : Bk w (wc.heap.size + 1) z6.arr TPl
  l : Sl w 9 A s.length c (s.flatMap scs)
  n : ∀ q, A = some q → wc.heap.size + 2 ≤ q.block ∧ q.block < w.heap.size
theorem PB.fr {w0 wc w w' : World} {h : Nat} {L : List Sn} {n m : Nat} {P : Int → Int → Option Pc} {x : Sn} {s : List Sn} {A : Option Addr} {c : Nat} (H : PB w0 wc w h L n m P x s A c) (hf : Fr (fun _ => False) w w') : PB w0 wc w' h L n m P x s A c :=
  ⟨H.f.fr hf, H.g, H.a.keep hf, H.r.fr hf (fun _ _ h => h), H.l.fr hf (fun _ _ h => h), fun q hq => ⟨(H.n q hq).1, Nat.lt_of_lt_of_le (H.n q hq).2 hf.size⟩⟩
/-- The map has turned, or blocks that are apart. -/
theorem PB.to {w0 wc w w' : World} {S : Nat → Prop} {h : Nat} {L : List Sn} {n m m' : Nat} {P P' : Int → Int → Option Pc} {x : Sn} {s : List Sn} {A : Option Addr} {c : Nat} (H : PB w0 wc w h L n m P x s A c) (hq : Fq w0 wc w' h L n m' P') (hg : PG L P') (hf : Fr S w w') (h1 : ¬ S wc.heap.size) (h2 : ¬ S (wc.heap.size + 1)) (h3 : ∀ q, A = some q → ¬ S q.block) : PB w0 wc w' h L n m' P' x s A c :=
  ⟨hq, hg, H.a.fr hf h1, H.r.fr hf (fun k hk => by simp at hk; subst hk; exact h2), H.l.fr hf h3, fun q hq => ⟨(H.n q hq).1, Nat.lt_of_lt_of_le (H.n q hq).2 hf.size⟩⟩
theorem abw_abv {L : List Sn} {P : Int → Int → Option Pc} (hg : PG L P) {z : Sn} {t e : Int} (ht : z.t = t) : ((abw L P z t e).c, (abw L P z t e).d, (abw L P z t e).p) = abv L (fun i => (P t i).isSome) z e := by
  subst ht
  unfold abw abv
  cases hP : P z.t e with
  | some p =>
    obtain ⟨y, hy, rfl⟩ := hg _ _ _ hP
    simp [hP, hy, plc]
  | none =>
    cases hn : nx L z.t e with
    | some y => simp [hP]
    | none => by_cases h0 : z.p = 0 <;> simp [h0]
theorem _root_.Go.Proofs.Ytmcghchhegfilaa.Cls.Ch.last_i {L : List Sn} {t i e : Int} {s : List Sn} (h : Ch L t i s e) : e = i ∨ ∃ z ∈ s, z.p = e := by
  rcases List.eq_nil_or_concat s with rfl | ⟨q, z, rfl⟩
  · cases h; exact .inl rfl
  · exact .inr ⟨z, by simp, ch_last (by simpa using h)⟩
theorem low_bound {L : List Sn} (hs : Srs L) {y : Sn} (hy : y ∈ L) : 0 ≤ (cdt L y).2.1 ∧ (cdt L y).2.1 ≤ L.length := by
  obtain ⟨s, z, -, -, -, -, -, h1, h2⟩ := cdt_way hs hy
  exact ⟨h2, h1⟩
theorem abw_d {L : List Sn} {P : Int → Int → Option Pc} (hs : Srs L) (hg : PG L P) (z : Sn) (t e : Int) : 0 ≤ (abw L P z t e).d ∧ (abw L P z t e).d ≤ L.length := by
  unfold abw
  cases hP : P t e with
  | some p =>
    obtain ⟨y, hy, rfl⟩ := hg _ _ _ hP
    exact low_bound hs (nx_some hy).1
  | none =>
    dsimp only
    split
    · exact ⟨Int.le_refl 0, by show (0 : Int) ≤ _; omega⟩
    · split
      · exact ⟨Int.le_refl 0, by show (0 : Int) ≤ _; omega⟩
      · exact ⟨Int.le_refl 0, by show (0 : Int) ≤ _; omega⟩
theorem last_ok {L : List Sn} {P : Int → Int → Option Pc} {t i e : Int} {s : List Sn} (hs : Srs L) (hg : PG L P) (hc : Ch L t i s e) (he : nx L t e = none ∨ ((nx L t e).isSome = true ∧ ((P t e).isSome = true ∨ ∃ y ∈ s, y.i = e))) {k : Nat} (hk : k < s.length) (hl : k + 1 = s.length) : low3 ((abw L P s[k] t e).c, (abw L P s[k] t e).d, (abw L P s[k] t e).p) = cdt L s[k] := by
  rcases List.eq_nil_or_concat s with rfl | ⟨q, z, hqz⟩
  · cases hl
  · rw [List.concat_eq_append] at hqz
    subst hqz
    have hkq : k = q.length := by simpa using hl
    subst hkq
    have hz : (q ++ [z])[q.length] = z := by simp
    rw [hz, abw_abv hg (hc.mem z (by simp)).2.1]
    exact (last_cdt hs (K := fun i => (P t i).isSome) hc he).symm
theorem prev_ok {L : List Sn} {t i e : Int} {s : List Sn} (hs : Srs L) (hc : Ch L t i s e) {k : Nat} (hk : k + 1 < s.length) : low3 (cdt L s[k + 1]) = cdt L (s[k]'(by omega)) := by
  have h : s = s.take k ++ s[k]'(by omega) :: s[k + 1] :: s.drop (k + 2) := by
    rw [← List.drop_eq_getElem_cons hk, ← List.drop_eq_getElem_cons (by omega), List.take_append_drop]
  rw [h] at hc
  exact (prev_cdt hs hc).symm
theorem plc_low {L : List Sn} {y : Sn} {c d p : Int} (h : low3 (c, d, p) = cdt L y) : plc L y = ⟨y.t, y.i, c, if c = 3 then 0 else d + 1, p, ((cnt L y.t y.i : Nat) : Int)⟩ := by
  unfold plc; rw [← h]; rfl
/-- The last of all is known, at the end. -/
theorem known_x {L : List Sn} {P P' : Int → Int → Option Pc} {x : Sn} {s : List Sn} {e : Int} (hs : Srs L) (hx : x ∈ L) (hg : PG L P') (hc : Ch L x.t x.i s e) (he : nx L x.t e = none ∨ ((nx L x.t e).isSome = true ∧ ((P x.t e).isSome = true ∨ ∃ y ∈ s, y.i = e))) (hk : ∀ z ∈ s, P' z.t z.i = some (plc L z)) (h0 : s = [] → P' = P) : P' x.t x.i = some (plc L x) := by
  cases hc with
  | nil =>
    rw [nx_mem hs hx] at he
    rcases he with he | ⟨-, he | ⟨y, hy, -⟩⟩
    · cases he
    · rw [← h0 rfl] at he
      obtain ⟨p, hp⟩ := Option.isSome_iff_exists.1 he
      obtain ⟨y, hy, rfl⟩ := hg _ _ _ hp
      rw [nx_mem hs hx] at hy
      rw [hp, Option.some.inj hy]
    · cases hy
  | cons h1 h2 =>
    rw [nx_mem hs hx] at h1
    rw [Option.some.inj h1]
    exact hk _ (by simp)
theorem known_upd {L : List Sn} (hs : Srs L) {P : Int → Int → Option Pc} {s : List Sn} {k : Nat} (hm : ∀ z ∈ s, z ∈ L) (hk : k < s.length) (h : ∀ z ∈ s.drop (k + 1), P z.t z.i = some (plc L z)) : ∀ z ∈ s.drop k, updP P s[k].t s[k].i (plc L s[k]) z.t z.i = some (plc L z) := fun z hz => by
  unfold updP
  split
  · rename_i e
    have h1 := nx_mem hs (hm z (List.mem_of_mem_drop hz))
    have h2 := nx_mem hs (hm _ (List.getElem_mem hk))
    rw [← e.1, ← e.2, h1] at h2
    rw [Option.some.inj h2]
  · rename_i e
    rw [List.drop_eq_getElem_cons hk] at hz
    rcases List.mem_cons.1 hz with rfl | hz
    · exact absurd ⟨rfl, rfl⟩ e
    · exact h z hz
set_option maxRecDepth 100000 in
set_option maxHeartbeats 8000000 in
theorem place {w0 : World} {h n m : Nat} {L : List Sn} {P : Int → Int → Option Pc} (x : Sn) (w : World) (hF : Fo w0 w h L L n m P) (hPG : PG L P) (hs : Srs L) (hok : ∀ y ∈ L, y.ok) (hx : x ∈ L) (hlen : L.length ≤ 1000) (hm : m ≤ 900000) :
    Calls Try.prog 62 #[.pointer (some ⟨h + 3, 0, none⟩), x.v] w fun e w' => ∃ m' P', e = .returned (plc L x).v ∧ m' ≤ m + L.length ∧ Fo w0 w' h L L n m' P' ∧ PG L P' ∧ Fr (fun k => k = h + 1) w w' := by
  have f1 := Fr.alloc (fun _ => False) w (.cells x.arr TSn)
  have f2 := Fr.alloc (fun _ => False) (w.alloc (.cells x.arr TSn)) (.cells #[.int .i64 0, .int .i64 0, .int .i64 0, .int .i64 0, .int .i64 0, .int .i64 0] TPl)
  have f12 := f1.trans f2 (T := fun _ => False) (fun _ _ h => h) (fun _ _ h => h)
  have r2 : Bk ((w.alloc (.cells x.arr TSn)).alloc (.cells #[.int .i64 0, .int .i64 0, .int .i64 0, .int .i64 0, .int .i64 0, .int .i64 0] TPl)) (w.heap.size + 1) z6.arr TPl := by
    have := Bk.new (w.alloc (.cells x.arr TSn)) #[.int .i64 0, .int .i64 0, .int .i64 0, .int .i64 0, .int .i64 0, .int .i64 0] TPl
    rwa [World.size_alloc] at this
  have hsz1 : ((w.alloc (.cells x.arr TSn)).alloc (.cells #[.int .i64 0, .int .i64 0, .int .i64 0, .int .i64 0, .int .i64 0, .int .i64 0] TPl)).heap.size = w.heap.size + 2 := by rw [World.size_alloc, World.size_alloc]
  have HQ : Hid (Fq w0 w ((w.alloc (.cells x.arr TSn)).alloc (.cells #[.int .i64 0, .int .i64 0, .int .i64 0, .int .i64 0, .int .i64 0, .int .i64 0] TPl)) h L n m P) := ⟨hF.fr f12, f12.mono (fun _ _ h => h.elim), lt_of_heap hF.b, hF.l.size⟩
  have HR := Lib.hid r2
  have HA := Lib.hid ((At.box (Bk.new w x.arr TSn)).keep f2)
  have hxo := hok x hx
  obtain ⟨SE, hSE⟩ : ∃ SE, cw L x.t (fun i => (P x.t i).isSome) (L.length + 1) [] x.i = SE := ⟨_, rfl⟩
  have hsp := cw_spec (K := fun i => (P x.t i).isSome) (n := L.length + 1) (out := []) (Ch.nil (L := L) (t := x.t) x.i) List.nodup_nil (by simp)
  rw [hSE] at hsp
  have HCh := Lib.hid (chain x _ (hF.fr f12) hok hxo.t hxo.i hlen SE hSE)
  obtain ⟨s, e⟩ := SE
  obtain ⟨hch, hnd, hend⟩ := hsp
  have hsl : s.length ≤ L.length := sub_len hnd (fun z hz => (hch.mem z hz).1)
  have HC := Lib.hid hch; have HEn := Lib.hid hend; have HPG := Lib.hid hPG; have HS := Lib.hid hs; have HOk := Lib.hid hok; have HX := Lib.hid hx; have HXo := Lib.hid hxo
  have hwe : wf64 e := by
    rcases hch.last_i with rfl | ⟨z, hz, rfl⟩
    · exact hxo.i
    · exact (hok z (hch.mem z hz).1).p
  have HMem : Hid (∀ z ∈ s, z ∈ L ∧ z.t = x.t) := fun z hz => ⟨(hch.mem z hz).1, (hch.mem z hz).2.1⟩
  clear f1 f2 f12 r2 hF hPG hs hok hx hxo hSE hch hnd hend
  go_enter Try.func62, Try.ntmps62
  go_upto_region 1 with (fail)
  generalize ((w.alloc (.cells x.arr TSn)).alloc (.cells #[.int .i64 0, .int .i64 0, .int .i64 0, .int .i64 0, .int .i64 0, .int .i64 0] TPl)) = w1 at *
  have xc0 : w1.cell? ⟨w.heap.size, 0, none⟩ = some (.int .i64 x.t) := HA.out 0 _ rfl
  have xc1 : w1.cell? ⟨w.heap.size, 1, none⟩ = some (.int .i64 x.i) := HA.out 1 _ rfl
  have xc2 : w1.cell? ⟨w.heap.size, 2, none⟩ = some (.int .i64 x.p) := HA.out 2 _ rfl
  have xc3 : w1.cell? ⟨w.heap.size, 3, none⟩ = some (.int .i64 x.r) := HA.out 3 _ rfl
  have xc4 : w1.cell? ⟨w.heap.size, 4, none⟩ = some (.string x.s) := HA.out 4 _ rfl
  have xc5 : w1.cell? ⟨w.heap.size, 5, none⟩ = some (.string x.o) := HA.out 5 _ rfl
  have xc6 : w1.cell? ⟨w.heap.size, 6, none⟩ = some (.int .i64 x.b) := HA.out 6 _ rfl
  have xc7 : w1.cell? ⟨w.heap.size, 7, none⟩ = some (.int .i64 x.d) := HA.out 7 _ rfl
  have xc8 : w1.cell? ⟨w.heap.size, 8, none⟩ = some (.bool x.g) := HA.out 8 _ rfl
  go_wp2_with fail
  refine HCh.out.mono ?_
  rintro e' w2 ⟨A, c, rfl, hsl2, hb, hA2⟩
  have HPB : Hid (PB w0 w w2 h L n m P x s A c) := by
    have hf := Fr.of_below' hb (fun _ => False)
    exact ⟨HQ.out.fr hf, HPG.out, HA.out.keep hf, HR.out.fr hf (fun _ _ h => h), hsl2, fun q hq => ⟨by have := (hA2 q hq).1; omega, (hA2 q hq).2⟩⟩
  clear hsl2 hb hA2 HCh HQ HR HA xc0 xc1 xc2 xc3 xc4 xc5 xc6 xc7 xc8
  have q0 : IntKind.i64.wrap ((s.length : Int) - 1) = (s.length : Int) - 1 := by rw [IntKind.wrap_i64]; omega
  go_wp2_with fail
  clear q0
  go_loopg [7, 8, 9, 10] s.length (fun gk i _ _ _ wr => ∃ (j : Nat) (m' : Nat) (P' : Int → Int → Option Pc), i = .int .i64 ((j : Int) - 1) ∧ j ≤ s.length ∧ gk = j ∧ m' ≤ m + (s.length - j) ∧ PB w0 w wr h L n m' P' x s A c ∧ (∀ z ∈ s.drop j, P' z.t z.i = some (plc L z)) ∧ (j = s.length → P' = P))
  case atStart => exact ⟨s.length, m, P, rfl, Nat.le_refl _, rfl, by omega, HPB.out, by simp, fun _ => rfl⟩
  case round =>
    clear HPB
    obtain ⟨j, m', P', hi, hj, hg, hm', hpb, hkn, hpp⟩ := hrel
    have HG := Lib.hid hg; have HPB := Lib.hid hpb; have HKn := Lib.hid hkn; have HPp := Lib.hid hpp
    clear hg hpb hkn hpp
    cases j with
    | zero =>
      subst hi
      have q2 : decide (((0 : Nat) : Int) - 1 ≥ 0) = false := by decide
      go_upto_region 13 with (fail)
      refine pc13 (by kernel_rfl) _ _ w0 w wr h L n m' P' w.heap.size x (w.heap.size + 1) z6 (plc L x) HXo.out.t HXo.out.i (known_x HS.out HX.out HPB.out.g HC.out HEn.out (by simpa using HKn.out) (fun e0 => HPp.out (by rw [e0]; rfl))) ⟨HPB.out.f, HPB.out.a, HPB.out.r, by omega, by omega⟩ rfl rfl rfl rfl ?_
      intro v w' hst
      simp only [Eng.setAll, Act.put, List.setIfInBounds_toArray, List.set_cons_succ, List.set_cons_zero]
      have HZ := Lib.hid hst
      clear hst
      go_wp2_with fail
      exact bodyPost_ret (results_cell_row rfl _ _ (w.heap.size + 1) TPl _ (0, 0) _ rfl HZ.out.p Try.underlying55 rfl (by kernel_rfl)) rfl ⟨m', P', rfl, by omega, HZ.out.f.f, HPB.out.g, HZ.out.f.r⟩
    | succ k =>
      rw [show ((k + 1 : Nat) : Int) - 1 = (k : Int) by omega] at hi
      subst hi
      obtain ⟨q, hq⟩ : ∃ q, s.length = q + 1 := ⟨s.length - 1, by omega⟩
      have hkq : k ≤ q := by omega
      have hlt : k < s.length := by omega
      have hql : q < s.length := by omega
      obtain ⟨b1, o1, rfl, hb1, c1⟩ := HPB.out.l.at hlt (by omega)
      have HC1 := Lib.hid c1; have HB1 := Lib.hid hb1
      obtain ⟨y, hy⟩ : ∃ y, s[k] = y := ⟨_, rfl⟩
      obtain ⟨z, hz⟩ : ∃ z, s[q] = z := ⟨_, rfl⟩
      have HA := Lib.hid (At.row c1 hlt); have HZ := Lib.hid (At.row c1 hql)
      rw [hy] at HA
      rw [hz] at HZ
      have hyL : y ∈ L ∧ y.t = x.t := hy ▸ HMem.out _ (List.getElem_mem hlt)
      have hzL : z ∈ L ∧ z.t = x.t := hz ▸ HMem.out _ (List.getElem_mem hql)
      have HY := Lib.hid hyL; have HZL := Lib.hid hzL; have HYe := Lib.hid hy; have HZe := Lib.hid hz; have HQe := Lib.hid hq
      have HYo := Lib.hid (HOk.out y hyL.1)
      clear c1 hb1 hy hz hyL hzL hq
      have q1 : (0 : Int) ≤ (k : Int) := by omega
      have q2 : (k : Int) < (s.length : Int) := by omega
      have q3 : IntKind.i64.wrap ((s.length : Int) - 1) = (q : Int) := by rw [IntKind.wrap_i64]; have := HQe.out; omega
      have q4 : (0 : Int) ≤ (q : Int) := by omega
      have q5 : (q : Int) < (s.length : Int) := by omega
      have q6 : IntKind.i64.wrap ((k : Int) - 1) = (k : Int) - 1 := by rw [IntKind.wrap_i64]; omega
      have q7 : decide ((k : Int) ≥ 0) = true := by simp
      have yc0 : wr.cell? ⟨b1, o1 + k * 9, none⟩ = some (.int .i64 y.t) := HA.out 0 _ rfl
      have yc1 : wr.cell? ⟨b1, o1 + k * 9 + 1, none⟩ = some (.int .i64 y.i) := HA.out 1 _ rfl
      have yc2 : wr.cell? ⟨b1, o1 + k * 9 + 1 + 1, none⟩ = some (.int .i64 y.p) := HA.out 2 _ rfl
      have yc3 : wr.cell? ⟨b1, o1 + k * 9 + 1 + 1 + 1, none⟩ = some (.int .i64 y.r) := HA.out 3 _ rfl
      have yc4 : wr.cell? ⟨b1, o1 + k * 9 + 1 + 1 + 1 + 1, none⟩ = some (.string y.s) := HA.out 4 _ rfl
      have yc5 : wr.cell? ⟨b1, o1 + k * 9 + 1 + 1 + 1 + 1 + 1, none⟩ = some (.string y.o) := HA.out 5 _ rfl
      have yc6 : wr.cell? ⟨b1, o1 + k * 9 + 1 + 1 + 1 + 1 + 1 + 1, none⟩ = some (.int .i64 y.b) := HA.out 6 _ rfl
      have yc7 : wr.cell? ⟨b1, o1 + k * 9 + 1 + 1 + 1 + 1 + 1 + 1 + 1, none⟩ = some (.int .i64 y.d) := HA.out 7 _ rfl
      have yc8 : wr.cell? ⟨b1, o1 + k * 9 + 1 + 1 + 1 + 1 + 1 + 1 + 1 + 1, none⟩ = some (.bool y.g) := HA.out 8 _ rfl
      go_upto_region 6 with (fail)
      have f1 := Fr.alloc (fun _ => False) wr (.cells y.arr TSn)
      have HBy := Lib.hid (At.box (Bk.new wr y.arr TSn))
      have hz1 : (wr.alloc (.cells y.arr TSn)).heap.size = wr.heap.size + 1 := World.size_alloc _ _
      have HP1 := Lib.hid (HPB.out.fr f1)
      have HF1 := Lib.hid f1
      replace HZ := Lib.hid (HZ.out.keep f1)
      clear f1 HA yc0 yc1 yc2 yc3 yc4 yc5 yc6 yc7 yc8
      generalize (wr.alloc (.cells y.arr TSn)) = w1 at *
      obtain ⟨U, hU⟩ : ∃ U, abw L P' z x.t e = U := ⟨_, rfl⟩
      have HAb := Lib.hid (above z x.t e w1 HP1.out.f.f HXo.out.t hwe U hU)
      have HU : Hid (0 ≤ U.d ∧ U.d ≤ L.length) := hU ▸ abw_d HS.out HPB.out.g z x.t e
      have HU2 : Hid (k = q → low3 (U.c, U.d, U.p) = cdt L y) := fun hkq => by
        have h1 := HPp.out (by rw [hkq]; exact HQe.out.symm)
        subst hkq
        rw [← hU, ← HYe.out, ← HZe.out, h1]
        exact last_ok HS.out HPG.out HC.out HEn.out hlt HQe.out.symm
      clear hU
      have zc0 : w1.cell? ⟨b1, o1 + q * 9, none⟩ = some (.int .i64 z.t) := HZ.out 0 _ rfl
      have zc1 : w1.cell? ⟨b1, o1 + q * 9 + 1, none⟩ = some (.int .i64 z.i) := HZ.out 1 _ rfl
      have zc2 : w1.cell? ⟨b1, o1 + q * 9 + 1 + 1, none⟩ = some (.int .i64 z.p) := HZ.out 2 _ rfl
      have zc3 : w1.cell? ⟨b1, o1 + q * 9 + 1 + 1 + 1, none⟩ = some (.int .i64 z.r) := HZ.out 3 _ rfl
      have zc4 : w1.cell? ⟨b1, o1 + q * 9 + 1 + 1 + 1 + 1, none⟩ = some (.string z.s) := HZ.out 4 _ rfl
      have zc5 : w1.cell? ⟨b1, o1 + q * 9 + 1 + 1 + 1 + 1 + 1, none⟩ = some (.string z.o) := HZ.out 5 _ rfl
      have zc6 : w1.cell? ⟨b1, o1 + q * 9 + 1 + 1 + 1 + 1 + 1 + 1, none⟩ = some (.int .i64 z.b) := HZ.out 6 _ rfl
      have zc7 : w1.cell? ⟨b1, o1 + q * 9 + 1 + 1 + 1 + 1 + 1 + 1 + 1, none⟩ = some (.int .i64 z.d) := HZ.out 7 _ rfl
      have zc8 : w1.cell? ⟨b1, o1 + q * 9 + 1 + 1 + 1 + 1 + 1 + 1 + 1 + 1, none⟩ = some (.bool z.g) := HZ.out 8 _ rfl
      go_wp2_with fail
      refine HAb.out.mono ?_
      rintro _ w2 ⟨rfl, hb⟩
      have f2 := Fr.of_below' hb (fun _ => False)
      clear HAb hb HZ zc0 zc1 zc2 zc3 zc4 zc5 zc6 zc7 zc8
      replace HBy := Lib.hid (HBy.out.keep f2); have HP2 := Lib.hid (HP1.out.fr f2)
      have HF2 := Lib.hid (HF1.out.trans f2 (T := fun _ => False) (fun _ _ h => h) (fun _ _ h => h))
      clear f2 HF1 HP1
      go_upto_if 41 with (fail)
      have f3 := Fr.alloc (fun _ => False) w2 (.cells U.arr TPl)
      have HBu := Lib.hid (Bk.new w2 U.arr TPl)
      have HBy0 := HBy; replace HBy := Lib.hid (HBy.out.keep f3); have HP3 := Lib.hid (HP2.out.fr f3)
      have HF3 := Lib.hid (HF2.out.trans f3 (T := fun _ => False) (fun _ _ h => h) (fun _ _ h => h))
      have HF02 := HF2; have HF23 := Lib.hid f3; have HBy2 := HBy0
      clear f3 HF2 HBy0
      have hzz : wr.heap.size < w2.heap.size := by have := HBy2.out.lt; omega
      have hzh : h + 3 < wr.heap.size := by have := HPB.out.f.z; have := HPB.out.f.r.size; omega
      have hzy : w0.heap.size ≤ wr.heap.size := by have := HPB.out.f.y; have := HPB.out.f.r.size; omega
      generalize (w2.alloc (.cells U.arr TPl)) = w3 at *
      generalize hBu : w2.heap.size = Bu at *
      generalize hBy : wr.heap.size = By at *
      go_cut [9] (fun u wc => ∃ U' : Pc, u = .pointer (some ⟨Bu, 0, none⟩) ∧ Bk wc Bu U'.arr TPl ∧ low3 (U'.c, U'.d, U'.p) = cdt L y ∧ 0 ≤ U'.d ∧ U'.d ≤ L.length ∧ At wc By 0 y ∧ Fr (fun k => k = h + 1) wr wc ∧ Fq w0 w wc h L n m' P')
      case first =>
        by_cases hkl : k = q
        · have q8 : decide (k < q) = false := by simp; omega
          go_wp2_with fail
          go_meet
          exact ⟨U, rfl, HBu.out, HU2.out hkl, HU.out.1, HU.out.2, HBy.out, HF3.out.mono (fun _ _ h => h.elim), HP3.out.f⟩
        · have q8 : decide (k < q) = true := by simp; omega
          have hk1 : k + 1 < s.length := by omega
          obtain ⟨u, hu⟩ : ∃ u, s[k + 1] = u := ⟨_, rfl⟩
          have hup := HKn.out u (by rw [List.drop_eq_getElem_cons hk1, hu]; exact List.mem_cons_self ..)
          have huL : u ∈ L := hu ▸ (HMem.out _ (List.getElem_mem hk1)).1
          have HAu := Lib.hid ((At.row HC1.out hk1).keep HF3.out)
          rw [hu] at HAu
          have HL3 : Hid (low3 (cdt L u) = cdt L y) := by rw [← hu, ← HYe.out]; exact prev_ok HS.out HC.out hk1
          have HUp := Lib.hid hup; have HUo := Lib.hid (HOk.out u huL); have HUb := Lib.hid (low_bound HS.out huL)
          clear hu hup huL
          have HQ2 : Hid (Fq w0 w2 w3 h L n m' P') := ⟨HP3.out.f.f, HF23.out.mono (fun _ _ h => h.elim), by omega, by omega⟩
          go_upto_region 8 with (fail)
          refine pc8 (by kernel_rfl) _ _ w0 w2 w3 h L n m' P' Bu U (plc L u) b1 o1 s.length c k u HUo.out.t HUo.out.i HUp.out hk1 (by omega) ⟨HQ2.out, HBu.out, HAu.out, by omega, by have := HB1.out; omega⟩ rfl rfl rfl rfl rfl ?_
          intro v w4 hst
          simp only [Eng.setAll, Act.put, List.setIfInBounds_toArray, List.set_cons_succ, List.set_cons_zero]
          have HST := Lib.hid hst
          clear hst
          go_wp2_with fail
          go_meet
          have hf4 : Fr (fun k => k = h + 1) wr w4 := HF02.out.trans HST.out.f.r (fun _ _ h => h.elim) (fun _ _ h => h)
          exact ⟨plc L u, rfl, HST.out.u, HL3.out, HUb.out.1, HUb.out.2, HBy2.out.fr HST.out.f.r (by omega), hf4, ⟨HST.out.f.f, HP2.out.f.r.trans HST.out.f.r (fun _ _ h => h) (fun _ _ h => h), HP3.out.f.z, HP3.out.f.y⟩⟩
      case rest =>
        obtain ⟨U2, rfl, hub, hul, hud1, hud2, hya, hfr, hfq⟩ := hcut
        have HUl := Lib.hid hul; have HFr := Lib.hid hfr
        have hP9 : P9 w0 wr wc h L n m' P' Bu U2 By y [] z6 := ⟨⟨hfq.f, hfr, by omega, by omega⟩, hub, hya, by simp⟩
        have HP9 := Lib.hid hP9; have HFq := Lib.hid hfq
        clear hul hfr hP9 hfq hub hya HBu HBy HBy2 HF02 HF23 HF3 HP2 HP3 HU HU2
        go_upto_region 9 with (fail)
        refine pc9 (by kernel_rfl) _ _ w0 wr wc h L n m' P' Bu U2 By y (cnt L y.t y.i) HYo.out.t HYo.out.i rfl ⟨hud1, by omega⟩ HP9.out rfl rfl rfl rfl ?_
        intro v w5 Bp hv hst
        simp only [Eng.setAll, Act.put, List.setIfInBounds_toArray, List.set_cons_succ, List.set_cons_zero, hv]
        have HST := Lib.hid hst
        have HPp5 := Lib.hid (hst.p Bp (by simp))
        clear hst hv HP9
        have i2 : w5.cell? ⟨Bp, 2, none⟩ = some (.int .i64 U2.c) := HPp5.out.1.cell 2
        have i3 : w5.frozen? ⟨Bp, 3, none⟩ = false := HPp5.out.1.free 3
        have i4 : w5.cell? ⟨Bp, 3, none⟩ = some (.int .i64 (U2.d + 1)) := HPp5.out.1.cell 3
        go_upto_if 74 with (fail)
        go_cut [10] (fun u wd => u = .pointer (some ⟨Bp, 0, none⟩) ∧ Bk wd Bp (plc L y).arr TPl ∧ At wd By 0 y ∧ Fq w0 wr wd h L n m' P')
        case first =>
          by_cases hc3 : U2.c = 3
          · have q8 : (U2.c == 3) = true := by simp [hc3]
            have HB := Lib.hid (HPp5.out.1.set 3 (.int .i64 0)); have HCc := Lib.hid hc3
            have HFs := Lib.hid (Fr.setCell (S := fun k => k = Bp) w5 ⟨Bp, 3, none⟩ (.int .i64 0) rfl)
            clear hc3
            go_wp2_with fail
            go_meet
            refine ⟨rfl, ?_, HST.out.a.fr HFs.out (fun e => HPp5.out.2.2.2 e.symm), HST.out.f.off HFs.out HPp5.out.2.1⟩
            rw [plc_low HUl.out, if_pos HCc.out]
            simpa using HB.out
          · have q8 : (U2.c == 3) = false := by simp [hc3]
            have HCc := Lib.hid hc3
            clear hc3
            go_wp2_with fail
            go_meet
            refine ⟨rfl, ?_, HST.out.a, HST.out.f⟩
            rw [plc_low HUl.out, if_neg HCc.out]
            exact HPp5.out.1
        case rest =>
          obtain ⟨rfl, hpb, hya, hfq⟩ := hcut
          have HP12 : Hid (P12 w0 wr wc h L n m' P' By y Bp (plc L y)) := ⟨hfq, hya, hpb, by omega, HPp5.out.2.1⟩
          clear hfq hya hpb HST HUl i2 i3 i4
          go_upto_region 12 with (fail)
          refine pc12 (by kernel_rfl) _ _ w0 wr wc h L n m' P' By y Bp (plc L y) HYo.out.t HYo.out.i (by omega) HP12.out rfl rfl rfl rfl ?_
          intro v w6 hst
          simp only [Eng.setAll, Act.put, List.setIfInBounds_toArray, List.set_cons_succ, List.set_cons_zero]
          have HST := Lib.hid hst
          clear hst HP12
          go_wp2_with fail
          go_roundg k
          case rel =>
            refine ⟨k, m' + 1, _, rfl, by omega, rfl, by omega, HPB.out.to ⟨HST.out.f.f, HPB.out.f.r.trans HST.out.f.r (fun _ _ h => h) (fun _ _ h => h), HPB.out.f.z, HPB.out.f.y⟩ (HPB.out.g.upd (nx_mem HS.out HY.out.1)) HST.out.f.r (by have := HPB.out.f.z; omega) (by have := HPB.out.f.z; omega) (fun q hq => by have := (HPB.out.n q hq).1; have := HPB.out.f.z; omega), ?_, fun e => by omega⟩
            have := known_upd HS.out (fun z hz => (HMem.out z hz).1) hlt HKn.out
            rw [HYe.out] at this
            exact this
          case measure => have := HG.out; omega
end ClsF
end Go.Proofs.Ytmcghchhegfilaa
