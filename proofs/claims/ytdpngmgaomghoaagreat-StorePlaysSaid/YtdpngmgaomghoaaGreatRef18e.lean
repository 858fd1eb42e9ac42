/- The document's store: Traces, Alive. -/
import Derived.Test.YtdpngmgaomghoaaGreatR18
import Derived.Test.YtdpngmgaomghoaaGreatDels
namespace Go.Proofs.YtdpngmgaomghoaaGreat
open Tryz
set_option maxRecDepth 100000
set_option maxHeartbeats 4000000
open Go.RowKit
namespace Ref18
open Name KeyP PackP SetP SetW SetF Delta Sto Law18
open Sat2 (endS cl cl_in)
attribute [local go_sem] Eng.ev Eng.getO_cons Eng.getO_nil
abbrev TL (L : List Sn) : List Int := QuotaP.trT (L.map Sn.t)
theorem tl_cts (L : List Sn) : (cts L).map (·.1) = TL L := by
 have h := (QuotaP.Rel.nil.add QuotaP.Cs.nil (L.map Sn.t)).keys (cts_cs L)
 rw [List.nil_append] at h
 exact h
theorem srs_le {L : List Sn} (hs : Srs L) {i j : Nat} (hij : i < j) (hj : j < L.length) : L[i].t ≤ L[j].t := by
 have := List.pairwise_iff_getElem.1 hs i j (by omega) hj hij
 unfold bef at this
 simp only [Bool.or_eq_true, Bool.and_eq_true, decide_eq_true_eq] at this
 omega
theorem tl_step {L : List Sn} (hs : Srs L) {k : Nat} (hk : k < L.length) : TL (L.take (k + 1)) = if L[k].t ∈ (L.take k).map Sn.t then TL (L.take k) else TL (L.take k) ++ [L[k].t] := by
 obtain ⟨h1, h2⟩ := QuotaP.trT_srt ((L.take (k + 1)).map Sn.t)
 obtain ⟨h3, h4⟩ := QuotaP.trT_srt ((L.take k).map Sn.t)
 have e : (L.take (k + 1)).map Sn.t = (L.take k).map Sn.t ++ [L[k].t] := by rw [List.take_succ_eq_append_getElem hk, List.map_append]; rfl
 have asy : ∀ a b : Int, a < b → ¬ b < a := fun a b h => by omega
 by_cases hm : L[k].t ∈ (L.take k).map Sn.t
 ·rw [if_pos hm]
  refine ext_of asy h1 h3 (fun p => ?_)
  rw [h2, h4, e, List.mem_append, List.mem_singleton]
  exact ⟨fun h => h.elim id (fun h => h ▸ hm), .inl⟩
 ·rw [if_neg hm]
  refine ext_of asy h1 (List.pairwise_append.2 ⟨h3, List.pairwise_singleton _ _, fun a ha b hb => ?_⟩) (fun p => ?_)
  ·rw [List.mem_singleton] at hb
   subst hb
   rw [h4] at ha
   have hne : a ≠ L[k].t := fun h => hm (h ▸ ha)
   obtain ⟨x, hx, rfl⟩ := List.mem_map.1 ha
   obtain ⟨i, hi, rfl⟩ := List.mem_take_iff_getElem.1 hx
   have := srs_le hs (show i < k by omega) hk
   omega
  ·rw [h2, e, List.mem_append, List.mem_append, h4]
theorem tl_mem {L : List Sn} (hs : Srs L) {j : Nat} (hj : j + 1 < L.length) : L[j + 1].t ∈ (L.take (j + 1)).map Sn.t ↔ L[j + 1].t = L[j].t := by
 constructor
 ·intro h
  obtain ⟨x, hx, h2⟩ := List.mem_map.1 h
  obtain ⟨i, hi, rfl⟩ := List.mem_take_iff_getElem.1 hx
  by_cases hij : i = j
  ·subst hij; exact h2.symm
  ·have h3 := srs_le hs (show i < j by omega) (by omega)
   have h4 := srs_le hs (show j < j + 1 by omega) hj
   omega
 ·intro h
  exact List.mem_map.2 ⟨L[j], List.mem_take_iff_getElem.2 ⟨j, by omega, rfl⟩, h.symm⟩
theorem tl_len (L : List Sn) : (TL L).length ≤ L.length := by
 rw [← tl_cts, List.length_map]; exact cts_len L
structure YT (w0 w : World) (b1 oj : Nat) (y : Sn) (b2 oi : Nat) (z : Sn) : Prop where
 y : At w b1 oj y
 z : At w b2 oi z
 f : Fr (fun _ => False) w0 w
theorem YT.fr {w0 w w' : World} {b1 oj : Nat} {y : Sn} {b2 oi : Nat} {z : Sn} (h : YT w0 w b1 oj y b2 oi z) (hf : Fr (fun _ => False) w w') : YT w0 w' b1 oj y b2 oi z := ⟨h.y.keep hf, h.z.keep hf, h.f.trans hf (fun _ _ h => h) (fun _ _ h => h)⟩
theorem tr5o {ops : Array Oper} (hops : Eng.fnOps Tryz.f69 5 = ops) (a0 : Act) (Q : Exit → Act → World → Prop) (w0 w : World) (hst : Fr (fun _ => False) w0 w)
  (hn : a0.tmps.size = 36) (h_4 : a0.tmps.getD 4 undef = .int .i64 0)
  (hpost : ∀ (x : Nat → Value) (w' : World), x 26 = .bool true → Fr (fun _ => False) w0 w' → Q .normal (Eng.setAll a0 [11, 12, 13, 14, 15, 16, 17, 18, 19, 20, 21, 22, 23, 24, 25, 26] x) w') :
  (Code.region 5 ops true).wp prog Q a0 w := by
 simp only [Eng.fnOps, Eng.regOps, Tryz.f69, Option.bind_some, Option.getD_some, Nat.reduceEqDiff, ↓reduceIte] at hops
 subst hops
 have HSt := Lib.hid (hst.trans (Fr.drew (fun _ => False) w) (fun _ _ h => h) (fun _ _ h => h))
 refine Eng.regionN [(0, true), (1, true), (2, true), (3, true), (4, true), (5, true), (6, true), (7, true), (8, true), (9, true), (10, true), (11, true), (12, true), (13, true), (14, true), (15, true)] (fun w' => True) (by kernel_rfl) 36 hn (by kernel_rfl) rfl (by kernel_rfl) (trivial) (fun a b ha hb => ?_)
 subst ha
 have hb4 : b 4 = .int .i64 0 := (hb 4).symm.trans h_4
 clear hb h_4
 have HP := Lib.hid hpost; have HN := Lib.hid hn
 clear hpost hn
 iterate 3 (refine Eng.Sch.tk ?_)
 iterate 12 (refine Eng.Sch.skip rfl rfl (by decide) (by kernel_rfl) ?_)
 refine Eng.Sch.tk ?_
 refine Eng.Sch.end_ [11, 12, 13, 14, 15, 16, 17, 18, 19, 20, 21, 22, 23, 24, 25, 26] HN.out (by kernel_rfl) (by kernel_rfl) ?_
 exact HP.out _ _ rfl HSt.out
theorem tr5 {ops : Array Oper} (hops : Eng.fnOps Tryz.f69 5 = ops) (a0 : Act) (Q : Exit → Act → World → Prop) (w0 w : World) (b1 o1 len c j : Nat) (y z : Sn) (hst : YT w0 w b1 (o1 + (j + 1) * 9) y b1 (o1 + j * 9) z) (hk : j + 1 < len) (hlen : len ≤ 9223372036854775807)
  (hn : a0.tmps.size = 36) (h_0 : a0.tmps.getD 0 undef = .slice (some ⟨b1, o1, none⟩) len c) (h_4 : a0.tmps.getD 4 undef = .int .i64 ((j + 1 : Nat) : Int))
  (hpost : ∀ (x : Nat → Value) (w' : World), x 26 = .bool (y.t != z.t) → Fr (fun _ => False) w0 w' → Q .normal (Eng.setAll a0 [11, 12, 13, 14, 15, 16, 17, 18, 19, 20, 21, 22, 23, 24, 25, 26] x) w') :
  (Code.region 5 ops true).wp prog Q a0 w := by
 simp only [Eng.fnOps, Eng.regOps, Tryz.f69, Option.bind_some, Option.getD_some, Nat.reduceEqDiff, ↓reduceIte] at hops
 subst hops
 have q1 : IntKind.i64.wrap (j : Int) = (j : Int) := by rw [IntKind.wrap_i64]; omega
 have q2 : (0 : Int) ≤ (j : Int) := by omega
 have q3 : (j : Int) < (len : Int) := by omega
 have q4 : (0 : Int) ≤ (j : Int) + 1 := by omega
 have q5 : (j : Int) + 1 < (len : Int) := by omega
 have q6 : (0 : Int) < (j : Int) + 1 := by omega
 have q7 : wrap64 (j : Int) = (j : Int) := by unfold wrap64; omega
 have q8 : decide ((j : Int) + 1 = 0) = false := by simp; omega
 have HSt := Lib.hid (hst.fr (Fr.drew _ _))
 refine Eng.regionN [(0, true), (1, true), (2, true), (3, true), (4, true), (5, true), (6, true), (7, true), (8, true), (9, true), (10, true), (11, true), (12, true), (13, true), (14, true), (15, true)] (fun w' => w'.cell? ⟨b1, o1 + (j + 1) * 9, none⟩ = some (.int .i64 y.t) ∧ w'.cell? ⟨b1, o1 + j * 9, none⟩ = some (.int .i64 z.t)) (by kernel_rfl) 36 hn (by kernel_rfl) rfl (by kernel_rfl) (⟨HSt.out.y 0 _ rfl, HSt.out.z 0 _ rfl⟩) (fun a b ha hb => ?_)
 subst ha
 have hb0 : b 0 = .slice (some ⟨b1, o1, none⟩) len c := (hb 0).symm.trans h_0
 have hb4 : b 4 = .int .i64 ((j + 1 : Nat) : Int) := (hb 4).symm.trans h_4
 clear hb h_0 h_4
 have HP := Lib.hid hpost; have HN := Lib.hid hn
 clear hpost hn
 iterate 16 (refine Eng.Sch.tk ?_)
 refine Eng.Sch.end_ [11, 12, 13, 14, 15, 16, 17, 18, 19, 20, 21, 22, 23, 24, 25, 26] HN.out (by kernel_rfl) (by kernel_rfl) ?_
 exact HP.out _ _ rfl HSt.out.f
theorem infoN : (prog.info? 3).map (fun i => (i.zero, i.size, i.bytes)) = some (some (.int .i64 0), 1, 8) := by kernel_rfl
theorem Traces (A : Option Addr) (c : Nat) (L : List Sn) (w : World) (h : Ls w A c L) (hs : Srs L) (hl : L.length ≤ 1000000) :
  Calls prog 69 #[.slice A L.length c] w fun e w' => ∃ A2 c2, e = .returned (.slice A2 (TL L).length c2) ∧ Sl w' 1 A2 (TL L).length c2 (ints (TL L)) ∧ Below w.heap.size w w' := by
 obtain ⟨i0, hi, hz0, hz1, hz2⟩ := info_parts infoN
 have HY := Lib.hid h; have HS := Lib.hid hs
 clear h hs
 go_enter func69, ntmps69
 go_wp2_with fail
 go_loopg [3, 4] L.length (fun gk v i wr => ∃ k : Nat, i = .int .i64 k ∧ k ≤ L.length ∧ gk = L.length - k ∧ wr.ownsRow w.heap.size TIn 1 v (TL (L.take k)).length (ints (TL (L.take k))) ∧ Below w.heap.size w wr)
 case atStart => exact ⟨0, rfl, Nat.zero_le _, rfl, World.ownsRow_nil _ _ _ _, Below.refl _ _⟩
 case round =>
  obtain ⟨k, rfl, hk, hg, hown, hbel⟩ := hrel
  have HG := Lib.hid hg; have HO := Lib.hid hown; have HB := Lib.hid hbel
  have hszw : w.heap.size ≤ wr.heap.size := hbel.size
  clear hg hown hbel
  by_cases hlt : k < L.length
  ·have HYr := Lib.hid (HY.out.below HB.out)
   obtain ⟨b1, o1, rfl, hb1, c1⟩ := HYr.out.s.at hlt (by omega)
   have HAy := Lib.hid (At.row c1 hlt)
   have HSt := Lib.hid (tl_step HS.out hlt)
   have hfl : (TL (L.take k)).length ≤ k := Nat.le_trans (tl_len _) (by rw [List.length_take]; omega)
   have q1 : (0 : Int) ≤ (k : Int) := by omega
   have q2 : decide ((k : Int) < (L.length : Int)) = true := by simp; omega
   have q3 : wrap64 ((k : Int) + 1) = (k : Int) + 1 := by unfold wrap64; omega
   have HRg : Hid (∃ q : Bool, (q = true → TL (L.take (k + 1)) = TL (L.take k) ++ [L[k].t]) ∧ (q = false → TL (L.take (k + 1)) = TL (L.take k)) ∧ ∀ (Q : Exit → Act → World → Prop) (a0 : Act), a0.tmps.size = 36 → a0.tmps.getD 0 undef = .slice (some ⟨b1, o1, none⟩) L.length c → a0.tmps.getD 4 undef = .int .i64 (k : Int) → (∀ (x : Nat → Value) (w' : World), x 26 = .bool q → Fr (fun _ => False) wr w' → Q .normal (Eng.setAll a0 [11, 12, 13, 14, 15, 16, 17, 18, 19, 20, 21, 22, 23, 24, 25, 26] x) w') → (Code.region 5 (Eng.fnOps Tryz.f69 5) true).wp prog Q a0 wr) := by
    cases k with
    | zero =>
     refine ⟨true, fun _ => by rw [HSt.out]; simp, fun h => (by cases h), fun Q a0 h1 h2 h3 h4 => tr5o rfl a0 Q wr wr (Fr.refl _ _) h1 h3 h4⟩
    | succ j =>
     have hm := tl_mem HS.out hlt
     have HAz := At.row c1 (show j < L.length by omega)
     refine ⟨L[j + 1].t != L[j].t, fun h => by rw [HSt.out, if_neg (fun hh => by simp [hm.1 hh] at h)], fun h => by rw [HSt.out, if_pos (hm.2 (by simpa using h))], fun Q a0 h1 h2 h3 h4 => tr5 rfl a0 Q wr wr b1 o1 L.length c j L[j + 1] L[j] ⟨HAy.out, HAz, Fr.refl _ _⟩ hlt (by omega) h1 h2 h3 h4⟩
   clear c1 hb1 HSt
   generalize L[k] = y at *
   generalize hM : TL (L.take k) = M at *
   obtain ⟨q, hq1, hq2, hreg⟩ := HRg.out
   have HQ1 := Lib.hid hq1; have HQ2 := Lib.hid hq2; have HRe := Lib.hid hreg
   clear hq1 hq2 hreg HRg hM
   go_upto_region 5 with (fail)
   refine HRe.out _ _ (by simp) rfl rfl ?_
   intro x w4 h26 hf
   simp only [Eng.setAll, Act.put, List.setIfInBounds_toArray, List.set_cons_succ, List.set_cons_zero]
   rw [h26]
   have HO4 := Lib.hid (ownsRow_fr HO.out hf (fun b hb h => h)); have HB4 := Lib.hid (HB.out.trans (hf.below HB.out.size (fun _ _ h => h))); have HA4 := Lib.hid (HAy.out.keep hf)
   clear h26 hf HRe HO HB HAy hszw
   have hszw : w.heap.size ≤ w4.heap.size := HB4.out.size
   cases hqq : q with
   | true =>
    have HE : Hid (TL (L.take (k + 1)) = M ++ [y.t]) := HQ1.out hqq
    clear hqq HQ1 HQ2
    have yc0 : w4.cell? ⟨b1, o1 + k * 9, none⟩ = some (.int .i64 y.t) := HA4.out 0 _ rfl
    have hown' := HO4.out.alloc (.cells #[.int .i64 y.t] TIn)
    have HBk := Lib.hid (ownsRow_blk HO4.out)
    go_wp2_with (at_builtin; refine wpList_append_sl _ rfl (.tmp 27) (.tmp 33) 115 rfl w.heap.size TIn i0 (.int .i64 0) 1 8 underlying115 hi hz0 hz1 hz2 rfl (by decide) _ _ _ rfl hown' _ _ _ _ rfl (Sl.one w4 TIn [.int .i64 y.t] 1 rfl) (by simp [Value.oneCell']) ?_ ?_ ?_ ?_)
    ·unfold maxLen; omega
    ·omega
    ·first | omega | (simp; omega)
    intro v1 w7 hown1 hgrow1
    have HO7 := Lib.hid hown1; have HGr := Lib.hid hgrow1
    clear hown1 hgrow1 hown' yc0
    go_wp2_with fail
    go_roundg (L.length - (k + 1))
    case rel => exact ⟨k + 1, by go_num, by omega, rfl, by rw [HE.out]; simpa using HO7.out, (HB4.out.alloc hszw _).grown HGr.out (by simp; omega) (fun k e => (HBk.out k e).1)⟩
    case measure => have := HG.out; omega
   | false =>
    have HE : Hid (TL (L.take (k + 1)) = M) := HQ2.out hqq
    clear hqq HQ1 HQ2
    go_wp2_with fail
    go_roundg (L.length - (k + 1))
    case rel => exact ⟨k + 1, by go_num, by omega, rfl, by rw [HE.out]; exact HO4.out, HB4.out⟩
    case measure => have := HG.out; omega
  ·obtain rfl : k = L.length := by omega
   have q2 : decide ((L.length : Int) < (L.length : Int)) = false := by simp
   rw [List.take_length] at HO
   obtain ⟨A2, c2, hv, hsl, -⟩ := Sl.of_own HO.out
   subst hv
   have HSl := Lib.hid hsl
   clear hsl HO
   go_wp2_with fail
   go_ret
   exact ⟨A2, c2, rfl, HSl.out, HB.out⟩
theorem refLiveE {A : Option Addr} {c : Nat} {L : List Sn} {w : World} (hS : Ls w A c L) (hlen : L.length ≤ 1000000) (X : List Sn) (hX : alv L = X) : Calls prog 66 #[.slice A L.length c] w (LsPost X w) := hX ▸ Live A c L w hS hlen
theorem ra1 {ops : Array Oper} (hops : Eng.fnOps Tryz.f71 1 = ops) (a0 : Act) (Q : Exit → Act → World → Prop) (w0 w : World) (Bx Br : Nat) (d : Dl) (X Y : List Sn) (hX : alv d.O = X) (hY : alv d.I = Y) (hl1 : d.O.length ≤ 1000000) (hl2 : d.I.length ≤ 1000000) (hne : Bx ≠ Br) (hbr : w0.heap.size ≤ Br) (hst : ClsW.IV w0 w Bx Br d [])
  (hn : a0.tmps.size = 10) (h_1 : a0.tmps.getD 1 undef = .pointer (some ⟨Bx, 0, none⟩)) (h_2 : a0.tmps.getD 2 undef = .pointer (some ⟨Br, 0, none⟩))
  (hpost : ∀ (x : Nat → Value) (w' : World) (A3 : Option Addr) (c3 : Nat) (A4 : Option Addr) (c4 : Nat), ClsW.AZ w0 w' Bx Br d X Y A3 c3 A4 c4 → Q .normal (Eng.setAll a0 [3, 4, 5, 6, 7, 8, 9] x) w') :
  (Code.region 1 ops true).wp prog Q a0 w := by
 simp only [Eng.fnOps, Eng.regOps, Tryz.f71, Option.bind_some, Option.getD_some, Nat.reduceEqDiff, ↓reduceIte] at hops
 subst hops
 have HSt := Lib.hid (hst.keep (Fr.drew _ _))
 refine Eng.regionT (.take 0 (.take 1 (.take 3 (.take 4 (.alt 2 (.alt 5 (.take 6 (.alt 7 (.done) (.stop))) (.stop)) (.stop)))))) (fun w' => w'.cell? ⟨Bx, 0, none⟩ = some (.slice d.A1 d.O.length d.c1) ∧ w'.cell? ⟨Bx, 1, none⟩ = some (.slice d.A2 d.I.length d.c2)) (by kernel_rfl) 10 hn (by kernel_rfl) (by kernel_rfl) (by kernel_rfl) (⟨HSt.out.x.cell 0, HSt.out.x.cell 1⟩) (fun a b ha hb => ?_)
 subst ha
 have hb1 : b 1 = .pointer (some ⟨Bx, 0, none⟩) := (hb 1).symm.trans h_1
 have hb2 : b 2 = .pointer (some ⟨Br, 0, none⟩) := (hb 2).symm.trans h_2
 clear hb h_1 h_2
 have HP := Lib.hid hpost; have HN := Lib.hid hn
 clear hpost hn
 iterate 4 (refine Eng.TW.tk ?_)
 refine Eng.TW.call rfl rfl (by decide) (by kernel_rfl) ?_ (refLiveE (HSt.out.dl.o) hl1 X hX) ?_
 ·go_simp
 rintro e w2 ⟨A3, c3, rfl, h1, h2, h3⟩
 have HSt2 := Lib.hid (HSt.out.add h1 h2 h3)
 clear h1 h2 h3
 refine ⟨_, rfl, ⟨HSt2.out.x.cell 0, HSt2.out.x.cell 1⟩, ?_⟩
 refine Eng.TW.call rfl rfl (by decide) (by kernel_rfl) ?_ (refLiveE (HSt2.out.dl.i) hl2 Y hY) ?_
 ·go_simp
 rintro e w3 ⟨A4, c4, rfl, h1, h2, h3⟩
 have HSt3 := Lib.hid (HSt2.out.add h1 h2 h3)
 clear h1 h2 h3
 have kb : ∀ W : World, (Instr.build TDl #[(0, .slice A3 X.length c3), (1, .slice A4 Y.length c4)]).run prog W = .ok (.agg #[.slice A3 X.length c3, .slice A4 Y.length c4]) W := fun W => by kernel_rfl
 have r0 := HSt3.out.r.cell 0
 have r1 := HSt3.out.r.cell 1
 have f0 := HSt3.out.r.free 0
 have f1 := HSt3.out.r.free 1
 simp only [List.getElem?_toArray, List.getElem?_cons_zero, List.getElem?_cons_succ] at r0 r1
 refine ⟨_, rfl, ⟨HSt3.out.x.cell 0, HSt3.out.x.cell 1⟩, ?_⟩
 refine Eng.TW.tk ?_
 have HSt4 := Lib.hid (HSt3.out.store hne hbr)
 refine Eng.TW.step0 rfl rfl (by kernel_rfl) (by go_simp; first | done | with_reducible rfl) (⟨HSt4.out.x.cell 0, HSt4.out.x.cell 1⟩) ?_
 have hSS : ((w3.setCell ⟨Br, 0, none⟩ (.slice A3 X.length c3)).setCell ⟨Br, 1, none⟩ (.slice A4 Y.length c4)).cell? ⟨Bx, 0, none⟩ = some (.slice d.A1 d.O.length d.c1) ∧ ((w3.setCell ⟨Br, 0, none⟩ (.slice A3 X.length c3)).setCell ⟨Br, 1, none⟩ (.slice A4 Y.length c4)).cell? ⟨Bx, 1, none⟩ = some (.slice d.A2 d.I.length d.c2) := ⟨HSt4.out.x.cell 0, HSt4.out.x.cell 1⟩
 refine Eng.TW.end_ [3, 4, 5, 6, 7, 8, 9] HN.out (by kernel_rfl) (by kernel_rfl) ?_
 exact HP.out _ _ A3 c3 A4 c4 HSt4.out
theorem RefAlive (d : Dl) (w : World) (hd : RdD w d) (hl1 : d.O.length ≤ 1000000) (hl2 : d.I.length ≤ 1000000) (X Y : List Sn) (hX : alv d.O = X) (hY : alv d.I = Y) :
  Calls prog 71 #[d.v] w fun e w' => ∃ A3 c3 A4 c4, e = .returned (.agg #[.slice A3 X.length c3, .slice A4 Y.length c4]) ∧ Ls w' A3 c3 X ∧ Ls w' A4 c4 Y ∧ Below w.heap.size w w' := by
 have f1 := Fr.alloc (fun _ => False) w (.cells d.arr TDl)
 have f2 := Fr.alloc (fun _ => False) (w.alloc (.cells d.arr TDl)) (.cells #[.slice none 0 0, .slice none 0 0] TDl)
 have hb : Below w.heap.size w ((w.alloc (.cells d.arr TDl)).alloc (.cells #[.slice none 0 0, .slice none 0 0] TDl)) := ((Below.refl _ w).alloc (Nat.le_refl _) _).alloc (by simp) _
 have hr := Bk.new (w.alloc (.cells d.arr TDl)) #[.slice none 0 0, .slice none 0 0] TDl
 rw [World.size_alloc] at hr
 have H := Lib.hid (show ClsW.IV w _ w.heap.size (w.heap.size + 1) d [] from ⟨(hd.keep f1).keep f2, (Bk.new w d.arr TDl).fr f2 (fun _ _ h => h), hr, by simp, hb⟩)
 clear hd f1 f2 hb hr
 go_enter func71, ntmps71
 go_upto_region 1 with (fail)
 generalize ((w.alloc (.cells d.arr TDl)).alloc (.cells #[.slice none 0 0, .slice none 0 0] TDl)) = w1 at *
 refine ra1 (by kernel_rfl) _ _ w w1 w.heap.size (w.heap.size + 1) d X Y hX hY hl1 hl2 (by omega) (by omega) H.out rfl rfl rfl ?_
 intro x w2 A3 c3 A4 c4 h
 simp only [Eng.setAll, Act.put, List.setIfInBounds_toArray, List.set_cons_succ, List.set_cons_zero]
 have HZ := Lib.hid h
 clear h
 go_wp2_with fail
 exact bodyPost_ret (results_cell_row rfl _ _ (w.heap.size + 1) TDl _ (0, 0) _ rfl HZ.out.r underlying35 rfl (by kernel_rfl)) rfl ⟨A3, c3, A4, c4, rfl, HZ.out.a, HZ.out.c, HZ.out.b⟩
end Ref18
end Go.Proofs.YtdpngmgaomghoaaGreat
