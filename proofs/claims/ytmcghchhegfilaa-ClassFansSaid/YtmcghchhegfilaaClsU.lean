/- The place of one span: the program's. -/
import Derived.Test.YtmcghchhegfilaaClsN
namespace Go.Proofs.Ytmcghchhegfilaa
open Go.RowKit
namespace ClsF
open KeyP PackP SetP SetW SetF Cls ClsW ClsS
attribute [local go_sem] Eng.ev Eng.getO_cons Eng.getO_nil
theorem results_row_tmp {P : Program} {fn : Func} {p u : Tmp} {ty : TypeId} (h : fn.results = #[.cell p ty, .tmp u]) (tmps : Array Value) (w : World) (g : Nat) (t : TypeId) (cs : Array Value) (fr : Nat × Nat) (d : TypeDesc)
    (hp : tmps.getD p undef = .pointer (some ⟨g, 0, none⟩)) (hg : w.heap[g]? = some (.cells cs t fr))
    (hu : P.underlying ty = some d) (hd : (match d with | .struct _ | .array _ _ => true | _ => false) = true) (hi : (P.info? ty).map (·.size) = some cs.size) :
    (results fn tmps).run P w = .ok (.tuple #[.agg cs, tmps.getD u undef]) w := by
  have hp' : tmps[p]?.getD undef = .pointer (some ⟨g, 0, none⟩) := by simpa using hp
  simp [results, h, hp', asAddr, run_loadVar_row w g t ty cs fr d hg hu hd hi]
/-- Region 2: the span, in a block that may be made already. -/
structure O2 (w1 wc w : World) (h : Nat) (L : List Sn) (n : Nat) (bs : List Nat) (y : Sn) : Prop where
  f : Fo w1 w h L L n 0 (fun _ _ => none)
  r : Fr (fun _ => False) wc w
  p : ∀ b ∈ bs, Bk w b y.arr TSn ∧ wc.heap.size ≤ b
theorem O2.fr {w1 wc w w' : World} {h : Nat} {L : List Sn} {n : Nat} {bs : List Nat} {y : Sn} (H : O2 w1 wc w h L n bs y) (hf : Fr (fun _ => False) w w') : O2 w1 wc w' h L n bs y :=
  ⟨H.f.fr hf, H.r.trans hf (fun _ _ h => h) (fun _ _ h => h), fun b hb => ⟨(H.p b hb).1.fr hf (fun _ _ h => h), (H.p b hb).2⟩⟩
theorem O2.alloc {w1 wc w : World} {h : Nat} {L : List Sn} {n : Nat} {y0 : Sn} (H : O2 w1 wc w h L n [] y0) (y : Sn) : O2 w1 wc (w.alloc (.cells y.arr TSn)) h L n [w.heap.size] y :=
  ⟨H.f.fr (Fr.alloc _ w _), H.r.trans (Fr.alloc (fun _ => False) w _) (fun _ _ h => h) (fun _ _ h => h), fun b hb => by
    simp only [List.mem_singleton] at hb; subst hb
    exact ⟨Bk.new w y.arr TSn, H.r.size⟩⟩
abbrev z9 : Sn := ⟨0, 0, 0, 0, ByteArray.empty, ByteArray.empty, 0, 0, false⟩
abbrev put9 (w : World) (b : Nat) (y : Sn) : World := (((((((((w.setCell ⟨b, 0, none⟩ (.int .i64 y.t)).setCell ⟨b, 1, none⟩ (.int .i64 y.i)).setCell ⟨b, 2, none⟩ (.int .i64 y.p)).setCell ⟨b, 3, none⟩ (.int .i64 y.r)).setCell ⟨b, 4, none⟩ (.string y.s)).setCell ⟨b, 5, none⟩ (.string y.o)).setCell ⟨b, 6, none⟩ (.int .i64 y.b)).setCell ⟨b, 7, none⟩ (.int .i64 y.d)).setCell ⟨b, 8, none⟩ (.bool y.g))
theorem put9_bk {w : World} {b : Nat} {q : Sn} (h : Bk w b q.arr TSn) (y : Sn) : Bk (put9 w b y) b y.arr TSn := by
  have h1 := (((((((((h.set 0 (.int .i64 y.t)).set 1 (.int .i64 y.i)).set 2 (.int .i64 y.p)).set 3 (.int .i64 y.r)).set 4 (.string y.s)).set 5 (.string y.o)).set 6 (.int .i64 y.b)).set 7 (.int .i64 y.d)).set 8 (.bool y.g))
  simpa using h1
theorem put9_fr (w : World) (b : Nat) (y : Sn) : Fr (fun k => k = b) w (put9 w b y) := (frs1 (frs1 (frs1 (frs1 (frs1 (frs1 (frs1 (frs1 (frs1 (Fr.refl _ w) 0 (.int .i64 y.t)) 1 (.int .i64 y.i)) 2 (.int .i64 y.p)) 3 (.int .i64 y.r)) 4 (.string y.s)) 5 (.string y.o)) 6 (.int .i64 y.b)) 7 (.int .i64 y.d)) 8 (.bool y.g))
theorem O2.store {w1 wc w : World} {h : Nat} {L : List Sn} {n : Nat} {Bp : Nat} {y0 : Sn} (H : O2 w1 wc w h L n [Bp] y0) (y : Sn) (hz : h + 3 < wc.heap.size) (hy : w1.heap.size ≤ wc.heap.size) : O2 w1 wc (put9 w Bp y) h L n [Bp] y := by
  obtain ⟨h1, h2⟩ := H.p Bp (by simp)
  exact ⟨H.f.off (put9_fr w Bp y) (by omega) (by omega), H.r.trans (put9_fr w Bp y) (fun _ _ h => h) (fun k hk e => by omega), fun b hb => by
    simp only [List.mem_singleton] at hb; subst hb
    exact ⟨put9_bk h1 y, h2⟩⟩
set_option maxRecDepth 100000 in
set_option maxHeartbeats 2000000 in
theorem on2 {ops : Array Oper} (hops : Eng.fnOps Try.f29 2 = ops) (a0 : Act) (Q : Exit → Act → World → Prop) (w1 wc w : World) (h : Nat) (L : List Sn) (n : Nat) (t i : Int) (y : Sn) (yb : Bool) (ht : wf64 t) (hi : wf64 i) (hy : (spv L t i).getD zS = y.v) (hyb : (spv L t i).isSome = yb) (hz : h + 3 < wc.heap.size) (hw : w1.heap.size ≤ wc.heap.size) (hst : O2 w1 wc w h L n [] z9)
    (hn : a0.tmps.size = 31) (h_0 : a0.tmps.getD 0 undef = .int .i64 t) (h_1 : a0.tmps.getD 1 undef = .int .i64 i) (h_8 : a0.tmps.getD 8 undef = .pointer (some ⟨h + 3, 0, none⟩))
    (hpost : ∀ (x : Nat → Value) (w' : World) (By : Nat), x 9 = .pointer (some ⟨By, 0, none⟩) → x 10 = .bool yb → O2 w1 wc w' h L n [By] y → Q .normal (Eng.setAll a0 [9, 10, 14, 15, 16, 17, 18, 19, 20, 21, 22, 23, 24] x) w') :
    (Code.region 2 ops true).wp Try.prog Q a0 w := by
  simp only [Eng.fnOps, Eng.regOps, Try.f29, Option.bind_some, Option.getD_some, Nat.reduceEqDiff, ↓reduceIte, Nat.reduceBEq] at hops
  subst hops
  have HSt := Lib.hid (hst.fr (Fr.drew _ _))
  have hSS : w.drew.cell? ⟨h + 3, 0, none⟩ = some (.map (some h)) := (cell3 HSt.out.f).1
  refine Eng.regionT (.take 0 (.take 1 (.take 2 (.take 3 (.take 4 (.take 5 (.alt 6 (.alt 7 (.take 8 (.take 9 (.take 10 (.alt 11 (.alt 12 (.take 13 (.done)) (.stop)) (.stop))))) (.alt 11 (.alt 7 (.take 8 (.take 9 (.take 10 (.alt 12 (.take 13 (.done)) (.stop))))) (.stop)) (.stop))) (.alt 11 (.alt 6 (.alt 7 (.take 8 (.take 9 (.take 10 (.alt 12 (.take 13 (.done)) (.stop))))) (.stop)) (.stop)) (.stop))))))))) (fun w' => w'.cell? ⟨h + 3, 0, none⟩ = some (.map (some h))) (by kernel_rfl) 31 hn (by kernel_rfl) (by kernel_rfl) (by kernel_rfl) (hSS) (fun a b ha hb => ?_)
  subst ha
  have hb0 : b 0 = .int .i64 t := (hb 0).symm.trans h_0
  have hb1 : b 1 = .int .i64 i := (hb 1).symm.trans h_1
  have hb8 : b 8 = .pointer (some ⟨h + 3, 0, none⟩) := (hb 8).symm.trans h_8
  clear hb h_0 h_1 h_8
  have HP := Lib.hid hpost; have HN := Lib.hid hn
  clear hpost hn
  refine Eng.TW.take' (v := ?_) rfl rfl (by decide) (by kernel_rfl) (fun w hw => ?_) ?_
  rotate_left
  · (try dsimp only at hw); go_simp; first | done | with_reducible rfl
  refine Eng.TW.take' (v := ?_) rfl rfl (by decide) (by kernel_rfl) (fun w hw => ?_) ?_
  rotate_left
  · (try dsimp only at hw); go_simp; first | done | with_reducible rfl
  refine Eng.TW.take' (v := ?_) rfl rfl (by decide) (by kernel_rfl) (fun w hw => ?_) ?_
  rotate_left
  · (try dsimp only at hw); go_simp; first | done | with_reducible rfl
  refine Eng.TW.take' (v := ?_) rfl rfl (by decide) (by kernel_rfl) (fun w hw => ?_) ?_
  rotate_left
  · (try dsimp only at hw); go_simp; first | done | with_reducible rfl
  refine Eng.TW.take' (v := ?_) rfl rfl (by decide) (by kernel_rfl) (fun w hw => ?_) ?_
  rotate_left
  · (try dsimp only at hw); go_simp; first | done | with_reducible rfl
  refine Eng.TW.take' (v := ?_) rfl rfl (by decide) (by kernel_rfl) (fun w hw => ?_) ?_
  rotate_left
  · (try dsimp only at hw); go_simp; first | done | with_reducible rfl
  refine Eng.TW.both ?_ ?_
  · refine Eng.TW.call rfl rfl (by decide) (by kernel_rfl) ?_ (Key.Of ht hi _) ?_
    · go_simp
    rintro e w2 ⟨rfl, hb1⟩
    have HSt2 := Lib.hid (HSt.out.fr (Fr.of_below' hb1 _))
    have hSS : w2.cell? ⟨h + 3, 0, none⟩ = some (.map (some h)) := (cell3 HSt2.out.f).1
    clear hb1
    refine ⟨_, rfl, hSS, ?_⟩
    refine Eng.TW.both ?_ ?_
    · have hlk := HSt2.out.f.s.look_ok uS zeroS ht hi
      rw [hy, hyb] at hlk
      refine Eng.TW.step rfl rfl (by decide) (by kernel_rfl) (by go_simp; first | done | with_reducible rfl) ((cell3 (HSt2.out).f).1) ?_
      have HSt3 := Lib.hid (HSt2.out)
      have hSS : (w2).cell? ⟨h + 3, 0, none⟩ = some (.map (some h)) := (cell3 HSt3.out.f).1
      refine Eng.TW.take' (v := ?_) rfl rfl (by decide) (by kernel_rfl) (fun w hw => ?_) ?_
      rotate_left
      · (try dsimp only at hw); go_simp; first | done | with_reducible rfl
      refine Eng.TW.take' (v := ?_) rfl rfl (by decide) (by kernel_rfl) (fun w hw => ?_) ?_
      rotate_left
      · (try dsimp only at hw); go_simp; first | done | with_reducible rfl
      refine Eng.TW.take' (v := ?_) rfl rfl (by decide) (by kernel_rfl) (fun w hw => ?_) ?_
      rotate_left
      · (try dsimp only at hw); go_simp; first | done | with_reducible rfl
      refine Eng.TW.step rfl rfl (by decide) (by kernel_rfl) (by go_simp; first | done | with_reducible rfl | exact ⟨rfl, rfl⟩) ((cell3 (HSt3.out.alloc z9).f).1) ?_
      have HSt4 := Lib.hid (HSt3.out.alloc z9)
      have hSS : (((w2)).alloc (.cells #[.int .i64 0, .int .i64 0, .int .i64 0, .int .i64 0, .string ByteArray.empty, .string ByteArray.empty, .int .i64 0, .int .i64 0, .bool false] TSn)).cell? ⟨h + 3, 0, none⟩ = some (.map (some h)) := (cell3 HSt4.out.f).1
      have u0 := (HSt4.out.p _ (List.mem_cons_self ..)).1.cell 0
      have v0 := (HSt4.out.p _ (List.mem_cons_self ..)).1.free 0
      have u1 := (HSt4.out.p _ (List.mem_cons_self ..)).1.cell 1
      have v1 := (HSt4.out.p _ (List.mem_cons_self ..)).1.free 1
      have u2 := (HSt4.out.p _ (List.mem_cons_self ..)).1.cell 2
      have v2 := (HSt4.out.p _ (List.mem_cons_self ..)).1.free 2
      have u3 := (HSt4.out.p _ (List.mem_cons_self ..)).1.cell 3
      have v3 := (HSt4.out.p _ (List.mem_cons_self ..)).1.free 3
      have u4 := (HSt4.out.p _ (List.mem_cons_self ..)).1.cell 4
      have v4 := (HSt4.out.p _ (List.mem_cons_self ..)).1.free 4
      have u5 := (HSt4.out.p _ (List.mem_cons_self ..)).1.cell 5
      have v5 := (HSt4.out.p _ (List.mem_cons_self ..)).1.free 5
      have u6 := (HSt4.out.p _ (List.mem_cons_self ..)).1.cell 6
      have v6 := (HSt4.out.p _ (List.mem_cons_self ..)).1.free 6
      have u7 := (HSt4.out.p _ (List.mem_cons_self ..)).1.cell 7
      have v7 := (HSt4.out.p _ (List.mem_cons_self ..)).1.free 7
      have u8 := (HSt4.out.p _ (List.mem_cons_self ..)).1.cell 8
      have v8 := (HSt4.out.p _ (List.mem_cons_self ..)).1.free 8
      simp only [List.getElem?_toArray, List.getElem?_cons_zero, List.getElem?_cons_succ] at u0 u1 u2 u3 u4 u5 u6 u7 u8
      refine Eng.TW.step0 rfl rfl (by kernel_rfl) (by go_simp; first | done | with_reducible rfl) ((cell3 (HSt3.out.alloc y).f).1) ?_
      have HSt5 := Lib.hid (HSt3.out.alloc y)
      refine Eng.TW.take' (v := ?_) rfl rfl (by decide) (by kernel_rfl) (fun w hw => ?_) ?_
      rotate_left
      · (try dsimp only at hw); go_simp; first | done | with_reducible rfl
      refine Eng.TW.end_ [9, 10, 14, 15, 16, 17, 18, 19, 20, 21, 22, 23, 24] HN.out (by kernel_rfl) (by kernel_rfl) ?_
      exact HP.out _ _ _ rfl rfl HSt5.out
    refine Eng.TW.step rfl rfl (by decide) (by kernel_rfl) (by go_simp; first | done | with_reducible rfl | exact ⟨rfl, rfl⟩) ((cell3 (HSt2.out.alloc z9).f).1) ?_
    have HSt3 := Lib.hid (HSt2.out.alloc z9)
    have hSS : ((w2).alloc (.cells #[.int .i64 0, .int .i64 0, .int .i64 0, .int .i64 0, .string ByteArray.empty, .string ByteArray.empty, .int .i64 0, .int .i64 0, .bool false] TSn)).cell? ⟨h + 3, 0, none⟩ = some (.map (some h)) := (cell3 HSt3.out.f).1
    have hlk := HSt3.out.f.s.look_ok uS zeroS ht hi
    rw [hy, hyb] at hlk
    refine Eng.TW.step rfl rfl (by decide) (by kernel_rfl) (by go_simp; first | done | with_reducible rfl) ((cell3 (HSt3.out).f).1) ?_
    have HSt4 := Lib.hid (HSt3.out)
    have hSS : (((w2).alloc (.cells #[.int .i64 0, .int .i64 0, .int .i64 0, .int .i64 0, .string ByteArray.empty, .string ByteArray.empty, .int .i64 0, .int .i64 0, .bool false] TSn))).cell? ⟨h + 3, 0, none⟩ = some (.map (some h)) := (cell3 HSt4.out.f).1
    refine Eng.TW.take' (v := ?_) rfl rfl (by decide) (by kernel_rfl) (fun w hw => ?_) ?_
    rotate_left
    · (try dsimp only at hw); go_simp; first | done | with_reducible rfl
    refine Eng.TW.take' (v := ?_) rfl rfl (by decide) (by kernel_rfl) (fun w hw => ?_) ?_
    rotate_left
    · (try dsimp only at hw); go_simp; first | done | with_reducible rfl
    refine Eng.TW.take' (v := ?_) rfl rfl (by decide) (by kernel_rfl) (fun w hw => ?_) ?_
    rotate_left
    · (try dsimp only at hw); go_simp; first | done | with_reducible rfl
    have u0 := (HSt4.out.p _ (List.mem_cons_self ..)).1.cell 0
    have v0 := (HSt4.out.p _ (List.mem_cons_self ..)).1.free 0
    have u1 := (HSt4.out.p _ (List.mem_cons_self ..)).1.cell 1
    have v1 := (HSt4.out.p _ (List.mem_cons_self ..)).1.free 1
    have u2 := (HSt4.out.p _ (List.mem_cons_self ..)).1.cell 2
    have v2 := (HSt4.out.p _ (List.mem_cons_self ..)).1.free 2
    have u3 := (HSt4.out.p _ (List.mem_cons_self ..)).1.cell 3
    have v3 := (HSt4.out.p _ (List.mem_cons_self ..)).1.free 3
    have u4 := (HSt4.out.p _ (List.mem_cons_self ..)).1.cell 4
    have v4 := (HSt4.out.p _ (List.mem_cons_self ..)).1.free 4
    have u5 := (HSt4.out.p _ (List.mem_cons_self ..)).1.cell 5
    have v5 := (HSt4.out.p _ (List.mem_cons_self ..)).1.free 5
    have u6 := (HSt4.out.p _ (List.mem_cons_self ..)).1.cell 6
    have v6 := (HSt4.out.p _ (List.mem_cons_self ..)).1.free 6
    have u7 := (HSt4.out.p _ (List.mem_cons_self ..)).1.cell 7
    have v7 := (HSt4.out.p _ (List.mem_cons_self ..)).1.free 7
    have u8 := (HSt4.out.p _ (List.mem_cons_self ..)).1.cell 8
    have v8 := (HSt4.out.p _ (List.mem_cons_self ..)).1.free 8
    simp only [List.getElem?_toArray, List.getElem?_cons_zero, List.getElem?_cons_succ] at u0 u1 u2 u3 u4 u5 u6 u7 u8
    refine Eng.TW.step0 rfl rfl (by kernel_rfl) (by go_simp; first | done | with_reducible rfl) ((cell3 (HSt2.out.alloc y).f).1) ?_
    have HSt5 := Lib.hid (HSt2.out.alloc y)
    refine Eng.TW.take' (v := ?_) rfl rfl (by decide) (by kernel_rfl) (fun w hw => ?_) ?_
    rotate_left
    · (try dsimp only at hw); go_simp; first | done | with_reducible rfl
    refine Eng.TW.end_ [9, 10, 14, 15, 16, 17, 18, 19, 20, 21, 22, 23, 24] HN.out (by kernel_rfl) (by kernel_rfl) ?_
    exact HP.out _ _ _ rfl rfl HSt5.out
  refine Eng.TW.step rfl rfl (by decide) (by kernel_rfl) (by go_simp; first | done | with_reducible rfl | exact ⟨rfl, rfl⟩) ((cell3 (HSt.out.alloc z9).f).1) ?_
  have HSt2 := Lib.hid (show O2 w1 wc _ h L n [w.heap.size] z9 from HSt.out.alloc z9)
  have hSS : ((w.drew).alloc (.cells #[.int .i64 0, .int .i64 0, .int .i64 0, .int .i64 0, .string ByteArray.empty, .string ByteArray.empty, .int .i64 0, .int .i64 0, .bool false] TSn)).cell? ⟨h + 3, 0, none⟩ = some (.map (some h)) := (cell3 HSt2.out.f).1
  refine Eng.TW.call rfl rfl (by decide) (by kernel_rfl) ?_ (Key.Of ht hi _) ?_
  · go_simp
  rintro e w3 ⟨rfl, hb1⟩
  have HSt3 := Lib.hid (HSt2.out.fr (Fr.of_below' hb1 _))
  have hSS : w3.cell? ⟨h + 3, 0, none⟩ = some (.map (some h)) := (cell3 HSt3.out.f).1
  clear hb1
  refine ⟨_, rfl, hSS, ?_⟩
  have hlk := HSt3.out.f.s.look_ok uS zeroS ht hi
  rw [hy, hyb] at hlk
  refine Eng.TW.step rfl rfl (by decide) (by kernel_rfl) (by go_simp; first | done | with_reducible rfl) ((cell3 (HSt3.out).f).1) ?_
  have HSt4 := Lib.hid (HSt3.out)
  have hSS : (w3).cell? ⟨h + 3, 0, none⟩ = some (.map (some h)) := (cell3 HSt4.out.f).1
  refine Eng.TW.take' (v := ?_) rfl rfl (by decide) (by kernel_rfl) (fun w hw => ?_) ?_
  rotate_left
  · (try dsimp only at hw); go_simp; first | done | with_reducible rfl
  refine Eng.TW.take' (v := ?_) rfl rfl (by decide) (by kernel_rfl) (fun w hw => ?_) ?_
  rotate_left
  · (try dsimp only at hw); go_simp; first | done | with_reducible rfl
  refine Eng.TW.take' (v := ?_) rfl rfl (by decide) (by kernel_rfl) (fun w hw => ?_) ?_
  rotate_left
  · (try dsimp only at hw); go_simp; first | done | with_reducible rfl
  have u0 := (HSt4.out.p _ (List.mem_cons_self ..)).1.cell 0
  have v0 := (HSt4.out.p _ (List.mem_cons_self ..)).1.free 0
  have u1 := (HSt4.out.p _ (List.mem_cons_self ..)).1.cell 1
  have v1 := (HSt4.out.p _ (List.mem_cons_self ..)).1.free 1
  have u2 := (HSt4.out.p _ (List.mem_cons_self ..)).1.cell 2
  have v2 := (HSt4.out.p _ (List.mem_cons_self ..)).1.free 2
  have u3 := (HSt4.out.p _ (List.mem_cons_self ..)).1.cell 3
  have v3 := (HSt4.out.p _ (List.mem_cons_self ..)).1.free 3
  have u4 := (HSt4.out.p _ (List.mem_cons_self ..)).1.cell 4
  have v4 := (HSt4.out.p _ (List.mem_cons_self ..)).1.free 4
  have u5 := (HSt4.out.p _ (List.mem_cons_self ..)).1.cell 5
  have v5 := (HSt4.out.p _ (List.mem_cons_self ..)).1.free 5
  have u6 := (HSt4.out.p _ (List.mem_cons_self ..)).1.cell 6
  have v6 := (HSt4.out.p _ (List.mem_cons_self ..)).1.free 6
  have u7 := (HSt4.out.p _ (List.mem_cons_self ..)).1.cell 7
  have v7 := (HSt4.out.p _ (List.mem_cons_self ..)).1.free 7
  have u8 := (HSt4.out.p _ (List.mem_cons_self ..)).1.cell 8
  have v8 := (HSt4.out.p _ (List.mem_cons_self ..)).1.free 8
  simp only [List.getElem?_toArray, List.getElem?_cons_zero, List.getElem?_cons_succ] at u0 u1 u2 u3 u4 u5 u6 u7 u8
  refine Eng.TW.step0 rfl rfl (by kernel_rfl) (by go_simp; first | done | with_reducible rfl) ((cell3 (HSt4.out.store y hz hw).f).1) ?_
  have HSt5 := Lib.hid (HSt4.out.store y hz hw)
  refine Eng.TW.take' (v := ?_) rfl rfl (by decide) (by kernel_rfl) (fun w hw => ?_) ?_
  rotate_left
  · (try dsimp only at hw); go_simp; first | done | with_reducible rfl
  refine Eng.TW.end_ [9, 10, 14, 15, 16, 17, 18, 19, 20, 21, 22, 23, 24] HN.out (by kernel_rfl) (by kernel_rfl) ?_
  exact HP.out _ _ _ rfl rfl HSt5.out

/-- The place of one of them, or none. -/
abbrev onP (M : List Sn) (t i : Int) : Pc := match nx M t i with
  | some y => plc M y
  | none => z6
set_option maxRecDepth 100000 in
set_option maxHeartbeats 1000000 in
theorem One (t i : Int) (A : Option Addr) (c : Nat) (L : List Sn) (w : World) (hS : Ls w A c L) (hlen : L.length ≤ 900) (ht : wf64 t) (hi0 : wf64 i) :
    Calls Try.prog 29 #[.int .i64 t, .int .i64 i, .slice A L.length c] w fun e w' => e = .returned (.tuple #[(onP (spn L) t i).v, .bool (nx (spn L) t i).isSome]) ∧ Below w.heap.size w w' := by
  have f0 := Fr.alloc (fun _ => False) w (.cells #[.int .i64 0, .int .i64 0, .int .i64 0, .int .i64 0, .int .i64 0, .int .i64 0] TPl)
  have b0 := Bk.new w z6.arr TPl
  have hb0 := f0.below (Nat.le_refl w.heap.size) (fun _ _ h => h)
  have hlt0 : w.heap.size < (w.alloc (.cells #[.int .i64 0, .int .i64 0, .int .i64 0, .int .i64 0, .int .i64 0, .int .i64 0] TPl)).heap.size := by rw [World.size_alloc]; omega
  have HSp := Lib.hid (spans A c L _ (hS.below (f0.below (Nat.le_refl _) (fun _ _ h => h))) (by omega))
  have hsl := Nat.le_trans (spn_len L) hlen
  have HSr := Lib.hid (spn_srs L)
  have HR0 := Lib.hid b0; have HB0 := Lib.hid hb0
  clear hS f0 b0 hb0
  generalize spn L = M at *
  go_enter Try.func29, Try.ntmps29
  go_upto_region 1 with (fail)
  generalize (w.alloc (.cells #[.int .i64 0, .int .i64 0, .int .i64 0, .int .i64 0, .int .i64 0, .int .i64 0] TPl)) = w0 at *
  go_wp2_with fail
  refine HSp.out.mono ?_
  rintro e w1 ⟨A1, c1, rfl, hls, hb⟩
  have HB := Lib.hid (HB0.out.trans (hb.mono HB0.out.size))
  have HR1 := Lib.hid (HR0.out.fr (Fr.of_below' hb (fun _ => False)) (fun _ _ h => h))
  have hlt1 : w.heap.size < w1.heap.size := by have := hb.size; omega
  have HPl := Lib.hid (plant A1 c1 M w1 hls HSr.out (by omega))
  have HOk := Lib.hid hls.ok
  clear hls hb HSp HR0 HB0
  go_wp2_with fail
  refine HPl.out.mono ?_
  rintro e w2 ⟨h, n, rfl, -, hF⟩
  have hz2 := lt_of_heap hF.b
  have HO := Lib.hid (show O2 w1 w2 w2 h M n [] z9 from ⟨hF, Fr.refl _ _, by simp⟩)
  have HB2 := Lib.hid (HB.out.trans (hF.l.mono HB.out.size))
  have HR2 := Lib.hid (HR1.out.fr (Fr.of_below' hF.l (fun _ => False)) (fun _ _ h => h))
  have hsz2 := hF.l.size
  have hz3 := hF.z
  clear hF HPl HR1 HB
  go_upto_region 2 with (fail)
  cases hn : nx M t i with
  | none =>
    have HE : Hid (onP M t i = z6 ∧ (nx M t i).isSome = false) := by show _ ∧ _; unfold onP; rw [hn]; exact ⟨rfl, rfl⟩
    refine on2 (by kernel_rfl) _ _ w1 w2 w2 h M n t i z9 false ht hi0 (by unfold spv; rw [hn]; rfl) (by unfold spv; rw [hn]; rfl) hz2 hsz2 HO.out rfl rfl rfl rfl ?_
    intro v w3 By hv9 hv10 hst
    simp only [Eng.setAll, Act.put, List.setIfInBounds_toArray, List.set_cons_succ, List.set_cons_zero, hv9, hv10]
    have HR3 := Lib.hid (HR2.out.fr hst.r (fun _ _ h => h)); have HB3 := Lib.hid (HB2.out.trans (hst.r.below HB2.out.size (fun _ _ h => h)))
    clear hst hv9 hv10 HO HR2
    have kb : ∀ W : World, (Instr.build TPl #[]).run Try.prog W = .ok (.agg #[.int .i64 0, .int .i64 0, .int .i64 0, .int .i64 0, .int .i64 0, .int .i64 0]) W := fun W => by kernel_rfl
    have r0 : w3.cell? ⟨w.heap.size, 0, none⟩ = some (.int .i64 0) := HR3.out.cell 0
    have q0 : w3.frozen? ⟨w.heap.size, 0, none⟩ = false := HR3.out.free 0
    have r1 : w3.cell? ⟨w.heap.size, 1, none⟩ = some (.int .i64 0) := HR3.out.cell 1
    have q1 : w3.frozen? ⟨w.heap.size, 1, none⟩ = false := HR3.out.free 1
    have r2 : w3.cell? ⟨w.heap.size, 2, none⟩ = some (.int .i64 0) := HR3.out.cell 2
    have q2 : w3.frozen? ⟨w.heap.size, 2, none⟩ = false := HR3.out.free 2
    have r3 : w3.cell? ⟨w.heap.size, 3, none⟩ = some (.int .i64 0) := HR3.out.cell 3
    have q3 : w3.frozen? ⟨w.heap.size, 3, none⟩ = false := HR3.out.free 3
    have r4 : w3.cell? ⟨w.heap.size, 4, none⟩ = some (.int .i64 0) := HR3.out.cell 4
    have q4 : w3.frozen? ⟨w.heap.size, 4, none⟩ = false := HR3.out.free 4
    have r5 : w3.cell? ⟨w.heap.size, 5, none⟩ = some (.int .i64 0) := HR3.out.cell 5
    have q5 : w3.frozen? ⟨w.heap.size, 5, none⟩ = false := HR3.out.free 5
    go_wp2_with fail
    exact bodyPost_ret (results_row_tmp rfl _ _ w.heap.size TPl _ (0, 0) _ rfl (put6_bk HR3.out z6) Try.underlying55 rfl (by kernel_rfl)) rfl ⟨by rw [HE.out.1, HE.out.2]; rfl, HB3.out.trans ((put6_fr w3 w.heap.size z6).below HB3.out.size (fun k hk e => by omega))⟩
  | some y =>
    have HE : Hid (onP M t i = plc M y ∧ (nx M t i).isSome = true) := by show _ ∧ _; unfold onP; rw [hn]; exact ⟨rfl, rfl⟩
    obtain ⟨hyM, hyt, hyi⟩ := nx_some hn
    refine on2 (by kernel_rfl) _ _ w1 w2 w2 h M n t i y true ht hi0 (by unfold spv; rw [hn]; rfl) (by unfold spv; rw [hn]; rfl) hz2 hsz2 HO.out rfl rfl rfl rfl ?_
    intro v w3 By hv9 hv10 hst
    simp only [Eng.setAll, Act.put, List.setIfInBounds_toArray, List.set_cons_succ, List.set_cons_zero, hv9, hv10]
    have HR3 := Lib.hid (HR2.out.fr hst.r (fun _ _ h => h)); have HB3 := Lib.hid (HB2.out.trans (hst.r.below HB2.out.size (fun _ _ h => h)))
    have HA3 := Lib.hid (At.box (hst.p By (by simp)).1)
    have HPc := Lib.hid (place y w3 hst.f (fun _ _ _ h => (by cases h)) HSr.out HOk.out hyM (by omega) (by omega))
    clear hst hv9 hv10 HO HR2 hn hyt hyi hyM
    have yc0 : w3.cell? ⟨By, 0, none⟩ = some (.int .i64 y.t) := HA3.out 0 _ rfl
    have yc1 : w3.cell? ⟨By, 1, none⟩ = some (.int .i64 y.i) := HA3.out 1 _ rfl
    have yc2 : w3.cell? ⟨By, 2, none⟩ = some (.int .i64 y.p) := HA3.out 2 _ rfl
    have yc3 : w3.cell? ⟨By, 3, none⟩ = some (.int .i64 y.r) := HA3.out 3 _ rfl
    have yc4 : w3.cell? ⟨By, 4, none⟩ = some (.string y.s) := HA3.out 4 _ rfl
    have yc5 : w3.cell? ⟨By, 5, none⟩ = some (.string y.o) := HA3.out 5 _ rfl
    have yc6 : w3.cell? ⟨By, 6, none⟩ = some (.int .i64 y.b) := HA3.out 6 _ rfl
    have yc7 : w3.cell? ⟨By, 7, none⟩ = some (.int .i64 y.d) := HA3.out 7 _ rfl
    have yc8 : w3.cell? ⟨By, 8, none⟩ = some (.bool y.g) := HA3.out 8 _ rfl
    go_wp2_with fail
    refine HPc.out.mono ?_
    rintro e w4 ⟨m', P', rfl, -, -, -, hf4⟩
    have HR4 := Lib.hid (HR3.out.fr hf4 (fun k hk e => by simp at hk; have := hsz2; omega)); have HB4 := Lib.hid (HB3.out.trans (hf4.below HB3.out.size (fun k hk e => by omega)))
    obtain ⟨p, hp⟩ : ∃ p, plc M y = p := ⟨_, rfl⟩
    rw [hp]
    have HPe := Lib.hid hp
    clear hf4 hp HPc HA3 HR3 yc0 yc1 yc2 yc3 yc4 yc5 yc6 yc7 yc8
    have r0 : w4.cell? ⟨w.heap.size, 0, none⟩ = some (.int .i64 0) := HR4.out.cell 0
    have q0 : w4.frozen? ⟨w.heap.size, 0, none⟩ = false := HR4.out.free 0
    have r1 : w4.cell? ⟨w.heap.size, 1, none⟩ = some (.int .i64 0) := HR4.out.cell 1
    have q1 : w4.frozen? ⟨w.heap.size, 1, none⟩ = false := HR4.out.free 1
    have r2 : w4.cell? ⟨w.heap.size, 2, none⟩ = some (.int .i64 0) := HR4.out.cell 2
    have q2 : w4.frozen? ⟨w.heap.size, 2, none⟩ = false := HR4.out.free 2
    have r3 : w4.cell? ⟨w.heap.size, 3, none⟩ = some (.int .i64 0) := HR4.out.cell 3
    have q3 : w4.frozen? ⟨w.heap.size, 3, none⟩ = false := HR4.out.free 3
    have r4 : w4.cell? ⟨w.heap.size, 4, none⟩ = some (.int .i64 0) := HR4.out.cell 4
    have q4 : w4.frozen? ⟨w.heap.size, 4, none⟩ = false := HR4.out.free 4
    have r5 : w4.cell? ⟨w.heap.size, 5, none⟩ = some (.int .i64 0) := HR4.out.cell 5
    have q5 : w4.frozen? ⟨w.heap.size, 5, none⟩ = false := HR4.out.free 5
    go_wp2_with fail
    exact bodyPost_ret (results_row_tmp rfl _ _ w.heap.size TPl _ (0, 0) _ rfl (put6_bk HR4.out p) Try.underlying55 rfl (by kernel_rfl)) rfl ⟨by rw [HE.out.1, HE.out.2, HPe.out]; rfl, HB4.out.trans ((put6_fr w4 w.heap.size p).below HB4.out.size (fun k hk e => by omega))⟩
end ClsF
end Go.Proofs.Ytmcghchhegfilaa
