/- Layer 19's statements: JoinStore: for every input the answer is true. -/
import Derived.Test.YtdpngmgaomghoaaGreatLaw19
import Derived.Test.YtdpngmgaomghoaaGreatShuf
import Derived.Test.YtdpngmgaomghoaaGreatStos2
namespace Go.Proofs.YtdpngmgaomghoaaGreat
open Go.RowKit
namespace Law19
open Name KeyP PackP SetP SetW SetF Code_ Rank Delta Sto
open Sat2 (endS cl cl_in)
attribute [local go_sem] Eng.ev Eng.getO_cons Eng.getO_nil
theorem few_len {L : List Sn} {n : Nat} (h : fewB L n = true) : L.length ≤ n := by unfold fewB at h; simp at h; exact h.2
theorem one_lv (w : World) (x : Lv) : Sl (w.alloc (.cells #[.slice x.A x.L.length x.c] TSs)) 1 (some ⟨w.heap.size, 0, none⟩) 1 1 ([x].flatMap lvc) := by
  refine ⟨rfl, Nat.le_refl _, by simp [maxLen], by simp, fun _ => ⟨_, _, rfl, fun i u hu => ?_⟩⟩
  rw [Nat.zero_add, cell_of_block (heap_new _ _)]
  simpa using hu
structure L1 (w : World) (B : Nat) (x : Lv) : Prop where
  s : Sl w 1 (some ⟨B, 0, none⟩) 1 1 ([x].flatMap lvc)
abbrev cfJ : Cf := ⟨100, 100, 0, 0, mnI⟩
theorem setOf_perm {a b : List Sn} (h : a.Perm b) : setOf a = setOf b := setOf_ext (fun y => by unfold Kpt; simp only [h.mem_iff])
theorem setOf_twice (a : List Sn) : setOf (a ++ a) = setOf a := setOf_ext (fun y => by rw [Kpt.app, or_self])
theorem endS_mn (x : Sn) : hz cfJ ≤ endS x := by
  have h1 : hz cfJ = mnI := rfl
  rw [h1]
  exact (cl_in _).1
set_option maxRecDepth 100000 in
set_option maxHeartbeats 400000 in
theorem js9 {ops : Array Oper} (hops : Eng.fnOps Tryz.f3 9 = ops) (a0 : Act) (Q : Exit → Act → World → Prop) (w0 w : World) (Bc : Nat) (f : Cf) (hst : NX w0 w Bc f)
    (hn : a0.tmps.size = 101) (h_8 : a0.tmps.getD 8 undef = .pointer (some ⟨Bc, 0, none⟩))
    (hpost : ∀ (x : Nat → Value) (w' : World) (B1 B2 : Nat) (F1 F2 : List Nat), x 9 = .pointer (some ⟨B1, 0, none⟩) → x 10 = .pointer (some ⟨B2, 0, none⟩) → Sto.SB w' B1 (f.at mnI) [] [] [] F1 → Sto.SB w' B2 (f.at mnI) [] [] [] F2 → (∀ k ∈ F1, w.heap.size ≤ k) → (∀ k ∈ F2, w.heap.size ≤ k) → (∀ k ∈ F1, k ∉ F2) → NX w0 w' Bc f → Q .normal (Eng.setAll a0 [9, 10, 35, 36, 37, 38] x) w') :
    (Code.region 9 ops true).wp Tryz.prog Q a0 w := by
  simp only [Eng.fnOps, Eng.regOps, Tryz.f3, Option.bind_some, Option.getD_some, Nat.reduceEqDiff, ↓reduceIte, Nat.reduceBEq] at hops
  subst hops
  have HSt := Lib.hid (hst.fr (Fr.drew _ _))
  have hSS : w.drew.cell? ⟨Bc, 0, none⟩ = some (.int .i64 f.sp) ∧ w.drew.cell? ⟨Bc, 1, none⟩ = some (.int .i64 f.tr) ∧ w.drew.cell? ⟨Bc, 2, none⟩ = some (.int .i64 f.wi) ∧ w.drew.cell? ⟨Bc, 3, none⟩ = some (.int .i64 f.sg) := ⟨HSt.out.b.cell 0, HSt.out.b.cell 1, HSt.out.b.cell 2, HSt.out.b.cell 3⟩
  refine Eng.regionN [(0, true), (2, true), (1, false), (3, false), (4, true), (5, true)] (fun w' => w'.cell? ⟨Bc, 0, none⟩ = some (.int .i64 f.sp) ∧ w'.cell? ⟨Bc, 1, none⟩ = some (.int .i64 f.tr) ∧ w'.cell? ⟨Bc, 2, none⟩ = some (.int .i64 f.wi) ∧ w'.cell? ⟨Bc, 3, none⟩ = some (.int .i64 f.sg)) (by kernel_rfl) 101 hn (by kernel_rfl) rfl (by kernel_rfl) (hSS) (fun a b ha hb => ?_)
  subst ha
  have hb8 : b 8 = .pointer (some ⟨Bc, 0, none⟩) := (hb 8).symm.trans h_8
  clear hb h_8
  have HP := Lib.hid hpost; have HN := Lib.hid hn
  clear hpost hn
  refine Eng.Sch.take (v := ?_) rfl rfl (by decide) (by kernel_rfl) (fun w hw => ?_) ?_
  rotate_left
  · (try dsimp only at hw); go_simp; first | done | with_reducible rfl
  refine Eng.Sch.take (v := ?_) rfl rfl (by decide) (by kernel_rfl) (fun w hw => ?_) ?_
  rotate_left
  · (try dsimp only at hw); go_simp; first | done | with_reducible rfl
  refine Eng.Sch.call rfl rfl (by decide) (by kernel_rfl) ?_ (Sto.New f _) ?_
  · go_simp
  rintro e w2 ⟨B1, F1, rfl, hs1, hF1, hb1⟩
  have HS1 := Lib.hid hs1; have HF1 := Lib.hid hF1; have HB1 := Lib.hid hb1
  clear hs1 hF1
  have HSt1 := Lib.hid (HSt.out.fr (Fr.of_below' hb1 _))
  have hSS : w2.cell? ⟨Bc, 0, none⟩ = some (.int .i64 f.sp) ∧ w2.cell? ⟨Bc, 1, none⟩ = some (.int .i64 f.tr) ∧ w2.cell? ⟨Bc, 2, none⟩ = some (.int .i64 f.wi) ∧ w2.cell? ⟨Bc, 3, none⟩ = some (.int .i64 f.sg) := ⟨HSt1.out.b.cell 0, HSt1.out.b.cell 1, HSt1.out.b.cell 2, HSt1.out.b.cell 3⟩
  refine ⟨_, rfl, hSS, ?_⟩
  refine Eng.Sch.call rfl rfl (by decide) (by kernel_rfl) ?_ (Sto.New f _) ?_
  · go_simp
  rintro e w3 ⟨B2, F2, rfl, hs2, hF2, hb2⟩
  have HS2 := Lib.hid hs2; have HF2 := Lib.hid hF2; have HB2 := Lib.hid hb2
  clear hs2 hF2
  have HSt2 := Lib.hid (HSt1.out.fr (Fr.of_below' hb2 _))
  have hSS : w3.cell? ⟨Bc, 0, none⟩ = some (.int .i64 f.sp) ∧ w3.cell? ⟨Bc, 1, none⟩ = some (.int .i64 f.tr) ∧ w3.cell? ⟨Bc, 2, none⟩ = some (.int .i64 f.wi) ∧ w3.cell? ⟨Bc, 3, none⟩ = some (.int .i64 f.sg) := ⟨HSt2.out.b.cell 0, HSt2.out.b.cell 1, HSt2.out.b.cell 2, HSt2.out.b.cell 3⟩
  refine ⟨_, rfl, hSS, ?_⟩
  refine Eng.Sch.take (v := ?_) rfl rfl (by decide) (by kernel_rfl) (fun w hw => ?_) ?_
  rotate_left
  · (try dsimp only at hw); go_simp; first | done | with_reducible rfl
  refine Eng.Sch.take (v := ?_) rfl rfl (by decide) (by kernel_rfl) (fun w hw => ?_) ?_
  rotate_left
  · (try dsimp only at hw); go_simp; first | done | with_reducible rfl
  refine Eng.Sch.end_ [9, 10, 35, 36, 37, 38] HN.out (by kernel_rfl) (by kernel_rfl) ?_
  exact HP.out _ _ _ _ _ _ rfl rfl (HS1.out.keep (Fr.of_below' HB2.out _)) HS2.out (fun k hk => HF1.out k hk) (fun k hk => Nat.le_trans HB1.out.size (HF2.out k hk)) (fun k hk hm => by have := HS1.out.lt k hk; have := HF2.out k hm; omega) HSt2.out
set_option maxRecDepth 100000 in
set_option maxHeartbeats 4000000 in
theorem store (A0 A1 : Option Addr) (c0 c1 : Nat) (l : List Sn) (o : List Int) (z : Int) (w0 : World) (h0 : Ls w0 A0 c0 l) (h1 : Shuf.By w0 A1 c1 o) (hz : 0 ≤ z ∧ z < 256) :
    Calls Tryz.prog 3 #[.slice A0 l.length c0, .slice A1 o.length c1, .int .u8 z] w0 fun e w' => e = .returned (.bool true) ∧ Below w0.heap.size w0 w' := by
  have HA := Lib.hid h0; have HO := Lib.hid h1
  obtain ⟨i0, hi, hz0, hz1, hz2⟩ := info_parts infoS
  clear h0 h1
  go_enter Tryz.func3, Tryz.ntmps3
  go_wp2_with fail
  refine (SetF.Few _ _ 20 l w0 HA.out.s).mono ?_
  rintro e w1 ⟨rfl, hf⟩
  have HB := Lib.hid (hf.below (Nat.le_refl _) (fun _ _ h => h))
  clear hf
  cases hq : fewB l 20 with
  | false =>
    go_wp2_with fail
    refine (awake w1).mono ?_
    rintro e w2 ⟨rfl, hb⟩
    replace HB := Lib.hid (HB.out.trans (hb.mono HB.out.size))
    clear hb
    go_wp2_with fail
    go_ret
    exact ⟨rfl, HB.out⟩
  | true =>
    have hql := few_len hq
    clear hq
    go_wp2_with fail
    go_loopg [7] l.length (fun gk i wr => ∃ k : Nat, i = .int .i64 k ∧ k ≤ l.length ∧ gk = l.length - k ∧ (∀ x ∈ l.take k, mayN x = 0) ∧ Below w0.heap.size w0 wr)
    case atStart => exact ⟨0, rfl, Nat.zero_le _, rfl, by simp, HB.out⟩
    case round =>
      clear HB
      obtain ⟨k, rfl, hk, hg, hm, hb⟩ := hrel
      have HG := Lib.hid hg; have HM := Lib.hid hm; have HB := Lib.hid hb
      clear hg hm hb
      by_cases hlt : k < l.length
      · obtain ⟨b1, o1, rfl, hb1, c1⟩ := HA.out.s.at hlt (by omega)
        have HX := Lib.hid ((At.row c1 hlt).fr (Fr.of_below' HB.out (fun _ => False)) (fun h => h))
        have HXo := Lib.hid (HA.out.ok _ (List.getElem_mem hlt))
        have HT : Hid (mayN l[k] = 0 → ∀ y ∈ l.take (k + 1), mayN y = 0) := fun h y hy => by
          rw [List.take_succ_eq_append_getElem hlt, List.mem_append] at hy
          rcases hy with hy | hy
          · exact HM.out y hy
          · simp at hy; rw [hy]; exact h
        clear c1 hb1
        generalize l[k] = y at *
        have yc0 : wr.cell? ⟨b1, o1 + k * 9, none⟩ = some (.int .i64 y.t) := HX.out 0 _ rfl
        have yc1 : wr.cell? ⟨b1, o1 + k * 9 + 1, none⟩ = some (.int .i64 y.i) := HX.out 1 _ rfl
        have yc2 : wr.cell? ⟨b1, o1 + k * 9 + 1 + 1, none⟩ = some (.int .i64 y.p) := HX.out 2 _ rfl
        have yc3 : wr.cell? ⟨b1, o1 + k * 9 + 1 + 1 + 1, none⟩ = some (.int .i64 y.r) := HX.out 3 _ rfl
        have yc4 : wr.cell? ⟨b1, o1 + k * 9 + 1 + 1 + 1 + 1, none⟩ = some (.string y.s) := HX.out 4 _ rfl
        have yc5 : wr.cell? ⟨b1, o1 + k * 9 + 1 + 1 + 1 + 1 + 1, none⟩ = some (.string y.o) := HX.out 5 _ rfl
        have yc6 : wr.cell? ⟨b1, o1 + k * 9 + 1 + 1 + 1 + 1 + 1 + 1, none⟩ = some (.int .i64 y.b) := HX.out 6 _ rfl
        have yc7 : wr.cell? ⟨b1, o1 + k * 9 + 1 + 1 + 1 + 1 + 1 + 1 + 1, none⟩ = some (.int .i64 y.d) := HX.out 7 _ rfl
        have yc8 : wr.cell? ⟨b1, o1 + k * 9 + 1 + 1 + 1 + 1 + 1 + 1 + 1 + 1, none⟩ = some (.bool y.g) := HX.out 8 _ rfl
        have q1 : (0 : Int) ≤ (k : Int) := by omega
        have q2 : decide ((k : Int) < (l.length : Int)) = true := by simp; omega
        have q3 : wrap64 ((k : Int) + 1) = (k : Int) + 1 := by unfold wrap64; omega
        go_wp2_with fail
        refine (RefMay y HXo.out wr).mono ?_
        rintro e w2 ⟨rfl, hf⟩
        have HB2 := Lib.hid (HB.out.trans (hf.below HB.out.size (fun _ _ h => h)))
        clear hf yc0 yc1 yc2 yc3 yc4 yc5 yc6 yc7 yc8
        cases hm0 : (mayN y != 0) with
        | true =>
          go_wp2_with fail
          refine (awake w2).mono ?_
          rintro e w3 ⟨rfl, hb⟩
          replace HB2 := Lib.hid (HB2.out.trans (hb.mono HB2.out.size))
          clear hb
          go_wp2_with fail
          go_ret
          exact ⟨rfl, HB2.out⟩
        | false =>
          have HT2 := Lib.hid (HT.out (by simpa using hm0))
          go_wp2_with fail
          go_roundg (l.length - (k + 1))
          case rel => exact ⟨k + 1, by go_num, by omega, rfl, HT2.out, HB2.out⟩
          case measure => have := HG.out; omega
      · obtain rfl : k = l.length := by omega
        have HMy : Hid (∀ x ∈ l, mayN x = 0) := by have := HM.out; rwa [List.take_length] at this
        clear HM HG
        have q2 : decide ((l.length : Int) < (l.length : Int)) = false := by simp
        go_upto_region 9 with (fail)
        have HN : Hid (NX w0 (wr.alloc (.cells (cfc cfJ) TCf)) wr.heap.size cfJ) := ⟨(Fr.of_below' HB.out _).trans (Fr.alloc (fun _ => False) wr _) (fun _ _ h => h) (fun _ _ h => h), Bk.new _ _ _⟩
        refine js9 (by kernel_rfl) _ _ w0 _ wr.heap.size cfJ HN.out rfl rfl ?_
        intro x w2 B1 B2 F1 F2 h9 h10 s1 s2 l1 l2 hd hst
        simp only [Eng.setAll, Act.put, List.setIfInBounds_toArray, List.set_cons_succ, List.set_cons_zero]
        rw [h9, h10]
        have HD : Hid (DS w0 w2 B1 B2 cfJ cfJ [] [] F1 F2) := ⟨St.new s1 (by unfold in64; decide), St.new s2 (by unfold in64; decide), hd, fun k hk => by have := l1 k hk; have := HB.out.size; rw [World.size_alloc] at *; omega, fun k hk => by have := l2 k hk; have := HB.out.size; rw [World.size_alloc] at *; omega, hst.r.below (Nat.le_refl _) (fun _ _ h => h)⟩
        clear h9 h10 s1 s2 l1 l2 hd hst HN HB
        have hC : canE cfJ [] l = 0 := can0 ⟨List.Pairwise.nil, by simp, by simp⟩ HMy.out (fun x _ => endS_mn x) (by show (l.length + ([] : List Sn).length : Int) ≤ 100; simp; omega) (by show (l.length + ([] : List Sn).length : Int) ≤ 100; simp; omega)
        have HPut := Lib.hid (Sto.Put B1 cfJ [] F1 A0 c0 l w2 HD.out.s (HA.out.below HD.out.b) (fun hne a ha hm => by
          have h1 := HA.out.s.lt (fun e => hne (by cases l with | nil => rfl | cons x t => simp [scs] at e)) a ha
          have h2 := HD.out.l _ hm
          omega) (by omega) (by simp))
        rw [show putL cfJ [] l = setOf l from by unfold putL; rw [if_pos hC]; rfl, hC] at HPut
        generalize putO cfJ [] l = PO at *
        generalize putI cfJ [] l = PI at *
        clear hC
        go_wp2_with fail
        refine HPut.out.mono ?_
        rintro e w3 ⟨Ao, co, Ai, ci, F3, rfl, ho⟩
        have HD3 := Lib.hid (HD.out.turn1 ho.st ho.t)
        clear ho HPut HD
        have hb4 := (Below.refl w3.heap.size w3).alloc (Nat.le_refl _) (.cells #[.slice Ao PO.length co, .slice Ai PI.length ci] TDl)
        have HD4 := Lib.hid (HD3.out.below hb4)
        clear hb4 HD3
        go_upto_region 13 with (fail)
        generalize (w3.alloc (.cells #[.slice Ao PO.length co, .slice Ai PI.length ci] TDl)) = w4 at *
        go_wp2_with fail
        refine (Shuf.Shuffled A0 A1 c0 c1 l o w4 (HA.out.below HD4.out.b).s (HO.out.below HD4.out.b) (by omega)).mono ?_
        rintro e w5 ⟨S1, hp1, v1, rfl, hown1, hb5⟩
        have HP1 := Lib.hid hp1
        have HE1 := Lib.hid hp1.length_eq
        have hq1 : S1.length ≤ 20 := by have := HE1.out; omega
        obtain ⟨AA, ca, hv1, hsl1, hab⟩ := Sl.of_own hown1
        have HD5 := Lib.hid (HD4.out.below hb5)
        have HOw1 := Lib.hid hown1; have HS1 := Lib.hid hsl1
        have HF4 : Hid ((∀ x ∈ F3, x < w4.heap.size) ∧ (∀ x ∈ F2, x < w4.heap.size) ∧ w0.heap.size ≤ w4.heap.size) := ⟨HD4.out.s.s.lt, HD4.out.u.s.lt, HD4.out.b.size⟩
        have hsz5 := hb5.size
        subst hv1
        clear hp1 hown1 hsl1 hab hb5 HD4
        go_wp2_with fail
        refine (Shuf.Shuffled AA A1 ca c1 S1 o w5 HS1.out (HO.out.below HD5.out.b) (by omega)).mono ?_
        rintro e w6 ⟨S2, hp2, v2, rfl, hown2, hb6⟩
        have HP2 := Lib.hid hp2
        have HE2 := Lib.hid hp2.length_eq
        have hq2 : S2.length ≤ 20 := by have := HE2.out; omega
        obtain ⟨AB, cb, hv2, hsl2, hab⟩ := Sl.of_own hown2
        subst hv2
        have HD6 := Lib.hid (HD5.out.below hb6)
        have hrow6 := ownsRow_fr HOw1.out (Fr.of_below' hb6 (fun _ => False)) (fun _ _ h => h)
        have HS2 := Lib.hid hsl2
        have hsz6 := hb6.size
        clear hp2 hown2 hsl2 hab hb6 HD5 HS1 HOw1
        go_wp2_with (at_builtin; refine wpList_append_sl _ rfl (.tmp 50) (.tmp 53) TSs rfl w4.heap.size TSn i0 (.agg #[.int .i64 0, .int .i64 0, .int .i64 0, .int .i64 0, .string ByteArray.empty, .string ByteArray.empty, .int .i64 0, .int .i64 0, .bool false]) 9 88 Tryz.underlying22 hi hz0 hz1 hz2 rfl (by decide) _ _ _ rfl hrow6 _ _ _ _ rfl HS2.out (Shuf.scs_one _) ?_ ?_ ?_ ?_)
        · unfold maxLen; omega
        · omega
        · omega
        intro v7 w7 hown7 hgrow7
        have hb7 : Below w4.heap.size w6 w7 := (Fr.grown hgrow7 (S := fun b => w4.heap.size ≤ b) (fun b e => (ownsRow_blk hrow6 b e).1)).below (by omega) (fun k hk e => by omega)
        rw [← List.flatMap_append, ← List.length_append] at hown7
        obtain ⟨AC, cc, hv7, hsl7, hac⟩ := Sl.of_own hown7
        subst hv7
        have HAl : Hid (setOf (S1 ++ S2) = setOf l ∧ (S1 ++ S2).length = 2 * l.length ∧ (∀ x ∈ S1 ++ S2, mayN x = 0)) := by
          have e1 : setOf S2 = setOf l := setOf_perm (HP2.out.trans HP1.out)
          refine ⟨by rw [← setOf_app_l, ← setOf_app_r, e1, setOf_perm HP1.out, setOf_app_l, setOf_app_r, setOf_twice], by have := HE1.out; have := HE2.out; rw [List.length_append]; omega, fun x hx => ?_⟩
          rcases List.mem_append.1 hx with hx | hx
          · exact HMy.out x (HP1.out.mem_iff.1 hx)
          · exact HMy.out x (HP1.out.mem_iff.1 (HP2.out.mem_iff.1 hx))
        have HD7 : Hid (DS w0 w7 B1 B2 cfJ cfJ (setOf l) [] F3 F2) := HD6.out.low HF4.out.2.2 HF4.out.1 HF4.out.2.1 hb7
        have HS7 : Hid (Ls w7 AC cc (S1 ++ S2)) := ⟨hsl7, fun x hx => by
          rcases List.mem_append.1 hx with hx | hx
          · exact HA.out.ok x (HP1.out.mem_iff.1 hx)
          · exact HA.out.ok x (HP1.out.mem_iff.1 (HP2.out.mem_iff.1 hx))⟩
        have HAp : Hid (∀ a, AC = some a → a.block ∉ F2) := fun a ha hm => by have h1 := HF4.out.2.1 _ hm; have h2 := (hac a ha).1; omega
        clear hown7 hgrow7 hb7 hsl7 hac hrow6 HD6 HS2 HP1 HP2 HF4 HMy
        generalize S1 ++ S2 = AL at *
        go_wp2_with fail
        go_loopg [13, 14, 15, 16] AL.length (fun gk s13 _ _ _ wq => ∃ A c rest tk F2, s13 = .slice A rest.length c ∧ gk = rest.length ∧ Ls wq A c rest ∧ (rest ≠ [] → ∀ a, A = some a → a.block ∉ F2) ∧ tk ++ rest = AL ∧ DS w0 wq B1 B2 cfJ cfJ (setOf l) (setOf tk) F3 F2)
        case atStart => exact ⟨AC, cc, AL, [], F2, rfl, rfl, HS7.out, fun _ => HAp.out, rfl, HD7.out⟩
        case round =>
          clear HD7 HS7 HAp
          obtain ⟨A, c, rest, tk, F4, rfl, hg, hls, hap, htk, hds⟩ := hrel
          have HG := Lib.hid hg; have HL := Lib.hid hls; have HAp := Lib.hid hap; have HTk := Lib.hid htk; have HD := Lib.hid hds
          clear hg hls hap htk hds
          by_cases hlt : 0 < rest.length
          · have q2 : decide ((rest.length : Int) > 0) = true := by simp; omega
            go_upto_region 17 with (fail)
            obtain ⟨kk, hkk, hk1, hk2⟩ : ∃ kk : Nat, (if 1 + z % 7 < (rest.length : Int) then 1 + z % 7 else (rest.length : Int)) = (kk : Int) ∧ 1 ≤ kk ∧ kk ≤ rest.length := by
              split
              · exact ⟨(1 + z % 7).toNat, by omega, by omega, by omega⟩
              · exact ⟨rest.length, rfl, by omega, Nat.le_refl _⟩
            rw [hkk]
            clear hkk
            have htl : tk.length + rest.length = 2 * l.length := by have := congrArg List.length HTk.out; rw [List.length_append] at this; have := HAl.out.2.1; omega
            obtain ⟨b1, o1, rfl, hb1, c1⟩ := HL.out.s.at hlt (by omega)
            have hcap := HL.out.s.2.1; have hcap2 := HL.out.s.2.2.1
            unfold maxLen at hcap2
            have hsl := setOf_len tk
            have hstk : canE cfJ (setOf tk) (rest.take kk) = 0 := can0 (setOf_ok tk) (fun x hx => HAl.out.2.2 x (by rw [← HTk.out]; exact List.mem_append_right _ (List.mem_of_mem_take hx))) (fun x _ => endS_mn x) (by show ((rest.take kk).length + (setOf tk).length : Int) ≤ 100; rw [List.length_take]; omega) (by show ((rest.take kk).length + (setOf tk).length : Int) ≤ 100; rw [List.length_take]; omega)
            have hl1 : Ls wr (some ⟨b1, o1, none⟩) c (rest.take kk) := by
              have h2 := HL.out.s.take (k := kk) hk2
              rw [flat_take scs_len] at h2
              exact ⟨by rwa [List.length_take, Nat.min_eq_left hk2], fun x hx => HL.out.ok x (List.mem_of_mem_take hx)⟩
            have HPut := Lib.hid (Sto.Put B2 cfJ (setOf tk) F4 _ c (rest.take kk) wr HD.out.u hl1 (fun _ a ha => HAp.out (fun e => by subst e; simp at hlt) a ha) (by rw [List.length_take]; omega) (by omega))
            rw [show putL cfJ (setOf tk) (rest.take kk) = setOf (tk ++ rest.take kk) from by unfold putL; rw [if_pos hstk, setOf_app_l], hstk, List.length_take, Nat.min_eq_left hk2] at HPut
            have HL2 : Hid (∀ w', Fr (· ∈ F4) wr w' → Ls w' (if c = kk then some ⟨b1, o1, none⟩ else (some ⟨b1, o1, none⟩ : Option Addr).map (·.add (kk * 9))) (c - kk) (rest.drop kk)) := fun w' hf => by
              have h1 := Sto.Ls.frA HL.out hf (fun hne a ha hm => HAp.out hne a ha hm)
              have h2 := h1.s.drop (k := kk) hk2
              rw [flat_drop scs_len] at h2
              exact ⟨by rwa [List.length_drop], fun x hx => HL.out.ok x (List.mem_of_mem_drop hx)⟩
            have HAp2 : Hid (∀ a, (if c = kk then some ⟨b1, o1, none⟩ else (some ⟨b1, o1, none⟩ : Option Addr).map (·.add (kk * 9))) = some a → a.block = b1) := fun a ha => by
              split at ha
              · cases ha; rfl
              · simp [Addr.add] at ha
                rw [← ha]
                split <;> rfl
            have HBb : Hid (b1 ∉ F4 ∧ b1 < wr.heap.size) := ⟨HAp.out (fun e => by subst e; simp at hlt) _ rfl, HL.out.s.lt (fun e => by have := congrArg List.length e; rw [flat_length scs_len] at this; simp at this; omega) _ rfl⟩
            generalize putO cfJ (setOf tk) (rest.take kk) = PO2 at *
            generalize putI cfJ (setOf tk) (rest.take kk) = PI2 at *
            clear hstk hl1 hsl c1 hb1
            go_wp2_with fail
            refine HPut.out.mono ?_
            rintro e w8 ⟨A9, c9, A10, c10, F5, rfl, ho⟩
            have HD8 := Lib.hid (HD.out.turn2 ho.st ho.t)
            have HL8 := Lib.hid (HL2.out w8 ho.t.fr)
            have HB8 : Hid (b1 ∉ F5) := fun hm => by rcases (ho.t.sub b1 hm).1 with h1 | h1; exact HBb.out.1 h1; have := HBb.out.2; omega
            clear ho HPut HD HL HL2 HBb HAp
            have hb4 := (Below.refl w8.heap.size w8).alloc (Nat.le_refl _) (.cells #[.slice A9 PO2.length c9, .slice A10 PI2.length c10] TDl)
            have HD9 := Lib.hid (HD8.out.below hb4); have HL9 := Lib.hid (HL8.out.below hb4)
            clear hb4 HD8 HL8
            go_upto_region 20 with (fail)
            generalize (w8.alloc (.cells #[.slice A9 PO2.length c9, .slice A10 PI2.length c10] TDl)) = w9 at *
            have hln : (rest.drop kk).length = rest.length - kk := by rw [List.length_drop]
            have HFin : Hid (∀ a, (if c = kk then some ⟨b1, o1, none⟩ else (some ⟨b1, o1, none⟩ : Option Addr).map (·.add (kk * 9))) = some a → a.block ∉ F5) := fun a ha hm => HB8.out (by rw [← HAp2.out a ha]; exact hm)
            have HTk2 : Hid ((tk ++ rest.take kk) ++ rest.drop kk = AL) := by show _ = _; rw [List.append_assoc, List.take_append_drop]; exact HTk.out
            have HLn := Lib.hid hln
            clear hln HAp2 HB8 htl
            by_cases hck : c = kk
            · rw [if_pos hck] at HL9 HFin
              go_wp2_with fail
              go_roundg (rest.length - kk)
              case rel => exact ⟨_, c - kk, rest.drop kk, tk ++ rest.take kk, F5, by rw [HLn.out, show c - kk = 0 from by omega], HLn.out.symm, HL9.out, fun _ => HFin.out, HTk2.out, HD9.out⟩
              case measure => have := HG.out; omega
            · rw [if_neg hck] at HL9 HFin
              go_wp2_with fail
              go_roundg (rest.length - kk)
              case rel => exact ⟨_, c - kk, rest.drop kk, tk ++ rest.take kk, F5, by rw [HLn.out]; simp [Addr.add]; omega, HLn.out.symm, HL9.out, fun _ => HFin.out, HTk2.out, HD9.out⟩
              case measure => have := HG.out; omega
          · obtain rfl : rest = [] := List.eq_nil_of_length_eq_zero (by omega)
            obtain rfl : tk = AL := by have := HTk.out; simpa using this
            obtain ⟨X, hX⟩ : ∃ X, Hid (setOf l = X) := ⟨_, Lib.hid rfl⟩
            have HD2 : Hid (DS w0 wr B1 B2 cfJ cfJ X X F3 F4) := by have := HD.out; rwa [HAl.out.1, hX.out] at this
            have hxl : X.length ≤ 20 := by have := setOf_len l; rw [hX.out] at this; omega
            clear HD HAl HTk HL HAp HG
            go_wp2_with fail
            refine (Sto.All B1 cfJ X F3 wr HD2.out.s (by omega)).mono ?_
            rintro e w3 ⟨A3, c3, rfl, hls, -, hb⟩
            replace HD2 := Lib.hid (HD2.out.below hb)
            have H1 := Lib.hid hls
            clear hls hb
            go_wp2_with fail
            refine (Sto.All B2 cfJ X F4 w3 HD2.out.u (by omega)).mono ?_
            rintro e w4 ⟨A4, c4, rfl, hls, -, hb⟩
            replace HD2 := Lib.hid (HD2.out.below hb)
            replace H1 := Lib.hid (H1.out.below hb)
            have H2 := Lib.hid hls
            clear hls hb
            go_wp2_with fail
            refine (SameT H1.out H2.out rfl).mono ?_
            rintro e w5 ⟨rfl, hf⟩
            have hb := hf.below (Nat.le_refl _) (fun _ _ h => h)
            replace HD2 := Lib.hid (HD2.out.below hb)
            clear hf hb H1 H2
            go_wp2_with fail
            refine (Sto.All B1 cfJ X F3 w5 HD2.out.s (by omega)).mono ?_
            rintro e w6 ⟨A5, c5, rfl, hls, -, hb⟩
            replace HD2 := Lib.hid (HD2.out.below hb)
            have H1 := Lib.hid hls
            clear hls hb
            have hb := (Below.refl w6.heap.size w6).alloc (Nat.le_refl _) (.cells #[.slice A0 l.length c0] TSs)
            have H3 : Hid (L1 (w6.alloc (.cells #[.slice A0 l.length c0] TSs)) w6.heap.size ⟨A0, c0, l⟩) := ⟨one_lv w6 ⟨A0, c0, l⟩⟩
            replace HD2 := Lib.hid (HD2.out.below hb)
            replace H1 := Lib.hid (H1.out.below hb)
            clear hb
            go_wp2_with fail
            generalize (w6.alloc (.cells #[.slice A0 l.length c0] TSs)) = w7 at *
            refine (AllE H3.out.s (by intro x hx; simp at hx; subst hx; exact HA.out.below HD2.out.b) (by simp [cat]; omega) rfl X (by simpa [cat] using hX.out)).mono ?_
            rintro e w8 ⟨A6, c6, rfl, hls, -, hb⟩
            replace HD2 := Lib.hid (HD2.out.below hb)
            replace H1 := Lib.hid (H1.out.below hb)
            have H2 := Lib.hid hls
            clear hls hb H3
            go_wp2_with fail
            refine (SameT H1.out H2.out rfl).mono ?_
            rintro e w9 ⟨rfl, hf⟩
            have hb := hf.below (Nat.le_refl _) (fun _ _ h => h)
            replace HD2 := Lib.hid (HD2.out.below hb)
            clear hf hb H1 H2
            go_wp2_with fail
            refine (Sto.All B1 cfJ X F3 w9 HD2.out.s (by omega)).mono ?_
            rintro e w10 ⟨A7, c7, rfl, hls, -, hb⟩
            replace HD2 := Lib.hid (HD2.out.below hb)
            have H1 := Lib.hid hls
            clear hls hb
            go_wp2_with fail
            refine (show Calls _ _ _ _ (LsPost X w10) from hX.out ▸ SetF.Set A0 c0 l w10 (HA.out.below HD2.out.b) (by omega)).mono ?_
            rintro e w11 ⟨A8, c8, rfl, hls, -, hb⟩
            replace HD2 := Lib.hid (HD2.out.below hb)
            replace H1 := Lib.hid (H1.out.below hb)
            have H2 := Lib.hid hls
            clear hls hb
            go_wp2_with fail
            refine (SameT H1.out H2.out rfl).mono ?_
            rintro e w12 ⟨rfl, hf⟩
            have hb := hf.below (Nat.le_refl _) (fun _ _ h => h)
            replace HD2 := Lib.hid (HD2.out.below hb)
            clear hf hb H1 H2
            go_wp2_with fail
            refine (awake w12).mono ?_
            rintro e w13 ⟨rfl, hb⟩
            have HB := Lib.hid (HD2.out.below hb).b
            clear hb HD2
            go_wp2_with fail
            go_ret
            exact ⟨rfl, HB.out⟩
end Law19
end Go.Proofs.YtdpngmgaomghoaaGreat
