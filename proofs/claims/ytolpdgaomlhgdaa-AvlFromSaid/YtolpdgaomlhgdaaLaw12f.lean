/- Layer 12's statements: AvlFrom: for every input the answer is true. -/
import Derived.Test.YtolpdgaomlhgdaaLaw12fr
namespace Go.Proofs.Ytolpdgaomlhgdaa
open Go.RowKit Go.Shelf
namespace Law12
open Ref12
attribute [local go_sem] Oper.semAt_some

theorem geL_drop {M : List (Int × Int)} (hs : Srt M) {key : Int} {a : Nat} (ha : a ≤ M.length) (h1 : ∀ i (h : i < M.length), i < a → M[i].1 < key) (h2 : ∀ h : a < M.length, ¬ M[a].1 < key) : geL key M = M.drop a := by
  have e1 : (M.take a).filter (fun p => !Ord.lt p.1 key) = [] := by
    rw [List.filter_eq_nil_iff]
    intro p hp
    obtain ⟨i, hi, rfl⟩ := List.getElem_of_mem hp
    rw [List.length_take] at hi
    have := h1 i (by omega) (by omega)
    rw [List.getElem_take, ltInt]; simp; omega
  have e2 : (M.drop a).filter (fun p => !Ord.lt p.1 key) = M.drop a := by
    rw [List.filter_eq_self]
    intro p hp
    obtain ⟨i, hi, rfl⟩ := List.getElem_of_mem hp
    rw [List.length_drop] at hi
    rw [List.getElem_drop, ltInt]
    have h3 := h2 (by omega)
    by_cases e : i = 0
    · subst e; simp at *; omega
    · have := (List.pairwise_iff_getElem.1 hs) a (a + i) (by omega) (by omega) (by omega)
      rw [ltInt] at this
      simp at *; omega
  unfold geL
  rw [← List.take_append_drop a M, List.filter_append]
  simp only [List.take_append_drop]
  rw [e1, e2, List.nil_append]

set_option maxRecDepth 100000 in
set_option maxHeartbeats 2000000 in
theorem from_ (A0 : Option Addr) (c0 : Nat) (acts : List (Int × Int × Int)) (key want : Int) (w : World) (hS0 : Sl w 3 A0 acts.length c0 (acts.flatMap ac)) (_wf1 : (Lit.int .i64 key).wf = true) (wf2 : (Lit.int .u8 want).wf = true) :
    Calls Try.prog 7 #[.slice A0 acts.length c0, .int .i64 key, .int .u8 want] w fun e w' => e = .returned (.bool true) ∧ Below w.heap.size w w' := by
  obtain ⟨hw0, hw1⟩ : 0 ≤ want ∧ want ≤ 255 := by
    simp only [Lit.wf, Bool.and_eq_true, decide_eq_true_eq] at wf2
    exact wf2
  clear wf2
  by_cases hlen : 120 < acts.length
  · have HA := fun w => Lib.hid (awake w)
    have t0 : decide ((120 : Int) < (acts.length : Int)) = true := by simp; omega
    clear hS0 hlen
    go_enter Try.func7, Try.ntmps7
    go_wp2_with fail
    refine (HA _).out.mono ?_
    rintro e w1 ⟨rfl, hb⟩
    have HB := Lib.hid hb
    have cb : w1.cell? ⟨w.heap.size + 1, 0, none⟩ = some (.bool false) := (hb.cell (p := ⟨w.heap.size + 1, 0, none⟩) (by simp)).trans (by go_simp)
    have cf : w1.frozen? ⟨w.heap.size + 1, 0, none⟩ = false := (hb.frozen (p := ⟨w.heap.size + 1, 0, none⟩) (by simp)).trans (by go_simp)
    clear hb
    go_wp2_with fail
    refine bodyPost_ret (v := .bool true) (by simp [results, Try.results7, go_sem, cb]) rfl ⟨rfl, ?_⟩
    have h0 : Below w.heap.size w ((w.alloc (.cells #[.int .u8 want] 5)).alloc (.cells #[.bool false] 4)) := ((Below.refl _ _).alloc (Nat.le_refl _) _).alloc (by simp) _
    exact (h0.trans (HB.out.mono (by simp; omega))).setCell (p := ⟨w.heap.size + 1, 0, none⟩) (by simp) _
  · have hl : acts.length ≤ 120 := by omega
    have HL0 := Lib.hid hS0
    have t0 : decide ((120 : Int) < (acts.length : Int)) = false := by simp; omega
    clear hS0 hlen
    refine (callsIn_wide (n := 3)).1 ?_
    refine callsIn_of_wp_marks Try.func7 rfl trivial ?_ rfl
    simp only [Try.ntmps7, List.size_toArray, List.length_cons, List.length_nil, Nat.reduceAdd, Nat.reduceSub, Array.replicate_succ, Array.replicate_zero, List.push_toArray, List.append_toArray, List.nil_append, List.cons_append]
    refine wpIn_wide.2 ?_
    have kn : ∀ (w : World) (f : Fn) (a b : Array Value), (binOp .eql 68 (.func f a b) .nilFunc).run Try.prog w = .ok (.bool false) w := fun w f a b => run_eql_func_nil w f a b Try.underlying68
    go_wp2_with fail
    go_loopg [9] acts.length (fun gk i wr => ∃ (j : Nat) (L : List (Int × Int)) (F FX : List Nat), i = .int .i64 j ∧ j ≤ acts.length ∧ gk = acts.length - j ∧ L.length ≤ j ∧ Srt L ∧
      SF w.heap.size w.heap.size (w.heap.size + 1) (w.heap.size + 1 + 1) (w.heap.size + 1 + 1 + 1 + 1) (w.heap.size + 1 + 1 + 1) want false L L F FX [] w wr)
    case atStart =>
      refine ⟨0, [], [], [w.heap.size + 1 + 1 + 1], rfl, Nat.zero_le _, rfl, Nat.le_refl _, List.Pairwise.nil, ?_⟩
      have h1 := ((((Zs.start w).alloc (.cells #[.int .u8 want] 5)).alloc (.cells #[.bool false] 4)).alloc (.cells #[.pointer none, .int .i64 0] 51))
      have h2 := (h1.alloc (.cells #[.slice none 0 0] TMap)).alloc (.cells #[.pointer (some ⟨w.heap.size + 1 + 1 + 1, 0, none⟩)] 53)
      have b1 := Bk.new w #[.int .u8 want] 5
      have b2 := Bk.new (w.alloc (.cells #[.int .u8 want] 5)) #[.bool false] 4
      have b3 := AvlII.MapB.new ((w.alloc (.cells #[.int .u8 want] 5)).alloc (.cells #[.bool false] 4))
      have b4 := Bk.new (((w.alloc (.cells #[.int .u8 want] 5)).alloc (.cells #[.bool false] 4)).alloc (.cells #[.pointer none, .int .i64 0] 51)) #[.slice none 0 0] TMap
      have b5 := Bk.new ((((w.alloc (.cells #[.int .u8 want] 5)).alloc (.cells #[.bool false] 4)).alloc (.cells #[.pointer none, .int .i64 0] 51)).alloc (.cells #[.slice none 0 0] TMap)) #[.pointer (some ⟨w.heap.size + 1 + 1 + 1, 0, none⟩)] 53
      simp only [World.size_alloc, List.nil_append, List.cons_append] at h1 h2 b2 b3 b4 b5
      have fa := fun (w : World) (o : Obj) => Fr.alloc (fun _ => False) w o
      have nn : ∀ G : List Nat, ∀ b ∈ G, ¬ False := fun _ _ _ h => h
      refine ⟨⟨h2.bel, h2.n0le, ?_, ?_⟩, (((b1.fr (fa _ _) (nn _)).fr (fa _ _) (nn _)).fr (fa _ _) (nn _)).fr (fa _ _) (nn _), ((b2.fr (fa _ _) (nn _)).fr (fa _ _) (nn _)).fr (fa _ _) (nn _), (b3.frz (fa _ _) (nn _)).frz (fa _ _) (nn _), b5, none, 0, b4.fr (fa _ _) (nn _), Sl.empty _ _, rfl, by simp⟩
      · have := h2.rng; simp at this ⊢; omega
      · simp; omega
    case round =>
      obtain ⟨j, L, F, FX, rfl, hj, hg, hLl, hsrt, hst⟩ := hrel
      have HG := Lib.hid hg; have HSt := Lib.hid hst; have HSrt := Lib.hid hsrt
      clear hg hst hsrt
      by_cases hlt : j < acts.length
      · obtain ⟨b1, o1, rfl, hb1, hcs⟩ := HL0.out.at hlt (by omega)
        have HC : Hid (w.cell? ⟨b1, o1 + j * 3, none⟩ = some (.int .i64 acts[j].1) ∧ w.cell? ⟨b1, o1 + j * 3 + 1, none⟩ = some (.int .i64 acts[j].2.1) ∧ w.cell? ⟨b1, o1 + j * 3 + 1 + 1, none⟩ = some (.int .i64 acts[j].2.2)) :=
          ⟨hcs (j * 3) _ (by rw [← Nat.add_zero (j * 3), flat_at ac_len hlt (by omega)]; rfl), hcs (j * 3 + 1) _ (by rw [flat_at ac_len hlt (by omega)]; rfl), hcs (j * 3 + 2) _ (by rw [flat_at ac_len hlt (by omega)]; rfl)⟩
        have d0 : wr.cell? ⟨b1, o1 + j * 3, none⟩ = some (.int .i64 acts[j].1) := (HSt.out.zs.bel.cell (p := ⟨b1, _, none⟩) hb1).trans HC.out.1
        have d1 : wr.cell? ⟨b1, o1 + j * 3 + 1, none⟩ = some (.int .i64 acts[j].2.1) := (HSt.out.zs.bel.cell (p := ⟨b1, _, none⟩) hb1).trans HC.out.2.1
        clear hcs
        generalize acts[j] = x at *
        obtain ⟨kd, xk, xv⟩ := x
        dsimp only at d0 d1
        have HC' : Hid (w.cell? ⟨b1, o1 + j * 3 + 1, none⟩ = some (.int .i64 xk) ∧ w.cell? ⟨b1, o1 + j * 3 + 1 + 1, none⟩ = some (.int .i64 xv)) := HC.out.2
        clear HC
        by_cases hk : kd = 2
        · have k2 : (kd == 2) = true := by simp [hk]
          clear hk
          go_wp2_with fail
          refine (AvlII.DropB (w.heap.size + 1 + 1) xk L F wr HSt.out.bm (by omega)).mono ?_
          rintro e w1 ⟨rfl, hT⟩
          obtain ⟨F2, hst2⟩ := HSt.out.turnM hT
          have HSt2 := Lib.hid hst2
          clear hT hst2 d0 d1
          go_upto_region 10 with (fail)
          refine f10 (by kernel_rfl) _ _ w.heap.size w.heap.size (w.heap.size + 1) (w.heap.size + 1 + 1) (w.heap.size + 1 + 1 + 1 + 1) (w.heap.size + 1 + 1 + 1) b1 o1 c0 acts.length j want xk xv _ L F2 FX w _ HSt2.out hb1 hlt (Nat.le_trans (delL_len' _ _) (by omega)) (by omega) HSrt.out HC'.out.1 rfl rfl rfl rfl ?_
          intro x w' FX' hst
          simp only [Eng.setAll, Act.put, List.setIfInBounds_toArray, List.set_cons_succ, List.set_cons_zero]
          have HX := Lib.hid hst
          clear hst
          go_wp2_with fail
          go_roundg (acts.length - (j + 1))
          case rel => exact ⟨j + 1, delL xk L, F2, FX', by go_num, by omega, rfl, Nat.le_trans (delL_len' _ _) (by omega), srt_delL _ HSrt.out, HX.out⟩
          case measure => have := HG.out; omega
        · have k2 : (kd == 2) = false := by simp [hk]
          clear hk d1
          go_upto_region 11 with (fail)
          refine f11 (by kernel_rfl) _ _ w.heap.size w.heap.size (w.heap.size + 1) (w.heap.size + 1 + 1) (w.heap.size + 1 + 1 + 1 + 1) (w.heap.size + 1 + 1 + 1) b1 o1 c0 acts.length j want xk xv L L F FX w _ HSt.out hb1 hlt (by omega) (by omega) HSrt.out HC'.out.1 HC'.out.2 rfl rfl rfl rfl ?_
          intro x w' F' hst
          simp only [Eng.setAll, Act.put, List.setIfInBounds_toArray, List.set_cons_succ, List.set_cons_zero]
          have HX := Lib.hid hst
          clear hst d0
          have hil : (insL xk xv L).length ≤ j + 1 := Nat.le_trans (insL_len' _ _ _) (by omega)
          go_upto_region 12 with (fail)
          refine f12 (by kernel_rfl) _ _ w.heap.size w.heap.size (w.heap.size + 1) (w.heap.size + 1 + 1) (w.heap.size + 1 + 1 + 1 + 1) (w.heap.size + 1 + 1 + 1) b1 o1 c0 acts.length j want xk xv _ L F' FX w _ HX.out hb1 hlt (by omega) (by omega) HSrt.out HC'.out.1 HC'.out.2 rfl rfl rfl rfl ?_
          intro x2 w2 FX' hst
          simp only [Eng.setAll, Act.put, List.setIfInBounds_toArray, List.set_cons_succ, List.set_cons_zero]
          have HX2 := Lib.hid hst
          clear hst
          go_wp2_with fail
          go_roundg (acts.length - (j + 1))
          case rel => exact ⟨j + 1, insL xk xv L, F', FX', by go_num, by omega, rfl, hil, (srt_insL _ HSrt.out).1, HX2.out⟩
          case measure => have := HG.out; omega
      · obtain ⟨wo, rfl⟩ : ∃ wo : World, wo = wr := ⟨_, rfl⟩
        have HX0 : Hid (SF w.heap.size w.heap.size (w.heap.size + 1) (w.heap.size + 1 + 1) (w.heap.size + 1 + 1 + 1 + 1) (w.heap.size + 1 + 1 + 1) want false L L F FX [[wo.heap.size]] w (wo.alloc (.cells #[.int .i64 0] 3))) := HSt.out.alloc _
        have HY0 : Hid (Bk (wo.alloc (.cells #[.int .i64 0] 3)) wo.heap.size #[.int .i64 0] 3) := Bk.new _ _ _
        have hLm : L.length ≤ 120 := by omega
        clear HSt
        go_wp2_with fail
        go_loopg [] L.length (fun gk wl => ∃ a : Nat, a ≤ L.length ∧ gk = L.length - a ∧ (∀ i (h : i < L.length), i < a → L[i].1 < key) ∧ SF w.heap.size w.heap.size (w.heap.size + 1) (w.heap.size + 1 + 1) (w.heap.size + 1 + 1 + 1 + 1) (w.heap.size + 1 + 1 + 1) want false L L F FX [[wo.heap.size]] w wl ∧ Bk wl wo.heap.size #[.int .i64 (a : Int)] 3)
        case atStart => exact ⟨0, Nat.zero_le _, rfl, fun i _ h => by omega, HX0.out, HY0.out⟩
        case round =>
          obtain ⟨a, ha, hg', hlow, hst, hba⟩ := hrel
          have HG' := Lib.hid hg'; have HLow := Lib.hid hlow; have HS1 := Lib.hid hst; have HBa := Lib.hid hba
          have cA : wr.cell? ⟨wo.heap.size, 0, none⟩ = some (.int .i64 (a : Int)) := hba.cell 0
          have fA := hba.free 0
          have cP : wr.cell? ⟨w.heap.size + 1 + 1 + 1 + 1, 0, none⟩ = some (.pointer (some ⟨w.heap.size + 1 + 1 + 1, 0, none⟩)) := hst.bp.cell 0
          obtain ⟨AX, cX, hbx, hsx, hFX, hAX⟩ := hst.bx
          have cX : wr.cell? ⟨w.heap.size + 1 + 1 + 1, 0, none⟩ = some (.slice AX L.length cX) := hbx.cell 0
          clear hg' hlow hst hba hbx hFX hAX HX0 HY0
          by_cases hlt2 : a < L.length
          · obtain ⟨b2, o2, rfl, hb2, hc2⟩ := hsx.at hlt2 (by omega)
            have cK : wr.cell? ⟨b2, o2 + a * 2, none⟩ = some (.int .i64 L[a].1) := hc2 (a * 2) _ (by rw [← Nat.add_zero (a * 2), flat_at pc_len hlt2 (by omega)]; rfl)
            have q1 : (a : Int) < (L.length : Int) := by omega
            have q2 : (0 : Int) ≤ (a : Int) := by omega
            clear hc2 hsx
            by_cases hk : L[a].1 < key
            · have HK := Lib.hid hk
              generalize hka : L[a].1 = ka at *
              have HKa := Lib.hid hka
              clear hka
              go_upto_region 14 with (fail)
              go_quiet (fail)
              go_wp2_with fail
              go_roundg (L.length - (a + 1))
              case rel =>
                have hd := HS1.out.fr (Fr.drewN (fun _ => False) wr nq)
                have hbd : Bk (wr.drewN nq) wo.heap.size #[.int .i64 (a : Int)] 3 := HBa.out
                refine ⟨a + 1, by omega, rfl, fun i h hi => ?_, hd.turnE (hbd.tn 0 (.int .i64 ((a : Int) + 1))), by simpa using hbd.set 0 (.int .i64 ((a : Int) + 1))⟩
                rcases Nat.lt_succ_iff_lt_or_eq.1 hi with hi | rfl
                · exact HLow.out i h hi
                · rw [HKa.out]; exact HK.out
              case measure => have := HG'.out; omega
            · have HGe := Lib.hid (geL_drop HSrt.out ha HLow.out (fun _ => hk))
              generalize L[a].1 = ka at *
              go_upto_region 14 with (fail)
              go_quiet (fail)
              go_wp2_with fail
              refine (AvlII.From _ _ _).mono ?_
              rintro e w1 ⟨rfl, rfl⟩
              go_wp2_with fail
              have hd := HS1.out.fr (Fr.drewN (fun _ => False) wr nq)
              have hbd : Bk (wr.drewN nq) wo.heap.size #[.int .i64 (a : Int)] 3 := HBa.out
              have es : (wr.drewN nq).heap.size = wr.heap.size := rfl
              have fa := fun (w : World) (o : Obj) => Fr.alloc (fun _ => False) w o
              have nn : ∀ G : List Nat, ∀ b ∈ G, ¬ False := fun _ _ _ h => h
              have hSG : SG w.heap.size w.heap.size (w.heap.size + 1) (w.heap.size + 1 + 1) (w.heap.size + 1 + 1 + 1 + 1) (w.heap.size + 1 + 1 + 1) wo.heap.size wr.heap.size (wr.heap.size + 1) (wr.heap.size + 1 + 1) want false L F FX (a : Int) 0 w ((((wr.drewN nq).alloc (.cells #[.pointer (some ⟨w.heap.size + 1 + 1, 0, none⟩)] 52)).alloc (.cells #[.int .i64 key] 3)).alloc (.cells #[.int .i64 0] 3)) := by
                have h3 := ((hd.alloc (.cells #[.pointer (some ⟨w.heap.size + 1 + 1, 0, none⟩)] 52)).alloc (.cells #[.int .i64 key] 3)).alloc (.cells #[.int .i64 0] 3)
                have b3 := Bk.new (((wr.drewN nq).alloc (.cells #[.pointer (some ⟨w.heap.size + 1 + 1, 0, none⟩)] 52)).alloc (.cells #[.int .i64 key] 3)) #[.int .i64 0] 3
                simp only [World.size_alloc, es, List.nil_append, List.cons_append] at h3 b3
                exact ⟨h3, ((hbd.fr (fa _ _) (nn _)).fr (fa _ _) (nn _)).fr (fa _ _) (nn _), b3⟩
              have hcc : ((((wr.drewN nq).alloc (.cells #[.pointer (some ⟨w.heap.size + 1 + 1, 0, none⟩)] 52)).alloc (.cells #[.int .i64 key] 3)).alloc (.cells #[.int .i64 0] 3)).cell? ⟨wr.heap.size, 0, none⟩ = some (.pointer (some ⟨w.heap.size + 1 + 1, 0, none⟩)) := (((Bk.new (wr.drewN nq) _ _).fr (fa _ _) (nn _)).fr (fa _ _) (nn _)).cell 0
              have hcf : ((((wr.drewN nq).alloc (.cells #[.pointer (some ⟨w.heap.size + 1 + 1, 0, none⟩)] 52)).alloc (.cells #[.int .i64 key] 3)).alloc (.cells #[.int .i64 0] 3)).cell? ⟨wr.heap.size + 1, 0, none⟩ = some (.int .i64 key) := by
                have := ((Bk.new ((wr.drewN nq).alloc (.cells #[.pointer (some ⟨w.heap.size + 1 + 1, 0, none⟩)] 52)) #[.int .i64 key] 3).fr (fa _ (.cells #[.int .i64 0] 3)) (nn _)).cell 0
                rwa [World.size_alloc, es] at this
              have hs0 : ((((wr.drewN nq).alloc (.cells #[.pointer (some ⟨w.heap.size + 1 + 1, 0, none⟩)] 52)).alloc (.cells #[.int .i64 key] 3)).alloc (.cells #[.int .i64 0] 3)).heap.size = wr.heap.size + 3 := by simp
              generalize ((((wr.drewN nq).alloc (.cells #[.pointer (some ⟨w.heap.size + 1 + 1, 0, none⟩)] 52)).alloc (.cells #[.int .i64 key] 3)).alloc (.cells #[.int .i64 0] 3)) = W0 at *
              have hlow : ∀ G ∈ [[w.heap.size], [w.heap.size + 1], (w.heap.size + 1 + 1) :: F, [w.heap.size + 1 + 1 + 1 + 1], FX, [wo.heap.size], [wr.heap.size + 1 + 1]], ∀ b ∈ G, b < W0.heap.size := fun G hG b hb => (hSG.sf.zs.rng G (by simp at hG ⊢; rcases hG with h | h | h | h | h | h | h <;> simp [h]) b hb).2
              have hn0 := hSG.sf.zs.n0le
              have HS0 := Lib.hid hs0
              clear hs0 hd hbd es cA fA cP cX kn
              refine (wpIn_wide (n := 3)).1 ?_
              refine range_P' (n := 3) (a₁ := ?fr) (gf := 94) (lb := #[.pointer (some ⟨wr.heap.size, 0, none⟩), .pointer (some ⟨wr.heap.size + 1, 0, none⟩)]) rfl (enters_of Try.func94 (by kernel_rfl) rfl)
                (AvlII.From_seq ((wr.heap.size + 1) :: F) wr.heap.size (wr.heap.size + 1) key (some ⟨w.heap.size + 1 + 1, 0, none⟩) L F W0 hcc (by have := HS0.out; omega) hcf (by have := HS0.out; omega) (by simp) hSG.sf.bm.mapP (fun b hb => by simp [hb]))
                (fun b hb => by
                  rcases List.mem_cons.1 hb with rfl | hb
                  · have := HS0.out; omega
                  · exact hlow ((w.heap.size + 1 + 1) :: F) (by simp) b (by simp [hb])) (fun _ => rfl)
                (fun (pre : List (Int × Int)) (W : World) => SG w.heap.size w.heap.size (w.heap.size + 1) (w.heap.size + 1 + 1) (w.heap.size + 1 + 1 + 1 + 1) (w.heap.size + 1 + 1 + 1) wo.heap.size wr.heap.size (wr.heap.size + 1) (wr.heap.size + 1 + 1) want false L F FX ((a : Int) + pre.length) pre.length w W ∧ (0 < pre.length → (pre.length : Int) < want))
                (fun k (pre : List (Int × Int)) (W : World) => k = .exit 4 ∧ SG w.heap.size w.heap.size (w.heap.size + 1) (w.heap.size + 1 + 1) (w.heap.size + 1 + 1 + 1 + 1) (w.heap.size + 1 + 1 + 1) wo.heap.size wr.heap.size (wr.heap.size + 1) (wr.heap.size + 1 + 1) want false L F FX ((a : Int) + pre.length) pre.length w W ∧ (pre.length : Int) = max 1 want)
                (fun pre A B h hf => ⟨h.1.frS hf (fun k hk h => by have := h.1; omega) (fun G hG b hb h => by have := hlow G hG b hb; have := h.1; omega), h.2⟩)
                (fun k pre A B h hf => ⟨h.1, h.2.1.frS hf (fun k hk h => by have := h.1; omega) (fun G hG b hb h => by have := hlow G hG b hb; have := h.1; omega), h.2.2⟩)
                ⟨by simpa using hSG, by simp⟩ ?assign ?body ?done ?stop
              case assign =>
                intro l m x W K hK
                gi_wp2
                exact hK
              case body =>
                rintro l m pre x W ⟨hI, hwant⟩ hsz hpre _ _ _
                (try dsimp only)
                rw [HGe.out] at hpre
                obtain ⟨hat, hx⟩ : ∃ h : a + pre.length < L.length, x = L[a + pre.length] := by
                  have h1 := hpre.length_le
                  rw [List.length_append, List.length_singleton, List.length_drop] at h1
                  refine ⟨by omega, ?_⟩
                  have h2 := hpre.getElem (i := pre.length) (by simp)
                  rw [List.getElem_append_right (Nat.le_refl _), List.getElem_drop] at h2
                  simpa using h2
                have cA : W.cell? ⟨wo.heap.size, 0, none⟩ = some (.int .i64 ((a : Int) + pre.length)) := hI.ba.cell 0
                have fA := hI.ba.free 0
                have cN : W.cell? ⟨wr.heap.size + 1 + 1, 0, none⟩ = some (.int .i64 (pre.length : Int)) := hI.bn.cell 0
                have fN := hI.bn.free 0
                have cW : W.cell? ⟨w.heap.size, 0, none⟩ = some (.int .u8 want) := hI.sf.bw.cell 0
                have cP : W.cell? ⟨w.heap.size + 1 + 1 + 1 + 1, 0, none⟩ = some (.pointer (some ⟨w.heap.size + 1 + 1 + 1, 0, none⟩)) := hI.sf.bp.cell 0
                obtain ⟨AX, cX, hbx, hsx, hFX, hAX⟩ := hI.sf.bx
                have hcX : W.cell? ⟨w.heap.size + 1 + 1 + 1, 0, none⟩ = some (.slice AX L.length cX) := hbx.cell 0
                obtain ⟨b2, o2, rfl, hb2, hc2⟩ := hsx.at hat (by omega)
                have cK : W.cell? ⟨b2, o2 + (a + pre.length) * 2, none⟩ = some (.int .i64 x.1) := by rw [hx]; exact hc2 ((a + pre.length) * 2) _ (by rw [← Nat.add_zero ((a + pre.length) * 2), flat_at pc_len hat (by omega)]; rfl)
                have cV : W.cell? ⟨b2, o2 + (a + pre.length) * 2 + 1, none⟩ = some (.int .i64 x.2) := by rw [hx]; exact hc2 ((a + pre.length) * 2 + 1) _ (by rw [flat_at pc_len hat (by omega)]; rfl)
                have HI := Lib.hid hI
                obtain ⟨xk, xv⟩ := x
                dsimp only at cK cV ⊢
                have q1 : ((a : Int) + pre.length) < (L.length : Int) := by omega
                have q2 : (0 : Int) ≤ (a : Int) + pre.length := by omega
                have ha0 : wo.heap.size < W0.heap.size := hlow [wo.heap.size] (by simp) _ (by simp)
                clear hbx hFX hAX hc2 hsx hI hx hpre hSG hcc hcf hlow
                gi_upto_region 23 with (fail)
                refine f23 (by kernel_rfl) _ _ l m wo.heap.size (w.heap.size + 1 + 1 + 1 + 1) (w.heap.size + 1 + 1 + 1) b2 o2 cX L.length (a + pre.length) _ xk xv W (by omega) hat cA cP hcX cK cV rfl rfl rfl rfl rfl ?_
                rintro x w' hx rfl
                simp only [Eng.setAll, Act.put, List.setIfInBounds_toArray, List.set_cons_succ, List.set_cons_zero]
                rw [hx]
                clear hx
                obtain ⟨ht, hf⟩ := HI.out.turn ((a : Int) + pre.length + 1) ((pre.length : Int) + 1)
                have HT := Lib.hid (ht.frS (Fr.drew (fun _ => False) _) (fun _ _ h => h) (fun _ _ _ _ h => h)); have HFr := Lib.hid (hf.trans (Fr.drew (fun _ => False) _) (T := fun k => k = wo.heap.size ∨ k = wr.heap.size + 1 + 1) (fun _ _ h => h) (fun _ _ h => h.elim))
                have hsz' : W0.heap.size + 2 ≤ W.heap.size := by omega
                have q3 : IntKind.i64.wrap want = want := IntWalk.i64_in _ (by omega)
                clear ht hf cK cV q1 q2
                have n1 : ¬ wo.heap.size = wr.heap.size + 1 + 1 := fun e => HI.out.sf.zs.ap 5 8 rfl rfl (by decide) (wr.heap.size + 1 + 1) (by simp) (by simp [e])
                have n1' : ¬ wr.heap.size + 1 + 1 = wo.heap.size := fun e => n1 e.symm
                have n2 : ¬ wo.heap.size = w.heap.size := fun e => HI.out.sf.zs.ap 5 0 rfl rfl (by decide) w.heap.size (by simp) (by simp [e])
                have n2' : ¬ w.heap.size = wo.heap.size := fun e => n2 e.symm
                have n3 : ¬ wr.heap.size + 1 + 1 = w.heap.size := fun e => HI.out.sf.zs.ap 8 0 rfl rfl (by decide) w.heap.size (by simp) (by simp [e])
                have n3' : ¬ w.heap.size = wr.heap.size + 1 + 1 := fun e => n3 e.symm
                by_cases hmore : (pre.length : Int) + 1 < want
                · have q4 : ¬ want ≤ (pre.length : Int) + 1 := by omega
                  gi_wp2_with fail
                  have hs1 := HS0.out
                  refine ⟨KeptR.of_fr HFr.out hsz' (fun b hb h => by have := hb.1; rcases h with h | h <;> omega), by simp [World.setCell], KeptL.of_fr HFr.out (fun b hb => ?_), ?_, fun _ => ?_⟩
                  · have hz := HI.out.sf.zs
                    rcases List.mem_cons.1 hb with rfl | hb
                    · refine ⟨(hz.mem (i := 7) rfl _ (by simp)).2, ?_⟩
                      rintro (e | e)
                      · exact hz.ap 5 7 rfl rfl (by decide) (wr.heap.size + 1) (List.mem_singleton.2 rfl) (List.mem_singleton.2 e)
                      · exact hz.ap 8 7 rfl rfl (by decide) (wr.heap.size + 1) (List.mem_singleton.2 rfl) (List.mem_singleton.2 e)
                    · refine ⟨(hz.mem (i := 2) rfl b (by simp [hb])).2, ?_⟩
                      rintro (e | e)
                      · exact hz.ap 5 2 rfl rfl (by decide) b (List.mem_cons_of_mem _ hb) (List.mem_singleton.2 e)
                      · exact hz.ap 8 2 rfl rfl (by decide) b (List.mem_cons_of_mem _ hb) (List.mem_singleton.2 e)
                  · have e : (((pre ++ [(xk, xv)]).length : Nat) : Int) = (pre.length : Int) + 1 := by simp
                    rw [e, ← Int.add_assoc]
                    exact HT.out
                  · simpa using hmore
                · have q4 : want ≤ (pre.length : Int) + 1 := by omega
                  gi_wp2_with fail
                  have hs1 := HS0.out
                  refine ⟨KeptR.of_fr HFr.out hsz' (fun b hb h => by have := hb.1; rcases h with h | h <;> omega), by simp [World.setCell], rfl, ?_, ?_⟩
                  · have e : (((pre ++ [(xk, xv)]).length : Nat) : Int) = (pre.length : Int) + 1 := by simp
                    rw [e, ← Int.add_assoc]
                    exact HT.out
                  · rcases Nat.eq_zero_or_pos pre.length with e | e
                    · simp [e]; omega
                    · have := hwant e; simp; omega
              case done =>
                rintro W hsz ⟨hI, _⟩ hK
                obtain ⟨AX, cX, hbx, hsx, hFX, hAX⟩ := hI.sf.bx
                have HSh : Hid (SH w.heap.size w.heap.size (w.heap.size + 1) (w.heap.size + 1 + 1) (w.heap.size + 1 + 1 + 1 + 1) (w.heap.size + 1 + 1 + 1) wo.heap.size wr.heap.size (wr.heap.size + 1) (wr.heap.size + 1 + 1) want false L F FX _ _ AX cX w W) := ⟨hI, hbx, by rw [hFX]; simp⟩
                have HI := Lib.hid hI; have HK := Lib.hid hK
                have ha0 : w.heap.size + 1 < W0.heap.size := hlow [w.heap.size + 1] (by simp) _ (by simp)
                clear hI hK hSG hcc hcf hlow hbx hsx hFX hAX
                have hge : (a : Int) + (geL key L).length = (L.length : Int) := by rw [HGe.out, List.length_drop]; omega
                go_upto_region 28 with (fail)
                refine f28e (by kernel_rfl) _ _ w.heap.size w.heap.size (w.heap.size + 1) (w.heap.size + 1 + 1) (w.heap.size + 1 + 1 + 1 + 1) (w.heap.size + 1 + 1 + 1) wo.heap.size wr.heap.size (wr.heap.size + 1) (wr.heap.size + 1 + 1) cX W0.heap.size AX want _ _ L F FX _ w W HSh.out HK.out (by omega) hge rfl rfl rfl rfl ?_
                intro x w' hc hb hd
                simp only [Eng.setAll, Act.put, List.setIfInBounds_toArray, List.set_cons_succ, List.set_cons_zero]
                have HC := Lib.hid hc; have HB := Lib.hid hb; have HDd := Lib.hid hd
                clear hc hb hd
                go_wp2_with fail
                refine ⟨by simp, .inl ⟨_, _, rfl, run_takeDeferred HDd.out, ?_⟩⟩
                have hne : w.heap.size + 1 ≠ W0.heap.size := by omega
                have hc : (w'.putObj W0.heap.size (.deferred none)).cell? ⟨w.heap.size + 1, 0, none⟩ = some (.bool true) := (World.cell?_of_block (w := w') (a := ⟨w.heap.size + 1, 0, none⟩) (World.putObj_heap_other hne)).trans HC.out
                refine ⟨.bool true, by simp [results, Try.results7, go_sem, hc], rfl, ?_⟩
                exact HB.out.trans ((Fr.putObj w' W0.heap.size (.deferred none) (S := (· = W0.heap.size)) rfl).below HB.out.size (fun k hk e => by omega))
              case stop =>
                rintro k pre W hsz hpre ⟨rfl, hI, hmax⟩ hK
                obtain ⟨AX, cX, hbx, hsx, hFX, hAX⟩ := hI.sf.bx
                have HSh : Hid (SH w.heap.size w.heap.size (w.heap.size + 1) (w.heap.size + 1 + 1) (w.heap.size + 1 + 1 + 1 + 1) (w.heap.size + 1 + 1 + 1) wo.heap.size wr.heap.size (wr.heap.size + 1) (wr.heap.size + 1 + 1) want false L F FX _ _ AX cX w W) := ⟨hI, hbx, by rw [hFX]; simp⟩
                have HI := Lib.hid hI; have HK := Lib.hid hK
                have ha0 : w.heap.size + 1 < W0.heap.size := hlow [w.heap.size + 1] (by simp) _ (by simp)
                clear hI hK hSG hcc hcf hlow hbx hsx hFX hAX
                refine (wpIn_wide (n := 3)).2 ?_
                by_cases hend : (a : Int) + pre.length = (L.length : Int)
                · go_upto_region 28 with (fail)
                  refine f28e (by kernel_rfl) _ _ w.heap.size w.heap.size (w.heap.size + 1) (w.heap.size + 1 + 1) (w.heap.size + 1 + 1 + 1 + 1) (w.heap.size + 1 + 1 + 1) wo.heap.size wr.heap.size (wr.heap.size + 1) (wr.heap.size + 1 + 1) cX W0.heap.size AX want _ _ L F FX _ w W HSh.out HK.out (by omega) hend rfl rfl rfl rfl ?_
                  intro x w' hc hb hd
                  simp only [Eng.setAll, Act.put, List.setIfInBounds_toArray, List.set_cons_succ, List.set_cons_zero]
                  have HC := Lib.hid hc; have HB := Lib.hid hb; have HDd := Lib.hid hd
                  clear hc hb hd
                  go_wp2_with fail
                  refine ⟨by simp, .inl ⟨_, _, rfl, run_takeDeferred HDd.out, ?_⟩⟩
                  have hne : w.heap.size + 1 ≠ W0.heap.size := by omega
                  have hc : (w'.putObj W0.heap.size (.deferred none)).cell? ⟨w.heap.size + 1, 0, none⟩ = some (.bool true) := (World.cell?_of_block (w := w') (a := ⟨w.heap.size + 1, 0, none⟩) (World.putObj_heap_other hne)).trans HC.out
                  refine ⟨.bool true, by simp [results, Try.results7, go_sem, hc], rfl, ?_⟩
                  exact HB.out.trans ((Fr.putObj w' W0.heap.size (.deferred none) (S := (· = W0.heap.size)) rfl).below HB.out.size (fun k hk e => by omega))
                · go_upto_region 28 with (fail)
                  refine f28n (by kernel_rfl) _ _ w.heap.size w.heap.size (w.heap.size + 1) (w.heap.size + 1 + 1) (w.heap.size + 1 + 1 + 1 + 1) (w.heap.size + 1 + 1 + 1) wo.heap.size wr.heap.size (wr.heap.size + 1) (wr.heap.size + 1 + 1) cX W0.heap.size AX want _ _ L F FX _ w W HSh.out HK.out (by omega) hend hmax hw0 hw1 rfl rfl rfl rfl rfl rfl ?_
                  intro x w' hc hb hd
                  simp only [Eng.setAll, Act.put, List.setIfInBounds_toArray, List.set_cons_succ, List.set_cons_zero]
                  have HC := Lib.hid hc; have HB := Lib.hid hb; have HDd := Lib.hid hd
                  clear hc hb hd
                  go_wp2_with fail
                  refine ⟨by simp, .inl ⟨_, _, rfl, run_takeDeferred HDd.out, ?_⟩⟩
                  have hne : w.heap.size + 1 ≠ W0.heap.size := by omega
                  have hc : (w'.putObj W0.heap.size (.deferred none)).cell? ⟨w.heap.size + 1, 0, none⟩ = some (.bool true) := (World.cell?_of_block (w := w') (a := ⟨w.heap.size + 1, 0, none⟩) (World.putObj_heap_other hne)).trans HC.out
                  refine ⟨.bool true, by simp [results, Try.results7, go_sem, hc], rfl, ?_⟩
                  exact HB.out.trans ((Fr.putObj w' W0.heap.size (.deferred none) (S := (· = W0.heap.size)) rfl).below HB.out.size (fun k hk e => by omega))
          · have HGe := Lib.hid (geL_drop HSrt.out ha HLow.out (fun h => absurd h hlt2))
            have q1 : ¬ (a : Int) < (L.length : Int) := by omega
            clear hsx
            go_upto_region 14 with (fail)
            go_quiet (fail)
            go_wp2_with fail
            refine (AvlII.From _ _ _).mono ?_
            rintro e w1 ⟨rfl, rfl⟩
            go_wp2_with fail
            have hd := HS1.out.fr (Fr.drewN (fun _ => False) wr nq)
            have hbd : Bk (wr.drewN nq) wo.heap.size #[.int .i64 (a : Int)] 3 := HBa.out
            have es : (wr.drewN nq).heap.size = wr.heap.size := rfl
            have fa := fun (w : World) (o : Obj) => Fr.alloc (fun _ => False) w o
            have nn : ∀ G : List Nat, ∀ b ∈ G, ¬ False := fun _ _ _ h => h
            have hSG : SG w.heap.size w.heap.size (w.heap.size + 1) (w.heap.size + 1 + 1) (w.heap.size + 1 + 1 + 1 + 1) (w.heap.size + 1 + 1 + 1) wo.heap.size wr.heap.size (wr.heap.size + 1) (wr.heap.size + 1 + 1) want false L F FX (a : Int) 0 w ((((wr.drewN nq).alloc (.cells #[.pointer (some ⟨w.heap.size + 1 + 1, 0, none⟩)] 52)).alloc (.cells #[.int .i64 key] 3)).alloc (.cells #[.int .i64 0] 3)) := by
              have h3 := ((hd.alloc (.cells #[.pointer (some ⟨w.heap.size + 1 + 1, 0, none⟩)] 52)).alloc (.cells #[.int .i64 key] 3)).alloc (.cells #[.int .i64 0] 3)
              have b3 := Bk.new (((wr.drewN nq).alloc (.cells #[.pointer (some ⟨w.heap.size + 1 + 1, 0, none⟩)] 52)).alloc (.cells #[.int .i64 key] 3)) #[.int .i64 0] 3
              simp only [World.size_alloc, es, List.nil_append, List.cons_append] at h3 b3
              exact ⟨h3, ((hbd.fr (fa _ _) (nn _)).fr (fa _ _) (nn _)).fr (fa _ _) (nn _), b3⟩
            have hcc : ((((wr.drewN nq).alloc (.cells #[.pointer (some ⟨w.heap.size + 1 + 1, 0, none⟩)] 52)).alloc (.cells #[.int .i64 key] 3)).alloc (.cells #[.int .i64 0] 3)).cell? ⟨wr.heap.size, 0, none⟩ = some (.pointer (some ⟨w.heap.size + 1 + 1, 0, none⟩)) := (((Bk.new (wr.drewN nq) _ _).fr (fa _ _) (nn _)).fr (fa _ _) (nn _)).cell 0
            have hcf : ((((wr.drewN nq).alloc (.cells #[.pointer (some ⟨w.heap.size + 1 + 1, 0, none⟩)] 52)).alloc (.cells #[.int .i64 key] 3)).alloc (.cells #[.int .i64 0] 3)).cell? ⟨wr.heap.size + 1, 0, none⟩ = some (.int .i64 key) := by
              have := ((Bk.new ((wr.drewN nq).alloc (.cells #[.pointer (some ⟨w.heap.size + 1 + 1, 0, none⟩)] 52)) #[.int .i64 key] 3).fr (fa _ (.cells #[.int .i64 0] 3)) (nn _)).cell 0
              rwa [World.size_alloc, es] at this
            have hs0 : ((((wr.drewN nq).alloc (.cells #[.pointer (some ⟨w.heap.size + 1 + 1, 0, none⟩)] 52)).alloc (.cells #[.int .i64 key] 3)).alloc (.cells #[.int .i64 0] 3)).heap.size = wr.heap.size + 3 := by simp
            generalize ((((wr.drewN nq).alloc (.cells #[.pointer (some ⟨w.heap.size + 1 + 1, 0, none⟩)] 52)).alloc (.cells #[.int .i64 key] 3)).alloc (.cells #[.int .i64 0] 3)) = W0 at *
            have hlow : ∀ G ∈ [[w.heap.size], [w.heap.size + 1], (w.heap.size + 1 + 1) :: F, [w.heap.size + 1 + 1 + 1 + 1], FX, [wo.heap.size], [wr.heap.size + 1 + 1]], ∀ b ∈ G, b < W0.heap.size := fun G hG b hb => (hSG.sf.zs.rng G (by simp at hG ⊢; rcases hG with h | h | h | h | h | h | h <;> simp [h]) b hb).2
            have hn0 := hSG.sf.zs.n0le
            have HS0 := Lib.hid hs0
            clear hs0 hd hbd es cA fA cP cX kn
            refine (wpIn_wide (n := 3)).1 ?_
            refine range_P' (n := 3) (a₁ := ?fr2) (gf := 94) (lb := #[.pointer (some ⟨wr.heap.size, 0, none⟩), .pointer (some ⟨wr.heap.size + 1, 0, none⟩)]) rfl (enters_of Try.func94 (by kernel_rfl) rfl)
              (AvlII.From_seq ((wr.heap.size + 1) :: F) wr.heap.size (wr.heap.size + 1) key (some ⟨w.heap.size + 1 + 1, 0, none⟩) L F W0 hcc (by have := HS0.out; omega) hcf (by have := HS0.out; omega) (by simp) hSG.sf.bm.mapP (fun b hb => by simp [hb]))
              (fun b hb => by
                rcases List.mem_cons.1 hb with rfl | hb
                · have := HS0.out; omega
                · exact hlow ((w.heap.size + 1 + 1) :: F) (by simp) b (by simp [hb])) (fun _ => rfl)
              (fun (pre : List (Int × Int)) (W : World) => SG w.heap.size w.heap.size (w.heap.size + 1) (w.heap.size + 1 + 1) (w.heap.size + 1 + 1 + 1 + 1) (w.heap.size + 1 + 1 + 1) wo.heap.size wr.heap.size (wr.heap.size + 1) (wr.heap.size + 1 + 1) want false L F FX ((a : Int) + pre.length) pre.length w W ∧ (0 < pre.length → (pre.length : Int) < want))
              (fun k (pre : List (Int × Int)) (W : World) => k = .exit 4 ∧ SG w.heap.size w.heap.size (w.heap.size + 1) (w.heap.size + 1 + 1) (w.heap.size + 1 + 1 + 1 + 1) (w.heap.size + 1 + 1 + 1) wo.heap.size wr.heap.size (wr.heap.size + 1) (wr.heap.size + 1 + 1) want false L F FX ((a : Int) + pre.length) pre.length w W ∧ (pre.length : Int) = max 1 want)
              (fun pre A B h hf => ⟨h.1.frS hf (fun k hk h => by have := h.1; omega) (fun G hG b hb h => by have := hlow G hG b hb; have := h.1; omega), h.2⟩)
              (fun k pre A B h hf => ⟨h.1, h.2.1.frS hf (fun k hk h => by have := h.1; omega) (fun G hG b hb h => by have := hlow G hG b hb; have := h.1; omega), h.2.2⟩)
              ⟨by simpa using hSG, by simp⟩ ?assign2 ?body2 ?done2 ?stop2
            case assign2 =>
              intro l m x W K hK
              gi_wp2
              exact hK
            case body2 =>
              rintro l m pre x W ⟨hI, hwant⟩ hsz hpre _ _ _
              (try dsimp only)
              rw [HGe.out] at hpre
              obtain ⟨hat, hx⟩ : ∃ h : a + pre.length < L.length, x = L[a + pre.length] := by
                have h1 := hpre.length_le
                rw [List.length_append, List.length_singleton, List.length_drop] at h1
                refine ⟨by omega, ?_⟩
                have h2 := hpre.getElem (i := pre.length) (by simp)
                rw [List.getElem_append_right (Nat.le_refl _), List.getElem_drop] at h2
                simpa using h2
              exact absurd hat (by omega)
            case done2 =>
              rintro W hsz ⟨hI, _⟩ hK
              obtain ⟨AX, cX, hbx, hsx, hFX, hAX⟩ := hI.sf.bx
              have HSh : Hid (SH w.heap.size w.heap.size (w.heap.size + 1) (w.heap.size + 1 + 1) (w.heap.size + 1 + 1 + 1 + 1) (w.heap.size + 1 + 1 + 1) wo.heap.size wr.heap.size (wr.heap.size + 1) (wr.heap.size + 1 + 1) want false L F FX _ _ AX cX w W) := ⟨hI, hbx, by rw [hFX]; simp⟩
              have HI := Lib.hid hI; have HK := Lib.hid hK
              have ha0 : w.heap.size + 1 < W0.heap.size := hlow [w.heap.size + 1] (by simp) _ (by simp)
              clear hI hK hSG hcc hcf hlow hbx hsx hFX hAX
              have hge : (a : Int) + (geL key L).length = (L.length : Int) := by rw [HGe.out, List.length_drop]; omega
              go_upto_region 28 with (fail)
              refine f28e (by kernel_rfl) _ _ w.heap.size w.heap.size (w.heap.size + 1) (w.heap.size + 1 + 1) (w.heap.size + 1 + 1 + 1 + 1) (w.heap.size + 1 + 1 + 1) wo.heap.size wr.heap.size (wr.heap.size + 1) (wr.heap.size + 1 + 1) cX W0.heap.size AX want _ _ L F FX _ w W HSh.out HK.out (by omega) hge rfl rfl rfl rfl ?_
              intro x w' hc hb hd
              simp only [Eng.setAll, Act.put, List.setIfInBounds_toArray, List.set_cons_succ, List.set_cons_zero]
              have HC := Lib.hid hc; have HB := Lib.hid hb; have HDd := Lib.hid hd
              clear hc hb hd
              go_wp2_with fail
              refine ⟨by simp, .inl ⟨_, _, rfl, run_takeDeferred HDd.out, ?_⟩⟩
              have hne : w.heap.size + 1 ≠ W0.heap.size := by omega
              have hc : (w'.putObj W0.heap.size (.deferred none)).cell? ⟨w.heap.size + 1, 0, none⟩ = some (.bool true) := (World.cell?_of_block (w := w') (a := ⟨w.heap.size + 1, 0, none⟩) (World.putObj_heap_other hne)).trans HC.out
              refine ⟨.bool true, by simp [results, Try.results7, go_sem, hc], rfl, ?_⟩
              exact HB.out.trans ((Fr.putObj w' W0.heap.size (.deferred none) (S := (· = W0.heap.size)) rfl).below HB.out.size (fun k hk e => by omega))
            case stop2 =>
              rintro k pre W hsz hpre ⟨rfl, hI, hmax⟩ hK
              obtain ⟨AX, cX, hbx, hsx, hFX, hAX⟩ := hI.sf.bx
              have HSh : Hid (SH w.heap.size w.heap.size (w.heap.size + 1) (w.heap.size + 1 + 1) (w.heap.size + 1 + 1 + 1 + 1) (w.heap.size + 1 + 1 + 1) wo.heap.size wr.heap.size (wr.heap.size + 1) (wr.heap.size + 1 + 1) want false L F FX _ _ AX cX w W) := ⟨hI, hbx, by rw [hFX]; simp⟩
              have HI := Lib.hid hI; have HK := Lib.hid hK
              have ha0 : w.heap.size + 1 < W0.heap.size := hlow [w.heap.size + 1] (by simp) _ (by simp)
              clear hI hK hSG hcc hcf hlow hbx hsx hFX hAX
              refine (wpIn_wide (n := 3)).2 ?_
              by_cases hend : (a : Int) + pre.length = (L.length : Int)
              · go_upto_region 28 with (fail)
                refine f28e (by kernel_rfl) _ _ w.heap.size w.heap.size (w.heap.size + 1) (w.heap.size + 1 + 1) (w.heap.size + 1 + 1 + 1 + 1) (w.heap.size + 1 + 1 + 1) wo.heap.size wr.heap.size (wr.heap.size + 1) (wr.heap.size + 1 + 1) cX W0.heap.size AX want _ _ L F FX _ w W HSh.out HK.out (by omega) hend rfl rfl rfl rfl ?_
                intro x w' hc hb hd
                simp only [Eng.setAll, Act.put, List.setIfInBounds_toArray, List.set_cons_succ, List.set_cons_zero]
                have HC := Lib.hid hc; have HB := Lib.hid hb; have HDd := Lib.hid hd
                clear hc hb hd
                go_wp2_with fail
                refine ⟨by simp, .inl ⟨_, _, rfl, run_takeDeferred HDd.out, ?_⟩⟩
                have hne : w.heap.size + 1 ≠ W0.heap.size := by omega
                have hc : (w'.putObj W0.heap.size (.deferred none)).cell? ⟨w.heap.size + 1, 0, none⟩ = some (.bool true) := (World.cell?_of_block (w := w') (a := ⟨w.heap.size + 1, 0, none⟩) (World.putObj_heap_other hne)).trans HC.out
                refine ⟨.bool true, by simp [results, Try.results7, go_sem, hc], rfl, ?_⟩
                exact HB.out.trans ((Fr.putObj w' W0.heap.size (.deferred none) (S := (· = W0.heap.size)) rfl).below HB.out.size (fun k hk e => by omega))
              · go_upto_region 28 with (fail)
                refine f28n (by kernel_rfl) _ _ w.heap.size w.heap.size (w.heap.size + 1) (w.heap.size + 1 + 1) (w.heap.size + 1 + 1 + 1 + 1) (w.heap.size + 1 + 1 + 1) wo.heap.size wr.heap.size (wr.heap.size + 1) (wr.heap.size + 1 + 1) cX W0.heap.size AX want _ _ L F FX _ w W HSh.out HK.out (by omega) hend hmax hw0 hw1 rfl rfl rfl rfl rfl rfl ?_
                intro x w' hc hb hd
                simp only [Eng.setAll, Act.put, List.setIfInBounds_toArray, List.set_cons_succ, List.set_cons_zero]
                have HC := Lib.hid hc; have HB := Lib.hid hb; have HDd := Lib.hid hd
                clear hc hb hd
                go_wp2_with fail
                refine ⟨by simp, .inl ⟨_, _, rfl, run_takeDeferred HDd.out, ?_⟩⟩
                have hne : w.heap.size + 1 ≠ W0.heap.size := by omega
                have hc : (w'.putObj W0.heap.size (.deferred none)).cell? ⟨w.heap.size + 1, 0, none⟩ = some (.bool true) := (World.cell?_of_block (w := w') (a := ⟨w.heap.size + 1, 0, none⟩) (World.putObj_heap_other hne)).trans HC.out
                refine ⟨.bool true, by simp [results, Try.results7, go_sem, hc], rfl, ?_⟩
                exact HB.out.trans ((Fr.putObj w' W0.heap.size (.deferred none) (S := (· = W0.heap.size)) rfl).below HB.out.size (fun k hk e => by omega))
end Law12
end Go.Proofs.Ytolpdgaomlhgdaa
