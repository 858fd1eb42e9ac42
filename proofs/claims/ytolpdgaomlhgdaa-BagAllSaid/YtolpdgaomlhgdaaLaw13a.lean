/- Layer 13's statements: BagAll: for every input the answer is true. -/
import Derived.Test.YtolpdgaomlhgdaaLaw13sr
import Derived.RangeFuncLeaves
import Derived.OwnWalkIn
namespace Go.Proofs.Ytolpdgaomlhgdaa
open Go.RowKit Go.Shelf
namespace Law13
open BagP Bag
attribute [local go_sem] Oper.semAt_some
/-- How many are wanted in Bw, the answer in Br, all counts in Bl, how many there were in Bn. -/
structure SX (n0 Bb Bw Br Bl B0 Bn : Nat) (want : Int) (q : Bool) (L : List (Int × Int)) (FB : List Nat) (A : Option Addr) (c : Nat) (n : Int) (w0 w : World) : Prop where
  zs : Zs n0 w0 w [FB, [Bw], [Br], ablk A, [Bl], [B0], [Bn]]
  bb : BagZ w Bb L FB
  bw : Bk w Bw #[.int .u8 want] 5
  br : Bk w Br #[.bool q] 4
  row : Sl w 2 A L.length c (L.flatMap pc)
  bl : Bk w Bl #[.slice A L.length c] TCs
  bn : Bk w Bn #[.int .i64 n] 3
section
variable {n0 Bb Bw Br Bl B0 Bn : Nat} {want : Int} {q : Bool} {L : List (Int × Int)} {FB : List Nat} {A : Option Addr} {c : Nat} {n : Int} {w0 w w' : World}
theorem SX.frS {S : Nat → Prop} (h : SX n0 Bb Bw Br Bl B0 Bn want q L FB A c n w0 w) (hf : Fr S w w') (hn : ∀ k, k < n0 → ¬ S k) (hs : ∀ G ∈ [FB, [Bw], [Br], ablk A, [Bl], [Bn]], ∀ b ∈ G, ¬ S b) : SX n0 Bb Bw Br Bl B0 Bn want q L FB A c n w0 w' :=
  ⟨h.zs.frS hf hn, h.bb.fr hf (hs _ (by simp)), h.bw.fr hf (hs _ (by simp)), h.br.fr hf (hs _ (by simp)), h.row.fr hf (fun a ha => hs (ablk A) (by simp) _ (mem_ablk.2 ⟨a, ha, rfl⟩)), h.bl.fr hf (hs _ (by simp)), h.bn.fr hf (hs _ (by simp))⟩
theorem SX.setN (h : SX n0 Bb Bw Br Bl B0 Bn want q L FB A c n w0 w) (n' : Int) : SX n0 Bb Bw Br Bl B0 Bn want q L FB A c n' w0 (w.setCell ⟨Bn, 0, none⟩ (.int .i64 n')) := by
  have t := h.bn.tn 0 (.int .i64 n')
  exact ⟨h.zs.turn [FB, [Bw], [Br], ablk A, [Bl], [B0]] [] t, h.bb.fr t.fr (h.zs.ap 6 0 rfl rfl (by decide)), h.bw.fr t.fr (h.zs.ap 6 1 rfl rfl (by decide)), h.br.fr t.fr (h.zs.ap 6 2 rfl rfl (by decide)),
    h.row.fr t.fr (fun a ha => h.zs.ap 6 3 rfl rfl (by decide) _ (mem_ablk.2 ⟨a, ha, rfl⟩)), h.bl.fr t.fr (h.zs.ap 6 4 rfl rfl (by decide)), h.bn.set 0 _⟩
theorem SX.bel_setR (h : SX n0 Bb Bw Br Bl B0 Bn want q L FB A c n w0 w) (v : Value) : Below n0 w0 (w.setCell ⟨Br, 0, none⟩ v) :=
  (h.zs.turn [FB, [Bw]] [ablk A, [Bl], [B0], [Bn]] (h.br.tn 0 v)).bel
end

set_option maxRecDepth 100000 in
set_option maxHeartbeats 2000000 in
theorem all (A0 : Option Addr) (c0 : Nat) (acts : List (Int × Int × Int)) (want : Int) (w : World) (hS0 : Sl w 3 A0 acts.length c0 (acts.flatMap ac)) (wf2 : (Lit.int .u8 want).wf = true) :
    Calls Try.prog 10 #[.slice A0 acts.length c0, .int .u8 want] w fun e w' => e = .returned (.bool true) ∧ Below w.heap.size w w' := by
  obtain ⟨hw0, hw1⟩ : 0 ≤ want ∧ want ≤ 255 := by
    simp only [Lit.wf, Bool.and_eq_true, decide_eq_true_eq] at wf2
    exact wf2
  clear wf2
  by_cases hlen : 60 < acts.length
  · have HA := fun w => Lib.hid (awake w)
    have t0 : decide ((60 : Int) < (acts.length : Int)) = true := by simp; omega
    clear hS0 hlen
    go_enter Try.func10, Try.ntmps10
    go_wp2_with fail
    refine (HA _).out.mono ?_
    rintro e w1 ⟨rfl, hb⟩
    have HB := Lib.hid hb
    have cb : w1.cell? ⟨w.heap.size + 1, 0, none⟩ = some (.bool false) := (hb.cell (p := ⟨w.heap.size + 1, 0, none⟩) (by simp)).trans (by go_simp)
    have cf : w1.frozen? ⟨w.heap.size + 1, 0, none⟩ = false := (hb.frozen (p := ⟨w.heap.size + 1, 0, none⟩) (by simp)).trans (by go_simp)
    clear hb
    go_wp2_with fail
    refine bodyPost_ret (v := .bool true) (by simp [results, Try.results10, go_sem, cb]) rfl ⟨rfl, ?_⟩
    have h0 : Below w.heap.size w ((w.alloc (.cells #[.int .u8 want] 5)).alloc (.cells #[.bool false] 4)) := ((Below.refl _ _).alloc (Nat.le_refl _) _).alloc (by simp) _
    exact (h0.trans (HB.out.mono (by simp; omega))).setCell (p := ⟨w.heap.size + 1, 0, none⟩) (by simp) _
  · have hl : acts.length ≤ 60 := by omega
    have HL0 := Lib.hid hS0
    have t0 : decide ((60 : Int) < (acts.length : Int)) = false := by simp; omega
    clear hS0 hlen
    refine (callsIn_wide (n := 3)).1 ?_
    refine callsIn_of_wp_marks Try.func10 rfl trivial ?_ rfl
    simp only [Try.ntmps10, List.size_toArray, List.length_cons, List.length_nil, Nat.reduceAdd, Nat.reduceSub, Array.replicate_succ, Array.replicate_zero, List.push_toArray, List.append_toArray, List.nil_append, List.cons_append]
    refine wpIn_wide.2 ?_
    have kn : ∀ (w : World) (f : Fn) (a b : Array Value), (binOp .eql 68 (.func f a b) .nilFunc).run Try.prog w = .ok (.bool false) w := fun w f a b => run_eql_func_nil w f a b Try.underlying68
    have fa := fun (w : World) (o : Obj) => Fr.alloc (fun _ => False) w o
    have nn : ∀ G : List Nat, ∀ b ∈ G, ¬ False := fun _ _ _ h => h
    have HFA := Lib.hid fa
    clear fa
    go_wp2_with fail
    go_loopg [6] acts.length (fun gk i wr => ∃ (j : Nat) (L : List (Int × Int)) (FB : List Nat), i = .int .i64 j ∧ j ≤ acts.length ∧ gk = acts.length - j ∧ L.length ≤ j ∧ S1 w.heap.size (w.heap.size + 1 + 1) L FB [[w.heap.size], [w.heap.size + 1]] w wr ∧ Bk wr w.heap.size #[.int .u8 want] 5 ∧ Bk wr (w.heap.size + 1) #[.bool false] 4)
    case atStart =>
      have z := (((Zs.start w).alloc (.cells #[.int .u8 want] 5)).alloc (.cells #[.bool false] 4)).alloc (.cells #[.pointer none, .int .i64 0, .int .i64 0] TBag)
      have b1 := ((Bk.new w #[.int .u8 want] 5).fr (HFA.out _ (.cells #[.bool false] 4)) (nn _)).fr (HFA.out _ (.cells #[.pointer none, .int .i64 0, .int .i64 0] TBag)) (nn _)
      have b2 := (Bk.new (w.alloc (.cells #[.int .u8 want] 5)) #[.bool false] 4).fr (HFA.out _ (.cells #[.pointer none, .int .i64 0, .int .i64 0] TBag)) (nn _)
      have b3 := BagZ.new ((w.alloc (.cells #[.int .u8 want] 5)).alloc (.cells #[.bool false] 4))
      simp only [World.size_alloc, List.nil_append, List.cons_append] at z b2 b3
      refine ⟨0, [], [w.heap.size + 1 + 1], rfl, Nat.zero_le _, rfl, Nat.le_refl _, ⟨⟨z.bel, z.n0le, ?_, ?_⟩, b3⟩, b1, b2⟩
      · have := z.rng; simp at this ⊢; omega
      · simp; omega
    case round =>
      obtain ⟨j, L, FB, rfl, hj, hg, hLl, hst, hbw, hbr⟩ := hrel
      have HG := Lib.hid hg; have HSt := Lib.hid hst; have HBw := Lib.hid hbw; have HBr := Lib.hid hbr
      clear hg hst hbw hbr
      by_cases hlt : j < acts.length
      · obtain ⟨b1, o1, rfl, hb1, hcs⟩ := HL0.out.at hlt (by omega)
        have HC : Hid (w.cell? ⟨b1, o1 + j * 3 + 1, none⟩ = some (.int .i64 acts[j].2.1) ∧ w.cell? ⟨b1, o1 + j * 3 + 1 + 1, none⟩ = some (.int .i64 acts[j].2.2)) :=
          ⟨hcs (j * 3 + 1) _ (by rw [flat_at ac_len hlt (by omega)]; rfl), hcs (j * 3 + 2) _ (by rw [flat_at ac_len hlt (by omega)]; rfl)⟩
        clear hcs
        generalize acts[j] = y at *
        obtain ⟨kd, yx, ym⟩ := y
        dsimp only at HC
        go_upto_region 7 with (fail)
        refine b7 (by kernel_rfl) _ _ w.heap.size (w.heap.size + 1 + 1) b1 o1 c0 acts.length j yx ym L FB [[w.heap.size], [w.heap.size + 1]] w _ HSt.out hb1 hlt (by omega) HC.out.1 HC.out.2 rfl rfl rfl rfl ?_
        intro x w' F' hst hfr
        simp only [Eng.setAll, Act.put, List.setIfInBounds_toArray, List.set_cons_succ, List.set_cons_zero]
        have HX := Lib.hid hst; have HFr := Lib.hid hfr
        clear hst hfr
        go_wp2_with fail
        go_roundg (acts.length - (j + 1))
        case rel => exact ⟨j + 1, _, F', by go_num, by omega, rfl, Nat.le_trans (addL_len _ _ _) (by omega), HX.out, HBw.out.fr HFr.out (HSt.out.zs.ap 0 1 rfl rfl (by decide)), HBr.out.fr HFr.out (HSt.out.zs.ap 0 2 rfl rfl (by decide))⟩
        case measure => have := HG.out; omega
      · have hLm : L.length ≤ 60 := by omega
        go_wp2_with fail
        refine (CountsZ (w.heap.size + 1 + 1) L FB wr HSt.out.bb (by omega)).mono ?_
        rintro e w1 ⟨v, rfl, hown, hb⟩
        obtain ⟨A, c, rfl, hS, hA⟩ := Sl.of_own hown
        have hS1 : Zs w.heap.size w w1 [FB, [w.heap.size], [w.heap.size + 1], ablk A] :=
          HSt.out.zs.snoc (Fr.of_below' hb _) (fun x hx => by obtain ⟨a, ha, rfl⟩ := mem_ablk.1 hx; exact ⟨(hA a ha).1, (hA a ha).2.2⟩)
        have HZ1 := Lib.hid hS1; have HRow := Lib.hid hS; have HB1 := Lib.hid (HSt.out.bb.fr (Fr.of_below' hb (fun _ => False)) (nn _))
        have HBw1 := Lib.hid (HBw.out.fr (Fr.of_below' hb (fun _ => False)) (nn _)); have HBr1 := Lib.hid (HBr.out.fr (Fr.of_below' hb (fun _ => False)) (nn _))
        clear HSt HBw HBr hown hb hA hS1 hS
        go_wp2_with fail
        refine (All (w.heap.size + 1 + 1) 0 _).mono ?_
        rintro e w2 ⟨rfl, rfl⟩
        go_wp2_with fail
        have hSX : SX w.heap.size (w.heap.size + 1 + 1) w.heap.size (w.heap.size + 1) w1.heap.size (w1.heap.size + 1) (w1.heap.size + 1 + 1) want false L FB A c 0 w (((w1.alloc (.cells #[.slice A L.length c] TCs)).alloc (.cells #[.pointer (some ⟨w.heap.size + 1 + 1, 0, none⟩)] 52)).alloc (.cells #[.int .i64 0] 3)) := by
          have z := ((HZ1.out.alloc (.cells #[.slice A L.length c] TCs)).alloc (.cells #[.pointer (some ⟨w.heap.size + 1 + 1, 0, none⟩)] 52)).alloc (.cells #[.int .i64 0] 3)
          have b1 := ((Bk.new w1 #[.slice A L.length c] TCs).fr (HFA.out _ (.cells #[.pointer (some ⟨w.heap.size + 1 + 1, 0, none⟩)] 52)) (nn _)).fr (HFA.out _ (.cells #[.int .i64 0] 3)) (nn _)
          have b3 := Bk.new ((w1.alloc (.cells #[.slice A L.length c] TCs)).alloc (.cells #[.pointer (some ⟨w.heap.size + 1 + 1, 0, none⟩)] 52)) #[.int .i64 0] 3
          simp only [World.size_alloc, List.nil_append, List.cons_append] at z b3
          have f3 : Fr (fun _ => False) w1 (((w1.alloc (.cells #[.slice A L.length c] TCs)).alloc (.cells #[.pointer (some ⟨w.heap.size + 1 + 1, 0, none⟩)] 52)).alloc (.cells #[.int .i64 0] 3)) := ((HFA.out _ _).trans (HFA.out _ _) (fun _ _ h => h) (fun _ _ h => h)).trans (HFA.out _ _) (fun _ _ h => h) (fun _ _ h => h)
          exact ⟨z, HB1.out.fr f3 (nn _), HBw1.out.fr f3 (nn _), HBr1.out.fr f3 (nn _), HRow.out.fr f3 (fun _ _ h => h), b1, b3⟩
        have hcc : (((w1.alloc (.cells #[.slice A L.length c] TCs)).alloc (.cells #[.pointer (some ⟨w.heap.size + 1 + 1, 0, none⟩)] 52)).alloc (.cells #[.int .i64 0] 3)).cell? ⟨w1.heap.size + 1, 0, none⟩ = some (.pointer (some ⟨w.heap.size + 1 + 1, 0, none⟩)) := by
          have := ((Bk.new (w1.alloc (.cells #[.slice A L.length c] TCs)) #[.pointer (some ⟨w.heap.size + 1 + 1, 0, none⟩)] 52).fr (HFA.out _ (.cells #[.int .i64 0] 3)) (nn _)).cell 0
          rwa [World.size_alloc] at this
        have hs0 : (((w1.alloc (.cells #[.slice A L.length c] TCs)).alloc (.cells #[.pointer (some ⟨w.heap.size + 1 + 1, 0, none⟩)] 52)).alloc (.cells #[.int .i64 0] 3)).heap.size = w1.heap.size + 3 := by simp
        generalize (((w1.alloc (.cells #[.slice A L.length c] TCs)).alloc (.cells #[.pointer (some ⟨w.heap.size + 1 + 1, 0, none⟩)] 52)).alloc (.cells #[.int .i64 0] 3)) = W0 at *
        have hlow : ∀ G ∈ [FB, [w.heap.size], [w.heap.size + 1], ablk A, [w1.heap.size], [w1.heap.size + 1 + 1]], ∀ b ∈ G, b < W0.heap.size := fun G hG b hb => (hSX.zs.rng G (by simp at hG ⊢; rcases hG with h | h | h | h | h | h <;> simp [h]) b hb).2
        have hn0 := hSX.zs.n0le
        have HS0 := Lib.hid hs0
        obtain ⟨F, hMp, hFF⟩ := hSX.bb.mapP
        have ha0 : w.heap.size + 1 < W0.heap.size := hlow [w.heap.size + 1] (by simp) _ (by simp)
        clear hs0 kn HZ1 HRow HB1 HBw1 HBr1
        refine (wpIn_wide (n := 3)).1 ?_
        refine range_P' (n := 3) (a₁ := ?fr) (gf := 92) (lb := #[.pointer (some ⟨w1.heap.size + 1, 0, none⟩)]) rfl (enters_of Try.func92 (by kernel_rfl) rfl)
          (AvlII.All_seq F (w1.heap.size + 1) (some ⟨w.heap.size + 1 + 1, 0, none⟩) L F W0 hcc (by have := HS0.out; omega) hMp (fun _ h => h)) (fun b hb => hlow FB (by simp) b (hFF b hb)) (fun _ => rfl)
          (fun (pre : List (Int × Int)) (W : World) => SX w.heap.size (w.heap.size + 1 + 1) w.heap.size (w.heap.size + 1) w1.heap.size (w1.heap.size + 1) (w1.heap.size + 1 + 1) want false L FB A c pre.length w W ∧ (0 < pre.length → (pre.length : Int) < want))
          (fun k (pre : List (Int × Int)) (W : World) => k = .exit 2 ∧ SX w.heap.size (w.heap.size + 1 + 1) w.heap.size (w.heap.size + 1) w1.heap.size (w1.heap.size + 1) (w1.heap.size + 1 + 1) want false L FB A c pre.length w W ∧ (pre.length : Int) = max 1 want)
          (fun pre A B h hf => ⟨h.1.frS hf (fun k hk h => by have := h.1; omega) (fun G hG b hb h => by have := hlow G hG b hb; have := h.1; omega), h.2⟩)
          (fun k pre A B h hf => ⟨h.1, h.2.1.frS hf (fun k hk h => by have := h.1; omega) (fun G hG b hb h => by have := hlow G hG b hb; have := h.1; omega), h.2.2⟩)
          ⟨by simpa using hSX, by simp⟩ ?assign ?body ?done ?stop
        case assign =>
          intro l m x W K hK
          gi_wp2
          exact hK
        case body =>
          rintro l m pre x W ⟨hI, hwant⟩ hsz hpre _ _ _
          (try dsimp only)
          obtain ⟨hat, hx⟩ : ∃ h : pre.length < L.length, x = L[pre.length] := by
            have h1 := hpre.length_le
            rw [List.length_append, List.length_singleton] at h1
            refine ⟨by omega, ?_⟩
            have h2 := hpre.getElem (i := pre.length) (by simp)
            rw [List.getElem_append_right (Nat.le_refl _)] at h2
            simpa using h2
          have cN : W.cell? ⟨w1.heap.size + 1 + 1, 0, none⟩ = some (.int .i64 (pre.length : Int)) := hI.bn.cell 0
          have fN := hI.bn.free 0
          have cW : W.cell? ⟨w.heap.size, 0, none⟩ = some (.int .u8 want) := hI.bw.cell 0
          have cL : W.cell? ⟨w1.heap.size, 0, none⟩ = some (.slice A L.length c) := hI.bl.cell 0
          obtain ⟨b2, o2, rfl, hb2, hc2⟩ := hI.row.at hat (by omega)
          have cK : W.cell? ⟨b2, o2 + pre.length * 2, none⟩ = some (.int .i64 x.1) := by rw [hx]; exact hc2 (pre.length * 2) _ (by rw [← Nat.add_zero (pre.length * 2), flat_at pc_len hat (by omega)]; rfl)
          have cV : W.cell? ⟨b2, o2 + pre.length * 2 + 1, none⟩ = some (.int .i64 x.2) := by rw [hx]; exact hc2 (pre.length * 2 + 1) _ (by rw [flat_at pc_len hat (by omega)]; rfl)
          have HI := Lib.hid hI
          obtain ⟨xk, xv⟩ := x
          dsimp only at cK cV ⊢
          have q0 : ¬ (L.length : Int) ≤ (pre.length : Int) := by omega
          have q1 : (pre.length : Int) < (L.length : Int) := by omega
          have q2 : (0 : Int) ≤ (pre.length : Int) := by omega
          have q5 : (xk == xk) = true := by simp
          have q6 : (xv == xv) = true := by simp
          have HT := Lib.hid (hI.setN ((pre.length : Int) + 1)); have HFr := Lib.hid (hI.bn.tn 0 (.int .i64 ((pre.length : Int) + 1))).fr
          have hsz' : W0.heap.size + 2 ≤ W.heap.size := by omega
          have q3 : IntKind.i64.wrap want = want := IntWalk.i64_in _ (by omega)
          have n3 : ¬ w1.heap.size + 1 + 1 = w.heap.size := fun e => hI.zs.ap 6 1 rfl rfl (by decide) w.heap.size (by simp) (by simp [e])
          have n3' : ¬ w.heap.size = w1.heap.size + 1 + 1 := fun e => n3 e.symm
          clear hc2 hI hx hpre hSX hcc hlow hMp
          by_cases hmore : (pre.length : Int) + 1 < want
          · have q4 : ¬ want ≤ (pre.length : Int) + 1 := by omega
            gi_wp2_with fail
            have hs1 := HS0.out
            refine ⟨KeptR.of_fr HFr.out hsz' (fun b hb h => by have := hb.1; simp at h; omega), by simp [World.setCell], KeptL.of_fr HFr.out (fun b hb => ⟨(HI.out.zs.mem (i := 0) rfl b (hFF b hb)).2, HI.out.zs.ap 6 0 rfl rfl (by decide) b (hFF b hb)⟩), ?_, fun _ => ?_⟩
            · have e : (((pre ++ [(xk, xv)]).length : Nat) : Int) = (pre.length : Int) + 1 := by simp
              rw [e]
              exact HT.out
            · simpa using hmore
          · have q4 : want ≤ (pre.length : Int) + 1 := by omega
            gi_wp2_with fail
            have hs1 := HS0.out
            refine ⟨KeptR.of_fr HFr.out hsz' (fun b hb h => by have := hb.1; simp at h; omega), by simp [World.setCell], rfl, ?_, ?_⟩
            · have e : (((pre ++ [(xk, xv)]).length : Nat) : Int) = (pre.length : Int) + 1 := by simp
              rw [e]
              exact HT.out
            · rcases Nat.eq_zero_or_pos pre.length with e | e
              · simp [e]; omega
              · have := hwant e; simp; omega
        case done =>
          rintro W hsz ⟨hI, hwant⟩ hK
          have cN : W.cell? ⟨w1.heap.size + 1 + 1, 0, none⟩ = some (.int .i64 (L.length : Int)) := hI.bn.cell 0
          have cW : W.cell? ⟨w.heap.size, 0, none⟩ = some (.int .u8 want) := hI.bw.cell 0
          have cL : W.cell? ⟨w1.heap.size, 0, none⟩ = some (.slice A L.length c) := hI.bl.cell 0
          have HI := Lib.hid hI; have HK := Lib.hid hK
          have q3 : IntKind.i64.wrap want = want := IntWalk.i64_in _ (by omega)
          have q7 : L.length = 0 ∨ (L.length : Int) < want := by
            rcases Nat.eq_zero_or_pos L.length with e | e
            · exact .inl e
            · exact .inr (hwant e)
          clear hI hK hSX hcc hlow hMp hwant
          have q10 : ((L.length : Int) == (L.length : Int)) = true := by simp
          by_cases h1w : 1 < want
          · have q9 : ¬ want < (L.length : Int) := by omega
            clear q7
            go_wp2_with fail
            refine (awake W).mono ?_
            rintro e w5 ⟨rfl, hb5⟩
            have HX5 := Lib.hid (HI.out.frS (Fr.of_below' hb5 (fun _ => False)) (fun _ _ h => h) (fun _ _ _ _ h => h))
            have cR : w5.cell? ⟨w.heap.size + 1, 0, none⟩ = some (.bool false) := HX5.out.br.cell 0
            have fR := HX5.out.br.free 0
            have HD5 := Lib.hid ((hb5.block W0.heap.size (lt_of_heap HK.out)).trans HK.out)
            clear hb5
            go_wp2_with fail
            have hne : w.heap.size + 1 ≠ W0.heap.size := by omega
            have hd6 : (w5.setCell ⟨w.heap.size + 1, 0, none⟩ (.bool true)).heap[W0.heap.size]? = some (.deferred (some [])) := ((HX5.out.br.tn 0 (.bool true)).fr.block W0.heap.size (lt_of_heap HD5.out) (by simpa using hne.symm)).trans HD5.out
            refine ⟨by simp, .inl ⟨_, _, rfl, run_takeDeferred hd6, ?_⟩⟩
            have hc6 : (w5.setCell ⟨w.heap.size + 1, 0, none⟩ (.bool true)).cell? ⟨w.heap.size + 1, 0, none⟩ = some (.bool true) := (HX5.out.br.set 0 (.bool true)).cell 0
            have hc : ((w5.setCell ⟨w.heap.size + 1, 0, none⟩ (.bool true)).putObj W0.heap.size (.deferred none)).cell? ⟨w.heap.size + 1, 0, none⟩ = some (.bool true) := (World.cell?_of_block (w := w5.setCell ⟨w.heap.size + 1, 0, none⟩ (.bool true)) (a := ⟨w.heap.size + 1, 0, none⟩) (World.putObj_heap_other hne)).trans hc6
            have HBb := HX5.out.bel_setR (.bool true)
            refine ⟨.bool true, by simp [results, Try.results10, go_sem, hc], rfl, ?_⟩
            exact HBb.trans ((Fr.putObj _ W0.heap.size (.deferred none) (S := (· = W0.heap.size)) rfl).below HBb.size (fun k hk e => by omega))
          · have q9 : ¬ (1 : Int) < (L.length : Int) := by omega
            clear q7
            go_wp2_with fail
            refine (awake W).mono ?_
            rintro e w5 ⟨rfl, hb5⟩
            have HX5 := Lib.hid (HI.out.frS (Fr.of_below' hb5 (fun _ => False)) (fun _ _ h => h) (fun _ _ _ _ h => h))
            have cR : w5.cell? ⟨w.heap.size + 1, 0, none⟩ = some (.bool false) := HX5.out.br.cell 0
            have fR := HX5.out.br.free 0
            have HD5 := Lib.hid ((hb5.block W0.heap.size (lt_of_heap HK.out)).trans HK.out)
            clear hb5
            go_wp2_with fail
            have hne : w.heap.size + 1 ≠ W0.heap.size := by omega
            have hd6 : (w5.setCell ⟨w.heap.size + 1, 0, none⟩ (.bool true)).heap[W0.heap.size]? = some (.deferred (some [])) := ((HX5.out.br.tn 0 (.bool true)).fr.block W0.heap.size (lt_of_heap HD5.out) (by simpa using hne.symm)).trans HD5.out
            refine ⟨by simp, .inl ⟨_, _, rfl, run_takeDeferred hd6, ?_⟩⟩
            have hc6 : (w5.setCell ⟨w.heap.size + 1, 0, none⟩ (.bool true)).cell? ⟨w.heap.size + 1, 0, none⟩ = some (.bool true) := (HX5.out.br.set 0 (.bool true)).cell 0
            have hc : ((w5.setCell ⟨w.heap.size + 1, 0, none⟩ (.bool true)).putObj W0.heap.size (.deferred none)).cell? ⟨w.heap.size + 1, 0, none⟩ = some (.bool true) := (World.cell?_of_block (w := w5.setCell ⟨w.heap.size + 1, 0, none⟩ (.bool true)) (a := ⟨w.heap.size + 1, 0, none⟩) (World.putObj_heap_other hne)).trans hc6
            have HBb := HX5.out.bel_setR (.bool true)
            refine ⟨.bool true, by simp [results, Try.results10, go_sem, hc], rfl, ?_⟩
            exact HBb.trans ((Fr.putObj _ W0.heap.size (.deferred none) (S := (· = W0.heap.size)) rfl).below HBb.size (fun k hk e => by omega))
        case stop =>
          rintro k pre W hsz hpre ⟨rfl, hI, hmax⟩ hK
          have cN : W.cell? ⟨w1.heap.size + 1 + 1, 0, none⟩ = some (.int .i64 (pre.length : Int)) := hI.bn.cell 0
          have cW : W.cell? ⟨w.heap.size, 0, none⟩ = some (.int .u8 want) := hI.bw.cell 0
          have cL : W.cell? ⟨w1.heap.size, 0, none⟩ = some (.slice A L.length c) := hI.bl.cell 0
          have HI := Lib.hid hI; have HK := Lib.hid hK
          have q3 : IntKind.i64.wrap want = want := IntWalk.i64_in _ (by omega)
          have hple : pre.length ≤ L.length := hpre.length_le
          have HM := Lib.hid hmax
          clear hI hK hSX hcc hlow hMp hpre hmax
          refine (wpIn_wide (n := 3)).2 ?_
          by_cases h1w : 1 < want
          · by_cases h2w : want < (L.length : Int)
            · have q10 : ((pre.length : Int) == want) = true := by have := HM.out; rw [beq_iff_eq]; omega
              go_wp2_with fail
              refine (awake W).mono ?_
              rintro e w5 ⟨rfl, hb5⟩
              have HX5 := Lib.hid (HI.out.frS (Fr.of_below' hb5 (fun _ => False)) (fun _ _ h => h) (fun _ _ _ _ h => h))
              have cR : w5.cell? ⟨w.heap.size + 1, 0, none⟩ = some (.bool false) := HX5.out.br.cell 0
              have fR := HX5.out.br.free 0
              have HD5 := Lib.hid ((hb5.block W0.heap.size (lt_of_heap HK.out)).trans HK.out)
              clear hb5
              go_wp2_with fail
              have hne : w.heap.size + 1 ≠ W0.heap.size := by omega
              have hd6 : (w5.setCell ⟨w.heap.size + 1, 0, none⟩ (.bool true)).heap[W0.heap.size]? = some (.deferred (some [])) := ((HX5.out.br.tn 0 (.bool true)).fr.block W0.heap.size (lt_of_heap HD5.out) (by simpa using hne.symm)).trans HD5.out
              refine ⟨by simp, .inl ⟨_, _, rfl, run_takeDeferred hd6, ?_⟩⟩
              have hc6 : (w5.setCell ⟨w.heap.size + 1, 0, none⟩ (.bool true)).cell? ⟨w.heap.size + 1, 0, none⟩ = some (.bool true) := (HX5.out.br.set 0 (.bool true)).cell 0
              have hc : ((w5.setCell ⟨w.heap.size + 1, 0, none⟩ (.bool true)).putObj W0.heap.size (.deferred none)).cell? ⟨w.heap.size + 1, 0, none⟩ = some (.bool true) := (World.cell?_of_block (w := w5.setCell ⟨w.heap.size + 1, 0, none⟩ (.bool true)) (a := ⟨w.heap.size + 1, 0, none⟩) (World.putObj_heap_other hne)).trans hc6
              have HBb := HX5.out.bel_setR (.bool true)
              refine ⟨.bool true, by simp [results, Try.results10, go_sem, hc], rfl, ?_⟩
              exact HBb.trans ((Fr.putObj _ W0.heap.size (.deferred none) (S := (· = W0.heap.size)) rfl).below HBb.size (fun k hk e => by omega))
            · have q10 : ((pre.length : Int) == (L.length : Int)) = true := by have := HM.out; rw [beq_iff_eq]; omega
              go_wp2_with fail
              refine (awake W).mono ?_
              rintro e w5 ⟨rfl, hb5⟩
              have HX5 := Lib.hid (HI.out.frS (Fr.of_below' hb5 (fun _ => False)) (fun _ _ h => h) (fun _ _ _ _ h => h))
              have cR : w5.cell? ⟨w.heap.size + 1, 0, none⟩ = some (.bool false) := HX5.out.br.cell 0
              have fR := HX5.out.br.free 0
              have HD5 := Lib.hid ((hb5.block W0.heap.size (lt_of_heap HK.out)).trans HK.out)
              clear hb5
              go_wp2_with fail
              have hne : w.heap.size + 1 ≠ W0.heap.size := by omega
              have hd6 : (w5.setCell ⟨w.heap.size + 1, 0, none⟩ (.bool true)).heap[W0.heap.size]? = some (.deferred (some [])) := ((HX5.out.br.tn 0 (.bool true)).fr.block W0.heap.size (lt_of_heap HD5.out) (by simpa using hne.symm)).trans HD5.out
              refine ⟨by simp, .inl ⟨_, _, rfl, run_takeDeferred hd6, ?_⟩⟩
              have hc6 : (w5.setCell ⟨w.heap.size + 1, 0, none⟩ (.bool true)).cell? ⟨w.heap.size + 1, 0, none⟩ = some (.bool true) := (HX5.out.br.set 0 (.bool true)).cell 0
              have hc : ((w5.setCell ⟨w.heap.size + 1, 0, none⟩ (.bool true)).putObj W0.heap.size (.deferred none)).cell? ⟨w.heap.size + 1, 0, none⟩ = some (.bool true) := (World.cell?_of_block (w := w5.setCell ⟨w.heap.size + 1, 0, none⟩ (.bool true)) (a := ⟨w.heap.size + 1, 0, none⟩) (World.putObj_heap_other hne)).trans hc6
              have HBb := HX5.out.bel_setR (.bool true)
              refine ⟨.bool true, by simp [results, Try.results10, go_sem, hc], rfl, ?_⟩
              exact HBb.trans ((Fr.putObj _ W0.heap.size (.deferred none) (S := (· = W0.heap.size)) rfl).below HBb.size (fun k hk e => by omega))
          · by_cases h2w : (1 : Int) < (L.length : Int)
            · have q10 : ((pre.length : Int) == 1) = true := by have := HM.out; rw [beq_iff_eq]; omega
              go_wp2_with fail
              refine (awake W).mono ?_
              rintro e w5 ⟨rfl, hb5⟩
              have HX5 := Lib.hid (HI.out.frS (Fr.of_below' hb5 (fun _ => False)) (fun _ _ h => h) (fun _ _ _ _ h => h))
              have cR : w5.cell? ⟨w.heap.size + 1, 0, none⟩ = some (.bool false) := HX5.out.br.cell 0
              have fR := HX5.out.br.free 0
              have HD5 := Lib.hid ((hb5.block W0.heap.size (lt_of_heap HK.out)).trans HK.out)
              clear hb5
              go_wp2_with fail
              have hne : w.heap.size + 1 ≠ W0.heap.size := by omega
              have hd6 : (w5.setCell ⟨w.heap.size + 1, 0, none⟩ (.bool true)).heap[W0.heap.size]? = some (.deferred (some [])) := ((HX5.out.br.tn 0 (.bool true)).fr.block W0.heap.size (lt_of_heap HD5.out) (by simpa using hne.symm)).trans HD5.out
              refine ⟨by simp, .inl ⟨_, _, rfl, run_takeDeferred hd6, ?_⟩⟩
              have hc6 : (w5.setCell ⟨w.heap.size + 1, 0, none⟩ (.bool true)).cell? ⟨w.heap.size + 1, 0, none⟩ = some (.bool true) := (HX5.out.br.set 0 (.bool true)).cell 0
              have hc : ((w5.setCell ⟨w.heap.size + 1, 0, none⟩ (.bool true)).putObj W0.heap.size (.deferred none)).cell? ⟨w.heap.size + 1, 0, none⟩ = some (.bool true) := (World.cell?_of_block (w := w5.setCell ⟨w.heap.size + 1, 0, none⟩ (.bool true)) (a := ⟨w.heap.size + 1, 0, none⟩) (World.putObj_heap_other hne)).trans hc6
              have HBb := HX5.out.bel_setR (.bool true)
              refine ⟨.bool true, by simp [results, Try.results10, go_sem, hc], rfl, ?_⟩
              exact HBb.trans ((Fr.putObj _ W0.heap.size (.deferred none) (S := (· = W0.heap.size)) rfl).below HBb.size (fun k hk e => by omega))
            · have q10 : ((pre.length : Int) == (L.length : Int)) = true := by have := HM.out; rw [beq_iff_eq]; omega
              go_wp2_with fail
              refine (awake W).mono ?_
              rintro e w5 ⟨rfl, hb5⟩
              have HX5 := Lib.hid (HI.out.frS (Fr.of_below' hb5 (fun _ => False)) (fun _ _ h => h) (fun _ _ _ _ h => h))
              have cR : w5.cell? ⟨w.heap.size + 1, 0, none⟩ = some (.bool false) := HX5.out.br.cell 0
              have fR := HX5.out.br.free 0
              have HD5 := Lib.hid ((hb5.block W0.heap.size (lt_of_heap HK.out)).trans HK.out)
              clear hb5
              go_wp2_with fail
              have hne : w.heap.size + 1 ≠ W0.heap.size := by omega
              have hd6 : (w5.setCell ⟨w.heap.size + 1, 0, none⟩ (.bool true)).heap[W0.heap.size]? = some (.deferred (some [])) := ((HX5.out.br.tn 0 (.bool true)).fr.block W0.heap.size (lt_of_heap HD5.out) (by simpa using hne.symm)).trans HD5.out
              refine ⟨by simp, .inl ⟨_, _, rfl, run_takeDeferred hd6, ?_⟩⟩
              have hc6 : (w5.setCell ⟨w.heap.size + 1, 0, none⟩ (.bool true)).cell? ⟨w.heap.size + 1, 0, none⟩ = some (.bool true) := (HX5.out.br.set 0 (.bool true)).cell 0
              have hc : ((w5.setCell ⟨w.heap.size + 1, 0, none⟩ (.bool true)).putObj W0.heap.size (.deferred none)).cell? ⟨w.heap.size + 1, 0, none⟩ = some (.bool true) := (World.cell?_of_block (w := w5.setCell ⟨w.heap.size + 1, 0, none⟩ (.bool true)) (a := ⟨w.heap.size + 1, 0, none⟩) (World.putObj_heap_other hne)).trans hc6
              have HBb := HX5.out.bel_setR (.bool true)
              refine ⟨.bool true, by simp [results, Try.results10, go_sem, hc], rfl, ?_⟩
              exact HBb.trans ((Fr.putObj _ W0.heap.size (.deferred none) (S := (· = W0.heap.size)) rfl).below HBb.size (fun k hk e => by omega))
end Law13
end Go.Proofs.Ytolpdgaomlhgdaa
