/- Layer 12's statements: AvlAll: for every input the answer is true. -/
import Derived.Test.YtolpdgaomlhgdaaLaw12a
import Derived.Test.YtolpdgaomlhgdaaAssoc
namespace Go.Proofs.Ytolpdgaomlhgdaa
open Go.RowKit Go.Shelf
namespace Law12
attribute [local go_sem] Oper.semAt_some

theorem getL_putL (k : Int) (l : List (Int × Int × Int)) : getL k (putL l) = (l.reverse.find? (fun x => x.2.1 == k)).map (·.2.2) := by
  have : ∀ m : List (Int × Int × Int), getL k (putL m.reverse) = (m.find? (fun x => x.2.1 == k)).map (·.2.2) := by
    intro m
    induction m with
    | nil => rfl
    | cons x t ih =>
      rw [List.reverse_cons, putL_snoc, getL_ins, ih, List.find?_cons]
      by_cases h : x.2.1 = k
      · subst h; simp [sameK_refl]
      · have e : (x.2.1 == k) = false := by simp [h]
        rw [sameK_ne (fun e => h e.symm), e]; simp
  simpa using this l.reverse
theorem putL_srt (l : List (Int × Int × Int)) : Srt (putL l) := by
  have : ∀ m : List (Int × Int × Int), Srt (putL m.reverse) := by
    intro m
    induction m with
    | nil => exact List.Pairwise.nil
    | cons x t ih => rw [List.reverse_cons, putL_snoc]; exact (srt_insL _ ih).1
  simpa using this l.reverse
/-- The last act with a key. -/
theorem putL_find {k v : Int} {l : List (Int × Int × Int)} (h : (k, v) ∈ putL l) : ∃ (j : Nat) (hj : j < l.length), l[j].2.1 = k ∧ l[j].2.2 = v ∧ ∀ t (ht : t < l.length), j < t → l[t].2.1 ≠ k := by
  have hg := mem_getL (putL_srt l) h
  rw [getL_putL] at hg
  cases hf : l.reverse.find? (fun x => x.2.1 == k) with
  | none => rw [hf] at hg; cases hg
  | some x =>
    rw [hf] at hg
    simp only [Option.map_some, Option.some.injEq] at hg
    obtain ⟨hx, i, hi, he, hlast⟩ := List.find?_eq_some_iff_getElem.1 hf
    simp only [List.length_reverse] at hi
    rw [List.getElem_reverse] at he
    refine ⟨l.length - 1 - i, by omega, ?_, ?_, fun t ht hlt => ?_⟩
    · rw [he]; simpa using hx
    · rw [he]; exact hg
    · have := hlast (l.length - 1 - t) (by omega)
      rw [List.getElem_reverse] at this
      have e : l.length - 1 - (l.length - 1 - t) = t := by omega
      simp only [e] at this
      simpa using this
theorem putL_has {l : List (Int × Int × Int)} {j : Nat} (hj : j < l.length) : (getL l[j].2.1 (putL l)).isSome = true := by
  rw [getL_putL]
  simp only [Option.isSome_map, List.find?_isSome]
  exact ⟨l[j], by simp, by simp⟩

def lastK (pre : List (Int × Int)) : Int := (pre.getLast?.map (·.1)).getD 0
theorem lastK_snoc (pre : List (Int × Int)) (x : Int × Int) : lastK (pre ++ [x]) = x.1 := by simp [lastK]
theorem lastK_lt {pre : List (Int × Int)} {x : Int × Int} {L : List (Int × Int)} (hs : Srt L) (hp : pre ++ [x] <+: L) (h : 0 < pre.length) : lastK pre < x.1 := by
  obtain ⟨t, rfl⟩ := hp
  have h1 : (pre ++ [x]).Pairwise (fun a b => Ord.lt a.1 b.1 = true) := (List.pairwise_append.1 hs).1
  have h2 := (List.pairwise_append.1 h1).2.2
  have hne : pre ≠ [] := fun e => by simp [e] at h
  have := h2 (pre.getLast hne) (List.getLast_mem hne) x (by simp)
  rw [ltInt] at this
  simp only [lastK, List.getLast?_eq_some_getLast hne, Option.map_some, Option.getD_some]
  simpa using this

set_option maxRecDepth 100000 in
set_option maxHeartbeats 2000000 in
theorem all (A0 : Option Addr) (c0 : Nat) (acts : List (Int × Int × Int)) (w : World) (hS0 : Sl w 3 A0 acts.length c0 (acts.flatMap ac)) :
    Calls Try.prog 6 #[.slice A0 acts.length c0] w fun e w' => e = .returned (.bool true) ∧ Below w.heap.size w w' := by
  by_cases hlen : 120 < acts.length
  · have HA := fun w => Lib.hid (awake w)
    have t0 : decide ((120 : Int) < (acts.length : Int)) = true := by simp; omega
    clear hS0 hlen
    go_enter Try.func6, Try.ntmps6
    go_wp2_with fail
    refine (HA _).out.mono ?_
    rintro e w1 ⟨rfl, hb⟩
    have HB := Lib.hid hb
    have cb : w1.cell? ⟨w.heap.size + 1, 0, none⟩ = some (.bool false) := (hb.cell (p := ⟨w.heap.size + 1, 0, none⟩) (by simp)).trans (by go_simp)
    have cf : w1.frozen? ⟨w.heap.size + 1, 0, none⟩ = false := (hb.frozen (p := ⟨w.heap.size + 1, 0, none⟩) (by simp)).trans (by go_simp)
    clear hb
    go_wp2_with fail
    refine bodyPost_ret (v := .bool true) (by simp [results, Try.results6, go_sem, cb]) rfl ⟨rfl, ?_⟩
    have h0 : Below w.heap.size w ((w.alloc (.cells #[.slice A0 acts.length c0] TA)).alloc (.cells #[.bool false] 4)) := ((Below.refl _ _).alloc (Nat.le_refl _) _).alloc (by simp) _
    exact (h0.trans (HB.out.mono (by simp; omega))).setCell (p := ⟨w.heap.size + 1, 0, none⟩) (by simp) _
  · have hl : acts.length ≤ 120 := by omega
    have HL0 := Lib.hid hS0
    have t0 : decide ((120 : Int) < (acts.length : Int)) = false := by simp; omega
    clear hS0 hlen
    refine (callsIn_wide (n := 3)).1 ?_
    refine callsIn_of_wp_marks Try.func6 rfl trivial ?_ rfl
    simp only [Try.ntmps6, List.size_toArray, List.length_cons, List.length_nil, Nat.reduceAdd, Nat.reduceSub, Array.replicate_succ, Array.replicate_zero, List.push_toArray, List.append_toArray, List.nil_append, List.cons_append]
    refine wpIn_wide.2 ?_
    have kn : ∀ (w : World) (f : Fn) (a b : Array Value), (binOp .eql 68 (.func f a b) .nilFunc).run Try.prog w = .ok (.bool false) w := fun w f a b => run_eql_func_nil w f a b Try.underlying68
    go_wp2_with fail
    go_loopg [4] acts.length (fun gk i wr => ∃ (j : Nat) (F : List Nat), i = .int .i64 j ∧ j ≤ acts.length ∧ gk = acts.length - j ∧ SA w.heap.size w.heap.size (w.heap.size + 1) (w.heap.size + 1 + 1) A0 c0 acts.length false (putL (acts.take j)) F w wr)
    case atStart =>
      refine ⟨0, [], rfl, Nat.zero_le _, rfl, ?_, ?_, ?_, ?_⟩
      · have h1 := (((Zs.start w).alloc (.cells #[.slice A0 acts.length c0] TA)).alloc (.cells #[.bool false] 4)).alloc (.cells #[.pointer none, .int .i64 0] 51)
        simpa using h1
      · exact ((Bk.new w _ _).fr (Fr.alloc (fun _ => False) _ _) (fun _ _ h => h)).fr (Fr.alloc (fun _ => False) _ _) (fun _ _ h => h)
      · have := (Bk.new (w.alloc (.cells #[.slice A0 acts.length c0] TA)) #[.bool false] 4).fr (Fr.alloc (fun _ => False) _ (.cells #[.pointer none, .int .i64 0] 51)) (fun _ _ h => h)
        rwa [World.size_alloc] at this
      · have := AvlII.MapB.new ((w.alloc (.cells #[.slice A0 acts.length c0] TA)).alloc (.cells #[.bool false] 4))
        rwa [World.size_alloc, World.size_alloc] at this
    case round =>
      obtain ⟨j, F, rfl, hj, hg, hst⟩ := hrel
      have HG := Lib.hid hg; have HSt := Lib.hid hst
      have cl := hst.bl.cell 0
      clear hg hst
      by_cases hlt : j < acts.length
      · obtain ⟨b1, o1, rfl, hb1, hcs⟩ := HL0.out.at hlt (by omega)
        have d1 : w.cell? ⟨b1, o1 + j * 3 + 1, none⟩ = some (.int .i64 acts[j].2.1) := hcs (j * 3 + 1) _ (by rw [flat_at ac_len hlt (by omega)]; rfl)
        have d2 : w.cell? ⟨b1, o1 + j * 3 + 1 + 1, none⟩ = some (.int .i64 acts[j].2.2) := hcs (j * 3 + 2) _ (by rw [flat_at ac_len hlt (by omega)]; rfl)
        have HT : Hid (putL (acts.take (j + 1)) = insL acts[j].2.1 acts[j].2.2 (putL (acts.take j))) := by
          show _ = _
          rw [List.take_succ_eq_append_getElem hlt, putL_snoc]
        have hpl : (putL (acts.take j)).length ≤ 120 := Nat.le_trans (putL_len _) (by simp; omega)
        have HD1 := Lib.hid d1; have HD2 := Lib.hid d2
        clear hcs d1 d2
        go_upto_region 7 with (fail)
        refine a7 (by kernel_rfl) _ _ w.heap.size w.heap.size (w.heap.size + 1) (w.heap.size + 1 + 1) b1 o1 c0 acts.length j acts[j].2.1 acts[j].2.2 _ F w _ HSt.out hb1 hlt (by omega) HD1.out HD2.out rfl rfl rfl rfl ?_
        intro x w' F' hst
        simp only [Eng.setAll, Act.put, List.setIfInBounds_toArray, List.set_cons_succ, List.set_cons_zero]
        rw [← HT.out] at hst
        have HX := Lib.hid hst
        clear hst
        go_wp2_with fail
        go_roundg (acts.length - (j + 1))
        case rel => exact ⟨j + 1, F', by go_num, by omega, rfl, HX.out⟩
        case measure => have := HG.out; omega
      · obtain rfl : j = acts.length := by omega
        rw [List.take_length] at HSt
        go_wp2_with fail
        refine (AvlII.All _ _).mono ?_
        rintro e w1 ⟨rfl, rfl⟩
        go_wp2_with fail
        have hst := HSt.out
        have hSR : SR w.heap.size w.heap.size (w.heap.size + 1) (w.heap.size + 1 + 1) (wr.heap.size + 1) (wr.heap.size + 1 + 1) A0 c0 acts.length (putL acts) F 0 0 w
            (((wr.alloc (.cells #[.pointer (some ⟨w.heap.size + 1 + 1, 0, none⟩)] 52)).alloc (.cells #[.int .i64 0] 3)).alloc (.cells #[.int .i64 0] 3)) := by
          have h1 := hst.fr (Fr.alloc (fun _ => False) wr (.cells #[.pointer (some ⟨w.heap.size + 1 + 1, 0, none⟩)] 52))
          have h2 := h1.fr (Fr.alloc (fun _ => False) _ (.cells #[.int .i64 0] 3))
          have h3 := h2.fr (Fr.alloc (fun _ => False) _ (.cells #[.int .i64 0] 3))
          have z := (h1.zs.alloc (.cells #[.int .i64 0] 3)).alloc (.cells #[.int .i64 0] 3)
          have b1 := (Bk.new (wr.alloc (.cells #[.pointer (some ⟨w.heap.size + 1 + 1, 0, none⟩)] 52)) #[.int .i64 0] 3).fr (Fr.alloc (fun _ => False) _ (.cells #[.int .i64 0] 3)) (fun _ _ h => h)
          have b2 := Bk.new ((wr.alloc (.cells #[.pointer (some ⟨w.heap.size + 1 + 1, 0, none⟩)] 52)).alloc (.cells #[.int .i64 0] 3)) #[.int .i64 0] 3
          simp only [World.size_alloc] at z b1 b2
          exact ⟨z, h3.bl, h3.br, h3.bm, b1, b2⟩
        have hcc : (((wr.alloc (.cells #[.pointer (some ⟨w.heap.size + 1 + 1, 0, none⟩)] 52)).alloc (.cells #[.int .i64 0] 3)).alloc (.cells #[.int .i64 0] 3)).cell? ⟨wr.heap.size, 0, none⟩ = some (.pointer (some ⟨w.heap.size + 1 + 1, 0, none⟩)) :=
          (((Bk.new wr _ _).fr (Fr.alloc (fun _ => False) _ _) (fun _ _ h => h)).fr (Fr.alloc (fun _ => False) _ _) (fun _ _ h => h)).cell 0
        have hs0 : (((wr.alloc (.cells #[.pointer (some ⟨w.heap.size + 1 + 1, 0, none⟩)] 52)).alloc (.cells #[.int .i64 0] 3)).alloc (.cells #[.int .i64 0] 3)).heap.size = wr.heap.size + 3 := by simp
        generalize ((wr.alloc (.cells #[.pointer (some ⟨w.heap.size + 1 + 1, 0, none⟩)] 52)).alloc (.cells #[.int .i64 0] 3)).alloc (.cells #[.int .i64 0] 3) = W0 at *
        have hlow : ∀ G ∈ [[w.heap.size], [w.heap.size + 1], (w.heap.size + 1 + 1) :: F, [wr.heap.size + 1], [wr.heap.size + 1 + 1]], ∀ b ∈ G, b < W0.heap.size := fun G hG b hb => (hSR.zs.rng G hG b hb).2
        have hn0 := hSR.zs.n0le
        have hsrt := putL_srt acts
        clear hst HSt kn cl
        refine (wpIn_wide (n := 3)).1 ?_
        refine range_P' (n := 3) (a₁ := ?fr) (gf := 92) (lb := #[.pointer (some ⟨wr.heap.size, 0, none⟩)]) rfl (enters_of Try.func92 (by kernel_rfl) rfl)
          (AvlII.All_seq F wr.heap.size (some ⟨w.heap.size + 1 + 1, 0, none⟩) (putL acts) F W0 hcc (by omega) hSR.bm.mapP (fun _ h => h)) (fun b hb => hlow ((w.heap.size + 1 + 1) :: F) (by simp) b (by simp [hb])) (fun _ => rfl)
          (fun (pre : List (Int × Int)) (W : World) => SR w.heap.size w.heap.size (w.heap.size + 1) (w.heap.size + 1 + 1) (wr.heap.size + 1) (wr.heap.size + 1 + 1) A0 c0 acts.length (putL acts) F pre.length (lastK pre) w W) (fun _ _ _ => False)
          (fun pre A B h hf => h.frS hf (fun k hk h => by have := h.1; omega) (fun G hG b hb h => by have := hlow G hG b hb; have := h.1; omega)) (fun _ _ _ _ h _ => h) hSR ?assign ?body ?done (fun _ _ _ _ _ h _ => h.elim)
        case assign =>
          intro l m x W K hK
          gi_wp2
          exact hK
        case body =>
          intro l m pre x W hI hsz hpre _ _
          (try dsimp only)
          have cY : W.cell? ⟨wr.heap.size + 1, 0, none⟩ = some (.int .i64 (pre.length : Int)) := hI.bY.cell 0
          have fY := hI.bY.free 0
          have cZ : W.cell? ⟨wr.heap.size + 1 + 1, 0, none⟩ = some (.int .i64 (lastK pre)) := hI.bZ.cell 0
          have fZ := hI.bZ.free 0
          have cL : W.cell? ⟨w.heap.size, 0, none⟩ = some (.slice A0 acts.length c0) := hI.bl.cell 0
          have hpl : pre.length + 1 ≤ 120 := by have h1 := hpre.length_le; have h2 := putL_len acts; rw [List.length_append, List.length_singleton] at h1; omega
          obtain ⟨j0, hj0, e1, e2, e3⟩ := putL_find (k := x.1) (v := x.2) (hpre.subset (by simp))
          have HE1 := Lib.hid e1; have HE2 := Lib.hid e2; have HE3 := Lib.hid e3; have HI := Lib.hid hI; have HP := Lib.hid hpre
          have hlast := lastK_lt hsrt hpre
          have HS0 := Lib.hid hs0
          obtain ⟨xk, xv⟩ := x
          dsimp only at *
          generalize hlk : lastK pre = lk at *
          have HLK := Lib.hid hlk
          obtain ⟨b1, o1, rfl, hb1, hcs⟩ := HL0.out.at hj0 (by omega)
          have HCS : Hid (∀ t (ht : t < acts.length), W.cell? ⟨b1, o1 + t * 3 + 1, none⟩ = some (.int .i64 acts[t].2.1) ∧ W.cell? ⟨b1, o1 + t * 3 + 1 + 1, none⟩ = some (.int .i64 acts[t].2.2)) := fun t ht =>
            ⟨(HI.out.zs.bel.cell (p := ⟨b1, _, none⟩) hb1).trans (hcs (t * 3 + 1) _ (by rw [flat_at ac_len ht (by omega)]; rfl)), (HI.out.zs.bel.cell (p := ⟨b1, _, none⟩) hb1).trans (hcs (t * 3 + 2) _ (by rw [flat_at ac_len ht (by omega)]; rfl))⟩
          clear e1 e2 e3 hI hpre hs0 hlk hcs hSR hcc hlow hsrt
          by_cases h0 : 0 < pre.length
          · have q1 : (0 : Int) < (pre.length : Int) := by omega
            have q2 : ¬ xk ≤ lk := by have := hlast h0; omega
            clear hlast
            gi_wp2_with fail
            gi_loopg [10, 11] acts.length (fun gk s10 s11 wi => W = wi ∧ ((∃ t : Nat, s10 = .bool false ∧ s11 = .int .i64 (t : Int) ∧ j0 ≤ t ∧ t < acts.length ∧ gk = t + 1) ∨ (s10 = .bool true ∧ s11 = .int .i64 ((j0 : Int) - 1) ∧ gk = 0)))
            case atStart => exact ⟨rfl, .inl ⟨acts.length - 1, rfl, by congr 1; omega, by omega, by omega, by omega⟩⟩
            case round =>
              obtain ⟨rfl, (⟨t, rfl, rfl, ht1, ht2, hg'⟩ | ⟨rfl, rfl, hg'⟩)⟩ := hrel
              · have HG' := Lib.hid hg'
                obtain ⟨d1, d2⟩ := HCS.out t ht2
                have q3 : (0 : Int) ≤ (t : Int) := by omega
                have q4 : (t : Int) < (acts.length : Int) := by omega
                clear hg'
                by_cases htj : t = j0
                · have q5 : (acts[t].2.1 == xk) = true := by subst htj; rw [HE1.out]; simp
                  have q6 : (acts[t].2.2 != xv) = false := by subst htj; rw [HE2.out]; simp
                  have HTJ := Lib.hid htj
                  clear htj
                  generalize acts[t].2.1 = ak at *
                  generalize acts[t].2.2 = av at *
                  gi_wp2_with fail
                  gi_roundg 0
                  case rel => exact ⟨rfl, .inr ⟨rfl, by rw [HTJ.out], rfl⟩⟩
                  case measure => have := HG'.out; omega
                · have q5 : (acts[t].2.1 == xk) = false := by have := HE3.out t ht2 (by omega); simpa using this
                  generalize acts[t].2.1 = ak at *
                  generalize acts[t].2.2 = av at *
                  gi_wp2_with fail
                  gi_roundg t
                  case rel => exact ⟨rfl, .inl ⟨t - 1, rfl, by congr 1; omega, by omega, by omega, by omega⟩⟩
                  case measure => have := HG'.out; omega
              · have HG' := Lib.hid hg'
                clear hg'
                by_cases hz : 1 ≤ j0
                · have q3 : (0 : Int) ≤ (j0 : Int) - 1 := by omega
                  gi_wp2_with fail
                  have hf := SR.fr2 W (wr.heap.size + 1) (wr.heap.size + 1 + 1) (.int .i64 xk) (.int .i64 ((pre.length : Int) + 1))
                  have hs1 := HS0.out
                  refine ⟨KeptR.of_fr hf (by omega) (fun b hb => by have := hb.1; omega), by simp [World.setCell], KeptL.of_fr hf (fun b hb => ⟨(HI.out.zs.mem (i := 2) rfl b (by simp [hb])).2, ?_⟩), ?_⟩
                  · rintro (e | e)
                    · exact HI.out.zs.ap 4 2 rfl rfl (by decide) b (by simp [hb]) (by simp [e])
                    · exact HI.out.zs.ap 3 2 rfl rfl (by decide) b (by simp [hb]) (by simp [e])
                  · have := HI.out.turn ((pre.length : Int) + 1) xk
                    dsimp only
                    rw [lastK_snoc]
                    simpa using this
                · have q3 : ¬ (0 : Int) ≤ (j0 : Int) - 1 := by omega
                  gi_wp2_with fail
                  have hf := SR.fr2 W (wr.heap.size + 1) (wr.heap.size + 1 + 1) (.int .i64 xk) (.int .i64 ((pre.length : Int) + 1))
                  have hs1 := HS0.out
                  refine ⟨KeptR.of_fr hf (by omega) (fun b hb => by have := hb.1; omega), by simp [World.setCell], KeptL.of_fr hf (fun b hb => ⟨(HI.out.zs.mem (i := 2) rfl b (by simp [hb])).2, ?_⟩), ?_⟩
                  · rintro (e | e)
                    · exact HI.out.zs.ap 4 2 rfl rfl (by decide) b (by simp [hb]) (by simp [e])
                    · exact HI.out.zs.ap 3 2 rfl rfl (by decide) b (by simp [hb]) (by simp [e])
                  · have := HI.out.turn ((pre.length : Int) + 1) xk
                    dsimp only
                    rw [lastK_snoc]
                    simpa using this
          · have q1 : ¬ (0 : Int) < (pre.length : Int) := by omega
            clear hlast
            gi_wp2_with fail
            gi_loopg [10, 11] acts.length (fun gk s10 s11 wi => W = wi ∧ ((∃ t : Nat, s10 = .bool false ∧ s11 = .int .i64 (t : Int) ∧ j0 ≤ t ∧ t < acts.length ∧ gk = t + 1) ∨ (s10 = .bool true ∧ s11 = .int .i64 ((j0 : Int) - 1) ∧ gk = 0)))
            case atStart => exact ⟨rfl, .inl ⟨acts.length - 1, rfl, by congr 1; omega, by omega, by omega, by omega⟩⟩
            case round =>
              obtain ⟨rfl, (⟨t, rfl, rfl, ht1, ht2, hg'⟩ | ⟨rfl, rfl, hg'⟩)⟩ := hrel
              · have HG' := Lib.hid hg'
                obtain ⟨d1, d2⟩ := HCS.out t ht2
                have q3 : (0 : Int) ≤ (t : Int) := by omega
                have q4 : (t : Int) < (acts.length : Int) := by omega
                clear hg'
                by_cases htj : t = j0
                · have q5 : (acts[t].2.1 == xk) = true := by subst htj; rw [HE1.out]; simp
                  have q6 : (acts[t].2.2 != xv) = false := by subst htj; rw [HE2.out]; simp
                  have HTJ := Lib.hid htj
                  clear htj
                  generalize acts[t].2.1 = ak at *
                  generalize acts[t].2.2 = av at *
                  gi_wp2_with fail
                  gi_roundg 0
                  case rel => exact ⟨rfl, .inr ⟨rfl, by rw [HTJ.out], rfl⟩⟩
                  case measure => have := HG'.out; omega
                · have q5 : (acts[t].2.1 == xk) = false := by have := HE3.out t ht2 (by omega); simpa using this
                  generalize acts[t].2.1 = ak at *
                  generalize acts[t].2.2 = av at *
                  gi_wp2_with fail
                  gi_roundg t
                  case rel => exact ⟨rfl, .inl ⟨t - 1, rfl, by congr 1; omega, by omega, by omega, by omega⟩⟩
                  case measure => have := HG'.out; omega
              · have HG' := Lib.hid hg'
                clear hg'
                by_cases hz : 1 ≤ j0
                · have q3 : (0 : Int) ≤ (j0 : Int) - 1 := by omega
                  gi_wp2_with fail
                  have hf := SR.fr2 W (wr.heap.size + 1) (wr.heap.size + 1 + 1) (.int .i64 xk) (.int .i64 ((pre.length : Int) + 1))
                  have hs1 := HS0.out
                  refine ⟨KeptR.of_fr hf (by omega) (fun b hb => by have := hb.1; omega), by simp [World.setCell], KeptL.of_fr hf (fun b hb => ⟨(HI.out.zs.mem (i := 2) rfl b (by simp [hb])).2, ?_⟩), ?_⟩
                  · rintro (e | e)
                    · exact HI.out.zs.ap 4 2 rfl rfl (by decide) b (by simp [hb]) (by simp [e])
                    · exact HI.out.zs.ap 3 2 rfl rfl (by decide) b (by simp [hb]) (by simp [e])
                  · have := HI.out.turn ((pre.length : Int) + 1) xk
                    dsimp only
                    rw [lastK_snoc]
                    simpa using this
                · have q3 : ¬ (0 : Int) ≤ (j0 : Int) - 1 := by omega
                  gi_wp2_with fail
                  have hf := SR.fr2 W (wr.heap.size + 1) (wr.heap.size + 1 + 1) (.int .i64 xk) (.int .i64 ((pre.length : Int) + 1))
                  have hs1 := HS0.out
                  refine ⟨KeptR.of_fr hf (by omega) (fun b hb => by have := hb.1; omega), by simp [World.setCell], KeptL.of_fr hf (fun b hb => ⟨(HI.out.zs.mem (i := 2) rfl b (by simp [hb])).2, ?_⟩), ?_⟩
                  · rintro (e | e)
                    · exact HI.out.zs.ap 4 2 rfl rfl (by decide) b (by simp [hb]) (by simp [e])
                    · exact HI.out.zs.ap 3 2 rfl rfl (by decide) b (by simp [hb]) (by simp [e])
                  · have := HI.out.turn ((pre.length : Int) + 1) xk
                    dsimp only
                    rw [lastK_snoc]
                    simpa using this
        case done =>
          intro W hsz hI hK
          have cY : W.cell? ⟨wr.heap.size + 1, 0, none⟩ = some (.int .i64 ((putL acts).length : Int)) := hI.bY.cell 0
          have cL : W.cell? ⟨w.heap.size, 0, none⟩ = some (.slice A0 acts.length c0) := hI.bl.cell 0
          have HI := Lib.hid hI; have HK := Lib.hid hK; have HS0 := Lib.hid hs0
          clear hI hK hs0 hSR hcc hlow hsrt
          go_wp2_with fail
          go_loopg [12, 13, 14] acts.length (fun gk i _ _ wi => W = wi ∧ ∃ j : Nat, i = .int .i64 j ∧ j ≤ acts.length ∧ gk = acts.length - j)
          case atStart => exact ⟨rfl, 0, rfl, Nat.zero_le _, rfl⟩
          case round =>
            obtain ⟨rfl, j, rfl, hj', hg'⟩ := hrel
            have HG' := Lib.hid hg'
            clear hg'
            by_cases hlt : j < acts.length
            · obtain ⟨b1, o1, rfl, hb1, hcs⟩ := HL0.out.at hlt (by omega)
              have d1 : W.cell? ⟨b1, o1 + j * 3 + 1, none⟩ = some (.int .i64 acts[j].2.1) := (HI.out.zs.bel.cell (p := ⟨b1, _, none⟩) hb1).trans (hcs (j * 3 + 1) _ (by rw [flat_at ac_len hlt (by omega)]; rfl))
              have HGet := Lib.hid (AvlII.GetB (w.heap.size + 1 + 1) acts[j].2.1 _ F W HI.out.bm)
              unfold AvlII.GetPost at HGet
              rw [putL_has hlt] at HGet
              generalize acts[j].2.1 = ak at *
              clear hcs
              go_wp2_with fail
              refine HGet.out.mono ?_
              rintro e w2 ⟨rfl, rfl⟩
              go_wp2_with fail
              go_roundg (acts.length - (j + 1))
              case rel => exact ⟨rfl, j + 1, by go_num, by omega, rfl⟩
              case measure => have := HG'.out; omega
            · obtain rfl : j = acts.length := by omega
              go_upto_region 34 with (fail)
              refine a34 (by kernel_rfl) _ _ w.heap.size w.heap.size (w.heap.size + 1) (w.heap.size + 1 + 1) (wr.heap.size + 1) (wr.heap.size + 1 + 1) c0 acts.length W0.heap.size A0 (putL acts) F _ _ w W HI.out HK.out (by have := HS0.out; have := HI.out.zs.mem (i := 3) rfl (wr.heap.size + 1) (by simp); omega) rfl rfl rfl rfl ?_
              intro x w' hc hb hd
              simp only [Eng.setAll, Act.put, List.setIfInBounds_toArray, List.set_cons_succ, List.set_cons_zero]
              have HC := Lib.hid hc; have HB := Lib.hid hb; have HDd := Lib.hid hd
              clear hc hb hd
              go_wp2_with fail
              refine ⟨by simp, .inl ⟨_, _, rfl, run_takeDeferred HDd.out, ?_⟩⟩
              have hne : w.heap.size + 1 ≠ W0.heap.size := by have := HS0.out; have := HI.out.zs.mem (i := 3) rfl (wr.heap.size + 1) (by simp); omega
              have hc : (w'.putObj W0.heap.size (.deferred none)).cell? ⟨w.heap.size + 1, 0, none⟩ = some (.bool true) := (World.cell?_of_block (w := w') (a := ⟨w.heap.size + 1, 0, none⟩) (World.putObj_heap_other hne)).trans HC.out
              refine ⟨.bool true, by simp [results, Try.results6, go_sem, hc], rfl, ?_⟩
              exact HB.out.trans ((Fr.putObj w' W0.heap.size (.deferred none) (S := (· = W0.heap.size)) rfl).below HB.out.size (fun k hk e => by omega))
end Law12
end Go.Proofs.Ytolpdgaomlhgdaa
