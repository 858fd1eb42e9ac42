/- The document's set of any list that may come in. -/
import Derived.Test.YtmcghchhegfilaaSetFs
import Derived.Deep.CutBlock
namespace Go.Proofs.Ytmcghchhegfilaa
open Go.RowKit
namespace SetF
open KeyP PackP SetP SetW Code_ Rank
attribute [local go_sem] Eng.ev Eng.getO_cons Eng.getO_nil
theorem tw_filter (L : List Sn) (z : Sn) (k : Nat) : (L.takeWhile (bef · z)).length + ((L.take k).filter (bef z ·)).length ≤ L.length := by
  have h1 : ((L.take k).filter (bef z ·)).length ≤ (L.filter (bef z ·)).length := ((List.take_sublist k L).filter _).length_le
  have h2 : L.filter (bef z ·) = (L.dropWhile (bef · z)).filter (bef z ·) := by
    conv => lhs; rw [← List.takeWhile_append_dropWhile (p := (bef · z)) (l := L)]
    rw [List.filter_append, List.filter_eq_nil_iff.2 (fun y hy => by
      have h : bef y z = true := List.all_eq_true.1 (List.all_takeWhile (p := (bef · z)) (l := L)) y hy
      rw [bef_asym h]; simp), List.nil_append]
  have h3 := List.length_filter_le (bef z ·) (L.dropWhile (bef · z))
  have h4 := congrArg List.length (List.takeWhile_append_dropWhile (p := (bef · z)) (l := L))
  rw [List.length_append] at h4
  rw [h2] at h1
  omega
set_option maxRecDepth 100000 in
set_option maxHeartbeats 1000000 in
theorem InsertB (A : Option Addr) (c : Nat) (L : List Sn) (z : Sn) (w : World) (hS : Sl w 9 A L.length c (L.flatMap scs)) (hlen : L.length ≤ 1599289640355) :
    Calls Try.prog 55 #[.slice A L.length c, z.v] w (OwnPost (ins z L) w) := by
  obtain ⟨i0, hi, hz0, hz1, hz2⟩ := info_parts infoS
  have HIns : Hid (ins z L = L.takeWhile (bef · z) ++ z :: L.filter (bef z ·)) := rfl
  have HTl := Lib.hid ((List.takeWhile_sublist (p := (bef · z)) (l := L)).length_le)
  have HS := Lib.hid hS
  have HB : Hid (CS w (w.alloc (.cells z.arr TSn)) w.heap.size z (.slice none 0 0) []) := ⟨World.ownsRow_nil _ _ _ _, (Below.refl _ _).alloc (Nat.le_refl _) _, At.box (Bk.new w z.arr TSn), by simp, Nat.le_refl _⟩
  have HQ : Hid (∀ e w' M, OwnPost M w e w' → M = ins z L → OwnPost (ins z L) w e w') := fun e w' M h hm => hm ▸ h
  clear hS
  go_enter Try.func55, Try.ntmps55
  go_upto_block 0 with (fail)
  go_cut [5] (fun v wc => CS w wc w.heap.size z v (L.takeWhile (bef · z)))
  case first =>
    go_wp2_with fail
    go_loopg [5, 6] L.length (fun gk v i wr => ∃ k : Nat, i = .int .i64 k ∧ k ≤ L.length ∧ gk = L.length - k ∧ (∀ y ∈ L.take k, bef y z = true) ∧ CS w wr w.heap.size z v (L.take k))
    case atStart => exact ⟨0, rfl, Nat.zero_le _, rfl, by simp, HB.out⟩
    case round =>
      obtain ⟨k, rfl, hk, hg, hlo, hst⟩ := hrel
      have HG := Lib.hid hg; have HLo := Lib.hid hlo; have HSt := Lib.hid hst
      clear hg hlo hst
      by_cases hlt : k < L.length
      · obtain ⟨b1, o1, rfl, hb1, c1⟩ := HS.out.at hlt (by omega)
        have HA := Lib.hid ((At.row c1 hlt).fr (Fr.of_below' HSt.out.bel (fun _ => False)) (fun h => h))
        clear c1 hb1
        have HW : Hid (bef L[k] z = false → L.takeWhile (bef · z) = L.take k) := fun h => takeWhile_take' HLo.out (fun _ => h)
        have HSn := Lib.hid (List.take_succ_eq_append_getElem hlt)
        generalize hy : L[k] = y at *
        have HY := Lib.hid hy
        clear hy
        have hlen' : L.length ≤ 9223372036854775807 := by omega
        go_upto_region 3 with (fail)
        refine n3 (by kernel_rfl) _ _ wr wr b1 o1 _ c k _ y z ⟨HA.out, HSt.out.box, Fr.refl _ _⟩ hlt hlen' rfl rfl rfl rfl ?_
        intro x w2 h17 hst
        simp only [Eng.setAll, Act.put, List.setIfInBounds_toArray, List.set_cons_succ, List.set_cons_zero]
        rw [h17]
        have HSt2 := Lib.hid (HSt.out.fr hst.f); have HA2 := Lib.hid hst.a
        clear h17 hst
        cases h1 : bef y z with
        | true =>
          have hown1' := HSt2.out.own.alloc (.cells y.arr TSn)
          have hsz := HSt2.out.sz
          rw [show (L.take k).length = k by rw [List.length_take]; omega] at hown1'
          have HE : Hid (∀ q ∈ L.take (k + 1), bef q z = true) := fun q hq => by
            rw [HSn.out, List.mem_append] at hq
            rcases hq with hq | hq
            · exact HLo.out q hq
            · simp at hq; rw [hq]; exact h1
          clear h1
          have yc0 : w2.cell? ⟨b1, o1 + k * 9, none⟩ = some (.int .i64 y.t) := HA2.out 0 _ rfl
          have yc1 : w2.cell? ⟨b1, o1 + k * 9 + 1, none⟩ = some (.int .i64 y.i) := HA2.out 1 _ rfl
          have yc2 : w2.cell? ⟨b1, o1 + k * 9 + 1 + 1, none⟩ = some (.int .i64 y.p) := HA2.out 2 _ rfl
          have yc3 : w2.cell? ⟨b1, o1 + k * 9 + 1 + 1 + 1, none⟩ = some (.int .i64 y.r) := HA2.out 3 _ rfl
          have yc4 : w2.cell? ⟨b1, o1 + k * 9 + 1 + 1 + 1 + 1, none⟩ = some (.string y.s) := HA2.out 4 _ rfl
          have yc5 : w2.cell? ⟨b1, o1 + k * 9 + 1 + 1 + 1 + 1 + 1, none⟩ = some (.string y.o) := HA2.out 5 _ rfl
          have yc6 : w2.cell? ⟨b1, o1 + k * 9 + 1 + 1 + 1 + 1 + 1 + 1, none⟩ = some (.int .i64 y.b) := HA2.out 6 _ rfl
          have yc7 : w2.cell? ⟨b1, o1 + k * 9 + 1 + 1 + 1 + 1 + 1 + 1 + 1, none⟩ = some (.int .i64 y.d) := HA2.out 7 _ rfl
          have yc8 : w2.cell? ⟨b1, o1 + k * 9 + 1 + 1 + 1 + 1 + 1 + 1 + 1 + 1, none⟩ = some (.bool y.g) := HA2.out 8 _ rfl
          go_wp2_with (at_builtin; refine wpList_append_sl _ rfl (.tmp 22) (.tmp 27) TSs rfl (w.heap.size + 1) TSn i0 (.agg #[.int .i64 0, .int .i64 0, .int .i64 0, .int .i64 0, .string ByteArray.empty, .string ByteArray.empty, .int .i64 0, .int .i64 0, .bool false]) 9 88 Try.underlying22 hi hz0 hz1 hz2 rfl (by decide) _ _ _ rfl hown1' _ _ _ _ rfl (Sl.one w2 TSn (scs y) 9 rfl) (by simp [Value.oneCell']) ?_ ?_ ?_ ?_)
          · unfold maxLen; omega
          · omega
          · first | omega | (simp; omega)
          intro v1 w1 hown1 hgrow1
          have HC := Lib.hid (HSt2.out.add (by rw [show (L.take k).length = k by rw [List.length_take]; omega]; exact hown1) hgrow1)
          clear hown1 hgrow1 hown1' yc0 yc1 yc2 yc3 yc4 yc5 yc6 yc7 yc8
          go_wp2_with fail
          go_roundg (L.length - (k + 1))
          case rel => exact ⟨k + 1, by go_num, by omega, rfl, HE.out, by rw [HSn.out]; exact HC.out⟩
          case measure => have := HG.out; omega
        | false =>
          have HE := Lib.hid (HW.out h1)
          clear h1
          go_wp2_with fail
          go_meet
          rw [HE.out]; exact HSt2.out
      · obtain rfl : k = L.length := by omega
        have HE : Hid (L.takeWhile (bef · z) = L.take L.length) := takeWhile_take' HLo.out (fun h => absurd h (by omega))
        go_upto_region 3 with (fail)
        refine n3e (by kernel_rfl) _ _ wr wr A L.length c (Fr.refl _ _) rfl rfl rfl ?_
        intro x w2 h17 hf
        simp only [Eng.setAll, Act.put, List.setIfInBounds_toArray, List.set_cons_succ, List.set_cons_zero]
        rw [h17]
        have HSt2 := Lib.hid (HSt.out.fr hf)
        clear h17 hf
        go_wp2_with fail
        go_meet
        rw [HE.out]; exact HSt2.out
  case rest =>
    have HC := Lib.hid hcut
    clear hcut HB
    have HTw := Lib.hid (fun k : Nat => tw_filter L z k)
    generalize hP : L.takeWhile (bef · z) = P at *
    have hPl := HTl.out
    clear hP
    have hown1' := HC.out.own.alloc (.cells z.arr TSn)
    have hsz := HC.out.sz
    have zc0 : wc.cell? ⟨w.heap.size, 0, none⟩ = some (.int .i64 z.t) := HC.out.box 0 _ rfl
    have zc1 : wc.cell? ⟨w.heap.size, 1, none⟩ = some (.int .i64 z.i) := HC.out.box 1 _ rfl
    have zc2 : wc.cell? ⟨w.heap.size, 2, none⟩ = some (.int .i64 z.p) := HC.out.box 2 _ rfl
    have zc3 : wc.cell? ⟨w.heap.size, 3, none⟩ = some (.int .i64 z.r) := HC.out.box 3 _ rfl
    have zc4 : wc.cell? ⟨w.heap.size, 4, none⟩ = some (.string z.s) := HC.out.box 4 _ rfl
    have zc5 : wc.cell? ⟨w.heap.size, 5, none⟩ = some (.string z.o) := HC.out.box 5 _ rfl
    have zc6 : wc.cell? ⟨w.heap.size, 6, none⟩ = some (.int .i64 z.b) := HC.out.box 6 _ rfl
    have zc7 : wc.cell? ⟨w.heap.size, 7, none⟩ = some (.int .i64 z.d) := HC.out.box 7 _ rfl
    have zc8 : wc.cell? ⟨w.heap.size, 8, none⟩ = some (.bool z.g) := HC.out.box 8 _ rfl
    go_wp2_with (at_builtin; refine wpList_append_sl _ rfl (.tmp 29) (.tmp 31) TSs rfl (w.heap.size + 1) TSn i0 (.agg #[.int .i64 0, .int .i64 0, .int .i64 0, .int .i64 0, .string ByteArray.empty, .string ByteArray.empty, .int .i64 0, .int .i64 0, .bool false]) 9 88 Try.underlying22 hi hz0 hz1 hz2 rfl (by decide) _ _ _ rfl hown1' _ _ _ _ rfl (Sl.one wc TSn (scs z) 9 rfl) (by simp [Value.oneCell']) ?_ ?_ ?_ ?_)
    · unfold maxLen; omega
    · omega
    · first | omega | (simp; omega)
    intro v1 w1 hown1 hgrow1
    have HC1 := Lib.hid (HC.out.add hown1 hgrow1)
    clear hown1 hgrow1 hown1' HC zc0 zc1 zc2 zc3 zc4 zc5 zc6 zc7 zc8 hsz
    go_wp2_with fail
    go_loopg [5, 7] L.length (fun gk v i wr => ∃ k : Nat, i = .int .i64 k ∧ k ≤ L.length ∧ gk = L.length - k ∧ CS w wr w.heap.size z v ((P ++ [z]) ++ (L.take k).filter (bef z ·)))
    case atStart => exact ⟨0, rfl, Nat.zero_le _, rfl, by simpa using HC1.out⟩
    case round =>
      clear HC1
      obtain ⟨k, rfl, hk, hg, hst⟩ := hrel
      have HG := Lib.hid hg; have HSt := Lib.hid hst
      clear hg hst
      by_cases hlt : k < L.length
      · obtain ⟨b1, o1, rfl, hb1, c1⟩ := HS.out.at hlt (by omega)
        have HA := Lib.hid ((At.row c1 hlt).fr (Fr.of_below' HSt.out.bel (fun _ => False)) (fun h => h))
        clear c1 hb1
        have HSn := Lib.hid (filter_snoc (p := (bef z ·)) hlt)
        have hfl : ((L.take k).filter (bef z ·)).length ≤ k := Nat.le_trans (List.length_filter_le _ _) (by rw [List.length_take]; omega)
        have hlen2 : ((P ++ [z]) ++ (L.take k).filter (bef z ·)).length ≤ L.length + 1 := by simp only [List.length_append, List.length_singleton]; have := HTw.out k; omega
        clear hfl
        generalize L[k] = y at *
        generalize hM : (P ++ [z]) ++ (L.take k).filter (bef z ·) = M at *
        have HM := Lib.hid hM
        clear hM
        go_upto_region 10 with (fail)
        refine n10 (by kernel_rfl) _ _ wr wr b1 o1 _ c k _ y z ⟨HA.out, HSt.out.box, Fr.refl _ _⟩ hlt (by omega) rfl rfl rfl rfl ?_
        intro x w2 h17 hst
        simp only [Eng.setAll, Act.put, List.setIfInBounds_toArray, List.set_cons_succ, List.set_cons_zero]
        rw [h17]
        have HSt2 := Lib.hid (HSt.out.fr hst.f); have HA2 := Lib.hid hst.a
        clear h17 hst
        cases h1 : bef z y with
        | true =>
          have hown1' := HSt2.out.own.alloc (.cells y.arr TSn)
          have hsz := HSt2.out.sz
          have HE : Hid (P ++ [z] ++ (L.take (k + 1)).filter (bef z ·) = M ++ [y]) := by show _ = _; rw [HSn.out, h1, if_pos rfl, ← List.append_assoc, HM.out]
          clear h1
          have yc0 : w2.cell? ⟨b1, o1 + k * 9, none⟩ = some (.int .i64 y.t) := HA2.out 0 _ rfl
          have yc1 : w2.cell? ⟨b1, o1 + k * 9 + 1, none⟩ = some (.int .i64 y.i) := HA2.out 1 _ rfl
          have yc2 : w2.cell? ⟨b1, o1 + k * 9 + 1 + 1, none⟩ = some (.int .i64 y.p) := HA2.out 2 _ rfl
          have yc3 : w2.cell? ⟨b1, o1 + k * 9 + 1 + 1 + 1, none⟩ = some (.int .i64 y.r) := HA2.out 3 _ rfl
          have yc4 : w2.cell? ⟨b1, o1 + k * 9 + 1 + 1 + 1 + 1, none⟩ = some (.string y.s) := HA2.out 4 _ rfl
          have yc5 : w2.cell? ⟨b1, o1 + k * 9 + 1 + 1 + 1 + 1 + 1, none⟩ = some (.string y.o) := HA2.out 5 _ rfl
          have yc6 : w2.cell? ⟨b1, o1 + k * 9 + 1 + 1 + 1 + 1 + 1 + 1, none⟩ = some (.int .i64 y.b) := HA2.out 6 _ rfl
          have yc7 : w2.cell? ⟨b1, o1 + k * 9 + 1 + 1 + 1 + 1 + 1 + 1 + 1, none⟩ = some (.int .i64 y.d) := HA2.out 7 _ rfl
          have yc8 : w2.cell? ⟨b1, o1 + k * 9 + 1 + 1 + 1 + 1 + 1 + 1 + 1 + 1, none⟩ = some (.bool y.g) := HA2.out 8 _ rfl
          go_wp2_with (at_builtin; refine wpList_append_sl _ rfl (.tmp 45) (.tmp 50) TSs rfl (w.heap.size + 1) TSn i0 (.agg #[.int .i64 0, .int .i64 0, .int .i64 0, .int .i64 0, .string ByteArray.empty, .string ByteArray.empty, .int .i64 0, .int .i64 0, .bool false]) 9 88 Try.underlying22 hi hz0 hz1 hz2 rfl (by decide) _ _ _ rfl hown1' _ _ _ _ rfl (Sl.one w2 TSn (scs y) 9 rfl) (by simp [Value.oneCell']) ?_ ?_ ?_ ?_)
          · unfold maxLen; omega
          · omega
          · first | omega | (simp; omega)
          intro v1 w1 hown1 hgrow1
          have HC := Lib.hid (HSt2.out.add hown1 hgrow1)
          clear hown1 hgrow1 hown1' yc0 yc1 yc2 yc3 yc4 yc5 yc6 yc7 yc8
          go_wp2_with fail
          go_roundg (L.length - (k + 1))
          case rel => exact ⟨k + 1, by go_num, by omega, rfl, by rw [HE.out]; exact HC.out⟩
          case measure => have := HG.out; omega
        | false =>
          have HE : Hid (P ++ [z] ++ (L.take (k + 1)).filter (bef z ·) = M) := by show _ = _; rw [HSn.out, h1, if_neg (by simp), List.append_nil, HM.out]
          clear h1
          go_wp2_with fail
          go_roundg (L.length - (k + 1))
          case rel => exact ⟨k + 1, by go_num, by omega, rfl, by rw [HE.out]; exact HSt2.out⟩
          case measure => have := HG.out; omega
      · obtain rfl : k = L.length := by omega
        have HE : Hid (P ++ [z] ++ (L.take L.length).filter (bef z ·) = ins z L) := by show _ = _; rw [HIns.out, List.take_length]; simp
        have HO := Lib.hid HSt.out.own
        rw [HE.out] at HO
        obtain ⟨A2, c2, rfl, -, -⟩ := Sl.of_own HO.out
        have HBl := Lib.hid HSt.out.bel
        clear HE HSt
        go_wp2_with fail
        go_ret
        exact ⟨_, rfl, ownsRow_base HO.out (by omega), HBl.out⟩
set_option maxRecDepth 100000 in
set_option maxHeartbeats 2000000 in
/-- The document's set. -/
theorem RefSetB (A : Option Addr) (c : Nat) (L : List Sn) (w : World) (hS : Ls w A c L) (hlen : L.length ≤ 1599289640355) :
    Calls Try.prog 24 #[.slice A L.length c] w (LsPost (setOf L) w) := by
  have HOk := Lib.hid (set_ok hS.ok)
  have HS := Lib.hid hS
  clear hS
  go_enter Try.func24, Try.ntmps24
  go_wp2_with fail
  go_loopg [3, 4] L.length (fun gk v i wr => ∃ k : Nat, i = .int .i64 k ∧ k ≤ L.length ∧ gk = L.length - k ∧ wr.ownsRow w.heap.size TSn 9 v (setOf (L.take k)).length ((setOf (L.take k)).flatMap scs) ∧ Below w.heap.size w wr)
  case atStart => exact ⟨0, rfl, Nat.zero_le _, rfl, World.ownsRow_nil _ _ _ _, Below.refl _ _⟩
  case round =>
    obtain ⟨k, rfl, hk, hg, hown, hbel⟩ := hrel
    have HG := Lib.hid hg; have HO := Lib.hid hown; have HB := Lib.hid hbel
    have hszw : w.heap.size ≤ wr.heap.size := hbel.size
    clear hg hown hbel
    by_cases hlt : k < L.length
    · obtain ⟨b1, o1, rfl, hb1, c1⟩ := HS.out.s.at hlt (by omega)
      have HA := Lib.hid ((At.row c1 hlt).fr (Fr.of_below' HB.out (fun _ => False)) (fun h => h))
      have HSn : Hid (setOf (L.take (k + 1)) = PackP.put (setOf (L.take k)) L[k]) := by show _ = _; rw [List.take_succ_eq_append_getElem hlt, setOf_snoc]
      have HY := Lib.hid (HS.out.ok _ (List.getElem_mem hlt))
      have HMk := Lib.hid (set_ok (L := L.take k) (fun x hx => HS.out.ok x (List.mem_of_mem_take hx)))
      have HMl : Hid ((setOf (L.take k)).length ≤ 1599289640355) := by show _ ≤ _; have := setOf_len (L.take k); rw [List.length_take] at this; omega
      clear c1 hb1
      generalize L[k] = y at *
      generalize setOf (L.take k) = M at *
      have HM := Lib.hid (fun W : World => Name.RefMay y HY.out W)
      have HKp := Lib.hid (fun W : World => Ref10.Kept y W)
      have q1 : (0 : Int) ≤ (k : Int) := by omega
      have q2 : decide ((k : Int) < (L.length : Int)) = true := by simp; omega
      have yc0 : wr.cell? ⟨b1, o1 + k * 9, none⟩ = some (.int .i64 y.t) := HA.out 0 _ rfl
      have yc1 : wr.cell? ⟨b1, o1 + k * 9 + 1, none⟩ = some (.int .i64 y.i) := HA.out 1 _ rfl
      have yc2 : wr.cell? ⟨b1, o1 + k * 9 + 1 + 1, none⟩ = some (.int .i64 y.p) := HA.out 2 _ rfl
      have yc3 : wr.cell? ⟨b1, o1 + k * 9 + 1 + 1 + 1, none⟩ = some (.int .i64 y.r) := HA.out 3 _ rfl
      have yc4 : wr.cell? ⟨b1, o1 + k * 9 + 1 + 1 + 1 + 1, none⟩ = some (.string y.s) := HA.out 4 _ rfl
      have yc5 : wr.cell? ⟨b1, o1 + k * 9 + 1 + 1 + 1 + 1 + 1, none⟩ = some (.string y.o) := HA.out 5 _ rfl
      have yc6 : wr.cell? ⟨b1, o1 + k * 9 + 1 + 1 + 1 + 1 + 1 + 1, none⟩ = some (.int .i64 y.b) := HA.out 6 _ rfl
      have yc7 : wr.cell? ⟨b1, o1 + k * 9 + 1 + 1 + 1 + 1 + 1 + 1 + 1, none⟩ = some (.int .i64 y.d) := HA.out 7 _ rfl
      have yc8 : wr.cell? ⟨b1, o1 + k * 9 + 1 + 1 + 1 + 1 + 1 + 1 + 1 + 1, none⟩ = some (.bool y.g) := HA.out 8 _ rfl
      go_wp2_with fail
      refine (HM.out _).mono ?_
      rintro e w2 ⟨rfl, hf⟩
      have HF2 := Lib.hid hf
      have HA2 := Lib.hid (HA.out.keep hf)
      clear hf HA HM yc0 yc1 yc2 yc3 yc4 yc5 yc6 yc7 yc8
      cases hm : mayB y with
      | false =>
        have e0 : Name.mayN y = 1 := by unfold Name.mayN; rw [hm]; rfl
        have HE : Hid (setOf (L.take (k + 1)) = M) := by show _ = _; rw [HSn.out, Newest.put_no hm]
        rw [e0]
        clear hm e0
        go_wp2_with fail
        go_roundg (L.length - (k + 1))
        case rel => exact ⟨k + 1, by go_num, by omega, rfl, by rw [HE.out]; exact ownsRow_fr HO.out HF2.out (fun _ _ h => h), HB.out.trans (HF2.out.below hszw (fun _ _ h => h))⟩
        case measure => have := HG.out; omega
      | true =>
        have e0 : Name.mayN y = 0 := by unfold Name.mayN; rw [hm]; rfl
        rw [e0]
        have HMb := Lib.hid hm
        clear e0 hm
        obtain ⟨q, hq⟩ : ∃ q, Sat2.keptS y = q := ⟨_, rfl⟩
        rw [hq] at HKp
        have HQ : Hid (kp y = q) := hq
        have HT : Hid q.ok := by have h := kp_ok HY.out; rw [HQ.out] at h; exact h
        clear hq
        have yc0 : w2.cell? ⟨b1, o1 + k * 9, none⟩ = some (.int .i64 y.t) := HA2.out 0 _ rfl
        have yc1 : w2.cell? ⟨b1, o1 + k * 9 + 1, none⟩ = some (.int .i64 y.i) := HA2.out 1 _ rfl
        have yc2 : w2.cell? ⟨b1, o1 + k * 9 + 1 + 1, none⟩ = some (.int .i64 y.p) := HA2.out 2 _ rfl
        have yc3 : w2.cell? ⟨b1, o1 + k * 9 + 1 + 1 + 1, none⟩ = some (.int .i64 y.r) := HA2.out 3 _ rfl
        have yc4 : w2.cell? ⟨b1, o1 + k * 9 + 1 + 1 + 1 + 1, none⟩ = some (.string y.s) := HA2.out 4 _ rfl
        have yc5 : w2.cell? ⟨b1, o1 + k * 9 + 1 + 1 + 1 + 1 + 1, none⟩ = some (.string y.o) := HA2.out 5 _ rfl
        have yc6 : w2.cell? ⟨b1, o1 + k * 9 + 1 + 1 + 1 + 1 + 1 + 1, none⟩ = some (.int .i64 y.b) := HA2.out 6 _ rfl
        have yc7 : w2.cell? ⟨b1, o1 + k * 9 + 1 + 1 + 1 + 1 + 1 + 1 + 1, none⟩ = some (.int .i64 y.d) := HA2.out 7 _ rfl
        have yc8 : w2.cell? ⟨b1, o1 + k * 9 + 1 + 1 + 1 + 1 + 1 + 1 + 1 + 1, none⟩ = some (.bool y.g) := HA2.out 8 _ rfl
        go_wp2_with fail
        refine (HKp.out _).mono ?_
        rintro e w3 ⟨rfl, hf⟩
        have HF3 := Lib.hid (HF2.out.trans hf (T := fun _ => False) (fun _ _ h => h) (fun _ _ h => h))
        clear hf HA2 HF2 yc0 yc1 yc2 yc3 yc4 yc5 yc6 yc7 yc8
        go_upto_region 7 with (fail)
        have hbx := Bk.new w3 q.arr TSn
        have hfa := HF3.out.trans (Fr.alloc (fun _ => False) w3 (.cells q.arr TSn)) (T := fun _ => False) (fun _ _ h => h) (fun _ _ h => h)
        generalize (w3.alloc (.cells q.arr TSn)) = w4 at *
        generalize w3.heap.size = Bx at *
        have HBx := Lib.hid (At.box hbx); have HF4 := Lib.hid hfa
        clear hbx hfa HF3 HKp
        have HO4 := Lib.hid (ownsRow_fr HO.out HF4.out (fun _ _ h => h))
        have HB4 := Lib.hid (HB.out.trans (HF4.out.below hszw (fun _ _ h => h)))
        clear HO HB
        obtain ⟨A2, c2, rfl, hs4, ha4⟩ := Sl.of_own HO4.out
        have HS4 := Lib.hid hs4
        clear hs4 ha4
        have qc0 : w4.cell? ⟨Bx, 0, none⟩ = some (.int .i64 q.t) := HBx.out 0 _ rfl
        have qc1 : w4.cell? ⟨Bx, 1, none⟩ = some (.int .i64 q.i) := HBx.out 1 _ rfl
        have qc2 : w4.cell? ⟨Bx, 2, none⟩ = some (.int .i64 q.p) := HBx.out 2 _ rfl
        have qc3 : w4.cell? ⟨Bx, 3, none⟩ = some (.int .i64 q.r) := HBx.out 3 _ rfl
        have qc4 : w4.cell? ⟨Bx, 4, none⟩ = some (.string q.s) := HBx.out 4 _ rfl
        have qc5 : w4.cell? ⟨Bx, 5, none⟩ = some (.string q.o) := HBx.out 5 _ rfl
        have qc6 : w4.cell? ⟨Bx, 6, none⟩ = some (.int .i64 q.b) := HBx.out 6 _ rfl
        have qc7 : w4.cell? ⟨Bx, 7, none⟩ = some (.int .i64 q.d) := HBx.out 7 _ rfl
        have qc8 : w4.cell? ⟨Bx, 8, none⟩ = some (.bool q.g) := HBx.out 8 _ rfl
        go_wp2_with fail
        refine (Find A2 c2 M q w4 HS4.out).mono ?_
        rintro e w5 ⟨rfl, hf⟩
        have HF5 := Lib.hid hf
        have HBx5 := Lib.hid (HBx.out.keep hf)
        have HO5 := Lib.hid (ownsRow_fr HO4.out hf (fun _ _ h => h))
        have HS5 := Lib.hid (HS4.out.fr hf (fun _ _ h => h))
        have HB5 := Lib.hid (HB4.out.trans (hf.below HB4.out.size (fun _ _ h => h)))
        clear hf HBx HO4 HS4 HB4 HF4 HF5 qc0 qc1 qc2 qc3 qc4 qc5 qc6 qc7 qc8
        cases hfn : fnd q M with
        | none =>
          have HE : Hid (setOf (L.take (k + 1)) = ins q M) := by show _ = _; rw [HSn.out, Newest.put_none HQ.out HMb.out hfn]
          rw [posI_none hfn]
          clear hfn
          go_upto_region 8 with (fail)
          refine rs8n (by kernel_rfl) _ _ w5 w5 (Fr.refl _ _) rfl rfl ?_
          intro x w6 h36 hf
          simp only [Eng.setAll, Act.put, List.setIfInBounds_toArray, List.set_cons_succ, List.set_cons_zero]
          rw [h36]
          have HO6 := Lib.hid (ownsRow_fr HO5.out hf (fun _ _ h => h))
          have HS6 := Lib.hid (HS5.out.fr hf (fun _ _ h => h))
          have HB6 := Lib.hid (HB5.out.trans (hf.below HB5.out.size (fun _ _ h => h)))
          have HBx6 := Lib.hid (HBx5.out.keep hf)
          have hsz6 : w.heap.size ≤ w6.heap.size := HB6.out.size
          clear hf h36
          have qc0 : w6.cell? ⟨Bx, 0, none⟩ = some (.int .i64 q.t) := HBx6.out 0 _ rfl
          have qc1 : w6.cell? ⟨Bx, 1, none⟩ = some (.int .i64 q.i) := HBx6.out 1 _ rfl
          have qc2 : w6.cell? ⟨Bx, 2, none⟩ = some (.int .i64 q.p) := HBx6.out 2 _ rfl
          have qc3 : w6.cell? ⟨Bx, 3, none⟩ = some (.int .i64 q.r) := HBx6.out 3 _ rfl
          have qc4 : w6.cell? ⟨Bx, 4, none⟩ = some (.string q.s) := HBx6.out 4 _ rfl
          have qc5 : w6.cell? ⟨Bx, 5, none⟩ = some (.string q.o) := HBx6.out 5 _ rfl
          have qc6 : w6.cell? ⟨Bx, 6, none⟩ = some (.int .i64 q.b) := HBx6.out 6 _ rfl
          have qc7 : w6.cell? ⟨Bx, 7, none⟩ = some (.int .i64 q.d) := HBx6.out 7 _ rfl
          have qc8 : w6.cell? ⟨Bx, 8, none⟩ = some (.bool q.g) := HBx6.out 8 _ rfl
          go_wp2_with fail
          refine (InsertB _ c2 M q w6 HS6.out HMl.out).mono ?_
          rintro e w7 ⟨v, rfl, hown, hbel⟩
          have HO7 := Lib.hid (ownsRow_base hown hsz6); have HB7 := Lib.hid (HB6.out.trans (hbel.mono hsz6))
          clear hown hbel qc0 qc1 qc2 qc3 qc4 qc5 qc6 qc7 qc8
          go_wp2_with fail
          go_roundg (L.length - (k + 1))
          case rel => exact ⟨k + 1, by go_num, by omega, rfl, by rw [HE.out]; exact HO7.out, HB7.out⟩
          case measure => have := HG.out; omega
        | some z =>
          have HNo : Hid (nwr q z = false → setOf (L.take (k + 1)) = M) := fun h => by rw [HSn.out, Newest.put_old HQ.out HMb.out hfn h]
          have HYe : Hid (nwr q z = true → setOf (L.take (k + 1)) = ins q M) := fun h => by rw [HSn.out, Newest.put_new HQ.out HMb.out hfn h]
          obtain ⟨j, hj, hp, hz⟩ := posI_some hfn
          have HZ := Lib.hid (HMk.out z (fnd_some hfn).1)
          rw [hp]
          clear hfn hp
          obtain ⟨b2, o2, rfl, hb2, c3⟩ := HS5.out.at hj (by omega)
          have HA5 := Lib.hid (At.row c3 hj)
          rw [hz] at HA5
          clear c3 hz hb2
          have hml : M.length ≤ 9223372036854775807 := by have := HMl.out; omega
          go_upto_region 8 with (fail)
          refine rs8 (by kernel_rfl) _ _ w5 w5 b2 o2 _ c2 j Bx q z HT.out HZ.out ⟨HA5.out, HBx5.out, Fr.refl _ _⟩ hj hml rfl rfl rfl rfl ?_
          intro x w6 h36 hst
          simp only [Eng.setAll, Act.put, List.setIfInBounds_toArray, List.set_cons_succ, List.set_cons_zero]
          rw [h36]
          have hf := hst.f
          clear hst
          cases hn : nwr q z with
          | true =>
            have HE := Lib.hid (HYe.out hn)
            clear hn
            have HO6 := Lib.hid (ownsRow_fr HO5.out hf (fun _ _ h => h))
            have HS6 := Lib.hid (HS5.out.fr hf (fun _ _ h => h))
            have HB6 := Lib.hid (HB5.out.trans (hf.below HB5.out.size (fun _ _ h => h)))
            have HBx6 := Lib.hid (HBx5.out.keep hf)
            have hsz6 : w.heap.size ≤ w6.heap.size := HB6.out.size
            clear hf h36
            have qc0 : w6.cell? ⟨Bx, 0, none⟩ = some (.int .i64 q.t) := HBx6.out 0 _ rfl
            have qc1 : w6.cell? ⟨Bx, 1, none⟩ = some (.int .i64 q.i) := HBx6.out 1 _ rfl
            have qc2 : w6.cell? ⟨Bx, 2, none⟩ = some (.int .i64 q.p) := HBx6.out 2 _ rfl
            have qc3 : w6.cell? ⟨Bx, 3, none⟩ = some (.int .i64 q.r) := HBx6.out 3 _ rfl
            have qc4 : w6.cell? ⟨Bx, 4, none⟩ = some (.string q.s) := HBx6.out 4 _ rfl
            have qc5 : w6.cell? ⟨Bx, 5, none⟩ = some (.string q.o) := HBx6.out 5 _ rfl
            have qc6 : w6.cell? ⟨Bx, 6, none⟩ = some (.int .i64 q.b) := HBx6.out 6 _ rfl
            have qc7 : w6.cell? ⟨Bx, 7, none⟩ = some (.int .i64 q.d) := HBx6.out 7 _ rfl
            have qc8 : w6.cell? ⟨Bx, 8, none⟩ = some (.bool q.g) := HBx6.out 8 _ rfl
            go_wp2_with fail
            refine (InsertB _ c2 M q w6 HS6.out HMl.out).mono ?_
            rintro e w7 ⟨v, rfl, hown, hbel⟩
            have HO7 := Lib.hid (ownsRow_base hown hsz6); have HB7 := Lib.hid (HB6.out.trans (hbel.mono hsz6))
            clear hown hbel qc0 qc1 qc2 qc3 qc4 qc5 qc6 qc7 qc8
            go_wp2_with fail
            go_roundg (L.length - (k + 1))
            case rel => exact ⟨k + 1, by go_num, by omega, rfl, by rw [HE.out]; exact HO7.out, HB7.out⟩
            case measure => have := HG.out; omega
          | false =>
            have HE := Lib.hid (HNo.out hn)
            clear hn
            have HO6 := Lib.hid (ownsRow_fr HO5.out hf (fun _ _ h => h))
            have HB6 := Lib.hid (HB5.out.trans (hf.below HB5.out.size (fun _ _ h => h)))
            clear hf
            go_wp2_with fail
            go_roundg (L.length - (k + 1))
            case rel => exact ⟨k + 1, by go_num, by omega, rfl, by rw [HE.out]; exact HO6.out, HB6.out⟩
            case measure => have := HG.out; omega
    · obtain rfl : k = L.length := by omega
      have q2 : decide ((L.length : Int) < (L.length : Int)) = false := by simp
      rw [List.take_length] at HO
      obtain ⟨A2, c2, rfl, hs2, -⟩ := Sl.of_own HO.out
      have HS2 := Lib.hid hs2
      clear hs2
      go_wp2_with fail
      go_ret
      exact ⟨A2, c2, rfl, ⟨HS2.out, HOk.out⟩, HO.out, HB.out⟩
end SetF
end Go.Proofs.Ytmcghchhegfilaa
