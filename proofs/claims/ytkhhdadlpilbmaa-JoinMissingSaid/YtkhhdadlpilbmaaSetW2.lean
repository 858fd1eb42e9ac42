/- Sets of records, the document's: one more, without some. -/
import Derived.Test.YtkhhdadlpilbmaaSetW
namespace Go.Proofs.Ytkhhdadlpilbmaa
open Go.RowKit
namespace SetW
open SetP
theorem takeWhile_app' {p : Sn → Bool} : ∀ {A B : List Sn}, (∀ q ∈ A, p q = true) → (A ++ B).takeWhile p = A ++ B.takeWhile p
  | [], _, _ => rfl
  | a :: A, B, h => by
    rw [List.cons_append, List.takeWhile_cons, h a (by simp), takeWhile_app' (fun q hq => h q (by simp [hq]))]; rfl
theorem takeWhile_take' {p : Sn → Bool} {L : List Sn} {j : Nat} (h1 : ∀ y ∈ L.take j, p y = true) (h2 : ∀ h : j < L.length, p L[j] = false) : L.takeWhile p = L.take j := by
  have h4 : (L.drop j).takeWhile p = [] := by
    by_cases hl : j < L.length
    · rw [List.drop_eq_getElem_cons hl, List.takeWhile_cons, h2 hl]; rfl
    · rw [List.drop_eq_nil_of_le (by omega)]; rfl
  have h5 := takeWhile_app' (p := p) (A := L.take j) (B := L.drop j) h1
  rw [List.take_append_drop, h4, List.append_nil] at h5
  exact h5
theorem filter_snoc {p : Sn → Bool} {L : List Sn} {k : Nat} (h : k < L.length) : (L.take (k + 1)).filter p = (L.take k).filter p ++ if p L[k] then [L[k]] else [] := by
  rw [List.take_succ_eq_append_getElem h, List.filter_append]
  congr 1
  by_cases hp : p L[k] = true <;> simp [hp]
def OwnPost (M : List Sn) (w : World) (e : Ending) (w' : World) : Prop := ∃ v, e = .returned v ∧ w'.ownsRow w.heap.size TSn 9 v M.length (M.flatMap scs) ∧ Below w.heap.size w w'
set_option maxRecDepth 100000 in
set_option maxHeartbeats 1000000 in
theorem Insert (A : Option Addr) (c : Nat) (L : List Sn) (z : Sn) (w : World) (hS : Sl w 9 A L.length c (L.flatMap scs)) (hlen : L.length ≤ 1000000) :
    Calls Try.prog 73 #[.slice A L.length c, z.v] w (OwnPost (ins z L) w) := by
  obtain ⟨i0, hi, hz0, hz1, hz2⟩ := info_parts infoS
  have HIns : Hid (ins z L = L.takeWhile (bef · z) ++ z :: L.filter (bef z ·)) := rfl
  have HTl := Lib.hid ((List.takeWhile_sublist (p := (bef · z)) (l := L)).length_le)
  have HS := Lib.hid hS
  have HB : Hid (CS w (w.alloc (.cells z.arr TSn)) w.heap.size z (.slice none 0 0) []) := ⟨World.ownsRow_nil _ _ _ _, (Below.refl _ _).alloc (Nat.le_refl _) _, At.box (Bk.new w z.arr TSn), by simp, Nat.le_refl _⟩
  have HQ : Hid (∀ e w' M, OwnPost M w e w' → M = ins z L → OwnPost (ins z L) w e w') := fun e w' M h hm => hm ▸ h
  clear hS
  go_enter Try.func73, Try.ntmps73
  go_upto_block 0 with (fail)
  go_cut [5] (fun v wc => CS w wc w.heap.size z v (L.takeWhile (bef · z)))
  case first =>
    go_wp2_with fail
    go_loopg [5, 6] L.length (fun gk v i wr => ∃ k : Nat, i = .int .i64 k ∧ k ≤ L.length ∧ gk = L.length - k ∧ (∀ y ∈ L.take k, bef y z = true) ∧ CS w wr w.heap.size z v (L.take k))
    case atStart => exact ⟨0, rfl, Nat.zero_le _, rfl, by simp, HB.out⟩
    case round =>
      obtain ⟨k, rfl, hk, hg, hlo, hst⟩ := hrel
      have HG := Lib.hid hg; have HLo := Lib.hid hlo; have HSt := Lib.hid hst
      clear hg hlo hst
      by_cases hlt : k < L.length
      · obtain ⟨b1, o1, rfl, hb1, c1⟩ := HS.out.at hlt (by omega)
        have HA := Lib.hid ((At.row c1 hlt).fr (Fr.of_below' HSt.out.bel (fun _ => False)) (fun h => h))
        clear c1 hb1
        have HW : Hid (bef L[k] z = false → L.takeWhile (bef · z) = L.take k) := fun h => takeWhile_take' HLo.out (fun _ => h)
        have HSn := Lib.hid (List.take_succ_eq_append_getElem hlt)
        generalize hy : L[k] = y at *
        have HY := Lib.hid hy
        clear hy
        have hlen' : L.length ≤ 9223372036854775807 := by omega
        go_upto_region 3 with (fail)
        refine n3 (by kernel_rfl) _ _ wr wr b1 o1 _ c k _ y z ⟨HA.out, HSt.out.box, Fr.refl _ _⟩ hlt hlen' rfl rfl rfl rfl ?_
        intro x w2 h17 hst
        simp only [Eng.setAll, Act.put, List.setIfInBounds_toArray, List.set_cons_succ, List.set_cons_zero]
        rw [h17]
        have HSt2 := Lib.hid (HSt.out.fr hst.f); have HA2 := Lib.hid hst.a
        clear h17 hst
        cases h1 : bef y z with
        | true =>
          have hown1' := HSt2.out.own.alloc (.cells y.arr TSn)
          have hsz := HSt2.out.sz
          rw [show (L.take k).length = k by rw [List.length_take]; omega] at hown1'
          have HE : Hid (∀ q ∈ L.take (k + 1), bef q z = true) := fun q hq => by
            rw [HSn.out, List.mem_append] at hq
            rcases hq with hq | hq
            · exact HLo.out q hq
            · simp at hq; rw [hq]; exact h1
          clear h1
          have yc0 : w2.cell? ⟨b1, o1 + k * 9, none⟩ = some (.int .i64 y.t) := HA2.out 0 _ rfl
          have yc1 : w2.cell? ⟨b1, o1 + k * 9 + 1, none⟩ = some (.int .i64 y.i) := HA2.out 1 _ rfl
          have yc2 : w2.cell? ⟨b1, o1 + k * 9 + 1 + 1, none⟩ = some (.int .i64 y.p) := HA2.out 2 _ rfl
          have yc3 : w2.cell? ⟨b1, o1 + k * 9 + 1 + 1 + 1, none⟩ = some (.int .i64 y.r) := HA2.out 3 _ rfl
          have yc4 : w2.cell? ⟨b1, o1 + k * 9 + 1 + 1 + 1 + 1, none⟩ = some (.string y.s) := HA2.out 4 _ rfl
          have yc5 : w2.cell? ⟨b1, o1 + k * 9 + 1 + 1 + 1 + 1 + 1, none⟩ = some (.string y.o) := HA2.out 5 _ rfl
          have yc6 : w2.cell? ⟨b1, o1 + k * 9 + 1 + 1 + 1 + 1 + 1 + 1, none⟩ = some (.int .i64 y.b) := HA2.out 6 _ rfl
          have yc7 : w2.cell? ⟨b1, o1 + k * 9 + 1 + 1 + 1 + 1 + 1 + 1 + 1, none⟩ = some (.int .i64 y.d) := HA2.out 7 _ rfl
          have yc8 : w2.cell? ⟨b1, o1 + k * 9 + 1 + 1 + 1 + 1 + 1 + 1 + 1 + 1, none⟩ = some (.bool y.g) := HA2.out 8 _ rfl
          go_wp2_with (at_builtin; refine wpList_append_sl _ rfl (.tmp 22) (.tmp 27) TSs rfl (w.heap.size + 1) TSn i0 (.agg #[.int .i64 0, .int .i64 0, .int .i64 0, .int .i64 0, .string ByteArray.empty, .string ByteArray.empty, .int .i64 0, .int .i64 0, .bool false]) 9 88 Try.underlying34 hi hz0 hz1 hz2 rfl (by decide) _ _ _ rfl hown1' _ _ _ _ rfl (Sl.one w2 TSn (scs y) 9 rfl) (by simp [Value.oneCell']) ?_ ?_ ?_ ?_)
          · unfold maxLen; omega
          · omega
          · first | omega | (simp; omega)
          intro v1 w1 hown1 hgrow1
          have HC := Lib.hid (HSt2.out.add (by rw [show (L.take k).length = k by rw [List.length_take]; omega]; exact hown1) hgrow1)
          clear hown1 hgrow1 hown1' yc0 yc1 yc2 yc3 yc4 yc5 yc6 yc7 yc8
          go_wp2_with fail
          go_roundg (L.length - (k + 1))
          case rel => exact ⟨k + 1, by go_num, by omega, rfl, HE.out, by rw [HSn.out]; exact HC.out⟩
          case measure => have := HG.out; omega
        | false =>
          have HE := Lib.hid (HW.out h1)
          clear h1
          go_wp2_with fail
          go_meet
          rw [HE.out]; exact HSt2.out
      · obtain rfl : k = L.length := by omega
        have HE : Hid (L.takeWhile (bef · z) = L.take L.length) := takeWhile_take' HLo.out (fun h => absurd h (by omega))
        go_upto_region 3 with (fail)
        refine n3e (by kernel_rfl) _ _ wr wr A L.length c (Fr.refl _ _) rfl rfl rfl ?_
        intro x w2 h17 hf
        simp only [Eng.setAll, Act.put, List.setIfInBounds_toArray, List.set_cons_succ, List.set_cons_zero]
        rw [h17]
        have HSt2 := Lib.hid (HSt.out.fr hf)
        clear h17 hf
        go_wp2_with fail
        go_meet
        rw [HE.out]; exact HSt2.out
  case rest =>
    have HC := Lib.hid hcut
    clear hcut HB
    generalize hP : L.takeWhile (bef · z) = P at *
    have hPl := HTl.out
    clear hP
    have hown1' := HC.out.own.alloc (.cells z.arr TSn)
    have hsz := HC.out.sz
    have zc0 : wc.cell? ⟨w.heap.size, 0, none⟩ = some (.int .i64 z.t) := HC.out.box 0 _ rfl
    have zc1 : wc.cell? ⟨w.heap.size, 1, none⟩ = some (.int .i64 z.i) := HC.out.box 1 _ rfl
    have zc2 : wc.cell? ⟨w.heap.size, 2, none⟩ = some (.int .i64 z.p) := HC.out.box 2 _ rfl
    have zc3 : wc.cell? ⟨w.heap.size, 3, none⟩ = some (.int .i64 z.r) := HC.out.box 3 _ rfl
    have zc4 : wc.cell? ⟨w.heap.size, 4, none⟩ = some (.string z.s) := HC.out.box 4 _ rfl
    have zc5 : wc.cell? ⟨w.heap.size, 5, none⟩ = some (.string z.o) := HC.out.box 5 _ rfl
    have zc6 : wc.cell? ⟨w.heap.size, 6, none⟩ = some (.int .i64 z.b) := HC.out.box 6 _ rfl
    have zc7 : wc.cell? ⟨w.heap.size, 7, none⟩ = some (.int .i64 z.d) := HC.out.box 7 _ rfl
    have zc8 : wc.cell? ⟨w.heap.size, 8, none⟩ = some (.bool z.g) := HC.out.box 8 _ rfl
    go_wp2_with (at_builtin; refine wpList_append_sl _ rfl (.tmp 29) (.tmp 31) TSs rfl (w.heap.size + 1) TSn i0 (.agg #[.int .i64 0, .int .i64 0, .int .i64 0, .int .i64 0, .string ByteArray.empty, .string ByteArray.empty, .int .i64 0, .int .i64 0, .bool false]) 9 88 Try.underlying34 hi hz0 hz1 hz2 rfl (by decide) _ _ _ rfl hown1' _ _ _ _ rfl (Sl.one wc TSn (scs z) 9 rfl) (by simp [Value.oneCell']) ?_ ?_ ?_ ?_)
    · unfold maxLen; omega
    · omega
    · first | omega | (simp; omega)
    intro v1 w1 hown1 hgrow1
    have HC1 := Lib.hid (HC.out.add hown1 hgrow1)
    clear hown1 hgrow1 hown1' HC zc0 zc1 zc2 zc3 zc4 zc5 zc6 zc7 zc8 hsz
    go_wp2_with fail
    go_loopg [5, 7] L.length (fun gk v i wr => ∃ k : Nat, i = .int .i64 k ∧ k ≤ L.length ∧ gk = L.length - k ∧ CS w wr w.heap.size z v ((P ++ [z]) ++ (L.take k).filter (bef z ·)))
    case atStart => exact ⟨0, rfl, Nat.zero_le _, rfl, by simpa using HC1.out⟩
    case round =>
      clear HC1
      obtain ⟨k, rfl, hk, hg, hst⟩ := hrel
      have HG := Lib.hid hg; have HSt := Lib.hid hst
      clear hg hst
      by_cases hlt : k < L.length
      · obtain ⟨b1, o1, rfl, hb1, c1⟩ := HS.out.at hlt (by omega)
        have HA := Lib.hid ((At.row c1 hlt).fr (Fr.of_below' HSt.out.bel (fun _ => False)) (fun h => h))
        clear c1 hb1
        have HSn := Lib.hid (filter_snoc (p := (bef z ·)) hlt)
        have hfl : ((L.take k).filter (bef z ·)).length ≤ k := Nat.le_trans (List.length_filter_le _ _) (by rw [List.length_take]; omega)
        have hlen2 : ((P ++ [z]) ++ (L.take k).filter (bef z ·)).length ≤ 2 * L.length + 1 := by simp only [List.length_append, List.length_singleton]; omega
        clear hfl
        generalize L[k] = y at *
        generalize hM : (P ++ [z]) ++ (L.take k).filter (bef z ·) = M at *
        have HM := Lib.hid hM
        clear hM
        go_upto_region 10 with (fail)
        refine n10 (by kernel_rfl) _ _ wr wr b1 o1 _ c k _ y z ⟨HA.out, HSt.out.box, Fr.refl _ _⟩ hlt (by omega) rfl rfl rfl rfl ?_
        intro x w2 h17 hst
        simp only [Eng.setAll, Act.put, List.setIfInBounds_toArray, List.set_cons_succ, List.set_cons_zero]
        rw [h17]
        have HSt2 := Lib.hid (HSt.out.fr hst.f); have HA2 := Lib.hid hst.a
        clear h17 hst
        cases h1 : bef z y with
        | true =>
          have hown1' := HSt2.out.own.alloc (.cells y.arr TSn)
          have hsz := HSt2.out.sz
          have HE : Hid (P ++ [z] ++ (L.take (k + 1)).filter (bef z ·) = M ++ [y]) := by show _ = _; rw [HSn.out, h1, if_pos rfl, ← List.append_assoc, HM.out]
          clear h1
          have yc0 : w2.cell? ⟨b1, o1 + k * 9, none⟩ = some (.int .i64 y.t) := HA2.out 0 _ rfl
          have yc1 : w2.cell? ⟨b1, o1 + k * 9 + 1, none⟩ = some (.int .i64 y.i) := HA2.out 1 _ rfl
          have yc2 : w2.cell? ⟨b1, o1 + k * 9 + 1 + 1, none⟩ = some (.int .i64 y.p) := HA2.out 2 _ rfl
          have yc3 : w2.cell? ⟨b1, o1 + k * 9 + 1 + 1 + 1, none⟩ = some (.int .i64 y.r) := HA2.out 3 _ rfl
          have yc4 : w2.cell? ⟨b1, o1 + k * 9 + 1 + 1 + 1 + 1, none⟩ = some (.string y.s) := HA2.out 4 _ rfl
          have yc5 : w2.cell? ⟨b1, o1 + k * 9 + 1 + 1 + 1 + 1 + 1, none⟩ = some (.string y.o) := HA2.out 5 _ rfl
          have yc6 : w2.cell? ⟨b1, o1 + k * 9 + 1 + 1 + 1 + 1 + 1 + 1, none⟩ = some (.int .i64 y.b) := HA2.out 6 _ rfl
          have yc7 : w2.cell? ⟨b1, o1 + k * 9 + 1 + 1 + 1 + 1 + 1 + 1 + 1, none⟩ = some (.int .i64 y.d) := HA2.out 7 _ rfl
          have yc8 : w2.cell? ⟨b1, o1 + k * 9 + 1 + 1 + 1 + 1 + 1 + 1 + 1 + 1, none⟩ = some (.bool y.g) := HA2.out 8 _ rfl
          go_wp2_with (at_builtin; refine wpList_append_sl _ rfl (.tmp 45) (.tmp 50) TSs rfl (w.heap.size + 1) TSn i0 (.agg #[.int .i64 0, .int .i64 0, .int .i64 0, .int .i64 0, .string ByteArray.empty, .string ByteArray.empty, .int .i64 0, .int .i64 0, .bool false]) 9 88 Try.underlying34 hi hz0 hz1 hz2 rfl (by decide) _ _ _ rfl hown1' _ _ _ _ rfl (Sl.one w2 TSn (scs y) 9 rfl) (by simp [Value.oneCell']) ?_ ?_ ?_ ?_)
          · unfold maxLen; omega
          · omega
          · first | omega | (simp; omega)
          intro v1 w1 hown1 hgrow1
          have HC := Lib.hid (HSt2.out.add hown1 hgrow1)
          clear hown1 hgrow1 hown1' yc0 yc1 yc2 yc3 yc4 yc5 yc6 yc7 yc8
          go_wp2_with fail
          go_roundg (L.length - (k + 1))
          case rel => exact ⟨k + 1, by go_num, by omega, rfl, by rw [HE.out]; exact HC.out⟩
          case measure => have := HG.out; omega
        | false =>
          have HE : Hid (P ++ [z] ++ (L.take (k + 1)).filter (bef z ·) = M) := by show _ = _; rw [HSn.out, h1, if_neg (by simp), List.append_nil, HM.out]
          clear h1
          go_wp2_with fail
          go_roundg (L.length - (k + 1))
          case rel => exact ⟨k + 1, by go_num, by omega, rfl, by rw [HE.out]; exact HSt2.out⟩
          case measure => have := HG.out; omega
      · obtain rfl : k = L.length := by omega
        have HE : Hid (P ++ [z] ++ (L.take L.length).filter (bef z ·) = ins z L) := by show _ = _; rw [HIns.out, List.take_length]; simp
        have HO := Lib.hid HSt.out.own
        rw [HE.out] at HO
        obtain ⟨A2, c2, rfl, -, -⟩ := Sl.of_own HO.out
        have HBl := Lib.hid HSt.out.bel
        clear HE HSt
        go_wp2_with fail
        go_ret
        exact ⟨_, rfl, ownsRow_base HO.out (by omega), HBl.out⟩
/-- Records without some. -/
def wout (M L : List Sn) : List Sn := L.filter (fun y => !decide (y ∈ M))
set_option maxRecDepth 100000 in
set_option maxHeartbeats 1000000 in
theorem Without (A A1 : Option Addr) (c c1 : Nat) (L M : List Sn) (w : World) (hS : Sl w 9 A L.length c (L.flatMap scs)) (hS1 : Sl w 9 A1 M.length c1 (M.flatMap scs)) (hlen : L.length ≤ 1000000) :
    Calls Try.prog 69 #[.slice A L.length c, .slice A1 M.length c1] w (OwnPost (wout M L) w) := by
  obtain ⟨i0, hi, hz0, hz1, hz2⟩ := info_parts infoS
  have HS := Lib.hid hS; have HS1 := Lib.hid hS1
  clear hS hS1
  have HQ : Hid (∀ e w' N, OwnPost N w e w' → N = wout M L → OwnPost (wout M L) w e w') := fun e w' M h hm => hm ▸ h
  go_enter Try.func69, Try.ntmps69
  go_wp2_with fail
  go_loopg [5, 6] L.length (fun gk v i wr => ∃ k : Nat, i = .int .i64 k ∧ k ≤ L.length ∧ gk = L.length - k ∧ wr.ownsRow w.heap.size TSn 9 v (wout M (L.take k)).length ((wout M (L.take k)).flatMap scs) ∧ Below w.heap.size w wr)
  case atStart => exact ⟨0, rfl, Nat.zero_le _, rfl, World.ownsRow_nil _ _ _ _, Below.refl _ _⟩
  case round =>
    obtain ⟨k, rfl, hk, hg, hown, hbel⟩ := hrel
    have HG := Lib.hid hg; have HO := Lib.hid hown; have HBe := Lib.hid hbel
    have hszw : w.heap.size ≤ wr.heap.size := hbel.size
    clear hg hown hbel
    by_cases hlt : k < L.length
    · obtain ⟨b1, o1, rfl, hb1, c1⟩ := HS.out.at hlt (by omega)
      have HA := Lib.hid ((At.row c1 hlt).fr (Fr.of_below' HBe.out (fun _ => False)) (fun h => h))
      have HIn := Lib.hid (In A1 _ M L[k] wr (HS1.out.fr (Fr.of_below' HBe.out (fun _ => False)) (fun _ _ h => h)))
      have hfl : (wout M (L.take k)).length ≤ k := Nat.le_trans (List.length_filter_le _ _) (by rw [List.length_take]; omega)
      have HSn := Lib.hid (show wout M (L.take (k + 1)) = wout M (L.take k) ++ _ from filter_snoc (p := fun y => !decide (y ∈ M)) hlt)
      clear c1 hb1
      generalize L[k] = y at *
      generalize wout M (L.take k) = N at *
      have yc0 : wr.cell? ⟨b1, o1 + k * 9, none⟩ = some (.int .i64 y.t) := HA.out 0 _ rfl
      have yc1 : wr.cell? ⟨b1, o1 + k * 9 + 1, none⟩ = some (.int .i64 y.i) := HA.out 1 _ rfl
      have yc2 : wr.cell? ⟨b1, o1 + k * 9 + 1 + 1, none⟩ = some (.int .i64 y.p) := HA.out 2 _ rfl
      have yc3 : wr.cell? ⟨b1, o1 + k * 9 + 1 + 1 + 1, none⟩ = some (.int .i64 y.r) := HA.out 3 _ rfl
      have yc4 : wr.cell? ⟨b1, o1 + k * 9 + 1 + 1 + 1 + 1, none⟩ = some (.string y.s) := HA.out 4 _ rfl
      have yc5 : wr.cell? ⟨b1, o1 + k * 9 + 1 + 1 + 1 + 1 + 1, none⟩ = some (.string y.o) := HA.out 5 _ rfl
      have yc6 : wr.cell? ⟨b1, o1 + k * 9 + 1 + 1 + 1 + 1 + 1 + 1, none⟩ = some (.int .i64 y.b) := HA.out 6 _ rfl
      have yc7 : wr.cell? ⟨b1, o1 + k * 9 + 1 + 1 + 1 + 1 + 1 + 1 + 1, none⟩ = some (.int .i64 y.d) := HA.out 7 _ rfl
      have yc8 : wr.cell? ⟨b1, o1 + k * 9 + 1 + 1 + 1 + 1 + 1 + 1 + 1 + 1, none⟩ = some (.bool y.g) := HA.out 8 _ rfl
      go_wp2_with fail
      refine HIn.out.mono ?_
      rintro e w2 ⟨rfl, hf⟩
      have HF := Lib.hid hf; have HA2 := Lib.hid (HA.out.keep hf)
      have hsz2 : w.heap.size ≤ w2.heap.size := Nat.le_trans hszw hf.size
      clear hf HIn yc0 yc1 yc2 yc3 yc4 yc5 yc6 yc7 yc8
      by_cases h1 : y ∈ M
      · have HE : Hid (wout M (L.take (k + 1)) = N) := by show _ = _; rw [HSn.out]; simp [h1]
        rw [decide_eq_true h1]
        clear h1
        go_wp2_with fail
        go_roundg (L.length - (k + 1))
        case rel => exact ⟨k + 1, by go_num, by omega, rfl, by rw [HE.out]; exact ownsRow_fr HO.out HF.out (fun _ _ h => h), HBe.out.trans (HF.out.below hszw (fun _ _ h => h))⟩
        case measure => have := HG.out; omega
      · have HE : Hid (wout M (L.take (k + 1)) = N ++ [y]) := by show _ = _; rw [HSn.out]; simp [h1]
        rw [decide_eq_false h1]
        have hown1' := (ownsRow_fr HO.out HF.out (fun _ _ h => h)).alloc (.cells y.arr TSn)
        have HK1 := Lib.hid (ownsRow_blk HO.out)
        clear h1
        have yc0 : w2.cell? ⟨b1, o1 + k * 9, none⟩ = some (.int .i64 y.t) := HA2.out 0 _ rfl
        have yc1 : w2.cell? ⟨b1, o1 + k * 9 + 1, none⟩ = some (.int .i64 y.i) := HA2.out 1 _ rfl
        have yc2 : w2.cell? ⟨b1, o1 + k * 9 + 1 + 1, none⟩ = some (.int .i64 y.p) := HA2.out 2 _ rfl
        have yc3 : w2.cell? ⟨b1, o1 + k * 9 + 1 + 1 + 1, none⟩ = some (.int .i64 y.r) := HA2.out 3 _ rfl
        have yc4 : w2.cell? ⟨b1, o1 + k * 9 + 1 + 1 + 1 + 1, none⟩ = some (.string y.s) := HA2.out 4 _ rfl
        have yc5 : w2.cell? ⟨b1, o1 + k * 9 + 1 + 1 + 1 + 1 + 1, none⟩ = some (.string y.o) := HA2.out 5 _ rfl
        have yc6 : w2.cell? ⟨b1, o1 + k * 9 + 1 + 1 + 1 + 1 + 1 + 1, none⟩ = some (.int .i64 y.b) := HA2.out 6 _ rfl
        have yc7 : w2.cell? ⟨b1, o1 + k * 9 + 1 + 1 + 1 + 1 + 1 + 1 + 1, none⟩ = some (.int .i64 y.d) := HA2.out 7 _ rfl
        have yc8 : w2.cell? ⟨b1, o1 + k * 9 + 1 + 1 + 1 + 1 + 1 + 1 + 1 + 1, none⟩ = some (.bool y.g) := HA2.out 8 _ rfl
        go_wp2_with (at_builtin; refine wpList_append_sl _ rfl (.tmp 20) (.tmp 25) TSs rfl w.heap.size TSn i0 (.agg #[.int .i64 0, .int .i64 0, .int .i64 0, .int .i64 0, .string ByteArray.empty, .string ByteArray.empty, .int .i64 0, .int .i64 0, .bool false]) 9 88 Try.underlying34 hi hz0 hz1 hz2 rfl (by decide) _ _ _ rfl hown1' _ _ _ _ rfl (Sl.one w2 TSn (scs y) 9 rfl) (by simp [Value.oneCell']) ?_ ?_ ?_ ?_)
        · unfold maxLen; omega
        · omega
        · first | omega | (simp; omega)
        intro v1 w1 hown1 hgrow1
        have HO1 := Lib.hid hown1; have HGr := Lib.hid hgrow1
        clear hown1 hgrow1 hown1' yc0 yc1 yc2 yc3 yc4 yc5 yc6 yc7 yc8
        go_wp2_with fail
        go_roundg (L.length - (k + 1))
        case rel => exact ⟨k + 1, by go_num, by omega, rfl, by rw [HE.out]; simpa using HO1.out, ((HBe.out.trans (HF.out.below hszw (fun _ _ h => h))).alloc hsz2 _).grown HGr.out (by simp; omega) (fun k e => (HK1.out k e).1)⟩
        case measure => have := HG.out; omega
    · obtain rfl : k = L.length := by omega
      rw [List.take_length] at HO
      obtain ⟨A2, c2, rfl, -, -⟩ := Sl.of_own HO.out
      go_wp2_with fail
      go_ret
      exact ⟨_, rfl, HO.out, HBe.out⟩
end SetW
end Go.Proofs.Ytkhhdadlpilbmaa
