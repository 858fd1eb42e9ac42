/- Records in another order: the document's. -/
import Derived.Test.YtdpngmgaomghoaaGreatSetFs
import Derived.Deep.CutBlock
import Derived.Deep.CutRange
import Derived.Deep.DeepCutAuto
namespace Go.Proofs.YtdpngmgaomghoaaGreat
open Go.RowKit
namespace Shuf
open KeyP PackP SetP SetW SetF
attribute [local go_sem] Eng.ev Eng.getO_cons Eng.getO_nil
/-- Numbers of a byte that came in. -/
structure By (w : World) (A : Option Addr) (c : Nat) (o : List Int) : Prop where
  s : Sl w 1 A o.length c (o.map (Value.int .u8))
  b : ∀ z ∈ o, 0 ≤ z ∧ z < 256
theorem By.below {w w' : World} {A : Option Addr} {c : Nat} {o : List Int} (h : By w A c o) (hb : Below w.heap.size w w') : By w' A c o := ⟨h.s.fr (Fr.of_below' hb (fun _ => False)) (fun _ _ h => h), h.b⟩
/-- Where the loop stands: what is left, what is out. -/
structure SS (w w' : World) (L N O : List Sn) (v u : Value) : Prop where
  n : w'.ownsRow w.heap.size TSn 9 v N.length (N.flatMap scs)
  o : w'.ownsRow w.heap.size TSn 9 u O.length (O.flatMap scs)
  d : ∀ b, v.ownBlock = some b → u.ownBlock ≠ some b
  b : Below w.heap.size w w'
  p : (O ++ N).Perm L
theorem SS.len {w w' : World} {L N O : List Sn} {v u : Value} (h : SS w w' L N O v u) : O.length + N.length = L.length := by
  have := h.p.length_eq
  rwa [List.length_append] at this
theorem perm_step {O N L : List Sn} (h : (O ++ N).Perm L) {k : Nat} (hk : k < N.length) : ((O ++ [N[k]]) ++ (N.take k ++ N.drop (k + 1))).Perm L := by
  refine List.Perm.trans ?_ h
  rw [List.append_assoc]
  refine List.Perm.append_left O ?_
  have e : N = N.take k ++ N[k] :: N.drop (k + 1) := by
    rw [← List.drop_eq_getElem_cons hk, List.take_append_drop]
  conv => rhs; rw [e]
  exact (List.perm_middle (l₁ := N.take k) (l₂ := N.drop (k + 1)) (a := N[k])).symm
theorem scs_one (L : List Sn) : ∀ u ∈ L.flatMap scs, u.oneCell' = true := cells_one L
set_option maxRecDepth 100000 in
set_option maxHeartbeats 4000000 in
theorem Shuffled (A A1 : Option Addr) (c c1 : Nat) (L : List Sn) (o : List Int) (w : World) (hS : Sl w 9 A L.length c (L.flatMap scs)) (ho : By w A1 c1 o) (hlen : L.length ≤ 1000000) :
    Calls Tryz.prog 18 #[.slice A L.length c, .slice A1 o.length c1] w fun e w' => ∃ S : List Sn, S.Perm L ∧ OwnPost S w e w' := by
  obtain ⟨i0, hi, hz0, hz1, hz2⟩ := info_parts infoS
  have hol : o.length ≤ 9223372036854775807 := by have := ho.s.2.1; have := ho.s.2.2.1; unfold maxLen at this; omega
  have HS := Lib.hid hS; have HOr := Lib.hid ho
  clear hS ho
  go_enter Tryz.func18, Tryz.ntmps18
  go_wp2_with (at_builtin; refine wpList_append_sl _ rfl (.tmp 10) (.tmp 11) TSs rfl w.heap.size TSn i0 (.agg #[.int .i64 0, .int .i64 0, .int .i64 0, .int .i64 0, .string ByteArray.empty, .string ByteArray.empty, .int .i64 0, .int .i64 0, .bool false]) 9 88 Tryz.underlying22 hi hz0 hz1 hz2 rfl (by decide) _ _ _ rfl (World.ownsRow_nil _ _ _ _) _ _ _ _ rfl HS.out (scs_one L) ?_ ?_ ?_ ?_)
  · unfold maxLen; omega
  · omega
  · exact Nat.le_refl _
  intro v1 w1 hown1 hgrow1
  have HW : Hid (SS w w1 L L [] v1 (.slice none 0 0)) := ⟨by simpa using hown1, World.ownsRow_nil _ _ _ _, fun b _ h => by simp [Value.ownBlock] at h, (Below.refl _ _).grown hgrow1 (Nat.le_refl _) (fun k e => by simp [Value.ownBlock] at e), by simp⟩
  clear hown1 hgrow1
  go_wp2_with fail
  go_loopg [5, 6, 7, 8, 9] L.length (fun gk v u s7 _ _ wr => ∃ (i : Nat) (N O : List Sn), s7 = .int .i64 i ∧ i = O.length ∧ gk = N.length ∧ SS w wr L N O v u)
  case atStart => exact ⟨0, L, [], rfl, rfl, rfl, HW.out⟩
  case round =>
    clear HW
    obtain ⟨i, N, O, rfl, hio, hg, hss⟩ := hrel
    have HG := Lib.hid hg; have HW := Lib.hid hss; have HIo := Lib.hid hio
    have hln := hss.len
    obtain ⟨AN, cN, hvN, hN, hNb⟩ := Sl.of_own hss.n
    subst hvN
    have HN := Lib.hid hN
    clear hg hss hio hN
    by_cases hlt : 0 < N.length
    · have q2 : decide ((N.length : Int) > 0) = true := by simp; omega
      obtain ⟨b1, o1, rfl, hb1, c1'⟩ := HN.out.at hlt (by omega)
      go_upto_if 20 with (fail)
      go_cut [8] (fun s8 wc => ∃ k : Nat, s8 = .int .i64 k ∧ k < N.length ∧ wc = wr)
      case first =>
        by_cases hol0 : o.length = 0
        · have q3 : decide ((o.length : Int) > 0) = false := by rw [hol0]; rfl
          go_wp2_with fail
          go_meet
          exact ⟨0, rfl, hlt, rfl⟩
        · have q3 : decide ((o.length : Int) > 0) = true := by simp; omega
          have him : i % o.length < o.length := Nat.mod_lt _ (by omega)
          obtain ⟨b2, o2, rfl, hb2, c2'⟩ := HOr.out.s.at him (by omega)
          have d2 : wr.cell? ⟨b2, o2 + i % o.length, none⟩ = some (.int .u8 o[i % o.length]) := (HW.out.b.cell (p := ⟨b2, _, none⟩) hb2).trans (c2' (i % o.length) _ (by simp [him]))
          have hz := HOr.out.b _ (List.getElem_mem him)
          clear c2'
          generalize o[i % o.length] = z at *
          obtain ⟨z0, z1⟩ := hz
          have q4 : (i : Int) % (o.length : Int) = ((i % o.length : Nat) : Int) := by simp
          obtain ⟨m, hm⟩ : ∃ m, i % o.length = m := ⟨_, rfl⟩
          rw [hm] at q4 d2 him
          clear hm
          obtain ⟨k, hk⟩ : ∃ k : Nat, z % (N.length : Int) = (k : Int) := ⟨(z % (N.length : Int)).toNat, by rw [Int.toNat_of_nonneg (Int.emod_nonneg _ (by omega))]⟩
          have hkl : k < N.length := by have := Int.emod_lt_of_pos z (show (0 : Int) < N.length by omega); omega
          have q5 : (0 : Int) ≤ (m : Int) := by omega
          have q6 : (m : Int) < (o.length : Int) := by omega
          have q7 : ¬ ((o.length : Int) = 0) := by omega
          have q8 : ¬ ((N.length : Int) = 0) := by omega
          go_wp2_with fail
          go_meet
          exact ⟨k, by rw [hk], hkl, rfl⟩
      case rest =>
        obtain ⟨k, rfl, hk, rfl⟩ := hcut
        have HA := Lib.hid (At.row (fun j u hu => by obtain ⟨b3, o3, e3, c3⟩ := HN.out.2.2.2.2 (fun e => by rw [e] at hu; simp at hu); cases e3; exact c3 j u hu) hk)
        have HPm := Lib.hid (perm_step HW.out.p hk)
        have hown1 := HW.out.o.alloc (.cells (N[k]).arr TSn)
        have HZw : w.heap.size ≤ wc.heap.size := HW.out.b.size
        clear c1' q2
        generalize N[k] = y at *
        have yc0 : wc.cell? ⟨b1, o1 + k * 9, none⟩ = some (.int .i64 y.t) := HA.out 0 _ rfl
        have yc1 : wc.cell? ⟨b1, o1 + k * 9 + 1, none⟩ = some (.int .i64 y.i) := HA.out 1 _ rfl
        have yc2 : wc.cell? ⟨b1, o1 + k * 9 + 1 + 1, none⟩ = some (.int .i64 y.p) := HA.out 2 _ rfl
        have yc3 : wc.cell? ⟨b1, o1 + k * 9 + 1 + 1 + 1, none⟩ = some (.int .i64 y.r) := HA.out 3 _ rfl
        have yc4 : wc.cell? ⟨b1, o1 + k * 9 + 1 + 1 + 1 + 1, none⟩ = some (.string y.s) := HA.out 4 _ rfl
        have yc5 : wc.cell? ⟨b1, o1 + k * 9 + 1 + 1 + 1 + 1 + 1, none⟩ = some (.string y.o) := HA.out 5 _ rfl
        have yc6 : wc.cell? ⟨b1, o1 + k * 9 + 1 + 1 + 1 + 1 + 1 + 1, none⟩ = some (.int .i64 y.b) := HA.out 6 _ rfl
        have yc7 : wc.cell? ⟨b1, o1 + k * 9 + 1 + 1 + 1 + 1 + 1 + 1 + 1, none⟩ = some (.int .i64 y.d) := HA.out 7 _ rfl
        have yc8 : wc.cell? ⟨b1, o1 + k * 9 + 1 + 1 + 1 + 1 + 1 + 1 + 1 + 1, none⟩ = some (.bool y.g) := HA.out 8 _ rfl
        have q1 : (0 : Int) ≤ (k : Int) := by omega
        have q2 : (k : Int) < (N.length : Int) := by omega
        go_wp2_with (at_builtin; refine wpList_append_sl _ rfl (.tmp 32) (.tmp 37) TSs rfl w.heap.size TSn i0 (.agg #[.int .i64 0, .int .i64 0, .int .i64 0, .int .i64 0, .string ByteArray.empty, .string ByteArray.empty, .int .i64 0, .int .i64 0, .bool false]) 9 88 Tryz.underlying22 hi hz0 hz1 hz2 rfl (by decide) _ _ _ rfl hown1 _ _ _ _ rfl (Sl.one wc TSn (scs y) 9 rfl) (by simp [Value.oneCell']) ?_ ?_ ?_ ?_)
        · unfold maxLen; omega
        · omega
        · first | omega | (simp; omega)
        intro v2 w2 hown2 hgrow2
        have hf2 : Fr (fun b => u6.ownBlock = some b) wc w2 := (Fr.alloc (fun _ => False) wc _).trans (Fr.grown hgrow2 (S := fun b => u6.ownBlock = some b) (fun _ h => h)) (fun _ _ h => h.elim) (fun _ _ h => h)
        have HN2 := Lib.hid (HN.out.fr hf2 (fun a ha e => by cases ha; exact HW.out.d b1 rfl e))
        have HO2 := Lib.hid hown2
        have hb2 : Below w.heap.size w w2 := HW.out.b.trans (hf2.below HZw (fun b hb e => by have := (ownsRow_blk HW.out.o b e).1; omega))
        have HB2 := Lib.hid hb2
        have hz2w := hb2.size
        clear hown1 hown2 hgrow2 hf2 hb2 yc0 yc1 yc2 yc3 yc4 yc5 yc6 yc7 yc8
        have hcN := HN2.out.2.1
        have hcM := HN2.out.2.2.1
        unfold maxLen at hcM
        have q2b : (k : Int) ≤ (cN : Int) := by omega
        have h3 := HN2.out.take (k := k) (by omega)
        rw [flat_take scs_len] at h3
        go_wp2_with (at_builtin; refine wpList_append_sl _ rfl (.tmp 39) (.tmp 42) TSs rfl w2.heap.size TSn i0 (.agg #[.int .i64 0, .int .i64 0, .int .i64 0, .int .i64 0, .string ByteArray.empty, .string ByteArray.empty, .int .i64 0, .int .i64 0, .bool false]) 9 88 Tryz.underlying22 hi hz0 hz1 hz2 rfl (by decide) _ _ _ rfl (World.ownsRow_nil _ _ _ _) _ _ _ _ rfl h3 (scs_one _) ?_ ?_ ?_ ?_)
        · unfold maxLen; omega
        · omega
        · exact Nat.le_refl _
        intro v3 w3 hown3 hgrow3
        have hb3 : Below w2.heap.size w2 w3 := (Below.refl _ _).grown hgrow3 (Nat.le_refl _) (fun k e => by simp [Value.ownBlock] at e)
        have h4 := (HN2.out.fr (Fr.of_below' hb3 (fun _ => False)) (fun _ _ h => h)).drop (k := k + 1) (by omega)
        rw [flat_drop scs_len] at h4
        have HB3 := Lib.hid hb3
        have hz3w := hb3.size
        have HBl := Lib.hid (ownsRow_blk hown3)
        have q3 : (0 : Int) ≤ (k : Int) + 1 := by omega
        have q4 : (k : Int) + 1 ≤ (N.length : Int) := by omega
        clear hb3 hgrow3 h3
        go_wp2_with (at_builtin; refine wpList_append_sl _ rfl (.tmp 44) (.tmp 48) TSs rfl w2.heap.size TSn i0 (.agg #[.int .i64 0, .int .i64 0, .int .i64 0, .int .i64 0, .string ByteArray.empty, .string ByteArray.empty, .int .i64 0, .int .i64 0, .bool false]) 9 88 Tryz.underlying22 hi hz0 hz1 hz2 rfl (by decide) _ _ _ rfl hown3 _ _ _ _ rfl h4 (scs_one _) ?_ ?_ ?_ ?_)
        any_goals (unfold maxLen; omega)
        any_goals omega
        all_goals
          intro v4 w4 hown4 hgrow4
          have hb4 : Below w2.heap.size w2 w4 := HB3.out.grown hgrow4 hz3w (fun k e => (HBl.out k e).1)
          have HX : Hid (SS w w4 L (N.take k ++ N.drop (k + 1)) (O ++ [y]) v4 v2) := by
            have e1 : (N.take k ++ N.drop (k + 1)).length = k + (N.length - (k + 1)) := by simp; omega
            refine ⟨ownsRow_base (by rw [e1, List.flatMap_append]; simpa using hown4) hz2w, ?_, fun b hb e => ?_, HB2.out.trans (hb4.mono hz2w), HPm.out⟩
            · have := ownsRow_fr HO2.out (Fr.of_below' hb4 (fun _ => False)) (fun _ _ h => h)
              simpa using this
            · have h5 := (ownsRow_blk hown4 b hb).1
              have h6 := (ownsRow_blk HO2.out b e).2.1
              omega
          have HIo2 := HIo.out
          clear hb4 hown4 hgrow4 h4 HB3 HBl hown3
          go_wp2_with fail
          go_roundg (N.length - 1)
          case rel => exact ⟨i + 1, _, _, by go_num, by simp [HIo2], by simp; omega, HX.out⟩
          case measure => have := HG.out; omega
    · obtain rfl : N = [] := List.eq_nil_of_length_eq_zero (by omega)
      have q2 : decide (((([] : List Sn).length : Nat) : Int) > 0) = false := by simp
      obtain ⟨A6, c6, hv6, -, -⟩ := Sl.of_own HW.out.o
      subst hv6
      go_wp2_with fail
      go_ret
      exact ⟨O, by have := HW.out.p; simpa using this, _, rfl, HW.out.o, HW.out.b⟩
end Shuf
end Go.Proofs.YtdpngmgaomghoaaGreat
