/- Layer 17's statements: what both use. -/
import Derived.Test.YtolpdgaomlhgdaaQuota4
import Derived.Test.YtolpdgaomlhgdaaRef01
namespace Go.Proofs.Ytolpdgaomlhgdaa
open Go.RowKit
namespace Law17
open BagP QuotaP Quota
abbrev TAct : TypeId := 35
/-- An act. -/
structure Ac where
  k : Int
  A : Option Addr
  c : Nat
  L : List Sp
abbrev ac (a : Ac) : List Value := [.int .i64 a.k, .slice a.A a.L.length a.c]
theorem ac_len (a : Ac) : (ac a).length = 2 := rfl
/-- Its records can be read. -/
def Rd (w : World) (a : Ac) : Prop := Sl w 9 a.A a.L.length a.c (a.L.flatMap Sp.cs) ∧ ∀ x ∈ a.L, wfI x.t
def few (l : List Ac) : Bool := (l.take 30).all (fun a => decide (a.L.length ≤ 12)) && decide (l.length ≤ 30)
set_option maxRecDepth 100000 in
theorem Few (A : Option Addr) (c : Nat) (l : List Ac) (w : World) (hS : Sl w 2 A l.length c (l.flatMap ac)) (hl : ∀ a ∈ l, a.L.length ≤ 9223372036854775807) :
    Calls Try.prog 16 #[.slice A l.length c] w fun e w' => e = .returned (.bool (few l)) ∧ w = w' := by
  have hlen : l.length ≤ 9223372036854775807 := by have := hS.2.1; have := hS.2.2.1; unfold maxLen at this; omega
  have HS := Lib.hid hS; have HL := Lib.hid hl
  clear hS hl
  go_enter Try.func16, Try.ntmps16
  go_wp2_with fail
  go_loopg [3] l.length (fun gk i wr => ∃ k : Nat, i = .int .i64 k ∧ k ≤ l.length ∧ k ≤ 30 ∧ gk = l.length - k ∧ (l.take k).all (fun a => decide (a.L.length ≤ 12)) = true ∧ w = wr)
  case atStart => exact ⟨0, rfl, Nat.zero_le _, by omega, rfl, rfl, rfl⟩
  case round =>
    obtain ⟨k, rfl, hk, hk30, hg, hall, rfl⟩ := hrel
    have HG := Lib.hid hg; have HAll := Lib.hid hall
    clear hg hall
    by_cases hlt : k < l.length
    · by_cases h30 : k < 30
      · obtain ⟨b1, o1, rfl, hb1, hc1⟩ := HS.out.at hlt (by omega)
        have d1 : w.cell? ⟨b1, o1 + k * 2 + 1, none⟩ = some (.slice l[k].A l[k].L.length l[k].c) := hc1 (k * 2 + 1) _ (by rw [flat_at ac_len hlt (by omega)]; rfl)
        have hl1 := HL.out _ (List.getElem_mem hlt)
        have HT : Hid ((l.take (k + 1)).all (fun a => decide (a.L.length ≤ 12)) = decide (l[k].L.length ≤ 12)) := by
          show _ = _
          rw [List.take_succ_eq_append_getElem hlt, List.all_append, HAll.out]; simp
        have HT2 : Hid (decide (l[k].L.length ≤ 12) = false → few l = false) := fun h => by
          unfold few
          have : (l.take 30).all (fun a => decide (a.L.length ≤ 12)) = false := by
            rw [Bool.eq_false_iff]; intro hx
            rw [List.all_eq_true] at hx
            have := hx l[k] (List.mem_take_iff_getElem.2 ⟨k, by omega, rfl⟩)
            rw [this] at h; cases h
          rw [this]; rfl
        clear hc1
        generalize l[k].A = Ak at *
        generalize l[k].c = ck at *
        generalize l[k].L.length = n at *
        by_cases h12 : n ≤ 12
        · have t1 : decide ((12 : Int) < (n : Int)) = false := by simp; omega
          go_wp2_with fail
          go_roundg (l.length - (k + 1))
          case rel => exact ⟨k + 1, by go_num, by omega, by omega, rfl, by rw [HT.out]; simpa using h12, rfl⟩
          case measure => have := HG.out; omega
        · have t1 : decide ((12 : Int) < (n : Int)) = true := by simp; omega
          go_wp2_with fail
          go_ret
          exact ⟨by rw [HT2.out (by simpa using h12)]; rfl, rfl⟩
      · obtain rfl : k = 30 := by omega
        go_wp2_with fail
        go_ret
        exact ⟨by unfold few; rw [HAll.out]; simp; omega, rfl⟩
    · obtain rfl : k = l.length := by omega
      go_wp2_with fail
      go_ret
      exact ⟨by unfold few; rw [List.take_of_length_le (by omega)]; have := HAll.out; rw [List.take_length] at this; rw [this]; simp; omega, rfl⟩
/-- A record of a trace. -/
abbrev sp (t : Int) : Sp := ⟨t, 0, 0, 0, ⟨#[]⟩, ⟨#[]⟩, 0, 0, false⟩
theorem of (t : Int) (w : World) : Calls Try.prog 86 #[.int .i64 t] w fun e w' => e = .returned (.agg #[.int .i64 t, .int .i64 0, .int .i64 0, .int .i64 0, .string ⟨#[]⟩, .string ⟨#[]⟩, .int .i64 0, .int .i64 0, .bool false]) ∧ Fr (fun _ => False) w w' := by
  go_enter Try.func86, Try.ntmps86
  go_wp2
  exact bodyPost_ret (results_cell_row rfl _ _ w.heap.size TSp _ (0, 0) _ rfl (heap_new _ _) Try.underlying137 rfl (by kernel_rfl)) rfl ⟨rfl, Fr.alloc _ _ _⟩
/-- The law's quota. -/
structure QH (n0 : Nat) (w0 w : World) (B r : Nat) (all tr : Int) (L : List (Int × Int)) : Prop where
  q : QB w B r all tr L
  hB : n0 ≤ B
  hr : n0 ≤ r
  bel : Below n0 w0 w
  le : n0 ≤ w.heap.size
theorem QH.fr {n0 : Nat} {w0 w w' : World} {B r : Nat} {all tr : Int} {L : List (Int × Int)} (h : QH n0 w0 w B r all tr L) (hf : Fr (fun _ => False) w w') : QH n0 w0 w' B r all tr L :=
  ⟨h.q.fr hf (fun h => h) (fun h => h), h.hB, h.hr, h.bel.trans (hf.below h.le (fun _ _ h => h)), Nat.le_trans h.le hf.size⟩
theorem QH.to {n0 : Nat} {w0 w w' : World} {B r : Nat} {all tr : Int} {L L' : List (Int × Int)} (h : QH n0 w0 w B r all tr L) (hq : QB w' B r all tr L') (hf : Fr (fun k => k = B ∨ k = r) w w') : QH n0 w0 w' B r all tr L' :=
  ⟨hq, h.hB, h.hr, h.bel.trans (hf.below h.le (fun k hk e => by have := h.hB; have := h.hr; omega)), Nat.le_trans h.le hf.size⟩
theorem Sl.row (w : World) (t : TypeId) (cs : List Value) (n sz : Nat) (hs : cs.length = n * sz) (hn : n ≤ maxLen) : Sl (w.alloc (.cells cs.toArray t)) sz (some ⟨w.heap.size, 0, none⟩) n n cs := by
  refine ⟨hs, Nat.le_refl _, hn, (by simp), fun _ => ⟨_, 0, rfl, fun i u hu => ?_⟩⟩
  rw [Nat.zero_add, cell_of_block (heap_new w _)]
  simpa using hu
theorem AddN (n0 : Nat) (w0 wr : World) (B r : Nat) (all tr : Int) (L : List (Int × Int)) (xs : List Sp) (H : QH n0 w0 wr B r all tr L) (hwf : ∀ x ∈ xs, wfI x.t) (hx : xs.length ≤ 10) (hm : sumL L < 1000) :
    Calls Try.prog 22 #[.pointer (some ⟨B, 0, none⟩), .slice (some ⟨wr.heap.size, 0, none⟩) xs.length xs.length] (wr.alloc (.cells (xs.flatMap Sp.cs).toArray TSp)) fun e w' => e = .returned (.bool (okM all tr (xs.map (·.t)) L)) ∧ QH n0 w0 w' B r all tr (addA all tr (xs.map (·.t)) L) := by
  have h1 := H.fr (Fr.alloc (fun _ => False) wr (.cells (xs.flatMap Sp.cs).toArray TSp))
  refine (Add B r all tr _ _ xs L _ h1.q (Sl.row wr TSp _ xs.length 9 (flat_length Sp.cs_len xs) (by unfold maxLen; omega)) (fun _ a ha => ?_) hwf (by omega)).mono ?_
  · cases ha
    have := lt_of_heap H.q.blk; have := H.q.gm.lt
    simp; omega
  · rintro e w' ⟨he, hq, hf⟩
    exact ⟨he, h1.to hq hf⟩
theorem DropN (n0 : Nat) (w0 wr : World) (B r : Nat) (all tr : Int) (L : List (Int × Int)) (xs : List Sp) (H : QH n0 w0 wr B r all tr L) (hwf : ∀ x ∈ xs, wfI x.t) (hx : xs.length ≤ 10) :
    Calls Try.prog 20 #[.pointer (some ⟨B, 0, none⟩), .slice (some ⟨wr.heap.size, 0, none⟩) xs.length xs.length] (wr.alloc (.cells (xs.flatMap Sp.cs).toArray TSp)) fun e w' => e = .returned (.tuple #[]) ∧ QH n0 w0 w' B r all tr (dropM (xs.map (·.t)) L) := by
  have h1 := H.fr (Fr.alloc (fun _ => False) wr (.cells (xs.flatMap Sp.cs).toArray TSp))
  refine (Drop B r all tr _ _ xs L _ h1.q (Sl.row wr TSp _ xs.length 9 (flat_length Sp.cs_len xs) (by unfold maxLen; omega)) (fun _ a ha => ?_) hwf).mono ?_
  · cases ha
    have := lt_of_heap H.q.blk; have := H.q.gm.lt
    simp; omega
  · rintro e w' ⟨he, hq, hf⟩
    exact ⟨he, h1.to hq hf⟩
set_option maxRecDepth 100000 in
set_option maxHeartbeats 400000 in
theorem awake (w : World) : Calls Try.prog 17 #[] w fun e w' => e = .returned (.bool true) ∧ Below w.heap.size w w' := by
  have e1 : okM 3 2 [1, 1] [] = true ∧ addA 3 2 [1, 1] [] = [(1, 2)] := by decide
  have e2 : okM 3 2 [1] [(1, 2)] = false ∧ addA 3 2 [1] [(1, 2)] = [(1, 2)] := by decide
  have e3 : okM 3 2 [2] [(1, 2)] = true ∧ addA 3 2 [2] [(1, 2)] = [(1, 2), (2, 1)] := by decide
  have e4 : dropM [1, 7] [(1, 2), (2, 1)] = [(1, 1), (2, 1)] := by decide
  have e5 : cnt 1 [(1, 1), (2, 1)] = 1 ∧ sumL [(1, 1), (2, 1)] = 2 := by decide
  have E1 := Lib.hid e1; have E2 := Lib.hid e2; have E3 := Lib.hid e3; have E4 := Lib.hid e4; have E5 := Lib.hid e5
  clear e1 e2 e3 e4 e5
  have HW : Hid (∀ t : Int, 0 ≤ t → t ≤ 7 → wfI t) := fun t h0 h1 => wf_small h0 (by omega)
  go_enter Try.func17, Try.ntmps17
  go_wp2_with fail
  refine (New 3 2 w).mono ?_
  rintro e w1 ⟨F, rfl, ⟨r, hq, rfl⟩, hF, hb⟩
  have H1 : Hid (QH w.heap.size w w1 (w.heap.size + 1) r 3 2 []) := ⟨hq, by omega, (hF r (by simp)).1, hb, hb.size⟩
  generalize w.heap.size + 1 = B at *
  clear hq hF hb
  go_wp2_with fail
  refine (of 1 _).mono ?_
  rintro e w2 ⟨rfl, hf⟩
  have H2 := Lib.hid (H1.out.fr hf)
  clear hf
  go_wp2_with fail
  refine (of 1 _).mono ?_
  rintro e w3 ⟨rfl, hf⟩
  have H3 := Lib.hid (H2.out.fr hf)
  clear hf H1 H2
  go_wp2_with fail
  refine (AddN _ _ w3 B r 3 2 [] [sp 1, sp 1] H3.out (by simp; exact HW.out 1 (by omega) (by omega)) (by simp) (by simp [sumL])).mono ?_
  rintro e w4 ⟨rfl, h4⟩
  simp only [List.map_cons, List.map_nil] at h4 ⊢
  rw [E1.out.1]
  rw [E1.out.2] at h4
  have H4 := Lib.hid h4
  clear h4 H3
  go_wp2_with fail
  refine (of 1 _).mono ?_
  rintro e w5 ⟨rfl, hf⟩
  have H5 := Lib.hid (H4.out.fr hf)
  clear hf H4
  go_wp2_with fail
  refine (AddN _ _ w5 B r 3 2 _ [sp 1] H5.out (by simp; exact HW.out 1 (by omega) (by omega)) (by simp) (by simp [sumL])).mono ?_
  rintro e w6 ⟨rfl, h6⟩
  simp only [List.map_cons, List.map_nil] at h6 ⊢
  rw [E2.out.1]
  rw [E2.out.2] at h6
  have H6 := Lib.hid h6
  clear h6 H5
  go_wp2_with fail
  refine (of 2 _).mono ?_
  rintro e w7 ⟨rfl, hf⟩
  have H7 := Lib.hid (H6.out.fr hf)
  clear hf H6
  go_wp2_with fail
  refine (AddN _ _ w7 B r 3 2 _ [sp 2] H7.out (by simp; exact HW.out 2 (by omega) (by omega)) (by simp) (by simp [sumL])).mono ?_
  rintro e w8 ⟨rfl, h8⟩
  simp only [List.map_cons, List.map_nil] at h8 ⊢
  rw [E3.out.1]
  rw [E3.out.2] at h8
  have H8 := Lib.hid h8
  clear h8 H7
  go_wp2_with fail
  refine (of 1 _).mono ?_
  rintro e w9 ⟨rfl, hf⟩
  have H9 := Lib.hid (H8.out.fr hf)
  clear hf H8
  go_wp2_with fail
  refine (of 7 _).mono ?_
  rintro e w10 ⟨rfl, hf⟩
  have H10 := Lib.hid (H9.out.fr hf)
  clear hf H9
  go_wp2_with fail
  refine (DropN _ _ w10 B r 3 2 _ [sp 1, sp 7] H10.out (by simp; exact ⟨HW.out 1 (by omega) (by omega), HW.out 7 (by omega) (by omega)⟩) (by simp)).mono ?_
  rintro e w11 ⟨rfl, h11⟩
  simp only [List.map_cons, List.map_nil] at h11
  rw [E4.out] at h11
  have HL := Lib.hid (Len B r 3 2 _ w11 h11.q)
  rw [E5.out.2] at HL
  have HO := Lib.hid (Of B r 3 2 1 _ w11 h11.q (HW.out 1 (by omega) (by omega)))
  rw [E5.out.1] at HO
  have HT := Lib.hid (Traces B r 3 2 _ w11 h11.q)
  have H11 := Lib.hid h11
  clear h11 H10
  go_wp2_with fail
  refine HL.out.mono ?_
  rintro e w12 ⟨rfl, rfl⟩
  go_wp2_with fail
  refine HO.out.mono ?_
  rintro e w12 ⟨rfl, rfl⟩
  go_wp2_with fail
  refine HT.out.mono ?_
  rintro e w12 ⟨v, rfl, hown, hb⟩
  obtain ⟨A, c, rfl, hS, -⟩ := Sl.of_own hown
  have hbl := H11.out.bel.trans (hb.mono H11.out.le)
  have hsz : w.heap.size ≤ w12.heap.size := Nat.le_trans H11.out.le hb.size
  have HS1 : Hid (Sl (w12.alloc (.cells #[.int .i64 1, .int .i64 2] 3)) 1 A [(1 : Int), 2].length c (ints [1, 2])) := hS.fr (Fr.alloc (fun _ => False) _ _) (fun _ _ h => h)
  have HS2 : Hid (Sl (w12.alloc (.cells #[.int .i64 1, .int .i64 2] 3)) 1 (some ⟨w12.heap.size, 0, none⟩) [(1 : Int), 2].length 2 (ints [1, 2])) := Sl.row w12 3 [.int .i64 1, .int .i64 2] 2 1 rfl (by simp [maxLen])
  have HB := Lib.hid (hbl.alloc hsz (.cells #[.int .i64 1, .int .i64 2] 3))
  have HZ : Hid (w.heap.size ≤ (w12.alloc (.cells #[.int .i64 1, .int .i64 2] 3)).heap.size) := by show _ ≤ _; simp; omega
  clear hown hb hS hbl hsz
  go_wp2_with fail
  refine (SameInts' A _ c 2 [1, 2] [1, 2] _ 2 2 rfl rfl HS1.out HS2.out).mono ?_
  rintro e w13 ⟨rfl, hf⟩
  have HF := Lib.hid (HB.out.trans (hf.below HZ.out (fun _ _ h => h)))
  clear hf
  go_wp2_with fail
  go_ret
  exact ⟨rfl, HF.out⟩
end Law17
end Go.Proofs.Ytolpdgaomlhgdaa
