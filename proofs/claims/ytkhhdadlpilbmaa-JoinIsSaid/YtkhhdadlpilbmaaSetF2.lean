/- Lists of records joined; the document's set. -/
import Derived.Test.YtkhhdadlpilbmaaSetF
import Derived.Test.YtkhhdadlpilbmaaJoinP
namespace Go.Proofs.Ytkhhdadlpilbmaa
open Go.RowKit
namespace SetF
open KeyP PackP SetP SetW Code_ Rank
attribute [local go_sem] Eng.ev Eng.getO_cons Eng.getO_nil
abbrev TSss : TypeId := 83
/-- A list of records, as an element. -/
structure Lv where
  A : Option Addr
  c : Nat
  L : List Sn
abbrev lvc (x : Lv) : List Value := [.slice x.A x.L.length x.c]
theorem lvc_len (x : Lv) : (lvc x).length = 1 := rfl
def Rd (w : World) (x : Lv) : Prop := Ls w x.A x.c x.L
def cat (l : List Lv) : List Sn := l.flatMap (·.L)
theorem cat_snoc {l : List Lv} {k : Nat} (h : k < l.length) : cat (l.take (k + 1)) = cat (l.take k) ++ l[k].L := by unfold cat; rw [List.take_succ_eq_append_getElem h, List.flatMap_append]; simp
theorem cat_len_le (l : List Lv) (k : Nat) : (cat (l.take k)).length ≤ (cat l).length := by
  conv => rhs; rw [← List.take_append_drop k l]
  unfold cat; rw [List.flatMap_append, List.length_append]; omega
set_option maxRecDepth 100000 in
set_option maxHeartbeats 1000000 in
/-- A new list with room. -/
theorem GrowNil (n : Nat) (w : World) (hn : n ≤ 1000000) : Calls Try.prog 142 #[.slice none 0 0, .int .i64 n] w fun e w' => ∃ v, e = .returned v ∧ w'.ownsRow w.heap.size TSn 9 v 0 [] ∧ Below w.heap.size w w' := by
  obtain ⟨i0, hi, hz0, hz1, hz2⟩ := info_parts infoS
  cases n with
  | zero =>
    go_enter Try.func142, Try.ntmps142
    go_wp2_with fail
    go_ret
    exact ⟨_, rfl, World.ownsRow_nil _ _ _ _, Below.refl _ _⟩
  | succ n =>
    have h1 : ¬ (((n + 1 : Nat) : Int) < 0) := by omega
    have h2 : wrap64 (0 - 0) = 0 := by unfold wrap64; omega
    have h3 : wrap64 (((n + 1 : Nat) : Int) - 0) = ((n + 1 : Nat) : Int) := by unfold wrap64; omega
    have h4 : ((n + 1 : Nat) : Int) > 0 := by omega
    have hold : (Builtin.firstCells i0.size 0 (.slice none 0 0)).run Try.prog w.drew = .ok #[] w.drew := run_firstCells_none w.drew i0.size 0 0 0
    have hfit : Builtin.nextslicecap (0 + (n + 1)) 0 * i0.bytes ≤ 281474976710656 := growslice_fits (by omega) (by rw [hz2]; omega)
    have hrz : ∀ ty, (Builtin.append_ #[TSs, 3] ty #[.slice none 0 0, .int .i64 ((n + 1 : Nat) : Int)]).run Try.prog w = .ok _ _ := fun ty => Lib.run_append_grow_zeros w TSs 3 ty TSn i0 _ .i64 .i64 Try.underlying34 Try.underlying3 hi hz0 none 0 0 [] hold (n + 1) (by omega) (by rw [hz1]; omega) (by omega) (by omega) (by rw [hz2]; omega) hfit
    have hGn := grownCap_ge w (0 + (n + 1)) 0 TSn
    have hG := grownCap_le_maxLen w (0 + (n + 1)) 0 TSn (by unfold maxLen; omega)
    generalize grownCap w (0 + (n + 1)) 0 TSn = G at *
    have hG63 : G ≤ 9223372036854775807 := by unfold maxLen at hG; omega
    rw [Nat.zero_add] at hrz hGn
    have HG := Lib.hid hG
    clear hold hfit hG
    go_enter Try.func142, Try.ntmps142
    go_wp2_with (at_builtin; refine Lib.wpList_append_run _ rfl _ _ _ _ rfl _ _ rfl rfl _ _ (hrz _) ?_)
    go_ret
    refine ⟨_, rfl, ⟨by simp, .inr ⟨_, G, _, rfl, Nat.le_refl _, heap_new _ _, by omega, HG.out, ?_, by simp⟩⟩, ?_⟩
    · simp [size_zeroCells]; omega
    · exact ((Below.refl _ w).drew).alloc (by simp) _
theorem cells_one (L : List Sn) : ∀ u ∈ L.flatMap scs, u.oneCell' = true := by
  intro u hu
  obtain ⟨x, -, hx⟩ := List.mem_flatMap.1 hu
  simp at hx
  rcases hx with rfl | rfl | rfl | rfl | rfl | rfl | rfl | rfl | rfl <;> rfl
theorem lv_at {l : List Lv} {k : Nat} (h : k < l.length) : (l.flatMap lvc)[k]? = some (.slice l[k].A l[k].L.length l[k].c) := by
  have := flat_at lvc_len h (j := 0) (by omega)
  rw [Nat.mul_one, Nat.add_zero] at this
  rw [this]; rfl
set_option maxRecDepth 100000 in
set_option maxHeartbeats 1000000 in
/-- Lists, put together. -/
theorem Concat (A : Option Addr) (c : Nat) (l : List Lv) (w : World) (hS : Sl w 1 A l.length c (l.flatMap lvc)) (hR : ∀ x ∈ l, Rd w x) (hl : l.length ≤ 1000) (hlen : (cat l).length ≤ 1000000) :
    Calls Try.prog 93 #[.slice A l.length c] w (OwnPost (cat l) w) := by
  obtain ⟨i0, hi, hz0, hz1, hz2⟩ := info_parts infoS
  have HS := Lib.hid hS; have HR := Lib.hid hR
  clear hS hR
  go_enter Try.func93, Try.ntmps93
  go_wp2_with fail
  go_loopg [3, 5, 11] l.length (fun gk v _ i wr => ∃ k : Nat, i = .int .i64 k ∧ k ≤ l.length ∧ gk = l.length - k ∧ v = .int .i64 ((cat (l.take k)).length : Nat) ∧ wr = w)
  case atStart => exact ⟨0, rfl, Nat.zero_le _, rfl, rfl, rfl⟩
  case round =>
    obtain ⟨k, rfl, hk, hg, rfl, rfl⟩ := hrel
    have HG := Lib.hid hg
    clear hg
    by_cases hlt : k < l.length
    · obtain ⟨b1, o1, rfl, hb1, c1⟩ := HS.out.at hlt (by omega)
      have e0 : wr.cell? ⟨b1, o1 + k, none⟩ = some (.slice l[k].A l[k].L.length l[k].c) := c1 k _ (lv_at hlt)
      have HSn : Hid ((cat (l.take (k + 1))).length = (cat (l.take k)).length + l[k].L.length) := by show _ = _; rw [cat_snoc hlt, List.length_append]
      have h1 := cat_len_le l (k + 1)
      have h2 := HSn.out
      have h3 : (cat (l.take k)).length + l[k].L.length ≤ 1000000 := by omega
      clear c1 hb1 h1 h2
      generalize (cat (l.take k)).length = m at *
      generalize l[k] = x at *
      have w1 : wrap64 ((m : Int) + (x.L.length : Int)) = ((m + x.L.length : Nat) : Int) := by unfold wrap64; omega
      have w2 : ¬ (((m + x.L.length : Nat) : Int) < 0) := by omega
      have q1 : (0 : Int) ≤ (k : Int) := by omega
      have q2 : decide ((k : Int) < (l.length : Int)) = true := by simp; omega
      go_wp2_with fail
      go_roundg (l.length - (k + 1))
      case rel => exact ⟨k + 1, by go_num, by omega, rfl, by rw [HSn.out, Int.natCast_add], rfl⟩
      case measure => have := HG.out; omega
    · obtain rfl : k = l.length := by omega
      have HE : Hid (cat (l.take l.length) = cat l) := by show _ = _; rw [List.take_length]
      have q2 : decide ((l.length : Int) < (l.length : Int)) = false := by simp
      rw [HE.out]
      obtain ⟨wo, rfl⟩ : ∃ wo : World, wo = wr := ⟨_, rfl⟩
      go_wp2_with fail
      refine (GrowNil _ _ hlen).mono ?_
      rintro e w2 ⟨v, rfl, hown, hbel⟩
      have HO := Lib.hid hown; have HB := Lib.hid hbel
      clear hown hbel HE
      go_wp2_with fail
      go_loopg [6, 8, 27] l.length (fun gk v _ i wr => ∃ k : Nat, i = .int .i64 k ∧ k ≤ l.length ∧ gk = l.length - k ∧ wr.ownsRow wo.heap.size TSn 9 v (cat (l.take k)).length ((cat (l.take k)).flatMap scs) ∧ Below wo.heap.size wo wr)
      case atStart => exact ⟨0, rfl, Nat.zero_le _, rfl, HO.out, HB.out⟩
      case round =>
        clear HO HB
        obtain ⟨k, rfl, hk, hg, hown, hbel⟩ := hrel
        have HG := Lib.hid hg; have HO := Lib.hid hown; have HB := Lib.hid hbel
        have hszw : wo.heap.size ≤ wr.heap.size := hbel.size
        clear hg hown hbel
        by_cases hlt : k < l.length
        · obtain ⟨b1, o1, rfl, hb1, c1⟩ := HS.out.at hlt (by omega)
          have e0 : wr.cell? ⟨b1, o1 + k, none⟩ = some (.slice l[k].A l[k].L.length l[k].c) := (HB.out.cell (p := ⟨b1, _, none⟩) hb1).trans (c1 k _ (lv_at hlt))
          have HX := Lib.hid ((HR.out _ (List.getElem_mem hlt)).below HB.out)
          have HSn := Lib.hid (cat_snoc hlt)
          have h1 := cat_len_le l (k + 1)
          rw [HSn.out, List.length_append] at h1
          have h3 : (cat (l.take k)).length + l[k].L.length ≤ 1000000 := by omega
          clear c1 hb1 h1
          generalize cat (l.take k) = M at *
          generalize l[k] = x at *
          have q1 : (0 : Int) ≤ (k : Int) := by omega
          have q2 : decide ((k : Int) < (l.length : Int)) = true := by simp; omega
          go_wp2_with (at_builtin; refine wpList_append_sl _ rfl (.tmp 31) (.tmp 32) TSs rfl wo.heap.size TSn i0 (.agg #[.int .i64 0, .int .i64 0, .int .i64 0, .int .i64 0, .string ByteArray.empty, .string ByteArray.empty, .int .i64 0, .int .i64 0, .bool false]) 9 88 Try.underlying34 hi hz0 hz1 hz2 rfl (by decide) _ _ _ rfl HO.out _ _ _ _ rfl HX.out.s (cells_one _) ?_ ?_ ?_ ?_)
          · unfold maxLen; omega
          · omega
          · exact hszw
          intro v1 w3 hown1 hgrow1
          have HO1 := Lib.hid hown1; have HGr := Lib.hid hgrow1; have HK1 := Lib.hid (ownsRow_blk HO.out)
          clear hown1 hgrow1
          go_wp2_with fail
          go_roundg (l.length - (k + 1))
          case rel => exact ⟨k + 1, by go_num, by omega, rfl, by rw [HSn.out, List.length_append, List.flatMap_append]; exact HO1.out, HB.out.grown HGr.out hszw (fun k e => (HK1.out k e).1)⟩
          case measure => have := HG.out; omega
        · obtain rfl : k = l.length := by omega
          have q2 : decide ((l.length : Int) < (l.length : Int)) = false := by simp
          rw [List.take_length] at HO
          obtain ⟨A2, c2, rfl, -, -⟩ := Sl.of_own HO.out
          go_wp2_with fail
          go_ret
          exact ⟨_, rfl, HO.out, HB.out⟩
end SetF
end Go.Proofs.Ytkhhdadlpilbmaa
