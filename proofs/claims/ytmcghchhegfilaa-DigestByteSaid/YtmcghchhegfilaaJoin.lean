/- Lists of records joined: the program's and the document's; what is missing: the document's. -/
import Derived.Test.YtmcghchhegfilaaSetFs
namespace Go.Proofs.Ytmcghchhegfilaa
open Go.RowKit
namespace Join
open KeyP PackP SetP SetW SetF Code_ Rank
attribute [local go_sem] Eng.ev Eng.getO_cons Eng.getO_nil
theorem two_lv (w : World) (x y : Lv) : Sl (w.alloc (.cells #[.slice x.A x.L.length x.c, .slice y.A y.L.length y.c] TSs)) 1 (some ⟨w.heap.size, 0, none⟩) 2 2 ([x, y].flatMap lvc) := by
  refine ⟨rfl, Nat.le_refl _, by simp [maxLen], by simp, fun _ => ⟨_, _, rfl, fun i u hu => ?_⟩⟩
  rw [Nat.zero_add, cell_of_block (heap_new _ _)]
  simpa using hu
set_option maxRecDepth 100000 in
set_option maxHeartbeats 400000 in
theorem Join (A A2 : Option Addr) (c c2 : Nat) (L M : List Sn) (w : World) (h1 : Ls w A c L) (h2 : Ls w A2 c2 M) (hl : L.length + M.length ≤ 1000000) :
    Calls Try.prog 56 #[.slice A L.length c, .slice A2 M.length c2] w (LsPost (setOf (L ++ M)) w) := by
  have hf := Fr.alloc (fun _ => False) w (.cells #[.slice A L.length c, .slice A2 M.length c2] TSs)
  have k1 := h1.keep hf
  have k2 := h2.keep hf
  have hc : cat [⟨A, c, L⟩, ⟨A2, c2, M⟩] = L ++ M := by simp [cat]
  have HCc := Lib.hid (show Calls Try.prog 90 #[.slice (some ⟨w.heap.size, 0, none⟩) 2 2] _ _ from SetF.Concat (some ⟨w.heap.size, 0, none⟩) 2 [⟨A, c, L⟩, ⟨A2, c2, M⟩] _ (two_lv w ⟨A, c, L⟩ ⟨A2, c2, M⟩) (fun x hx => by
    simp at hx
    rcases hx with rfl | rfl
    · exact k1
    · exact k2) (by simp) (by rw [hc, List.length_append]; exact hl))
  rw [hc] at HCc
  have HOk : Hid (∀ x ∈ L ++ M, x.ok) := fun x hx => (List.mem_append.1 hx).elim (h1.ok x) (h2.ok x)
  have hll : (L ++ M).length ≤ 1000000 := by rw [List.length_append]; exact hl
  clear h1 h2 k1 k2 hc hl hf
  generalize L ++ M = N at *
  go_enter Try.func56, Try.ntmps56
  go_wp2_with fail
  refine HCc.out.mono ?_
  intro e w2 h
  obtain ⟨A3, c3, rfl, h1, h2, h3⟩ := LsPost.of h HOk.out
  have HB := Lib.hid (((Below.refl _ w).alloc (Nat.le_refl _) (.cells #[.slice A L.length c, .slice A2 M.length c2] TSs)).trans (h3.mono (by simp)))
  have HSt := Lib.hid (SetF.Set A3 c3 N w2 h1 hll)
  clear h h1 h2 h3 HCc
  go_wp2_with fail
  refine HSt.out.mono ?_
  rintro e w3 ⟨A4, c4, rfl, h1, h2, h3⟩
  have hsz : w.heap.size ≤ w2.heap.size := HB.out.size
  have H1 := Lib.hid h1; have H2 := Lib.hid (ownsRow_base h2 hsz); have H3 := Lib.hid (HB.out.trans (h3.mono hsz))
  clear h1 h2 h3 HSt HB
  go_wp2_with fail
  go_ret
  exact ⟨A4, c4, rfl, H1.out, H2.out, H3.out⟩
/-- All lists joined. -/
def joinsV (l : List Lv) : List Sn := joins (l.map (·.L))
theorem joinsV_snoc {l : List Lv} {k : Nat} (h : k < l.length) : joinsV (l.take (k + 1)) = setOf (joinsV (l.take k) ++ l[k].L) := by
  unfold joinsV; rw [List.take_succ_eq_append_getElem h, List.map_append, List.map_singleton, joins_snoc]
theorem joinsV_eq (l : List Lv) : joinsV l = setOf (cat l) := by unfold joinsV cat; rw [joins_eq, List.flatMap_def]
theorem joinsV_len (l : List Lv) : (joinsV l).length ≤ (cat l).length := by rw [joinsV_eq]; exact setOf_len _
set_option maxRecDepth 100000 in
set_option maxHeartbeats 1000000 in
theorem RefAll (A : Option Addr) (c : Nat) (l : List Lv) (w : World) (hS : Sl w 1 A l.length c (l.flatMap lvc)) (hR : ∀ x ∈ l, Rd w x) (hlen : (cat l).length ≤ 1000000) :
    Calls Try.prog 26 #[.slice A l.length c] w (LsPost (setOf (cat l)) w) := by
  obtain ⟨i0, hi, hz0, hz1, hz2⟩ := info_parts infoS
  have hln : l.length ≤ 9223372036854775807 := by have := hS.2.1; have := hS.2.2.1; unfold maxLen at this; omega
  have HOk : Hid (∀ x ∈ cat l, x.ok) := fun x hx => by
    obtain ⟨y, hy, hx⟩ := List.mem_flatMap.1 hx
    exact (hR y hy).ok x hx
  have HS := Lib.hid hS; have HR := Lib.hid hR
  clear hS hR
  go_enter Try.func26, Try.ntmps26
  go_wp2_with fail
  go_loopg [3, 4] l.length (fun gk v i wr => ∃ k : Nat, i = .int .i64 k ∧ k ≤ l.length ∧ gk = l.length - k ∧ wr.ownsRow w.heap.size TSn 9 v (cat (l.take k)).length ((cat (l.take k)).flatMap scs) ∧ Below w.heap.size w wr)
  case atStart => exact ⟨0, rfl, Nat.zero_le _, rfl, World.ownsRow_nil _ _ _ _, Below.refl _ _⟩
  case round =>
    obtain ⟨k, rfl, hk, hg, hown, hbel⟩ := hrel
    have HG := Lib.hid hg; have HO := Lib.hid hown; have HB := Lib.hid hbel
    have hszw : w.heap.size ≤ wr.heap.size := hbel.size
    clear hg hown hbel
    by_cases hlt : k < l.length
    · obtain ⟨b1, o1, rfl, hb1, c1⟩ := HS.out.at hlt (by omega)
      have e0 : wr.cell? ⟨b1, o1 + k, none⟩ = some (.slice l[k].A l[k].L.length l[k].c) := (HB.out.cell (p := ⟨b1, _, none⟩) hb1).trans (c1 k _ (lv_at hlt))
      have HX := Lib.hid ((HR.out _ (List.getElem_mem hlt)).below HB.out)
      have HSn := Lib.hid (cat_snoc hlt)
      have h1 := cat_len_le l (k + 1)
      rw [HSn.out, List.length_append] at h1
      have h3 : (cat (l.take k)).length + l[k].L.length ≤ 1000000 := by omega
      clear c1 hb1 h1
      generalize cat (l.take k) = M at *
      generalize l[k] = x at *
      have q1 : (0 : Int) ≤ (k : Int) := by omega
      have q2 : decide ((k : Int) < (l.length : Int)) = true := by simp; omega
      go_wp2_with (at_builtin; refine wpList_append_sl _ rfl (.tmp 11) (.tmp 15) TSs rfl w.heap.size TSn i0 (.agg #[.int .i64 0, .int .i64 0, .int .i64 0, .int .i64 0, .string ByteArray.empty, .string ByteArray.empty, .int .i64 0, .int .i64 0, .bool false]) 9 88 Try.underlying22 hi hz0 hz1 hz2 rfl (by decide) _ _ _ rfl HO.out _ _ _ _ rfl HX.out.s (cells_one _) ?_ ?_ ?_ ?_)
      · unfold maxLen; omega
      · omega
      · exact hszw
      intro v1 w3 hown1 hgrow1
      have HO1 := Lib.hid hown1; have HGr := Lib.hid hgrow1; have HK1 := Lib.hid (ownsRow_blk HO.out)
      clear hown1 hgrow1
      go_wp2_with fail
      go_roundg (l.length - (k + 1))
      case rel => exact ⟨k + 1, by go_num, by omega, rfl, by rw [HSn.out, List.length_append, List.flatMap_append]; exact HO1.out, HB.out.grown HGr.out hszw (fun k e => (HK1.out k e).1)⟩
      case measure => have := HG.out; omega
    · obtain rfl : k = l.length := by omega
      have q2 : decide ((l.length : Int) < (l.length : Int)) = false := by simp
      rw [List.take_length] at HO
      obtain ⟨A2, c2, rfl, hs2, -⟩ := Sl.of_own HO.out
      have HSt := Lib.hid (RefSet A2 c2 (cat l) wr ⟨hs2, HOk.out⟩ hlen)
      clear hs2
      go_wp2_with fail
      refine HSt.out.mono ?_
      rintro e w3 ⟨A4, c4, rfl, h1, h2, h3⟩
      have H1 := Lib.hid h1; have H2 := Lib.hid (ownsRow_base h2 hszw); have H3 := Lib.hid (HB.out.trans (h3.mono hszw))
      clear h1 h2 h3 HSt
      go_wp2_with fail
      go_ret
      exact ⟨A4, c4, rfl, H1.out, H2.out, H3.out⟩
/-- Are there few lists of few records? -/
def fewsB (l : List Lv) : Bool := (l.take 8).all (fun x => fewB x.L 12) && decide (l.length ≤ 8)
end Join
end Go.Proofs.Ytmcghchhegfilaa
