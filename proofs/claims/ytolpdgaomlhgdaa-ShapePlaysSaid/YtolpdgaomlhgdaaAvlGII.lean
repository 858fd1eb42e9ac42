/- The maps in order (avl) at one instance: getting; the last key. -/
import Derived.Test.YtolpdgaomlhgdaaAvlFII
namespace Go.Proofs.Ytolpdgaomlhgdaa
open Go.RowKit
namespace AvlII

/-- What Get answers. -/
def GetPost (k : Int) (L : List (Int × Int)) (w : World) (e : Ending) (w' : World) : Prop :=
  e = .returned (.tuple #[.int .i64 ((getL k L).getD 0), .bool (getL k L).isSome]) ∧ w = w'

set_option maxRecDepth 100000 in
theorem Get (k : Int) (p : Option Addr) (t : AT Int Int) (w : World) (hI : In w t) (hs : Srt t.toL) (ht : Calls Try.prog 90 #[.pointer p] w fun e w' => e = .returned (.pointer t.adr) ∧ w = w') :
    Calls Try.prog 35 #[.pointer p, .int .i64 k] w (GetPost k t.toL w) := by
  have HT := Lib.hid ht
  clear ht
  have HI := Lib.hid hI; have HS := Lib.hid hs
  clear hI hs
  go_enter Try.func35, Try.ntmps35
  go_wp2_with fail
  refine HT.out.mono ?_
  rintro e w1 ⟨rfl, rfl⟩
  go_wp2_with fail
  go_loopg [6] t.size (fun gk p wr => w = wr ∧ ∃ s : AT Int Int, p = .pointer s.adr ∧ In w s ∧ Srt s.toL ∧ getL k t.toL = getL k s.toL ∧ s.size = gk)
  case atStart => exact ⟨rfl, t, rfl, HI.out, HS.out, rfl, rfl⟩
  case round =>
    obtain ⟨rfl, s, rfl, hI, hs, hg, hk⟩ := hrel
    have HG := Lib.hid hg; have HK := Lib.hid hk
    clear hg hk HT HI HS
    cases s with
    | nil =>
      clear hI hs
      rw [AT.adr_nil]
      go_wp2_with fail
      go_ret2
      unfold GetPost
      rw [HG.out]
      exact ⟨rfl, rfl⟩
    | node b k' v' l r d =>
      rw [AT.adr_node]
      obtain ⟨hb, hl, hr⟩ := hI
      obtain ⟨c0, c2, c3, -, -⟩ := cells hb
      have c1 : w.cell? ⟨b, 1, none⟩ = some (.int .i64 v') := by rw [cell_of_block hb]; rfl
      rw [AT.toL] at hs HG
      rw [AT.size] at HK
      clear hb
      by_cases h1 : Ord.lt k k' = true
      · have th1 : k < k' := by simpa [ltInt] using h1
        have _nh1 : (k' != k) = true := bne_iff_ne.2 (by omega)
        have HG' := Lib.hid (HG.out.trans (getL_low hs h1))
        have HS := Lib.hid hs.left
        clear HG hs
        go_wp2_with fail
        go_roundg l.size
        case rel => exact ⟨rfl, l, rfl, hl, HS.out, HG'.out, rfl⟩
        case measure => have := HK.out; omega
      · by_cases h2 : Ord.lt k' k = true
        · have th2 : k' < k := by simpa [ltInt] using h2
          have _nh2 : (k' != k) = true := bne_iff_ne.2 (by omega)
          have HG' := Lib.hid (HG.out.trans (getL_high hs h2))
          have HS := Lib.hid hs.right.tail
          clear HG hs
          go_wp2_with fail
          go_roundg r.size
          case rel => exact ⟨rfl, r, rfl, hr, HS.out, HG'.out, rfl⟩
          case measure => have := HK.out; omega
        · obtain rfl : k = k' := Ord.tri _ _ (by simpa using h1) (by simpa using h2)
          have _nk : (k != k) = false := by simp
          have HG' := Lib.hid (HG.out.trans (getL_same hs))
          clear HG hs
          go_wp2_with fail
          go_ret2
          unfold GetPost
          rw [HG'.out]
          exact ⟨rfl, rfl⟩

theorem Get_map (k : Int) (B off : Nat) (r : Option Addr) (L : List (Int × Int)) (F : List Nat) (w : World) (hM : MapIn w r L F) (h : w.cell? ⟨B, off, none⟩ = some (.pointer r)) :
    Calls Try.prog 35 #[.pointer (some ⟨B, off, none⟩), .int .i64 k] w (GetPost k L w) := by
  obtain ⟨t, rfl, rfl, -, hI, -, -, -, hs⟩ := hM
  exact Get k _ t w hI hs (top _ _ w rfl h)
theorem Get_none (k : Int) (w : World) : Calls Try.prog 35 #[.pointer none, .int .i64 k] w (GetPost k [] w) :=
  Get k _ .nil w trivial List.Pairwise.nil (top_none w)

theorem lastL_node {A B : List (Int × Int)} {p : Int × Int} (h : B ≠ []) : (A ++ p :: B).getLast? = B.getLast? := by
  cases B with
  | nil => exact absurd rfl h
  | cons b B => simp [List.getLast?_append, List.getLast?_cons]

/-- What Last answers. -/
def LastPost (L : List (Int × Int)) (w : World) (e : Ending) (w' : World) : Prop :=
  e = .returned (.tuple #[.int .i64 ((L.getLast?.map (·.1)).getD 0), .bool L.getLast?.isSome]) ∧ w = w'
set_option maxRecDepth 100000 in
theorem Last (p : Option Addr) (t : AT Int Int) (w : World) (hI : In w t) (ht : Calls Try.prog 90 #[.pointer p] w fun e w' => e = .returned (.pointer t.adr) ∧ w = w') :
    Calls Try.prog 37 #[.pointer p] w (LastPost t.toL w) := by
  have HT := Lib.hid ht
  clear ht
  cases t with
  | nil =>
    clear hI
    rw [AT.adr_nil] at HT
    go_enter Try.func37, Try.ntmps37
    go_wp2_with fail
    refine HT.out.mono ?_
    rintro e w1 ⟨rfl, rfl⟩
    go_wp2_with fail
    go_ret2
    exact ⟨rfl, rfl⟩
  | node b0 k0 v0 l0 r0 d0 =>
    rw [AT.adr_node] at HT
    have HI := Lib.hid hI
    clear hI
    go_enter Try.func37, Try.ntmps37
    go_wp2_with fail
    refine HT.out.mono ?_
    rintro e w1 ⟨rfl, rfl⟩
    go_wp2_with fail
    go_loopg [4] (AT.node b0 k0 v0 l0 r0 d0).size (fun gk p wr => w = wr ∧ ∃ (b : Nat) (k : Int) (v : Int) (l r : AT Int Int) (d : Int), p = .pointer (some ⟨b, 0, none⟩) ∧ In w (.node b k v l r d) ∧ (AT.node b0 k0 v0 l0 r0 d0).toL.getLast? = (AT.node b k v l r d).toL.getLast? ∧ (AT.node b k v l r d).size = gk)
    case atStart => exact ⟨rfl, b0, k0, v0, l0, r0, d0, rfl, HI.out, rfl, rfl⟩
    case round =>
      obtain ⟨rfl, b, k, v, l, r, d, rfl, hI, hg, hk⟩ := hrel
      have HG := Lib.hid hg; have HK := Lib.hid hk
      clear hg hk HT HI
      obtain ⟨hb, hl, hr⟩ := hI
      cases r with
      | nil =>
        rw [AT.adr_nil] at hb
        obtain ⟨c0, -, c3, -, -⟩ := cells hb
        clear hb
        go_wp2_with fail
        go_ret2
        unfold LastPost
        rw [HG.out]
        simp [AT.toL]
      | node b1 k1 v1 l1 r1 d1 =>
        rw [AT.adr_node] at hb
        obtain ⟨-, -, c3, -, -⟩ := cells hb
        clear hb
        have HR := Lib.hid hr
        clear hr
        go_wp2_with fail
        go_roundg (AT.node b1 k1 v1 l1 r1 d1).size
        case rel => exact ⟨rfl, b1, k1, v1, l1, r1, d1, rfl, HR.out, HG.out.trans (by rw [AT.toL]; exact lastL_node (by simp [AT.toL])), rfl⟩
        case measure => have := HK.out; rw [AT.size] at this; omega

end AvlII
end Go.Proofs.Ytolpdgaomlhgdaa
