/- Names; records that may be: the program's and the document's. -/
import Derived.Test.YtkhhdadlpilbmaaVari
namespace Go.Proofs.Ytkhhdadlpilbmaa
open Go.RowKit
namespace Name
open KeyP PackP Vari
def okc (c : UInt8) : Bool := decide (33 ≤ c.toNat) && decide (c.toNat ≤ 126)
theorem nameB_eq (s : ByteArray) : nameB s = (s.data.toList.all okc && (decide (1 ≤ s.size) && decide (s.size ≤ 24))) := rfl
theorem all_bad {l : List UInt8} {k : Nat} (hk : k < l.length) (h : okc l[k] = false) : l.all okc = false := by
  rw [List.all_eq_false]; exact ⟨l[k], List.getElem_mem hk, by simp [h]⟩
theorem all_snoc {l : List UInt8} {k : Nat} (hk : k < l.length) : (l.take (k + 1)).all okc = ((l.take k).all okc && okc l[k]) := by
  rw [List.take_succ_eq_append_getElem hk, List.all_append]; simp only [List.all_cons, List.all_nil, Bool.and_true]
set_option maxRecDepth 100000 in
set_option maxHeartbeats 1000000 in
theorem named (s : ByteArray) (hs : s.size ≤ maxLen) (w : World) : Calls Try.prog 170 #[.string s] w fun e w' => e = .returned (.bool (nameB s)) ∧ Below w.heap.size w w' := by
  have kc := run_bytes_of_string (P := Try.prog) w 9 218 5 s Try.underlying9 Try.underlying218 Try.underlying5
  have HA := Lib.hid (fun j hj => bytesRow_at s (grownCap w s.size 0 5) j hj)
  generalize hC : bytesRow s (grownCap w s.size 0 5) = C at *
  generalize grownCap w s.size 0 5 = cap at *
  clear hC
  have HB := Lib.hid (((Below.refl w.heap.size w).drew).alloc (Nat.le_refl _) (.cells C 5 (C.size, C.size + 1)))
  have HC : Hid (∀ j (hj : j < s.data.toList.length), (w.drew.alloc (.cells C 5 (C.size, C.size + 1))).cell? ⟨w.heap.size, j, none⟩ = some (.int .u8 (s.data.toList[j].toNat : Nat))) := fun j hj => by
    have h1 := World.cell?_alloc_mark w.drew C 5 (C.size, C.size + 1) j
    have h2 := HA.out j (by simpa using hj)
    rw [h2] at h1
    simpa using h1
  have HE := Lib.hid (nameB_eq s)
  have hl : s.data.toList.length = s.size := by simp
  have hs : s.size ≤ 9223372036854775807 := by unfold maxLen at hs; omega
  have HI : Hid (s.toList.isEmpty = decide (s.size = 0)) := by
    show _ = _
    rw [tl_data, ← hl]
    cases s.data.toList <;> rfl
  generalize w.drew.alloc (.cells C 5 (C.size, C.size + 1)) = w1 at *
  generalize hL : s.data.toList = l at *
  generalize hN : s.size = N at *
  have HL := Lib.hid hl
  have HN := Lib.hid hN
  clear hL HA hl HN
  go_enter Try.func170, Try.ntmps170
  go_wp2_with fail
  go_loopg [4, 8] N (fun gk _ i wr => ∃ k : Nat, i = .int .i64 k ∧ k ≤ N ∧ gk = N - k ∧ (l.take k).all okc = true ∧ w1 = wr)
  case atStart => exact ⟨0, rfl, Nat.zero_le _, rfl, by simp, rfl⟩
  case round =>
    obtain ⟨k, rfl, hk, hg, hall, rfl⟩ := hrel
    have HG := Lib.hid hg; have HAll := Lib.hid hall
    clear hg hall
    by_cases hlt : k < N
    · have hkl : k < l.length := by rw [HL.out]; exact hlt
      have d0 : w1.cell? ⟨w.heap.size, k, none⟩ = some (.int .u8 ((l[k].toNat : Nat) : Int)) := HC.out k hkl
      have HT : Hid ((l.take (k + 1)).all okc = ((l.take k).all okc && okc l[k])) := all_snoc hkl
      have HBad := Lib.hid (all_bad (l := l) (k := k) hkl)
      have hok : okc l[k] = (decide (33 ≤ l[k].toNat) && decide (l[k].toNat ≤ 126)) := rfl
      have hc := l[k].toNat_lt
      generalize l[k].toNat = c at *
      generalize okc l[k] = ob at *
      have q1 : (0 : Int) ≤ (c : Int) := by omega
      have q2 : (c : Int) < 256 := by omega
      have HK := Lib.hid hok
      clear hc hok
      by_cases h1 : c ≤ 32
      · have t1 : decide ((c : Int) ≤ 32) = true := by simp; omega
        have HR := Lib.hid (HBad.out (by rw [HK.out]; simp; omega))
        go_wp2_with fail
        go_ret
        exact ⟨by rw [HE.out, HR.out]; rfl, HB.out⟩
      · have t1 : decide ((c : Int) ≤ 32) = false := by simp; omega
        by_cases h2 : 126 < c
        · have t2 : decide ((126 : Int) < (c : Int)) = true := by simp; omega
          have HR := Lib.hid (HBad.out (by rw [HK.out]; simp; omega))
          go_wp2_with fail
          go_ret
          exact ⟨by rw [HE.out, HR.out]; rfl, HB.out⟩
        · have t2 : decide ((126 : Int) < (c : Int)) = false := by simp; omega
          have HR : Hid (ob = true) := by show _ = _; rw [HK.out]; simp; omega
          go_wp2_with fail
          go_roundg (N - (k + 1))
          case rel => exact ⟨k + 1, by go_num, by omega, rfl, by rw [HT.out, HAll.out, HR.out]; rfl, rfl⟩
          case measure => have := HG.out; omega
    · obtain rfl : k = N := by omega
      have HT : Hid (l.all okc = true) := by show _ = _; have := HAll.out; rwa [List.take_of_length_le (by rw [HL.out]; omega)] at this
      by_cases h0 : k = 0
      · subst h0
        have t1 : s.toList.isEmpty = true := by rw [HI.out]; rfl
        go_wp2_with fail
        go_ret
        exact ⟨by rw [HE.out, HT.out]; rfl, HB.out⟩
      · have t1 : s.toList.isEmpty = false := by rw [HI.out]; simpa using h0
        have HF : Hid (decide ((k : Int) ≤ 24) = nameB s) := by
          have e2 : decide (1 ≤ k) = true := by simp; omega
          have e3 : decide ((k : Int) ≤ 24) = decide (k ≤ 24) := by rw [decide_eq_decide]; omega
          show _ = _
          rw [HE.out, HT.out, e2, e3]; rfl
        clear h0
        go_wp2_with fail
        go_ret
        exact ⟨by rw [← HF.out]; rfl, HB.out⟩
set_option maxRecDepth 100000 in
set_option maxHeartbeats 1000000 in
theorem RefName (s : ByteArray) (hs : s.size ≤ maxLen) (w : World) : Calls Try.prog 163 #[.string s] w fun e w' => e = .returned (.bool (nameB s)) ∧ w = w' := by
  have HE := nameB_eq s
  have hl : s.data.toList.length = s.size := by simp
  have hs : s.size ≤ 9223372036854775807 := by unfold maxLen at hs; omega
  obtain ⟨l, hL⟩ : ∃ l, l = s.data.toList := ⟨_, rfl⟩
  obtain ⟨N, hN⟩ : ∃ N, s.size = N := ⟨_, rfl⟩
  have HGt : Hid (∀ k, ∀ (h : k < s.size) (h' : k < l.length), s[k] = l[k]) := fun k h h' => by subst hL; rfl
  rw [← hL, hN] at HE
  rw [← hL, hN] at hl
  rw [hN] at hs
  have HE := Lib.hid HE
  clear hL
  have HL := Lib.hid hl
  go_enter Try.func163, Try.ntmps163
  go_wp2_with fail
  go_loopg [3] N (fun gk i wr => ∃ k : Nat, i = .int .i64 k ∧ k ≤ N ∧ gk = N - k ∧ (l.take k).all okc = true ∧ w = wr)
  case atStart => exact ⟨0, rfl, Nat.zero_le _, rfl, by simp, rfl⟩
  case round =>
    obtain ⟨k, rfl, hk, hg, hall, rfl⟩ := hrel
    have HG := Lib.hid hg; have HAll := Lib.hid hall
    clear hg hall
    by_cases hlt : k < N
    · have hkl : k < l.length := by rw [HL.out]; exact hlt
      have hkN : k < s.size := by rw [hN]; exact hlt
      have HX := Lib.hid (HGt.out k hkN hkl)
      have HBad := Lib.hid (all_bad (l := l) (k := k) hkl)
      have HT := Lib.hid (all_snoc hkl)
      have hok : okc l[k] = (decide (33 ≤ l[k].toNat) && decide (l[k].toNat ≤ 126)) := rfl
      rw [← HX.out] at hok
      have HK := Lib.hid hok
      clear hok
      by_cases h1 : s[k].toNat < 33
      · have t1 : decide ((s[k].toNat : Int) < 33) = true := by simp; omega
        have HR := Lib.hid (HBad.out (by rw [← HX.out, HK.out]; simp; omega))
        clear h1
        go_wp2_with fail
        go_ret
        exact ⟨by rw [HE.out, HR.out]; rfl, rfl⟩
      · have t1 : decide ((s[k].toNat : Int) < 33) = false := by simp; omega
        by_cases h2 : 126 < s[k].toNat
        · have t2 : decide ((126 : Int) < (s[k].toNat : Int)) = true := by simp; omega
          have HR := Lib.hid (HBad.out (by rw [← HX.out, HK.out]; simp; omega))
          clear h1 h2
          go_wp2_with fail
          go_ret
          exact ⟨by rw [HE.out, HR.out]; rfl, rfl⟩
        · have t2 : decide ((126 : Int) < (s[k].toNat : Int)) = false := by simp; omega
          have HR : Hid (okc l[k] = true) := by show _ = _; rw [← HX.out, HK.out]; simp; omega
          clear h1 h2
          go_wp2_with fail
          go_roundg (N - (k + 1))
          case rel => exact ⟨k + 1, by go_num, by omega, rfl, by rw [HT.out, HAll.out, HR.out]; rfl, rfl⟩
          case measure => have := HG.out; omega
    · obtain rfl : k = N := by omega
      have HT : Hid (l.all okc = true) := by show _ = _; have := HAll.out; rwa [List.take_of_length_le (by rw [HL.out]; omega)] at this
      by_cases h0 : k = 0
      · subst h0
        go_wp2_with fail
        go_ret
        exact ⟨by rw [HE.out, HT.out]; rfl, rfl⟩
      · have t1 : decide ((1 : Int) ≤ (k : Int)) = true := by simp; omega
        have HF : Hid (decide ((k : Int) ≤ 24) = nameB s) := by
          have e2 : decide (1 ≤ k) = true := by simp; omega
          have e3 : decide ((k : Int) ≤ 24) = decide (k ≤ 24) := by rw [decide_eq_decide]; omega
          show _ = _
          rw [HE.out, HT.out, e2, e3]; rfl
        clear h0
        go_wp2_with fail
        go_ret
        exact ⟨by rw [← HF.out]; rfl, rfl⟩
end Name
end Go.Proofs.Ytkhhdadlpilbmaa
