/- Chains: the document's. -/
import Derived.Test.YtmcghchhegfilaaClsU
namespace Go.Proofs.Ytmcghchhegfilaa
open Go.RowKit
namespace ClsF
open KeyP PackP SetP SetW SetF Cls ClsW ClsS Pack
attribute [local go_sem] Eng.ev Eng.getO_cons Eng.getO_nil
theorem posI_none {L : List Sn} {t i : Int} (h : nx L t i = none) (z : Sn) (h1 : z.t = t) (h2 : z.i = i) : posI z L = -1 := by
  unfold posI
  rw [pos_none (fun y hy => ?_)]
  have := List.find?_eq_none.1 h y hy
  cases ho : one y z with
  | false => rfl
  | true =>
    have := one_iff.1 ho
    subst h1 h2
    simp_all
theorem posI_some {L : List Sn} {t i : Int} {y : Sn} (h : nx L t i = some y) (z : Sn) (h1 : z.t = t) (h2 : z.i = i) : ∃ k : Nat, ∃ hk : k < L.length, posI z L = (k : Int) ∧ L[k] = y := by
  obtain ⟨hp, k, hk, hy, hn⟩ := List.find?_eq_some_iff_getElem.1 h
  refine ⟨k, hk, ?_, hy⟩
  subst h1 h2
  unfold posI
  rw [pos_at (k := k) (fun x hx => ?_) hk (one_iff.2 (by rw [hy]; simpa using hp))]
  obtain ⟨j, hj, rfl⟩ := List.mem_iff_getElem.1 hx
  rw [List.length_take] at hj
  have := hn j (by omega)
  cases ho : one ((L.take k)[j]) z with
  | false => rfl
  | true =>
    have h3 := one_iff.1 ho
    rw [List.getElem_take] at h3
    simp [h3.1, h3.2] at this
theorem posI_fnd (y : Sn) (s : List Sn) : decide (posI y s ≥ 0) = (fnd y s).isSome := by
  unfold posI pos fnd
  cases h : s.findIdx? (fun x => one x y) with
  | none =>
    rw [List.findIdx?_eq_none_iff] at h
    rw [List.find?_eq_none.2 (fun x hx => by rw [h x hx]; simp)]
    rfl
  | some k =>
    obtain ⟨hk, hy, -⟩ := List.findIdx?_eq_some_iff_getElem.1 h
    have : (s.find? (fun x => one x y)).isSome = true := List.find?_isSome.2 ⟨s[k], List.getElem_mem hk, hy⟩
    rw [this]
    simp
theorem way_go {L : List Sn} {t i : Int} {n : Nat} {s : List Sn} {y : Sn} (hn : nx L t i = some y) (hf : (fnd y s).isSome = false) : way L t (n + 1) s i = way L t n (s ++ [y]) y.p := by
  conv => lhs; unfold way
  rw [hn]; dsimp only; rw [if_neg (by rw [hf]; simp)]
set_option maxRecDepth 100000 in
set_option maxHeartbeats 1000000 in
theorem RChain (t i0 : Int) (A : Option Addr) (c : Nat) (L : List Sn) (w : World) (hS : Ls w A c L) (hlen : L.length ≤ 1000000) (W : List Sn × Bool) (hW : way L t (L.length + 1) [] i0 = W) :
    Calls Try.prog 64 #[.slice A L.length c, .int .i64 t, .int .i64 i0] w fun e w' => ∃ A' c', e = .returned (.tuple #[.slice A' W.1.length c', .bool W.2]) ∧ Sl w' 9 A' W.1.length c' (W.1.flatMap scs) ∧ Below w.heap.size w w' := by
  obtain ⟨j0, hi, hz0, hz1, hz2⟩ := info_parts infoS
  have HS := Lib.hid hS; have HW := Lib.hid hW
  clear hS hW
  have kb : ∀ (i : Int) (W : World), (Instr.build TSn #[(0, .int .i64 t), (1, .int .i64 i)]).run Try.prog W = .ok (.agg #[.int .i64 t, .int .i64 i, .int .i64 0, .int .i64 0, .string ByteArray.empty, .string ByteArray.empty, .int .i64 0, .int .i64 0, .bool false]) W := fun i W => by kernel_rfl
  go_enter Try.func64, Try.ntmps64
  go_wp2_with fail
  go_loopg [2, 8, 9] (L.length + 1) (fun gk v2 v8 _ wr => ∃ (s : List Sn) (i : Int), v2 = .int .i64 i ∧ gk = L.length + 1 - s.length ∧ wr.ownsRow w.heap.size TSn 9 v8 s.length (s.flatMap scs) ∧ Below w.heap.size w wr ∧ Ch L t i0 s i ∧ s.Nodup ∧ way L t gk s i = W)
  case atStart => exact ⟨[], i0, rfl, rfl, World.ownsRow_nil _ _ _ _, Below.refl _ _, .nil _, List.nodup_nil, HW.out⟩
  case round =>
    clear HW
    obtain ⟨s, i, rfl, hg, hown, hbel, hch, hnd, hw⟩ := hrel
    have hsl : s.length ≤ L.length := sub_len hnd (fun z hz => (hch.mem z hz).1)
    obtain ⟨r, hr⟩ : ∃ r, gk = r + 1 := ⟨L.length - s.length, by omega⟩
    subst hr
    obtain ⟨A8, c8, hv8, h8, hA8⟩ := Sl.of_own hown
    subst hv8
    have HG := Lib.hid hg; have HO := Lib.hid hown; have HBe := Lib.hid hbel; have HCh := Lib.hid hch; have HNd := Lib.hid hnd; have HWa := Lib.hid hw
    have HLr := Lib.hid (HS.out.below hbel); have HK1 := Lib.hid (ownsRow_blk hown)
    have hszw : w.heap.size ≤ wr.heap.size := hbel.size
    clear hg hown hbel hch hnd hw h8 hA8
    have HFd := Lib.hid (Find A c L ⟨t, i, 0, 0, ByteArray.empty, ByteArray.empty, 0, 0, false⟩ wr HLr.out.s)
    have kb1 := kb i
    go_upto_region 2 with (fail)
    cases hn : nx L t i with
    | none =>
      have hw1 : way L t (r + 1) s i = (s, false) := by unfold way; rw [hn]
      have HWe := Lib.hid (HWa.out.symm.trans hw1)
      rw [posI_none hn _ rfl rfl] at HFd
      clear hw1 hn kb
      go_wp2_with fail
      refine HFd.out.mono ?_
      rintro e w3 ⟨rfl, hf3⟩
      have HO3 := Lib.hid (ownsRow_fr HO.out hf3 (fun _ _ h => h)); have HB3 := Lib.hid (HBe.out.trans (hf3.below hszw (fun _ _ h => h)))
      clear hf3 HFd kb1
      go_wp2_with fail
      go_ret2
      obtain ⟨A9, c9, hv9, h9, -⟩ := Sl.of_own HO3.out
      injection hv9 with h91 h92 h93
      subst h91 h93
      rw [HWe.out]
      exact ⟨A8, c8, rfl, h9, HB3.out⟩
    | some y =>
      obtain ⟨k, hk, hpk, hy⟩ := posI_some hn ⟨t, i, 0, 0, ByteArray.empty, ByteArray.empty, 0, 0, false⟩ rfl rfl
      rw [hpk] at HFd
      have HSt : Hid ((fnd y s).isSome = true → (s, true) = W) := fun hf => by rw [← HWa.out]; unfold way; rw [hn]; dsimp only; rw [if_pos hf]
      have HGo : Hid ((fnd y s).isSome = false → way L t r (s ++ [y]) y.p = W) := fun hf => (way_go hn hf).symm.trans HWa.out
      have HSn := Lib.hid (HCh.out.snoc hn)
      obtain ⟨b1, o1, rfl, hb1, c1⟩ := HS.out.s.at hk (by omega)
      have hA0 := At.row c1 hk
      rw [hy] at hA0
      have HA0 := Lib.hid hA0
      have HA := Lib.hid (hA0.fr (Fr.of_below' HBe.out (fun _ => False)) (fun h => h))
      clear c1 hb1 hn hpk hy kb hA0
      have q1 : (0 : Int) ≤ (k : Int) := by omega
      have q2 : (k : Int) < (L.length : Int) := by omega
      have q3 : decide ((k : Int) < 0) = false := by simp
      go_wp2_with fail
      refine HFd.out.mono ?_
      rintro e w3 ⟨rfl, hf3⟩
      have HO3 := Lib.hid (ownsRow_fr HO.out hf3 (fun _ _ h => h)); have HB3 := Lib.hid (HBe.out.trans (hf3.below hszw (fun _ _ h => h)))
      have HA3 := Lib.hid (HA.out.keep hf3)
      have hsz3 : w.heap.size ≤ w3.heap.size := HB3.out.size
      clear hf3 HFd kb1 HA HO HLr
      obtain ⟨A9, c9, hv9, h9, -⟩ := Sl.of_own HO3.out
      injection hv9 with h91 h92 h93
      subst h91 h93
      have HFe := Lib.hid (Find A8 c8 s y w3 h9)
      clear h9
      have yc0 : w3.cell? ⟨b1, o1 + k * 9, none⟩ = some (.int .i64 y.t) := HA3.out 0 _ rfl
      have yc1 : w3.cell? ⟨b1, o1 + k * 9 + 1, none⟩ = some (.int .i64 y.i) := HA3.out 1 _ rfl
      have yc2 : w3.cell? ⟨b1, o1 + k * 9 + 1 + 1, none⟩ = some (.int .i64 y.p) := HA3.out 2 _ rfl
      have yc3 : w3.cell? ⟨b1, o1 + k * 9 + 1 + 1 + 1, none⟩ = some (.int .i64 y.r) := HA3.out 3 _ rfl
      have yc4 : w3.cell? ⟨b1, o1 + k * 9 + 1 + 1 + 1 + 1, none⟩ = some (.string y.s) := HA3.out 4 _ rfl
      have yc5 : w3.cell? ⟨b1, o1 + k * 9 + 1 + 1 + 1 + 1 + 1, none⟩ = some (.string y.o) := HA3.out 5 _ rfl
      have yc6 : w3.cell? ⟨b1, o1 + k * 9 + 1 + 1 + 1 + 1 + 1 + 1, none⟩ = some (.int .i64 y.b) := HA3.out 6 _ rfl
      have yc7 : w3.cell? ⟨b1, o1 + k * 9 + 1 + 1 + 1 + 1 + 1 + 1 + 1, none⟩ = some (.int .i64 y.d) := HA3.out 7 _ rfl
      have yc8 : w3.cell? ⟨b1, o1 + k * 9 + 1 + 1 + 1 + 1 + 1 + 1 + 1 + 1, none⟩ = some (.bool y.g) := HA3.out 8 _ rfl
      go_wp2_with fail
      refine HFe.out.mono ?_
      rintro e w4 ⟨rfl, hf4⟩
      have HO4 := Lib.hid (ownsRow_fr HO3.out hf4 (fun _ _ h => h)); have HB4 := Lib.hid (HB3.out.trans (hf4.below hsz3 (fun _ _ h => h)))
      have HA4 := Lib.hid (HA3.out.keep hf4)
      have hsz4 : w.heap.size ≤ w4.heap.size := HB4.out.size
      have hpf := posI_fnd y s
      clear hf4 HFe HA3 HO3 yc0 yc1 yc2 yc3 yc4 yc5 yc6 yc7 yc8
      generalize posI y s = pp at *
      cases hf : (fnd y s).isSome with
      | true =>
        have HWe := Lib.hid (HSt.out hf)
        rw [hf] at hpf
        clear hf HGo HSt
        go_wp2_with fail
        go_ret2
        obtain ⟨A9, c9, hv9, h9, -⟩ := Sl.of_own HO4.out
        injection hv9 with h91 h92 h93
        subst h91 h93
        rw [← HWe.out]
        exact ⟨A8, c8, rfl, h9, HB4.out⟩
      | false =>
        have HWe := Lib.hid (HGo.out hf)
        have HNf := Lib.hid hf
        rw [hf] at hpf
        have hown4 := HO4.out
        have hown1' := hown4.alloc (.cells y.arr TSn)
        clear hf HGo HSt
        have yc0 : w4.cell? ⟨b1, o1 + k * 9, none⟩ = some (.int .i64 y.t) := HA4.out 0 _ rfl
        have yc1 : w4.cell? ⟨b1, o1 + k * 9 + 1, none⟩ = some (.int .i64 y.i) := HA4.out 1 _ rfl
        have yc2 : w4.cell? ⟨b1, o1 + k * 9 + 1 + 1, none⟩ = some (.int .i64 y.p) := HA4.out 2 _ rfl
        have yc3 : w4.cell? ⟨b1, o1 + k * 9 + 1 + 1 + 1, none⟩ = some (.int .i64 y.r) := HA4.out 3 _ rfl
        have yc4 : w4.cell? ⟨b1, o1 + k * 9 + 1 + 1 + 1 + 1, none⟩ = some (.string y.s) := HA4.out 4 _ rfl
        have yc5 : w4.cell? ⟨b1, o1 + k * 9 + 1 + 1 + 1 + 1 + 1, none⟩ = some (.string y.o) := HA4.out 5 _ rfl
        have yc6 : w4.cell? ⟨b1, o1 + k * 9 + 1 + 1 + 1 + 1 + 1 + 1, none⟩ = some (.int .i64 y.b) := HA4.out 6 _ rfl
        have yc7 : w4.cell? ⟨b1, o1 + k * 9 + 1 + 1 + 1 + 1 + 1 + 1 + 1, none⟩ = some (.int .i64 y.d) := HA4.out 7 _ rfl
        have yc8 : w4.cell? ⟨b1, o1 + k * 9 + 1 + 1 + 1 + 1 + 1 + 1 + 1 + 1, none⟩ = some (.bool y.g) := HA4.out 8 _ rfl
        go_wp2_with (at_builtin; refine wpList_append_sl _ rfl (.tmp 26) (.tmp 31) TSs rfl w.heap.size TSn j0 (.agg #[.int .i64 0, .int .i64 0, .int .i64 0, .int .i64 0, .string ByteArray.empty, .string ByteArray.empty, .int .i64 0, .int .i64 0, .bool false]) 9 88 Try.underlying22 hi hz0 hz1 hz2 rfl (by decide) _ _ _ rfl hown1' _ _ _ _ rfl (Sl.one w4 TSn (scs y) 9 rfl) (by simp [Value.oneCell']) ?_ ?_ ?_ ?_)
        · unfold maxLen; omega
        · omega
        · first | omega | (simp; omega)
        intro v1 w5 hown1 hgrow1
        have HO5 := Lib.hid hown1; have HGr := Lib.hid hgrow1
        have f5 : Fr (fun b => w.heap.size ≤ b) w4 w5 := (Fr.alloc (fun _ => False) w4 (.cells y.arr TSn)).trans (Fr.grown (S := fun b => w.heap.size ≤ b) hgrow1 (fun b e => (HK1.out b e).1)) (fun _ _ h => h.elim) (fun _ _ h => h)
        have HB5 := Lib.hid (HB4.out.trans (f5.below hsz4 (fun k hk e => by omega)))
        have HA5 := Lib.hid (HA0.out.fr (Fr.of_below' HB5.out (fun _ => False)) (fun h => h))
        have hnd2 := nodup_snoc HNd.out HNf.out
        have hsl2 : (s ++ [y]).length ≤ L.length := sub_len hnd2 (fun z hz => (HSn.out.mem z hz).1)
        rw [List.length_append, List.length_singleton] at hsl2
        have HNd2 := Lib.hid hnd2
        clear hown1 hgrow1 hown1' hown4 hnd2 f5 yc0 yc1 yc2 yc3 yc4 yc5 yc6 yc7 yc8
        have yc0 : w5.cell? ⟨b1, o1 + k * 9, none⟩ = some (.int .i64 y.t) := HA5.out 0 _ rfl
        have yc1 : w5.cell? ⟨b1, o1 + k * 9 + 1, none⟩ = some (.int .i64 y.i) := HA5.out 1 _ rfl
        have yc2 : w5.cell? ⟨b1, o1 + k * 9 + 1 + 1, none⟩ = some (.int .i64 y.p) := HA5.out 2 _ rfl
        have yc3 : w5.cell? ⟨b1, o1 + k * 9 + 1 + 1 + 1, none⟩ = some (.int .i64 y.r) := HA5.out 3 _ rfl
        have yc4 : w5.cell? ⟨b1, o1 + k * 9 + 1 + 1 + 1 + 1, none⟩ = some (.string y.s) := HA5.out 4 _ rfl
        have yc5 : w5.cell? ⟨b1, o1 + k * 9 + 1 + 1 + 1 + 1 + 1, none⟩ = some (.string y.o) := HA5.out 5 _ rfl
        have yc6 : w5.cell? ⟨b1, o1 + k * 9 + 1 + 1 + 1 + 1 + 1 + 1, none⟩ = some (.int .i64 y.b) := HA5.out 6 _ rfl
        have yc7 : w5.cell? ⟨b1, o1 + k * 9 + 1 + 1 + 1 + 1 + 1 + 1 + 1, none⟩ = some (.int .i64 y.d) := HA5.out 7 _ rfl
        have yc8 : w5.cell? ⟨b1, o1 + k * 9 + 1 + 1 + 1 + 1 + 1 + 1 + 1 + 1, none⟩ = some (.bool y.g) := HA5.out 8 _ rfl
        go_wp2_with fail
        go_roundg r
        case rel => exact ⟨s ++ [y], y.p, rfl, by rw [List.length_append, List.length_singleton]; have := HG.out; omega, by rw [List.length_append, List.flatMap_append]; simpa using HO5.out, HB5.out, HSn.out, HNd2.out, HWe.out⟩
        case measure => omega
end ClsF
end Go.Proofs.Ytmcghchhegfilaa
