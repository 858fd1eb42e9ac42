/- A span's chain: the program's. -/
import Derived.Test.YtmcghchhegfilaaClsO
import Derived.Test.YtmcghchhegfilaaRef01
namespace Go.Proofs.Ytmcghchhegfilaa
open Go.RowKit
namespace ClsF
open KeyP PackP SetP SetW SetF Cls ClsW ClsS Pack
attribute [local go_sem] Eng.ev Eng.getO_cons Eng.getO_nil
abbrev TIs : TypeId := 27
abbrev TI : TypeId := 3
theorem infoN : (Try.prog.info? TI).map (fun i => (i.zero, i.size, i.bytes)) = some (some (.int .i64 0), 1, 8) := by kernel_rfl
/-- A chain. -/
abbrev wy (L : List Sn) (t i : Int) : List Sn := (way L t (L.length + 1) [] i).1
abbrev ids (s : List Sn) : List Int := s.map Sn.i
theorem wy_mem {L : List Sn} {t i : Int} {z : Sn} (h : z ∈ wy L t i) : z ∈ L ∧ z.t = t := by
  obtain ⟨e, h1, -⟩ := way_T (L := L) (t := t) i
  exact ⟨(h1.mem z h).1, (h1.mem z h).2.1⟩
theorem wy_len (L : List Sn) (t i : Int) : (wy L t i).length ≤ L.length := by
  obtain ⟨e, h1, h2, -⟩ := way_T (L := L) (t := t) i
  exact sub_len h2 (fun z hz => (h1.mem z hz).1)
set_option maxRecDepth 100000 in
set_option maxHeartbeats 1000000 in
theorem Chain (t i : Int) (A : Option Addr) (c : Nat) (L : List Sn) (w : World) (hS : Ls w A c L) (hlen : L.length ≤ 900) (ht : wf64 t) (hi0 : wf64 i) :
    Calls Try.prog 33 #[.int .i64 t, .int .i64 i, .slice A L.length c] w fun e w' => ∃ A' c', e = .returned (.slice A' (wy (spn L) t i).length c') ∧ Sl w' 1 A' (wy (spn L) t i).length c' (ints (ids (wy (spn L) t i))) ∧ Below w.heap.size w w' := by
  obtain ⟨i0, hi, hz0, hz1, hz2⟩ := info_parts infoN
  have HSp := Lib.hid (spans A c L w hS (by omega))
  have hsl := Nat.le_trans (spn_len L) hlen
  have HSr := Lib.hid (spn_srs L)
  clear hS
  generalize spn L = M at *
  obtain ⟨s0, hW0⟩ : ∃ s0, wy M t i = s0 := ⟨_, rfl⟩
  rw [hW0]
  have HW0 := Lib.hid hW0
  clear hW0
  have kb : ∀ W : World, (Instr.build TSn #[(0, .int .i64 t), (1, .int .i64 i)]).run Try.prog W = .ok (.agg #[.int .i64 t, .int .i64 i, .int .i64 0, .int .i64 0, .string ByteArray.empty, .string ByteArray.empty, .int .i64 0, .int .i64 0, .bool false]) W := fun W => by kernel_rfl
  go_enter Try.func33, Try.ntmps33
  go_wp2_with fail
  refine HSp.out.mono ?_
  rintro e w1 ⟨A1, c1, rfl, hls, hb⟩
  have HB := Lib.hid hb
  have HPl := Lib.hid (plant A1 c1 M w1 hls HSr.out (by omega))
  have HOk := Lib.hid hls.ok
  clear hls hb HSp
  go_wp2_with fail
  refine HPl.out.mono ?_
  rintro e w2 ⟨h, n, rfl, -, hF⟩
  obtain ⟨⟨s, e⟩, hSE⟩ : ∃ SE, cw M t (fun _ => false) (M.length + 1) [] i = SE := ⟨_, rfl⟩
  have HCh := Lib.hid (chain ⟨t, i, 0, 0, ByteArray.empty, ByteArray.empty, 0, 0, false⟩ w2 hF HOk.out ht hi0 (by omega) (s, e) hSE)
  have HB2 := Lib.hid (HB.out.trans (hF.l.mono HB.out.size))
  have hw : s = s0 := by rw [← HW0.out]; have := cw_way (L := M) (t := t) (M.length + 1) [] i; rw [hSE] at this; exact this
  subst hw
  have hwl : s.length ≤ M.length := by rw [← HW0.out]; exact wy_len M t i
  clear hF HPl hSE
  go_wp2_with fail
  refine HCh.out.mono ?_
  rintro e' w3 ⟨A3, c3, rfl, hsl3, hb, hA3⟩
  dsimp only at hsl3
  have HB3 := Lib.hid (HB2.out.trans (hb.mono HB2.out.size))
  have HS3 := Lib.hid hsl3
  clear hb hsl3 HCh hA3 kb HB2
  go_wp2_with fail
  go_loopg [10, 12, 26] s.length (fun gk v _ j wr => ∃ k : Nat, j = .int .i64 k ∧ k ≤ s.length ∧ gk = s.length - k ∧ wr.ownsRow w3.heap.size TI 1 v k (ints (ids (s.take k))) ∧ Below w3.heap.size w3 wr)
  case atStart => exact ⟨0, rfl, Nat.zero_le _, rfl, World.ownsRow_nil _ _ _ _, Below.refl _ _⟩
  case round =>
    obtain ⟨k, rfl, hk, hg, hown, hbel⟩ := hrel
    have HG := Lib.hid hg; have HO := Lib.hid hown; have HBe := Lib.hid hbel
    have hszw : w3.heap.size ≤ wr.heap.size := hbel.size
    clear hg hown hbel
    by_cases hlt : k < s.length
    · obtain ⟨b1, o1, rfl, hb1, c1⟩ := HS3.out.at hlt (by omega)
      have HA := Lib.hid ((At.row c1 hlt).fr (Fr.of_below' HBe.out (fun _ => False)) (fun h => h))
      have HSn : Hid (ints (ids (s.take (k + 1))) = ints (ids (s.take k)) ++ [.int .i64 s[k].i]) := by show _ = _; rw [List.take_succ_eq_append_getElem hlt]; unfold ids ints; rw [List.map_append, List.map_append]; rfl
      clear c1 hb1
      generalize s[k] = y at *
      generalize ints (ids (s.take k)) = N at *
      have q1 : (0 : Int) ≤ (k : Int) := by omega
      have q2 : decide ((k : Int) < (s.length : Int)) = true := by simp; omega
      have HK1 := Lib.hid (ownsRow_blk HO.out)
      have yc0 : wr.cell? ⟨b1, o1 + k * 9, none⟩ = some (.int .i64 y.t) := HA.out 0 _ rfl
      have yc1 : wr.cell? ⟨b1, o1 + k * 9 + 1, none⟩ = some (.int .i64 y.i) := HA.out 1 _ rfl
      have yc2 : wr.cell? ⟨b1, o1 + k * 9 + 1 + 1, none⟩ = some (.int .i64 y.p) := HA.out 2 _ rfl
      have yc3 : wr.cell? ⟨b1, o1 + k * 9 + 1 + 1 + 1, none⟩ = some (.int .i64 y.r) := HA.out 3 _ rfl
      have yc4 : wr.cell? ⟨b1, o1 + k * 9 + 1 + 1 + 1 + 1, none⟩ = some (.string y.s) := HA.out 4 _ rfl
      have yc5 : wr.cell? ⟨b1, o1 + k * 9 + 1 + 1 + 1 + 1 + 1, none⟩ = some (.string y.o) := HA.out 5 _ rfl
      have yc6 : wr.cell? ⟨b1, o1 + k * 9 + 1 + 1 + 1 + 1 + 1 + 1, none⟩ = some (.int .i64 y.b) := HA.out 6 _ rfl
      have yc7 : wr.cell? ⟨b1, o1 + k * 9 + 1 + 1 + 1 + 1 + 1 + 1 + 1, none⟩ = some (.int .i64 y.d) := HA.out 7 _ rfl
      have yc8 : wr.cell? ⟨b1, o1 + k * 9 + 1 + 1 + 1 + 1 + 1 + 1 + 1 + 1, none⟩ = some (.bool y.g) := HA.out 8 _ rfl
      go_upto_region 7 with (fail)
      have f1 := Fr.alloc (fun _ => False) wr (.cells y.arr TSn)
      have a1 := At.box (Bk.new wr y.arr TSn)
      have hown1 := ownsRow_fr HO.out f1 (fun _ _ h => h)
      have HB4 := Lib.hid (HBe.out.trans (f1.below hszw (fun _ _ h => h)))
      have hA4 : (wr.alloc (.cells y.arr TSn)).cell? ⟨wr.heap.size, 1, none⟩ = some (.int .i64 y.i) := a1 1 _ rfl
      clear f1 a1 HA yc0 yc1 yc2 yc3 yc4 yc5 yc6 yc7 yc8
      generalize (wr.alloc (.cells y.arr TSn)) = w4 at *
      have hs4 : w3.heap.size ≤ w4.heap.size := HB4.out.size
      have hown1' := hown1.alloc (.cells [Value.int .i64 y.i].toArray TI)
      go_wp2_with (at_builtin; refine wpList_append_sl _ rfl (.tmp 30) (.tmp 33) TIs rfl w3.heap.size TI i0 (.int .i64 0) 1 8 Try.underlying27 hi hz0 hz1 hz2 rfl (by decide) _ _ _ rfl hown1' _ _ _ _ rfl (Sl.one w4 TI [.int .i64 y.i] 1 rfl) (by simp [Value.oneCell']) ?_ ?_ ?_ ?_)
      · unfold maxLen; omega
      · omega
      · first | omega | (simp; omega)
      intro v1 w5 hown5 hgrow5
      have HO5 := Lib.hid hown5; have HGr := Lib.hid hgrow5
      clear hown1 hown5 hgrow5 hown1'
      go_wp2_with fail
      go_roundg (s.length - (k + 1))
      case rel => exact ⟨k + 1, by go_num, by omega, rfl, by rw [HSn.out]; simpa using HO5.out, (HB4.out.alloc (by omega) _).grown HGr.out (by simp; omega) (fun k e => (HK1.out k e).1)⟩
      case measure => have := HG.out; omega
    · obtain rfl : k = s.length := by omega
      have q2 : decide ((s.length : Int) < (s.length : Int)) = false := by simp
      have hO := HO.out
      rw [List.take_length] at hO
      obtain ⟨A2, c2, hv, h2, -⟩ := Sl.of_own hO
      subst hv
      have H2 := Lib.hid h2; have HB5 := Lib.hid (HB3.out.trans (HBe.out.mono HB3.out.size))
      clear h2 hO
      go_wp2_with fail
      go_ret
      exact ⟨A2, c2, rfl, H2.out, HB5.out⟩
end ClsF
end Go.Proofs.Ytmcghchhegfilaa
