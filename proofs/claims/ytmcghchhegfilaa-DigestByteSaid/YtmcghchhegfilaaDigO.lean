/- The digest of records: the program's. -/
import Derived.Test.YtmcghchhegfilaaDigD
import Derived.Test.YtmcghchhegfilaaCodes
namespace Go.Proofs.Ytmcghchhegfilaa
open Go.RowKit
namespace DigW
open KeyP PackP SetP SetW SetF Code_
attribute [local go_sem] Eng.ev Eng.getO_cons Eng.getO_nil
theorem upd_dgI {M : List Sn} {k : Nat} (h : k < M.length) (v : Int) (hv : v = ((Crc.more (Dig.dig (M.take k) (Dig.part M[k].t)) (enc M[k]) : Nat) : Int)) : dar (upd (dgI (M.take k)) (Dig.part M[k].t) v) = dar (dgI (M.take (k + 1))) := by
  subst hv
  refine dv_ext (fun j hj => ?_)
  rw [List.take_succ_eq_append_getElem h, dgI_snoc _ _]
/-- Where the loop stands. -/
structure OS (w w2 wr : World) (A : Option Addr) (c : Nat) (M : List Sn) (f : Nat → Int) : Prop where
  o : Bk wr w.heap.size (dar (fun _ => 0)) TDg
  a : Bk wr (w.heap.size + 1) (dar f) TAr
  b : Below w.heap.size w wr
  l : Ls wr A c M
  n : ∀ a, A = some a → a.block ≠ w.heap.size + 1
theorem OS.keep {w w2 wr w' : World} {A : Option Addr} {c : Nat} {M : List Sn} {f : Nat → Int} (h : OS w w2 wr A c M f) (hf : Fr (fun _ => False) wr w') : OS w w2 w' A c M f :=
  ⟨h.o.fr hf (fun _ _ h => h), h.a.fr hf (fun _ _ h => h), h.b.trans (hf.below h.b.size (fun _ _ h => h)), h.l.keep hf, h.n⟩
theorem OS.below {w w2 wr w' : World} {A : Option Addr} {c : Nat} {M : List Sn} {f : Nat → Int} (h : OS w w2 wr A c M f) (hb : Below wr.heap.size wr w') : OS w w2 w' A c M f := h.keep (Fr.of_below' hb _)
theorem OS.set {w w2 wr : World} {A : Option Addr} {c : Nat} {M : List Sn} {f g : Nat → Int} (h : OS w w2 wr A c M f) {k : Nat} (hk : k < 16) (v : Int) (hg : dar (upd f k v) = dar g) : OS w w2 (wr.setCell ⟨w.heap.size + 1, k, none⟩ (.int .i64 v)) A c M g := by
  have hf := Fr.setCell wr ⟨w.heap.size + 1, k, none⟩ (.int .i64 v) (S := fun b => b = w.heap.size + 1) rfl
  refine ⟨h.o.fr hf (fun b hb e => by simp at hb; omega), ?_, h.b.trans (hf.below h.b.size (fun _ _ e => by omega)), h.l.fr hf (fun a ha e => h.n a ha e), h.n⟩
  have := h.a.set k (.int .i64 v)
  rwa [dar_set f hk, hg] at this
/-- A digest stored. -/
abbrev putD (w : World) (b : Nat) (F : Nat → Int) : World := ((((((((((((((((w.setCell ⟨b, 0, none⟩ (.int .i64 (F 0))).setCell ⟨b, 1, none⟩ (.int .i64 (F 1))).setCell ⟨b, 2, none⟩ (.int .i64 (F 2))).setCell ⟨b, 3, none⟩ (.int .i64 (F 3))).setCell ⟨b, 4, none⟩ (.int .i64 (F 4))).setCell ⟨b, 5, none⟩ (.int .i64 (F 5))).setCell ⟨b, 6, none⟩ (.int .i64 (F 6))).setCell ⟨b, 7, none⟩ (.int .i64 (F 7))).setCell ⟨b, 8, none⟩ (.int .i64 (F 8))).setCell ⟨b, 9, none⟩ (.int .i64 (F 9))).setCell ⟨b, 10, none⟩ (.int .i64 (F 10))).setCell ⟨b, 11, none⟩ (.int .i64 (F 11))).setCell ⟨b, 12, none⟩ (.int .i64 (F 12))).setCell ⟨b, 13, none⟩ (.int .i64 (F 13))).setCell ⟨b, 14, none⟩ (.int .i64 (F 14))).setCell ⟨b, 15, none⟩ (.int .i64 (F 15)))
theorem bkD {w : World} {b : Nat} {f : Nat → Int} (h : Bk w b (dar f) TDg) {k : Nat} (hk : k < 16) (v : Int) : Bk (w.setCell ⟨b, k, none⟩ (.int .i64 v)) b (dar (upd f k v)) TDg := by
  have := h.set k (.int .i64 v)
  rwa [dar_set f hk] at this
theorem putD_bk {w : World} {b : Nat} {G : Nat → Int} (h : Bk w b (dar G) TDg) (F : Nat → Int) : Bk (putD w b F) b (dar F) TDg := by
  have h1 := (bkD (k := 15) (bkD (k := 14) (bkD (k := 13) (bkD (k := 12) (bkD (k := 11) (bkD (k := 10) (bkD (k := 9) (bkD (k := 8) (bkD (k := 7) (bkD (k := 6) (bkD (k := 5) (bkD (k := 4) (bkD (k := 3) (bkD (k := 2) (bkD (k := 1) (bkD (k := 0) h (by omega) (F 0)) (by omega) (F 1)) (by omega) (F 2)) (by omega) (F 3)) (by omega) (F 4)) (by omega) (F 5)) (by omega) (F 6)) (by omega) (F 7)) (by omega) (F 8)) (by omega) (F 9)) (by omega) (F 10)) (by omega) (F 11)) (by omega) (F 12)) (by omega) (F 13)) (by omega) (F 14)) (by omega) (F 15))
  have h2 : ∀ f g : Nat → Int, (∀ k < 16, f k = g k) → Bk (putD w b F) b (dar f) TDg → Bk (putD w b F) b (dar g) TDg := fun f g he hb => by rw [← dv_ext he]; exact hb
  refine h2 _ _ (fun k hk => ?_) h1
  rcases c16 hk with rfl | rfl | rfl | rfl | rfl | rfl | rfl | rfl | rfl | rfl | rfl | rfl | rfl | rfl | rfl | rfl <;> simp [upd]
theorem frs {w w' : World} {b : Nat} (h : Fr (fun k => k = b) w w') (o : Nat) (u : Value) : Fr (fun k => k = b) w (w'.setCell ⟨b, o, none⟩ u) := h.trans (Fr.setCell w' ⟨b, o, none⟩ u (S := fun k => k = b) rfl) (fun _ _ h => h) (fun _ _ h => h)
theorem putD_fr (w : World) (b : Nat) (F : Nat → Int) : Fr (fun k => k = b) w (putD w b F) := (frs (frs (frs (frs (frs (frs (frs (frs (frs (frs (frs (frs (frs (frs (frs (frs (Fr.refl _ w) 0 (.int .i64 (F 0))) 1 (.int .i64 (F 1))) 2 (.int .i64 (F 2))) 3 (.int .i64 (F 3))) 4 (.int .i64 (F 4))) 5 (.int .i64 (F 5))) 6 (.int .i64 (F 6))) 7 (.int .i64 (F 7))) 8 (.int .i64 (F 8))) 9 (.int .i64 (F 9))) 10 (.int .i64 (F 10))) 11 (.int .i64 (F 11))) 12 (.int .i64 (F 12))) 13 (.int .i64 (F 13))) 14 (.int .i64 (F 14))) 15 (.int .i64 (F 15)))
set_option maxRecDepth 100000 in
set_option maxHeartbeats 2000000 in
theorem Of (A : Option Addr) (c : Nat) (L : List Sn) (w : World) (hS : Ls w A c L) (hlen : L.length ≤ 1000000) :
    Calls Try.prog 14 #[.slice A L.length c] w fun e w' => e = .returned (dv (dgI (setOf L))) ∧ Below w.heap.size w w' := by
  have hml := setOf_len L
  have HOk := Lib.hid (setOf_ok L)
  have HG := Lib.hid (set_ok hS.ok)
  have HC0 := Lib.hid (fun (W : World) (hf : Fr (fun _ => False) w W) => SetF.Set A c L W (hS.keep hf) hlen)
  clear hS
  generalize setOf L = M at *
  go_enter Try.func14, Try.ntmps14
  have s1 := Bk.new w (dar (fun _ => 0)) TDg
  have s2 := Bk.new (w.alloc (.cells (dar (fun _ => 0)) TDg)) (dar (fun _ => 0)) TAr
  have f1 := Fr.alloc (fun _ => False) w (.cells (dar (fun _ => 0)) TDg)
  have f2 := Fr.alloc (fun _ => False) (w.alloc (.cells (dar (fun _ => 0)) TDg)) (.cells (dar (fun _ => 0)) TAr)
  have s3 : (w.alloc (.cells (dar (fun _ => 0)) TDg)).heap.size = w.heap.size + 1 := World.size_alloc _ _
  rw [s3] at s2
  go_upto_region 2 with (fail)
  have s4 : ((w.alloc (.cells (dar (fun _ => 0)) TDg)).alloc (.cells (dar (fun _ => 0)) TAr)).heap.size = w.heap.size + 2 := by rw [World.size_alloc, s3]
  have s5 := s1.fr f2 (fun _ _ h => h)
  have f3 := f1.trans f2 (T := fun _ => False) (fun _ _ h => h) (fun _ _ h => h)
  generalize ((w.alloc (.cells (dar (fun _ => 0)) TDg)).alloc (.cells (dar (fun _ => 0)) TAr)) = w1 at *
  have HC := Lib.hid (HC0.out w1 f3)
  have HF := Lib.hid f3; have HO := Lib.hid s5; have HA := Lib.hid s2; have HZ := Lib.hid s4
  clear s1 s2 s3 s4 s5 f1 f2 f3 HC0
  go_wp2_with fail
  refine HC.out.mono ?_
  rintro e w2 ⟨A2, c2, rfl, hls, hown, hb⟩
  have HW : Hid (OS w w w2 A2 c2 M (dgI [])) := by
    refine ⟨HO.out.fr (Fr.of_below' hb (fun _ => False)) (fun _ _ h => h), ?_, (HF.out.below (Nat.le_refl _) (fun _ _ h => h)).trans (hb.mono (by rw [HZ.out]; omega)), hls, fun a ha => ?_⟩
    · have := HA.out.fr (Fr.of_below' hb (fun _ => False)) (fun _ _ h => h)
      rwa [show dar (dgI []) = dar (fun _ => 0) from dv_ext (fun k _ => by show ((Dig.dig [] k : Nat) : Int) = 0; rw [Dig.dig_nil]; rfl)]
    · subst ha
      have := (ownsRow_blk hown a.block rfl).1
      rw [HZ.out] at this; omega
  have HML : Hid (M.length ≤ L.length) := hml
  clear hls hown hb hml HC HF HO HA HZ
  have hml := HML.out
  go_wp2_with fail
  go_loopg [5, 12] M.length (fun gk _ i wr => ∃ k : Nat, i = .int .i64 k ∧ k ≤ M.length ∧ gk = M.length - k ∧ OS w w wr A2 c2 M (dgI (M.take k)))
  case atStart => exact ⟨0, rfl, Nat.zero_le _, rfl, HW.out⟩
  case round =>
    clear HW
    obtain ⟨k, rfl, hk, hg, hos⟩ := hrel
    have HGk := Lib.hid hg; have HW := Lib.hid hos
    clear hg hos
    by_cases hlt : k < M.length
    · obtain ⟨b1, o1, rfl, hb1, c1⟩ := HW.out.l.s.at hlt (by omega)
      have HA := Lib.hid (At.row c1 hlt)
      have HU := Lib.hid (fun v hv => upd_dgI hlt v hv)
      have HY := Lib.hid (HG.out _ (List.getElem_mem hlt))
      have HMy := Lib.hid (HOk.out.may _ (List.getElem_mem hlt))
      clear c1 hb1
      generalize M[k] = y at *
      have HP := Lib.hid (fun W : World => Put y HY.out W)
      have HPt := Lib.hid (fun W : World => Part HY.out.t W)
      have hpv : putV y = .tuple #[.string (ks (enc y)), .int .i64 0] := putV_ok HMy.out
      have hln : Hid ((enc y).length ≤ 111) := enc_len (may_iff.1 HMy.out) HY.out
      have HMo := Lib.hid (fun W : World => Crc.More (Dig.dig_lt (M.take k) (Dig.part y.t)) (ks (enc y)) (by rw [ks_size]; have := hln.out; omega) W)
      rw [hpv] at HP
      have hplt := Dig.part_lt y.t
      have hcell := fun W (h : OS w w W (some ⟨b1, o1, none⟩) c2 M (dgI (M.take k))) => (h.a.cell (Dig.part y.t)).trans (dar_at (dgI (M.take k)) hplt)
      clear hpv hln HMy
      simp only [ks_data] at HMo
      generalize ks (enc y) = s at *
      generalize Dig.part y.t = R at *
      have HCl := Lib.hid hcell
      clear hcell
      have yc0 : wr.cell? ⟨b1, o1 + k * 9, none⟩ = some (.int .i64 y.t) := HA.out 0 _ rfl
      have yc1 : wr.cell? ⟨b1, o1 + k * 9 + 1, none⟩ = some (.int .i64 y.i) := HA.out 1 _ rfl
      have yc2 : wr.cell? ⟨b1, o1 + k * 9 + 1 + 1, none⟩ = some (.int .i64 y.p) := HA.out 2 _ rfl
      have yc3 : wr.cell? ⟨b1, o1 + k * 9 + 1 + 1 + 1, none⟩ = some (.int .i64 y.r) := HA.out 3 _ rfl
      have yc4 : wr.cell? ⟨b1, o1 + k * 9 + 1 + 1 + 1 + 1, none⟩ = some (.string y.s) := HA.out 4 _ rfl
      have yc5 : wr.cell? ⟨b1, o1 + k * 9 + 1 + 1 + 1 + 1 + 1, none⟩ = some (.string y.o) := HA.out 5 _ rfl
      have yc6 : wr.cell? ⟨b1, o1 + k * 9 + 1 + 1 + 1 + 1 + 1 + 1, none⟩ = some (.int .i64 y.b) := HA.out 6 _ rfl
      have yc7 : wr.cell? ⟨b1, o1 + k * 9 + 1 + 1 + 1 + 1 + 1 + 1 + 1, none⟩ = some (.int .i64 y.d) := HA.out 7 _ rfl
      have yc8 : wr.cell? ⟨b1, o1 + k * 9 + 1 + 1 + 1 + 1 + 1 + 1 + 1 + 1, none⟩ = some (.bool y.g) := HA.out 8 _ rfl
      go_upto_region 5 with (fail)
      have s2 := Bk.new wr y.arr TSn
      have s1 := At.box s2
      have s3 := Fr.alloc (fun _ => False) wr (.cells y.arr TSn)
      generalize (wr.alloc (.cells y.arr TSn)) = w3 at *
      have HA3 := Lib.hid s1; have HB3 := Lib.hid s2; have HF3 := Lib.hid s3; have HW3 := Lib.hid (HW.out.keep s3)
      clear s1 s2 s3 yc0 yc1 yc2 yc3 yc4 yc5 yc6 yc7 yc8 HA HW
      have yc0 : w3.cell? ⟨wr.heap.size, 0, none⟩ = some (.int .i64 y.t) := HA3.out 0 _ rfl
      have yc1 : w3.cell? ⟨wr.heap.size, 1, none⟩ = some (.int .i64 y.i) := HA3.out 1 _ rfl
      have yc2 : w3.cell? ⟨wr.heap.size, 2, none⟩ = some (.int .i64 y.p) := HA3.out 2 _ rfl
      have yc3 : w3.cell? ⟨wr.heap.size, 3, none⟩ = some (.int .i64 y.r) := HA3.out 3 _ rfl
      have yc4 : w3.cell? ⟨wr.heap.size, 4, none⟩ = some (.string y.s) := HA3.out 4 _ rfl
      have yc5 : w3.cell? ⟨wr.heap.size, 5, none⟩ = some (.string y.o) := HA3.out 5 _ rfl
      have yc6 : w3.cell? ⟨wr.heap.size, 6, none⟩ = some (.int .i64 y.b) := HA3.out 6 _ rfl
      have yc7 : w3.cell? ⟨wr.heap.size, 7, none⟩ = some (.int .i64 y.d) := HA3.out 7 _ rfl
      have yc8 : w3.cell? ⟨wr.heap.size, 8, none⟩ = some (.bool y.g) := HA3.out 8 _ rfl
      go_wp2_with fail
      refine (HP.out _).mono ?_
      rintro e w4 ⟨rfl, hf⟩
      have HA4 := Lib.hid (HA3.out.keep hf); have HW4 := Lib.hid (HW3.out.keep hf)
      clear hf yc0 yc1 yc2 yc3 yc4 yc5 yc6 yc7 yc8 HA3 HW3 HB3 HF3
      have e0 : w4.cell? ⟨wr.heap.size, 0, none⟩ = some (.int .i64 y.t) := HA4.out 0 _ rfl
      go_wp2_with fail
      refine (HPt.out _).mono ?_
      rintro e w5 ⟨rfl, hb⟩
      have HW5 := Lib.hid (HW4.out.below hb)
      clear hb e0 HA4 HW4
      have e1 : w5.cell? ⟨w.heap.size + 1, R, none⟩ = some (.int .i64 ((Dig.dig (M.take k) R : Nat) : Int)) := HCl.out _ HW5.out
      have q1 : (0 : Int) ≤ (R : Int) := by omega
      have q2 : (R : Int) < 16 := by omega
      go_wp2_with fail
      refine (HMo.out _).mono ?_
      rintro e w6 ⟨rfl, hb⟩
      have HW6 := Lib.hid (HW5.out.below hb)
      clear hb e1 HW5
      have e2 : w6.cell? ⟨w.heap.size + 1, R, none⟩ = some (.int .i64 ((Dig.dig (M.take k) R : Nat) : Int)) := HCl.out _ HW6.out
      have e3 : w6.frozen? ⟨w.heap.size + 1, R, none⟩ = false := HW6.out.a.free R
      go_wp2_with fail
      go_roundg (M.length - (k + 1))
      case rel => exact ⟨k + 1, by go_num, by omega, rfl, HW6.out.set (by omega) _ (HU.out _ rfl)⟩
      case measure => have := HGk.out; omega
    · obtain rfl : k = M.length := by omega
      have HW2 := HW.out
      rw [List.take_length] at HW2
      generalize hF : dgI M = F at *
      have HFe := Lib.hid hF
      clear hF
      have e1 := HW2.o
      have e2 := HW2.a
      have HB := Lib.hid HW2.b
      have HO := Lib.hid e1
      clear HW2 HW
      have a0 : wr.cell? ⟨w.heap.size + 1, 0, none⟩ = some (.int .i64 (F 0)) := (e2.cell 0).trans rfl
      have a1 : wr.cell? ⟨w.heap.size + 1, 1, none⟩ = some (.int .i64 (F 1)) := (e2.cell 1).trans rfl
      have a2 : wr.cell? ⟨w.heap.size + 1, 2, none⟩ = some (.int .i64 (F 2)) := (e2.cell 2).trans rfl
      have a3 : wr.cell? ⟨w.heap.size + 1, 3, none⟩ = some (.int .i64 (F 3)) := (e2.cell 3).trans rfl
      have a4 : wr.cell? ⟨w.heap.size + 1, 4, none⟩ = some (.int .i64 (F 4)) := (e2.cell 4).trans rfl
      have a5 : wr.cell? ⟨w.heap.size + 1, 5, none⟩ = some (.int .i64 (F 5)) := (e2.cell 5).trans rfl
      have a6 : wr.cell? ⟨w.heap.size + 1, 6, none⟩ = some (.int .i64 (F 6)) := (e2.cell 6).trans rfl
      have a7 : wr.cell? ⟨w.heap.size + 1, 7, none⟩ = some (.int .i64 (F 7)) := (e2.cell 7).trans rfl
      have a8 : wr.cell? ⟨w.heap.size + 1, 8, none⟩ = some (.int .i64 (F 8)) := (e2.cell 8).trans rfl
      have a9 : wr.cell? ⟨w.heap.size + 1, 9, none⟩ = some (.int .i64 (F 9)) := (e2.cell 9).trans rfl
      have a10 : wr.cell? ⟨w.heap.size + 1, 10, none⟩ = some (.int .i64 (F 10)) := (e2.cell 10).trans rfl
      have a11 : wr.cell? ⟨w.heap.size + 1, 11, none⟩ = some (.int .i64 (F 11)) := (e2.cell 11).trans rfl
      have a12 : wr.cell? ⟨w.heap.size + 1, 12, none⟩ = some (.int .i64 (F 12)) := (e2.cell 12).trans rfl
      have a13 : wr.cell? ⟨w.heap.size + 1, 13, none⟩ = some (.int .i64 (F 13)) := (e2.cell 13).trans rfl
      have a14 : wr.cell? ⟨w.heap.size + 1, 14, none⟩ = some (.int .i64 (F 14)) := (e2.cell 14).trans rfl
      have a15 : wr.cell? ⟨w.heap.size + 1, 15, none⟩ = some (.int .i64 (F 15)) := (e2.cell 15).trans rfl
      have o0 : wr.cell? ⟨w.heap.size, 0, none⟩ = some (.int .i64 0) := (e1.cell 0).trans rfl
      have z0 : wr.frozen? ⟨w.heap.size, 0, none⟩ = false := e1.free 0
      have o1 : wr.cell? ⟨w.heap.size, 1, none⟩ = some (.int .i64 0) := (e1.cell 1).trans rfl
      have z1 : wr.frozen? ⟨w.heap.size, 1, none⟩ = false := e1.free 1
      have o2 : wr.cell? ⟨w.heap.size, 2, none⟩ = some (.int .i64 0) := (e1.cell 2).trans rfl
      have z2 : wr.frozen? ⟨w.heap.size, 2, none⟩ = false := e1.free 2
      have o3 : wr.cell? ⟨w.heap.size, 3, none⟩ = some (.int .i64 0) := (e1.cell 3).trans rfl
      have z3 : wr.frozen? ⟨w.heap.size, 3, none⟩ = false := e1.free 3
      have o4 : wr.cell? ⟨w.heap.size, 4, none⟩ = some (.int .i64 0) := (e1.cell 4).trans rfl
      have z4 : wr.frozen? ⟨w.heap.size, 4, none⟩ = false := e1.free 4
      have o5 : wr.cell? ⟨w.heap.size, 5, none⟩ = some (.int .i64 0) := (e1.cell 5).trans rfl
      have z5 : wr.frozen? ⟨w.heap.size, 5, none⟩ = false := e1.free 5
      have o6 : wr.cell? ⟨w.heap.size, 6, none⟩ = some (.int .i64 0) := (e1.cell 6).trans rfl
      have z6 : wr.frozen? ⟨w.heap.size, 6, none⟩ = false := e1.free 6
      have o7 : wr.cell? ⟨w.heap.size, 7, none⟩ = some (.int .i64 0) := (e1.cell 7).trans rfl
      have z7 : wr.frozen? ⟨w.heap.size, 7, none⟩ = false := e1.free 7
      have o8 : wr.cell? ⟨w.heap.size, 8, none⟩ = some (.int .i64 0) := (e1.cell 8).trans rfl
      have z8 : wr.frozen? ⟨w.heap.size, 8, none⟩ = false := e1.free 8
      have o9 : wr.cell? ⟨w.heap.size, 9, none⟩ = some (.int .i64 0) := (e1.cell 9).trans rfl
      have z9 : wr.frozen? ⟨w.heap.size, 9, none⟩ = false := e1.free 9
      have o10 : wr.cell? ⟨w.heap.size, 10, none⟩ = some (.int .i64 0) := (e1.cell 10).trans rfl
      have z10 : wr.frozen? ⟨w.heap.size, 10, none⟩ = false := e1.free 10
      have o11 : wr.cell? ⟨w.heap.size, 11, none⟩ = some (.int .i64 0) := (e1.cell 11).trans rfl
      have z11 : wr.frozen? ⟨w.heap.size, 11, none⟩ = false := e1.free 11
      have o12 : wr.cell? ⟨w.heap.size, 12, none⟩ = some (.int .i64 0) := (e1.cell 12).trans rfl
      have z12 : wr.frozen? ⟨w.heap.size, 12, none⟩ = false := e1.free 12
      have o13 : wr.cell? ⟨w.heap.size, 13, none⟩ = some (.int .i64 0) := (e1.cell 13).trans rfl
      have z13 : wr.frozen? ⟨w.heap.size, 13, none⟩ = false := e1.free 13
      have o14 : wr.cell? ⟨w.heap.size, 14, none⟩ = some (.int .i64 0) := (e1.cell 14).trans rfl
      have z14 : wr.frozen? ⟨w.heap.size, 14, none⟩ = false := e1.free 14
      have o15 : wr.cell? ⟨w.heap.size, 15, none⟩ = some (.int .i64 0) := (e1.cell 15).trans rfl
      have z15 : wr.frozen? ⟨w.heap.size, 15, none⟩ = false := e1.free 15
      clear e1 e2
      go_wp2_with fail
      exact bodyPost_ret (results_cell_row rfl _ _ w.heap.size TDg _ (0, 0) _ rfl (putD_bk HO.out F) Try.underlying25 rfl (by kernel_rfl)) rfl ⟨by rw [HFe.out], HB.out.trans ((putD_fr wr w.heap.size F).below HB.out.size (fun k hk e => by omega))⟩
end DigW
end Go.Proofs.Ytmcghchhegfilaa
