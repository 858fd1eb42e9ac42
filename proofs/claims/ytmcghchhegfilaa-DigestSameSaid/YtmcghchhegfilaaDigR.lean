/- The digest of records: the document's. -/
import Derived.Test.YtmcghchhegfilaaDigO
import Derived.Test.YtmcghchhegfilaaRef09
namespace Go.Proofs.Ytmcghchhegfilaa
open Go.RowKit
namespace DigW
open KeyP PackP SetP SetW SetF Code_
attribute [local go_sem] Eng.ev Eng.getO_cons Eng.getO_nil
/-- A digest's first parts. -/
def upto (f : Nat → Int) (k : Nat) : Nat → Int := fun j => if j < k then f j else 0
theorem upto_all (f : Nat → Int) : dar (upto f 16) = dar f := dv_ext (fun k hk => by unfold upto; rw [if_pos hk])
theorem upto_set (f : Nat → Int) {k : Nat} (v : Int) (hv : f k = v) : dar (upd (upto f k) k v) = dar (upto f (k + 1)) := dv_ext (fun j _ => by
  subst hv
  unfold upd upto
  by_cases h : j = k
  · subst h; rw [if_pos rfl, if_pos (by omega)]
  · rw [if_neg h]
    by_cases h2 : j < k
    · rw [if_pos h2, if_pos (by omega)]
    · rw [if_neg h2, if_neg (by omega)])
/-- Where the loop stands. -/
structure RS (w0 wr : World) (B : Nat) (A : Option Addr) (c : Nat) (M : List Sn) (f : Nat → Int) : Prop where
  o : Bk wr w0.heap.size (dar (fun _ => 0)) TDg
  a : Bk wr B (dar f) TDg
  b : Below w0.heap.size w0 wr
  l : Ls wr A c M
  n : ∀ a, A = some a → a.block ≠ B
  h : w0.heap.size < B
theorem RS.keep {w0 wr w' : World} {B : Nat} {A : Option Addr} {c : Nat} {M : List Sn} {f : Nat → Int} (h : RS w0 wr B A c M f) (hf : Fr (fun _ => False) wr w') : RS w0 w' B A c M f :=
  ⟨h.o.fr hf (fun _ _ h => h), h.a.fr hf (fun _ _ h => h), h.b.trans (hf.below h.b.size (fun _ _ h => h)), h.l.keep hf, h.n, h.h⟩
theorem RS.set {w0 wr : World} {B : Nat} {A : Option Addr} {c : Nat} {M : List Sn} {f g : Nat → Int} (h : RS w0 wr B A c M f) {k : Nat} (hk : k < 16) (v : Int) (hg : dar (upd f k v) = dar g) : RS w0 (wr.setCell ⟨B, k, none⟩ (.int .i64 v)) B A c M g := by
  have hf := Fr.setCell wr ⟨B, k, none⟩ (.int .i64 v) (S := fun b => b = B) rfl
  refine ⟨h.o.fr hf (fun b hb e => by simp at hb; have := h.h; omega), ?_, h.b.trans (hf.below h.b.size (fun k hk e => by have := h.h; omega)), h.l.fr hf (fun a ha e => h.n a ha e), h.n, h.h⟩
  have := h.a.set k (.int .i64 v)
  rwa [dar_set f hk, hg] at this
/-- A part's bytes, so far. -/
def txt (k : Nat) (M : List Sn) : List UInt8 := (Dig.own k M).flatMap enc
theorem txt_snoc (k : Nat) {M : List Sn} {i : Nat} (h : i < M.length) : txt k (M.take (i + 1)) = txt k (M.take i) ++ if Dig.part M[i].t = k then enc M[i] else [] := by
  unfold txt
  rw [List.take_succ_eq_append_getElem h, Dig.own_snoc, List.flatMap_append]
  by_cases e : Dig.part M[i].t = k <;> simp [e]
theorem txt_len (k : Nat) {M : List Sn} (h : ∀ x ∈ M, (enc x).length ≤ 111) (i : Nat) : (txt k (M.take i)).length ≤ 111 * M.length := by
  unfold txt
  have h1 : ∀ N : List Sn, (∀ x ∈ N, (enc x).length ≤ 111) → (N.flatMap enc).length ≤ 111 * N.length := fun N hN => by
    induction N with
    | nil => simp
    | cons x N ih =>
      have h1 := hN x (by simp)
      have h2 := ih (fun y hy => hN y (by simp [hy]))
      rw [List.flatMap_cons, List.length_append, List.length_cons]; omega
  have h2 := h1 (Dig.own k (M.take i)) (fun x hx => h x (List.mem_of_mem_take (List.mem_filter.1 hx).1))
  have h3 : (Dig.own k (M.take i)).length ≤ M.length := Nat.le_trans (List.length_filter_le _ _) (by rw [List.length_take]; omega)
  have h4 := Nat.mul_le_mul_left 111 h3
  omega
theorem RefPartE {n : Int} (h : in64 n) (R : Nat) (hR : Dig.part n = R) (w : World) : Calls Try.prog 13 #[.int .i64 n] w fun e w' => e = .returned (.int .i64 (R : Int)) ∧ Below w.heap.size w w' := hR ▸ RefPart h w
set_option maxRecDepth 100000 in
set_option maxHeartbeats 4000000 in
theorem RefOf (A : Option Addr) (c : Nat) (L : List Sn) (w : World) (hS : Ls w A c L) (hlen : L.length ≤ 1000) :
    Calls Try.prog 15 #[.slice A L.length c] w fun e w' => e = .returned (dv (dgI (setOf L))) ∧ Below w.heap.size w w' := by
  have hml := Nat.le_trans (setOf_len L) hlen
  have HMy := Lib.hid (setOf_ok L).may
  have HG := Lib.hid (set_ok hS.ok)
  have hf := Fr.alloc (fun _ => False) w (.cells (dar (fun _ => 0)) TDg)
  have HSet := Lib.hid (RefSet A c L (w.alloc (.cells (dar (fun _ => 0)) TDg)) (hS.keep hf) (by omega))
  have HF := Lib.hid hf; have HO := Lib.hid (Bk.new w (dar (fun _ => 0)) TDg); have HZ := Lib.hid (World.size_alloc w (.cells (dar (fun _ => 0)) TDg))
  clear hS hf
  generalize setOf L = M at *
  obtain ⟨F, hF⟩ : ∃ F, dgI M = F := ⟨_, rfl⟩
  rw [hF]
  have HFd : Hid (∀ k, F k = ((Crc.sum (txt k M) : Nat) : Int)) := fun k => by rw [← hF]; rfl
  have HFl : Hid (∀ k i, (txt k (M.take i)).length ≤ 111 * M.length) := fun k i => txt_len k (fun x hx => enc_len (may_iff.1 (HMy.out x hx)) (HG.out x hx)) i
  clear hF
  go_enter Try.func15, Try.ntmps15
  go_upto_region 1 with (fail)
  generalize (w.alloc (.cells (dar (fun _ => 0)) TDg)) = w1 at *
  go_wp2_with fail
  refine HSet.out.mono ?_
  rintro e w2 ⟨A2, c2, rfl, hls, hown, hb⟩
  have HW : Hid (RS w (w2.alloc (.cells (dar (fun _ => 0)) TDg)) w2.heap.size A2 c2 M (upto F 0)) := by
    have hf := Fr.alloc (fun _ => False) w2 (.cells (dar (fun _ => 0)) TDg)
    have hz := hb.size
    rw [HZ.out] at hz
    refine ⟨(HO.out.fr (Fr.of_below' hb (fun _ => False)) (fun _ _ h => h)).fr hf (fun _ _ h => h), ?_, ((HF.out.below (Nat.le_refl _) (fun _ _ h => h)).trans (hb.mono (by rw [HZ.out]; omega))).trans (hf.below (by omega) (fun _ _ h => h)), hls.keep hf, fun a ha => ?_, by omega⟩
    · rw [show dar (upto F 0) = dar (fun _ => 0) from dv_ext (fun k _ => by unfold upto; rw [if_neg (by omega)])]
      exact Bk.new w2 _ TDg
    · subst ha
      have := (ownsRow_blk hown a.block rfl).2.1
      omega
  clear hls hown hb HSet HF HO HZ
  go_upto_region 3 with (fail)
  generalize (w2.alloc (.cells (dar (fun _ => 0)) TDg)) = w3 at *
  go_wp2_with fail
  go_loopg [5, 6, 7] 16 (fun gk i_ _ _ wr => ∃ k : Nat, i_ = .int .i64 k ∧ k ≤ 16 ∧ gk = 16 - k ∧ RS w wr w2.heap.size A2 c2 M (upto F k))
  case atStart => exact ⟨0, rfl, Nat.zero_le _, rfl, HW.out⟩
  case round =>
    clear HW
    obtain ⟨k, rfl, hk, hg, hos⟩ := hrel
    have HGk := Lib.hid hg; have HW := Lib.hid hos
    clear hg hos
    obtain ⟨wo, rfl⟩ : ∃ wo : World, wo = wr := ⟨_, rfl⟩
    by_cases hlt : k < 16
    · have q2 : decide ((k : Int) < 16) = true := by simp; omega
      go_wp2_with fail
      go_loopg [6, 7] M.length (fun gk s_ i_ wr => ∃ i : Nat, i_ = .int .i64 i ∧ i ≤ M.length ∧ gk = M.length - i ∧ s_ = .string (ks (txt k (M.take i))) ∧ Fr (fun _ => False) wo wr)
      case atStart => exact ⟨0, rfl, Nat.zero_le _, rfl, rfl, Fr.refl _ _⟩
      case round =>
        obtain ⟨i, rfl, hi, hg2, rfl, hf⟩ := hrel
        have HGi := Lib.hid hg2; have HF := Lib.hid hf
        clear hg2 hf q2
        by_cases hlti : i < M.length
        · obtain ⟨b1, o1, rfl, hb1, c1⟩ := HW.out.l.s.at hlti (by omega)
          have HA := Lib.hid ((At.row c1 hlti).keep HF.out)
          have HY := Lib.hid (HG.out _ (List.getElem_mem hlti))
          have HM := Lib.hid (HMy.out _ (List.getElem_mem hlti))
          have HSn := Lib.hid (txt_snoc k hlti)
          have hl1 : (ks (txt k (M.take i))).size ≤ 111000 := by rw [ks_size]; have := HFl.out k i; omega
          clear c1 hb1
          generalize M[i] = y at *
          obtain ⟨R, hR⟩ : ∃ R, Dig.part y.t = R := ⟨_, rfl⟩
          rw [hR] at HSn
          have HR := Lib.hid hR
          clear hR
          have yc0 : wr.cell? ⟨b1, o1 + i * 9, none⟩ = some (.int .i64 y.t) := HA.out 0 _ rfl
          have yc1 : wr.cell? ⟨b1, o1 + i * 9 + 1, none⟩ = some (.int .i64 y.i) := HA.out 1 _ rfl
          have yc2 : wr.cell? ⟨b1, o1 + i * 9 + 1 + 1, none⟩ = some (.int .i64 y.p) := HA.out 2 _ rfl
          have yc3 : wr.cell? ⟨b1, o1 + i * 9 + 1 + 1 + 1, none⟩ = some (.int .i64 y.r) := HA.out 3 _ rfl
          have yc4 : wr.cell? ⟨b1, o1 + i * 9 + 1 + 1 + 1 + 1, none⟩ = some (.string y.s) := HA.out 4 _ rfl
          have yc5 : wr.cell? ⟨b1, o1 + i * 9 + 1 + 1 + 1 + 1 + 1, none⟩ = some (.string y.o) := HA.out 5 _ rfl
          have yc6 : wr.cell? ⟨b1, o1 + i * 9 + 1 + 1 + 1 + 1 + 1 + 1, none⟩ = some (.int .i64 y.b) := HA.out 6 _ rfl
          have yc7 : wr.cell? ⟨b1, o1 + i * 9 + 1 + 1 + 1 + 1 + 1 + 1 + 1, none⟩ = some (.int .i64 y.d) := HA.out 7 _ rfl
          have yc8 : wr.cell? ⟨b1, o1 + i * 9 + 1 + 1 + 1 + 1 + 1 + 1 + 1 + 1, none⟩ = some (.bool y.g) := HA.out 8 _ rfl
          go_wp2_with fail
          refine (RefPartE HY.out.t R HR.out wr).mono ?_
          rintro e w4 ⟨rfl, hb⟩
          have HF4 := Lib.hid (HF.out.trans (Fr.of_below' hb (fun _ => False)) (T := fun _ => False) (fun _ _ h => h) (fun _ _ h => h))
          have HA4 := Lib.hid (HA.out.keep (Fr.of_below' hb (fun _ => False)))
          clear hb HA HF yc0 yc1 yc2 yc3 yc4 yc5 yc6 yc7 yc8
          by_cases hRk : R = k
          · have q3 : ((R : Int) == (k : Int)) = true := by simp; omega
            have HB := Lib.hid (fun W : World => Ref09.Bytes y HY.out (name_size (may_iff.1 HM.out).s).2 (name_size (may_iff.1 HM.out).o).2 W)
            have hl2 : (ks (enc y)).size ≤ 111 := by rw [ks_size]; exact enc_len (may_iff.1 HM.out) HY.out
            have HT : Hid (ks (txt k (M.take i)) ++ ks (enc y) = ks (txt k (M.take (i + 1)))) := by show _ = _; rw [HSn.out, if_pos hRk, ks_app]
            clear hRk HSn
            generalize ks (txt k (M.take i)) = V1 at *
            generalize ks (enc y) = V2 at *
            have yc0 : w4.cell? ⟨b1, o1 + i * 9, none⟩ = some (.int .i64 y.t) := HA4.out 0 _ rfl
            have yc1 : w4.cell? ⟨b1, o1 + i * 9 + 1, none⟩ = some (.int .i64 y.i) := HA4.out 1 _ rfl
            have yc2 : w4.cell? ⟨b1, o1 + i * 9 + 1 + 1, none⟩ = some (.int .i64 y.p) := HA4.out 2 _ rfl
            have yc3 : w4.cell? ⟨b1, o1 + i * 9 + 1 + 1 + 1, none⟩ = some (.int .i64 y.r) := HA4.out 3 _ rfl
            have yc4 : w4.cell? ⟨b1, o1 + i * 9 + 1 + 1 + 1 + 1, none⟩ = some (.string y.s) := HA4.out 4 _ rfl
            have yc5 : w4.cell? ⟨b1, o1 + i * 9 + 1 + 1 + 1 + 1 + 1, none⟩ = some (.string y.o) := HA4.out 5 _ rfl
            have yc6 : w4.cell? ⟨b1, o1 + i * 9 + 1 + 1 + 1 + 1 + 1 + 1, none⟩ = some (.int .i64 y.b) := HA4.out 6 _ rfl
            have yc7 : w4.cell? ⟨b1, o1 + i * 9 + 1 + 1 + 1 + 1 + 1 + 1 + 1, none⟩ = some (.int .i64 y.d) := HA4.out 7 _ rfl
            have yc8 : w4.cell? ⟨b1, o1 + i * 9 + 1 + 1 + 1 + 1 + 1 + 1 + 1 + 1, none⟩ = some (.bool y.g) := HA4.out 8 _ rfl
            go_wp2_with fail
            refine (HB.out _).mono ?_
            rintro e w5 ⟨rfl, hf⟩
            have HF5 := Lib.hid (HF4.out.trans hf (T := fun _ => False) (fun _ _ h => h) (fun _ _ h => h))
            clear hf yc0 yc1 yc2 yc3 yc4 yc5 yc6 yc7 yc8 q3
            go_wp2_with fail
            go_roundg (M.length - (i + 1))
            case rel => exact ⟨i + 1, by go_num, by omega, rfl, by rw [← HT.out], HF5.out⟩
            case measure => have := HGi.out; omega
          · have q3 : ((R : Int) == (k : Int)) = false := by simp; omega
            have HT : Hid (txt k (M.take (i + 1)) = txt k (M.take i)) := by show _ = _; rw [HSn.out, if_neg hRk, List.append_nil]
            clear hRk HSn
            go_wp2_with fail
            go_roundg (M.length - (i + 1))
            case rel => exact ⟨i + 1, by go_num, by omega, rfl, by rw [HT.out], HF4.out⟩
            case measure => have := HGi.out; omega
        · obtain rfl : i = M.length := by omega
          have hl1 : (ks (txt k (M.take M.length))).size ≤ 1000000 := by rw [ks_size]; have := HFl.out k M.length; omega
          have HSum := Lib.hid (fun W : World => Crc.refSum (ks (txt k (M.take M.length))) hl1 W)
          simp only [ks_data, List.take_length] at HSum hl1 ⊢
          have HFk := Lib.hid (HFd.out k)
          have HW2 := Lib.hid (HW.out.keep HF.out)
          clear HF HW hl1
          generalize ks (txt k M) = V at *
          generalize Crc.sum (txt k M) = N at *
          go_wp2_with fail
          refine (HSum.out _).mono ?_
          rintro e w5 ⟨rfl, rfl⟩
          have q1 : (0 : Int) ≤ (k : Int) := by omega
          have q2 : (k : Int) < 16 := by omega
          have e2 : w5.cell? ⟨w2.heap.size, k, none⟩ = some (.int .i64 (upto F k k)) := (HW2.out.a.cell k).trans (dar_at _ hlt)
          have e3 : w5.frozen? ⟨w2.heap.size, k, none⟩ = false := HW2.out.a.free k
          go_wp2_with fail
          go_roundg (16 - (k + 1))
          case rel => exact ⟨k + 1, by go_num, by omega, rfl, HW2.out.set hlt _ (upto_set F _ HFk.out)⟩
          case measure => have := HGk.out; omega
    · obtain rfl : k = 16 := by omega
      have q2 : decide (((16 : Nat) : Int) < 16) = false := by decide
      have e1 := HW.out.o
      have e2 : Bk wo w2.heap.size (dar F) TDg := by have := HW.out.a; rwa [upto_all] at this
      have HB := Lib.hid HW.out.b
      have HO := Lib.hid e1
      clear HW HFd
      have a0 : wo.cell? ⟨w2.heap.size, 0, none⟩ = some (.int .i64 (F 0)) := (e2.cell 0).trans rfl
      have a1 : wo.cell? ⟨w2.heap.size, 1, none⟩ = some (.int .i64 (F 1)) := (e2.cell 1).trans rfl
      have a2 : wo.cell? ⟨w2.heap.size, 2, none⟩ = some (.int .i64 (F 2)) := (e2.cell 2).trans rfl
      have a3 : wo.cell? ⟨w2.heap.size, 3, none⟩ = some (.int .i64 (F 3)) := (e2.cell 3).trans rfl
      have a4 : wo.cell? ⟨w2.heap.size, 4, none⟩ = some (.int .i64 (F 4)) := (e2.cell 4).trans rfl
      have a5 : wo.cell? ⟨w2.heap.size, 5, none⟩ = some (.int .i64 (F 5)) := (e2.cell 5).trans rfl
      have a6 : wo.cell? ⟨w2.heap.size, 6, none⟩ = some (.int .i64 (F 6)) := (e2.cell 6).trans rfl
      have a7 : wo.cell? ⟨w2.heap.size, 7, none⟩ = some (.int .i64 (F 7)) := (e2.cell 7).trans rfl
      have a8 : wo.cell? ⟨w2.heap.size, 8, none⟩ = some (.int .i64 (F 8)) := (e2.cell 8).trans rfl
      have a9 : wo.cell? ⟨w2.heap.size, 9, none⟩ = some (.int .i64 (F 9)) := (e2.cell 9).trans rfl
      have a10 : wo.cell? ⟨w2.heap.size, 10, none⟩ = some (.int .i64 (F 10)) := (e2.cell 10).trans rfl
      have a11 : wo.cell? ⟨w2.heap.size, 11, none⟩ = some (.int .i64 (F 11)) := (e2.cell 11).trans rfl
      have a12 : wo.cell? ⟨w2.heap.size, 12, none⟩ = some (.int .i64 (F 12)) := (e2.cell 12).trans rfl
      have a13 : wo.cell? ⟨w2.heap.size, 13, none⟩ = some (.int .i64 (F 13)) := (e2.cell 13).trans rfl
      have a14 : wo.cell? ⟨w2.heap.size, 14, none⟩ = some (.int .i64 (F 14)) := (e2.cell 14).trans rfl
      have a15 : wo.cell? ⟨w2.heap.size, 15, none⟩ = some (.int .i64 (F 15)) := (e2.cell 15).trans rfl
      have o0 : wo.cell? ⟨w.heap.size, 0, none⟩ = some (.int .i64 0) := (e1.cell 0).trans rfl
      have z0 : wo.frozen? ⟨w.heap.size, 0, none⟩ = false := e1.free 0
      have o1 : wo.cell? ⟨w.heap.size, 1, none⟩ = some (.int .i64 0) := (e1.cell 1).trans rfl
      have z1 : wo.frozen? ⟨w.heap.size, 1, none⟩ = false := e1.free 1
      have o2 : wo.cell? ⟨w.heap.size, 2, none⟩ = some (.int .i64 0) := (e1.cell 2).trans rfl
      have z2 : wo.frozen? ⟨w.heap.size, 2, none⟩ = false := e1.free 2
      have o3 : wo.cell? ⟨w.heap.size, 3, none⟩ = some (.int .i64 0) := (e1.cell 3).trans rfl
      have z3 : wo.frozen? ⟨w.heap.size, 3, none⟩ = false := e1.free 3
      have o4 : wo.cell? ⟨w.heap.size, 4, none⟩ = some (.int .i64 0) := (e1.cell 4).trans rfl
      have z4 : wo.frozen? ⟨w.heap.size, 4, none⟩ = false := e1.free 4
      have o5 : wo.cell? ⟨w.heap.size, 5, none⟩ = some (.int .i64 0) := (e1.cell 5).trans rfl
      have z5 : wo.frozen? ⟨w.heap.size, 5, none⟩ = false := e1.free 5
      have o6 : wo.cell? ⟨w.heap.size, 6, none⟩ = some (.int .i64 0) := (e1.cell 6).trans rfl
      have z6 : wo.frozen? ⟨w.heap.size, 6, none⟩ = false := e1.free 6
      have o7 : wo.cell? ⟨w.heap.size, 7, none⟩ = some (.int .i64 0) := (e1.cell 7).trans rfl
      have z7 : wo.frozen? ⟨w.heap.size, 7, none⟩ = false := e1.free 7
      have o8 : wo.cell? ⟨w.heap.size, 8, none⟩ = some (.int .i64 0) := (e1.cell 8).trans rfl
      have z8 : wo.frozen? ⟨w.heap.size, 8, none⟩ = false := e1.free 8
      have o9 : wo.cell? ⟨w.heap.size, 9, none⟩ = some (.int .i64 0) := (e1.cell 9).trans rfl
      have z9 : wo.frozen? ⟨w.heap.size, 9, none⟩ = false := e1.free 9
      have o10 : wo.cell? ⟨w.heap.size, 10, none⟩ = some (.int .i64 0) := (e1.cell 10).trans rfl
      have z10 : wo.frozen? ⟨w.heap.size, 10, none⟩ = false := e1.free 10
      have o11 : wo.cell? ⟨w.heap.size, 11, none⟩ = some (.int .i64 0) := (e1.cell 11).trans rfl
      have z11 : wo.frozen? ⟨w.heap.size, 11, none⟩ = false := e1.free 11
      have o12 : wo.cell? ⟨w.heap.size, 12, none⟩ = some (.int .i64 0) := (e1.cell 12).trans rfl
      have z12 : wo.frozen? ⟨w.heap.size, 12, none⟩ = false := e1.free 12
      have o13 : wo.cell? ⟨w.heap.size, 13, none⟩ = some (.int .i64 0) := (e1.cell 13).trans rfl
      have z13 : wo.frozen? ⟨w.heap.size, 13, none⟩ = false := e1.free 13
      have o14 : wo.cell? ⟨w.heap.size, 14, none⟩ = some (.int .i64 0) := (e1.cell 14).trans rfl
      have z14 : wo.frozen? ⟨w.heap.size, 14, none⟩ = false := e1.free 14
      have o15 : wo.cell? ⟨w.heap.size, 15, none⟩ = some (.int .i64 0) := (e1.cell 15).trans rfl
      have z15 : wo.frozen? ⟨w.heap.size, 15, none⟩ = false := e1.free 15
      clear e1 e2
      go_wp2_with fail
      exact bodyPost_ret (results_cell_row rfl _ _ w.heap.size TDg _ (0, 0) _ rfl (putD_bk HO.out F) Try.underlying25 rfl (by kernel_rfl)) rfl ⟨rfl, HB.out.trans ((putD_fr wo w.heap.size F).below HB.out.size (fun k hk e => by omega))⟩
end DigW
end Go.Proofs.Ytmcghchhegfilaa
