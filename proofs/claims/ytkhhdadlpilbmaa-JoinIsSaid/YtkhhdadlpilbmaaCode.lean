/- A record's bytes: the program's. -/
import Derived.Test.YtkhhdadlpilbmaaMay
import Derived.Test.YtkhhdadlpilbmaaPack
import Derived.LoopN
namespace Go.Proofs.Ytkhhdadlpilbmaa
open Go.RowKit
namespace Code_
open KeyP PackP Vari SetW Pack Name

theorem idx0 (t i p r : Int) (W : World) : (Instr.index 246 (.agg #[.int .i64 t, .int .i64 i, .int .i64 p, .int .i64 r]) (.int .i64 0)).run Try.prog W = .ok (.int .i64 t) W := by kernel_rfl
theorem idx1 (t i p r : Int) (W : World) : (Instr.index 246 (.agg #[.int .i64 t, .int .i64 i, .int .i64 p, .int .i64 r]) (.int .i64 1)).run Try.prog W = .ok (.int .i64 i) W := by kernel_rfl
theorem idx2 (t i p r : Int) (W : World) : (Instr.index 246 (.agg #[.int .i64 t, .int .i64 i, .int .i64 p, .int .i64 r]) (.int .i64 2)).run Try.prog W = .ok (.int .i64 p) W := by kernel_rfl
theorem idx3 (t i p r : Int) (W : World) : (Instr.index 246 (.agg #[.int .i64 t, .int .i64 i, .int .i64 p, .int .i64 r]) (.int .i64 3)).run Try.prog W = .ok (.int .i64 r) W := by kernel_rfl
set_option maxRecDepth 100000 in
set_option maxHeartbeats 2000000 in
theorem Write (x : Sn) (hx : x.ok) (hs : x.s.size ≤ 24) (ho : x.o.size ≤ 24) (bw : Nat) (w : World) (h : WS w bw []) : Calls Try.prog 189 #[.pointer (some ⟨bw, 0, none⟩), x.v] w (PostW w bw (enc x)) := by
  obtain ⟨t, i, p, r, s, o, b, d, g⟩ := x
  have hs : s.size ≤ 24 := hs
  have ho : o.size ≤ 24 := ho
  have l0 : (nb t).length ≤ 10 := nb_len hx.t
  have l1 : (nb i).length ≤ 10 := nb_len hx.i
  have l2 : (nb p).length ≤ 10 := nb_len hx.p
  have l3 : (nb r).length ≤ 10 := nb_len hx.r
  have l4 := tb_len hs
  have l5 := tb_len ho
  have l6 : (vb (zz b)).length ≤ 10 := vb_len10 (zz_lt hx.b)
  have l7 : (vb (zz d)).length ≤ 10 := vb_len10 (zz_lt hx.d)
  have P0 := Lib.hid (fun (W : World) (hW : WS W bw ([] : List UInt8)) => Num bw ([] : List UInt8) (show in64 t from hx.t) W hW (by simp only [List.length_nil]; omega))
  have P1 := Lib.hid (fun (W : World) (hW : WS W bw (([] : List UInt8) ++ nb t)) => Num bw (([] : List UInt8) ++ nb t) (show in64 i from hx.i) W hW (by simp only [List.length_append, List.length_nil]; omega))
  have P2 := Lib.hid (fun (W : World) (hW : WS W bw ((([] : List UInt8) ++ nb t) ++ nb i)) => Num bw ((([] : List UInt8) ++ nb t) ++ nb i) (show in64 p from hx.p) W hW (by simp only [List.length_append, List.length_nil]; omega))
  have P3 := Lib.hid (fun (W : World) (hW : WS W bw (((([] : List UInt8) ++ nb t) ++ nb i) ++ nb p)) => Num bw (((([] : List UInt8) ++ nb t) ++ nb i) ++ nb p) (show in64 r from hx.r) W hW (by simp only [List.length_append, List.length_nil]; omega))
  have P4 := Lib.hid (fun (W : World) (hW : WS W bw ((((([] : List UInt8) ++ nb t) ++ nb i) ++ nb p) ++ nb r)) => Text bw ((((([] : List UInt8) ++ nb t) ++ nb i) ++ nb p) ++ nb r) s (by omega) W hW (by simp only [List.length_append, List.length_nil]; omega))
  have P5 := Lib.hid (fun (W : World) (hW : WS W bw (((((([] : List UInt8) ++ nb t) ++ nb i) ++ nb p) ++ nb r) ++ tb s)) => Text bw (((((([] : List UInt8) ++ nb t) ++ nb i) ++ nb p) ++ nb r) ++ tb s) o (by omega) W hW (by simp only [List.length_append, List.length_nil]; omega))
  have P6 := Lib.hid (fun (W : World) (hW : WS W bw ((((((([] : List UInt8) ++ nb t) ++ nb i) ++ nb p) ++ nb r) ++ tb s) ++ tb o)) => Signed bw ((((((([] : List UInt8) ++ nb t) ++ nb i) ++ nb p) ++ nb r) ++ tb s) ++ tb o) (show in64 b from hx.b) W hW (by simp only [List.length_append, List.length_nil]; omega))
  have P7 := Lib.hid (fun (W : World) (hW : WS W bw (((((((([] : List UInt8) ++ nb t) ++ nb i) ++ nb p) ++ nb r) ++ tb s) ++ tb o) ++ vb (zz b))) => Signed bw (((((((([] : List UInt8) ++ nb t) ++ nb i) ++ nb p) ++ nb r) ++ tb s) ++ tb o) ++ vb (zz b)) (show in64 d from hx.d) W hW (by simp only [List.length_append, List.length_nil]; omega))
  have P8 := Lib.hid (fun (W : World) (hW : WS W bw ((((((((([] : List UInt8) ++ nb t) ++ nb i) ++ nb p) ++ nb r) ++ tb s) ++ tb o) ++ vb (zz b)) ++ vb (zz d))) => Flag bw ((((((((([] : List UInt8) ++ nb t) ++ nb i) ++ nb p) ++ nb r) ++ tb s) ++ tb o) ++ vb (zz b)) ++ vb (zz d)) g W hW (by simp only [List.length_append, List.length_nil]; omega))
  have HE : Hid ((((((((((([] : List UInt8) ++ nb t) ++ nb i) ++ nb p) ++ nb r) ++ tb s) ++ tb o) ++ vb (zz b)) ++ vb (zz d)) ++ gb g) = enc ⟨t, i, p, r, s, o, b, d, g⟩) := by show _ = _; unfold enc; simp only [List.nil_append, List.append_assoc]
  generalize nb t = V0 at *
  generalize nb i = V1 at *
  generalize nb p = V2 at *
  generalize nb r = V3 at *
  generalize tb s = V4 at *
  generalize tb o = V5 at *
  generalize vb (zz b) = V6 at *
  generalize vb (zz d) = V7 at *
  generalize gb g = V8 at *
  clear l0 l1 l2 l3 l4 l5 l6 l7 hs ho hx
  have HB := Lib.hid (Bk.new w (Sn.arr ⟨t, i, p, r, s, o, b, d, g⟩) TSn)
  have HW := Lib.hid (h.fr (Fr.alloc (fun _ => False) w (.cells (Sn.arr ⟨t, i, p, r, s, o, b, d, g⟩) TSn)) (fun _ _ h => h))
  have HF := Lib.hid ((Fr.alloc (fun _ => False) w (.cells (Sn.arr ⟨t, i, p, r, s, o, b, d, g⟩) TSn)).below (B := bw) (Nat.le_of_lt h.lt) (fun _ _ h => h))
  have HK := Lib.hid (KS.fr (Fr.alloc (fun _ => False) w (.cells (Sn.arr ⟨t, i, p, r, s, o, b, d, g⟩) TSn)))
  clear h
  have x0 := fun W : World => idx0 t i p r W
  have x1 := fun W : World => idx1 t i p r W
  have x2 := fun W : World => idx2 t i p r W
  have x3 := fun W : World => idx3 t i p r W
  go_enter Try.func189, Try.ntmps189
  go_wp2_with fail
  refine wp_loop_rounds 5 ?_
  rw [rounds_succ]; go_wp2_with fail
  refine (P0.out _ HW.out).mono ?_
  rintro e w0 ⟨rfl, a1, a2, a3⟩
  have HW0 := Lib.hid a1; have HB0 := Lib.hid (a3 _ _ HB.out); have HF0 := Lib.hid (HF.out.trans a2); have HK0 := Lib.hid (HK.out.trans a3)
  clear a1 a2 a3
  go_wp2_with fail
  rw [rounds_succ]; go_wp2_with fail
  refine (P1.out _ HW0.out).mono ?_
  rintro e w1 ⟨rfl, a1, a2, a3⟩
  have HW1 := Lib.hid a1; have HB1 := Lib.hid (a3 _ _ HB0.out); have HF1 := Lib.hid (HF0.out.trans a2); have HK1 := Lib.hid (HK0.out.trans a3)
  clear a1 a2 a3
  go_wp2_with fail
  rw [rounds_succ]; go_wp2_with fail
  refine (P2.out _ HW1.out).mono ?_
  rintro e w2 ⟨rfl, a1, a2, a3⟩
  have HW2 := Lib.hid a1; have HB2 := Lib.hid (a3 _ _ HB1.out); have HF2 := Lib.hid (HF1.out.trans a2); have HK2 := Lib.hid (HK1.out.trans a3)
  clear a1 a2 a3
  go_wp2_with fail
  rw [rounds_succ]; go_wp2_with fail
  refine (P3.out _ HW2.out).mono ?_
  rintro e w3 ⟨rfl, a1, a2, a3⟩
  have HW3 := Lib.hid a1; have HB3 := Lib.hid (a3 _ _ HB2.out); have HF3 := Lib.hid (HF2.out.trans a2); have HK3 := Lib.hid (HK2.out.trans a3)
  clear a1 a2 a3
  have c3 : w3.cell? ⟨w.heap.size, 4, none⟩ = some (.string s) := HB3.out.cell 4
  go_wp2_with fail
  rw [rounds_succ]; go_wp2_with fail
  refine (P4.out _ HW3.out).mono ?_
  rintro e w4 ⟨rfl, a1, a2, a3⟩
  have HW4 := Lib.hid a1; have HB4 := Lib.hid (a3 _ _ HB3.out); have HF4 := Lib.hid (HF3.out.trans a2); have HK4 := Lib.hid (HK3.out.trans a3)
  clear a1 a2 a3
  have c4 : w4.cell? ⟨w.heap.size, 5, none⟩ = some (.string o) := HB4.out.cell 5
  go_wp2_with fail
  refine (P5.out _ HW4.out).mono ?_
  rintro e w5 ⟨rfl, a1, a2, a3⟩
  have HW5 := Lib.hid a1; have HB5 := Lib.hid (a3 _ _ HB4.out); have HF5 := Lib.hid (HF4.out.trans a2); have HK5 := Lib.hid (HK4.out.trans a3)
  clear a1 a2 a3
  have c5 : w5.cell? ⟨w.heap.size, 6, none⟩ = some (.int .i64 b) := HB5.out.cell 6
  go_wp2_with fail
  refine (P6.out _ HW5.out).mono ?_
  rintro e w6 ⟨rfl, a1, a2, a3⟩
  have HW6 := Lib.hid a1; have HB6 := Lib.hid (a3 _ _ HB5.out); have HF6 := Lib.hid (HF5.out.trans a2); have HK6 := Lib.hid (HK5.out.trans a3)
  clear a1 a2 a3
  have c6 : w6.cell? ⟨w.heap.size, 7, none⟩ = some (.int .i64 d) := HB6.out.cell 7
  go_wp2_with fail
  refine (P7.out _ HW6.out).mono ?_
  rintro e w7 ⟨rfl, a1, a2, a3⟩
  have HW7 := Lib.hid a1; have HB7 := Lib.hid (a3 _ _ HB6.out); have HF7 := Lib.hid (HF6.out.trans a2); have HK7 := Lib.hid (HK6.out.trans a3)
  clear a1 a2 a3
  have c7 : w7.cell? ⟨w.heap.size, 8, none⟩ = some (.bool g) := HB7.out.cell 8
  go_wp2_with fail
  refine (P8.out _ HW7.out).mono ?_
  rintro e w8 ⟨rfl, a1, a2, a3⟩
  have HW8 := Lib.hid a1; have HB8 := Lib.hid (a3 _ _ HB7.out); have HF8 := Lib.hid (HF7.out.trans a2); have HK8 := Lib.hid (HK7.out.trans a3)
  clear a1 a2 a3
  go_wp2_with fail
  go_end0
  exact ⟨rfl, by rw [← HE.out]; exact HW8.out, HF8.out, HK8.out⟩
/-- A record's bytes, and whether there are any. -/
def encM (x : Sn) : List UInt8 := if mayB x then enc x else []
def putV (x : Sn) : Value := .tuple #[.string (ks (encM x)), .int .i64 (mayN x)]
theorem putV_no {x : Sn} (h : mayB x = false) : putV x = .tuple #[.string ByteArray.empty, .int .i64 1] := by
  unfold putV encM mayN; rw [h]; rfl
theorem putV_ok {x : Sn} (h : mayB x = true) : putV x = .tuple #[.string (ks (enc x)), .int .i64 0] := by
  unfold putV encM mayN; rw [h]; rfl
theorem enc_ne (x : Sn) : enc x ≠ [] := by
  unfold enc gb
  simp
set_option maxRecDepth 100000 in
set_option maxHeartbeats 2000000 in
theorem Put (x : Sn) (hx : x.ok) (w : World) : Calls Try.prog 166 #[x.v] w fun e w' => e = .returned (putV x) ∧ Fr (fun _ => False) w w' := by
  have HM := Lib.hid (fun W : World => May_ x hx W)
  have HB := Lib.hid (At.box (Bk.new w x.arr TSn))
  have HF := Lib.hid (Fr.alloc (fun _ => False) w (.cells x.arr TSn))
  cases hm : mayB x with
  | false =>
    have HE := Lib.hid (putV_no hm)
    have e0 : mayN x = 1 := by unfold mayN; rw [hm]; rfl
    rw [e0] at HM
    clear hm hx e0
    obtain ⟨t, i, p, r, s, o, b, d, g⟩ := x
    go_enter Try.func166, Try.ntmps166
    go_wp2_with fail
    refine (HM.out _).mono ?_
    rintro e w1 ⟨rfl, hf⟩
    have HF1 := Lib.hid (HF.out.trans hf (T := fun _ => False) (fun _ _ h => h) (fun _ _ h => h))
    clear hf
    go_wp2_with fail
    go_ret2
    exact ⟨by rw [HE.out]; rfl, HF1.out⟩
  | true =>
    have HE := Lib.hid (putV_ok hm)
    have e0 : mayN x = 0 := by unfold mayN; rw [hm]; rfl
    rw [e0] at HM
    have hmay := may_iff.1 hm
    have HW := Lib.hid (fun (W : World) (bw : Nat) (hW : WS W bw []) => Write x hx (name_size hmay.s).2 (name_size hmay.o).2 bw W hW)
    have HS := Lib.hid (fun (W : World) (bw : Nat) (hW : WS W bw (enc x)) => Bytes bw (enc x) W hW (enc_ne x) (by have := enc_len hmay hx; omega))
    generalize enc x = V at *
    clear hm hx e0 hmay
    obtain ⟨t, i, p, r, s, o, b, d, g⟩ := x
    go_enter Try.func166, Try.ntmps166
    go_wp2_with fail
    refine (HM.out _).mono ?_
    rintro e w1 ⟨rfl, hf⟩
    have HB1 := HB.out.fr hf (fun h => h)
    have HF1 := Lib.hid (HF.out.trans hf (T := fun _ => False) (fun _ _ h => h) (fun _ _ h => h))
    have HA1 := Lib.hid (Fr.alloc (fun _ => False) w1 (.cells #[.pointer none, .slice none 0 0] TW))
    have HB2 := Lib.hid (HB1.fr HA1.out (fun h => h))
    have HN := Lib.hid (WS.new w1)
    clear hf HB1
    go_upto_region 5 with (fail)
    generalize w1.alloc (.cells #[.pointer none, .slice none 0 0] TW) = w2 at *
    have HF2 := Lib.hid (HF1.out.trans HA1.out (T := fun _ => False) (fun _ _ h => h) (fun _ _ h => h))
    have HZ := Lib.hid HF1.out.size
    generalize w1.heap.size = bw at *
    have c0 : w2.cell? ⟨w.heap.size, 0, none⟩ = some (.int .i64 t) := HB2.out 0 _ rfl
    have c1 : w2.cell? ⟨w.heap.size, 1, none⟩ = some (.int .i64 i) := HB2.out 1 _ rfl
    have c2 : w2.cell? ⟨w.heap.size, 2, none⟩ = some (.int .i64 p) := HB2.out 2 _ rfl
    have c3 : w2.cell? ⟨w.heap.size, 3, none⟩ = some (.int .i64 r) := HB2.out 3 _ rfl
    have c4 : w2.cell? ⟨w.heap.size, 4, none⟩ = some (.string s) := HB2.out 4 _ rfl
    have c5 : w2.cell? ⟨w.heap.size, 5, none⟩ = some (.string o) := HB2.out 5 _ rfl
    have c6 : w2.cell? ⟨w.heap.size, 6, none⟩ = some (.int .i64 b) := HB2.out 6 _ rfl
    have c7 : w2.cell? ⟨w.heap.size, 7, none⟩ = some (.int .i64 d) := HB2.out 7 _ rfl
    have c8 : w2.cell? ⟨w.heap.size, 8, none⟩ = some (.bool g) := HB2.out 8 _ rfl
    go_wp2_with fail
    refine (HW.out _ _ HN.out).mono ?_
    rintro e w3 ⟨rfl, a1, a2, -⟩
    have HN3 := Lib.hid a1
    have HB3 := Lib.hid (a2.mono HZ.out)
    clear a1 a2
    go_wp2_with fail
    refine (HS.out _ _ HN3.out).mono ?_
    rintro e w4 ⟨rfl, a2⟩
    have HB4 := Lib.hid (HB3.out.trans (a2.mono HZ.out))
    clear a2
    go_wp2_with fail
    go_ret2
    exact ⟨by rw [HE.out]; rfl, Fr.of_below' ((HF2.out.below (B := w.heap.size) (Nat.le_refl _) (fun _ _ h => h)).trans HB4.out) _⟩
end Code_
end Go.Proofs.Ytkhhdadlpilbmaa
