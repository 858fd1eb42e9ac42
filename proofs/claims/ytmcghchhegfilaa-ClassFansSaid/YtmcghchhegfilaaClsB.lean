/- What is above a chain: the program's. -/
import Derived.Test.YtmcghchhegfilaaClsC
namespace Go.Proofs.Ytmcghchhegfilaa
open Go.RowKit
namespace ClsF
open KeyP PackP SetP SetW SetF Cls ClsW ClsS
attribute [local go_sem] Eng.ev Eng.getO_cons Eng.getO_nil
def abw (L : List Sn) (P : Int → Int → Option Pc) (z : Sn) (t e : Int) : Pc := match P t e with
  | some p => p
  | none => if (nx L t e).isSome then ⟨0, 0, 3, 0, 0, 0⟩ else if z.p = 0 then ⟨0, 0, 1, 0, z.i, 0⟩ else ⟨0, 0, 2, 0, z.i, 0⟩
/-- A place stored. -/
abbrev put6 (w : World) (b : Nat) (p : Pc) : World := ((((((w.setCell ⟨b, 0, none⟩ (.int .i64 p.t)).setCell ⟨b, 1, none⟩ (.int .i64 p.i)).setCell ⟨b, 2, none⟩ (.int .i64 p.c)).setCell ⟨b, 3, none⟩ (.int .i64 p.d)).setCell ⟨b, 4, none⟩ (.int .i64 p.p)).setCell ⟨b, 5, none⟩ (.int .i64 p.f))
theorem put6_bk {w : World} {b : Nat} {q : Pc} (h : Bk w b q.arr TPl) (p : Pc) : Bk (put6 w b p) b p.arr TPl := by
  have h1 := ((((((h.set 0 (.int .i64 p.t)).set 1 (.int .i64 p.i)).set 2 (.int .i64 p.c)).set 3 (.int .i64 p.d)).set 4 (.int .i64 p.p)).set 5 (.int .i64 p.f))
  simpa using h1
theorem frs1 {w w' : World} {b : Nat} (h : Fr (fun k => k = b) w w') (o : Nat) (u : Value) : Fr (fun k => k = b) w (w'.setCell ⟨b, o, none⟩ u) := h.trans (Fr.setCell w' ⟨b, o, none⟩ u (S := fun k => k = b) rfl) (fun _ _ h => h) (fun _ _ h => h)
theorem put6_fr (w : World) (b : Nat) (p : Pc) : Fr (fun k => k = b) w (put6 w b p) := (frs1 (frs1 (frs1 (frs1 (frs1 (frs1 (Fr.refl _ w) 0 (.int .i64 p.t)) 1 (.int .i64 p.i)) 2 (.int .i64 p.c)) 3 (.int .i64 p.d)) 4 (.int .i64 p.p)) 5 (.int .i64 p.f))
abbrev z6 : Pc := ⟨0, 0, 0, 0, 0, 0⟩
set_option maxRecDepth 100000 in
set_option maxHeartbeats 4000000 in
theorem above {w0 : World} {h n m : Nat} {L : List Sn} {P : Int → Int → Option Pc} (z : Sn) (t e : Int) (w : World) (hF : Fo w0 w h L L n m P) (ht : wf64 t) (he : wf64 e) (U : Pc) (hU : abw L P z t e = U) :
    Calls Try.prog 94 #[.pointer (some ⟨h + 3, 0, none⟩), z.v, .string (key2 t e)] w fun e' w' => e' = .returned U.v ∧ Below w.heap.size w w' := by
  have f1 := Fr.alloc (fun _ => False) w (.cells z.arr TSn)
  have f2 := Fr.alloc (fun _ => False) (w.alloc (.cells z.arr TSn)) (.cells #[.int .i64 0, .int .i64 0, .int .i64 0, .int .i64 0, .int .i64 0, .int .i64 0] TPl)
  have f12 := f1.trans f2 (T := fun _ => False) (fun _ _ h => h) (fun _ _ h => h)
  have r2 : Bk ((w.alloc (.cells z.arr TSn)).alloc (.cells #[.int .i64 0, .int .i64 0, .int .i64 0, .int .i64 0, .int .i64 0, .int .i64 0] TPl)) (w.heap.size + 1) z6.arr TPl := by
    have := Bk.new (w.alloc (.cells z.arr TSn)) #[.int .i64 0, .int .i64 0, .int .i64 0, .int .i64 0, .int .i64 0, .int .i64 0] TPl
    rwa [World.size_alloc] at this
  have HR := Lib.hid r2
  have HA := Lib.hid ((At.box (Bk.new w z.arr TSn)).keep f2)
  have HF := Lib.hid (hF.fr f12)
  have HB := Lib.hid (f12.below (Nat.le_refl _) (fun _ _ h => h))
  have HU := Lib.hid hU
  clear f1 f2 f12 r2 hF hU
  go_enter Try.func94, Try.ntmps94
  go_upto_region 1 with (fail)
  generalize ((w.alloc (.cells z.arr TSn)).alloc (.cells #[.int .i64 0, .int .i64 0, .int .i64 0, .int .i64 0, .int .i64 0, .int .i64 0] TPl)) = w1 at *
  have e1 := (cell3 HF.out).2.1
  have hl1 := HF.out.p.look_ok uP zeroP ht he
  cases hP : P t e with
  | some p =>
    rw [hP] at hl1
    replace hl1 : (Instr.lookup TMp (.map (some (h + 1))) (.string (key2 t e)) true).run Try.prog w1 = .ok (.tuple #[p.v, .bool true]) w1 := hl1
    have HV : Hid (U = p) := by show _ = _; rw [← HU.out]; unfold abw; rw [hP]
    clear hP
    go_upto_region 2 with (fail)
    have f3 := Fr.alloc (fun _ => False) w1 (.cells p.arr TPl)
    have b3 := Bk.new w1 p.arr TPl
    generalize (w1.alloc (.cells p.arr TPl)) = w2 at *
    replace HR := Lib.hid (HR.out.fr f3 (fun _ _ h => h)); replace HA := Lib.hid (HA.out.keep f3); replace HF := Lib.hid (HF.out.fr f3); replace HB := Lib.hid (HB.out.trans (f3.below HB.out.size (fun _ _ h => h))); have HP := Lib.hid b3
    clear f3 b3 hl1 e1
    have e2 := (cell3 HF.out).1
    have hl2 := HF.out.s.look_ok uS zeroS ht he
    obtain ⟨y, hy⟩ : ∃ y : Sn, (spv L t e).getD zS = y.v := by
      unfold spv
      cases nx L t e with
      | none => exact ⟨⟨0, 0, 0, 0, ByteArray.empty, ByteArray.empty, 0, 0, false⟩, rfl⟩
      | some y => exact ⟨y, rfl⟩
    rw [hy] at hl2
    generalize (spv L t e).isSome = yb at hl2
    clear hy
    go_upto_region 3 with (fail)
    have f4 := Fr.alloc (fun _ => False) w2 (.cells y.arr TSn)
    generalize (w2.alloc (.cells y.arr TSn)) = w3 at *
    replace HR := Lib.hid (HR.out.fr f4 (fun _ _ h => h)); replace HA := Lib.hid (HA.out.keep f4); replace HP := Lib.hid (HP.out.fr f4 (fun _ _ h => h)); replace HB := Lib.hid (HB.out.trans (f4.below HB.out.size (fun _ _ h => h)))
    clear f4 hl2 e2 HF
    have o0 : w3.cell? ⟨w.heap.size + 1, 0, none⟩ = some (.int .i64 0) := HR.out.cell 0
    have z0 : w3.frozen? ⟨w.heap.size + 1, 0, none⟩ = false := HR.out.free 0
    have o1 : w3.cell? ⟨w.heap.size + 1, 1, none⟩ = some (.int .i64 0) := HR.out.cell 1
    have z1 : w3.frozen? ⟨w.heap.size + 1, 1, none⟩ = false := HR.out.free 1
    have o2 : w3.cell? ⟨w.heap.size + 1, 2, none⟩ = some (.int .i64 0) := HR.out.cell 2
    have z2 : w3.frozen? ⟨w.heap.size + 1, 2, none⟩ = false := HR.out.free 2
    have o3 : w3.cell? ⟨w.heap.size + 1, 3, none⟩ = some (.int .i64 0) := HR.out.cell 3
    have z3 : w3.frozen? ⟨w.heap.size + 1, 3, none⟩ = false := HR.out.free 3
    have o4 : w3.cell? ⟨w.heap.size + 1, 4, none⟩ = some (.int .i64 0) := HR.out.cell 4
    have z4 : w3.frozen? ⟨w.heap.size + 1, 4, none⟩ = false := HR.out.free 4
    have o5 : w3.cell? ⟨w.heap.size + 1, 5, none⟩ = some (.int .i64 0) := HR.out.cell 5
    have z5 : w3.frozen? ⟨w.heap.size + 1, 5, none⟩ = false := HR.out.free 5
    have c0 : w3.cell? ⟨w1.heap.size, 0, none⟩ = some (.int .i64 (p.t)) := HP.out.cell 0
    have c1 : w3.cell? ⟨w1.heap.size, 1, none⟩ = some (.int .i64 (p.i)) := HP.out.cell 1
    have c2 : w3.cell? ⟨w1.heap.size, 2, none⟩ = some (.int .i64 (p.c)) := HP.out.cell 2
    have c3 : w3.cell? ⟨w1.heap.size, 3, none⟩ = some (.int .i64 (p.d)) := HP.out.cell 3
    have c4 : w3.cell? ⟨w1.heap.size, 4, none⟩ = some (.int .i64 (p.p)) := HP.out.cell 4
    have c5 : w3.cell? ⟨w1.heap.size, 5, none⟩ = some (.int .i64 (p.f)) := HP.out.cell 5
    go_wp2_with fail
    exact bodyPost_ret (results_cell_row rfl _ _ (w.heap.size + 1) TPl _ (0, 0) _ rfl (put6_bk HR.out p) Try.underlying55 rfl (by kernel_rfl)) rfl ⟨by rw [HV.out], HB.out.trans ((put6_fr w3 (w.heap.size + 1) p).below HB.out.size (fun k hk e => by omega))⟩
  | none =>
    rw [hP] at hl1
    replace hl1 : (Instr.lookup TMp (.map (some (h + 1))) (.string (key2 t e)) true).run Try.prog w1 = .ok (.tuple #[zP, .bool false]) w1 := hl1
    go_upto_region 2 with (fail)
    have f3 := Fr.alloc (fun _ => False) w1 (.cells #[.int .i64 0, .int .i64 0, .int .i64 0, .int .i64 0, .int .i64 0, .int .i64 0] TPl)
    have b3 := Bk.new w1 #[.int .i64 0, .int .i64 0, .int .i64 0, .int .i64 0, .int .i64 0, .int .i64 0] TPl
    generalize (w1.alloc (.cells #[.int .i64 0, .int .i64 0, .int .i64 0, .int .i64 0, .int .i64 0, .int .i64 0] TPl)) = w2 at *
    replace HR := Lib.hid (HR.out.fr f3 (fun _ _ h => h)); replace HA := Lib.hid (HA.out.keep f3); replace HF := Lib.hid (HF.out.fr f3); replace HB := Lib.hid (HB.out.trans (f3.below HB.out.size (fun _ _ h => h))); have HP := Lib.hid b3
    clear f3 b3 hl1 e1
    have e2 := (cell3 HF.out).1
    have hl2 := HF.out.s.look_ok uS zeroS ht he
    cases hn : nx L t e with
    | some y =>
      rw [show spv L t e = some y.v by unfold spv; rw [hn]; rfl] at hl2
      replace hl2 : (Instr.lookup TMs (.map (some h)) (.string (key2 t e)) true).run Try.prog w2 = .ok (.tuple #[y.v, .bool true]) w2 := hl2
      have HV : Hid (U = ⟨0, 0, 3, 0, 0, 0⟩) := by show _ = _; rw [← HU.out]; unfold abw; rw [hP, hn]; rfl
      clear hP hn
      have kb : ∀ W : World, (Instr.build TPl #[(2, .int .i64 3)]).run Try.prog W = .ok (.agg #[.int .i64 0, .int .i64 0, .int .i64 3, .int .i64 0, .int .i64 0, .int .i64 0]) W := fun W => by kernel_rfl
      go_upto_region 3 with (fail)
      have f4 := Fr.alloc (fun _ => False) w2 (.cells y.arr TSn)
      generalize (w2.alloc (.cells y.arr TSn)) = w3 at *
      replace HR := Lib.hid (HR.out.fr f4 (fun _ _ h => h)); replace HA := Lib.hid (HA.out.keep f4); replace HP := Lib.hid (HP.out.fr f4 (fun _ _ h => h)); replace HB := Lib.hid (HB.out.trans (f4.below HB.out.size (fun _ _ h => h)))
      clear f4 hl2 e2 HF
      have o0 : w3.cell? ⟨w.heap.size + 1, 0, none⟩ = some (.int .i64 0) := HR.out.cell 0
      have z0 : w3.frozen? ⟨w.heap.size + 1, 0, none⟩ = false := HR.out.free 0
      have o1 : w3.cell? ⟨w.heap.size + 1, 1, none⟩ = some (.int .i64 0) := HR.out.cell 1
      have z1 : w3.frozen? ⟨w.heap.size + 1, 1, none⟩ = false := HR.out.free 1
      have o2 : w3.cell? ⟨w.heap.size + 1, 2, none⟩ = some (.int .i64 0) := HR.out.cell 2
      have z2 : w3.frozen? ⟨w.heap.size + 1, 2, none⟩ = false := HR.out.free 2
      have o3 : w3.cell? ⟨w.heap.size + 1, 3, none⟩ = some (.int .i64 0) := HR.out.cell 3
      have z3 : w3.frozen? ⟨w.heap.size + 1, 3, none⟩ = false := HR.out.free 3
      have o4 : w3.cell? ⟨w.heap.size + 1, 4, none⟩ = some (.int .i64 0) := HR.out.cell 4
      have z4 : w3.frozen? ⟨w.heap.size + 1, 4, none⟩ = false := HR.out.free 4
      have o5 : w3.cell? ⟨w.heap.size + 1, 5, none⟩ = some (.int .i64 0) := HR.out.cell 5
      have z5 : w3.frozen? ⟨w.heap.size + 1, 5, none⟩ = false := HR.out.free 5
      go_wp2_with fail
      exact bodyPost_ret (results_cell_row rfl _ _ (w.heap.size + 1) TPl _ (0, 0) _ rfl (put6_bk HR.out ⟨0, 0, 3, 0, 0, 0⟩) Try.underlying55 rfl (by kernel_rfl)) rfl ⟨by rw [HV.out], HB.out.trans ((put6_fr w3 (w.heap.size + 1) ⟨0, 0, 3, 0, 0, 0⟩).below HB.out.size (fun k hk e => by omega))⟩
    | none =>
      rw [show spv L t e = none by unfold spv; rw [hn]; rfl] at hl2
      replace hl2 : (Instr.lookup TMs (.map (some h)) (.string (key2 t e)) true).run Try.prog w2 = .ok (.tuple #[zS, .bool false]) w2 := hl2
      by_cases h0 : z.p = 0
      · have q0 : (z.p == 0) = true := by simp [h0]
        have HV : Hid (U = ⟨0, 0, 1, 0, z.i, 0⟩) := by show _ = _; rw [← HU.out]; unfold abw; rw [hP, hn]; simp [h0]
        clear hP hn h0
        have kb : ∀ W : World, (Instr.build TPl #[(2, .int .i64 1), (4, .int .i64 z.i)]).run Try.prog W = .ok (.agg #[.int .i64 0, .int .i64 0, .int .i64 1, .int .i64 0, .int .i64 z.i, .int .i64 0]) W := fun W => by kernel_rfl
        go_upto_region 3 with (fail)
        have f4 := Fr.alloc (fun _ => False) w2 (.cells #[.int .i64 0, .int .i64 0, .int .i64 0, .int .i64 0, .string ByteArray.empty, .string ByteArray.empty, .int .i64 0, .int .i64 0, .bool false] TSn)
        generalize (w2.alloc (.cells #[.int .i64 0, .int .i64 0, .int .i64 0, .int .i64 0, .string ByteArray.empty, .string ByteArray.empty, .int .i64 0, .int .i64 0, .bool false] TSn)) = w3 at *
        replace HR := Lib.hid (HR.out.fr f4 (fun _ _ h => h)); replace HA := Lib.hid (HA.out.keep f4); replace HP := Lib.hid (HP.out.fr f4 (fun _ _ h => h)); replace HB := Lib.hid (HB.out.trans (f4.below HB.out.size (fun _ _ h => h)))
        clear f4 hl2 e2 HF
        have o0 : w3.cell? ⟨w.heap.size + 1, 0, none⟩ = some (.int .i64 0) := HR.out.cell 0
        have z0 : w3.frozen? ⟨w.heap.size + 1, 0, none⟩ = false := HR.out.free 0
        have o1 : w3.cell? ⟨w.heap.size + 1, 1, none⟩ = some (.int .i64 0) := HR.out.cell 1
        have z1 : w3.frozen? ⟨w.heap.size + 1, 1, none⟩ = false := HR.out.free 1
        have o2 : w3.cell? ⟨w.heap.size + 1, 2, none⟩ = some (.int .i64 0) := HR.out.cell 2
        have z2 : w3.frozen? ⟨w.heap.size + 1, 2, none⟩ = false := HR.out.free 2
        have o3 : w3.cell? ⟨w.heap.size + 1, 3, none⟩ = some (.int .i64 0) := HR.out.cell 3
        have z3 : w3.frozen? ⟨w.heap.size + 1, 3, none⟩ = false := HR.out.free 3
        have o4 : w3.cell? ⟨w.heap.size + 1, 4, none⟩ = some (.int .i64 0) := HR.out.cell 4
        have z4 : w3.frozen? ⟨w.heap.size + 1, 4, none⟩ = false := HR.out.free 4
        have o5 : w3.cell? ⟨w.heap.size + 1, 5, none⟩ = some (.int .i64 0) := HR.out.cell 5
        have z5 : w3.frozen? ⟨w.heap.size + 1, 5, none⟩ = false := HR.out.free 5
        have x1 : w3.cell? ⟨w.heap.size, 1, none⟩ = some (.int .i64 z.i) := HA.out 1 _ rfl
        have x2 : w3.cell? ⟨w.heap.size, 2, none⟩ = some (.int .i64 z.p) := HA.out 2 _ rfl
        go_wp2_with fail
        exact bodyPost_ret (results_cell_row rfl _ _ (w.heap.size + 1) TPl _ (0, 0) _ rfl (put6_bk HR.out ⟨0, 0, 1, 0, z.i, 0⟩) Try.underlying55 rfl (by kernel_rfl)) rfl ⟨by rw [HV.out], HB.out.trans ((put6_fr w3 (w.heap.size + 1) ⟨0, 0, 1, 0, z.i, 0⟩).below HB.out.size (fun k hk e => by omega))⟩
      · have q0 : (z.p == 0) = false := by simp [h0]
        have HV : Hid (U = ⟨0, 0, 2, 0, z.i, 0⟩) := by show _ = _; rw [← HU.out]; unfold abw; rw [hP, hn]; simp [h0]
        clear hP hn h0
        have kb : ∀ W : World, (Instr.build TPl #[(2, .int .i64 2), (4, .int .i64 z.i)]).run Try.prog W = .ok (.agg #[.int .i64 0, .int .i64 0, .int .i64 2, .int .i64 0, .int .i64 z.i, .int .i64 0]) W := fun W => by kernel_rfl
        go_upto_region 3 with (fail)
        have f4 := Fr.alloc (fun _ => False) w2 (.cells #[.int .i64 0, .int .i64 0, .int .i64 0, .int .i64 0, .string ByteArray.empty, .string ByteArray.empty, .int .i64 0, .int .i64 0, .bool false] TSn)
        generalize (w2.alloc (.cells #[.int .i64 0, .int .i64 0, .int .i64 0, .int .i64 0, .string ByteArray.empty, .string ByteArray.empty, .int .i64 0, .int .i64 0, .bool false] TSn)) = w3 at *
        replace HR := Lib.hid (HR.out.fr f4 (fun _ _ h => h)); replace HA := Lib.hid (HA.out.keep f4); replace HP := Lib.hid (HP.out.fr f4 (fun _ _ h => h)); replace HB := Lib.hid (HB.out.trans (f4.below HB.out.size (fun _ _ h => h)))
        clear f4 hl2 e2 HF
        have o0 : w3.cell? ⟨w.heap.size + 1, 0, none⟩ = some (.int .i64 0) := HR.out.cell 0
        have z0 : w3.frozen? ⟨w.heap.size + 1, 0, none⟩ = false := HR.out.free 0
        have o1 : w3.cell? ⟨w.heap.size + 1, 1, none⟩ = some (.int .i64 0) := HR.out.cell 1
        have z1 : w3.frozen? ⟨w.heap.size + 1, 1, none⟩ = false := HR.out.free 1
        have o2 : w3.cell? ⟨w.heap.size + 1, 2, none⟩ = some (.int .i64 0) := HR.out.cell 2
        have z2 : w3.frozen? ⟨w.heap.size + 1, 2, none⟩ = false := HR.out.free 2
        have o3 : w3.cell? ⟨w.heap.size + 1, 3, none⟩ = some (.int .i64 0) := HR.out.cell 3
        have z3 : w3.frozen? ⟨w.heap.size + 1, 3, none⟩ = false := HR.out.free 3
        have o4 : w3.cell? ⟨w.heap.size + 1, 4, none⟩ = some (.int .i64 0) := HR.out.cell 4
        have z4 : w3.frozen? ⟨w.heap.size + 1, 4, none⟩ = false := HR.out.free 4
        have o5 : w3.cell? ⟨w.heap.size + 1, 5, none⟩ = some (.int .i64 0) := HR.out.cell 5
        have z5 : w3.frozen? ⟨w.heap.size + 1, 5, none⟩ = false := HR.out.free 5
        have x1 : w3.cell? ⟨w.heap.size, 1, none⟩ = some (.int .i64 z.i) := HA.out 1 _ rfl
        have x2 : w3.cell? ⟨w.heap.size, 2, none⟩ = some (.int .i64 z.p) := HA.out 2 _ rfl
        go_wp2_with fail
        exact bodyPost_ret (results_cell_row rfl _ _ (w.heap.size + 1) TPl _ (0, 0) _ rfl (put6_bk HR.out ⟨0, 0, 2, 0, z.i, 0⟩) Try.underlying55 rfl (by kernel_rfl)) rfl ⟨by rw [HV.out], HB.out.trans ((put6_fr w3 (w.heap.size + 1) ⟨0, 0, 2, 0, z.i, 0⟩).below HB.out.size (fun k hk e => by omega))⟩
end ClsF
end Go.Proofs.Ytmcghchhegfilaa
