/- The maps in order (avl) at one instance: levelling. -/
import Derived.Test.YtkhhdadlpilbmaaAvlBSI
namespace Go.Proofs.Ytkhhdadlpilbmaa
open Go.RowKit
namespace AvlSI

set_option maxRecDepth 100000 in
theorem level_else (b : Nat) (k : ByteArray) (v : Int) (l r : AT ByteArray Int) (d : Int) (w : World)
    (h : In w (.node b k v l r d)) (nd : (AT.node b k v l r d).fp.Nodup) (wl : l.wd) (wr : r.wd) (sz : l.size + r.size < 1152921504606846976) (e1 : ¬ r.dep - l.dep = 2) (e2 : ¬ r.dep - l.dep = -2) :
    Calls Try.prog 157 #[.pointer (some ⟨b, 0, none⟩)] w fun e w' => e = .returned (.pointer (AT.level b k v l r).adr) ∧ In w' (AT.level b k v l r) ∧ Fr (fun x => x ∈ (AT.node b k v l r d).fp) w w' := by
  have hlev : AT.level b k v l r = AT.mk b k v l r := by rw [AT.level, if_neg e1, if_neg e2]
  have t1 : ((r.dep - l.dep) == 2) = false := beq_eq_false_iff_ne.2 e1
  have t2 : ((r.dep - l.dep) == -2) = false := beq_eq_false_iff_ne.2 e2
  rw [hlev]
  clear hlev
  obtain ⟨hb, hl, hr⟩ := h
  have nd0 := Lib.hid nd
  obtain ⟨nbl, nbr, ndl, ndr, ndx⟩ := AT.nodup_node.1 nd
  clear nd
  have D0 := wl.dep0; have D1 := wl.dep_le; have D2 := wr.dep0; have D3 := wr.dep_le
  have HB := Lib.hid hb
  clear hb
  go_enter Try.func157, Try.ntmps157
  go_wp2_with fail
  refine (measure b k v l r d w HB.out hl hr (by omega) (by omega) (by omega) (by omega)).mono ?_
  rintro e w1 ⟨rfl, hB1, hF1⟩
  have hl1 : In w1 l := In.fr hl hF1 (fun x hx e => nbl (e ▸ hx))
  have hr1 : In w1 r := In.fr hr hF1 (fun x hx e => nbr (e ▸ hx))
  have hm1 : In w1 (.node b k v l r (1 + max l.dep r.dep)) := ⟨hB1, hl1, hr1⟩
  have HF1 := Lib.hid hF1
  clear hF1 hB1 hl hr HB
  go_wp2_with fail
  refine (lean b k v l r _ w1 hm1 (by omega) (by omega) (by omega) (by omega)).mono ?_
  rintro e w2 ⟨rfl, rfl⟩
  have HF2 : Hid (Fr (· = b) w w1.drew) := HF1.out.trans (Fr.drew (fun _ => False) _) (fun _ _ h => h) (fun _ _ h => h.elim)
  have hm2 : In w1.drew (.node b k v l r (1 + max l.dep r.dep)) := In.fr hm1 (Fr.drew (fun _ => False) _) (fun _ _ h => h)
  clear HF1 hl1 hr1 hm1
  generalize w1.drew = w2 at *
  clear w1
  have HM2 := Lib.hid hm2
  clear hm2
  go_wp2_with fail
  go_ret
  exact ⟨rfl, HM2.out, HF2.out.mono (fun i _ h => by rw [h]; simp [AT.fp])⟩

set_option maxRecDepth 100000 in
theorem level_hi (b : Nat) (k : ByteArray) (v : Int) (l r : AT ByteArray Int) (d : Int) (w : World)
    (h : In w (.node b k v l r d)) (nd : (AT.node b k v l r d).fp.Nodup) (wl : l.wd) (wr : r.wd) (sz : l.size + r.size < 1152921504606846976) (e1 : r.dep - l.dep = 2) (e2 : ¬ r.lean < 0) :
    Calls Try.prog 157 #[.pointer (some ⟨b, 0, none⟩)] w fun e w' => e = .returned (.pointer (AT.level b k v l r).adr) ∧ In w' (AT.level b k v l r) ∧ Fr (fun x => x ∈ (AT.node b k v l r d).fp) w w' := by
  have hlev : AT.level b k v l r = AT.turnLow (AT.mk b k v l r) := by rw [AT.level, if_pos e1, if_neg e2]
  have t1 : ((r.dep - l.dep) == 2) = true := beq_iff_eq.2 e1
  have l0 := wl.dep0
  rw [hlev]
  clear hlev
  cases r with
  | nil => rw [AT.dep_nil] at e1; omega
  | node b1 k1 v1 l1 r1 d1 =>
  obtain ⟨wd1, wd2, wd3⟩ := id wr
  have E1 := Lib.hid e1
  rw [AT.lean_node] at e2
  have e3 : 0 ≤ r1.dep - l1.dep := by omega
  have F0 := wd1.dep0; have F1 := wd1.dep_le; have F2 := wd2.dep0; have F3 := wd2.dep_le
  have S1 : (AT.node b1 k1 v1 l1 r1 d1).size = l1.size + r1.size + 1 := rfl
  have sz' : l.size + l1.size + r1.size < 1152921504606846976 := by omega
  clear wd3 e1
  obtain ⟨hb, hl, hr⟩ := h
  have nd0 := Lib.hid nd
  obtain ⟨nbl, nbr, ndl, ndr, ndx⟩ := AT.nodup_node.1 nd
  clear nd
  have D0 := wl.dep0; have D1 := wl.dep_le; have D2 := wr.dep0; have D3 := wr.dep_le
  have HB := Lib.hid hb
  clear hb
  go_enter Try.func157, Try.ntmps157
  go_wp2_with fail
  refine (measure b k v l (AT.node b1 k1 v1 l1 r1 d1) d w HB.out hl hr (by omega) (by omega) (by omega) (by omega)).mono ?_
  rintro e w1 ⟨rfl, hB1, hF1⟩
  have hl1 : In w1 l := In.fr hl hF1 (fun x hx e => nbl (e ▸ hx))
  have hr1 : In w1 (AT.node b1 k1 v1 l1 r1 d1) := In.fr hr hF1 (fun x hx e => nbr (e ▸ hx))
  have hm1 : In w1 (.node b k v l (AT.node b1 k1 v1 l1 r1 d1) (1 + max l.dep (AT.node b1 k1 v1 l1 r1 d1).dep)) := ⟨hB1, hl1, hr1⟩
  have HF1 := Lib.hid hF1
  clear hF1 hB1 hl hr HB
  go_wp2_with fail
  refine (lean b k v l (AT.node b1 k1 v1 l1 r1 d1) _ w1 hm1 (by omega) (by omega) (by omega) (by omega)).mono ?_
  rintro e w2 ⟨rfl, rfl⟩
  have HF2 : Hid (Fr (· = b) w w1.drew) := HF1.out.trans (Fr.drew (fun _ => False) _) (fun _ _ h => h) (fun _ _ h => h.elim)
  have hm2 : In w1.drew (.node b k v l (AT.node b1 k1 v1 l1 r1 d1) (1 + max l.dep (AT.node b1 k1 v1 l1 r1 d1).dep)) := In.fr hm1 (Fr.drew (fun _ => False) _) (fun _ _ h => h)
  clear HF1 hl1 hr1 hm1
  generalize w1.drew = w2 at *
  clear w1
  have hm3 := Lib.hid hm2
  obtain ⟨hb2, hl2, hr2⟩ := hm2
  rw [AT.adr_node] at hb2
  obtain ⟨-, -, c3, -, -⟩ := cells hb2
  clear hb2 S1
  go_wp2_with fail
  refine (lean b1 k1 v1 l1 r1 d1 w2 hr2 (by omega) (by omega) (by omega) (by omega)).mono ?_
  rintro e w3 ⟨rfl, rfl⟩
  have HF3 : Hid (Fr (· = b) w w2.drew) := HF2.out.trans (Fr.drew (fun _ => False) _) (fun _ _ h => h) (fun _ _ h => h.elim)
  have HM3 : Hid (In w2.drew (.node b k v l (AT.node b1 k1 v1 l1 r1 d1) (1 + max l.dep (AT.node b1 k1 v1 l1 r1 d1).dep))) := In.fr hm3.out (Fr.drew (fun _ => False) _) (fun _ _ h => h)
  clear HF2 hm3 hl2 hr2 c3
  generalize w2.drew = w3 at *
  clear w2
  go_wp2_with fail
  refine (turnLow b k v l b1 k1 v1 l1 r1 d1 _ w3 HM3.out (nd0.out) wl wd1 wd2 (by omega)).mono ?_
  rintro e w4 ⟨rfl, HI, HF⟩
  have HI4 := Lib.hid HI; have HF4 := Lib.hid HF
  clear HI HF
  go_wp2_with fail
  go_ret
  refine ⟨rfl, HI4.out, HF3.out.trans HF4.out (fun i _ h => by rw [h]; simp [AT.fp]) (fun i _ h => by rcases h with h | h <;> rw [h] <;> simp [AT.fp])⟩

set_option maxRecDepth 100000 in
theorem level_hilo (b : Nat) (k : ByteArray) (v : Int) (l r : AT ByteArray Int) (d : Int) (w : World)
    (h : In w (.node b k v l r d)) (nd : (AT.node b k v l r d).fp.Nodup) (wl : l.wd) (wr : r.wd) (sz : l.size + r.size < 1152921504606846976) (e1 : r.dep - l.dep = 2) (e2 : r.lean < 0) :
    Calls Try.prog 157 #[.pointer (some ⟨b, 0, none⟩)] w fun e w' => e = .returned (.pointer (AT.level b k v l r).adr) ∧ In w' (AT.level b k v l r) ∧ Fr (fun x => x ∈ (AT.node b k v l r d).fp) w w' := by
  have hlev : AT.level b k v l r = AT.turnLow (AT.mk b k v l (AT.turnHigh r)) := by rw [AT.level, if_pos e1, if_pos e2]
  have t1 : ((r.dep - l.dep) == 2) = true := beq_iff_eq.2 e1
  have l0 := wl.dep0
  rw [hlev]
  clear hlev
  cases r with
  | nil => rw [AT.dep_nil] at e1; omega
  | node b1 k1 v1 l1 r1 d1 =>
  obtain ⟨wd1, wd2, wd3⟩ := id wr
  have E1 := Lib.hid e1
  rw [AT.lean_node] at e2
  have F0 := wd1.dep0; have F1 := wd1.dep_le; have F2 := wd2.dep0; have F3 := wd2.dep_le
  have S1 : (AT.node b1 k1 v1 l1 r1 d1).size = l1.size + r1.size + 1 := rfl
  have sz' : l.size + l1.size + r1.size < 1152921504606846976 := by omega
  clear wd3 e1
  obtain ⟨hb, hl, hr⟩ := h
  have nd0 := Lib.hid nd
  obtain ⟨nbl, nbr, ndl, ndr, ndx⟩ := AT.nodup_node.1 nd
  clear nd
  have D0 := wl.dep0; have D1 := wl.dep_le; have D2 := wr.dep0; have D3 := wr.dep_le
  have HB := Lib.hid hb
  clear hb
  go_enter Try.func157, Try.ntmps157
  go_wp2_with fail
  refine (measure b k v l (AT.node b1 k1 v1 l1 r1 d1) d w HB.out hl hr (by omega) (by omega) (by omega) (by omega)).mono ?_
  rintro e w1 ⟨rfl, hB1, hF1⟩
  have hl1 : In w1 l := In.fr hl hF1 (fun x hx e => nbl (e ▸ hx))
  have hr1 : In w1 (AT.node b1 k1 v1 l1 r1 d1) := In.fr hr hF1 (fun x hx e => nbr (e ▸ hx))
  have hm1 : In w1 (.node b k v l (AT.node b1 k1 v1 l1 r1 d1) (1 + max l.dep (AT.node b1 k1 v1 l1 r1 d1).dep)) := ⟨hB1, hl1, hr1⟩
  have HF1 := Lib.hid hF1
  clear hF1 hB1 hl hr HB
  go_wp2_with fail
  refine (lean b k v l (AT.node b1 k1 v1 l1 r1 d1) _ w1 hm1 (by omega) (by omega) (by omega) (by omega)).mono ?_
  rintro e w2 ⟨rfl, rfl⟩
  have HF2 : Hid (Fr (· = b) w w1.drew) := HF1.out.trans (Fr.drew (fun _ => False) _) (fun _ _ h => h) (fun _ _ h => h.elim)
  have hm2 : In w1.drew (.node b k v l (AT.node b1 k1 v1 l1 r1 d1) (1 + max l.dep (AT.node b1 k1 v1 l1 r1 d1).dep)) := In.fr hm1 (Fr.drew (fun _ => False) _) (fun _ _ h => h)
  clear HF1 hl1 hr1 hm1
  generalize w1.drew = w2 at *
  clear w1
  have hm3 := Lib.hid hm2
  obtain ⟨hb2, hl2, hr2⟩ := hm2
  rw [AT.adr_node] at hb2
  obtain ⟨-, -, c3, -, -⟩ := cells hb2
  clear hb2 S1
  go_wp2_with fail
  refine (lean b1 k1 v1 l1 r1 d1 w2 hr2 (by omega) (by omega) (by omega) (by omega)).mono ?_
  rintro e w3 ⟨rfl, rfl⟩
  have HF3 : Hid (Fr (· = b) w w2.drew) := HF2.out.trans (Fr.drew (fun _ => False) _) (fun _ _ h => h) (fun _ _ h => h.elim)
  have HM3 : Hid (In w2.drew (.node b k v l (AT.node b1 k1 v1 l1 r1 d1) (1 + max l.dep (AT.node b1 k1 v1 l1 r1 d1).dep))) := In.fr hm3.out (Fr.drew (fun _ => False) _) (fun _ _ h => h)
  clear HF2 hm3 hl2 hr2 c3
  generalize w2.drew = w3 at *
  clear w2
  cases l1 with
  | nil => rw [AT.dep_nil] at e2; omega
  | node b2 k2 v2 l2 r2 d2 =>
  obtain ⟨wd3, wd4, wd5⟩ := id wd1
  have G0 := wd3.dep0; have G1 := wd3.dep_le; have G2 := wd4.dep0; have G3 := wd4.dep_le
  have S2 : (AT.node b2 k2 v2 l2 r2 d2).size = l2.size + r2.size + 1 := rfl
  have sz2 : l.size + l2.size + r2.size + r1.size < 1152921504606846976 := by omega
  clear S2 wd5
  obtain ⟨hb3, hl3, hr3⟩ := HM3.out
  rw [AT.adr_node] at hb3
  obtain ⟨-, -, c3, -, -⟩ := cells hb3
  have HB3 := Lib.hid hb3
  clear hb3
  have ndr2 := Lib.hid ndr
  go_wp2_with fail
  refine (turnHigh b1 k1 v1 b2 k2 v2 l2 r2 d2 r1 d1 w3 hr3 ndr2.out wd2 wd3 wd4 (by omega)).mono ?_
  rintro e w4 ⟨rfl, HI, HF⟩
  have nb1 : b ≠ b1 := fun e => nbr (by rw [e]; simp [AT.fp])
  have nb2 : b ≠ b2 := fun e => nbr (by rw [e]; simp [AT.fp])
  have hB4 := (HF.block b (lt_of_heap HB3.out) (fun h => h.elim nb1 nb2)).trans HB3.out
  have hl4 : In w4 l := In.fr hl3 HF (fun x hx h => by rcases h with h | h <;> exact ndx x hx x (by rw [h]; simp [AT.fp]) rfl)
  have HI4 := Lib.hid HI; have HF4 := Lib.hid (HF3.out.trans HF (T := fun x => x = b ∨ x = b1 ∨ x = b2) (fun i _ h => .inl h) (fun i _ h => .inr h))
  obtain ⟨-, -, c4, -, cf4⟩ := cells hB4
  have HB5 := Lib.hid (set_hi hB4 (some ⟨b2, 0, none⟩))
  have HF5 : Hid (Fr (fun x => x = b ∨ x = b1 ∨ x = b2) w (w4.setCell ⟨b, 3, none⟩ (.pointer (some ⟨b2, 0, none⟩)))) := HF4.out.trans (Fr.setCell w4 ⟨b, 3, none⟩ _ (S := (· = b)) rfl) (fun i _ h => h) (fun i _ h => .inl h)
  have HL5 : Hid (In (w4.setCell ⟨b, 3, none⟩ (.pointer (some ⟨b2, 0, none⟩))) l) := In.fr hl4 (Fr.setCell w4 ⟨b, 3, none⟩ _ (S := (· = b)) rfl) (fun x hx h => nbl (h ▸ hx))
  have HR5 : Hid (In (w4.setCell ⟨b, 3, none⟩ (.pointer (some ⟨b2, 0, none⟩))) (AT.turnHigh (.node b1 k1 v1 (.node b2 k2 v2 l2 r2 d2) r1 d1))) := In.fr HI4.out (Fr.setCell w4 ⟨b, 3, none⟩ _ (S := (· = b)) rfl) (fun x hx h => nbr (h ▸ ((AT.perm_turnHigh _).mem_iff.1 hx)))
  clear HI HF hB4 hl4 hl3 hr3 c3 HB3 HM3 HF3 HF4 HI4
  go_wp2_with fail
  clear c4 cf4
  generalize (w4.setCell ⟨b, 3, none⟩ (.pointer (some ⟨b2, 0, none⟩))) = w5 at *
  refine (turnLow b k v l b2 k2 v2 l2 (AT.mk b1 k1 v1 r2 r1) _ _ w5 ⟨HB5.out, HL5.out, HR5.out⟩ ?_ wl wd3 (AT.wd_mk wd4 wd2) ?_).mono ?_
  · have hp := (AT.perm_turnHigh (.node b1 k1 v1 (.node b2 k2 v2 l2 r2 d2) r1 d1)).nodup_iff.2 ndr2.out
    have hm := fun x => (AT.perm_turnHigh (.node b1 k1 v1 (.node b2 k2 v2 l2 r2 d2) r1 d1)).mem_iff (a := x)
    rw [AT.turnHigh_node] at hp hm
    show (b :: (l.fp ++ (AT.mk b2 k2 v2 l2 (AT.mk b1 k1 v1 r2 r1)).fp)).Nodup
    simp only [List.nodup_cons, List.mem_append, not_or, List.nodup_append]
    exact ⟨⟨nbl, fun h => nbr ((hm b).1 h)⟩, ndl, hp, fun x hx y hy => ndx x hx y ((hm y).1 hy)⟩
  · simp only [AT.mk, AT.size]; omega
  rintro e w6 ⟨rfl, HI, HF⟩
  have HI6 := Lib.hid HI; have HF6 := Lib.hid HF
  clear HI HF
  go_wp2_with fail
  go_ret
  refine ⟨rfl, HI6.out, HF5.out.trans HF6.out (fun i _ h => by rcases h with h | h | h <;> rw [h] <;> simp [AT.fp]) (fun i _ h => by rcases h with h | h <;> rw [h] <;> simp [AT.fp])⟩

set_option maxRecDepth 100000 in
theorem level_lo (b : Nat) (k : ByteArray) (v : Int) (l r : AT ByteArray Int) (d : Int) (w : World)
    (h : In w (.node b k v l r d)) (nd : (AT.node b k v l r d).fp.Nodup) (wl : l.wd) (wr : r.wd) (sz : l.size + r.size < 1152921504606846976) (e1 : r.dep - l.dep = -2) (e2 : ¬ 0 < l.lean) :
    Calls Try.prog 157 #[.pointer (some ⟨b, 0, none⟩)] w fun e w' => e = .returned (.pointer (AT.level b k v l r).adr) ∧ In w' (AT.level b k v l r) ∧ Fr (fun x => x ∈ (AT.node b k v l r d).fp) w w' := by
  have hlev : AT.level b k v l r = AT.turnHigh (AT.mk b k v l r) := by rw [AT.level, if_neg (by omega), if_pos e1, if_neg e2]
  have t1 : ((r.dep - l.dep) == 2) = false := beq_eq_false_iff_ne.2 (by omega)
  have t2 : ((r.dep - l.dep) == -2) = true := beq_iff_eq.2 e1
  have r0 := wr.dep0
  rw [hlev]
  clear hlev
  cases l with
  | nil => rw [AT.dep_nil] at e1; omega
  | node b1 k1 v1 l1 r1 d1 =>
  obtain ⟨wd1, wd2, wd3⟩ := id wl
  have E1 := Lib.hid e1
  rw [AT.lean_node] at e2
  have e3 : r1.dep - l1.dep ≤ 0 := by omega
  have F0 := wd1.dep0; have F1 := wd1.dep_le; have F2 := wd2.dep0; have F3 := wd2.dep_le
  have S1 : (AT.node b1 k1 v1 l1 r1 d1).size = l1.size + r1.size + 1 := rfl
  have sz' : r.size + l1.size + r1.size < 1152921504606846976 := by omega
  clear wd3 e1
  obtain ⟨hb, hl, hr⟩ := h
  have nd0 := Lib.hid nd
  obtain ⟨nbl, nbr, ndl, ndr, ndx⟩ := AT.nodup_node.1 nd
  clear nd
  have D0 := wl.dep0; have D1 := wl.dep_le; have D2 := wr.dep0; have D3 := wr.dep_le
  have HB := Lib.hid hb
  clear hb
  go_enter Try.func157, Try.ntmps157
  go_wp2_with fail
  refine (measure b k v (AT.node b1 k1 v1 l1 r1 d1) r d w HB.out hl hr (by omega) (by omega) (by omega) (by omega)).mono ?_
  rintro e w1 ⟨rfl, hB1, hF1⟩
  have hl1 : In w1 (AT.node b1 k1 v1 l1 r1 d1) := In.fr hl hF1 (fun x hx e => nbl (e ▸ hx))
  have hr1 : In w1 r := In.fr hr hF1 (fun x hx e => nbr (e ▸ hx))
  have hm1 : In w1 (.node b k v (AT.node b1 k1 v1 l1 r1 d1) r (1 + max (AT.node b1 k1 v1 l1 r1 d1).dep r.dep)) := ⟨hB1, hl1, hr1⟩
  have HF1 := Lib.hid hF1
  clear hF1 hB1 hl hr HB
  go_wp2_with fail
  refine (lean b k v (AT.node b1 k1 v1 l1 r1 d1) r _ w1 hm1 (by omega) (by omega) (by omega) (by omega)).mono ?_
  rintro e w2 ⟨rfl, rfl⟩
  have HF2 : Hid (Fr (· = b) w w1.drew) := HF1.out.trans (Fr.drew (fun _ => False) _) (fun _ _ h => h) (fun _ _ h => h.elim)
  have hm2 : In w1.drew (.node b k v (AT.node b1 k1 v1 l1 r1 d1) r (1 + max (AT.node b1 k1 v1 l1 r1 d1).dep r.dep)) := In.fr hm1 (Fr.drew (fun _ => False) _) (fun _ _ h => h)
  clear HF1 hl1 hr1 hm1
  generalize w1.drew = w2 at *
  clear w1
  have hm3 := Lib.hid hm2
  obtain ⟨hb2, hl2, hr2⟩ := hm2
  rw [AT.adr_node] at hb2
  obtain ⟨-, c3, -, -, -⟩ := cells hb2
  clear hb2 S1
  go_wp2_with fail
  refine (lean b1 k1 v1 l1 r1 d1 w2 hl2 (by omega) (by omega) (by omega) (by omega)).mono ?_
  rintro e w3 ⟨rfl, rfl⟩
  have HF3 : Hid (Fr (· = b) w w2.drew) := HF2.out.trans (Fr.drew (fun _ => False) _) (fun _ _ h => h) (fun _ _ h => h.elim)
  have HM3 : Hid (In w2.drew (.node b k v (AT.node b1 k1 v1 l1 r1 d1) r (1 + max (AT.node b1 k1 v1 l1 r1 d1).dep r.dep))) := In.fr hm3.out (Fr.drew (fun _ => False) _) (fun _ _ h => h)
  clear HF2 hm3 hl2 hr2 c3
  generalize w2.drew = w3 at *
  clear w2
  go_wp2_with fail
  refine (turnHigh b k v b1 k1 v1 l1 r1 d1 r _ w3 HM3.out (nd0.out) wr wd1 wd2 (by omega)).mono ?_
  rintro e w4 ⟨rfl, HI, HF⟩
  have HI4 := Lib.hid HI; have HF4 := Lib.hid HF
  clear HI HF
  go_wp2_with fail
  go_ret
  refine ⟨rfl, HI4.out, HF3.out.trans HF4.out (fun i _ h => by rw [h]; simp [AT.fp]) (fun i _ h => by rcases h with h | h <;> rw [h] <;> simp [AT.fp])⟩

set_option maxRecDepth 100000 in
theorem level_lohi (b : Nat) (k : ByteArray) (v : Int) (l r : AT ByteArray Int) (d : Int) (w : World)
    (h : In w (.node b k v l r d)) (nd : (AT.node b k v l r d).fp.Nodup) (wl : l.wd) (wr : r.wd) (sz : l.size + r.size < 1152921504606846976) (e1 : r.dep - l.dep = -2) (e2 : 0 < l.lean) :
    Calls Try.prog 157 #[.pointer (some ⟨b, 0, none⟩)] w fun e w' => e = .returned (.pointer (AT.level b k v l r).adr) ∧ In w' (AT.level b k v l r) ∧ Fr (fun x => x ∈ (AT.node b k v l r d).fp) w w' := by
  have hlev : AT.level b k v l r = AT.turnHigh (AT.mk b k v (AT.turnLow l) r) := by rw [AT.level, if_neg (by omega), if_pos e1, if_pos e2]
  have t1 : ((r.dep - l.dep) == 2) = false := beq_eq_false_iff_ne.2 (by omega)
  have t2 : ((r.dep - l.dep) == -2) = true := beq_iff_eq.2 e1
  have r0 := wr.dep0
  rw [hlev]
  clear hlev
  cases l with
  | nil => rw [AT.dep_nil] at e1; omega
  | node b1 k1 v1 l1 r1 d1 =>
  obtain ⟨wd1, wd2, wd3⟩ := id wl
  have E1 := Lib.hid e1
  rw [AT.lean_node] at e2
  have F0 := wd1.dep0; have F1 := wd1.dep_le; have F2 := wd2.dep0; have F3 := wd2.dep_le
  have S1 : (AT.node b1 k1 v1 l1 r1 d1).size = l1.size + r1.size + 1 := rfl
  have sz' : r.size + l1.size + r1.size < 1152921504606846976 := by omega
  clear wd3 e1
  obtain ⟨hb, hl, hr⟩ := h
  have nd0 := Lib.hid nd
  obtain ⟨nbl, nbr, ndl, ndr, ndx⟩ := AT.nodup_node.1 nd
  clear nd
  have D0 := wl.dep0; have D1 := wl.dep_le; have D2 := wr.dep0; have D3 := wr.dep_le
  have HB := Lib.hid hb
  clear hb
  go_enter Try.func157, Try.ntmps157
  go_wp2_with fail
  refine (measure b k v (AT.node b1 k1 v1 l1 r1 d1) r d w HB.out hl hr (by omega) (by omega) (by omega) (by omega)).mono ?_
  rintro e w1 ⟨rfl, hB1, hF1⟩
  have hl1 : In w1 (AT.node b1 k1 v1 l1 r1 d1) := In.fr hl hF1 (fun x hx e => nbl (e ▸ hx))
  have hr1 : In w1 r := In.fr hr hF1 (fun x hx e => nbr (e ▸ hx))
  have hm1 : In w1 (.node b k v (AT.node b1 k1 v1 l1 r1 d1) r (1 + max (AT.node b1 k1 v1 l1 r1 d1).dep r.dep)) := ⟨hB1, hl1, hr1⟩
  have HF1 := Lib.hid hF1
  clear hF1 hB1 hl hr HB
  go_wp2_with fail
  refine (lean b k v (AT.node b1 k1 v1 l1 r1 d1) r _ w1 hm1 (by omega) (by omega) (by omega) (by omega)).mono ?_
  rintro e w2 ⟨rfl, rfl⟩
  have HF2 : Hid (Fr (· = b) w w1.drew) := HF1.out.trans (Fr.drew (fun _ => False) _) (fun _ _ h => h) (fun _ _ h => h.elim)
  have hm2 : In w1.drew (.node b k v (AT.node b1 k1 v1 l1 r1 d1) r (1 + max (AT.node b1 k1 v1 l1 r1 d1).dep r.dep)) := In.fr hm1 (Fr.drew (fun _ => False) _) (fun _ _ h => h)
  clear HF1 hl1 hr1 hm1
  generalize w1.drew = w2 at *
  clear w1
  have hm3 := Lib.hid hm2
  obtain ⟨hb2, hl2, hr2⟩ := hm2
  rw [AT.adr_node] at hb2
  obtain ⟨-, c3, -, -, -⟩ := cells hb2
  clear hb2 S1
  go_wp2_with fail
  refine (lean b1 k1 v1 l1 r1 d1 w2 hl2 (by omega) (by omega) (by omega) (by omega)).mono ?_
  rintro e w3 ⟨rfl, rfl⟩
  have HF3 : Hid (Fr (· = b) w w2.drew) := HF2.out.trans (Fr.drew (fun _ => False) _) (fun _ _ h => h) (fun _ _ h => h.elim)
  have HM3 : Hid (In w2.drew (.node b k v (AT.node b1 k1 v1 l1 r1 d1) r (1 + max (AT.node b1 k1 v1 l1 r1 d1).dep r.dep))) := In.fr hm3.out (Fr.drew (fun _ => False) _) (fun _ _ h => h)
  clear HF2 hm3 hl2 hr2 c3
  generalize w2.drew = w3 at *
  clear w2
  cases r1 with
  | nil => rw [AT.dep_nil] at e2; omega
  | node b2 k2 v2 l2 r2 d2 =>
  obtain ⟨wd3, wd4, wd5⟩ := id wd2
  have G0 := wd3.dep0; have G1 := wd3.dep_le; have G2 := wd4.dep0; have G3 := wd4.dep_le
  have S2 : (AT.node b2 k2 v2 l2 r2 d2).size = l2.size + r2.size + 1 := rfl
  have sz2 : r.size + l2.size + r2.size + l1.size < 1152921504606846976 := by omega
  clear S2 wd5
  obtain ⟨hb3, hl3, hr3⟩ := HM3.out
  rw [AT.adr_node] at hb3
  obtain ⟨-, c3, -, -, -⟩ := cells hb3
  have HB3 := Lib.hid hb3
  clear hb3
  have ndl2 := Lib.hid ndl
  go_wp2_with fail
  refine (turnLow b1 k1 v1 l1 b2 k2 v2 l2 r2 d2 d1 w3 hl3 ndl2.out wd1 wd3 wd4 (by omega)).mono ?_
  rintro e w4 ⟨rfl, HI, HF⟩
  have nb1 : b ≠ b1 := fun e => nbl (by rw [e]; simp [AT.fp])
  have nb2 : b ≠ b2 := fun e => nbl (by rw [e]; simp [AT.fp])
  have hB4 := (HF.block b (lt_of_heap HB3.out) (fun h => h.elim nb1 nb2)).trans HB3.out
  have hr4 : In w4 r := In.fr hr3 HF (fun x hx h => by rcases h with h | h <;> exact ndx x (by rw [h]; simp [AT.fp]) x hx rfl)
  have HI4 := Lib.hid HI; have HF4 := Lib.hid (HF3.out.trans HF (T := fun x => x = b ∨ x = b1 ∨ x = b2) (fun i _ h => .inl h) (fun i _ h => .inr h))
  obtain ⟨-, c4, -, -, cf4⟩ := cells hB4
  have HB5 := Lib.hid (set_lo hB4 (some ⟨b2, 0, none⟩))
  have HF5 : Hid (Fr (fun x => x = b ∨ x = b1 ∨ x = b2) w (w4.setCell ⟨b, 2, none⟩ (.pointer (some ⟨b2, 0, none⟩)))) := HF4.out.trans (Fr.setCell w4 ⟨b, 2, none⟩ _ (S := (· = b)) rfl) (fun i _ h => h) (fun i _ h => .inl h)
  have HR5 : Hid (In (w4.setCell ⟨b, 2, none⟩ (.pointer (some ⟨b2, 0, none⟩))) r) := In.fr hr4 (Fr.setCell w4 ⟨b, 2, none⟩ _ (S := (· = b)) rfl) (fun x hx h => nbr (h ▸ hx))
  have HL5 : Hid (In (w4.setCell ⟨b, 2, none⟩ (.pointer (some ⟨b2, 0, none⟩))) (AT.turnLow (.node b1 k1 v1 l1 (.node b2 k2 v2 l2 r2 d2) d1))) := In.fr HI4.out (Fr.setCell w4 ⟨b, 2, none⟩ _ (S := (· = b)) rfl) (fun x hx h => nbl (h ▸ ((AT.perm_turnLow _).mem_iff.1 hx)))
  clear HI HF hB4 hr4 hl3 hr3 c3 HB3 HM3 HF3 HF4 HI4
  go_wp2_with fail
  clear c4 cf4
  generalize (w4.setCell ⟨b, 2, none⟩ (.pointer (some ⟨b2, 0, none⟩))) = w5 at *
  refine (turnHigh b k v b2 k2 v2 (AT.mk b1 k1 v1 l1 l2) r2 _ r _ w5 ⟨HB5.out, HL5.out, HR5.out⟩ ?_ wr (AT.wd_mk wd1 wd3) wd4 ?_).mono ?_
  · have hp := (AT.perm_turnLow (.node b1 k1 v1 l1 (.node b2 k2 v2 l2 r2 d2) d1)).nodup_iff.2 ndl2.out
    have hm := fun x => (AT.perm_turnLow (.node b1 k1 v1 l1 (.node b2 k2 v2 l2 r2 d2) d1)).mem_iff (a := x)
    rw [AT.turnLow_node] at hp hm
    show (b :: ((AT.mk b2 k2 v2 (AT.mk b1 k1 v1 l1 l2) r2).fp ++ r.fp)).Nodup
    rw [List.nodup_cons, List.mem_append, not_or, List.nodup_append]
    exact ⟨⟨fun h => nbl ((hm b).1 h), nbr⟩, hp, ndr, fun x hx y hy => ndx x ((hm x).1 hx) y hy⟩
  · simp only [AT.mk, AT.size]; omega
  rintro e w6 ⟨rfl, HI, HF⟩
  have HI6 := Lib.hid HI; have HF6 := Lib.hid HF
  clear HI HF
  go_wp2_with fail
  go_ret
  refine ⟨rfl, HI6.out, HF5.out.trans HF6.out (fun i _ h => by rcases h with h | h | h <;> rw [h] <;> simp [AT.fp]) (fun i _ h => by rcases h with h | h <;> rw [h] <;> simp [AT.fp])⟩

theorem level (b : Nat) (k : ByteArray) (v : Int) (l r : AT ByteArray Int) (d : Int) (w : World)
    (h : In w (.node b k v l r d)) (nd : (AT.node b k v l r d).fp.Nodup) (wl : l.wd) (wr : r.wd) (sz : l.size + r.size < 1152921504606846976) :
    Calls Try.prog 157 #[.pointer (some ⟨b, 0, none⟩)] w fun e w' => e = .returned (.pointer (AT.level b k v l r).adr) ∧ In w' (AT.level b k v l r) ∧ Fr (fun x => x ∈ (AT.node b k v l r d).fp) w w' := by
  by_cases e1 : r.dep - l.dep = 2
  · by_cases e2 : r.lean < 0
    · exact level_hilo b k v l r d w h nd wl wr sz e1 e2
    · exact level_hi b k v l r d w h nd wl wr sz e1 e2
  · by_cases e3 : r.dep - l.dep = -2
    · by_cases e2 : 0 < l.lean
      · exact level_lohi b k v l r d w h nd wl wr sz e3 e2
      · exact level_lo b k v l r d w h nd wl wr sz e3 e2
    · exact level_else b k v l r d w h nd wl wr sz e1 e3

end AvlSI
end Go.Proofs.Ytkhhdadlpilbmaa
