/- The maps in order (avl) at one instance: turning, levelling. -/
import Derived.Test.YtkhhdadlpilbmaaAvlASI
namespace Go.Proofs.Ytkhhdadlpilbmaa
open Go.RowKit
namespace AvlSI

theorem heap_other {w : World} {a : Addr} {u : Value} {b : Nat} {o : Obj} (h : w.heap[b]? = some o) (hne : b ≠ a.block) : (w.setCell a u).heap[b]? = some o := (Below.heap_setCell _ _ _ _ hne).trans h
theorem set_lo {w : World} {b : Nat} {k : ByteArray} {v : Int} {l r : Option Addr} {d : Int} (h : w.heap[b]? = some (.cells (blk k v l r d) 172 (0, 0))) (u : Option Addr) :
    (w.setCell ⟨b, 2, none⟩ (.pointer u)).heap[b]? = some (.cells (blk k v u r d) 172 (0, 0)) := heap_setCell_same h _
theorem set_hi {w : World} {b : Nat} {k : ByteArray} {v : Int} {l r : Option Addr} {d : Int} (h : w.heap[b]? = some (.cells (blk k v l r d) 172 (0, 0))) (u : Option Addr) :
    (w.setCell ⟨b, 3, none⟩ (.pointer u)).heap[b]? = some (.cells (blk k v l u d) 172 (0, 0)) := heap_setCell_same h _

set_option maxRecDepth 100000 in
theorem turnLow (b : Nat) (k : ByteArray) (v : Int) (l : AT ByteArray Int) (b' : Nat) (k' : ByteArray) (v' : Int) (l' r' : AT ByteArray Int) (d' d : Int) (w : World)
    (h : In w (.node b k v l (.node b' k' v' l' r' d') d)) (nd : (AT.node b k v l (.node b' k' v' l' r' d') d).fp.Nodup) (wl : l.wd) (wl' : l'.wd) (wr' : r'.wd) (sz : l.size + l'.size + r'.size < 2305843009213693952) :
    Calls Try.prog 177 #[.pointer (some ⟨b, 0, none⟩)] w fun e w' => e = .returned (.pointer (some ⟨b', 0, none⟩)) ∧
      In w' (AT.turnLow (.node b k v l (.node b' k' v' l' r' d') d)) ∧ Fr (fun x => x = b ∨ x = b') w w' := by
  rw [AT.turnLow_node]
  obtain ⟨hb, hl, hb', hl', hr'⟩ := h
  simp only [AT.fp, List.nodup_cons, List.mem_append, List.mem_cons, not_or, List.nodup_append] at nd
  obtain ⟨⟨nbl, nbb, nbl', nbr'⟩, ndl, ⟨⟨nbl2, nbr2⟩, ndl', ndr', ndlr⟩, ndx⟩ := nd
  have nb'l : b' ∉ l.fp := fun x => ndx b' x b' (.inl rfl) rfl
  have D0 := wl.dep0; have D1 := wl.dep_le; have D2 := wl'.dep0; have D3 := wl'.dep_le; have D4 := wr'.dep0; have D5 := wr'.dep_le
  rw [AT.adr_node] at hb
  obtain ⟨-, -, c3, -, cf⟩ := cells hb
  obtain ⟨-, c2', c3', -, cf'⟩ := cells hb'
  -- the world behind the two stores
  have hf1 : Fr (fun x => x = b ∨ x = b') w ((w.setCell ⟨b, 3, none⟩ (.pointer l'.adr)).setCell ⟨b', 2, none⟩ (.pointer (some ⟨b, 0, none⟩))) :=
    (Fr.setCell w ⟨b, 3, none⟩ _ (S := fun x => x = b ∨ x = b') (.inl rfl)).trans (Fr.setCell _ ⟨b', 2, none⟩ _ (S := fun x => x = b ∨ x = b') (.inr rfl)) (fun _ _ h => h) (fun _ _ h => h)
  have hB1 : ((w.setCell ⟨b, 3, none⟩ (.pointer l'.adr)).setCell ⟨b', 2, none⟩ (.pointer (some ⟨b, 0, none⟩))).heap[b]? = some (.cells (blk k v l.adr l'.adr d) 172 (0, 0)) := heap_other (set_hi hb _) nbb
  have hB1' : ((w.setCell ⟨b, 3, none⟩ (.pointer l'.adr)).setCell ⟨b', 2, none⟩ (.pointer (some ⟨b, 0, none⟩))).heap[b']? = some (.cells (blk k' v' (some ⟨b, 0, none⟩) r'.adr d') 172 (0, 0)) := set_lo (heap_other hb' (Ne.symm nbb)) _
  have HF1 := Lib.hid hf1; have HB1 := Lib.hid hB1; have HB1' := Lib.hid hB1'
  clear hf1 hB1 hB1' hb hb'
  go_enter Try.func177, Try.ntmps177
  go_wp2_with fail
  refine (measure b k v l l' d _ HB1.out (In.fr hl HF1.out (fun x hx h => h.elim (fun e => nbl (e ▸ hx)) (fun e => nb'l (e ▸ hx)))) (In.fr hl' HF1.out (fun x hx h => h.elim (fun e => nbl' (e ▸ hx)) (fun e => nbl2 (e ▸ hx)))) (by omega) (by omega) (by omega) (by omega)).mono ?_
  rintro e w2 ⟨rfl, hB2, hF2⟩
  have hB2' := (hF2.block b' (lt_of_heap HB1'.out) (Ne.symm nbb)).trans HB1'.out
  have hF12 := HF1.out.trans hF2 (T := fun x => x = b ∨ x = b') (fun _ _ h => h) (fun _ _ h => .inl h)
  have il2 : In w2 l := In.fr hl hF12 (fun x hx h => h.elim (fun e => nbl (e ▸ hx)) (fun e => nb'l (e ▸ hx)))
  have il2' : In w2 l' := In.fr hl' hF12 (fun x hx h => h.elim (fun e => nbl' (e ▸ hx)) (fun e => nbl2 (e ▸ hx)))
  have ir2' : In w2 r' := In.fr hr' hF12 (fun x hx h => h.elim (fun e => nbr' (e ▸ hx)) (fun e => nbr2 (e ▸ hx)))
  have HB2 := Lib.hid hB2; have HB2' := Lib.hid hB2'; have HF12 := Lib.hid hF12
  clear hB2 hB2' hF12 hF2 HF1 HB1 HB1' c3 cf c2' c3' cf' hl hl' hr'
  have im : In w2 (AT.mk b k v l l') := ⟨HB2.out, il2, il2'⟩
  go_wp2_with fail
  refine (measure b' k' v' (AT.mk b k v l l') r' d' w2 HB2'.out im ir2' (by rw [AT.dep_mk]; omega) (by rw [AT.dep_mk]; omega) (by omega) (by omega)).mono ?_
  rintro e w3 ⟨rfl, hB3, hF3⟩
  have HB3 := Lib.hid hB3; have HF3 := Lib.hid hF3
  clear hB3 hF3
  go_wp2_with fail
  go_ret
  refine ⟨rfl, ⟨HB3.out, In.fr im HF3.out ?_, In.fr ir2' HF3.out ?_⟩, HF12.out.trans HF3.out (fun _ _ h => h) (fun _ _ h => .inr h)⟩
  · intro x hx e
    subst e
    simp only [AT.mk, AT.fp, List.mem_cons, List.mem_append] at hx
    rcases hx with e | hx | hx
    · exact nbb e.symm
    · exact nb'l hx
    · exact nbl2 hx
  · intro x hx e
    subst e
    exact nbr2 hx

set_option maxRecDepth 100000 in
theorem turnHigh (b : Nat) (k : ByteArray) (v : Int) (b' : Nat) (k' : ByteArray) (v' : Int) (l' r' : AT ByteArray Int) (d' : Int) (r : AT ByteArray Int) (d : Int) (w : World)
    (h : In w (.node b k v (.node b' k' v' l' r' d') r d)) (nd : (AT.node b k v (.node b' k' v' l' r' d') r d).fp.Nodup) (wr : r.wd) (wl' : l'.wd) (wr' : r'.wd) (sz : r.size + l'.size + r'.size < 2305843009213693952) :
    Calls Try.prog 176 #[.pointer (some ⟨b, 0, none⟩)] w fun e w' => e = .returned (.pointer (some ⟨b', 0, none⟩)) ∧
      In w' (AT.turnHigh (.node b k v (.node b' k' v' l' r' d') r d)) ∧ Fr (fun x => x = b ∨ x = b') w w' := by
  rw [AT.turnHigh_node]
  obtain ⟨hb, ⟨hb', hl', hr'⟩, hr⟩ := h
  simp only [AT.fp, List.nodup_cons, List.mem_append, List.mem_cons, not_or, List.nodup_append] at nd
  obtain ⟨⟨⟨nbb, nbl', nbr'⟩, nbr⟩, ⟨⟨nbl2, nbr2⟩, ndl', ndr', ndlr⟩, ndr, ndx⟩ := nd
  have nb'r : b' ∉ r.fp := fun x => ndx b' (.inl rfl) b' x rfl
  have D0 := wr.dep0; have D1 := wr.dep_le; have D2 := wl'.dep0; have D3 := wl'.dep_le; have D4 := wr'.dep0; have D5 := wr'.dep_le
  rw [AT.adr_node] at hb
  obtain ⟨-, c2, -, -, cf⟩ := cells hb
  obtain ⟨-, c2', c3', -, cf'⟩ := cells hb'
  have hf1 : Fr (fun x => x = b ∨ x = b') w ((w.setCell ⟨b, 2, none⟩ (.pointer r'.adr)).setCell ⟨b', 3, none⟩ (.pointer (some ⟨b, 0, none⟩))) :=
    (Fr.setCell w ⟨b, 2, none⟩ _ (S := fun x => x = b ∨ x = b') (.inl rfl)).trans (Fr.setCell _ ⟨b', 3, none⟩ _ (S := fun x => x = b ∨ x = b') (.inr rfl)) (fun _ _ h => h) (fun _ _ h => h)
  have hB1 : ((w.setCell ⟨b, 2, none⟩ (.pointer r'.adr)).setCell ⟨b', 3, none⟩ (.pointer (some ⟨b, 0, none⟩))).heap[b]? = some (.cells (blk k v r'.adr r.adr d) 172 (0, 0)) := heap_other (set_lo hb _) nbb
  have hB1' : ((w.setCell ⟨b, 2, none⟩ (.pointer r'.adr)).setCell ⟨b', 3, none⟩ (.pointer (some ⟨b, 0, none⟩))).heap[b']? = some (.cells (blk k' v' l'.adr (some ⟨b, 0, none⟩) d') 172 (0, 0)) := set_hi (heap_other hb' (Ne.symm nbb)) _
  have HF1 := Lib.hid hf1; have HB1 := Lib.hid hB1; have HB1' := Lib.hid hB1'
  clear hf1 hB1 hB1' hb hb'
  go_enter Try.func176, Try.ntmps176
  go_wp2_with fail
  refine (measure b k v r' r d _ HB1.out (In.fr hr' HF1.out (fun x hx h => h.elim (fun e => nbr' (e ▸ hx)) (fun e => nbr2 (e ▸ hx)))) (In.fr hr HF1.out (fun x hx h => h.elim (fun e => nbr (e ▸ hx)) (fun e => nb'r (e ▸ hx)))) (by omega) (by omega) (by omega) (by omega)).mono ?_
  rintro e w2 ⟨rfl, hB2, hF2⟩
  have hB2' := (hF2.block b' (lt_of_heap HB1'.out) (Ne.symm nbb)).trans HB1'.out
  have hF12 := HF1.out.trans hF2 (T := fun x => x = b ∨ x = b') (fun _ _ h => h) (fun _ _ h => .inl h)
  have ir2 : In w2 r := In.fr hr hF12 (fun x hx h => h.elim (fun e => nbr (e ▸ hx)) (fun e => nb'r (e ▸ hx)))
  have il2' : In w2 l' := In.fr hl' hF12 (fun x hx h => h.elim (fun e => nbl' (e ▸ hx)) (fun e => nbl2 (e ▸ hx)))
  have ir2' : In w2 r' := In.fr hr' hF12 (fun x hx h => h.elim (fun e => nbr' (e ▸ hx)) (fun e => nbr2 (e ▸ hx)))
  have HB2 := Lib.hid hB2; have HB2' := Lib.hid hB2'; have HF12 := Lib.hid hF12
  clear hB2 hB2' hF12 hF2 HF1 HB1 HB1' c2 cf c2' c3' cf' hr hl' hr'
  have im : In w2 (AT.mk b k v r' r) := ⟨HB2.out, ir2', ir2⟩
  go_wp2_with fail
  refine (measure b' k' v' l' (AT.mk b k v r' r) d' w2 HB2'.out il2' im (by omega) (by omega) (by rw [AT.dep_mk]; omega) (by rw [AT.dep_mk]; omega)).mono ?_
  rintro e w3 ⟨rfl, hB3, hF3⟩
  have HB3 := Lib.hid hB3; have HF3 := Lib.hid hF3
  clear hB3 hF3
  go_wp2_with fail
  go_ret
  refine ⟨rfl, ⟨HB3.out, In.fr il2' HF3.out ?_, In.fr im HF3.out ?_⟩, HF12.out.trans HF3.out (fun _ _ h => h) (fun _ _ h => .inr h)⟩
  · intro x hx e
    subst e
    exact nbl2 hx
  · intro x hx e
    subst e
    simp only [AT.mk, AT.fp, List.mem_cons, List.mem_append] at hx
    rcases hx with e | hx | hx
    · exact nbb e.symm
    · exact nbr2 hx
    · exact nb'r hx

end AvlSI
end Go.Proofs.Ytkhhdadlpilbmaa
