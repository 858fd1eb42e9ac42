/- The maps in order (avl) at one instance: the least key; dropping. -/
import Derived.Test.YtkhhdadlpilbmaaAvlDSI
namespace Go.Proofs.Ytkhhdadlpilbmaa
open Go.RowKit
namespace AvlSI

/-- What a call of least comes to. -/
def LeastPost (t : AT ByteArray Int) (w : World) (e : Ending) (w' : World) : Prop :=
  ∃ (b2 : Nat) (k2 : ByteArray) (v2 : Int) (l2 r2 : Option Addr) (d2 : Int), t.first = some (b2, k2, v2) ∧ e = .returned (.tuple #[.pointer t.rest.adr, .pointer (some ⟨b2, 0, none⟩)]) ∧ In w' t.rest ∧
    w'.heap[b2]? = some (.cells (blk k2 v2 l2 r2 d2) 172 (0, 0)) ∧ Fr (fun x => x ∈ t.fp) w w'

set_option maxRecDepth 100000 in
theorem least_nil (b : Nat) (k : ByteArray) (v : Int) (r : AT ByteArray Int) (d : Int) (w : World) (h : In w (.node b k v .nil r d)) :
    Calls Try.prog 156 #[.pointer (some ⟨b, 0, none⟩)] w (LeastPost (.node b k v .nil r d) w) := by
  obtain ⟨hb, hl, hr⟩ := h
  rw [AT.adr_nil] at hb
  obtain ⟨-, c2, c3, -, -⟩ := cells hb
  have HB := Lib.hid hb
  clear hb
  go_enter Try.func156, Try.ntmps156
  go_wp2_with fail
  go_ret2
  exact ⟨b, k, v, _, _, _, rfl, rfl, hr, HB.out, Fr.refl _ _⟩

theorem rest_size {t : AT ByteArray Int} {b : Nat} {k : ByteArray} {v : Int} (h : t.first = some (b, k, v)) : t.rest.size + 1 = t.size := by
  have := (AT.perm_rest h).length_eq
  rw [List.length_cons, AT.fp_length, AT.fp_length] at this
  exact this
theorem rest_nodup {t : AT ByteArray Int} {b : Nat} {k : ByteArray} {v : Int} (h : t.first = some (b, k, v)) (nd : t.fp.Nodup) : b ∉ t.rest.fp ∧ t.rest.fp.Nodup ∧ b ∈ t.fp ∧ ∀ x ∈ t.rest.fp, x ∈ t.fp := by
  have hp := AT.perm_rest h
  have := hp.nodup_iff.2 nd
  rw [List.nodup_cons] at this
  exact ⟨this.1, this.2, hp.mem_iff.1 (by simp), fun x hx => hp.mem_iff.1 (by simp [hx])⟩

set_option maxRecDepth 100000 in
theorem least_node (b : Nat) (k : ByteArray) (v : Int) (b' : Nat) (k' : ByteArray) (v' : Int) (l' r' : AT ByteArray Int) (d' : Int) (r : AT ByteArray Int) (d : Int) (w : World)
    (h : In w (.node b k v (.node b' k' v' l' r' d') r d)) (nd : (AT.node b k v (.node b' k' v' l' r' d') r d).fp.Nodup) (wl : (AT.node b' k' v' l' r' d').wd) (wr : r.wd) (sz : (AT.node b' k' v' l' r' d').size + r.size < 576460752303423488)
    (ih : Calls Try.prog 156 #[.pointer (some ⟨b', 0, none⟩)] w (LeastPost (.node b' k' v' l' r' d') w)) :
    Calls Try.prog 156 #[.pointer (some ⟨b, 0, none⟩)] w (LeastPost (.node b k v (.node b' k' v' l' r' d') r d) w) := by
  have hres : (AT.node b k v (.node b' k' v' l' r' d') r d).rest = AT.level b k v (AT.node b' k' v' l' r' d').rest r := by rw [AT.rest]
  have hfst : (AT.node b k v (.node b' k' v' l' r' d') r d).first = (AT.node b' k' v' l' r' d').first := by rw [AT.first]
  have HR := Lib.hid hres; have HFS := Lib.hid hfst; have IH := Lib.hid ih; have ND := Lib.hid nd
  obtain ⟨nbl, nbr, ndl, ndr, ndx⟩ := AT.nodup_node.1 nd
  clear hres hfst ih nd
  obtain ⟨hb, hl, hr⟩ := h
  rw [AT.adr_node] at hb
  generalize hY : (AT.node b' k' v' l' r' d') = l at *
  obtain ⟨-, c2, c3, -, -⟩ := cells hb
  have HB := Lib.hid hb
  have hbw := lt_of_heap hb
  clear hb hY
  go_enter Try.func156, Try.ntmps156
  go_wp2_with fail
  refine IH.out.mono ?_
  rintro e w1 ⟨b2, k2, v2, l2, r2, d2, h1, rfl, h3, h4, hF⟩
  have hB1 := (hF.block b hbw nbl).trans HB.out
  have hr1 : In w1 r := In.fr hr hF (fun x hx h => ndx x h x hx rfl)
  have hsz := rest_size h1
  have hsz' : l.rest.size ≤ l.size := by omega
  have HN := Lib.hid (rest_nodup h1 ndl)
  obtain ⟨-, c2', -, -, cf'⟩ := cells hB1
  have HB2 := Lib.hid (set_lo hB1 l.rest.adr)
  have hfx := Fr.setCell w1 ⟨b, 2, none⟩ (.pointer l.rest.adr) (S := (· = b)) rfl
  have nbL : b ∉ l.rest.fp := fun x => nbl (HN.out.2.2.2 b x)
  have hI2 := Lib.hid (In.fr h3 hfx (fun x hx e => nbL (e ▸ hx)))
  have hr2 := Lib.hid (In.fr hr1 hfx (fun x hx e => nbr (e ▸ hx)))
  have hn2 : b2 ≠ b := fun e => nbl (e ▸ HN.out.2.2.1)
  have h42 := Lib.hid ((hfx.block b2 (lt_of_heap h4) hn2).trans h4)
  have HF2 := Lib.hid (hF.trans hfx (T := fun x => x ∈ (AT.node b k v l r d).fp) (fun i _ h => AT.mem_node.2 (.inr (.inl h))) (fun i _ h => AT.mem_node.2 (.inl h)))
  have ND2 : Hid ((AT.node b k v l.rest r d).fp.Nodup) := AT.nodup_node.2 ⟨nbL, nbr, HN.out.2.1, ndr, fun x hx y hy e => ndx x (HN.out.2.2.2 x hx) y hy e⟩
  have HW : Hid l.rest.wd := AT.wd_rest wl
  have H1 := Lib.hid h1
  clear h1 h3 h4 hF hB1 hr1 hfx c2 c3 hn2 hsz
  go_wp2_with fail
  clear c2' cf'
  generalize (w1.setCell ⟨b, 2, none⟩ (.pointer l.rest.adr)) = w2 at *
  refine (level b k v l.rest r d w2 ⟨HB2.out, hI2.out, hr2.out⟩ ND2.out HW.out wr (by omega)).mono ?_
  rintro e w3 ⟨rfl, HI, HF⟩
  have HI3 := Lib.hid HI; have HF3 := Lib.hid HF
  clear HI HF
  go_wp2_with fail
  go_ret2
  unfold LeastPost
  rw [HR.out, HFS.out]
  refine ⟨b2, k2, v2, _, _, _, H1.out, rfl, HI3.out, (HF3.out.block b2 (lt_of_heap h42.out) ?_).trans h42.out, HF2.out.trans HF3.out (fun i _ h => h) (fun i _ h => ?_)⟩
  · intro h
    rcases AT.mem_node.1 h with h | h | h
    · exact nbl (h ▸ HN.out.2.2.1)
    · exact HN.out.1 h
    · exact ndx b2 HN.out.2.2.1 b2 h rfl
  · rcases AT.mem_node.1 h with h | h | h
    · exact AT.mem_node.2 (.inl h)
    · exact AT.mem_node.2 (.inr (.inl (HN.out.2.2.2 i h)))
    · exact AT.mem_node.2 (.inr (.inr h))

theorem least : ∀ (t : AT ByteArray Int) (w : World), t ≠ .nil → In w t → t.fp.Nodup → t.wd → t.size < 288230376151711744 →
    Calls Try.prog 156 #[.pointer t.adr] w (LeastPost t w)
  | .nil, _, h, _, _, _, _ => absurd rfl h
  | .node b k v .nil r d, w, _, h, _, _, _ => least_nil b k v r d w h
  | .node b k v (.node b' k' v' l' r' d') r d, w, _, h, nd, wd, sz => by
    have sz' : (AT.node b' k' v' l' r' d').size + r.size < 288230376151711744 := by rw [AT.size] at sz; omega
    exact least_node b k v b' k' v' l' r' d' r d w h nd wd.1 wd.2.1 (by omega) (least (.node b' k' v' l' r' d') w (by simp) h.2.1 (AT.nodup_node.1 nd).2.2.1 wd.1 (by omega))

/-- What a call of drop comes to. -/
def DropPost (k : ByteArray) (t : AT ByteArray Int) (w : World) (e : Ending) (w' : World) : Prop :=
  e = .returned (.tuple #[.pointer (AT.drop k t).1.adr, .bool (AT.drop k t).2]) ∧ In w' (AT.drop k t).1 ∧ Fr (fun x => x ∈ t.fp) w w'
theorem drop_size (k : ByteArray) {t : AT ByteArray Int} (_ : t.fp.Nodup) : (AT.drop k t).1.size ≤ t.size := AT.size_drop k t

set_option maxRecDepth 100000 in
theorem drop_nil (k : ByteArray) (w : World) : Calls Try.prog 114 #[.pointer none, .string k] w (DropPost k .nil w) := by
  go_enter Try.func114, Try.ntmps114
  go_wp2_with fail
  go_ret2
  exact ⟨rfl, trivial, Fr.refl _ _⟩

set_option maxRecDepth 100000 in
theorem drop_low (k : ByteArray) (b : Nat) (k' : ByteArray) (v' : Int) (l r : AT ByteArray Int) (d : Int) (w : World)
    (h : In w (.node b k' v' l r d)) (nd : (AT.node b k' v' l r d).fp.Nodup) (wl : l.wd) (wr : r.wd) (sz : l.size + r.size < 576460752303423488)
    (ih : Calls Try.prog 114 #[.pointer l.adr, .string k] w (DropPost k l w)) (hlt : Ord.lt k k' = true) :
    Calls Try.prog 114 #[.pointer (some ⟨b, 0, none⟩), .string k] w (DropPost k (.node b k' v' l r d) w) := by
  have hput : AT.drop k (.node b k' v' l r d) = (AT.level b k' v' (AT.drop k l).1 r, (AT.drop k l).2) := by rw [AT.drop, if_pos hlt]
  have hlx := AT.sub_drop k (AT.nodup_node.1 nd).2.2.1
  have hsx := drop_size k (AT.nodup_node.1 nd).2.2.1
  have hwx : (AT.drop k l).1.wd := AT.wd_drop k wl
  have HP := Lib.hid hput; have HX := Lib.hid hlx; have HW := Lib.hid hwx
  clear hput hlx hwx
  have IH := Lib.hid ih
  clear ih
  obtain ⟨hb, hl, hr⟩ := h
  obtain ⟨nbl, nbr, ndl, ndr, ndx⟩ := AT.nodup_node.1 nd
  obtain ⟨c0, c2, c3, -, cf⟩ := cells hb
  have hbw := lt_of_heap hb
  have HB := Lib.hid hb; have ND := Lib.hid nd
  clear hb nd
  have thlt : Op.bytesLess k.toList k'.toList = true := hlt; have uhlt : Op.bytesLess k'.toList k.toList = false := Ord.asymm hlt; have yhlt : (k.toList == k'.toList) = false := Bl.ne hlt; have zhlt : (k'.toList == k.toList) = false := Bl.ne' hlt
  go_enter Try.func114, Try.ntmps114
  go_wp2_with fail
  refine IH.out.mono ?_
  rintro e w1 ⟨rfl, hI, hF⟩
  have hB1 := (hF.block b hbw nbl).trans HB.out
  have hr1 : In w1 r := In.fr hr hF (fun x hx h => ndx x h x hx rfl)
  obtain ⟨-, c2', -, -, cf'⟩ := cells hB1
  generalize (AT.drop k l).1 = L at *
  generalize (AT.drop k l).2 = q at *
  have HB2 := Lib.hid (set_lo hB1 L.adr)
  have hfx := Fr.setCell w1 ⟨b, 2, none⟩ (.pointer L.adr) (S := (· = b)) rfl
  have nbL : b ∉ L.fp := fun x => nbl (HX.out.2 b x)
  have hI2 := Lib.hid (In.fr hI hfx (fun x hx e => nbL (e ▸ hx)))
  have hr2 := Lib.hid (In.fr hr1 hfx (fun x hx e => nbr (e ▸ hx)))
  have HF2 := Lib.hid (hF.trans hfx (T := fun x => x ∈ (AT.node b k' v' l r d).fp) (fun i _ h => AT.mem_node.2 (.inr (.inl h))) (fun i _ h => AT.mem_node.2 (.inl h)))
  have ND2 : Hid ((AT.node b k' v' L r d).fp.Nodup) := AT.nodup_node.2 ⟨nbL, nbr, HX.out.1, ndr, fun x hx y hy e => ndx x (HX.out.2 x hx) y hy e⟩
  clear hI hF hB1 hr1 hfx c0 c2 c3 cf
  go_wp2_with fail
  clear c2' cf'
  generalize (w1.setCell ⟨b, 2, none⟩ (.pointer L.adr)) = w2 at *
  refine (level b k' v' L r d w2 ⟨HB2.out, hI2.out, hr2.out⟩ ND2.out HW.out wr (by omega)).mono ?_
  rintro e w3 ⟨rfl, HI, HF⟩
  have HI3 := Lib.hid HI; have HF3 := Lib.hid HF
  clear HI HF
  go_wp2_with fail
  go_ret2
  unfold DropPost
  rw [HP.out]
  refine ⟨rfl, HI3.out, HF2.out.trans HF3.out (fun i _ h => h) (fun i _ h => ?_)⟩
  rcases AT.mem_node.1 h with h | h | h
  · exact AT.mem_node.2 (.inl h)
  · exact AT.mem_node.2 (.inr (.inl (HX.out.2 i h)))
  · exact AT.mem_node.2 (.inr (.inr h))

set_option maxRecDepth 100000 in
theorem drop_high (k : ByteArray) (b : Nat) (k' : ByteArray) (v' : Int) (l r : AT ByteArray Int) (d : Int) (w : World)
    (h : In w (.node b k' v' l r d)) (nd : (AT.node b k' v' l r d).fp.Nodup) (wl : l.wd) (wr : r.wd) (sz : l.size + r.size < 576460752303423488)
    (ih : Calls Try.prog 114 #[.pointer r.adr, .string k] w (DropPost k r w)) (hlt : Ord.lt k' k = true) :
    Calls Try.prog 114 #[.pointer (some ⟨b, 0, none⟩), .string k] w (DropPost k (.node b k' v' l r d) w) := by
  have hput : AT.drop k (.node b k' v' l r d) = (AT.level b k' v' l (AT.drop k r).1, (AT.drop k r).2) := by rw [AT.drop, if_neg (by rw [Ord.asymm hlt]; simp), if_pos hlt]
  have hlx := AT.sub_drop k (AT.nodup_node.1 nd).2.2.2.1
  have hsx := drop_size k (AT.nodup_node.1 nd).2.2.2.1
  have hwx : (AT.drop k r).1.wd := AT.wd_drop k wr
  have HP := Lib.hid hput; have HX := Lib.hid hlx; have HW := Lib.hid hwx
  clear hput hlx hwx
  have IH := Lib.hid ih
  clear ih
  obtain ⟨hb, hl, hr⟩ := h
  obtain ⟨nbl, nbr, ndl, ndr, ndx⟩ := AT.nodup_node.1 nd
  obtain ⟨c0, c2, c3, -, cf⟩ := cells hb
  have hbw := lt_of_heap hb
  have HB := Lib.hid hb; have ND := Lib.hid nd
  clear hb nd
  have thlt : Op.bytesLess k'.toList k.toList = true := hlt; have uhlt : Op.bytesLess k.toList k'.toList = false := Ord.asymm hlt; have yhlt : (k'.toList == k.toList) = false := Bl.ne hlt; have zhlt : (k.toList == k'.toList) = false := Bl.ne' hlt
  go_enter Try.func114, Try.ntmps114
  go_wp2_with fail
  refine IH.out.mono ?_
  rintro e w1 ⟨rfl, hI, hF⟩
  have hB1 := (hF.block b hbw nbr).trans HB.out
  have hr1 : In w1 l := In.fr hl hF (fun x hx h => ndx x hx x h rfl)
  obtain ⟨-, -, c2', -, cf'⟩ := cells hB1
  generalize (AT.drop k r).1 = L at *
  generalize (AT.drop k r).2 = q at *
  have HB2 := Lib.hid (set_hi hB1 L.adr)
  have hfx := Fr.setCell w1 ⟨b, 3, none⟩ (.pointer L.adr) (S := (· = b)) rfl
  have nbL : b ∉ L.fp := fun x => nbr (HX.out.2 b x)
  have hI2 := Lib.hid (In.fr hI hfx (fun x hx e => nbL (e ▸ hx)))
  have hr2 := Lib.hid (In.fr hr1 hfx (fun x hx e => nbl (e ▸ hx)))
  have HF2 := Lib.hid (hF.trans hfx (T := fun x => x ∈ (AT.node b k' v' l r d).fp) (fun i _ h => AT.mem_node.2 (.inr (.inr h))) (fun i _ h => AT.mem_node.2 (.inl h)))
  have ND2 : Hid ((AT.node b k' v' l L d).fp.Nodup) := AT.nodup_node.2 ⟨nbl, nbL, ndl, HX.out.1, fun x hx y hy e => ndx x hx y (HX.out.2 y hy) e⟩
  clear hI hF hB1 hr1 hfx c0 c2 c3 cf
  go_wp2_with fail
  clear c2' cf'
  generalize (w1.setCell ⟨b, 3, none⟩ (.pointer L.adr)) = w2 at *
  refine (level b k' v' l L d w2 ⟨HB2.out, hr2.out, hI2.out⟩ ND2.out wl HW.out (by omega)).mono ?_
  rintro e w3 ⟨rfl, HI, HF⟩
  have HI3 := Lib.hid HI; have HF3 := Lib.hid HF
  clear HI HF
  go_wp2_with fail
  go_ret2
  unfold DropPost
  rw [HP.out]
  refine ⟨rfl, HI3.out, HF2.out.trans HF3.out (fun i _ h => h) (fun i _ h => ?_)⟩
  rcases AT.mem_node.1 h with h | h | h
  · exact AT.mem_node.2 (.inl h)
  · exact AT.mem_node.2 (.inr (.inl h))
  · exact AT.mem_node.2 (.inr (.inr (HX.out.2 i h)))

set_option maxRecDepth 100000 in
theorem drop_last (b : Nat) (k : ByteArray) (v' : Int) (l : AT ByteArray Int) (d : Int) (w : World) (h : In w (.node b k v' l .nil d)) :
    Calls Try.prog 114 #[.pointer (some ⟨b, 0, none⟩), .string k] w (DropPost k (.node b k v' l .nil d) w) := by
  have hdrop : AT.drop k (.node b k v' l .nil d) = (l, true) := by simp [AT.drop, Ord.irr, AT.first]
  have HP := Lib.hid hdrop
  clear hdrop
  obtain ⟨hb, hl, hr⟩ := h
  rw [AT.adr_nil] at hb
  obtain ⟨c0, c2, c3, -, -⟩ := cells hb
  have tk : Op.bytesLess k.toList k.toList = false := Ord.irr k
  clear hb
  go_enter Try.func114, Try.ntmps114
  go_wp2_with fail
  go_ret2
  unfold DropPost
  rw [HP.out]
  exact ⟨rfl, hl, Fr.refl _ _⟩

theorem set_both {w : World} {b : Nat} {k : ByteArray} {v : Int} {l r : Option Addr} {d : Int} (h : w.heap[b]? = some (.cells (blk k v l r d) 172 (0, 0))) (u x : Option Addr) :
    ((w.setCell ⟨b, 2, none⟩ (.pointer u)).setCell ⟨b, 3, none⟩ (.pointer x)).heap[b]? = some (.cells (blk k v u x d) 172 (0, 0)) := set_hi (set_lo h u) x

set_option maxRecDepth 100000 in
theorem drop_mid (b : Nat) (k : ByteArray) (v' : Int) (l r : AT ByteArray Int) (d : Int) (w : World) (h : In w (.node b k v' l r d)) (nd : (AT.node b k v' l r d).fp.Nodup) (wl : l.wd) (wr : r.wd) (sz : l.size + r.size < 288230376151711744) (hne : r ≠ .nil) :
    Calls Try.prog 114 #[.pointer (some ⟨b, 0, none⟩), .string k] w (DropPost k (.node b k v' l r d) w) := by
  obtain ⟨nbl, nbr, ndl, ndr, ndx⟩ := AT.nodup_node.1 nd
  have hdrop : ∀ b2 k2 v2, r.first = some (b2, k2, v2) → AT.drop k (.node b k v' l r d) = (AT.level b2 k2 v2 l r.rest, true) := fun b2 k2 v2 hf => by simp [AT.drop, Ord.irr, hf]
  obtain ⟨a0, ha0⟩ : ∃ a0, r.adr = some a0 := by cases r with | nil => exact absurd rfl hne | node => exact ⟨_, rfl⟩
  have HLE := Lib.hid (least r w hne h.2.2 ndr wr (by omega))
  have HP := Lib.hid hdrop; have ND := Lib.hid nd
  clear hdrop nd
  obtain ⟨hb, hl, hr⟩ := h
  rw [ha0] at hb HLE
  obtain ⟨c0, c2, c3, -, -⟩ := cells hb
  have hbw := lt_of_heap hb
  have tk : Op.bytesLess k.toList k.toList = false := Ord.irr k
  have HB := Lib.hid hb
  clear hb ha0
  go_enter Try.func114, Try.ntmps114
  go_wp2_with fail
  refine HLE.out.mono ?_
  rintro e w1 ⟨b2, k2, v2, l2, r2, d2, h1, rfl, h3, h4, hF⟩
  have hB1 := (hF.block b hbw nbr).trans HB.out
  have hl1 : In w1 l := In.fr hl hF (fun x hx h => ndx x hx x h rfl)
  have hsz := rest_size h1
  have hsz' : r.rest.size ≤ r.size := by omega
  have HN := Lib.hid (rest_nodup h1 ndr)
  obtain ⟨-, c2', c3', -, -⟩ := cells hB1
  obtain ⟨-, c2n, c3n, -, cfn⟩ := cells h4
  have HB2 := Lib.hid (set_both h4 l.adr r.rest.adr)
  have hfx := (Fr.setCell w1 ⟨b2, 2, none⟩ (.pointer l.adr) (S := (· = b2)) rfl).trans (Fr.setCell _ ⟨b2, 3, none⟩ (.pointer r.rest.adr) (S := (· = b2)) rfl) (T := (· = b2)) (fun _ _ h => h) (fun _ _ h => h)
  have nbL : b2 ∉ l.fp := fun x => ndx b2 x b2 HN.out.2.2.1 rfl
  have hI2 := Lib.hid (In.fr h3 hfx (fun x hx e => HN.out.1 (e ▸ hx)))
  have hl2 := Lib.hid (In.fr hl1 hfx (fun x hx e => nbL (e ▸ hx)))
  have hbb : b ≠ b2 := fun e => nbr (e ▸ HN.out.2.2.1)
  have HF2 := Lib.hid (hF.trans hfx (T := fun x => x ∈ (AT.node b k v' l r d).fp) (fun i _ h => AT.mem_node.2 (.inr (.inr h))) (fun i _ h => AT.mem_node.2 (.inr (.inr (h ▸ HN.out.2.2.1)))))
  have ND2 : Hid ((AT.node b2 k2 v2 l r.rest d2).fp.Nodup) := AT.nodup_node.2 ⟨nbL, HN.out.1, ndl, HN.out.2.1, fun x hx y hy e => ndx x hx y (HN.out.2.2.2 y hy) e⟩
  have HW : Hid r.rest.wd := AT.wd_rest wr
  have HP2 := Lib.hid (HP.out _ _ _ h1)
  clear h1 h3 h4 hF hB1 hl1 hfx c0 c2 c3 hsz
  go_wp2_with fail
  clear c2' c3' c2n c3n cfn
  generalize ((w1.setCell ⟨b2, 2, none⟩ (.pointer l.adr)).setCell ⟨b2, 3, none⟩ (.pointer r.rest.adr)) = w2 at *
  refine (level b2 k2 v2 l r.rest d2 w2 ⟨HB2.out, hl2.out, hI2.out⟩ ND2.out wl HW.out (by omega)).mono ?_
  rintro e w3 ⟨rfl, HI, HF⟩
  have HI3 := Lib.hid HI; have HF3 := Lib.hid HF
  clear HI HF
  go_wp2_with fail
  go_ret2
  unfold DropPost
  rw [HP2.out]
  refine ⟨rfl, HI3.out, HF2.out.trans HF3.out (fun i _ h => h) (fun i _ h => ?_)⟩
  rcases AT.mem_node.1 h with h | h | h
  · exact AT.mem_node.2 (.inr (.inr (h ▸ HN.out.2.2.1)))
  · exact AT.mem_node.2 (.inr (.inl h))
  · exact AT.mem_node.2 (.inr (.inr (HN.out.2.2.2 i h)))

theorem drop (k : ByteArray) (t : AT ByteArray Int) : ∀ (w : World), In w t → t.fp.Nodup → t.wd → t.size < 288230376151711744 →
    Calls Try.prog 114 #[.pointer t.adr, .string k] w (DropPost k t w) := by
  induction t with
  | nil => intro w _ _ _ _; exact drop_nil k w
  | node b k' v' l r d ihl ihr =>
    intro w h nd wd sz
    obtain ⟨nbl, nbr, ndl, ndr, ndx⟩ := AT.nodup_node.1 nd
    have sz' : l.size + r.size < 288230376151711744 := by rw [AT.size] at sz; omega
    by_cases h1 : Ord.lt k k' = true
    · exact drop_low k b k' v' l r d w h nd wd.1 wd.2.1 (by omega) (ihl w h.2.1 ndl wd.1 (by omega)) h1
    · by_cases h2 : Ord.lt k' k = true
      · exact drop_high k b k' v' l r d w h nd wd.1 wd.2.1 (by omega) (ihr w h.2.2 ndr wd.2.1 (by omega)) h2
      · obtain rfl : k = k' := Ord.tri _ _ (by simpa using h1) (by simpa using h2)
        cases r with
        | nil => exact drop_last b k v' l d w h
        | node b2 k2 v2 l2 r2 d2 => exact drop_mid b k v' l _ d w h nd wd.1 wd.2.1 (by omega) (by simp)

end AvlSI
end Go.Proofs.Ytkhhdadlpilbmaa
