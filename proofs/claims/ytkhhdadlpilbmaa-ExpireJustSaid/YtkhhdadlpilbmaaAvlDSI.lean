/- The maps in order (avl) at one instance: putting, dropping. -/
import Derived.Test.YtkhhdadlpilbmaaAvlCSI
namespace Go.Proofs.Ytkhhdadlpilbmaa
open Go.RowKit
namespace AvlSI

theorem set_v {w : World} {b : Nat} {k : ByteArray} {v : Int} {l r : Option Addr} {d : Int} (h : w.heap[b]? = some (.cells (blk k v l r d) 172 (0, 0))) (v' : Int) :
    (w.setCell ⟨b, 1, none⟩ (.int .i64 v')).heap[b]? = some (.cells (blk k v' l r d) 172 (0, 0)) := heap_setCell_same h _
theorem put_nodup (n : Nat) (k : ByteArray) (v : Int) {t : AT ByteArray Int} (nd : t.fp.Nodup) (hn : ∀ x ∈ t.fp, x < n) : (AT.put n k v t).1.fp.Nodup ∧ ∀ x ∈ (AT.put n k v t).1.fp, x = n ∨ x ∈ t.fp := by
  have hp := AT.perm_put n k v t
  cases h : (AT.put n k v t).2 with
  | true =>
    rw [h, if_pos rfl] at hp
    refine ⟨hp.nodup_iff.2 (List.nodup_cons.2 ⟨fun x => Nat.lt_irrefl _ (hn _ x), nd⟩), fun x hx => ?_⟩
    have := hp.mem_iff.1 hx
    simpa using this
  | false =>
    rw [h, if_neg (by simp)] at hp
    exact ⟨hp.nodup_iff.2 nd, fun x hx => .inr (hp.mem_iff.1 hx)⟩
theorem put_size (n : Nat) (k : ByteArray) (v : Int) (t : AT ByteArray Int) : (AT.put n k v t).1.size ≤ t.size + 1 := by
  have hp := (AT.perm_put n k v t).length_eq
  rw [AT.fp_length] at hp
  cases h : (AT.put n k v t).2 with
  | true => rw [h, if_pos rfl, List.length_cons, AT.fp_length] at hp; omega
  | false => rw [h, if_neg (by simp), AT.fp_length] at hp; omega

set_option maxRecDepth 100000 in
theorem put_nil (k : ByteArray) (v : Int) (w : World) : Calls Try.prog 119 #[.pointer none, .string k, .int .i64 v] w fun e w' =>
    e = .returned (.tuple #[.pointer (some ⟨w.heap.size, 0, none⟩), .bool true]) ∧ w' = w.alloc (.cells (blk k v none none 1) 172 (0, 0)) := by
  go_enter Try.func119, Try.ntmps119
  go_wp2_with fail
  go_ret2
  exact ⟨rfl, rfl⟩

/-- What a call of put comes to. -/
def PutPost (k : ByteArray) (v : Int) (t : AT ByteArray Int) (w : World) (e : Ending) (w' : World) : Prop :=
  e = .returned (.tuple #[.pointer (AT.put w.heap.size k v t).1.adr, .bool (AT.put w.heap.size k v t).2]) ∧ In w' (AT.put w.heap.size k v t).1 ∧ Fr (fun x => x ∈ t.fp) w w'

set_option maxRecDepth 100000 in
theorem put_low (k : ByteArray) (v : Int) (b : Nat) (k' : ByteArray) (v' : Int) (l r : AT ByteArray Int) (d : Int) (w : World)
    (h : In w (.node b k' v' l r d)) (nd : (AT.node b k' v' l r d).fp.Nodup) (wl : l.wd) (wr : r.wd) (sz : l.size + r.size < 576460752303423488)
    (ih : Calls Try.prog 119 #[.pointer l.adr, .string k, .int .i64 v] w (PutPost k v l w)) (hlt : Ord.lt k k' = true) :
    Calls Try.prog 119 #[.pointer (some ⟨b, 0, none⟩), .string k, .int .i64 v] w (PutPost k v (.node b k' v' l r d) w) := by
  have hput : AT.put w.heap.size k v (.node b k' v' l r d) = (AT.level b k' v' (AT.put w.heap.size k v l).1 r, (AT.put w.heap.size k v l).2) := by rw [AT.put, if_pos hlt]
  have hlx := put_nodup w.heap.size k v (AT.nodup_node.1 nd).2.2.1 (In.lt h.2.1)
  have hsx := put_size w.heap.size k v l
  have hwx : (AT.put w.heap.size k v l).1.wd := AT.wd_put _ k v wl
  have HP := Lib.hid hput; have HX := Lib.hid hlx; have HW := Lib.hid hwx
  clear hput hlx hwx
  have IH := Lib.hid ih
  clear ih
  obtain ⟨hb, hl, hr⟩ := h
  obtain ⟨nbl, nbr, ndl, ndr, ndx⟩ := AT.nodup_node.1 nd
  obtain ⟨c0, c2, c3, -, cf⟩ := cells hb
  have hbw := lt_of_heap hb
  have HB := Lib.hid hb; have ND := Lib.hid nd
  clear hb nd
  have thlt : Op.bytesLess k.toList k'.toList = true := hlt; have uhlt : Op.bytesLess k'.toList k.toList = false := Ord.asymm hlt; have yhlt : (k.toList == k'.toList) = false := Bl.ne hlt; have zhlt : (k'.toList == k.toList) = false := Bl.ne' hlt
  go_enter Try.func119, Try.ntmps119
  go_wp2_with fail
  refine IH.out.mono ?_
  rintro e w1 ⟨rfl, hI, hF⟩
  have hB1 := (hF.block b hbw nbl).trans HB.out
  have hr1 : In w1 r := In.fr hr hF (fun x hx h => ndx x h x hx rfl)
  obtain ⟨-, c2', -, -, cf'⟩ := cells hB1
  generalize (AT.put w.heap.size k v l).1 = L at *
  generalize (AT.put w.heap.size k v l).2 = q at *
  have HB2 := Lib.hid (set_lo hB1 L.adr)
  have hfx := Fr.setCell w1 ⟨b, 2, none⟩ (.pointer L.adr) (S := (· = b)) rfl
  have nbL : b ∉ L.fp := fun x => by rcases HX.out.2 b x with e | e; exact absurd e (Nat.ne_of_lt hbw); exact nbl e
  have hI2 := Lib.hid (In.fr hI hfx (fun x hx e => nbL (e ▸ hx)))
  have hr2 := Lib.hid (In.fr hr1 hfx (fun x hx e => nbr (e ▸ hx)))
  have HF2 := Lib.hid (hF.trans hfx (T := fun x => x ∈ (AT.node b k' v' l r d).fp) (fun i _ h => AT.mem_node.2 (.inr (.inl h))) (fun i _ h => AT.mem_node.2 (.inl h)))
  have ND2 : Hid ((AT.node b k' v' L r d).fp.Nodup) := AT.nodup_node.2 ⟨nbL, nbr, HX.out.1, ndr, fun x hx y hy e => by
    rcases HX.out.2 x hx with e' | e'
    · have := In.lt hr y hy; omega
    · exact ndx x e' y hy e⟩
  clear hI hF hB1 hr1 hfx c0 c2 c3 cf
  go_wp2_with fail
  clear c2' cf'
  generalize (w1.setCell ⟨b, 2, none⟩ (.pointer L.adr)) = w2 at *
  refine (level b k' v' L r d w2 ⟨HB2.out, hI2.out, hr2.out⟩ ND2.out HW.out wr (by omega)).mono ?_
  rintro e w3 ⟨rfl, HI, HF⟩
  have HI3 := Lib.hid HI; have HF3 := Lib.hid HF
  clear HI HF
  go_wp2_with fail
  go_ret2
  unfold PutPost
  rw [HP.out]
  refine ⟨rfl, HI3.out, HF2.out.trans HF3.out (fun i _ h => h) (fun i hi h => ?_)⟩
  rcases AT.mem_node.1 h with h | h | h
  · exact AT.mem_node.2 (.inl h)
  · rcases HX.out.2 i h with e' | e'
    · omega
    · exact AT.mem_node.2 (.inr (.inl e'))
  · exact AT.mem_node.2 (.inr (.inr h))

set_option maxRecDepth 100000 in
theorem put_high (k : ByteArray) (v : Int) (b : Nat) (k' : ByteArray) (v' : Int) (l r : AT ByteArray Int) (d : Int) (w : World)
    (h : In w (.node b k' v' l r d)) (nd : (AT.node b k' v' l r d).fp.Nodup) (wl : l.wd) (wr : r.wd) (sz : l.size + r.size < 576460752303423488)
    (ih : Calls Try.prog 119 #[.pointer r.adr, .string k, .int .i64 v] w (PutPost k v r w)) (hlt : Ord.lt k' k = true) :
    Calls Try.prog 119 #[.pointer (some ⟨b, 0, none⟩), .string k, .int .i64 v] w (PutPost k v (.node b k' v' l r d) w) := by
  have hput : AT.put w.heap.size k v (.node b k' v' l r d) = (AT.level b k' v' l (AT.put w.heap.size k v r).1, (AT.put w.heap.size k v r).2) := by rw [AT.put, if_neg (by rw [Ord.asymm hlt]; simp), if_pos hlt]
  have hlx := put_nodup w.heap.size k v (AT.nodup_node.1 nd).2.2.2.1 (In.lt h.2.2)
  have hsx := put_size w.heap.size k v r
  have hwx : (AT.put w.heap.size k v r).1.wd := AT.wd_put _ k v wr
  have HP := Lib.hid hput; have HX := Lib.hid hlx; have HW := Lib.hid hwx
  clear hput hlx hwx
  have IH := Lib.hid ih
  clear ih
  obtain ⟨hb, hl, hr⟩ := h
  obtain ⟨nbl, nbr, ndl, ndr, ndx⟩ := AT.nodup_node.1 nd
  obtain ⟨c0, c2, c3, -, cf⟩ := cells hb
  have hbw := lt_of_heap hb
  have HB := Lib.hid hb; have ND := Lib.hid nd
  clear hb nd
  have thlt : Op.bytesLess k'.toList k.toList = true := hlt; have uhlt : Op.bytesLess k.toList k'.toList = false := Ord.asymm hlt; have yhlt : (k'.toList == k.toList) = false := Bl.ne hlt; have zhlt : (k.toList == k'.toList) = false := Bl.ne' hlt
  go_enter Try.func119, Try.ntmps119
  go_wp2_with fail
  refine IH.out.mono ?_
  rintro e w1 ⟨rfl, hI, hF⟩
  have hB1 := (hF.block b hbw nbr).trans HB.out
  have hr1 : In w1 l := In.fr hl hF (fun x hx h => ndx x hx x h rfl)
  obtain ⟨-, -, c2', -, cf'⟩ := cells hB1
  generalize (AT.put w.heap.size k v r).1 = L at *
  generalize (AT.put w.heap.size k v r).2 = q at *
  have HB2 := Lib.hid (set_hi hB1 L.adr)
  have hfx := Fr.setCell w1 ⟨b, 3, none⟩ (.pointer L.adr) (S := (· = b)) rfl
  have nbL : b ∉ L.fp := fun x => by rcases HX.out.2 b x with e | e; exact absurd e (Nat.ne_of_lt hbw); exact nbr e
  have hI2 := Lib.hid (In.fr hI hfx (fun x hx e => nbL (e ▸ hx)))
  have hr2 := Lib.hid (In.fr hr1 hfx (fun x hx e => nbl (e ▸ hx)))
  have HF2 := Lib.hid (hF.trans hfx (T := fun x => x ∈ (AT.node b k' v' l r d).fp) (fun i _ h => AT.mem_node.2 (.inr (.inr h))) (fun i _ h => AT.mem_node.2 (.inl h)))
  have ND2 : Hid ((AT.node b k' v' l L d).fp.Nodup) := AT.nodup_node.2 ⟨nbl, nbL, ndl, HX.out.1, fun x hx y hy e => by
    rcases HX.out.2 y hy with e' | e'
    · have := In.lt hl x hx; omega
    · exact ndx x hx y e' e⟩
  clear hI hF hB1 hr1 hfx c0 c2 c3 cf
  go_wp2_with fail
  clear c2' cf'
  generalize (w1.setCell ⟨b, 3, none⟩ (.pointer L.adr)) = w2 at *
  refine (level b k' v' l L d w2 ⟨HB2.out, hr2.out, hI2.out⟩ ND2.out wl HW.out (by omega)).mono ?_
  rintro e w3 ⟨rfl, HI, HF⟩
  have HI3 := Lib.hid HI; have HF3 := Lib.hid HF
  clear HI HF
  go_wp2_with fail
  go_ret2
  unfold PutPost
  rw [HP.out]
  refine ⟨rfl, HI3.out, HF2.out.trans HF3.out (fun i _ h => h) (fun i hi h => ?_)⟩
  rcases AT.mem_node.1 h with h | h | h
  · exact AT.mem_node.2 (.inl h)
  · exact AT.mem_node.2 (.inr (.inl h))
  · rcases HX.out.2 i h with e' | e'
    · omega
    · exact AT.mem_node.2 (.inr (.inr e'))

set_option maxRecDepth 100000 in
theorem put_eq (v : Int) (b : Nat) (k : ByteArray) (v' : Int) (l r : AT ByteArray Int) (d : Int) (w : World)
    (h : In w (.node b k v' l r d)) (nd : (AT.node b k v' l r d).fp.Nodup) (wl : l.wd) (wr : r.wd) (sz : l.size + r.size < 576460752303423488) :
    Calls Try.prog 119 #[.pointer (some ⟨b, 0, none⟩), .string k, .int .i64 v] w (PutPost k v (.node b k v' l r d) w) := by
  have hput : AT.put w.heap.size k v (.node b k v' l r d) = (AT.level b k v l r, false) := by rw [AT.put, if_neg (by rw [Ord.irr]; simp), if_neg (by rw [Ord.irr]; simp)]
  have HP := Lib.hid hput
  clear hput
  obtain ⟨hb, hl, hr⟩ := h
  obtain ⟨nbl, nbr, ndl, ndr, ndx⟩ := AT.nodup_node.1 nd
  obtain ⟨c0, c2, c3, -, cf⟩ := cells hb
  have c1 : w.cell? ⟨b, 1, none⟩ = some (.int .i64 v') := by rw [cell_of_block hb]; rfl
  have tk : Op.bytesLess k.toList k.toList = false := Ord.irr k
  have hfx := Fr.setCell w ⟨b, 1, none⟩ (.int .i64 v) (S := (· = b)) rfl
  have HB2 := Lib.hid (set_v hb v)
  have hl2 := Lib.hid (In.fr hl hfx (fun x hx e => nbl (e ▸ hx)))
  have hr2 := Lib.hid (In.fr hr hfx (fun x hx e => nbr (e ▸ hx)))
  have HF2 := Lib.hid hfx
  have ND := Lib.hid nd
  clear hb nd hfx hl hr
  go_enter Try.func119, Try.ntmps119
  go_wp2_with fail
  generalize (w.setCell ⟨b, 1, none⟩ (.int .i64 v)) = w2 at *
  refine (level b k v l r d w2 ⟨HB2.out, hl2.out, hr2.out⟩ ND.out wl wr (by omega)).mono ?_
  rintro e w3 ⟨rfl, HI, HF⟩
  have HI3 := Lib.hid HI; have HF3 := Lib.hid HF
  clear HI HF
  go_wp2_with fail
  go_ret2
  unfold PutPost
  rw [HP.out]
  exact ⟨rfl, HI3.out, HF2.out.trans HF3.out (fun i _ h => AT.mem_node.2 (.inl h)) (fun i hi h => h)⟩

theorem put (k : ByteArray) (v : Int) (t : AT ByteArray Int) : ∀ (w : World), In w t → t.fp.Nodup → t.wd → t.size < 288230376151711744 →
    Calls Try.prog 119 #[.pointer t.adr, .string k, .int .i64 v] w (PutPost k v t w) := by
  induction t with
  | nil =>
    intro w _ _ _ _
    refine (put_nil k v w).mono ?_
    rintro e w' ⟨rfl, rfl⟩
    exact ⟨rfl, ⟨heap_new _ _, trivial, trivial⟩, Fr.alloc _ _ _⟩
  | node b k' v' l r d ihl ihr =>
    intro w h nd wd sz
    obtain ⟨nbl, nbr, ndl, ndr, ndx⟩ := AT.nodup_node.1 nd
    have sz' : l.size + r.size < 288230376151711744 := by simp only [AT.size] at sz; omega
    by_cases h1 : Ord.lt k k' = true
    · exact put_low k v b k' v' l r d w h nd wd.1 wd.2.1 (by omega) (ihl w h.2.1 ndl wd.1 (by omega)) h1
    · by_cases h2 : Ord.lt k' k = true
      · exact put_high k v b k' v' l r d w h nd wd.1 wd.2.1 (by omega) (ihr w h.2.2 ndr wd.2.1 (by omega)) h2
      · obtain rfl : k = k' := Ord.tri _ _ (by simpa using h1) (by simpa using h2)
        exact put_eq v b k v' l r d w h nd wd.1 wd.2.1 (by omega)

end AvlSI
end Go.Proofs.Ytkhhdadlpilbmaa
