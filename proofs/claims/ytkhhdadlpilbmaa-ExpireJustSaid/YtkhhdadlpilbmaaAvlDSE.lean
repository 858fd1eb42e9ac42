/- The maps in order (avl) at one instance: putting, dropping. -/
import Derived.Test.YtkhhdadlpilbmaaAvlCSE
import Derived.Test.YtkhhdadlpilbmaaZone
import Derived.Deep.RegionWith
import Derived.Deep.DeepCutAuto
namespace Go.Proofs.Ytkhhdadlpilbmaa
open Go.RowKit
namespace AvlSE

theorem put_nodup (n : Nat) (k : ByteArray) (v : Unit) {t : AT ByteArray Unit} (nd : t.fp.Nodup) (hn : ∀ x ∈ t.fp, x < n) : (AT.put n k v t).1.fp.Nodup ∧ ∀ x ∈ (AT.put n k v t).1.fp, x = n ∨ x ∈ t.fp := by
  have hp := AT.perm_put n k v t
  cases h : (AT.put n k v t).2 with
  | true =>
    rw [h, if_pos rfl] at hp
    refine ⟨hp.nodup_iff.2 (List.nodup_cons.2 ⟨fun x => Nat.lt_irrefl _ (hn _ x), nd⟩), fun x hx => ?_⟩
    have := hp.mem_iff.1 hx
    simpa using this
  | false =>
    rw [h, if_neg (by simp)] at hp
    exact ⟨hp.nodup_iff.2 nd, fun x hx => .inr (hp.mem_iff.1 hx)⟩
theorem put_size (n : Nat) (k : ByteArray) (v : Unit) (t : AT ByteArray Unit) : (AT.put n k v t).1.size ≤ t.size + 1 := by
  have hp := (AT.perm_put n k v t).length_eq
  rw [AT.fp_length] at hp
  cases h : (AT.put n k v t).2 with
  | true => rw [h, if_pos rfl, List.length_cons, AT.fp_length] at hp; omega
  | false => rw [h, if_neg (by simp), AT.fp_length] at hp; omega

/-- What a call of put comes to. -/
def PutPost (k : ByteArray) (v : Unit) (t : AT ByteArray Unit) (w : World) (e : Ending) (w' : World) : Prop :=
  ∃ n, w.heap.size ≤ n ∧ e = .returned (.tuple #[.pointer (AT.put n k v t).1.adr, .bool (AT.put n k v t).2]) ∧ In w' (AT.put n k v t).1 ∧ Fr (fun x => x ∈ t.fp) w w'
abbrev box (v : Unit) (w : World) : World := w.alloc (.cells #[] 126)
theorem box_fr (v : Unit) (w : World) : Fr (fun _ => False) w (box v w) := Fr.alloc _ _ _
set_option maxRecDepth 100000 in
theorem put_nil (k : ByteArray) (v : Unit) (w : World) : Calls Try.prog 134 #[.pointer none, .string k, .agg #[]] w (PutPost k v .nil w) := by
  have HP : Hid (PutPost k v .nil w (.returned (.tuple #[.pointer (some ⟨w.heap.size + 1, 0, none⟩), .bool true])) ((box v w).alloc (.cells (blk k v none none 1) 225 (0, 0)))) := by
    refine ⟨w.heap.size + 1, by omega, rfl, ⟨?_, trivial, trivial⟩, (box_fr v w).trans (Fr.alloc (fun _ => False) _ _) (fun _ _ h => h.elim) (fun _ _ h => h.elim)⟩
    have := heap_new (box v w) (.cells (blk k v none none 1) 225 (0, 0))
    rwa [World.size_alloc] at this
  go_enter Try.func134, Try.ntmps134
  go_wp2_with fail
  go_ret2
  exact HP.out
/-- The half is put, and the node points at it. -/
def Plow (k : ByteArray) (v : Unit) (b : Nat) (k' : ByteArray) (v' : Unit) (l r : AT ByteArray Unit) (d : Int) (w : World) (n : Nat) (wc : World) : Prop :=
  w.heap.size ≤ n ∧ In wc (.node b k' v' (AT.put n k v l).1 r d) ∧ (AT.node b k' v' l r d).fp.Nodup ∧ (.node b k' v' (AT.put n k v l).1 r d : AT ByteArray Unit).fp.Nodup ∧ Fr (fun x => x ∈ (AT.node b k' v' l r d).fp) w wc ∧ ∀ x ∈ (.node b k' v' (AT.put n k v l).1 r d : AT ByteArray Unit).fp, x = n ∨ x ∈ (AT.node b k' v' l r d).fp
theorem fin_low {k : ByteArray} {v : Unit} {b : Nat} {k' : ByteArray} {v' : Unit} {l r : AT ByteArray Unit} {d : Int} {w W w1 : World} (h : In w (.node b k' v' l r d)) (nd : (AT.node b k' v' l r d).fp.Nodup) (hf : Fr (fun _ => False) w W) {n : Nat} (hn : W.heap.size ≤ n) (hI : In w1 (AT.put n k v l).1) (hF : Fr (fun x => x ∈ l.fp) W w1) :
    Plow k v b k' v' l r d w n (w1.setCell ⟨b, 1, none⟩ (.pointer (AT.put n k v l).1.adr)) := by
  have hsz := hf.size
  have hlt := In.lt h
  obtain ⟨hb, hl, hr⟩ := h
  obtain ⟨nbl, nbr, ndl, ndr, ndx⟩ := AT.nodup_node.1 nd
  have hbw := lt_of_heap hb
  have hx := put_nodup n k v (t := l) ndl (fun x hx => by have := hlt x (AT.mem_node.2 (.inr (.inl hx))); omega)
  have hF0 : Fr (fun x => x ∈ l.fp) w w1 := hf.trans hF (fun _ _ h => h.elim) (fun _ _ h => h)
  have hB1 := (hF0.block b hbw nbl).trans hb
  have ho : In w1 r := In.fr hr hF0 (fun x hx h => ndx x h x hx rfl)
  have hfx := Fr.setCell w1 ⟨b, 1, none⟩ (.pointer (AT.put n k v l).1.adr) (S := (· = b)) rfl
  have nbL : b ∉ (AT.put n k v l).1.fp := fun x => by rcases hx.2 b x with e | e; omega; exact nbl e
  refine ⟨by omega, ⟨set_lo hB1 _, In.fr hI hfx (fun x hx e => nbL (e ▸ hx)), In.fr ho hfx (fun x hx e => nbr (e ▸ hx))⟩, nd, AT.nodup_node.2 ⟨nbL, nbr, hx.1, ndr, fun x hm y hy e => by
    rcases hx.2 x hm with e' | e'
    · have := hlt y (AT.mem_node.2 (.inr (.inr hy))); omega
    · exact ndx x e' y hy e⟩, hF0.trans hfx (fun i _ h => AT.mem_node.2 (.inr (.inl h))) (fun i _ h => AT.mem_node.2 (.inl h)), fun x hm => ?_⟩
  rcases AT.mem_node.1 hm with e | e | e
  · exact .inr (AT.mem_node.2 (.inl e))
  · exact (hx.2 x e).elim .inl (fun e => .inr (AT.mem_node.2 (.inr (.inl e))))
  · exact .inr (AT.mem_node.2 (.inr (.inr e)))
set_option maxRecDepth 100000 in
set_option maxHeartbeats 1000000 in
theorem put_low (k : ByteArray) (v : Unit) (b : Nat) (k' : ByteArray) (v' : Unit) (l r : AT ByteArray Unit) (d : Int) (w : World)
    (h : In w (.node b k' v' l r d)) (nd : (AT.node b k' v' l r d).fp.Nodup) (wl : l.wd) (wr : r.wd) (sz : l.size + r.size < 576460752303423488)
    (ih : ∀ W, In W l → Calls Try.prog 134 #[.pointer l.adr, .string k, .agg #[]] W (PutPost k v l W)) (hlt : Ord.lt k k' = true) :
    Calls Try.prog 134 #[.pointer (some ⟨b, 0, none⟩), .string k, .agg #[]] w (PutPost k v (.node b k' v' l r d) w) := by
  have HPut : Hid (∀ n, AT.put n k v (.node b k' v' l r d) = (AT.level b k' v' (AT.put n k v l).1 r, (AT.put n k v l).2)) := fun n => by rw [AT.put, if_pos hlt]
  have hf := box_fr v w
  have HIH := Lib.hid (ih (box v w).drew (In.fr (h.2.1) (hf.trans (Fr.drew (fun _ => False) _) (T := fun _ => False) (fun _ _ h => h) (fun _ _ h => h)) (fun _ _ h => h)))
  have HFin := Lib.hid (fun (w1 : World) (n : Nat) (hn : (box v w).drew.heap.size ≤ n) (hI : In w1 (AT.put n k v l).1) (hF : Fr (fun x => x ∈ l.fp) (box v w).drew w1) => fin_low h nd (hf.trans (Fr.drew (fun _ => False) _) (T := fun _ => False) (fun _ _ h => h) (fun _ _ h => h)) hn hI hF)
  have hbx := h.1
  have nbA := (AT.nodup_node.1 nd).1
  have HSt := Lib.hid (fun (w1 : World) (hF : Fr (fun x => x ∈ l.fp) (box v w).drew w1) => (cells ((hF.block b (Nat.lt_of_lt_of_le (lt_of_heap hbx) hf.size) nbA).trans ((hf.block b (lt_of_heap hbx) (fun h => h)).trans hbx))))
  obtain ⟨c0, c2, c3, -, cf⟩ := cells ((hf.block b (lt_of_heap hbx) (fun h => h)).trans hbx)

  have HF := Lib.hid hf
  have HSz : Hid (∀ n, (AT.put n k v l).1.size ≤ l.size + 1) := fun n => put_size n k v l
  have HW : Hid (∀ n, (AT.put n k v l).1.wd) := fun n => AT.wd_put n k v wl
  clear ih hf hbx nbA h nd
  have thlt : Op.bytesLess k.toList k'.toList = true := hlt; have uhlt : Op.bytesLess k'.toList k.toList = false := Ord.asymm hlt; have yhlt : (k.toList == k'.toList) = false := Bl.ne hlt; have zhlt : (k'.toList == k.toList) = false := Bl.ne' hlt
  go_enter Try.func134, Try.ntmps134
  go_upto_region 6 with (fail)
  go_region_with (go_at_call 134; (with_reducible refine HIH.out.mono ?_); rintro e w1 ⟨n, hn, rfl, hI, hF⟩; obtain ⟨-, p2, p3, -, pf⟩ := HSt.out w1 hF)
  all_goals
    have HFn := Lib.hid (HFin.out _ _ hn hI hF)
    clear hn hI hF
    go_wp2_with fail
    clear p2 p3 pf
    generalize (w1.setCell ⟨b, 1, none⟩ (.pointer (AT.put n k v l).1.adr)) = wc at *
    obtain ⟨hn, hI, nd, nd2, hF, hsub⟩ := HFn.out
    have HI := Lib.hid hI; have HN2 := Lib.hid nd2; have HFr := Lib.hid hF; have HS := Lib.hid hsub; have HN := Lib.hid hn; have HND := Lib.hid nd
    have hz := HSz.out n
    have hw := HW.out n
    clear hI nd2 hF hsub hn nd HFn
    have HLv := Lib.hid (level b k' v' (AT.put n k v l).1 r d wc HI.out HN2.out hw wr (by omega))
    clear hw
    refine HLv.out.mono ?_
    rintro e w3 ⟨rfl, hI3, hF3⟩
    have HI3 := Lib.hid hI3; have HF3 := Lib.hid hF3
    clear hI3 hF3
    go_wp2_with fail
    go_ret2
    refine ⟨n, HN.out, by rw [HPut.out]; rfl, by rw [HPut.out]; exact HI3.out, HFr.out.trans HF3.out (fun i _ h => h) (fun i hi h => ?_)⟩
    rcases HS.out i h with e | e
    · have := HN.out; omega
    · exact e
/-- The half is put, and the node points at it. -/
def Phigh (k : ByteArray) (v : Unit) (b : Nat) (k' : ByteArray) (v' : Unit) (l r : AT ByteArray Unit) (d : Int) (w : World) (n : Nat) (wc : World) : Prop :=
  w.heap.size ≤ n ∧ In wc (.node b k' v' l (AT.put n k v r).1 d) ∧ (AT.node b k' v' l r d).fp.Nodup ∧ (.node b k' v' l (AT.put n k v r).1 d : AT ByteArray Unit).fp.Nodup ∧ Fr (fun x => x ∈ (AT.node b k' v' l r d).fp) w wc ∧ ∀ x ∈ (.node b k' v' l (AT.put n k v r).1 d : AT ByteArray Unit).fp, x = n ∨ x ∈ (AT.node b k' v' l r d).fp
theorem fin_high {k : ByteArray} {v : Unit} {b : Nat} {k' : ByteArray} {v' : Unit} {l r : AT ByteArray Unit} {d : Int} {w W w1 : World} (h : In w (.node b k' v' l r d)) (nd : (AT.node b k' v' l r d).fp.Nodup) (hf : Fr (fun _ => False) w W) {n : Nat} (hn : W.heap.size ≤ n) (hI : In w1 (AT.put n k v r).1) (hF : Fr (fun x => x ∈ r.fp) W w1) :
    Phigh k v b k' v' l r d w n (w1.setCell ⟨b, 2, none⟩ (.pointer (AT.put n k v r).1.adr)) := by
  have hsz := hf.size
  have hlt := In.lt h
  obtain ⟨hb, hl, hr⟩ := h
  obtain ⟨nbl, nbr, ndl, ndr, ndx⟩ := AT.nodup_node.1 nd
  have hbw := lt_of_heap hb
  have hx := put_nodup n k v (t := r) ndr (fun x hx => by have := hlt x (AT.mem_node.2 (.inr (.inr hx))); omega)
  have hF0 : Fr (fun x => x ∈ r.fp) w w1 := hf.trans hF (fun _ _ h => h.elim) (fun _ _ h => h)
  have hB1 := (hF0.block b hbw nbr).trans hb
  have ho : In w1 l := In.fr hl hF0 (fun x hx h => ndx x hx x h rfl)
  have hfx := Fr.setCell w1 ⟨b, 2, none⟩ (.pointer (AT.put n k v r).1.adr) (S := (· = b)) rfl
  have nbL : b ∉ (AT.put n k v r).1.fp := fun x => by rcases hx.2 b x with e | e; omega; exact nbr e
  refine ⟨by omega, ⟨set_hi hB1 _, In.fr ho hfx (fun x hx e => nbl (e ▸ hx)), In.fr hI hfx (fun x hx e => nbL (e ▸ hx))⟩, nd, AT.nodup_node.2 ⟨nbl, nbL, ndl, hx.1, fun x hm y hy e => by
    rcases hx.2 y hy with e' | e'
    · have := hlt x (AT.mem_node.2 (.inr (.inl hm))); omega
    · exact ndx x hm y e' e⟩, hF0.trans hfx (fun i _ h => AT.mem_node.2 (.inr (.inr h))) (fun i _ h => AT.mem_node.2 (.inl h)), fun x hm => ?_⟩
  rcases AT.mem_node.1 hm with e | e | e
  · exact .inr (AT.mem_node.2 (.inl e))
  · exact .inr (AT.mem_node.2 (.inr (.inl e)))
  · exact (hx.2 x e).elim .inl (fun e => .inr (AT.mem_node.2 (.inr (.inr e))))
set_option maxRecDepth 100000 in
set_option maxHeartbeats 1000000 in
theorem put_high (k : ByteArray) (v : Unit) (b : Nat) (k' : ByteArray) (v' : Unit) (l r : AT ByteArray Unit) (d : Int) (w : World)
    (h : In w (.node b k' v' l r d)) (nd : (AT.node b k' v' l r d).fp.Nodup) (wl : l.wd) (wr : r.wd) (sz : l.size + r.size < 576460752303423488)
    (ih : ∀ W, In W r → Calls Try.prog 134 #[.pointer r.adr, .string k, .agg #[]] W (PutPost k v r W)) (hlt : Ord.lt k' k = true) :
    Calls Try.prog 134 #[.pointer (some ⟨b, 0, none⟩), .string k, .agg #[]] w (PutPost k v (.node b k' v' l r d) w) := by
  have HPut : Hid (∀ n, AT.put n k v (.node b k' v' l r d) = (AT.level b k' v' l (AT.put n k v r).1, (AT.put n k v r).2)) := fun n => by rw [AT.put, if_neg (by rw [Ord.asymm hlt]; simp), if_pos hlt]
  have hf := box_fr v w
  have HIH := Lib.hid (ih (box v w).drew (In.fr (h.2.2) (hf.trans (Fr.drew (fun _ => False) _) (T := fun _ => False) (fun _ _ h => h) (fun _ _ h => h)) (fun _ _ h => h)))
  have HFin := Lib.hid (fun (w1 : World) (n : Nat) (hn : (box v w).drew.heap.size ≤ n) (hI : In w1 (AT.put n k v r).1) (hF : Fr (fun x => x ∈ r.fp) (box v w).drew w1) => fin_high h nd (hf.trans (Fr.drew (fun _ => False) _) (T := fun _ => False) (fun _ _ h => h) (fun _ _ h => h)) hn hI hF)
  have hbx := h.1
  have nbA := (AT.nodup_node.1 nd).2.1
  have HSt := Lib.hid (fun (w1 : World) (hF : Fr (fun x => x ∈ r.fp) (box v w).drew w1) => (cells ((hF.block b (Nat.lt_of_lt_of_le (lt_of_heap hbx) hf.size) nbA).trans ((hf.block b (lt_of_heap hbx) (fun h => h)).trans hbx))))
  obtain ⟨c0, c2, c3, -, cf⟩ := cells ((hf.block b (lt_of_heap hbx) (fun h => h)).trans hbx)

  have HF := Lib.hid hf
  have HSz : Hid (∀ n, (AT.put n k v r).1.size ≤ r.size + 1) := fun n => put_size n k v r
  have HW : Hid (∀ n, (AT.put n k v r).1.wd) := fun n => AT.wd_put n k v wr
  clear ih hf hbx nbA h nd
  have thlt : Op.bytesLess k'.toList k.toList = true := hlt; have uhlt : Op.bytesLess k.toList k'.toList = false := Ord.asymm hlt; have yhlt : (k'.toList == k.toList) = false := Bl.ne hlt; have zhlt : (k.toList == k'.toList) = false := Bl.ne' hlt
  go_enter Try.func134, Try.ntmps134
  go_upto_region 8 with (fail)
  go_region_with (go_at_call 134; (with_reducible refine HIH.out.mono ?_); rintro e w1 ⟨n, hn, rfl, hI, hF⟩; obtain ⟨-, p2, p3, -, pf⟩ := HSt.out w1 hF)
  all_goals
    have HFn := Lib.hid (HFin.out _ _ hn hI hF)
    clear hn hI hF
    go_wp2_with fail
    clear p2 p3 pf
    generalize (w1.setCell ⟨b, 2, none⟩ (.pointer (AT.put n k v r).1.adr)) = wc at *
    obtain ⟨hn, hI, nd, nd2, hF, hsub⟩ := HFn.out
    have HI := Lib.hid hI; have HN2 := Lib.hid nd2; have HFr := Lib.hid hF; have HS := Lib.hid hsub; have HN := Lib.hid hn; have HND := Lib.hid nd
    have hz := HSz.out n
    have hw := HW.out n
    clear hI nd2 hF hsub hn nd HFn
    have HLv := Lib.hid (level b k' v' l (AT.put n k v r).1 d wc HI.out HN2.out wl hw (by omega))
    clear hw
    refine HLv.out.mono ?_
    rintro e w3 ⟨rfl, hI3, hF3⟩
    have HI3 := Lib.hid hI3; have HF3 := Lib.hid hF3
    clear hI3 hF3
    go_wp2_with fail
    go_ret2
    refine ⟨n, HN.out, by rw [HPut.out]; rfl, by rw [HPut.out]; exact HI3.out, HFr.out.trans HF3.out (fun i _ h => h) (fun i hi h => ?_)⟩
    rcases HS.out i h with e | e
    · have := HN.out; omega
    · exact e
theorem set_v {w : World} {b : Nat} {k : ByteArray} {v : Unit} {l r : Option Addr} {d : Int} (h : w.heap[b]? = some (.cells (blk k v l r d) 225 (0, 0))) (v' : Unit) :
    (w).heap[b]? = some (.cells (blk k v' l r d) 225 (0, 0)) ∧ Fr (· = b) w (w) := by
  exact ⟨h, Fr.refl _ _⟩
set_option maxRecDepth 100000 in
theorem put_eq (v : Unit) (b : Nat) (k : ByteArray) (v' : Unit) (l r : AT ByteArray Unit) (d : Int) (w : World)
    (h : In w (.node b k v' l r d)) (nd : (AT.node b k v' l r d).fp.Nodup) (wl : l.wd) (wr : r.wd) (sz : l.size + r.size < 576460752303423488) :
    Calls Try.prog 134 #[.pointer (some ⟨b, 0, none⟩), .string k, .agg #[]] w (PutPost k v (.node b k v' l r d) w) := by
  have hput : ∀ n, AT.put n k v (.node b k v' l r d) = (AT.level b k v l r, false) := fun n => by rw [AT.put, if_neg (by rw [Ord.irr]; simp), if_neg (by rw [Ord.irr]; simp)]
  have HP := Lib.hid hput
  have hf := box_fr v w
  have h := In.fr h hf (fun _ _ h => h)

  clear hput
  obtain ⟨hb, hl, hr⟩ := h
  obtain ⟨nbl, nbr, ndl, ndr, ndx⟩ := AT.nodup_node.1 nd
  obtain ⟨c0, c2, c3, -, cf⟩ := cells hb

  have kp := part_run hb
  have tk : Op.bytesLess k.toList k.toList = false := Ord.irr k
  obtain ⟨hb2, hfx⟩ := set_v hb v
  have HB2 := Lib.hid hb2
  have hl2 := Lib.hid (In.fr hl hfx (fun x hx e => nbl (e ▸ hx)))
  have hr2 := Lib.hid (In.fr hr hfx (fun x hx e => nbr (e ▸ hx)))
  have HF2 := Lib.hid (hf.trans hfx (T := (· = b)) (fun _ _ h => h.elim) (fun _ _ h => h))
  have ND := Lib.hid nd
  clear hb nd hfx hl hr hf hb2
  go_enter Try.func134, Try.ntmps134
  go_wp2_with fail
  generalize (box v w) = w2 at *
  refine (level b k v l r d w2 ⟨HB2.out, hl2.out, hr2.out⟩ ND.out wl wr (by omega)).mono ?_
  rintro e w3 ⟨rfl, HI, HF⟩
  have HI3 := Lib.hid HI; have HF3 := Lib.hid HF
  clear HI HF
  go_wp2_with fail
  go_ret2
  refine ⟨w.heap.size, Nat.le_refl _, by rw [HP.out]; rfl, by rw [HP.out]; exact HI3.out, HF2.out.trans HF3.out (fun i _ h => AT.mem_node.2 (.inl h)) (fun i hi h => h)⟩
theorem put (k : ByteArray) (v : Unit) (t : AT ByteArray Unit) : ∀ (w : World), In w t → t.fp.Nodup → t.wd → t.size < 288230376151711744 →
    Calls Try.prog 134 #[.pointer t.adr, .string k, .agg #[]] w (PutPost k v t w) := by
  induction t with
  | nil =>
    intro w _ _ _ _
    exact put_nil k v w
  | node b k' v' l r d ihl ihr =>
    intro w h nd wd sz
    obtain ⟨nbl, nbr, ndl, ndr, ndx⟩ := AT.nodup_node.1 nd
    have sz' : l.size + r.size < 288230376151711744 := by simp only [AT.size] at sz; omega
    by_cases h1 : Ord.lt k k' = true
    · exact put_low k v b k' v' l r d w h nd wd.1 wd.2.1 (by omega) (fun W hW => ihl W hW ndl wd.1 (by omega)) h1
    · by_cases h2 : Ord.lt k' k = true
      · exact put_high k v b k' v' l r d w h nd wd.1 wd.2.1 (by omega) (fun W hW => ihr W hW ndr wd.2.1 (by omega)) h2
      · obtain rfl : k = k' := Ord.tri _ _ (by simpa using h1) (by simpa using h2)
        exact put_eq v b k v' l r d w h nd wd.1 wd.2.1 (by omega)
end AvlSE
end Go.Proofs.Ytkhhdadlpilbmaa
