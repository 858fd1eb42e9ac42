/- The maps in order (avl) at one instance: the map's methods that change or look. -/
import Derived.Test.YtkhhdadlpilbmaaAvlESE
import Derived.Test.YtkhhdadlpilbmaaEngT
import Derived.Deep.LoopGhost
namespace Go.Proofs.Ytkhhdadlpilbmaa
open Go.RowKit
namespace AvlSE
attribute [local go_sem] Eng.ev Eng.getO_cons Eng.getO_nil

/-- A map in the heap: r is its root, L its pairs in order, F its blocks. -/
def MapIn (w : World) (r : Option Addr) (L : List (ByteArray × Unit)) (F : List Nat) : Prop :=
  ∃ t : AT ByteArray Unit, t.adr = r ∧ t.toL = L ∧ t.fp = F ∧ In w t ∧ F.Nodup ∧ t.wd ∧ t.bal ∧ Srt L
theorem MapIn.fr {S : Nat → Prop} {w w' : World} {r : Option Addr} {L : List (ByteArray × Unit)} {F : List Nat} (h : MapIn w r L F) (hf : Fr S w w') (hs : ∀ b ∈ F, ¬ S b) : MapIn w' r L F := by
  obtain ⟨t, h1, h2, h3, h4, h5⟩ := h
  exact ⟨t, h1, h2, h3, In.fr h4 hf (by rw [h3]; exact hs), h5⟩
theorem MapIn.lt {w : World} {r : Option Addr} {L : List (ByteArray × Unit)} {F : List Nat} (h : MapIn w r L F) : ∀ b ∈ F, b < w.heap.size := by
  obtain ⟨t, h1, h2, rfl, h4, h5⟩ := h
  exact In.lt h4
theorem MapIn.srt {w : World} {r : Option Addr} {L : List (ByteArray × Unit)} {F : List Nat} (h : MapIn w r L F) : Srt L := by
  obtain ⟨t, -, -, -, -, -, -, -, h⟩ := h
  exact h
theorem MapIn.nil (w : World) : MapIn w none [] [] := ⟨.nil, rfl, rfl, rfl, trivial, List.nodup_nil, trivial, trivial, List.Pairwise.nil⟩

theorem insL_length (k : ByteArray) (v : Unit) (n : Nat) {t : AT ByteArray Unit} (hs : Srt t.toL) : (insL k v t.toL).length = if (AT.put n k v t).2 then t.toL.length + 1 else t.toL.length := by
  have h1 := (AT.toL_put n k v hs).1
  have h2 := (AT.perm_put n k v t).length_eq
  rw [← h1, AT.toL_length, AT.toL_length, ← AT.fp_length, ← AT.fp_length, h2]
  split <;> simp
theorem delL_length (k : ByteArray) {t : AT ByteArray Unit} (hs : Srt t.toL) : (delL k t.toL).length = if (AT.drop k t).2 then t.toL.length - 1 else t.toL.length := by
  rw [(AT.toL_drop k hs).2]
  generalize t.toL = l at hs
  induction l with
  | nil => simp [delL, hasL]
  | cons p l ih =>
    rw [delL_cons, hasL_cons]
    cases h : sameK k p.1 with
    | true =>
      have hn : ∀ q ∈ l, sameK k q.1 = false := fun q hq => by
        have h1 := (List.pairwise_cons.1 hs).1 q hq
        rw [sameK_iff.1 h]
        simp [sameK, h1]
      rw [if_pos rfl, delL_none hn]; simp
    | false =>
      rw [if_neg (by simp), List.length_cons, ih hs.tail, Bool.false_or]
      cases h2 : hasL k l with
      | true =>
        have : 0 < l.length := by cases l with | nil => simp [hasL] at h2 | cons => simp
        simp; omega
      | false => simp

/-- What a call of Put comes to. -/
def PutMPost (B off : Nat) (c : Array Value) (TB : TypeId) (k : ByteArray) (v : Unit) (L : List (ByteArray × Unit)) (F : List Nat) (w : World) (e : Ending) (w' : World) : Prop :=
  ∃ (r' : Option Addr) (F' : List Nat), e = .returned (.bool (!hasL k L)) ∧ w'.heap[B]? = some (.cells ((c.setIfInBounds off (.pointer r')).setIfInBounds (off + 1) (.int .i64 (insL k v L).length)) TB (0, 0)) ∧
    MapIn w' r' (insL k v L) F' ∧ (∀ x ∈ F', x ∈ F ∨ w.heap.size ≤ x) ∧ Fr (fun x => x = B ∨ x ∈ F) w w'

theorem set_same {c : Array Value} {i : Nat} {u : Value} (h : c[i]? = some u) : c.setIfInBounds i u = c := by
  apply Array.ext_getElem?
  intro j
  rw [Array.getElem?_setIfInBounds]
  split
  · rename_i e; subst e; split
    · exact h.symm
    · rename_i hn; rw [Array.getElem?_eq_none (by omega)] at h; cases h
  · rfl

/-- What the drawn statement reads: the root, and the box; and the tree. -/
structure Sees (B off : Nat) (v : Unit) (t : AT ByteArray Unit) (b : Nat) (w : World) : Prop where
  one : w.cell? ⟨B, off, none⟩ = some (.pointer t.adr)
  two : True
theorem Sees.fr {S : Nat → Prop} {B off : Nat} {v : Unit} {t : AT ByteArray Unit} {b : Nat} {w w' : World} (h : Sees B off v t b w) (hf : Fr S w w') (h1 : ¬ S B) (h2 : ¬ S b) (hB : B < w.heap.size) (hb : b < w.heap.size) : Sees B off v t b w' := by
  obtain ⟨a, z⟩ := h
  have k1 : ∀ o, w'.cell? ⟨B, o, none⟩ = w.cell? ⟨B, o, none⟩ := fun o => World.cell?_of_block (w := w) (a := ⟨B, o, none⟩) (hf.block B hB h1)
  have k2 : ∀ o, w'.cell? ⟨b, o, none⟩ = w.cell? ⟨b, o, none⟩ := fun o => World.cell?_of_block (w := w) (a := ⟨b, o, none⟩) (hf.block b hb h2)
  exact ⟨(k1 off).trans a, by first | exact z | (simp only [k2]; exact z)⟩
set_option maxRecDepth 100000 in
set_option maxHeartbeats 400000 in
theorem put3 {ops : Array Oper} (hops : Eng.fnOps Try.f86 3 = ops) (a0 : Act) (Q : Exit → Act → World → Prop) (B off : Nat) (k : ByteArray) (v : Unit) (t : AT ByteArray Unit) (w0 : World) (c : Array Value) (TB : TypeId) (hB : w0.heap[B]? = some (.cells c TB (0, 0))) (h0 : c[off]? = some (.pointer t.adr)) (hBF : B ∉ t.fp) (hI : In w0 t) (nd : t.fp.Nodup) (wd : t.wd) (sz : t.size < 288230376151711744)
    (hn : a0.tmps.size = 34) (h_0 : a0.tmps.getD 0 undef = .pointer (some ⟨B, off, none⟩)) (h_1 : a0.tmps.getD 1 undef = .string k) (h_5 : a0.tmps.getD 5 undef = .pointer (some ⟨w0.heap.size, 0, none⟩))
    (hpost : ∀ (x : Nat → Value) (w' : World) (n : Nat), x 7 = .pointer (AT.put n k v t).1.adr → x 8 = .bool (AT.put n k v t).2 → (box v w0).drew.heap.size ≤ n → In w' (AT.put n k v t).1 → Fr (fun x => x ∈ t.fp) (box v w0).drew w' → Q .normal (Eng.setAll a0 [7, 8, 11, 12, 13, 14, 15, 16, 17, 18, 19, 20] x) w') :
    (Code.region 3 ops true).wp Try.prog Q a0 (box v w0) := by
  simp only [Eng.fnOps, Eng.regOps, Try.f86, Option.bind_some, Option.getD_some, Nat.reduceEqDiff, ↓reduceIte, Nat.reduceBEq] at hops
  subst hops
  have hlt := lt_of_heap hB
  have hf := (box_fr v w0).trans (Fr.drew (fun _ => False) _) (T := fun _ => False) (fun _ _ h => h) (fun _ _ h => h)
  have HIt := Lib.hid (In.fr hI hf (fun _ _ h => h))
  have hsz : (box v w0).drew.heap.size = w0.heap.size + 1 := by show (box v w0).heap.size = _; simp
  have hbt : B ∉ t.fp ∧ w0.heap.size ∉ t.fp ∧ B < (box v w0).drew.heap.size ∧ w0.heap.size < (box v w0).drew.heap.size := ⟨hBF, fun e => Nat.lt_irrefl _ (In.lt hI _ e), by omega, by omega⟩

  have hsee : Sees B off v t w0.heap.size (box v w0) := ⟨(World.cell?_of_block (w := w0) (a := ⟨B, off, none⟩) ((box_fr v w0).block B hlt (fun h => h))).trans ((cell_of_block hB off).trans h0), trivial⟩
  clear hf hsz
  have HSt := Lib.hid (Sees.fr hsee (Fr.drew (fun _ => False) _) (fun h => h) (fun h => h) (by have := hbt.2.2.1; exact this) (by have := hbt.2.2.2; exact this))
  have hSS : (box v w0).drew.cell? ⟨B, off, none⟩ = some (.pointer t.adr) ∧ (True) := ⟨HSt.out.one, HSt.out.two⟩
  refine Eng.regionT (.take 0 (.take 1 (.take 2 (.take 3 (.take 4 (.take 5 (.alt 6 (.take 7 (.take 8 (.take 9 (.take 10 (.take 11 (.done)))))) (.stop)))))))) (fun w' => w'.cell? ⟨B, off, none⟩ = some (.pointer t.adr) ∧ (True)) (by kernel_rfl) 34 hn (by kernel_rfl) (by kernel_rfl) (by kernel_rfl) (hSS) (fun a b ha hb => ?_)
  subst ha
  have hb0 : b 0 = .pointer (some ⟨B, off, none⟩) := (hb 0).symm.trans h_0
  have hb1 : b 1 = .string k := (hb 1).symm.trans h_1
  have hb5 : b 5 = .pointer (some ⟨w0.heap.size, 0, none⟩) := (hb 5).symm.trans h_5
  clear hb h_0 h_1 h_5
  have HP := Lib.hid hpost; have HN := Lib.hid hn
  clear hpost hn
  refine Eng.TW.take' (v := ?_) rfl rfl (by decide) (by kernel_rfl) (fun w hw => ?_) ?_
  rotate_left
  · (try dsimp only at hw); go_simp; first | done | with_reducible rfl
  refine Eng.TW.take' (v := ?_) rfl rfl (by decide) (by kernel_rfl) (fun w hw => ?_) ?_
  rotate_left
  · (try dsimp only at hw); go_simp; first | done | with_reducible rfl
  refine Eng.TW.take' (v := ?_) rfl rfl (by decide) (by kernel_rfl) (fun w hw => ?_) ?_
  rotate_left
  · (try dsimp only at hw); go_simp; first | done | with_reducible rfl
  refine Eng.TW.take' (v := ?_) rfl rfl (by decide) (by kernel_rfl) (fun w hw => ?_) ?_
  rotate_left
  · (try dsimp only at hw); go_simp; first | done | with_reducible rfl
  refine Eng.TW.take' (v := ?_) rfl rfl (by decide) (by kernel_rfl) (fun w hw => ?_) ?_
  rotate_left
  · (try dsimp only at hw); go_simp; first | done | with_reducible rfl
  refine Eng.TW.take' (v := ?_) rfl rfl (by decide) (by kernel_rfl) (fun w hw => ?_) ?_
  rotate_left
  · (try dsimp only at hw); go_simp; first | done | with_reducible rfl
  refine Eng.TW.call rfl rfl (by decide) (by kernel_rfl) ?_ (put k v t _ HIt.out nd wd sz) ?_
  · go_simp
  rintro e w2 ⟨n, hn, rfl, hI1, hF⟩
  have HNn := Lib.hid hn; have HI1 := Lib.hid hI1; have HFr := Lib.hid hF
  have HSt2 := Lib.hid (HSt.out.fr hF hbt.1 hbt.2.1 hbt.2.2.1 hbt.2.2.2)
  have hSS : w2.cell? ⟨B, off, none⟩ = some (.pointer t.adr) ∧ (True) := ⟨HSt2.out.one, HSt2.out.two⟩
  clear hn hI1 hF
  refine ⟨_, rfl, hSS, ?_⟩
  refine Eng.TW.take' (v := ?_) rfl rfl (by decide) (by kernel_rfl) (fun w hw => ?_) ?_
  rotate_left
  · (try dsimp only at hw); go_simp; first | done | with_reducible rfl
  refine Eng.TW.take' (v := ?_) rfl rfl (by decide) (by kernel_rfl) (fun w hw => ?_) ?_
  rotate_left
  · (try dsimp only at hw); go_simp; first | done | with_reducible rfl
  refine Eng.TW.take' (v := ?_) rfl rfl (by decide) (by kernel_rfl) (fun w hw => ?_) ?_
  rotate_left
  · (try dsimp only at hw); go_simp; first | done | with_reducible rfl
  refine Eng.TW.take' (v := ?_) rfl rfl (by decide) (by kernel_rfl) (fun w hw => ?_) ?_
  rotate_left
  · (try dsimp only at hw); go_simp; first | done | with_reducible rfl
  refine Eng.TW.take' (v := ?_) rfl rfl (by decide) (by kernel_rfl) (fun w hw => ?_) ?_
  rotate_left
  · (try dsimp only at hw); go_simp; first | done | with_reducible rfl
  refine Eng.TW.end_ [7, 8, 11, 12, 13, 14, 15, 16, 17, 18, 19, 20] HN.out (by kernel_rfl) (by kernel_rfl) ?_
  exact HP.out _ _ n rfl rfl HNn.out HI1.out HFr.out
set_option maxRecDepth 100000 in
theorem Put (B off : Nat) (c : Array Value) (TB : TypeId) (k : ByteArray) (v : Unit) (r : Option Addr) (L : List (ByteArray × Unit)) (F : List Nat) (w : World)
    (hB : w.heap[B]? = some (.cells c TB (0, 0))) (h0 : c[off]? = some (.pointer r)) (h1 : c[off + 1]? = some (.int .i64 L.length)) (hM : MapIn w r L F) (hBF : B ∉ F) (sz : L.length < 144115188075855872) :
    Calls Try.prog 86 #[.pointer (some ⟨B, off, none⟩), .string k, .agg #[]] w (PutMPost B off c TB k v L F w) := by
  obtain ⟨t, rfl, rfl, rfl, hI, nd, wd, bal, srt⟩ := hM
  have hlen := fun n => insL_length k v n srt
  have hfp := fun n (hn : w.heap.size ≤ n) => put_nodup n k v nd (fun x hx => Nat.lt_of_lt_of_le (In.lt hI x hx) hn)
  have hto := fun n => AT.toL_put n k v srt
  have hwd : ∀ n, (AT.put n k v t).1.wd := fun n => AT.wd_put n k v wd
  have hbal := fun n => (AT.bal_put n k v wd bal).1
  have hsrt := (srt_insL (k := k) v srt).1
  have hBw := lt_of_heap hB
  have hsz : (box v w).drew.heap.size = w.heap.size + 1 := by show (box v w).heap.size = _; simp
  have HL := Lib.hid hlen; have HP := Lib.hid hfp; have HT := Lib.hid hto; have HW := Lib.hid hwd; have HBal := Lib.hid hbal; have HS := Lib.hid hsrt; have HB := Lib.hid hB
  have H1 := Lib.hid h1; have H0 := Lib.hid h0; have HI := Lib.hid hI; have HWd := Lib.hid wd
  have HSz := Lib.hid hsz
  have szt : t.size < 288230376151711744 := by rw [AT.toL_length] at sz; omega
  have HF := Lib.hid ((box_fr v w).trans (Fr.drew (fun _ => False) _) (T := fun _ => False) (fun _ _ h => h) (fun _ _ h => h))
  clear hlen hfp hto hwd hbal hsrt hB h0 h1 hI wd bal srt hsz
  go_enter Try.func86, Try.ntmps86
  go_upto_region 3 with (fail)
  refine put3 (by kernel_rfl) _ _ B off k v t w c TB HB.out H0.out hBF HI.out nd HWd.out szt rfl rfl rfl rfl ?_
  intro x w1 n e7 e8 hn hI1 hF
  simp only [Eng.setAll, Act.put, List.setIfInBounds_toArray, List.set_cons_succ, List.set_cons_zero]
  rw [e7, e8]
  have hF : Fr (fun x => x ∈ t.fp) w w1 := HF.out.trans hF (fun _ _ h => h.elim) (fun _ _ h => h)
  have hB1 := (hF.block B hBw hBF).trans HB.out
  have c1' : w1.cell? ⟨B, off + 1, none⟩ = some (.int .i64 t.toL.length) := (cell_of_block hB1 (off + 1)).trans H1.out
  have c0' : w1.cell? ⟨B, off, none⟩ = some (.pointer t.adr) := (cell_of_block hB1 off).trans H0.out
  have cf' := free_of_block hB1
  have HB1 := Lib.hid hB1; have HF1 := Lib.hid hF; have HI1 := Lib.hid hI1
  have hn : w.heap.size ≤ n := by have := HSz.out; omega
  have HP := Lib.hid (HP.out n hn); have HT := Lib.hid (HT.out n); have HW := Lib.hid (HW.out n); have HBal := Lib.hid (HBal.out n); have HL := Lib.hid (HL.out n)
  have HN := Lib.hid hn
  clear e7 e8 hn
  generalize (AT.put n k v t).1 = t' at *
  generalize (AT.put n k v t).2 = q at *
  have hBt : B ∉ t'.fp := fun x => by rcases HP.out.2 B x with e | e; have := HN.out; omega; exact hBF e
  clear hB1 hF hI1
  cases q with
  | true =>
    go_wp2_with fail
    go_ret
    have hlen : (insL k v t.toL).length = t.toL.length + 1 := by simpa using HL.out
    refine ⟨t'.adr, t'.fp, ?_, ?_, ⟨t', rfl, HT.out.1, rfl, In.fr HI1.out ((Fr.setCell w1 ⟨B, off, none⟩ _ (S := (· = B)) rfl).trans (Fr.setCell _ ⟨B, off + 1, none⟩ _ (S := (· = B)) rfl) (T := (· = B)) (fun _ _ h => h) (fun _ _ h => h)) (fun x hx e => hBt (e ▸ hx)), HP.out.1, HW.out, HBal.out, HS.out⟩, ?_, ?_⟩
    · rw [← HT.out.2]; rfl
    · refine (heap_setCell_same (heap_setCell_same HB1.out _) _).trans ?_
      rw [hlen]; rfl
    · intro x hx
      rcases HP.out.2 x hx with e | e
      · exact .inr (by have := HN.out; omega)
      · exact .inl e
    · exact (HF1.out.trans (Fr.setCell w1 ⟨B, off, none⟩ _ (S := (· = B)) rfl) (T := fun x => x = B ∨ x ∈ t.fp) (fun _ _ h => .inr h) (fun _ _ h => .inl h)).trans (Fr.setCell _ ⟨B, off + 1, none⟩ _ (S := (· = B)) rfl) (fun _ _ h => h) (fun _ _ h => .inl h)
  | false =>
    go_wp2_with fail
    go_ret
    have hlen : (insL k v t.toL).length = t.toL.length := by simpa using HL.out
    refine ⟨t'.adr, t'.fp, ?_, ?_, ⟨t', rfl, HT.out.1, rfl, In.fr HI1.out (Fr.setCell w1 ⟨B, off, none⟩ _ (S := (· = B)) rfl) (fun x hx e => hBt (e ▸ hx)), HP.out.1, HW.out, HBal.out, HS.out⟩, ?_, ?_⟩
    · rw [← HT.out.2]; rfl
    · refine (heap_setCell_same HB1.out _).trans ?_
      rw [hlen, set_same (i := off + 1)]
      rw [Array.getElem?_setIfInBounds, if_neg (by omega)]
      exact H1.out
    · intro x hx
      rcases HP.out.2 x hx with e | e
      · exact .inr (by have := HN.out; omega)
      · exact .inl e
    · exact HF1.out.trans (Fr.setCell w1 ⟨B, off, none⟩ _ (S := (· = B)) rfl) (fun _ _ h => .inr h) (fun _ _ h => .inl h)

theorem Put_none (k : ByteArray) (v : Unit) (w : World) : Calls Try.prog 86 #[.pointer none, .string k, .agg #[]] w fun e w' => e = .returned (.bool false) ∧ Fr (fun _ => False) w w' := by
  have HF := Lib.hid (box_fr v w)
  go_enter Try.func86, Try.ntmps86
  go_wp2_with fail
  go_ret
  exact ⟨rfl, HF.out⟩

/-- What a call of Drop comes to. -/
def DropMPost (B off : Nat) (c : Array Value) (TB : TypeId) (k : ByteArray) (L : List (ByteArray × Unit)) (F : List Nat) (w : World) (e : Ending) (w' : World) : Prop :=
  ∃ (r' : Option Addr) (F' : List Nat), e = .returned (.bool (hasL k L)) ∧ w'.heap[B]? = some (.cells ((c.setIfInBounds off (.pointer r')).setIfInBounds (off + 1) (.int .i64 (delL k L).length)) TB (0, 0)) ∧
    MapIn w' r' (delL k L) F' ∧ (∀ x ∈ F', x ∈ F) ∧ Fr (fun x => x = B ∨ x ∈ F) w w'

set_option maxRecDepth 100000 in
theorem Drop (B off : Nat) (c : Array Value) (TB : TypeId) (k : ByteArray) (r : Option Addr) (L : List (ByteArray × Unit)) (F : List Nat) (w : World)
    (hB : w.heap[B]? = some (.cells c TB (0, 0))) (h0 : c[off]? = some (.pointer r)) (h1 : c[off + 1]? = some (.int .i64 L.length)) (hM : MapIn w r L F) (hBF : B ∉ F) (sz : L.length < 144115188075855872) :
    Calls Try.prog 84 #[.pointer (some ⟨B, off, none⟩), .string k] w (DropMPost B off c TB k L F w) := by
  obtain ⟨t, rfl, rfl, rfl, hI, nd, wd, bal, srt⟩ := hM
  have HC := Lib.hid (drop k t w hI nd wd (by rw [AT.toL_length] at sz; omega))
  have hlen := delL_length k srt
  have hfp := AT.sub_drop k nd
  have hto := AT.toL_drop k srt
  have hwd : (AT.drop k t).1.wd := AT.wd_drop k wd
  have hbal := (AT.bal_drop k wd bal).1
  have hsrt := srt_delL k srt
  have c0 : w.cell? ⟨B, off, none⟩ = some (.pointer t.adr) := (cell_of_block hB off).trans h0
  have c1 : w.cell? ⟨B, off + 1, none⟩ = some (.int .i64 t.toL.length) := (cell_of_block hB (off + 1)).trans h1
  have cf := free_of_block hB
  have hBw := lt_of_heap hB
  unfold DropPost at HC
  generalize (AT.drop k t).1 = t' at *
  generalize (AT.drop k t).2 = q at *
  have HL := Lib.hid hlen; have HP := Lib.hid hfp; have HT := Lib.hid hto; have HW := Lib.hid hwd; have HBal := Lib.hid hbal; have HS := Lib.hid hsrt; have HB := Lib.hid hB
  have H1 := Lib.hid h1
  clear hlen hfp hto hwd hbal hsrt hB h0 h1 hI wd bal srt nd
  go_enter Try.func84, Try.ntmps84
  go_wp2_with fail
  refine HC.out.mono ?_
  rintro e w1 ⟨rfl, hI1, hF⟩
  have hB1 := (hF.block B hBw hBF).trans HB.out
  have c1' : w1.cell? ⟨B, off + 1, none⟩ = some (.int .i64 t.toL.length) := (cell_of_block hB1 (off + 1)).trans H1.out
  have c0' : w1.cell? ⟨B, off, none⟩ = some (.pointer t.adr) := by rw [cell_of_block hB1, ← cell_of_block HB.out, c0]
  have cf' := free_of_block hB1
  have HB1 := Lib.hid hB1; have HF1 := Lib.hid hF; have HI1 := Lib.hid hI1
  have hBt : B ∉ t'.fp := fun x => hBF (HP.out.2 B x)
  clear hB1 hF hI1 c0 c1 cf
  have hpos : q = true → 0 < t.toL.length := fun e => by
    have := HT.out.2; rw [e] at this
    cases h : t.toL with
    | nil => rw [h] at this; simp [hasL] at this
    | cons => simp
  cases q with
  | true =>
    have hpos' := hpos rfl
    clear hpos
    go_wp2_with fail
    go_ret
    have hlen : (delL k t.toL).length = t.toL.length - 1 := by simpa using HL.out
    refine ⟨t'.adr, t'.fp, ?_, ?_, ⟨t', rfl, HT.out.1, rfl, In.fr HI1.out ((Fr.setCell w1 ⟨B, off, none⟩ _ (S := (· = B)) rfl).trans (Fr.setCell _ ⟨B, off + 1, none⟩ _ (S := (· = B)) rfl) (T := (· = B)) (fun _ _ h => h) (fun _ _ h => h)) (fun x hx e => hBt (e ▸ hx)), HP.out.1, HW.out, HBal.out, HS.out⟩, ?_, ?_⟩
    · rw [← HT.out.2]; rfl
    · refine (heap_setCell_same (heap_setCell_same HB1.out _) _).trans ?_
      rw [hlen, show ((t.toL.length - 1 : Nat) : Int) = (t.toL.length : Int) - 1 by omega]
    · exact HP.out.2
    · exact (HF1.out.trans (Fr.setCell w1 ⟨B, off, none⟩ _ (S := (· = B)) rfl) (T := fun x => x = B ∨ x ∈ t.fp) (fun _ _ h => .inr h) (fun _ _ h => .inl h)).trans (Fr.setCell _ ⟨B, off + 1, none⟩ _ (S := (· = B)) rfl) (fun _ _ h => h) (fun _ _ h => .inl h)
  | false =>
    go_wp2_with fail
    go_ret
    have hlen : (delL k t.toL).length = t.toL.length := by simpa using HL.out
    refine ⟨t'.adr, t'.fp, ?_, ?_, ⟨t', rfl, HT.out.1, rfl, In.fr HI1.out (Fr.setCell w1 ⟨B, off, none⟩ _ (S := (· = B)) rfl) (fun x hx e => hBt (e ▸ hx)), HP.out.1, HW.out, HBal.out, HS.out⟩, ?_, ?_⟩
    · rw [← HT.out.2]; rfl
    · refine (heap_setCell_same HB1.out _).trans ?_
      rw [hlen, set_same (i := off + 1)]
      rw [Array.getElem?_setIfInBounds, if_neg (by omega)]
      exact H1.out
    · exact HP.out.2
    · exact HF1.out.trans (Fr.setCell w1 ⟨B, off, none⟩ _ (S := (· = B)) rfl) (fun _ _ h => .inr h) (fun _ _ h => .inl h)

theorem Drop_none (k : ByteArray) (w : World) : Calls Try.prog 84 #[.pointer none, .string k] w fun e w' => e = .returned (.bool false) ∧ w = w' := by
  go_enter Try.func84, Try.ntmps84
  go_wp2_with fail
  go_ret
  exact ⟨rfl, rfl⟩


theorem top_none (w : World) : Calls Try.prog 136 #[.pointer none] w fun e w' => e = .returned (.pointer none) ∧ w = w' := by
  go_enter Try.func136, Try.ntmps136
  go_wp2_with fail
  go_ret
  exact ⟨rfl, rfl⟩
theorem top (a : Addr) (r : Option Addr) (w : World) (ha : a.spot = none) (h : w.cell? a = some (.pointer r)) : Calls Try.prog 136 #[.pointer (some a)] w fun e w' => e = .returned (.pointer r) ∧ w = w' := by
  obtain ⟨b, o, s⟩ := a
  dsimp only at ha
  subst ha
  go_enter Try.func136, Try.ntmps136
  go_wp2_with fail
  go_ret
  exact ⟨rfl, rfl⟩
end AvlSE
end Go.Proofs.Ytkhhdadlpilbmaa
