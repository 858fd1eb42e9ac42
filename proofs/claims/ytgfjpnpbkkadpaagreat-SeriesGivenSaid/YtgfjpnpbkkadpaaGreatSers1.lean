/- Views of series in the heap: a map of bags by names. -/
import Derived.Test.YtgfjpnpbkkadpaaGreatMk
import Derived.Test.YtgfjpnpbkkadpaaGreatBags
import Derived.Test.YtgfjpnpbkkadpaaGreatSerP
import Derived.Test.YtgfjpnpbkkadpaaGreatSetWs
namespace Go.Proofs.YtgfjpnpbkkadpaaGreat
open Go.RowKit
namespace Ser
open BagP Bag Mk
abbrev TNm : TypeId := 178
abbrev TMp : TypeId := 30
abbrev TVw : TypeId := 32
abbrev Nm := ByteArray × ByteArray
abbrev kvN (k : Nm) : Value := .agg #[.string k.1, .string k.2]
def okN (k : Nm) : Prop := k.1.size ≤ maxLen ∧ k.2.size ≤ maxLen
theorem lits_str (d : Nat) {s : ByteArray} (hs : s.size ≤ maxLen) : Tryz.prog.keyLits (d + 1) 9 [.string s] = some [.string s.data.toList] := by
  unfold Program.keyLits
  rw [Tryz.underlying9]
  simp [hs]
theorem lits_nm (d : Nat) {k : Nm} (hk : okN k) : ∃ l, Tryz.prog.keyLits (d + 2) TNm [.string k.1, .string k.2] = some l := by
  unfold Program.keyLits
  rw [Tryz.underlying178]
  have hc : Tryz.prog.cellsOf TNm = 2 := by kernel_rfl
  have hc1 : Tryz.prog.cellsOf 9 = 1 := by kernel_rfl
  have h1 := lits_str d hk.1
  have h2 := lits_str d hk.2
  simp [hc, hc1, h1, h2]
theorem keyN : KV TNm kvN okN := by
  refine ⟨Maps.Keyed.of_law (deep_law_laid (by kernel_rfl) (m := 2) (by omega) (of_decide_eq_true (by kernel_rfl)) (by kernel_rfl) (by kernel_rfl)), fun h => ?_, fun {k} h => ?_⟩
  · rename_i a b
    obtain ⟨a1, a2⟩ := a; obtain ⟨b1, b2⟩ := b
    simp [kvN] at h
    rw [h.1, h.2]
  · obtain ⟨m, hm⟩ : ∃ m, Tryz.prog.types.size + 1 = m + 2 := ⟨Tryz.prog.types.size - 1, by kernel_rfl⟩
    obtain ⟨l, hl⟩ := lits_nm m h
    have hk : (Tryz.prog.keyType TNm && (kvN k).formed Tryz.prog TNm) = true := by kernel_rfl
    refine ⟨.string (keyBytes l), ?_⟩
    unfold keyOf
    rw [Tryz.underlying178]
    dsimp only
    rw [if_pos hk, hm]
    show (Tryz.prog.keyLits (m + 2) TNm [.string k.1, .string k.2]).map _ = _
    rw [hl]; rfl
/-- An entry: a name's bag. -/
structure En where
  k : Nm
  b : Nat
  L : List (Int × Int)
  F : List Nat
def fE (E : List En) (k : Nm) : Option En := E.find? (fun e => decide (e.k = k))
def lk (E : List En) (k : Nm) : List (Int × Int) := match fE E k with | some e => e.L | none => []
def pf (E : List En) (k : Nm) : Option Value := (fE E k).map (fun e => .pointer (some ⟨e.b, 0, none⟩))
def fl (h r : Nat) (E : List En) : List Nat := h :: r :: E.flatMap En.F
theorem mem_fl {h r : Nat} {E : List En} {x : Nat} : x ∈ fl h r E ↔ x = h ∨ x = r ∨ ∃ e ∈ E, x ∈ e.F := by simp [fl]
/-- The view in block h, with the map r, of windows of W moments. -/
structure VwI (w : World) (h r : Nat) (W : Int) (n : Nat) (E : List En) : Prop where
  v : Bk w h #[.int .i64 W, .map (some r)] TVw
  m : PM TNm kvN okN w r n (pf E)
  b : ∀ e ∈ E, BagZ w e.b e.L e.F
  hr : h ≠ r
  a : ∀ e ∈ E, h ∉ e.F ∧ r ∉ e.F
  d : E.Pairwise (fun e e' => ∀ x ∈ e.F, x ∉ e'.F)
section
variable {w w' : World} {h r : Nat} {W : Int} {n : Nat} {E : List En}
theorem VwI.lt (H : VwI w h r W n E) : ∀ x ∈ fl h r E, x < w.heap.size := by
  intro x hx
  rcases mem_fl.1 hx with rfl | rfl | ⟨e, he, hx⟩
  · exact lt_of_heap H.v
  · exact H.m.lt
  · exact (H.b e he).lt x hx
theorem VwI.fr {S : Nat → Prop} (H : VwI w h r W n E) (hf : Fr S w w') (hs : ∀ x ∈ fl h r E, ¬ S x) : VwI w' h r W n E :=
  ⟨H.v.fr hf (fun b hb => by simp at hb; subst hb; exact hs _ (mem_fl.2 (.inl rfl))), H.m.fr hf (hs _ (mem_fl.2 (.inr (.inl rfl)))),
    fun e he => (H.b e he).fr hf (fun b hb => hs b (mem_fl.2 (.inr (.inr ⟨e, he, hb⟩)))), H.hr, H.a, H.d⟩
theorem VwI.new (w : World) (W : Int) : VwI ((w.alloc (.map #[] 0)).alloc (.cells #[.int .i64 W, .map (some w.heap.size)] TVw)) (w.heap.size + 1) w.heap.size W 0 [] := by
  refine ⟨?_, ?_, by simp, by omega, by simp, List.Pairwise.nil⟩
  · have := Bk.new (w.alloc (.map #[] 0)) #[.int .i64 W, .map (some w.heap.size)] TVw
    simpa using this
  · exact (PM.new w).fr (Fr.alloc (fun _ => False) _ _) (fun h => h)
theorem fE_none {k : Nm} : fE E k = none ↔ ∀ e ∈ E, e.k ≠ k := by simp [fE]
/-- A bag turns. -/
theorem VwI.turn (H : VwI w h r W n E) {k : Nm} {e : En} (hk : fE E k = some e) {L' : List (Int × Int)} {F' : List Nat} (hb : BagZ w' e.b L' F') (ht : Tn e.F F' w w') :
    ∃ E', VwI w' h r W n E' ∧ fE E' k = some ⟨k, e.b, L', F'⟩ ∧ (∀ j, j ≠ k → lk E' j = lk E j) ∧ Tn (fl h r E) (fl h r E') w w' := by
  obtain ⟨hp, E1, E2, rfl, hn⟩ := List.find?_eq_some_iff_append.1 hk
  have hek : e.k = k := by simpa using hp
  have hE1 : ∀ a ∈ E1, a.k ≠ k := fun a ha => by simpa using hn a ha
  have he : e ∈ E1 ++ e :: E2 := by simp
  have hd := List.pairwise_append.1 H.d
  have hd2 := List.pairwise_cons.1 hd.2.1
  have hx : ∀ a ∈ E1 ++ E2, ∀ x ∈ a.F, x ∉ e.F := by
    intro a ha x hx hxe
    rcases List.mem_append.1 ha with ha | ha
    · exact hd.2.2 a ha e (by simp) x hx hxe
    · exact hd2.1 a ha x hxe hx
  have hnew : ∀ y, y < w.heap.size → y ∉ e.F → y ∉ F' := fun y hy hye hy' => by
    rcases (ht.sub y hy').1 with h1 | h1
    · exact hye h1
    · omega
  have hlt := H.lt
  refine ⟨E1 ++ ⟨k, e.b, L', F'⟩ :: E2, ⟨H.v.fr ht.fr (fun b hb => by simp at hb; subst hb; exact (H.a e he).1), (H.m.fr ht.fr (H.a e he).2).to (fun j _ => ?_), ?_, H.hr, ?_, ?_⟩, ?_, ?_, ?_⟩
  · unfold pf fE
    rw [List.find?_append, List.find?_append, List.find?_cons, List.find?_cons, hek]
    cases List.find? (fun e => decide (e.k = j)) E1 with
    | some a => rfl
    | none => cases decide (k = j) <;> rfl
  · intro a ha
    rcases List.mem_append.1 ha with ha | ha
    · exact (H.b a (by simp [ha])).fr ht.fr (hx a (by simp [ha]))
    · rcases List.mem_cons.1 ha with rfl | ha
      · exact hb
      · exact (H.b a (by simp [ha])).fr ht.fr (hx a (by simp [ha]))
  · intro a ha
    rcases List.mem_append.1 ha with ha | ha
    · exact H.a a (by simp [ha])
    · rcases List.mem_cons.1 ha with rfl | ha
      · exact ⟨hnew _ (hlt _ (mem_fl.2 (.inl rfl))) (H.a e he).1, hnew _ (hlt _ (mem_fl.2 (.inr (.inl rfl)))) (H.a e he).2⟩
      · exact H.a a (by simp [ha])
  · refine List.pairwise_append.2 ⟨hd.1, List.pairwise_cons.2 ⟨fun a ha x hxF hxa => ?_, hd2.2⟩, fun a ha b hb x hxa hxb => ?_⟩
    · exact hnew x (hlt x (mem_fl.2 (.inr (.inr ⟨a, by simp [ha], hxa⟩)))) (hx a (by simp [ha]) x hxa) hxF
    · rcases List.mem_cons.1 hb with rfl | hb
      · exact hnew x (hlt x (mem_fl.2 (.inr (.inr ⟨a, by simp [ha], hxa⟩)))) (hx a (by simp [ha]) x hxa) hxb
      · exact hd.2.2 a ha b (by simp [hb]) x hxa hxb
  · unfold fE
    rw [List.find?_append, List.find?_eq_none.2 (fun a ha => by simpa using hE1 a ha), List.find?_cons]
    simp
  · intro j hj
    unfold lk fE
    rw [List.find?_append, List.find?_append, List.find?_cons, List.find?_cons, hek]
    cases List.find? (fun e => decide (e.k = j)) E1 with
    | some a => rfl
    | none => rw [decide_eq_false (fun e => hj e.symm)]
  · refine ⟨ht.fr.mono (fun i _ hi => mem_fl.2 (.inr (.inr ⟨e, he, hi⟩))), fun x hxx => ?_⟩
    rcases mem_fl.1 hxx with rfl | rfl | ⟨a, ha, hxa⟩
    · exact ⟨.inl (mem_fl.2 (.inl rfl)), Nat.lt_of_lt_of_le (lt_of_heap H.v) ht.fr.size⟩
    · exact ⟨.inl (mem_fl.2 (.inr (.inl rfl))), Nat.lt_of_lt_of_le H.m.lt ht.fr.size⟩
    · have hold : ∀ a ∈ E1 ++ e :: E2, x ∈ a.F → (x ∈ fl h r (E1 ++ e :: E2) ∨ w.heap.size ≤ x) ∧ x < w'.heap.size := fun a ha hxa =>
        ⟨.inl (mem_fl.2 (.inr (.inr ⟨a, ha, hxa⟩))), Nat.lt_of_lt_of_le (hlt x (mem_fl.2 (.inr (.inr ⟨a, ha, hxa⟩)))) ht.fr.size⟩
      rcases List.mem_append.1 ha with ha | ha
      · exact hold a (by simp [ha]) hxa
      · rcases List.mem_cons.1 ha with rfl | ha
        · refine ⟨?_, (ht.sub x hxa).2⟩
          rcases (ht.sub x hxa).1 with h1 | h1
          · exact .inl (mem_fl.2 (.inr (.inr ⟨e, he, h1⟩)))
          · exact .inr h1
        · exact hold a (by simp [ha]) hxa
/-- A new bag comes in. -/
theorem VwI.put (H : VwI w h r W n E) {k : Nm} (hk : okN k) (hn : fE E k = none) (hl : n + 1 < 1000000) :
    ∃ w', (Instr.mapUpdate TMp (.map (some r)) (kvN k) (.pointer (some ⟨w.heap.size, 0, none⟩))).run Tryz.prog (w.alloc (.cells #[.pointer none, .int .i64 0, .int .i64 0] TBag)) = .ok () w' ∧
      VwI w' h r W (n + 1) (⟨k, w.heap.size, [], [w.heap.size]⟩ :: E) ∧ Tn (fl h r E) (fl h r (⟨k, w.heap.size, [], [w.heap.size]⟩ :: E)) w w' ∧ Fr (· = r) (w.alloc (.cells #[.pointer none, .int .i64 0, .int .i64 0] TBag)) w' := by
  have hfa := Fr.alloc (fun _ => False) w (.cells #[.pointer none, .int .i64 0, .int .i64 0] TBag)
  have H1 := H.fr hfa (fun _ _ h => h)
  have hz := BagZ.new w
  have hlt := H.lt
  obtain ⟨w', hrun, hm, hf⟩ := H1.m.upd keyN Tryz.underlying30 hk (.pointer (some ⟨w.heap.size, 0, none⟩)) (f' := pf (⟨k, w.heap.size, [], [w.heap.size]⟩ :: E)) (by unfold pf fE; rw [List.find?_cons]; simp) (fun j hj => by unfold pf fE; rw [List.find?_cons, decide_eq_false (fun e => hj e.symm)]) hl
  have hr : r < w.heap.size := hlt r (mem_fl.2 (.inr (.inl rfl)))
  have hh : h < w.heap.size := hlt h (mem_fl.2 (.inl rfl))
  have hfw : Fr (· = r) w w' := hfa.trans hf (fun _ _ h => h.elim) (fun _ _ h => h)
  refine ⟨w', hrun, ⟨H1.v.fr hf (fun b hb => by simp at hb; subst hb; exact H.hr), hm, ?_, H.hr, ?_, ?_⟩, ?_, hf⟩
  · intro e he
    rcases List.mem_cons.1 he with rfl | he
    · exact hz.fr hf (fun b hb => by simp at hb; omega)
    · exact (H1.b e he).fr hf (fun b hb e' => (H.a e he).2 (e' ▸ hb))
  · intro e he
    rcases List.mem_cons.1 he with rfl | he
    · simp; omega
    · exact H.a e he
  · refine List.pairwise_cons.2 ⟨fun e he x hx hx' => ?_, H.d⟩
    simp at hx
    have := hlt x (mem_fl.2 (.inr (.inr ⟨e, he, hx'⟩)))
    omega
  · refine ⟨hfw.mono (fun i _ hi => by subst hi; exact mem_fl.2 (.inr (.inl rfl))), fun x hx => ?_⟩
    have hs : w.heap.size + 1 ≤ w'.heap.size := by have := hf.size; simpa using this
    rcases mem_fl.1 hx with rfl | rfl | ⟨e, he, hx⟩
    · exact ⟨.inl (mem_fl.2 (.inl rfl)), by omega⟩
    · exact ⟨.inl (mem_fl.2 (.inr (.inl rfl))), by omega⟩
    · rcases List.mem_cons.1 he with rfl | he
      · simp at hx; exact ⟨.inr (by omega), by omega⟩
      · have := hlt x (mem_fl.2 (.inr (.inr ⟨e, he, hx⟩)))
        exact ⟨.inl (mem_fl.2 (.inr (.inr ⟨e, he, hx⟩))), by omega⟩
/-- A name's bag goes. -/
theorem VwI.del (H : VwI w h r W n E) {k : Nm} (hk : okN k) (ty : TypeId) :
    ∃ w', (Builtin.delete_ #[TMp, TNm] ty #[.map (some r), kvN k]).run Tryz.prog w = .ok (.tuple #[]) w' ∧
      VwI w' h r W n (E.filter (fun e => decide (e.k ≠ k))) ∧ Tn (fl h r E) (fl h r (E.filter (fun e => decide (e.k ≠ k)))) w w' ∧ Fr (· = r) w w' := by
  have hlt := H.lt
  have hpf : ∀ j, pf (E.filter (fun e => decide (e.k ≠ k))) j = if j = k then none else pf E j := by
    intro j
    unfold pf fE
    rw [List.find?_filter]
    by_cases hj : j = k
    · subst hj
      rw [if_pos rfl, List.find?_eq_none.2 (fun a _ => by simp)]; rfl
    · rw [if_neg hj]
      congr 2
      funext e
      by_cases he : e.k = j
      · subst he; simp [hj]
      · simp [he]
  obtain ⟨w', hrun, hm, hf⟩ := H.m.del keyN Tryz.underlying30 hk (f' := pf (E.filter (fun e => decide (e.k ≠ k)))) (by rw [hpf, if_pos rfl]) (fun j hj => by rw [hpf, if_neg hj]) ty
  refine ⟨w', hrun, ⟨H.v.fr hf (fun b hb => by simp at hb; subst hb; exact H.hr), hm, fun e he => (H.b e (List.mem_filter.1 he).1).fr hf (fun b hb e' => (H.a e (List.mem_filter.1 he).1).2 (e' ▸ hb)), H.hr, fun e he => H.a e (List.mem_filter.1 he).1, H.d.filter _⟩, ⟨hf.mono (fun i _ hi => by subst hi; exact mem_fl.2 (.inr (.inl rfl))), fun x hx => ?_⟩, hf⟩
  have hx' : x ∈ fl h r E := by
    rcases mem_fl.1 hx with rfl | rfl | ⟨e, he, hx⟩
    · exact mem_fl.2 (.inl rfl)
    · exact mem_fl.2 (.inr (.inl rfl))
    · exact mem_fl.2 (.inr (.inr ⟨e, (List.mem_filter.1 he).1, hx⟩))
  exact ⟨.inl hx', Nat.lt_of_lt_of_le (hlt x hx') hf.size⟩
theorem lk_del (E : List En) (k : Nm) : lk (E.filter (fun e => decide (e.k ≠ k))) k = [] := by
  unfold lk
  rw [fE_none.2 (fun e he => by simpa using (List.mem_filter.1 he).2)]
theorem lk_del' (E : List En) {k j : Nm} (hj : j ≠ k) : lk (E.filter (fun e => decide (e.k ≠ k))) j = lk E j := by
  unfold lk fE
  rw [List.find?_filter]
  have : (fun e : En => decide (decide (e.k ≠ k) = true ∧ decide (e.k = j) = true)) = (fun e => decide (e.k = j)) := by
    funext e
    by_cases he : e.k = j
    · subst he; simp [hj]
    · simp [he]
  rw [this]
end
end Ser
end Go.Proofs.YtgfjpnpbkkadpaaGreat
namespace Go.Proofs.YtgfjpnpbkkadpaaGreat
open Go.RowKit
namespace Ser
open KeyP SetP SetW BagP Bag Mk
attribute [local go_sem] Eng.ev Eng.getO_cons Eng.getO_nil
theorem step0v {P : Program} {ops : Array Oper} {Q : Exit → Act → World → Prop} {S : World → Prop} {b : Nat → Value} {a0 : Act} {n : Nat} {i : Nat} {t : Eng.Tr} {us : List (Nat × Value)} {w w' : World} {o : Oper} {v : Value} (ho : ops[i]? = some o) (hd : o.dst = none) (hw : Eng.want3 ops us o = some true)
    (hrun : (execOp (Eng.ev b us) o).run P w = .ok (.value v) w') (hS : S w') (h : Eng.TW P ops Q S b a0 n t us w') : Eng.TW P ops Q S b a0 n (.alt i t .stop) us w := by
  refine ⟨⟨o, ho, hw, fun K hK => ?_⟩, trivial⟩
  rw [hrun]
  exact hK v w' hS (by rw [hd]; exact h)
theorem tdiv_in {a m : Int} (ha : in64 a) (hm : 1 ≤ m) : -9223372036854775808 ≤ a.tdiv m ∧ a.tdiv m ≤ 9223372036854775807 := by
  obtain ⟨h1, h2⟩ := ha
  by_cases h : 0 ≤ a
  · rw [Int.tdiv_eq_ediv_of_nonneg h]
    have := Int.ediv_nonneg h (by omega : 0 ≤ m)
    have := Int.ediv_le_self m h
    omega
  · rw [tdiv_neg (by omega) hm]
    have := Int.ediv_nonneg (by omega : 0 ≤ -a) (by omega : 0 ≤ m)
    have h3 := Int.ediv_le_self m (by omega : 0 ≤ -a)
    by_cases h4 : -a / m = 0
    · omega
    · omega
theorem slot64 {a : Int} (w : Int) (ha : in64 a) : in64 (slot a w) := by
  obtain ⟨h1, h2⟩ := ha
  have := slot_range (a := a) (w := w) (n := 9223372036854775808) (by omega) (by omega) (by omega)
  exact ⟨by omega, by omega⟩
set_option maxRecDepth 100000 in
theorem Slot (a W : Int) (w : World) (ha : in64 a) : Calls Tryz.prog 54 #[.int .i64 a, .int .i64 W] w fun e w' => e = .returned (.int .i64 (slot a W)) ∧ w = w' := by
  have hs64 := slot64 W ha
  by_cases hW : W < 1
  · have hs : slot a W = a := by unfold slot; rw [show max W 1 = 1 by omega]; simp
    have h0 : a.tmod 1 = 0 := Int.tmod_one a
    have h1 : a.tdiv 1 = a := Int.tdiv_one a
    have h3 : wrap64 a = a := by unfold wrap64; obtain ⟨h3, h4⟩ := ha; omega
    rw [hs]
    go_enter Tryz.func54, Tryz.ntmps54
    go_wp2_with fail
    go_ret
    exact ⟨by first | rfl | exact congrArg (fun n => Ending.returned (.int .i64 n)) h3, rfl⟩
  · have hs := slot_code a W
    rw [show max W 1 = W by omega] at hs
    have hin := tdiv_in ha (by omega : 1 ≤ W)
    have h3 : wrap64 (a.tdiv W) = a.tdiv W := by unfold wrap64; omega
    by_cases ht : a.tmod W < 0
    · rw [if_pos ht] at hs
      rw [hs] at hs64
      have h5 : wrap64 (a.tdiv W - 1) = a.tdiv W - 1 := by unfold wrap64; obtain ⟨h5, h6⟩ := hs64; omega
      have t0 : decide (a.tmod W < 0) = true := by simpa using ht
      rw [hs]
      clear hs hs64 hin
      go_enter Tryz.func54, Tryz.ntmps54
      go_wp2_with fail
      go_ret
      exact ⟨by first | rfl | exact congrArg (fun n => Ending.returned (.int .i64 n)) h5 | exact congrArg (fun n => Ending.returned (.int .i64 n)) ((congrArg (fun u => wrap64 (u - 1)) h3).trans h5), rfl⟩
    · rw [if_neg ht] at hs
      have t0 : decide (a.tmod W < 0) = false := by simpa using ht
      rw [hs]
      clear hs hs64 hin
      go_enter Tryz.func54, Tryz.ntmps54
      go_wp2_with fail
      go_ret
      exact ⟨by first | rfl | exact congrArg (fun n => Ending.returned (.int .i64 n)) h3, rfl⟩
def NewPost (W : Int) (w : World) (e : Ending) (w' : World) : Prop := ∃ h r, e = .returned (.pointer (some ⟨h, 0, none⟩)) ∧ VwI w' h r (max W 1) 0 [] ∧ w.heap.size ≤ r ∧ w.heap.size ≤ h ∧ Below w.heap.size w w'
set_option maxRecDepth 100000 in
theorem New (W : Int) (w : World) : Calls Tryz.prog 14 #[.int .i64 W] w (NewPost W w) := by
  have hmm := @run_makeMap Tryz.prog
  have HE : Hid (∀ m, m = max W 1 → ∀ e, e = Ending.returned (.pointer (some ⟨w.heap.size + 1, 0, none⟩)) → NewPost W w e ((w.alloc (.map #[] 0)).alloc (.cells #[.int .i64 m, .map (some w.heap.size)] TVw))) := fun m hm e he => by
    subst hm
    exact ⟨_, _, he, VwI.new w _, Nat.le_refl _, by omega, ((Below.refl _ w).alloc (Nat.le_refl _) _).alloc (by simp) _⟩
  by_cases ha : W < 1
  all_goals
    go_enter Tryz.func14, Tryz.ntmps14
    go_wp2_with fail
    go_ret
    refine HE.out _ ?_ _ rfl
    omega
set_option maxRecDepth 100000 in
theorem made (h r : Nat) (W : Int) (n : Nat) (E : List En) (w : World) (H : VwI w h r W n E) : Calls Tryz.prog 55 #[.pointer (some ⟨h, 0, none⟩)] w fun e w' => e = .returned (.bool true) ∧ w = w' := by
  have v0 : w.cell? ⟨h, 1, none⟩ = some (.map (some r)) := H.v.cell 1
  clear H
  have hq : ∀ W : World, (binOp .neq TMp (.map (some r)) (.map none)).run Tryz.prog W = .ok (.bool true) W := fun W => by kernel_rfl
  go_enter Tryz.func55, Tryz.ntmps55
  go_wp2_with fail
  go_ret
  exact ⟨rfl, rfl⟩
set_option maxRecDepth 100000 in
theorem made_none (w : World) : Calls Tryz.prog 55 #[.pointer none] w fun e w' => e = .returned (.bool false) ∧ w = w' := by
  go_enter Tryz.func55, Tryz.ntmps55
  go_wp2_with fail
  go_ret
  exact ⟨rfl, rfl⟩
set_option maxRecDepth 100000 in
theorem made_empty (h : Nat) (w : World) (v0 : w.cell? ⟨h, 1, none⟩ = some (.map none)) : Calls Tryz.prog 55 #[.pointer (some ⟨h, 0, none⟩)] w fun e w' => e = .returned (.bool false) ∧ w = w' := by
  have hq : ∀ W : World, (binOp .neq TMp (.map none) (.map none)).run Tryz.prog W = .ok (.bool false) W := fun W => by kernel_rfl
  go_enter Tryz.func55, Tryz.ntmps55
  go_wp2_with fail
  go_ret
  exact ⟨rfl, rfl⟩
set_option maxRecDepth 100000 in
theorem zeroB (w : World) : (zeroValue 135).run Tryz.prog w = .ok (.pointer none) w := by kernel_rfl
/-- A name's pointer. -/
def ptr (E : List En) (k : Nm) : Value := (pf E k).getD (.pointer none)
set_option maxRecDepth 100000 in
theorem VwI.look {w : World} {h r : Nat} {W : Int} {n : Nat} {E : List En} (H : VwI w h r W n E) {s o : ByteArray} (hk : okN (s, o)) {p : Value} (hp : ptr E (s, o) = p) : (Instr.lookup TMp (.map (some r)) (.agg #[.string s, .string o]) false).run Tryz.prog w = .ok p w := by
  subst hp
  exact H.m.look keyN Tryz.underlying30 zeroB hk
set_option maxRecDepth 100000 in
theorem bag (h r : Nat) (W : Int) (n : Nat) (E : List En) (s o : ByteArray) (w : World) (H : VwI w h r W n E) (hk : okN (s, o)) : Calls Tryz.prog 62 #[.pointer (some ⟨h, 0, none⟩), .string s, .string o] w fun e w' => e = .returned (ptr E (s, o)) ∧ w = w' := by
  have v0 : w.cell? ⟨h, 1, none⟩ = some (.map (some r)) := H.v.cell 1
  have hl := H.look hk rfl
  have HM := Lib.hid (made h r W n E w H)
  clear H
  generalize ptr E (s, o) = p at *
  go_enter Tryz.func62, Tryz.ntmps62
  go_wp2_with fail
  refine HM.out.mono ?_
  rintro e w1 ⟨rfl, rfl⟩
  go_wp2_with fail
  go_ret
  exact ⟨rfl, rfl⟩
set_option maxRecDepth 100000 in
theorem bag_not (v : Value) (s o : ByteArray) (w : World) (hm : Calls Tryz.prog 55 #[v] w fun e w' => e = .returned (.bool false) ∧ w = w') : Calls Tryz.prog 62 #[v, .string s, .string o] w fun e w' => e = .returned (.pointer none) ∧ w = w' := by
  have HM := Lib.hid hm
  clear hm
  go_enter Tryz.func62, Tryz.ntmps62
  go_wp2_with fail
  refine HM.out.mono ?_
  rintro e w1 ⟨rfl, rfl⟩
  go_wp2_with fail
  go_ret
  exact ⟨rfl, rfl⟩
/-- A record in its box, its name in a box, and the view. -/
structure AS (w0 w : World) (h r : Nat) (W : Int) (n : Nat) (E0 E : List En) (B C : Nat) (x : Sn) (p : Value) : Prop where
  v : VwI w h r W n E
  t : Tn (fl h r E0) (fl h r E) w0 w
  xb : Bk w B x.arr TSn
  kb : Bk w C #[.string x.s, .string x.o] TNm
  nb : ∀ y ∈ fl h r E, y ≠ B ∧ y ≠ C
  pp : ptr E (x.s, x.o) = p
  ok : okN (x.s, x.o)
section
variable {w0 w w' : World} {h r : Nat} {W : Int} {n n' : Nat} {E0 E E' : List En} {B C : Nat} {x : Sn} {p p' : Value}
theorem AS.fr (H : AS w0 w h r W n E0 E B C x p) (hf : Fr (fun _ => False) w w') : AS w0 w' h r W n E0 E B C x p :=
  ⟨H.v.fr hf (fun _ _ h => h), H.t.trans (Tn.of_fr hf H.v.lt), H.xb.fr hf (fun _ _ h => h), H.kb.fr hf (fun _ _ h => h), H.nb, H.pp, H.ok⟩
theorem AS.turn (H : AS w0 w h r W n E0 E B C x p) (hv : VwI w' h r W n' E') (ht : Tn (fl h r E) (fl h r E') w w') (hp : ptr E' (x.s, x.o) = p') : AS w0 w' h r W n' E0 E' B C x p' := by
  have hB := lt_of_heap H.xb
  have hC := lt_of_heap H.kb
  refine ⟨hv, H.t.trans ht, H.xb.fr ht.fr (fun b hb hm => by simp at hb; subst hb; exact (H.nb _ hm).1 rfl), H.kb.fr ht.fr (fun b hb hm => by simp at hb; subst hb; exact (H.nb _ hm).2 rfl), fun y hy => ?_, hp, H.ok⟩
  rcases (ht.sub y hy).1 with h1 | h1
  · exact H.nb y h1
  · exact ⟨by omega, by omega⟩
set_option maxRecDepth 100000 in
theorem AS.look (H : AS w0 w h r W n E0 E B C x p) : (Instr.lookup TMp (.map (some r)) (.agg #[.string x.s, .string x.o]) false).run Tryz.prog w = .ok p w := H.v.look H.ok H.pp
theorem ptr_some {k : Nm} {e : En} (h : fE E k = some e) : ptr E k = .pointer (some ⟨e.b, 0, none⟩) := by unfold ptr pf; rw [h]; rfl
theorem ptr_none {k : Nm} (h : fE E k = none) : ptr E k = .pointer none := by unfold ptr pf; rw [h]; rfl
end
set_option maxRecDepth 100000 in
set_option maxHeartbeats 400000 in
theorem ad2a {ops : Array Oper} (hops : Eng.fnOps Tryz.f58 2 = ops) (a0 : Act) (Q : Exit → Act → World → Prop) (w0 w : World) (h r : Nat) (W : Int) (n : Nat) (E0 E : List En) (B C : Nat) (y : Sn) (hst : AS w0 w h r W n E0 E B C y (.pointer none))
    (hn : a0.tmps.size = 38) (h_0 : a0.tmps.getD 0 undef = .pointer (some ⟨h, 0, none⟩)) (h_4 : a0.tmps.getD 4 undef = .pointer (some ⟨C, 0, none⟩))
    (hpost : ∀ (x : Nat → Value) (w' : World), x 16 = .bool true → AS w0 w' h r W n E0 E B C y (.pointer none) → Q .normal (Eng.setAll a0 [10, 11, 12, 13, 14, 15, 16] x) w') :
    (Code.region 2 ops true).wp Tryz.prog Q a0 w := by
  simp only [Eng.fnOps, Eng.regOps, Tryz.f58, Option.bind_some, Option.getD_some, Nat.reduceEqDiff, ↓reduceIte, Nat.reduceBEq] at hops
  subst hops
  have HSt := Lib.hid (hst.fr (Fr.drew _ _))
  have hSS : w.drew.cell? ⟨h, 0, none⟩ = some (.int .i64 W) ∧ w.drew.cell? ⟨h, 1, none⟩ = some (.map (some r)) ∧ w.drew.cell? ⟨C, 0, none⟩ = some (.string y.s) ∧ w.drew.cell? ⟨C, 1, none⟩ = some (.string y.o) ∧ w.drew.cell? ⟨B, 6, none⟩ = some (.int .i64 y.b) ∧ (Instr.lookup TMp (.map (some r)) (.agg #[.string y.s, .string y.o]) false).run Tryz.prog w.drew = .ok (.pointer none) w.drew := ⟨HSt.out.v.v.cell 0, HSt.out.v.v.cell 1, HSt.out.kb.cell 0, HSt.out.kb.cell 1, HSt.out.xb.cell 6, HSt.out.look⟩
  refine Eng.regionN [(0, true), (1, true), (2, true), (3, true), (4, true), (5, true), (6, true)] (fun w' => w'.cell? ⟨h, 0, none⟩ = some (.int .i64 W) ∧ w'.cell? ⟨h, 1, none⟩ = some (.map (some r)) ∧ w'.cell? ⟨C, 0, none⟩ = some (.string y.s) ∧ w'.cell? ⟨C, 1, none⟩ = some (.string y.o) ∧ w'.cell? ⟨B, 6, none⟩ = some (.int .i64 y.b) ∧ (Instr.lookup TMp (.map (some r)) (.agg #[.string y.s, .string y.o]) false).run Tryz.prog w' = .ok (.pointer none) w') (by kernel_rfl) 38 hn (by kernel_rfl) rfl (by kernel_rfl) (hSS) (fun a b ha hb => ?_)
  subst ha
  have hb0 : b 0 = .pointer (some ⟨h, 0, none⟩) := (hb 0).symm.trans h_0
  have hb4 : b 4 = .pointer (some ⟨C, 0, none⟩) := (hb 4).symm.trans h_4
  clear hb h_0 h_4
  have HP := Lib.hid hpost; have HN := Lib.hid hn
  clear hpost hn
  refine Eng.Sch.take (v := ?_) rfl rfl (by decide) (by kernel_rfl) (fun w hw => ?_) ?_
  rotate_left
  · (try dsimp only at hw); go_simp; first | done | with_reducible rfl
  refine Eng.Sch.take (v := ?_) rfl rfl (by decide) (by kernel_rfl) (fun w hw => ?_) ?_
  rotate_left
  · (try dsimp only at hw); go_simp; first | done | with_reducible rfl
  refine Eng.Sch.take (v := ?_) rfl rfl (by decide) (by kernel_rfl) (fun w hw => ?_) ?_
  rotate_left
  · (try dsimp only at hw); go_simp; first | done | with_reducible rfl
  refine Eng.Sch.take (v := ?_) rfl rfl (by decide) (by kernel_rfl) (fun w hw => ?_) ?_
  rotate_left
  · (try dsimp only at hw); go_simp; first | done | with_reducible rfl
  refine Eng.Sch.take (v := ?_) rfl rfl (by decide) (by kernel_rfl) (fun w hw => ?_) ?_
  rotate_left
  · (try dsimp only at hw); go_simp; first | done | with_reducible rfl
  refine Eng.Sch.take (v := ?_) rfl rfl (by decide) (by kernel_rfl) (fun w hw => ?_) ?_
  rotate_left
  · (try dsimp only at hw); go_simp; first | done | with_reducible rfl
  refine Eng.Sch.take (v := ?_) rfl rfl (by decide) (by kernel_rfl) (fun w hw => ?_) ?_
  rotate_left
  · (try dsimp only at hw); go_simp; first | done | with_reducible rfl
  refine Eng.Sch.end_ [10, 11, 12, 13, 14, 15, 16] HN.out (by kernel_rfl) (by kernel_rfl) ?_
  exact HP.out _ _ rfl HSt.out

set_option maxRecDepth 100000 in
set_option maxHeartbeats 400000 in
theorem ad2b {ops : Array Oper} (hops : Eng.fnOps Tryz.f58 2 = ops) (a0 : Act) (Q : Exit → Act → World → Prop) (w0 w : World) (h r : Nat) (W : Int) (n : Nat) (E0 E : List En) (B C : Nat) (y : Sn) (bb : Nat) (hst : AS w0 w h r W n E0 E B C y (.pointer (some ⟨bb, 0, none⟩)))
    (hn : a0.tmps.size = 38) (h_0 : a0.tmps.getD 0 undef = .pointer (some ⟨h, 0, none⟩)) (h_4 : a0.tmps.getD 4 undef = .pointer (some ⟨C, 0, none⟩))
    (hpost : ∀ (x : Nat → Value) (w' : World), x 16 = .bool false → AS w0 w' h r W n E0 E B C y (.pointer (some ⟨bb, 0, none⟩)) → Q .normal (Eng.setAll a0 [10, 11, 12, 13, 14, 15, 16] x) w') :
    (Code.region 2 ops true).wp Tryz.prog Q a0 w := by
  simp only [Eng.fnOps, Eng.regOps, Tryz.f58, Option.bind_some, Option.getD_some, Nat.reduceEqDiff, ↓reduceIte, Nat.reduceBEq] at hops
  subst hops
  have HSt := Lib.hid (hst.fr (Fr.drew _ _))
  have hSS : w.drew.cell? ⟨h, 0, none⟩ = some (.int .i64 W) ∧ w.drew.cell? ⟨h, 1, none⟩ = some (.map (some r)) ∧ w.drew.cell? ⟨C, 0, none⟩ = some (.string y.s) ∧ w.drew.cell? ⟨C, 1, none⟩ = some (.string y.o) ∧ w.drew.cell? ⟨B, 6, none⟩ = some (.int .i64 y.b) ∧ (Instr.lookup TMp (.map (some r)) (.agg #[.string y.s, .string y.o]) false).run Tryz.prog w.drew = .ok (.pointer (some ⟨bb, 0, none⟩)) w.drew := ⟨HSt.out.v.v.cell 0, HSt.out.v.v.cell 1, HSt.out.kb.cell 0, HSt.out.kb.cell 1, HSt.out.xb.cell 6, HSt.out.look⟩
  refine Eng.regionN [(0, true), (1, true), (2, true), (3, true), (4, true), (5, true), (6, true)] (fun w' => w'.cell? ⟨h, 0, none⟩ = some (.int .i64 W) ∧ w'.cell? ⟨h, 1, none⟩ = some (.map (some r)) ∧ w'.cell? ⟨C, 0, none⟩ = some (.string y.s) ∧ w'.cell? ⟨C, 1, none⟩ = some (.string y.o) ∧ w'.cell? ⟨B, 6, none⟩ = some (.int .i64 y.b) ∧ (Instr.lookup TMp (.map (some r)) (.agg #[.string y.s, .string y.o]) false).run Tryz.prog w' = .ok (.pointer (some ⟨bb, 0, none⟩)) w') (by kernel_rfl) 38 hn (by kernel_rfl) rfl (by kernel_rfl) (hSS) (fun a b ha hb => ?_)
  subst ha
  have hb0 : b 0 = .pointer (some ⟨h, 0, none⟩) := (hb 0).symm.trans h_0
  have hb4 : b 4 = .pointer (some ⟨C, 0, none⟩) := (hb 4).symm.trans h_4
  clear hb h_0 h_4
  have HP := Lib.hid hpost; have HN := Lib.hid hn
  clear hpost hn
  refine Eng.Sch.take (v := ?_) rfl rfl (by decide) (by kernel_rfl) (fun w hw => ?_) ?_
  rotate_left
  · (try dsimp only at hw); go_simp; first | done | with_reducible rfl
  refine Eng.Sch.take (v := ?_) rfl rfl (by decide) (by kernel_rfl) (fun w hw => ?_) ?_
  rotate_left
  · (try dsimp only at hw); go_simp; first | done | with_reducible rfl
  refine Eng.Sch.take (v := ?_) rfl rfl (by decide) (by kernel_rfl) (fun w hw => ?_) ?_
  rotate_left
  · (try dsimp only at hw); go_simp; first | done | with_reducible rfl
  refine Eng.Sch.take (v := ?_) rfl rfl (by decide) (by kernel_rfl) (fun w hw => ?_) ?_
  rotate_left
  · (try dsimp only at hw); go_simp; first | done | with_reducible rfl
  refine Eng.Sch.take (v := ?_) rfl rfl (by decide) (by kernel_rfl) (fun w hw => ?_) ?_
  rotate_left
  · (try dsimp only at hw); go_simp; first | done | with_reducible rfl
  refine Eng.Sch.take (v := ?_) rfl rfl (by decide) (by kernel_rfl) (fun w hw => ?_) ?_
  rotate_left
  · (try dsimp only at hw); go_simp; first | done | with_reducible rfl
  refine Eng.Sch.take (v := ?_) rfl rfl (by decide) (by kernel_rfl) (fun w hw => ?_) ?_
  rotate_left
  · (try dsimp only at hw); go_simp; first | done | with_reducible rfl
  refine Eng.Sch.end_ [10, 11, 12, 13, 14, 15, 16] HN.out (by kernel_rfl) (by kernel_rfl) ?_
  exact HP.out _ _ rfl HSt.out

set_option maxRecDepth 100000 in
set_option maxHeartbeats 400000 in
theorem ad3 {ops : Array Oper} (hops : Eng.fnOps Tryz.f58 3 = ops) (a0 : Act) (Q : Exit → Act → World → Prop) (w0 w : World) (h r : Nat) (W : Int) (n : Nat) (E0 E : List En) (B C : Nat) (y : Sn) (p : Value) (hn0 : fE E (y.s, y.o) = none) (hl : n + 1 < 1000000) (hst : AS w0 w h r W n E0 E B C y p)
    (hn : a0.tmps.size = 38) (h_0 : a0.tmps.getD 0 undef = .pointer (some ⟨h, 0, none⟩)) (h_4 : a0.tmps.getD 4 undef = .pointer (some ⟨C, 0, none⟩))
    (hpost : ∀ (x : Nat → Value) (w' : World) (b : Nat) (F : List Nat), AS w0 w' h r W (n + 1) E0 (⟨(y.s, y.o), b, [], F⟩ :: E) B C y (.pointer (some ⟨b, 0, none⟩)) → Q .normal (Eng.setAll a0 [17, 18, 19, 20, 21, 22, 23] x) w') :
    (Code.region 3 ops true).wp Tryz.prog Q a0 w := by
  simp only [Eng.fnOps, Eng.regOps, Tryz.f58, Option.bind_some, Option.getD_some, Nat.reduceEqDiff, ↓reduceIte, Nat.reduceBEq] at hops
  subst hops
  have HSt := Lib.hid (hst.fr (Fr.drew _ _))
  have hSS : w.drew.cell? ⟨h, 0, none⟩ = some (.int .i64 W) ∧ w.drew.cell? ⟨h, 1, none⟩ = some (.map (some r)) ∧ w.drew.cell? ⟨C, 0, none⟩ = some (.string y.s) ∧ w.drew.cell? ⟨C, 1, none⟩ = some (.string y.o) ∧ w.drew.cell? ⟨B, 6, none⟩ = some (.int .i64 y.b) := ⟨HSt.out.v.v.cell 0, HSt.out.v.v.cell 1, HSt.out.kb.cell 0, HSt.out.kb.cell 1, HSt.out.xb.cell 6⟩
  refine Eng.regionT (.take 0 (.take 1 (.take 2 (.take 3 (.take 4 (.take 5 (.alt 6 (.alt 7 (.done) (.stop)) (.stop)))))))) (fun w' => w'.cell? ⟨h, 0, none⟩ = some (.int .i64 W) ∧ w'.cell? ⟨h, 1, none⟩ = some (.map (some r)) ∧ w'.cell? ⟨C, 0, none⟩ = some (.string y.s) ∧ w'.cell? ⟨C, 1, none⟩ = some (.string y.o) ∧ w'.cell? ⟨B, 6, none⟩ = some (.int .i64 y.b)) (by kernel_rfl) 38 hn (by kernel_rfl) (by kernel_rfl) (by kernel_rfl) (hSS) (fun a b ha hb => ?_)
  subst ha
  have hb0 : b 0 = .pointer (some ⟨h, 0, none⟩) := (hb 0).symm.trans h_0
  have hb4 : b 4 = .pointer (some ⟨C, 0, none⟩) := (hb 4).symm.trans h_4
  clear hb h_0 h_4
  have HP := Lib.hid hpost; have HN := Lib.hid hn
  clear hpost hn
  refine Eng.TW.take' (v := ?_) rfl rfl (by decide) (by kernel_rfl) (fun w hw => ?_) ?_
  rotate_left
  · (try dsimp only at hw); go_simp; first | done | with_reducible rfl
  refine Eng.TW.take' (v := ?_) rfl rfl (by decide) (by kernel_rfl) (fun w hw => ?_) ?_
  rotate_left
  · (try dsimp only at hw); go_simp; first | done | with_reducible rfl
  refine Eng.TW.take' (v := ?_) rfl rfl (by decide) (by kernel_rfl) (fun w hw => ?_) ?_
  rotate_left
  · (try dsimp only at hw); go_simp; first | done | with_reducible rfl
  refine Eng.TW.take' (v := ?_) rfl rfl (by decide) (by kernel_rfl) (fun w hw => ?_) ?_
  rotate_left
  · (try dsimp only at hw); go_simp; first | done | with_reducible rfl
  refine Eng.TW.take' (v := ?_) rfl rfl (by decide) (by kernel_rfl) (fun w hw => ?_) ?_
  rotate_left
  · (try dsimp only at hw); go_simp; first | done | with_reducible rfl
  refine Eng.TW.take' (v := ?_) rfl rfl (by decide) (by kernel_rfl) (fun w hw => ?_) ?_
  rotate_left
  · (try dsimp only at hw); go_simp; first | done | with_reducible rfl
  refine Eng.TW.step rfl rfl (by decide) (by kernel_rfl) (by go_simp; first | done | with_reducible rfl | exact ⟨rfl, rfl⟩) (⟨(HSt.out.fr (Fr.alloc _ _ (.cells #[.pointer none, .int .i64 0, .int .i64 0] TBag))).v.v.cell 0, (HSt.out.fr (Fr.alloc _ _ (.cells #[.pointer none, .int .i64 0, .int .i64 0] TBag))).v.v.cell 1, (HSt.out.fr (Fr.alloc _ _ (.cells #[.pointer none, .int .i64 0, .int .i64 0] TBag))).kb.cell 0, (HSt.out.fr (Fr.alloc _ _ (.cells #[.pointer none, .int .i64 0, .int .i64 0] TBag))).kb.cell 1, (HSt.out.fr (Fr.alloc _ _ (.cells #[.pointer none, .int .i64 0, .int .i64 0] TBag))).xb.cell 6⟩) ?_
  have HSt2 := Lib.hid (HSt.out.fr (Fr.alloc _ _ (.cells #[.pointer none, .int .i64 0, .int .i64 0] TBag)))
  have hSS : (w.drew.alloc (.cells #[.pointer none, .int .i64 0, .int .i64 0] TBag)).cell? ⟨h, 0, none⟩ = some (.int .i64 W) ∧ (w.drew.alloc (.cells #[.pointer none, .int .i64 0, .int .i64 0] TBag)).cell? ⟨h, 1, none⟩ = some (.map (some r)) ∧ (w.drew.alloc (.cells #[.pointer none, .int .i64 0, .int .i64 0] TBag)).cell? ⟨C, 0, none⟩ = some (.string y.s) ∧ (w.drew.alloc (.cells #[.pointer none, .int .i64 0, .int .i64 0] TBag)).cell? ⟨C, 1, none⟩ = some (.string y.o) ∧ (w.drew.alloc (.cells #[.pointer none, .int .i64 0, .int .i64 0] TBag)).cell? ⟨B, 6, none⟩ = some (.int .i64 y.b) := ⟨HSt2.out.v.v.cell 0, HSt2.out.v.v.cell 1, HSt2.out.kb.cell 0, HSt2.out.kb.cell 1, HSt2.out.xb.cell 6⟩
  obtain ⟨w9, hup, hv9, ht9, hf9⟩ := HSt.out.v.put HSt.out.ok hn0 hl
  have hup2 : (Instr.mapUpdate TMp (.map (some r)) (.agg #[.string y.s, .string y.o]) (.pointer (some ⟨w.heap.size, 0, none⟩))).run Tryz.prog (w.alloc (.cells #[.pointer none, .int .i64 0, .int .i64 0] TBag)).drew = .ok () w9 := hup
  clear hup
  have hpn : ptr (⟨(y.s, y.o), w.drew.heap.size, [], [w.drew.heap.size]⟩ :: E) (y.s, y.o) = .pointer (some ⟨w.drew.heap.size, 0, none⟩) := ptr_some (e := ⟨(y.s, y.o), w.drew.heap.size, [], [w.drew.heap.size]⟩) (by unfold fE; rw [List.find?_cons]; simp)
  refine Eng.TW.step0 rfl rfl (by kernel_rfl) (by go_simp; first | done | with_reducible rfl | exact ⟨rfl, rfl⟩) (⟨((HSt.out.turn hv9 ht9 hpn : AS w0 w9 h r W (n + 1) E0 (⟨(y.s, y.o), w.drew.heap.size, [], [w.drew.heap.size]⟩ :: E) B C y (.pointer (some ⟨w.drew.heap.size, 0, none⟩)))).v.v.cell 0, ((HSt.out.turn hv9 ht9 hpn : AS w0 w9 h r W (n + 1) E0 (⟨(y.s, y.o), w.drew.heap.size, [], [w.drew.heap.size]⟩ :: E) B C y (.pointer (some ⟨w.drew.heap.size, 0, none⟩)))).v.v.cell 1, ((HSt.out.turn hv9 ht9 hpn : AS w0 w9 h r W (n + 1) E0 (⟨(y.s, y.o), w.drew.heap.size, [], [w.drew.heap.size]⟩ :: E) B C y (.pointer (some ⟨w.drew.heap.size, 0, none⟩)))).kb.cell 0, ((HSt.out.turn hv9 ht9 hpn : AS w0 w9 h r W (n + 1) E0 (⟨(y.s, y.o), w.drew.heap.size, [], [w.drew.heap.size]⟩ :: E) B C y (.pointer (some ⟨w.drew.heap.size, 0, none⟩)))).kb.cell 1, ((HSt.out.turn hv9 ht9 hpn : AS w0 w9 h r W (n + 1) E0 (⟨(y.s, y.o), w.drew.heap.size, [], [w.drew.heap.size]⟩ :: E) B C y (.pointer (some ⟨w.drew.heap.size, 0, none⟩)))).xb.cell 6⟩) ?_
  have HSt3 := Lib.hid ((HSt.out.turn hv9 ht9 hpn : AS w0 w9 h r W (n + 1) E0 (⟨(y.s, y.o), w.drew.heap.size, [], [w.drew.heap.size]⟩ :: E) B C y (.pointer (some ⟨w.drew.heap.size, 0, none⟩))))
  have hSS : (w9).cell? ⟨h, 0, none⟩ = some (.int .i64 W) ∧ (w9).cell? ⟨h, 1, none⟩ = some (.map (some r)) ∧ (w9).cell? ⟨C, 0, none⟩ = some (.string y.s) ∧ (w9).cell? ⟨C, 1, none⟩ = some (.string y.o) ∧ (w9).cell? ⟨B, 6, none⟩ = some (.int .i64 y.b) := ⟨HSt3.out.v.v.cell 0, HSt3.out.v.v.cell 1, HSt3.out.kb.cell 0, HSt3.out.kb.cell 1, HSt3.out.xb.cell 6⟩
  refine Eng.TW.end_ [17, 18, 19, 20, 21, 22, 23] HN.out (by kernel_rfl) (by kernel_rfl) ?_
  exact HP.out _ _ _ _ HSt3.out

set_option maxRecDepth 100000 in
set_option maxHeartbeats 400000 in
theorem ad4 {ops : Array Oper} (hops : Eng.fnOps Tryz.f58 4 = ops) (a0 : Act) (Q : Exit → Act → World → Prop) (w0 w : World) (h r : Nat) (W : Int) (n : Nat) (E0 E : List En) (B C : Nat) (y : Sn) (e : En) (hb64 : in64 y.b) (hfe : fE E (y.s, y.o) = some e) (sz : e.L.length < 144115188075855871) (hst : AS w0 w h r W n E0 E B C y (.pointer (some ⟨e.b, 0, none⟩)))
    (hn : a0.tmps.size = 38) (h_0 : a0.tmps.getD 0 undef = .pointer (some ⟨h, 0, none⟩)) (h_3 : a0.tmps.getD 3 undef = .pointer (some ⟨B, 0, none⟩)) (h_4 : a0.tmps.getD 4 undef = .pointer (some ⟨C, 0, none⟩))
    (hpost : ∀ (x : Nat → Value) (w' : World) (E' : List En), AS w0 w' h r W n E0 E' B C y (.pointer (some ⟨e.b, 0, none⟩)) → lk E' (y.s, y.o) = addL (slot y.b W) 1 e.L → (∀ j, j ≠ (y.s, y.o) → lk E' j = lk E j) → Q .normal (Eng.setAll a0 [24, 25, 26, 27, 28, 29, 30, 31, 32, 33, 34, 35, 36, 37] x) w') :
    (Code.region 4 ops true).wp Tryz.prog Q a0 w := by
  simp only [Eng.fnOps, Eng.regOps, Tryz.f58, Option.bind_some, Option.getD_some, Nat.reduceEqDiff, ↓reduceIte, Nat.reduceBEq] at hops
  subst hops
  have HSt := Lib.hid (hst.fr (Fr.drew _ _))
  have hSS : w.drew.cell? ⟨h, 0, none⟩ = some (.int .i64 W) ∧ w.drew.cell? ⟨h, 1, none⟩ = some (.map (some r)) ∧ w.drew.cell? ⟨C, 0, none⟩ = some (.string y.s) ∧ w.drew.cell? ⟨C, 1, none⟩ = some (.string y.o) ∧ w.drew.cell? ⟨B, 6, none⟩ = some (.int .i64 y.b) ∧ (Instr.lookup TMp (.map (some r)) (.agg #[.string y.s, .string y.o]) false).run Tryz.prog w.drew = .ok (.pointer (some ⟨e.b, 0, none⟩)) w.drew := ⟨HSt.out.v.v.cell 0, HSt.out.v.v.cell 1, HSt.out.kb.cell 0, HSt.out.kb.cell 1, HSt.out.xb.cell 6, HSt.out.look⟩
  refine Eng.regionN [(0, true), (1, true), (2, true), (3, true), (4, true), (5, true), (6, true), (7, true), (8, true), (9, true), (10, true), (11, true), (12, false), (13, false)] (fun w' => w'.cell? ⟨h, 0, none⟩ = some (.int .i64 W) ∧ w'.cell? ⟨h, 1, none⟩ = some (.map (some r)) ∧ w'.cell? ⟨C, 0, none⟩ = some (.string y.s) ∧ w'.cell? ⟨C, 1, none⟩ = some (.string y.o) ∧ w'.cell? ⟨B, 6, none⟩ = some (.int .i64 y.b) ∧ (Instr.lookup TMp (.map (some r)) (.agg #[.string y.s, .string y.o]) false).run Tryz.prog w' = .ok (.pointer (some ⟨e.b, 0, none⟩)) w') (by kernel_rfl) 38 hn (by kernel_rfl) rfl (by kernel_rfl) (hSS) (fun a b ha hb => ?_)
  subst ha
  have hb0 : b 0 = .pointer (some ⟨h, 0, none⟩) := (hb 0).symm.trans h_0
  have hb3 : b 3 = .pointer (some ⟨B, 0, none⟩) := (hb 3).symm.trans h_3
  have hb4 : b 4 = .pointer (some ⟨C, 0, none⟩) := (hb 4).symm.trans h_4
  clear hb h_0 h_3 h_4
  have HP := Lib.hid hpost; have HN := Lib.hid hn
  clear hpost hn
  refine Eng.Sch.take (v := ?_) rfl rfl (by decide) (by kernel_rfl) (fun w hw => ?_) ?_
  rotate_left
  · (try dsimp only at hw); go_simp; first | done | with_reducible rfl
  refine Eng.Sch.take (v := ?_) rfl rfl (by decide) (by kernel_rfl) (fun w hw => ?_) ?_
  rotate_left
  · (try dsimp only at hw); go_simp; first | done | with_reducible rfl
  refine Eng.Sch.take (v := ?_) rfl rfl (by decide) (by kernel_rfl) (fun w hw => ?_) ?_
  rotate_left
  · (try dsimp only at hw); go_simp; first | done | with_reducible rfl
  refine Eng.Sch.take (v := ?_) rfl rfl (by decide) (by kernel_rfl) (fun w hw => ?_) ?_
  rotate_left
  · (try dsimp only at hw); go_simp; first | done | with_reducible rfl
  refine Eng.Sch.take (v := ?_) rfl rfl (by decide) (by kernel_rfl) (fun w hw => ?_) ?_
  rotate_left
  · (try dsimp only at hw); go_simp; first | done | with_reducible rfl
  refine Eng.Sch.take (v := ?_) rfl rfl (by decide) (by kernel_rfl) (fun w hw => ?_) ?_
  rotate_left
  · (try dsimp only at hw); go_simp; first | done | with_reducible rfl
  refine Eng.Sch.take (v := ?_) rfl rfl (by decide) (by kernel_rfl) (fun w hw => ?_) ?_
  rotate_left
  · (try dsimp only at hw); go_simp; first | done | with_reducible rfl
  refine Eng.Sch.take (v := ?_) rfl rfl (by decide) (by kernel_rfl) (fun w hw => ?_) ?_
  rotate_left
  · (try dsimp only at hw); go_simp; first | done | with_reducible rfl
  refine Eng.Sch.take (v := ?_) rfl rfl (by decide) (by kernel_rfl) (fun w hw => ?_) ?_
  rotate_left
  · (try dsimp only at hw); go_simp; first | done | with_reducible rfl
  refine Eng.Sch.take (v := ?_) rfl rfl (by decide) (by kernel_rfl) (fun w hw => ?_) ?_
  rotate_left
  · (try dsimp only at hw); go_simp; first | done | with_reducible rfl
  refine Eng.Sch.take (v := ?_) rfl rfl (by decide) (by kernel_rfl) (fun w hw => ?_) ?_
  rotate_left
  · (try dsimp only at hw); go_simp; first | done | with_reducible rfl
  refine Eng.Sch.take (v := ?_) rfl rfl (by decide) (by kernel_rfl) (fun w hw => ?_) ?_
  rotate_left
  · (try dsimp only at hw); go_simp; first | done | with_reducible rfl
  refine Eng.Sch.call rfl rfl (by decide) (by kernel_rfl) ?_ (Slot y.b W _ hb64) ?_
  · go_simp
  rintro e w_1 ⟨rfl, rfl⟩
  refine ⟨_, rfl, hSS, ?_⟩
  refine Eng.Sch.call rfl rfl (by decide) (by kernel_rfl) ?_ (AddZ e.b (slot y.b W) 1 e.L e.F _ (HSt.out.v.b e (List.mem_of_find?_eq_some hfe)) sz) ?_
  · go_simp
  rintro e w2 ⟨rfl, FZ, hz, ht⟩
  obtain ⟨E9, hv9, hfe9, hlk9, ht9⟩ := HSt.out.v.turn hfe hz ht
  have HSt1 := Lib.hid (HSt.out.turn hv9 ht9 (ptr_some hfe9))
  have hSS : w2.cell? ⟨h, 0, none⟩ = some (.int .i64 W) ∧ w2.cell? ⟨h, 1, none⟩ = some (.map (some r)) ∧ w2.cell? ⟨C, 0, none⟩ = some (.string y.s) ∧ w2.cell? ⟨C, 1, none⟩ = some (.string y.o) ∧ w2.cell? ⟨B, 6, none⟩ = some (.int .i64 y.b) ∧ (Instr.lookup TMp (.map (some r)) (.agg #[.string y.s, .string y.o]) false).run Tryz.prog w2 = .ok (.pointer (some ⟨e.b, 0, none⟩)) w2 := ⟨HSt1.out.v.v.cell 0, HSt1.out.v.v.cell 1, HSt1.out.kb.cell 0, HSt1.out.kb.cell 1, HSt1.out.xb.cell 6, HSt1.out.look⟩
  refine ⟨_, rfl, hSS, ?_⟩
  refine Eng.Sch.end_ [24, 25, 26, 27, 28, 29, 30, 31, 32, 33, 34, 35, 36, 37] HN.out (by kernel_rfl) (by kernel_rfl) ?_
  exact HP.out _ _ E9 HSt1.out (by unfold lk; rw [hfe9]) hlk9

def AddPost (h r : Nat) (W : Int) (n : Nat) (E : List En) (x : Sn) (w : World) (e : Ending) (w' : World) : Prop :=
  e = .returned (.tuple #[]) ∧ ∃ E' n', n' ≤ n + 1 ∧ VwI w' h r W n' E' ∧ lk E' (x.s, x.o) = addL (slot x.b W) 1 (lk E (x.s, x.o)) ∧ (∀ j, j ≠ (x.s, x.o) → lk E' j = lk E j) ∧ Tn (fl h r E) (fl h r E') w w'
set_option maxRecDepth 100000 in
set_option maxHeartbeats 1000000 in
theorem add (h r : Nat) (W : Int) (n : Nat) (E : List En) (x : Sn) (w : World) (H : VwI w h r W n E) (hx : x.ok) (hl : n + 1 < 1000000) (sz : (lk E (x.s, x.o)).length < 1000000) :
    Calls Tryz.prog 58 #[.pointer (some ⟨h, 0, none⟩), x.v] w (AddPost h r W n E x w) := by
  have hS0 : AS w ((w.alloc (.cells x.arr TSn)).alloc (.cells #[.string x.s, .string x.o] TNm)) h r W n E E w.heap.size (w.heap.size + 1) x (ptr E (x.s, x.o)) := by
    have f1 := Fr.alloc (fun _ => False) w (.cells x.arr TSn)
    have f2 := Fr.alloc (fun _ => False) (w.alloc (.cells x.arr TSn)) (.cells #[.string x.s, .string x.o] TNm)
    have f3 := f1.trans f2 (T := fun _ => False) (fun _ _ h => h) (fun _ _ h => h)
    have hk := Bk.new (w.alloc (.cells x.arr TSn)) #[.string x.s, .string x.o] TNm
    rw [World.size_alloc] at hk
    exact ⟨H.fr f3 (fun _ _ h => h), Tn.of_fr f3 H.lt, (Bk.new w x.arr TSn).fr f2 (fun _ _ h => h), hk, fun y hy => by have := H.lt y hy; omega, rfl, ⟨hx.s, hx.o⟩⟩
  have HS := Lib.hid hS0; have HX := Lib.hid hx; have HSz := Lib.hid sz; have HV := Lib.hid H
  clear hS0 hx sz H
  go_enter Tryz.func58, Tryz.ntmps58
  go_upto_region 2 with (fail)
  generalize ((w.alloc (.cells x.arr TSn)).alloc (.cells #[.string x.s, .string x.o] TNm)) = w1 at *
  cases hfe : fE E (x.s, x.o) with
  | none =>
    have hlk0 : lk E (x.s, x.o) = [] := by unfold lk; rw [hfe]
    rw [ptr_none hfe] at HS
    refine ad2a (by kernel_rfl) _ _ w w1 h r W n E E _ _ x HS.out rfl rfl rfl ?_
    intro xx w2 h17 hst
    simp only [Eng.setAll, Act.put, List.setIfInBounds_toArray, List.set_cons_succ, List.set_cons_zero]
    rw [h17]
    have HS2 := Lib.hid hst
    clear h17 hst HS
    go_upto_region 3 with (fail)
    refine ad3 (by kernel_rfl) _ _ w w2 h r W n E E _ _ x _ hfe hl HS2.out rfl rfl rfl ?_
    intro xx w3 b F hst
    simp only [Eng.setAll, Act.put, List.setIfInBounds_toArray, List.set_cons_succ, List.set_cons_zero]
    have HS3 := Lib.hid hst
    clear hst HS2
    go_upto_region 4 with (fail)
    refine ad4 (by kernel_rfl) _ _ w w3 h r W (n + 1) E _ _ _ x ⟨(x.s, x.o), b, [], F⟩ HX.out.b (by unfold fE; rw [List.find?_cons]; simp) (by simp) HS3.out rfl rfl rfl rfl ?_
    intro xx w4 E' hst hlk hoth
    simp only [Eng.setAll, Act.put, List.setIfInBounds_toArray, List.set_cons_succ, List.set_cons_zero]
    have HS4 := Lib.hid hst; have HL4 := Lib.hid hlk; have HO4 := Lib.hid hoth
    clear hst HS3 hlk hoth
    go_wp2_with fail
    refine bodyPost_ret (results_none rfl _ _ _) rfl ?_
    refine ⟨rfl, E', n + 1, Nat.le_refl _, HS4.out.v, by rw [HL4.out, hlk0], fun j hj => (HO4.out j hj).trans ?_, HS4.out.t⟩
    unfold lk fE; rw [List.find?_cons, decide_eq_false (fun e => hj e.symm)]
  | some e =>
    have hlk0 : lk E (x.s, x.o) = e.L := by unfold lk; rw [hfe]
    rw [ptr_some hfe] at HS
    rw [hlk0] at HSz
    refine ad2b (by kernel_rfl) _ _ w w1 h r W n E E _ _ x e.b HS.out rfl rfl rfl ?_
    intro xx w2 h17 hst
    simp only [Eng.setAll, Act.put, List.setIfInBounds_toArray, List.set_cons_succ, List.set_cons_zero]
    rw [h17]
    have HS2 := Lib.hid hst
    clear h17 hst HS
    go_upto_region 4 with (fail)
    refine ad4 (by kernel_rfl) _ _ w w2 h r W n E E _ _ x e HX.out.b hfe (by have := HSz.out; omega) HS2.out rfl rfl rfl rfl ?_
    intro xx w4 E' hst hlk hoth
    simp only [Eng.setAll, Act.put, List.setIfInBounds_toArray, List.set_cons_succ, List.set_cons_zero]
    have HS4 := Lib.hid hst; have HL4 := Lib.hid hlk; have HO4 := Lib.hid hoth
    clear hst HS2 hlk hoth
    go_wp2_with fail
    refine bodyPost_ret (results_none rfl _ _ _) rfl ?_
    exact ⟨rfl, E', n, by omega, HS4.out.v, by rw [HL4.out, hlk0], HO4.out, HS4.out.t⟩
set_option maxRecDepth 100000 in
set_option maxHeartbeats 400000 in
theorem dr2a {ops : Array Oper} (hops : Eng.fnOps Tryz.f57 2 = ops) (a0 : Act) (Q : Exit → Act → World → Prop) (w0 w : World) (h r : Nat) (W : Int) (n : Nat) (E0 E : List En) (B C : Nat) (y : Sn) (hb64 : in64 y.b) (hst : AS w0 w h r W n E0 E B C y (.pointer none))
    (hn : a0.tmps.size = 39) (h_0 : a0.tmps.getD 0 undef = .pointer (some ⟨h, 0, none⟩)) (h_3 : a0.tmps.getD 3 undef = .pointer (some ⟨B, 0, none⟩)) (h_5 : a0.tmps.getD 5 undef = .pointer (some ⟨C, 0, none⟩))
    (hpost : ∀ (x : Nat → Value) (w' : World), x 25 = .bool true → AS w0 w' h r W n E0 E B C y (.pointer none) → Q .normal (Eng.setAll a0 [11, 12, 13, 14, 15, 16, 17, 18, 19, 20, 21, 22, 23, 24, 25] x) w') :
    (Code.region 2 ops true).wp Tryz.prog Q a0 w := by
  simp only [Eng.fnOps, Eng.regOps, Tryz.f57, Option.bind_some, Option.getD_some, Nat.reduceEqDiff, ↓reduceIte, Nat.reduceBEq] at hops
  subst hops
  have HSt := Lib.hid (hst.fr (Fr.drew _ _))
  have hSS : w.drew.cell? ⟨h, 0, none⟩ = some (.int .i64 W) ∧ w.drew.cell? ⟨h, 1, none⟩ = some (.map (some r)) ∧ w.drew.cell? ⟨C, 0, none⟩ = some (.string y.s) ∧ w.drew.cell? ⟨C, 1, none⟩ = some (.string y.o) ∧ w.drew.cell? ⟨B, 6, none⟩ = some (.int .i64 y.b) ∧ (Instr.lookup TMp (.map (some r)) (.agg #[.string y.s, .string y.o]) false).run Tryz.prog w.drew = .ok (.pointer none) w.drew := ⟨HSt.out.v.v.cell 0, HSt.out.v.v.cell 1, HSt.out.kb.cell 0, HSt.out.kb.cell 1, HSt.out.xb.cell 6, HSt.out.look⟩
  refine Eng.regionN [(0, true), (1, true), (2, true), (3, true), (4, true), (5, true), (6, true), (7, true), (8, true), (9, true), (10, true), (11, true), (12, false), (13, false), (14, true)] (fun w' => w'.cell? ⟨h, 0, none⟩ = some (.int .i64 W) ∧ w'.cell? ⟨h, 1, none⟩ = some (.map (some r)) ∧ w'.cell? ⟨C, 0, none⟩ = some (.string y.s) ∧ w'.cell? ⟨C, 1, none⟩ = some (.string y.o) ∧ w'.cell? ⟨B, 6, none⟩ = some (.int .i64 y.b) ∧ (Instr.lookup TMp (.map (some r)) (.agg #[.string y.s, .string y.o]) false).run Tryz.prog w' = .ok (.pointer none) w') (by kernel_rfl) 39 hn (by kernel_rfl) rfl (by kernel_rfl) (hSS) (fun a b ha hb => ?_)
  subst ha
  have hb0 : b 0 = .pointer (some ⟨h, 0, none⟩) := (hb 0).symm.trans h_0
  have hb3 : b 3 = .pointer (some ⟨B, 0, none⟩) := (hb 3).symm.trans h_3
  have hb5 : b 5 = .pointer (some ⟨C, 0, none⟩) := (hb 5).symm.trans h_5
  clear hb h_0 h_3 h_5
  have HP := Lib.hid hpost; have HN := Lib.hid hn
  clear hpost hn
  refine Eng.Sch.take (v := ?_) rfl rfl (by decide) (by kernel_rfl) (fun w hw => ?_) ?_
  rotate_left
  · (try dsimp only at hw); go_simp; first | done | with_reducible rfl
  refine Eng.Sch.take (v := ?_) rfl rfl (by decide) (by kernel_rfl) (fun w hw => ?_) ?_
  rotate_left
  · (try dsimp only at hw); go_simp; first | done | with_reducible rfl
  refine Eng.Sch.take (v := ?_) rfl rfl (by decide) (by kernel_rfl) (fun w hw => ?_) ?_
  rotate_left
  · (try dsimp only at hw); go_simp; first | done | with_reducible rfl
  refine Eng.Sch.take (v := ?_) rfl rfl (by decide) (by kernel_rfl) (fun w hw => ?_) ?_
  rotate_left
  · (try dsimp only at hw); go_simp; first | done | with_reducible rfl
  refine Eng.Sch.take (v := ?_) rfl rfl (by decide) (by kernel_rfl) (fun w hw => ?_) ?_
  rotate_left
  · (try dsimp only at hw); go_simp; first | done | with_reducible rfl
  refine Eng.Sch.take (v := ?_) rfl rfl (by decide) (by kernel_rfl) (fun w hw => ?_) ?_
  rotate_left
  · (try dsimp only at hw); go_simp; first | done | with_reducible rfl
  refine Eng.Sch.take (v := ?_) rfl rfl (by decide) (by kernel_rfl) (fun w hw => ?_) ?_
  rotate_left
  · (try dsimp only at hw); go_simp; first | done | with_reducible rfl
  refine Eng.Sch.take (v := ?_) rfl rfl (by decide) (by kernel_rfl) (fun w hw => ?_) ?_
  rotate_left
  · (try dsimp only at hw); go_simp; first | done | with_reducible rfl
  refine Eng.Sch.take (v := ?_) rfl rfl (by decide) (by kernel_rfl) (fun w hw => ?_) ?_
  rotate_left
  · (try dsimp only at hw); go_simp; first | done | with_reducible rfl
  refine Eng.Sch.take (v := ?_) rfl rfl (by decide) (by kernel_rfl) (fun w hw => ?_) ?_
  rotate_left
  · (try dsimp only at hw); go_simp; first | done | with_reducible rfl
  refine Eng.Sch.take (v := ?_) rfl rfl (by decide) (by kernel_rfl) (fun w hw => ?_) ?_
  rotate_left
  · (try dsimp only at hw); go_simp; first | done | with_reducible rfl
  refine Eng.Sch.take (v := ?_) rfl rfl (by decide) (by kernel_rfl) (fun w hw => ?_) ?_
  rotate_left
  · (try dsimp only at hw); go_simp; first | done | with_reducible rfl
  refine Eng.Sch.call rfl rfl (by decide) (by kernel_rfl) ?_ (Slot y.b W _ hb64) ?_
  · go_simp
  rintro e w_1 ⟨rfl, rfl⟩
  refine ⟨_, rfl, hSS, ?_⟩
  refine Eng.Sch.call rfl rfl (by decide) (by kernel_rfl) ?_ (Bag.Take_none (slot y.b W) 1 _) ?_
  · go_simp
  rintro e w_1 ⟨rfl, rfl⟩
  refine ⟨_, rfl, hSS, ?_⟩
  refine Eng.Sch.take (v := ?_) rfl rfl (by decide) (by kernel_rfl) (fun w hw => ?_) ?_
  rotate_left
  · (try dsimp only at hw); go_simp; first | done | with_reducible rfl
  refine Eng.Sch.end_ [11, 12, 13, 14, 15, 16, 17, 18, 19, 20, 21, 22, 23, 24, 25] HN.out (by kernel_rfl) (by kernel_rfl) ?_
  exact HP.out _ _ rfl HSt.out

set_option maxRecDepth 100000 in
set_option maxHeartbeats 400000 in
theorem dr2b {ops : Array Oper} (hops : Eng.fnOps Tryz.f57 2 = ops) (a0 : Act) (Q : Exit → Act → World → Prop) (w0 w : World) (h r : Nat) (W : Int) (n : Nat) (E0 E : List En) (B C : Nat) (y : Sn) (e : En) (hb64 : in64 y.b) (hfe : fE E (y.s, y.o) = some e) (sz : e.L.length < 144115188075855871) (hst : AS w0 w h r W n E0 E B C y (.pointer (some ⟨e.b, 0, none⟩)))
    (hn : a0.tmps.size = 39) (h_0 : a0.tmps.getD 0 undef = .pointer (some ⟨h, 0, none⟩)) (h_3 : a0.tmps.getD 3 undef = .pointer (some ⟨B, 0, none⟩)) (h_5 : a0.tmps.getD 5 undef = .pointer (some ⟨C, 0, none⟩))
    (hpost : ∀ (x : Nat → Value) (w' : World) (E' : List En) (F' : List Nat), x 25 = .bool (!okT (slot y.b W) 1 e.L) → AS w0 w' h r W n E0 E' B C y (.pointer (some ⟨e.b, 0, none⟩)) → fE E' (y.s, y.o) = some ⟨(y.s, y.o), e.b, takeL (slot y.b W) 1 e.L, F'⟩ → (∀ j, j ≠ (y.s, y.o) → lk E' j = lk E j) → Q .normal (Eng.setAll a0 [11, 12, 13, 14, 15, 16, 17, 18, 19, 20, 21, 22, 23, 24, 25] x) w') :
    (Code.region 2 ops true).wp Tryz.prog Q a0 w := by
  simp only [Eng.fnOps, Eng.regOps, Tryz.f57, Option.bind_some, Option.getD_some, Nat.reduceEqDiff, ↓reduceIte, Nat.reduceBEq] at hops
  subst hops
  have HSt := Lib.hid (hst.fr (Fr.drew _ _))
  have hSS : w.drew.cell? ⟨h, 0, none⟩ = some (.int .i64 W) ∧ w.drew.cell? ⟨h, 1, none⟩ = some (.map (some r)) ∧ w.drew.cell? ⟨C, 0, none⟩ = some (.string y.s) ∧ w.drew.cell? ⟨C, 1, none⟩ = some (.string y.o) ∧ w.drew.cell? ⟨B, 6, none⟩ = some (.int .i64 y.b) ∧ (Instr.lookup TMp (.map (some r)) (.agg #[.string y.s, .string y.o]) false).run Tryz.prog w.drew = .ok (.pointer (some ⟨e.b, 0, none⟩)) w.drew := ⟨HSt.out.v.v.cell 0, HSt.out.v.v.cell 1, HSt.out.kb.cell 0, HSt.out.kb.cell 1, HSt.out.xb.cell 6, HSt.out.look⟩
  refine Eng.regionN [(0, true), (1, true), (2, true), (3, true), (4, true), (5, true), (6, true), (7, true), (8, true), (9, true), (10, true), (11, true), (12, false), (13, false), (14, true)] (fun w' => w'.cell? ⟨h, 0, none⟩ = some (.int .i64 W) ∧ w'.cell? ⟨h, 1, none⟩ = some (.map (some r)) ∧ w'.cell? ⟨C, 0, none⟩ = some (.string y.s) ∧ w'.cell? ⟨C, 1, none⟩ = some (.string y.o) ∧ w'.cell? ⟨B, 6, none⟩ = some (.int .i64 y.b) ∧ (Instr.lookup TMp (.map (some r)) (.agg #[.string y.s, .string y.o]) false).run Tryz.prog w' = .ok (.pointer (some ⟨e.b, 0, none⟩)) w') (by kernel_rfl) 39 hn (by kernel_rfl) rfl (by kernel_rfl) (hSS) (fun a b ha hb => ?_)
  subst ha
  have hb0 : b 0 = .pointer (some ⟨h, 0, none⟩) := (hb 0).symm.trans h_0
  have hb3 : b 3 = .pointer (some ⟨B, 0, none⟩) := (hb 3).symm.trans h_3
  have hb5 : b 5 = .pointer (some ⟨C, 0, none⟩) := (hb 5).symm.trans h_5
  clear hb h_0 h_3 h_5
  have HP := Lib.hid hpost; have HN := Lib.hid hn
  clear hpost hn
  refine Eng.Sch.take (v := ?_) rfl rfl (by decide) (by kernel_rfl) (fun w hw => ?_) ?_
  rotate_left
  · (try dsimp only at hw); go_simp; first | done | with_reducible rfl
  refine Eng.Sch.take (v := ?_) rfl rfl (by decide) (by kernel_rfl) (fun w hw => ?_) ?_
  rotate_left
  · (try dsimp only at hw); go_simp; first | done | with_reducible rfl
  refine Eng.Sch.take (v := ?_) rfl rfl (by decide) (by kernel_rfl) (fun w hw => ?_) ?_
  rotate_left
  · (try dsimp only at hw); go_simp; first | done | with_reducible rfl
  refine Eng.Sch.take (v := ?_) rfl rfl (by decide) (by kernel_rfl) (fun w hw => ?_) ?_
  rotate_left
  · (try dsimp only at hw); go_simp; first | done | with_reducible rfl
  refine Eng.Sch.take (v := ?_) rfl rfl (by decide) (by kernel_rfl) (fun w hw => ?_) ?_
  rotate_left
  · (try dsimp only at hw); go_simp; first | done | with_reducible rfl
  refine Eng.Sch.take (v := ?_) rfl rfl (by decide) (by kernel_rfl) (fun w hw => ?_) ?_
  rotate_left
  · (try dsimp only at hw); go_simp; first | done | with_reducible rfl
  refine Eng.Sch.take (v := ?_) rfl rfl (by decide) (by kernel_rfl) (fun w hw => ?_) ?_
  rotate_left
  · (try dsimp only at hw); go_simp; first | done | with_reducible rfl
  refine Eng.Sch.take (v := ?_) rfl rfl (by decide) (by kernel_rfl) (fun w hw => ?_) ?_
  rotate_left
  · (try dsimp only at hw); go_simp; first | done | with_reducible rfl
  refine Eng.Sch.take (v := ?_) rfl rfl (by decide) (by kernel_rfl) (fun w hw => ?_) ?_
  rotate_left
  · (try dsimp only at hw); go_simp; first | done | with_reducible rfl
  refine Eng.Sch.take (v := ?_) rfl rfl (by decide) (by kernel_rfl) (fun w hw => ?_) ?_
  rotate_left
  · (try dsimp only at hw); go_simp; first | done | with_reducible rfl
  refine Eng.Sch.take (v := ?_) rfl rfl (by decide) (by kernel_rfl) (fun w hw => ?_) ?_
  rotate_left
  · (try dsimp only at hw); go_simp; first | done | with_reducible rfl
  refine Eng.Sch.take (v := ?_) rfl rfl (by decide) (by kernel_rfl) (fun w hw => ?_) ?_
  rotate_left
  · (try dsimp only at hw); go_simp; first | done | with_reducible rfl
  refine Eng.Sch.call rfl rfl (by decide) (by kernel_rfl) ?_ (Slot y.b W _ hb64) ?_
  · go_simp
  rintro e w_1 ⟨rfl, rfl⟩
  refine ⟨_, rfl, hSS, ?_⟩
  refine Eng.Sch.call rfl rfl (by decide) (by kernel_rfl) ?_ (TakeZ e.b (slot y.b W) 1 e.L e.F _ (HSt.out.v.b e (List.mem_of_find?_eq_some hfe)) sz) ?_
  · go_simp
  rintro e w2 ⟨rfl, FZ, hz, ht⟩
  obtain ⟨E9, hv9, hfe9, hlk9, ht9⟩ := HSt.out.v.turn hfe hz ht
  have HSt1 := Lib.hid (HSt.out.turn hv9 ht9 (ptr_some hfe9))
  have hSS : w2.cell? ⟨h, 0, none⟩ = some (.int .i64 W) ∧ w2.cell? ⟨h, 1, none⟩ = some (.map (some r)) ∧ w2.cell? ⟨C, 0, none⟩ = some (.string y.s) ∧ w2.cell? ⟨C, 1, none⟩ = some (.string y.o) ∧ w2.cell? ⟨B, 6, none⟩ = some (.int .i64 y.b) ∧ (Instr.lookup TMp (.map (some r)) (.agg #[.string y.s, .string y.o]) false).run Tryz.prog w2 = .ok (.pointer (some ⟨e.b, 0, none⟩)) w2 := ⟨HSt1.out.v.v.cell 0, HSt1.out.v.v.cell 1, HSt1.out.kb.cell 0, HSt1.out.kb.cell 1, HSt1.out.xb.cell 6, HSt1.out.look⟩
  refine ⟨_, rfl, hSS, ?_⟩
  refine Eng.Sch.take (v := ?_) rfl rfl (by decide) (by kernel_rfl) (fun w hw => ?_) ?_
  rotate_left
  · (try dsimp only at hw); go_simp; first | done | with_reducible rfl
  refine Eng.Sch.end_ [11, 12, 13, 14, 15, 16, 17, 18, 19, 20, 21, 22, 23, 24, 25] HN.out (by kernel_rfl) (by kernel_rfl) ?_
  exact HP.out _ _ E9 FZ rfl HSt1.out hfe9 hlk9

set_option maxRecDepth 100000 in
set_option maxHeartbeats 400000 in
theorem dr4 {ops : Array Oper} (hops : Eng.fnOps Tryz.f57 4 = ops) (a0 : Act) (Q : Exit → Act → World → Prop) (w0 w : World) (h r : Nat) (W : Int) (n : Nat) (E0 E : List En) (B C : Nat) (y : Sn) (e : En) (hfe : fE E (y.s, y.o) = some e) (hst : AS w0 w h r W n E0 E B C y (.pointer (some ⟨e.b, 0, none⟩)))
    (hn : a0.tmps.size = 39) (h_0 : a0.tmps.getD 0 undef = .pointer (some ⟨h, 0, none⟩)) (h_5 : a0.tmps.getD 5 undef = .pointer (some ⟨C, 0, none⟩))
    (hpost : ∀ (x : Nat → Value) (w' : World), x 33 = .bool (sumL e.L == 0) → AS w0 w' h r W n E0 E B C y (.pointer (some ⟨e.b, 0, none⟩)) → Q .normal (Eng.setAll a0 [26, 27, 28, 29, 30, 31, 32, 33] x) w') :
    (Code.region 4 ops true).wp Tryz.prog Q a0 w := by
  simp only [Eng.fnOps, Eng.regOps, Tryz.f57, Option.bind_some, Option.getD_some, Nat.reduceEqDiff, ↓reduceIte, Nat.reduceBEq] at hops
  subst hops
  have HSt := Lib.hid (hst.fr (Fr.drew _ _))
  have hSS : w.drew.cell? ⟨h, 0, none⟩ = some (.int .i64 W) ∧ w.drew.cell? ⟨h, 1, none⟩ = some (.map (some r)) ∧ w.drew.cell? ⟨C, 0, none⟩ = some (.string y.s) ∧ w.drew.cell? ⟨C, 1, none⟩ = some (.string y.o) ∧ w.drew.cell? ⟨B, 6, none⟩ = some (.int .i64 y.b) ∧ (Instr.lookup TMp (.map (some r)) (.agg #[.string y.s, .string y.o]) false).run Tryz.prog w.drew = .ok (.pointer (some ⟨e.b, 0, none⟩)) w.drew := ⟨HSt.out.v.v.cell 0, HSt.out.v.v.cell 1, HSt.out.kb.cell 0, HSt.out.kb.cell 1, HSt.out.xb.cell 6, HSt.out.look⟩
  refine Eng.regionN [(0, true), (1, true), (2, true), (3, true), (4, true), (5, true), (6, false), (7, true)] (fun w' => w'.cell? ⟨h, 0, none⟩ = some (.int .i64 W) ∧ w'.cell? ⟨h, 1, none⟩ = some (.map (some r)) ∧ w'.cell? ⟨C, 0, none⟩ = some (.string y.s) ∧ w'.cell? ⟨C, 1, none⟩ = some (.string y.o) ∧ w'.cell? ⟨B, 6, none⟩ = some (.int .i64 y.b) ∧ (Instr.lookup TMp (.map (some r)) (.agg #[.string y.s, .string y.o]) false).run Tryz.prog w' = .ok (.pointer (some ⟨e.b, 0, none⟩)) w') (by kernel_rfl) 39 hn (by kernel_rfl) rfl (by kernel_rfl) (hSS) (fun a b ha hb => ?_)
  subst ha
  have hb0 : b 0 = .pointer (some ⟨h, 0, none⟩) := (hb 0).symm.trans h_0
  have hb5 : b 5 = .pointer (some ⟨C, 0, none⟩) := (hb 5).symm.trans h_5
  clear hb h_0 h_5
  have HP := Lib.hid hpost; have HN := Lib.hid hn
  clear hpost hn
  refine Eng.Sch.take (v := ?_) rfl rfl (by decide) (by kernel_rfl) (fun w hw => ?_) ?_
  rotate_left
  · (try dsimp only at hw); go_simp; first | done | with_reducible rfl
  refine Eng.Sch.take (v := ?_) rfl rfl (by decide) (by kernel_rfl) (fun w hw => ?_) ?_
  rotate_left
  · (try dsimp only at hw); go_simp; first | done | with_reducible rfl
  refine Eng.Sch.take (v := ?_) rfl rfl (by decide) (by kernel_rfl) (fun w hw => ?_) ?_
  rotate_left
  · (try dsimp only at hw); go_simp; first | done | with_reducible rfl
  refine Eng.Sch.take (v := ?_) rfl rfl (by decide) (by kernel_rfl) (fun w hw => ?_) ?_
  rotate_left
  · (try dsimp only at hw); go_simp; first | done | with_reducible rfl
  refine Eng.Sch.take (v := ?_) rfl rfl (by decide) (by kernel_rfl) (fun w hw => ?_) ?_
  rotate_left
  · (try dsimp only at hw); go_simp; first | done | with_reducible rfl
  refine Eng.Sch.take (v := ?_) rfl rfl (by decide) (by kernel_rfl) (fun w hw => ?_) ?_
  rotate_left
  · (try dsimp only at hw); go_simp; first | done | with_reducible rfl
  refine Eng.Sch.call rfl rfl (by decide) (by kernel_rfl) ?_ (LenZ e.b e.L e.F _ (HSt.out.v.b e (List.mem_of_find?_eq_some hfe))) ?_
  · go_simp
  rintro e w_1 ⟨rfl, rfl⟩
  refine ⟨_, rfl, hSS, ?_⟩
  refine Eng.Sch.take (v := ?_) rfl rfl (by decide) (by kernel_rfl) (fun w hw => ?_) ?_
  rotate_left
  · (try dsimp only at hw); go_simp; first | done | with_reducible rfl
  refine Eng.Sch.end_ [26, 27, 28, 29, 30, 31, 32, 33] HN.out (by kernel_rfl) (by kernel_rfl) ?_
  exact HP.out _ _ rfl HSt.out

set_option maxRecDepth 100000 in
set_option maxHeartbeats 400000 in
theorem dr5 {ops : Array Oper} (hops : Eng.fnOps Tryz.f57 5 = ops) (a0 : Act) (Q : Exit → Act → World → Prop) (w0 w : World) (h r : Nat) (W : Int) (n : Nat) (E0 E : List En) (B C : Nat) (y : Sn) (p : Value) (hst : AS w0 w h r W n E0 E B C y p)
    (hn : a0.tmps.size = 39) (h_0 : a0.tmps.getD 0 undef = .pointer (some ⟨h, 0, none⟩)) (h_5 : a0.tmps.getD 5 undef = .pointer (some ⟨C, 0, none⟩))
    (hpost : ∀ (x : Nat → Value) (w' : World), AS w0 w' h r W n E0 (E.filter (fun e => decide (e.k ≠ (y.s, y.o)))) B C y (ptr (E.filter (fun e => decide (e.k ≠ (y.s, y.o)))) (y.s, y.o)) → Q .normal (Eng.setAll a0 [34, 35, 36, 37, 38] x) w') :
    (Code.region 5 ops true).wp Tryz.prog Q a0 w := by
  simp only [Eng.fnOps, Eng.regOps, Tryz.f57, Option.bind_some, Option.getD_some, Nat.reduceEqDiff, ↓reduceIte, Nat.reduceBEq] at hops
  subst hops
  have HSt := Lib.hid (hst.fr (Fr.drew _ _))
  have hSS : w.drew.cell? ⟨h, 0, none⟩ = some (.int .i64 W) ∧ w.drew.cell? ⟨h, 1, none⟩ = some (.map (some r)) ∧ w.drew.cell? ⟨C, 0, none⟩ = some (.string y.s) ∧ w.drew.cell? ⟨C, 1, none⟩ = some (.string y.o) ∧ w.drew.cell? ⟨B, 6, none⟩ = some (.int .i64 y.b) := ⟨HSt.out.v.v.cell 0, HSt.out.v.v.cell 1, HSt.out.kb.cell 0, HSt.out.kb.cell 1, HSt.out.xb.cell 6⟩
  refine Eng.regionT (.take 0 (.take 1 (.take 2 (.take 3 (.take 4 (.alt 5 (.done) (.stop))))))) (fun w' => w'.cell? ⟨h, 0, none⟩ = some (.int .i64 W) ∧ w'.cell? ⟨h, 1, none⟩ = some (.map (some r)) ∧ w'.cell? ⟨C, 0, none⟩ = some (.string y.s) ∧ w'.cell? ⟨C, 1, none⟩ = some (.string y.o) ∧ w'.cell? ⟨B, 6, none⟩ = some (.int .i64 y.b)) (by kernel_rfl) 39 hn (by kernel_rfl) (by kernel_rfl) (by kernel_rfl) (hSS) (fun a b ha hb => ?_)
  subst ha
  have hb0 : b 0 = .pointer (some ⟨h, 0, none⟩) := (hb 0).symm.trans h_0
  have hb5 : b 5 = .pointer (some ⟨C, 0, none⟩) := (hb 5).symm.trans h_5
  clear hb h_0 h_5
  have HP := Lib.hid hpost; have HN := Lib.hid hn
  clear hpost hn
  refine Eng.TW.take' (v := ?_) rfl rfl (by decide) (by kernel_rfl) (fun w hw => ?_) ?_
  rotate_left
  · (try dsimp only at hw); go_simp; first | done | with_reducible rfl
  refine Eng.TW.take' (v := ?_) rfl rfl (by decide) (by kernel_rfl) (fun w hw => ?_) ?_
  rotate_left
  · (try dsimp only at hw); go_simp; first | done | with_reducible rfl
  refine Eng.TW.take' (v := ?_) rfl rfl (by decide) (by kernel_rfl) (fun w hw => ?_) ?_
  rotate_left
  · (try dsimp only at hw); go_simp; first | done | with_reducible rfl
  refine Eng.TW.take' (v := ?_) rfl rfl (by decide) (by kernel_rfl) (fun w hw => ?_) ?_
  rotate_left
  · (try dsimp only at hw); go_simp; first | done | with_reducible rfl
  refine Eng.TW.take' (v := ?_) rfl rfl (by decide) (by kernel_rfl) (fun w hw => ?_) ?_
  rotate_left
  · (try dsimp only at hw); go_simp; first | done | with_reducible rfl
  obtain ⟨w9, hup, hv9, ht9, hf9⟩ := HSt.out.v.del HSt.out.ok 0
  have hup2 : (Builtin.delete_ #[TMp, TNm] 0 #[.map (some r), .agg #[.string y.s, .string y.o]]).run Tryz.prog w.drew = .ok (.tuple #[]) w9 := hup
  clear hup
  refine step0v rfl rfl (by kernel_rfl) (by go_simp; first | done | with_reducible rfl | exact ⟨rfl, rfl⟩) (⟨((HSt.out.turn hv9 ht9 rfl : AS w0 w9 h r W n E0 (E.filter (fun e => decide (e.k ≠ (y.s, y.o)))) B C y (ptr (E.filter (fun e => decide (e.k ≠ (y.s, y.o)))) (y.s, y.o)))).v.v.cell 0, ((HSt.out.turn hv9 ht9 rfl : AS w0 w9 h r W n E0 (E.filter (fun e => decide (e.k ≠ (y.s, y.o)))) B C y (ptr (E.filter (fun e => decide (e.k ≠ (y.s, y.o)))) (y.s, y.o)))).v.v.cell 1, ((HSt.out.turn hv9 ht9 rfl : AS w0 w9 h r W n E0 (E.filter (fun e => decide (e.k ≠ (y.s, y.o)))) B C y (ptr (E.filter (fun e => decide (e.k ≠ (y.s, y.o)))) (y.s, y.o)))).kb.cell 0, ((HSt.out.turn hv9 ht9 rfl : AS w0 w9 h r W n E0 (E.filter (fun e => decide (e.k ≠ (y.s, y.o)))) B C y (ptr (E.filter (fun e => decide (e.k ≠ (y.s, y.o)))) (y.s, y.o)))).kb.cell 1, ((HSt.out.turn hv9 ht9 rfl : AS w0 w9 h r W n E0 (E.filter (fun e => decide (e.k ≠ (y.s, y.o)))) B C y (ptr (E.filter (fun e => decide (e.k ≠ (y.s, y.o)))) (y.s, y.o)))).xb.cell 6⟩) ?_
  have HSt2 := Lib.hid ((HSt.out.turn hv9 ht9 rfl : AS w0 w9 h r W n E0 (E.filter (fun e => decide (e.k ≠ (y.s, y.o)))) B C y (ptr (E.filter (fun e => decide (e.k ≠ (y.s, y.o)))) (y.s, y.o))))
  have hSS : (w9).cell? ⟨h, 0, none⟩ = some (.int .i64 W) ∧ (w9).cell? ⟨h, 1, none⟩ = some (.map (some r)) ∧ (w9).cell? ⟨C, 0, none⟩ = some (.string y.s) ∧ (w9).cell? ⟨C, 1, none⟩ = some (.string y.o) ∧ (w9).cell? ⟨B, 6, none⟩ = some (.int .i64 y.b) := ⟨HSt2.out.v.v.cell 0, HSt2.out.v.v.cell 1, HSt2.out.kb.cell 0, HSt2.out.kb.cell 1, HSt2.out.xb.cell 6⟩
  refine Eng.TW.end_ [34, 35, 36, 37, 38] HN.out (by kernel_rfl) (by kernel_rfl) ?_
  exact HP.out _ _ HSt2.out

theorem ok_zero {L : List (Int × Int)} (h : Ok L) (h0 : sumL L = 0) : L = [] := by
  have : ∀ {L : List (Int × Int)}, Pos L → (L.length : Int) ≤ sumL L := by
    intro L hp
    induction L with
    | nil => simp [sumL]
    | cons p t ih => have h1 := hp p (by simp); have h2 := ih (fun q hq => hp q (by simp [hq])); simp only [sumL, List.length_cons]; omega
  have := this h.pos
  exact List.length_eq_zero_iff.1 (by omega)
def DropPost (h r : Nat) (W : Int) (n : Nat) (E : List En) (x : Sn) (w : World) (e : Ending) (w' : World) : Prop :=
  ∃ E', e = .returned (.bool (okT (slot x.b W) 1 (lk E (x.s, x.o)))) ∧ VwI w' h r W n E' ∧ lk E' (x.s, x.o) = takeL (slot x.b W) 1 (lk E (x.s, x.o)) ∧ (∀ j, j ≠ (x.s, x.o) → lk E' j = lk E j) ∧ Tn (fl h r E) (fl h r E') w w'
set_option maxRecDepth 100000 in
set_option maxHeartbeats 1000000 in
theorem drop (h r : Nat) (W : Int) (n : Nat) (E : List En) (x : Sn) (w : World) (H : VwI w h r W n E) (hx : x.ok) (sz : (lk E (x.s, x.o)).length < 1000000) :
    Calls Tryz.prog 57 #[.pointer (some ⟨h, 0, none⟩), x.v] w (DropPost h r W n E x w) := by
  have hS0 : AS w ((w.alloc (.cells x.arr TSn)).alloc (.cells #[.string x.s, .string x.o] TNm)) h r W n E E w.heap.size (w.heap.size + 1) x (ptr E (x.s, x.o)) := by
    have f1 := Fr.alloc (fun _ => False) w (.cells x.arr TSn)
    have f2 := Fr.alloc (fun _ => False) (w.alloc (.cells x.arr TSn)) (.cells #[.string x.s, .string x.o] TNm)
    have f3 := f1.trans f2 (T := fun _ => False) (fun _ _ h => h) (fun _ _ h => h)
    have hk := Bk.new (w.alloc (.cells x.arr TSn)) #[.string x.s, .string x.o] TNm
    rw [World.size_alloc] at hk
    exact ⟨H.fr f3 (fun _ _ h => h), Tn.of_fr f3 H.lt, (Bk.new w x.arr TSn).fr f2 (fun _ _ h => h), hk, fun y hy => by have := H.lt y hy; omega, rfl, ⟨hx.s, hx.o⟩⟩
  have HS := Lib.hid hS0; have HX := Lib.hid hx; have HSz := Lib.hid sz; have HV := Lib.hid H
  clear hS0 hx sz H
  go_enter Tryz.func57, Tryz.ntmps57
  go_upto_region 2 with (fail)
  generalize ((w.alloc (.cells x.arr TSn)).alloc (.cells #[.string x.s, .string x.o] TNm)) = w1 at *
  cases hfe : fE E (x.s, x.o) with
  | none =>
    have hlk0 : lk E (x.s, x.o) = [] := by unfold lk; rw [hfe]
    rw [ptr_none hfe] at HS
    refine dr2a (by kernel_rfl) _ _ w w1 h r W n E E _ _ x HX.out.b HS.out rfl rfl rfl rfl ?_
    intro xx w2 h17 hst
    simp only [Eng.setAll, Act.put, List.setIfInBounds_toArray, List.set_cons_succ, List.set_cons_zero]
    rw [h17]
    have HS2 := Lib.hid hst
    clear h17 hst HS
    go_wp2_with fail
    go_ret
    exact ⟨E, by rw [hlk0]; rfl, HS2.out.v, by rw [hlk0]; rfl, fun _ _ => rfl, HS2.out.t⟩
  | some e =>
    have hlk0 : lk E (x.s, x.o) = e.L := by unfold lk; rw [hfe]
    have HOk := Lib.hid (HV.out.b e (List.mem_of_find?_eq_some hfe)).ok
    rw [ptr_some hfe] at HS
    rw [hlk0] at HSz
    refine dr2b (by kernel_rfl) _ _ w w1 h r W n E E _ _ x e HX.out.b hfe (by have := HSz.out; omega) HS.out rfl rfl rfl rfl ?_
    intro xx w2 E2 F2 h17 hst hfe2 hoth
    simp only [Eng.setAll, Act.put, List.setIfInBounds_toArray, List.set_cons_succ, List.set_cons_zero]
    rw [h17]
    have HS2 := Lib.hid hst; have HO2 := Lib.hid hoth; have HFe := Lib.hid hfe2
    clear h17 hst HS hoth hfe2
    have hlk2 : lk E2 (x.s, x.o) = takeL (slot x.b W) 1 e.L := by unfold lk; rw [HFe.out]
    cases hok : okT (slot x.b W) 1 e.L with
    | false =>
      go_wp2_with fail
      go_ret
      exact ⟨E2, by rw [hlk0, hok]; rfl, HS2.out.v, by rw [hlk0]; exact hlk2, HO2.out, HS2.out.t⟩
    | true =>
      have HOk2 := Lib.hid (HOk.out.take (slot x.b W) 1)
      obtain ⟨L2, hL⟩ : ∃ L2, takeL (slot x.b W) 1 e.L = L2 := ⟨_, rfl⟩
      rw [hL] at HFe HOk2 hlk2
      have HL := Lib.hid hL
      clear hL
      go_upto_region 4 with (fail)
      refine dr4 (by kernel_rfl) _ _ w w2 h r W n E E2 _ _ x ⟨(x.s, x.o), e.b, L2, F2⟩ HFe.out HS2.out rfl rfl rfl ?_
      intro xx w3 h17 hst
      simp only [Eng.setAll, Act.put, List.setIfInBounds_toArray, List.set_cons_succ, List.set_cons_zero]
      rw [h17]
      have HS3 := Lib.hid hst
      clear h17 hst HS2
      cases hz : (sumL L2 == 0) with
      | false =>
        go_wp2_with fail
        go_ret
        exact ⟨E2, by rw [hlk0, hok]; rfl, HS3.out.v, by rw [hlk0]; exact hlk2.trans HL.out.symm, HO2.out, HS3.out.t⟩
      | true =>
        have hL2 : L2 = [] := ok_zero HOk2.out (by simpa using hz)
        clear hz
        go_upto_region 5 with (fail)
        refine dr5 (by kernel_rfl) _ _ w w3 h r W n E E2 _ _ x _ HS3.out rfl rfl rfl ?_
        intro xx w4 hst
        simp only [Eng.setAll, Act.put, List.setIfInBounds_toArray, List.set_cons_succ, List.set_cons_zero]
        have HS4 := Lib.hid hst
        clear hst HS3
        go_wp2_with fail
        go_ret
        exact ⟨_, by rw [hlk0, hok]; rfl, HS4.out.v, by rw [hlk0, lk_del, HL.out, hL2], fun j hj => (lk_del' E2 hj).trans (HO2.out j hj), HS4.out.t⟩
end Ser
end Go.Proofs.YtgfjpnpbkkadpaaGreat
namespace Go.Proofs.YtgfjpnpbkkadpaaGreat
open Go.RowKit
namespace Ser
open KeyP SetP BagP
abbrev Pq := Nm × Int
instance beqPq : BEq Pq := instBEqOfDecidableEq
instance lawPq : LawfulBEq Pq := inferInstanceAs (@LawfulBEq Pq instBEqOfDecidableEq)
def pr (W : Int) (x : Sn) : Pq := ((x.s, x.o), slot x.b W)
def sl (q : List Pq) (k : Nm) : List Int := (q.filter (fun p => decide (p.1 = k))).map Prod.snd
/-- The entries are the bags of the pairs. -/
def Hv (q : List Pq) (E : List En) : Prop := ∀ k, Bg (sl q k) (lk E k)
theorem Bg.perm {l m : List Int} {L : List (Int × Int)} (h : Bg l L) (hp : l.Perm m) : Bg m L := ⟨h.ok, fun x => by rw [h.cnt, hp.count_eq], by rw [h.sum, hp.length_eq]⟩
theorem sl_perm {q q' : List Pq} (h : q.Perm q') (k : Nm) : (sl q k).Perm (sl q' k) := (h.filter _).map _
theorem Hv.perm {q q' : List Pq} {E : List En} (h : Hv q E) (hp : q.Perm q') : Hv q' E := fun k => (h k).perm (sl_perm hp k)
theorem Hv.nil : Hv [] [] := fun _ => Bg.nil
theorem sl_len (q : List Pq) (k : Nm) : (sl q k).length ≤ q.length := by unfold sl; rw [List.length_map]; exact List.length_filter_le _ _
theorem Hv.len {q : List Pq} {E : List En} (h : Hv q E) (k : Nm) : (lk E k).length ≤ q.length := Nat.le_trans (h k).len (sl_len q k)
theorem mem_sl {q : List Pq} {k : Nm} {s : Int} : s ∈ sl q k ↔ (k, s) ∈ q := by
  unfold sl
  rw [List.mem_map]
  constructor
  · rintro ⟨⟨k', s'⟩, h, rfl⟩
    have := List.mem_filter.1 h
    simp at this
    obtain ⟨h1, rfl⟩ := this
    exact h1
  · intro h
    exact ⟨(k, s), List.mem_filter.2 ⟨h, by simp⟩, rfl⟩
theorem sl_cons_self (k : Nm) (s : Int) (q : List Pq) : sl ((k, s) :: q) k = s :: sl q k := by unfold sl; rw [List.filter_cons]; simp
theorem sl_cons_ne {k j : Nm} (s : Int) (q : List Pq) (h : j ≠ k) : sl ((k, s) :: q) j = sl q j := by unfold sl; rw [List.filter_cons, if_neg (by simpa using fun e => h e.symm)]
theorem Hv.same {q : List Pq} {E E' : List En} (h : Hv q E) (he : ∀ k, lk E' k = lk E k) : Hv q E' := fun k => by rw [he k]; exact h k
theorem Hv.add {q : List Pq} {E E' : List En} (h : Hv q E) (hl : q.length < 1000000) {k : Nm} {s : Int} (h1 : lk E' k = addL s 1 (lk E k)) (h2 : ∀ j, j ≠ k → lk E' j = lk E j) : Hv (q ++ [(k, s)]) E' := by
  intro j
  refine Bg.perm (l := sl ((k, s) :: q) j) ?_ (sl_perm (List.perm_append_comm (l₁ := [(k, s)]) (l₂ := q)) j)
  by_cases hj : j = k
  · subst hj
    rw [sl_cons_self, h1]
    exact ((h j).add (Nat.lt_of_le_of_lt (sl_len q j) hl) s).perm (List.perm_append_comm (l₁ := sl q j) (l₂ := [s]))
  · rw [sl_cons_ne s q hj, h2 j hj]; exact h j
theorem Hv.ok {q : List Pq} {E : List En} (h : Hv q E) (k : Nm) (s : Int) : okT s 1 (lk E k) = decide ((k, s) ∈ q) := by
  rw [(h k).okT, decide_eq_decide.2 mem_sl]
theorem Hv.take {q : List Pq} {E E' : List En} (h : Hv q E) {k : Nm} {s : Int} (hm : (k, s) ∈ q) (h1 : lk E' k = takeL s 1 (lk E k)) (h2 : ∀ j, j ≠ k → lk E' j = lk E j) : Hv (q.erase (k, s)) E' := by
  intro j
  have hp : q.Perm ((k, s) :: q.erase (k, s)) := List.perm_cons_erase hm
  by_cases hj : j = k
  · subst hj
    rw [h1]
    have hs := sl_perm hp j
    rw [sl_cons_self] at hs
    refine ((h j).take (mem_sl.2 hm)).perm ?_
    have := hs.erase s
    rwa [List.erase_cons_head] at this
  · rw [h2 j hj]
    have hs := sl_perm hp j
    rw [sl_cons_ne s _ hj] at hs
    exact (h j).perm hs
theorem Hv.not {q : List Pq} {E E' : List En} (h : Hv q E) {k : Nm} {s : Int} (hm : (k, s) ∉ q) (h1 : lk E' k = takeL s 1 (lk E k)) (h2 : ∀ j, j ≠ k → lk E' j = lk E j) : Hv q E' := by
  refine h.same (fun j => ?_)
  by_cases hj : j = k
  · subst hj
    have ho := h.ok j s
    rw [decide_eq_false hm] at ho
    rw [h1, takeL, ho]; rfl
  · exact h2 j hj
/-- May all be let out of these? -/
def outB (q : List Pq) (l : List Pq) : Bool := l.all (fun p => decide (l.count p ≤ q.count p))
theorem outB_no {q qk : List Pq} {l : List Pq} {k : Nat} (hk : k < l.length) (hp : (qk ++ l.take k).Perm q) (hm : l[k] ∉ qk) : outB q l = false := by
  unfold outB
  rw [List.all_eq_false]
  refine ⟨l[k], List.getElem_mem hk, ?_⟩
  have h1 := hp.count_eq l[k]
  rw [List.count_append, List.count_eq_zero.2 hm] at h1
  have h2 : (l.take (k + 1)).count l[k] ≤ l.count l[k] := (List.take_sublist _ _).count_le _
  rw [List.take_succ_eq_append_getElem hk, List.count_append, List.count_singleton_self] at h2
  simp; omega
theorem outB_yes {q qk : List Pq} {l : List Pq} (hp : (qk ++ l).Perm q) : outB q l = true := by
  unfold outB
  rw [List.all_eq_true]
  intro p _
  have h1 := hp.count_eq p
  rw [List.count_append] at h1
  simp; omega
theorem outB_perm {q q' l : List Pq} (hp : q.Perm q') : outB q l = outB q' l := by unfold outB; simp only [hp.count_eq]
end Ser
end Go.Proofs.YtgfjpnpbkkadpaaGreat
