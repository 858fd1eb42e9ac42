/- A region that draws its order, walked along a tree of schedules: where several operations may come up, each goes its own way. No program is named. -/
import Derived.Test.YtkhhdadlpilbmaaEngIn
namespace Go.Proofs.Ytkhhdadlpilbmaa
open Go.RowKit
namespace Eng

/-- take: what reads only held cells; alt i t r: i may come up, and then t, or what r tells. -/
inductive Tr where
  | done
  | stop
  | take (i : Nat) (t : Tr)
  | alt (i : Nat) (t r : Tr)
def Tr.heads : Tr → List Nat
  | .alt i _ r => i :: r.heads
  | _ => []
def readyM (ops : Array Oper) (m : Nat) : List Nat := (List.range ops.size).filter (fun j => !m.testBit j && ((ops[j]?).map (fun o => afterM o m)).getD false)
/-- Can the tree be kept? top: does a choice begin here? -/
def okT (ops : Array Oper) : Bool → Tr → Nat → Bool
  | top, .done, m => top && m == 2 ^ ops.size - 1
  | top, .stop, _ => !top
  | top, .take i t, m => top && (match ops[i]? with
      | none => false
      | some o => !m.testBit i && afterM o m && freeM ops i o m 0 ops.toList) && okT ops true t (m ||| 1 <<< i)
  | top, .alt i t r, m => (!top || readyM ops m == (i :: r.heads)) && decide (i < ops.size) && okT ops true t (m ||| 1 <<< i) && okT ops false r m
def Tr.depth : Tr → Nat
  | .done => 0
  | .stop => 0
  | .take _ t => t.depth + 1
  | .alt _ t r => max (t.depth + 1) r.depth

theorem ready_eq {ops : Array Oper} {m : Nat} {listed : Array Bool} (hr : RelM ops.size m listed) : Region.ready .any ops listed = readyM ops m := by
  unfold Region.ready readyM
  refine List.filter_congr fun j hj => ?_
  rw [List.mem_range] at hj
  rw [(hr.2.1 j hj).1, Array.getElem?_eq_getElem hj]
  simp only [Option.map_some, Option.getD_some]
  rw [after_eq hr]
theorem take_ok {ops : Array Oper} {m : Nat} {listed : Array Bool} (hr : RelM ops.size m listed) {i : Nat} {o : Oper} (ho : ops[i]? = some o) (h1 : m.testBit i = false) (h2 : afterM o m = true) (h3 : freeM ops i o m 0 ops.toList = true) :
    Region.free .any ops listed i = true ∧ (Region.ready .any ops listed).contains i = true := by
  have hin : i < ops.size := (Array.getElem?_eq_some_iff.1 ho).1
  refine ⟨?_, ?_⟩
  · unfold Region.free
    rw [ho]
    simp only [List.all_eq_true, List.mem_range]
    intro j hj
    have := freeM_all _ _ h3 j ops[j] (by simp [hj])
    rw [Nat.zero_add] at this
    rw [(hr.2.1 j hj).1, Array.getElem?_eq_getElem hj]
    exact this
  · rw [List.contains_iff_mem, ready_eq hr, readyM, List.mem_filter]
    refine ⟨List.mem_range.2 hin, ?_⟩
    rw [h1, ho]; simp [h2]

variable {P : Program} {ops : Array Oper} {Q : Exit → Act → World → Prop} {S : World → Prop} {b : Nat → Value} {a0 : Act} {n : Nat}
/-- The walk along a tree. -/
def TW (P : Program) (ops : Array Oper) (Q : Exit → Act → World → Prop) (S : World → Prop) (b : Nat → Value) (a0 : Act) (n : Nat) : Tr → List (Nat × Value) → World → Prop
  | .done, us, w => Q .normal (UP a0 us) w
  | .stop, _, _ => True
  | .take i t, us, w => ∃ o d v, ops[i]? = some o ∧ o.dst = some d ∧ d < n ∧
      ((want3 ops us o = some true ∧ ∀ w', S w' → (execOp (ev b us) o).run P w' = .ok (.value v) w') ∨ (want3 ops us o = some false ∧ v = undef)) ∧ TW P ops Q S b a0 n t ((d, v) :: us) w
  | .alt i t r, us, w => (∃ o, ops[i]? = some o ∧ want3 ops us o = some true ∧
      ∀ K : Option Value → World → Prop, (∀ v w', S w' → (match o.dst with | some d => d < n ∧ TW P ops Q S b a0 n t ((d, v) :: us) w' | none => TW P ops Q S b a0 n t us w') → K (some v) w') →
        match (execOp (ev b us) o).run P w with
        | .ok (.value v) w' => K (some v) w'
        | .ok (.enter f args) w' => Calls P f args w' fun e w'' => ∃ v, e = .returned v ∧ K (some v) w''
        | .ok .skip w' => K (some undef) w'
        | _ => False) ∧ TW P ops Q S b a0 n r us w

theorem TW.sound (hn : a0.tmps.size = n) (hb : ∀ k, a0.tmps.getD k undef = b k) (hsel : Region.noSelect ops = true) (hQ : ∀ c (a : Act) (d : Nat) (v : Value) w, Q (.panic c) (a.put (some d) v) w → Q (.panic c) a w) :
    ∀ (t : Tr) (top : Bool) (us : List (Nat × Value)) (m : Nat) (listed : Array Bool) (fuel : Nat) (w : World), RelM ops.size m listed → fits n us = true → okT ops top t m = true → S w → TW P ops Q S b a0 n t us w →
      (top = true → t.depth ≤ fuel → wpAnyH P .any ops Q S fuel listed (UP a0 us) w) ∧ (top = false → t.depth ≤ fuel + 1 → AllReadyH P .any ops Q S fuel listed (UP a0 us) w t.heads)
  | .done, top, us, m, listed, fuel, w, hr, _, hok, _, h => by
    simp only [okT, Bool.and_eq_true, beq_iff_eq] at hok
    refine ⟨fun _ _ => wpAnyH_done ?_ h fuel, fun e => by rw [e] at hok; simp at hok⟩
    rw [ready_eq hr, readyM, List.filter_eq_nil_iff]
    intro j hj
    rw [List.mem_range] at hj
    rw [hok.2, Nat.testBit_two_pow_sub_one]; simp [hj]
  | .stop, top, us, m, listed, fuel, w, _, _, hok, _, _ => ⟨fun e => by rw [e] at hok; simp [okT] at hok, fun _ _ => AllReadyH.nil⟩
  | .take i t, top, us, m, listed, fuel, w, hr, hf, hok, hS, h => by
    simp only [okT, Bool.and_eq_true] at hok
    refine ⟨fun _ hd => ?_, fun e => by rw [e] at hok; simp at hok⟩
    obtain ⟨⟨-, hok1⟩, hok2⟩ := hok
    obtain ⟨o, d, v, ho, hd', hdn, hy, h⟩ := h
    rw [ho] at hok1
    simp only [Bool.and_eq_true, Bool.not_eq_true'] at hok1
    obtain ⟨⟨k1, k2⟩, k3⟩ := hok1
    obtain ⟨g1, g2⟩ := take_ok hr ho k1 k2 k3
    have hin : i < ops.size := (Array.getElem?_eq_some_iff.1 ho).1
    cases fuel with
    | zero => simp [Tr.depth] at hd
    | succ fuel =>
      refine wpAnyH_take (i := i) (v := v) ho hsel g1 g2 (fun c a w hq => by rw [hd'] at hq; exact hQ _ _ _ _ _ hq) ?_ hS ?_
      · rcases hy with ⟨h1, h2⟩ | ⟨h1, h2⟩
        · exact .inl ⟨wanted_of hn hf h1, fun w' hw' => by rw [UP_eval hn hb hf]; exact h2 w' hw'⟩
        · exact .inr ⟨wanted_of hn hf h1, h2⟩
      · have := (TW.sound hn hb hsel hQ t true ((d, v) :: us) _ _ fuel w (hr.set hin) (by simp only [fits, List.all_cons, Bool.and_eq_true, decide_eq_true_eq]; exact ⟨hdn, hf⟩) hok2 hS h).1 rfl (by simp [Tr.depth] at hd; omega)
        rw [hd']; exact this
  | .alt i t r, top, us, m, listed, fuel, w, hr, hf, hok, hS, h => by
    simp only [okT, Bool.and_eq_true, decide_eq_true_eq] at hok
    obtain ⟨⟨⟨k1, hin⟩, k2⟩, k3⟩ := hok
    obtain ⟨⟨o, ho, hw, h⟩, h2⟩ := h
    have all : ∀ fuel, (Tr.alt i t r).depth ≤ fuel + 1 → AllReadyH P .any ops Q S fuel listed (UP a0 us) w (i :: r.heads) := by
      intro fuel hd
      have hd1 : t.depth ≤ fuel := by simp only [Tr.depth] at hd; omega
      have hd2 : r.depth ≤ fuel + 1 := by simp only [Tr.depth] at hd; omega
      refine AllReadyH.cons ho (fun K hK => ?_) ((TW.sound hn hb hsel hQ r false us m listed fuel w hr hf k3 hS h2).2 rfl hd2)
      rw [if_pos (wanted_of hn hf hw)]
      have hstep : ∀ v w', S w' → (match o.dst with | some d => d < n ∧ TW P ops Q S b a0 n t ((d, v) :: us) w' | none => TW P ops Q S b a0 n t us w') → K ((UP a0 us).put o.dst v) w' := by
        intro v w' hS' hs
        refine hK.out _ _ hS' (fun _ => ?_)
        cases hd : o.dst with
        | none =>
          rw [hd] at hs
          exact (TW.sound hn hb hsel hQ t true us _ _ fuel w' (hr.set hin) hf k2 hS' hs).1 rfl hd1
        | some d =>
          rw [hd] at hs
          exact (TW.sound hn hb hsel hQ t true ((d, v) :: us) _ _ fuel w' (hr.set hin) (by simp only [fits, List.all_cons, Bool.and_eq_true, decide_eq_true_eq]; exact ⟨hs.1, hf⟩) k2 hS' hs.2).1 rfl hd1
      have h' := h (fun v w' => K ((UP a0 us).put o.dst (v.getD undef)) w') hstep
      unfold Oper.wp
      rw [UP_eval hn hb hf]
      generalize (execOp (ev b us) o).run P w = r at h'
      match r, h' with
      | .ok (.value v) w', h' => exact h'
      | .ok .skip w', h' => exact h'
      | .ok (.enter f args) w', h' =>
        refine Calls.mono h' ?_
        rintro e w'' ⟨v, rfl, hk⟩
        exact hk
    refine ⟨fun e hd => ?_, fun _ hd => all fuel hd⟩
    rw [e] at k1
    simp only [Bool.not_true, Bool.false_or, beq_iff_eq] at k1
    cases fuel with
    | zero => simp [Tr.depth] at hd
    | succ fuel => exact wpAnyH_ready ((ready_eq hr).trans k1) (by simp) (all fuel hd)

theorem regionT' (tr : Tr) (S : World → Prop) {id : Nat} {w : World} (hm : P.follows .mixedOrders = true) (n : Nat) (hn : a0.tmps.size = n) (hsel : Region.noSelect ops = true)
    (hQ : ∀ c (a : Act) (d : Nat) (v : Value) w, Q (.panic c) (a.put (some d) v) w → Q (.panic c) a w) (hl : decide (tr.depth ≤ ops.size) = true) (hok : okT ops true tr 0 = true) (hS : S w.drew)
    (h : ∀ (a : Act) (b : Nat → Value), a0 = a → (∀ k, a0.tmps.getD k undef = b k) → TW P ops Q S b a n tr [] w.drew) : (Code.region id ops true).wp P Q a0 w :=
  wp_region_held_drew (S := S) hm hS (fun hS => (TW.sound hn (fun _ => rfl) hsel hQ tr true [] 0 _ _ _ (RelM.start _) rfl hok hS (h a0 _ rfl (fun _ => rfl))).1 rfl (of_decide_eq_true hl))
theorem regionT (tr : Tr) (S : World → Prop) {id : Nat} {w : World} (hm : P.follows .mixedOrders = true) (n : Nat) (hn : a0.tmps.size = n) (hsel : Region.noSelect ops = true)
    (hl : decide (tr.depth ≤ ops.size) = true) (hok : okT ops true tr 0 = true) (hS : S w.drew)
    (h : ∀ (a : Act) (b : Nat → Value), a0 = a → (∀ k, a0.tmps.getD k undef = b k) → TW P ops (noPan Q) S b a n tr [] w.drew) : (Code.region id ops true).wp P Q a0 w :=
  wp_mono (regionT' tr S hm n hn hsel (fun _ _ _ _ _ h => h) hl hok hS h) noPan_imp
theorem regionTIn (tr : Tr) (S : World → Prop) {id l m : Nat} {w : World} (hm : P.follows .mixedOrders = true) (n : Nat) (hn : a0.tmps.size = n) (hsel : Region.noSelect ops = true) (hnd : noDefer ops = true)
    (hl : decide (tr.depth ≤ ops.size) = true) (hok : okT ops true tr 0 = true) (hS : S w.drew)
    (h : ∀ (a : Act) (b : Nat → Value), a0 = a → (∀ k, a0.tmps.getD k undef = b k) → TW P ops (noOut (noPan Q)) S b a n tr [] w.drew) : (Code.region id ops true).wpIn (Fence.wide.inRound l) m P Q a0 w := by
  refine wpIn_mono (Q := noPan Q) ?_ noPan_imp
  refine wpIn_region_draw fun t => ?_
  simp only [Region.schedule, hm, Bool.true_or, if_true]
  refine opsIn_of hnd l m _ _ _ ?_
  refine wpAny_sound ops.size t _ a0 _ (wpAny_of_held (S := S) _ _ _ _ ?_)
  exact (TW.sound (Q := noOut (noPan Q)) hn (fun _ => rfl) hsel (fun _ _ _ _ _ h => h) tr true [] 0 _ _ _ (RelM.start _) rfl hok hS (h a0 _ rfl (fun _ => rfl))).1 rfl (of_decide_eq_true hl)
theorem TW.take' {i : Nat} {t : Tr} {us : List (Nat × Value)} {w : World} {o : Oper} {d : Nat} {v : Value} (ho : ops[i]? = some o) (hd : o.dst = some d) (hdn : d < n) (hw : want3 ops us o = some true)
    (hy : ∀ w', S w' → (execOp (ev b us) o).run P w' = .ok (.value v) w') (h : TW P ops Q S b a0 n t ((d, v) :: us) w) : TW P ops Q S b a0 n (.take i t) us w :=
  ⟨o, d, v, ho, hd, hdn, .inl ⟨hw, hy⟩, h⟩
theorem TW.skip {i : Nat} {t : Tr} {us : List (Nat × Value)} {w : World} {o : Oper} {d : Nat} (ho : ops[i]? = some o) (hd : o.dst = some d) (hdn : d < n) (hw : want3 ops us o = some false)
    (h : TW P ops Q S b a0 n t ((d, undef) :: us) w) : TW P ops Q S b a0 n (.take i t) us w :=
  ⟨o, d, undef, ho, hd, hdn, .inr ⟨hw, rfl⟩, h⟩
theorem TW.call {i : Nat} {t : Tr} {us : List (Nat × Value)} {w : World} {o : Oper} {d : Nat} {f : FuncId} {args : Array Value} {R : Ending → World → Prop} (ho : ops[i]? = some o) (hd : o.dst = some d) (hdn : d < n) (hw : want3 ops us o = some true)
    (hrun : (execOp (ev b us) o).run P w = .ok (.enter f args) w) (hC : Calls P f args w R)
    (h : ∀ e w', R e w' → ∃ v, e = .returned v ∧ S w' ∧ TW P ops Q S b a0 n t ((d, v) :: us) w') : TW P ops Q S b a0 n (.alt i t .stop) us w := by
  refine ⟨⟨o, ho, hw, fun K hK => ?_⟩, trivial⟩
  rw [hrun]
  refine hC.mono ?_
  intro e w' hr
  obtain ⟨v, he, hS, hs⟩ := h e w' hr
  exact ⟨v, he, hK v w' hS (by rw [hd]; exact ⟨hdn, hs⟩)⟩
theorem TW.step {i : Nat} {t : Tr} {us : List (Nat × Value)} {w w' : World} {o : Oper} {d : Nat} {v : Value} (ho : ops[i]? = some o) (hd : o.dst = some d) (hdn : d < n) (hw : want3 ops us o = some true)
    (hrun : (execOp (ev b us) o).run P w = .ok (.value v) w') (hS : S w') (h : TW P ops Q S b a0 n t ((d, v) :: us) w') : TW P ops Q S b a0 n (.alt i t .stop) us w := by
  refine ⟨⟨o, ho, hw, fun K hK => ?_⟩, trivial⟩
  rw [hrun]
  exact hK v w' hS (by rw [hd]; exact ⟨hdn, h⟩)
theorem TW.step0 {i : Nat} {t : Tr} {us : List (Nat × Value)} {w w' : World} {o : Oper} (ho : ops[i]? = some o) (hd : o.dst = none) (hw : want3 ops us o = some true)
    (hrun : (execOp (ev b us) o).run P w = .ok .skip w') (hS : S w') (h : TW P ops Q S b a0 n t us w') : TW P ops Q S b a0 n (.alt i t .stop) us w := by
  refine ⟨⟨o, ho, hw, fun K hK => ?_⟩, trivial⟩
  rw [hrun]
  exact hK undef w' hS (by rw [hd]; exact h)
/-- One way, and the others. -/
theorem TW.both {i : Nat} {t r : Tr} {us : List (Nat × Value)} {w : World} (h : TW P ops Q S b a0 n (.alt i t .stop) us w) (h2 : TW P ops Q S b a0 n r us w) : TW P ops Q S b a0 n (.alt i t r) us w := ⟨h.1, h2⟩
theorem TW.end_ {us : List (Nat × Value)} {w : World} (D : List Nat) (hn : a0.tmps.size = n) (hf : fits n us = true) (hD : us.all (fun p => D.contains p.1) = true)
    (h : Q .normal (setAll a0 D (fun d => (getO us d).getD (a0.tmps.getD d undef))) w) : TW P ops Q S b a0 n .done us w := by
  show Q .normal (UP a0 us) w
  rw [UP_setAll hn D hf hD]; exact h
end Eng
end Go.Proofs.Ytkhhdadlpilbmaa
