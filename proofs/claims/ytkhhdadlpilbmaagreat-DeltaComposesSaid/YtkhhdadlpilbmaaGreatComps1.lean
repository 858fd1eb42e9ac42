/- What one side and another one come to: the program's. -/
import Derived.Test.YtkhhdadlpilbmaaGreatSidess
import Derived.Test.YtkhhdadlpilbmaaGreatEngs
namespace Go.Proofs.YtkhhdadlpilbmaaGreat
open Go.RowKit
namespace Comp
open KeyP PackP SetP SetW SetF Sli Delta
attribute [local go_sem] Eng.ev Eng.getO_cons Eng.getO_nil
def bothS (a b : Sd) : Sd := ⟨a.m, if a.m then a.a else b.a, if b.m then b.b else a.b⟩
theorem SdR.both {w : World} {a b : Sd} {qa qb : Pd} (h1 : SdR w a qa) (h2 : SdR w b qb) : SdR w (bothS a b) (bothP qa qb) := by
  refine ⟨h1.m, ?_, ?_⟩
  · show PtR w (if a.m then a.a else b.a) (if qa.m then qa.o else qb.o)
    rw [h1.m]; split
    · exact h1.a
    · exact h2.a
  · show PtR w (if b.m then b.b else a.b) (if qb.m then qb.i else qa.i)
    rw [h2.m]; split
    · exact h2.b
    · exact h1.b
theorem fr4 (w : World) (o1 o2 o3 o4 : Obj) : Fr (fun _ => False) w ((((w.alloc o1).alloc o2).alloc o3).alloc o4) :=
  (((Fr.alloc _ w o1).trans (Fr.alloc (fun _ => False) _ o2) (T := fun _ => False) (fun _ _ h => h) (fun _ _ h => h)).trans (Fr.alloc (fun _ => False) _ o3) (T := fun _ => False) (fun _ _ h => h) (fun _ _ h => h)).trans (Fr.alloc (fun _ => False) _ o4) (fun _ _ h => h) (fun _ _ h => h)
theorem at3 (w : World) (o1 o2 o3 o4 : Obj) : ((((w.alloc o1).alloc o2).alloc o3).alloc o4).heap[w.heap.size + 1 + 1]? = some o3 := by
  have h := heap_new ((w.alloc o1).alloc o2) o3
  rw [World.size_alloc, World.size_alloc] at h
  exact ((Fr.alloc (fun _ => False) _ o4).block _ (by simp) (fun h => h)).trans h
set_option maxRecDepth 100000 in
set_option maxHeartbeats 1000000 in
theorem both (a b : Sd) (w : World) : Calls Tryz.prog 47 #[.agg (sdarr a), .agg (sdarr b)] w fun e w' => e = .returned (.agg (sdarr (bothS a b))) ∧ Fr (fun _ => False) w w' := by
  obtain ⟨am, aa, ab⟩ := a
  obtain ⟨bm, ba, bb⟩ := b
  unfold bothS
  dsimp only [sdarr]
  go_enter Tryz.func47, Tryz.ntmps47
  cases am <;> cases bm
  all_goals
    simp only [Bool.false_eq_true, if_false, if_true]
    go_wp2_with fail
    refine bodyPost_ret (results_cell_row rfl _ _ (w.heap.size + 1 + 1) TSd _ (0, 0) _ rfl (at3 w _ _ _ _) Tryz.underlying69 rfl (by kernel_rfl)) rfl ⟨rfl, fr4 w _ _ _ _⟩
theorem fr2 (w : World) (o1 o2 : Obj) : Fr (fun _ => False) w ((w.alloc o1).alloc o2) := (Fr.alloc _ w o1).trans (Fr.alloc (fun _ => False) _ o2) (fun _ _ h => h) (fun _ _ h => h)
theorem fr2n (w : World) (o1 o2 : Obj) (n : Nat) : Fr (fun _ => False) w (((w.alloc o1).alloc o2).drewN n) := (fr2 w o1 o2).trans (Fr.drewN (fun _ => False) _ n) (fun _ _ h => h) (fun _ _ h => h)
set_option maxRecDepth 100000 in
set_option maxHeartbeats 1000000 in
theorem fits (a b : Sd) (qa qb : Pd) (w : World) (h1 : SdR w a qa) (h2 : SdR w b qb) : Calls Tryz.prog 45 #[.agg (sdarr a), .agg (sdarr b)] w fun e w' => e = .returned (.int .i64 (fitsP qa qb)) ∧ Fr (fun _ => False) w w' := by
  obtain ⟨am, aa, ab⟩ := a
  obtain ⟨bm, ba, bb⟩ := b
  obtain ⟨qm, qo, qi⟩ := qa
  obtain ⟨rm, ro, ri⟩ := qb
  have e1 : am = qm := h1.m
  have e2 : bm = rm := h2.m
  subst e1
  subst e2
  dsimp only [sdarr]
  cases am with
  | false =>
    have HE : Hid (fitsP ⟨false, qo, qi⟩ ⟨bm, ro, ri⟩ = 0) := rfl
    rw [HE.out]
    clear h1 h2
    go_enter Tryz.func45, Tryz.ntmps45
    go_wp2_with fail
    go_ret
    exact ⟨rfl, fr2 w _ _⟩
  | true =>
    cases bm with
    | false =>
      have HE : Hid (fitsP ⟨true, qo, qi⟩ ⟨false, ro, ri⟩ = 0) := rfl
      rw [HE.out]
      clear h1 h2
      go_enter Tryz.func45, Tryz.ntmps45
      go_wp2_with fail
      go_ret
      exact ⟨rfl, fr2 w _ _⟩
    | true =>
      cases ro with
      | none =>
        obtain rfl : ba = none := h2.a
        have HE : Hid (fitsP ⟨true, qo, qi⟩ ⟨true, none, ri⟩ = if qi.isSome then 8 else 0) := rfl
        rw [HE.out]
        cases qi with
        | none =>
          obtain rfl : ab = none := h1.b
          clear h1 h2
          go_enter Tryz.func45, Tryz.ntmps45
          go_upto_region 3 with (fail)
          go_quiet (fail)
          go_wp2_with fail
          go_ret
          exact ⟨rfl, fr2n w _ _ _⟩
        | some u =>
          obtain ⟨bu, rfl, -, -⟩ := h1.b
          clear h1 h2
          go_enter Tryz.func45, Tryz.ntmps45
          go_upto_region 3 with (fail)
          go_quiet (fail)
          go_wp2_with fail
          go_ret
          exact ⟨rfl, fr2n w _ _ _⟩
      | some v =>
        obtain ⟨bv, rfl, hbv, -⟩ := h2.a
        have HE : Hid (fitsP ⟨true, qo, qi⟩ ⟨true, some v, ri⟩ = if qi = some v then 0 else 7) := rfl
        rw [HE.out]
        cases qi with
        | none =>
          obtain rfl : ab = none := h1.b
          clear h1 h2
          go_enter Tryz.func45, Tryz.ntmps45
          go_upto_region 3 with (fail)
          go_quiet (fail)
          go_wp2_with fail
          go_ret
          exact ⟨rfl, fr2n w _ _ _⟩
        | some u =>
          obtain ⟨bu, rfl, hbu, -⟩ := h1.b
          have hf := fr2 w (.cells #[.bool true, .pointer aa, .pointer (some ⟨bu, 0, none⟩)] TSd) (.cells #[.bool true, .pointer (some ⟨bv, 0, none⟩), .pointer bb] TSd)
          have hbu2 := hbu.fr hf (fun _ _ h => h); have hbv2 := hbv.fr hf (fun _ _ h => h)
          have uc0 : ((w.alloc (.cells #[.bool true, .pointer aa, .pointer (some ⟨bu, 0, none⟩)] TSd)).alloc (.cells #[.bool true, .pointer (some ⟨bv, 0, none⟩), .pointer bb] TSd)).cell? ⟨bu, 0, none⟩ = some (.int .i64 u.t) := hbu2.cell 0
          have uc1 : ((w.alloc (.cells #[.bool true, .pointer aa, .pointer (some ⟨bu, 0, none⟩)] TSd)).alloc (.cells #[.bool true, .pointer (some ⟨bv, 0, none⟩), .pointer bb] TSd)).cell? ⟨bu, 1, none⟩ = some (.int .i64 u.i) := hbu2.cell 1
          have uc2 : ((w.alloc (.cells #[.bool true, .pointer aa, .pointer (some ⟨bu, 0, none⟩)] TSd)).alloc (.cells #[.bool true, .pointer (some ⟨bv, 0, none⟩), .pointer bb] TSd)).cell? ⟨bu, 2, none⟩ = some (.int .i64 u.p) := hbu2.cell 2
          have uc3 : ((w.alloc (.cells #[.bool true, .pointer aa, .pointer (some ⟨bu, 0, none⟩)] TSd)).alloc (.cells #[.bool true, .pointer (some ⟨bv, 0, none⟩), .pointer bb] TSd)).cell? ⟨bu, 3, none⟩ = some (.int .i64 u.r) := hbu2.cell 3
          have uc4 : ((w.alloc (.cells #[.bool true, .pointer aa, .pointer (some ⟨bu, 0, none⟩)] TSd)).alloc (.cells #[.bool true, .pointer (some ⟨bv, 0, none⟩), .pointer bb] TSd)).cell? ⟨bu, 4, none⟩ = some (.string u.s) := hbu2.cell 4
          have uc5 : ((w.alloc (.cells #[.bool true, .pointer aa, .pointer (some ⟨bu, 0, none⟩)] TSd)).alloc (.cells #[.bool true, .pointer (some ⟨bv, 0, none⟩), .pointer bb] TSd)).cell? ⟨bu, 5, none⟩ = some (.string u.o) := hbu2.cell 5
          have uc6 : ((w.alloc (.cells #[.bool true, .pointer aa, .pointer (some ⟨bu, 0, none⟩)] TSd)).alloc (.cells #[.bool true, .pointer (some ⟨bv, 0, none⟩), .pointer bb] TSd)).cell? ⟨bu, 6, none⟩ = some (.int .i64 u.b) := hbu2.cell 6
          have uc7 : ((w.alloc (.cells #[.bool true, .pointer aa, .pointer (some ⟨bu, 0, none⟩)] TSd)).alloc (.cells #[.bool true, .pointer (some ⟨bv, 0, none⟩), .pointer bb] TSd)).cell? ⟨bu, 7, none⟩ = some (.int .i64 u.d) := hbu2.cell 7
          have uc8 : ((w.alloc (.cells #[.bool true, .pointer aa, .pointer (some ⟨bu, 0, none⟩)] TSd)).alloc (.cells #[.bool true, .pointer (some ⟨bv, 0, none⟩), .pointer bb] TSd)).cell? ⟨bu, 8, none⟩ = some (.bool u.g) := hbu2.cell 8
          have vc0 : ((w.alloc (.cells #[.bool true, .pointer aa, .pointer (some ⟨bu, 0, none⟩)] TSd)).alloc (.cells #[.bool true, .pointer (some ⟨bv, 0, none⟩), .pointer bb] TSd)).cell? ⟨bv, 0, none⟩ = some (.int .i64 v.t) := hbv2.cell 0
          have vc1 : ((w.alloc (.cells #[.bool true, .pointer aa, .pointer (some ⟨bu, 0, none⟩)] TSd)).alloc (.cells #[.bool true, .pointer (some ⟨bv, 0, none⟩), .pointer bb] TSd)).cell? ⟨bv, 1, none⟩ = some (.int .i64 v.i) := hbv2.cell 1
          have vc2 : ((w.alloc (.cells #[.bool true, .pointer aa, .pointer (some ⟨bu, 0, none⟩)] TSd)).alloc (.cells #[.bool true, .pointer (some ⟨bv, 0, none⟩), .pointer bb] TSd)).cell? ⟨bv, 2, none⟩ = some (.int .i64 v.p) := hbv2.cell 2
          have vc3 : ((w.alloc (.cells #[.bool true, .pointer aa, .pointer (some ⟨bu, 0, none⟩)] TSd)).alloc (.cells #[.bool true, .pointer (some ⟨bv, 0, none⟩), .pointer bb] TSd)).cell? ⟨bv, 3, none⟩ = some (.int .i64 v.r) := hbv2.cell 3
          have vc4 : ((w.alloc (.cells #[.bool true, .pointer aa, .pointer (some ⟨bu, 0, none⟩)] TSd)).alloc (.cells #[.bool true, .pointer (some ⟨bv, 0, none⟩), .pointer bb] TSd)).cell? ⟨bv, 4, none⟩ = some (.string v.s) := hbv2.cell 4
          have vc5 : ((w.alloc (.cells #[.bool true, .pointer aa, .pointer (some ⟨bu, 0, none⟩)] TSd)).alloc (.cells #[.bool true, .pointer (some ⟨bv, 0, none⟩), .pointer bb] TSd)).cell? ⟨bv, 5, none⟩ = some (.string v.o) := hbv2.cell 5
          have vc6 : ((w.alloc (.cells #[.bool true, .pointer aa, .pointer (some ⟨bu, 0, none⟩)] TSd)).alloc (.cells #[.bool true, .pointer (some ⟨bv, 0, none⟩), .pointer bb] TSd)).cell? ⟨bv, 6, none⟩ = some (.int .i64 v.b) := hbv2.cell 6
          have vc7 : ((w.alloc (.cells #[.bool true, .pointer aa, .pointer (some ⟨bu, 0, none⟩)] TSd)).alloc (.cells #[.bool true, .pointer (some ⟨bv, 0, none⟩), .pointer bb] TSd)).cell? ⟨bv, 7, none⟩ = some (.int .i64 v.d) := hbv2.cell 7
          have vc8 : ((w.alloc (.cells #[.bool true, .pointer aa, .pointer (some ⟨bu, 0, none⟩)] TSd)).alloc (.cells #[.bool true, .pointer (some ⟨bv, 0, none⟩), .pointer bb] TSd)).cell? ⟨bv, 8, none⟩ = some (.bool v.g) := hbv2.cell 8
          have hq0 := fun V : World => neq_parts u.t u.i u.p u.r u.b u.d v.t v.i v.p v.r v.b v.d u.s u.o v.s v.o u.g v.g V
          have hqe : eqS ⟨u.t, u.i, u.p, u.r, u.s, u.o, u.b, u.d, u.g⟩ ⟨v.t, v.i, v.p, v.r, v.s, v.o, v.b, v.d, v.g⟩ = eqS u v := rfl
          rw [hqe] at hq0
          clear h1 h2 hbu hbv hf hbu2 hbv2 hqe
          cases hq : eqS u v with
          | true =>
            have e3 : u = v := eqS_iff.1 hq
            have HE2 : Hid ((if some u = some v then (0 : Int) else 7) = 0) := by show _ = _; rw [if_pos (congrArg some e3)]
            rw [HE2.out]
            rw [hq] at hq0
            clear e3 hq
            go_enter Tryz.func45, Tryz.ntmps45
            go_upto_region 3 with (fail)
            go_quiet (fail)
            go_wp2_with fail
            go_ret
            exact ⟨rfl, fr2n w _ _ _⟩
          | false =>
            have HE2 : Hid ((if some u = some v then (0 : Int) else 7) = 7) := by show _ = _; rw [if_neg (fun e => by rw [eqS_iff.2 (Option.some.inj e)] at hq; cases hq)]
            rw [HE2.out]
            rw [hq] at hq0
            clear hq
            go_enter Tryz.func45, Tryz.ntmps45
            go_upto_region 3 with (fail)
            go_quiet (fail)
            go_wp2_with fail
            go_ret
            exact ⟨rfl, fr2n w _ _ _⟩
end Comp
end Go.Proofs.YtkhhdadlpilbmaaGreat
namespace Go.Proofs.YtkhhdadlpilbmaaGreat
open Go.RowKit
namespace Comp
open KeyP PackP SetP SetW SetF Sli Delta
attribute [local go_sem] Eng.ev Eng.getO_cons Eng.getO_nil
/-- Two lists of the call's own, in one box. -/
structure C2 (n0 lo Bd : Nat) (w0 W : World) (P Q : List Sn) (v1 v2 : Value) : Prop where
  b : Bk W Bd #[v1, v2] TDl
  o1 : W.ownsRow n0 TSn 9 v1 P.length (P.flatMap scs)
  o2 : W.ownsRow n0 TSn 9 v2 Q.length (Q.flatMap scs)
  ne : ∀ b, v1.ownBlock = some b → v2.ownBlock ≠ some b
  bel : Below n0 w0 W
  out1 : ∀ b, v1.ownBlock = some b → b < lo ∨ lo + 2 ≤ b
  out2 : ∀ b, v2.ownBlock = some b → b < lo ∨ lo + 2 ≤ b
theorem C2.abide {n0 lo Bd : Nat} {w0 A B : World} {P Q : List Sn} {v1 v2 : Value} (h : C2 n0 lo Bd w0 A P Q v1 v2) (hf : Fr (Rg lo (lo + 2)) A B) (hn : n0 ≤ lo) (hd : Bd < lo) (hs : n0 ≤ A.heap.size) : C2 n0 lo Bd w0 B P Q v1 v2 :=
  ⟨h.b.fr hf (fun k hk e => by simp at hk; subst hk; have := e.1; omega), ownsRow_fr h.o1 hf (fun b hb e => by have := h.out1 b hb; have := e.1; have := e.2; omega), ownsRow_fr h.o2 hf (fun b hb e => by have := h.out2 b hb; have := e.1; have := e.2; omega), h.ne,
    h.bel.trans (hf.below hs (fun k hk e => by have := e.1; omega)), h.out1, h.out2⟩
theorem C2.keep {n0 lo Bd : Nat} {w0 A B : World} {P Q : List Sn} {v1 v2 : Value} (h : C2 n0 lo Bd w0 A P Q v1 v2) (hf : Fr (fun _ => False) A B) (hs : n0 ≤ A.heap.size) : C2 n0 lo Bd w0 B P Q v1 v2 :=
  ⟨h.b.fr hf (fun _ _ h => h), ownsRow_fr h.o1 hf (fun _ _ h => h), ownsRow_fr h.o2 hf (fun _ _ h => h), h.ne, h.bel.trans (hf.below hs (fun _ _ h => h)), h.out1, h.out2⟩
theorem C2.ne1 {n0 lo Bd : Nat} {w0 A : World} {P Q : List Sn} {v1 v2 : Value} (h : C2 n0 lo Bd w0 A P Q v1 v2) : ∀ b, v1.ownBlock = some b → b ≠ Bd := fun b hb e => by
  obtain ⟨_, _, c, hc⟩ := ownsRow_blk h.o1 b hb
  rw [e, show A.heap[Bd]? = _ from h.b] at hc
  cases hc
theorem C2.ne2 {n0 lo Bd : Nat} {w0 A : World} {P Q : List Sn} {v1 v2 : Value} (h : C2 n0 lo Bd w0 A P Q v1 v2) : ∀ b, v2.ownBlock = some b → b ≠ Bd := fun b hb e => by
  obtain ⟨_, _, c, hc⟩ := ownsRow_blk h.o2 b hb
  rw [e, show A.heap[Bd]? = _ from h.b] at hc
  cases hc
theorem C2.step1 {n0 lo Bd : Nat} {w0 W w1 : World} {P Q : List Sn} {v1 v2 v' : Value} {o : Obj} {y : Sn} (h : C2 n0 lo Bd w0 W P Q v1 v2) (hn : n0 ≤ W.heap.size) (hlo : lo + 2 ≤ W.heap.size) (hBd : n0 ≤ Bd)
    (hown : w1.ownsRow n0 TSn 9 v' (P.length + 1) (P.flatMap scs ++ scs y)) (hg : (W.alloc o).grownBy w1 v1.ownBlock) (hv : v'.ownBlock = v1.ownBlock ∨ v'.ownBlock = some (W.alloc o).heap.size) :
    C2 n0 lo Bd w0 (w1.setCell ⟨Bd, 0, none⟩ v') (P ++ [y]) Q v' v2 ∧ Fr (fun b => b = Bd ∨ v1.ownBlock = some b) W (w1.setCell ⟨Bd, 0, none⟩ v') ∧ Bk w1 Bd #[v1, v2] TDl := by
  have f1 : Fr (fun b => v1.ownBlock = some b) W w1 := (Fr.alloc (fun _ => False) W o).trans (Fr.grown hg (S := fun b => v1.ownBlock = some b) (fun k h => h)) (fun _ _ h => h.elim) (fun _ _ h => h)
  have hb1 : Bk w1 Bd #[v1, v2] TDl := h.b.fr f1 (fun b hb e => by simp at hb; subst hb; exact h.ne1 b e rfl)
  have ne' : ∀ b, v'.ownBlock = some b → b ≠ Bd := fun b hb e => by
    obtain ⟨_, _, c, hc⟩ := ownsRow_blk hown b hb
    rw [e, show w1.heap[Bd]? = _ from hb1] at hc
    cases hc
  have f2 := Fr.setCell w1 ⟨Bd, 0, none⟩ v' (S := (· = Bd)) rfl
  have f3 : Fr (fun b => b = Bd ∨ v1.ownBlock = some b) W (w1.setCell ⟨Bd, 0, none⟩ v') := f1.trans f2 (fun _ _ h => .inr h) (fun _ _ h => .inl h)
  have sz : (W.alloc o).heap.size = W.heap.size + 1 := by simp
  have other : ∀ b, v2.ownBlock = some b → v'.ownBlock ≠ some b := fun b hb e => by
    rcases hv with hv | hv
    · rw [hv] at e; exact h.ne b e hb
    · rw [e] at hv; have := (ownsRow_blk h.o2 b hb).2.1; have := Option.some.inj hv; omega
  have hc := hb1.set 0 v'
  refine ⟨⟨by simpa using hc, by rw [List.length_append, List.length_singleton, List.flatMap_append]; simpa using ownsRow_fr hown f2 ne', ownsRow_fr h.o2 f3 (fun b hb e => by rcases e with e | e; exact h.ne2 b hb e; exact h.ne b e hb), fun b hb e => other b e hb, h.bel.trans (f3.below hn ?_), fun b hb => by rcases hv with hv | hv; exact h.out1 b (hv ▸ hb); rw [hb] at hv; have := Option.some.inj hv; omega, h.out2⟩, f3, hb1⟩
  rintro i hi (e | e)
  · omega
  · have := (ownsRow_blk h.o1 i e).1; omega
theorem C2.step2 {n0 lo Bd : Nat} {w0 W w1 : World} {P Q : List Sn} {v1 v2 v' : Value} {o : Obj} {y : Sn} (h : C2 n0 lo Bd w0 W P Q v1 v2) (hn : n0 ≤ W.heap.size) (hlo : lo + 2 ≤ W.heap.size) (hBd : n0 ≤ Bd)
    (hown : w1.ownsRow n0 TSn 9 v' (Q.length + 1) (Q.flatMap scs ++ scs y)) (hg : (W.alloc o).grownBy w1 v2.ownBlock) (hv : v'.ownBlock = v2.ownBlock ∨ v'.ownBlock = some (W.alloc o).heap.size) :
    C2 n0 lo Bd w0 (w1.setCell ⟨Bd, 1, none⟩ v') P (Q ++ [y]) v1 v' ∧ Fr (fun b => b = Bd ∨ v2.ownBlock = some b) W (w1.setCell ⟨Bd, 1, none⟩ v') ∧ Bk w1 Bd #[v1, v2] TDl := by
  have f1 : Fr (fun b => v2.ownBlock = some b) W w1 := (Fr.alloc (fun _ => False) W o).trans (Fr.grown hg (S := fun b => v2.ownBlock = some b) (fun k h => h)) (fun _ _ h => h.elim) (fun _ _ h => h)
  have hb1 : Bk w1 Bd #[v1, v2] TDl := h.b.fr f1 (fun b hb e => by simp at hb; subst hb; exact h.ne2 b e rfl)
  have ne' : ∀ b, v'.ownBlock = some b → b ≠ Bd := fun b hb e => by
    obtain ⟨_, _, c, hc⟩ := ownsRow_blk hown b hb
    rw [e, show w1.heap[Bd]? = _ from hb1] at hc
    cases hc
  have f2 := Fr.setCell w1 ⟨Bd, 1, none⟩ v' (S := (· = Bd)) rfl
  have f3 : Fr (fun b => b = Bd ∨ v2.ownBlock = some b) W (w1.setCell ⟨Bd, 1, none⟩ v') := f1.trans f2 (fun _ _ h => .inr h) (fun _ _ h => .inl h)
  have sz : (W.alloc o).heap.size = W.heap.size + 1 := by simp
  have other : ∀ b, v1.ownBlock = some b → v'.ownBlock ≠ some b := fun b hb e => by
    rcases hv with hv | hv
    · rw [hv] at e; exact h.ne b hb e
    · rw [e] at hv; have := (ownsRow_blk h.o1 b hb).2.1; have := Option.some.inj hv; omega
  have hc := hb1.set 1 v'
  refine ⟨⟨by simpa using hc, ownsRow_fr h.o1 f3 (fun b hb e => by rcases e with e | e; exact h.ne1 b hb e; exact h.ne b hb e), by rw [List.length_append, List.length_singleton, List.flatMap_append]; simpa using ownsRow_fr hown f2 ne', fun b hb => other b hb, h.bel.trans (f3.below hn ?_), h.out1, fun b hb => by rcases hv with hv | hv; exact h.out2 b (hv ▸ hb); rw [hb] at hv; have := Option.some.inj hv; omega⟩, f3, hb1⟩
  rintro i hi (e | e)
  · omega
  · have := (ownsRow_blk h.o2 i e).1; omega
/-- A round's state: two lists, a side's box, a record that it points to. -/
structure R22 (n0 lo Bd Bs bx : Nat) (w0 W : World) (P Q : List Sn) (v1 v2 : Value) (s : Sd) (x : Sn) : Prop where
  c : C2 n0 lo Bd w0 W P Q v1 v2
  s : Bk W Bs (sdarr s) TSd
  x : Bk W bx x.arr TSn
  n : n0 ≤ W.heap.size
  lo : lo + 2 ≤ W.heap.size
  bd : n0 ≤ Bd
  bx : bx < n0
theorem R22.keep {n0 lo Bd Bs bx : Nat} {w0 W W' : World} {P Q : List Sn} {v1 v2 : Value} {s : Sd} {x : Sn} (h : R22 n0 lo Bd Bs bx w0 W P Q v1 v2 s x) (hf : Fr (fun _ => False) W W') : R22 n0 lo Bd Bs bx w0 W' P Q v1 v2 s x :=
  ⟨h.c.keep hf h.n, h.s.fr hf (fun _ _ h => h), h.x.fr hf (fun _ _ h => h), Nat.le_trans h.n hf.size, Nat.le_trans h.lo hf.size, h.bd, h.bx⟩
theorem R22.own {n0 lo Bd Bs bx : Nat} {w0 W : World} {P Q : List Sn} {v1 v2 v : Value} {s : Sd} {x : Sn} (h : R22 n0 lo Bd Bs bx w0 W P Q v1 v2 s x) (hv : v = v1 ∨ v = v2) : ∀ b, v.ownBlock = some b → n0 ≤ b ∧ ∃ c, W.heap[b]? = some (.cells c TSn (0, 0)) := fun b e => by
  rcases hv with rfl | rfl
  · obtain ⟨h1, _, h2⟩ := ownsRow_blk h.c.o1 b e; exact ⟨h1, h2⟩
  · obtain ⟨h1, _, h2⟩ := ownsRow_blk h.c.o2 b e; exact ⟨h1, h2⟩
theorem R22.side {n0 lo Bd Bs bx : Nat} {w0 W : World} {P Q : List Sn} {v1 v2 v : Value} {s : Sd} {x : Sn} (h : R22 n0 lo Bd Bs bx w0 W P Q v1 v2 s x) (hv : v = v1 ∨ v = v2) : ∀ b ∈ [Bs], ¬ (b = Bd ∨ v.ownBlock = some b) := fun b hk e => by
  simp at hk; subst hk
  rcases e with e | e
  · have h1 := h.s; rw [e] at h1
    have h2 : W.heap[Bd]? = _ := h.c.b
    rw [show W.heap[Bd]? = _ from h1] at h2; cases h2
  · obtain ⟨-, c, hc⟩ := h.own hv _ e
    rw [show W.heap[b]? = _ from h.s] at hc; cases hc
theorem R22.rcd {n0 lo Bd Bs bx : Nat} {w0 W : World} {P Q : List Sn} {v1 v2 v : Value} {s : Sd} {x : Sn} (h : R22 n0 lo Bd Bs bx w0 W P Q v1 v2 s x) (hv : v = v1 ∨ v = v2) : ∀ b ∈ [bx], ¬ (b = Bd ∨ v.ownBlock = some b) := fun b hk e => by
  simp at hk; subst hk
  rcases e with e | e
  · have := h.bd; have := h.bx; omega
  · have := (h.own hv _ e).1; have := h.bx; omega
theorem R22.fr {n0 lo Bd Bs bx : Nat} {w0 W W' : World} {P Q P' Q' : List Sn} {v1 v2 v1' v2' v : Value} {s : Sd} {x : Sn} (h : R22 n0 lo Bd Bs bx w0 W P Q v1 v2 s x) (hv : v = v1 ∨ v = v2) (hc : C2 n0 lo Bd w0 W' P' Q' v1' v2') (hf : Fr (fun b => b = Bd ∨ v.ownBlock = some b) W W') : R22 n0 lo Bd Bs bx w0 W' P' Q' v1' v2' s x := by
  exact ⟨hc, h.s.fr hf (h.side hv), h.x.fr hf (h.rcd hv), Nat.le_trans h.n hf.size, Nat.le_trans h.lo hf.size, h.bd, h.bx⟩
set_option maxRecDepth 100000 in
set_option maxHeartbeats 1000000 in
theorem c22 {ops : Array Oper} (hops : Eng.fnOps Tryz.f19 22 = ops) (a0 : Act) (Q0 : Exit → Act → World → Prop) (lr mr : Nat) (n0 lo Bd Bs bx : Nat) (w0 w : World) (P Q : List Sn) (v1 v2 : Value) (s : Sd) (x : Sn) (hst : R22 n0 lo Bd Bs bx w0 w P Q v1 v2 s x) (hp : s.a = some ⟨bx, 0, none⟩) (hlen : P.length ≤ 4000000)
    (hn : a0.tmps.size = 110) (h_14 : a0.tmps.getD 14 undef = .pointer (some ⟨Bd, 0, none⟩)) (h_16 : a0.tmps.getD 16 undef = .pointer (some ⟨Bs, 0, none⟩))
    (hpost : ∀ (z : Nat → Value) (w' : World) (v' : Value), R22 n0 lo Bd Bs bx w0 w' (P ++ [x]) Q v' v2 s x → Fr (fun b => b = Bd ∨ v1.ownBlock = some b) w w' → Q0 .normal (Eng.setAll a0 [88, 89, 90, 91, 92, 93, 94, 95, 96] z) w') :
    (Code.region 22 ops true).wpIn (Fence.wide.inRound lr) mr Tryz.prog Q0 a0 w := by
  simp only [Eng.fnOps, Eng.regOps, Tryz.f19, Option.bind_some, Option.getD_some, Nat.reduceEqDiff, ↓reduceIte] at hops
  subst hops
  obtain ⟨i0, hi, hz0, hz1, hz2⟩ := info_parts infoS
  have HSt := Lib.hid (hst.keep (Fr.drew _ _))
  have hSS : w.drew.cell? ⟨Bs, 1, none⟩ = some (.pointer (some ⟨bx, 0, none⟩)) ∧ w.drew.cell? ⟨bx, 0, none⟩ = some (.int .i64 x.t) ∧ w.drew.cell? ⟨bx, 1, none⟩ = some (.int .i64 x.i) ∧ w.drew.cell? ⟨bx, 2, none⟩ = some (.int .i64 x.p) ∧ w.drew.cell? ⟨bx, 3, none⟩ = some (.int .i64 x.r) ∧ w.drew.cell? ⟨bx, 4, none⟩ = some (.string x.s) ∧ w.drew.cell? ⟨bx, 5, none⟩ = some (.string x.o) ∧ w.drew.cell? ⟨bx, 6, none⟩ = some (.int .i64 x.b) ∧ w.drew.cell? ⟨bx, 7, none⟩ = some (.int .i64 x.d) ∧ w.drew.cell? ⟨bx, 8, none⟩ = some (.bool x.g) := ⟨(by have := HSt.out.s.cell 1; simp only [List.getElem?_toArray, List.getElem?_cons_zero, List.getElem?_cons_succ, hp] at this; exact this), HSt.out.x.cell 0, HSt.out.x.cell 1, HSt.out.x.cell 2, HSt.out.x.cell 3, HSt.out.x.cell 4, HSt.out.x.cell 5, HSt.out.x.cell 6, HSt.out.x.cell 7, HSt.out.x.cell 8⟩
  have cd : w.drew.cell? ⟨Bd, 0, none⟩ = some v1 := HSt.out.c.b.cell 0
  have hfa := Fr.alloc (fun _ => False) w.drew (.cells x.arr TSn)
  have HSa := Lib.hid (HSt.out.keep hfa)
  have cda : (w.alloc (.cells x.arr TSn)).cell? ⟨Bd, 0, none⟩ = some v1 := HSa.out.c.b.cell 0
  have hSa : (w.drew.alloc (.cells x.arr TSn)).cell? ⟨Bs, 1, none⟩ = some (.pointer (some ⟨bx, 0, none⟩)) ∧ (w.drew.alloc (.cells x.arr TSn)).cell? ⟨bx, 0, none⟩ = some (.int .i64 x.t) ∧ (w.drew.alloc (.cells x.arr TSn)).cell? ⟨bx, 1, none⟩ = some (.int .i64 x.i) ∧ (w.drew.alloc (.cells x.arr TSn)).cell? ⟨bx, 2, none⟩ = some (.int .i64 x.p) ∧ (w.drew.alloc (.cells x.arr TSn)).cell? ⟨bx, 3, none⟩ = some (.int .i64 x.r) ∧ (w.drew.alloc (.cells x.arr TSn)).cell? ⟨bx, 4, none⟩ = some (.string x.s) ∧ (w.drew.alloc (.cells x.arr TSn)).cell? ⟨bx, 5, none⟩ = some (.string x.o) ∧ (w.drew.alloc (.cells x.arr TSn)).cell? ⟨bx, 6, none⟩ = some (.int .i64 x.b) ∧ (w.drew.alloc (.cells x.arr TSn)).cell? ⟨bx, 7, none⟩ = some (.int .i64 x.d) ∧ (w.drew.alloc (.cells x.arr TSn)).cell? ⟨bx, 8, none⟩ = some (.bool x.g) := ⟨(by have := HSa.out.s.cell 1; simp only [List.getElem?_toArray, List.getElem?_cons_zero, List.getElem?_cons_succ, hp] at this; exact this), HSa.out.x.cell 0, HSa.out.x.cell 1, HSa.out.x.cell 2, HSa.out.x.cell 3, HSa.out.x.cell 4, HSa.out.x.cell 5, HSa.out.x.cell 6, HSa.out.x.cell 7, HSa.out.x.cell 8⟩
  have hownA := HSa.out.c.o1
  clear hfa
  refine Eng.regionTIn (.take 0 (.take 2 (.take 3 (.take 4 (.take 5 (.alt 1 (.alt 6 (.alt 7 (.take 8 (.alt 9 (.done) (.stop))) (.stop)) (.stop)) (.alt 6 (.alt 1 (.alt 7 (.take 8 (.alt 9 (.done) (.stop))) (.stop)) (.stop)) (.stop)))))))) (fun w' => w'.cell? ⟨Bs, 1, none⟩ = some (.pointer (some ⟨bx, 0, none⟩)) ∧ w'.cell? ⟨bx, 0, none⟩ = some (.int .i64 x.t) ∧ w'.cell? ⟨bx, 1, none⟩ = some (.int .i64 x.i) ∧ w'.cell? ⟨bx, 2, none⟩ = some (.int .i64 x.p) ∧ w'.cell? ⟨bx, 3, none⟩ = some (.int .i64 x.r) ∧ w'.cell? ⟨bx, 4, none⟩ = some (.string x.s) ∧ w'.cell? ⟨bx, 5, none⟩ = some (.string x.o) ∧ w'.cell? ⟨bx, 6, none⟩ = some (.int .i64 x.b) ∧ w'.cell? ⟨bx, 7, none⟩ = some (.int .i64 x.d) ∧ w'.cell? ⟨bx, 8, none⟩ = some (.bool x.g)) (by kernel_rfl) 110 hn (by kernel_rfl) (by kernel_rfl) (by kernel_rfl) (by kernel_rfl) (hSS) (fun a b ha hb => ?_)
  subst ha
  have hb14 : b 14 = .pointer (some ⟨Bd, 0, none⟩) := (hb 14).symm.trans h_14
  have hb16 : b 16 = .pointer (some ⟨Bs, 0, none⟩) := (hb 16).symm.trans h_16
  clear hb h_14 h_16
  have HP := Lib.hid hpost; have HN := Lib.hid hn
  clear hpost hn
  refine Eng.TW.take' (v := ?_) rfl rfl (by decide) (by kernel_rfl) (fun w hw => ?_) ?_
  rotate_left
  · (try dsimp only at hw); go_simp; first | done | with_reducible rfl
  refine Eng.TW.take' (v := ?_) rfl rfl (by decide) (by kernel_rfl) (fun w hw => ?_) ?_
  rotate_left
  · (try dsimp only at hw); go_simp; first | done | with_reducible rfl
  refine Eng.TW.take' (v := ?_) rfl rfl (by decide) (by kernel_rfl) (fun w hw => ?_) ?_
  rotate_left
  · (try dsimp only at hw); go_simp; first | done | with_reducible rfl
  refine Eng.TW.take' (v := ?_) rfl rfl (by decide) (by kernel_rfl) (fun w hw => ?_) ?_
  rotate_left
  · (try dsimp only at hw); go_simp; first | done | with_reducible rfl
  refine Eng.TW.take' (v := ?_) rfl rfl (by decide) (by kernel_rfl) (fun w hw => ?_) ?_
  rotate_left
  · (try dsimp only at hw); go_simp; first | done | with_reducible rfl
  refine Eng.TW.both ?_ ?_
  · refine Eng.TW.step rfl rfl (by decide) (by kernel_rfl) (by go_simp; first | done | with_reducible rfl) (hSS) ?_
    refine Eng.TW.step rfl rfl (by decide) (by kernel_rfl) (by go_simp; first | done | with_reducible rfl) (hSa) ?_
    refine Eng.TW.app rfl rfl (by decide) (by kernel_rfl) (.tmp 89) (.tmp 94) TSs rfl n0 TSn i0 (.agg #[.int .i64 0, .int .i64 0, .int .i64 0, .int .i64 0, .string ByteArray.empty, .string ByteArray.empty, .int .i64 0, .int .i64 0, .bool false]) 9 88 Tryz.underlying22 hi hz0 hz1 hz2 rfl (by decide) v1 _ _ ⟨w.drew.heap.size, 0, none⟩ 1 1 x.cs (by go_simp; first | done | with_reducible rfl) (by go_simp; first | done | with_reducible rfl) hownA rfl (new_cells w.drew TSn x.cs) (by simp [Value.oneCell']) (by unfold maxLen; omega) (by omega) (by have := hst.n; simp; omega) ?_
    intro v' w1 hown hg hv
    obtain ⟨A', c', rfl, -, -⟩ := Sl.of_own hown
    obtain ⟨k1, k2, k3⟩ := HSt.out.c.step1 HSt.out.n HSt.out.lo HSt.out.bd hown hg hv
    have f1 : Fr (fun b => v1.ownBlock = some b) w.drew w1 := (Fr.alloc (fun _ => False) w.drew (.cells x.arr TSn)).trans (Fr.grown hg (S := fun b => v1.ownBlock = some b) (fun k h => h)) (fun _ _ h => h.elim) (fun _ _ h => h)
    have HS1 := Lib.hid (HSt.out.fr (v := v1) (by simp) k1 k2)
    have hs1 := HSt.out.s.fr (f1.mono (T := fun b => b = Bd ∨ v1.ownBlock = some b) (fun _ _ h => .inr h)) (fun b hk e => R22.side HSt.out (v := v1) (by simp) b hk e)
    have hx1 := HSt.out.x.fr (f1.mono (T := fun b => b = Bd ∨ v1.ownBlock = some b) (fun _ _ h => .inr h)) (fun b hk e => R22.rcd HSt.out (v := v1) (by simp) b hk e)
    have hSb : w1.cell? ⟨Bs, 1, none⟩ = some (.pointer (some ⟨bx, 0, none⟩)) ∧ w1.cell? ⟨bx, 0, none⟩ = some (.int .i64 x.t) ∧ w1.cell? ⟨bx, 1, none⟩ = some (.int .i64 x.i) ∧ w1.cell? ⟨bx, 2, none⟩ = some (.int .i64 x.p) ∧ w1.cell? ⟨bx, 3, none⟩ = some (.int .i64 x.r) ∧ w1.cell? ⟨bx, 4, none⟩ = some (.string x.s) ∧ w1.cell? ⟨bx, 5, none⟩ = some (.string x.o) ∧ w1.cell? ⟨bx, 6, none⟩ = some (.int .i64 x.b) ∧ w1.cell? ⟨bx, 7, none⟩ = some (.int .i64 x.d) ∧ w1.cell? ⟨bx, 8, none⟩ = some (.bool x.g) := ⟨(by have := hs1.cell 1; simp only [List.getElem?_toArray, List.getElem?_cons_zero, List.getElem?_cons_succ, hp] at this; exact this), hx1.cell 0, hx1.cell 1, hx1.cell 2, hx1.cell 3, hx1.cell 4, hx1.cell 5, hx1.cell 6, hx1.cell 7, hx1.cell 8⟩
    refine ⟨hSb, ?_⟩
    have cd1 := k3.cell 0; have fd1 := k3.free 0
    have hSc : (w1.setCell ⟨Bd, 0, none⟩ (.slice A' (P.length + 1) c')).cell? ⟨Bs, 1, none⟩ = some (.pointer (some ⟨bx, 0, none⟩)) ∧ (w1.setCell ⟨Bd, 0, none⟩ (.slice A' (P.length + 1) c')).cell? ⟨bx, 0, none⟩ = some (.int .i64 x.t) ∧ (w1.setCell ⟨Bd, 0, none⟩ (.slice A' (P.length + 1) c')).cell? ⟨bx, 1, none⟩ = some (.int .i64 x.i) ∧ (w1.setCell ⟨Bd, 0, none⟩ (.slice A' (P.length + 1) c')).cell? ⟨bx, 2, none⟩ = some (.int .i64 x.p) ∧ (w1.setCell ⟨Bd, 0, none⟩ (.slice A' (P.length + 1) c')).cell? ⟨bx, 3, none⟩ = some (.int .i64 x.r) ∧ (w1.setCell ⟨Bd, 0, none⟩ (.slice A' (P.length + 1) c')).cell? ⟨bx, 4, none⟩ = some (.string x.s) ∧ (w1.setCell ⟨Bd, 0, none⟩ (.slice A' (P.length + 1) c')).cell? ⟨bx, 5, none⟩ = some (.string x.o) ∧ (w1.setCell ⟨Bd, 0, none⟩ (.slice A' (P.length + 1) c')).cell? ⟨bx, 6, none⟩ = some (.int .i64 x.b) ∧ (w1.setCell ⟨Bd, 0, none⟩ (.slice A' (P.length + 1) c')).cell? ⟨bx, 7, none⟩ = some (.int .i64 x.d) ∧ (w1.setCell ⟨Bd, 0, none⟩ (.slice A' (P.length + 1) c')).cell? ⟨bx, 8, none⟩ = some (.bool x.g) := ⟨(by have := HS1.out.s.cell 1; simp only [List.getElem?_toArray, List.getElem?_cons_zero, List.getElem?_cons_succ, hp] at this; exact this), HS1.out.x.cell 0, HS1.out.x.cell 1, HS1.out.x.cell 2, HS1.out.x.cell 3, HS1.out.x.cell 4, HS1.out.x.cell 5, HS1.out.x.cell 6, HS1.out.x.cell 7, HS1.out.x.cell 8⟩
    have HF1 := Lib.hid k2
    clear hown hg hv k1 k2 f1 hs1 hx1
    refine Eng.TW.take' (v := ?_) rfl rfl (by decide) (by kernel_rfl) (fun w hw => ?_) ?_
    rotate_left
    · (try dsimp only at hw); go_simp; first | done | with_reducible rfl
    refine Eng.TW.step0 rfl rfl (by kernel_rfl) (by go_simp; first | done | with_reducible rfl) (hSc) ?_
    refine Eng.TW.end_ [88, 89, 90, 91, 92, 93, 94, 95, 96] HN.out (by kernel_rfl) (by kernel_rfl) ?_
    exact HP.out _ _ _ HS1.out ((Fr.drew (fun _ => False) w).trans HF1.out (fun _ _ h => h.elim) (fun _ _ h => h))
  refine Eng.TW.step rfl rfl (by decide) (by kernel_rfl) (by go_simp; first | done | with_reducible rfl) (hSa) ?_
  refine Eng.TW.step rfl rfl (by decide) (by kernel_rfl) (by go_simp; first | done | with_reducible rfl) (hSa) ?_
  refine Eng.TW.app rfl rfl (by decide) (by kernel_rfl) (.tmp 89) (.tmp 94) TSs rfl n0 TSn i0 (.agg #[.int .i64 0, .int .i64 0, .int .i64 0, .int .i64 0, .string ByteArray.empty, .string ByteArray.empty, .int .i64 0, .int .i64 0, .bool false]) 9 88 Tryz.underlying22 hi hz0 hz1 hz2 rfl (by decide) v1 _ _ ⟨w.drew.heap.size, 0, none⟩ 1 1 x.cs (by go_simp; first | done | with_reducible rfl) (by go_simp; first | done | with_reducible rfl) hownA rfl (new_cells w.drew TSn x.cs) (by simp [Value.oneCell']) (by unfold maxLen; omega) (by omega) (by have := hst.n; simp; omega) ?_
  intro v' w1 hown hg hv
  obtain ⟨A', c', rfl, -, -⟩ := Sl.of_own hown
  obtain ⟨k1, k2, k3⟩ := HSt.out.c.step1 HSt.out.n HSt.out.lo HSt.out.bd hown hg hv
  have f1 : Fr (fun b => v1.ownBlock = some b) w.drew w1 := (Fr.alloc (fun _ => False) w.drew (.cells x.arr TSn)).trans (Fr.grown hg (S := fun b => v1.ownBlock = some b) (fun k h => h)) (fun _ _ h => h.elim) (fun _ _ h => h)
  have HS1 := Lib.hid (HSt.out.fr (v := v1) (by simp) k1 k2)
  have hs1 := HSt.out.s.fr (f1.mono (T := fun b => b = Bd ∨ v1.ownBlock = some b) (fun _ _ h => .inr h)) (fun b hk e => R22.side HSt.out (v := v1) (by simp) b hk e)
  have hx1 := HSt.out.x.fr (f1.mono (T := fun b => b = Bd ∨ v1.ownBlock = some b) (fun _ _ h => .inr h)) (fun b hk e => R22.rcd HSt.out (v := v1) (by simp) b hk e)
  have hSb : w1.cell? ⟨Bs, 1, none⟩ = some (.pointer (some ⟨bx, 0, none⟩)) ∧ w1.cell? ⟨bx, 0, none⟩ = some (.int .i64 x.t) ∧ w1.cell? ⟨bx, 1, none⟩ = some (.int .i64 x.i) ∧ w1.cell? ⟨bx, 2, none⟩ = some (.int .i64 x.p) ∧ w1.cell? ⟨bx, 3, none⟩ = some (.int .i64 x.r) ∧ w1.cell? ⟨bx, 4, none⟩ = some (.string x.s) ∧ w1.cell? ⟨bx, 5, none⟩ = some (.string x.o) ∧ w1.cell? ⟨bx, 6, none⟩ = some (.int .i64 x.b) ∧ w1.cell? ⟨bx, 7, none⟩ = some (.int .i64 x.d) ∧ w1.cell? ⟨bx, 8, none⟩ = some (.bool x.g) := ⟨(by have := hs1.cell 1; simp only [List.getElem?_toArray, List.getElem?_cons_zero, List.getElem?_cons_succ, hp] at this; exact this), hx1.cell 0, hx1.cell 1, hx1.cell 2, hx1.cell 3, hx1.cell 4, hx1.cell 5, hx1.cell 6, hx1.cell 7, hx1.cell 8⟩
  refine ⟨hSb, ?_⟩
  have cd1 := k3.cell 0; have fd1 := k3.free 0
  have hSc : (w1.setCell ⟨Bd, 0, none⟩ (.slice A' (P.length + 1) c')).cell? ⟨Bs, 1, none⟩ = some (.pointer (some ⟨bx, 0, none⟩)) ∧ (w1.setCell ⟨Bd, 0, none⟩ (.slice A' (P.length + 1) c')).cell? ⟨bx, 0, none⟩ = some (.int .i64 x.t) ∧ (w1.setCell ⟨Bd, 0, none⟩ (.slice A' (P.length + 1) c')).cell? ⟨bx, 1, none⟩ = some (.int .i64 x.i) ∧ (w1.setCell ⟨Bd, 0, none⟩ (.slice A' (P.length + 1) c')).cell? ⟨bx, 2, none⟩ = some (.int .i64 x.p) ∧ (w1.setCell ⟨Bd, 0, none⟩ (.slice A' (P.length + 1) c')).cell? ⟨bx, 3, none⟩ = some (.int .i64 x.r) ∧ (w1.setCell ⟨Bd, 0, none⟩ (.slice A' (P.length + 1) c')).cell? ⟨bx, 4, none⟩ = some (.string x.s) ∧ (w1.setCell ⟨Bd, 0, none⟩ (.slice A' (P.length + 1) c')).cell? ⟨bx, 5, none⟩ = some (.string x.o) ∧ (w1.setCell ⟨Bd, 0, none⟩ (.slice A' (P.length + 1) c')).cell? ⟨bx, 6, none⟩ = some (.int .i64 x.b) ∧ (w1.setCell ⟨Bd, 0, none⟩ (.slice A' (P.length + 1) c')).cell? ⟨bx, 7, none⟩ = some (.int .i64 x.d) ∧ (w1.setCell ⟨Bd, 0, none⟩ (.slice A' (P.length + 1) c')).cell? ⟨bx, 8, none⟩ = some (.bool x.g) := ⟨(by have := HS1.out.s.cell 1; simp only [List.getElem?_toArray, List.getElem?_cons_zero, List.getElem?_cons_succ, hp] at this; exact this), HS1.out.x.cell 0, HS1.out.x.cell 1, HS1.out.x.cell 2, HS1.out.x.cell 3, HS1.out.x.cell 4, HS1.out.x.cell 5, HS1.out.x.cell 6, HS1.out.x.cell 7, HS1.out.x.cell 8⟩
  have HF1 := Lib.hid k2
  clear hown hg hv k1 k2 f1 hs1 hx1
  refine Eng.TW.take' (v := ?_) rfl rfl (by decide) (by kernel_rfl) (fun w hw => ?_) ?_
  rotate_left
  · (try dsimp only at hw); go_simp; first | done | with_reducible rfl
  refine Eng.TW.step0 rfl rfl (by kernel_rfl) (by go_simp; first | done | with_reducible rfl) (hSc) ?_
  refine Eng.TW.end_ [88, 89, 90, 91, 92, 93, 94, 95, 96] HN.out (by kernel_rfl) (by kernel_rfl) ?_
  exact HP.out _ _ _ HS1.out ((Fr.drew (fun _ => False) w).trans HF1.out (fun _ _ h => h.elim) (fun _ _ h => h))
set_option maxRecDepth 100000 in
set_option maxHeartbeats 1000000 in
theorem c24 {ops : Array Oper} (hops : Eng.fnOps Tryz.f19 24 = ops) (a0 : Act) (Q0 : Exit → Act → World → Prop) (lr mr : Nat) (n0 lo Bd Bs bx : Nat) (w0 w : World) (P Q : List Sn) (v1 v2 : Value) (s : Sd) (x : Sn) (hst : R22 n0 lo Bd Bs bx w0 w P Q v1 v2 s x) (hp : s.b = some ⟨bx, 0, none⟩) (hlen : Q.length ≤ 4000000)
    (hn : a0.tmps.size = 110) (h_14 : a0.tmps.getD 14 undef = .pointer (some ⟨Bd, 0, none⟩)) (h_16 : a0.tmps.getD 16 undef = .pointer (some ⟨Bs, 0, none⟩))
    (hpost : ∀ (z : Nat → Value) (w' : World) (v' : Value), R22 n0 lo Bd Bs bx w0 w' P (Q ++ [x]) v1 v' s x → Fr (fun b => b = Bd ∨ v2.ownBlock = some b) w w' → Q0 .normal (Eng.setAll a0 [100, 101, 102, 103, 104, 105, 106, 107, 108] z) w') :
    (Code.region 24 ops true).wpIn (Fence.wide.inRound lr) mr Tryz.prog Q0 a0 w := by
  simp only [Eng.fnOps, Eng.regOps, Tryz.f19, Option.bind_some, Option.getD_some, Nat.reduceEqDiff, ↓reduceIte] at hops
  subst hops
  obtain ⟨i0, hi, hz0, hz1, hz2⟩ := info_parts infoS
  have HSt := Lib.hid (hst.keep (Fr.drew _ _))
  have hSS : w.drew.cell? ⟨Bs, 2, none⟩ = some (.pointer (some ⟨bx, 0, none⟩)) ∧ w.drew.cell? ⟨bx, 0, none⟩ = some (.int .i64 x.t) ∧ w.drew.cell? ⟨bx, 1, none⟩ = some (.int .i64 x.i) ∧ w.drew.cell? ⟨bx, 2, none⟩ = some (.int .i64 x.p) ∧ w.drew.cell? ⟨bx, 3, none⟩ = some (.int .i64 x.r) ∧ w.drew.cell? ⟨bx, 4, none⟩ = some (.string x.s) ∧ w.drew.cell? ⟨bx, 5, none⟩ = some (.string x.o) ∧ w.drew.cell? ⟨bx, 6, none⟩ = some (.int .i64 x.b) ∧ w.drew.cell? ⟨bx, 7, none⟩ = some (.int .i64 x.d) ∧ w.drew.cell? ⟨bx, 8, none⟩ = some (.bool x.g) := ⟨(by have := HSt.out.s.cell 2; simp only [List.getElem?_toArray, List.getElem?_cons_zero, List.getElem?_cons_succ, hp] at this; exact this), HSt.out.x.cell 0, HSt.out.x.cell 1, HSt.out.x.cell 2, HSt.out.x.cell 3, HSt.out.x.cell 4, HSt.out.x.cell 5, HSt.out.x.cell 6, HSt.out.x.cell 7, HSt.out.x.cell 8⟩
  have cd : w.drew.cell? ⟨Bd, 1, none⟩ = some v2 := HSt.out.c.b.cell 1
  have hfa := Fr.alloc (fun _ => False) w.drew (.cells x.arr TSn)
  have HSa := Lib.hid (HSt.out.keep hfa)
  have cda : (w.alloc (.cells x.arr TSn)).cell? ⟨Bd, 1, none⟩ = some v2 := HSa.out.c.b.cell 1
  have hSa : (w.drew.alloc (.cells x.arr TSn)).cell? ⟨Bs, 2, none⟩ = some (.pointer (some ⟨bx, 0, none⟩)) ∧ (w.drew.alloc (.cells x.arr TSn)).cell? ⟨bx, 0, none⟩ = some (.int .i64 x.t) ∧ (w.drew.alloc (.cells x.arr TSn)).cell? ⟨bx, 1, none⟩ = some (.int .i64 x.i) ∧ (w.drew.alloc (.cells x.arr TSn)).cell? ⟨bx, 2, none⟩ = some (.int .i64 x.p) ∧ (w.drew.alloc (.cells x.arr TSn)).cell? ⟨bx, 3, none⟩ = some (.int .i64 x.r) ∧ (w.drew.alloc (.cells x.arr TSn)).cell? ⟨bx, 4, none⟩ = some (.string x.s) ∧ (w.drew.alloc (.cells x.arr TSn)).cell? ⟨bx, 5, none⟩ = some (.string x.o) ∧ (w.drew.alloc (.cells x.arr TSn)).cell? ⟨bx, 6, none⟩ = some (.int .i64 x.b) ∧ (w.drew.alloc (.cells x.arr TSn)).cell? ⟨bx, 7, none⟩ = some (.int .i64 x.d) ∧ (w.drew.alloc (.cells x.arr TSn)).cell? ⟨bx, 8, none⟩ = some (.bool x.g) := ⟨(by have := HSa.out.s.cell 2; simp only [List.getElem?_toArray, List.getElem?_cons_zero, List.getElem?_cons_succ, hp] at this; exact this), HSa.out.x.cell 0, HSa.out.x.cell 1, HSa.out.x.cell 2, HSa.out.x.cell 3, HSa.out.x.cell 4, HSa.out.x.cell 5, HSa.out.x.cell 6, HSa.out.x.cell 7, HSa.out.x.cell 8⟩
  have hownA := HSa.out.c.o2
  clear hfa
  refine Eng.regionTIn (.take 0 (.take 2 (.take 3 (.take 4 (.take 5 (.alt 1 (.alt 6 (.alt 7 (.take 8 (.alt 9 (.done) (.stop))) (.stop)) (.stop)) (.alt 6 (.alt 1 (.alt 7 (.take 8 (.alt 9 (.done) (.stop))) (.stop)) (.stop)) (.stop)))))))) (fun w' => w'.cell? ⟨Bs, 2, none⟩ = some (.pointer (some ⟨bx, 0, none⟩)) ∧ w'.cell? ⟨bx, 0, none⟩ = some (.int .i64 x.t) ∧ w'.cell? ⟨bx, 1, none⟩ = some (.int .i64 x.i) ∧ w'.cell? ⟨bx, 2, none⟩ = some (.int .i64 x.p) ∧ w'.cell? ⟨bx, 3, none⟩ = some (.int .i64 x.r) ∧ w'.cell? ⟨bx, 4, none⟩ = some (.string x.s) ∧ w'.cell? ⟨bx, 5, none⟩ = some (.string x.o) ∧ w'.cell? ⟨bx, 6, none⟩ = some (.int .i64 x.b) ∧ w'.cell? ⟨bx, 7, none⟩ = some (.int .i64 x.d) ∧ w'.cell? ⟨bx, 8, none⟩ = some (.bool x.g)) (by kernel_rfl) 110 hn (by kernel_rfl) (by kernel_rfl) (by kernel_rfl) (by kernel_rfl) (hSS) (fun a b ha hb => ?_)
  subst ha
  have hb14 : b 14 = .pointer (some ⟨Bd, 0, none⟩) := (hb 14).symm.trans h_14
  have hb16 : b 16 = .pointer (some ⟨Bs, 0, none⟩) := (hb 16).symm.trans h_16
  clear hb h_14 h_16
  have HP := Lib.hid hpost; have HN := Lib.hid hn
  clear hpost hn
  refine Eng.TW.take' (v := ?_) rfl rfl (by decide) (by kernel_rfl) (fun w hw => ?_) ?_
  rotate_left
  · (try dsimp only at hw); go_simp; first | done | with_reducible rfl
  refine Eng.TW.take' (v := ?_) rfl rfl (by decide) (by kernel_rfl) (fun w hw => ?_) ?_
  rotate_left
  · (try dsimp only at hw); go_simp; first | done | with_reducible rfl
  refine Eng.TW.take' (v := ?_) rfl rfl (by decide) (by kernel_rfl) (fun w hw => ?_) ?_
  rotate_left
  · (try dsimp only at hw); go_simp; first | done | with_reducible rfl
  refine Eng.TW.take' (v := ?_) rfl rfl (by decide) (by kernel_rfl) (fun w hw => ?_) ?_
  rotate_left
  · (try dsimp only at hw); go_simp; first | done | with_reducible rfl
  refine Eng.TW.take' (v := ?_) rfl rfl (by decide) (by kernel_rfl) (fun w hw => ?_) ?_
  rotate_left
  · (try dsimp only at hw); go_simp; first | done | with_reducible rfl
  refine Eng.TW.both ?_ ?_
  · refine Eng.TW.step rfl rfl (by decide) (by kernel_rfl) (by go_simp; first | done | with_reducible rfl) (hSS) ?_
    refine Eng.TW.step rfl rfl (by decide) (by kernel_rfl) (by go_simp; first | done | with_reducible rfl) (hSa) ?_
    refine Eng.TW.app rfl rfl (by decide) (by kernel_rfl) (.tmp 101) (.tmp 106) TSs rfl n0 TSn i0 (.agg #[.int .i64 0, .int .i64 0, .int .i64 0, .int .i64 0, .string ByteArray.empty, .string ByteArray.empty, .int .i64 0, .int .i64 0, .bool false]) 9 88 Tryz.underlying22 hi hz0 hz1 hz2 rfl (by decide) v2 _ _ ⟨w.drew.heap.size, 0, none⟩ 1 1 x.cs (by go_simp; first | done | with_reducible rfl) (by go_simp; first | done | with_reducible rfl) hownA rfl (new_cells w.drew TSn x.cs) (by simp [Value.oneCell']) (by unfold maxLen; omega) (by omega) (by have := hst.n; simp; omega) ?_
    intro v' w1 hown hg hv
    obtain ⟨A', c', rfl, -, -⟩ := Sl.of_own hown
    obtain ⟨k1, k2, k3⟩ := HSt.out.c.step2 HSt.out.n HSt.out.lo HSt.out.bd hown hg hv
    have f1 : Fr (fun b => v2.ownBlock = some b) w.drew w1 := (Fr.alloc (fun _ => False) w.drew (.cells x.arr TSn)).trans (Fr.grown hg (S := fun b => v2.ownBlock = some b) (fun k h => h)) (fun _ _ h => h.elim) (fun _ _ h => h)
    have HS1 := Lib.hid (HSt.out.fr (v := v2) (by simp) k1 k2)
    have hs1 := HSt.out.s.fr (f1.mono (T := fun b => b = Bd ∨ v2.ownBlock = some b) (fun _ _ h => .inr h)) (fun b hk e => R22.side HSt.out (v := v2) (by simp) b hk e)
    have hx1 := HSt.out.x.fr (f1.mono (T := fun b => b = Bd ∨ v2.ownBlock = some b) (fun _ _ h => .inr h)) (fun b hk e => R22.rcd HSt.out (v := v2) (by simp) b hk e)
    have hSb : w1.cell? ⟨Bs, 2, none⟩ = some (.pointer (some ⟨bx, 0, none⟩)) ∧ w1.cell? ⟨bx, 0, none⟩ = some (.int .i64 x.t) ∧ w1.cell? ⟨bx, 1, none⟩ = some (.int .i64 x.i) ∧ w1.cell? ⟨bx, 2, none⟩ = some (.int .i64 x.p) ∧ w1.cell? ⟨bx, 3, none⟩ = some (.int .i64 x.r) ∧ w1.cell? ⟨bx, 4, none⟩ = some (.string x.s) ∧ w1.cell? ⟨bx, 5, none⟩ = some (.string x.o) ∧ w1.cell? ⟨bx, 6, none⟩ = some (.int .i64 x.b) ∧ w1.cell? ⟨bx, 7, none⟩ = some (.int .i64 x.d) ∧ w1.cell? ⟨bx, 8, none⟩ = some (.bool x.g) := ⟨(by have := hs1.cell 2; simp only [List.getElem?_toArray, List.getElem?_cons_zero, List.getElem?_cons_succ, hp] at this; exact this), hx1.cell 0, hx1.cell 1, hx1.cell 2, hx1.cell 3, hx1.cell 4, hx1.cell 5, hx1.cell 6, hx1.cell 7, hx1.cell 8⟩
    refine ⟨hSb, ?_⟩
    have cd1 := k3.cell 1; have fd1 := k3.free 1
    have hSc : (w1.setCell ⟨Bd, 1, none⟩ (.slice A' (Q.length + 1) c')).cell? ⟨Bs, 2, none⟩ = some (.pointer (some ⟨bx, 0, none⟩)) ∧ (w1.setCell ⟨Bd, 1, none⟩ (.slice A' (Q.length + 1) c')).cell? ⟨bx, 0, none⟩ = some (.int .i64 x.t) ∧ (w1.setCell ⟨Bd, 1, none⟩ (.slice A' (Q.length + 1) c')).cell? ⟨bx, 1, none⟩ = some (.int .i64 x.i) ∧ (w1.setCell ⟨Bd, 1, none⟩ (.slice A' (Q.length + 1) c')).cell? ⟨bx, 2, none⟩ = some (.int .i64 x.p) ∧ (w1.setCell ⟨Bd, 1, none⟩ (.slice A' (Q.length + 1) c')).cell? ⟨bx, 3, none⟩ = some (.int .i64 x.r) ∧ (w1.setCell ⟨Bd, 1, none⟩ (.slice A' (Q.length + 1) c')).cell? ⟨bx, 4, none⟩ = some (.string x.s) ∧ (w1.setCell ⟨Bd, 1, none⟩ (.slice A' (Q.length + 1) c')).cell? ⟨bx, 5, none⟩ = some (.string x.o) ∧ (w1.setCell ⟨Bd, 1, none⟩ (.slice A' (Q.length + 1) c')).cell? ⟨bx, 6, none⟩ = some (.int .i64 x.b) ∧ (w1.setCell ⟨Bd, 1, none⟩ (.slice A' (Q.length + 1) c')).cell? ⟨bx, 7, none⟩ = some (.int .i64 x.d) ∧ (w1.setCell ⟨Bd, 1, none⟩ (.slice A' (Q.length + 1) c')).cell? ⟨bx, 8, none⟩ = some (.bool x.g) := ⟨(by have := HS1.out.s.cell 2; simp only [List.getElem?_toArray, List.getElem?_cons_zero, List.getElem?_cons_succ, hp] at this; exact this), HS1.out.x.cell 0, HS1.out.x.cell 1, HS1.out.x.cell 2, HS1.out.x.cell 3, HS1.out.x.cell 4, HS1.out.x.cell 5, HS1.out.x.cell 6, HS1.out.x.cell 7, HS1.out.x.cell 8⟩
    have HF1 := Lib.hid k2
    clear hown hg hv k1 k2 f1 hs1 hx1
    refine Eng.TW.take' (v := ?_) rfl rfl (by decide) (by kernel_rfl) (fun w hw => ?_) ?_
    rotate_left
    · (try dsimp only at hw); go_simp; first | done | with_reducible rfl
    refine Eng.TW.step0 rfl rfl (by kernel_rfl) (by go_simp; first | done | with_reducible rfl) (hSc) ?_
    refine Eng.TW.end_ [100, 101, 102, 103, 104, 105, 106, 107, 108] HN.out (by kernel_rfl) (by kernel_rfl) ?_
    exact HP.out _ _ _ HS1.out ((Fr.drew (fun _ => False) w).trans HF1.out (fun _ _ h => h.elim) (fun _ _ h => h))
  refine Eng.TW.step rfl rfl (by decide) (by kernel_rfl) (by go_simp; first | done | with_reducible rfl) (hSa) ?_
  refine Eng.TW.step rfl rfl (by decide) (by kernel_rfl) (by go_simp; first | done | with_reducible rfl) (hSa) ?_
  refine Eng.TW.app rfl rfl (by decide) (by kernel_rfl) (.tmp 101) (.tmp 106) TSs rfl n0 TSn i0 (.agg #[.int .i64 0, .int .i64 0, .int .i64 0, .int .i64 0, .string ByteArray.empty, .string ByteArray.empty, .int .i64 0, .int .i64 0, .bool false]) 9 88 Tryz.underlying22 hi hz0 hz1 hz2 rfl (by decide) v2 _ _ ⟨w.drew.heap.size, 0, none⟩ 1 1 x.cs (by go_simp; first | done | with_reducible rfl) (by go_simp; first | done | with_reducible rfl) hownA rfl (new_cells w.drew TSn x.cs) (by simp [Value.oneCell']) (by unfold maxLen; omega) (by omega) (by have := hst.n; simp; omega) ?_
  intro v' w1 hown hg hv
  obtain ⟨A', c', rfl, -, -⟩ := Sl.of_own hown
  obtain ⟨k1, k2, k3⟩ := HSt.out.c.step2 HSt.out.n HSt.out.lo HSt.out.bd hown hg hv
  have f1 : Fr (fun b => v2.ownBlock = some b) w.drew w1 := (Fr.alloc (fun _ => False) w.drew (.cells x.arr TSn)).trans (Fr.grown hg (S := fun b => v2.ownBlock = some b) (fun k h => h)) (fun _ _ h => h.elim) (fun _ _ h => h)
  have HS1 := Lib.hid (HSt.out.fr (v := v2) (by simp) k1 k2)
  have hs1 := HSt.out.s.fr (f1.mono (T := fun b => b = Bd ∨ v2.ownBlock = some b) (fun _ _ h => .inr h)) (fun b hk e => R22.side HSt.out (v := v2) (by simp) b hk e)
  have hx1 := HSt.out.x.fr (f1.mono (T := fun b => b = Bd ∨ v2.ownBlock = some b) (fun _ _ h => .inr h)) (fun b hk e => R22.rcd HSt.out (v := v2) (by simp) b hk e)
  have hSb : w1.cell? ⟨Bs, 2, none⟩ = some (.pointer (some ⟨bx, 0, none⟩)) ∧ w1.cell? ⟨bx, 0, none⟩ = some (.int .i64 x.t) ∧ w1.cell? ⟨bx, 1, none⟩ = some (.int .i64 x.i) ∧ w1.cell? ⟨bx, 2, none⟩ = some (.int .i64 x.p) ∧ w1.cell? ⟨bx, 3, none⟩ = some (.int .i64 x.r) ∧ w1.cell? ⟨bx, 4, none⟩ = some (.string x.s) ∧ w1.cell? ⟨bx, 5, none⟩ = some (.string x.o) ∧ w1.cell? ⟨bx, 6, none⟩ = some (.int .i64 x.b) ∧ w1.cell? ⟨bx, 7, none⟩ = some (.int .i64 x.d) ∧ w1.cell? ⟨bx, 8, none⟩ = some (.bool x.g) := ⟨(by have := hs1.cell 2; simp only [List.getElem?_toArray, List.getElem?_cons_zero, List.getElem?_cons_succ, hp] at this; exact this), hx1.cell 0, hx1.cell 1, hx1.cell 2, hx1.cell 3, hx1.cell 4, hx1.cell 5, hx1.cell 6, hx1.cell 7, hx1.cell 8⟩
  refine ⟨hSb, ?_⟩
  have cd1 := k3.cell 1; have fd1 := k3.free 1
  have hSc : (w1.setCell ⟨Bd, 1, none⟩ (.slice A' (Q.length + 1) c')).cell? ⟨Bs, 2, none⟩ = some (.pointer (some ⟨bx, 0, none⟩)) ∧ (w1.setCell ⟨Bd, 1, none⟩ (.slice A' (Q.length + 1) c')).cell? ⟨bx, 0, none⟩ = some (.int .i64 x.t) ∧ (w1.setCell ⟨Bd, 1, none⟩ (.slice A' (Q.length + 1) c')).cell? ⟨bx, 1, none⟩ = some (.int .i64 x.i) ∧ (w1.setCell ⟨Bd, 1, none⟩ (.slice A' (Q.length + 1) c')).cell? ⟨bx, 2, none⟩ = some (.int .i64 x.p) ∧ (w1.setCell ⟨Bd, 1, none⟩ (.slice A' (Q.length + 1) c')).cell? ⟨bx, 3, none⟩ = some (.int .i64 x.r) ∧ (w1.setCell ⟨Bd, 1, none⟩ (.slice A' (Q.length + 1) c')).cell? ⟨bx, 4, none⟩ = some (.string x.s) ∧ (w1.setCell ⟨Bd, 1, none⟩ (.slice A' (Q.length + 1) c')).cell? ⟨bx, 5, none⟩ = some (.string x.o) ∧ (w1.setCell ⟨Bd, 1, none⟩ (.slice A' (Q.length + 1) c')).cell? ⟨bx, 6, none⟩ = some (.int .i64 x.b) ∧ (w1.setCell ⟨Bd, 1, none⟩ (.slice A' (Q.length + 1) c')).cell? ⟨bx, 7, none⟩ = some (.int .i64 x.d) ∧ (w1.setCell ⟨Bd, 1, none⟩ (.slice A' (Q.length + 1) c')).cell? ⟨bx, 8, none⟩ = some (.bool x.g) := ⟨(by have := HS1.out.s.cell 2; simp only [List.getElem?_toArray, List.getElem?_cons_zero, List.getElem?_cons_succ, hp] at this; exact this), HS1.out.x.cell 0, HS1.out.x.cell 1, HS1.out.x.cell 2, HS1.out.x.cell 3, HS1.out.x.cell 4, HS1.out.x.cell 5, HS1.out.x.cell 6, HS1.out.x.cell 7, HS1.out.x.cell 8⟩
  have HF1 := Lib.hid k2
  clear hown hg hv k1 k2 f1 hs1 hx1
  refine Eng.TW.take' (v := ?_) rfl rfl (by decide) (by kernel_rfl) (fun w hw => ?_) ?_
  rotate_left
  · (try dsimp only at hw); go_simp; first | done | with_reducible rfl
  refine Eng.TW.step0 rfl rfl (by kernel_rfl) (by go_simp; first | done | with_reducible rfl) (hSc) ?_
  refine Eng.TW.end_ [100, 101, 102, 103, 104, 105, 106, 107, 108] HN.out (by kernel_rfl) (by kernel_rfl) ?_
  exact HP.out _ _ _ HS1.out ((Fr.drew (fun _ => False) w).trans HF1.out (fun _ _ h => h.elim) (fun _ _ h => h))
end Comp
end Go.Proofs.YtkhhdadlpilbmaaGreat
namespace Go.Proofs.YtkhhdadlpilbmaaGreat
open Go.RowKit
namespace Comp
open KeyP PackP SetP SetW SetF Sli Delta
attribute [local go_sem] Eng.ev Eng.getO_cons Eng.getO_nil
abbrev TEr : TypeId := 28
abbrev TPd : TypeId := 62
/-- What two deltas and the results' blocks are. -/
structure K0 (w0 w : World) (n : Nat) (d1 d2 : Dl) : Prop where
  b1 : Bk w n d1.arr TDl
  b2 : Bk w (n + 1) d2.arr TDl
  r4 : Bk w (n + 2) #[.slice none 0 0, .slice none 0 0] TDl
  r5 : Bk w (n + 3) #[.int .i64 0] TEr
  l1 : RdD w d1
  l2 : RdD w d2
  bel : Below n w0 w
  sz : n + 4 ≤ w.heap.size
theorem K0.below {w0 w w' : World} {n : Nat} {d1 d2 : Dl} (h : K0 w0 w n d1 d2) (hb : Below w.heap.size w w') : K0 w0 w' n d1 d2 := by
  have hf := Fr.of_below' hb (fun _ => False)
  have := h.sz
  exact ⟨h.b1.fr hf (fun _ _ h => h), h.b2.fr hf (fun _ _ h => h), h.r4.fr hf (fun _ _ h => h), h.r5.fr hf (fun _ _ h => h), h.l1.keep hf, h.l2.keep hf, h.bel.trans (hb.mono (by omega)), Nat.le_trans h.sz hf.size⟩
/-- Maps of sides, made one behind the other, and a box. -/
structure G3 (w0 w : World) (n : Nat) (d1 d2 : Dl) (c : Nat) (m1 m2 : Option (Nat × PM)) (bx : Option Nat) : Prop where
  k : K0 w0 w n d1 d2
  h1 : ∀ q, m1 = some q → ∃ Ls F, AvlSD.MapB w q.1 Ls F ∧ Rel w Ls q.2 ∧ (∀ b ∈ q.1 :: F, n + 4 ≤ b ∧ b < c) ∧ c ≤ w.heap.size
  h2 : ∀ q, m2 = some q → ∃ Ls F, AvlSD.MapB w q.1 Ls F ∧ Rel w Ls q.2 ∧ ∀ b ∈ q.1 :: F, n + 4 ≤ b ∧ c ≤ b
  hx : ∀ B, bx = some B → Bk w B #[.pointer none] TPd ∧ n + 4 ≤ B
theorem G3.start {w0 w : World} {n : Nat} {d1 d2 : Dl} (h : K0 w0 w n d1 d2) : G3 w0 w n d1 d2 0 none none none := ⟨h, fun _ h => (by cases h), fun _ h => (by cases h), fun _ h => (by cases h)⟩
theorem G3.below {w0 w w' : World} {n : Nat} {d1 d2 : Dl} {c : Nat} {m1 m2 : Option (Nat × PM)} {bx : Option Nat} (h : G3 w0 w n d1 d2 c m1 m2 bx) (hb : Below w.heap.size w w') : G3 w0 w' n d1 d2 c m1 m2 bx := by
  have hf := Fr.of_below' hb (fun _ => False)
  refine ⟨h.k.below hb, fun q hq => ?_, fun q hq => ?_, fun B hB => ?_⟩
  · obtain ⟨Ls, F, a, b, c, d⟩ := h.h1 q hq
    exact ⟨Ls, F, a.fr hf (fun h => h) (fun _ _ h => h), b.fr hf (Av.false _), c, Nat.le_trans d hf.size⟩
  · obtain ⟨Ls, F, a, b, c⟩ := h.h2 q hq
    exact ⟨Ls, F, a.fr hf (fun h => h) (fun _ _ h => h), b.fr hf (Av.false _), c⟩
  · obtain ⟨a, b⟩ := h.hx B hB
    exact ⟨a.fr hf (fun _ _ h => h), b⟩
theorem G3.first {w0 w w' : World} {n c : Nat} {d1 d2 : Dl} {bx : Option Nat} {B : Nat} {X : PM} (h : G3 w0 w n d1 d2 c none none bx) (hs : ∃ Ls F, SM w w' B X Ls F) : G3 w0 w' n d1 d2 w'.heap.size (some (B, X)) none bx := by
  obtain ⟨Ls, F, hs⟩ := hs
  have h' := h.below hs.b
  refine ⟨h'.k, fun q hq => ?_, fun _ h => (by cases h), h'.hx⟩
  cases hq
  have := h.k.sz; have := hs.lB; have hlt := hs.m.lt
  exact ⟨Ls, F, hs.m, hs.r, fun b hb => by
    rcases List.mem_cons.1 hb with rfl | hb
    · exact ⟨by dsimp only at *; omega, hlt.1⟩
    · have := hs.l b hb; exact ⟨by omega, hlt.2 b hb⟩, Nat.le_refl _⟩
theorem G3.second {w0 w w' : World} {n c : Nat} {d1 d2 : Dl} {m1 : Nat × PM} {bx : Option Nat} {B : Nat} {X : PM} (h : G3 w0 w n d1 d2 c (some m1) none bx) (hs : ∃ Ls F, SM w w' B X Ls F) : G3 w0 w' n d1 d2 c (some m1) (some (B, X)) bx := by
  obtain ⟨Ls, F, hs⟩ := hs
  have h' := h.below hs.b
  refine ⟨h'.k, h'.h1, fun q hq => ?_, h'.hx⟩
  cases hq
  have := h.k.sz; have := hs.lB
  obtain ⟨_, _, _, _, _, hc⟩ := h.h1 m1 rfl
  exact ⟨Ls, F, hs.m, hs.r, fun b hb => by
    rcases List.mem_cons.1 hb with rfl | hb
    · dsimp only at *; omega
    · have := hs.l b hb; omega⟩
theorem G3.box {w0 w : World} {n c : Nat} {d1 d2 : Dl} {m1 m2 : Option (Nat × PM)} (h : G3 w0 w n d1 d2 c m1 m2 none) : G3 w0 (w.alloc (.cells #[.pointer none] TPd)) n d1 d2 c m1 m2 (some w.heap.size) := by
  have h' := h.below ((Below.refl _ w).alloc (Nat.le_refl _) (.cells #[.pointer none] TPd))
  refine ⟨h'.k, h'.h1, h'.h2, fun B hB => ?_⟩
  cases hB
  have := h.k.sz
  exact ⟨Bk.new _ _ _, by omega⟩
/-- Blocks of other types are not the map's. -/
theorem map_avT {w : World} {B : Nat} {Ls : List (ByteArray × Sd)} {F : List Nat} (h : AvlSD.MapB w B Ls F) {T : TypeId} (h1 : T ≠ TMd) (h2 : T ≠ TNd) : ∀ b cs, w.heap[b]? = some (.cells cs T (0, 0)) → ¬ (b = B ∨ b ∈ F) := by
  obtain ⟨r, hB, ⟨t, -, -, h3, h4, -⟩, -⟩ := h
  rintro b cs hb (rfl | hF)
  · rw [hB] at hb; cases hb; exact h1 rfl
  · rw [← h3] at hF
    obtain ⟨cs', hc⟩ := in_av h4 b hF
    rw [hc] at hb; cases hb; exact h2 rfl
/-- Behind it. -/
structure K3 (w0 w : World) (n : Nat) (B1 B2 Bx : Nat) (X Y : PM) (Ls1 : List (ByteArray × Sd)) (F1 : List Nat) (Ls2 : List (ByteArray × Sd)) (F2 : List Nat) : Prop where
  r4 : Bk w (n + 2) #[.slice none 0 0, .slice none 0 0] TDl
  r5 : Bk w (n + 3) #[.int .i64 0] TEr
  bel : Below n w0 w
  sz : n + 4 ≤ w.heap.size
  m1 : AvlSD.MapB w B1 Ls1 F1
  q1 : Rel w Ls1 X
  m2 : AvlSD.MapB w B2 Ls2 F2
  q2 : Rel w Ls2 Y
  x : Bk w Bx #[.pointer (some ⟨B1, 0, none⟩)] TPd
  lo1 : ∀ b ∈ B1 :: F1, n + 4 ≤ b
  lo2 : ∀ b ∈ B2 :: F2, n + 4 ≤ b
  ap : ∀ b ∈ B1 :: F1, b ∉ B2 :: F2
structure KB (w : World) (n : Nat) (d1 d2 : Dl) : Prop where
  b1 : Bk w n d1.arr TDl
  b2 : Bk w (n + 1) d2.arr TDl
structure G4 (w0 w : World) (n : Nat) (d1 d2 : Dl) (B1 B2 Bx : Nat) (X Y : PM) : Prop where
  k : KB w n d1 d2
  r : ∃ Ls1 F1 Ls2 F2, K3 w0 w n B1 B2 Bx X Y Ls1 F1 Ls2 F2
theorem G3.store {w0 w : World} {n c : Nat} {d1 d2 : Dl} {B1 B2 Bx : Nat} {X Y : PM} (h : G3 w0 w n d1 d2 c (some (B1, X)) (some (B2, Y)) (some Bx)) : G4 w0 (w.setCell ⟨Bx, 0, none⟩ (.pointer (some ⟨B1, 0, none⟩))) n d1 d2 B1 B2 Bx X Y := by
  obtain ⟨Ls1, F1, a1, b1, c1, e1⟩ := h.h1 _ rfl
  obtain ⟨Ls2, F2, a2, b2, c2⟩ := h.h2 _ rfl
  obtain ⟨x1, x2⟩ := h.hx _ rfl
  have hf := Fr.setCell w ⟨Bx, 0, none⟩ (.pointer (some ⟨B1, 0, none⟩)) (S := fun k => k = Bx) rfl
  have n1 := map_avT a1 (T := TPd) (by decide) (by decide) Bx _ x1
  have n2 := map_avT a2 (T := TPd) (by decide) (by decide) Bx _ x1
  have hav : Av (fun k => k = Bx) w := fun b cs hb e => by rw [e, show w.heap[Bx]? = _ from x1] at hb; cases hb
  have hsz := h.k.sz
  exact ⟨⟨h.k.b1.fr hf (fun b hb e => by simp at hb; omega), h.k.b2.fr hf (fun b hb e => by simp at hb; omega)⟩, Ls1, F1, Ls2, F2, h.k.r4.fr hf (fun b hb e => by simp at hb; omega), h.k.r5.fr hf (fun b hb e => by simp at hb; omega), h.k.bel.trans (hf.below (by omega) (fun k hk e => by omega)), Nat.le_trans hsz hf.size,
    a1.fr hf (fun e => n1 (.inl e.symm)) (fun b hb e => n1 (.inr (e ▸ hb))), b1.fr hf hav, a2.fr hf (fun e => n2 (.inl e.symm)) (fun b hb e => n2 (.inr (e ▸ hb))), b2.fr hf hav, by simpa using x1.set 0 _, fun b hb => (c1 b hb).1, fun b hb => (c2 b hb).1, fun b hb hb2 => by have := (c1 b hb).2; have := (c2 b hb2).2; omega⟩
set_option maxRecDepth 100000 in
set_option maxHeartbeats 400000 in
theorem c3 {ops : Array Oper} (hops : Eng.fnOps Tryz.f19 3 = ops) (a0 : Act) (Q : Exit → Act → World → Prop) (w0 w : World) (n : Nat) (d1 d2 : Dl) (h1 : d1.O.length ≤ 1000000) (h2 : d1.I.length ≤ 1000000) (h3 : d2.O.length ≤ 1000000) (h4 : d2.I.length ≤ 1000000) (hst : K0 w0 w n d1 d2)
    (hn : a0.tmps.size = 110) (h_2 : a0.tmps.getD 2 undef = .pointer (some ⟨n, 0, none⟩)) (h_3 : a0.tmps.getD 3 undef = .pointer (some ⟨n + 1, 0, none⟩))
    (hpost : ∀ (x : Nat → Value) (w' : World) (B1 B2 Bx : Nat), (∃ Ls1 F1 Ls2 F2, K3 w0 w' n B1 B2 Bx (sidesP d1.O d1.I) (sidesP d2.O d2.I) Ls1 F1 Ls2 F2) → x 6 = .pointer (some ⟨Bx, 0, none⟩) → x 7 = .pointer (some ⟨B2, 0, none⟩) → Q .normal (Eng.setAll a0 [6, 7, 26, 27, 28, 29] x) w') :
    (Code.region 3 ops true).wp Tryz.prog Q a0 w := by
  simp only [Eng.fnOps, Eng.regOps, Tryz.f19, Option.bind_some, Option.getD_some, Nat.reduceEqDiff, ↓reduceIte] at hops
  subst hops
  have HSt := Lib.hid ((G3.start hst).below ((Fr.drew (fun _ => False) _).below (Nat.le_refl _) (fun _ _ h => h)))
  have hSS : w.drew.cell? ⟨n, 0, none⟩ = some (.slice d1.A1 d1.O.length d1.c1) ∧ w.drew.cell? ⟨n, 1, none⟩ = some (.slice d1.A2 d1.I.length d1.c2) ∧ w.drew.cell? ⟨n + 1, 0, none⟩ = some (.slice d2.A1 d2.O.length d2.c1) ∧ w.drew.cell? ⟨n + 1, 1, none⟩ = some (.slice d2.A2 d2.I.length d2.c2) := ⟨HSt.out.k.b1.cell 0, HSt.out.k.b1.cell 1, HSt.out.k.b2.cell 0, HSt.out.k.b2.cell 1⟩
  refine Eng.regionT (.take 0 (.take 2 (.alt 1 (.alt 3 (.alt 4 (.alt 5 (.take 6 (.done)) (.stop)) (.stop)) (.alt 4 (.alt 3 (.alt 5 (.take 6 (.done)) (.stop)) (.stop)) (.stop))) (.alt 4 (.alt 1 (.alt 3 (.alt 5 (.take 6 (.done)) (.stop)) (.stop)) (.stop)) (.stop))))) (fun w' => w'.cell? ⟨n, 0, none⟩ = some (.slice d1.A1 d1.O.length d1.c1) ∧ w'.cell? ⟨n, 1, none⟩ = some (.slice d1.A2 d1.I.length d1.c2) ∧ w'.cell? ⟨n + 1, 0, none⟩ = some (.slice d2.A1 d2.O.length d2.c1) ∧ w'.cell? ⟨n + 1, 1, none⟩ = some (.slice d2.A2 d2.I.length d2.c2)) (by kernel_rfl) 110 hn (by kernel_rfl) (by kernel_rfl) (by kernel_rfl) (hSS) (fun a b ha hb => ?_)
  subst ha
  have hb2 : b 2 = .pointer (some ⟨n, 0, none⟩) := (hb 2).symm.trans h_2
  have hb3 : b 3 = .pointer (some ⟨n + 1, 0, none⟩) := (hb 3).symm.trans h_3
  clear hb h_2 h_3
  have HP := Lib.hid hpost; have HN := Lib.hid hn
  clear hpost hn
  refine Eng.TW.take' (v := ?_) rfl rfl (by decide) (by kernel_rfl) (fun w hw => ?_) ?_
  rotate_left
  · (try dsimp only at hw); go_simp; first | done | with_reducible rfl
  refine Eng.TW.take' (v := ?_) rfl rfl (by decide) (by kernel_rfl) (fun w hw => ?_) ?_
  rotate_left
  · (try dsimp only at hw); go_simp; first | done | with_reducible rfl
  refine Eng.TW.both ?_ ?_
  · refine Eng.TW.call rfl rfl (by decide) (by kernel_rfl) ?_ (sides d1.A1 d1.A2 d1.c1 d1.c2 d1.O d1.I _ HSt.out.k.l1 h1 h2) ?_
    · go_simp
    rintro e w2 ⟨rfl, hs, -, -⟩
    have HSt2 := Lib.hid (HSt.out.first hs)
    have hSS : w2.cell? ⟨n, 0, none⟩ = some (.slice d1.A1 d1.O.length d1.c1) ∧ w2.cell? ⟨n, 1, none⟩ = some (.slice d1.A2 d1.I.length d1.c2) ∧ w2.cell? ⟨n + 1, 0, none⟩ = some (.slice d2.A1 d2.O.length d2.c1) ∧ w2.cell? ⟨n + 1, 1, none⟩ = some (.slice d2.A2 d2.I.length d2.c2) := ⟨HSt2.out.k.b1.cell 0, HSt2.out.k.b1.cell 1, HSt2.out.k.b2.cell 0, HSt2.out.k.b2.cell 1⟩
    clear hs
    refine ⟨_, rfl, hSS, ?_⟩
    refine Eng.TW.both ?_ ?_
    · refine Eng.TW.call rfl rfl (by decide) (by kernel_rfl) ?_ (sides d2.A1 d2.A2 d2.c1 d2.c2 d2.O d2.I _ HSt2.out.k.l2 h3 h4) ?_
      · go_simp
      rintro e w3 ⟨rfl, hs, -, -⟩
      have HSt3 := Lib.hid (HSt2.out.second hs)
      have hSS : w3.cell? ⟨n, 0, none⟩ = some (.slice d1.A1 d1.O.length d1.c1) ∧ w3.cell? ⟨n, 1, none⟩ = some (.slice d1.A2 d1.I.length d1.c2) ∧ w3.cell? ⟨n + 1, 0, none⟩ = some (.slice d2.A1 d2.O.length d2.c1) ∧ w3.cell? ⟨n + 1, 1, none⟩ = some (.slice d2.A2 d2.I.length d2.c2) := ⟨HSt3.out.k.b1.cell 0, HSt3.out.k.b1.cell 1, HSt3.out.k.b2.cell 0, HSt3.out.k.b2.cell 1⟩
      clear hs
      refine ⟨_, rfl, hSS, ?_⟩
      refine Eng.TW.step rfl rfl (by decide) (by kernel_rfl) (by go_simp; first | done | with_reducible rfl) (⟨(HSt3.out.box).k.b1.cell 0, (HSt3.out.box).k.b1.cell 1, (HSt3.out.box).k.b2.cell 0, (HSt3.out.box).k.b2.cell 1⟩) ?_
      have HSt4 := Lib.hid (HSt3.out.box)
      have hSS : ((w3.alloc (.cells #[.pointer none] TPd))).cell? ⟨n, 0, none⟩ = some (.slice d1.A1 d1.O.length d1.c1) ∧ ((w3.alloc (.cells #[.pointer none] TPd))).cell? ⟨n, 1, none⟩ = some (.slice d1.A2 d1.I.length d1.c2) ∧ ((w3.alloc (.cells #[.pointer none] TPd))).cell? ⟨n + 1, 0, none⟩ = some (.slice d2.A1 d2.O.length d2.c1) ∧ ((w3.alloc (.cells #[.pointer none] TPd))).cell? ⟨n + 1, 1, none⟩ = some (.slice d2.A2 d2.I.length d2.c2) := ⟨HSt4.out.k.b1.cell 0, HSt4.out.k.b1.cell 1, HSt4.out.k.b2.cell 0, HSt4.out.k.b2.cell 1⟩
      have cx := (HSt4.out.hx _ rfl).1.cell 0
      have fx := (HSt4.out.hx _ rfl).1.free 0
      simp at cx fx
      refine Eng.TW.step0 rfl rfl (by kernel_rfl) (by go_simp; first | done | with_reducible rfl) (⟨(HSt4.out.store).k.b1.cell 0, (HSt4.out.store).k.b1.cell 1, (HSt4.out.store).k.b2.cell 0, (HSt4.out.store).k.b2.cell 1⟩) ?_
      have HSt5 := Lib.hid (HSt4.out.store)
      refine Eng.TW.take' (v := ?_) rfl rfl (by decide) (by kernel_rfl) (fun w hw => ?_) ?_
      rotate_left
      · (try dsimp only at hw); go_simp; first | done | with_reducible rfl
      refine Eng.TW.end_ [6, 7, 26, 27, 28, 29] HN.out (by kernel_rfl) (by kernel_rfl) ?_
      exact HP.out _ _ _ _ _ HSt5.out.r (by first | rfl | (show Value.pointer _ = Value.pointer _; simp)) (by first | rfl | (show Value.pointer _ = Value.pointer _; simp))
    refine Eng.TW.step rfl rfl (by decide) (by kernel_rfl) (by go_simp; first | done | with_reducible rfl) (⟨(HSt2.out.box).k.b1.cell 0, (HSt2.out.box).k.b1.cell 1, (HSt2.out.box).k.b2.cell 0, (HSt2.out.box).k.b2.cell 1⟩) ?_
    have HSt3 := Lib.hid (HSt2.out.box)
    have hSS : ((w2.alloc (.cells #[.pointer none] TPd))).cell? ⟨n, 0, none⟩ = some (.slice d1.A1 d1.O.length d1.c1) ∧ ((w2.alloc (.cells #[.pointer none] TPd))).cell? ⟨n, 1, none⟩ = some (.slice d1.A2 d1.I.length d1.c2) ∧ ((w2.alloc (.cells #[.pointer none] TPd))).cell? ⟨n + 1, 0, none⟩ = some (.slice d2.A1 d2.O.length d2.c1) ∧ ((w2.alloc (.cells #[.pointer none] TPd))).cell? ⟨n + 1, 1, none⟩ = some (.slice d2.A2 d2.I.length d2.c2) := ⟨HSt3.out.k.b1.cell 0, HSt3.out.k.b1.cell 1, HSt3.out.k.b2.cell 0, HSt3.out.k.b2.cell 1⟩
    refine Eng.TW.call rfl rfl (by decide) (by kernel_rfl) ?_ (sides d2.A1 d2.A2 d2.c1 d2.c2 d2.O d2.I _ HSt3.out.k.l2 h3 h4) ?_
    · go_simp
    rintro e w4 ⟨rfl, hs, -, -⟩
    have HSt4 := Lib.hid (HSt3.out.second hs)
    have hSS : w4.cell? ⟨n, 0, none⟩ = some (.slice d1.A1 d1.O.length d1.c1) ∧ w4.cell? ⟨n, 1, none⟩ = some (.slice d1.A2 d1.I.length d1.c2) ∧ w4.cell? ⟨n + 1, 0, none⟩ = some (.slice d2.A1 d2.O.length d2.c1) ∧ w4.cell? ⟨n + 1, 1, none⟩ = some (.slice d2.A2 d2.I.length d2.c2) := ⟨HSt4.out.k.b1.cell 0, HSt4.out.k.b1.cell 1, HSt4.out.k.b2.cell 0, HSt4.out.k.b2.cell 1⟩
    clear hs
    refine ⟨_, rfl, hSS, ?_⟩
    have cx := (HSt4.out.hx _ rfl).1.cell 0
    have fx := (HSt4.out.hx _ rfl).1.free 0
    simp at cx fx
    refine Eng.TW.step0 rfl rfl (by kernel_rfl) (by go_simp; first | done | with_reducible rfl) (⟨(HSt4.out.store).k.b1.cell 0, (HSt4.out.store).k.b1.cell 1, (HSt4.out.store).k.b2.cell 0, (HSt4.out.store).k.b2.cell 1⟩) ?_
    have HSt5 := Lib.hid (HSt4.out.store)
    refine Eng.TW.take' (v := ?_) rfl rfl (by decide) (by kernel_rfl) (fun w hw => ?_) ?_
    rotate_left
    · (try dsimp only at hw); go_simp; first | done | with_reducible rfl
    refine Eng.TW.end_ [6, 7, 26, 27, 28, 29] HN.out (by kernel_rfl) (by kernel_rfl) ?_
    exact HP.out _ _ _ _ _ HSt5.out.r (by first | rfl | (show Value.pointer _ = Value.pointer _; simp)) (by first | rfl | (show Value.pointer _ = Value.pointer _; simp))
  refine Eng.TW.step rfl rfl (by decide) (by kernel_rfl) (by go_simp; first | done | with_reducible rfl) (⟨(HSt.out.box).k.b1.cell 0, (HSt.out.box).k.b1.cell 1, (HSt.out.box).k.b2.cell 0, (HSt.out.box).k.b2.cell 1⟩) ?_
  have HSt2 := Lib.hid (HSt.out.box)
  have hSS : ((w.drew.alloc (.cells #[.pointer none] TPd))).cell? ⟨n, 0, none⟩ = some (.slice d1.A1 d1.O.length d1.c1) ∧ ((w.drew.alloc (.cells #[.pointer none] TPd))).cell? ⟨n, 1, none⟩ = some (.slice d1.A2 d1.I.length d1.c2) ∧ ((w.drew.alloc (.cells #[.pointer none] TPd))).cell? ⟨n + 1, 0, none⟩ = some (.slice d2.A1 d2.O.length d2.c1) ∧ ((w.drew.alloc (.cells #[.pointer none] TPd))).cell? ⟨n + 1, 1, none⟩ = some (.slice d2.A2 d2.I.length d2.c2) := ⟨HSt2.out.k.b1.cell 0, HSt2.out.k.b1.cell 1, HSt2.out.k.b2.cell 0, HSt2.out.k.b2.cell 1⟩
  refine Eng.TW.call rfl rfl (by decide) (by kernel_rfl) ?_ (sides d1.A1 d1.A2 d1.c1 d1.c2 d1.O d1.I _ HSt2.out.k.l1 h1 h2) ?_
  · go_simp
  rintro e w3 ⟨rfl, hs, -, -⟩
  have HSt3 := Lib.hid (HSt2.out.first hs)
  have hSS : w3.cell? ⟨n, 0, none⟩ = some (.slice d1.A1 d1.O.length d1.c1) ∧ w3.cell? ⟨n, 1, none⟩ = some (.slice d1.A2 d1.I.length d1.c2) ∧ w3.cell? ⟨n + 1, 0, none⟩ = some (.slice d2.A1 d2.O.length d2.c1) ∧ w3.cell? ⟨n + 1, 1, none⟩ = some (.slice d2.A2 d2.I.length d2.c2) := ⟨HSt3.out.k.b1.cell 0, HSt3.out.k.b1.cell 1, HSt3.out.k.b2.cell 0, HSt3.out.k.b2.cell 1⟩
  clear hs
  refine ⟨_, rfl, hSS, ?_⟩
  refine Eng.TW.call rfl rfl (by decide) (by kernel_rfl) ?_ (sides d2.A1 d2.A2 d2.c1 d2.c2 d2.O d2.I _ HSt3.out.k.l2 h3 h4) ?_
  · go_simp
  rintro e w4 ⟨rfl, hs, -, -⟩
  have HSt4 := Lib.hid (HSt3.out.second hs)
  have hSS : w4.cell? ⟨n, 0, none⟩ = some (.slice d1.A1 d1.O.length d1.c1) ∧ w4.cell? ⟨n, 1, none⟩ = some (.slice d1.A2 d1.I.length d1.c2) ∧ w4.cell? ⟨n + 1, 0, none⟩ = some (.slice d2.A1 d2.O.length d2.c1) ∧ w4.cell? ⟨n + 1, 1, none⟩ = some (.slice d2.A2 d2.I.length d2.c2) := ⟨HSt4.out.k.b1.cell 0, HSt4.out.k.b1.cell 1, HSt4.out.k.b2.cell 0, HSt4.out.k.b2.cell 1⟩
  clear hs
  refine ⟨_, rfl, hSS, ?_⟩
  have cx := (HSt4.out.hx _ rfl).1.cell 0
  have fx := (HSt4.out.hx _ rfl).1.free 0
  simp at cx fx
  refine Eng.TW.step0 rfl rfl (by kernel_rfl) (by go_simp; first | done | with_reducible rfl) (⟨(HSt4.out.store).k.b1.cell 0, (HSt4.out.store).k.b1.cell 1, (HSt4.out.store).k.b2.cell 0, (HSt4.out.store).k.b2.cell 1⟩) ?_
  have HSt5 := Lib.hid (HSt4.out.store)
  refine Eng.TW.take' (v := ?_) rfl rfl (by decide) (by kernel_rfl) (fun w hw => ?_) ?_
  rotate_left
  · (try dsimp only at hw); go_simp; first | done | with_reducible rfl
  refine Eng.TW.end_ [6, 7, 26, 27, 28, 29] HN.out (by kernel_rfl) (by kernel_rfl) ?_
  exact HP.out _ _ _ _ _ HSt5.out.r (by first | rfl | (show Value.pointer _ = Value.pointer _; simp)) (by first | rfl | (show Value.pointer _ = Value.pointer _; simp))

end Comp
end Go.Proofs.YtkhhdadlpilbmaaGreat
