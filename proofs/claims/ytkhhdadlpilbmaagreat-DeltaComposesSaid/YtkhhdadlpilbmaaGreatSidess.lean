/- What deltas say of keys: how it lies in the heap (the program's map of sides). -/
import Derived.Test.YtkhhdadlpilbmaaGreatCompPs
import Derived.Test.YtkhhdadlpilbmaaGreatAvlSD2
namespace Go.Proofs.YtkhhdadlpilbmaaGreat
open Go.RowKit
namespace Comp
open KeyP PackP SetP SetW SetF Delta
abbrev TSd : TypeId := 69
abbrev TMd : TypeId := 96
abbrev TNd : TypeId := 100
/-- Blocks of records are not among these. -/
def Av (S : Nat → Prop) (w : World) : Prop := ∀ b cs, w.heap[b]? = some (.cells cs TSn (0, 0)) → ¬ S b
theorem Av.false (w : World) : Av (fun _ => False) w := fun _ _ _ h => h
/-- A pointer to a record's box; nil: to none. -/
def PtR (w : World) (a : Option Addr) (o : Option Sn) : Prop := match o with
  | none => a = none
  | some x => ∃ b, a = some ⟨b, 0, none⟩ ∧ Bk w b x.arr TSn ∧ x.ok
theorem PtR.fr {S : Nat → Prop} {w w' : World} {a : Option Addr} {o : Option Sn} (h : PtR w a o) (hf : Fr S w w') (hs : Av S w) : PtR w' a o := by
  cases o with
  | none => exact h
  | some x =>
    obtain ⟨b, h1, h2, h3⟩ := h
    exact ⟨b, h1, h2.fr hf (fun k hk => by simp at hk; subst hk; exact hs _ _ h2), h3⟩
structure SdR (w : World) (s : Sd) (q : Pd) : Prop where
  m : s.m = q.m
  a : PtR w s.a q.o
  b : PtR w s.b q.i
theorem SdR.fr {S : Nat → Prop} {w w' : World} {s : Sd} {q : Pd} (h : SdR w s q) (hf : Fr S w w') (hs : Av S w) : SdR w' s q := ⟨h.m, h.a.fr hf hs, h.b.fr hf hs⟩
abbrev zs : Sd := ⟨false, none, none⟩
theorem SdR.zero (w : World) : SdR w zs zd := ⟨rfl, rfl, rfl⟩
/-- A list of pairs stands for another one. -/
inductive Rel (w : World) : List (ByteArray × Sd) → PM → Prop
  | nil : Rel w [] []
  | cons (k : ByteArray) {s : Sd} {q : Pd} {Ls : List (ByteArray × Sd)} {L : PM} : SdR w s q → Rel w Ls L → Rel w ((k, s) :: Ls) ((k, q) :: L)
theorem Rel.fr {S : Nat → Prop} {w w' : World} {Ls : List (ByteArray × Sd)} {L : PM} (h : Rel w Ls L) (hf : Fr S w w') (hs : Av S w) : Rel w' Ls L := by
  induction h with
  | nil => exact .nil
  | cons k h1 _ ih => exact .cons k (h1.fr hf hs) ih
theorem Rel.len {w : World} {Ls : List (ByteArray × Sd)} {L : PM} (h : Rel w Ls L) : Ls.length = L.length := by
  induction h with
  | nil => rfl
  | cons k _ _ ih => simp [ih]
theorem Rel.get {w : World} {Ls : List (ByteArray × Sd)} {L : PM} (h : Rel w Ls L) (k : ByteArray) : SdR w ((getL k Ls).getD zs) ((getL k L).getD zd) := by
  induction h with
  | nil => exact SdR.zero w
  | cons k' h1 _ ih =>
    rw [getL_cons, getL_cons]
    dsimp only
    cases sameK k k'
    · exact ih
    · exact h1
theorem Rel.ins {w : World} {Ls : List (ByteArray × Sd)} {L : PM} (h : Rel w Ls L) (k : ByteArray) {s : Sd} {q : Pd} (hq : SdR w s q) : Rel w (insL k s Ls) (insL k q L) := by
  induction h with
  | nil => exact .cons k hq .nil
  | cons k' h1 h2 ih =>
    rw [insL, insL]
    split
    · exact .cons k hq (.cons k' h1 h2)
    · split
      · exact .cons k' h1 ih
      · exact .cons k' hq h2
theorem Rel.take {w : World} {Ls : List (ByteArray × Sd)} {L : PM} (h : Rel w Ls L) (n : Nat) : Rel w (Ls.take n) (L.take n) := by
  induction h generalizing n with
  | nil => cases n <;> exact .nil
  | cons k h1 _ ih => cases n with
    | zero => exact .nil
    | succ n => exact .cons k h1 (ih n)
theorem Rel.at {w : World} {Ls : List (ByteArray × Sd)} {L : PM} (h : Rel w Ls L) {n : Nat} (hn : n < Ls.length) : ∃ hm : n < L.length, Ls[n].1 = L[n].1 ∧ SdR w Ls[n].2 L[n].2 := by
  induction h generalizing n with
  | nil => simp at hn
  | cons k h1 _ ih => cases n with
    | zero => exact ⟨by simp, rfl, h1⟩
    | succ n =>
      obtain ⟨a, b, c⟩ := ih (n := n) (by simpa using hn)
      exact ⟨by simpa using a, b, c⟩
/-- All that it speaks of is in form. -/
theorem Rel.ok {w : World} {Ls : List (ByteArray × Sd)} {L : PM} (h : Rel w Ls L) : ∀ p ∈ L, (∀ x, p.2.o = some x → x.ok) ∧ ∀ x, p.2.i = some x → x.ok := by
  induction h with
  | nil => simp
  | @cons k s q Ls L h1 h2 ih =>
    intro p hp
    rcases List.mem_cons.1 hp with rfl | hp
    · refine ⟨fun x hx => ?_, fun x hx => ?_⟩
      · have := h1.a; rw [show q.o = some x from hx] at this; obtain ⟨_, _, _, h⟩ := this; exact h
      · have := h1.b; rw [show q.i = some x from hx] at this; obtain ⟨_, _, _, h⟩ := this; exact h
    · exact ih p hp
/-- The map's own blocks are of its own types. -/
theorem in_av {w : World} : ∀ {t : AT ByteArray Sd}, AvlSD.In w t → ∀ b ∈ t.fp, ∃ cs, w.heap[b]? = some (.cells cs TNd (0, 0))
  | .nil, _, b, hb => by simp [AT.fp] at hb
  | .node b0 k v l r d, h, b, hb => by
    obtain ⟨h1, h2, h3⟩ := h
    simp only [AT.fp, List.mem_cons, List.mem_append] at hb
    rcases hb with rfl | hb | hb
    · exact ⟨_, h1⟩
    · exact in_av (t := l) h2 b hb
    · exact in_av (t := r) h3 b hb
theorem map_av {w : World} {B : Nat} {Ls : List (ByteArray × Sd)} {F : List Nat} (h : AvlSD.MapB w B Ls F) : Av (fun x => x = B ∨ x ∈ F) w := by
  obtain ⟨r, hB, ⟨t, -, -, h3, h4, -⟩, -⟩ := h
  rintro b cs hb (rfl | hF)
  · rw [hB] at hb; cases hb
  · rw [← h3] at hF
    obtain ⟨cs', hc⟩ := in_av h4 b hF
    rw [hc] at hb; cases hb
/-- A map of sides. -/
structure SM (w0 w : World) (B : Nat) (L : PM) (Ls : List (ByteArray × Sd)) (F : List Nat) : Prop where
  m : AvlSD.MapB w B Ls F
  r : Rel w Ls L
  l : ∀ b ∈ F, w0.heap.size ≤ b
  lB : w0.heap.size ≤ B
  b : Below w0.heap.size w0 w
theorem SM.fr {w0 w w' : World} {B : Nat} {L : PM} {Ls : List (ByteArray × Sd)} {F : List Nat} (h : SM w0 w B L Ls F) (hf : Fr (fun _ => False) w w') : SM w0 w' B L Ls F :=
  ⟨h.m.fr hf (fun h => h) (fun _ _ h => h), h.r.fr hf (Av.false _), h.l, h.lB, h.b.trans (hf.below h.b.size (fun _ _ h => h))⟩
theorem SM.below {w0 w w' : World} {B : Nat} {L : PM} {Ls : List (ByteArray × Sd)} {F : List Nat} (h : SM w0 w B L Ls F) (hb : Below w.heap.size w w') : SM w0 w' B L Ls F := h.fr (Fr.of_below' hb _)
theorem SM.put {w0 w w' : World} {B : Nat} {L : PM} {Ls : List (ByteArray × Sd)} {F : List Nat} {k : ByteArray} {s : Sd} {q : Pd} (h : SM w0 w B L Ls F) (hq : SdR w s q) (ht : AvlSD.Turned B F (insL k s Ls) w w') : ∃ Ls' F', SM w0 w' B (insL k q L) Ls' F' := by
  obtain ⟨F', h1, h2, h3⟩ := ht
  refine ⟨_, F', h1, (h.r.ins k hq).fr h3 (map_av h.m), fun b hb => ?_, h.lB, h.b.trans (h3.below h.b.size (fun k hk e => ?_))⟩
  · rcases h2 b hb with e | e
    · exact h.l b e
    · have := h.b.size; omega
  · rcases e with e | e
    · have := h.lB; omega
    · have := h.l k e; omega
/-- Another map stays. -/
theorem SM.other {w0 w0' w w' : World} {B B2 : Nat} {L L2 : PM} {Ls Ls2 Ls' : List (ByteArray × Sd)} {F F2 : List Nat} (h : SM w0 w B L Ls F) (h2 : SM w0' w B2 L2 Ls2 F2) (ht : AvlSD.Turned B2 F2 Ls' w w') (hn : B ≠ B2 ∧ B ∉ F2 ∧ (∀ b ∈ F, b ≠ B2 ∧ b ∉ F2)) (hlo : ∀ b, b = B2 ∨ b ∈ F2 → w0.heap.size ≤ b) : SM w0 w' B L Ls F := by
  obtain ⟨F', k1, k2, k3⟩ := ht
  refine ⟨h.m.fr k3 (fun e => by rcases e with e | e; exact hn.1 e; exact hn.2.1 e) (fun b hb e => by rcases e with e | e; exact (hn.2.2 b hb).1 e; exact (hn.2.2 b hb).2 e), h.r.fr k3 (map_av h2.m), h.l, h.lB, h.b.trans (k3.below h.b.size (fun k hk e => by have := hlo k e; omega))⟩
end Comp
end Go.Proofs.YtkhhdadlpilbmaaGreat
namespace Go.Proofs.YtkhhdadlpilbmaaGreat
open Go.RowKit
namespace Comp
open KeyP PackP SetP SetW SetF Sli Delta
attribute [local go_sem] Eng.ev Eng.getO_cons Eng.getO_nil
abbrev sdarr (s : Sd) : Array Value := #[.bool s.m, .pointer s.a, .pointer s.b]
theorem foldl_snoc' {α β : Type} (f : β → α → β) (b : β) {L : List α} {k : Nat} (h : k < L.length) : (L.take (k + 1)).foldl f b = f ((L.take k).foldl f b) L[k] := by
  rw [List.take_succ_eq_append_getElem h, List.foldl_append]; rfl
theorem SM.len {w0 w : World} {B : Nat} {L : PM} {Ls : List (ByteArray × Sd)} {F : List Nat} (h : SM w0 w B L Ls F) (hL : L.length ≤ 4000000) : Ls.length < 144115188075855872 := by rw [h.r.len]; omega
/-- A map of sides, a record's box, a side's box. -/
structure S12 (w0 w : World) (B Bv Bs : Nat) (y : Sn) (s : Sd) (q : Pd) (L : PM) (Ls : List (ByteArray × Sd)) (F : List Nat) : Prop where
  m : SM w0 w B L Ls F
  v : Bk w Bv y.arr TSn
  bs : Bk w Bs (sdarr s) TSd
  r : SdR w s q
theorem S12.fr {w0 w w' : World} {B Bv Bs : Nat} {y : Sn} {s : Sd} {q : Pd} {L : PM} {Ls : List (ByteArray × Sd)} {F : List Nat} (h : S12 w0 w B Bv Bs y s q L Ls F) (hf : Fr (fun _ => False) w w') : S12 w0 w' B Bv Bs y s q L Ls F :=
  ⟨h.m.fr hf, h.v.fr hf (fun _ _ h => h), h.bs.fr hf (fun _ _ h => h), h.r.fr hf (Av.false _)⟩
structure S13 (w0 w : World) (B Bv Bs : Nat) (y : Sn) (s : Sd) (L : PM) : Prop where
  m : ∃ Ls F, SM w0 w B L Ls F
  v : Bk w Bv y.arr TSn
  bs : Bk w Bs (sdarr s) TSd
theorem S12.put {w0 w w' : World} {B Bv Bs : Nat} {y : Sn} {s : Sd} {q : Pd} {L : PM} {Ls : List (ByteArray × Sd)} {F : List Nat} {k : ByteArray} (h : S12 w0 w B Bv Bs y s q L Ls F) (hn : Bs ≠ B ∧ Bs ∉ F) (ht : AvlSD.Turned B F (insL k s Ls) w w') : S13 w0 w' B Bv Bs y s (insL k q L) := by
  refine ⟨h.m.put h.r ht, ?_, ?_⟩
  · obtain ⟨F', h1, h2, h3⟩ := ht
    exact h.v.fr h3 (fun b hb => by simp at hb; subst hb; exact map_av h.m.m _ _ h.v)
  · obtain ⟨F', h1, h2, h3⟩ := ht
    exact h.bs.fr h3 (fun b hb e => by simp at hb; subst hb; rcases e with e | e; exact hn.1 e; exact hn.2 e)
set_option maxRecDepth 100000 in
set_option maxHeartbeats 400000 in
theorem sd12 {ops : Array Oper} (hops : Eng.fnOps Tryz.f42 12 = ops) (a0 : Act) (Q : Exit → Act → World → Prop) (w0 w : World) (B Bv Bs : Nat) (y : Sn) (s : Sd) (q : Pd) (L : PM) (Ls : List (ByteArray × Sd)) (F : List Nat) (hst : S12 w0 w B Bv Bs y s q L Ls F) (hn2 : Bs ≠ B ∧ Bs ∉ F) (hy : y.ok) (sz : Ls.length < 144115188075855872)
    (hn : a0.tmps.size = 42) (h_3 : a0.tmps.getD 3 undef = .pointer (some ⟨B, 0, none⟩)) (h_7 : a0.tmps.getD 7 undef = .pointer (some ⟨Bv, 0, none⟩)) (h_8 : a0.tmps.getD 8 undef = .pointer (some ⟨Bs, 0, none⟩))
    (hpost : ∀ (x : Nat → Value) (w' : World), (∃ Ls' F', SM w0 w' B (insL (kk y) q L) Ls' F') → Q .normal (Eng.setAll a0 [37, 38, 39, 40] x) w') :
    (Code.region 12 ops true).wp Tryz.prog Q a0 w := by
  simp only [Eng.fnOps, Eng.regOps, Tryz.f42, Option.bind_some, Option.getD_some, Nat.reduceEqDiff, ↓reduceIte] at hops
  subst hops
  have HSt := Lib.hid (hst.fr (Fr.drew _ _))
  have hSS : w.drew.cell? ⟨Bv, 0, none⟩ = some (.int .i64 y.t) ∧ w.drew.cell? ⟨Bv, 1, none⟩ = some (.int .i64 y.i) ∧ w.drew.cell? ⟨Bv, 2, none⟩ = some (.int .i64 y.p) ∧ w.drew.cell? ⟨Bv, 3, none⟩ = some (.int .i64 y.r) ∧ w.drew.cell? ⟨Bv, 4, none⟩ = some (.string y.s) ∧ w.drew.cell? ⟨Bv, 5, none⟩ = some (.string y.o) ∧ w.drew.cell? ⟨Bv, 6, none⟩ = some (.int .i64 y.b) ∧ w.drew.cell? ⟨Bv, 7, none⟩ = some (.int .i64 y.d) ∧ w.drew.cell? ⟨Bv, 8, none⟩ = some (.bool y.g) ∧ w.drew.cell? ⟨Bs, 0, none⟩ = some (.bool s.m) ∧ w.drew.cell? ⟨Bs, 1, none⟩ = some (.pointer s.a) ∧ w.drew.cell? ⟨Bs, 2, none⟩ = some (.pointer s.b) := ⟨HSt.out.v.cell 0, HSt.out.v.cell 1, HSt.out.v.cell 2, HSt.out.v.cell 3, HSt.out.v.cell 4, HSt.out.v.cell 5, HSt.out.v.cell 6, HSt.out.v.cell 7, HSt.out.v.cell 8, HSt.out.bs.cell 0, HSt.out.bs.cell 1, HSt.out.bs.cell 2⟩
  refine Eng.regionT (.take 0 (.take 2 (.alt 1 (.alt 3 (.done) (.stop)) (.stop)))) (fun w' => w'.cell? ⟨Bv, 0, none⟩ = some (.int .i64 y.t) ∧ w'.cell? ⟨Bv, 1, none⟩ = some (.int .i64 y.i) ∧ w'.cell? ⟨Bv, 2, none⟩ = some (.int .i64 y.p) ∧ w'.cell? ⟨Bv, 3, none⟩ = some (.int .i64 y.r) ∧ w'.cell? ⟨Bv, 4, none⟩ = some (.string y.s) ∧ w'.cell? ⟨Bv, 5, none⟩ = some (.string y.o) ∧ w'.cell? ⟨Bv, 6, none⟩ = some (.int .i64 y.b) ∧ w'.cell? ⟨Bv, 7, none⟩ = some (.int .i64 y.d) ∧ w'.cell? ⟨Bv, 8, none⟩ = some (.bool y.g) ∧ w'.cell? ⟨Bs, 0, none⟩ = some (.bool s.m) ∧ w'.cell? ⟨Bs, 1, none⟩ = some (.pointer s.a) ∧ w'.cell? ⟨Bs, 2, none⟩ = some (.pointer s.b)) (by kernel_rfl) 42 hn (by kernel_rfl) (by kernel_rfl) (by kernel_rfl) (hSS) (fun a b ha hb => ?_)
  subst ha
  have hb3 : b 3 = .pointer (some ⟨B, 0, none⟩) := (hb 3).symm.trans h_3
  have hb7 : b 7 = .pointer (some ⟨Bv, 0, none⟩) := (hb 7).symm.trans h_7
  have hb8 : b 8 = .pointer (some ⟨Bs, 0, none⟩) := (hb 8).symm.trans h_8
  clear hb h_3 h_7 h_8
  have HP := Lib.hid hpost; have HN := Lib.hid hn
  clear hpost hn
  refine Eng.TW.take' (v := ?_) rfl rfl (by decide) (by kernel_rfl) (fun w hw => ?_) ?_
  rotate_left
  · (try dsimp only at hw); go_simp; first | done | with_reducible rfl
  refine Eng.TW.take' (v := ?_) rfl rfl (by decide) (by kernel_rfl) (fun w hw => ?_) ?_
  rotate_left
  · (try dsimp only at hw); go_simp; first | done | with_reducible rfl
  refine Eng.TW.call rfl rfl (by decide) (by kernel_rfl) ?_ (Key.Span' y hy.t hy.i _) ?_
  · go_simp
  rintro e w2 ⟨rfl, hf⟩
  have HSt2 := Lib.hid (HSt.out.fr hf)
  have hSS : w2.cell? ⟨Bv, 0, none⟩ = some (.int .i64 y.t) ∧ w2.cell? ⟨Bv, 1, none⟩ = some (.int .i64 y.i) ∧ w2.cell? ⟨Bv, 2, none⟩ = some (.int .i64 y.p) ∧ w2.cell? ⟨Bv, 3, none⟩ = some (.int .i64 y.r) ∧ w2.cell? ⟨Bv, 4, none⟩ = some (.string y.s) ∧ w2.cell? ⟨Bv, 5, none⟩ = some (.string y.o) ∧ w2.cell? ⟨Bv, 6, none⟩ = some (.int .i64 y.b) ∧ w2.cell? ⟨Bv, 7, none⟩ = some (.int .i64 y.d) ∧ w2.cell? ⟨Bv, 8, none⟩ = some (.bool y.g) ∧ w2.cell? ⟨Bs, 0, none⟩ = some (.bool s.m) ∧ w2.cell? ⟨Bs, 1, none⟩ = some (.pointer s.a) ∧ w2.cell? ⟨Bs, 2, none⟩ = some (.pointer s.b) := ⟨HSt2.out.v.cell 0, HSt2.out.v.cell 1, HSt2.out.v.cell 2, HSt2.out.v.cell 3, HSt2.out.v.cell 4, HSt2.out.v.cell 5, HSt2.out.v.cell 6, HSt2.out.v.cell 7, HSt2.out.v.cell 8, HSt2.out.bs.cell 0, HSt2.out.bs.cell 1, HSt2.out.bs.cell 2⟩
  clear hf
  refine ⟨_, rfl, hSS, ?_⟩
  refine Eng.TW.call rfl rfl (by decide) (by kernel_rfl) ?_ (AvlSD.PutB B (kk y) s Ls F _ HSt2.out.m.m sz) ?_
  · go_simp
  rintro e w3 ⟨rfl, ht⟩
  have HSt3 := Lib.hid (HSt2.out.put hn2 ht)
  have hSS : w3.cell? ⟨Bv, 0, none⟩ = some (.int .i64 y.t) ∧ w3.cell? ⟨Bv, 1, none⟩ = some (.int .i64 y.i) ∧ w3.cell? ⟨Bv, 2, none⟩ = some (.int .i64 y.p) ∧ w3.cell? ⟨Bv, 3, none⟩ = some (.int .i64 y.r) ∧ w3.cell? ⟨Bv, 4, none⟩ = some (.string y.s) ∧ w3.cell? ⟨Bv, 5, none⟩ = some (.string y.o) ∧ w3.cell? ⟨Bv, 6, none⟩ = some (.int .i64 y.b) ∧ w3.cell? ⟨Bv, 7, none⟩ = some (.int .i64 y.d) ∧ w3.cell? ⟨Bv, 8, none⟩ = some (.bool y.g) ∧ w3.cell? ⟨Bs, 0, none⟩ = some (.bool s.m) ∧ w3.cell? ⟨Bs, 1, none⟩ = some (.pointer s.a) ∧ w3.cell? ⟨Bs, 2, none⟩ = some (.pointer s.b) := ⟨HSt3.out.v.cell 0, HSt3.out.v.cell 1, HSt3.out.v.cell 2, HSt3.out.v.cell 3, HSt3.out.v.cell 4, HSt3.out.v.cell 5, HSt3.out.v.cell 6, HSt3.out.v.cell 7, HSt3.out.v.cell 8, HSt3.out.bs.cell 0, HSt3.out.bs.cell 1, HSt3.out.bs.cell 2⟩
  clear ht
  refine ⟨_, rfl, hSS, ?_⟩
  refine Eng.TW.end_ [37, 38, 39, 40] HN.out (by kernel_rfl) (by kernel_rfl) ?_
  exact HP.out _ _ HSt3.out.m

set_option maxRecDepth 100000 in
set_option maxHeartbeats 4000000 in
theorem sides (A1 A2 : Option Addr) (k1 k2 : Nat) (O I : List Sn) (w : World) (hd : RdD w ⟨A1, k1, O, A2, k2, I⟩) (hl1 : O.length ≤ 1000000) (hl2 : I.length ≤ 1000000) :
    Calls Tryz.prog 42 #[.agg #[.slice A1 O.length k1, .slice A2 I.length k2]] w fun e w' => e = .returned (.pointer (some ⟨w.heap.size + 1, 0, none⟩)) ∧ (∃ Ls F, SM w w' (w.heap.size + 1) (sidesP O I) Ls F) ∧ w.heap.size + 1 < w'.heap.size ∧ (sidesP O I).length ≤ 2000000 := by
  have fa := Fr.alloc (fun _ => False) w (.cells #[.slice A1 O.length k1, .slice A2 I.length k2] TDl)
  have HD := Lib.hid (hd.keep fa)
  have hbk := Bk.new w #[.slice A1 O.length k1, .slice A2 I.length k2] TDl
  have hm := AvlSD.MapB.new (w.alloc (.cells #[.slice A1 O.length k1, .slice A2 I.length k2] TDl))
  rw [World.size_alloc] at hm
  have HB := Lib.hid (((Below.refl w.heap.size w).alloc (Nat.le_refl _) (.cells #[.slice A1 O.length k1, .slice A2 I.length k2] TDl)))
  have hz1 : (w.alloc (.cells #[.slice A1 O.length k1, .slice A2 I.length k2] TDl)).heap.size = w.heap.size + 1 := by simp
  have HM0 : Hid (SM (w.alloc (.cells #[.slice A1 O.length k1, .slice A2 I.length k2] TDl)) ((w.alloc (.cells #[.slice A1 O.length k1, .slice A2 I.length k2] TDl)).alloc (.cells #[.pointer none, .int .i64 0] TMd)) (w.heap.size + 1) [] [] []) := ⟨hm, .nil, by simp, by simp, (Below.refl _ _).alloc (Nat.le_refl _) _⟩
  have e0 : ((w.alloc (.cells #[.slice A1 O.length k1, .slice A2 I.length k2] TDl)).alloc (.cells #[.pointer none, .int .i64 0] TMd)).cell? ⟨w.heap.size, 0, none⟩ = some (.slice A1 O.length k1) := (hbk.fr (Fr.alloc (fun _ => False) _ _) (fun _ _ h => h)).cell 0
  have HBk := Lib.hid hbk
  clear hd fa hbk hm
  go_enter Tryz.func42, Tryz.ntmps42
  go_upto_region 2 with (fail)
  generalize hW1 : (w.alloc (.cells #[.slice A1 O.length k1, .slice A2 I.length k2] TDl)) = w1 at *
  generalize (w1.alloc (.cells #[.pointer none, .int .i64 0] TMd)) = w2 at *
  have HZ1 := Lib.hid hz1
  clear hW1 hz1
  go_wp2_with fail
  clear e0
  go_loopg [13] O.length (fun gk i wr => ∃ k : Nat, i = .int .i64 k ∧ k ≤ O.length ∧ gk = O.length - k ∧ ∃ Ls F, ((O.take k).foldl putO []).length ≤ k ∧ SM w1 wr (w.heap.size + 1) ((O.take k).foldl putO []) Ls F)
  case atStart => exact ⟨0, rfl, Nat.zero_le _, rfl, [], [], Nat.le_refl _, HM0.out⟩
  case round =>
    clear HM0
    obtain ⟨k, rfl, hk, hg, Ls, F, hml, hsm⟩ := hrel
    have HG := Lib.hid hg; have HM := Lib.hid hsm
    have HDr := Lib.hid (HD.out.below hsm.b)
    have HBr := Lib.hid (HBk.out.fr (Fr.of_below' hsm.b (fun _ => False)) (fun _ _ h => h))
    clear hg hsm
    by_cases hlt : k < O.length
    · obtain ⟨b1, o1, hA1, hb1, c1⟩ := HDr.out.o.s.at hlt (by omega)
      have hA1 : A1 = some ⟨b1, o1, none⟩ := hA1
      subst hA1
      have HA := Lib.hid (At.row c1 hlt)
      have HYo := Lib.hid (HD.out.o.ok _ (List.getElem_mem hlt))
      have HSn := Lib.hid (foldl_snoc' putO [] hlt)
      clear c1 hb1
      generalize O[k] = y at *
      generalize (O.take k).foldl putO [] = L at *
      have q1 : (0 : Int) ≤ (k : Int) := by omega
      have q2 : decide ((k : Int) < (O.length : Int)) = true := by simp; omega
      have yc0 : wr.cell? ⟨b1, o1 + k * 9, none⟩ = some (.int .i64 y.t) := HA.out 0 _ rfl
      have yc1 : wr.cell? ⟨b1, o1 + k * 9 + 1, none⟩ = some (.int .i64 y.i) := HA.out 1 _ rfl
      have yc2 : wr.cell? ⟨b1, o1 + k * 9 + 1 + 1, none⟩ = some (.int .i64 y.p) := HA.out 2 _ rfl
      have yc3 : wr.cell? ⟨b1, o1 + k * 9 + 1 + 1 + 1, none⟩ = some (.int .i64 y.r) := HA.out 3 _ rfl
      have yc4 : wr.cell? ⟨b1, o1 + k * 9 + 1 + 1 + 1 + 1, none⟩ = some (.string y.s) := HA.out 4 _ rfl
      have yc5 : wr.cell? ⟨b1, o1 + k * 9 + 1 + 1 + 1 + 1 + 1, none⟩ = some (.string y.o) := HA.out 5 _ rfl
      have yc6 : wr.cell? ⟨b1, o1 + k * 9 + 1 + 1 + 1 + 1 + 1 + 1, none⟩ = some (.int .i64 y.b) := HA.out 6 _ rfl
      have yc7 : wr.cell? ⟨b1, o1 + k * 9 + 1 + 1 + 1 + 1 + 1 + 1 + 1, none⟩ = some (.int .i64 y.d) := HA.out 7 _ rfl
      have yc8 : wr.cell? ⟨b1, o1 + k * 9 + 1 + 1 + 1 + 1 + 1 + 1 + 1 + 1, none⟩ = some (.bool y.g) := HA.out 8 _ rfl
      go_upto_region 5 with (fail)
      have hbx := Bk.new wr y.arr TSn
      have hfa := Fr.alloc (fun _ => False) wr (.cells y.arr TSn)
      have HM5 := Lib.hid (HM.out.fr hfa)
      generalize (wr.alloc (.cells y.arr TSn)) = w5 at *
      generalize wr.heap.size = Bv at *
      have HV5 := Lib.hid hbx
      clear hbx hfa HM HDr HBr yc0 yc1 yc2 yc3 yc4 yc5 yc6 yc7 yc8 HA
      have yc0 : w5.cell? ⟨Bv, 0, none⟩ = some (.int .i64 y.t) := (At.box HV5.out) 0 _ rfl
      have yc1 : w5.cell? ⟨Bv, 1, none⟩ = some (.int .i64 y.i) := (At.box HV5.out) 1 _ rfl
      have yc2 : w5.cell? ⟨Bv, 2, none⟩ = some (.int .i64 y.p) := (At.box HV5.out) 2 _ rfl
      have yc3 : w5.cell? ⟨Bv, 3, none⟩ = some (.int .i64 y.r) := (At.box HV5.out) 3 _ rfl
      have yc4 : w5.cell? ⟨Bv, 4, none⟩ = some (.string y.s) := (At.box HV5.out) 4 _ rfl
      have yc5 : w5.cell? ⟨Bv, 5, none⟩ = some (.string y.o) := (At.box HV5.out) 5 _ rfl
      have yc6 : w5.cell? ⟨Bv, 6, none⟩ = some (.int .i64 y.b) := (At.box HV5.out) 6 _ rfl
      have yc7 : w5.cell? ⟨Bv, 7, none⟩ = some (.int .i64 y.d) := (At.box HV5.out) 7 _ rfl
      have yc8 : w5.cell? ⟨Bv, 8, none⟩ = some (.bool y.g) := (At.box HV5.out) 8 _ rfl
      go_wp2_with fail
      refine (Key.Span' y HYo.out.t HYo.out.i _).mono ?_
      rintro e w6 ⟨rfl, hf⟩
      have HM6 := Lib.hid (HM5.out.fr hf); have HV6 := Lib.hid (HV5.out.fr hf (fun _ _ h => h))
      clear hf HM5 HV5 yc0 yc1 yc2 yc3 yc4 yc5 yc6 yc7 yc8
      go_wp2_with fail
      refine (AvlSD.PutB (w.heap.size + 1) (key2 y.t y.i) ⟨true, some ⟨Bv, 0, none⟩, none⟩ Ls F _ HM6.out.m (HM6.out.len (by omega))).mono ?_
      rintro e w7 ⟨rfl, ht⟩
      obtain ⟨Ls', F', hsm⟩ := HM6.out.put (s := ⟨true, some ⟨Bv, 0, none⟩, none⟩) (q := ⟨true, some y, none⟩) ⟨rfl, ⟨Bv, rfl, HV6.out, HYo.out⟩, rfl⟩ ht
      have HM7 := Lib.hid hsm
      have hin := insL_len' (kk y) (⟨true, some y, none⟩ : Pd) L
      clear ht hsm
      go_wp2_with fail
      go_roundg (O.length - (k + 1))
      case rel => exact ⟨k + 1, by go_num, by omega, rfl, Ls', F', by rw [HSn.out]; show (insL (kk y) _ L).length ≤ _; omega, by rw [HSn.out]; exact HM7.out⟩
      case measure => have := HG.out; omega
    · obtain rfl : k = O.length := by omega
      have q2 : decide ((O.length : Int) < (O.length : Int)) = false := by simp
      rw [List.take_length] at HM hml
      obtain ⟨wo, rfl⟩ : ∃ wo : World, wo = wr := ⟨_, rfl⟩
      have e1 : wo.cell? ⟨w.heap.size, 1, none⟩ = some (.slice A2 I.length k2) := HBr.out.cell 1
      have HM0 := HM
      obtain ⟨LO, hLO⟩ : ∃ LO, Hid (O.foldl putO [] = LO) := ⟨_, Lib.hid rfl⟩
      rw [hLO.out] at HM0 hml
      clear HG HDr HBr HM
      go_wp2_with fail
      clear e1
      go_loopg [25] I.length (fun gk i wr => ∃ k : Nat, i = .int .i64 k ∧ k ≤ I.length ∧ gk = I.length - k ∧ ∃ Ls F, ((I.take k).foldl putI LO).length ≤ O.length + k ∧ SM w1 wr (w.heap.size + 1) ((I.take k).foldl putI LO) Ls F)
      case atStart => exact ⟨0, rfl, Nat.zero_le _, rfl, Ls, F, hml, HM0.out⟩
      case round =>
        clear HM0 hml
        obtain ⟨k, rfl, hk, hg, Ls, F, hml, hsm⟩ := hrel
        have HG := Lib.hid hg; have HM := Lib.hid hsm
        have HDr := Lib.hid (HD.out.below hsm.b)
        clear hg hsm
        by_cases hlt : k < I.length
        · obtain ⟨b1, o1, hA2, hb1, c1⟩ := HDr.out.i.s.at hlt (by omega)
          have hA2 : A2 = some ⟨b1, o1, none⟩ := hA2
          subst hA2
          have HA := Lib.hid (At.row c1 hlt)
          have HYo := Lib.hid (HD.out.i.ok _ (List.getElem_mem hlt))
          have HSn := Lib.hid (foldl_snoc' putI LO hlt)
          clear c1 hb1
          generalize I[k] = y at *
          generalize (I.take k).foldl putI LO = L at *
          have q1 : (0 : Int) ≤ (k : Int) := by omega
          have q2 : decide ((k : Int) < (I.length : Int)) = true := by simp; omega
          have yc0 : wr.cell? ⟨b1, o1 + k * 9, none⟩ = some (.int .i64 y.t) := HA.out 0 _ rfl
          have yc1 : wr.cell? ⟨b1, o1 + k * 9 + 1, none⟩ = some (.int .i64 y.i) := HA.out 1 _ rfl
          have yc2 : wr.cell? ⟨b1, o1 + k * 9 + 1 + 1, none⟩ = some (.int .i64 y.p) := HA.out 2 _ rfl
          have yc3 : wr.cell? ⟨b1, o1 + k * 9 + 1 + 1 + 1, none⟩ = some (.int .i64 y.r) := HA.out 3 _ rfl
          have yc4 : wr.cell? ⟨b1, o1 + k * 9 + 1 + 1 + 1 + 1, none⟩ = some (.string y.s) := HA.out 4 _ rfl
          have yc5 : wr.cell? ⟨b1, o1 + k * 9 + 1 + 1 + 1 + 1 + 1, none⟩ = some (.string y.o) := HA.out 5 _ rfl
          have yc6 : wr.cell? ⟨b1, o1 + k * 9 + 1 + 1 + 1 + 1 + 1 + 1, none⟩ = some (.int .i64 y.b) := HA.out 6 _ rfl
          have yc7 : wr.cell? ⟨b1, o1 + k * 9 + 1 + 1 + 1 + 1 + 1 + 1 + 1, none⟩ = some (.int .i64 y.d) := HA.out 7 _ rfl
          have yc8 : wr.cell? ⟨b1, o1 + k * 9 + 1 + 1 + 1 + 1 + 1 + 1 + 1 + 1, none⟩ = some (.bool y.g) := HA.out 8 _ rfl
          go_upto_region 10 with (fail)
          have hbx := Bk.new wr y.arr TSn
          have hfa := Fr.alloc (fun _ => False) wr (.cells y.arr TSn)
          have HM5 := Lib.hid (HM.out.fr hfa)
          generalize (wr.alloc (.cells y.arr TSn)) = w5 at *
          generalize wr.heap.size = Bv at *
          have HV5 := Lib.hid hbx
          clear hbx hfa HM HDr yc0 yc1 yc2 yc3 yc4 yc5 yc6 yc7 yc8 HA
          have yc0 : w5.cell? ⟨Bv, 0, none⟩ = some (.int .i64 y.t) := (At.box HV5.out) 0 _ rfl
          have yc1 : w5.cell? ⟨Bv, 1, none⟩ = some (.int .i64 y.i) := (At.box HV5.out) 1 _ rfl
          have yc2 : w5.cell? ⟨Bv, 2, none⟩ = some (.int .i64 y.p) := (At.box HV5.out) 2 _ rfl
          have yc3 : w5.cell? ⟨Bv, 3, none⟩ = some (.int .i64 y.r) := (At.box HV5.out) 3 _ rfl
          have yc4 : w5.cell? ⟨Bv, 4, none⟩ = some (.string y.s) := (At.box HV5.out) 4 _ rfl
          have yc5 : w5.cell? ⟨Bv, 5, none⟩ = some (.string y.o) := (At.box HV5.out) 5 _ rfl
          have yc6 : w5.cell? ⟨Bv, 6, none⟩ = some (.int .i64 y.b) := (At.box HV5.out) 6 _ rfl
          have yc7 : w5.cell? ⟨Bv, 7, none⟩ = some (.int .i64 y.d) := (At.box HV5.out) 7 _ rfl
          have yc8 : w5.cell? ⟨Bv, 8, none⟩ = some (.bool y.g) := (At.box HV5.out) 8 _ rfl
          go_wp2_with fail
          refine (Key.Span' y HYo.out.t HYo.out.i _).mono ?_
          rintro e w6 ⟨rfl, hf⟩
          have HM6 := Lib.hid (HM5.out.fr hf); have HV6 := Lib.hid (HV5.out.fr hf (fun _ _ h => h))
          clear hf HM5 HV5 yc0 yc1 yc2 yc3 yc4 yc5 yc6 yc7 yc8
          go_wp2_with fail
          refine (AvlSD.GetB (w.heap.size + 1) (key2 y.t y.i) Ls F _ HM6.out.m).mono ?_
          rintro e w7 ⟨rfl, hf⟩
          have HM7 := Lib.hid (HM6.out.fr hf); have HV7 := Lib.hid (HV6.out.fr hf (fun _ _ h => h))
          have HR7 := Lib.hid (HM7.out.r.get (key2 y.t y.i))
          have HSn2 : Hid ((I.take (k + 1)).foldl putI LO = insL (kk y) ⟨true, ((getL (kk y) L).getD zd).o, some y⟩ L) := HSn.out
          clear hf HM6 HV6 HSn
          generalize (getL (key2 y.t y.i) Ls).getD zs = s0 at *
          generalize (getL (key2 y.t y.i) Ls).isSome = i0 at *
          obtain ⟨q0, hq0⟩ : ∃ q0, (getL (kk y) L).getD zd = q0 := ⟨_, rfl⟩
          rw [hq0] at HSn2
          have HR8 : Hid (SdR w7 s0 q0) := by rw [← hq0]; exact HR7.out
          clear HR7 hq0
          go_upto_region 12 with (fail)
          have hne : w7.heap.size ≠ w.heap.size + 1 ∧ w7.heap.size ∉ F := ⟨by have := HM7.out.m.lt.1; omega, fun hb => by have := HM7.out.m.lt.2 _ hb; omega⟩
          have hnv : Bv ≠ w7.heap.size := by have := lt_of_heap HV7.out; omega
          have hf3 := Fr.alloc (fun _ => False) w7 (.cells (sdarr ⟨true, s0.a, some ⟨Bv, 0, none⟩⟩) TSd)
          have hv := HV7.out.fr hf3 (fun _ _ h => h)
          have h12 : S12 w1 (w7.alloc (.cells (sdarr ⟨true, s0.a, some ⟨Bv, 0, none⟩⟩) TSd)) (w.heap.size + 1) Bv w7.heap.size y ⟨true, s0.a, some ⟨Bv, 0, none⟩⟩ ⟨true, q0.o, some y⟩ L Ls F :=
            ⟨HM7.out.fr hf3, hv, Bk.new w7 _ _, ⟨rfl, HR8.out.a.fr hf3 (Av.false _), ⟨Bv, rfl, hv, HYo.out⟩⟩⟩
          have H12 := Lib.hid h12
          have hlen := HM7.out.len (by omega)
          clear hf3 hv h12 HM7 HV7 HR8 hnv
          refine sd12 (by kernel_rfl) _ _ w1 _ (w.heap.size + 1) Bv w7.heap.size y _ _ L Ls F H12.out hne HYo.out hlen rfl rfl rfl rfl ?_
          rintro x w9 ⟨Ls', F', hsm⟩
          simp only [Eng.setAll, Act.put, List.setIfInBounds_toArray, List.set_cons_succ, List.set_cons_zero]
          have HM9 := Lib.hid hsm
          have hin := insL_len' (kk y) (⟨true, q0.o, some y⟩ : Pd) L
          clear hsm H12 hne
          go_wp2_with fail
          go_roundg (I.length - (k + 1))
          case rel => exact ⟨k + 1, by go_num, by omega, rfl, Ls', F', by rw [HSn2.out]; omega, by rw [HSn2.out]; exact HM9.out⟩
          case measure => have := HG.out; omega
        · obtain rfl : k = I.length := by omega
          have q2 : decide ((I.length : Int) < (I.length : Int)) = false := by simp
          rw [List.take_length] at HM hml
          have HE : Hid (I.foldl putI LO = sidesP O I) := by show _ = _; rw [← hLO.out]; rfl
          rw [HE.out] at HM hml
          go_wp2_with fail
          go_ret
          have hz := HZ1.out
          have hlt2 := HM.out.m.lt.1
          exact ⟨rfl, ⟨Ls, F, HM.out.m, HM.out.r, fun b hb => by have := HM.out.l b hb; omega, by omega, HB.out.trans (HM.out.b.mono (by omega))⟩, by omega, by omega⟩
end Comp
end Go.Proofs.YtkhhdadlpilbmaaGreat
