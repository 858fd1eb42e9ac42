/- Shapes: the view as an object in memory. -/
import Derived.Test.YtolpdgaomlhgdaaShapeP
import Derived.Test.YtolpdgaomlhgdaaFm
import Derived.Test.YtolpdgaomlhgdaaBag2
import Derived.Test.YtolpdgaomlhgdaaEng
import Derived.Test.YtolpdgaomlhgdaaOpenRow
namespace Go.Proofs.Ytolpdgaomlhgdaa
open Go.RowKit
namespace Shape
open BagP Bag ShapeP Fm
abbrev TI : TypeId := 3
abbrev TV : TypeId := 128
abbrev TK : TypeId := 167
abbrev TP : TypeId := 156
abbrev TMK : TypeId := 126
abbrev TMI : TypeId := 29
abbrev kv (k : K3) : Value := .agg #[.int .i64 k.1, .int .i64 k.2.1, .int .i64 k.2.2]
abbrev iv (k : Int) : Value := .int .i64 k
def okK (k : K3) : Prop := wfI k.1 ∧ wfI k.2.1 ∧ wfI k.2.2
abbrev plc (x : Pl) : List Value := [.int .i64 x.t, .int .i64 x.i, .int .i64 x.c, .int .i64 x.d, .int .i64 x.p, .int .i64 x.f]
abbrev pla (x : Pl) : Array Value := #[.int .i64 x.t, .int .i64 x.i, .int .i64 x.c, .int .i64 x.d, .int .i64 x.p, .int .i64 x.f]
abbrev plv (x : Pl) : Value := .agg (pla x)
theorem plc_len (x : Pl) : (plc x).length = 6 := rfl
theorem cellsK : Try.prog.cellsOf TK = 3 := by kernel_rfl
theorem typeK : Try.prog.keyType TK = true := by kernel_rfl
theorem rowK : TK < Try.prog.types.size := of_decide_eq_true (by kernel_rfl)
theorem wideK : (match Try.prog.underlying TK with | some (.array _ _) | some (.struct _) => true | _ => false) = true := by rw [Try.underlying167]
set_option maxRecDepth 100000 in
theorem lawK : WideMaps.KeyLaw Try.prog TK := deep_law_laid laidOut (m := 2) (by omega) rowK (by kernel_rfl) wideK
theorem hasK {k : K3} (h : okK k) : ∃ l, keyOf Try.prog TK (kv k) = some l := by
  obtain ⟨h1, h2, h3⟩ := h
  have hu := Try.underlying167
  have hi := Try.underlying3
  have hf : (kv k).formed Try.prog TK = true := by simp [Value.formed, hu, cellsK]
  have hc := cellsK
  have hci := cellsI
  have h1' : (Lit.int .i64 k.1).wf = true := h1
  have h2' : (Lit.int .i64 k.2.1).wf = true := h2
  have h3' : (Lit.int .i64 k.2.2).wf = true := h3
  have h0 : Try.prog.types.size ≠ 0 := fun e => by have := rowK; rw [e] at this; exact absurd this (Nat.not_lt_zero _)
  obtain ⟨m, hm⟩ := Nat.exists_eq_succ_of_ne_zero h0
  unfold keyOf
  rw [hu]
  dsimp only
  rw [typeK, hf, hm]
  simp [Program.keyLits, hu, hi, hc, hci, Value.cells, h1', h2', h3']
theorem KK : KV TK kv okK := ⟨Maps.Keyed.of_law lawK, fun {a b} h => by
  obtain ⟨a1, a2, a3⟩ := a
  obtain ⟨b1, b2, b3⟩ := b
  simp at h
  simp [h], hasK⟩
theorem uMK : Try.prog.underlying TMK = some (.map TK TI) := Try.underlying126
theorem uMI : Try.prog.underlying TMI = some (.map TI TI) := Try.underlying29

/-- Apart. -/
structure Ap (B rk rc : Nat) (G1 G2 : List Nat) (n : Nat) : Prop where
  b : B < n
  k : rk < n
  c : rc < n
  g1 : ∀ x ∈ G1, x < n
  g2 : ∀ x ∈ G2, x < n
  bk : B ≠ rk
  bc : B ≠ rc
  kc : rk ≠ rc
  b1 : B ∉ G1
  b2 : B ∉ G2
  k1 : rk ∉ G1
  k2 : rk ∉ G2
  c1 : rc ∉ G1
  c2 : rc ∉ G2
  gg : ∀ x ∈ G1, x ∉ G2
section
variable {B rk rc n n' : Nat} {G1 G2 G : List Nat}
theorem Ap.up (h : Ap B rk rc G1 G2 n) (hn : n ≤ n') : Ap B rk rc G1 G2 n' :=
  ⟨by have := h.b; omega, by have := h.k; omega, by have := h.c; omega, fun x hx => by have := h.g1 x hx; omega, fun x hx => by have := h.g2 x hx; omega, h.bk, h.bc, h.kc, h.b1, h.b2, h.k1, h.k2, h.c1, h.c2, h.gg⟩
theorem Ap.turn1 (h : Ap B rk rc G1 G2 n) (hn : n ≤ n') (hs : ∀ x ∈ G, (x ∈ G1 ∨ n ≤ x) ∧ x < n') : Ap B rk rc G G2 n' := by
  have old : ∀ x, x < n → x ∈ G → x ∈ G1 := fun x hx hg => (hs x hg).1.elim id (fun h => by omega)
  have h' := h.up hn
  exact ⟨h'.b, h'.k, h'.c, fun x hx => (hs x hx).2, h'.g2, h.bk, h.bc, h.kc, fun e => h.b1 (old _ h.b e), h.b2, fun e => h.k1 (old _ h.k e), h.k2, fun e => h.c1 (old _ h.c e), h.c2, fun x hx h2 => h.gg x (old x (h.g2 x h2) hx) h2⟩
theorem Ap.turn2 (h : Ap B rk rc G1 G2 n) (hn : n ≤ n') (hs : ∀ x ∈ G, (x ∈ G2 ∨ n ≤ x) ∧ x < n') : Ap B rk rc G1 G n' := by
  have old : ∀ x, x < n → x ∈ G → x ∈ G2 := fun x hx hg => (hs x hg).1.elim id (fun h => by omega)
  have h' := h.up hn
  exact ⟨h'.b, h'.k, h'.c, h'.g1, fun x hx => (hs x hx).2, h.bk, h.bc, h.kc, h.b1, fun e => h.b2 (old _ h.b e), h.k1, fun e => h.k2 (old _ h.k e), h.c1, fun e => h.c2 (old _ h.c e), fun x hx h2 => h.gg x hx (old x (h.g1 x hx) h2)⟩
end
structure VI (w : World) (B rk rc n : Nat) (lk lc ld lf : List K3) (c : Array Value) (L1 L2 : List (Int × Int)) (G1 G2 : List Nat) : Prop where
  blk : Bk w B c TV
  sz : c.size = 8
  c0 : c[0]? = some (.map (some rk))
  c1 : c[1]? = some (.map (some rc))
  d : BagC w c 2 L1 G1
  f : BagC w c 5 L2 G2
  dl : Dep ld L1
  fl : Fan lf L2
  km : FM TK kv okK w rk n (fun k => cn (fun x => x == k) lk)
  cm : FM TI iv wfI w rc n (fun x => cn (cls x) lc)
  ap : Ap B rk rc G1 G2 w.heap.size
/-- A view whose maps are made: of the kinds of lk, the classes of lc, the depths of ld, the fans of lf. -/
def VM (w : World) (B rk rc n : Nat) (lk lc ld lf : List K3) (F : List Nat) : Prop := ∃ c L1 L2 G1 G2, VI w B rk rc n lk lc ld lf c L1 L2 G1 G2 ∧ F = B :: rk :: rc :: (G1 ++ G2)
theorem FM.mono {κ : Type} {tk : TypeId} {kv : κ → Value} {ok : κ → Prop} {w : World} {r n m : Nat} {f : κ → Int} (h : FM tk kv ok w r n f) (hm : n ≤ m) (hb : m < 1000000) : FM tk kv ok w r m f := by
  obtain ⟨h0, D, h4, h5⟩ := h
  exact ⟨hb, D, h4.mono hm, h5⟩
section
variable {w w' : World} {B rk rc n : Nat} {lk lc ld lf : List K3} {c : Array Value} {L1 L2 : List (Int × Int)} {G1 G2 F : List Nat}
theorem VI.fr {S : Nat → Prop} (h : VI w B rk rc n lk lc ld lf c L1 L2 G1 G2) (hf : Fr S w w') (hs : ∀ b ∈ B :: rk :: rc :: (G1 ++ G2), ¬ S b) : VI w' B rk rc n lk lc ld lf c L1 L2 G1 G2 :=
  ⟨h.blk.fr hf (fun b hb => hs b (by simp at hb; simp [hb])), h.sz, h.c0, h.c1, h.d.fr hf (fun b hb => hs b (by simp [hb])), h.f.fr hf (fun b hb => hs b (by simp [hb])), h.dl, h.fl, h.km.fr hf (fun b hb => hs b (by simp at hb; simp [hb])), h.cm.fr hf (fun b hb => hs b (by simp at hb; simp [hb])), h.ap.up hf.size⟩
theorem VM.fr {S : Nat → Prop} (h : VM w B rk rc n lk lc ld lf F) (hf : Fr S w w') (hs : ∀ b ∈ F, ¬ S b) : VM w' B rk rc n lk lc ld lf F := by
  obtain ⟨c, L1, L2, G1, G2, h, rfl⟩ := h
  exact ⟨c, L1, L2, G1, G2, h.fr hf hs, rfl⟩
theorem VI.lt (h : VI w B rk rc n lk lc ld lf c L1 L2 G1 G2) : ∀ b ∈ B :: rk :: rc :: (G1 ++ G2), b < w.heap.size := by
  intro b hb
  simp only [List.mem_cons, List.mem_append] at hb
  rcases hb with rfl | rfl | rfl | hb | hb
  · exact h.ap.b
  · exact h.ap.k
  · exact h.ap.c
  · exact h.ap.g1 b hb
  · exact h.ap.g2 b hb
theorem VM.lt (h : VM w B rk rc n lk lc ld lf F) : ∀ b ∈ F, b < w.heap.size := by obtain ⟨c, L1, L2, G1, G2, h, rfl⟩ := h; exact h.lt
theorem VM.mem (h : VM w B rk rc n lk lc ld lf F) : B ∈ F ∧ rk ∈ F ∧ rc ∈ F := by obtain ⟨c, L1, L2, G1, G2, h, rfl⟩ := h; simp
theorem VM.cells (h : VM w B rk rc n lk lc ld lf F) : w.cell? ⟨B, 0, none⟩ = some (.map (some rk)) ∧ w.cell? ⟨B, 1, none⟩ = some (.map (some rc)) := by
  obtain ⟨c, L1, L2, G1, G2, h, rfl⟩ := h
  exact ⟨(h.blk.cell 0).trans h.c0, (h.blk.cell 1).trans h.c1⟩
theorem VM.nlt (h : VM w B rk rc n lk lc ld lf F) : n < 1000000 := by obtain ⟨c, L1, L2, G1, G2, h, rfl⟩ := h; exact h.km.1
theorem VI.postF {L' : List (Int × Int)} {lf' : List K3} (h : VI w B rk rc n lk lc ld lf c L1 L2 G1 G2) (hp : BagPost B 5 c TV L' G2 w w') (hl : Fan lf' L') :
    ∃ F', VM w' B rk rc n lk lc ld lf' F' ∧ Tn (B :: rk :: rc :: (G1 ++ G2)) F' w w' := by
  obtain ⟨c', G', hin, hsz, hc, hsub, hfr⟩ := hp
  have hlt := hin.lt
  have e5 := h.ap
  obtain ⟨r, a0, a1, a2, hM, hP⟩ := h.d.fr hfr (fun b hb => by rintro (e | e); exact e5.b1 (e ▸ hb); exact e5.gg b hb e)
  have hap : Ap B rk rc G1 G' w'.heap.size := e5.turn2 hfr.size (fun x hx => ⟨hsub x hx, hlt x (by simp [hx])⟩)
  have hvi : VI w' B rk rc n lk lc ld lf' c' L1 L' G1 G' := ⟨hin.1, hsz.trans h.sz, (hc 0 (by omega)).trans h.c0, (hc 1 (by omega)).trans h.c1, ⟨r, (hc 2 (by omega)).trans a0, (hc 3 (by omega)).trans a1, (hc 4 (by omega)).trans a2, hM, hP⟩, hin.2.1, h.dl, hl,
    h.km.fr hfr (fun b hb => by simp at hb; subst hb; rintro (e | e); exact e5.bk e.symm; exact e5.k2 e), h.cm.fr hfr (fun b hb => by simp at hb; subst hb; rintro (e | e); exact e5.bc e.symm; exact e5.c2 e), hap⟩
  refine ⟨_, ⟨c', L1, L', G1, G', hvi, rfl⟩, hfr.mono (fun i _ hi => by rcases hi with rfl | hi; simp; simp [hi]), fun x hx => ⟨?_, hvi.lt x hx⟩⟩
  simp only [List.mem_cons, List.mem_append] at hx ⊢
  rcases hx with rfl | rfl | rfl | hx | hx
  · exact .inl (by simp)
  · exact .inl (by simp)
  · exact .inl (by simp)
  · exact .inl (by simp [hx])
  · exact (hsub x hx).elim (fun h => .inl (by simp [h])) .inr
theorem VI.postD {L' : List (Int × Int)} {ld' : List K3} (h : VI w B rk rc n lk lc ld lf c L1 L2 G1 G2) (hp : BagPost B 2 c TV L' G1 w w') (hl : Dep ld' L') :
    ∃ F', VM w' B rk rc n lk lc ld' lf F' ∧ Tn (B :: rk :: rc :: (G1 ++ G2)) F' w w' := by
  obtain ⟨c', G', hin, hsz, hc, hsub, hfr⟩ := hp
  have hlt := hin.lt
  have e5 := h.ap
  obtain ⟨r, a0, a1, a2, hM, hP⟩ := h.f.fr hfr (fun b hb => by rintro (e | e); exact e5.b2 (e ▸ hb); exact e5.gg b e hb)
  have hap : Ap B rk rc G' G2 w'.heap.size := e5.turn1 hfr.size (fun x hx => ⟨hsub x hx, hlt x (by simp [hx])⟩)
  have hvi : VI w' B rk rc n lk lc ld' lf c' L' L2 G' G2 := ⟨hin.1, hsz.trans h.sz, (hc 0 (by omega)).trans h.c0, (hc 1 (by omega)).trans h.c1, hin.2.1, ⟨r, (hc 5 (by omega)).trans a0, (hc 6 (by omega)).trans a1, (hc 7 (by omega)).trans a2, hM, hP⟩, hl, h.fl,
    h.km.fr hfr (fun b hb => by simp at hb; subst hb; rintro (e | e); exact e5.bk e.symm; exact e5.k1 e), h.cm.fr hfr (fun b hb => by simp at hb; subst hb; rintro (e | e); exact e5.bc e.symm; exact e5.c1 e), hap⟩
  refine ⟨_, ⟨c', L', L2, G', G2, hvi, rfl⟩, hfr.mono (fun i _ hi => by rcases hi with rfl | hi; simp; simp [hi]), fun x hx => ⟨?_, hvi.lt x hx⟩⟩
  simp only [List.mem_cons, List.mem_append] at hx ⊢
  rcases hx with rfl | rfl | rfl | hx | hx
  · exact .inl (by simp)
  · exact .inl (by simp)
  · exact .inl (by simp)
  · exact (hsub x hx).elim (fun h => .inl (by simp [h])) .inr
  · exact .inl (by simp [hx])
abbrev adF : FuncId := 46
abbrev tkF : FuncId := 48
theorem VM.addF (h : VM w B rk rc n lk lc ld lf F) (k : K3) (hl : lf.length < 1000000) : Calls Try.prog adF #[.pointer (some ⟨B, 5, none⟩), .int .i64 (kf k), .int .i64 1] w fun e w' => (∃ b, e = .returned (.bool b)) ∧ ∃ F', VM w' B rk rc n lk lc ld (lf ++ [k]) F' ∧ Tn F F' w w' := by
  obtain ⟨c, L1, L2, G1, G2, h, rfl⟩ := h
  refine (Bag.Add B 5 c TV (kf k) 1 L2 G2 w ⟨h.blk, h.f, h.ap.b2⟩ (by have := h.fl.len; omega)).mono ?_
  rintro e w' ⟨rfl, hp⟩
  exact ⟨⟨_, rfl⟩, h.postF hp (h.fl.add hl k rfl)⟩
theorem VM.addD (h : VM w B rk rc n lk lc ld lf F) (k : K3) (hl : ld.length < 1000000) (hq : qd k = true) : Calls Try.prog adF #[.pointer (some ⟨B, 2, none⟩), .int .i64 (kd k), .int .i64 1] w fun e w' => (∃ b, e = .returned (.bool b)) ∧ ∃ F', VM w' B rk rc n lk lc (ld ++ [k]) lf F' ∧ Tn F F' w w' := by
  obtain ⟨c, L1, L2, G1, G2, h, rfl⟩ := h
  refine (Bag.Add B 2 c TV (kd k) 1 L1 G1 w ⟨h.blk, h.d, h.ap.b1⟩ (by have := h.dl.len; omega)).mono ?_
  rintro e w' ⟨rfl, hp⟩
  exact ⟨⟨_, rfl⟩, h.postD hp (h.dl.add hl k hq)⟩
theorem VM.takeF (h : VM w B rk rc n lk lc ld lf F) (k : K3) (hl : lf.length < 1000000) (hk : k ∈ lf) : Calls Try.prog tkF #[.pointer (some ⟨B, 5, none⟩), .int .i64 (kf k), .int .i64 1] w fun e w' => (∃ b, e = .returned (.bool b)) ∧ ∃ F', VM w' B rk rc n lk lc ld (lf.erase k) F' ∧ Tn F F' w w' := by
  obtain ⟨c, L1, L2, G1, G2, h, rfl⟩ := h
  refine (Bag.Take B 5 c TV (kf k) 1 L2 G2 w ⟨h.blk, h.f, h.ap.b2⟩ (by have := h.fl.len; omega)).mono ?_
  rintro e w' ⟨rfl, hp⟩
  exact ⟨⟨_, rfl⟩, h.postF hp (h.fl.take hk rfl)⟩
theorem VM.takeD (h : VM w B rk rc n lk lc ld lf F) (k : K3) (hl : ld.length < 1000000) (hk : k ∈ ld) (hq : qd k = true) : Calls Try.prog tkF #[.pointer (some ⟨B, 2, none⟩), .int .i64 (kd k), .int .i64 1] w fun e w' => (∃ b, e = .returned (.bool b)) ∧ ∃ F', VM w' B rk rc n lk lc (ld.erase k) lf F' ∧ Tn F F' w w' := by
  obtain ⟨c, L1, L2, G1, G2, h, rfl⟩ := h
  refine (Bag.Take B 2 c TV (kd k) 1 L1 G1 w ⟨h.blk, h.d, h.ap.b1⟩ (by have := h.dl.len; omega)).mono ?_
  rintro e w' ⟨rfl, hp⟩
  exact ⟨⟨_, rfl⟩, h.postD hp (h.dl.take hk hq)⟩
theorem VM.skipD (h : VM w B rk rc n lk lc ld lf F) (k : K3) (hq : qd k = false) : VM w B rk rc n lk lc (ld ++ [k]) lf F := by
  obtain ⟨c, L1, L2, G1, G2, h, rfl⟩ := h
  exact ⟨c, L1, L2, G1, G2, { h with dl := h.dl.skip k hq }, rfl⟩
theorem VM.skipT (h : VM w B rk rc n lk lc ld lf F) {k : K3} (hk : k ∈ ld) (hq : qd k = false) : VM w B rk rc n lk lc (ld.erase k) lf F := by
  obtain ⟨c, L1, L2, G1, G2, h, rfl⟩ := h
  exact ⟨c, L1, L2, G1, G2, { h with dl := h.dl.skipT hk hq }, rfl⟩
theorem wf_small {n : Int} (h0 : 0 ≤ n) (h1 : n < 1000000000000) : wfI n := by
  show (Lit.int .i64 n).wf = true
  simp only [Lit.wf, Bool.and_eq_true, decide_eq_true_eq]
  have e1 : IntKind.i64.min = -9223372036854775808 := rfl
  have e2 : IntKind.i64.max = 9223372036854775807 := rfl
  omega
theorem wf_cn {p : K3 → Bool} {l : List K3} (hl : l.length < 1000000) : wfI (cn p l) := by have := cn_range p l; exact wf_small (by omega) (by omega)
/-- The kinds turn: by an entry that is made, and then written. -/
theorem VM.kinds (h : VM w B rk rc n lk lc ld lf F) {k : K3} (hk : okK k) {v : Int} (hv : wfI v) {lk' : List K3} (hl : lk.length < 1000000) (e1 : cn (fun x => x == k) lk' = v) (e2 : ∀ j, j ≠ k → cn (fun x => x == j) lk' = cn (fun x => x == j) lk) (hn : n + 2 < 1000000) :
    (Instr.lookup TMK (.map (some rk)) (kv k) false).run Try.prog w = .ok (.int .i64 (cn (fun x => x == k) lk)) w ∧ ∃ w3 s, (Instr.mapEntry TMK (.map (some rk)) (kv k)).run Try.prog w = .ok (.tuple #[.int .i64 (cn (fun x => x == k) lk), .int .i64 (s : Nat)]) w3 ∧
      (Instr.lookup TMK (.map (some rk)) (kv k) false).run Try.prog w3 = .ok (.int .i64 (cn (fun x => x == k) lk)) w3 ∧ ∃ w4, (Instr.entryStore TMK (.map (some rk)) (.int .i64 (s : Nat)) (.int .i64 v)).run Try.prog w3 = .ok () w4 ∧ VM w4 B rk rc (n + 2) lk' lc ld lf F ∧ Fr (· = rk) w w4 := by
  obtain ⟨c, L1, L2, G1, G2, h, rfl⟩ := h
  refine ⟨h.km.look KK uMK hk, ?_⟩
  obtain ⟨w3, s, hen, hs3, hf3⟩ := h.km.entry KK uMK hk (wf_cn hl) (by omega)
  refine ⟨w3, s, hen, hs3.1.look KK uMK hk, ?_⟩
  obtain ⟨w4, hst, hm4, hf4⟩ := hs3.store KK uMK hk hv (f' := fun j => cn (fun x => x == j) lk') e1 e2 (by omega)
  have hfr := hf3.trans hf4 (T := (· = rk)) (fun _ _ h => h) (fun _ _ h => h)
  have e5 := h.ap
  refine ⟨w4, hst, ⟨c, L1, L2, G1, G2, ⟨h.blk.fr hfr (fun b hb e => by simp at hb; exact e5.bk (hb ▸ e)), h.sz, h.c0, h.c1, h.d.fr hfr (fun b hb e => e5.k1 (e ▸ hb)), h.f.fr hfr (fun b hb e => e5.k2 (e ▸ hb)), h.dl, h.fl, hm4, Shape.FM.mono (h.cm.fr hfr (fun b hb e => by simp at hb; exact e5.kc (hb ▸ e).symm)) (by omega) (by omega), e5.up hfr.size⟩, rfl⟩, hfr⟩
theorem VM.classes (h : VM w B rk rc n lk lc ld lf F) {x : Int} (hk : wfI x) {v : Int} (hv : wfI v) {lc' : List K3} (e1 : cn (cls x) lc' = v) (e2 : ∀ j, j ≠ x → cn (cls j) lc' = cn (cls j) lc) (hn : n + 1 < 1000000) :
    (Instr.lookup TMI (.map (some rc)) (.int .i64 x) false).run Try.prog w = .ok (.int .i64 (cn (cls x) lc)) w ∧ ∃ w4, (Instr.mapUpdate TMI (.map (some rc)) (.int .i64 x) (.int .i64 v)).run Try.prog w = .ok () w4 ∧ VM w4 B rk rc (n + 1) lk lc' ld lf F ∧ Fr (· = rc) w w4 := by
  obtain ⟨c, L1, L2, G1, G2, h, rfl⟩ := h
  refine ⟨h.cm.look KI uMI hk, ?_⟩
  obtain ⟨w4, hst, hm4, hfr⟩ := h.cm.upd KI uMI hk hv (f' := fun j => cn (cls j) lc') e1 e2 (by omega)
  have e5 := h.ap
  refine ⟨w4, hst, ⟨c, L1, L2, G1, G2, ⟨h.blk.fr hfr (fun b hb e => by simp at hb; exact e5.bc (hb ▸ e)), h.sz, h.c0, h.c1, h.d.fr hfr (fun b hb e => e5.c1 (e ▸ hb)), h.f.fr hfr (fun b hb e => e5.c2 (e ▸ hb)), h.dl, h.fl, Shape.FM.mono (h.km.fr hfr (fun b hb e => by simp at hb; exact e5.kc (hb ▸ e))) (by omega) (by omega), hm4, e5.up hfr.size⟩, rfl⟩, hfr⟩
theorem VM.look (h : VM w B rk rc n lk lc ld lf F) {k : K3} (hk : okK k) : (Instr.lookup TMK (.map (some rk)) (kv k) false).run Try.prog w = .ok (.int .i64 (cn (fun x => x == k) lk)) w := by
  obtain ⟨c, L1, L2, G1, G2, h, rfl⟩ := h
  exact h.km.look KK uMK hk
theorem VM.lookC (h : VM w B rk rc n lk lc ld lf F) {x : Int} (hk : wfI x) : (Instr.lookup TMI (.map (some rc)) (.int .i64 x) false).run Try.prog w = .ok (.int .i64 (cn (cls x) lc)) w := by
  obtain ⟨c, L1, L2, G1, G2, h, rfl⟩ := h
  exact h.cm.look KI uMI hk
theorem VM.delK (h : VM w B rk rc n lk lc ld lf F) {k : K3} (hk : okK k) (h0 : cn (fun x => x == k) lk = 0) (ty : TypeId) : ∃ w', (Builtin.delete_ #[TMK, TK] ty #[.map (some rk), kv k]).run Try.prog w = .ok (.tuple #[]) w' ∧ VM w' B rk rc n lk lc ld lf F ∧ Fr (· = rk) w w' := by
  obtain ⟨c, L1, L2, G1, G2, h, rfl⟩ := h
  obtain ⟨w', hst, hm4, hfr⟩ := h.km.del KK uMK hk (f' := fun j => cn (fun x => x == j) lk) h0 (fun _ _ => rfl) ty
  have e5 := h.ap
  exact ⟨w', hst, ⟨c, L1, L2, G1, G2, ⟨h.blk.fr hfr (fun b hb e => by simp at hb; exact e5.bk (hb ▸ e)), h.sz, h.c0, h.c1, h.d.fr hfr (fun b hb e => e5.k1 (e ▸ hb)), h.f.fr hfr (fun b hb e => e5.k2 (e ▸ hb)), h.dl, h.fl, hm4, h.cm.fr hfr (fun b hb e => by simp at hb; exact e5.kc (hb ▸ e).symm), e5.up hfr.size⟩, rfl⟩, hfr⟩
end
set_option maxRecDepth 100000 in
theorem of_ (x : Pl) (w : World) : Calls Try.prog 124 #[plv x] w fun e w' => e = .returned (kv x.k) ∧ Fr (fun _ => False) w w' := by
  obtain ⟨t, i, c, d, p, f⟩ := x
  go_enter Try.func124, Try.ntmps124
  go_wp2
  have hh := heap_new (w.alloc (.cells (pla ⟨t, i, c, d, p, f⟩) TP)) (.cells #[.int .i64 c, .int .i64 d, .int .i64 f] TK)
  rw [show (w.alloc (.cells (pla ⟨t, i, c, d, p, f⟩) TP)).heap.size = w.heap.size + 1 by simp] at hh
  exact bodyPost_ret (results_cell_row rfl _ _ (w.heap.size + 1) TK _ (0, 0) _ rfl hh Try.underlying167 rfl (by kernel_rfl)) rfl ⟨rfl, (Fr.alloc _ _ _).trans (Fr.alloc (fun _ => False) _ _) (fun _ _ h => h) (fun _ _ h => h)⟩
end Shape
end Go.Proofs.Ytolpdgaomlhgdaa
