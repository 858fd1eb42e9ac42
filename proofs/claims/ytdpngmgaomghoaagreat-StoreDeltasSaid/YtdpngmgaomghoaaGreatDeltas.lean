/- What becomes of sets of records: the program's: is it a set, may it be, what is between. -/
import Derived.Test.YtdpngmgaomghoaaGreatSetFs
import Derived.Test.YtdpngmgaomghoaaGreatSli
import Derived.Sort.CutIn
namespace Go.Proofs.YtdpngmgaomghoaaGreat
open Go.RowKit Go.Shelf
namespace Delta
open KeyP PackP SetP SetW SetF Sli
attribute [local go_sem] Eng.ev Eng.getO_cons Eng.getO_nil
abbrev TDl : TypeId := 35
set_option maxRecDepth 100000 in
set_option maxHeartbeats 400000 in
theorem Clone (A : Option Addr) (c : Nat) (L : List Sn) (w : World) (hS : Ls w A c L) (hlen : L.length ≤ 1000000) :
    Calls Tryz.prog 199 #[.slice A L.length c] w (LsPost L w) := by
  obtain ⟨i0, hi, hz0, hz1, hz2⟩ := info_parts infoS
  have HOk := Lib.hid hS.ok
  cases A with
  | none =>
    obtain rfl : c = 0 := hS.s.2.2.2.1 rfl
    have hl : L.length = 0 := by have := hS.s.2.1; omega
    obtain rfl : L = [] := List.length_eq_zero_iff.1 hl
    clear hS hl
    have kn : ∀ W : World, (binOp .eql TSs (.slice none 0 0) (.slice none 0 0)).run Tryz.prog W = .ok (.bool true) W := fun W => Lib.run_eql_slice_nil W TSs TSn none 0 0 0 0 Tryz.underlying22
    go_enter Tryz.func199, Tryz.ntmps199
    go_wp2_with fail
    go_ret
    exact ⟨none, 0, rfl, Ls.nil _, World.ownsRow_nil _ _ _ _, Below.refl _ _⟩
  | some a =>
    obtain ⟨b, o, s⟩ := a
    have HS := Lib.hid (hS.keep (Fr.alloc (fun _ => False) w (.cells #[] TSn)))
    have hown : (w.alloc (.cells #[] TSn)).ownsRow w.heap.size TSn 9 (.slice (some ⟨w.heap.size, 0, none⟩) 0 0) 0 [] :=
      ⟨rfl, .inr ⟨_, 0, #[], rfl, Nat.le_refl _, heap_new _ _, Nat.le_refl _, by simp [maxLen], rfl, rfl⟩⟩
    have HO := Lib.hid hown
    have kn : ∀ W : World, (binOp .eql TSs (.slice (some ⟨b, o, s⟩) L.length c) (.slice none 0 0)).run Tryz.prog W = .ok (.bool false) W := fun W => Lib.run_eql_slice_nil W TSs TSn (some ⟨b, o, s⟩) L.length c 0 0 Tryz.underlying22
    clear hS hown
    go_enter Tryz.func199, Tryz.ntmps199
    go_wp2_with (at_builtin; refine wpList_append_sl _ rfl (.tmp 5) (.tmp 6) TSs rfl w.heap.size TSn i0 (.agg #[.int .i64 0, .int .i64 0, .int .i64 0, .int .i64 0, .string ByteArray.empty, .string ByteArray.empty, .int .i64 0, .int .i64 0, .bool false]) 9 88 Tryz.underlying22 hi hz0 hz1 hz2 rfl (by decide) _ _ _ rfl HO.out _ _ _ _ rfl HS.out.s (cells_one _) ?_ ?_ ?_ ?_)
    · unfold maxLen; omega
    · omega
    · simp
    intro v1 w3 hown1 hgrow1
    obtain ⟨A2, c2, rfl, hs2, -⟩ := Sl.of_own hown1
    have HO1 := Lib.hid hown1; have HS2 := Lib.hid hs2
    have HB := Lib.hid (((Below.refl w.heap.size w).alloc (Nat.le_refl _) (.cells #[] TSn)).grown hgrow1 (by simp) (fun k e => by cases e; exact Nat.le_refl _))
    clear hown1 hgrow1 hs2
    go_wp2_with fail
    go_ret
    exact ⟨A2, c2, rfl, ⟨HS2.out, HOk.out⟩, HO1.out, HB.out⟩
/-- Is it a set? -/
def isB (L : List Sn) : Bool := decide (setOf L = L)
set_option maxRecDepth 100000 in
theorem set_ (A : Option Addr) (c : Nat) (L : List Sn) (w : World) (hS : Ls w A c L) (hlen : L.length ≤ 1000000) :
    Calls Tryz.prog 134 #[.slice A L.length c] w fun e w' => e = .returned (.bool (isB L)) ∧ Below w.heap.size w w' := by
  have HS := Lib.hid (SetF.Set A c L w hS hlen)
  have HL := Lib.hid hS
  clear hS
  go_enter Tryz.func134, Tryz.ntmps134
  go_wp2_with fail
  refine HS.out.mono ?_
  rintro e w2 ⟨A2, c2, rfl, h1, -, hb⟩
  have HE := Lib.hid (Equal A2 A c2 c (setOf L) L w2 h1.s (HL.out.below hb).s)
  have HB := Lib.hid hb
  clear h1 hb HS
  go_wp2_with fail
  refine HE.out.mono ?_
  rintro e w3 ⟨rfl, hf⟩
  have HB3 := Lib.hid (HB.out.trans (hf.below HB.out.size (fun _ _ h => h)))
  clear hf HE
  go_wp2_with fail
  go_ret
  exact ⟨rfl, HB3.out⟩
/-- A delta, as a value. -/
structure Dl where
  A1 : Option Addr
  c1 : Nat
  O : List Sn
  A2 : Option Addr
  c2 : Nat
  I : List Sn
abbrev Dl.arr (d : Dl) : Array Value := #[.slice d.A1 d.O.length d.c1, .slice d.A2 d.I.length d.c2]
abbrev Dl.v (d : Dl) : Value := .agg d.arr
/-- Its lists lie there. -/
structure RdD (w : World) (d : Dl) : Prop where
  o : Ls w d.A1 d.c1 d.O
  i : Ls w d.A2 d.c2 d.I
theorem RdD.keep {w w' : World} {d : Dl} (h : RdD w d) (hf : Fr (fun _ => False) w w') : RdD w' d := ⟨h.o.keep hf, h.i.keep hf⟩
theorem RdD.below {w w' : World} {d : Dl} (h : RdD w d) (hb : Below w.heap.size w w') : RdD w' d := h.keep (Fr.of_below' hb _)
/-- May something become of a set by it? -/
def rightB (O I : List Sn) : Bool := isB O && (isB I && !O.any (fun x => decide (x ∈ I)))
set_option maxRecDepth 100000 in
/-- The closure: is a record among those that come in? -/
theorem Right1 (d : Dl) (Bd : Nat) (x : Sn) (w : World) (hb : Bk w Bd d.arr TDl) (hd : RdD w d) :
    Calls Tryz.prog 201 #[x.v, .pointer (some ⟨Bd, 0, none⟩)] w fun e w' => e = .returned (.bool (decide (x ∈ d.I))) ∧ Fr (fun _ => False) w w' := by
  have hf := Fr.alloc (fun _ => False) w (.cells x.arr TSn)
  have HX := Lib.hid (At.box (Bk.new w x.arr TSn))
  have HC := Lib.hid (Contains d.A2 d.c2 d.I x _ (hd.keep hf).i.s)
  have e1 : (w.alloc (.cells x.arr TSn)).cell? ⟨Bd, 1, none⟩ = some (.slice d.A2 d.I.length d.c2) := (hb.fr hf (fun _ _ h => h)).cell 1
  have HF := Lib.hid hf
  clear hb hd hf
  have xc0 : (w.alloc (.cells x.arr TSn)).cell? ⟨w.heap.size, 0, none⟩ = some (.int .i64 x.t) := HX.out 0 _ rfl
  have xc1 : (w.alloc (.cells x.arr TSn)).cell? ⟨w.heap.size, 1, none⟩ = some (.int .i64 x.i) := HX.out 1 _ rfl
  have xc2 : (w.alloc (.cells x.arr TSn)).cell? ⟨w.heap.size, 2, none⟩ = some (.int .i64 x.p) := HX.out 2 _ rfl
  have xc3 : (w.alloc (.cells x.arr TSn)).cell? ⟨w.heap.size, 3, none⟩ = some (.int .i64 x.r) := HX.out 3 _ rfl
  have xc4 : (w.alloc (.cells x.arr TSn)).cell? ⟨w.heap.size, 4, none⟩ = some (.string x.s) := HX.out 4 _ rfl
  have xc5 : (w.alloc (.cells x.arr TSn)).cell? ⟨w.heap.size, 5, none⟩ = some (.string x.o) := HX.out 5 _ rfl
  have xc6 : (w.alloc (.cells x.arr TSn)).cell? ⟨w.heap.size, 6, none⟩ = some (.int .i64 x.b) := HX.out 6 _ rfl
  have xc7 : (w.alloc (.cells x.arr TSn)).cell? ⟨w.heap.size, 7, none⟩ = some (.int .i64 x.d) := HX.out 7 _ rfl
  have xc8 : (w.alloc (.cells x.arr TSn)).cell? ⟨w.heap.size, 8, none⟩ = some (.bool x.g) := HX.out 8 _ rfl
  go_enter Tryz.func201, Tryz.ntmps201
  go_wp2_with fail
  refine HC.out.mono ?_
  rintro e w2 ⟨rfl, hf⟩
  have HF2 := Lib.hid (HF.out.trans hf (T := fun _ => False) (fun _ _ h => h) (fun _ _ h => h))
  clear hf HC e1 xc0 xc1 xc2 xc3 xc4 xc5 xc6 xc7 xc8
  go_wp2_with fail
  go_ret
  exact ⟨rfl, HF2.out⟩
set_option maxRecDepth 100000 in
set_option maxHeartbeats 400000 in
theorem Right (d : Dl) (w : World) (hd : RdD w d) (h1 : d.O.length ≤ 1000000) (h2 : d.I.length ≤ 1000000) :
    Calls Tryz.prog 135 #[d.v] w fun e w' => e = .returned (.bool (rightB d.O d.I)) ∧ Below w.heap.size w w' := by
  unfold rightB
  have hf := Fr.alloc (fun _ => False) w (.cells d.arr TDl)
  have HD := Lib.hid (hd.keep hf)
  have hbk := Bk.new w d.arr TDl
  have HBk := Lib.hid hbk
  have HB := Lib.hid ((Below.refl w.heap.size w).alloc (Nat.le_refl _) (.cells d.arr TDl))
  have e0 : (w.alloc (.cells d.arr TDl)).cell? ⟨w.heap.size, 0, none⟩ = some (.slice d.A1 d.O.length d.c1) := hbk.cell 0
  have HSt := Lib.hid (set_ d.A1 d.c1 d.O _ HD.out.o h1)
  clear hd hf hbk
  go_enter Tryz.func135, Tryz.ntmps135
  go_wp2_with fail
  generalize (w.alloc (.cells d.arr TDl)) = w1 at *
  have HS0 := Lib.hid HB.out.size
  generalize hBd : w.heap.size = Bd at *
  have HBd := Lib.hid hBd
  clear hBd
  refine HSt.out.mono ?_
  rintro e w2 ⟨rfl, hb⟩
  have HB2 := Lib.hid (HB.out.trans (hb.mono HS0.out))
  have HS2 := Lib.hid (Nat.le_trans HS0.out hb.size)
  have HD2 := Lib.hid (HD.out.below hb)
  have HBk2 := Lib.hid (HBk.out.fr (Fr.of_below' hb (fun _ => False)) (fun _ _ h => h))
  clear hb HSt e0 HD HBk HB
  cases h3 : isB d.O with
  | false =>
    go_wp2_with fail
    go_ret
    exact ⟨by rw [h3]; rfl, by rw [HBd.out]; exact HB2.out⟩
  | true =>
    have e1 : w2.cell? ⟨Bd, 1, none⟩ = some (.slice d.A2 d.I.length d.c2) := HBk2.out.cell 1
    have HSt := Lib.hid (set_ d.A2 d.c2 d.I _ HD2.out.i h2)
    go_wp2_with fail
    refine HSt.out.mono ?_
    rintro e w3 ⟨rfl, hb⟩
    have HB3 := Lib.hid (HB2.out.trans (hb.mono HS2.out))
    have HS3 := Lib.hid (Nat.le_trans HS2.out hb.size)
    have HD3 := Lib.hid (HD2.out.below hb)
    have HBk3 := Lib.hid (HBk2.out.fr (Fr.of_below' hb (fun _ => False)) (fun _ _ h => h))
    clear hb HSt e1 HD2 HBk2 HB2
    cases h4 : isB d.I with
    | false =>
      go_wp2_with fail
      go_ret
      exact ⟨by rw [h3, h4]; rfl, by rw [HBd.out]; exact HB3.out⟩
    | true =>
      have e0 : w3.cell? ⟨Bd, 0, none⟩ = some (.slice d.A1 d.O.length d.c1) := HBk3.out.cell 0
      have HC := Lib.hid (ContainsFunc d.A1 d.c1 201 #[.pointer (some ⟨Bd, 0, none⟩)] (fun x => decide (x ∈ d.I)) d.O w3 (enters_of Tryz.func201 (by kernel_rfl) rfl) HD3.out.o.s (fun W hW x _ => Right1 d Bd x W (HBk3.out.fr hW (fun _ _ h => h)) (HD3.out.keep hW)))
      go_wp2_with fail
      refine HC.out.mono ?_
      rintro e w4 ⟨rfl, hf⟩
      have HB4 := Lib.hid (HB3.out.trans (hf.below HS3.out (fun _ _ h => h)))
      clear hf HC e0
      obtain ⟨q, HQ⟩ : ∃ q, Hid (d.O.any (fun x => decide (x ∈ d.I)) = q) := ⟨_, Lib.hid rfl⟩
      rw [HQ.out]
      go_wp2_with fail
      go_ret
      exact ⟨by rw [h3, h4, HQ.out]; cases q <;> rfl, by rw [HBd.out]; exact HB4.out⟩
end Delta
end Go.Proofs.YtdpngmgaomghoaaGreat
namespace Go.Proofs.YtdpngmgaomghoaaGreat
open Go.RowKit Go.Shelf
namespace Delta
open KeyP PackP SetP SetW SetF Sli
attribute [local go_sem] Oper.semAt_some
theorem mem_fnd {Y : List Sn} (hs : Srs Y) (x : Sn) : decide (x ∈ Y) = match fnd x Y with | none => false | some z => eqS x z := by
  cases h : fnd x Y with
  | none =>
    show _ = false
    rw [decide_eq_false_iff_not]
    intro hx
    have := fnd_none h x hx
    rw [one_refl] at this; cases this
  | some z =>
    obtain ⟨h1, h2⟩ := fnd_some h
    show _ = eqS x z
    unfold eqS
    rw [decide_eq_decide]
    exact ⟨fun hx => srs_uni hs hx h1 (by rw [one_comm]; exact h2), fun e => e ▸ h1⟩
end Delta
end Go.Proofs.YtdpngmgaomghoaaGreat
namespace Go.Proofs.YtdpngmgaomghoaaGreat
open Go.RowKit
namespace Delta
open KeyP PackP SetP SetW SetF Sli
attribute [local go_sem] Eng.ev Eng.getO_cons Eng.getO_nil
end Delta
end Go.Proofs.YtdpngmgaomghoaaGreat
namespace Go.Proofs.YtdpngmgaomghoaaGreat
open Go.RowKit
namespace Delta
open KeyP PackP SetP SetW SetF Sli
attribute [local go_sem] Eng.ev Eng.getO_cons Eng.getO_nil
/-- Records taken out; none: one is not there. -/
def takeOut : List Sn → List Sn → Option (List Sn)
  | M, [] => some M
  | M, x :: xs => if x ∈ M then takeOut (SetP.out x.t x.i M) xs else none
/-- Records put in; none: one's key is there. -/
def putIn : List Sn → List Sn → Option (List Sn)
  | M, [] => some M
  | M, x :: xs => if (fnd x M).isSome then none else putIn (ins x M) xs
theorem takeOut_app : ∀ (xs ys M : List Sn), takeOut M (xs ++ ys) = (takeOut M xs).bind (fun M => takeOut M ys)
  | [], ys, M => rfl
  | x :: xs, ys, M => by
    show (if x ∈ M then takeOut _ (xs ++ ys) else none) = (if x ∈ M then takeOut _ xs else none).bind _
    by_cases h : x ∈ M
    · rw [if_pos h, if_pos h]; exact takeOut_app xs ys _
    · rw [if_neg h, if_neg h]; rfl
theorem putIn_app : ∀ (xs ys M : List Sn), putIn M (xs ++ ys) = (putIn M xs).bind (fun M => putIn M ys)
  | [], ys, M => rfl
  | x :: xs, ys, M => by
    show (if (fnd x M).isSome then none else putIn _ (xs ++ ys)) = (if (fnd x M).isSome then none else putIn _ xs).bind _
    by_cases h : (fnd x M).isSome = true
    · rw [if_pos h, if_pos h]; rfl
    · rw [if_neg h, if_neg h]; exact putIn_app xs ys _
theorem takeOut_snoc {M M' : List Sn} {L : List Sn} {k : Nat} (h : takeOut M (L.take k) = some M') (hk : k < L.length) : takeOut M (L.take (k + 1)) = if L[k] ∈ M' then some (SetP.out L[k].t L[k].i M') else none := by
  rw [List.take_succ_eq_append_getElem hk, takeOut_app, h]; rfl
theorem putIn_snoc {M M' : List Sn} {L : List Sn} {k : Nat} (h : putIn M (L.take k) = some M') (hk : k < L.length) : putIn M (L.take (k + 1)) = if (fnd L[k] M').isSome then none else some (ins L[k] M') := by
  rw [List.take_succ_eq_append_getElem hk, putIn_app, h]; rfl
theorem takeOut_none {M : List Sn} {L : List Sn} {k : Nat} (h : takeOut M (L.take k) = none) : takeOut M L = none := by
  rw [← List.take_append_drop k L, takeOut_app, h]; rfl
theorem putIn_none {M : List Sn} {L : List Sn} {k : Nat} (h : putIn M (L.take k) = none) : putIn M L = none := by
  rw [← List.take_append_drop k L, putIn_app, h]; rfl
/-- What a set becomes, and the error. -/
def applyP (L O I : List Sn) : List Sn × Int :=
  if isB L && rightB O I then (match takeOut L O with
    | none => ([], 7)
    | some M => match putIn M I with
      | none => ([], 8)
      | some N => (N, 0)) else ([], 2)
/-- The set as a map, on the way. -/
structure AM (w0 w : World) (B : Nat) (M : List Sn) (F : List Nat) : Prop where
  m : AvlSS.MapB w B (mp id M) F
  l : ∀ b ∈ F, w0.heap.size ≤ b
  lB : w0.heap.size ≤ B
  b : Below w0.heap.size w0 w
  s : Srs M
  g : ∀ x ∈ M, x.ok
theorem AM.fr {w0 w w' : World} {B : Nat} {M : List Sn} {F : List Nat} (h : AM w0 w B M F) (hf : Fr (fun _ => False) w w') : AM w0 w' B M F :=
  ⟨h.m.fr hf (fun h => h) (fun _ _ h => h), h.l, h.lB, h.b.trans (hf.below h.b.size (fun _ _ h => h)), h.s, h.g⟩
theorem AM.gk {w0 w : World} {B : Nat} {M : List Sn} {F : List Nat} (h : AM w0 w B M F) : ∀ x ∈ M, SetP.gk x := fun x hx => ⟨(h.g x hx).t, (h.g x hx).i⟩
theorem AM.drop {w0 w w' : World} {B : Nat} {M : List Sn} {F : List Nat} (h : AM w0 w B M F) {x : Sn} (hx : SetP.gk x) (ht : AvlSS.Turned B F (delL (kk x) (mp id M)) w w') : ∃ F', AM w0 w' B (SetP.out x.t x.i M) F' := by
  rw [del_mp hx h.gk] at ht
  obtain ⟨F', h1, h2, h3⟩ := ht
  exact ⟨F', h1, fun b hb => by rcases h2 b hb with e | e; exact h.l b e; have := h.b.size; omega, h.lB, h.b.trans (h3.below h.b.size (fun k hk e => by rcases e with e | e; have := h.lB; omega; have := h.l k e; omega)), out_srs h.s, fun y hy => h.g y (out_mem.1 hy).1⟩
theorem AM.put {w0 w w' : World} {B : Nat} {M : List Sn} {F : List Nat} (h : AM w0 w B M F) {x : Sn} (hx : x.ok) (ht : AvlSS.Turned B F (insL (kk x) x (mp id M)) w w') : ∃ F', AM w0 w' B (ins x M) F' := by
  have e : insL (kk x) x (mp id M) = mp id (ins x M) := ins_mp (f := id) h.s ⟨hx.t, hx.i⟩ h.gk
  rw [e] at ht
  obtain ⟨F', h1, h2, h3⟩ := ht
  exact ⟨F', h1, fun b hb => by rcases h2 b hb with e | e; exact h.l b e; have := h.b.size; omega, h.lB, h.b.trans (h3.below h.b.size (fun k hk e => by rcases e with e | e; have := h.lB; omega; have := h.l k e; omega)), ins_srs h.s, fun y hy => by rcases (ins_mem h.s).1 hy with e | e; exact e ▸ hx; exact h.g y e.1⟩
/-- With a record in a box. -/
structure AX (w0 w : World) (B Bv : Nat) (y : Sn) (M : List Sn) (F : List Nat) : Prop where
  a : AM w0 w B M F
  v : At w Bv 0 y
theorem AX.fr {w0 w w' : World} {B Bv : Nat} {y : Sn} {M : List Sn} {F : List Nat} (h : AX w0 w B Bv y M F) (hf : Fr (fun _ => False) w w') : AX w0 w' B Bv y M F := ⟨h.a.fr hf, h.v.keep hf⟩
/-- A map, and whether a key is there. -/
theorem has_fnd {M : List Sn} {x : Sn} (hx : SetP.gk x) (hw : ∀ y ∈ M, SetP.gk y) : hasL (kk x) (mp id M) = (fnd x M).isSome := has_mp (f := id) hx hw
structure AP (w0 w : World) (B Bv : Nat) (y : Sn) (M : List Sn) : Prop where
  a : ∃ F, AM w0 w B M F
  v : At w Bv 0 y
theorem AX.put {w0 w w' : World} {B Bv : Nat} {y : Sn} {M : List Sn} {F : List Nat} (h : AX w0 w B Bv y M F) (hn : Bv ≠ B ∧ Bv ∉ F) (hy : y.ok) (ht : AvlSS.Turned B F (insL (kk y) y (mp id M)) w w') : AP w0 w' B Bv y (ins y M) := by
  refine ⟨h.a.put hy ht, ?_⟩
  obtain ⟨F', h1, h2, h3⟩ := ht
  exact h.v.fr h3 (fun e => by rcases e with e | e; exact hn.1 e; exact hn.2 e)
set_option maxRecDepth 100000 in
set_option maxHeartbeats 400000 in
theorem ap15 {ops : Array Oper} (hops : Eng.fnOps Tryz.f72 15 = ops) (a0 : Act) (Q : Exit → Act → World → Prop) (w0 w : World) (B Bv : Nat) (y : Sn) (M : List Sn) (F : List Nat) (hst : AX w0 w B Bv y M F) (hn2 : Bv ≠ B ∧ Bv ∉ F) (hy : y.ok) (sz : (mp id M).length < 144115188075855872) (q : Bool) (hq : (!hasL (kk y) (mp id M)) = q)
    (hn : a0.tmps.size = 65) (h_6 : a0.tmps.getD 6 undef = .pointer (some ⟨B, 0, none⟩)) (h_12 : a0.tmps.getD 12 undef = .pointer (some ⟨Bv, 0, none⟩))
    (hpost : ∀ (x : Nat → Value) (w' : World) (F' : List Nat), x 61 = .bool (!q) → AM w0 w' B (ins y M) F' → Q .normal (Eng.setAll a0 [56, 57, 58, 59, 60, 61] x) w') :
    (Code.region 15 ops true).wp Tryz.prog Q a0 w := by
  simp only [Eng.fnOps, Eng.regOps, Tryz.f72, Option.bind_some, Option.getD_some, Nat.reduceEqDiff, ↓reduceIte, Nat.reduceBEq] at hops
  subst hops
  have HSt := Lib.hid (hst.fr (Fr.drew _ _))
  have hSS : w.drew.cell? ⟨Bv, 0, none⟩ = some (.int .i64 y.t) ∧ w.drew.cell? ⟨Bv, 1, none⟩ = some (.int .i64 y.i) ∧ w.drew.cell? ⟨Bv, 2, none⟩ = some (.int .i64 y.p) ∧ w.drew.cell? ⟨Bv, 3, none⟩ = some (.int .i64 y.r) ∧ w.drew.cell? ⟨Bv, 4, none⟩ = some (.string y.s) ∧ w.drew.cell? ⟨Bv, 5, none⟩ = some (.string y.o) ∧ w.drew.cell? ⟨Bv, 6, none⟩ = some (.int .i64 y.b) ∧ w.drew.cell? ⟨Bv, 7, none⟩ = some (.int .i64 y.d) ∧ w.drew.cell? ⟨Bv, 8, none⟩ = some (.bool y.g) := ⟨HSt.out.v 0 _ rfl, HSt.out.v 1 _ rfl, HSt.out.v 2 _ rfl, HSt.out.v 3 _ rfl, HSt.out.v 4 _ rfl, HSt.out.v 5 _ rfl, HSt.out.v 6 _ rfl, HSt.out.v 7 _ rfl, HSt.out.v 8 _ rfl⟩
  refine Eng.regionT (.take 0 (.take 1 (.take 3 (.alt 2 (.alt 4 (.take 5 (.done)) (.stop)) (.stop))))) (fun w' => w'.cell? ⟨Bv, 0, none⟩ = some (.int .i64 y.t) ∧ w'.cell? ⟨Bv, 1, none⟩ = some (.int .i64 y.i) ∧ w'.cell? ⟨Bv, 2, none⟩ = some (.int .i64 y.p) ∧ w'.cell? ⟨Bv, 3, none⟩ = some (.int .i64 y.r) ∧ w'.cell? ⟨Bv, 4, none⟩ = some (.string y.s) ∧ w'.cell? ⟨Bv, 5, none⟩ = some (.string y.o) ∧ w'.cell? ⟨Bv, 6, none⟩ = some (.int .i64 y.b) ∧ w'.cell? ⟨Bv, 7, none⟩ = some (.int .i64 y.d) ∧ w'.cell? ⟨Bv, 8, none⟩ = some (.bool y.g)) (by kernel_rfl) 65 hn (by kernel_rfl) (by kernel_rfl) (by kernel_rfl) (hSS) (fun a b ha hb => ?_)
  subst ha
  have hb6 : b 6 = .pointer (some ⟨B, 0, none⟩) := (hb 6).symm.trans h_6
  have hb12 : b 12 = .pointer (some ⟨Bv, 0, none⟩) := (hb 12).symm.trans h_12
  clear hb h_6 h_12
  have HP := Lib.hid hpost; have HN := Lib.hid hn
  clear hpost hn
  refine Eng.TW.take' (v := ?_) rfl rfl (by decide) (by kernel_rfl) (fun w hw => ?_) ?_
  rotate_left
  · (try dsimp only at hw); go_simp; first | done | with_reducible rfl
  refine Eng.TW.take' (v := ?_) rfl rfl (by decide) (by kernel_rfl) (fun w hw => ?_) ?_
  rotate_left
  · (try dsimp only at hw); go_simp; first | done | with_reducible rfl
  refine Eng.TW.take' (v := ?_) rfl rfl (by decide) (by kernel_rfl) (fun w hw => ?_) ?_
  rotate_left
  · (try dsimp only at hw); go_simp; first | done | with_reducible rfl
  refine Eng.TW.call rfl rfl (by decide) (by kernel_rfl) ?_ (Key.Span' y hy.t hy.i _) ?_
  · go_simp
  rintro e w2 ⟨rfl, hf⟩
  have HSt2 := Lib.hid (HSt.out.fr hf)
  have hSS : w2.cell? ⟨Bv, 0, none⟩ = some (.int .i64 y.t) ∧ w2.cell? ⟨Bv, 1, none⟩ = some (.int .i64 y.i) ∧ w2.cell? ⟨Bv, 2, none⟩ = some (.int .i64 y.p) ∧ w2.cell? ⟨Bv, 3, none⟩ = some (.int .i64 y.r) ∧ w2.cell? ⟨Bv, 4, none⟩ = some (.string y.s) ∧ w2.cell? ⟨Bv, 5, none⟩ = some (.string y.o) ∧ w2.cell? ⟨Bv, 6, none⟩ = some (.int .i64 y.b) ∧ w2.cell? ⟨Bv, 7, none⟩ = some (.int .i64 y.d) ∧ w2.cell? ⟨Bv, 8, none⟩ = some (.bool y.g) := ⟨HSt2.out.v 0 _ rfl, HSt2.out.v 1 _ rfl, HSt2.out.v 2 _ rfl, HSt2.out.v 3 _ rfl, HSt2.out.v 4 _ rfl, HSt2.out.v 5 _ rfl, HSt2.out.v 6 _ rfl, HSt2.out.v 7 _ rfl, HSt2.out.v 8 _ rfl⟩
  clear hf
  refine ⟨_, rfl, hSS, ?_⟩
  refine Eng.TW.call rfl rfl (by decide) (by kernel_rfl) ?_ (AvlSS.PutB B (kk y) y (mp id M) F _ HSt2.out.a.m sz) ?_
  · go_simp
  rintro e w3 ⟨rfl, ht⟩
  have HSt3 := Lib.hid (HSt2.out.put hn2 hy ht)
  have hSS : w3.cell? ⟨Bv, 0, none⟩ = some (.int .i64 y.t) ∧ w3.cell? ⟨Bv, 1, none⟩ = some (.int .i64 y.i) ∧ w3.cell? ⟨Bv, 2, none⟩ = some (.int .i64 y.p) ∧ w3.cell? ⟨Bv, 3, none⟩ = some (.int .i64 y.r) ∧ w3.cell? ⟨Bv, 4, none⟩ = some (.string y.s) ∧ w3.cell? ⟨Bv, 5, none⟩ = some (.string y.o) ∧ w3.cell? ⟨Bv, 6, none⟩ = some (.int .i64 y.b) ∧ w3.cell? ⟨Bv, 7, none⟩ = some (.int .i64 y.d) ∧ w3.cell? ⟨Bv, 8, none⟩ = some (.bool y.g) := ⟨HSt3.out.v 0 _ rfl, HSt3.out.v 1 _ rfl, HSt3.out.v 2 _ rfl, HSt3.out.v 3 _ rfl, HSt3.out.v 4 _ rfl, HSt3.out.v 5 _ rfl, HSt3.out.v 6 _ rfl, HSt3.out.v 7 _ rfl, HSt3.out.v 8 _ rfl⟩
  clear ht
  refine ⟨_, rfl, hSS, ?_⟩
  refine Eng.TW.take' (v := ?_) rfl rfl (by decide) (by kernel_rfl) (fun w hw => ?_) ?_
  rotate_left
  · (try dsimp only at hw); go_simp; first | done | with_reducible rfl
  refine Eng.TW.end_ [56, 57, 58, 59, 60, 61] HN.out (by kernel_rfl) (by kernel_rfl) ?_
  exact HP.out _ _ _ rfl HSt3.out.a.choose_spec

/-- A list, an error: what a call gives. -/
def LePost (r : List Sn × Int) (w : World) (e : Ending) (w' : World) : Prop := ∃ A c, e = .returned (.tuple #[.slice A r.1.length c, .int .i64 r.2]) ∧ Ls w' A c r.1 ∧ Below w.heap.size w w'
theorem le_of {w w' : World} {r : List Sn × Int} {n : Int} (h : r = ([], n)) (hb : Below w.heap.size w w') : LePost r w (.returned (.tuple #[.slice none 0 0, .int .i64 n])) w' := by subst h; exact ⟨none, 0, rfl, Ls.nil _, hb⟩
theorem map_len {M : List Sn} (h : M.length ≤ 4000000) : (mp id M).length < 144115188075855872 := by rw [List.length_map]; omega
set_option maxRecDepth 100000 in
set_option maxHeartbeats 4000000 in
theorem Apply (A : Option Addr) (c : Nat) (L : List Sn) (A1 A2 : Option Addr) (k1 k2 : Nat) (O I : List Sn) (w : World) (hS : Ls w A c L) (hd : RdD w ⟨A1, k1, O, A2, k2, I⟩) (hl0 : L.length ≤ 500000) (hl1 : O.length ≤ 500000) (hl2 : I.length ≤ 500000) :
    Calls Tryz.prog 72 #[.slice A L.length c, .agg #[.slice A1 O.length k1, .slice A2 I.length k2]] w (LePost (applyP L O I) w) := by
  have hf := Fr.alloc (fun _ => False) w (.cells #[.slice A1 O.length k1, .slice A2 I.length k2] TDl)
  have HL := Lib.hid (hS.keep hf); have HD := Lib.hid (hd.keep hf)
  have hbk := Bk.new w #[.slice A1 O.length k1, .slice A2 I.length k2] TDl
  have HBk := Lib.hid hbk
  have HB := Lib.hid ((Below.refl w.heap.size w).alloc (Nat.le_refl _) (.cells #[.slice A1 O.length k1, .slice A2 I.length k2] TDl))
  have HAp : Hid (applyP L O I = if isB L && rightB O I then (match takeOut L O with
    | none => ([], (7 : Int))
    | some M => match putIn M I with
      | none => ([], 8)
      | some N => (N, 0)) else ([], 2)) := rfl
  obtain ⟨res, hres⟩ : ∃ r, applyP L O I = r := ⟨_, rfl⟩
  rw [hres] at HAp ⊢
  clear hS hd hf hbk hres
  go_enter Tryz.func72, Tryz.ntmps72
  go_wp2_with fail
  generalize (w.alloc (.cells #[.slice A1 O.length k1, .slice A2 I.length k2] TDl)) = w1 at *
  refine (set_ A c L w1 HL.out (by omega)).mono ?_
  rintro e w2 ⟨rfl, hb⟩
  have HB2 := Lib.hid (HB.out.trans (hb.mono HB.out.size))
  have HL2 := Lib.hid (HL.out.below hb); have HD2 := Lib.hid (HD.out.below hb)
  have HBk2 := Lib.hid (HBk.out.fr (Fr.of_below' hb (fun _ => False)) (fun _ _ h => h))
  clear hb HB HL HD HBk
  cases h3 : isB L with
  | false =>
    have HE : Hid (res = ([], 2)) := by show _ = _; rw [HAp.out, h3]; rfl
    go_wp2_with fail
    go_ret2
    exact le_of HE.out HB2.out
  | true =>
    have e0 : w2.cell? ⟨w.heap.size, 0, none⟩ = some (.slice A1 O.length k1) := HBk2.out.cell 0
    have e1 : w2.cell? ⟨w.heap.size, 1, none⟩ = some (.slice A2 I.length k2) := HBk2.out.cell 1
    go_wp2_with fail
    refine (Right ⟨A1, k1, O, A2, k2, I⟩ w2 HD2.out (by show O.length ≤ _; omega) (by show I.length ≤ _; omega)).mono ?_
    rintro e w3 ⟨rfl, hb⟩
    have HB3 := Lib.hid (HB2.out.trans (hb.mono HB2.out.size))
    have HL3 := Lib.hid (HL2.out.below hb); have HD3 := Lib.hid (HD2.out.below hb)
    have HBk3 := Lib.hid (HBk2.out.fr (Fr.of_below' hb (fun _ => False)) (fun _ _ h => h))
    clear hb HB2 HL2 HD2 HBk2 e0 e1
    cases h4 : rightB O I with
    | false =>
      have HE : Hid (res = ([], 2)) := by show _ = _; rw [HAp.out, h3, h4]; rfl
      go_wp2_with fail
      go_ret2
      exact le_of HE.out HB3.out
    | true =>
      rw [h3, h4, Bool.and_true, if_pos rfl] at HAp
      have hset : setOf L = L := by unfold isB at h3; simpa using h3
      clear h3 h4
      go_wp2_with fail
      refine (Newest.newest A c L w3 HL3.out.s (by omega) HL3.out.ok).mono ?_
      rintro e w4 ⟨rfl, ⟨F0, hm, hF⟩, hb, hz⟩
      rw [hset] at hm
      have hbk4 := HBk3.out.fr (Fr.of_below' hb (fun _ => False)) (fun _ _ h => h)
      have hwz : w.heap.size ≤ w3.heap.size := HB3.out.size
      have HM0 := Lib.hid (show AM w3 w4 w3.heap.size L F0 from ⟨hm, hF, Nat.le_refl _, hb, by rw [← hset]; exact (setOf_ok L).srs, HL3.out.ok⟩)
      have hB64 : w3.heap.size < w4.heap.size := hz
      have e0 : w4.cell? ⟨w.heap.size, 0, none⟩ = some (.slice A1 O.length k1) := hbk4.cell 0
      clear hb hm hF hz hset HL3 hbk4
      have HLO : Hid (L.length ≤ 500000) := hl0
      have HLO2 : Hid (O.length ≤ 9223372036854775807) := by show _ ≤ _; omega
      go_wp2_with fail
      clear e0
      go_loopg [26] O.length (fun gk i wr => ∃ k : Nat, i = .int .i64 k ∧ k ≤ O.length ∧ gk = O.length - k ∧ ∃ M F, takeOut L (O.take k) = some M ∧ M.length ≤ L.length ∧ AM w3 wr w3.heap.size M F)
      case atStart => exact ⟨0, rfl, Nat.zero_le _, rfl, L, F0, rfl, Nat.le_refl _, HM0.out⟩
      case round =>
        clear HM0
        obtain ⟨k, rfl, hk, hg, M, F, hto, hml, ham⟩ := hrel
        have HG := Lib.hid hg; have HT := Lib.hid hto; have HMl := Lib.hid hml; have HM := Lib.hid ham
        have HDr := Lib.hid (HD3.out.below ham.b)
        have HBkr := Lib.hid (HBk3.out.fr (Fr.of_below' ham.b (fun _ => False)) (fun _ _ h => h))
        have hw3 : w3.heap.size ≤ wr.heap.size := ham.b.size
        clear hg hto hml ham
        by_cases hlt : k < O.length
        · obtain ⟨b1, o1, hA1, hb1, c1⟩ := HDr.out.o.s.at hlt (by omega)
          have hA1 : A1 = some ⟨b1, o1, none⟩ := hA1
          subst hA1
          have HA := Lib.hid (At.row c1 hlt)
          have HYo := Lib.hid (HD3.out.o.ok _ (List.getElem_mem hlt))
          have HSn := Lib.hid (takeOut_snoc HT.out hlt)
          have HNone : Hid (O[k] ∉ M → res = ([], 7)) := fun h => by
            rw [HAp.out, takeOut_none (k := k + 1) (by rw [takeOut_snoc HT.out hlt, if_neg h])]
          clear c1 hb1
          generalize O[k] = y at *
          have q1 : (0 : Int) ≤ (k : Int) := by omega
          have q2 : decide ((k : Int) < (O.length : Int)) = true := by simp; omega
          have yc0 : wr.cell? ⟨b1, o1 + k * 9, none⟩ = some (.int .i64 y.t) := HA.out 0 _ rfl
          have yc1 : wr.cell? ⟨b1, o1 + k * 9 + 1, none⟩ = some (.int .i64 y.i) := HA.out 1 _ rfl
          have yc2 : wr.cell? ⟨b1, o1 + k * 9 + 1 + 1, none⟩ = some (.int .i64 y.p) := HA.out 2 _ rfl
          have yc3 : wr.cell? ⟨b1, o1 + k * 9 + 1 + 1 + 1, none⟩ = some (.int .i64 y.r) := HA.out 3 _ rfl
          have yc4 : wr.cell? ⟨b1, o1 + k * 9 + 1 + 1 + 1 + 1, none⟩ = some (.string y.s) := HA.out 4 _ rfl
          have yc5 : wr.cell? ⟨b1, o1 + k * 9 + 1 + 1 + 1 + 1 + 1, none⟩ = some (.string y.o) := HA.out 5 _ rfl
          have yc6 : wr.cell? ⟨b1, o1 + k * 9 + 1 + 1 + 1 + 1 + 1 + 1, none⟩ = some (.int .i64 y.b) := HA.out 6 _ rfl
          have yc7 : wr.cell? ⟨b1, o1 + k * 9 + 1 + 1 + 1 + 1 + 1 + 1 + 1, none⟩ = some (.int .i64 y.d) := HA.out 7 _ rfl
          have yc8 : wr.cell? ⟨b1, o1 + k * 9 + 1 + 1 + 1 + 1 + 1 + 1 + 1 + 1, none⟩ = some (.bool y.g) := HA.out 8 _ rfl
          go_upto_region 7 with (fail)
          have hbx := Bk.new wr y.arr TSn
          have hfa := Fr.alloc (fun _ => False) wr (.cells y.arr TSn)
          have hne : wr.heap.size ≠ w3.heap.size ∧ wr.heap.size ∉ F := ⟨by have := HM.out.m.lt.1; omega, fun hb => by have := HM.out.m.lt.2 _ hb; omega⟩
          have HM5 := Lib.hid (HM.out.fr hfa)
          generalize (wr.alloc (.cells y.arr TSn)) = w5 at *
          generalize wr.heap.size = Bv at *
          have HV5 := Lib.hid (At.box hbx); have HNe := Lib.hid hne
          clear hbx hfa hne yc0 yc1 yc2 yc3 yc4 yc5 yc6 yc7 yc8 HA
          have yc0 : w5.cell? ⟨Bv, 0, none⟩ = some (.int .i64 y.t) := HV5.out 0 _ rfl
          have yc1 : w5.cell? ⟨Bv, 1, none⟩ = some (.int .i64 y.i) := HV5.out 1 _ rfl
          have yc2 : w5.cell? ⟨Bv, 2, none⟩ = some (.int .i64 y.p) := HV5.out 2 _ rfl
          have yc3 : w5.cell? ⟨Bv, 3, none⟩ = some (.int .i64 y.r) := HV5.out 3 _ rfl
          have yc4 : w5.cell? ⟨Bv, 4, none⟩ = some (.string y.s) := HV5.out 4 _ rfl
          have yc5 : w5.cell? ⟨Bv, 5, none⟩ = some (.string y.o) := HV5.out 5 _ rfl
          have yc6 : w5.cell? ⟨Bv, 6, none⟩ = some (.int .i64 y.b) := HV5.out 6 _ rfl
          have yc7 : w5.cell? ⟨Bv, 7, none⟩ = some (.int .i64 y.d) := HV5.out 7 _ rfl
          have yc8 : w5.cell? ⟨Bv, 8, none⟩ = some (.bool y.g) := HV5.out 8 _ rfl
          go_wp2_with fail
          refine (Key.Span' y HYo.out.t HYo.out.i _).mono ?_
          rintro e w6 ⟨rfl, hf⟩
          have HM6 := Lib.hid (HM5.out.fr hf); have HV6 := Lib.hid (HV5.out.keep hf)
          clear hf HM5 HV5 yc0 yc1 yc2 yc3 yc4 yc5 yc6 yc7 yc8
          go_wp2_with fail
          refine (AvlSS.GetB w3.heap.size (key2 y.t y.i) _ F _ HM6.out.m).mono ?_
          rintro e w7 ⟨rfl, hf⟩
          have HM7 := Lib.hid (HM6.out.fr hf); have HV7 := Lib.hid (HV6.out.keep hf)
          have hget : getL (key2 y.t y.i) (mp id M) = (fnd y M).map id := get_mp (f := id) ⟨HYo.out.t, HYo.out.i⟩ HM6.out.gk
          have hmem := mem_fnd HM6.out.s y
          clear hf HM6 HV6
          rw [hget]
          clear hget
          cases hfn : fnd y M with
          | none =>
            rw [hfn] at hmem
            have HE := Lib.hid (HNone.out (by have h2 : decide (y ∈ M) = false := hmem; simpa using h2))
            have HM8 := Lib.hid (HM7.out.fr (Fr.alloc (fun _ => False) w7 (.cells (AvlSS.varr (⟨0, 0, 0, 0, ByteArray.empty, ByteArray.empty, 0, 0, false⟩ : Sn)) TSn)))
            clear hmem hfn
            go_wp2_with fail
            go_ret2
            exact le_of HE.out (HB3.out.trans (HM8.out.b.mono hwz))
          | some z =>
            rw [hfn] at hmem
            have hfz := Fr.alloc (fun _ => False) w7 (.cells z.arr TSn)
            have HM8 := Lib.hid (HM7.out.fr hfz); have HV8 := Lib.hid (HV7.out.keep hfz)
            have hq0 := fun V : World => neq_parts y.t y.i y.p y.r y.b y.d z.t z.i z.p z.r z.b z.d y.s y.o z.s z.o y.g z.g V
            clear hfn hfz HM7 HV7
            cases h1 : eqS y z with
            | false =>
              have hq : ∀ V : World, (binOp .neq TSn (.agg y.arr) (.agg z.arr)).run Tryz.prog V = .ok (.bool true) V := fun V => by have := hq0 V; rw [this]; show _ = _; rw [show eqS _ _ = eqS y z from rfl, h1]; rfl
              have HE := Lib.hid (HNone.out (by have h2 : decide (y ∈ M) = eqS y z := hmem; rw [h1] at h2; simpa using h2))
              clear hmem h1 hq0
              have yc0 : (w7.alloc (.cells z.arr TSn)).cell? ⟨Bv, 0, none⟩ = some (.int .i64 y.t) := HV8.out 0 _ rfl
              have yc1 : (w7.alloc (.cells z.arr TSn)).cell? ⟨Bv, 1, none⟩ = some (.int .i64 y.i) := HV8.out 1 _ rfl
              have yc2 : (w7.alloc (.cells z.arr TSn)).cell? ⟨Bv, 2, none⟩ = some (.int .i64 y.p) := HV8.out 2 _ rfl
              have yc3 : (w7.alloc (.cells z.arr TSn)).cell? ⟨Bv, 3, none⟩ = some (.int .i64 y.r) := HV8.out 3 _ rfl
              have yc4 : (w7.alloc (.cells z.arr TSn)).cell? ⟨Bv, 4, none⟩ = some (.string y.s) := HV8.out 4 _ rfl
              have yc5 : (w7.alloc (.cells z.arr TSn)).cell? ⟨Bv, 5, none⟩ = some (.string y.o) := HV8.out 5 _ rfl
              have yc6 : (w7.alloc (.cells z.arr TSn)).cell? ⟨Bv, 6, none⟩ = some (.int .i64 y.b) := HV8.out 6 _ rfl
              have yc7 : (w7.alloc (.cells z.arr TSn)).cell? ⟨Bv, 7, none⟩ = some (.int .i64 y.d) := HV8.out 7 _ rfl
              have yc8 : (w7.alloc (.cells z.arr TSn)).cell? ⟨Bv, 8, none⟩ = some (.bool y.g) := HV8.out 8 _ rfl
              go_wp2_with fail
              go_ret2
              exact le_of HE.out (HB3.out.trans (HM8.out.b.mono hwz))
            | true =>
              have hq : ∀ V : World, (binOp .neq TSn (.agg y.arr) (.agg z.arr)).run Tryz.prog V = .ok (.bool false) V := fun V => by have := hq0 V; rw [this]; show _ = _; rw [show eqS _ _ = eqS y z from rfl, h1]; rfl
              have hin : y ∈ M := by have h2 : decide (y ∈ M) = eqS y z := hmem; rw [h1] at h2; simpa using h2
              rw [if_pos hin] at HSn
              have HOl := Lib.hid (out_len y.t y.i M)
              clear hmem h1 hq0 hin
              have yc0 : (w7.alloc (.cells z.arr TSn)).cell? ⟨Bv, 0, none⟩ = some (.int .i64 y.t) := HV8.out 0 _ rfl
              have yc1 : (w7.alloc (.cells z.arr TSn)).cell? ⟨Bv, 1, none⟩ = some (.int .i64 y.i) := HV8.out 1 _ rfl
              have yc2 : (w7.alloc (.cells z.arr TSn)).cell? ⟨Bv, 2, none⟩ = some (.int .i64 y.p) := HV8.out 2 _ rfl
              have yc3 : (w7.alloc (.cells z.arr TSn)).cell? ⟨Bv, 3, none⟩ = some (.int .i64 y.r) := HV8.out 3 _ rfl
              have yc4 : (w7.alloc (.cells z.arr TSn)).cell? ⟨Bv, 4, none⟩ = some (.string y.s) := HV8.out 4 _ rfl
              have yc5 : (w7.alloc (.cells z.arr TSn)).cell? ⟨Bv, 5, none⟩ = some (.string y.o) := HV8.out 5 _ rfl
              have yc6 : (w7.alloc (.cells z.arr TSn)).cell? ⟨Bv, 6, none⟩ = some (.int .i64 y.b) := HV8.out 6 _ rfl
              have yc7 : (w7.alloc (.cells z.arr TSn)).cell? ⟨Bv, 7, none⟩ = some (.int .i64 y.d) := HV8.out 7 _ rfl
              have yc8 : (w7.alloc (.cells z.arr TSn)).cell? ⟨Bv, 8, none⟩ = some (.bool y.g) := HV8.out 8 _ rfl
              go_upto_region 10 with (fail)
              generalize (w7.alloc (.cells z.arr TSn)) = w8 at *
              clear yc0 yc1 yc2 yc3 yc4 yc5 yc6 yc7 yc8 hq
              have yc0 : w8.cell? ⟨Bv, 0, none⟩ = some (.int .i64 y.t) := HV8.out 0 _ rfl
              have yc1 : w8.cell? ⟨Bv, 1, none⟩ = some (.int .i64 y.i) := HV8.out 1 _ rfl
              have yc2 : w8.cell? ⟨Bv, 2, none⟩ = some (.int .i64 y.p) := HV8.out 2 _ rfl
              have yc3 : w8.cell? ⟨Bv, 3, none⟩ = some (.int .i64 y.r) := HV8.out 3 _ rfl
              have yc4 : w8.cell? ⟨Bv, 4, none⟩ = some (.string y.s) := HV8.out 4 _ rfl
              have yc5 : w8.cell? ⟨Bv, 5, none⟩ = some (.string y.o) := HV8.out 5 _ rfl
              have yc6 : w8.cell? ⟨Bv, 6, none⟩ = some (.int .i64 y.b) := HV8.out 6 _ rfl
              have yc7 : w8.cell? ⟨Bv, 7, none⟩ = some (.int .i64 y.d) := HV8.out 7 _ rfl
              have yc8 : w8.cell? ⟨Bv, 8, none⟩ = some (.bool y.g) := HV8.out 8 _ rfl
              go_wp2_with fail
              refine (Key.Span' y HYo.out.t HYo.out.i _).mono ?_
              rintro e w9 ⟨rfl, hf⟩
              have HM9 := Lib.hid (HM8.out.fr hf)
              clear hf HM8 HV8 yc0 yc1 yc2 yc3 yc4 yc5 yc6 yc7 yc8
              go_wp2_with fail
              refine (AvlSS.DropB w3.heap.size (key2 y.t y.i) _ F _ HM9.out.m (map_len (by have := HMl.out; have := HLO.out; omega))).mono ?_
              rintro e w10 ⟨rfl, ht⟩
              obtain ⟨F', ham⟩ := HM9.out.drop ⟨HYo.out.t, HYo.out.i⟩ ht
              have HM10 := Lib.hid ham
              clear ht ham HM9
              go_wp2_with fail
              go_roundg (O.length - (k + 1))
              case rel => exact ⟨k + 1, by go_num, by omega, rfl, _, F', HSn.out, by have := HMl.out; have := HOl.out; omega, HM10.out⟩
              case measure => have := HG.out; omega
        · obtain rfl : k = O.length := by omega
          have q2 : decide ((O.length : Int) < (O.length : Int)) = false := by simp
          rw [List.take_length] at HT
          rw [HT.out] at HAp
          obtain ⟨wo, rfl⟩ : ∃ wo : World, wo = wr := ⟨_, rfl⟩
          have e1 : wo.cell? ⟨w.heap.size, 1, none⟩ = some (.slice A2 I.length k2) := HBkr.out.cell 1
          have HM0 := HM
          have HMl0 := HMl
          clear HG HDr HBkr HT HMl HM
          go_wp2_with fail
          clear e1
          go_loopg [52] I.length (fun gk i wr => ∃ k : Nat, i = .int .i64 k ∧ k ≤ I.length ∧ gk = I.length - k ∧ ∃ N F, putIn M (I.take k) = some N ∧ N.length ≤ M.length + k ∧ AM w3 wr w3.heap.size N F)
          case atStart => exact ⟨0, rfl, Nat.zero_le _, rfl, M, F, rfl, Nat.le_refl _, HM0.out⟩
          case round =>
            clear HM0
            obtain ⟨k, rfl, hk, hg, N, F, hto, hml, ham⟩ := hrel
            have HG := Lib.hid hg; have HT := Lib.hid hto; have HMl := Lib.hid hml; have HM := Lib.hid ham
            have HDr := Lib.hid (HD3.out.below ham.b)
            have hw3 : w3.heap.size ≤ wr.heap.size := ham.b.size
            have hNl : N.length ≤ 4000000 := by have := HMl0.out; have := HLO.out; omega
            clear hg hto hml ham
            by_cases hlt : k < I.length
            · obtain ⟨b1, o1, hA2, hb1, c1⟩ := HDr.out.i.s.at hlt (by omega)
              have hA2 : A2 = some ⟨b1, o1, none⟩ := hA2
              subst hA2
              have HA := Lib.hid (At.row c1 hlt)
              have HYo := Lib.hid (HD3.out.i.ok _ (List.getElem_mem hlt))
              have HSn := Lib.hid (putIn_snoc HT.out hlt)
              have HNone : Hid ((fnd I[k] N).isSome = true → res = ([], 8)) := fun h => by
                rw [HAp.out]
                show (match putIn M I with | none => (([] : List Sn), (8 : Int)) | some N => (N, 0)) = _
                rw [putIn_none (k := k + 1) (by rw [putIn_snoc HT.out hlt, if_pos h])]
              clear c1 hb1
              generalize I[k] = y at *
              have q1 : (0 : Int) ≤ (k : Int) := by omega
              have q2 : decide ((k : Int) < (I.length : Int)) = true := by simp; omega
              have yc0 : wr.cell? ⟨b1, o1 + k * 9, none⟩ = some (.int .i64 y.t) := HA.out 0 _ rfl
              have yc1 : wr.cell? ⟨b1, o1 + k * 9 + 1, none⟩ = some (.int .i64 y.i) := HA.out 1 _ rfl
              have yc2 : wr.cell? ⟨b1, o1 + k * 9 + 1 + 1, none⟩ = some (.int .i64 y.p) := HA.out 2 _ rfl
              have yc3 : wr.cell? ⟨b1, o1 + k * 9 + 1 + 1 + 1, none⟩ = some (.int .i64 y.r) := HA.out 3 _ rfl
              have yc4 : wr.cell? ⟨b1, o1 + k * 9 + 1 + 1 + 1 + 1, none⟩ = some (.string y.s) := HA.out 4 _ rfl
              have yc5 : wr.cell? ⟨b1, o1 + k * 9 + 1 + 1 + 1 + 1 + 1, none⟩ = some (.string y.o) := HA.out 5 _ rfl
              have yc6 : wr.cell? ⟨b1, o1 + k * 9 + 1 + 1 + 1 + 1 + 1 + 1, none⟩ = some (.int .i64 y.b) := HA.out 6 _ rfl
              have yc7 : wr.cell? ⟨b1, o1 + k * 9 + 1 + 1 + 1 + 1 + 1 + 1 + 1, none⟩ = some (.int .i64 y.d) := HA.out 7 _ rfl
              have yc8 : wr.cell? ⟨b1, o1 + k * 9 + 1 + 1 + 1 + 1 + 1 + 1 + 1 + 1, none⟩ = some (.bool y.g) := HA.out 8 _ rfl
              go_upto_region 15 with (fail)
              have hbx := Bk.new wr y.arr TSn
              have hfa := Fr.alloc (fun _ => False) wr (.cells y.arr TSn)
              have hne : wr.heap.size ≠ w3.heap.size ∧ wr.heap.size ∉ F := ⟨by have := HM.out.m.lt.1; omega, fun hb => by have := HM.out.m.lt.2 _ hb; omega⟩
              have HM5 := Lib.hid (HM.out.fr hfa)
              generalize (wr.alloc (.cells y.arr TSn)) = w5 at *
              generalize wr.heap.size = Bv at *
              have HV5 := Lib.hid (At.box hbx)
              have hhas : hasL (kk y) (mp id N) = (fnd y N).isSome := has_fnd ⟨HYo.out.t, HYo.out.i⟩ HM.out.gk
              clear hbx hfa yc0 yc1 yc2 yc3 yc4 yc5 yc6 yc7 yc8 HA
              refine ap15 (by kernel_rfl) _ _ w3 w5 w3.heap.size Bv y N F ⟨HM5.out, HV5.out⟩ hne HYo.out (map_len hNl) _ rfl rfl rfl rfl ?_
              intro x w6 F' h61 ham
              simp only [Eng.setAll, Act.put, List.setIfInBounds_toArray, List.set_cons_succ, List.set_cons_zero]
              rw [h61, hhas]
              have HM6 := Lib.hid ham
              clear h61 ham hhas HM5 HV5 hne
              cases hfn : (fnd y N).isSome with
              | true =>
                have HE := Lib.hid (HNone.out hfn)
                clear hfn
                go_wp2_with fail
                go_ret2
                exact le_of HE.out (HB3.out.trans (HM6.out.b.mono hwz))
              | false =>
                rw [hfn, if_neg (by simp)] at HSn
                have HIl := Lib.hid (ins_len y HM.out.s)
                clear hfn
                go_wp2_with fail
                go_roundg (I.length - (k + 1))
                case rel => exact ⟨k + 1, by go_num, by omega, rfl, _, F', HSn.out, by have := HMl.out; have := HIl.out; omega, HM6.out⟩
                case measure => have := HG.out; omega
            · obtain rfl : k = I.length := by omega
              have q2 : decide ((I.length : Int) < (I.length : Int)) = false := by simp
              rw [List.take_length] at HT
              have HE : Hid (res = (N, 0)) := by
                show _ = _
                rw [HAp.out]
                show (match putIn M I with | none => (([] : List Sn), (8 : Int)) | some N => (N, 0)) = _
                rw [HT.out]
              have HOk := Lib.hid HM.out.g
              have hNl2 : N.length ≤ 1000000 := by have := HMl.out; have := HMl0.out; omega
              have HV := Lib.hid (Values.values w3.heap.size N F wr HM.out.m hNl2)
              go_wp2_with fail
              refine HV.out.mono ?_
              intro e w7 hv
              obtain ⟨A5, c5, rfl, h1, -, h3⟩ := LsPost.of hv HOk.out
              have H1 := Lib.hid h1; have H3 := Lib.hid (HB3.out.trans ((HM.out.b.trans (h3.mono hw3)).mono hwz))
              clear hv h1 h3 HV
              go_wp2_with fail
              go_ret2
              rw [HE.out]
              exact ⟨A5, c5, rfl, H1.out, H3.out⟩
end Delta
end Go.Proofs.YtdpngmgaomghoaaGreat
