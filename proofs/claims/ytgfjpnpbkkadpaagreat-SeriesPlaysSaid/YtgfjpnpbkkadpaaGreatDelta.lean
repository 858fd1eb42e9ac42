/- What becomes of sets of records: the program's: is it a set, may it be, what is between. -/
import Derived.Test.YtgfjpnpbkkadpaaGreatSetFs
import Derived.Test.YtgfjpnpbkkadpaaGreatSli
namespace Go.Proofs.YtgfjpnpbkkadpaaGreat
open Go.RowKit Go.Shelf
namespace Delta
open KeyP PackP SetP SetW SetF Sli
attribute [local go_sem] Eng.ev Eng.getO_cons Eng.getO_nil
abbrev TDl : TypeId := 36
set_option maxRecDepth 100000 in
set_option maxHeartbeats 400000 in
theorem Clone (A : Option Addr) (c : Nat) (L : List Sn) (w : World) (hS : Ls w A c L) (hlen : L.length ≤ 1000000) :
    Calls Tryz.prog 180 #[.slice A L.length c] w (LsPost L w) := by
  obtain ⟨i0, hi, hz0, hz1, hz2⟩ := info_parts infoS
  have HOk := Lib.hid hS.ok
  cases A with
  | none =>
    obtain rfl : c = 0 := hS.s.2.2.2.1 rfl
    have hl : L.length = 0 := by have := hS.s.2.1; omega
    obtain rfl : L = [] := List.length_eq_zero_iff.1 hl
    clear hS hl
    have kn : ∀ W : World, (binOp .eql TSs (.slice none 0 0) (.slice none 0 0)).run Tryz.prog W = .ok (.bool true) W := fun W => Lib.run_eql_slice_nil W TSs TSn none 0 0 0 0 Tryz.underlying27
    go_enter Tryz.func180, Tryz.ntmps180
    go_wp2_with fail
    go_ret
    exact ⟨none, 0, rfl, Ls.nil _, World.ownsRow_nil _ _ _ _, Below.refl _ _⟩
  | some a =>
    obtain ⟨b, o, s⟩ := a
    have HS := Lib.hid (hS.keep (Fr.alloc (fun _ => False) w (.cells #[] TSn)))
    have hown : (w.alloc (.cells #[] TSn)).ownsRow w.heap.size TSn 9 (.slice (some ⟨w.heap.size, 0, none⟩) 0 0) 0 [] :=
      ⟨rfl, .inr ⟨_, 0, #[], rfl, Nat.le_refl _, heap_new _ _, Nat.le_refl _, by simp [maxLen], rfl, rfl⟩⟩
    have HO := Lib.hid hown
    have kn : ∀ W : World, (binOp .eql TSs (.slice (some ⟨b, o, s⟩) L.length c) (.slice none 0 0)).run Tryz.prog W = .ok (.bool false) W := fun W => Lib.run_eql_slice_nil W TSs TSn (some ⟨b, o, s⟩) L.length c 0 0 Tryz.underlying27
    clear hS hown
    go_enter Tryz.func180, Tryz.ntmps180
    go_wp2_with (at_builtin; refine wpList_append_sl _ rfl (.tmp 5) (.tmp 6) TSs rfl w.heap.size TSn i0 (.agg #[.int .i64 0, .int .i64 0, .int .i64 0, .int .i64 0, .string ByteArray.empty, .string ByteArray.empty, .int .i64 0, .int .i64 0, .bool false]) 9 88 Tryz.underlying27 hi hz0 hz1 hz2 rfl (by decide) _ _ _ rfl HO.out _ _ _ _ rfl HS.out.s (cells_one _) ?_ ?_ ?_ ?_)
    · unfold maxLen; omega
    · omega
    · simp
    intro v1 w3 hown1 hgrow1
    obtain ⟨A2, c2, rfl, hs2, -⟩ := Sl.of_own hown1
    have HO1 := Lib.hid hown1; have HS2 := Lib.hid hs2
    have HB := Lib.hid (((Below.refl w.heap.size w).alloc (Nat.le_refl _) (.cells #[] TSn)).grown hgrow1 (by simp) (fun k e => by cases e; exact Nat.le_refl _))
    clear hown1 hgrow1 hs2
    go_wp2_with fail
    go_ret
    exact ⟨A2, c2, rfl, ⟨HS2.out, HOk.out⟩, HO1.out, HB.out⟩
/-- Is it a set? -/
def isB (L : List Sn) : Bool := decide (setOf L = L)
set_option maxRecDepth 100000 in
theorem set_ (A : Option Addr) (c : Nat) (L : List Sn) (w : World) (hS : Ls w A c L) (hlen : L.length ≤ 1000000) :
    Calls Tryz.prog 182 #[.slice A L.length c] w fun e w' => e = .returned (.bool (isB L)) ∧ Below w.heap.size w w' := by
  have HS := Lib.hid (SetF.Set A c L w hS hlen)
  have HL := Lib.hid hS
  clear hS
  go_enter Tryz.func182, Tryz.ntmps182
  go_wp2_with fail
  refine HS.out.mono ?_
  rintro e w2 ⟨A2, c2, rfl, h1, -, hb⟩
  have HE := Lib.hid (Equal A2 A c2 c (setOf L) L w2 h1.s (HL.out.below hb).s)
  have HB := Lib.hid hb
  clear h1 hb HS
  go_wp2_with fail
  refine HE.out.mono ?_
  rintro e w3 ⟨rfl, hf⟩
  have HB3 := Lib.hid (HB.out.trans (hf.below HB.out.size (fun _ _ h => h)))
  clear hf HE
  go_wp2_with fail
  go_ret
  exact ⟨rfl, HB3.out⟩
/-- A delta, as a value. -/
structure Dl where
  A1 : Option Addr
  c1 : Nat
  O : List Sn
  A2 : Option Addr
  c2 : Nat
  I : List Sn
abbrev Dl.cs (d : Dl) : List Value := [.slice d.A1 d.O.length d.c1, .slice d.A2 d.I.length d.c2]
abbrev Dl.arr (d : Dl) : Array Value := #[.slice d.A1 d.O.length d.c1, .slice d.A2 d.I.length d.c2]
abbrev Dl.v (d : Dl) : Value := .agg d.arr
/-- Its lists lie there. -/
structure RdD (w : World) (d : Dl) : Prop where
  o : Ls w d.A1 d.c1 d.O
  i : Ls w d.A2 d.c2 d.I
theorem RdD.fr {S : Nat → Prop} {w w' : World} {d : Dl} (h : RdD w d) (hf : Fr S w w') (h1 : ∀ a, d.A1 = some a → ¬ S a.block) (h2 : ∀ a, d.A2 = some a → ¬ S a.block) : RdD w' d := ⟨h.o.fr hf h1, h.i.fr hf h2⟩
theorem RdD.keep {w w' : World} {d : Dl} (h : RdD w d) (hf : Fr (fun _ => False) w w') : RdD w' d := ⟨h.o.keep hf, h.i.keep hf⟩
theorem RdD.below {w w' : World} {d : Dl} (h : RdD w d) (hb : Below w.heap.size w w') : RdD w' d := h.keep (Fr.of_below' hb _)
/-- May something become of a set by it? -/
def rightB (O I : List Sn) : Bool := isB O && (isB I && !O.any (fun x => decide (x ∈ I)))
set_option maxRecDepth 100000 in
/-- The closure: is a record among those that come in? -/
theorem Right1 (d : Dl) (Bd : Nat) (x : Sn) (w : World) (hb : Bk w Bd d.arr TDl) (hd : RdD w d) :
    Calls Tryz.prog 183 #[x.v, .pointer (some ⟨Bd, 0, none⟩)] w fun e w' => e = .returned (.bool (decide (x ∈ d.I))) ∧ Fr (fun _ => False) w w' := by
  have hf := Fr.alloc (fun _ => False) w (.cells x.arr TSn)
  have HX := Lib.hid (At.box (Bk.new w x.arr TSn))
  have HC := Lib.hid (Contains d.A2 d.c2 d.I x _ (hd.keep hf).i.s)
  have e1 : (w.alloc (.cells x.arr TSn)).cell? ⟨Bd, 1, none⟩ = some (.slice d.A2 d.I.length d.c2) := (hb.fr hf (fun _ _ h => h)).cell 1
  have HF := Lib.hid hf
  clear hb hd hf
  have xc0 : (w.alloc (.cells x.arr TSn)).cell? ⟨w.heap.size, 0, none⟩ = some (.int .i64 x.t) := HX.out 0 _ rfl
  have xc1 : (w.alloc (.cells x.arr TSn)).cell? ⟨w.heap.size, 1, none⟩ = some (.int .i64 x.i) := HX.out 1 _ rfl
  have xc2 : (w.alloc (.cells x.arr TSn)).cell? ⟨w.heap.size, 2, none⟩ = some (.int .i64 x.p) := HX.out 2 _ rfl
  have xc3 : (w.alloc (.cells x.arr TSn)).cell? ⟨w.heap.size, 3, none⟩ = some (.int .i64 x.r) := HX.out 3 _ rfl
  have xc4 : (w.alloc (.cells x.arr TSn)).cell? ⟨w.heap.size, 4, none⟩ = some (.string x.s) := HX.out 4 _ rfl
  have xc5 : (w.alloc (.cells x.arr TSn)).cell? ⟨w.heap.size, 5, none⟩ = some (.string x.o) := HX.out 5 _ rfl
  have xc6 : (w.alloc (.cells x.arr TSn)).cell? ⟨w.heap.size, 6, none⟩ = some (.int .i64 x.b) := HX.out 6 _ rfl
  have xc7 : (w.alloc (.cells x.arr TSn)).cell? ⟨w.heap.size, 7, none⟩ = some (.int .i64 x.d) := HX.out 7 _ rfl
  have xc8 : (w.alloc (.cells x.arr TSn)).cell? ⟨w.heap.size, 8, none⟩ = some (.bool x.g) := HX.out 8 _ rfl
  go_enter Tryz.func183, Tryz.ntmps183
  go_wp2_with fail
  refine HC.out.mono ?_
  rintro e w2 ⟨rfl, hf⟩
  have HF2 := Lib.hid (HF.out.trans hf (T := fun _ => False) (fun _ _ h => h) (fun _ _ h => h))
  clear hf HC e1 xc0 xc1 xc2 xc3 xc4 xc5 xc6 xc7 xc8
  go_wp2_with fail
  go_ret
  exact ⟨rfl, HF2.out⟩
set_option maxRecDepth 100000 in
set_option maxHeartbeats 400000 in
theorem Right (d : Dl) (w : World) (hd : RdD w d) (h1 : d.O.length ≤ 1000000) (h2 : d.I.length ≤ 1000000) :
    Calls Tryz.prog 127 #[d.v] w fun e w' => e = .returned (.bool (rightB d.O d.I)) ∧ Below w.heap.size w w' := by
  unfold rightB
  have hf := Fr.alloc (fun _ => False) w (.cells d.arr TDl)
  have HD := Lib.hid (hd.keep hf)
  have hbk := Bk.new w d.arr TDl
  have HBk := Lib.hid hbk
  have HB := Lib.hid ((Below.refl w.heap.size w).alloc (Nat.le_refl _) (.cells d.arr TDl))
  have e0 : (w.alloc (.cells d.arr TDl)).cell? ⟨w.heap.size, 0, none⟩ = some (.slice d.A1 d.O.length d.c1) := hbk.cell 0
  have HSt := Lib.hid (set_ d.A1 d.c1 d.O _ HD.out.o h1)
  clear hd hf hbk
  go_enter Tryz.func127, Tryz.ntmps127
  go_wp2_with fail
  generalize (w.alloc (.cells d.arr TDl)) = w1 at *
  have HS0 := Lib.hid HB.out.size
  generalize hBd : w.heap.size = Bd at *
  have HBd := Lib.hid hBd
  clear hBd
  refine HSt.out.mono ?_
  rintro e w2 ⟨rfl, hb⟩
  have HB2 := Lib.hid (HB.out.trans (hb.mono HS0.out))
  have HS2 := Lib.hid (Nat.le_trans HS0.out hb.size)
  have HD2 := Lib.hid (HD.out.below hb)
  have HBk2 := Lib.hid (HBk.out.fr (Fr.of_below' hb (fun _ => False)) (fun _ _ h => h))
  clear hb HSt e0 HD HBk HB
  cases h3 : isB d.O with
  | false =>
    go_wp2_with fail
    go_ret
    exact ⟨by rw [h3]; rfl, by rw [HBd.out]; exact HB2.out⟩
  | true =>
    have e1 : w2.cell? ⟨Bd, 1, none⟩ = some (.slice d.A2 d.I.length d.c2) := HBk2.out.cell 1
    have HSt := Lib.hid (set_ d.A2 d.c2 d.I _ HD2.out.i h2)
    go_wp2_with fail
    refine HSt.out.mono ?_
    rintro e w3 ⟨rfl, hb⟩
    have HB3 := Lib.hid (HB2.out.trans (hb.mono HS2.out))
    have HS3 := Lib.hid (Nat.le_trans HS2.out hb.size)
    have HD3 := Lib.hid (HD2.out.below hb)
    have HBk3 := Lib.hid (HBk2.out.fr (Fr.of_below' hb (fun _ => False)) (fun _ _ h => h))
    clear hb HSt e1 HD2 HBk2 HB2
    cases h4 : isB d.I with
    | false =>
      go_wp2_with fail
      go_ret
      exact ⟨by rw [h3, h4]; rfl, by rw [HBd.out]; exact HB3.out⟩
    | true =>
      have e0 : w3.cell? ⟨Bd, 0, none⟩ = some (.slice d.A1 d.O.length d.c1) := HBk3.out.cell 0
      have HC := Lib.hid (ContainsFunc d.A1 d.c1 183 #[.pointer (some ⟨Bd, 0, none⟩)] (fun x => decide (x ∈ d.I)) d.O w3 (enters_of Tryz.func183 (by kernel_rfl) rfl) HD3.out.o.s (fun W hW x _ => Right1 d Bd x W (HBk3.out.fr hW (fun _ _ h => h)) (HD3.out.keep hW)))
      go_wp2_with fail
      refine HC.out.mono ?_
      rintro e w4 ⟨rfl, hf⟩
      have HB4 := Lib.hid (HB3.out.trans (hf.below HS3.out (fun _ _ h => h)))
      clear hf HC e0
      obtain ⟨q, HQ⟩ : ∃ q, Hid (d.O.any (fun x => decide (x ∈ d.I)) = q) := ⟨_, Lib.hid rfl⟩
      rw [HQ.out]
      go_wp2_with fail
      go_ret
      exact ⟨by rw [h3, h4, HQ.out]; cases q <;> rfl, by rw [HBd.out]; exact HB4.out⟩
end Delta
end Go.Proofs.YtgfjpnpbkkadpaaGreat
