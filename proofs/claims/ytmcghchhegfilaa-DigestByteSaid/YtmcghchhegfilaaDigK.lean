/- What is picked: the program's. -/
import Derived.Test.YtmcghchhegfilaaDigO
import Derived.Test.YtmcghchhegfilaaDel2
namespace Go.Proofs.Ytmcghchhegfilaa
open Go.RowKit
namespace DigW
open KeyP PackP SetP SetW SetF Code_
attribute [local go_sem] Eng.ev Eng.getO_cons Eng.getO_nil
/-- A boxed list of numbers, and a record's box. -/
structure PK (w0 w : World) (Bx Bs : Nat) (y : Sn) (A : Option Addr) (c : Nat) (l : List Int) : Prop where
  x : At w Bx 0 y
  s : w.cell? ⟨Bs, 0, none⟩ = some (.slice A l.length c)
  l : Sl w 1 A l.length c (ints l)
  f : Fr (fun _ => False) w0 w
theorem cell_fr {w w' : World} {b o : Nat} {v : Value} (h : w.cell? ⟨b, o, none⟩ = some v) (hf : Fr (fun _ => False) w w') : w'.cell? ⟨b, o, none⟩ = some v :=
  (World.cell?_of_block (w := w) (a := ⟨b, o, none⟩) (hf.block b (World.block_lt_of_cell? w ⟨b, o, none⟩ h) (fun h => h))).trans h
theorem PK.fr {w0 w w' : World} {Bx Bs : Nat} {y : Sn} {A : Option Addr} {c : Nat} {l : List Int} (h : PK w0 w Bx Bs y A c l) (hf : Fr (fun _ => False) w w') : PK w0 w' Bx Bs y A c l :=
  ⟨h.x.keep hf, cell_fr h.s hf, h.l.fr hf (fun _ _ h => h), h.f.trans hf (fun _ _ h => h) (fun _ _ h => h)⟩
theorem PartR {n : Int} (h : in64 n) (R : Nat) (hR : Dig.part n = R) (w : World) : Calls Try.prog 12 #[.int .i64 n] w fun e w' => e = .returned (.int .i64 (R : Int)) ∧ Below w.heap.size w w' := hR ▸ Part h w
set_option maxRecDepth 100000 in
set_option maxHeartbeats 400000 in
theorem pk1 {ops : Array Oper} (hops : Eng.fnOps Try.f46 1 = ops) (a0 : Act) (Q : Exit → Act → World → Prop) (w0 w : World) (Bx Bs : Nat) (y : Sn) (A : Option Addr) (c : Nat) (l : List Int) (R : Nat) (hy : in64 y.t) (hR : Dig.part y.t = R) (hst : PK w0 w Bx Bs y A c l)
    (hn : a0.tmps.size = 10) (h_1 : a0.tmps.getD 1 undef = .pointer (some ⟨Bs, 0, none⟩)) (h_2 : a0.tmps.getD 2 undef = .pointer (some ⟨Bx, 0, none⟩))
    (hpost : ∀ (x : Nat → Value) (w' : World), x 3 = .bool (!decide ((R : Int) ∈ l)) → PK w0 w' Bx Bs y A c l → Q .normal (Eng.setAll a0 [3, 4, 5, 6, 7, 8, 9] x) w') :
    (Code.region 1 ops true).wp Try.prog Q a0 w := by
  simp only [Eng.fnOps, Eng.regOps, Try.f46, Option.bind_some, Option.getD_some, Nat.reduceEqDiff, ↓reduceIte, Nat.reduceBEq] at hops
  subst hops
  have HSt := Lib.hid (hst.fr (Fr.drew _ _))
  have hSS : w.drew.cell? ⟨Bx, 0, none⟩ = some (.int .i64 y.t) ∧ w.drew.cell? ⟨Bs, 0, none⟩ = some (.slice A l.length c) := ⟨HSt.out.x 0 _ rfl, HSt.out.s⟩
  refine Eng.regionT (.take 0 (.take 1 (.take 2 (.alt 3 (.alt 4 (.take 5 (.take 6 (.done))) (.stop)) (.stop))))) (fun w' => w'.cell? ⟨Bx, 0, none⟩ = some (.int .i64 y.t) ∧ w'.cell? ⟨Bs, 0, none⟩ = some (.slice A l.length c)) (by kernel_rfl) 10 hn (by kernel_rfl) (by kernel_rfl) (by kernel_rfl) (hSS) (fun a b ha hb => ?_)
  subst ha
  have hb1 : b 1 = .pointer (some ⟨Bs, 0, none⟩) := (hb 1).symm.trans h_1
  have hb2 : b 2 = .pointer (some ⟨Bx, 0, none⟩) := (hb 2).symm.trans h_2
  clear hb h_1 h_2
  have HP := Lib.hid hpost; have HN := Lib.hid hn
  clear hpost hn
  refine Eng.TW.take' (v := ?_) rfl rfl (by decide) (by kernel_rfl) (fun w hw => ?_) ?_
  rotate_left
  · (try dsimp only at hw); go_simp; first | done | with_reducible rfl
  refine Eng.TW.take' (v := ?_) rfl rfl (by decide) (by kernel_rfl) (fun w hw => ?_) ?_
  rotate_left
  · (try dsimp only at hw); go_simp; first | done | with_reducible rfl
  refine Eng.TW.take' (v := ?_) rfl rfl (by decide) (by kernel_rfl) (fun w hw => ?_) ?_
  rotate_left
  · (try dsimp only at hw); go_simp; first | done | with_reducible rfl
  refine Eng.TW.call rfl rfl (by decide) (by kernel_rfl) ?_ (PartR hy R hR _) ?_
  · go_simp
  rintro e w2 ⟨rfl, hb⟩
  have HSt2 := Lib.hid (HSt.out.fr (Fr.of_below' hb _))
  have hSS : w2.cell? ⟨Bx, 0, none⟩ = some (.int .i64 y.t) ∧ w2.cell? ⟨Bs, 0, none⟩ = some (.slice A l.length c) := ⟨HSt2.out.x 0 _ rfl, HSt2.out.s⟩
  clear hb
  refine ⟨_, rfl, hSS, ?_⟩
  refine Eng.TW.call rfl rfl (by decide) (by kernel_rfl) ?_ (Contains A c l (R : Int) _ HSt2.out.l) ?_
  · go_simp
  rintro e w_3 ⟨rfl, rfl⟩
  refine ⟨_, rfl, hSS, ?_⟩
  refine Eng.TW.take' (v := ?_) rfl rfl (by decide) (by kernel_rfl) (fun w hw => ?_) ?_
  rotate_left
  · (try dsimp only at hw); go_simp; first | done | with_reducible rfl
  refine Eng.TW.take' (v := ?_) rfl rfl (by decide) (by kernel_rfl) (fun w hw => ?_) ?_
  rotate_left
  · (try dsimp only at hw); go_simp; first | done | with_reducible rfl
  refine Eng.TW.end_ [3, 4, 5, 6, 7, 8, 9] HN.out (by kernel_rfl) (by kernel_rfl) ?_
  exact HP.out _ _ rfl HSt2.out


/-- The function that tells what goes. -/
def out1 (l : List Int) (x : Sn) : Bool := !decide (((Dig.part x.t : Nat) : Int) ∈ l)
theorem keep_pick (l : List Int) (L : List Sn) : Sli.keep (out1 l) L = Dig.pick l L := by unfold Sli.keep Dig.pick out1; congr 1; funext x; rw [Bool.not_not]
set_option maxRecDepth 100000 in
theorem Pick1 (y : Sn) (hy : in64 y.t) (Bs : Nat) (A : Option Addr) (c : Nat) (l : List Int) (w : World) (hs : w.cell? ⟨Bs, 0, none⟩ = some (.slice A l.length c)) (hl : Sl w 1 A l.length c (ints l)) :
    Calls Try.prog 46 #[y.v, .pointer (some ⟨Bs, 0, none⟩)] w fun e w' => e = .returned (.bool (out1 l y)) ∧ Fr (fun _ => False) w w' := by
  have HP : Hid (PK w (w.alloc (.cells y.arr TSn)) w.heap.size Bs y A c l) := by
    have hf := Fr.alloc (fun _ => False) w (.cells y.arr TSn)
    exact ⟨At.box (Bk.new w y.arr TSn), cell_fr hs hf, hl.fr hf (fun _ _ h => h), hf⟩
  obtain ⟨R, hR⟩ : ∃ R, Dig.part y.t = R := ⟨_, rfl⟩
  have HE : Hid (out1 l y = !decide ((R : Int) ∈ l)) := by show _ = _; rw [← hR]; rfl
  have HR := Lib.hid hR
  clear hs hl hR
  go_enter Try.func46, Try.ntmps46
  go_upto_region 1 with (fail)
  refine pk1 (by kernel_rfl) _ _ w _ w.heap.size Bs y A c l R hy HR.out HP.out rfl rfl rfl ?_
  intro x w2 h3 hst
  simp only [Eng.setAll, Act.put, List.setIfInBounds_toArray, List.set_cons_succ, List.set_cons_zero]
  rw [h3]
  have HSt := Lib.hid hst
  clear h3 hst HP
  go_wp2_with fail
  go_ret
  exact ⟨by rw [HE.out]; rfl, HSt.out.f⟩
set_option maxRecDepth 100000 in
set_option maxHeartbeats 1000000 in
theorem Pick (A0 : Option Addr) (c0 : Nat) (l : List Int) (A : Option Addr) (c : Nat) (L : List Sn) (w : World) (hl : Sl w 1 A0 l.length c0 (ints l)) (hS : Ls w A c L) (hlen : L.length ≤ 1000000) :
    Calls Try.prog 20 #[.slice A0 l.length c0, .slice A L.length c] w (LsPost (Dig.pick l (setOf L)) w) := by
  have hf := Fr.alloc (fun _ => False) w (.cells #[.slice A0 l.length c0] 27)
  have HF := Lib.hid hf
  have HB := Lib.hid (Bk.new w #[.slice A0 l.length c0] 27)
  have HSet := Lib.hid (SetF.Set A c L (w.alloc (.cells #[.slice A0 l.length c0] 27)) (hS.keep hf) hlen)
  have HL := Lib.hid (hl.fr hf (fun _ _ h => h))
  have HK := Lib.hid (keep_pick l (setOf L))
  have HOk := Lib.hid (set_ok hS.ok)
  have hz : Hid ((w.alloc (.cells #[.slice A0 l.length c0] 27)).heap.size = w.heap.size + 1) := World.size_alloc _ _
  have HLt : Hid (l ≠ [] → ∀ a, A0 = some a → a.block < w.heap.size + 1) := fun hne a ha => by
    have := hl.lt (by simpa using hne) a ha; omega
  clear hf hl hS
  generalize setOf L = M at *
  go_enter Try.func20, Try.ntmps20
  go_upto_region 1 with (fail)
  generalize (w.alloc (.cells #[.slice A0 l.length c0] 27)) = w1 at *
  go_wp2_with fail
  refine HSet.out.mono ?_
  rintro e w2 ⟨A2, c2, rfl, hls, hown, hb⟩
  have HB2 := Lib.hid (HB.out.fr (Fr.of_below' hb (fun _ => False)) (fun _ _ h => h))
  have HL2 := Lib.hid (HL.out.fr (Fr.of_below' hb (fun _ => False)) (fun _ _ h => h))
  have HD := Lib.hid (Sli.DeleteFunc w1.heap.size (.slice A2 M.length c2) 46 #[.pointer (some ⟨w.heap.size, 0, none⟩)] (out1 l) M w2 (enters_of Try.func46 (by kernel_rfl) rfl) hown
    (fun W hW x hx => Pick1 x (HOk.out x hx).t w.heap.size A0 c0 l W ((HB2.out.fr hW (fun _ _ h => h)).cell 0) (HL2.out.fr hW (fun _ _ h => h)))
    (fun b hb W hW x hx => by
      have hge := (ownsRow_blk hown b hb).1
      rw [hz.out] at hge
      refine Pick1 x (HOk.out x hx).t w.heap.size A0 c0 l W ((HB2.out.fr hW (fun k hk e => by simp at hk; omega)).cell 0) ?_
      by_cases hne : l = []
      · have h0 := HL2.out
        subst hne
        exact ⟨h0.1, h0.2.1, h0.2.2.1, h0.2.2.2.1, fun h => absurd rfl h⟩
      · exact HL2.out.fr hW (fun a ha e => by have := HLt.out hne a ha; omega)))
  have HBel := Lib.hid ((HF.out.below (Nat.le_refl _) (fun _ _ h => h)).trans (hb.mono (by rw [hz.out]; omega)))
  have HOw := Lib.hid hown
  clear hls hown hb HSet HL HB HF
  go_wp2_with fail
  refine HD.out.mono ?_
  rintro e w3 ⟨v', rfl, h1, h2⟩
  have HX : Hid (LsPost (Dig.pick l M) w (.returned v') w3) := by
    rw [HK.out] at h1
    obtain ⟨A3, c3, rfl, h3, -⟩ := Sl.of_own h1
    refine ⟨A3, c3, rfl, ⟨h3, fun x hx => HOk.out x (Dig.pick_mem.1 hx).1⟩, ownsRow_base h1 (by rw [hz.out]; omega), HBel.out.trans (h2.below HBel.out.size (fun k hk e => ?_))⟩
    have := (ownsRow_blk HOw.out k e).1
    rw [hz.out] at this; omega
  clear h1 h2 HD
  go_wp2_with fail
  go_ret
  exact HX.out
end DigW
end Go.Proofs.Ytmcghchhegfilaa
