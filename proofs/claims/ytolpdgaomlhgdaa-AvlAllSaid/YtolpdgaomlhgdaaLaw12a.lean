/- Layer 12's statements: AvlAll: the walk. -/
import Derived.Test.YtolpdgaomlhgdaaLaw12s
import Derived.Test.YtolpdgaomlhgdaaAvlLII
import Derived.Test.YtolpdgaomlhgdaaEngIn
import Derived.RangeFuncLeaves
import Derived.OwnWalkIn
import Derived.Sort.LoopGhostIn
import Derived.Sort.BigQuietIn
namespace Go.Proofs.Ytolpdgaomlhgdaa
open Go.RowKit Go.Shelf
namespace Law12
attribute [local go_sem] Oper.semAt_some Eng.ev Eng.getO_cons Eng.getO_nil

abbrev TA : TypeId := 48
/-- The list in block Bl, the answer in Br, the map in Bm. -/
structure SA (n0 Bl Br Bm : Nat) (A0 : Option Addr) (c0 len : Nat) (q : Bool) (L : List (Int × Int)) (F : List Nat) (w0 w : World) : Prop where
  zs : Zs n0 w0 w [[Bl], [Br], Bm :: F]
  bl : Bk w Bl #[.slice A0 len c0] TA
  br : Bk w Br #[.bool q] 4
  bm : AvlII.MapB w Bm L F
section
variable {n0 Bl Br Bm : Nat} {A0 : Option Addr} {c0 len : Nat} {q : Bool} {L : List (Int × Int)} {F : List Nat} {w0 w w' : World}
theorem SA.fr (h : SA n0 Bl Br Bm A0 c0 len q L F w0 w) (hf : Fr (fun _ => False) w w') : SA n0 Bl Br Bm A0 c0 len q L F w0 w' :=
  ⟨h.zs.fr hf, h.bl.fr hf (fun _ _ h => h), h.br.fr hf (fun _ _ h => h), h.bm.frz hf (fun _ _ h => h)⟩
theorem SA.turn {L' : List (Int × Int)} (h : SA n0 Bl Br Bm A0 c0 len q L F w0 w) (ht : AvlII.Turned Bm F L' w w') : ∃ F', SA n0 Bl Br Bm A0 c0 len q L' F' w0 w' := by
  obtain ⟨F', h1, h2⟩ := ht.tn h.bm.lt.1
  exact ⟨F', h.zs.turn [[Bl], [Br]] [] h2, h.bl.fr h2.fr (h.zs.ap 2 0 rfl rfl (by decide)), h.br.fr h2.fr (h.zs.ap 2 1 rfl rfl (by decide)), h1⟩
end
/-- .. and how many there were in By, the last key in Bz. -/
structure SR (n0 Bl Br Bm By Bz : Nat) (A0 : Option Addr) (c0 len : Nat) (L : List (Int × Int)) (F : List Nat) (y z : Int) (w0 w : World) : Prop where
  zs : Zs n0 w0 w [[Bl], [Br], Bm :: F, [By], [Bz]]
  bl : Bk w Bl #[.slice A0 len c0] TA
  br : Bk w Br #[.bool false] 4
  bm : AvlII.MapB w Bm L F
  bY : Bk w By #[.int .i64 y] 3
  bZ : Bk w Bz #[.int .i64 z] 3
section
variable {n0 Bl Br Bm By Bz : Nat} {A0 : Option Addr} {c0 len : Nat} {L : List (Int × Int)} {F : List Nat} {y z : Int} {w0 w w' : World}
theorem SR.frS {S : Nat → Prop} (h : SR n0 Bl Br Bm By Bz A0 c0 len L F y z w0 w) (hf : Fr S w w') (hn : ∀ k, k < n0 → ¬ S k) (hs : ∀ G ∈ [[Bl], [Br], Bm :: F, [By], [Bz]], ∀ b ∈ G, ¬ S b) : SR n0 Bl Br Bm By Bz A0 c0 len L F y z w0 w' :=
  ⟨h.zs.frS hf hn, h.bl.fr hf (hs _ (by simp)), h.br.fr hf (hs _ (by simp)), h.bm.frz hf (hs _ (by simp)), h.bY.fr hf (hs _ (by simp)), h.bZ.fr hf (hs _ (by simp))⟩
theorem SR.turn (h : SR n0 Bl Br Bm By Bz A0 c0 len L F y z w0 w) (y' z' : Int) :
    SR n0 Bl Br Bm By Bz A0 c0 len L F y' z' w0 ((w.setCell ⟨Bz, 0, none⟩ (.int .i64 z')).setCell ⟨By, 0, none⟩ (.int .i64 y')) := by
  have tz := h.bZ.tn 0 (.int .i64 z')
  have h1 : SR n0 Bl Br Bm By Bz A0 c0 len L F y z' w0 (w.setCell ⟨Bz, 0, none⟩ (.int .i64 z')) :=
    ⟨h.zs.turn [[Bl], [Br], Bm :: F, [By]] [] tz, h.bl.fr tz.fr (h.zs.ap 4 0 rfl rfl (by decide)), h.br.fr tz.fr (h.zs.ap 4 1 rfl rfl (by decide)), h.bm.frz tz.fr (h.zs.ap 4 2 rfl rfl (by decide)), h.bY.fr tz.fr (h.zs.ap 4 3 rfl rfl (by decide)), h.bZ.set 0 _⟩
  have ty := h1.bY.tn 0 (.int .i64 y')
  exact ⟨h1.zs.turn [[Bl], [Br], Bm :: F] [[Bz]] ty, h1.bl.fr ty.fr (h1.zs.ap 3 0 rfl rfl (by decide)), h1.br.fr ty.fr (h1.zs.ap 3 1 rfl rfl (by decide)), h1.bm.frz ty.fr (h1.zs.ap 3 2 rfl rfl (by decide)), h1.bY.set 0 _, h1.bZ.fr ty.fr (h1.zs.ap 3 4 rfl rfl (by decide))⟩
theorem SR.fr2 (w : World) (By Bz : Nat) (u v : Value) : Fr (fun k => k = Bz ∨ k = By) w ((w.setCell ⟨Bz, 0, none⟩ u).setCell ⟨By, 0, none⟩ v) :=
  (Fr.setCell w ⟨Bz, 0, none⟩ u (S := fun k => k = Bz ∨ k = By) (.inl rfl)).trans (Fr.setCell _ ⟨By, 0, none⟩ v (S := fun k => k = Bz ∨ k = By) (.inr rfl)) (fun _ _ h => h) (fun _ _ h => h)
end
/-- What the puts of some acts make. -/
def putL (l : List (Int × Int × Int)) : List (Int × Int) := l.foldl (fun L x => insL x.2.1 x.2.2 L) []
theorem putL_snoc (l : List (Int × Int × Int)) (x : Int × Int × Int) : putL (l ++ [x]) = insL x.2.1 x.2.2 (putL l) := by simp [putL]
theorem putL_len (l : List (Int × Int × Int)) : (putL l).length ≤ l.length := by
  have : ∀ (l : List (Int × Int × Int)) (L : List (Int × Int)), (l.foldl (fun L x => insL x.2.1 x.2.2 L) L).length ≤ L.length + l.length := by
    intro l
    induction l with
    | nil => intro L; simp
    | cons x l ih => intro L; have h1 := ih (insL x.2.1 x.2.2 L); have h2 := insL_len x.2.1 x.2.2 L; simp only [List.foldl_cons, List.length_cons]; omega
  simpa [putL] using this l []
set_option maxRecDepth 100000 in
set_option maxHeartbeats 400000 in
theorem a7 {ops : Array Oper} (hops : Eng.fnOps Try.f6 7 = ops) (a0 : Act) (Q : Exit → Act → World → Prop) (n0 Bl Br Bm b1 o1 c0 len j : Nat) (key val : Int) (L : List (Int × Int)) (F : List Nat) (w0 w : World) (hst : SA n0 Bl Br Bm (some ⟨b1, o1, none⟩) c0 len false L F w0 w) (hlow : b1 < n0) (hj : j < len) (hlen : L.length ≤ 1000) (e1 : w0.cell? ⟨b1, o1 + j * 3 + 1, none⟩ = some (.int .i64 key)) (e2 : w0.cell? ⟨b1, o1 + j * 3 + 1 + 1, none⟩ = some (.int .i64 val))
    (hn : a0.tmps.size = 105) (h_1 : a0.tmps.getD 1 undef = .pointer (some ⟨Bl, 0, none⟩)) (h_3 : a0.tmps.getD 3 undef = .pointer (some ⟨Bm, 0, none⟩)) (h_4 : a0.tmps.getD 4 undef = .int .i64 (j : Int))
    (hpost : ∀ (x : Nat → Value) (w' : World) (F' : List Nat), SA n0 Bl Br Bm (some ⟨b1, o1, none⟩) c0 len false (insL key val L) F' w0 w' → Q .normal (Eng.setAll a0 [25, 26, 27, 28, 29, 30, 31, 32, 33, 34, 35] x) w') :
    (Code.region 7 ops true).wp Try.prog Q a0 w := by
  simp only [Eng.fnOps, Eng.regOps, Try.f6, Option.bind_some, Option.getD_some, Nat.reduceEqDiff, ↓reduceIte, Nat.reduceBEq] at hops
  subst hops
  have q1 : (0 : Int) ≤ (j : Int) := by omega
  have q2 : (j : Int) < (len : Int) := by omega
  have HSt := Lib.hid (hst.fr (Fr.drew _ _))
  have hSS : w.drew.cell? ⟨Bl, 0, none⟩ = some (.slice (some ⟨b1, o1, none⟩) len c0) ∧ w.drew.cell? ⟨b1, o1 + j * 3 + 1, none⟩ = some (.int .i64 key) ∧ w.drew.cell? ⟨b1, o1 + j * 3 + 1 + 1, none⟩ = some (.int .i64 val) :=
    ⟨HSt.out.bl.cell 0, (HSt.out.zs.bel.cell (p := ⟨b1, _, none⟩) hlow).trans e1, (HSt.out.zs.bel.cell (p := ⟨b1, _, none⟩) hlow).trans e2⟩
  clear hst
  refine Eng.regionN [(0, true), (1, true), (2, true), (3, true), (4, true), (5, true), (6, true), (7, true), (8, true), (9, true), (10, false)] (fun w' => w'.cell? ⟨Bl, 0, none⟩ = some (.slice (some ⟨b1, o1, none⟩) len c0) ∧ w'.cell? ⟨b1, o1 + j * 3 + 1, none⟩ = some (.int .i64 key) ∧ w'.cell? ⟨b1, o1 + j * 3 + 1 + 1, none⟩ = some (.int .i64 val)) (by kernel_rfl) 105 hn (by kernel_rfl) rfl (by kernel_rfl) (hSS) (fun a b ha hb => ?_)
  subst ha
  have hb1 : b 1 = .pointer (some ⟨Bl, 0, none⟩) := (hb 1).symm.trans h_1
  have hb3 : b 3 = .pointer (some ⟨Bm, 0, none⟩) := (hb 3).symm.trans h_3
  have hb4 : b 4 = .int .i64 (j : Int) := (hb 4).symm.trans h_4
  clear hb h_1 h_3 h_4
  have HP := Lib.hid hpost; have HN := Lib.hid hn
  clear hpost hn
  refine Eng.Sch.take (v := ?_) rfl rfl (by decide) (by kernel_rfl) (fun w hw => ?_) ?_
  rotate_left
  · (try dsimp only at hw); go_simp; first | done | with_reducible rfl
  refine Eng.Sch.take (v := ?_) rfl rfl (by decide) (by kernel_rfl) (fun w hw => ?_) ?_
  rotate_left
  · (try dsimp only at hw); go_simp; first | done | with_reducible rfl
  refine Eng.Sch.take (v := ?_) rfl rfl (by decide) (by kernel_rfl) (fun w hw => ?_) ?_
  rotate_left
  · (try dsimp only at hw); go_simp; first | done | with_reducible rfl
  refine Eng.Sch.take (v := ?_) rfl rfl (by decide) (by kernel_rfl) (fun w hw => ?_) ?_
  rotate_left
  · (try dsimp only at hw); go_simp; first | done | with_reducible rfl
  refine Eng.Sch.take (v := ?_) rfl rfl (by decide) (by kernel_rfl) (fun w hw => ?_) ?_
  rotate_left
  · (try dsimp only at hw); go_simp; first | done | with_reducible rfl
  refine Eng.Sch.take (v := ?_) rfl rfl (by decide) (by kernel_rfl) (fun w hw => ?_) ?_
  rotate_left
  · (try dsimp only at hw); go_simp; first | done | with_reducible rfl
  refine Eng.Sch.take (v := ?_) rfl rfl (by decide) (by kernel_rfl) (fun w hw => ?_) ?_
  rotate_left
  · (try dsimp only at hw); go_simp; first | done | with_reducible rfl
  refine Eng.Sch.take (v := ?_) rfl rfl (by decide) (by kernel_rfl) (fun w hw => ?_) ?_
  rotate_left
  · (try dsimp only at hw); go_simp; first | done | with_reducible rfl
  refine Eng.Sch.take (v := ?_) rfl rfl (by decide) (by kernel_rfl) (fun w hw => ?_) ?_
  rotate_left
  · (try dsimp only at hw); go_simp; first | done | with_reducible rfl
  refine Eng.Sch.take (v := ?_) rfl rfl (by decide) (by kernel_rfl) (fun w hw => ?_) ?_
  rotate_left
  · (try dsimp only at hw); go_simp; first | done | with_reducible rfl
  refine Eng.Sch.call rfl rfl (by decide) (by kernel_rfl) ?_ (AvlII.PutB Bm key val L F _ HSt.out.bm (by omega)) ?_
  · go_simp
  rintro e w2 ⟨rfl, hT⟩
  obtain ⟨F2, hst2⟩ := HSt.out.turn hT
  have HSt2 := Lib.hid hst2
  have hSS : w2.cell? ⟨Bl, 0, none⟩ = some (.slice (some ⟨b1, o1, none⟩) len c0) ∧ w2.cell? ⟨b1, o1 + j * 3 + 1, none⟩ = some (.int .i64 key) ∧ w2.cell? ⟨b1, o1 + j * 3 + 1 + 1, none⟩ = some (.int .i64 val) :=
    ⟨hst2.bl.cell 0, (hst2.zs.bel.cell (p := ⟨b1, _, none⟩) hlow).trans e1, (hst2.zs.bel.cell (p := ⟨b1, _, none⟩) hlow).trans e2⟩
  clear hT hst2
  refine ⟨_, rfl, hSS, ?_⟩
  refine Eng.Sch.end_ [25, 26, 27, 28, 29, 30, 31, 32, 33, 34, 35] HN.out (by kernel_rfl) (by kernel_rfl) ?_
  exact HP.out _ _ _ HSt2.out

set_option maxRecDepth 100000 in
set_option maxHeartbeats 400000 in
theorem a34 {ops : Array Oper} (hops : Eng.fnOps Try.f6 34 = ops) (a0 : Act) (Q : Exit → Act → World → Prop) (n0 Bl Br Bm By Bz c0 len D : Nat) (A0 : Option Addr) (L : List (Int × Int)) (F : List Nat) (z : Int) (X : Obj) (w0 w : World) (hst : SR n0 Bl Br Bm By Bz A0 c0 len L F (L.length : Int) z w0 w) (hD : w.heap[D]? = some X) (hne : D ≠ Br)
    (hn : a0.tmps.size = 105) (h_2 : a0.tmps.getD 2 undef = .pointer (some ⟨Br, 0, none⟩)) (h_3 : a0.tmps.getD 3 undef = .pointer (some ⟨Bm, 0, none⟩)) (h_6 : a0.tmps.getD 6 undef = .pointer (some ⟨By, 0, none⟩))
    (hpost : ∀ (x : Nat → Value) (w' : World), w'.cell? ⟨Br, 0, none⟩ = some (.bool true) → Below n0 w0 w' → w'.heap[D]? = some X → Q .normal (Eng.setAll a0 [99, 100, 101, 102, 103, 104] x) w') :
    (Code.region 34 ops true).wp Try.prog Q a0 w := by
  simp only [Eng.fnOps, Eng.regOps, Try.f6, Option.bind_some, Option.getD_some, Nat.reduceEqDiff, ↓reduceIte, Nat.reduceBEq] at hops
  subst hops
  have HSt := Lib.hid (hst.frS (Fr.drew (fun _ => False) _) (fun _ _ h => h) (fun _ _ _ _ h => h))
  have hSS : w.drew.cell? ⟨By, 0, none⟩ = some (.int .i64 (L.length : Int)) := HSt.out.bY.cell 0
  have HDD := Lib.hid (show w.drew.heap[D]? = some X from hD)
  have q1 : ((L.length : Int) == (L.length : Int)) = true := by simp
  clear hst hD
  refine Eng.regionN [(0, true), (1, false), (2, true), (3, true), (4, false), (5, true), (6, false)] (fun w' => w'.cell? ⟨By, 0, none⟩ = some (.int .i64 (L.length : Int))) (by kernel_rfl) 105 hn (by kernel_rfl) rfl (by kernel_rfl) (hSS) (fun a b ha hb => ?_)
  subst ha
  have hb2 : b 2 = .pointer (some ⟨Br, 0, none⟩) := (hb 2).symm.trans h_2
  have hb3 : b 3 = .pointer (some ⟨Bm, 0, none⟩) := (hb 3).symm.trans h_3
  have hb6 : b 6 = .pointer (some ⟨By, 0, none⟩) := (hb 6).symm.trans h_6
  clear hb h_2 h_3 h_6
  have HP := Lib.hid hpost; have HN := Lib.hid hn
  clear hpost hn
  refine Eng.Sch.take (v := ?_) rfl rfl (by decide) (by kernel_rfl) (fun w hw => ?_) ?_
  rotate_left
  · (try dsimp only at hw); go_simp; first | done | with_reducible rfl
  refine Eng.Sch.call rfl rfl (by decide) (by kernel_rfl) ?_ (AvlII.LenB Bm L F _ HSt.out.bm) ?_
  · go_simp
  rintro e w2 ⟨rfl, rfl⟩
  refine ⟨_, rfl, hSS, ?_⟩
  refine Eng.Sch.take (v := ?_) rfl rfl (by decide) (by kernel_rfl) (fun w hw => ?_) ?_
  rotate_left
  · (try dsimp only at hw); go_simp; first | done | with_reducible rfl
  refine Eng.Sch.take (v := ?_) rfl rfl (by decide) (by kernel_rfl) (fun w hw => ?_) ?_
  rotate_left
  · (try dsimp only at hw); go_simp; first | done | with_reducible rfl
  refine Eng.Sch.call rfl rfl (by decide) (by kernel_rfl) ?_ (awake _) ?_
  · go_simp
  rintro e w2 ⟨rfl, hb⟩
  have HSt2 := Lib.hid (HSt.out.frS (Fr.of_below' hb (fun _ => False)) (fun _ _ h => h) (fun _ _ _ _ h => h))
  have hSS : w2.cell? ⟨By, 0, none⟩ = some (.int .i64 (L.length : Int)) := HSt2.out.bY.cell 0
  have cR : w2.cell? ⟨Br, 0, none⟩ = some (.bool false) := HSt2.out.br.cell 0
  have fR := HSt2.out.br.free 0
  have HD2 := Lib.hid ((hb.block D (lt_of_heap HDD.out)).trans HDD.out)
  clear hb
  refine ⟨_, rfl, hSS, ?_⟩
  refine Eng.Sch.take (v := ?_) rfl rfl (by decide) (by kernel_rfl) (fun w hw => ?_) ?_
  rotate_left
  · (try dsimp only at hw); go_simp; first | done | with_reducible rfl
  refine Eng.Sch.step0 rfl rfl (by kernel_rfl) (by go_simp; first | done | with_reducible rfl) (((HSt2.out.bY.fr (HSt2.out.br.tn 0 (.bool true)).fr (HSt2.out.zs.ap 1 3 rfl rfl (by decide))).cell 0)) ?_
  refine Eng.Sch.end_ [99, 100, 101, 102, 103, 104] HN.out (by kernel_rfl) (by kernel_rfl) ?_
  exact HP.out _ _ ((HSt2.out.br.set 0 (.bool true)).cell 0) (HSt2.out.zs.turn [[Bl]] [Bm :: F, [By], [Bz]] (HSt2.out.br.tn 0 (.bool true))).bel (((HSt2.out.br.tn 0 (.bool true)).fr.block D (lt_of_heap HD2.out) (by simpa using hne)).trans HD2.out)


end Law12
end Go.Proofs.Ytolpdgaomlhgdaa
