/- Layer 12's statements: AvlFrom: the statements that draw their order. -/
import Derived.Test.YtolpdgaomlhgdaaLaw12s
import Derived.Test.YtolpdgaomlhgdaaAvlLII
import Derived.Test.YtolpdgaomlhgdaaRef12z
import Derived.Test.YtolpdgaomlhgdaaAssoc
import Derived.Test.YtolpdgaomlhgdaaEngIn
import Derived.RangeFuncLeaves
import Derived.OwnWalkIn
import Derived.Sort.LoopGhostIn
import Derived.Sort.BigQuietIn
import Derived.Sort.QuietIn
import Derived.Sort.CutIn
namespace Go.Proofs.Ytolpdgaomlhgdaa
open Go.RowKit Go.Shelf
namespace Law12
open Ref12
attribute [local go_sem] Oper.semAt_some Eng.ev Eng.getO_cons Eng.getO_nil

/-- How many are wanted in Bw, the answer in Br, the map in Bm, the document's in Bx, behind the pointer in Bp. -/
structure SF (n0 Bw Br Bm Bp Bx : Nat) (want : Int) (q : Bool) (L Lx : List (Int × Int)) (F FX : List Nat) (X : List (List Nat)) (w0 w : World) : Prop where
  zs : Zs n0 w0 w ([Bw] :: [Br] :: (Bm :: F) :: [Bp] :: FX :: X)
  bw : Bk w Bw #[.int .u8 want] 5
  br : Bk w Br #[.bool q] 4
  bm : AvlII.MapB w Bm L F
  bp : Bk w Bp #[.pointer (some ⟨Bx, 0, none⟩)] 53
  bx : RM w Bx Lx FX
section
variable {n0 Bw Br Bm Bp Bx : Nat} {want : Int} {q : Bool} {L Lx : List (Int × Int)} {F FX : List Nat} {X : List (List Nat)} {w0 w w' : World}
theorem SF.frS {S : Nat → Prop} (h : SF n0 Bw Br Bm Bp Bx want q L Lx F FX X w0 w) (hf : Fr S w w') (hn : ∀ k, k < n0 → ¬ S k) (hs : ∀ G ∈ [[Bw], [Br], Bm :: F, [Bp], FX], ∀ b ∈ G, ¬ S b) : SF n0 Bw Br Bm Bp Bx want q L Lx F FX X w0 w' :=
  ⟨h.zs.frS hf hn, h.bw.fr hf (hs _ (by simp)), h.br.fr hf (hs _ (by simp)), h.bm.frz hf (hs _ (by simp)), h.bp.fr hf (hs _ (by simp)), h.bx.fr hf (hs _ (by simp))⟩
theorem SF.fr (h : SF n0 Bw Br Bm Bp Bx want q L Lx F FX X w0 w) (hf : Fr (fun _ => False) w w') : SF n0 Bw Br Bm Bp Bx want q L Lx F FX X w0 w' := h.frS hf (fun _ _ h => h) (fun _ _ _ _ h => h)
theorem SF.turnM {L' : List (Int × Int)} (h : SF n0 Bw Br Bm Bp Bx want q L Lx F FX X w0 w) (ht : AvlII.Turned Bm F L' w w') : ∃ F', SF n0 Bw Br Bm Bp Bx want q L' Lx F' FX X w0 w' := by
  obtain ⟨F', h1, h2⟩ := ht.tn h.bm.lt.1
  exact ⟨F', h.zs.turn [[Bw], [Br]] ([Bp] :: FX :: X) h2, h.bw.fr h2.fr (h.zs.ap 2 0 rfl rfl (by decide)), h.br.fr h2.fr (h.zs.ap 2 1 rfl rfl (by decide)), h1, h.bp.fr h2.fr (h.zs.ap 2 3 rfl rfl (by decide)), h.bx.fr h2.fr (h.zs.ap 2 4 rfl rfl (by decide))⟩
theorem SF.turnX {L' : List (Int × Int)} (h : SF n0 Bw Br Bm Bp Bx want q L Lx F FX X w0 w) (ht : ∃ F', RM w' Bx L' F' ∧ Tn FX F' w w') : ∃ FX', SF n0 Bw Br Bm Bp Bx want q L L' F FX' X w0 w' := by
  obtain ⟨F', h1, h2⟩ := ht
  exact ⟨F', h.zs.turn [[Bw], [Br], Bm :: F, [Bp]] X h2, h.bw.fr h2.fr (h.zs.ap 4 0 rfl rfl (by decide)), h.br.fr h2.fr (h.zs.ap 4 1 rfl rfl (by decide)), h.bm.frz h2.fr (h.zs.ap 4 2 rfl rfl (by decide)), h.bp.fr h2.fr (h.zs.ap 4 3 rfl rfl (by decide)), h1⟩
theorem SF.turnE {Ba : Nat} (h : SF n0 Bw Br Bm Bp Bx want q L Lx F FX ([Ba] :: X) w0 w) (ht : Tn [Ba] [Ba] w w') : SF n0 Bw Br Bm Bp Bx want q L Lx F FX ([Ba] :: X) w0 w' :=
  ⟨h.zs.turn [[Bw], [Br], Bm :: F, [Bp], FX] X ht, h.bw.fr ht.fr (h.zs.ap 5 0 rfl rfl (by decide)), h.br.fr ht.fr (h.zs.ap 5 1 rfl rfl (by decide)), h.bm.frz ht.fr (h.zs.ap 5 2 rfl rfl (by decide)), h.bp.fr ht.fr (h.zs.ap 5 3 rfl rfl (by decide)), h.bx.fr ht.fr (h.zs.ap 5 4 rfl rfl (by decide))⟩
theorem SF.turnE4 {Ba B0 Bf Bn : Nat} (h : SF n0 Bw Br Bm Bp Bx want q L Lx F FX ([Ba] :: [B0] :: [Bf] :: [Bn] :: X) w0 w) (ht : Tn [Bn] [Bn] w w') : SF n0 Bw Br Bm Bp Bx want q L Lx F FX ([Ba] :: [B0] :: [Bf] :: [Bn] :: X) w0 w' :=
  ⟨h.zs.turn [[Bw], [Br], Bm :: F, [Bp], FX, [Ba], [B0], [Bf]] X ht, h.bw.fr ht.fr (h.zs.ap 8 0 rfl rfl (by decide)), h.br.fr ht.fr (h.zs.ap 8 1 rfl rfl (by decide)), h.bm.frz ht.fr (h.zs.ap 8 2 rfl rfl (by decide)), h.bp.fr ht.fr (h.zs.ap 8 3 rfl rfl (by decide)), h.bx.fr ht.fr (h.zs.ap 8 4 rfl rfl (by decide))⟩
/-- .. and where the list stands in Ba, how many there were in Bn. -/
structure SG (n0 Bw Br Bm Bp Bx Ba B0 Bf Bn : Nat) (want : Int) (q : Bool) (L : List (Int × Int)) (F FX : List Nat) (a n : Int) (w0 w : World) : Prop where
  sf : SF n0 Bw Br Bm Bp Bx want q L L F FX [[Ba], [B0], [Bf], [Bn]] w0 w
  ba : Bk w Ba #[.int .i64 a] 3
  bn : Bk w Bn #[.int .i64 n] 3
theorem SG.frS {Ba B0 Bf Bn : Nat} {a n : Int} {S : Nat → Prop} (h : SG n0 Bw Br Bm Bp Bx Ba B0 Bf Bn want q L F FX a n w0 w) (hf : Fr S w w') (hn : ∀ k, k < n0 → ¬ S k) (hs : ∀ G ∈ [[Bw], [Br], Bm :: F, [Bp], FX, [Ba], [Bn]], ∀ b ∈ G, ¬ S b) : SG n0 Bw Br Bm Bp Bx Ba B0 Bf Bn want q L F FX a n w0 w' :=
  ⟨h.sf.frS hf hn (fun G hG => hs G (by simp at hG ⊢; rcases hG with h | h | h | h | h <;> simp [h])), h.ba.fr hf (hs _ (by simp)), h.bn.fr hf (hs _ (by simp))⟩
theorem SG.turn {Ba B0 Bf Bn : Nat} {a n : Int} (h : SG n0 Bw Br Bm Bp Bx Ba B0 Bf Bn want q L F FX a n w0 w) (a' n' : Int) :
    SG n0 Bw Br Bm Bp Bx Ba B0 Bf Bn want q L F FX a' n' w0 ((w.setCell ⟨Ba, 0, none⟩ (.int .i64 a')).setCell ⟨Bn, 0, none⟩ (.int .i64 n')) ∧ Fr (fun k => k = Ba ∨ k = Bn) w ((w.setCell ⟨Ba, 0, none⟩ (.int .i64 a')).setCell ⟨Bn, 0, none⟩ (.int .i64 n')) := by
  have ta := h.ba.tn 0 (.int .i64 a')
  have h1 := h.sf.turnE ta
  have hb1 := h.bn.fr ta.fr (h.sf.zs.ap 5 8 rfl rfl (by decide))
  have tn := hb1.tn 0 (.int .i64 n')
  exact ⟨⟨h1.turnE4 tn, (h.ba.set 0 (.int .i64 a')).fr tn.fr (h1.zs.ap 8 5 rfl rfl (by decide)), hb1.set 0 _⟩,
    (Fr.setCell w ⟨Ba, 0, none⟩ _ (S := fun k => k = Ba ∨ k = Bn) (.inl rfl)).trans (Fr.setCell _ ⟨Bn, 0, none⟩ _ (S := fun k => k = Ba ∨ k = Bn) (.inr rfl)) (fun _ _ h => h) (fun _ _ h => h)⟩
theorem SG.setR {Ba B0 Bf Bn : Nat} {a n : Int} (h : SG n0 Bw Br Bm Bp Bx Ba B0 Bf Bn want q L F FX a n w0 w) (q' : Bool) : SG n0 Bw Br Bm Bp Bx Ba B0 Bf Bn want q' L F FX a n w0 (w.setCell ⟨Br, 0, none⟩ (.bool q')) := by
  have tr := h.sf.br.tn 0 (.bool q')
  exact ⟨⟨h.sf.zs.turn [[Bw]] ((Bm :: F) :: [Bp] :: FX :: [[Ba], [B0], [Bf], [Bn]]) tr, h.sf.bw.fr tr.fr (h.sf.zs.ap 1 0 rfl rfl (by decide)), h.sf.br.set 0 _, h.sf.bm.frz tr.fr (h.sf.zs.ap 1 2 rfl rfl (by decide)), h.sf.bp.fr tr.fr (h.sf.zs.ap 1 3 rfl rfl (by decide)), h.sf.bx.fr tr.fr (h.sf.zs.ap 1 4 rfl rfl (by decide))⟩,
    h.ba.fr tr.fr (h.sf.zs.ap 1 5 rfl rfl (by decide)), h.bn.fr tr.fr (h.sf.zs.ap 1 8 rfl rfl (by decide))⟩
/-- The document's list, its header known. -/
structure SH (n0 Bw Br Bm Bp Bx Ba B0 Bf Bn : Nat) (want : Int) (q : Bool) (L : List (Int × Int)) (F FX : List Nat) (a n : Int) (AX : Option Addr) (cX : Nat) (w0 w : World) : Prop where
  sg : SG n0 Bw Br Bm Bp Bx Ba B0 Bf Bn want q L F FX a n w0 w
  hd : Bk w Bx #[.slice AX L.length cX] TMap
  mem : Bx ∈ FX
theorem SH.frS {Ba B0 Bf Bn cX : Nat} {a n : Int} {AX : Option Addr} {S : Nat → Prop} (h : SH n0 Bw Br Bm Bp Bx Ba B0 Bf Bn want q L F FX a n AX cX w0 w) (hf : Fr S w w') (hn : ∀ k, k < n0 → ¬ S k) (hs : ∀ G ∈ [[Bw], [Br], Bm :: F, [Bp], FX, [Ba], [Bn]], ∀ b ∈ G, ¬ S b) : SH n0 Bw Br Bm Bp Bx Ba B0 Bf Bn want q L F FX a n AX cX w0 w' :=
  ⟨h.sg.frS hf hn hs, h.hd.fr hf (fun b hb => by simp at hb; subst hb; exact hs FX (by simp) _ h.mem), h.mem⟩
theorem SH.setR {Ba B0 Bf Bn cX : Nat} {a n : Int} {AX : Option Addr} (h : SH n0 Bw Br Bm Bp Bx Ba B0 Bf Bn want q L F FX a n AX cX w0 w) (q' : Bool) : SH n0 Bw Br Bm Bp Bx Ba B0 Bf Bn want q' L F FX a n AX cX w0 (w.setCell ⟨Br, 0, none⟩ (.bool q')) :=
  ⟨h.sg.setR q', h.hd.fr (h.sg.sf.br.tn 0 (.bool q')).fr (fun b hb => by simp at hb; subst hb; exact h.sg.sf.zs.ap 1 4 rfl rfl (by decide) _ h.mem), h.mem⟩
theorem SF.alloc (h : SF n0 Bw Br Bm Bp Bx want q L Lx F FX X w0 w) (o : Obj) : SF n0 Bw Br Bm Bp Bx want q L Lx F FX (X ++ [[w.heap.size]]) w0 (w.alloc o) :=
  have h' := h.fr (Fr.alloc _ w o)
  ⟨h.zs.alloc o, h'.bw, h'.br, h'.bm, h'.bp, h'.bx⟩
end
set_option maxRecDepth 100000 in
set_option maxHeartbeats 400000 in
theorem f10 {ops : Array Oper} (hops : Eng.fnOps Try.f7 10 = ops) (a0 : Act) (Q : Exit → Act → World → Prop) (n0 Bw Br Bm Bp Bx b1 o1 c0 len j : Nat) (want key val : Int) (L Lx : List (Int × Int)) (F FX : List Nat) (w0 w : World) (hst : SF n0 Bw Br Bm Bp Bx want false L Lx F FX [] w0 w) (hlow : b1 < n0) (hj : j < len) (hlen : L.length ≤ 1000) (hlenx : Lx.length ≤ 1000) (hs : Srt Lx) (e1 : w0.cell? ⟨b1, o1 + j * 3 + 1, none⟩ = some (.int .i64 key))
    (hn : a0.tmps.size = 142) (h_0 : a0.tmps.getD 0 undef = .slice (some ⟨b1, o1, none⟩) len c0) (h_8 : a0.tmps.getD 8 undef = .pointer (some ⟨Bp, 0, none⟩)) (h_9 : a0.tmps.getD 9 undef = .int .i64 (j : Int))
    (hpost : ∀ (x : Nat → Value) (w' : World) (FX' : List Nat), SF n0 Bw Br Bm Bp Bx want false L (delL key Lx) F FX' [] w0 w' → Q .normal (Eng.setAll a0 [39, 40, 41, 42, 43, 44, 45] x) w') :
    (Code.region 10 ops true).wp Try.prog Q a0 w := by
  simp only [Eng.fnOps, Eng.regOps, Try.f7, Option.bind_some, Option.getD_some, Nat.reduceEqDiff, ↓reduceIte, Nat.reduceBEq] at hops
  subst hops
  have q1 : (0 : Int) ≤ (j : Int) := by omega
  have q2 : (j : Int) < (len : Int) := by omega
  have HSt := Lib.hid (hst.fr (Fr.drew _ _))
  have hSS : w.drew.cell? ⟨b1, o1 + j * 3 + 1, none⟩ = some (.int .i64 key) ∧ w.drew.cell? ⟨Bp, 0, none⟩ = some (.pointer (some ⟨Bx, 0, none⟩)) := ⟨(HSt.out.zs.bel.cell (p := ⟨b1, _, none⟩) hlow).trans e1, HSt.out.bp.cell 0⟩
  refine Eng.regionN [(0, true), (1, true), (2, true), (3, true), (4, true), (5, true), (6, false)] (fun w' => w'.cell? ⟨b1, o1 + j * 3 + 1, none⟩ = some (.int .i64 key) ∧ w'.cell? ⟨Bp, 0, none⟩ = some (.pointer (some ⟨Bx, 0, none⟩))) (by kernel_rfl) 142 hn (by kernel_rfl) rfl (by kernel_rfl) (hSS) (fun a b ha hb => ?_)
  subst ha
  have hb0 : b 0 = .slice (some ⟨b1, o1, none⟩) len c0 := (hb 0).symm.trans h_0
  have hb8 : b 8 = .pointer (some ⟨Bp, 0, none⟩) := (hb 8).symm.trans h_8
  have hb9 : b 9 = .int .i64 (j : Int) := (hb 9).symm.trans h_9
  clear hb h_0 h_8 h_9
  have HP := Lib.hid hpost; have HN := Lib.hid hn
  clear hpost hn
  refine Eng.Sch.take (v := ?_) rfl rfl (by decide) (by kernel_rfl) (fun w hw => ?_) ?_
  rotate_left
  · (try dsimp only at hw); go_simp; first | done | with_reducible rfl
  refine Eng.Sch.take (v := ?_) rfl rfl (by decide) (by kernel_rfl) (fun w hw => ?_) ?_
  rotate_left
  · (try dsimp only at hw); go_simp; first | done | with_reducible rfl
  refine Eng.Sch.take (v := ?_) rfl rfl (by decide) (by kernel_rfl) (fun w hw => ?_) ?_
  rotate_left
  · (try dsimp only at hw); go_simp; first | done | with_reducible rfl
  refine Eng.Sch.take (v := ?_) rfl rfl (by decide) (by kernel_rfl) (fun w hw => ?_) ?_
  rotate_left
  · (try dsimp only at hw); go_simp; first | done | with_reducible rfl
  refine Eng.Sch.take (v := ?_) rfl rfl (by decide) (by kernel_rfl) (fun w hw => ?_) ?_
  rotate_left
  · (try dsimp only at hw); go_simp; first | done | with_reducible rfl
  refine Eng.Sch.take (v := ?_) rfl rfl (by decide) (by kernel_rfl) (fun w hw => ?_) ?_
  rotate_left
  · (try dsimp only at hw); go_simp; first | done | with_reducible rfl
  refine Eng.Sch.call rfl rfl (by decide) (by kernel_rfl) ?_ (DropZ Bx key Lx FX _ HSt.out.bx (by omega)) ?_
  · go_simp
  rintro e w2 ⟨rfl, hT⟩
  obtain ⟨F2, hst2⟩ := HSt.out.turnX hT
  have HSt1 := Lib.hid (hst2)
  have hSS : w2.cell? ⟨b1, o1 + j * 3 + 1, none⟩ = some (.int .i64 key) ∧ w2.cell? ⟨Bp, 0, none⟩ = some (.pointer (some ⟨Bx, 0, none⟩)) := ⟨(HSt1.out.zs.bel.cell (p := ⟨b1, _, none⟩) hlow).trans e1, HSt1.out.bp.cell 0⟩
  refine ⟨_, rfl, hSS, ?_⟩
  refine Eng.Sch.end_ [39, 40, 41, 42, 43, 44, 45] HN.out (by kernel_rfl) (by kernel_rfl) ?_
  exact HP.out _ _ _ HSt1.out

set_option maxRecDepth 100000 in
set_option maxHeartbeats 400000 in
theorem f11 {ops : Array Oper} (hops : Eng.fnOps Try.f7 11 = ops) (a0 : Act) (Q : Exit → Act → World → Prop) (n0 Bw Br Bm Bp Bx b1 o1 c0 len j : Nat) (want key val : Int) (L Lx : List (Int × Int)) (F FX : List Nat) (w0 w : World) (hst : SF n0 Bw Br Bm Bp Bx want false L Lx F FX [] w0 w) (hlow : b1 < n0) (hj : j < len) (hlen : L.length ≤ 1000) (hlenx : Lx.length ≤ 1000) (hs : Srt Lx) (e1 : w0.cell? ⟨b1, o1 + j * 3 + 1, none⟩ = some (.int .i64 key)) (e2 : w0.cell? ⟨b1, o1 + j * 3 + 1 + 1, none⟩ = some (.int .i64 val))
    (hn : a0.tmps.size = 142) (h_0 : a0.tmps.getD 0 undef = .slice (some ⟨b1, o1, none⟩) len c0) (h_7 : a0.tmps.getD 7 undef = .pointer (some ⟨Bm, 0, none⟩)) (h_9 : a0.tmps.getD 9 undef = .int .i64 (j : Int))
    (hpost : ∀ (x : Nat → Value) (w' : World) (F' : List Nat), SF n0 Bw Br Bm Bp Bx want false (insL key val L) Lx F' FX [] w0 w' → Q .normal (Eng.setAll a0 [46, 47, 48, 49, 50, 51, 52, 53, 54, 55, 56] x) w') :
    (Code.region 11 ops true).wp Try.prog Q a0 w := by
  simp only [Eng.fnOps, Eng.regOps, Try.f7, Option.bind_some, Option.getD_some, Nat.reduceEqDiff, ↓reduceIte, Nat.reduceBEq] at hops
  subst hops
  have q1 : (0 : Int) ≤ (j : Int) := by omega
  have q2 : (j : Int) < (len : Int) := by omega
  have HSt := Lib.hid (hst.fr (Fr.drew _ _))
  have hSS : w.drew.cell? ⟨b1, o1 + j * 3 + 1, none⟩ = some (.int .i64 key) ∧ w.drew.cell? ⟨b1, o1 + j * 3 + 1 + 1, none⟩ = some (.int .i64 val) := ⟨(HSt.out.zs.bel.cell (p := ⟨b1, _, none⟩) hlow).trans e1, (HSt.out.zs.bel.cell (p := ⟨b1, _, none⟩) hlow).trans e2⟩
  refine Eng.regionN [(0, true), (1, true), (2, true), (3, true), (4, true), (5, true), (6, true), (7, true), (8, true), (9, true), (10, false)] (fun w' => w'.cell? ⟨b1, o1 + j * 3 + 1, none⟩ = some (.int .i64 key) ∧ w'.cell? ⟨b1, o1 + j * 3 + 1 + 1, none⟩ = some (.int .i64 val)) (by kernel_rfl) 142 hn (by kernel_rfl) rfl (by kernel_rfl) (hSS) (fun a b ha hb => ?_)
  subst ha
  have hb0 : b 0 = .slice (some ⟨b1, o1, none⟩) len c0 := (hb 0).symm.trans h_0
  have hb7 : b 7 = .pointer (some ⟨Bm, 0, none⟩) := (hb 7).symm.trans h_7
  have hb9 : b 9 = .int .i64 (j : Int) := (hb 9).symm.trans h_9
  clear hb h_0 h_7 h_9
  have HP := Lib.hid hpost; have HN := Lib.hid hn
  clear hpost hn
  refine Eng.Sch.take (v := ?_) rfl rfl (by decide) (by kernel_rfl) (fun w hw => ?_) ?_
  rotate_left
  · (try dsimp only at hw); go_simp; first | done | with_reducible rfl
  refine Eng.Sch.take (v := ?_) rfl rfl (by decide) (by kernel_rfl) (fun w hw => ?_) ?_
  rotate_left
  · (try dsimp only at hw); go_simp; first | done | with_reducible rfl
  refine Eng.Sch.take (v := ?_) rfl rfl (by decide) (by kernel_rfl) (fun w hw => ?_) ?_
  rotate_left
  · (try dsimp only at hw); go_simp; first | done | with_reducible rfl
  refine Eng.Sch.take (v := ?_) rfl rfl (by decide) (by kernel_rfl) (fun w hw => ?_) ?_
  rotate_left
  · (try dsimp only at hw); go_simp; first | done | with_reducible rfl
  refine Eng.Sch.take (v := ?_) rfl rfl (by decide) (by kernel_rfl) (fun w hw => ?_) ?_
  rotate_left
  · (try dsimp only at hw); go_simp; first | done | with_reducible rfl
  refine Eng.Sch.take (v := ?_) rfl rfl (by decide) (by kernel_rfl) (fun w hw => ?_) ?_
  rotate_left
  · (try dsimp only at hw); go_simp; first | done | with_reducible rfl
  refine Eng.Sch.take (v := ?_) rfl rfl (by decide) (by kernel_rfl) (fun w hw => ?_) ?_
  rotate_left
  · (try dsimp only at hw); go_simp; first | done | with_reducible rfl
  refine Eng.Sch.take (v := ?_) rfl rfl (by decide) (by kernel_rfl) (fun w hw => ?_) ?_
  rotate_left
  · (try dsimp only at hw); go_simp; first | done | with_reducible rfl
  refine Eng.Sch.take (v := ?_) rfl rfl (by decide) (by kernel_rfl) (fun w hw => ?_) ?_
  rotate_left
  · (try dsimp only at hw); go_simp; first | done | with_reducible rfl
  refine Eng.Sch.take (v := ?_) rfl rfl (by decide) (by kernel_rfl) (fun w hw => ?_) ?_
  rotate_left
  · (try dsimp only at hw); go_simp; first | done | with_reducible rfl
  refine Eng.Sch.call rfl rfl (by decide) (by kernel_rfl) ?_ (AvlII.PutB Bm key val L F _ HSt.out.bm (by omega)) ?_
  · go_simp
  rintro e w2 ⟨rfl, hT⟩
  obtain ⟨F2, hst2⟩ := HSt.out.turnM hT
  have HSt1 := Lib.hid (hst2)
  have hSS : w2.cell? ⟨b1, o1 + j * 3 + 1, none⟩ = some (.int .i64 key) ∧ w2.cell? ⟨b1, o1 + j * 3 + 1 + 1, none⟩ = some (.int .i64 val) := ⟨(HSt1.out.zs.bel.cell (p := ⟨b1, _, none⟩) hlow).trans e1, (HSt1.out.zs.bel.cell (p := ⟨b1, _, none⟩) hlow).trans e2⟩
  refine ⟨_, rfl, hSS, ?_⟩
  refine Eng.Sch.end_ [46, 47, 48, 49, 50, 51, 52, 53, 54, 55, 56] HN.out (by kernel_rfl) (by kernel_rfl) ?_
  exact HP.out _ _ _ HSt1.out

set_option maxRecDepth 100000 in
set_option maxHeartbeats 400000 in
theorem f12 {ops : Array Oper} (hops : Eng.fnOps Try.f7 12 = ops) (a0 : Act) (Q : Exit → Act → World → Prop) (n0 Bw Br Bm Bp Bx b1 o1 c0 len j : Nat) (want key val : Int) (L Lx : List (Int × Int)) (F FX : List Nat) (w0 w : World) (hst : SF n0 Bw Br Bm Bp Bx want false L Lx F FX [] w0 w) (hlow : b1 < n0) (hj : j < len) (hlen : L.length ≤ 1000) (hlenx : Lx.length ≤ 1000) (hs : Srt Lx) (e1 : w0.cell? ⟨b1, o1 + j * 3 + 1, none⟩ = some (.int .i64 key)) (e2 : w0.cell? ⟨b1, o1 + j * 3 + 1 + 1, none⟩ = some (.int .i64 val))
    (hn : a0.tmps.size = 142) (h_0 : a0.tmps.getD 0 undef = .slice (some ⟨b1, o1, none⟩) len c0) (h_8 : a0.tmps.getD 8 undef = .pointer (some ⟨Bp, 0, none⟩)) (h_9 : a0.tmps.getD 9 undef = .int .i64 (j : Int))
    (hpost : ∀ (x : Nat → Value) (w' : World) (FX' : List Nat), SF n0 Bw Br Bm Bp Bx want false L (insL key val Lx) F FX' [] w0 w' → Q .normal (Eng.setAll a0 [57, 58, 59, 60, 61, 62, 63, 64, 65, 66, 67, 68] x) w') :
    (Code.region 12 ops true).wp Try.prog Q a0 w := by
  simp only [Eng.fnOps, Eng.regOps, Try.f7, Option.bind_some, Option.getD_some, Nat.reduceEqDiff, ↓reduceIte, Nat.reduceBEq] at hops
  subst hops
  have q1 : (0 : Int) ≤ (j : Int) := by omega
  have q2 : (j : Int) < (len : Int) := by omega
  have HSt := Lib.hid (hst.fr (Fr.drew _ _))
  have hSS : w.drew.cell? ⟨b1, o1 + j * 3 + 1, none⟩ = some (.int .i64 key) ∧ w.drew.cell? ⟨b1, o1 + j * 3 + 1 + 1, none⟩ = some (.int .i64 val) ∧ w.drew.cell? ⟨Bp, 0, none⟩ = some (.pointer (some ⟨Bx, 0, none⟩)) := ⟨(HSt.out.zs.bel.cell (p := ⟨b1, _, none⟩) hlow).trans e1, (HSt.out.zs.bel.cell (p := ⟨b1, _, none⟩) hlow).trans e2, HSt.out.bp.cell 0⟩
  refine Eng.regionN [(0, true), (1, true), (2, true), (3, true), (4, true), (5, true), (6, true), (7, true), (8, true), (9, true), (10, true), (11, false)] (fun w' => w'.cell? ⟨b1, o1 + j * 3 + 1, none⟩ = some (.int .i64 key) ∧ w'.cell? ⟨b1, o1 + j * 3 + 1 + 1, none⟩ = some (.int .i64 val) ∧ w'.cell? ⟨Bp, 0, none⟩ = some (.pointer (some ⟨Bx, 0, none⟩))) (by kernel_rfl) 142 hn (by kernel_rfl) rfl (by kernel_rfl) (hSS) (fun a b ha hb => ?_)
  subst ha
  have hb0 : b 0 = .slice (some ⟨b1, o1, none⟩) len c0 := (hb 0).symm.trans h_0
  have hb8 : b 8 = .pointer (some ⟨Bp, 0, none⟩) := (hb 8).symm.trans h_8
  have hb9 : b 9 = .int .i64 (j : Int) := (hb 9).symm.trans h_9
  clear hb h_0 h_8 h_9
  have HP := Lib.hid hpost; have HN := Lib.hid hn
  clear hpost hn
  refine Eng.Sch.take (v := ?_) rfl rfl (by decide) (by kernel_rfl) (fun w hw => ?_) ?_
  rotate_left
  · (try dsimp only at hw); go_simp; first | done | with_reducible rfl
  refine Eng.Sch.take (v := ?_) rfl rfl (by decide) (by kernel_rfl) (fun w hw => ?_) ?_
  rotate_left
  · (try dsimp only at hw); go_simp; first | done | with_reducible rfl
  refine Eng.Sch.take (v := ?_) rfl rfl (by decide) (by kernel_rfl) (fun w hw => ?_) ?_
  rotate_left
  · (try dsimp only at hw); go_simp; first | done | with_reducible rfl
  refine Eng.Sch.take (v := ?_) rfl rfl (by decide) (by kernel_rfl) (fun w hw => ?_) ?_
  rotate_left
  · (try dsimp only at hw); go_simp; first | done | with_reducible rfl
  refine Eng.Sch.take (v := ?_) rfl rfl (by decide) (by kernel_rfl) (fun w hw => ?_) ?_
  rotate_left
  · (try dsimp only at hw); go_simp; first | done | with_reducible rfl
  refine Eng.Sch.take (v := ?_) rfl rfl (by decide) (by kernel_rfl) (fun w hw => ?_) ?_
  rotate_left
  · (try dsimp only at hw); go_simp; first | done | with_reducible rfl
  refine Eng.Sch.take (v := ?_) rfl rfl (by decide) (by kernel_rfl) (fun w hw => ?_) ?_
  rotate_left
  · (try dsimp only at hw); go_simp; first | done | with_reducible rfl
  refine Eng.Sch.take (v := ?_) rfl rfl (by decide) (by kernel_rfl) (fun w hw => ?_) ?_
  rotate_left
  · (try dsimp only at hw); go_simp; first | done | with_reducible rfl
  refine Eng.Sch.take (v := ?_) rfl rfl (by decide) (by kernel_rfl) (fun w hw => ?_) ?_
  rotate_left
  · (try dsimp only at hw); go_simp; first | done | with_reducible rfl
  refine Eng.Sch.take (v := ?_) rfl rfl (by decide) (by kernel_rfl) (fun w hw => ?_) ?_
  rotate_left
  · (try dsimp only at hw); go_simp; first | done | with_reducible rfl
  refine Eng.Sch.take (v := ?_) rfl rfl (by decide) (by kernel_rfl) (fun w hw => ?_) ?_
  rotate_left
  · (try dsimp only at hw); go_simp; first | done | with_reducible rfl
  refine Eng.Sch.call rfl rfl (by decide) (by kernel_rfl) ?_ (PutZ Bx key val Lx FX _ HSt.out.bx hs (by omega)) ?_
  · go_simp
  rintro e w2 ⟨rfl, hT⟩
  obtain ⟨F2, hst2⟩ := HSt.out.turnX hT
  have HSt1 := Lib.hid (hst2)
  have hSS : w2.cell? ⟨b1, o1 + j * 3 + 1, none⟩ = some (.int .i64 key) ∧ w2.cell? ⟨b1, o1 + j * 3 + 1 + 1, none⟩ = some (.int .i64 val) ∧ w2.cell? ⟨Bp, 0, none⟩ = some (.pointer (some ⟨Bx, 0, none⟩)) := ⟨(HSt1.out.zs.bel.cell (p := ⟨b1, _, none⟩) hlow).trans e1, (HSt1.out.zs.bel.cell (p := ⟨b1, _, none⟩) hlow).trans e2, HSt1.out.bp.cell 0⟩
  refine ⟨_, rfl, hSS, ?_⟩
  refine Eng.Sch.end_ [57, 58, 59, 60, 61, 62, 63, 64, 65, 66, 67, 68] HN.out (by kernel_rfl) (by kernel_rfl) ?_
  exact HP.out _ _ _ HSt1.out

set_option maxRecDepth 100000 in
set_option maxHeartbeats 400000 in
theorem f23 {ops : Array Oper} (hops : Eng.fnOps Try.f7 23 = ops) (a0 : Act) (Q : Exit → Act → World → Prop) (lr mr : Nat) (Ba Bp Bx b2 o2 cX len at_ : Nat) (ai xk xv : Int) (w : World) (hai : ai = (at_ : Int)) (hat : at_ < len) (e1 : w.cell? ⟨Ba, 0, none⟩ = some (.int .i64 ai)) (e2 : w.cell? ⟨Bp, 0, none⟩ = some (.pointer (some ⟨Bx, 0, none⟩))) (e3 : w.cell? ⟨Bx, 0, none⟩ = some (.slice (some ⟨b2, o2, none⟩) len cX)) (e4 : w.cell? ⟨b2, o2 + at_ * 2, none⟩ = some (.int .i64 xk)) (e5 : w.cell? ⟨b2, o2 + at_ * 2 + 1, none⟩ = some (.int .i64 xv))
    (hn : a0.tmps.size = 142) (h_8 : a0.tmps.getD 8 undef = .pointer (some ⟨Bp, 0, none⟩)) (h_10 : a0.tmps.getD 10 undef = .pointer (some ⟨Ba, 0, none⟩)) (h_13 : a0.tmps.getD 13 undef = .int .i64 xk) (h_14 : a0.tmps.getD 14 undef = .int .i64 xv)
    (hpost : ∀ (x : Nat → Value) (w' : World), x 116 = .bool false → w' = w.drew → Q .normal (Eng.setAll a0 [97, 98, 99, 100, 101, 102, 103, 104, 105, 106, 107, 108, 109, 110, 111, 112, 113, 114, 115, 116] x) w') :
    (Code.region 23 ops true).wpIn (Fence.wide.inRound lr) mr Try.prog Q a0 w := by
  simp only [Eng.fnOps, Eng.regOps, Try.f7, Option.bind_some, Option.getD_some, Nat.reduceEqDiff, ↓reduceIte, Nat.reduceBEq] at hops
  subst hops
  subst hai
  have q1 : (0 : Int) ≤ (at_ : Int) := by omega
  have q2 : (at_ : Int) < (len : Int) := by omega
  have q3 : ¬ (len : Int) ≤ (at_ : Int) := by omega
  have q4 : (xk == xk) = true := by simp
  have q5 : (xv == xv) = true := by simp
  have HSt := Lib.hid (trivial)
  have hSS : w.drew.cell? ⟨Ba, 0, none⟩ = some (.int .i64 (at_ : Int)) ∧ w.drew.cell? ⟨Bp, 0, none⟩ = some (.pointer (some ⟨Bx, 0, none⟩)) ∧ w.drew.cell? ⟨Bx, 0, none⟩ = some (.slice (some ⟨b2, o2, none⟩) len cX) ∧ w.drew.cell? ⟨b2, o2 + at_ * 2, none⟩ = some (.int .i64 xk) ∧ w.drew.cell? ⟨b2, o2 + at_ * 2 + 1, none⟩ = some (.int .i64 xv) := ⟨e1, e2, e3, e4, e5⟩
  refine Eng.regionInN [(0, true), (1, true), (2, true), (3, true), (4, true), (5, true), (6, true), (7, true), (8, true), (9, true), (10, true), (11, true), (12, true), (13, true), (14, true), (15, true), (16, true), (17, true), (18, true), (19, true)] (fun w' => w'.cell? ⟨Ba, 0, none⟩ = some (.int .i64 (at_ : Int)) ∧ w'.cell? ⟨Bp, 0, none⟩ = some (.pointer (some ⟨Bx, 0, none⟩)) ∧ w'.cell? ⟨Bx, 0, none⟩ = some (.slice (some ⟨b2, o2, none⟩) len cX) ∧ w'.cell? ⟨b2, o2 + at_ * 2, none⟩ = some (.int .i64 xk) ∧ w'.cell? ⟨b2, o2 + at_ * 2 + 1, none⟩ = some (.int .i64 xv)) (by kernel_rfl) 142 hn (by kernel_rfl) (by kernel_rfl) rfl (by kernel_rfl) (hSS) (fun a b ha hb => ?_)
  subst ha
  have hb8 : b 8 = .pointer (some ⟨Bp, 0, none⟩) := (hb 8).symm.trans h_8
  have hb10 : b 10 = .pointer (some ⟨Ba, 0, none⟩) := (hb 10).symm.trans h_10
  have hb13 : b 13 = .int .i64 xk := (hb 13).symm.trans h_13
  have hb14 : b 14 = .int .i64 xv := (hb 14).symm.trans h_14
  clear hb h_8 h_10 h_13 h_14
  have HP := Lib.hid hpost; have HN := Lib.hid hn
  clear hpost hn
  refine Eng.Sch.take (v := ?_) rfl rfl (by decide) (by kernel_rfl) (fun w hw => ?_) ?_
  rotate_left
  · (try dsimp only at hw); go_simp; first | done | with_reducible rfl
  refine Eng.Sch.take (v := ?_) rfl rfl (by decide) (by kernel_rfl) (fun w hw => ?_) ?_
  rotate_left
  · (try dsimp only at hw); go_simp; first | done | with_reducible rfl
  refine Eng.Sch.take (v := ?_) rfl rfl (by decide) (by kernel_rfl) (fun w hw => ?_) ?_
  rotate_left
  · (try dsimp only at hw); go_simp; first | done | with_reducible rfl
  refine Eng.Sch.take (v := ?_) rfl rfl (by decide) (by kernel_rfl) (fun w hw => ?_) ?_
  rotate_left
  · (try dsimp only at hw); go_simp; first | done | with_reducible rfl
  refine Eng.Sch.take (v := ?_) rfl rfl (by decide) (by kernel_rfl) (fun w hw => ?_) ?_
  rotate_left
  · (try dsimp only at hw); go_simp; first | done | with_reducible rfl
  refine Eng.Sch.take (v := ?_) rfl rfl (by decide) (by kernel_rfl) (fun w hw => ?_) ?_
  rotate_left
  · (try dsimp only at hw); go_simp; first | done | with_reducible rfl
  refine Eng.Sch.take (v := ?_) rfl rfl (by decide) (by kernel_rfl) (fun w hw => ?_) ?_
  rotate_left
  · (try dsimp only at hw); go_simp; first | done | with_reducible rfl
  refine Eng.Sch.take (v := ?_) rfl rfl (by decide) (by kernel_rfl) (fun w hw => ?_) ?_
  rotate_left
  · (try dsimp only at hw); go_simp; first | done | with_reducible rfl
  refine Eng.Sch.take (v := ?_) rfl rfl (by decide) (by kernel_rfl) (fun w hw => ?_) ?_
  rotate_left
  · (try dsimp only at hw); go_simp; first | done | with_reducible rfl
  refine Eng.Sch.take (v := ?_) rfl rfl (by decide) (by kernel_rfl) (fun w hw => ?_) ?_
  rotate_left
  · (try dsimp only at hw); go_simp; first | done | with_reducible rfl
  refine Eng.Sch.take (v := ?_) rfl rfl (by decide) (by kernel_rfl) (fun w hw => ?_) ?_
  rotate_left
  · (try dsimp only at hw); go_simp; first | done | with_reducible rfl
  refine Eng.Sch.take (v := ?_) rfl rfl (by decide) (by kernel_rfl) (fun w hw => ?_) ?_
  rotate_left
  · (try dsimp only at hw); go_simp; first | done | with_reducible rfl
  refine Eng.Sch.take (v := ?_) rfl rfl (by decide) (by kernel_rfl) (fun w hw => ?_) ?_
  rotate_left
  · (try dsimp only at hw); go_simp; first | done | with_reducible rfl
  refine Eng.Sch.take (v := ?_) rfl rfl (by decide) (by kernel_rfl) (fun w hw => ?_) ?_
  rotate_left
  · (try dsimp only at hw); go_simp; first | done | with_reducible rfl
  refine Eng.Sch.take (v := ?_) rfl rfl (by decide) (by kernel_rfl) (fun w hw => ?_) ?_
  rotate_left
  · (try dsimp only at hw); go_simp; first | done | with_reducible rfl
  refine Eng.Sch.take (v := ?_) rfl rfl (by decide) (by kernel_rfl) (fun w hw => ?_) ?_
  rotate_left
  · (try dsimp only at hw); go_simp; first | done | with_reducible rfl
  refine Eng.Sch.take (v := ?_) rfl rfl (by decide) (by kernel_rfl) (fun w hw => ?_) ?_
  rotate_left
  · (try dsimp only at hw); go_simp; first | done | with_reducible rfl
  refine Eng.Sch.take (v := ?_) rfl rfl (by decide) (by kernel_rfl) (fun w hw => ?_) ?_
  rotate_left
  · (try dsimp only at hw); go_simp; first | done | with_reducible rfl
  refine Eng.Sch.take (v := ?_) rfl rfl (by decide) (by kernel_rfl) (fun w hw => ?_) ?_
  rotate_left
  · (try dsimp only at hw); go_simp; first | done | with_reducible rfl
  refine Eng.Sch.take (v := ?_) rfl rfl (by decide) (by kernel_rfl) (fun w hw => ?_) ?_
  rotate_left
  · (try dsimp only at hw); go_simp; first | done | with_reducible rfl
  refine Eng.Sch.end_ [97, 98, 99, 100, 101, 102, 103, 104, 105, 106, 107, 108, 109, 110, 111, 112, 113, 114, 115, 116] HN.out (by kernel_rfl) (by kernel_rfl) ?_
  exact HP.out _ _ rfl rfl

set_option maxRecDepth 100000 in
set_option maxHeartbeats 400000 in
theorem f28e {ops : Array Oper} (hops : Eng.fnOps Try.f7 28 = ops) (a0 : Act) (Q : Exit → Act → World → Prop) (n0 Bw Br Bm Bp Bx Ba B0 Bf Bn cX D : Nat) (AX : Option Addr) (want a n : Int) (L : List (Int × Int)) (F FX : List Nat) (X : Obj) (w0 w : World) (hst : SH n0 Bw Br Bm Bp Bx Ba B0 Bf Bn want false L F FX a n AX cX w0 w) (hD : w.heap[D]? = some X) (hne : D ≠ Br) (ha : a = (L.length : Int))
    (hn : a0.tmps.size = 142) (h_6 : a0.tmps.getD 6 undef = .pointer (some ⟨Br, 0, none⟩)) (h_8 : a0.tmps.getD 8 undef = .pointer (some ⟨Bp, 0, none⟩)) (h_10 : a0.tmps.getD 10 undef = .pointer (some ⟨Ba, 0, none⟩))
    (hpost : ∀ (x : Nat → Value) (w' : World), w'.cell? ⟨Br, 0, none⟩ = some (.bool true) → Below n0 w0 w' → w'.heap[D]? = some X → Q .normal (Eng.setAll a0 [125, 126, 127, 128, 129, 130, 131, 132, 133, 134, 135, 136, 137, 138, 139, 140, 141] x) w') :
    (Code.region 28 ops true).wp Try.prog Q a0 w := by
  simp only [Eng.fnOps, Eng.regOps, Try.f7, Option.bind_some, Option.getD_some, Nat.reduceEqDiff, ↓reduceIte, Nat.reduceBEq] at hops
  subst hops
  have HDD := Lib.hid (show w.drew.heap[D]? = some X from hD)
  clear hD
  have q1 : (a == (L.length : Int)) = true := by simp [ha]
  clear ha
  have HSt := Lib.hid (hst.frS (Fr.drew (fun _ => False) _) (fun _ _ h => h) (fun _ _ _ _ h => h))
  have hSS : w.drew.cell? ⟨Ba, 0, none⟩ = some (.int .i64 a) ∧ w.drew.cell? ⟨Bp, 0, none⟩ = some (.pointer (some ⟨Bx, 0, none⟩)) ∧ w.drew.cell? ⟨Bx, 0, none⟩ = some (.slice AX L.length cX) := ⟨HSt.out.sg.ba.cell 0, HSt.out.sg.sf.bp.cell 0, HSt.out.hd.cell 0⟩
  refine Eng.regionN [(0, true), (1, true), (2, true), (3, true), (4, true), (5, true), (6, true), (7, true), (8, true), (9, true), (10, true), (11, true), (12, true), (13, true), (14, true), (15, false), (16, true), (17, false)] (fun w' => w'.cell? ⟨Ba, 0, none⟩ = some (.int .i64 a) ∧ w'.cell? ⟨Bp, 0, none⟩ = some (.pointer (some ⟨Bx, 0, none⟩)) ∧ w'.cell? ⟨Bx, 0, none⟩ = some (.slice AX L.length cX)) (by kernel_rfl) 142 hn (by kernel_rfl) rfl (by kernel_rfl) (hSS) (fun a b ha hb => ?_)
  subst ha
  have hb6 : b 6 = .pointer (some ⟨Br, 0, none⟩) := (hb 6).symm.trans h_6
  have hb8 : b 8 = .pointer (some ⟨Bp, 0, none⟩) := (hb 8).symm.trans h_8
  have hb10 : b 10 = .pointer (some ⟨Ba, 0, none⟩) := (hb 10).symm.trans h_10
  clear hb h_6 h_8 h_10
  have HP := Lib.hid hpost; have HN := Lib.hid hn
  clear hpost hn
  refine Eng.Sch.take (v := ?_) rfl rfl (by decide) (by kernel_rfl) (fun w hw => ?_) ?_
  rotate_left
  · (try dsimp only at hw); go_simp; first | done | with_reducible rfl
  refine Eng.Sch.take (v := ?_) rfl rfl (by decide) (by kernel_rfl) (fun w hw => ?_) ?_
  rotate_left
  · (try dsimp only at hw); go_simp; first | done | with_reducible rfl
  refine Eng.Sch.take (v := ?_) rfl rfl (by decide) (by kernel_rfl) (fun w hw => ?_) ?_
  rotate_left
  · (try dsimp only at hw); go_simp; first | done | with_reducible rfl
  refine Eng.Sch.take (v := ?_) rfl rfl (by decide) (by kernel_rfl) (fun w hw => ?_) ?_
  rotate_left
  · (try dsimp only at hw); go_simp; first | done | with_reducible rfl
  refine Eng.Sch.take (v := ?_) rfl rfl (by decide) (by kernel_rfl) (fun w hw => ?_) ?_
  rotate_left
  · (try dsimp only at hw); go_simp; first | done | with_reducible rfl
  refine Eng.Sch.take (v := ?_) rfl rfl (by decide) (by kernel_rfl) (fun w hw => ?_) ?_
  rotate_left
  · (try dsimp only at hw); go_simp; first | done | with_reducible rfl
  refine Eng.Sch.take (v := ?_) rfl rfl (by decide) (by kernel_rfl) (fun w hw => ?_) ?_
  rotate_left
  · (try dsimp only at hw); go_simp; first | done | with_reducible rfl
  refine Eng.Sch.take (v := ?_) rfl rfl (by decide) (by kernel_rfl) (fun w hw => ?_) ?_
  rotate_left
  · (try dsimp only at hw); go_simp; first | done | with_reducible rfl
  refine Eng.Sch.skip rfl rfl (by decide) (by kernel_rfl) ?_
  refine Eng.Sch.skip rfl rfl (by decide) (by kernel_rfl) ?_
  refine Eng.Sch.skip rfl rfl (by decide) (by kernel_rfl) ?_
  refine Eng.Sch.skip rfl rfl (by decide) (by kernel_rfl) ?_
  refine Eng.Sch.skip rfl rfl (by decide) (by kernel_rfl) ?_
  refine Eng.Sch.take (v := ?_) rfl rfl (by decide) (by kernel_rfl) (fun w hw => ?_) ?_
  rotate_left
  · (try dsimp only at hw); go_simp; first | done | with_reducible rfl
  refine Eng.Sch.take (v := ?_) rfl rfl (by decide) (by kernel_rfl) (fun w hw => ?_) ?_
  rotate_left
  · (try dsimp only at hw); go_simp; first | done | with_reducible rfl
  refine Eng.Sch.call rfl rfl (by decide) (by kernel_rfl) ?_ (awake _) ?_
  · go_simp
  rintro e w2 ⟨rfl, hb⟩
  have HSt1 := Lib.hid (HSt.out.frS (Fr.of_below' hb (fun _ => False)) (fun _ _ h => h) (fun _ _ _ _ h => h))
  have hSS : w2.cell? ⟨Ba, 0, none⟩ = some (.int .i64 a) ∧ w2.cell? ⟨Bp, 0, none⟩ = some (.pointer (some ⟨Bx, 0, none⟩)) ∧ w2.cell? ⟨Bx, 0, none⟩ = some (.slice AX L.length cX) := ⟨HSt1.out.sg.ba.cell 0, HSt1.out.sg.sf.bp.cell 0, HSt1.out.hd.cell 0⟩
  have cR : w2.cell? ⟨Br, 0, none⟩ = some (.bool false) := HSt1.out.sg.sf.br.cell 0
  have fR := HSt1.out.sg.sf.br.free 0
  have HD2 := Lib.hid ((hb.block D (lt_of_heap HDD.out)).trans HDD.out)
  clear hb
  refine ⟨_, rfl, hSS, ?_⟩
  refine Eng.Sch.take (v := ?_) rfl rfl (by decide) (by kernel_rfl) (fun w hw => ?_) ?_
  rotate_left
  · (try dsimp only at hw); go_simp; first | done | with_reducible rfl
  refine Eng.Sch.step0 rfl rfl (by kernel_rfl) (by go_simp; first | done | with_reducible rfl) (⟨(HSt1.out.setR true).sg.ba.cell 0, (HSt1.out.setR true).sg.sf.bp.cell 0, (HSt1.out.setR true).hd.cell 0⟩) ?_
  refine Eng.Sch.end_ [125, 126, 127, 128, 129, 130, 131, 132, 133, 134, 135, 136, 137, 138, 139, 140, 141] HN.out (by kernel_rfl) (by kernel_rfl) ?_
  exact HP.out _ _ ((HSt1.out.setR true).sg.sf.br.cell 0) (HSt1.out.setR true).sg.sf.zs.bel (((HSt1.out.sg.sf.br.tn 0 (.bool true)).fr.block D (lt_of_heap HD2.out) (by simpa using hne)).trans HD2.out)

set_option maxRecDepth 100000 in
set_option maxHeartbeats 400000 in
theorem f28n {ops : Array Oper} (hops : Eng.fnOps Try.f7 28 = ops) (a0 : Act) (Q : Exit → Act → World → Prop) (n0 Bw Br Bm Bp Bx Ba B0 Bf Bn cX D : Nat) (AX : Option Addr) (want a n : Int) (L : List (Int × Int)) (F FX : List Nat) (X : Obj) (w0 w : World) (hst : SH n0 Bw Br Bm Bp Bx Ba B0 Bf Bn want false L F FX a n AX cX w0 w) (hD : w.heap[D]? = some X) (hne : D ≠ Br) (ha : a ≠ (L.length : Int)) (hnm : n = max 1 want) (h0 : 0 ≤ want) (h1 : want ≤ 255)
    (hn : a0.tmps.size = 142) (h_5 : a0.tmps.getD 5 undef = .pointer (some ⟨Bw, 0, none⟩)) (h_6 : a0.tmps.getD 6 undef = .pointer (some ⟨Br, 0, none⟩)) (h_8 : a0.tmps.getD 8 undef = .pointer (some ⟨Bp, 0, none⟩)) (h_10 : a0.tmps.getD 10 undef = .pointer (some ⟨Ba, 0, none⟩)) (h_12 : a0.tmps.getD 12 undef = .pointer (some ⟨Bn, 0, none⟩))
    (hpost : ∀ (x : Nat → Value) (w' : World), w'.cell? ⟨Br, 0, none⟩ = some (.bool true) → Below n0 w0 w' → w'.heap[D]? = some X → Q .normal (Eng.setAll a0 [125, 126, 127, 128, 129, 130, 131, 132, 133, 134, 135, 136, 137, 138, 139, 140, 141] x) w') :
    (Code.region 28 ops true).wp Try.prog Q a0 w := by
  simp only [Eng.fnOps, Eng.regOps, Try.f7, Option.bind_some, Option.getD_some, Nat.reduceEqDiff, ↓reduceIte, Nat.reduceBEq] at hops
  subst hops
  have HDD := Lib.hid (show w.drew.heap[D]? = some X from hD)
  clear hD
  have q1 : (a == (L.length : Int)) = false := by simp [ha]
  have q0 : IntKind.i64.wrap want = want := IntWalk.i64_in _ (by omega)
  have q2 : (n == if 1 < want then want else 1) = true := by rw [beq_iff_eq, hnm]; split <;> omega
  clear ha hnm h0 h1
  have HSt := Lib.hid (hst.frS (Fr.drew (fun _ => False) _) (fun _ _ h => h) (fun _ _ _ _ h => h))
  have hSS : w.drew.cell? ⟨Ba, 0, none⟩ = some (.int .i64 a) ∧ w.drew.cell? ⟨Bp, 0, none⟩ = some (.pointer (some ⟨Bx, 0, none⟩)) ∧ w.drew.cell? ⟨Bx, 0, none⟩ = some (.slice AX L.length cX) ∧ w.drew.cell? ⟨Bn, 0, none⟩ = some (.int .i64 n) ∧ w.drew.cell? ⟨Bw, 0, none⟩ = some (.int .u8 want) := ⟨HSt.out.sg.ba.cell 0, HSt.out.sg.sf.bp.cell 0, HSt.out.hd.cell 0, HSt.out.sg.bn.cell 0, HSt.out.sg.sf.bw.cell 0⟩
  refine Eng.regionN [(0, true), (1, true), (2, true), (3, true), (4, true), (5, true), (6, true), (7, true), (8, true), (9, true), (10, true), (11, true), (12, true), (13, true), (14, true), (15, false), (16, true), (17, false)] (fun w' => w'.cell? ⟨Ba, 0, none⟩ = some (.int .i64 a) ∧ w'.cell? ⟨Bp, 0, none⟩ = some (.pointer (some ⟨Bx, 0, none⟩)) ∧ w'.cell? ⟨Bx, 0, none⟩ = some (.slice AX L.length cX) ∧ w'.cell? ⟨Bn, 0, none⟩ = some (.int .i64 n) ∧ w'.cell? ⟨Bw, 0, none⟩ = some (.int .u8 want)) (by kernel_rfl) 142 hn (by kernel_rfl) rfl (by kernel_rfl) (hSS) (fun a b ha hb => ?_)
  subst ha
  have hb5 : b 5 = .pointer (some ⟨Bw, 0, none⟩) := (hb 5).symm.trans h_5
  have hb6 : b 6 = .pointer (some ⟨Br, 0, none⟩) := (hb 6).symm.trans h_6
  have hb8 : b 8 = .pointer (some ⟨Bp, 0, none⟩) := (hb 8).symm.trans h_8
  have hb10 : b 10 = .pointer (some ⟨Ba, 0, none⟩) := (hb 10).symm.trans h_10
  have hb12 : b 12 = .pointer (some ⟨Bn, 0, none⟩) := (hb 12).symm.trans h_12
  clear hb h_5 h_6 h_8 h_10 h_12
  have HP := Lib.hid hpost; have HN := Lib.hid hn
  clear hpost hn
  refine Eng.Sch.take (v := ?_) rfl rfl (by decide) (by kernel_rfl) (fun w hw => ?_) ?_
  rotate_left
  · (try dsimp only at hw); go_simp; first | done | with_reducible rfl
  refine Eng.Sch.take (v := ?_) rfl rfl (by decide) (by kernel_rfl) (fun w hw => ?_) ?_
  rotate_left
  · (try dsimp only at hw); go_simp; first | done | with_reducible rfl
  refine Eng.Sch.take (v := ?_) rfl rfl (by decide) (by kernel_rfl) (fun w hw => ?_) ?_
  rotate_left
  · (try dsimp only at hw); go_simp; first | done | with_reducible rfl
  refine Eng.Sch.take (v := ?_) rfl rfl (by decide) (by kernel_rfl) (fun w hw => ?_) ?_
  rotate_left
  · (try dsimp only at hw); go_simp; first | done | with_reducible rfl
  refine Eng.Sch.take (v := ?_) rfl rfl (by decide) (by kernel_rfl) (fun w hw => ?_) ?_
  rotate_left
  · (try dsimp only at hw); go_simp; first | done | with_reducible rfl
  refine Eng.Sch.take (v := ?_) rfl rfl (by decide) (by kernel_rfl) (fun w hw => ?_) ?_
  rotate_left
  · (try dsimp only at hw); go_simp; first | done | with_reducible rfl
  refine Eng.Sch.take (v := ?_) rfl rfl (by decide) (by kernel_rfl) (fun w hw => ?_) ?_
  rotate_left
  · (try dsimp only at hw); go_simp; first | done | with_reducible rfl
  refine Eng.Sch.take (v := ?_) rfl rfl (by decide) (by kernel_rfl) (fun w hw => ?_) ?_
  rotate_left
  · (try dsimp only at hw); go_simp; first | done | with_reducible rfl
  refine Eng.Sch.take (v := ?_) rfl rfl (by decide) (by kernel_rfl) (fun w hw => ?_) ?_
  rotate_left
  · (try dsimp only at hw); go_simp; first | done | with_reducible rfl
  refine Eng.Sch.take (v := ?_) rfl rfl (by decide) (by kernel_rfl) (fun w hw => ?_) ?_
  rotate_left
  · (try dsimp only at hw); go_simp; first | done | with_reducible rfl
  refine Eng.Sch.take (v := ?_) rfl rfl (by decide) (by kernel_rfl) (fun w hw => ?_) ?_
  rotate_left
  · (try dsimp only at hw); go_simp; first | done | with_reducible rfl
  refine Eng.Sch.take (v := ?_) rfl rfl (by decide) (by kernel_rfl) (fun w hw => ?_) ?_
  rotate_left
  · (try dsimp only at hw); go_simp; first | done | with_reducible rfl
  refine Eng.Sch.take (v := ?_) rfl rfl (by decide) (by kernel_rfl) (fun w hw => ?_) ?_
  rotate_left
  · (try dsimp only at hw); go_simp; first | done | with_reducible rfl
  refine Eng.Sch.take (v := ?_) rfl rfl (by decide) (by kernel_rfl) (fun w hw => ?_) ?_
  rotate_left
  · (try dsimp only at hw); go_simp; first | done | with_reducible rfl
  refine Eng.Sch.take (v := ?_) rfl rfl (by decide) (by kernel_rfl) (fun w hw => ?_) ?_
  rotate_left
  · (try dsimp only at hw); go_simp; first | done | with_reducible rfl
  refine Eng.Sch.call rfl rfl (by decide) (by kernel_rfl) ?_ (awake _) ?_
  · go_simp
  rintro e w2 ⟨rfl, hb⟩
  have HSt1 := Lib.hid (HSt.out.frS (Fr.of_below' hb (fun _ => False)) (fun _ _ h => h) (fun _ _ _ _ h => h))
  have hSS : w2.cell? ⟨Ba, 0, none⟩ = some (.int .i64 a) ∧ w2.cell? ⟨Bp, 0, none⟩ = some (.pointer (some ⟨Bx, 0, none⟩)) ∧ w2.cell? ⟨Bx, 0, none⟩ = some (.slice AX L.length cX) ∧ w2.cell? ⟨Bn, 0, none⟩ = some (.int .i64 n) ∧ w2.cell? ⟨Bw, 0, none⟩ = some (.int .u8 want) := ⟨HSt1.out.sg.ba.cell 0, HSt1.out.sg.sf.bp.cell 0, HSt1.out.hd.cell 0, HSt1.out.sg.bn.cell 0, HSt1.out.sg.sf.bw.cell 0⟩
  have cR : w2.cell? ⟨Br, 0, none⟩ = some (.bool false) := HSt1.out.sg.sf.br.cell 0
  have fR := HSt1.out.sg.sf.br.free 0
  have HD2 := Lib.hid ((hb.block D (lt_of_heap HDD.out)).trans HDD.out)
  clear hb
  refine ⟨_, rfl, hSS, ?_⟩
  refine Eng.Sch.take (v := ?_) rfl rfl (by decide) (by kernel_rfl) (fun w hw => ?_) ?_
  rotate_left
  · (try dsimp only at hw); go_simp; first | done | with_reducible rfl
  refine Eng.Sch.step0 rfl rfl (by kernel_rfl) (by go_simp; first | done | with_reducible rfl) (⟨(HSt1.out.setR true).sg.ba.cell 0, (HSt1.out.setR true).sg.sf.bp.cell 0, (HSt1.out.setR true).hd.cell 0, (HSt1.out.setR true).sg.bn.cell 0, (HSt1.out.setR true).sg.sf.bw.cell 0⟩) ?_
  refine Eng.Sch.end_ [125, 126, 127, 128, 129, 130, 131, 132, 133, 134, 135, 136, 137, 138, 139, 140, 141] HN.out (by kernel_rfl) (by kernel_rfl) ?_
  exact HP.out _ _ ((HSt1.out.setR true).sg.sf.br.cell 0) (HSt1.out.setR true).sg.sf.zs.bel (((HSt1.out.sg.sf.br.tn 0 (.bool true)).fr.block D (lt_of_heap HD2.out) (by simpa using hne)).trans HD2.out)

end Law12
end Go.Proofs.Ytolpdgaomlhgdaa
