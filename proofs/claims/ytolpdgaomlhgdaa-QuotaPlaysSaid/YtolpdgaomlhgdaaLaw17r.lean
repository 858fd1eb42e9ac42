/- Layer 17's statements: QuotaPlays: its state, and the statements that draw their order. -/
import Derived.Test.YtolpdgaomlhgdaaLaw17h
import Derived.Test.YtolpdgaomlhgdaaQuota5
import Derived.Test.YtolpdgaomlhgdaaRef17b
import Derived.Test.YtolpdgaomlhgdaaRef17c
import Derived.Test.YtolpdgaomlhgdaaEngIn
namespace Go.Proofs.Ytolpdgaomlhgdaa
open Go.RowKit
namespace Law17
open BagP QuotaP Quota
attribute [local go_sem] Eng.ev Eng.getO_cons Eng.getO_nil
/-- The quota, the document's, and those that nobody made. -/
structure S2 (w0 w : World) (B r Bx Bn Bl : Nat) (all tr : Int) (L : List (Int × Int)) (T : List Int) (FX : List Nat) : Prop where
  zs : Zs w0.heap.size w0 w [[B, r], FX, [Bn], [Bl]]
  q : QB w B r all tr L
  x : Ref17.RQ w Bx all tr T FX
  nn : QN w Bn
  nl : Bk w Bl #[.pointer none, .pointer (some ⟨Bn, 0, none⟩)] 25
  rel : Rel L T
section
variable {w0 w w' : World} {B r Bx Bn Bl : Nat} {all tr : Int} {L L' : List (Int × Int)} {T T' : List Int} {FX FX' : List Nat}
theorem S2.fr (h : S2 w0 w B r Bx Bn Bl all tr L T FX) (hf : Fr (fun _ => False) w w') : S2 w0 w' B r Bx Bn Bl all tr L T FX :=
  ⟨h.zs.fr hf, h.q.fr hf (fun h => h) (fun h => h), h.x.fr hf (fun _ _ h => h), h.nn.fr hf (fun _ _ h => h), h.nl.fr hf (fun _ _ h => h), h.rel⟩
/-- The quota turned; the document's did not yet. -/
structure S1 (w0 w : World) (B r Bx Bn Bl : Nat) (all tr : Int) (L : List (Int × Int)) (T : List Int) (FX : List Nat) : Prop where
  zs : Zs w0.heap.size w0 w [[B, r], FX, [Bn], [Bl]]
  q : QB w B r all tr L
  x : Ref17.RQ w Bx all tr T FX
  nn : QN w Bn
  nl : Bk w Bl #[.pointer none, .pointer (some ⟨Bn, 0, none⟩)] 25
theorem S2.s1 (h : S2 w0 w B r Bx Bn Bl all tr L T FX) : S1 w0 w B r Bx Bn Bl all tr L T FX := ⟨h.zs, h.q, h.x, h.nn, h.nl⟩
theorem S1.s2 (h : S1 w0 w B r Bx Bn Bl all tr L T FX) (hr : Rel L T) : S2 w0 w B r Bx Bn Bl all tr L T FX := ⟨h.zs, h.q, h.x, h.nn, h.nl, hr⟩
theorem S1.fr (h : S1 w0 w B r Bx Bn Bl all tr L T FX) (hf : Fr (fun _ => False) w w') : S1 w0 w' B r Bx Bn Bl all tr L T FX :=
  ⟨h.zs.fr hf, h.q.fr hf (fun h => h) (fun h => h), h.x.fr hf (fun _ _ h => h), h.nn.fr hf (fun _ _ h => h), h.nl.fr hf (fun _ _ h => h)⟩
theorem S1.turnQ (h : S1 w0 w B r Bx Bn Bl all tr L T FX) (hq : QB w' B r all tr L') (hf : Fr (fun k => k = B ∨ k = r) w w') : S1 w0 w' B r Bx Bn Bl all tr L' T FX := by
  have hf' : Fr (fun k => k ∈ [B, r]) w w' := hf.mono (fun i _ h => by simpa using h)
  have ht : Tn [B, r] [B, r] w w' := ⟨hf', fun x hx => ⟨.inl hx, by
    simp at hx
    rcases hx with rfl | rfl
    · exact lt_of_heap hq.blk
    · exact hq.gm.lt⟩⟩
  exact ⟨h.zs.turn [] [FX, [Bn], [Bl]] ht, hq, h.x.fr hf' (h.zs.ap 0 1 rfl rfl (by decide)), h.nn.fr hf' (h.zs.ap 0 2 rfl rfl (by decide)), h.nl.fr hf' (h.zs.ap 0 3 rfl rfl (by decide))⟩
theorem S1.turnX (h : S1 w0 w B r Bx Bn Bl all tr L T FX) (hx : Ref17.RQ w' Bx all tr T' FX') (ht : Tn FX FX' w w') : S1 w0 w' B r Bx Bn Bl all tr L T' FX' :=
  ⟨h.zs.turn [[B, r]] [[Bn], [Bl]] ht, h.q.fr ht.fr (h.zs.ap 1 0 rfl rfl (by decide) B (by simp)) (h.zs.ap 1 0 rfl rfl (by decide) r (by simp)), hx, h.nn.fr ht.fr (h.zs.ap 1 2 rfl rfl (by decide)), h.nl.fr ht.fr (h.zs.ap 1 3 rfl rfl (by decide))⟩
theorem S1.apart (h : S1 w0 w B r Bx Bn Bl all tr L T FX) {y : Ac} (hR : Rd w0 y) (hne : y.L ≠ []) (ad : Addr) (ha : y.A = some ad) : ad.block < w0.heap.size ∧ ad.block ≠ B ∧ ad.block ≠ r ∧ ad.block < w.heap.size ∧ ¬ ad.block ∈ FX := by
  have h1 := hR.lt hne ad ha
  have h2 := h.zs.n0le
  have h3 := h.zs.mem (i := 0) rfl B (by simp)
  have h4 := h.zs.mem (i := 0) rfl r (by simp)
  exact ⟨h1, by omega, by omega, by omega, fun hx => by have := h.zs.mem (i := 1) rfl _ hx; omega⟩
theorem S1.add (h : S1 w0 w B r Bx Bn Bl all tr L T FX) {y : Ac} (hR : Rd w0 y) (hm : sumL L + y.L.length < 1000000) {bb : Bool} (hbb : Hid (okM all tr (y.L.map (·.t)) L = bb)) :
    Calls Try.prog 22 #[.pointer (some ⟨B, 0, none⟩), .slice y.A y.L.length y.c] w fun e w' => e = .returned (.bool bb) ∧ S1 w0 w' B r Bx Bn Bl all tr (if bb then QuotaP.addM (y.L.map (·.t)) L else L) T FX := by
  refine (Add B r all tr _ _ y.L L _ h.q (hR.sl h.zs.bel) (fun hne ad ha => ?_) hR.2 hm).mono ?_
  · have := h.apart hR hne ad ha; exact ⟨this.2.1, this.2.2.1, this.2.2.2.1⟩
  · rintro e w' ⟨he, hq, hf⟩
    rw [hbb.out] at he
    unfold QuotaP.addA at hq
    rw [hbb.out] at hq
    exact ⟨he, h.turnQ hq hf⟩
theorem S1.drop (h : S1 w0 w B r Bx Bn Bl all tr L T FX) {y : Ac} (hR : Rd w0 y) :
    Calls Try.prog 20 #[.pointer (some ⟨B, 0, none⟩), .slice y.A y.L.length y.c] w fun e w' => e = .returned (.tuple #[]) ∧ S1 w0 w' B r Bx Bn Bl all tr (QuotaP.dropM (y.L.map (·.t)) L) T FX := by
  refine (Drop B r all tr _ _ y.L L _ h.q (hR.sl h.zs.bel) (fun hne ad ha => ?_) hR.2).mono ?_
  · have := h.apart hR hne ad ha; exact ⟨this.2.1, this.2.2.1, this.2.2.2.1⟩
  · rintro e w' ⟨he, hq, hf⟩
    exact ⟨he, h.turnQ hq hf⟩
theorem S1.addX (h : S1 w0 w B r Bx Bn Bl all tr L T FX) {y : Ac} (hR : Rd w0 y) (hm : T.length + y.L.length ≤ 1000000) {bb : Bool} (hbb : Hid (okS all tr (y.L.map (·.t)) T = bb)) :
    Calls Try.prog 23 #[.pointer (some ⟨Bx, 0, none⟩), .slice y.A y.L.length y.c] w fun e w' => e = .returned (.bool bb) ∧ ∃ F', S1 w0 w' B r Bx Bn Bl all tr L (if bb then T ++ y.L.map (·.t) else T) F' := by
  refine (Ref17.Add Bx all tr _ _ y.L T FX w h.x (hR.sl h.zs.bel) hm).mono ?_
  rintro e w' ⟨he, F', hx, ht⟩
  rw [hbb.out] at he hx
  exact ⟨he, F', h.turnX hx ht⟩
theorem S1.dropX (h : S1 w0 w B r Bx Bn Bl all tr L T FX) {y : Ac} (hR : Rd w0 y) (hm : T.length ≤ 1000000) :
    Calls Try.prog 21 #[.pointer (some ⟨Bx, 0, none⟩), .slice y.A y.L.length y.c] w fun e w' => e = .returned (.tuple #[]) ∧ ∃ F', S1 w0 w' B r Bx Bn Bl all tr L (eraM (y.L.map (·.t)) T) F' := by
  refine (Ref17.Drop Bx all tr _ _ y.L T FX w h.x (hR.sl h.zs.bel) (fun hne ad ha => (h.apart hR hne ad ha).2.2.2.2) hm).mono ?_
  rintro e w' ⟨he, F', hx, ht⟩
  exact ⟨he, F', h.turnX hx ht⟩
end
/-- .. and the document's list, its header known, with all traces. -/
structure S3 (w0 w : World) (B r Bx Bn Bl : Nat) (all tr : Int) (L : List (Int × Int)) (T : List Int) (FX : List Nat) (AX : Option Addr) (cX : Nat) (AT : Option Addr) (cT : Nat) : Prop where
  s : S2 w0 w B r Bx Bn Bl all tr L T FX
  hd : Bk w Bx #[.int .i64 all, .int .i64 tr, .slice AX T.length cX] Ref17.TR
  t : Sl w 1 AT (trT T).length cT (ints (trT T))
section
variable {w0 w w' : World} {B r Bx Bn Bl : Nat} {all tr : Int} {L : List (Int × Int)} {T : List Int} {FX : List Nat} {AX AT : Option Addr} {cX cT : Nat}
theorem S3.fr (h : S3 w0 w B r Bx Bn Bl all tr L T FX AX cX AT cT) (hf : Fr (fun _ => False) w w') : S3 w0 w' B r Bx Bn Bl all tr L T FX AX cX AT cT :=
  ⟨h.s.fr hf, h.hd.fr hf (fun _ _ h => h), h.t.fr hf (fun _ _ h => h)⟩
theorem S3.len (h : S3 w0 w B r Bx Bn Bl all tr L T FX AX cX AT cT) : Calls Try.prog 25 #[.pointer (some ⟨B, 0, none⟩)] w fun e w' => e = .returned (.int .i64 (T.length : Nat)) ∧ w = w' := by
  have := Len B r all tr L w h.s.q
  rwa [h.s.rel.sum] at this
theorem S3.of (h : S3 w0 w B r Bx Bn Bl all tr L T FX AX cX AT cT) {t : Int} (ht : wfI t) : Calls Try.prog 28 #[.pointer (some ⟨B, 0, none⟩), .int .i64 t] w fun e w' => e = .returned (.int .i64 (T.count t : Nat)) ∧ w = w' := by
  have := Of B r all tr t L w h.s.q ht
  rwa [h.s.rel.cnt] at this
theorem S3.traces (h : S3 w0 w B r Bx Bn Bl all tr L T FX AX cX AT cT) : Calls Try.prog 27 #[.pointer (some ⟨B, 0, none⟩)] w fun e w' => ∃ A c, e = .returned (.slice A (trT T).length c) ∧ Sl w' 1 A (trT T).length c (ints (trT T)) ∧ Fr (fun _ => False) w w' := by
  refine (Traces B r all tr L w h.s.q).mono ?_
  rintro e w' ⟨v, rfl, hown, hb⟩
  obtain ⟨A, c, rfl, hS, hA⟩ := Sl.of_own hown
  have hk := h.s.rel.keys h.s.q.cs
  have hl : L.length = (trT T).length := by rw [← hk]; simp
  have hm : (L.map (fun x => Value.int .i64 x.1)) = ints (trT T) := by rw [← hk]; simp [ints, Function.comp_def]
  rw [hl, hm] at hS
  exact ⟨A, c, by rw [hl], hS, Fr.of_below' hb _⟩
theorem S3.same (h : S3 w0 w B r Bx Bn Bl all tr L T FX AX cX AT cT) {A : Option Addr} {c : Nat} (hS : Sl w 1 A (trT T).length c (ints (trT T))) :
    Calls Try.prog 26 #[.slice A (trT T).length c, .slice AT (trT T).length cT] w fun e w' => e = .returned (.bool true) ∧ Fr (fun _ => False) w w' := by
  have := SameInts A AT c cT (trT T) (trT T) w hS h.t
  simpa using this
theorem S3.nob (h : S3 w0 w B r Bx Bn Bl all tr L T FX AX cX AT cT) {k : Nat} {p : Option Addr} (hp : (#[Value.pointer none, .pointer (some ⟨Bn, 0, none⟩)])[k]? = some (.pointer p)) : Nob w p := by
  match k, hp with
  | 0, hp => simp at hp; exact .inl hp.symm
  | 1, hp => simp at hp; exact .inr ⟨Bn, hp.symm, h.s.nn⟩
  | k + 2, hp => simp at hp
end
set_option maxRecDepth 100000 in
set_option maxHeartbeats 400000 in
theorem p11 {ops : Array Oper} (hops : Eng.fnOps Try.f3 11 = ops) (a0 : Act) (Q : Exit → Act → World → Prop) (w0 w : World) (B r Bx Bn Bl b1 o1 c0 len j : Nat) (all tr : Int) (y : Ac) (L : List (Int × Int)) (T : List Int) (FX : List Nat) (bb : Bool) (hst : S1 w0 w B r Bx Bn Bl all tr L T FX) (hlow : b1 < w0.heap.size) (hj : j < len) (hR : Rd w0 y) (e1 : w0.cell? ⟨b1, o1 + j * 2 + 1, none⟩ = some (.slice y.A y.L.length y.c)) (hm : sumL L + y.L.length < 1000000) (hm2 : T.length + y.L.length ≤ 1000000) (h1 : Hid (okM all tr (y.L.map (·.t)) L = bb)) (h2 : Hid (okS all tr (y.L.map (·.t)) T = bb))
    (hn : a0.tmps.size = 164) (h_2 : a0.tmps.getD 2 undef = .slice (some ⟨b1, o1, none⟩) len c0) (h_7 : a0.tmps.getD 7 undef = .pointer (some ⟨B, 0, none⟩)) (h_8 : a0.tmps.getD 8 undef = .pointer (some ⟨Bx, 0, none⟩)) (h_10 : a0.tmps.getD 10 undef = .int .i64 (j : Int))
    (hpost : ∀ (x : Nat → Value) (w' : World) (FX' : List Nat), x 67 = .bool false → S1 w0 w' B r Bx Bn Bl all tr (if bb then QuotaP.addM (y.L.map (·.t)) L else L) (if bb then T ++ y.L.map (·.t) else T) FX' → Q .normal (Eng.setAll a0 [53, 54, 55, 56, 57, 58, 59, 60, 61, 62, 63, 64, 65, 66, 67] x) w') :
    (Code.region 11 ops true).wp Try.prog Q a0 w := by
  simp only [Eng.fnOps, Eng.regOps, Try.f3, Option.bind_some, Option.getD_some, Nat.reduceEqDiff, ↓reduceIte, Nat.reduceBEq] at hops
  subst hops
  have q1 : (0 : Int) ≤ (j : Int) := by omega
  have q2 : (j : Int) < (len : Int) := by omega
  have kq : (bb != bb) = false := by simp
  have HSt := Lib.hid (hst.fr (Fr.drew _ _))
  have hSS : w.drew.cell? ⟨b1, o1 + j * 2 + 1, none⟩ = some (.slice y.A y.L.length y.c) := (HSt.out.zs.bel.cell (p := ⟨b1, _, none⟩) hlow).trans e1
  refine Eng.regionN [(0, true), (1, true), (2, true), (3, true), (4, true), (5, true), (7, true), (8, true), (9, true), (10, true), (11, true), (12, true), (6, false), (13, false), (14, true)] (fun w' => w'.cell? ⟨b1, o1 + j * 2 + 1, none⟩ = some (.slice y.A y.L.length y.c)) (by kernel_rfl) 164 hn (by kernel_rfl) rfl (by kernel_rfl) (hSS) (fun a b ha hb => ?_)
  subst ha
  have hb2 : b 2 = .slice (some ⟨b1, o1, none⟩) len c0 := (hb 2).symm.trans h_2
  have hb7 : b 7 = .pointer (some ⟨B, 0, none⟩) := (hb 7).symm.trans h_7
  have hb8 : b 8 = .pointer (some ⟨Bx, 0, none⟩) := (hb 8).symm.trans h_8
  have hb10 : b 10 = .int .i64 (j : Int) := (hb 10).symm.trans h_10
  clear hb h_2 h_7 h_8 h_10
  have HP := Lib.hid hpost; have HN := Lib.hid hn
  clear hpost hn
  refine Eng.Sch.take (v := ?_) rfl rfl (by decide) (by kernel_rfl) (fun w hw => ?_) ?_
  rotate_left
  · (try dsimp only at hw); go_simp; first | done | with_reducible rfl
  refine Eng.Sch.take (v := ?_) rfl rfl (by decide) (by kernel_rfl) (fun w hw => ?_) ?_
  rotate_left
  · (try dsimp only at hw); go_simp; first | done | with_reducible rfl
  refine Eng.Sch.take (v := ?_) rfl rfl (by decide) (by kernel_rfl) (fun w hw => ?_) ?_
  rotate_left
  · (try dsimp only at hw); go_simp; first | done | with_reducible rfl
  refine Eng.Sch.take (v := ?_) rfl rfl (by decide) (by kernel_rfl) (fun w hw => ?_) ?_
  rotate_left
  · (try dsimp only at hw); go_simp; first | done | with_reducible rfl
  refine Eng.Sch.take (v := ?_) rfl rfl (by decide) (by kernel_rfl) (fun w hw => ?_) ?_
  rotate_left
  · (try dsimp only at hw); go_simp; first | done | with_reducible rfl
  refine Eng.Sch.take (v := ?_) rfl rfl (by decide) (by kernel_rfl) (fun w hw => ?_) ?_
  rotate_left
  · (try dsimp only at hw); go_simp; first | done | with_reducible rfl
  refine Eng.Sch.take (v := ?_) rfl rfl (by decide) (by kernel_rfl) (fun w hw => ?_) ?_
  rotate_left
  · (try dsimp only at hw); go_simp; first | done | with_reducible rfl
  refine Eng.Sch.take (v := ?_) rfl rfl (by decide) (by kernel_rfl) (fun w hw => ?_) ?_
  rotate_left
  · (try dsimp only at hw); go_simp; first | done | with_reducible rfl
  refine Eng.Sch.take (v := ?_) rfl rfl (by decide) (by kernel_rfl) (fun w hw => ?_) ?_
  rotate_left
  · (try dsimp only at hw); go_simp; first | done | with_reducible rfl
  refine Eng.Sch.take (v := ?_) rfl rfl (by decide) (by kernel_rfl) (fun w hw => ?_) ?_
  rotate_left
  · (try dsimp only at hw); go_simp; first | done | with_reducible rfl
  refine Eng.Sch.take (v := ?_) rfl rfl (by decide) (by kernel_rfl) (fun w hw => ?_) ?_
  rotate_left
  · (try dsimp only at hw); go_simp; first | done | with_reducible rfl
  refine Eng.Sch.take (v := ?_) rfl rfl (by decide) (by kernel_rfl) (fun w hw => ?_) ?_
  rotate_left
  · (try dsimp only at hw); go_simp; first | done | with_reducible rfl
  refine Eng.Sch.call rfl rfl (by decide) (by kernel_rfl) ?_ (HSt.out.add hR hm h1) ?_
  · go_simp
  rintro e w2 ⟨rfl, hT⟩
  have HSt1 := Lib.hid (hT)
  have hSS : w2.cell? ⟨b1, o1 + j * 2 + 1, none⟩ = some (.slice y.A y.L.length y.c) := (HSt1.out.zs.bel.cell (p := ⟨b1, _, none⟩) hlow).trans e1
  clear hT
  refine ⟨_, rfl, hSS, ?_⟩
  refine Eng.Sch.call rfl rfl (by decide) (by kernel_rfl) ?_ (HSt1.out.addX hR hm2 h2) ?_
  · go_simp
  rintro e w3 ⟨rfl, F2, hT⟩
  have HSt2 := Lib.hid (hT)
  have hSS : w3.cell? ⟨b1, o1 + j * 2 + 1, none⟩ = some (.slice y.A y.L.length y.c) := (HSt2.out.zs.bel.cell (p := ⟨b1, _, none⟩) hlow).trans e1
  clear hT
  refine ⟨_, rfl, hSS, ?_⟩
  refine Eng.Sch.take (v := ?_) rfl rfl (by decide) (by kernel_rfl) (fun w hw => ?_) ?_
  rotate_left
  · (try dsimp only at hw); go_simp; first | done | with_reducible rfl
  refine Eng.Sch.end_ [53, 54, 55, 56, 57, 58, 59, 60, 61, 62, 63, 64, 65, 66, 67] HN.out (by kernel_rfl) (by kernel_rfl) ?_
  exact HP.out _ _ _ rfl HSt2.out

set_option maxRecDepth 100000 in
set_option maxHeartbeats 400000 in
theorem p14 {ops : Array Oper} (hops : Eng.fnOps Try.f3 14 = ops) (a0 : Act) (Q : Exit → Act → World → Prop) (w0 w : World) (B r Bx Bn Bl : Nat) (all tr : Int) (L : List (Int × Int)) (T : List Int) (FX : List Nat) (AX AT : Option Addr) (cX cT : Nat) (hst : S3 w0 w B r Bx Bn Bl all tr L T FX AX cX AT cT)
    (hn : a0.tmps.size = 164) (h_7 : a0.tmps.getD 7 undef = .pointer (some ⟨B, 0, none⟩)) (h_8 : a0.tmps.getD 8 undef = .pointer (some ⟨Bx, 0, none⟩)) (h_11 : a0.tmps.getD 11 undef = .slice AT (trT T).length cT)
    (hpost : ∀ (x : Nat → Value) (w' : World), x 84 = .bool false → S3 w0 w' B r Bx Bn Bl all tr L T FX AX cX AT cT → Q .normal (Eng.setAll a0 [70, 71, 72, 73, 74, 75, 76, 77, 78, 79, 80, 81, 82, 83, 84] x) w') :
    (Code.region 14 ops true).wp Try.prog Q a0 w := by
  simp only [Eng.fnOps, Eng.regOps, Try.f3, Option.bind_some, Option.getD_some, Nat.reduceEqDiff, ↓reduceIte, Nat.reduceBEq] at hops
  subst hops
  have q1 : ((T.length : Int) != (T.length : Int)) = false := by simp
  have HSt := Lib.hid (hst.fr (Fr.drew _ _))
  have hSS : w.drew.cell? ⟨Bx, 2, none⟩ = some (.slice AX T.length cX) := HSt.out.hd.cell 2
  refine Eng.regionN [(0, true), (2, true), (3, true), (4, true), (5, true), (6, true), (1, false), (7, true), (8, true), (9, true), (11, true), (10, false), (12, false), (13, true), (14, true)] (fun w' => w'.cell? ⟨Bx, 2, none⟩ = some (.slice AX T.length cX)) (by kernel_rfl) 164 hn (by kernel_rfl) rfl (by kernel_rfl) (hSS) (fun a b ha hb => ?_)
  subst ha
  have hb7 : b 7 = .pointer (some ⟨B, 0, none⟩) := (hb 7).symm.trans h_7
  have hb8 : b 8 = .pointer (some ⟨Bx, 0, none⟩) := (hb 8).symm.trans h_8
  have hb11 : b 11 = .slice AT (trT T).length cT := (hb 11).symm.trans h_11
  clear hb h_7 h_8 h_11
  have HP := Lib.hid hpost; have HN := Lib.hid hn
  clear hpost hn
  refine Eng.Sch.take (v := ?_) rfl rfl (by decide) (by kernel_rfl) (fun w hw => ?_) ?_
  rotate_left
  · (try dsimp only at hw); go_simp; first | done | with_reducible rfl
  refine Eng.Sch.take (v := ?_) rfl rfl (by decide) (by kernel_rfl) (fun w hw => ?_) ?_
  rotate_left
  · (try dsimp only at hw); go_simp; first | done | with_reducible rfl
  refine Eng.Sch.take (v := ?_) rfl rfl (by decide) (by kernel_rfl) (fun w hw => ?_) ?_
  rotate_left
  · (try dsimp only at hw); go_simp; first | done | with_reducible rfl
  refine Eng.Sch.take (v := ?_) rfl rfl (by decide) (by kernel_rfl) (fun w hw => ?_) ?_
  rotate_left
  · (try dsimp only at hw); go_simp; first | done | with_reducible rfl
  refine Eng.Sch.take (v := ?_) rfl rfl (by decide) (by kernel_rfl) (fun w hw => ?_) ?_
  rotate_left
  · (try dsimp only at hw); go_simp; first | done | with_reducible rfl
  refine Eng.Sch.take (v := ?_) rfl rfl (by decide) (by kernel_rfl) (fun w hw => ?_) ?_
  rotate_left
  · (try dsimp only at hw); go_simp; first | done | with_reducible rfl
  refine Eng.Sch.call rfl rfl (by decide) (by kernel_rfl) ?_ (HSt.out.len) ?_
  · go_simp
  rintro e w_1 ⟨rfl, rfl⟩
  refine ⟨_, rfl, hSS, ?_⟩
  refine Eng.Sch.take (v := ?_) rfl rfl (by decide) (by kernel_rfl) (fun w hw => ?_) ?_
  rotate_left
  · (try dsimp only at hw); go_simp; first | done | with_reducible rfl
  refine Eng.Sch.take (v := ?_) rfl rfl (by decide) (by kernel_rfl) (fun w hw => ?_) ?_
  rotate_left
  · (try dsimp only at hw); go_simp; first | done | with_reducible rfl
  refine Eng.Sch.take (v := ?_) rfl rfl (by decide) (by kernel_rfl) (fun w hw => ?_) ?_
  rotate_left
  · (try dsimp only at hw); go_simp; first | done | with_reducible rfl
  refine Eng.Sch.take (v := ?_) rfl rfl (by decide) (by kernel_rfl) (fun w hw => ?_) ?_
  rotate_left
  · (try dsimp only at hw); go_simp; first | done | with_reducible rfl
  refine Eng.Sch.call rfl rfl (by decide) (by kernel_rfl) ?_ (HSt.out.traces) ?_
  · go_simp
  rintro e w2 ⟨A3, c3, rfl, hS3, hf3⟩
  have HS3 := Lib.hid hS3
  have HSt1 := Lib.hid (HSt.out.fr hf3)
  have hSS : w2.cell? ⟨Bx, 2, none⟩ = some (.slice AX T.length cX) := HSt1.out.hd.cell 2
  clear hS3 hf3
  refine ⟨_, rfl, hSS, ?_⟩
  refine Eng.Sch.call rfl rfl (by decide) (by kernel_rfl) ?_ (HSt1.out.same HS3.out) ?_
  · go_simp
  rintro e w3 ⟨rfl, hf4⟩
  have HSt2 := Lib.hid (HSt1.out.fr hf4)
  have hSS : w3.cell? ⟨Bx, 2, none⟩ = some (.slice AX T.length cX) := HSt2.out.hd.cell 2
  clear hf4
  refine ⟨_, rfl, hSS, ?_⟩
  refine Eng.Sch.take (v := ?_) rfl rfl (by decide) (by kernel_rfl) (fun w hw => ?_) ?_
  rotate_left
  · (try dsimp only at hw); go_simp; first | done | with_reducible rfl
  refine Eng.Sch.take (v := ?_) rfl rfl (by decide) (by kernel_rfl) (fun w hw => ?_) ?_
  rotate_left
  · (try dsimp only at hw); go_simp; first | done | with_reducible rfl
  refine Eng.Sch.end_ [70, 71, 72, 73, 74, 75, 76, 77, 78, 79, 80, 81, 82, 83, 84] HN.out (by kernel_rfl) (by kernel_rfl) ?_
  exact HP.out _ _ rfl HSt2.out

set_option maxRecDepth 100000 in
set_option maxHeartbeats 400000 in
theorem p19 {ops : Array Oper} (hops : Eng.fnOps Try.f3 19 = ops) (a0 : Act) (Q : Exit → Act → World → Prop) (w0 w : World) (B r Bx Bn Bl : Nat) (all tr : Int) (L : List (Int × Int)) (T : List Int) (FX : List Nat) (AX AT : Option Addr) (cX cT : Nat) (hst : S3 w0 w B r Bx Bn Bl all tr L T FX AX cX AT cT) (k : Nat) (t : Int) (b2 o2 : Nat) (hAT : AT = some ⟨b2, o2, none⟩) (hk : k < (trT T).length) (ht : wfI t) (e2 : ∀ w', Fr (fun _ => False) w w' → w'.cell? ⟨b2, o2 + k, none⟩ = some (.int .i64 t))
    (hn : a0.tmps.size = 164) (h_7 : a0.tmps.getD 7 undef = .pointer (some ⟨B, 0, none⟩)) (h_8 : a0.tmps.getD 8 undef = .pointer (some ⟨Bx, 0, none⟩)) (h_11 : a0.tmps.getD 11 undef = .slice (some ⟨b2, o2, none⟩) (trT T).length cT) (h_12 : a0.tmps.getD 12 undef = .int .i64 (k : Int))
    (hpost : ∀ (x : Nat → Value) (w' : World), x 103 = .bool false → S3 w0 w' B r Bx Bn Bl all tr L T FX AX cX AT cT → Q .normal (Eng.setAll a0 [91, 92, 93, 94, 95, 96, 97, 98, 99, 100, 101, 102, 103] x) w') :
    (Code.region 19 ops true).wp Try.prog Q a0 w := by
  simp only [Eng.fnOps, Eng.regOps, Try.f3, Option.bind_some, Option.getD_some, Nat.reduceEqDiff, ↓reduceIte, Nat.reduceBEq] at hops
  subst hops
  have q0 : (0 : Int) ≤ (k : Int) := by omega
  have q1 : (k : Int) < ((trT T).length : Int) := by omega
  have q2 : (((T.count t : Nat) : Int) != ((T.count t : Nat) : Int)) = false := by simp
  have HSt := Lib.hid (hst.fr (Fr.drew _ _))
  have hSS : w.drew.cell? ⟨b2, o2 + k, none⟩ = some (.int .i64 t) := e2 _ (Fr.drew _ _)
  refine Eng.regionN [(0, true), (1, true), (2, true), (3, true), (4, true), (6, true), (7, true), (8, true), (9, true), (10, true), (5, false), (11, false), (12, true)] (fun w' => w'.cell? ⟨b2, o2 + k, none⟩ = some (.int .i64 t)) (by kernel_rfl) 164 hn (by kernel_rfl) rfl (by kernel_rfl) (hSS) (fun a b ha hb => ?_)
  subst ha
  have hb7 : b 7 = .pointer (some ⟨B, 0, none⟩) := (hb 7).symm.trans h_7
  have hb8 : b 8 = .pointer (some ⟨Bx, 0, none⟩) := (hb 8).symm.trans h_8
  have hb11 : b 11 = .slice (some ⟨b2, o2, none⟩) (trT T).length cT := (hb 11).symm.trans h_11
  have hb12 : b 12 = .int .i64 (k : Int) := (hb 12).symm.trans h_12
  clear hb h_7 h_8 h_11 h_12
  have HP := Lib.hid hpost; have HN := Lib.hid hn
  clear hpost hn
  refine Eng.Sch.take (v := ?_) rfl rfl (by decide) (by kernel_rfl) (fun w hw => ?_) ?_
  rotate_left
  · (try dsimp only at hw); go_simp; first | done | with_reducible rfl
  refine Eng.Sch.take (v := ?_) rfl rfl (by decide) (by kernel_rfl) (fun w hw => ?_) ?_
  rotate_left
  · (try dsimp only at hw); go_simp; first | done | with_reducible rfl
  refine Eng.Sch.take (v := ?_) rfl rfl (by decide) (by kernel_rfl) (fun w hw => ?_) ?_
  rotate_left
  · (try dsimp only at hw); go_simp; first | done | with_reducible rfl
  refine Eng.Sch.take (v := ?_) rfl rfl (by decide) (by kernel_rfl) (fun w hw => ?_) ?_
  rotate_left
  · (try dsimp only at hw); go_simp; first | done | with_reducible rfl
  refine Eng.Sch.take (v := ?_) rfl rfl (by decide) (by kernel_rfl) (fun w hw => ?_) ?_
  rotate_left
  · (try dsimp only at hw); go_simp; first | done | with_reducible rfl
  refine Eng.Sch.take (v := ?_) rfl rfl (by decide) (by kernel_rfl) (fun w hw => ?_) ?_
  rotate_left
  · (try dsimp only at hw); go_simp; first | done | with_reducible rfl
  refine Eng.Sch.take (v := ?_) rfl rfl (by decide) (by kernel_rfl) (fun w hw => ?_) ?_
  rotate_left
  · (try dsimp only at hw); go_simp; first | done | with_reducible rfl
  refine Eng.Sch.take (v := ?_) rfl rfl (by decide) (by kernel_rfl) (fun w hw => ?_) ?_
  rotate_left
  · (try dsimp only at hw); go_simp; first | done | with_reducible rfl
  refine Eng.Sch.take (v := ?_) rfl rfl (by decide) (by kernel_rfl) (fun w hw => ?_) ?_
  rotate_left
  · (try dsimp only at hw); go_simp; first | done | with_reducible rfl
  refine Eng.Sch.take (v := ?_) rfl rfl (by decide) (by kernel_rfl) (fun w hw => ?_) ?_
  rotate_left
  · (try dsimp only at hw); go_simp; first | done | with_reducible rfl
  refine Eng.Sch.call rfl rfl (by decide) (by kernel_rfl) ?_ (HSt.out.of ht) ?_
  · go_simp
  rintro e w_1 ⟨rfl, rfl⟩
  refine ⟨_, rfl, hSS, ?_⟩
  refine Eng.Sch.call rfl rfl (by decide) (by kernel_rfl) ?_ (HSt.out.s.x.of t) ?_
  · go_simp
  rintro e w_1 ⟨rfl, rfl⟩
  refine ⟨_, rfl, hSS, ?_⟩
  refine Eng.Sch.take (v := ?_) rfl rfl (by decide) (by kernel_rfl) (fun w hw => ?_) ?_
  rotate_left
  · (try dsimp only at hw); go_simp; first | done | with_reducible rfl
  refine Eng.Sch.end_ [91, 92, 93, 94, 95, 96, 97, 98, 99, 100, 101, 102, 103] HN.out (by kernel_rfl) (by kernel_rfl) ?_
  exact HP.out _ _ rfl HSt.out

set_option maxRecDepth 100000 in
set_option maxHeartbeats 400000 in
theorem p24 {ops : Array Oper} (hops : Eng.fnOps Try.f3 24 = ops) (a0 : Act) (Q : Exit → Act → World → Prop) (w0 w : World) (B r Bx Bn Bl b1 o1 c0 len j : Nat) (all tr : Int) (L : List (Int × Int)) (T : List Int) (FX : List Nat) (AX AT : Option Addr) (cX cT : Nat) (hst : S3 w0 w B r Bx Bn Bl all tr L T FX AX cX AT cT) (y : Ac) (hlow : b1 < w0.heap.size) (hj : j < len) (hR : Rd w0 y) (e1 : w0.cell? ⟨b1, o1 + j * 2 + 1, none⟩ = some (.slice y.A y.L.length y.c)) (k : Nat) (p : Option Addr) (hk : k < 2) (hp : (#[Value.pointer none, .pointer (some ⟨Bn, 0, none⟩)])[k]? = some (.pointer p))
    (hn : a0.tmps.size = 164) (h_2 : a0.tmps.getD 2 undef = .slice (some ⟨b1, o1, none⟩) len c0) (h_9 : a0.tmps.getD 9 undef = .slice (some ⟨Bl, 0, none⟩) 2 2) (h_10 : a0.tmps.getD 10 undef = .int .i64 (j : Int)) (h_13 : a0.tmps.getD 13 undef = .int .i64 (k : Int))
    (hpost : ∀ (x : Nat → Value) (w' : World), S3 w0 w' B r Bx Bn Bl all tr L T FX AX cX AT cT → Q .normal (Eng.setAll a0 [110, 111, 112, 113, 114, 115, 116, 117, 118, 119] x) w') :
    (Code.region 24 ops true).wp Try.prog Q a0 w := by
  simp only [Eng.fnOps, Eng.regOps, Try.f3, Option.bind_some, Option.getD_some, Nat.reduceEqDiff, ↓reduceIte, Nat.reduceBEq] at hops
  subst hops
  have q1 : (0 : Int) ≤ (j : Int) := by omega
  have q2 : (j : Int) < (len : Int) := by omega
  have q3 : (0 : Int) ≤ (k : Int) := by omega
  have q4 : (k : Int) < 2 := by omega
  have HSt := Lib.hid (hst.fr (Fr.drew _ _))
  have hSS : w.drew.cell? ⟨Bl, k, none⟩ = some (.pointer p) ∧ w.drew.cell? ⟨b1, o1 + j * 2 + 1, none⟩ = some (.slice y.A y.L.length y.c) := ⟨(HSt.out.s.nl.cell k).trans hp, (HSt.out.s.zs.bel.cell (p := ⟨b1, _, none⟩) hlow).trans e1⟩
  refine Eng.regionN [(0, true), (1, true), (2, true), (3, true), (4, true), (5, true), (6, true), (7, true), (8, true), (9, false)] (fun w' => w'.cell? ⟨Bl, k, none⟩ = some (.pointer p) ∧ w'.cell? ⟨b1, o1 + j * 2 + 1, none⟩ = some (.slice y.A y.L.length y.c)) (by kernel_rfl) 164 hn (by kernel_rfl) rfl (by kernel_rfl) (hSS) (fun a b ha hb => ?_)
  subst ha
  have hb2 : b 2 = .slice (some ⟨b1, o1, none⟩) len c0 := (hb 2).symm.trans h_2
  have hb9 : b 9 = .slice (some ⟨Bl, 0, none⟩) 2 2 := (hb 9).symm.trans h_9
  have hb10 : b 10 = .int .i64 (j : Int) := (hb 10).symm.trans h_10
  have hb13 : b 13 = .int .i64 (k : Int) := (hb 13).symm.trans h_13
  clear hb h_2 h_9 h_10 h_13
  have HP := Lib.hid hpost; have HN := Lib.hid hn
  clear hpost hn
  refine Eng.Sch.take (v := ?_) rfl rfl (by decide) (by kernel_rfl) (fun w hw => ?_) ?_
  rotate_left
  · (try dsimp only at hw); go_simp; first | done | with_reducible rfl
  refine Eng.Sch.take (v := ?_) rfl rfl (by decide) (by kernel_rfl) (fun w hw => ?_) ?_
  rotate_left
  · (try dsimp only at hw); go_simp; first | done | with_reducible rfl
  refine Eng.Sch.take (v := ?_) rfl rfl (by decide) (by kernel_rfl) (fun w hw => ?_) ?_
  rotate_left
  · (try dsimp only at hw); go_simp; first | done | with_reducible rfl
  refine Eng.Sch.take (v := ?_) rfl rfl (by decide) (by kernel_rfl) (fun w hw => ?_) ?_
  rotate_left
  · (try dsimp only at hw); go_simp; first | done | with_reducible rfl
  refine Eng.Sch.take (v := ?_) rfl rfl (by decide) (by kernel_rfl) (fun w hw => ?_) ?_
  rotate_left
  · (try dsimp only at hw); go_simp; first | done | with_reducible rfl
  refine Eng.Sch.take (v := ?_) rfl rfl (by decide) (by kernel_rfl) (fun w hw => ?_) ?_
  rotate_left
  · (try dsimp only at hw); go_simp; first | done | with_reducible rfl
  refine Eng.Sch.take (v := ?_) rfl rfl (by decide) (by kernel_rfl) (fun w hw => ?_) ?_
  rotate_left
  · (try dsimp only at hw); go_simp; first | done | with_reducible rfl
  refine Eng.Sch.take (v := ?_) rfl rfl (by decide) (by kernel_rfl) (fun w hw => ?_) ?_
  rotate_left
  · (try dsimp only at hw); go_simp; first | done | with_reducible rfl
  refine Eng.Sch.take (v := ?_) rfl rfl (by decide) (by kernel_rfl) (fun w hw => ?_) ?_
  rotate_left
  · (try dsimp only at hw); go_simp; first | done | with_reducible rfl
  refine Eng.Sch.call rfl rfl (by decide) (by kernel_rfl) ?_ (Drop_nob p y.A y.c y.L _ (HSt.out.nob hp) (hR.sl HSt.out.s.zs.bel) hR.2) ?_
  · go_simp
  rintro e w2 ⟨rfl, hf⟩
  have HSt1 := Lib.hid (HSt.out.fr hf)
  have hSS : w2.cell? ⟨Bl, k, none⟩ = some (.pointer p) ∧ w2.cell? ⟨b1, o1 + j * 2 + 1, none⟩ = some (.slice y.A y.L.length y.c) := ⟨(HSt1.out.s.nl.cell k).trans hp, (HSt1.out.s.zs.bel.cell (p := ⟨b1, _, none⟩) hlow).trans e1⟩
  clear hf
  refine ⟨_, rfl, hSS, ?_⟩
  refine Eng.Sch.end_ [110, 111, 112, 113, 114, 115, 116, 117, 118, 119] HN.out (by kernel_rfl) (by kernel_rfl) ?_
  exact HP.out _ _ HSt1.out

set_option maxRecDepth 100000 in
set_option maxHeartbeats 400000 in
theorem p25 {ops : Array Oper} (hops : Eng.fnOps Try.f3 25 = ops) (a0 : Act) (Q : Exit → Act → World → Prop) (w0 w : World) (B r Bx Bn Bl b1 o1 c0 len j : Nat) (all tr : Int) (L : List (Int × Int)) (T : List Int) (FX : List Nat) (AX AT : Option Addr) (cX cT : Nat) (hst : S3 w0 w B r Bx Bn Bl all tr L T FX AX cX AT cT) (y : Ac) (hlow : b1 < w0.heap.size) (hj : j < len) (hR : Rd w0 y) (e1 : w0.cell? ⟨b1, o1 + j * 2 + 1, none⟩ = some (.slice y.A y.L.length y.c)) (k : Nat) (p : Option Addr) (hk : k < 2) (hp : (#[Value.pointer none, .pointer (some ⟨Bn, 0, none⟩)])[k]? = some (.pointer p))
    (hn : a0.tmps.size = 164) (h_2 : a0.tmps.getD 2 undef = .slice (some ⟨b1, o1, none⟩) len c0) (h_9 : a0.tmps.getD 9 undef = .slice (some ⟨Bl, 0, none⟩) 2 2) (h_10 : a0.tmps.getD 10 undef = .int .i64 (j : Int)) (h_13 : a0.tmps.getD 13 undef = .int .i64 (k : Int))
    (hpost : ∀ (x : Nat → Value) (w' : World), x 162 = .bool false → S3 w0 w' B r Bx Bn Bl all tr L T FX AX cX AT cT → Q .normal (Eng.setAll a0 [120, 121, 122, 123, 124, 125, 126, 127, 128, 129, 130, 131, 132, 133, 134, 135, 136, 137, 138, 139, 140, 141, 142, 143, 144, 145, 146, 147, 148, 149, 150, 151, 152, 153, 154, 155, 156, 157, 158, 159, 160, 161, 162] x) w') :
    (Code.region 25 ops true).wp Try.prog Q a0 w := by
  simp only [Eng.fnOps, Eng.regOps, Try.f3, Option.bind_some, Option.getD_some, Nat.reduceEqDiff, ↓reduceIte, Nat.reduceBEq] at hops
  subst hops
  have q1 : (0 : Int) ≤ (j : Int) := by omega
  have q2 : (j : Int) < (len : Int) := by omega
  have q3 : (0 : Int) ≤ (k : Int) := by omega
  have q4 : (k : Int) < 2 := by omega
  have q5 : (((y.L.length : Int) == 0) != ((y.L.length : Int) == 0)) = false := by simp
  have HSt := Lib.hid (hst.fr (Fr.drew _ _))
  have hSS : w.drew.cell? ⟨Bl, k, none⟩ = some (.pointer p) ∧ w.drew.cell? ⟨b1, o1 + j * 2 + 1, none⟩ = some (.slice y.A y.L.length y.c) := ⟨(HSt.out.s.nl.cell k).trans hp, (HSt.out.s.zs.bel.cell (p := ⟨b1, _, none⟩) hlow).trans e1⟩
  refine Eng.regionN [(0, true), (1, true), (2, true), (3, true), (4, true), (5, true), (6, true), (7, true), (8, true), (10, true), (11, true), (12, true), (13, true), (14, true), (15, true), (16, true), (9, false), (17, true), (18, true), (19, true), (20, true), (21, true), (22, true), (23, false), (24, true), (25, true), (26, true), (27, true), (28, true), (29, true), (30, true), (31, false), (32, true), (33, true), (34, true), (35, true), (36, true), (37, true), (38, true), (39, false), (40, true), (41, true), (42, true)] (fun w' => w'.cell? ⟨Bl, k, none⟩ = some (.pointer p) ∧ w'.cell? ⟨b1, o1 + j * 2 + 1, none⟩ = some (.slice y.A y.L.length y.c)) (by kernel_rfl) 164 hn (by kernel_rfl) rfl (by kernel_rfl) (hSS) (fun a b ha hb => ?_)
  subst ha
  have hb2 : b 2 = .slice (some ⟨b1, o1, none⟩) len c0 := (hb 2).symm.trans h_2
  have hb9 : b 9 = .slice (some ⟨Bl, 0, none⟩) 2 2 := (hb 9).symm.trans h_9
  have hb10 : b 10 = .int .i64 (j : Int) := (hb 10).symm.trans h_10
  have hb13 : b 13 = .int .i64 (k : Int) := (hb 13).symm.trans h_13
  clear hb h_2 h_9 h_10 h_13
  have HP := Lib.hid hpost; have HN := Lib.hid hn
  clear hpost hn
  refine Eng.Sch.take (v := ?_) rfl rfl (by decide) (by kernel_rfl) (fun w hw => ?_) ?_
  rotate_left
  · (try dsimp only at hw); go_simp; first | done | with_reducible rfl
  refine Eng.Sch.take (v := ?_) rfl rfl (by decide) (by kernel_rfl) (fun w hw => ?_) ?_
  rotate_left
  · (try dsimp only at hw); go_simp; first | done | with_reducible rfl
  refine Eng.Sch.take (v := ?_) rfl rfl (by decide) (by kernel_rfl) (fun w hw => ?_) ?_
  rotate_left
  · (try dsimp only at hw); go_simp; first | done | with_reducible rfl
  refine Eng.Sch.take (v := ?_) rfl rfl (by decide) (by kernel_rfl) (fun w hw => ?_) ?_
  rotate_left
  · (try dsimp only at hw); go_simp; first | done | with_reducible rfl
  refine Eng.Sch.take (v := ?_) rfl rfl (by decide) (by kernel_rfl) (fun w hw => ?_) ?_
  rotate_left
  · (try dsimp only at hw); go_simp; first | done | with_reducible rfl
  refine Eng.Sch.take (v := ?_) rfl rfl (by decide) (by kernel_rfl) (fun w hw => ?_) ?_
  rotate_left
  · (try dsimp only at hw); go_simp; first | done | with_reducible rfl
  refine Eng.Sch.take (v := ?_) rfl rfl (by decide) (by kernel_rfl) (fun w hw => ?_) ?_
  rotate_left
  · (try dsimp only at hw); go_simp; first | done | with_reducible rfl
  refine Eng.Sch.take (v := ?_) rfl rfl (by decide) (by kernel_rfl) (fun w hw => ?_) ?_
  rotate_left
  · (try dsimp only at hw); go_simp; first | done | with_reducible rfl
  refine Eng.Sch.take (v := ?_) rfl rfl (by decide) (by kernel_rfl) (fun w hw => ?_) ?_
  rotate_left
  · (try dsimp only at hw); go_simp; first | done | with_reducible rfl
  refine Eng.Sch.take (v := ?_) rfl rfl (by decide) (by kernel_rfl) (fun w hw => ?_) ?_
  rotate_left
  · (try dsimp only at hw); go_simp; first | done | with_reducible rfl
  refine Eng.Sch.take (v := ?_) rfl rfl (by decide) (by kernel_rfl) (fun w hw => ?_) ?_
  rotate_left
  · (try dsimp only at hw); go_simp; first | done | with_reducible rfl
  refine Eng.Sch.take (v := ?_) rfl rfl (by decide) (by kernel_rfl) (fun w hw => ?_) ?_
  rotate_left
  · (try dsimp only at hw); go_simp; first | done | with_reducible rfl
  refine Eng.Sch.take (v := ?_) rfl rfl (by decide) (by kernel_rfl) (fun w hw => ?_) ?_
  rotate_left
  · (try dsimp only at hw); go_simp; first | done | with_reducible rfl
  refine Eng.Sch.take (v := ?_) rfl rfl (by decide) (by kernel_rfl) (fun w hw => ?_) ?_
  rotate_left
  · (try dsimp only at hw); go_simp; first | done | with_reducible rfl
  refine Eng.Sch.take (v := ?_) rfl rfl (by decide) (by kernel_rfl) (fun w hw => ?_) ?_
  rotate_left
  · (try dsimp only at hw); go_simp; first | done | with_reducible rfl
  refine Eng.Sch.take (v := ?_) rfl rfl (by decide) (by kernel_rfl) (fun w hw => ?_) ?_
  rotate_left
  · (try dsimp only at hw); go_simp; first | done | with_reducible rfl
  refine Eng.Sch.call rfl rfl (by decide) (by kernel_rfl) ?_ (Add_nob p y.A y.c y.L _ (HSt.out.nob hp) (hR.sl HSt.out.s.zs.bel) hR.2) ?_
  · go_simp
  rintro e w2 ⟨rfl, hf⟩
  have HSt1 := Lib.hid (HSt.out.fr hf)
  have hSS : w2.cell? ⟨Bl, k, none⟩ = some (.pointer p) ∧ w2.cell? ⟨b1, o1 + j * 2 + 1, none⟩ = some (.slice y.A y.L.length y.c) := ⟨(HSt1.out.s.nl.cell k).trans hp, (HSt1.out.s.zs.bel.cell (p := ⟨b1, _, none⟩) hlow).trans e1⟩
  clear hf
  refine ⟨_, rfl, hSS, ?_⟩
  refine Eng.Sch.take (v := ?_) rfl rfl (by decide) (by kernel_rfl) (fun w hw => ?_) ?_
  rotate_left
  · (try dsimp only at hw); go_simp; first | done | with_reducible rfl
  refine Eng.Sch.take (v := ?_) rfl rfl (by decide) (by kernel_rfl) (fun w hw => ?_) ?_
  rotate_left
  · (try dsimp only at hw); go_simp; first | done | with_reducible rfl
  refine Eng.Sch.take (v := ?_) rfl rfl (by decide) (by kernel_rfl) (fun w hw => ?_) ?_
  rotate_left
  · (try dsimp only at hw); go_simp; first | done | with_reducible rfl
  refine Eng.Sch.take (v := ?_) rfl rfl (by decide) (by kernel_rfl) (fun w hw => ?_) ?_
  rotate_left
  · (try dsimp only at hw); go_simp; first | done | with_reducible rfl
  refine Eng.Sch.take (v := ?_) rfl rfl (by decide) (by kernel_rfl) (fun w hw => ?_) ?_
  rotate_left
  · (try dsimp only at hw); go_simp; first | done | with_reducible rfl
  refine Eng.Sch.take (v := ?_) rfl rfl (by decide) (by kernel_rfl) (fun w hw => ?_) ?_
  rotate_left
  · (try dsimp only at hw); go_simp; first | done | with_reducible rfl
  refine Eng.Sch.call rfl rfl (by decide) (by kernel_rfl) ?_ (Len_nob p _ (HSt1.out.nob hp)) ?_
  · go_simp
  rintro e w_2 ⟨rfl, rfl⟩
  refine ⟨_, rfl, hSS, ?_⟩
  refine Eng.Sch.take (v := ?_) rfl rfl (by decide) (by kernel_rfl) (fun w hw => ?_) ?_
  rotate_left
  · (try dsimp only at hw); go_simp; first | done | with_reducible rfl
  refine Eng.Sch.take (v := ?_) rfl rfl (by decide) (by kernel_rfl) (fun w hw => ?_) ?_
  rotate_left
  · (try dsimp only at hw); go_simp; first | done | with_reducible rfl
  refine Eng.Sch.take (v := ?_) rfl rfl (by decide) (by kernel_rfl) (fun w hw => ?_) ?_
  rotate_left
  · (try dsimp only at hw); go_simp; first | done | with_reducible rfl
  refine Eng.Sch.take (v := ?_) rfl rfl (by decide) (by kernel_rfl) (fun w hw => ?_) ?_
  rotate_left
  · (try dsimp only at hw); go_simp; first | done | with_reducible rfl
  refine Eng.Sch.take (v := ?_) rfl rfl (by decide) (by kernel_rfl) (fun w hw => ?_) ?_
  rotate_left
  · (try dsimp only at hw); go_simp; first | done | with_reducible rfl
  refine Eng.Sch.take (v := ?_) rfl rfl (by decide) (by kernel_rfl) (fun w hw => ?_) ?_
  rotate_left
  · (try dsimp only at hw); go_simp; first | done | with_reducible rfl
  refine Eng.Sch.take (v := ?_) rfl rfl (by decide) (by kernel_rfl) (fun w hw => ?_) ?_
  rotate_left
  · (try dsimp only at hw); go_simp; first | done | with_reducible rfl
  refine Eng.Sch.call rfl rfl (by decide) (by kernel_rfl) ?_ (Of_nob p 1 _ (HSt1.out.nob hp) (wf_small (by omega) (by omega))) ?_
  · go_simp
  rintro e w_2 ⟨rfl, rfl⟩
  refine ⟨_, rfl, hSS, ?_⟩
  refine Eng.Sch.take (v := ?_) rfl rfl (by decide) (by kernel_rfl) (fun w hw => ?_) ?_
  rotate_left
  · (try dsimp only at hw); go_simp; first | done | with_reducible rfl
  refine Eng.Sch.take (v := ?_) rfl rfl (by decide) (by kernel_rfl) (fun w hw => ?_) ?_
  rotate_left
  · (try dsimp only at hw); go_simp; first | done | with_reducible rfl
  refine Eng.Sch.take (v := ?_) rfl rfl (by decide) (by kernel_rfl) (fun w hw => ?_) ?_
  rotate_left
  · (try dsimp only at hw); go_simp; first | done | with_reducible rfl
  refine Eng.Sch.take (v := ?_) rfl rfl (by decide) (by kernel_rfl) (fun w hw => ?_) ?_
  rotate_left
  · (try dsimp only at hw); go_simp; first | done | with_reducible rfl
  refine Eng.Sch.take (v := ?_) rfl rfl (by decide) (by kernel_rfl) (fun w hw => ?_) ?_
  rotate_left
  · (try dsimp only at hw); go_simp; first | done | with_reducible rfl
  refine Eng.Sch.take (v := ?_) rfl rfl (by decide) (by kernel_rfl) (fun w hw => ?_) ?_
  rotate_left
  · (try dsimp only at hw); go_simp; first | done | with_reducible rfl
  refine Eng.Sch.take (v := ?_) rfl rfl (by decide) (by kernel_rfl) (fun w hw => ?_) ?_
  rotate_left
  · (try dsimp only at hw); go_simp; first | done | with_reducible rfl
  refine Eng.Sch.call rfl rfl (by decide) (by kernel_rfl) ?_ (Traces_nob p _ (HSt1.out.nob hp)) ?_
  · go_simp
  rintro e w3 ⟨v3, rfl, hown3, hb3⟩
  obtain ⟨A3, c3, rfl, -, -⟩ := Sl.of_own hown3
  have HSt2 := Lib.hid (HSt1.out.fr (Fr.of_below' hb3 _))
  have hSS : w3.cell? ⟨Bl, k, none⟩ = some (.pointer p) ∧ w3.cell? ⟨b1, o1 + j * 2 + 1, none⟩ = some (.slice y.A y.L.length y.c) := ⟨(HSt2.out.s.nl.cell k).trans hp, (HSt2.out.s.zs.bel.cell (p := ⟨b1, _, none⟩) hlow).trans e1⟩
  clear hown3 hb3
  refine ⟨_, rfl, hSS, ?_⟩
  refine Eng.Sch.take (v := ?_) rfl rfl (by decide) (by kernel_rfl) (fun w hw => ?_) ?_
  rotate_left
  · (try dsimp only at hw); go_simp; first | done | with_reducible rfl
  refine Eng.Sch.take (v := ?_) rfl rfl (by decide) (by kernel_rfl) (fun w hw => ?_) ?_
  rotate_left
  · (try dsimp only at hw); go_simp; first | done | with_reducible rfl
  refine Eng.Sch.take (v := ?_) rfl rfl (by decide) (by kernel_rfl) (fun w hw => ?_) ?_
  rotate_left
  · (try dsimp only at hw); go_simp; first | done | with_reducible rfl
  refine Eng.Sch.end_ [120, 121, 122, 123, 124, 125, 126, 127, 128, 129, 130, 131, 132, 133, 134, 135, 136, 137, 138, 139, 140, 141, 142, 143, 144, 145, 146, 147, 148, 149, 150, 151, 152, 153, 154, 155, 156, 157, 158, 159, 160, 161, 162] HN.out (by kernel_rfl) (by kernel_rfl) ?_
  exact HP.out _ _ rfl HSt2.out

end Law17
end Go.Proofs.Ytolpdgaomlhgdaa
