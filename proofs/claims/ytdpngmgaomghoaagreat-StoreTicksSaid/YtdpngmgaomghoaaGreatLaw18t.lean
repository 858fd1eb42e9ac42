/- Layer 18's statements: StoreTicks: for every input the answer is true. -/
import Derived.Test.YtdpngmgaomghoaaGreatLaw18f
namespace Go.Proofs.YtdpngmgaomghoaaGreat
open Go.RowKit
namespace Law18
open Name KeyP PackP SetP SetW SetF Delta Sto BagP
open Sat2 (endS cl cl_in)
attribute [local go_sem] Eng.ev Eng.getO_cons Eng.getO_nil
theorem can6 {f : Cf} {L : List Sn} {x : Sn} (hm : mayN x = 0) : (canE f L [x] == 6) = decide (endS x < hz f) := by
  unfold canE mayE
  simp only [List.any_cons, List.any_nil, Bool.or_false, hm]
  by_cases h : endS x < hz f
  · simp [h]
  · simp [h]
    split <;> decide
theorem in_past (h : Int) (L : List Sn) {x : Sn} (hx : x ∈ L) : decide (x ∈ L.filter (past h)) = decide (endS x < h) := by
  rw [Bool.eq_iff_iff]
  simp [List.mem_filter, hx, past]
theorem wo_past (h : Int) (L : List Sn) : wout (L.filter (past h)) L = L.filter (fun x => !past h x) := by
  unfold wout
  apply List.filter_congr
  intro x hx
  have h1 : decide (x ∈ L.filter (past h)) = past h x := in_past h L hx
  show (!decide (x ∈ L.filter (past h))) = _
  rw [h1]
theorem Wo {A A1 : Option Addr} {c c1 : Nat} {L M : List Sn} {w : World} (h : Ls w A c L) (h1 : Ls w A1 c1 M) (hl : L.length ≤ 1000000) (N : List Sn) (hN : wout M L = N) :
    Calls Tryz.prog 50 #[.slice A L.length c, .slice A1 M.length c1] w (LsPost N w) := by
  subst hN
  exact (SetW.Without A A1 c c1 L M w h.s h1.s hl).mono (fun e w' h2 => LsPost.of h2 (fun x hx => h.ok x (List.mem_filter.1 hx).1))
theorem HorE {B : Nat} {f : Cf} {L : List Sn} {F : List Nat} {w : World} {h : Int} (hs : St w B f L F) (hh : hz f = h) : Calls Tryz.prog 49 #[.pointer (some ⟨B, 0, none⟩)] w fun e w' => e = .returned (.int .i64 h) ∧ Fr (fun _ => False) w w' := by
  subst hh
  exact Sto.Horizon B f _ _ _ F w hs.s hs.f.2.2.1 hs.f.2.2.2
theorem NowE {B : Nat} {f : Cf} {L : List Sn} {F : List Nat} {w : World} {n : Int} (hs : St w B f L F) (hn : f.now = n) : Calls Tryz.prog 46 #[.pointer (some ⟨B, 0, none⟩)] w fun e w' => e = .returned (.int .i64 n) ∧ w = w' := by
  subst hn
  exact Sto.Now B f _ _ _ F w hs.s
/-- Behind the tick. -/
structure TK (w0 w : World) (B : Nat) (f2 : Cf) (L2 : List Sn) (F : List Nat) (bd : Nat) (Ao A2 : Option Addr) (co c2 : Nat) (O : List Sn) (Bc : Nat) (f : Cf) (A3 : Option Addr) (c3 : Nat) (L : List Sn) : Prop where
  z : AZ w0 w B f2 L2 F [(bd, #[.slice Ao O.length co, .slice A2 0 c2], TDl), (Bc, cfc f, TCf)] [(Ao, co, O), (A3, c3, L)]
section
variable {w0 w w' : World} {B : Nat} {f2 f3 : Cf} {L2 L3 : List Sn} {F F' : List Nat} {bd : Nat} {Ao A2 : Option Addr} {co c2 : Nat} {O : List Sn} {Bc : Nat} {f : Cf} {A3 : Option Addr} {c3 : Nat} {L : List Sn}
theorem TK.below (h : TK w0 w B f2 L2 F bd Ao A2 co c2 O Bc f A3 c3 L) (hb : Below w.heap.size w w') : TK w0 w' B f2 L2 F bd Ao A2 co c2 O Bc f A3 c3 L := ⟨h.z.below hb⟩
theorem TK.fr (h : TK w0 w B f2 L2 F bd Ao A2 co c2 O Bc f A3 c3 L) (hf : Fr (fun _ => False) w w') : TK w0 w' B f2 L2 F bd Ao A2 co c2 O Bc f A3 c3 L := ⟨h.z.fr hf⟩
theorem TK.lo (h : TK w0 w B f2 L2 F bd Ao A2 co c2 O Bc f A3 c3 L) : Ls w Ao co O := (h.z.k (Ao, co, O) (by simp)).1
theorem TK.lw (h : TK w0 w B f2 L2 F bd Ao A2 co c2 O Bc f A3 c3 L) : Ls w A3 c3 L := (h.z.k (A3, c3, L) (by simp)).1
theorem TK.d0 (h : TK w0 w B f2 L2 F bd Ao A2 co c2 O Bc f A3 c3 L) : w.cell? ⟨bd, 0, none⟩ = some (.slice Ao O.length co) := (h.z.d (bd, #[.slice Ao O.length co, .slice A2 0 c2], TDl) (by simp)).1.1.cell 0
theorem TK.d1 (h : TK w0 w B f2 L2 F bd Ao A2 co c2 O Bc f A3 c3 L) : w.cell? ⟨bd, 1, none⟩ = some (.slice A2 0 c2) := (h.z.d (bd, #[.slice Ao O.length co, .slice A2 0 c2], TDl) (by simp)).1.1.cell 1
end
/-- A record that stood ahead. -/
structure TR (w0 w : World) (B : Nat) (f2 : Cf) (L2 : List Sn) (F : List Nat) (bd : Nat) (Ao A2 : Option Addr) (co c2 : Nat) (O : List Sn) (Bc : Nat) (f : Cf) (A3 : Option Addr) (c3 : Nat) (L : List Sn) (b1 o1 k : Nat) (y : Sn) : Prop where
  t : TK w0 w B f2 L2 F bd Ao A2 co c2 O Bc f A3 c3 L
  a : At w b1 (o1 + k * 9) y
theorem TR.fr {w0 w w' : World} {B : Nat} {f2 : Cf} {L2 : List Sn} {F : List Nat} {bd : Nat} {Ao A2 : Option Addr} {co c2 : Nat} {O : List Sn} {Bc : Nat} {f : Cf} {A3 : Option Addr} {c3 : Nat} {L : List Sn} {b1 o1 k : Nat} {y : Sn} (h : TR w0 w B f2 L2 F bd Ao A2 co c2 O Bc f A3 c3 L b1 o1 k y) (hf : Fr (fun _ => False) w w') : TR w0 w' B f2 L2 F bd Ao A2 co c2 O Bc f A3 c3 L b1 o1 k y := ⟨h.t.fr hf, h.a.keep hf⟩
set_option maxRecDepth 100000 in
set_option maxHeartbeats 2000000 in
theorem ti13 {ops : Array Oper} (hops : Eng.fnOps Tryz.f7 13 = ops) (a0 : Act) (Q : Exit → Act → World → Prop) (w0 w : World) (B : Nat) (f2 : Cf) (L2 : List Sn) (F : List Nat) (bd : Nat) (Ao A2 : Option Addr) (co c2 : Nat) (O : List Sn) (Bc : Nat) (f : Cf) (A3 : Option Addr) (c3 : Nat) (L : List Sn) (n h : Int) (hst : TK w0 w B f2 L2 F bd Ao A2 co c2 O Bc f A3 c3 L) (hh : hz f2 = h) (hn2 : f2.now = n) (hl : L.length ≤ 1000000) (hl2 : L2.length ≤ 1000000) (hwo : wout O L = L2)
    (hn : a0.tmps.size = 139) (h_2 : a0.tmps.getD 2 undef = .int .i64 n) (h_7 : a0.tmps.getD 7 undef = .pointer (some ⟨B, 0, none⟩)) (h_9 : a0.tmps.getD 9 undef = .slice A3 L.length c3) (h_11 : a0.tmps.getD 11 undef = .pointer (some ⟨bd, 0, none⟩)) (h_12 : a0.tmps.getD 12 undef = .int .i64 0) (h_13 : a0.tmps.getD 13 undef = .int .i64 h)
    (hpost : ∀ (x : Nat → Value) (w' : World), x 98 = .bool false → TK w0 w' B f2 L2 F bd Ao A2 co c2 O Bc f A3 c3 L → Q .normal (Eng.setAll a0 [69, 70, 71, 72, 73, 74, 75, 76, 77, 78, 79, 80, 81, 82, 83, 84, 85, 86, 87, 88, 89, 90, 91, 92, 93, 94, 95, 96, 97, 98] x) w') :
    (Code.region 13 ops true).wp Tryz.prog Q a0 w := by
  simp only [Eng.fnOps, Eng.regOps, Tryz.f7, Option.bind_some, Option.getD_some, Nat.reduceEqDiff, ↓reduceIte, Nat.reduceBEq] at hops
  subst hops
  have HSt := Lib.hid (hst.fr (Fr.drew _ _))
  have hSS : w.drew.cell? ⟨bd, 0, none⟩ = some (.slice Ao O.length co) ∧ w.drew.cell? ⟨bd, 1, none⟩ = some (.slice A2 0 c2) := ⟨HSt.out.d0, HSt.out.d1⟩
  refine Eng.regionN [(0, true), (1, true), (2, true), (3, true), (5, true), (4, false), (6, true), (7, true), (8, true), (9, true), (11, true), (10, false), (12, true), (13, true), (14, true), (15, true), (16, true), (17, true), (18, true), (19, true), (20, true), (21, true), (23, true), (24, true), (25, true), (22, false), (26, false), (27, false), (28, true), (29, true)] (fun w' => w'.cell? ⟨bd, 0, none⟩ = some (.slice Ao O.length co) ∧ w'.cell? ⟨bd, 1, none⟩ = some (.slice A2 0 c2)) (by kernel_rfl) 139 hn (by kernel_rfl) rfl (by kernel_rfl) (hSS) (fun a b ha hb => ?_)
  subst ha
  have hb2 : b 2 = .int .i64 n := (hb 2).symm.trans h_2
  have hb7 : b 7 = .pointer (some ⟨B, 0, none⟩) := (hb 7).symm.trans h_7
  have hb9 : b 9 = .slice A3 L.length c3 := (hb 9).symm.trans h_9
  have hb11 : b 11 = .pointer (some ⟨bd, 0, none⟩) := (hb 11).symm.trans h_11
  have hb12 : b 12 = .int .i64 0 := (hb 12).symm.trans h_12
  have hb13 : b 13 = .int .i64 h := (hb 13).symm.trans h_13
  clear hb h_2 h_7 h_9 h_11 h_12 h_13
  have HP := Lib.hid hpost; have HN := Lib.hid hn
  clear hpost hn
  refine Eng.Sch.take (v := ?_) rfl rfl (by decide) (by kernel_rfl) (fun w hw => ?_) ?_
  rotate_left
  · (try dsimp only at hw); go_simp; first | done | with_reducible rfl
  refine Eng.Sch.take (v := ?_) rfl rfl (by decide) (by kernel_rfl) (fun w hw => ?_) ?_
  rotate_left
  · (try dsimp only at hw); go_simp; first | done | with_reducible rfl
  refine Eng.Sch.take (v := ?_) rfl rfl (by decide) (by kernel_rfl) (fun w hw => ?_) ?_
  rotate_left
  · (try dsimp only at hw); go_simp; first | done | with_reducible rfl
  refine Eng.Sch.take (v := ?_) rfl rfl (by decide) (by kernel_rfl) (fun w hw => ?_) ?_
  rotate_left
  · (try dsimp only at hw); go_simp; first | done | with_reducible rfl
  refine Eng.Sch.take (v := ?_) rfl rfl (by decide) (by kernel_rfl) (fun w hw => ?_) ?_
  rotate_left
  · (try dsimp only at hw); go_simp; first | done | with_reducible rfl
  refine Eng.Sch.call rfl rfl (by decide) (by kernel_rfl) ?_ (HorE HSt.out.z.s hh) ?_
  · go_simp
  rintro e w2 ⟨rfl, hf⟩
  have HSt1 := Lib.hid (HSt.out.fr hf)
  have hSS : w2.cell? ⟨bd, 0, none⟩ = some (.slice Ao O.length co) ∧ w2.cell? ⟨bd, 1, none⟩ = some (.slice A2 0 c2) := ⟨HSt1.out.d0, HSt1.out.d1⟩
  refine ⟨_, rfl, hSS, ?_⟩
  refine Eng.Sch.take (v := ?_) rfl rfl (by decide) (by kernel_rfl) (fun w hw => ?_) ?_
  rotate_left
  · (try dsimp only at hw); go_simp; first | done | with_reducible rfl
  refine Eng.Sch.take (v := ?_) rfl rfl (by decide) (by kernel_rfl) (fun w hw => ?_) ?_
  rotate_left
  · (try dsimp only at hw); go_simp; first | done | with_reducible rfl
  refine Eng.Sch.take (v := ?_) rfl rfl (by decide) (by kernel_rfl) (fun w hw => ?_) ?_
  rotate_left
  · (try dsimp only at hw); go_simp; first | done | with_reducible rfl
  refine Eng.Sch.take (v := ?_) rfl rfl (by decide) (by kernel_rfl) (fun w hw => ?_) ?_
  rotate_left
  · (try dsimp only at hw); go_simp; first | done | with_reducible rfl
  refine Eng.Sch.take (v := ?_) rfl rfl (by decide) (by kernel_rfl) (fun w hw => ?_) ?_
  rotate_left
  · (try dsimp only at hw); go_simp; first | done | with_reducible rfl
  refine Eng.Sch.call rfl rfl (by decide) (by kernel_rfl) ?_ (NowE HSt1.out.z.s hn2) ?_
  · go_simp
  rintro e w_2 ⟨rfl, rfl⟩
  refine ⟨_, rfl, hSS, ?_⟩
  refine Eng.Sch.take (v := ?_) rfl rfl (by decide) (by kernel_rfl) (fun w hw => ?_) ?_
  rotate_left
  · (try dsimp only at hw); go_simp; first | done | with_reducible rfl
  refine Eng.Sch.take (v := ?_) rfl rfl (by decide) (by kernel_rfl) (fun w hw => ?_) ?_
  rotate_left
  · (try dsimp only at hw); go_simp; first | done | with_reducible rfl
  refine Eng.Sch.take (v := ?_) rfl rfl (by decide) (by kernel_rfl) (fun w hw => ?_) ?_
  rotate_left
  · (try dsimp only at hw); go_simp; first | done | with_reducible rfl
  refine Eng.Sch.take (v := ?_) rfl rfl (by decide) (by kernel_rfl) (fun w hw => ?_) ?_
  rotate_left
  · (try dsimp only at hw); go_simp; first | done | with_reducible rfl
  refine Eng.Sch.take (v := ?_) rfl rfl (by decide) (by kernel_rfl) (fun w hw => ?_) ?_
  rotate_left
  · (try dsimp only at hw); go_simp; first | done | with_reducible rfl
  refine Eng.Sch.take (v := ?_) rfl rfl (by decide) (by kernel_rfl) (fun w hw => ?_) ?_
  rotate_left
  · (try dsimp only at hw); go_simp; first | done | with_reducible rfl
  refine Eng.Sch.take (v := ?_) rfl rfl (by decide) (by kernel_rfl) (fun w hw => ?_) ?_
  rotate_left
  · (try dsimp only at hw); go_simp; first | done | with_reducible rfl
  refine Eng.Sch.take (v := ?_) rfl rfl (by decide) (by kernel_rfl) (fun w hw => ?_) ?_
  rotate_left
  · (try dsimp only at hw); go_simp; first | done | with_reducible rfl
  refine Eng.Sch.take (v := ?_) rfl rfl (by decide) (by kernel_rfl) (fun w hw => ?_) ?_
  rotate_left
  · (try dsimp only at hw); go_simp; first | done | with_reducible rfl
  refine Eng.Sch.take (v := ?_) rfl rfl (by decide) (by kernel_rfl) (fun w hw => ?_) ?_
  rotate_left
  · (try dsimp only at hw); go_simp; first | done | with_reducible rfl
  refine Eng.Sch.take (v := ?_) rfl rfl (by decide) (by kernel_rfl) (fun w hw => ?_) ?_
  rotate_left
  · (try dsimp only at hw); go_simp; first | done | with_reducible rfl
  refine Eng.Sch.take (v := ?_) rfl rfl (by decide) (by kernel_rfl) (fun w hw => ?_) ?_
  rotate_left
  · (try dsimp only at hw); go_simp; first | done | with_reducible rfl
  refine Eng.Sch.take (v := ?_) rfl rfl (by decide) (by kernel_rfl) (fun w hw => ?_) ?_
  rotate_left
  · (try dsimp only at hw); go_simp; first | done | with_reducible rfl
  refine Eng.Sch.call rfl rfl (by decide) (by kernel_rfl) ?_ (Sto.All B f2 L2 F _ HSt1.out.z.s hl2) ?_
  · go_simp
  rintro e w3 ⟨A9, c9, rfl, hls, -, hb⟩
  have HL9 := Lib.hid hls
  clear hls
  have HSt2 := Lib.hid (HSt1.out.below hb)
  have hSS : w3.cell? ⟨bd, 0, none⟩ = some (.slice Ao O.length co) ∧ w3.cell? ⟨bd, 1, none⟩ = some (.slice A2 0 c2) := ⟨HSt2.out.d0, HSt2.out.d1⟩
  refine ⟨_, rfl, hSS, ?_⟩
  refine Eng.Sch.call rfl rfl (by decide) (by kernel_rfl) ?_ (Wo HSt2.out.lw HSt2.out.lo hl L2 hwo) ?_
  · go_simp
  rintro e w4 ⟨A10, c10, rfl, hls, -, hb2⟩
  have HL10 := Lib.hid hls
  have HL9b := Lib.hid (HL9.out.below hb2)
  clear hls
  have HSt3 := Lib.hid (HSt2.out.below hb2)
  have hSS : w4.cell? ⟨bd, 0, none⟩ = some (.slice Ao O.length co) ∧ w4.cell? ⟨bd, 1, none⟩ = some (.slice A2 0 c2) := ⟨HSt3.out.d0, HSt3.out.d1⟩
  refine ⟨_, rfl, hSS, ?_⟩
  refine Eng.Sch.call rfl rfl (by decide) (by kernel_rfl) ?_ (SameT HL9b.out HL10.out rfl rfl rfl) ?_
  · go_simp
  rintro e w5 ⟨rfl, hf2⟩
  have HSt4 := Lib.hid (HSt3.out.fr hf2)
  have hSS : w5.cell? ⟨bd, 0, none⟩ = some (.slice Ao O.length co) ∧ w5.cell? ⟨bd, 1, none⟩ = some (.slice A2 0 c2) := ⟨HSt4.out.d0, HSt4.out.d1⟩
  refine ⟨_, rfl, hSS, ?_⟩
  refine Eng.Sch.take (v := ?_) rfl rfl (by decide) (by kernel_rfl) (fun w hw => ?_) ?_
  rotate_left
  · (try dsimp only at hw); go_simp; first | done | with_reducible rfl
  refine Eng.Sch.take (v := ?_) rfl rfl (by decide) (by kernel_rfl) (fun w hw => ?_) ?_
  rotate_left
  · (try dsimp only at hw); go_simp; first | done | with_reducible rfl
  refine Eng.Sch.end_ [69, 70, 71, 72, 73, 74, 75, 76, 77, 78, 79, 80, 81, 82, 83, 84, 85, 86, 87, 88, 89, 90, 91, 92, 93, 94, 95, 96, 97, 98] HN.out (by kernel_rfl) (by kernel_rfl) ?_
  exact HP.out _ _ rfl HSt4.out

set_option maxRecDepth 100000 in
set_option maxHeartbeats 1000000 in
theorem ti18 {ops : Array Oper} (hops : Eng.fnOps Tryz.f7 18 = ops) (a0 : Act) (Q : Exit → Act → World → Prop) (w0 w : World) (B : Nat) (f2 : Cf) (L2 : List Sn) (F : List Nat) (bd : Nat) (Ao A2 : Option Addr) (co c2 : Nat) (O : List Sn) (Bc : Nat) (f : Cf) (A3 : Option Addr) (c3 : Nat) (L : List Sn) (b1 o1 k : Nat) (h : Int) (y : Sn) (hst : TR w0 w B f2 L2 F bd Ao A2 co c2 O Bc f A3 c3 L b1 o1 k y) (hk : k < L.length) (hl : L.length ≤ 1000000) (hy : y.ok)
    (hn : a0.tmps.size = 139) (h_9 : a0.tmps.getD 9 undef = .slice (some ⟨b1, o1, none⟩) L.length c3) (h_11 : a0.tmps.getD 11 undef = .pointer (some ⟨bd, 0, none⟩)) (h_13 : a0.tmps.getD 13 undef = .int .i64 h) (h_14 : a0.tmps.getD 14 undef = .int .i64 k)
    (hpost : ∀ (x : Nat → Value) (w' : World), x 118 = .bool (decide (endS y < h) != decide (y ∈ O)) → TR w0 w' B f2 L2 F bd Ao A2 co c2 O Bc f A3 c3 L b1 o1 k y → Q .normal (Eng.setAll a0 [105, 106, 107, 108, 109, 110, 111, 112, 113, 114, 115, 116, 117, 118] x) w') :
    (Code.region 18 ops true).wp Tryz.prog Q a0 w := by
  simp only [Eng.fnOps, Eng.regOps, Tryz.f7, Option.bind_some, Option.getD_some, Nat.reduceEqDiff, ↓reduceIte, Nat.reduceBEq] at hops
  subst hops
  have HSt := Lib.hid (hst.fr (Fr.drew _ _))
  have hSS : w.drew.cell? ⟨b1, o1 + k * 9, none⟩ = some (.int .i64 y.t) ∧ w.drew.cell? ⟨b1, o1 + k * 9 + 1, none⟩ = some (.int .i64 y.i) ∧ w.drew.cell? ⟨b1, o1 + k * 9 + 1 + 1, none⟩ = some (.int .i64 y.p) ∧ w.drew.cell? ⟨b1, o1 + k * 9 + 1 + 1 + 1, none⟩ = some (.int .i64 y.r) ∧ w.drew.cell? ⟨b1, o1 + k * 9 + 1 + 1 + 1 + 1, none⟩ = some (.string y.s) ∧ w.drew.cell? ⟨b1, o1 + k * 9 + 1 + 1 + 1 + 1 + 1, none⟩ = some (.string y.o) ∧ w.drew.cell? ⟨b1, o1 + k * 9 + 1 + 1 + 1 + 1 + 1 + 1, none⟩ = some (.int .i64 y.b) ∧ w.drew.cell? ⟨b1, o1 + k * 9 + 1 + 1 + 1 + 1 + 1 + 1 + 1, none⟩ = some (.int .i64 y.d) ∧ w.drew.cell? ⟨b1, o1 + k * 9 + 1 + 1 + 1 + 1 + 1 + 1 + 1 + 1, none⟩ = some (.bool y.g) ∧ w.drew.cell? ⟨bd, 0, none⟩ = some (.slice Ao O.length co) := ⟨HSt.out.a 0 _ rfl, HSt.out.a 1 _ rfl, HSt.out.a 2 _ rfl, HSt.out.a 3 _ rfl, HSt.out.a 4 _ rfl, HSt.out.a 5 _ rfl, HSt.out.a 6 _ rfl, HSt.out.a 7 _ rfl, HSt.out.a 8 _ rfl, HSt.out.t.d0⟩
  refine Eng.regionN [(0, true), (1, true), (2, true), (3, true), (4, true), (6, true), (7, true), (8, true), (9, true), (10, true), (11, true), (5, false), (12, false), (13, true)] (fun w' => w'.cell? ⟨b1, o1 + k * 9, none⟩ = some (.int .i64 y.t) ∧ w'.cell? ⟨b1, o1 + k * 9 + 1, none⟩ = some (.int .i64 y.i) ∧ w'.cell? ⟨b1, o1 + k * 9 + 1 + 1, none⟩ = some (.int .i64 y.p) ∧ w'.cell? ⟨b1, o1 + k * 9 + 1 + 1 + 1, none⟩ = some (.int .i64 y.r) ∧ w'.cell? ⟨b1, o1 + k * 9 + 1 + 1 + 1 + 1, none⟩ = some (.string y.s) ∧ w'.cell? ⟨b1, o1 + k * 9 + 1 + 1 + 1 + 1 + 1, none⟩ = some (.string y.o) ∧ w'.cell? ⟨b1, o1 + k * 9 + 1 + 1 + 1 + 1 + 1 + 1, none⟩ = some (.int .i64 y.b) ∧ w'.cell? ⟨b1, o1 + k * 9 + 1 + 1 + 1 + 1 + 1 + 1 + 1, none⟩ = some (.int .i64 y.d) ∧ w'.cell? ⟨b1, o1 + k * 9 + 1 + 1 + 1 + 1 + 1 + 1 + 1 + 1, none⟩ = some (.bool y.g) ∧ w'.cell? ⟨bd, 0, none⟩ = some (.slice Ao O.length co)) (by kernel_rfl) 139 hn (by kernel_rfl) rfl (by kernel_rfl) (hSS) (fun a b ha hb => ?_)
  subst ha
  have hb9 : b 9 = .slice (some ⟨b1, o1, none⟩) L.length c3 := (hb 9).symm.trans h_9
  have hb11 : b 11 = .pointer (some ⟨bd, 0, none⟩) := (hb 11).symm.trans h_11
  have hb13 : b 13 = .int .i64 h := (hb 13).symm.trans h_13
  have hb14 : b 14 = .int .i64 k := (hb 14).symm.trans h_14
  clear hb h_9 h_11 h_13 h_14
  have HP := Lib.hid hpost; have HN := Lib.hid hn
  clear hpost hn
  refine Eng.Sch.take (v := ?_) rfl rfl (by decide) (by kernel_rfl) (fun w hw => ?_) ?_
  rotate_left
  · (try dsimp only at hw); go_simp; first | done | with_reducible rfl
  refine Eng.Sch.take (v := ?_) rfl rfl (by decide) (by kernel_rfl) (fun w hw => ?_) ?_
  rotate_left
  · (try dsimp only at hw); go_simp; first | done | with_reducible rfl
  refine Eng.Sch.take (v := ?_) rfl rfl (by decide) (by kernel_rfl) (fun w hw => ?_) ?_
  rotate_left
  · (try dsimp only at hw); go_simp; first | done | with_reducible rfl
  refine Eng.Sch.take (v := ?_) rfl rfl (by decide) (by kernel_rfl) (fun w hw => ?_) ?_
  rotate_left
  · (try dsimp only at hw); go_simp; first | done | with_reducible rfl
  refine Eng.Sch.take (v := ?_) rfl rfl (by decide) (by kernel_rfl) (fun w hw => ?_) ?_
  rotate_left
  · (try dsimp only at hw); go_simp; first | done | with_reducible rfl
  refine Eng.Sch.take (v := ?_) rfl rfl (by decide) (by kernel_rfl) (fun w hw => ?_) ?_
  rotate_left
  · (try dsimp only at hw); go_simp; first | done | with_reducible rfl
  refine Eng.Sch.take (v := ?_) rfl rfl (by decide) (by kernel_rfl) (fun w hw => ?_) ?_
  rotate_left
  · (try dsimp only at hw); go_simp; first | done | with_reducible rfl
  refine Eng.Sch.take (v := ?_) rfl rfl (by decide) (by kernel_rfl) (fun w hw => ?_) ?_
  rotate_left
  · (try dsimp only at hw); go_simp; first | done | with_reducible rfl
  refine Eng.Sch.take (v := ?_) rfl rfl (by decide) (by kernel_rfl) (fun w hw => ?_) ?_
  rotate_left
  · (try dsimp only at hw); go_simp; first | done | with_reducible rfl
  refine Eng.Sch.take (v := ?_) rfl rfl (by decide) (by kernel_rfl) (fun w hw => ?_) ?_
  rotate_left
  · (try dsimp only at hw); go_simp; first | done | with_reducible rfl
  refine Eng.Sch.take (v := ?_) rfl rfl (by decide) (by kernel_rfl) (fun w hw => ?_) ?_
  rotate_left
  · (try dsimp only at hw); go_simp; first | done | with_reducible rfl
  refine Eng.Sch.call rfl rfl (by decide) (by kernel_rfl) ?_ (Law16.RefPast y hy.b h _) ?_
  · go_simp
  rintro e w2 ⟨rfl, hf⟩
  have HSt1 := Lib.hid (HSt.out.fr hf)
  have hSS : w2.cell? ⟨b1, o1 + k * 9, none⟩ = some (.int .i64 y.t) ∧ w2.cell? ⟨b1, o1 + k * 9 + 1, none⟩ = some (.int .i64 y.i) ∧ w2.cell? ⟨b1, o1 + k * 9 + 1 + 1, none⟩ = some (.int .i64 y.p) ∧ w2.cell? ⟨b1, o1 + k * 9 + 1 + 1 + 1, none⟩ = some (.int .i64 y.r) ∧ w2.cell? ⟨b1, o1 + k * 9 + 1 + 1 + 1 + 1, none⟩ = some (.string y.s) ∧ w2.cell? ⟨b1, o1 + k * 9 + 1 + 1 + 1 + 1 + 1, none⟩ = some (.string y.o) ∧ w2.cell? ⟨b1, o1 + k * 9 + 1 + 1 + 1 + 1 + 1 + 1, none⟩ = some (.int .i64 y.b) ∧ w2.cell? ⟨b1, o1 + k * 9 + 1 + 1 + 1 + 1 + 1 + 1 + 1, none⟩ = some (.int .i64 y.d) ∧ w2.cell? ⟨b1, o1 + k * 9 + 1 + 1 + 1 + 1 + 1 + 1 + 1 + 1, none⟩ = some (.bool y.g) ∧ w2.cell? ⟨bd, 0, none⟩ = some (.slice Ao O.length co) := ⟨HSt1.out.a 0 _ rfl, HSt1.out.a 1 _ rfl, HSt1.out.a 2 _ rfl, HSt1.out.a 3 _ rfl, HSt1.out.a 4 _ rfl, HSt1.out.a 5 _ rfl, HSt1.out.a 6 _ rfl, HSt1.out.a 7 _ rfl, HSt1.out.a 8 _ rfl, HSt1.out.t.d0⟩
  refine ⟨_, rfl, hSS, ?_⟩
  refine Eng.Sch.call rfl rfl (by decide) (by kernel_rfl) ?_ (SetW.In Ao co O y _ HSt1.out.t.lo.s) ?_
  · go_simp
  rintro e w3 ⟨rfl, hf2⟩
  have HSt2 := Lib.hid (HSt1.out.fr hf2)
  have hSS : w3.cell? ⟨b1, o1 + k * 9, none⟩ = some (.int .i64 y.t) ∧ w3.cell? ⟨b1, o1 + k * 9 + 1, none⟩ = some (.int .i64 y.i) ∧ w3.cell? ⟨b1, o1 + k * 9 + 1 + 1, none⟩ = some (.int .i64 y.p) ∧ w3.cell? ⟨b1, o1 + k * 9 + 1 + 1 + 1, none⟩ = some (.int .i64 y.r) ∧ w3.cell? ⟨b1, o1 + k * 9 + 1 + 1 + 1 + 1, none⟩ = some (.string y.s) ∧ w3.cell? ⟨b1, o1 + k * 9 + 1 + 1 + 1 + 1 + 1, none⟩ = some (.string y.o) ∧ w3.cell? ⟨b1, o1 + k * 9 + 1 + 1 + 1 + 1 + 1 + 1, none⟩ = some (.int .i64 y.b) ∧ w3.cell? ⟨b1, o1 + k * 9 + 1 + 1 + 1 + 1 + 1 + 1 + 1, none⟩ = some (.int .i64 y.d) ∧ w3.cell? ⟨b1, o1 + k * 9 + 1 + 1 + 1 + 1 + 1 + 1 + 1 + 1, none⟩ = some (.bool y.g) ∧ w3.cell? ⟨bd, 0, none⟩ = some (.slice Ao O.length co) := ⟨HSt2.out.a 0 _ rfl, HSt2.out.a 1 _ rfl, HSt2.out.a 2 _ rfl, HSt2.out.a 3 _ rfl, HSt2.out.a 4 _ rfl, HSt2.out.a 5 _ rfl, HSt2.out.a 6 _ rfl, HSt2.out.a 7 _ rfl, HSt2.out.a 8 _ rfl, HSt2.out.t.d0⟩
  refine ⟨_, rfl, hSS, ?_⟩
  refine Eng.Sch.take (v := ?_) rfl rfl (by decide) (by kernel_rfl) (fun w hw => ?_) ?_
  rotate_left
  · (try dsimp only at hw); go_simp; first | done | with_reducible rfl
  refine Eng.Sch.end_ [105, 106, 107, 108, 109, 110, 111, 112, 113, 114, 115, 116, 117, 118] HN.out (by kernel_rfl) (by kernel_rfl) ?_
  exact HP.out _ _ rfl HSt2.out

set_option maxRecDepth 100000 in
set_option maxHeartbeats 4000000 in
theorem ticks (f : Cf) (A : Option Addr) (c : Nat) (l : List Ac) (w0 : World) (hS : Sl w0 3 A l.length c (l.flatMap acc)) (hR : ∀ a ∈ l, Rd w0 a) (hf : in64 f.sp ∧ in64 f.tr ∧ in64 f.wi) (n : Int) (hn : in64 n) :
    Calls Tryz.prog 7 #[.agg (cfc f), .slice A l.length c, .int .i64 n] w0 fun e w' => e = .returned (.bool true) ∧ Below w0.heap.size w0 w' := by
  have HS := Lib.hid hS; have HR := Lib.hid hR; have HI := Lib.hid hf; have HNn := Lib.hid hn
  have HB1 := Lib.hid ((Below.refl w0.heap.size w0).alloc (Nat.le_refl _) (.cells (cfc f) TCf)); have HBk := Lib.hid (Bk.new w0 (cfc f) TCf)
  clear hS hR hf hn
  go_enter Tryz.func7, Tryz.ntmps7
  go_upto_region 1 with (fail)
  generalize hg : w0.alloc (.cells (cfc f) TCf) = w1 at *
  clear hg
  go_wp2_with fail
  refine (Few A c l 20 w1 (HS.out.fr (Fr.of_below' HB1.out (fun _ => False)) (fun _ _ h => h)) (fun a ha => (HR.out a ha).below HB1.out) (by omega)).mono ?_
  rintro e w2 ⟨rfl, hf⟩
  have HB2 := Lib.hid (HB1.out.trans (hf.below HB1.out.size (fun _ _ h => h))); have HBk2 := Lib.hid (HBk.out.fr hf (fun _ _ h => h))
  clear hf HB1 HBk
  cases hq : fewsB l 20 with
  | false =>
    go_wp2_with fail
    refine (awake w2).mono ?_
    rintro e w3 ⟨rfl, hb⟩
    have HB3 := Lib.hid (HB2.out.trans (hb.mono HB2.out.size))
    clear hb
    go_wp2_with fail
    go_ret
    exact ⟨rfl, HB3.out⟩
  | true =>
    obtain ⟨hl, hla⟩ := few_len hq
    have HLa := Lib.hid hla
    clear hq hla
    have e0 : w2.cell? ⟨w0.heap.size, 0, none⟩ = some (.int .i64 f.sp) := HBk2.out.cell 0
    have e1 : w2.cell? ⟨w0.heap.size, 1, none⟩ = some (.int .i64 f.tr) := HBk2.out.cell 1
    have e2 : w2.cell? ⟨w0.heap.size, 2, none⟩ = some (.int .i64 f.wi) := HBk2.out.cell 2
    have e3 : w2.cell? ⟨w0.heap.size, 3, none⟩ = some (.int .i64 f.sg) := HBk2.out.cell 3
    go_wp2_with fail
    refine (Sto.New f w2).mono ?_
    rintro e w3 ⟨B, F, rfl, hs, hF, hb⟩
    have HZ : Hid (AZ w0 w3 B (f.at mnI) [] F [(w0.heap.size, cfc f, TCf)] []) := (AZ.new HB2.out (St.new hs HI.out) hF hb).addD (HBk2.out.fr (Fr.of_below' hb (fun _ => False)) (fun _ _ h => h)) (fun hm => by have := hF _ hm; have := lt_of_heap HBk2.out; omega) (Nat.le_refl _)
    clear hs hF hb e0 e1 e2 e3 HB2 HBk2
    go_wp2_with fail
    go_loopg [8] l.length (fun gk i wr => ∃ (k : Nat) (f' : Cf) (L : List Sn) (F : List Nat), i = .int .i64 k ∧ k ≤ l.length ∧ gk = l.length - k ∧ f'.wi = f.wi ∧ L.length ≤ 12 * k ∧ AZ w0 wr B f' L F [(w0.heap.size, cfc f, TCf)] [])
    case atStart => exact ⟨0, f.at mnI, [], F, rfl, Nat.zero_le _, rfl, rfl, Nat.le_refl _, HZ.out⟩
    case round =>
      clear HZ
      obtain ⟨k, f', L, F, rfl, hk, hg, hc, hLl, hz⟩ := hrel
      have HG := Lib.hid hg; have HC := Lib.hid hc; have HZ := Lib.hid hz
      clear hg hc hz
      by_cases hlt : k < l.length
      · have HRk := Lib.hid (HR.out _ (List.getElem_mem hlt))
        have hlk := HLa.out _ (List.getElem_mem hlt)
        obtain ⟨b1, o1, rfl, hb1, a0, a1, a2⟩ := at3 (HS.out.fr (Fr.of_below' HZ.out.b (fun _ => False)) (fun _ _ h => h)) hlt
        clear hb1
        generalize l[k] = a at *
        have hdl := doL_len f' L a
        have hdc := doF_c f' a
        have HC2 : Hid ((doF f' a).wi = f.wi) := hdc.2.2.trans HC.out
        have HDo := Lib.hid (do_ B f' L F a wr HZ.out.s (HRk.out.below HZ.out.b) (HZ.out.apt HRk.out.1) (by omega) (by omega))
        clear hdc HC
        generalize doL f' L a = L2 at *
        generalize doF f' a = f2 at *
        generalize doO f' L a = O2 at *
        generalize doI f' L a = I2 at *
        generalize doE f' L a = E2 at *
        have q1 : (0 : Int) ≤ (k : Int) := by omega
        have q2 : decide ((k : Int) < (l.length : Int)) = true := by simp; omega
        have q3 : wrap64 ((k : Int) + 1) = (k : Int) + 1 := by unfold wrap64; omega
        go_wp2_with fail
        refine HDo.out.mono ?_
        rintro e w4 ⟨A1, c1, A2, c2, F2, rfl, ho⟩
        have HZ2 := Lib.hid ((HZ.out.act ho).pickL (K' := []) (by simp))
        clear ho HDo HZ a0 a1 a2
        go_wp2_with fail
        go_roundg (l.length - (k + 1))
        case rel => exact ⟨k + 1, f2, L2, F2, by go_num, by omega, rfl, HC2.out, by omega, HZ2.out⟩
        case measure => have := HG.out; omega
      · obtain rfl : k = l.length := by omega
        have q2 : decide ((l.length : Int) < (l.length : Int)) = false := by simp
        clear HG
        go_wp2_with fail
        refine (Sto.All B f' L F wr HZ.out.s (by omega)).mono ?_
        rintro e w3 ⟨A3, c3, rfl, hls, hown, hb⟩
        have HZ3 := Lib.hid (HZ.out.own hls hown hb)
        clear hls hown hb HZ
        go_wp2_with fail
        refine (Sto.Now B f' _ _ _ F w3 HZ3.out.s.s).mono ?_
        rintro e w4 ⟨rfl, rfl⟩
        have HTi := Lib.hid (Sto.Tick B f' L F n w3 HZ3.out.s HNn.out (by omega))
        by_cases hnow : n < f'.now
        · rw [show tickE f' n = 1 from by unfold tickE; rw [if_pos hnow], show tickF f' n = f' from by unfold tickF; rw [if_pos hnow], show tickL f' n L = L from by unfold tickL; rw [if_pos hnow], show tickO f' n L = [] from by unfold tickO; rw [if_pos hnow]] at HTi
          have qn : decide (n < f'.now) = true := by simpa using hnow
          go_wp2_with fail
          refine HTi.out.mono ?_
          rintro e w5 ⟨Ao, co, A2, c2, F2, rfl, ho⟩
          have HZ4 := Lib.hid (((HZ3.out.act ho).pickL (K' := [(A3, c3, L)]) (by simp)).alloc #[.slice Ao 0 co, .slice A2 0 c2] TDl)
          clear ho HTi HZ3
          go_upto_region 11 with (fail)
          generalize hg : w5.alloc (.cells #[.slice Ao 0 co, .slice A2 0 c2] TDl) = w6 at *
          clear hg
          go_wp2_with fail
          refine (Sto.All B f' L F2 w6 HZ4.out.s (by omega)).mono ?_
          rintro e w7 ⟨A7, c7, rfl, hls, -, hb⟩
          have HZ5 := Lib.hid (HZ4.out.below hb); have HL7 := Lib.hid hls
          clear hls hb HZ4
          go_wp2_with fail
          refine (SameT HL7.out (HZ5.out.k (A3, c3, L) (by simp)).1 rfl rfl rfl).mono ?_
          rintro e w8 ⟨rfl, hf⟩
          have HZ6 := Lib.hid (HZ5.out.fr hf)
          clear hf HZ5 HL7
          go_wp2_with fail
          refine (Sto.Now B f' _ _ _ F2 w8 HZ6.out.s.s).mono ?_
          rintro e w9 ⟨rfl, rfl⟩
          go_wp2_with fail
          refine (awake w8).mono ?_
          rintro e w10 ⟨rfl, hb⟩
          have HB3 := Lib.hid (HZ6.out.below hb).b
          clear hb HZ6
          go_wp2_with fail
          go_ret
          exact ⟨rfl, HB3.out⟩
        · obtain ⟨h, hh⟩ : ∃ h, hz (f'.at n) = h := ⟨_, rfl⟩
          rw [show tickE f' n = 0 from by unfold tickE; rw [if_neg hnow], show tickF f' n = f'.at n from by unfold tickF; rw [if_neg hnow], show tickL f' n L = L.filter (fun x => !past h x) from by unfold tickL; rw [if_neg hnow, hh], show tickO f' n L = L.filter (past h) from by unfold tickO; rw [if_neg hnow, hh]] at HTi
          have HIn : Hid (∀ x ∈ L, decide (x ∈ L.filter (past h)) = decide (endS x < h)) := fun x hx => in_past h L hx
          have HWo : Hid (wout (L.filter (past h)) L = L.filter (fun x => !past h x)) := wo_past h L
          have HMay : Hid (∀ x ∈ L, mayN x = 0) := fun x hx => mayN_ok (may_iff.1 (HZ3.out.s.o.may x hx))
          have HWi : Hid (cl (n - max f.wi 0) = h) := by show _ = _; rw [← HC.out]; exact hh
          have hl2 : (L.filter (fun x => !past h x)).length ≤ L.length := List.length_filter_le _ _
          have HHz := Lib.hid hh
          have HNw : Hid ((f'.at n).now = n) := rfl
          have HFw : Hid ((f'.at n).wi = f.wi) := HC.out
          generalize L.filter (past h) = O at *
          generalize L.filter (fun x => !past h x) = L2 at *
          generalize f'.at n = f2 at *
          have qn : decide (n < f'.now) = false := by simpa using hnow
          clear hh HC
          go_wp2_with fail
          refine HTi.out.mono ?_
          rintro e w5 ⟨Ao, co, A2, c2, F2, rfl, ho⟩
          have HZ4 := Lib.hid (((HZ3.out.act ho).pickL (K' := [(Ao, co, O), (A3, c3, L)]) (by intro p hp; simp at hp; rcases hp with rfl | rfl <;> simp)).alloc #[.slice Ao O.length co, .slice A2 0 c2] TDl)
          clear ho HTi HZ3
          go_upto_region 12 with (fail)
          obtain ⟨bd, hbd⟩ : ∃ b, w5.heap.size = b := ⟨_, rfl⟩
          generalize hg : w5.alloc (.cells #[.slice Ao O.length co, .slice A2 0 c2] TDl) = w6 at *
          clear hg
          rw [hbd] at HZ4 ⊢
          clear hbd
          have e2 : w6.cell? ⟨w0.heap.size, 2, none⟩ = some (.int .i64 f.wi) := (HZ4.out.d (w0.heap.size, cfc f, TCf) (by simp)).1.1.cell 2
          go_wp2_with fail
          refine (Law16.RefHorizon n f.wi HNn.out HI.out.2.2 w6).mono ?_
          rintro e w7 ⟨rfl, rfl⟩
          rw [show Sat2.cl (n - max f.wi 0) = h from HWi.out]
          go_upto_region 13 with (fail)
          refine ti13 (by kernel_rfl) _ _ w0 w6 B f2 L2 F2 bd Ao A2 co c2 O w0.heap.size f A3 c3 L n h ⟨HZ4.out⟩ HHz.out HNw.out (by omega) (by omega) HWo.out rfl rfl rfl rfl rfl rfl rfl ?_
          intro x w8 h98 hst
          simp only [Eng.setAll, Act.put, List.setIfInBounds_toArray, List.set_cons_succ, List.set_cons_zero]
          rw [h98]
          have HK := Lib.hid hst
          clear h98 hst HZ4 e2 HWo HWi
          go_wp2_with fail
          go_loopg [14] L.length (fun gk i wr => ∃ (k : Nat) (Lc : List Sn) (F : List Nat), i = .int .i64 k ∧ k ≤ L.length ∧ gk = L.length - k ∧ Lc.length ≤ L.length + k ∧ TK w0 wr B f2 Lc F bd Ao A2 co c2 O w0.heap.size f A3 c3 L)
          case atStart => exact ⟨0, L2, F2, rfl, Nat.zero_le _, rfl, by omega, HK.out⟩
          case round =>
            clear HK
            obtain ⟨k, Lc, F, rfl, hk, hg, hlc, hz⟩ := hrel
            have HG := Lib.hid hg; have HK := Lib.hid hz
            clear hg hz
            by_cases hlt : k < L.length
            · obtain ⟨b1, o1, hA3, hb1, c1⟩ := HK.out.lw.s.at hlt (by omega)
              subst hA3
              have HAt := Lib.hid (At.row c1 hlt)
              have HOk := Lib.hid (HK.out.lw.ok _ (List.getElem_mem hlt))
              have HIy := Lib.hid (HIn.out _ (List.getElem_mem hlt))
              have HMy := Lib.hid (HMay.out _ (List.getElem_mem hlt))
              clear c1 hb1
              generalize L[k] = y at *
              have HC6 : Hid ((canE f2 Lc [y] == 6) = decide (endS y < h)) := by show _ = _; rw [can6 HMy.out, HHz.out]
              have HPl : Hid ((putL f2 Lc [y]).length ≤ Lc.length + 1) := by
                show _ ≤ _
                unfold putL
                split
                · have := setOf_len (Lc ++ [y]); rw [List.length_append] at this; exact this
                · omega
              have r1 : (0 : Int) ≤ (k : Int) := by omega
              have r2 : decide ((k : Int) < (L.length : Int)) = true := by simp; omega
              have r3 : wrap64 ((k : Int) + 1) = (k : Int) + 1 := by unfold wrap64; omega
              go_upto_region 18 with (fail)
              refine ti18 (by kernel_rfl) _ _ w0 wr B f2 Lc F bd Ao A2 co c2 O w0.heap.size f _ c3 L b1 o1 k h y ⟨HK.out, HAt.out⟩ hlt (by omega) HOk.out rfl rfl rfl rfl rfl ?_
              intro x w9 h118 hst
              simp only [Eng.setAll, Act.put, List.setIfInBounds_toArray, List.set_cons_succ, List.set_cons_zero]
              rw [h118, HIy.out, bne_self_eq_false]
              have HK9 := Lib.hid hst.t; have HA9 := Lib.hid hst.a
              clear h118 hst HK HAt HIy
              have yc0 : w9.cell? ⟨b1, o1 + k * 9, none⟩ = some (.int .i64 y.t) := HA9.out 0 _ rfl
              have yc1 : w9.cell? ⟨b1, o1 + k * 9 + 1, none⟩ = some (.int .i64 y.i) := HA9.out 1 _ rfl
              have yc2 : w9.cell? ⟨b1, o1 + k * 9 + 1 + 1, none⟩ = some (.int .i64 y.p) := HA9.out 2 _ rfl
              have yc3 : w9.cell? ⟨b1, o1 + k * 9 + 1 + 1 + 1, none⟩ = some (.int .i64 y.r) := HA9.out 3 _ rfl
              have yc4 : w9.cell? ⟨b1, o1 + k * 9 + 1 + 1 + 1 + 1, none⟩ = some (.string y.s) := HA9.out 4 _ rfl
              have yc5 : w9.cell? ⟨b1, o1 + k * 9 + 1 + 1 + 1 + 1 + 1, none⟩ = some (.string y.o) := HA9.out 5 _ rfl
              have yc6 : w9.cell? ⟨b1, o1 + k * 9 + 1 + 1 + 1 + 1 + 1 + 1, none⟩ = some (.int .i64 y.b) := HA9.out 6 _ rfl
              have yc7 : w9.cell? ⟨b1, o1 + k * 9 + 1 + 1 + 1 + 1 + 1 + 1 + 1, none⟩ = some (.int .i64 y.d) := HA9.out 7 _ rfl
              have yc8 : w9.cell? ⟨b1, o1 + k * 9 + 1 + 1 + 1 + 1 + 1 + 1 + 1 + 1, none⟩ = some (.bool y.g) := HA9.out 8 _ rfl
              have HZ9 := Lib.hid (HK9.out.z.lit (M := [y]) y.arr rfl 1 rfl (by simp) (by intro z hz; simp at hz; subst hz; exact HOk.out))
              have HA9b := Lib.hid (HA9.out.keep (Fr.alloc (fun _ => False) w9 (.cells y.arr TSn)))
              go_wp2_with fail
              have HP := Lib.hid (Sto.Put B f2 Lc F _ _ [y] _ HZ9.out.s (HZ9.out.k (_, _, [y]) (.head _)).1 (HZ9.out.k (_, _, [y]) (.head _)).2 (by simp) (by omega))
              generalize hg : w9.alloc (.cells y.arr TSn) = w10 at *
              clear hg yc0 yc1 yc2 yc3 yc4 yc5 yc6 yc7 yc8 HK9 HA9
              generalize putL f2 Lc [y] = L9 at *
              generalize putO f2 Lc [y] = O9 at *
              generalize putI f2 Lc [y] = I9 at *
              generalize canE f2 Lc [y] = E9 at *
              refine HP.out.mono ?_
              rintro e w11 ⟨A8, c8, A9, c9, F9, rfl, ho⟩
              have hnb : b1 ∉ F := (HZ9.out.k (some ⟨b1, o1, none⟩, c3, L) (by simp)).2 (fun e => by subst e; simp at hlt) _ rfl
              have HA10 := Lib.hid (HA9b.out.fr ho.t.fr (fun hm => hnb (by first | exact hm | simpa using hm)))
              have HZ10 := Lib.hid ((HZ9.out.act ho).pickL (K' := [(Ao, co, O), (some ⟨b1, o1, none⟩, c3, L)]) (by intro p hp; simp at hp; rcases hp with rfl | rfl <;> simp))
              clear ho HP HZ9 hnb HA9b
              have HZ11 := Lib.hid (HZ10.out.fr (Fr.alloc (fun _ => False) w11 (.cells #[.slice A8 O9.length c8, .slice A9 I9.length c9] TDl)))
              have HA11 := Lib.hid (HA10.out.keep (Fr.alloc (fun _ => False) w11 (.cells #[.slice A8 O9.length c8, .slice A9 I9.length c9] TDl)))
              go_upto_region 21 with (fail)
              generalize hg : w11.alloc (.cells #[.slice A8 O9.length c8, .slice A9 I9.length c9] TDl) = w12 at *
              clear hg HZ10 HA10
              have yc0 : w12.cell? ⟨b1, o1 + k * 9, none⟩ = some (.int .i64 y.t) := HA11.out 0 _ rfl
              have yc1 : w12.cell? ⟨b1, o1 + k * 9 + 1, none⟩ = some (.int .i64 y.i) := HA11.out 1 _ rfl
              have yc2 : w12.cell? ⟨b1, o1 + k * 9 + 1 + 1, none⟩ = some (.int .i64 y.p) := HA11.out 2 _ rfl
              have yc3 : w12.cell? ⟨b1, o1 + k * 9 + 1 + 1 + 1, none⟩ = some (.int .i64 y.r) := HA11.out 3 _ rfl
              have yc4 : w12.cell? ⟨b1, o1 + k * 9 + 1 + 1 + 1 + 1, none⟩ = some (.string y.s) := HA11.out 4 _ rfl
              have yc5 : w12.cell? ⟨b1, o1 + k * 9 + 1 + 1 + 1 + 1 + 1, none⟩ = some (.string y.o) := HA11.out 5 _ rfl
              have yc6 : w12.cell? ⟨b1, o1 + k * 9 + 1 + 1 + 1 + 1 + 1 + 1, none⟩ = some (.int .i64 y.b) := HA11.out 6 _ rfl
              have yc7 : w12.cell? ⟨b1, o1 + k * 9 + 1 + 1 + 1 + 1 + 1 + 1 + 1, none⟩ = some (.int .i64 y.d) := HA11.out 7 _ rfl
              have yc8 : w12.cell? ⟨b1, o1 + k * 9 + 1 + 1 + 1 + 1 + 1 + 1 + 1 + 1, none⟩ = some (.bool y.g) := HA11.out 8 _ rfl
              go_wp2_with fail
              refine (Law16.RefPast y HOk.out.b h w12).mono ?_
              rintro e w13 ⟨rfl, hf⟩
              have HK13 : Hid (TK w0 w13 B f2 L9 F9 bd Ao A2 co c2 O w0.heap.size f (some ⟨b1, o1, none⟩) c3 L) := ⟨HZ11.out.fr hf⟩
              rw [← HC6.out]
              clear hf HZ11 HA11 yc0 yc1 yc2 yc3 yc4 yc5 yc6 yc7 yc8
              have hpl := HPl.out
              go_wp2_with fail
              go_roundg (L.length - (k + 1))
              case rel => exact ⟨k + 1, L9, F9, by go_num, by omega, rfl, by omega, HK13.out⟩
              case measure => have := HG.out; omega
            · obtain rfl : k = L.length := by omega
              have q2 : decide ((L.length : Int) < (L.length : Int)) = false := by simp
              go_wp2_with fail
              refine (awake wr).mono ?_
              rintro e w10 ⟨rfl, hb⟩
              have HB3 := Lib.hid (HK.out.below hb).z.b
              clear hb HK
              go_wp2_with fail
              go_ret
              exact ⟨rfl, HB3.out⟩
end Law18
end Go.Proofs.YtdpngmgaomghoaaGreat
