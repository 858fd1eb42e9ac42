/- In which parts digests differ: the program's, and the document's. -/
import Derived.Test.YtmcghchhegfilaaDigD
namespace Go.Proofs.Ytmcghchhegfilaa
open Go.RowKit
namespace DigW
open KeyP PackP SetP SetW SetF
attribute [local go_sem] Eng.ev Eng.getO_cons Eng.getO_nil
abbrev TI : TypeId := 3
abbrev TIs : TypeId := 27
theorem infoI : (Try.prog.info? TI).map (fun i => (i.zero, i.size, i.bytes)) = some (some (.int .i64 0), 1, 8) := by kernel_rfl
/-- What differs, below k. -/
def dto (f g : Nat → Int) (k : Nat) : List Int := ((List.range k).filter (fun j => f j != g j)).map (fun (j : Nat) => (j : Int))
theorem dto_snoc (f g : Nat → Int) (k : Nat) : dto f g (k + 1) = dto f g k ++ if (f k != g k) = true then [(k : Int)] else [] := by
  unfold dto
  rw [List.range_succ, List.filter_append, List.map_append, List.filter_cons]
  cases f k != g k <;> rfl
theorem dto_len (f g : Nat → Int) (k : Nat) : (dto f g k).length ≤ k := by
  unfold dto
  rw [List.length_map]
  exact Nat.le_trans (List.length_filter_le _ _) (by rw [List.length_range]; exact Nat.le_refl _)
theorem dto_same {f g : Nat → Int} (h : eqD f g = true) : dto f g 16 = [] := by
  rw [eqD_iff] at h
  unfold dto
  rw [List.filter_eq_nil_iff.2 (fun k hk => by rw [h k (List.mem_range.1 hk)]; simp)]; rfl
theorem dto_dgI (L M : List Sn) : dto (dgI L) (dgI M) 16 = Dig.ofN (Dig.differ (Dig.dig L) (Dig.dig M)) := by
  unfold dto Dig.differ Dig.ofN
  congr 2
  funext k
  show (((Dig.dig L k : Nat) : Int) != ((Dig.dig M k : Nat) : Int)) = _
  by_cases h : Dig.dig L k = Dig.dig M k
  · simp [h]
  · have : ((Dig.dig L k : Nat) : Int) ≠ ((Dig.dig M k : Nat) : Int) := by omega
    simp [h, this]
/-- A list of numbers that came in, or was made. -/
structure Il (w : World) (A : Option Addr) (c : Nat) (l : List Int) : Prop where
  s : Sl w 1 A l.length c (ints l)
theorem Il.below {w w' : World} {A : Option Addr} {c : Nat} {l : List Int} (h : Il w A c l) (hb : Below w.heap.size w w') : Il w' A c l := ⟨h.s.fr (Fr.of_below' hb (fun _ => False)) (fun _ _ h => h)⟩
/-- A new list of numbers. -/
def InPost (M : List Int) (w : World) (e : Ending) (w' : World) : Prop := ∃ A c, e = .returned (.slice A M.length c) ∧ Il w' A c M ∧ w'.ownsRow w.heap.size TI 1 (.slice A M.length c) M.length (ints M) ∧ Below w.heap.size w w'
/-- Where the loop stands: two boxes, and a list of one's own. -/
structure FSt (w0 w : World) (f g : Nat → Int) (v : Value) (N : List Int) : Prop where
  b1 : Bk w w0.heap.size (dar f) TDg
  b2 : Bk w (w0.heap.size + 1) (dar g) TDg
  o : w.ownsRow (w0.heap.size + 2) TI 1 v N.length (ints N)
  b : Below w0.heap.size w0 w
  z : w0.heap.size + 2 ≤ w.heap.size
theorem FSt.fr {w0 w w' : World} {f g : Nat → Int} {v : Value} {N : List Int} (h : FSt w0 w f g v N) (hf : Fr (fun _ => False) w w') : FSt w0 w' f g v N :=
  ⟨h.b1.fr hf (fun _ _ h => h), h.b2.fr hf (fun _ _ h => h), ownsRow_fr h.o hf (fun _ _ h => h), h.b.trans (hf.below h.b.size (fun _ _ h => h)), Nat.le_trans h.z hf.size⟩
theorem FSt.start (w : World) (f g : Nat → Int) : FSt w ((w.alloc (.cells (dar f) TDg)).alloc (.cells (dar g) TDg)) f g (.slice none 0 0) [] := by
  have f1 := Fr.alloc (fun _ => False) w (.cells (dar f) TDg)
  have f2 := Fr.alloc (fun _ => False) (w.alloc (.cells (dar f) TDg)) (.cells (dar g) TDg)
  have s := Bk.new (w.alloc (.cells (dar f) TDg)) (dar g) TDg
  rw [World.size_alloc] at s
  exact ⟨(Bk.new w (dar f) TDg).fr f2 (fun _ _ h => h), s, World.ownsRow_nil _ _ _ _, (f1.trans f2 (T := fun _ => False) (fun _ _ h => h) (fun _ _ h => h)).below (Nat.le_refl _) (fun _ _ h => h), by rw [World.size_alloc, World.size_alloc]; omega⟩
theorem FSt.add {w0 w w1 : World} {f g : Nat → Int} {v v' : Value} {N : List Int} {o : Obj} {x : Int} (h : FSt w0 w f g v N) (hown : w1.ownsRow (w0.heap.size + 2) TI 1 v' (N.length + 1) (ints N ++ [.int .i64 x])) (hg : (w.alloc o).grownBy w1 v.ownBlock) : FSt w0 w1 f g v' (N ++ [x]) := by
  have hk := ownsRow_blk h.o
  have hf : Fr (fun k => v.ownBlock = some k) w w1 := (Fr.alloc (fun _ => False) w o).trans (Fr.grown hg (S := fun k => v.ownBlock = some k) (fun _ h => h)) (fun _ _ h => h.elim) (fun _ _ h => h)
  refine ⟨h.b1.fr hf (fun k hk' e => ?_), h.b2.fr hf (fun k hk' e => ?_), by simpa [ints] using hown, h.b.trans (hf.below h.b.size (fun k hk' e => ?_)), Nat.le_trans h.z hf.size⟩
  all_goals (have := (hk _ e).1; first | (simp at hk'; omega) | omega)
theorem FSt.post {w0 w : World} {f g : Nat → Int} {v : Value} {N : List Int} (h : FSt w0 w f g v N) (M : List Int) (hM : M = N) : InPost M w0 (.returned v) w := by
  subst hM
  obtain ⟨A, c, rfl, h1, -⟩ := Sl.of_own h.o
  exact ⟨A, c, rfl, ⟨h1⟩, ownsRow_base h.o (by omega), h.b⟩
set_option maxRecDepth 100000 in
set_option maxHeartbeats 400000 in
theorem Differr {ops : Array Oper} (hops : Eng.fnOps Try.f17 7 = ops) (a0 : Act) (Q : Exit → Act → World → Prop) (w0 w : World) (f g : Nat → Int) (v : Value) (N : List Int) (k : Nat) (hk : k < 16) (hst : FSt w0 w f g v N)
    (hn : a0.tmps.size = 31) (h_2 : a0.tmps.getD 2 undef = .pointer (some ⟨w0.heap.size, 0, none⟩)) (h_3 : a0.tmps.getD 3 undef = .pointer (some ⟨w0.heap.size + 1, 0, none⟩)) (h_6 : a0.tmps.getD 6 undef = .int .i64 (k : Int))
    (hpost : ∀ (x : Nat → Value) (w' : World), x 24 = .bool (f k != g k) → FSt w0 w' f g v N → Q .normal (Eng.setAll a0 [16, 17, 18, 19, 20, 21, 22, 23, 24] x) w') :
    (Code.region 7 ops true).wp Try.prog Q a0 w := by
  simp only [Eng.fnOps, Eng.regOps, Try.f17, Option.bind_some, Option.getD_some, Nat.reduceEqDiff, ↓reduceIte, Nat.reduceBEq] at hops
  subst hops
  have q1 : (0 : Int) ≤ (k : Int) := by omega
  have q2 : (k : Int) < 16 := by omega
  have HSt := Lib.hid (hst.fr (Fr.drew _ _))
  have hSS : w.drew.cell? ⟨w0.heap.size, k, none⟩ = some (.int .i64 (f k)) ∧ w.drew.cell? ⟨w0.heap.size + 1, k, none⟩ = some (.int .i64 (g k)) := ⟨(HSt.out.b1.cell k).trans (dar_at f hk), (HSt.out.b2.cell k).trans (dar_at g hk)⟩
  refine Eng.regionT (.take 0 (.take 1 (.take 2 (.take 3 (.take 4 (.take 5 (.take 6 (.take 7 (.take 8 (.done)))))))))) (fun w' => w'.cell? ⟨w0.heap.size, k, none⟩ = some (.int .i64 (f k)) ∧ w'.cell? ⟨w0.heap.size + 1, k, none⟩ = some (.int .i64 (g k))) (by kernel_rfl) 31 hn (by kernel_rfl) (by kernel_rfl) (by kernel_rfl) (hSS) (fun a b ha hb => ?_)
  subst ha
  have hb2 : b 2 = .pointer (some ⟨w0.heap.size, 0, none⟩) := (hb 2).symm.trans h_2
  have hb3 : b 3 = .pointer (some ⟨w0.heap.size + 1, 0, none⟩) := (hb 3).symm.trans h_3
  have hb6 : b 6 = .int .i64 (k : Int) := (hb 6).symm.trans h_6
  clear hb h_2 h_3 h_6
  have HP := Lib.hid hpost; have HN := Lib.hid hn
  clear hpost hn
  refine Eng.TW.take' (v := ?_) rfl rfl (by decide) (by kernel_rfl) (fun w hw => ?_) ?_
  rotate_left
  · (try dsimp only at hw); go_simp; first | done | with_reducible rfl
  refine Eng.TW.take' (v := ?_) rfl rfl (by decide) (by kernel_rfl) (fun w hw => ?_) ?_
  rotate_left
  · (try dsimp only at hw); go_simp; first | done | with_reducible rfl
  refine Eng.TW.take' (v := ?_) rfl rfl (by decide) (by kernel_rfl) (fun w hw => ?_) ?_
  rotate_left
  · (try dsimp only at hw); go_simp; first | done | with_reducible rfl
  refine Eng.TW.take' (v := ?_) rfl rfl (by decide) (by kernel_rfl) (fun w hw => ?_) ?_
  rotate_left
  · (try dsimp only at hw); go_simp; first | done | with_reducible rfl
  refine Eng.TW.take' (v := ?_) rfl rfl (by decide) (by kernel_rfl) (fun w hw => ?_) ?_
  rotate_left
  · (try dsimp only at hw); go_simp; first | done | with_reducible rfl
  refine Eng.TW.take' (v := ?_) rfl rfl (by decide) (by kernel_rfl) (fun w hw => ?_) ?_
  rotate_left
  · (try dsimp only at hw); go_simp; first | done | with_reducible rfl
  refine Eng.TW.take' (v := ?_) rfl rfl (by decide) (by kernel_rfl) (fun w hw => ?_) ?_
  rotate_left
  · (try dsimp only at hw); go_simp; first | done | with_reducible rfl
  refine Eng.TW.take' (v := ?_) rfl rfl (by decide) (by kernel_rfl) (fun w hw => ?_) ?_
  rotate_left
  · (try dsimp only at hw); go_simp; first | done | with_reducible rfl
  refine Eng.TW.take' (v := ?_) rfl rfl (by decide) (by kernel_rfl) (fun w hw => ?_) ?_
  rotate_left
  · (try dsimp only at hw); go_simp; first | done | with_reducible rfl
  refine Eng.TW.end_ [16, 17, 18, 19, 20, 21, 22, 23, 24] HN.out (by kernel_rfl) (by kernel_rfl) ?_
  exact HP.out _ _ rfl HSt.out

set_option maxRecDepth 100000 in
set_option maxHeartbeats 1000000 in
theorem Differ (f g : Nat → Int) (w : World) : Calls Try.prog 17 #[dv f, dv g] w (InPost (dto f g 16) w) := by
  obtain ⟨i0, hi, hz0, hz1, hz2⟩ := info_parts infoI
  have HW := Lib.hid (FSt.start w f g)
  have HSame := Lib.hid (dto_same (f := f) (g := g))
  have HEq := Lib.hid (fun W : World => eql_arr f g W)
  obtain ⟨D, hD⟩ : ∃ D, dto f g 16 = D := ⟨_, rfl⟩
  rw [hD] at HSame ⊢
  have HD := Lib.hid hD
  clear hD
  go_enter Try.func17, Try.ntmps17
  go_upto_region 1 with (fail)
  generalize ((w.alloc (.cells (dar f) TDg)).alloc (.cells (dar g) TDg)) = w1 at *
  have a0 : w1.cell? ⟨w.heap.size, 0, none⟩ = some (.int .i64 (f 0)) := (HW.out.b1.cell 0).trans rfl
  have b0 : w1.cell? ⟨w.heap.size + 1, 0, none⟩ = some (.int .i64 (g 0)) := (HW.out.b2.cell 0).trans rfl
  have a1 : w1.cell? ⟨w.heap.size, 1, none⟩ = some (.int .i64 (f 1)) := (HW.out.b1.cell 1).trans rfl
  have b1 : w1.cell? ⟨w.heap.size + 1, 1, none⟩ = some (.int .i64 (g 1)) := (HW.out.b2.cell 1).trans rfl
  have a2 : w1.cell? ⟨w.heap.size, 2, none⟩ = some (.int .i64 (f 2)) := (HW.out.b1.cell 2).trans rfl
  have b2 : w1.cell? ⟨w.heap.size + 1, 2, none⟩ = some (.int .i64 (g 2)) := (HW.out.b2.cell 2).trans rfl
  have a3 : w1.cell? ⟨w.heap.size, 3, none⟩ = some (.int .i64 (f 3)) := (HW.out.b1.cell 3).trans rfl
  have b3 : w1.cell? ⟨w.heap.size + 1, 3, none⟩ = some (.int .i64 (g 3)) := (HW.out.b2.cell 3).trans rfl
  have a4 : w1.cell? ⟨w.heap.size, 4, none⟩ = some (.int .i64 (f 4)) := (HW.out.b1.cell 4).trans rfl
  have b4 : w1.cell? ⟨w.heap.size + 1, 4, none⟩ = some (.int .i64 (g 4)) := (HW.out.b2.cell 4).trans rfl
  have a5 : w1.cell? ⟨w.heap.size, 5, none⟩ = some (.int .i64 (f 5)) := (HW.out.b1.cell 5).trans rfl
  have b5 : w1.cell? ⟨w.heap.size + 1, 5, none⟩ = some (.int .i64 (g 5)) := (HW.out.b2.cell 5).trans rfl
  have a6 : w1.cell? ⟨w.heap.size, 6, none⟩ = some (.int .i64 (f 6)) := (HW.out.b1.cell 6).trans rfl
  have b6 : w1.cell? ⟨w.heap.size + 1, 6, none⟩ = some (.int .i64 (g 6)) := (HW.out.b2.cell 6).trans rfl
  have a7 : w1.cell? ⟨w.heap.size, 7, none⟩ = some (.int .i64 (f 7)) := (HW.out.b1.cell 7).trans rfl
  have b7 : w1.cell? ⟨w.heap.size + 1, 7, none⟩ = some (.int .i64 (g 7)) := (HW.out.b2.cell 7).trans rfl
  have a8 : w1.cell? ⟨w.heap.size, 8, none⟩ = some (.int .i64 (f 8)) := (HW.out.b1.cell 8).trans rfl
  have b8 : w1.cell? ⟨w.heap.size + 1, 8, none⟩ = some (.int .i64 (g 8)) := (HW.out.b2.cell 8).trans rfl
  have a9 : w1.cell? ⟨w.heap.size, 9, none⟩ = some (.int .i64 (f 9)) := (HW.out.b1.cell 9).trans rfl
  have b9 : w1.cell? ⟨w.heap.size + 1, 9, none⟩ = some (.int .i64 (g 9)) := (HW.out.b2.cell 9).trans rfl
  have a10 : w1.cell? ⟨w.heap.size, 10, none⟩ = some (.int .i64 (f 10)) := (HW.out.b1.cell 10).trans rfl
  have b10 : w1.cell? ⟨w.heap.size + 1, 10, none⟩ = some (.int .i64 (g 10)) := (HW.out.b2.cell 10).trans rfl
  have a11 : w1.cell? ⟨w.heap.size, 11, none⟩ = some (.int .i64 (f 11)) := (HW.out.b1.cell 11).trans rfl
  have b11 : w1.cell? ⟨w.heap.size + 1, 11, none⟩ = some (.int .i64 (g 11)) := (HW.out.b2.cell 11).trans rfl
  have a12 : w1.cell? ⟨w.heap.size, 12, none⟩ = some (.int .i64 (f 12)) := (HW.out.b1.cell 12).trans rfl
  have b12 : w1.cell? ⟨w.heap.size + 1, 12, none⟩ = some (.int .i64 (g 12)) := (HW.out.b2.cell 12).trans rfl
  have a13 : w1.cell? ⟨w.heap.size, 13, none⟩ = some (.int .i64 (f 13)) := (HW.out.b1.cell 13).trans rfl
  have b13 : w1.cell? ⟨w.heap.size + 1, 13, none⟩ = some (.int .i64 (g 13)) := (HW.out.b2.cell 13).trans rfl
  have a14 : w1.cell? ⟨w.heap.size, 14, none⟩ = some (.int .i64 (f 14)) := (HW.out.b1.cell 14).trans rfl
  have b14 : w1.cell? ⟨w.heap.size + 1, 14, none⟩ = some (.int .i64 (g 14)) := (HW.out.b2.cell 14).trans rfl
  have a15 : w1.cell? ⟨w.heap.size, 15, none⟩ = some (.int .i64 (f 15)) := (HW.out.b1.cell 15).trans rfl
  have b15 : w1.cell? ⟨w.heap.size + 1, 15, none⟩ = some (.int .i64 (g 15)) := (HW.out.b2.cell 15).trans rfl
  have hq := HEq.out
  have HS := Lib.hid HSame.out
  clear HEq HSame
  generalize hqq : eqD f g = q at *
  clear hqq
  cases q with
  | true =>
    have HDn := Lib.hid (HS.out rfl)
    clear HS
    go_wp2_with fail
    go_ret
    exact HW.out.post D HDn.out
  | false =>
    clear HS
    go_wp2_with fail
    go_loopg [5, 6, 13] 16 (fun gk v _ i wr => ∃ (k : Nat), i = .int .i64 k ∧ k ≤ 16 ∧ gk = 16 - k ∧ FSt w wr f g v (dto f g k))
    case atStart => exact ⟨0, rfl, Nat.zero_le _, rfl, HW.out⟩
    case round =>
      clear HW
      obtain ⟨k, rfl, hk, hg, hos⟩ := hrel
      have HGk := Lib.hid hg; have HW := Lib.hid hos
      have hln := dto_len f g k
      have HSn := Lib.hid (dto_snoc f g k)
      clear hg hos
      generalize hN : dto f g k = N at *
      have HN := Lib.hid hN
      clear hN b0 b1 b2 b3 b4 b5 b6 b7 b8 b9 b10 b11 b12 b13 b14 b15 a0 a1 a2 a3 a4 a5 a6 a7 a8 a9 a10 a11 a12 a13 a14 a15 hq
      by_cases hlt : k < 16
      · have q2 : decide ((k : Int) < 16) = true := by simp; omega
        go_upto_region 7 with (fail)
        refine Differr (by kernel_rfl) _ _ w wr f g _ N k hlt HW.out rfl rfl rfl rfl ?_
        intro x w2 h3 hst
        simp only [Eng.setAll, Act.put, List.setIfInBounds_toArray, List.set_cons_succ, List.set_cons_zero]
        rw [h3]
        have HSt := Lib.hid hst
        clear h3 hst HW
        cases hq : (f k != g k) with
        | true =>
          rw [hq] at HSn
          have hown1 := HSt.out.o.alloc (.cells #[.int .i64 (k : Int)] TI)
          clear hq
          have hzz := HSt.out.z
          go_wp2_with (at_builtin; refine wpList_append_sl _ rfl (.tmp 25) (.tmp 27) TIs rfl (w.heap.size + 2) TI i0 (.int .i64 0) 1 8 Try.underlying27 hi hz0 hz1 hz2 rfl (by decide) _ _ _ rfl hown1 _ _ _ _ rfl (Sl.one w2 TI [.int .i64 (k : Int)] 1 rfl) (by simp [Value.oneCell']) ?_ ?_ ?_ ?_)
          · unfold maxLen; omega
          · omega
          · first | omega | (simp; omega)
          intro v1 w3 hown2 hgrow2
          have HS3 := Lib.hid (HSt.out.add hown2 hgrow2)
          clear hown1 hown2 hgrow2 HSt
          go_wp2_with fail
          go_roundg (16 - (k + 1))
          case rel => exact ⟨k + 1, by go_num, by omega, rfl, by rw [HSn.out]; exact HS3.out⟩
          case measure => have := HGk.out; omega
        | false =>
          rw [hq] at HSn
          clear hq
          go_wp2_with fail
          go_roundg (16 - (k + 1))
          case rel => exact ⟨k + 1, by go_num, by omega, rfl, by rw [HSn.out]; simpa using HSt.out⟩
          case measure => have := HGk.out; omega
      · obtain rfl : k = 16 := by omega
        have q2 : decide (((16 : Nat) : Int) < 16) = false := by decide
        have HX := Lib.hid (HW.out.post D (by rw [← HD.out, HN.out]))
        go_wp2_with fail
        go_ret
        exact HX.out
set_option maxRecDepth 100000 in
set_option maxHeartbeats 400000 in
theorem RefDifferr {ops : Array Oper} (hops : Eng.fnOps Try.f18 5 = ops) (a0 : Act) (Q : Exit → Act → World → Prop) (w0 w : World) (f g : Nat → Int) (v : Value) (N : List Int) (k : Nat) (hk : k < 16) (hst : FSt w0 w f g v N)
    (hn : a0.tmps.size = 25) (h_2 : a0.tmps.getD 2 undef = .pointer (some ⟨w0.heap.size, 0, none⟩)) (h_3 : a0.tmps.getD 3 undef = .pointer (some ⟨w0.heap.size + 1, 0, none⟩)) (h_6 : a0.tmps.getD 6 undef = .int .i64 (k : Int))
    (hpost : ∀ (x : Nat → Value) (w' : World), x 19 = .bool (f k != g k) → FSt w0 w' f g v N → Q .normal (Eng.setAll a0 [11, 12, 13, 14, 15, 16, 17, 18, 19] x) w') :
    (Code.region 5 ops true).wp Try.prog Q a0 w := by
  simp only [Eng.fnOps, Eng.regOps, Try.f18, Option.bind_some, Option.getD_some, Nat.reduceEqDiff, ↓reduceIte, Nat.reduceBEq] at hops
  subst hops
  have q1 : (0 : Int) ≤ (k : Int) := by omega
  have q2 : (k : Int) < 16 := by omega
  have HSt := Lib.hid (hst.fr (Fr.drew _ _))
  have hSS : w.drew.cell? ⟨w0.heap.size, k, none⟩ = some (.int .i64 (f k)) ∧ w.drew.cell? ⟨w0.heap.size + 1, k, none⟩ = some (.int .i64 (g k)) := ⟨(HSt.out.b1.cell k).trans (dar_at f hk), (HSt.out.b2.cell k).trans (dar_at g hk)⟩
  refine Eng.regionT (.take 0 (.take 1 (.take 2 (.take 3 (.take 4 (.take 5 (.take 6 (.take 7 (.take 8 (.done)))))))))) (fun w' => w'.cell? ⟨w0.heap.size, k, none⟩ = some (.int .i64 (f k)) ∧ w'.cell? ⟨w0.heap.size + 1, k, none⟩ = some (.int .i64 (g k))) (by kernel_rfl) 25 hn (by kernel_rfl) (by kernel_rfl) (by kernel_rfl) (hSS) (fun a b ha hb => ?_)
  subst ha
  have hb2 : b 2 = .pointer (some ⟨w0.heap.size, 0, none⟩) := (hb 2).symm.trans h_2
  have hb3 : b 3 = .pointer (some ⟨w0.heap.size + 1, 0, none⟩) := (hb 3).symm.trans h_3
  have hb6 : b 6 = .int .i64 (k : Int) := (hb 6).symm.trans h_6
  clear hb h_2 h_3 h_6
  have HP := Lib.hid hpost; have HN := Lib.hid hn
  clear hpost hn
  refine Eng.TW.take' (v := ?_) rfl rfl (by decide) (by kernel_rfl) (fun w hw => ?_) ?_
  rotate_left
  · (try dsimp only at hw); go_simp; first | done | with_reducible rfl
  refine Eng.TW.take' (v := ?_) rfl rfl (by decide) (by kernel_rfl) (fun w hw => ?_) ?_
  rotate_left
  · (try dsimp only at hw); go_simp; first | done | with_reducible rfl
  refine Eng.TW.take' (v := ?_) rfl rfl (by decide) (by kernel_rfl) (fun w hw => ?_) ?_
  rotate_left
  · (try dsimp only at hw); go_simp; first | done | with_reducible rfl
  refine Eng.TW.take' (v := ?_) rfl rfl (by decide) (by kernel_rfl) (fun w hw => ?_) ?_
  rotate_left
  · (try dsimp only at hw); go_simp; first | done | with_reducible rfl
  refine Eng.TW.take' (v := ?_) rfl rfl (by decide) (by kernel_rfl) (fun w hw => ?_) ?_
  rotate_left
  · (try dsimp only at hw); go_simp; first | done | with_reducible rfl
  refine Eng.TW.take' (v := ?_) rfl rfl (by decide) (by kernel_rfl) (fun w hw => ?_) ?_
  rotate_left
  · (try dsimp only at hw); go_simp; first | done | with_reducible rfl
  refine Eng.TW.take' (v := ?_) rfl rfl (by decide) (by kernel_rfl) (fun w hw => ?_) ?_
  rotate_left
  · (try dsimp only at hw); go_simp; first | done | with_reducible rfl
  refine Eng.TW.take' (v := ?_) rfl rfl (by decide) (by kernel_rfl) (fun w hw => ?_) ?_
  rotate_left
  · (try dsimp only at hw); go_simp; first | done | with_reducible rfl
  refine Eng.TW.take' (v := ?_) rfl rfl (by decide) (by kernel_rfl) (fun w hw => ?_) ?_
  rotate_left
  · (try dsimp only at hw); go_simp; first | done | with_reducible rfl
  refine Eng.TW.end_ [11, 12, 13, 14, 15, 16, 17, 18, 19] HN.out (by kernel_rfl) (by kernel_rfl) ?_
  exact HP.out _ _ rfl HSt.out

set_option maxRecDepth 100000 in
set_option maxHeartbeats 1000000 in
theorem RefDiffer (f g : Nat → Int) (w : World) : Calls Try.prog 18 #[dv f, dv g] w (InPost (dto f g 16) w) := by
  obtain ⟨i0, hi, hz0, hz1, hz2⟩ := info_parts infoI
  have HW := Lib.hid (FSt.start w f g)
  have HSame := Lib.hid (dto_same (f := f) (g := g))
  have HEq := Lib.hid (fun W : World => eql_arr f g W)
  obtain ⟨D, hD⟩ : ∃ D, dto f g 16 = D := ⟨_, rfl⟩
  rw [hD] at HSame ⊢
  have HD := Lib.hid hD
  clear hD
  go_enter Try.func18, Try.ntmps18
  go_upto_region 1 with (fail)
  generalize ((w.alloc (.cells (dar f) TDg)).alloc (.cells (dar g) TDg)) = w1 at *
  · clear HEq HSame
    go_wp2_with fail
    go_loopg [5, 6] 16 (fun gk v i wr => ∃ (k : Nat), i = .int .i64 k ∧ k ≤ 16 ∧ gk = 16 - k ∧ FSt w wr f g v (dto f g k))
    case atStart => exact ⟨0, rfl, Nat.zero_le _, rfl, HW.out⟩
    case round =>
      clear HW
      obtain ⟨k, rfl, hk, hg, hos⟩ := hrel
      have HGk := Lib.hid hg; have HW := Lib.hid hos
      have hln := dto_len f g k
      have HSn := Lib.hid (dto_snoc f g k)
      clear hg hos
      generalize hN : dto f g k = N at *
      have HN := Lib.hid hN
      clear hN
      by_cases hlt : k < 16
      · have q2 : decide ((k : Int) < 16) = true := by simp; omega
        go_upto_region 5 with (fail)
        refine RefDifferr (by kernel_rfl) _ _ w wr f g _ N k hlt HW.out rfl rfl rfl rfl ?_
        intro x w2 h3 hst
        simp only [Eng.setAll, Act.put, List.setIfInBounds_toArray, List.set_cons_succ, List.set_cons_zero]
        rw [h3]
        have HSt := Lib.hid hst
        clear h3 hst HW
        cases hq : (f k != g k) with
        | true =>
          rw [hq] at HSn
          have hown1 := HSt.out.o.alloc (.cells #[.int .i64 (k : Int)] TI)
          clear hq
          have hzz := HSt.out.z
          go_wp2_with (at_builtin; refine wpList_append_sl _ rfl (.tmp 20) (.tmp 22) TIs rfl (w.heap.size + 2) TI i0 (.int .i64 0) 1 8 Try.underlying27 hi hz0 hz1 hz2 rfl (by decide) _ _ _ rfl hown1 _ _ _ _ rfl (Sl.one w2 TI [.int .i64 (k : Int)] 1 rfl) (by simp [Value.oneCell']) ?_ ?_ ?_ ?_)
          · unfold maxLen; omega
          · omega
          · first | omega | (simp; omega)
          intro v1 w3 hown2 hgrow2
          have HS3 := Lib.hid (HSt.out.add hown2 hgrow2)
          clear hown1 hown2 hgrow2 HSt
          go_wp2_with fail
          go_roundg (16 - (k + 1))
          case rel => exact ⟨k + 1, by go_num, by omega, rfl, by rw [HSn.out]; exact HS3.out⟩
          case measure => have := HGk.out; omega
        | false =>
          rw [hq] at HSn
          clear hq
          go_wp2_with fail
          go_roundg (16 - (k + 1))
          case rel => exact ⟨k + 1, by go_num, by omega, rfl, by rw [HSn.out]; simpa using HSt.out⟩
          case measure => have := HGk.out; omega
      · obtain rfl : k = 16 := by omega
        have q2 : decide (((16 : Nat) : Int) < 16) = false := by decide
        have HX := Lib.hid (HW.out.post D (by rw [← HD.out, HN.out]))
        go_wp2_with fail
        go_ret
        exact HX.out
end DigW
end Go.Proofs.Ytmcghchhegfilaa
