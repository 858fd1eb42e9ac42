/- Deltas: the document's: what is between, what a set becomes. -/
import Derived.Test.YtkhhdadlpilbmaaGreatRefDr
namespace Go.Proofs.YtkhhdadlpilbmaaGreat
open Go.RowKit
namespace RefD
open KeyP PackP SetP SetW SetF Delta Comp
attribute [local go_sem] Eng.ev Eng.getO_cons Eng.getO_nil
theorem WithoutL {A A1 : Option Addr} {c c1 : Nat} {L M : List Sn} {w : World} (h : Ls w A c L) (h1 : Ls w A1 c1 M) (hl : L.length ≤ 1000000) :
    Calls Tryz.prog 31 #[.slice A L.length c, .slice A1 M.length c1] w (LsPost (wout M L) w) :=
  (Without A A1 c c1 L M w h.s h1.s hl).mono (fun _ _ hp => LsPost.of hp (fun x hx => h.ok x (wout_mem.1 hx).1))
set_option maxRecDepth 100000 in
set_option maxHeartbeats 1000000 in
theorem Between (A A2 : Option Addr) (c c2 : Nat) (a b : List Sn) (w : World) (h1 : Ls w A c a) (h2 : Ls w A2 c2 b) (hl1 : a.length ≤ 1000000) (hl2 : b.length ≤ 1000000) :
    Calls Tryz.prog 15 #[.slice A a.length c, .slice A2 b.length c2] w (DlPost (wout (setOf b) (setOf a)) (wout (setOf a) (setOf b)) w) := by
  have hf := Fr.alloc (fun _ => False) w (.cells #[.slice none 0 0, .slice none 0 0] TDl)
  have HR := Lib.hid (Bk.new w #[.slice none 0 0, .slice none 0 0] TDl)
  have HB := Lib.hid ((Below.refl w.heap.size w).alloc (Nat.le_refl _) (.cells #[.slice none 0 0, .slice none 0 0] TDl))
  have HL1 := Lib.hid (h1.keep hf); have HL2 := Lib.hid (h2.keep hf)
  have HLn1 : Hid ((setOf a).length ≤ 1000000) := Nat.le_trans (setOf_len a) hl1
  have HLn2 : Hid ((setOf b).length ≤ 1000000) := Nat.le_trans (setOf_len b) hl2
  have hz1 : w.heap.size < (w.alloc (.cells #[.slice none 0 0, .slice none 0 0] TDl)).heap.size := by simp
  have HZ := Lib.hid hz1
  clear h1 h2 hf hz1
  go_enter Tryz.func15, Tryz.ntmps15
  go_upto_region 1 with (fail)
  generalize (w.alloc (.cells #[.slice none 0 0, .slice none 0 0] TDl)) = w1 at *
  go_wp2_with fail
  refine (RefSet A c a w1 HL1.out hl1).mono ?_
  rintro e w2 ⟨A3, c3, rfl, hls, -, hb⟩
  replace HZ : Hid (w.heap.size < w2.heap.size) := Nat.lt_of_lt_of_le HZ.out hb.size
  replace HR := Lib.hid (HR.out.below hb)
  replace HL1 := Lib.hid (HL1.out.below hb)
  replace HL2 := Lib.hid (HL2.out.below hb)
  replace HB := Lib.hid (HB.out.trans (hb.mono HB.out.size))
  clear hb
  have HX := Lib.hid hls
  clear hls
  go_wp2_with fail
  refine (RefSet A2 c2 b w2 HL2.out hl2).mono ?_
  rintro e w3 ⟨A4, c4, rfl, hls, -, hb⟩
  replace HZ : Hid (w.heap.size < w3.heap.size) := Nat.lt_of_lt_of_le HZ.out hb.size
  replace HR := Lib.hid (HR.out.below hb)
  replace HL1 := Lib.hid (HL1.out.below hb)
  replace HL2 := Lib.hid (HL2.out.below hb)
  replace HX := Lib.hid (HX.out.below hb)
  replace HB := Lib.hid (HB.out.trans (hb.mono HB.out.size))
  clear hb
  have HY := Lib.hid hls
  clear hls
  generalize setOf a = X at *
  generalize setOf b = Y at *
  go_wp2_with fail
  refine (WithoutL HX.out HY.out HLn1.out).mono ?_
  rintro e w4 ⟨A5, c5, rfl, hls, ho, hb⟩
  have hnA5 : ∀ q, A5 = some q → w.heap.size < q.block := by
    obtain ⟨A', c', he, -, h3⟩ := Sl.of_own ho
    cases he
    exact fun q hq => Nat.lt_of_lt_of_le HZ.out (h3 q hq).1
  have Hho := Lib.hid hnA5
  clear ho hnA5
  replace HZ : Hid (w.heap.size < w4.heap.size) := Nat.lt_of_lt_of_le HZ.out hb.size
  replace HR := Lib.hid (HR.out.below hb)
  replace HL1 := Lib.hid (HL1.out.below hb)
  replace HL2 := Lib.hid (HL2.out.below hb)
  replace HX := Lib.hid (HX.out.below hb)
  replace HY := Lib.hid (HY.out.below hb)
  replace HB := Lib.hid (HB.out.trans (hb.mono HB.out.size))
  clear hb
  have HO := Lib.hid hls
  clear hls
  go_wp2_with fail
  refine (WithoutL HY.out HX.out HLn2.out).mono ?_
  rintro e w5 ⟨A6, c6, rfl, hls, hi, hb⟩
  have hnA6 : ∀ q, A6 = some q → w.heap.size < q.block := by
    obtain ⟨A', c', he, -, h3⟩ := Sl.of_own hi
    cases he
    exact fun q hq => Nat.lt_of_lt_of_le HZ.out (h3 q hq).1
  have Hhi := Lib.hid hnA6
  clear hi hnA6
  replace HZ : Hid (w.heap.size < w5.heap.size) := Nat.lt_of_lt_of_le HZ.out hb.size
  replace HR := Lib.hid (HR.out.below hb)
  replace HL1 := Lib.hid (HL1.out.below hb)
  replace HL2 := Lib.hid (HL2.out.below hb)
  replace HX := Lib.hid (HX.out.below hb)
  replace HY := Lib.hid (HY.out.below hb)
  replace HO := Lib.hid (HO.out.below hb)
  replace HB := Lib.hid (HB.out.trans (hb.mono HB.out.size))
  clear hb
  have HI := Lib.hid hls
  clear hls
  generalize wout Y X = O at *
  generalize wout X Y = I at *
  have kb : ∀ W : World, (Instr.build TDl #[(0, .slice A5 O.length c5), (1, .slice A6 I.length c6)]).run Tryz.prog W = .ok (.agg #[.slice A5 O.length c5, .slice A6 I.length c6]) W := fun W => by kernel_rfl
  have r0 := HR.out.cell 0; have r1 := HR.out.cell 1; have f0 := HR.out.free 0; have f1 := HR.out.free 1
  simp only [List.getElem?_toArray, List.getElem?_cons_zero, List.getElem?_cons_succ] at r0 r1
  go_wp2_with fail
  exact result HR.out HO.out HI.out HB.out Hho.out Hhi.out fun w' hbk hp hw => hw ▸ bodyPost_ret (results_cell_row rfl _ _ w.heap.size TDl _ (0, 0) _ rfl hbk Tryz.underlying24 rfl (by kernel_rfl)) rfl hp
theorem pos_ge (z : Sn) (L : List Sn) : decide (0 ≤ posI z L) = (fnd z L).isSome := by
  cases h : fnd z L with
  | none => rw [posI_none h]; rfl
  | some u => obtain ⟨k, _, h1, _⟩ := posI_some h; rw [h1]; simp
set_option maxRecDepth 100000 in
set_option maxHeartbeats 1000000 in
theorem says_ (d : Dl) (z : Sn) (w : World) (h : RdD w d) :
    Calls Tryz.prog 48 #[d.v, z.v] w fun e w' => e = .returned (.bool (says d.O d.I z)) ∧ Fr (fun _ => False) w w' := by
  have hf := fr2 w (.cells d.arr TDl) (.cells z.arr TSn)
  have HD := Lib.hid (h.keep hf)
  have HB1 := Lib.hid ((Bk.new w d.arr TDl).fr (Fr.alloc (fun _ => False) _ (.cells z.arr TSn)) (fun _ _ h => h))
  have HB2 := Lib.hid (show Bk ((w.alloc (.cells d.arr TDl)).alloc (.cells z.arr TSn)) (w.heap.size + 1) z.arr TSn by have := Bk.new (w.alloc (.cells d.arr TDl)) z.arr TSn; rwa [World.size_alloc] at this)
  have HF := Lib.hid hf
  have HQ : Hid (says d.O d.I z = ((fnd z d.O).isSome || (fnd z d.I).isSome)) := rfl
  have HP1 := Lib.hid (pos_ge z d.O); have HP2 := Lib.hid (pos_ge z d.I)
  clear h hf
  go_enter Tryz.func48, Tryz.ntmps48
  go_upto_region 1 with (fail)
  generalize ((w.alloc (.cells d.arr TDl)).alloc (.cells z.arr TSn)) = w1 at *
  have a0 : w1.cell? ⟨w.heap.size, 0, none⟩ = some (.slice d.A1 d.O.length d.c1) := HB1.out.cell 0
  have zc0 : w1.cell? ⟨w.heap.size + 1, 0, none⟩ = some (.int .i64 z.t) := (At.box HB2.out) 0 _ rfl
  have zc1 : w1.cell? ⟨w.heap.size + 1, 1, none⟩ = some (.int .i64 z.i) := (At.box HB2.out) 1 _ rfl
  have zc2 : w1.cell? ⟨w.heap.size + 1, 2, none⟩ = some (.int .i64 z.p) := (At.box HB2.out) 2 _ rfl
  have zc3 : w1.cell? ⟨w.heap.size + 1, 3, none⟩ = some (.int .i64 z.r) := (At.box HB2.out) 3 _ rfl
  have zc4 : w1.cell? ⟨w.heap.size + 1, 4, none⟩ = some (.string z.s) := (At.box HB2.out) 4 _ rfl
  have zc5 : w1.cell? ⟨w.heap.size + 1, 5, none⟩ = some (.string z.o) := (At.box HB2.out) 5 _ rfl
  have zc6 : w1.cell? ⟨w.heap.size + 1, 6, none⟩ = some (.int .i64 z.b) := (At.box HB2.out) 6 _ rfl
  have zc7 : w1.cell? ⟨w.heap.size + 1, 7, none⟩ = some (.int .i64 z.d) := (At.box HB2.out) 7 _ rfl
  have zc8 : w1.cell? ⟨w.heap.size + 1, 8, none⟩ = some (.bool z.g) := (At.box HB2.out) 8 _ rfl
  go_wp2_with fail
  refine (Find d.A1 d.c1 d.O z w1 HD.out.o.s).mono ?_
  rintro r w2 ⟨rfl, hf⟩
  have HD2 := Lib.hid (HD.out.keep hf); have HB22 := Lib.hid (HB2.out.fr hf (fun _ _ h => h))
  have a1 : w2.cell? ⟨w.heap.size, 1, none⟩ = some (.slice d.A2 d.I.length d.c2) := (HB1.out.fr hf (fun _ _ h => h)).cell 1
  have HF2 := Lib.hid (HF.out.trans hf (T := fun _ => False) (fun _ _ h => h) (fun _ _ h => h))
  clear hf a0 HB1 HB2 HD HF zc0 zc1 zc2 zc3 zc4 zc5 zc6 zc7 zc8
  have q0 := HP1.out
  cases h1 : (fnd z d.O).isSome with
  | true =>
    rw [h1] at q0
    go_wp2_with fail
    go_ret
    exact ⟨by rw [HQ.out, h1]; rfl, HF2.out⟩
  | false =>
    rw [h1] at q0
    have zc0 : w2.cell? ⟨w.heap.size + 1, 0, none⟩ = some (.int .i64 z.t) := (At.box HB22.out) 0 _ rfl
    have zc1 : w2.cell? ⟨w.heap.size + 1, 1, none⟩ = some (.int .i64 z.i) := (At.box HB22.out) 1 _ rfl
    have zc2 : w2.cell? ⟨w.heap.size + 1, 2, none⟩ = some (.int .i64 z.p) := (At.box HB22.out) 2 _ rfl
    have zc3 : w2.cell? ⟨w.heap.size + 1, 3, none⟩ = some (.int .i64 z.r) := (At.box HB22.out) 3 _ rfl
    have zc4 : w2.cell? ⟨w.heap.size + 1, 4, none⟩ = some (.string z.s) := (At.box HB22.out) 4 _ rfl
    have zc5 : w2.cell? ⟨w.heap.size + 1, 5, none⟩ = some (.string z.o) := (At.box HB22.out) 5 _ rfl
    have zc6 : w2.cell? ⟨w.heap.size + 1, 6, none⟩ = some (.int .i64 z.b) := (At.box HB22.out) 6 _ rfl
    have zc7 : w2.cell? ⟨w.heap.size + 1, 7, none⟩ = some (.int .i64 z.d) := (At.box HB22.out) 7 _ rfl
    have zc8 : w2.cell? ⟨w.heap.size + 1, 8, none⟩ = some (.bool z.g) := (At.box HB22.out) 8 _ rfl
    go_wp2_with fail
    refine (Find d.A2 d.c2 d.I z w2 HD2.out.i.s).mono ?_
    rintro r w3 ⟨rfl, hf⟩
    have HF3 := Lib.hid (HF2.out.trans hf (T := fun _ => False) (fun _ _ h => h) (fun _ _ h => h))
    clear hf HF2 a1 zc0 zc1 zc2 zc3 zc4 zc5 zc6 zc7 zc8
    have q1 := HP2.out
    obtain ⟨t, ht⟩ : ∃ t, (fnd z d.I).isSome = t := ⟨_, rfl⟩
    rw [ht] at q1
    go_wp2_with fail
    go_ret
    exact ⟨by rw [HQ.out, h1, ht]; rfl, HF3.out⟩
set_option maxRecDepth 100000 in
set_option maxHeartbeats 1000000 in
theorem FewD (d : Dl) (w : World) (h : RdD w d) :
    Calls Tryz.prog 6 #[d.v] w fun e w' => e = .returned (.bool (fewB d.O 12 && fewB d.I 12)) ∧ Fr (fun _ => False) w w' := by
  have hf := Fr.alloc (fun _ => False) w (.cells d.arr TDl)
  have HD := Lib.hid (h.keep hf)
  have HB1 := Lib.hid (Bk.new w d.arr TDl)
  have HF := Lib.hid hf
  clear h hf
  go_enter Tryz.func6, Tryz.ntmps6
  go_upto_region 1 with (fail)
  generalize (w.alloc (.cells d.arr TDl)) = w1 at *
  have a0 : w1.cell? ⟨w.heap.size, 0, none⟩ = some (.slice d.A1 d.O.length d.c1) := HB1.out.cell 0
  go_wp2_with fail
  refine (SetF.Few d.A1 d.c1 12 d.O w1 HD.out.o.s).mono ?_
  rintro r w2 ⟨rfl, hf⟩
  have HD2 := Lib.hid (HD.out.keep hf)
  have a1 : w2.cell? ⟨w.heap.size, 1, none⟩ = some (.slice d.A2 d.I.length d.c2) := (HB1.out.fr hf (fun _ _ h => h)).cell 1
  have HF2 := Lib.hid (HF.out.trans hf (T := fun _ => False) (fun _ _ h => h) (fun _ _ h => h))
  clear hf a0 HB1 HD HF
  cases h1 : fewB d.O 12 with
  | false =>
    go_wp2_with fail
    go_ret
    exact ⟨by rw [h1]; rfl, HF2.out⟩
  | true =>
    go_wp2_with fail
    refine (SetF.Few d.A2 d.c2 12 d.I w2 HD2.out.i.s).mono ?_
    rintro r w3 ⟨rfl, hf⟩
    have HF3 := Lib.hid (HF2.out.trans hf (T := fun _ => False) (fun _ _ h => h) (fun _ _ h => h))
    clear hf HF2 a1
    go_wp2_with fail
    go_ret
    exact ⟨by rw [h1]; rfl, HF3.out⟩
theorem any_snoc {α : Type} {p : α → Bool} {L : List α} {k : Nat} (h : ∀ y ∈ L.take k, p y = false) (hk : k < L.length) (h1 : p L[k] = false) : ∀ y ∈ L.take (k + 1), p y = false := fun y hy => by
  rw [List.take_succ_eq_append_getElem hk, List.mem_append] at hy
  rcases hy with hy | hy
  · exact h y hy
  · simp at hy; subst hy; exact h1
theorem any_all {α : Type} {p : α → Bool} {L : List α} (h : ∀ y ∈ L.take L.length, p y = false) : L.any p = false := by
  rw [List.take_length] at h; rw [List.any_eq_false]; exact fun x hx => by rw [h x hx]; simp
theorem any_hit {α : Type} {p : α → Bool} {L : List α} {k : Nat} (hk : k < L.length) (h : p L[k] = true) : L.any p = true := List.any_eq_true.2 ⟨_, List.getElem_mem hk, h⟩
theorem ins_ok {z : Sn} {L : List Sn} (hz : z.ok) (hL : ∀ x ∈ L, x.ok) : ∀ x ∈ ins z L, x.ok := fun x hx => by
  unfold ins at hx
  rcases List.mem_append.1 hx with h | h
  · exact hL x ((List.takeWhile_sublist _).subset h)
  · rcases List.mem_cons.1 h with rfl | h
    · exact hz
    · exact hL x (List.mem_filter.1 h).1
theorem InsertL {A : Option Addr} {c : Nat} {L : List Sn} {z : Sn} {w : World} (h : Ls w A c L) (hz : z.ok) (hl : L.length ≤ 1000000) :
    Calls Tryz.prog 33 #[.slice A L.length c, z.v] w (LsPost (ins z L) w) :=
  (Insert A c L z w h.s hl).mono (fun _ _ hp => LsPost.of hp (ins_ok hz h.ok))
theorem le_nil {w w' : World} {r : List Sn × Int} {n : Int} (h : r = ([], n)) (hb : Below w.heap.size w w') : LePost r w (.returned (.tuple #[.slice none 0 0, .int .i64 n])) w' := le_of h hb
set_option maxRecDepth 100000 in
set_option maxHeartbeats 4000000 in
theorem Apply (A : Option Addr) (c : Nat) (L : List Sn) (d : Dl) (w : World) (hS : Ls w A c L) (hd : RdD w d) (hl0 : L.length ≤ 400000) (hl1 : d.O.length ≤ 400000) (hl2 : d.I.length ≤ 12) :
    Calls Tryz.prog 9 #[.slice A L.length c, d.v] w (LePost (applyP L d.O d.I) w) := by
  rw [apply_ref]
  have hb : Below w.heap.size w (w.alloc (.cells d.arr TDl)) := (Below.refl _ w).alloc (Nat.le_refl _) _
  have HX := Lib.hid (show RX w (w.alloc (.cells d.arr TDl)) w.heap.size d from ⟨hd.keep (Fr.alloc _ _ _), Bk.new _ _ _, hb⟩)
  have HL := Lib.hid (hS.keep (Fr.alloc _ w (.cells d.arr TDl)))
  have HE : Hid (refA L d.O d.I = if isB L && rightB d.O d.I then (if (wout L d.O).length ≠ 0 then ([], 7) else if d.I.any (fun x => (fnd x (wout d.O L)).isSome) then ([], 8) else (d.I.foldl (fun N x => ins x N) (wout d.O L), 0)) else ([], 2)) := rfl
  generalize refA L d.O d.I = res at *
  clear hS hd hb
  go_enter Tryz.func9, Tryz.ntmps9
  go_upto_region 1 with (fail)
  generalize (w.alloc (.cells d.arr TDl)) = w1 at *
  go_wp2_with fail
  refine (Is A c L w1 HL.out (by omega)).mono ?_
  rintro e w2 ⟨rfl, hf⟩
  have HX2 := Lib.hid (HX.out.keep hf); have HL2 := Lib.hid (HL.out.keep hf)
  clear hf HX HL
  cases h3 : isB L with
  | false =>
    have HE2 : Hid (res = ([], 2)) := by show _ = _; rw [HE.out, h3]; rfl
    go_wp2_with fail
    go_ret2
    exact le_nil HE2.out HX2.out.b
  | true =>
    have e0 : w2.cell? ⟨w.heap.size, 0, none⟩ = some (.slice d.A1 d.O.length d.c1) := HX2.out.x.cell 0
    have e1 : w2.cell? ⟨w.heap.size, 1, none⟩ = some (.slice d.A2 d.I.length d.c2) := HX2.out.x.cell 1
    go_wp2_with fail
    refine (Right d w2 HX2.out.rd (by omega) (by omega)).mono ?_
    rintro e w3 ⟨rfl, hb⟩
    have HX3 := Lib.hid (HX2.out.below hb); have HL3 := Lib.hid (HL2.out.below hb)
    clear hb HX2 HL2 e0 e1
    cases h4 : rightB d.O d.I with
    | false =>
      have HE2 : Hid (res = ([], 2)) := by show _ = _; rw [HE.out, h3, h4]; rfl
      go_wp2_with fail
      go_ret2
      exact le_nil HE2.out HX3.out.b
    | true =>
      rw [h3, h4, Bool.and_true, if_pos rfl] at HE
      have hsr : Srs L := (isB_iff.1 h3).srs
      clear h3 h4
      have e0 : w3.cell? ⟨w.heap.size, 0, none⟩ = some (.slice d.A1 d.O.length d.c1) := HX3.out.x.cell 0
      go_wp2_with fail
      refine (WithoutL HX3.out.rd.o HL3.out (by omega)).mono ?_
      rintro e w4 ⟨A4, c4, rfl, -, -, hb⟩
      have HX4 := Lib.hid (HX3.out.below hb); have HL4 := Lib.hid (HL3.out.below hb)
      clear hb HX3 HL3 e0
      by_cases h5 : (wout L d.O).length = 0
      · have q5 : decide (0 < (wout L d.O).length) = false := by rw [h5]; rfl
        rw [if_neg (fun e => e h5)] at HE
        have e0 : w4.cell? ⟨w.heap.size, 0, none⟩ = some (.slice d.A1 d.O.length d.c1) := HX4.out.x.cell 0
        clear h5
        go_wp2_with fail
        refine (WithoutL HL4.out HX4.out.rd.o (by omega)).mono ?_
        rintro e w5 ⟨A5, c5, rfl, hls, -, hb⟩
        have HX5 := Lib.hid (HX4.out.below hb); have HN := Lib.hid hls
        have HSr : Hid (Srs (wout d.O L)) := wout_srs hsr
        have hwl : (wout d.O L).length ≤ 400000 := Nat.le_trans (List.length_filter_le _ _) hl0
        clear hb hls HX4 HL4 e0 q5
        generalize wout d.O L = N0 at *
        have e1 : w5.cell? ⟨w.heap.size, 1, none⟩ = some (.slice d.A2 d.I.length d.c2) := HX5.out.x.cell 1
        go_wp2_with fail
        clear e1
        go_loopg [7] d.I.length (fun gk i wr => ∃ k : Nat, i = .int .i64 k ∧ k ≤ d.I.length ∧ gk = d.I.length - k ∧ (∀ y ∈ d.I.take k, (fnd y N0).isSome = false) ∧ RX w wr w.heap.size d ∧ Ls wr A5 c5 N0)
        case atStart => exact ⟨0, rfl, Nat.zero_le _, rfl, by simp, HX5.out, HN.out⟩
        case round =>
          clear HX5 HN
          obtain ⟨k, rfl, hk, hg, hall, hrx, hls⟩ := hrel
          have HG := Lib.hid hg; have HAll := Lib.hid hall; have HX5 := Lib.hid hrx; have HN := Lib.hid hls
          have e1 : wr.cell? ⟨w.heap.size, 1, none⟩ = some (.slice d.A2 d.I.length d.c2) := hrx.x.cell 1
          clear hg hall hrx hls
          by_cases hlt : k < d.I.length
          · obtain ⟨b1, o1, hA2, hb1, c1⟩ := HX5.out.rd.i.s.at hlt (by omega)
            have HA := Lib.hid (At.row c1 hlt)
            have HSn : Hid ((fnd d.I[k] N0).isSome = false → ∀ y ∈ d.I.take (k + 1), (fnd y N0).isSome = false) := fun h => any_snoc (p := fun y => (fnd y N0).isSome) HAll.out hlt h
            have HHit : Hid ((fnd d.I[k] N0).isSome = true → res = ([], 8)) := fun h => by rw [HE.out, if_pos (any_hit (p := fun y => (fnd y N0).isSome) hlt h)]
            have HPg := Lib.hid (pos_ge d.I[k] N0)
            rw [hA2] at e1
            clear c1 hb1 hA2
            generalize d.I[k] = y at *
            have q1 : (0 : Int) ≤ (k : Int) := by omega
            have q2 : decide ((k : Int) < (d.I.length : Int)) = true := by simp; omega
            have q3 : (k : Int) < (d.I.length : Int) := by omega
            have yc0 : wr.cell? ⟨b1, o1 + k * 9, none⟩ = some (.int .i64 y.t) := HA.out 0 _ rfl
            have yc1 : wr.cell? ⟨b1, o1 + k * 9 + 1, none⟩ = some (.int .i64 y.i) := HA.out 1 _ rfl
            have yc2 : wr.cell? ⟨b1, o1 + k * 9 + 1 + 1, none⟩ = some (.int .i64 y.p) := HA.out 2 _ rfl
            have yc3 : wr.cell? ⟨b1, o1 + k * 9 + 1 + 1 + 1, none⟩ = some (.int .i64 y.r) := HA.out 3 _ rfl
            have yc4 : wr.cell? ⟨b1, o1 + k * 9 + 1 + 1 + 1 + 1, none⟩ = some (.string y.s) := HA.out 4 _ rfl
            have yc5 : wr.cell? ⟨b1, o1 + k * 9 + 1 + 1 + 1 + 1 + 1, none⟩ = some (.string y.o) := HA.out 5 _ rfl
            have yc6 : wr.cell? ⟨b1, o1 + k * 9 + 1 + 1 + 1 + 1 + 1 + 1, none⟩ = some (.int .i64 y.b) := HA.out 6 _ rfl
            have yc7 : wr.cell? ⟨b1, o1 + k * 9 + 1 + 1 + 1 + 1 + 1 + 1 + 1, none⟩ = some (.int .i64 y.d) := HA.out 7 _ rfl
            have yc8 : wr.cell? ⟨b1, o1 + k * 9 + 1 + 1 + 1 + 1 + 1 + 1 + 1 + 1, none⟩ = some (.bool y.g) := HA.out 8 _ rfl
            go_wp2_with fail
            refine (Find A5 c5 N0 y wr HN.out.s).mono ?_
            rintro e w6 ⟨rfl, hf⟩
            have HX6 := Lib.hid (HX5.out.keep hf); have HN6 := Lib.hid (HN.out.keep hf)
            have q4 := HPg.out
            clear hf HX5 HN e1 HA yc0 yc1 yc2 yc3 yc4 yc5 yc6 yc7 yc8
            cases hfn : (fnd y N0).isSome with
            | true =>
              rw [hfn] at q4
              have HE2 := Lib.hid (HHit.out hfn)
              go_wp2_with fail
              go_ret2
              exact le_nil HE2.out HX6.out.b
            | false =>
              rw [hfn] at q4
              have HSn2 := Lib.hid (HSn.out hfn)
              go_wp2_with fail
              go_roundg (d.I.length - (k + 1))
              case rel => exact ⟨k + 1, by go_num, by omega, rfl, HSn2.out, HX6.out, HN6.out⟩
              case measure => have := HG.out; omega
          · obtain rfl : k = d.I.length := by omega
            have q2 : decide ((d.I.length : Int) < (d.I.length : Int)) = false := by simp
            rw [any_all (p := fun y => (fnd y N0).isSome) HAll.out, if_neg (by simp)] at HE
            obtain ⟨wo, rfl⟩ : ∃ wo : World, wo = wr := ⟨_, rfl⟩
            have HX0 := HX5; have HN0 := HN
            clear HG HAll HX5 HN
            go_wp2_with fail
            clear e1
            go_loopg [6, 8] d.I.length (fun gk v i wr => ∃ k : Nat, i = .int .i64 k ∧ k ≤ d.I.length ∧ gk = d.I.length - k ∧ RX w wr w.heap.size d ∧ ∃ A c, v = .slice A ((d.I.take k).foldl (fun N x => ins x N) N0).length c ∧ Ls wr A c ((d.I.take k).foldl (fun N x => ins x N) N0) ∧ ((d.I.take k).foldl (fun N x => ins x N) N0).length ≤ N0.length + k)
            case atStart => exact ⟨0, rfl, Nat.zero_le _, rfl, HX0.out, A5, c5, rfl, HN0.out, Nat.le_refl _⟩
            case round =>
              clear HX0 HN0
              obtain ⟨k, rfl, hk, hg, hrx, A6, c6, rfl, hls, hln⟩ := hrel
              have HG := Lib.hid hg; have HX5 := Lib.hid hrx; have HN := Lib.hid hls
              have e1 : wr.cell? ⟨w.heap.size, 1, none⟩ = some (.slice d.A2 d.I.length d.c2) := hrx.x.cell 1
              clear hg hrx hls
              by_cases hlt : k < d.I.length
              · obtain ⟨b1, o1, hA2, hb1, c1⟩ := HX5.out.rd.i.s.at hlt (by omega)
                have HA := Lib.hid (At.row c1 hlt)
                have HYo := Lib.hid (HX5.out.rd.i.ok _ (List.getElem_mem hlt))
                have HSn := Lib.hid (foldl_snoc' (fun (N : List Sn) x => ins x N) N0 hlt)
                have hsN : Srs ((d.I.take k).foldl (fun N x => ins x N) N0) := foldl_ins_srs HSr.out
                rw [hA2] at e1
                clear c1 hb1 hA2
                generalize d.I[k] = y at *
                generalize (d.I.take k).foldl (fun N x => ins x N) N0 = N at *
                have HLn := Lib.hid (SetP.ins_len y hsN)
                have q1 : (0 : Int) ≤ (k : Int) := by omega
                have q2 : decide ((k : Int) < (d.I.length : Int)) = true := by simp; omega
                have q3 : (k : Int) < (d.I.length : Int) := by omega
                clear hsN
                have yc0 : wr.cell? ⟨b1, o1 + k * 9, none⟩ = some (.int .i64 y.t) := HA.out 0 _ rfl
                have yc1 : wr.cell? ⟨b1, o1 + k * 9 + 1, none⟩ = some (.int .i64 y.i) := HA.out 1 _ rfl
                have yc2 : wr.cell? ⟨b1, o1 + k * 9 + 1 + 1, none⟩ = some (.int .i64 y.p) := HA.out 2 _ rfl
                have yc3 : wr.cell? ⟨b1, o1 + k * 9 + 1 + 1 + 1, none⟩ = some (.int .i64 y.r) := HA.out 3 _ rfl
                have yc4 : wr.cell? ⟨b1, o1 + k * 9 + 1 + 1 + 1 + 1, none⟩ = some (.string y.s) := HA.out 4 _ rfl
                have yc5 : wr.cell? ⟨b1, o1 + k * 9 + 1 + 1 + 1 + 1 + 1, none⟩ = some (.string y.o) := HA.out 5 _ rfl
                have yc6 : wr.cell? ⟨b1, o1 + k * 9 + 1 + 1 + 1 + 1 + 1 + 1, none⟩ = some (.int .i64 y.b) := HA.out 6 _ rfl
                have yc7 : wr.cell? ⟨b1, o1 + k * 9 + 1 + 1 + 1 + 1 + 1 + 1 + 1, none⟩ = some (.int .i64 y.d) := HA.out 7 _ rfl
                have yc8 : wr.cell? ⟨b1, o1 + k * 9 + 1 + 1 + 1 + 1 + 1 + 1 + 1 + 1, none⟩ = some (.bool y.g) := HA.out 8 _ rfl
                go_wp2_with fail
                refine (InsertL HN.out HYo.out (by omega)).mono ?_
                rintro e w6 ⟨A7, c7, rfl, hls, -, hb⟩
                have HX6 := Lib.hid (HX5.out.below hb); have HN6 := Lib.hid hls
                clear hb hls HX5 HN e1 HA yc0 yc1 yc2 yc3 yc4 yc5 yc6 yc7 yc8
                go_wp2_with fail
                go_roundg (d.I.length - (k + 1))
                case rel => exact ⟨k + 1, by go_num, by omega, rfl, HX6.out, A7, c7, by rw [HSn.out], by rw [HSn.out]; exact HN6.out, by rw [HSn.out]; have := HLn.out; show (ins y N).length ≤ _; omega⟩
                case measure => have := HG.out; omega
              · obtain rfl : k = d.I.length := by omega
                have q2 : decide ((d.I.length : Int) < (d.I.length : Int)) = false := by simp
                rw [List.take_length] at HN
                go_wp2_with fail
                go_ret2
                rw [HE.out, List.take_length]
                exact ⟨A6, c6, rfl, HN.out, HX5.out.b⟩
      · have q5 : decide (0 < (wout L d.O).length) = true := by simp; omega
        rw [if_pos h5] at HE
        go_wp2_with fail
        go_ret2
        exact le_nil HE.out HX4.out.b
end RefD
end Go.Proofs.YtkhhdadlpilbmaaGreat
