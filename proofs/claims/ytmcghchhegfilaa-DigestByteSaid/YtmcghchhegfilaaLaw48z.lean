/- Layer 48's statements: DigestByte: the answer is true: the walk. -/
import Derived.Test.YtmcghchhegfilaaLaw48y
namespace Go.Proofs.Ytmcghchhegfilaa
open Go.RowKit
namespace Law48
open KeyP PackP SetP SetW SetF Code_ Rank DigW
attribute [local go_sem] Eng.ev Eng.getO_cons Eng.getO_nil
open Sli
structure Rb (w : World) (B : Nat) (r s : Int) : Prop where
  h : Bk w B #[.int .u8 r, .int .u8 s] 48
theorem Rb.fr {S : Nat → Prop} {w w' : World} {B : Nat} {r s : Int} (h : Rb w B r s) (hf : Fr S w w') (hs : ¬ S B) : Rb w' B r s := ⟨h.h.fr hf (fun k hk => by simp at hk; subst hk; exact hs)⟩
theorem Rb.below {w w' : World} {B : Nat} {r s : Int} (h : Rb w B r s) (hb : Below w.heap.size w w') : Rb w' B r s := h.fr (Fr.of_below' hb (fun _ => False)) (fun h => h)
theorem own_some {w : World} {base n : Nat} {v : Value} {xs : List Value} (h : w.ownsRow base TSn 9 v n xs) (hn : 0 < n) : ∃ b cap, v = .slice (some ⟨b, 0, none⟩) n cap := by
  rcases h.2 with ⟨-, h'⟩ | ⟨g, cap, cur, he, -⟩
  · omega
  · exact ⟨g, cap, he⟩
/-- Lists of one's own, apart from one another. -/
structure RW (w : World) (b cap : Nat) (M : List Sn) : Prop where
  r : Rw w b cap M
  c : M.length ≤ cap
  m : cap ≤ maxLen
theorem RW.below {w w' : World} {b cap : Nat} {M : List Sn} (h : RW w b cap M) (hb : Below w.heap.size w w') : RW w' b cap M := ⟨h.r.fr (Fr.of_below' hb (fun _ => False)) (fun h => h), h.c, h.m⟩
theorem RW.fr {S : Nat → Prop} {w w' : World} {b cap : Nat} {M : List Sn} (h : RW w b cap M) (hf : Fr S w w') (hs : ¬ S b) : RW w' b cap M := ⟨h.r.fr hf hs, h.c, h.m⟩
theorem RW.ls {w : World} {b cap : Nat} {M : List Sn} (h : RW w b cap M) (hok : ∀ x ∈ M, x.ok) : Ls w (some ⟨b, 0, none⟩) cap M := Law48.Rw.ls h.r h.c h.m hok
theorem rev_at (x : Sn) (r : Int) : ∀ s < 9, (scs (Dig.revd x r))[s]? = if s = 3 then some (.int .i64 r) else (scs x)[s]? := fun s hs => by
  match s, hs with
  | 0, _ | 1, _ | 2, _ | 3, _ | 4, _ | 5, _ | 6, _ | 7, _ | 8, _ => rfl
theorem gone_at (x : Sn) : ∀ s < 9, (scs (Dig.gone x))[s]? = if s = 8 then some (.bool (!x.g)) else (scs x)[s]? := fun s hs => by
  match s, hs with
  | 0, _ | 1, _ | 2, _ | 3, _ | 4, _ | 5, _ | 6, _ | 7, _ | 8, _ => rfl
theorem RW.put {w : World} {b cap : Nat} {M : List Sn} (h : RW w b cap M) {i : Nat} (hi : i < M.length) {r : Nat} (hr : r < 9) (u : Value) (y : Sn) (hy : ∀ s < 9, (scs y)[s]? = if s = r then some u else (scs M[i])[s]?) : RW (w.setCell ⟨b, i * 9 + r, none⟩ u) b cap (M.set i y) :=
  ⟨Law48.Rw.put1 h.r hi hr u y hy, by rw [List.length_set]; exact h.c, h.m⟩
theorem OfN {A : Option Addr} {c n : Nat} {L : List Sn} {w : World} (hS : Ls w A c L) (hlen : L.length ≤ 1000000) (hn : L.length = n) (f : Nat → Int) (hf : dgI (setOf L) = f) :
    Calls Try.prog 14 #[.slice A n c] w fun e w' => e = .returned (dv f) ∧ Below w.heap.size w w' := hn ▸ OfE hS hlen f hf
set_option maxRecDepth 100000 in
set_option maxHeartbeats 8000000 in
theorem byte_ (A0 : Option Addr) (c0 : Nat) (a : List Sn) (m r0 r1 : Int) (w : World) (h0 : Ls w A0 c0 a) (hlen : a.length ≤ 1599289640355) (hm : 0 ≤ m ∧ m < 256) (hr0 : 0 ≤ r0 ∧ r0 < 256) (hr1 : 0 ≤ r1 ∧ r1 < 256) :
    Calls Try.prog 6 #[.slice A0 a.length c0, .int .u8 m, .agg #[.int .u8 r0, .int .u8 r1]] w fun e w' => e = .returned (.bool true) ∧ Below w.heap.size w w' := by
  obtain ⟨i0, hi, hz0, hz1, hz2⟩ := info_parts infoS
  have s3 := Fr.alloc (fun _ => False) w (.cells #[.int .u8 r0, .int .u8 r1] 48)
  have hb3 := s3.below (Nat.le_refl _) (fun _ _ h => h)
  have HR : Hid (Rb (w.alloc (.cells #[.int .u8 r0, .int .u8 r1] 48)) w.heap.size r0 r1) := ⟨Bk.new w _ _⟩
  have HA := Lib.hid (h0.below hb3)
  have HB := Lib.hid hb3
  obtain ⟨M, hM⟩ : ∃ M, setOf a = M := ⟨_, rfl⟩
  have EM := Lib.hid hM
  have EMM : Hid (setOf M = M) := by show _ = _; rw [← hM, setOf_idem]
  have HOk : Hid (∀ x ∈ M, x.ok) := fun x hx => set_ok h0.ok x (by rw [hM]; exact hx)
  have lM : M.length ≤ a.length := by rw [← hM]; exact setOf_len a
  obtain ⟨m0, m1⟩ := hm
  obtain ⟨r00, r01⟩ := hr0
  obtain ⟨r10, r11⟩ := hr1
  clear h0 s3 hb3 hM
  go_enter Try.func6, Try.ntmps6
  go_upto_region 1 with (fail)
  generalize (w.alloc (.cells #[.int .u8 r0, .int .u8 r1] 48)) = wa at *
  go_wp2_with fail
  refine (RefSetBE (L := a) HA.out hlen M EM.out).mono ?_
  rintro e w1 ⟨A3, c3, rfl, hls, -, hb⟩
  replace HA := Lib.hid (HA.out.below hb)
  replace HR := Lib.hid (HR.out.below hb)
  replace HB := Lib.hid (HB.out.trans (hb.mono HB.out.size))
  clear hb
  have HM := Lib.hid hls
  clear hls
  go_wp2_with fail
  refine (SetF.Few _ _ 20 a w1 HA.out.s).mono ?_
  rintro e w2 ⟨rfl, hf⟩
  have hb := hf.below (Nat.le_refl _) (fun _ _ h => h)
  clear hf
  replace HA := Lib.hid (HA.out.below hb)
  replace HR := Lib.hid (HR.out.below hb)
  replace HM := Lib.hid (HM.out.below hb)
  replace HB := Lib.hid (HB.out.trans (hb.mono HB.out.size))
  clear hb
  cases hq : fewB a 20 with
  | false =>
      go_wp2_with fail
      refine (awake w2).mono ?_
      rintro e w3 ⟨rfl, hb⟩
      replace HA := Lib.hid (HA.out.below hb)
      replace HR := Lib.hid (HR.out.below hb)
      replace HM := Lib.hid (HM.out.below hb)
      replace HB := Lib.hid (HB.out.trans (hb.mono HB.out.size))
      clear hb
      go_wp2_with fail
      go_ret
      exact ⟨rfl, HB.out⟩
  | true =>
      have hq_a := few_len hq
      clear hq
      by_cases hz : M.length = 0
      · have q1 : ((M.length : Int) == 0) = true := by simp [hz]
        clear hz
        go_wp2_with fail
        refine (awake w2).mono ?_
        rintro e w3 ⟨rfl, hb⟩
        replace HA := Lib.hid (HA.out.below hb)
        replace HR := Lib.hid (HR.out.below hb)
        replace HM := Lib.hid (HM.out.below hb)
        replace HB := Lib.hid (HB.out.trans (hb.mono HB.out.size))
        clear hb
        go_wp2_with fail
        go_ret
        exact ⟨rfl, HB.out⟩
      ·
        have q1 : ((M.length : Int) == 0) = false := by simp; exact fun e => hz (by simp [e])
        obtain ⟨k, hk⟩ : ∃ k : Nat, m % (M.length : Int) = (k : Int) := ⟨(m % (M.length : Int)).toNat, by rw [Int.toNat_of_nonneg (Int.emod_nonneg _ (by omega))]⟩
        have hkl : k < M.length := by have := Int.emod_lt_of_pos m (show (0 : Int) < M.length by omega); omega
        have q2 : ¬ ((M.length : Int) = 0) := by omega
        go_upto_region 5 with (fail)
        rw [hk]
        clear hk m0 m1
        obtain ⟨u0, hu0⟩ : ∃ u, r0 % 128 = u := ⟨_, rfl⟩
        obtain ⟨u1, hu1⟩ : ∃ u, r1 % 128 = u := ⟨_, rfl⟩
        have b0 : 0 ≤ u0 ∧ u0 < 128 := by omega
        have b1 : 0 ≤ u1 ∧ u1 < 128 := by omega
        have HLa := Lib.hid (set_mem_ok HOk.out (k := k) (rev_ok (HOk.out _ (List.getElem_mem hkl)) b0.1 b0.2))
        have HLb := Lib.hid (set_mem_ok HOk.out (k := k) (rev_ok (HOk.out _ (List.getElem_mem hkl)) b1.1 b1.2))
        have HLc := Lib.hid (set_mem_ok HOk.out (k := k) (gone_ok (rev_ok (HOk.out _ (List.getElem_mem hkl)) b1.1 b1.2)))
        have HEq := Lib.hid (rev_eq EMM.out hkl b0.1 b0.2 b1.1 b1.2)
        have HNe := Lib.hid (gone_ne EMM.out hkl b1.1)
        have HZ := Lib.hid hz
        have hRlt := lt_of_heap HR.out.h
        clear hz q1 q2
        go_wp2_with (at_builtin; refine wpList_append_sl _ rfl (.tmp 29) (.tmp 30) TSs rfl w2.heap.size TSn i0 (.agg #[.int .i64 0, .int .i64 0, .int .i64 0, .int .i64 0, .string ByteArray.empty, .string ByteArray.empty, .int .i64 0, .int .i64 0, .bool false]) 9 88 Try.underlying22 hi hz0 hz1 hz2 rfl (by decide) _ _ _ rfl (World.ownsRow_nil _ _ _ _) _ _ _ _ rfl HM.out.s (cells_one _) ?_ ?_ ?_ ?_)
        · unfold maxLen; omega
        · omega
        · exact Nat.le_refl _
        intro v1 w3 hown1 hgrow1
        have hb := (Below.refl w2.heap.size w2).grown hgrow1 (Nat.le_refl _) (fun k e => by simp [Value.ownBlock] at e)
        try simp only [Nat.zero_add, List.nil_append] at hown1
        obtain ⟨B1, cap1, hv1⟩ := own_some hown1 (by have := HZ.out; omega)
        subst hv1
        obtain ⟨k1, k2, k3, k4⟩ := Rw.of hown1
        have HW1 : Hid (RW w3 B1 cap1 M) := ⟨k1, k3, k4⟩
        have hB1 : B1 < w3.heap.size := k1.lt
        clear hown1 hgrow1 k1
        replace HA := Lib.hid (HA.out.below hb)
        replace HR := Lib.hid (HR.out.below hb)
        replace HM := Lib.hid (HM.out.below hb)
        replace HB := Lib.hid (HB.out.trans (hb.mono HB.out.size))
        clear hb
        go_wp2_with (at_builtin; refine wpList_append_sl _ rfl (.tmp 32) (.tmp 33) TSs rfl w3.heap.size TSn i0 (.agg #[.int .i64 0, .int .i64 0, .int .i64 0, .int .i64 0, .string ByteArray.empty, .string ByteArray.empty, .int .i64 0, .int .i64 0, .bool false]) 9 88 Try.underlying22 hi hz0 hz1 hz2 rfl (by decide) _ _ _ rfl (World.ownsRow_nil _ _ _ _) _ _ _ _ rfl HM.out.s (cells_one _) ?_ ?_ ?_ ?_)
        · unfold maxLen; omega
        · omega
        · exact Nat.le_refl _
        intro v2 w4 hown1 hgrow1
        have hb := (Below.refl w3.heap.size w3).grown hgrow1 (Nat.le_refl _) (fun k e => by simp [Value.ownBlock] at e)
        try simp only [Nat.zero_add, List.nil_append] at hown1
        obtain ⟨B2, cap2, hv1⟩ := own_some hown1 (by have := HZ.out; omega)
        subst hv1
        obtain ⟨k1, k2, k3', k4'⟩ := Rw.of hown1
        have HW2 : Hid (RW w4 B2 cap2 M) := ⟨k1, k3', k4'⟩
        have hB2 : B2 < w4.heap.size := k1.lt
        have hB12 : B1 < B2 := by omega
        have hcs := hb.size
        clear hown1 hgrow1 k1
        replace HA := Lib.hid (HA.out.below hb)
        replace HR := Lib.hid (HR.out.below hb)
        replace HM := Lib.hid (HM.out.below hb)
        replace HW1 := Lib.hid (HW1.out.below hb)
        replace HB := Lib.hid (HB.out.trans (hb.mono HB.out.size))
        clear hb
        clear HM HA
        generalize hy : M[k] = y at *
        have HY : Hid (M[k] = y) := hy
        have HMl : Hid (∀ y : Sn, (M.set k y).length = M.length) := fun y => List.length_set
        clear hy
        have y1 : (0 : Int) ≤ (k : Int) := by omega
        have y2 : (k : Int) < (M.length : Int) := by omega
        obtain ⟨f1, hf1⟩ : ∃ f, dgI (setOf (M.set k (Dig.revd y u0))) = f := ⟨_, rfl⟩
        obtain ⟨f2, hf2⟩ : ∃ f, dgI (setOf (M.set k (Dig.revd y u1))) = f := ⟨_, rfl⟩
        obtain ⟨f3, hf3⟩ : ∃ f, dgI (setOf (M.set k (Dig.gone (Dig.revd y u1)))) = f := ⟨_, rfl⟩
        rw [hf1, hf2] at HEq
        rw [hf3, hf2] at HNe
        have F1 := Lib.hid hf1; have F2 := Lib.hid hf2; have F3 := Lib.hid hf3
        have HQ := Lib.hid (fun W : World => eql_dg f1 f2 W)
        have HQ2 := Lib.hid (fun W : World => neq_dg f3 f2 W)
        rw [HEq.out] at HQ
        rw [HNe.out] at HQ2
        clear hf1 hf2 hf3 HEq HNe
        have hB1w : w.heap.size < B1 := by omega
        have x1 : w4.cell? ⟨w.heap.size, 0, none⟩ = some (.int .u8 r0) := HR.out.h.cell 0
        obtain ⟨vv, x2⟩ : ∃ v, w4.cell? ⟨B1, k * 9 + 3, none⟩ = some v := ⟨_, HW1.out.r.at hkl 3 _ rfl⟩
        have x3 : w4.frozen? ⟨B1, k * 9 + 3, none⟩ = false := HW1.out.r.free _
        go_upto_region 9 with (fail)
        have f9 := Fr.setCell w4 ⟨B1, k * 9 + 3, none⟩ (.int .i64 u0) (S := fun b => b = B1) rfl
        have hw9 := HW1.out.put hkl (r := 3) (by omega) (.int .i64 u0) (Dig.revd y u0) (by rw [HY.out]; exact rev_at y u0)
        clear x1 x2 x3
        generalize (w4.setCell ⟨B1, k * 9 + 3, none⟩ (.int .i64 u0)) = w5 at *
        replace HW1 := Lib.hid hw9
        replace HW2 := Lib.hid (HW2.out.fr f9 (by show ¬ _ = _; omega))
        replace HR := Lib.hid (HR.out.fr f9 (by show ¬ _ = _; omega))
        replace HB := Lib.hid (HB.out.trans (f9.below HB.out.size (fun i hi e => by have : i = B1 := e; omega)))
        have hsz9 := f9.size
        clear f9 hw9
        have x1 : w5.cell? ⟨w.heap.size, 1, none⟩ = some (.int .u8 r1) := HR.out.h.cell 1
        obtain ⟨vv, x2⟩ : ∃ v, w5.cell? ⟨B2, k * 9 + 3, none⟩ = some v := ⟨_, HW2.out.r.at hkl 3 _ rfl⟩
        have x3 : w5.frozen? ⟨B2, k * 9 + 3, none⟩ = false := HW2.out.r.free _
        go_upto_region 10 with (fail)
        have f9 := Fr.setCell w5 ⟨B2, k * 9 + 3, none⟩ (.int .i64 u1) (S := fun b => b = B2) rfl
        have hw9 := HW2.out.put hkl (r := 3) (by omega) (.int .i64 u1) (Dig.revd y u1) (by rw [HY.out]; exact rev_at y u1)
        clear x1 x2 x3
        generalize (w5.setCell ⟨B2, k * 9 + 3, none⟩ (.int .i64 u1)) = w6 at *
        replace HW2 := Lib.hid hw9
        replace HW1 := Lib.hid (HW1.out.fr f9 (by show ¬ _ = _; omega))
        replace HR := Lib.hid (HR.out.fr f9 (by show ¬ _ = _; omega))
        replace HB := Lib.hid (HB.out.trans (f9.below HB.out.size (fun i hi e => by have : i = B2 := e; omega)))
        have hsz10 := f9.size
        clear f9 hw9
        go_wp2_with fail
        refine (OfN (HW1.out.ls HLa.out) (by rw [HMl.out]; omega) (HMl.out _) f1 F1.out).mono ?_
        rintro e w7 ⟨rfl, hb⟩
        replace HW1 := Lib.hid (HW1.out.below hb)
        replace HW2 := Lib.hid (HW2.out.below hb)
        replace HR := Lib.hid (HR.out.below hb)
        replace HB := Lib.hid (HB.out.trans (hb.mono HB.out.size))
        clear hb
        go_wp2_with fail
        refine (OfN (HW2.out.ls HLb.out) (by rw [HMl.out]; omega) (HMl.out _) f2 F2.out).mono ?_
        rintro e w8 ⟨rfl, hb⟩
        replace HW1 := Lib.hid (HW1.out.below hb)
        replace HW2 := Lib.hid (HW2.out.below hb)
        replace HR := Lib.hid (HR.out.below hb)
        replace HB := Lib.hid (HB.out.trans (hb.mono HB.out.size))
        clear hb
        have hq := HQ.out
        have hsl := (HW2.out.ls HLb.out).s
        rw [HMl.out] at hsl
        have hq2z : B2 < w8.heap.size := HW2.out.r.lt
        go_wp2_with (at_builtin; refine wpList_append_sl _ rfl (.tmp 56) (.tmp 57) TSs rfl w8.heap.size TSn i0 (.agg #[.int .i64 0, .int .i64 0, .int .i64 0, .int .i64 0, .string ByteArray.empty, .string ByteArray.empty, .int .i64 0, .int .i64 0, .bool false]) 9 88 Try.underlying22 hi hz0 hz1 hz2 rfl (by decide) _ _ _ rfl (World.ownsRow_nil _ _ _ _) _ _ _ _ rfl hsl (cells_one _) ?_ ?_ ?_ ?_)
        · unfold maxLen; omega
        · omega
        · exact Nat.le_refl _
        intro v3 w9 hown1 hgrow1
        have hb := (Below.refl w8.heap.size w8).grown hgrow1 (Nat.le_refl _) (fun k e => by simp [Value.ownBlock] at e)
        (try simp only [Nat.zero_add, List.nil_append] at hown1)
        obtain ⟨B3, cap3, hv1⟩ := own_some hown1 (by have := HZ.out; omega)
        subst hv1
        have hown2 := hown1
        rw [← HMl.out (Dig.revd y u1)] at hown2
        obtain ⟨k1, k2, k3'', k4''⟩ := Rw.of hown2
        have HW3 : Hid (RW w9 B3 cap3 (M.set k (Dig.revd y u1))) := ⟨k1, k3'', k4''⟩
        have hB3 : B3 < w9.heap.size := k1.lt
        have hB23 : B2 < B3 := by omega
        have hcs3 := hb.size
        have hk3 : k < (M.set k (Dig.revd y u1)).length := by rw [HMl.out]; exact hkl
        have hg3 : (M.set k (Dig.revd y u1))[k]'hk3 = Dig.revd y u1 := List.getElem_set_self _
        have HK3 := Lib.hid hk3; have HG3 := Lib.hid hg3
        have HS3 : Hid ((M.set k (Dig.revd y u1)).set k (Dig.gone (Dig.revd y u1)) = M.set k (Dig.gone (Dig.revd y u1))) := List.set_set ..
        clear hown1 hown2 hgrow1 k1 hsl hq hg3
        replace HW1 := Lib.hid (HW1.out.below hb)
        replace HW2 := Lib.hid (HW2.out.below hb)
        replace HR := Lib.hid (HR.out.below hb)
        replace HB := Lib.hid (HB.out.trans (hb.mono HB.out.size))
        clear hb
        have x1 : True := trivial
        have x2 : w9.cell? ⟨B3, k * 9 + 8, none⟩ = some (.bool y.g) := by have := HW3.out.r.at HK3.out; rw [HG3.out] at this; exact this 8 _ rfl
        have x3 : w9.frozen? ⟨B3, k * 9 + 8, none⟩ = false := HW3.out.r.free _
        go_upto_region 14 with (fail)
        have f9 := Fr.setCell w9 ⟨B3, k * 9 + 8, none⟩ (.bool (!y.g)) (S := fun b => b = B3) rfl
        have hw9 := (HS3.out ▸ HW3.out.put HK3.out (r := 8) (by omega) (.bool (!y.g)) (Dig.gone (Dig.revd y u1)) (by rw [HG3.out]; exact gone_at (Dig.revd y u1)))
        clear x1 x2 x3
        generalize (w9.setCell ⟨B3, k * 9 + 8, none⟩ (.bool (!y.g))) = w10 at *
        replace HW3 := Lib.hid hw9
        replace HW1 := Lib.hid (HW1.out.fr f9 (by show ¬ _ = _; omega))
        replace HW2 := Lib.hid (HW2.out.fr f9 (by show ¬ _ = _; omega))
        replace HR := Lib.hid (HR.out.fr f9 (by show ¬ _ = _; omega))
        replace HB := Lib.hid (HB.out.trans (f9.below HB.out.size (fun i hi e => by have : i = B3 := e; omega)))
        have hsz14 := f9.size
        clear f9 hw9
        have x1 : w10.cell? ⟨w.heap.size, 0, none⟩ = some (.int .u8 r0) := HR.out.h.cell 0
        have x2 : w10.cell? ⟨w.heap.size, 1, none⟩ = some (.int .u8 r1) := HR.out.h.cell 1
        have hq := HQ2.out
        go_wp2_with fail
        refine (OfN (HW3.out.ls HLc.out) (by rw [HMl.out]; omega) (HMl.out _) f3 F3.out).mono ?_
        rintro e w11 ⟨rfl, hb⟩
        replace HW1 := Lib.hid (HW1.out.below hb)
        replace HW2 := Lib.hid (HW2.out.below hb)
        replace HR := Lib.hid (HR.out.below hb)
        replace HW3 := Lib.hid (HW3.out.below hb)
        replace HB := Lib.hid (HB.out.trans (hb.mono HB.out.size))
        clear hb
        clear x1 x2
        go_wp2_with fail
        refine (OfN (HW2.out.ls HLb.out) (by rw [HMl.out]; omega) (HMl.out _) f2 F2.out).mono ?_
        rintro e w12 ⟨rfl, hb⟩
        replace HW1 := Lib.hid (HW1.out.below hb)
        replace HW2 := Lib.hid (HW2.out.below hb)
        replace HR := Lib.hid (HR.out.below hb)
        replace HW3 := Lib.hid (HW3.out.below hb)
        replace HB := Lib.hid (HB.out.trans (hb.mono HB.out.size))
        clear hb
        go_wp2_with fail
        refine (awake w12).mono ?_
        rintro e w13 ⟨rfl, hb⟩
        replace HW1 := Lib.hid (HW1.out.below hb)
        replace HW2 := Lib.hid (HW2.out.below hb)
        replace HR := Lib.hid (HR.out.below hb)
        replace HW3 := Lib.hid (HW3.out.below hb)
        replace HB := Lib.hid (HB.out.trans (hb.mono HB.out.size))
        clear hb
        go_wp2_with fail
        go_ret
        exact ⟨rfl, HB.out⟩
end Law48
end Go.Proofs.Ytmcghchhegfilaa
