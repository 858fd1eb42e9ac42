/- What sets become when they meet: the program's. -/
import Derived.Test.YtmcghchhegfilaaDigK
import Derived.Test.YtmcghchhegfilaaDigF
import Derived.Test.YtmcghchhegfilaaJoin
namespace Go.Proofs.Ytmcghchhegfilaa
open Go.RowKit
namespace DigW
open KeyP PackP SetP SetW SetF Code_
attribute [local go_sem] Eng.ev Eng.getO_cons Eng.getO_nil
theorem OfE {A : Option Addr} {c : Nat} {L : List Sn} {w : World} (hS : Ls w A c L) (hlen : L.length ≤ 1000000) (f : Nat → Int) (hf : dgI (setOf L) = f) :
    Calls Try.prog 14 #[.slice A L.length c] w fun e w' => e = .returned (dv f) ∧ Below w.heap.size w w' := hf ▸ Of A c L w hS hlen
theorem DifferE (f g : Nat → Int) (D : List Int) (hD : dto f g 16 = D) (w : World) : Calls Try.prog 17 #[dv f, dv g] w (InPost D w) := hD ▸ Differ f g w
theorem PickE {A0 : Option Addr} {c0 : Nat} {l : List Int} {A : Option Addr} {c : Nat} {L : List Sn} {w : World} (hl : Il w A0 c0 l) (hS : Ls w A c L) (hlen : L.length ≤ 1000000) (X : List Sn) (hX : Dig.pick l (setOf L) = X) :
    Calls Try.prog 20 #[.slice A0 l.length c0, .slice A L.length c] w (LsPost X w) := hX ▸ Pick A0 c0 l A c L w hl.s hS hlen
theorem JoinE {A A2 : Option Addr} {c c2 : Nat} {L M : List Sn} {w : World} (h1 : Ls w A c L) (h2 : Ls w A2 c2 M) (hl : L.length + M.length ≤ 1000000) (N : List Sn) (hN : setOf (L ++ M) = N) :
    Calls Try.prog 56 #[.slice A L.length c, .slice A2 M.length c2] w (LsPost N w) := hN ▸ Join.Join A A2 c c2 L M w h1 h2 hl
/-- What a meeting gives. -/
def MtPost (J K : List Sn) (n : Nat) (w : World) (e : Ending) (w' : World) : Prop := ∃ A c A2 c2, e = .returned (.tuple #[.slice A J.length c, .slice A2 K.length c2, .int .i64 (n : Int)]) ∧ Ls w' A c J ∧ Ls w' A2 c2 K ∧ Below w.heap.size w w'
theorem pick_len {l : List Int} {L X : List Sn} (h : Dig.pick l (setOf L) = X) : X.length ≤ L.length := by
  subst h; exact Nat.le_trans (List.length_filter_le _ _) (setOf_len L)
set_option maxRecDepth 100000 in
set_option maxHeartbeats 1000000 in
theorem Meet {A A2 : Option Addr} {c c2 : Nat} {a b : List Sn} {w : World} (h1 : Ls w A c a) (h2 : Ls w A2 c2 b) (hl1 : a.length ≤ 1000) (hl2 : b.length ≤ 1000) (D : List Int) (X Y J K : List Sn)
    (hD : dto (dgI (setOf a)) (dgI (setOf b)) 16 = D) (hX : Dig.pick D (setOf a) = X) (hY : Dig.pick D (setOf b) = Y) (hJ : setOf (a ++ Y) = J) (hK : setOf (b ++ X) = K) (n : Nat) (hn : X.length + Y.length = n) :
    Calls Try.prog 25 #[.slice A a.length c, .slice A2 b.length c2] w (MtPost J K n w) := by
  have HA := Lib.hid h1; have HC := Lib.hid h2
  have HB := Lib.hid (Below.refl w.heap.size w)
  have lx := pick_len hX; have ly := pick_len hY
  obtain ⟨f, hf⟩ : ∃ f, dgI (setOf a) = f := ⟨_, rfl⟩
  obtain ⟨g, hg⟩ : ∃ g, dgI (setOf b) = g := ⟨_, rfl⟩
  rw [hf, hg] at hD
  have E1 := Lib.hid hf; have E2 := Lib.hid hg; have ED := Lib.hid hD; have EX := Lib.hid hX; have EY := Lib.hid hY; have EJ := Lib.hid hJ; have EK := Lib.hid hK
  have En : Hid ((X.length : Int) + (Y.length : Int) = (n : Int)) := by show _ = _; omega
  clear h1 h2 hf hg hD hX hY hJ hK hn
  go_enter Try.func25, Try.ntmps25
  go_wp2_with fail
  refine (OfE HA.out (by omega) f E1.out).mono ?_
  rintro e w1 ⟨rfl, hb⟩
  replace HA := Lib.hid (HA.out.below hb)
  replace HC := Lib.hid (HC.out.below hb)
  replace HB := Lib.hid (HB.out.trans (hb.mono HB.out.size))
  clear hb
  go_wp2_with fail
  refine (OfE HC.out (by omega) g E2.out).mono ?_
  rintro e w2 ⟨rfl, hb⟩
  replace HA := Lib.hid (HA.out.below hb)
  replace HC := Lib.hid (HC.out.below hb)
  replace HB := Lib.hid (HB.out.trans (hb.mono HB.out.size))
  clear hb
  go_wp2_with fail
  refine (DifferE f g D ED.out _).mono ?_
  rintro e w3 ⟨A3, c3, rfl, hls, -, hb⟩
  replace HA := Lib.hid (HA.out.below hb)
  replace HC := Lib.hid (HC.out.below hb)
  replace HB := Lib.hid (HB.out.trans (hb.mono HB.out.size))
  clear hb
  have HD := Lib.hid hls
  clear hls
  go_wp2_with fail
  refine (PickE HD.out HA.out (by omega) X EX.out).mono ?_
  rintro e w4 ⟨A4, c4, rfl, hls, -, hb⟩
  replace HA := Lib.hid (HA.out.below hb)
  replace HC := Lib.hid (HC.out.below hb)
  replace HD := Lib.hid (HD.out.below hb)
  replace HB := Lib.hid (HB.out.trans (hb.mono HB.out.size))
  clear hb
  have HX := Lib.hid hls
  clear hls
  go_wp2_with fail
  refine (PickE HD.out HC.out (by omega) Y EY.out).mono ?_
  rintro e w5 ⟨A5, c5, rfl, hls, -, hb⟩
  replace HA := Lib.hid (HA.out.below hb)
  replace HC := Lib.hid (HC.out.below hb)
  replace HD := Lib.hid (HD.out.below hb)
  replace HX := Lib.hid (HX.out.below hb)
  replace HB := Lib.hid (HB.out.trans (hb.mono HB.out.size))
  clear hb
  have HY := Lib.hid hls
  clear hls
  go_wp2_with fail
  refine (JoinE HA.out HY.out (by omega) J EJ.out).mono ?_
  rintro e w6 ⟨A6, c6, rfl, hls, -, hb⟩
  replace HA := Lib.hid (HA.out.below hb)
  replace HC := Lib.hid (HC.out.below hb)
  replace HD := Lib.hid (HD.out.below hb)
  replace HX := Lib.hid (HX.out.below hb)
  replace HY := Lib.hid (HY.out.below hb)
  replace HB := Lib.hid (HB.out.trans (hb.mono HB.out.size))
  clear hb
  have HJ := Lib.hid hls
  clear hls
  go_wp2_with fail
  refine (JoinE HC.out HX.out (by omega) K EK.out).mono ?_
  rintro e w7 ⟨A7, c7, rfl, hls, -, hb⟩
  replace HA := Lib.hid (HA.out.below hb)
  replace HC := Lib.hid (HC.out.below hb)
  replace HD := Lib.hid (HD.out.below hb)
  replace HX := Lib.hid (HX.out.below hb)
  replace HY := Lib.hid (HY.out.below hb)
  replace HJ := Lib.hid (HJ.out.below hb)
  replace HB := Lib.hid (HB.out.trans (hb.mono HB.out.size))
  clear hb
  have HK := Lib.hid hls
  clear hls
  have qn := En.out
  go_wp2_with fail
  exact bodyPost_ret (results_tmp3 rfl _ _ _) rfl ⟨A6, c6, A7, c7, rfl, HJ.out, HK.out, HB.out⟩
/-- What is picked, so far. -/
theorem pick_snoc {l : List Int} {M : List Sn} {k : Nat} (h : k < M.length) : Dig.pick l (M.take (k + 1)) = Dig.pick l (M.take k) ++ if ((Dig.part M[k].t : Nat) : Int) ∈ l then [M[k]] else [] := by
  unfold Dig.pick
  rw [List.take_succ_eq_append_getElem h, List.filter_append, List.filter_cons]
  by_cases hx : ((Dig.part M[k].t : Nat) : Int) ∈ l <;> simp [hx]
theorem RefPartR {n : Int} (h : in64 n) (R : Nat) (hR : Dig.part n = R) (w : World) : Calls Try.prog 13 #[.int .i64 n] w fun e w' => e = .returned (.int .i64 (R : Int)) ∧ Below w.heap.size w w' := hR ▸ RefPart h w
set_option maxRecDepth 100000 in
set_option maxHeartbeats 2000000 in
theorem RefPick (A0 : Option Addr) (c0 : Nat) (l : List Int) (A : Option Addr) (c : Nat) (L : List Sn) (w : World) (hl : Il w A0 c0 l) (hS : Ls w A c L) (hlen : L.length ≤ 1000000) (X : List Sn) (hX : Dig.pick l (setOf L) = X) :
    Calls Try.prog 21 #[.slice A0 l.length c0, .slice A L.length c] w (LsPost X w) := by
  obtain ⟨i0, hi, hz0, hz1, hz2⟩ := info_parts infoS
  have HSet := Lib.hid (RefSet A c L w hS hlen)
  have HOk := Lib.hid (set_ok hS.ok)
  have hml := Nat.le_trans (setOf_len L) hlen
  have HL := Lib.hid hl
  generalize setOf L = M at *
  have HX := Lib.hid hX
  clear hS hl hX
  go_enter Try.func21, Try.ntmps21
  go_wp2_with fail
  refine HSet.out.mono ?_
  rintro e w1 ⟨A2, c2, rfl, hls, -, hb⟩
  have HM := Lib.hid hls; have HB := Lib.hid hb; have HL1 := Lib.hid (HL.out.below hb)
  have hw1 : w.heap.size ≤ w1.heap.size := hb.size
  clear hls hb HL HSet
  go_wp2_with fail
  go_loopg [6, 7] M.length (fun gk v i wr => ∃ k : Nat, i = .int .i64 k ∧ k ≤ M.length ∧ gk = M.length - k ∧ wr.ownsRow w1.heap.size TSn 9 v (Dig.pick l (M.take k)).length ((Dig.pick l (M.take k)).flatMap scs) ∧ Below w1.heap.size w1 wr)
  case atStart => exact ⟨0, rfl, Nat.zero_le _, rfl, World.ownsRow_nil _ _ _ _, Below.refl _ _⟩
  case round =>
    obtain ⟨k, rfl, hk, hg, hown, hbel⟩ := hrel
    have HG := Lib.hid hg; have HO := Lib.hid hown; have HBe := Lib.hid hbel
    have hszw : w1.heap.size ≤ wr.heap.size := hbel.size
    clear hg hown hbel
    by_cases hlt : k < M.length
    · obtain ⟨b1, o1, rfl, hb1, c1⟩ := HM.out.s.at hlt (by omega)
      have HA := Lib.hid ((At.row c1 hlt).fr (Fr.of_below' HBe.out (fun _ => False)) (fun h => h))
      have hfl : (Dig.pick l (M.take k)).length ≤ k := Nat.le_trans (List.length_filter_le _ _) (by rw [List.length_take]; omega)
      have HSn := Lib.hid (pick_snoc (l := l) hlt)
      have HY := Lib.hid (HOk.out _ (List.getElem_mem hlt)).t
      clear c1 hb1
      generalize M[k] = y at *
      generalize Dig.pick l (M.take k) = N at *
      obtain ⟨R, hR⟩ : ∃ R, Dig.part y.t = R := ⟨_, rfl⟩
      rw [hR] at HSn
      have HR := Lib.hid hR
      clear hR
      have yc0 : wr.cell? ⟨b1, o1 + k * 9, none⟩ = some (.int .i64 y.t) := HA.out 0 _ rfl
      go_wp2_with fail
      refine (RefPartR HY.out R HR.out wr).mono ?_
      rintro e w2 ⟨rfl, hb⟩
      have HL2 := Lib.hid ((HL1.out.below HBe.out).below hb)
      have HF := Lib.hid (Fr.of_below' hb (fun _ => False)); have HA2 := Lib.hid (HA.out.keep (Fr.of_below' hb (fun _ => False)))
      have hsz2 : w1.heap.size ≤ w2.heap.size := Nat.le_trans hszw hb.size
      clear hb yc0 HA
      go_wp2_with fail
      refine (Has A0 c0 l (R : Int) w2 HL2.out.s).mono ?_
      rintro e w3 ⟨rfl, rfl⟩
      by_cases h1 : (R : Int) ∈ l
      · have HE : Hid (Dig.pick l (M.take (k + 1)) = N ++ [y]) := by show _ = _; rw [HSn.out, if_pos h1]
        rw [decide_eq_true h1]
        have hown1' := (ownsRow_fr HO.out HF.out (fun _ _ h => h)).alloc (.cells y.arr TSn)
        have HK1 := Lib.hid (ownsRow_blk HO.out)
        clear h1 HSn HL2
        have yc0 : w3.cell? ⟨b1, o1 + k * 9, none⟩ = some (.int .i64 y.t) := HA2.out 0 _ rfl
        have yc1 : w3.cell? ⟨b1, o1 + k * 9 + 1, none⟩ = some (.int .i64 y.i) := HA2.out 1 _ rfl
        have yc2 : w3.cell? ⟨b1, o1 + k * 9 + 1 + 1, none⟩ = some (.int .i64 y.p) := HA2.out 2 _ rfl
        have yc3 : w3.cell? ⟨b1, o1 + k * 9 + 1 + 1 + 1, none⟩ = some (.int .i64 y.r) := HA2.out 3 _ rfl
        have yc4 : w3.cell? ⟨b1, o1 + k * 9 + 1 + 1 + 1 + 1, none⟩ = some (.string y.s) := HA2.out 4 _ rfl
        have yc5 : w3.cell? ⟨b1, o1 + k * 9 + 1 + 1 + 1 + 1 + 1, none⟩ = some (.string y.o) := HA2.out 5 _ rfl
        have yc6 : w3.cell? ⟨b1, o1 + k * 9 + 1 + 1 + 1 + 1 + 1 + 1, none⟩ = some (.int .i64 y.b) := HA2.out 6 _ rfl
        have yc7 : w3.cell? ⟨b1, o1 + k * 9 + 1 + 1 + 1 + 1 + 1 + 1 + 1, none⟩ = some (.int .i64 y.d) := HA2.out 7 _ rfl
        have yc8 : w3.cell? ⟨b1, o1 + k * 9 + 1 + 1 + 1 + 1 + 1 + 1 + 1 + 1, none⟩ = some (.bool y.g) := HA2.out 8 _ rfl
        go_wp2_with (at_builtin; refine wpList_append_sl _ rfl (.tmp 24) (.tmp 29) TSs rfl w1.heap.size TSn i0 (.agg #[.int .i64 0, .int .i64 0, .int .i64 0, .int .i64 0, .string ByteArray.empty, .string ByteArray.empty, .int .i64 0, .int .i64 0, .bool false]) 9 88 Try.underlying22 hi hz0 hz1 hz2 rfl (by decide) _ _ _ rfl hown1' _ _ _ _ rfl (Sl.one w3 TSn (scs y) 9 rfl) (by simp [Value.oneCell']) ?_ ?_ ?_ ?_)
        · unfold maxLen; omega
        · omega
        · first | omega | (simp; omega)
        intro v1 w4 hown1 hgrow1
        have HO1 := Lib.hid hown1; have HGr := Lib.hid hgrow1
        clear hown1 hgrow1 hown1' yc0 yc1 yc2 yc3 yc4 yc5 yc6 yc7 yc8
        go_wp2_with fail
        go_roundg (M.length - (k + 1))
        case rel => exact ⟨k + 1, by go_num, by omega, rfl, by rw [HE.out]; simpa using HO1.out, ((HBe.out.trans (HF.out.below hszw (fun _ _ h => h))).alloc hsz2 _).grown HGr.out (by simp; omega) (fun k e => (HK1.out k e).1)⟩
        case measure => have := HG.out; omega
      · have HE : Hid (Dig.pick l (M.take (k + 1)) = N) := by show _ = _; rw [HSn.out, if_neg h1, List.append_nil]
        rw [decide_eq_false h1]
        clear h1 HSn HL2
        go_wp2_with fail
        go_roundg (M.length - (k + 1))
        case rel => exact ⟨k + 1, by go_num, by omega, rfl, by rw [HE.out]; exact ownsRow_fr HO.out HF.out (fun _ _ h => h), HBe.out.trans (HF.out.below hszw (fun _ _ h => h))⟩
        case measure => have := HG.out; omega
    · obtain rfl : k = M.length := by omega
      rw [List.take_length, HX.out] at HO
      obtain ⟨A3, c3, hv, h3, -⟩ := Sl.of_own HO.out
      subst hv
      have H3 := Lib.hid h3
      have HXo : Hid (∀ x ∈ X, x.ok) := fun x hx => HOk.out x (by rw [← HX.out] at hx; exact (Dig.pick_mem.1 hx).1)
      clear h3
      go_wp2_with fail
      go_ret
      exact ⟨A3, c3, rfl, ⟨H3.out, HXo.out⟩, ownsRow_base HO.out hw1, HB.out.trans (HBe.out.mono hw1)⟩
end DigW
end Go.Proofs.Ytmcghchhegfilaa
