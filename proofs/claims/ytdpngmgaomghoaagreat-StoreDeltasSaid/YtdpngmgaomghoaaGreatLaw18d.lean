/- Layer 18's statements: StoreDeltas: for every input the answer is true. -/
import Derived.Test.YtdpngmgaomghoaaGreatLaw18s
import Derived.Test.YtdpngmgaomghoaaGreatDeltas
import Derived.Test.YtdpngmgaomghoaaGreatDels
namespace Go.Proofs.YtdpngmgaomghoaaGreat
open Go.RowKit
namespace Law18
open Name KeyP PackP SetP SetW SetF Delta Sto BagP
attribute [local go_sem] Eng.ev Eng.getO_cons Eng.getO_nil
theorem NowE {B : Nat} {f : Cf} {L : List Sn} {F : List Nat} {w : World} {n : Int} (hs : St w B f L F) (hn : f.now = n) : Calls Tryz.prog 46 #[.pointer (some ⟨B, 0, none⟩)] w fun e w' => e = .returned (.int .i64 n) ∧ w = w' := by
  subst hn
  exact Sto.Now B f _ _ _ F w hs.s
theorem LenE {B : Nat} {f : Cf} {L : List Sn} {F : List Nat} {w : World} (hs : St w B f L F) : Calls Tryz.prog 62 #[.pointer (some ⟨B, 0, none⟩)] w fun e w' => e = .returned (.int .i64 (L.length : Int)) ∧ w = w' := by
  have := Sto.Len B f _ _ _ F w hs.s
  rwa [cts_sum] at this
theorem AppE {A A1 A2 : Option Addr} {c c1 c2 : Nat} {L O I : List Sn} {w : World} (h1 : Ls w A c L) (h2 : Ls w A1 c1 O) (h3 : Ls w A2 c2 I) (l0 : L.length ≤ 500000) (l1 : O.length ≤ 500000) (l2 : I.length ≤ 500000) (N : List Sn) (h : applyP L O I = (N, 0)) :
    Calls Tryz.prog 72 #[.slice A L.length c, .agg #[.slice A1 O.length c1, .slice A2 I.length c2]] w fun e w' => ∃ A c, e = .returned (.tuple #[.slice A N.length c, .int .i64 0]) ∧ Ls w' A c N ∧ Below w.heap.size w w' :=
  (Apply A c L A1 A2 c1 c2 O I w h1 ⟨h2, h3⟩ l0 l1 l2).mono (fun _ _ hp => by rw [h] at hp; exact hp)
theorem AliE {A1 A2 : Option Addr} {c1 c2 : Nat} {O I : List Sn} {w : World} (h2 : Ls w A1 c1 O) (h3 : Ls w A2 c2 I) (l1 : O.length ≤ 500000) (l2 : I.length ≤ 500000) :
    Calls Tryz.prog 70 #[.agg #[.slice A1 O.length c1, .slice A2 I.length c2]] w fun e w' => ∃ A3 c3 A4 c4, e = .returned (.agg #[.slice A3 (alv O).length c3, .slice A4 (alv I).length c4]) ∧ Ls w' A3 c3 (alv O) ∧ Ls w' A4 c4 (alv I) ∧ Below w.heap.size w w' :=
  ClsW.Alive ⟨A1, c1, O, A2, c2, I⟩ w ⟨h2, h3⟩ (by show O.length ≤ _; omega) (by show I.length ≤ _; omega) (alv O) (alv I) rfl rfl
theorem alv_len (L : List Sn) : (alv L).length ≤ L.length := List.length_filter_le _ _
/-- Behind an act: the store, and the lists that were made of the deltas. -/
structure DK (w0 w : World) (B : Nat) (f2 : Cf) (L2 : List Sn) (F : List Nat) (Aa Ab Aw : Option Addr) (ca cb cw : Nat) (L : List Sn) : Prop where
  z : AZ w0 w B f2 L2 F [] []
  a : Ls w Aa ca L2
  b : Ls w Ab cb (alv L2)
  w : Ls w Aw cw L
section
variable {w0 w w' : World} {B : Nat} {f2 : Cf} {L2 L : List Sn} {F : List Nat} {Aa Ab Aw : Option Addr} {ca cb cw : Nat}
theorem DK.below (h : DK w0 w B f2 L2 F Aa Ab Aw ca cb cw L) (hb : Below w.heap.size w w') : DK w0 w' B f2 L2 F Aa Ab Aw ca cb cw L := ⟨h.z.below hb, h.a.below hb, h.b.below hb, h.w.below hb⟩
theorem DK.fr (h : DK w0 w B f2 L2 F Aa Ab Aw ca cb cw L) (hf : Fr (fun _ => False) w w') : DK w0 w' B f2 L2 F Aa Ab Aw ca cb cw L := h.below (hf.below (Nat.le_refl _) (fun _ _ h => h))
end
set_option maxRecDepth 100000 in
set_option maxHeartbeats 8000000 in
theorem deltas (f : Cf) (A : Option Addr) (c : Nat) (l : List Ac) (w0 : World) (hS : Sl w0 3 A l.length c (l.flatMap acc)) (hR : ∀ a ∈ l, Rd w0 a) (hf : in64 f.sp ∧ in64 f.tr ∧ in64 f.wi) :
    Calls Tryz.prog 12 #[.agg (cfc f), .slice A l.length c] w0 fun e w' => e = .returned (.bool true) ∧ Below w0.heap.size w0 w' := by
  have HS := Lib.hid hS; have HR := Lib.hid hR; have HI := Lib.hid hf
  have HB1 := Lib.hid ((Below.refl w0.heap.size w0).alloc (Nat.le_refl _) (.cells (cfc f) TCf)); have HBk := Lib.hid (Bk.new w0 (cfc f) TCf)
  clear hS hR hf
  go_enter Tryz.func12, Tryz.ntmps12
  go_upto_region 1 with (fail)
  generalize hg : w0.alloc (.cells (cfc f) TCf) = w1 at *
  clear hg
  go_wp2_with fail
  refine (Few A c l 20 w1 (HS.out.fr (Fr.of_below' HB1.out (fun _ => False)) (fun _ _ h => h)) (fun a ha => (HR.out a ha).below HB1.out) (by omega)).mono ?_
  rintro e w2 ⟨rfl, hf⟩
  have HB2 := Lib.hid (HB1.out.trans (hf.below HB1.out.size (fun _ _ h => h))); have HBk2 := Lib.hid (HBk.out.fr hf (fun _ _ h => h))
  clear hf HB1 HBk
  cases hq : fewsB l 20 with
  | false =>
    go_wp2_with fail
    refine (awake w2).mono ?_
    rintro e w3 ⟨rfl, hb⟩
    have HB3 := Lib.hid (HB2.out.trans (hb.mono HB2.out.size))
    clear hb
    go_wp2_with fail
    go_ret
    exact ⟨rfl, HB3.out⟩
  | true =>
    obtain ⟨hl, hla⟩ := few_len hq
    have HLa := Lib.hid hla
    clear hq hla
    have e0 : w2.cell? ⟨w0.heap.size, 0, none⟩ = some (.int .i64 f.sp) := HBk2.out.cell 0
    have e1 : w2.cell? ⟨w0.heap.size, 1, none⟩ = some (.int .i64 f.tr) := HBk2.out.cell 1
    have e2 : w2.cell? ⟨w0.heap.size, 2, none⟩ = some (.int .i64 f.wi) := HBk2.out.cell 2
    have e3 : w2.cell? ⟨w0.heap.size, 3, none⟩ = some (.int .i64 f.sg) := HBk2.out.cell 3
    go_wp2_with fail
    refine (Sto.New f w2).mono ?_
    rintro e w3 ⟨B, F, rfl, hs, hF, hb⟩
    have HZ : Hid (AZ w0 w3 B (f.at mnI) [] F [] []) := AZ.new HB2.out (St.new hs HI.out) hF hb
    clear hs hF hb e0 e1 e2 e3 HB2 HBk2
    go_wp2_with fail
    go_loopg [6] l.length (fun gk i wr => ∃ (k : Nat) (f' : Cf) (L : List Sn) (F : List Nat), i = .int .i64 k ∧ k ≤ l.length ∧ gk = l.length - k ∧ L.length ≤ 12 * k ∧ AZ w0 wr B f' L F [] [])
    case atStart => exact ⟨0, f.at mnI, [], F, rfl, Nat.zero_le _, rfl, Nat.le_refl _, HZ.out⟩
    case round =>
      clear HZ
      obtain ⟨k, f', L, F, rfl, hk, hg, hLl, hz⟩ := hrel
      have HG := Lib.hid hg; have HZ := Lib.hid hz
      clear hg hz
      by_cases hlt : k < l.length
      · have HRk := Lib.hid (HR.out _ (List.getElem_mem hlt))
        have hlk := HLa.out _ (List.getElem_mem hlt)
        obtain ⟨b1, o1, rfl, hb1, a0, a1, a2⟩ := at3 HS.out hlt
        have HAt : Hid (∀ W : World, Below w0.heap.size w0 W → W.cell? ⟨b1, o1 + k * 3, none⟩ = some (.int .i64 l[k].k) ∧ W.cell? ⟨b1, o1 + k * 3 + 1, none⟩ = some (.slice l[k].A l[k].L.length l[k].c) ∧ W.cell? ⟨b1, o1 + k * 3 + 1 + 1, none⟩ = some (.int .i64 l[k].n)) := fun W hW =>
          ⟨(hW.cell (p := ⟨b1, o1 + k * 3, none⟩) hb1).trans a0, (hW.cell (p := ⟨b1, o1 + k * 3 + 1, none⟩) hb1).trans a1, (hW.cell (p := ⟨b1, o1 + k * 3 + 1 + 1, none⟩) hb1).trans a2⟩
        clear hb1 a0 a1 a2
        generalize l[k] = a at *
        have hdl := doL_len f' L a
        have HOk := Lib.hid HZ.out.s.o
        have HA1 := Lib.hid (do_app (f := f') (a := a) HOk.out); have HA2 := Lib.hid (do_alv (f := f') (a := a) HOk.out)
        have HEr : Hid (doE f' L a ≠ 0 → doL f' L a = L ∧ (doF f' a).now = f'.now) := do_err
        have HAg : Hid (doE f' L a = 0 → a.k ≠ 2 → canE (doF f' a) (doL f' L a) a.L = 0 ∧ putL (doF f' a) (doL f' L a) a.L = doL f' L a ∧ putO (doF f' a) (doL f' L a) a.L = [] ∧ putI (doF f' a) (doL f' L a) a.L = []) := fun h hk => by
          rw [show doE f' L a = canE f' L a.L from if_neg hk] at h
          rw [show doF f' a = f' from if_neg hk, show doL f' L a = putL f' L a.L from if_neg hk]
          exact ⟨again_can h, again_L h, again_O HOk.out h, again_I HOk.out h⟩
        have hol := doO_len (f := f') (a := a) HOk.out; have hil := doI_len (f := f') (a := a) HOk.out
        have HDo := Lib.hid (do_ B f' L F a)
        clear HOk
        generalize doL f' L a = L2 at *
        generalize doF f' a = f2 at *
        generalize doO f' L a = O2 at *
        generalize doI f' L a = I2 at *
        generalize doE f' L a = E2 at *
        have q1 : (0 : Int) ≤ (k : Int) := by omega
        have q2 : decide ((k : Int) < (l.length : Int)) = true := by simp; omega
        have q3 : wrap64 ((k : Int) + 1) = (k : Int) + 1 := by unfold wrap64; omega
        have hla := alv_len L; have hla2 := alv_len L2
        go_wp2_with fail
        refine (Sto.All B f' L F wr HZ.out.s (by omega)).mono ?_
        rintro e w4 ⟨Aw, cw, rfl, hls, hown, hb⟩
        have HZ2 := Lib.hid (HZ.out.own hls hown hb)
        clear hls hown hb HZ
        go_wp2_with fail
        refine (Sto.Live B f' L F w4 HZ2.out.s (by omega)).mono ?_
        rintro e w5 ⟨Av, cv, rfl, hls, hown, hb⟩
        have HZ3 := Lib.hid (HZ2.out.own hls hown hb)
        clear hls hown hb HZ2
        go_wp2_with fail
        refine (Sto.Now B f' _ _ _ F w5 HZ3.out.s.s).mono ?_
        rintro e w6 ⟨rfl, rfl⟩
        obtain ⟨a0, a1, a2⟩ := HAt.out w5 HZ3.out.b
        have HDo2 := Lib.hid (HDo.out w5 HZ3.out.s (HRk.out.below HZ3.out.b) (HZ3.out.apt HRk.out.1) (by omega) (by omega))
        clear HDo
        go_wp2_with fail
        refine HDo2.out.mono ?_
        rintro e w6 ⟨Ao, co, Ai, ci, F2, rfl, ho⟩
        have HZ4 := Lib.hid (((HZ3.out.act ho).pickL (K' := [(Ao, co, O2), (Ai, ci, I2), (Av, cv, alv L), (Aw, cw, L)]) (by simp)).alloc #[.slice Ao O2.length co, .slice Ai I2.length ci] TDl)
        clear ho HDo2 HZ3 a0 a1 a2
        go_upto_region 9 with (fail)
        obtain ⟨bd, hbd⟩ : ∃ b, w6.heap.size = b := ⟨_, rfl⟩
        generalize hg : w6.alloc (.cells #[.slice Ao O2.length co, .slice Ai I2.length ci] TDl) = w7 at *
        clear hg
        rw [hbd] at HZ4 ⊢
        clear hbd
        have e0 : w7.cell? ⟨bd, 0, none⟩ = some (.slice Ao O2.length co) := (HZ4.out.d (bd, #[.slice Ao O2.length co, .slice Ai I2.length ci], TDl) (by simp)).1.1.cell 0
        have e1 : w7.cell? ⟨bd, 1, none⟩ = some (.slice Ai I2.length ci) := (HZ4.out.d (bd, #[.slice Ao O2.length co, .slice Ai I2.length ci], TDl) (by simp)).1.1.cell 1
        go_wp2_with fail
        refine (AppE (L := L) (O := O2) (I := I2) (HZ4.out.k (Aw, cw, L) (by simp)).1 (HZ4.out.k (Ao, co, O2) (by simp)).1 (HZ4.out.k (Ai, ci, I2) (by simp)).1 (by omega) (by omega) (by omega) L2 HA1.out).mono ?_
        rintro e w8 ⟨Aa, ca, rfl, hls, hb⟩
        have HZ5 := Lib.hid (HZ4.out.below hb); have HLa := Lib.hid hls
        clear hls hb HZ4 e0 e1
        have e0 : w8.cell? ⟨bd, 0, none⟩ = some (.slice Ao O2.length co) := (HZ5.out.d (bd, #[.slice Ao O2.length co, .slice Ai I2.length ci], TDl) (by simp)).1.1.cell 0
        have e1 : w8.cell? ⟨bd, 1, none⟩ = some (.slice Ai I2.length ci) := (HZ5.out.d (bd, #[.slice Ao O2.length co, .slice Ai I2.length ci], TDl) (by simp)).1.1.cell 1
        go_wp2_with fail
        refine (AliE (O := O2) (I := I2) (HZ5.out.k (Ao, co, O2) (by simp)).1 (HZ5.out.k (Ai, ci, I2) (by simp)).1 (by omega) (by omega)).mono ?_
        rintro e w9 ⟨A3, c3, A4, c4, rfl, hlo, hli, hb⟩
        have HZ6 := Lib.hid (HZ5.out.below hb); have HLa2 := Lib.hid (HLa.out.below hb); have HLo := Lib.hid hlo; have HLi := Lib.hid hli
        clear hlo hli hb HZ5 HLa e0 e1
        have hlo := alv_len O2; have hli := alv_len I2
        go_wp2_with fail
        refine (AppE (L := alv L) (O := alv O2) (I := alv I2) (HZ6.out.k (Av, cv, alv L) (by simp)).1 HLo.out HLi.out (by omega) (by omega) (by omega) (alv L2) HA2.out).mono ?_
        rintro e w10 ⟨Ab, cb, rfl, hls, hb⟩
        have HZ7 := Lib.hid (HZ6.out.below hb); have HLa3 := Lib.hid (HLa2.out.below hb)
        have HK : Hid (DK w0 w10 B f2 L2 F2 Aa Ab Aw ca cb cw L) := ⟨(HZ7.out.pickD (D' := []) (by simp)).pickL (K' := []) (by simp), HLa3.out, hls, (HZ7.out.k (Aw, cw, L) (by simp)).1⟩
        clear hls hb HZ6 HZ7 HLa2 HLa3 HLo HLi hlo hli
        by_cases hE : E2 = 0
        · have q5 : (E2 == 0) = true := by simpa using hE
          have q6 : (E2 != 0) = false := by simpa using hE
          obtain rfl := hE
          clear HEr
          go_wp2_with fail
          refine (Sto.All B f2 L2 F2 w10 HK.out.z.s (by omega)).mono ?_
          rintro e wao ⟨A11, c11, rfl, hls, -, hb⟩
          have HK1 := Lib.hid (HK.out.below hb); have HL1 := Lib.hid hls
          clear hls hb HK
          go_wp2_with fail
          refine (SameT HK1.out.a HL1.out rfl rfl rfl).mono ?_
          rintro e wbo ⟨rfl, hf⟩
          have HK := Lib.hid (HK1.out.fr hf)
          clear hf HK1 HL1
          go_wp2_with fail
          refine (Sto.Live B f2 L2 F2 wbo HK.out.z.s (by omega)).mono ?_
          rintro e wco ⟨A12, c12, rfl, hls, -, hb⟩
          have HK1 := Lib.hid (HK.out.below hb); have HL1 := Lib.hid hls
          clear hls hb HK
          go_wp2_with fail
          refine (SameT HK1.out.b HL1.out rfl rfl rfl).mono ?_
          rintro e wdo ⟨rfl, hf⟩
          have HK := Lib.hid (HK1.out.fr hf)
          clear hf HK1 HL1
          go_wp2_with fail
          refine (LenE HK.out.z.s).mono ?_
          rintro e weo ⟨rfl, rfl⟩
          have HZ8 : Hid (AZ w0 wdo B f2 L2 F2 [] []) := HK.out.z
          clear HK
          obtain ⟨a0, a1, a2⟩ := HAt.out wdo HZ8.out.b
          by_cases hk2 : a.k = 2
          · have q7 : (a.k != 2) = false := by rw [hk2]; rfl
            go_wp2_with fail
            go_roundg (l.length - (k + 1))
            case rel => exact ⟨k + 1, f2, L2, F2, by go_num, by omega, rfl, by omega, HZ8.out⟩
            case measure => have := HG.out; omega
          · have q7 : (a.k != 2) = true := by simpa using hk2
            obtain ⟨g1, g2, g3, g4⟩ := HAg.out (by trivial) hk2
            have HP := Lib.hid (Sto.Put B f2 L2 F2 a.A a.c a.L wdo HZ8.out.s (HRk.out.below HZ8.out.b).1 (HZ8.out.apt HRk.out.1) (by omega) (by omega))
            rw [g1, g2, g3, g4] at HP
            clear g1 g2 g3 g4 hk2
            go_wp2_with fail
            refine HP.out.mono ?_
            rintro e w13 ⟨A8, c8, A9, c9, F3, rfl, ho⟩
            have HZ10 := Lib.hid (((HZ8.out.act ho).pickL (K' := [(A8, c8, []), (A9, c9, [])]) (by simp)).alloc #[.slice A8 0 c8, .slice A9 0 c9] TDl)
            clear ho HP HZ8 a0 a1 a2
            go_upto_region 15 with (fail)
            obtain ⟨bg, hbg⟩ : ∃ b, w13.heap.size = b := ⟨_, rfl⟩
            generalize hg : w13.alloc (.cells #[.slice A8 0 c8, .slice A9 0 c9] TDl) = w14 at *
            clear hg
            rw [hbg] at HZ10 ⊢
            clear hbg
            have e0 : w14.cell? ⟨bg, 0, none⟩ = some (.slice A8 0 c8) := (HZ10.out.d (bg, #[.slice A8 0 c8, .slice A9 0 c9], TDl) (by simp)).1.1.cell 0
            have e1 : w14.cell? ⟨bg, 1, none⟩ = some (.slice A9 0 c9) := (HZ10.out.d (bg, #[.slice A8 0 c8, .slice A9 0 c9], TDl) (by simp)).1.1.cell 1
            go_wp2_with fail
            refine (SameDl.SameDT ⟨A8, c8, [], A9, c9, []⟩ ⟨none, 0, [], none, 0, []⟩ w14 ⟨(HZ10.out.k (A8, c8, []) (by simp)).1, (HZ10.out.k (A9, c9, []) (by simp)).1⟩ ⟨Ls.nil _, Ls.nil _⟩ rfl).mono ?_
            rintro e w15 ⟨rfl, hf⟩
            have HZ11 : Hid (AZ w0 w15 B f2 L2 F3 [] []) := (HZ10.out.fr hf).only
            clear hf HZ10 e0 e1
            go_wp2_with fail
            go_roundg (l.length - (k + 1))
            case rel => exact ⟨k + 1, f2, L2, F3, by go_num, by omega, rfl, by omega, HZ11.out⟩
            case measure => have := HG.out; omega
        · have HhL := Lib.hid (HEr.out hE)
          have q5 : (E2 == 0) = false := by simpa using hE
          have q6 : (E2 != 0) = true := by simpa using hE
          clear HEr hE
          go_wp2_with fail
          refine (Sto.All B f2 L2 F2 w10 HK.out.z.s (by omega)).mono ?_
          rintro e wae ⟨A11, c11, rfl, hls, -, hb⟩
          have HK1 := Lib.hid (HK.out.below hb); have HL1 := Lib.hid hls
          clear hls hb HK
          go_wp2_with fail
          refine (SameT HK1.out.a HL1.out rfl rfl rfl).mono ?_
          rintro e wbe ⟨rfl, hf⟩
          have HK := Lib.hid (HK1.out.fr hf)
          clear hf HK1 HL1
          go_wp2_with fail
          refine (Sto.Live B f2 L2 F2 wbe HK.out.z.s (by omega)).mono ?_
          rintro e wce ⟨A12, c12, rfl, hls, -, hb⟩
          have HK1 := Lib.hid (HK.out.below hb); have HL1 := Lib.hid hls
          clear hls hb HK
          go_wp2_with fail
          refine (SameT HK1.out.b HL1.out rfl rfl rfl).mono ?_
          rintro e wde ⟨rfl, hf⟩
          have HK := Lib.hid (HK1.out.fr hf)
          clear hf HK1 HL1
          go_wp2_with fail
          refine (LenE HK.out.z.s).mono ?_
          rintro e wee ⟨rfl, rfl⟩
          go_wp2_with fail
          refine (SameT HK.out.w HK.out.a rfl rfl HhL.out.1.symm).mono ?_
          rintro e wf ⟨rfl, hf⟩
          have HK1 := Lib.hid (HK.out.fr hf)
          clear hf HK
          go_wp2_with fail
          refine (NowE HK1.out.z.s HhL.out.2).mono ?_
          rintro e wg ⟨rfl, rfl⟩
          have HZ9 : Hid (AZ w0 wf B f2 L2 F2 [] []) := HK1.out.z
          clear HK1 HhL
          go_wp2_with fail
          go_roundg (l.length - (k + 1))
          case rel => exact ⟨k + 1, f2, L2, F2, by go_num, by omega, rfl, by omega, HZ9.out⟩
          case measure => have := HG.out; omega
      · obtain rfl : k = l.length := by omega
        have q2 : decide ((l.length : Int) < (l.length : Int)) = false := by simp
        go_wp2_with fail
        refine (awake wr).mono ?_
        rintro e w3 ⟨rfl, hb⟩
        have HB3 := Lib.hid (HZ.out.below hb).b
        clear hb
        go_wp2_with fail
        go_ret
        exact ⟨rfl, HB3.out⟩
end Law18
end Go.Proofs.YtdpngmgaomghoaaGreat
