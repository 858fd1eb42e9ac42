/- series.may, (*View).Apply. -/
import Derived.Test.YtgfjpnpbkkadpaaGreatSers1
import Derived.Test.YtgfjpnpbkkadpaaGreatDeltas
import Derived.Test.YtgfjpnpbkkadpaaGreatCodes
import Derived.Test.YtgfjpnpbkkadpaaGreatClsW
import Derived.Test.YtgfjpnpbkkadpaaGreatSetWs
namespace Go.Proofs.YtgfjpnpbkkadpaaGreat
open Go.RowKit
namespace Ser
open KeyP PackP SetP SetW SetF BagP Bag Mk Delta Sli Name Pack
attribute [local go_sem] Eng.ev Eng.getO_cons Eng.getO_nil
def mays (L : List Sn) : Bool := !(L.any (fun x => mayN x != 0))
set_option maxRecDepth 100000 in
theorem may1 (x : Sn) (w : World) (hx : x.ok) : Calls Tryz.prog 107 #[x.v] w fun e w' => e = .returned (.bool (mayN x != 0)) ∧ Fr (fun _ => False) w w' := by
  have hf := Fr.alloc (fun _ => False) w (.cells x.arr TSn)
  have HX := Lib.hid (At.box (Bk.new w x.arr TSn))
  have HM := Lib.hid (May_ x hx (w.alloc (.cells x.arr TSn)))
  generalize mayN x = m at *
  have HF := Lib.hid hf
  clear hf
  have xc0 : (w.alloc (.cells x.arr TSn)).cell? ⟨w.heap.size, 0, none⟩ = some (.int .i64 x.t) := HX.out 0 _ rfl
  have xc1 : (w.alloc (.cells x.arr TSn)).cell? ⟨w.heap.size, 1, none⟩ = some (.int .i64 x.i) := HX.out 1 _ rfl
  have xc2 : (w.alloc (.cells x.arr TSn)).cell? ⟨w.heap.size, 2, none⟩ = some (.int .i64 x.p) := HX.out 2 _ rfl
  have xc3 : (w.alloc (.cells x.arr TSn)).cell? ⟨w.heap.size, 3, none⟩ = some (.int .i64 x.r) := HX.out 3 _ rfl
  have xc4 : (w.alloc (.cells x.arr TSn)).cell? ⟨w.heap.size, 4, none⟩ = some (.string x.s) := HX.out 4 _ rfl
  have xc5 : (w.alloc (.cells x.arr TSn)).cell? ⟨w.heap.size, 5, none⟩ = some (.string x.o) := HX.out 5 _ rfl
  have xc6 : (w.alloc (.cells x.arr TSn)).cell? ⟨w.heap.size, 6, none⟩ = some (.int .i64 x.b) := HX.out 6 _ rfl
  have xc7 : (w.alloc (.cells x.arr TSn)).cell? ⟨w.heap.size, 7, none⟩ = some (.int .i64 x.d) := HX.out 7 _ rfl
  have xc8 : (w.alloc (.cells x.arr TSn)).cell? ⟨w.heap.size, 8, none⟩ = some (.bool x.g) := HX.out 8 _ rfl
  go_enter Tryz.func107, Tryz.ntmps107
  go_wp2_with fail
  refine HM.out.mono ?_
  rintro e w2 ⟨rfl, hf⟩
  have HF2 := Lib.hid (HF.out.trans hf (T := fun _ => False) (fun _ _ h => h) (fun _ _ h => h))
  clear hf HM xc0 xc1 xc2 xc3 xc4 xc5 xc6 xc7 xc8
  go_wp2_with fail
  go_ret
  exact ⟨rfl, HF2.out⟩
set_option maxRecDepth 100000 in
theorem may_ (A : Option Addr) (c : Nat) (L : List Sn) (w : World) (hL : Ls w A c L) : Calls Tryz.prog 56 #[.slice A L.length c] w fun e w' => e = .returned (.bool (mays L)) ∧ Fr (fun _ => False) w w' := by
  have HC := Lib.hid (ContainsFunc A c 107 #[] (fun x => mayN x != 0) L w (enters_of Tryz.func107 (by kernel_rfl) rfl) hL.s (fun W hW x hx => may1 x W (hL.ok x hx)))
  unfold mays
  clear hL
  generalize L.any (fun x => mayN x != 0) = b at *
  go_enter Tryz.func56, Tryz.ntmps56
  go_wp2_with fail
  refine HC.out.mono ?_
  rintro e w2 ⟨rfl, hf⟩
  have HF := Lib.hid hf
  clear hf HC
  go_wp2_with fail
  go_ret
  exact ⟨rfl, HF.out⟩
theorem tree_nostr {w : World} {t : AT Int Int} (h : AvlII.In w t) : ∀ b ∈ t.fp, ∀ o s, w.cell? ⟨b, o, none⟩ ≠ some (.string s) := by
  induction t with
  | nil => intro b hb; simp [AT.fp] at hb
  | node B k v l r d ihl ihr =>
    obtain ⟨h1, h2, h3⟩ := h
    intro b hb o s hc
    have hb' : b = B ∨ b ∈ l.fp ∨ b ∈ r.fp := by simpa [AT.fp] using hb
    rcases hb' with rfl | hb | hb
    · rw [cell_of_block h1] at hc
      have : o < 5 := by
        have := (Array.getElem?_eq_some_iff.1 hc).1
        simpa using this
      rcases o with _ | _ | _ | _ | _ | o <;> first | (simp at hc; done) | omega
    · exact ihl h2 b hb o s hc
    · exact ihr h3 b hb o s hc
theorem bag_nostr {w : World} {B : Nat} {L : List (Int × Int)} {FZ : List Nat} (h : BagZ w B L FZ) : ∀ b ∈ FZ, ∀ o s, w.cell? ⟨b, o, none⟩ ≠ some (.string s) := by
  obtain ⟨c, F, ⟨h1, ⟨r, c0, c1, c2, ⟨t, -, -, h5, h6, -⟩, -⟩, -⟩, rfl, h3⟩ := h
  intro b hb o s hc
  rcases List.mem_cons.1 hb with rfl | hb
  · rw [h1.cell] at hc
    have := (Array.getElem?_eq_some_iff.1 hc).1
    have ho : o = 0 ∨ o = 0 + 1 ∨ o = 0 + 2 := by omega
    rcases ho with rfl | rfl | rfl
    · rw [c0] at hc; cases hc
    · rw [c1] at hc; cases hc
    · rw [c2] at hc; cases hc
  · exact tree_nostr h6 b (by rw [h5]; exact hb) o s hc
theorem VwI.nostr {w : World} {h r : Nat} {W : Int} {n : Nat} {E : List En} (H : VwI w h r W n E) : ∀ b ∈ fl h r E, ∀ o s, w.cell? ⟨b, o, none⟩ ≠ some (.string s) := by
  intro b hb o s hc
  rcases mem_fl.1 hb with rfl | rfl | ⟨e, he, hb⟩
  · rw [H.v.cell] at hc
    have := (Array.getElem?_eq_some_iff.1 hc).1
    have ho : o = 0 ∨ o = 1 := by simp at this; omega
    rcases ho with rfl | rfl <;> cases hc
  · obtain ⟨-, D, ⟨es, clock, hm, -⟩, -⟩ := H.m
    simp [World.cell?, hm] at hc
  · exact bag_nostr (H.b e he) b hb o s hc
/-- A list of records is apart from a view. -/
theorem VwI.apart {w : World} {h r : Nat} {W : Int} {n : Nat} {E : List En} (H : VwI w h r W n E) {A : Option Addr} {c : Nat} {L : List Sn} (hL : Ls w A c L) : ∀ a, A = some a → L ≠ [] → ¬ a.block ∈ fl h r E := by
  intro a ha hne hm
  have hlt : 0 < L.length := List.length_pos_iff.2 hne
  obtain ⟨b, o, rfl, -, hc⟩ := hL.s.at hlt (by omega)
  cases ha
  have := At.row (k := 0) hc hlt 4 _ rfl
  exact H.nostr _ hm _ _ this
theorem keepV {S : Nat → Prop} {w w' : World} {A : Option Addr} {c : Nat} {L : List Sn} (h : Ls w A c L) (hf : Fr S w w') (hs : ∀ a, A = some a → L ≠ [] → ¬ S a.block) : Ls w' A c L := by
  by_cases hne : L = []
  · subst hne
    obtain ⟨⟨h1, h2, h3, h4, h5⟩, h6⟩ := h
    exact ⟨⟨h1, h2, h3, h4, fun h => absurd rfl h⟩, h6⟩
  · exact h.fr hf (fun a ha => hs a ha hne)
/-- What becomes of a view by a delta. -/
structure ApplyOut (h r : Nat) (W : Int) (n : Nat) (E : List En) (q : List Pq) (O I : List Sn) (w w' : World) (E' : List En) (n' : Nat) (q' : List Pq) (b : Bool) : Prop where
  hn : n' ≤ n + O.length + I.length
  v : VwI w' h r W n' E'
  t : Tn (fl h r E) (fl h r E') w w'
  hq : Hv q' E'
  hb : b = (mays O && (mays I && outB q (O.map (pr W))))
  no : b = false → q' = q
  yes : b = true → ∃ qk, (qk ++ O.map (pr W)).Perm q ∧ q' = qk ++ I.map (pr W)
def ApplyPost (h r : Nat) (W : Int) (n : Nat) (E : List En) (q : List Pq) (O I : List Sn) (w : World) (e : Ending) (w' : World) : Prop := ∃ E' n' q' b, e = .returned (.bool b) ∧ ApplyOut h r W n E q O I w w' E' n' q' b
theorem Tn.out {F F' : List Nat} {w w' : World} (h : Tn F F' w w') {b : Nat} (hb : b < w.heap.size) (hn : ¬ b ∈ F) : ¬ b ∈ F' := fun hm => by
  rcases (h.sub b hm).1 with h1 | h1
  · exact hn h1
  · omega
theorem take_map {α β : Type} (f : α → β) (l : List α) (k : Nat) (hk : k < l.length) : (l.take (k + 1)).map f = (l.take k).map f ++ [f l[k]] := by
  rw [List.take_succ_eq_append_getElem hk, List.map_append]; rfl
set_option maxRecDepth 100000 in
set_option maxHeartbeats 2000000 in
theorem Apply (h r : Nat) (W : Int) (n : Nat) (E : List En) (q : List Pq) (d : Dl) (w : World) (H : VwI w h r W n E) (hq : Hv q E) (hd : RdD w d) 
    (lO : d.O.length ≤ 100000) (lI : d.I.length ≤ 100000) (ln : n ≤ 100000) (lq : q.length ≤ 100000) :
    Calls Tryz.prog 16 #[.pointer (some ⟨h, 0, none⟩), d.v] w (ApplyPost h r W n E q d.O d.I w) := by
  have hf := Fr.alloc (fun _ => False) w (.cells d.arr TDl)
  have HV := Lib.hid (H.fr hf (fun _ _ h => h))
  have HD := Lib.hid (hd.keep hf)
  have hbk := Bk.new w d.arr TDl
  have HBk := Lib.hid hbk
  have HT := Lib.hid (Tn.of_fr hf H.lt)
  have HBd : Hid (¬ w.heap.size ∈ fl h r E) := fun hm => by have := H.lt _ hm; omega
  have HQ := Lib.hid hq; have AP1 := Lib.hid (H.apart hd.o); have AP2 := Lib.hid (H.apart hd.i)
  obtain ⟨A1, c1, O, A2, c2, I⟩ := d
  dsimp only at lO lI HD AP1 AP2
  clear hf H hq hd hbk
  go_enter Tryz.func16, Tryz.ntmps16
  go_upto_region 1 with (fail)
  generalize (w.alloc (.cells #[.slice A1 O.length c1, .slice A2 I.length c2] TDl)) = w1 at *
  generalize w.heap.size = Bd at *
  have e0 : w1.cell? ⟨Bd, 0, none⟩ = some (.slice A1 O.length c1) := HBk.out.cell 0
  have e1 : w1.cell? ⟨Bd, 1, none⟩ = some (.slice A2 I.length c2) := HBk.out.cell 1
  go_wp2_with fail
  refine (made h r W n E w1 HV.out).mono ?_
  rintro e w2 ⟨rfl, rfl⟩
  go_wp2_with fail
  refine (may_ A1 c1 O w1 HD.out.o).mono ?_
  rintro e w2 ⟨rfl, hf⟩
  replace HV := Lib.hid (HV.out.fr hf (fun _ _ h => h)); replace HD := Lib.hid (HD.out.keep hf); replace HBk := Lib.hid (HBk.out.fr hf (fun _ _ h => h)); replace HT := Lib.hid (HT.out.trans (Tn.of_fr hf (HT.out.sub · · |>.2)))
  clear hf e0 e1
  cases hmO : mays O with
  | false =>
    go_wp2_with fail
    go_ret
    exact ⟨E, n, q, false, rfl, by omega, HV.out, HT.out, HQ.out, by rw [hmO]; rfl, fun _ => rfl, fun h => by cases h⟩
  | true =>
    have e1 : w2.cell? ⟨Bd, 1, none⟩ = some (.slice A2 I.length c2) := HBk.out.cell 1
    go_wp2_with fail
    refine (may_ A2 c2 I w2 HD.out.i).mono ?_
    rintro e w3 ⟨rfl, hf⟩
    replace HV := Lib.hid (HV.out.fr hf (fun _ _ h => h)); replace HD := Lib.hid (HD.out.keep hf); replace HBk := Lib.hid (HBk.out.fr hf (fun _ _ h => h)); replace HT := Lib.hid (HT.out.trans (Tn.of_fr hf (HT.out.sub · · |>.2)))
    clear hf e1
    cases hmI : mays I with
    | false =>
      go_wp2_with fail
      go_ret
      exact ⟨E, n, q, false, rfl, by omega, HV.out, HT.out, HQ.out, by rw [hmO, hmI]; rfl, fun _ => rfl, fun h => by cases h⟩
    | true =>
      have HM : Hid (mays O = true ∧ mays I = true) := ⟨hmO, hmI⟩
      clear hmO hmI
      have e0 : w3.cell? ⟨Bd, 0, none⟩ = some (.slice A1 O.length c1) := HBk.out.cell 0
      go_wp2_with fail
      go_loopg [37] O.length (fun gk i wr => ∃ (k : Nat) (E1 : List En) (qk : List Pq), i = .int .i64 k ∧ k ≤ O.length ∧ gk = O.length - k ∧ VwI wr h r W n E1 ∧ Tn (fl h r E) (fl h r E1) w3 wr ∧ Hv qk E1 ∧ (qk ++ (O.take k).map (pr W)).Perm q)
      case atStart => exact ⟨0, E, q, rfl, Nat.zero_le _, rfl, HV.out, Tn.refl HV.out.lt, HQ.out, by simp⟩
      case round =>
        obtain ⟨k, E1, qk, rfl, hk, hg, hv, ht, hqk, hp⟩ := hrel
        have HG := Lib.hid hg; have HV1 := Lib.hid hv; have HT1 := Lib.hid ht; have HQ1 := Lib.hid hqk; have HP := Lib.hid hp
        have hql : qk.length ≤ 100000 := by have := hp.length_eq; simp at this; omega
        clear hg hv ht hqk hp e0
        have HB1 := Lib.hid (HBk.out.fr HT1.out.fr (fun b hb => by simp at hb; subst hb; exact HBd.out))
        by_cases hlt : k < O.length
        · have hOne : O ≠ [] := fun e => by rw [e] at hlt; simp at hlt
          have HO := Lib.hid (HD.out.o.fr HT1.out.fr (fun a ha => AP1.out a ha hOne))
          obtain ⟨b1, o1, rfl, hb1, c1'⟩ := HO.out.s.at hlt (by omega)
          have HA := Lib.hid (At.row c1' hlt)
          have HY := Lib.hid (HO.out.ok _ (List.getElem_mem hlt))
          have HTk := Lib.hid (take_map (pr W) O k hlt)
          have HNo : Hid (pr W O[k] ∉ qk → outB q (O.map (pr W)) = false) := fun hm => outB_no (k := k) (by simpa using hlt) (by rw [← List.map_take]; exact HP.out) (by simpa using hm)
          have hcap := HO.out.s.2.1
          clear c1' hb1
          generalize O[k] = y at *
          have q2 : decide ((k : Int) < (O.length : Int)) = true := by simp; omega
          have yc0 : wr.cell? ⟨b1, o1 + k * 9, none⟩ = some (.int .i64 y.t) := HA.out 0 _ rfl
          have yc1 : wr.cell? ⟨b1, o1 + k * 9 + 1, none⟩ = some (.int .i64 y.i) := HA.out 1 _ rfl
          have yc2 : wr.cell? ⟨b1, o1 + k * 9 + 1 + 1, none⟩ = some (.int .i64 y.p) := HA.out 2 _ rfl
          have yc3 : wr.cell? ⟨b1, o1 + k * 9 + 1 + 1 + 1, none⟩ = some (.int .i64 y.r) := HA.out 3 _ rfl
          have yc4 : wr.cell? ⟨b1, o1 + k * 9 + 1 + 1 + 1 + 1, none⟩ = some (.string y.s) := HA.out 4 _ rfl
          have yc5 : wr.cell? ⟨b1, o1 + k * 9 + 1 + 1 + 1 + 1 + 1, none⟩ = some (.string y.o) := HA.out 5 _ rfl
          have yc6 : wr.cell? ⟨b1, o1 + k * 9 + 1 + 1 + 1 + 1 + 1 + 1, none⟩ = some (.int .i64 y.b) := HA.out 6 _ rfl
          have yc7 : wr.cell? ⟨b1, o1 + k * 9 + 1 + 1 + 1 + 1 + 1 + 1 + 1, none⟩ = some (.int .i64 y.d) := HA.out 7 _ rfl
          have yc8 : wr.cell? ⟨b1, o1 + k * 9 + 1 + 1 + 1 + 1 + 1 + 1 + 1 + 1, none⟩ = some (.bool y.g) := HA.out 8 _ rfl
          go_upto_region 8 with (fail)
          have hfa := Fr.alloc (fun _ => False) wr (.cells y.arr TSn)
          have HX := Lib.hid (At.box (Bk.new wr y.arr TSn))
          have HV2 := Lib.hid (HV1.out.fr hfa (fun _ _ h => h)); have HT2 := Lib.hid (HT1.out.trans (Tn.of_fr hfa HV1.out.lt)); have HB2 := Lib.hid (HB1.out.fr hfa (fun _ _ h => h)); have HO2 := Lib.hid (HO.out.keep hfa)
          clear hfa HA HV1 HT1 HB1 HO yc0 yc1 yc2 yc3 yc4 yc5 yc6 yc7 yc8
          generalize (wr.alloc (.cells y.arr TSn)) = w4 at *
          generalize wr.heap.size = Bx at *
          have yc0 : w4.cell? ⟨Bx, 0, none⟩ = some (.int .i64 y.t) := HX.out 0 _ rfl
          have yc1 : w4.cell? ⟨Bx, 1, none⟩ = some (.int .i64 y.i) := HX.out 1 _ rfl
          have yc2 : w4.cell? ⟨Bx, 2, none⟩ = some (.int .i64 y.p) := HX.out 2 _ rfl
          have yc3 : w4.cell? ⟨Bx, 3, none⟩ = some (.int .i64 y.r) := HX.out 3 _ rfl
          have yc4 : w4.cell? ⟨Bx, 4, none⟩ = some (.string y.s) := HX.out 4 _ rfl
          have yc5 : w4.cell? ⟨Bx, 5, none⟩ = some (.string y.o) := HX.out 5 _ rfl
          have yc6 : w4.cell? ⟨Bx, 6, none⟩ = some (.int .i64 y.b) := HX.out 6 _ rfl
          have yc7 : w4.cell? ⟨Bx, 7, none⟩ = some (.int .i64 y.d) := HX.out 7 _ rfl
          have yc8 : w4.cell? ⟨Bx, 8, none⟩ = some (.bool y.g) := HX.out 8 _ rfl
          go_wp2_with fail
          refine (drop h r W n E1 y w4 HV2.out HY.out (by have := HQ1.out.len (y.s, y.o); omega)).mono ?_
          rintro e w5 ⟨E2, rfl, hv, hl1, hl2, ht⟩
          have HV5 := Lib.hid hv; have HT5 := Lib.hid (HT2.out.trans ht)
          have HBd5 := Lib.hid (Tn.out HT2.out (lt_of_heap HBk.out) HBd.out)
          have HB5 := Lib.hid (HB2.out.fr ht.fr (fun b hb => by simp at hb; subst hb; exact HBd5.out))
          have hbl : b1 < w3.heap.size := by
            obtain ⟨b2, o2, e, h4, -⟩ := HD.out.o.s.at hlt (by omega)
            cases e; exact h4
          have HAp5 := Lib.hid (Tn.out HT2.out hbl (AP1.out _ rfl hOne))
          have HO5 := Lib.hid (HO2.out.fr ht.fr (fun a ha => by cases ha; exact HAp5.out))
          have HL1 := Lib.hid hl1; have HL2 := Lib.hid hl2
          have hok := HQ1.out.ok (y.s, y.o) (slot y.b W)
          rw [hok]
          clear hok hv ht hl1 hl2 HX HV2 HT2 HB2 HO2 HBd5 HAp5 yc0 yc1 yc2 yc3 yc4 yc5 yc6 yc7 yc8
          by_cases hm : ((y.s, y.o), slot y.b W) ∈ qk
          · rw [decide_eq_true hm]
            have HQ5 := Lib.hid (HQ1.out.take hm HL1.out HL2.out)
            have hpe := (List.perm_cons_erase hm)
            have HP5 : Hid ((qk.erase ((y.s, y.o), slot y.b W) ++ (O.take (k + 1)).map (pr W)).Perm q) := by
              refine List.Perm.trans ?_ HP.out
              rw [HTk.out]
              refine List.Perm.trans ?_ (hpe.symm.append_right _)
              rw [← List.append_assoc]
              exact List.perm_append_comm (l₂ := [pr W y])
            clear hpe hm
            go_wp2_with fail
            go_roundg (O.length - (k + 1))
            case rel => exact ⟨k + 1, E2, _, by go_num, by omega, rfl, HV5.out, HT5.out, HQ5.out, HP5.out⟩
            case measure => have := HG.out; omega
          · rw [decide_eq_false hm]
            have HNo5 := Lib.hid (HNo.out hm)
            have HQ5 := Lib.hid (HQ1.out.not hm HL1.out HL2.out)
            clear HNo hm HTk
            have e0 : w5.cell? ⟨Bd, 0, none⟩ = some (.slice (some ⟨b1, o1, none⟩) O.length c1) := HB5.out.cell 0
            have HAp6 := Lib.hid (Tn.out HT5.out hbl (AP1.out _ rfl hOne))
            have hkO : k ≤ O.length := by omega
            have q5 : (0 : Int) ≤ (k : Int) := by omega
            have q6 : (k : Int) ≤ (c1 : Int) := by omega
            go_wp2_with fail
            go_loopg [50] k (fun gk i wr => ∃ (j : Nat) (E3 : List En) (n3 : Nat), i = .int .i64 j ∧ j ≤ k ∧ gk = k - j ∧ n3 ≤ n + j ∧ VwI wr h r W n3 E3 ∧ Tn (fl h r E2) (fl h r E3) w5 wr ∧ Hv (qk ++ (O.take j).map (pr W)) E3)
            case atStart => exact ⟨0, E2, n, rfl, Nat.zero_le _, rfl, by omega, HV5.out, Tn.refl HV5.out.lt, by simpa using HQ5.out⟩
            case round =>
              obtain ⟨j, E3, n3, rfl, hj, hg, hn3, hv, ht, hqk⟩ := hrel
              have HG3 := Lib.hid hg; have HV1 := Lib.hid hv; have HT1 := Lib.hid ht; have HQ1 := Lib.hid hqk
              clear hg hv ht hqk
              by_cases hlt3 : j < k
              · have HS1 := Lib.hid (HO5.out.fr HT1.out.fr (fun a ha => by cases ha; exact HAp6.out))
                have hltL : j < O.length := by omega
                obtain ⟨b3, o3, hA3, hb3, c3'⟩ := HS1.out.s.at hltL (by omega)
                have HA := Lib.hid (At.row c3' hltL)
                have HY3 := Lib.hid (HS1.out.ok _ (List.getElem_mem hltL))
                have HTk := Lib.hid (take_map (pr W) O j hltL)
                have hql3 := HQ1.out.len
                clear c3' hb3 HS1
                generalize O[j] = z at *
                try simp only [Option.some.injEq, Addr.mk.injEq] at hA3
                first | (obtain ⟨rfl, rfl, -⟩ := hA3) | (obtain rfl := hA3) | (cases hA3)
                have q1 : (0 : Int) ≤ (j : Int) := by omega
                have q2 : decide ((j : Int) < ((k : Nat) : Int)) = true := by simp; omega
                have hq3 : (O.take j).length ≤ 100000 := by rw [List.length_take]; omega
                have zc0 : wr.cell? ⟨b1, o1 + j * 9, none⟩ = some (.int .i64 z.t) := HA.out 0 _ rfl
                have zc1 : wr.cell? ⟨b1, o1 + j * 9 + 1, none⟩ = some (.int .i64 z.i) := HA.out 1 _ rfl
                have zc2 : wr.cell? ⟨b1, o1 + j * 9 + 1 + 1, none⟩ = some (.int .i64 z.p) := HA.out 2 _ rfl
                have zc3 : wr.cell? ⟨b1, o1 + j * 9 + 1 + 1 + 1, none⟩ = some (.int .i64 z.r) := HA.out 3 _ rfl
                have zc4 : wr.cell? ⟨b1, o1 + j * 9 + 1 + 1 + 1 + 1, none⟩ = some (.string z.s) := HA.out 4 _ rfl
                have zc5 : wr.cell? ⟨b1, o1 + j * 9 + 1 + 1 + 1 + 1 + 1, none⟩ = some (.string z.o) := HA.out 5 _ rfl
                have zc6 : wr.cell? ⟨b1, o1 + j * 9 + 1 + 1 + 1 + 1 + 1 + 1, none⟩ = some (.int .i64 z.b) := HA.out 6 _ rfl
                have zc7 : wr.cell? ⟨b1, o1 + j * 9 + 1 + 1 + 1 + 1 + 1 + 1 + 1, none⟩ = some (.int .i64 z.d) := HA.out 7 _ rfl
                have zc8 : wr.cell? ⟨b1, o1 + j * 9 + 1 + 1 + 1 + 1 + 1 + 1 + 1 + 1, none⟩ = some (.bool z.g) := HA.out 8 _ rfl
                go_upto_region 12 with (fail)
                have hfa := Fr.alloc (fun _ => False) wr (.cells z.arr TSn)
                have HX := Lib.hid (At.box (Bk.new wr z.arr TSn))
                have HV2 := Lib.hid (HV1.out.fr hfa (fun _ _ h => h)); have HT2 := Lib.hid (HT1.out.trans (Tn.of_fr hfa HV1.out.lt))
                clear hfa HA HV1 HT1 zc0 zc1 zc2 zc3 zc4 zc5 zc6 zc7 zc8
                generalize (wr.alloc (.cells z.arr TSn)) = w14 at *
                generalize wr.heap.size = Bz at *
                have zc0 : w14.cell? ⟨Bz, 0, none⟩ = some (.int .i64 z.t) := HX.out 0 _ rfl
                have zc1 : w14.cell? ⟨Bz, 1, none⟩ = some (.int .i64 z.i) := HX.out 1 _ rfl
                have zc2 : w14.cell? ⟨Bz, 2, none⟩ = some (.int .i64 z.p) := HX.out 2 _ rfl
                have zc3 : w14.cell? ⟨Bz, 3, none⟩ = some (.int .i64 z.r) := HX.out 3 _ rfl
                have zc4 : w14.cell? ⟨Bz, 4, none⟩ = some (.string z.s) := HX.out 4 _ rfl
                have zc5 : w14.cell? ⟨Bz, 5, none⟩ = some (.string z.o) := HX.out 5 _ rfl
                have zc6 : w14.cell? ⟨Bz, 6, none⟩ = some (.int .i64 z.b) := HX.out 6 _ rfl
                have zc7 : w14.cell? ⟨Bz, 7, none⟩ = some (.int .i64 z.d) := HX.out 7 _ rfl
                have zc8 : w14.cell? ⟨Bz, 8, none⟩ = some (.bool z.g) := HX.out 8 _ rfl
                go_wp2_with fail
                refine (add h r W n3 E3 z w14 HV2.out HY3.out (by omega) (by have := hql3 (z.s, z.o); rw [List.length_append, List.length_map] at this; omega)).mono ?_
                rintro e w15 ⟨rfl, E4, n4, hn4, hv, hl1, hl2, ht⟩
                have HV5z := Lib.hid hv; have HT5z := Lib.hid (HT2.out.trans ht)
                have HQ5z : Hid (Hv (qk ++ (O.take (j + 1)).map (pr W)) E4) := by
                  have h1 := HQ1.out.add (by rw [List.length_append, List.length_map]; omega) hl1 hl2
                  rw [List.append_assoc] at h1
                  rw [HTk.out]; exact h1
                clear hv ht hl1 hl2 HX HV2 HT2 HQ1 HTk zc0 zc1 zc2 zc3 zc4 zc5 zc6 zc7 zc8
                go_wp2_with fail
                go_roundg (k - (j + 1))
                case rel => exact ⟨j + 1, E4, n4, by go_num, by omega, rfl, by omega, HV5z.out, HT5z.out, HQ5z.out⟩
                case measure => have := HG3.out; omega
              · obtain rfl : k = j := by omega
                have q2 : decide (((k : Nat) : Int) < ((k : Nat) : Int)) = false := by simp
                go_wp2_with fail
                go_ret
                exact ⟨E3, n3, q, false, rfl, by omega, HV1.out, HT.out.trans (HT5.out.trans HT1.out), HQ1.out.perm HP.out, by rw [HNo5.out]; simp, fun _ => rfl, fun h => by cases h⟩
        · obtain rfl : k = O.length := by omega
          rw [List.take_length] at HP
          have q2 : decide ((O.length : Int) < (O.length : Int)) = false := by simp
          have e1 : wr.cell? ⟨Bd, 1, none⟩ = some (.slice A2 I.length c2) := HB1.out.cell 1
          have HI1 := Lib.hid (keepV HD.out.i HT1.out.fr AP2.out)
          obtain ⟨wo, hwo⟩ : ∃ wo, wo = wr := ⟨_, rfl⟩
          subst hwo
          have HV1o := HV1; have HT1o := HT1; have HQ1o := HQ1
          have HA2 : Hid (∀ a, A2 = some a → I ≠ [] → a.block < w3.heap.size) := fun a ha hne => HD.out.i.s.lt (fun e => hne (by have := (HD.out.i.s.nil_iff (by omega)).2 e; exact List.length_eq_zero_iff.1 this)) a ha
          clear HV1 HT1 HQ1 HG
          go_wp2_with fail
          go_loopg [62] I.length (fun gk i wr => ∃ (j : Nat) (E3 : List En) (n3 : Nat), i = .int .i64 j ∧ j ≤ I.length ∧ gk = I.length - j ∧ n3 ≤ n + j ∧ VwI wr h r W n3 E3 ∧ Tn (fl h r E1) (fl h r E3) wo wr ∧ Hv (qk ++ (I.take j).map (pr W)) E3)
          case atStart => exact ⟨0, E1, n, rfl, Nat.zero_le _, rfl, by omega, HV1o.out, Tn.refl HV1o.out.lt, by simpa using HQ1o.out⟩
          case round =>
            obtain ⟨j, E3, n3, rfl, hj, hg, hn3, hv, ht, hqk⟩ := hrel
            have HG3 := Lib.hid hg; have HV1 := Lib.hid hv; have HT1 := Lib.hid ht; have HQ1 := Lib.hid hqk
            clear hg hv ht hqk
            by_cases hlt3 : j < I.length
            · have HS1 := Lib.hid (HI1.out.fr HT1.out.fr (fun a ha => Tn.out HT1o.out (HA2.out a ha (fun e => by rw [e] at hlt3; simp at hlt3)) (AP2.out a ha (fun e => by rw [e] at hlt3; simp at hlt3))))
              have hltL : j < I.length := by omega
              obtain ⟨b3, o3, hA3, hb3, c3'⟩ := HS1.out.s.at hltL (by omega)
              have HA := Lib.hid (At.row c3' hltL)
              have HY3 := Lib.hid (HS1.out.ok _ (List.getElem_mem hltL))
              have HTk := Lib.hid (take_map (pr W) I j hltL)
              have hql3 := HQ1.out.len
              clear c3' hb3 HS1
              generalize I[j] = z at *
              try simp only [Option.some.injEq, Addr.mk.injEq] at hA3
              first | (obtain ⟨rfl, rfl, -⟩ := hA3) | (obtain rfl := hA3) | (cases hA3)
              have q1 : (0 : Int) ≤ (j : Int) := by omega
              have q2 : decide ((j : Int) < ((I.length : Nat) : Int)) = true := by simp; omega
              have hq3 : (I.take j).length ≤ 100000 := by rw [List.length_take]; omega
              have zc0 : wr.cell? ⟨b3, o3 + j * 9, none⟩ = some (.int .i64 z.t) := HA.out 0 _ rfl
              have zc1 : wr.cell? ⟨b3, o3 + j * 9 + 1, none⟩ = some (.int .i64 z.i) := HA.out 1 _ rfl
              have zc2 : wr.cell? ⟨b3, o3 + j * 9 + 1 + 1, none⟩ = some (.int .i64 z.p) := HA.out 2 _ rfl
              have zc3 : wr.cell? ⟨b3, o3 + j * 9 + 1 + 1 + 1, none⟩ = some (.int .i64 z.r) := HA.out 3 _ rfl
              have zc4 : wr.cell? ⟨b3, o3 + j * 9 + 1 + 1 + 1 + 1, none⟩ = some (.string z.s) := HA.out 4 _ rfl
              have zc5 : wr.cell? ⟨b3, o3 + j * 9 + 1 + 1 + 1 + 1 + 1, none⟩ = some (.string z.o) := HA.out 5 _ rfl
              have zc6 : wr.cell? ⟨b3, o3 + j * 9 + 1 + 1 + 1 + 1 + 1 + 1, none⟩ = some (.int .i64 z.b) := HA.out 6 _ rfl
              have zc7 : wr.cell? ⟨b3, o3 + j * 9 + 1 + 1 + 1 + 1 + 1 + 1 + 1, none⟩ = some (.int .i64 z.d) := HA.out 7 _ rfl
              have zc8 : wr.cell? ⟨b3, o3 + j * 9 + 1 + 1 + 1 + 1 + 1 + 1 + 1 + 1, none⟩ = some (.bool z.g) := HA.out 8 _ rfl
              go_upto_region 19 with (fail)
              have hfa := Fr.alloc (fun _ => False) wr (.cells z.arr TSn)
              have HX := Lib.hid (At.box (Bk.new wr z.arr TSn))
              have HV2 := Lib.hid (HV1.out.fr hfa (fun _ _ h => h)); have HT2 := Lib.hid (HT1.out.trans (Tn.of_fr hfa HV1.out.lt))
              clear hfa HA HV1 HT1 zc0 zc1 zc2 zc3 zc4 zc5 zc6 zc7 zc8
              generalize (wr.alloc (.cells z.arr TSn)) = w14 at *
              generalize wr.heap.size = Bz at *
              have zc0 : w14.cell? ⟨Bz, 0, none⟩ = some (.int .i64 z.t) := HX.out 0 _ rfl
              have zc1 : w14.cell? ⟨Bz, 1, none⟩ = some (.int .i64 z.i) := HX.out 1 _ rfl
              have zc2 : w14.cell? ⟨Bz, 2, none⟩ = some (.int .i64 z.p) := HX.out 2 _ rfl
              have zc3 : w14.cell? ⟨Bz, 3, none⟩ = some (.int .i64 z.r) := HX.out 3 _ rfl
              have zc4 : w14.cell? ⟨Bz, 4, none⟩ = some (.string z.s) := HX.out 4 _ rfl
              have zc5 : w14.cell? ⟨Bz, 5, none⟩ = some (.string z.o) := HX.out 5 _ rfl
              have zc6 : w14.cell? ⟨Bz, 6, none⟩ = some (.int .i64 z.b) := HX.out 6 _ rfl
              have zc7 : w14.cell? ⟨Bz, 7, none⟩ = some (.int .i64 z.d) := HX.out 7 _ rfl
              have zc8 : w14.cell? ⟨Bz, 8, none⟩ = some (.bool z.g) := HX.out 8 _ rfl
              go_wp2_with fail
              refine (add h r W n3 E3 z w14 HV2.out HY3.out (by omega) (by have := hql3 (z.s, z.o); rw [List.length_append, List.length_map] at this; omega)).mono ?_
              rintro e w15 ⟨rfl, E4, n4, hn4, hv, hl1, hl2, ht⟩
              have HV5z := Lib.hid hv; have HT5z := Lib.hid (HT2.out.trans ht)
              have HQ5z : Hid (Hv (qk ++ (I.take (j + 1)).map (pr W)) E4) := by
                have h1 := HQ1.out.add (by rw [List.length_append, List.length_map]; omega) hl1 hl2
                rw [List.append_assoc] at h1
                rw [HTk.out]; exact h1
              clear hv ht hl1 hl2 HX HV2 HT2 HQ1 HTk zc0 zc1 zc2 zc3 zc4 zc5 zc6 zc7 zc8
              go_wp2_with fail
              go_roundg (I.length - (j + 1))
              case rel => exact ⟨j + 1, E4, n4, by go_num, by omega, rfl, by omega, HV5z.out, HT5z.out, HQ5z.out⟩
              case measure => have := HG3.out; omega
            · obtain rfl : j = I.length := by omega
              have q2 : decide (((I.length : Nat) : Int) < ((I.length : Nat) : Int)) = false := by simp
              go_wp2_with fail
              go_ret
              exact ⟨E3, n3, _, true, rfl, by omega, HV1.out, HT.out.trans (HT1o.out.trans HT1.out), (by have := HQ1.out; rw [List.take_length] at this; exact this), (by rw [HM.out.1, HM.out.2, outB_yes HP.out]; rfl), fun h => (by cases h), fun _ => ⟨qk, HP.out, rfl⟩⟩
end Ser
end Go.Proofs.YtgfjpnpbkkadpaaGreat
namespace Go.Proofs.YtgfjpnpbkkadpaaGreat
open Go.RowKit
namespace Ser
open KeyP PackP SetP SetW SetF BagP Bag Mk
attribute [local go_sem] Eng.ev Eng.getO_cons Eng.getO_nil
/-- What a view's bag of a name is, whatever the view. -/
def BagAt (v : Value) (s o : ByteArray) (p : Option Addr) (w : World) : Prop := ∀ W, Below w.heap.size w W → Calls Tryz.prog 62 #[v, .string s, .string o] W fun e w' => e = .returned (.pointer p) ∧ W = w'
theorem VwI.bagAt {w : World} {h r : Nat} {W : Int} {n : Nat} {E : List En} (H : VwI w h r W n E) {s o : ByteArray} (hk : okN (s, o)) : ∃ p F, (p = none ∨ ∃ B off, p = some ⟨B, off, none⟩) ∧ BagAt (.pointer (some ⟨h, 0, none⟩)) s o p w ∧ AvlII.MapP w p (lk E (s, o)) F ∧ ∀ b ∈ F, b < w.heap.size := by
  cases hf : fE E (s, o) with
  | none =>
    refine ⟨none, [], .inl rfl, fun W' hW => ?_, ?_, by simp⟩
    · have := bag h r W n E s o W' (H.fr (Fr.of_below' hW (fun _ => False)) (fun _ _ h => h)) hk
      rw [ptr_none hf] at this; exact this
    · unfold lk; rw [hf]; exact .inl ⟨rfl, rfl, rfl⟩
  | some e =>
    have hz := H.b e (List.mem_of_find?_eq_some hf)
    obtain ⟨F, h1, h2⟩ := hz.mapP
    refine ⟨some ⟨e.b, 0, none⟩, F, .inr ⟨_, _, rfl⟩, fun W' hW => ?_, ?_, fun b hb => hz.lt b (h2 b hb)⟩
    · have := bag h r W n E s o W' (H.fr (Fr.of_below' hW (fun _ => False)) (fun _ _ h => h)) hk
      rw [ptr_some hf] at this; exact this
    · unfold lk; rw [hf]; exact h1
theorem bagAt_not {v : Value} {s o : ByteArray} {w : World} (hm : ∀ W, Below w.heap.size w W → Calls Tryz.prog 55 #[v] W fun e w' => e = .returned (.bool false) ∧ W = w') : BagAt v s o none w := fun W hW => bag_not v s o W (hm W hW)
def CountsPost (L : List (Int × Int)) (w : World) (e : Ending) (w' : World) : Prop := ∃ v, e = .returned v ∧ w'.ownsRow w.heap.size TC 2 v L.length (L.flatMap pc) ∧ Below w.heap.size w w'
set_option maxRecDepth 100000 in
theorem Counts (v : Value) (s o : ByteArray) (p : Option Addr) (hp : p = none ∨ ∃ B off, p = some ⟨B, off, none⟩) (L : List (Int × Int)) (F : List Nat) (w : World) (hb : BagAt v s o p w) (hM : AvlII.MapP w p L F) (hF : ∀ b ∈ F, b < w.heap.size) (hlen : L.length ≤ 1000000000000) :
    Calls Tryz.prog 22 #[v, .string s, .string o] w (CountsPost L w) := by
  have HB := Lib.hid (hb w (Below.refl _ _))
  have HC := Lib.hid (Counts_any p hp L F w hM hF hlen)
  clear hp hb hM hF hlen
  go_enter Tryz.func22, Tryz.ntmps22
  go_wp2_with fail
  refine HB.out.mono ?_
  rintro e w1 ⟨rfl, rfl⟩
  go_wp2_with fail
  refine HC.out.mono ?_
  rintro e w1 ⟨u, rfl, h1, h2⟩
  have H1 := Lib.hid h1; have H2 := Lib.hid h2
  clear h1 h2 HC HB
  go_wp2_with fail
  go_ret
  exact ⟨_, rfl, H1.out, H2.out⟩
/-- Where most are. -/
def pk (b p : Int × Int) : Int × Int := if p.2 > b.2 then p else b
def peakL (L : List (Int × Int)) : Int × Int := L.foldl pk (0, 0)
theorem peakL_snoc (L : List (Int × Int)) (p : Int × Int) : peakL (L ++ [p]) = pk (peakL L) p := by unfold peakL; rw [List.foldl_append]; rfl
/-- The result's box, and the best one's. -/
structure PK (w0 w : World) (Rb Bb : Nat) (x y a c : Int) : Prop where
  r : Bk w Rb #[.int .i64 x, .int .i64 y] TC
  k : Bk w Bb #[.int .i64 a, .int .i64 c] TC
  f : Fr (· = Rb) w0 w
  n : Rb ≠ Bb
theorem PK.fr {w0 w w' : World} {Rb Bb : Nat} {x y a c : Int} (H : PK w0 w Rb Bb x y a c) (hf : Fr (fun _ => False) w w') : PK w0 w' Rb Bb x y a c := ⟨H.r.fr hf (fun _ _ h => h), H.k.fr hf (fun _ _ h => h), H.f.trans hf (fun _ _ h => h) (fun _ _ h => h.elim), H.n⟩
theorem PK.put {w0 w : World} {Rb Bb : Nat} {x y a c : Int} (H : PK w0 w Rb Bb x y a c) : PK w0 ((w.setCell ⟨Rb, 0, none⟩ (.int .i64 a)).setCell ⟨Rb, 0 + 1, none⟩ (.int .i64 c)) Rb Bb a c a c := by
  have f1 := Fr.setCell w ⟨Rb, 0, none⟩ (.int .i64 a) (S := (· = Rb)) rfl
  have f2 := Fr.setCell (w.setCell ⟨Rb, 0, none⟩ (.int .i64 a)) ⟨Rb, 0 + 1, none⟩ (.int .i64 c) (S := (· = Rb)) rfl
  have hk := (H.k.fr f1 (fun b hb e => by simp at hb; exact H.n (e.symm.trans hb))).fr f2 (fun b hb e => by simp at hb; exact H.n (e.symm.trans hb))
  exact ⟨(H.r.set 0 _).set (0 + 1) _, hk, H.f.trans (f1.trans f2 (fun _ _ h => h) (fun _ _ h => h)) (fun _ _ h => h) (fun _ _ h => h), H.n⟩
set_option maxRecDepth 100000 in
set_option maxHeartbeats 400000 in
theorem pk7 {ops : Array Oper} (hops : Eng.fnOps Tryz.f19 7 = ops) (a0 : Act) (Q : Exit → Act → World → Prop) (w0 w : World) (Rb Bb : Nat) (x0 y0 a0' c0 : Int) (hst : PK w0 w Rb Bb x0 y0 a0' c0)
    (hn : a0.tmps.size = 29) (h_6 : a0.tmps.getD 6 undef = .pointer (some ⟨Rb, 0, none⟩)) (h_8 : a0.tmps.getD 8 undef = .pointer (some ⟨Bb, 0, none⟩))
    (hpost : ∀ (x : Nat → Value) (w' : World), x 7 = .bool (decide (c0 > 0)) → PK w0 w' Rb Bb a0' c0 a0' c0 → Q .normal (Eng.setAll a0 [7, 25, 26, 27, 28] x) w') :
    (Code.region 7 ops true).wp Tryz.prog Q a0 w := by
  simp only [Eng.fnOps, Eng.regOps, Tryz.f19, Option.bind_some, Option.getD_some, Nat.reduceEqDiff, ↓reduceIte, Nat.reduceBEq] at hops
  subst hops
  have HSt := Lib.hid (hst.fr (Fr.drew _ _))
  have hSS : w.drew.cell? ⟨Bb, 0, none⟩ = some (.int .i64 a0') ∧ w.drew.cell? ⟨Bb, 1, none⟩ = some (.int .i64 c0) := ⟨HSt.out.k.cell 0, HSt.out.k.cell 1⟩
  refine Eng.regionT (.take 0 (.take 1 (.take 2 (.take 3 (.alt 4 (.take 5 (.done)) (.stop)))))) (fun w' => w'.cell? ⟨Bb, 0, none⟩ = some (.int .i64 a0') ∧ w'.cell? ⟨Bb, 1, none⟩ = some (.int .i64 c0)) (by kernel_rfl) 29 hn (by kernel_rfl) (by kernel_rfl) (by kernel_rfl) (hSS) (fun a b ha hb => ?_)
  subst ha
  have hb6 : b 6 = .pointer (some ⟨Rb, 0, none⟩) := (hb 6).symm.trans h_6
  have hb8 : b 8 = .pointer (some ⟨Bb, 0, none⟩) := (hb 8).symm.trans h_8
  clear hb h_6 h_8
  have HP := Lib.hid hpost; have HN := Lib.hid hn
  clear hpost hn
  refine Eng.TW.take' (v := ?_) rfl rfl (by decide) (by kernel_rfl) (fun w hw => ?_) ?_
  rotate_left
  · (try dsimp only at hw); go_simp; first | done | with_reducible rfl
  refine Eng.TW.take' (v := ?_) rfl rfl (by decide) (by kernel_rfl) (fun w hw => ?_) ?_
  rotate_left
  · (try dsimp only at hw); go_simp; first | done | with_reducible rfl
  refine Eng.TW.take' (v := ?_) rfl rfl (by decide) (by kernel_rfl) (fun w hw => ?_) ?_
  rotate_left
  · (try dsimp only at hw); go_simp; first | done | with_reducible rfl
  refine Eng.TW.take' (v := ?_) rfl rfl (by decide) (by kernel_rfl) (fun w hw => ?_) ?_
  rotate_left
  · (try dsimp only at hw); go_simp; first | done | with_reducible rfl
  have r0 : w.cell? ⟨Rb, 0, none⟩ = some (.int .i64 x0) := HSt.out.r.cell 0
  have f0 : w.frozen? ⟨Rb, 0, none⟩ = false := HSt.out.r.free 0
  have r1 : w.cell? ⟨Rb, 1, none⟩ = some (.int .i64 y0) := HSt.out.r.cell 1
  have f1 : w.frozen? ⟨Rb, 1, none⟩ = false := HSt.out.r.free 1
  refine Eng.TW.step0 rfl rfl (by kernel_rfl) (by go_simp; first | done | with_reducible rfl | exact ⟨rfl, rfl⟩) (⟨(HSt.out.put).k.cell 0, (HSt.out.put).k.cell 1⟩) ?_
  have HSt2 := Lib.hid (HSt.out.put)
  have hSS : ((w.drew.setCell ⟨Rb, 0, none⟩ (.int .i64 a0')).setCell ⟨Rb, 0 + 1, none⟩ (.int .i64 c0)).cell? ⟨Bb, 0, none⟩ = some (.int .i64 a0') ∧ ((w.drew.setCell ⟨Rb, 0, none⟩ (.int .i64 a0')).setCell ⟨Rb, 0 + 1, none⟩ (.int .i64 c0)).cell? ⟨Bb, 1, none⟩ = some (.int .i64 c0) := ⟨HSt2.out.k.cell 0, HSt2.out.k.cell 1⟩
  refine Eng.TW.take' (v := ?_) rfl rfl (by decide) (by kernel_rfl) (fun w hw => ?_) ?_
  rotate_left
  · (try dsimp only at hw); go_simp; first | done | with_reducible rfl
  refine Eng.TW.end_ [7, 25, 26, 27, 28] HN.out (by kernel_rfl) (by kernel_rfl) ?_
  exact HP.out _ _ rfl HSt2.out

def PeakPost (L : List (Int × Int)) (w : World) (e : Ending) (w' : World) : Prop := e = .returned (.tuple #[.agg #[.int .i64 (peakL L).1, .int .i64 (peakL L).2], .bool (decide ((peakL L).2 > 0))]) ∧ Below w.heap.size w w'
theorem results_row_slot {P : Program} {fn : Func} {p q : Tmp} {ty : TypeId} (h : fn.results = #[.cell p ty, .tmp q]) (tmps : Array Value) (w : World) (g : Nat) (t : TypeId) (cs : Array Value) (u : Value) (d : TypeDesc)
    (hp : tmps.getD p undef = .pointer (some ⟨g, 0, none⟩)) (hq : tmps.getD q undef = u) (hg : w.heap[g]? = some (.cells cs t (0, 0)))
    (hu : P.underlying ty = some d) (hd : (match d with | .struct _ | .array _ _ => true | _ => false) = true) (hi : (P.info? ty).map (·.size) = some cs.size) :
    (results fn tmps).run P w = .ok (.tuple #[.agg cs, u]) w := by
  have hp' : tmps[p]?.getD undef = .pointer (some ⟨g, 0, none⟩) := by simpa using hp
  have hq' : tmps[q]?.getD undef = u := by simpa using hq
  simp [results, h, hp', hq', asAddr, run_loadVar_row w g t ty cs (0, 0) d hg hu hd hi]
attribute [local go_sem] Oper.semAt_some
/-- Between the rounds. -/
structure PKI (w0 W : World) (Rb Bb m : Nat) (b : Int × Int) : Prop where
  r : Bk W Rb #[.int .i64 0, .int .i64 0] TC
  k : Bk W Bb #[.int .i64 b.1, .int .i64 b.2] TC
  b : Below w0.heap.size w0 W
  s : m ≤ W.heap.size
set_option maxRecDepth 100000 in
set_option maxHeartbeats 1000000 in
theorem Peak (v : Value) (s o : ByteArray) (p : Option Addr) (hp : p = none ∨ ∃ B off, p = some ⟨B, off, none⟩) (L : List (Int × Int)) (F : List Nat) (w : World) (hb : BagAt v s o p w) (hM : AvlII.MapP w p L F) (hFlt : ∀ b ∈ F, b < w.heap.size) :
    Calls Tryz.prog 19 #[v, .string s, .string o] w (PeakPost L w) := by
  have HAll := fun w => Lib.hid (Bag.All_any p hp w)
  have HBg := Lib.hid hb
  clear hp hb
  have fa := fun (w : World) (o : Obj) => Fr.alloc (fun _ => False) w o
  refine (callsIn_wide (n := 3)).1 ?_
  refine callsIn_of_wp_marks Tryz.func19 rfl trivial ?_ rfl
  simp only [Tryz.ntmps19, List.size_toArray, List.length_cons, List.length_nil, Nat.reduceAdd, Nat.reduceSub, Array.replicate_succ, Array.replicate_zero, List.push_toArray, List.append_toArray, List.nil_append, List.cons_append]
  refine wpIn_wide.2 ?_
  go_wp2_with fail
  refine (HBg.out ((w.alloc (.cells #[.int .i64 0, .int .i64 0] TC)).alloc (.cells #[.int .i64 0, .int .i64 0] TC)) (((Below.refl _ w).alloc (Nat.le_refl _) _).alloc (by simp) _)).mono ?_
  rintro e w1 ⟨rfl, rfl⟩
  go_wp2_with fail
  refine (HAll _).out.mono ?_
  rintro e w1 ⟨rfl, rfl⟩
  clear HAll HBg
  go_wp2_with fail
  have nn : ∀ G : List Nat, ∀ b ∈ G, ¬ False := fun _ _ _ h => h
  have r0 : Bk (((w.alloc (.cells #[.int .i64 0, .int .i64 0] TC)).alloc (.cells #[.int .i64 0, .int .i64 0] TC)).alloc (.cells #[.pointer p] 181)) w.heap.size #[.int .i64 0, .int .i64 0] TC := ((Bk.new w _ _).fr (fa _ _) (nn _)).fr (fa _ _) (nn _)
  have k0 : Bk (((w.alloc (.cells #[.int .i64 0, .int .i64 0] TC)).alloc (.cells #[.int .i64 0, .int .i64 0] TC)).alloc (.cells #[.pointer p] 181)) (w.heap.size + 1) #[.int .i64 0, .int .i64 0] TC := by
    have := Bk.new (w.alloc (.cells #[.int .i64 0, .int .i64 0] TC)) #[.int .i64 0, .int .i64 0] TC
    rw [World.size_alloc] at this
    exact this.fr (fa _ _) (nn _)
  have hcc : (((w.alloc (.cells #[.int .i64 0, .int .i64 0] TC)).alloc (.cells #[.int .i64 0, .int .i64 0] TC)).alloc (.cells #[.pointer p] 181)).cell? ⟨w.heap.size + 1 + 1, 0, none⟩ = some (.pointer p) := by
    have := (Bk.new ((w.alloc (.cells #[.int .i64 0, .int .i64 0] TC)).alloc (.cells #[.int .i64 0, .int .i64 0] TC)) #[.pointer p] 181).cell 0
    rwa [World.size_alloc, World.size_alloc] at this
  have hb0 : Below w.heap.size w (((w.alloc (.cells #[.int .i64 0, .int .i64 0] TC)).alloc (.cells #[.int .i64 0, .int .i64 0] TC)).alloc (.cells #[.pointer p] 181)) := (((Below.refl _ w).alloc (Nat.le_refl _) _).alloc (by simp) _).alloc (by simp; omega) _
  have hs0 : (((w.alloc (.cells #[.int .i64 0, .int .i64 0] TC)).alloc (.cells #[.int .i64 0, .int .i64 0] TC)).alloc (.cells #[.pointer p] 181)).heap.size = w.heap.size + 3 := by simp
  have hM0 := hM.below hb0
  generalize (((w.alloc (.cells #[.int .i64 0, .int .i64 0] TC)).alloc (.cells #[.int .i64 0, .int .i64 0] TC)).alloc (.cells #[.pointer p] 181)) = W0 at *
  have HS0 := Lib.hid hs0
  clear hs0 fa hM nn
  refine (wpIn_wide (n := 3)).1 ?_
  refine range_P' (n := 3) (a₁ := ?fr) (gf := 167) (lb := #[.pointer (some ⟨w.heap.size + 1 + 1, 0, none⟩)]) rfl (enters_of Tryz.func167 (by kernel_rfl) rfl)
    (AvlII.All_seq F (w.heap.size + 1 + 1) p L F W0 hcc (by have := HS0.out; omega) hM0 (fun _ h => h)) (fun b hb => by have := hFlt b hb; have := HS0.out; omega) (fun _ => rfl)
    (fun (pre : List (Int × Int)) (W : World) => PKI w W w.heap.size (w.heap.size + 1) W0.heap.size (peakL pre)) (fun _ _ _ => False)
    (fun pre A B h hf => ⟨h.r.fr hf (fun b hb hr => by simp at hb; subst hb; have := hr.1; have := HS0.out; omega), h.k.fr hf (fun b hb hr => by simp at hb; subst hb; have := hr.1; have := HS0.out; omega), h.b.trans (hf.below h.b.size (fun k hk hr => by have := hr.1; have := HS0.out; omega)), Nat.le_trans h.s hf.size⟩) (fun _ _ _ _ h _ => h)
    ⟨r0, k0, hb0, Nat.le_refl _⟩ ?assign ?body ?done (fun _ _ _ _ _ h _ => h.elim)
  case assign =>
    intro l m x W K hK
    gi_wp2_with fail
    exact hK
  case body =>
    rintro l m pre x W ⟨hr, hk, hb, hsz0⟩ hsz hpre rfl ⟨r, hl⟩ hd
    (try dsimp only)
    obtain ⟨xk, xv⟩ := x
    have HP := Lib.hid (peakL_snoc pre (xk, xv))
    generalize peakL pre = bst at *
    obtain ⟨b1, b2⟩ := bst
    dsimp only at hk
    have c0 : W.cell? ⟨w.heap.size + 1, 0, none⟩ = some (.int .i64 b1) := hk.cell 0
    have c1 : W.cell? ⟨w.heap.size + 1, 1, none⟩ = some (.int .i64 b2) := hk.cell 1
    have f0 := hk.free 0
    have f1 := hk.free 1
    have HR := Lib.hid hr; have HK := Lib.hid hk; have HB := Lib.hid hb; have HL := Lib.hid hl; have HD := Lib.hid hd
    clear hr hk hb hl hd hM0 hcc r0 k0 hb0
    cases hgt : decide (xv > b2) with
    | false =>
      gi_wp2_with fail
      have hgt' : ¬ xv > b2 := by simpa using hgt
      refine ⟨KeptR.refl _ _ _, Nat.le_refl _, KeptL.refl _ _, ⟨HR.out, ?_, HB.out, hsz0⟩⟩
      rw [HP.out, pk, if_neg hgt']; exact HK.out
    | true =>
      gi_wp2_with fail
      have hgt' : xv > b2 := by simpa using hgt
      have g1 := Fr.setCell W ⟨w.heap.size + 1, 0, none⟩ (.int .i64 xk) (S := (· = w.heap.size + 1)) rfl
      have g2 := Fr.setCell (W.setCell ⟨w.heap.size + 1, 0, none⟩ (.int .i64 xk)) ⟨w.heap.size + 1, 0 + 1, none⟩ (.int .i64 xv) (S := (· = w.heap.size + 1)) rfl
      have g3 := g1.trans g2 (T := (· = w.heap.size + 1)) (fun _ _ h => h) (fun _ _ h => h)
      have hs1 := HS0.out
      refine ⟨KeptR.of_fr g3 hsz (fun b hr e => by have := hr.1; omega), g3.size, KeptL.of_fr g3 (fun b hb => ⟨by have := hFlt b hb; omega, fun e => by have := hFlt b hb; omega⟩), ⟨HR.out.fr g3 (fun b hb e => by simp at hb; omega), ?_, HB.out.trans (g3.below HB.out.size (fun k hk e => by omega)), Nat.le_trans hsz0 g3.size⟩⟩
      rw [HP.out, pk, if_pos hgt']
      exact (HK.out.set 0 _).set (0 + 1) _
  case done =>
    rintro W hsz ⟨hr, hk, hb, hsz0⟩ hK
    have HB := Lib.hid hb; have HK := Lib.hid hK
    have hs1 := HS0.out
    go_upto_region 7 with (fail)
    refine pk7 (by kernel_rfl) _ _ W W w.heap.size (w.heap.size + 1) 0 0 _ _ ⟨hr, hk, Fr.refl _ _, by omega⟩ rfl rfl rfl ?_
    intro x W2 h17 hst
    simp only [Eng.setAll, Act.put, List.setIfInBounds_toArray, List.set_cons_succ, List.set_cons_zero]
    rw [h17]
    have HS2 := Lib.hid hst
    have HK2 : Hid (W2.heap[W0.heap.size]? = some (.deferred (some []))) := (hst.f.block _ (lt_of_heap HK.out) (fun e => by omega)).trans HK.out
    clear h17 hst hr hk hb hK hM0 hcc r0 k0 hb0
    go_wp2_with fail
    refine ⟨by simp, .inl ⟨_, _, rfl, run_takeDeferred HK2.out, ?_⟩⟩
    have hf := Fr.putObj W2 W0.heap.size (.deferred none) (S := (· = W0.heap.size)) rfl
    have hr2 := HS2.out.r.fr hf (fun b hb e => by simp at hb; omega)
    exact ⟨_, results_row_slot rfl _ _ w.heap.size TC _ _ _ rfl rfl hr2 Tryz.underlying42 rfl (by kernel_rfl), rfl, (HB.out.trans (HS2.out.f.below HB.out.size (fun k hk e => by omega))).trans (hf.below (by have := HS2.out.f.size; omega) (fun k hk e => by omega))⟩
end Ser
end Go.Proofs.YtgfjpnpbkkadpaaGreat
namespace Go.Proofs.YtgfjpnpbkkadpaaGreat
open Go.RowKit
namespace Ser
open KeyP PackP SetP SetW SetF BagP Bag Mk Delta ClsW
attribute [local go_sem] Eng.ev Eng.getO_cons Eng.getO_nil
theorem pr_max (W : Int) : pr (max W 1) = pr W := by funext x; unfold pr; rw [slot_max]
/-- A list of counts that lies there. -/
structure Cl (w : World) (A : Option Addr) (c n : Nat) (X : List (Int × Int)) : Prop where
  s : Sl w 2 A n c (X.flatMap pc)
  n : X.length = n
theorem Cl.below {w w' : World} {A : Option Addr} {c n : Nat} {X : List (Int × Int)} (h : Cl w A c n X) (hb : Below w.heap.size w w') : Cl w' A c n X := ⟨h.s.fr (Fr.of_below' hb (fun _ => False)) (fun _ _ h => h), h.n⟩
/-- The counts of a name among pairs. -/
def cts (q : List Pq) (k : Nm) : List (Int × Int) := bagL (sl q k)
theorem Hv.cts {q : List Pq} {E : List En} (h : Hv q E) (hl : q.length ≤ 1000000) (k : Nm) : lk E k = cts q k := (h k).ext (bg_of _ (Nat.le_trans (sl_len q k) hl))
theorem cts_len (q : List Pq) (hl : q.length ≤ 1000000) (k : Nm) : (cts q k).length ≤ q.length := Nat.le_trans (bg_of _ (Nat.le_trans (sl_len q k) hl)).len (sl_len q k)
theorem cts_perm {q q' : List Pq} (h : q.Perm q') (hl : q.length ≤ 1000000) (k : Nm) : cts q k = cts q' k := bagL_perm (sl_perm h k) (Nat.le_trans (sl_len q k) hl)
theorem CountsPost.cl {L : List (Int × Int)} {w w' : World} {e : Ending} (h : CountsPost L w e w') : ∃ A c, e = .returned (.slice A L.length c) ∧ Cl w' A c L.length L ∧ Below w.heap.size w w' := by
  obtain ⟨v, rfl, h1, h2⟩ := h
  obtain ⟨A, c, rfl, h3, -⟩ := Sl.of_own h1
  exact ⟨A, c, rfl, ⟨h3, rfl⟩, h2⟩
/-- The counts of a view. -/
theorem CountsV {h r : Nat} {W : Int} {n : Nat} {E : List En} {q : List Pq} (s o : ByteArray) (w : World) (H : VwI w h r W n E) (hq : Hv q E) (hl : q.length ≤ 1000000) (hk : okN (s, o)) (X : List (Int × Int)) (hX : cts q (s, o) = X) (m : Nat) (hm : X.length = m) :
    Calls Tryz.prog 22 #[.pointer (some ⟨h, 0, none⟩), .string s, .string o] w fun e w' => ∃ A c, e = .returned (.slice A m c) ∧ Cl w' A c m X ∧ Below w.heap.size w w' := by
  subst hm; subst hX
  obtain ⟨p, F, h1, h2, h3, h4⟩ := H.bagAt hk
  have hlen := cts_len q hl (s, o)
  rw [hq.cts hl] at h3
  exact (Counts _ s o p h1 _ F w h2 h3 h4 (by omega)).mono (fun e w' h => h.cl)
theorem PeakV {h r : Nat} {W : Int} {n : Nat} {E : List En} {q : List Pq} (s o : ByteArray) (w : World) (H : VwI w h r W n E) (hq : Hv q E) (hl : q.length ≤ 1000000) (hk : okN (s, o)) (a c : Int) (hX : peakL (cts q (s, o)) = (a, c)) (b : Bool) (hb : decide (c > 0) = b) :
    Calls Tryz.prog 19 #[.pointer (some ⟨h, 0, none⟩), .string s, .string o] w fun e w' => e = .returned (.tuple #[.agg #[.int .i64 a, .int .i64 c], .bool b]) ∧ Below w.heap.size w w' := by
  subst hb
  obtain ⟨p, F, h1, h2, h3, h4⟩ := H.bagAt hk
  rw [hq.cts hl] at h3
  refine (Peak _ s o p h1 _ F w h2 h3 h4).mono (fun e w' h => ?_)
  obtain ⟨h5, h6⟩ := h
  rw [hX] at h5
  exact ⟨h5, h6⟩
set_option maxRecDepth 100000 in
set_option maxHeartbeats 1000000 in
theorem Of (W : Int) (s o : ByteArray) (A : Option Addr) (c : Nat) (L : List Sn) (w : World) (hS : Ls w A c L) (hlen : L.length ≤ 1000) (hk : okN (s, o)) (X : List (Int × Int)) (hX : cts ((spn L).map (pr W)) (s, o) = X) (m : Nat) (hm : X.length = m) :
    Calls Tryz.prog 26 #[.int .i64 W, .string s, .string o, .slice A L.length c] w fun e w' => ∃ A' c', e = .returned (.slice A' m c') ∧ Cl w' A' c' m X ∧ Below w.heap.size w w' := by
  have HK := Lib.hid hk
  have HSet := fun (w' : World) (h : Ls w' A c L) => Lib.hid (SetF.Set A c L w' h (by omega))
  have hml := Nat.le_trans (setOf_len L) hlen
  have hyl : (alive (setOf L)).length ≤ 1000 := Nat.le_trans (alive_len _) hml
  have HXe := Lib.hid hX; have HM := Lib.hid hm; have HS := Lib.hid hS
  have hpm := pr_max W
  obtain ⟨Y, hY⟩ : ∃ Y, alive (setOf L) = Y := ⟨_, rfl⟩
  have HXe : Hid (cts (Y.map (pr W)) (s, o) = X) := by rw [← hY]; exact hX
  rw [hY] at hyl
  generalize setOf L = M at *
  have HY := Lib.hid hY
  clear hS hY hX hm hk
  go_enter Tryz.func26, Tryz.ntmps26
  go_wp2_with fail
  refine (New W w).mono ?_
  rintro e w1 ⟨h, r, rfl, hv, hr, hh, hb⟩
  have HV := Lib.hid hv; have HB := Lib.hid hb; have HS1 := Lib.hid (HS.out.below hb)
  have HSt := HSet w1 HS1.out
  clear hv hb HS HSet
  go_wp2_with fail
  refine HSt.out.mono ?_
  rintro e w2 ⟨A2, c2, rfl, hls, hown, hb⟩
  have HV2 := Lib.hid (HV.out.fr (Fr.of_below' hb (fun _ => False)) (fun _ _ h => h))
  have HB2 := Lib.hid (HB.out.trans (hb.mono HB.out.size))
  have HA := Lib.hid (Alive ⟨none, 0, [], A2, c2, M⟩ w2 ⟨Ls.nil w2, hls⟩ (by simp) (by show M.length ≤ _; omega) [] Y rfl HY.out)
  have kb : ∀ W : World, (Instr.build TDl #[(1, .slice A2 M.length c2)]).run Tryz.prog W = .ok (.agg #[.slice none 0 0, .slice A2 M.length c2]) W := fun W => by kernel_rfl
  clear hls hown hb HSt HV HB HS1
  go_wp2_with fail
  refine HA.out.mono ?_
  rintro e w3 ⟨A3, c3, A4, c4, rfl, h3, h4, hb⟩
  have H4 := Lib.hid h4; have HB3 := Lib.hid (HB2.out.trans (hb.mono HB2.out.size))
  have HV3 := Lib.hid (HV2.out.fr (Fr.of_below' hb (fun _ => False)) (fun _ _ h => h))
  have kf : ∀ W : World, (Instr.field TDl (.agg #[.slice A3 0 c3, .slice A4 Y.length c4]) 1).run Tryz.prog W = .ok (.slice A4 Y.length c4) W := fun W => by kernel_rfl
  have HQ0 := Lib.hid Hv.nil
  have HAp := Lib.hid (HV3.out.apart H4.out)
  clear h3 h4 hb HA kb HV2 HB2
  generalize hW1 : max W 1 = W1 at *
  go_wp2_with fail
  go_loopg [20] Y.length (fun gk i wr => ∃ (j : Nat) (E3 : List En) (n3 : Nat), i = .int .i64 j ∧ j ≤ Y.length ∧ gk = Y.length - j ∧ n3 ≤ 0 + j ∧ VwI wr h r W1 n3 E3 ∧ Tn (fl h r []) (fl h r E3) w3 wr ∧ Hv ([] ++ (Y.take j).map (pr W1)) E3)
  case atStart => exact ⟨0, [], 0, rfl, Nat.zero_le _, rfl, by omega, HV3.out, Tn.refl HV3.out.lt, by simpa using HQ0.out⟩
  case round =>
    obtain ⟨j, E3, n3, rfl, hj, hg, hn3, hv, ht, hqk⟩ := hrel
    have HG3 := Lib.hid hg; have HV1 := Lib.hid hv; have HT1 := Lib.hid ht; have HQ1 := Lib.hid hqk
    clear hg hv ht hqk
    by_cases hlt3 : j < Y.length
    · have HS1 := Lib.hid (H4.out.fr HT1.out.fr (fun a ha => HAp.out a ha (fun e => by rw [e] at hlt3; simp at hlt3)))
      have hltL : j < Y.length := by omega
      obtain ⟨b3, o3, hA3, hb3, c3'⟩ := HS1.out.s.at hltL (by omega)
      have HA := Lib.hid (At.row c3' hltL)
      have HY3 := Lib.hid (HS1.out.ok _ (List.getElem_mem hltL))
      have HTk := Lib.hid (take_map (pr W1) Y j hltL)
      have hql3 := HQ1.out.len
      clear c3' hb3 HS1
      generalize Y[j] = z at *
      obtain rfl := hA3
      have q1 : (0 : Int) ≤ (j : Int) := by omega
      have q2 : decide ((j : Int) < ((Y.length : Nat) : Int)) = true := by simp; omega
      have hq3 : (Y.take j).length ≤ 100000 := by rw [List.length_take]; omega
      have zc0 : wr.cell? ⟨b3, o3 + j * 9, none⟩ = some (.int .i64 z.t) := HA.out 0 _ rfl
      have zc1 : wr.cell? ⟨b3, o3 + j * 9 + 1, none⟩ = some (.int .i64 z.i) := HA.out 1 _ rfl
      have zc2 : wr.cell? ⟨b3, o3 + j * 9 + 1 + 1, none⟩ = some (.int .i64 z.p) := HA.out 2 _ rfl
      have zc3 : wr.cell? ⟨b3, o3 + j * 9 + 1 + 1 + 1, none⟩ = some (.int .i64 z.r) := HA.out 3 _ rfl
      have zc4 : wr.cell? ⟨b3, o3 + j * 9 + 1 + 1 + 1 + 1, none⟩ = some (.string z.s) := HA.out 4 _ rfl
      have zc5 : wr.cell? ⟨b3, o3 + j * 9 + 1 + 1 + 1 + 1 + 1, none⟩ = some (.string z.o) := HA.out 5 _ rfl
      have zc6 : wr.cell? ⟨b3, o3 + j * 9 + 1 + 1 + 1 + 1 + 1 + 1, none⟩ = some (.int .i64 z.b) := HA.out 6 _ rfl
      have zc7 : wr.cell? ⟨b3, o3 + j * 9 + 1 + 1 + 1 + 1 + 1 + 1 + 1, none⟩ = some (.int .i64 z.d) := HA.out 7 _ rfl
      have zc8 : wr.cell? ⟨b3, o3 + j * 9 + 1 + 1 + 1 + 1 + 1 + 1 + 1 + 1, none⟩ = some (.bool z.g) := HA.out 8 _ rfl
      go_upto_region 5 with (fail)
      have hfa := Fr.alloc (fun _ => False) wr (.cells z.arr TSn)
      have HX := Lib.hid (At.box (Bk.new wr z.arr TSn))
      have HV2 := Lib.hid (HV1.out.fr hfa (fun _ _ h => h)); have HT2 := Lib.hid (HT1.out.trans (Tn.of_fr hfa HV1.out.lt))
      clear hfa HA HV1 HT1 zc0 zc1 zc2 zc3 zc4 zc5 zc6 zc7 zc8
      generalize (wr.alloc (.cells z.arr TSn)) = w14 at *
      generalize wr.heap.size = Bz at *
      have zc0 : w14.cell? ⟨Bz, 0, none⟩ = some (.int .i64 z.t) := HX.out 0 _ rfl
      have zc1 : w14.cell? ⟨Bz, 1, none⟩ = some (.int .i64 z.i) := HX.out 1 _ rfl
      have zc2 : w14.cell? ⟨Bz, 2, none⟩ = some (.int .i64 z.p) := HX.out 2 _ rfl
      have zc3 : w14.cell? ⟨Bz, 3, none⟩ = some (.int .i64 z.r) := HX.out 3 _ rfl
      have zc4 : w14.cell? ⟨Bz, 4, none⟩ = some (.string z.s) := HX.out 4 _ rfl
      have zc5 : w14.cell? ⟨Bz, 5, none⟩ = some (.string z.o) := HX.out 5 _ rfl
      have zc6 : w14.cell? ⟨Bz, 6, none⟩ = some (.int .i64 z.b) := HX.out 6 _ rfl
      have zc7 : w14.cell? ⟨Bz, 7, none⟩ = some (.int .i64 z.d) := HX.out 7 _ rfl
      have zc8 : w14.cell? ⟨Bz, 8, none⟩ = some (.bool z.g) := HX.out 8 _ rfl
      go_wp2_with fail
      refine (add h r W1 n3 E3 z w14 HV2.out HY3.out (by omega) (by have := hql3 (z.s, z.o); rw [List.length_append, List.length_map] at this; (try simp only [List.length_nil] at this); omega)).mono ?_
      rintro e w15 ⟨rfl, E4, n4, hn4, hv, hl1, hl2, ht⟩
      have HV5z := Lib.hid hv; have HT5z := Lib.hid (HT2.out.trans ht)
      have HQ5z : Hid (Hv ([] ++ (Y.take (j + 1)).map (pr W1)) E4) := by
        have h1 := HQ1.out.add (by rw [List.length_append, List.length_map]; (try simp only [List.length_nil]); omega) hl1 hl2
        rw [List.append_assoc] at h1
        rw [HTk.out]; exact h1
      clear hv ht hl1 hl2 HX HV2 HT2 HQ1 HTk zc0 zc1 zc2 zc3 zc4 zc5 zc6 zc7 zc8
      go_wp2_with fail
      go_roundg (Y.length - (j + 1))
      case rel => exact ⟨j + 1, E4, n4, by go_num, by omega, rfl, by omega, HV5z.out, HT5z.out, HQ5z.out⟩
      case measure => have := HG3.out; omega
    · obtain rfl : j = Y.length := by omega
      have q2 : decide (((Y.length : Nat) : Int) < ((Y.length : Nat) : Int)) = false := by simp
      have hq := HQ1.out
      rw [List.take_length, List.nil_append, hpm] at hq
      have HC := Lib.hid (CountsV s o wr HV1.out hq (by rw [List.length_map]; omega) HK.out X HXe.out m HM.out)
      have HBw : Hid (Below w.heap.size w wr) := HB3.out.trans (HT1.out.fr.below HB3.out.size (fun k hk hm => by rcases mem_fl.1 hm with rfl | rfl | ⟨e, he, -⟩ <;> first | omega | (simp at he)))
      clear hq HV1 HT1 HQ1
      go_wp2_with fail
      refine HC.out.mono ?_
      rintro e w5 ⟨A5, c5, rfl, hcl, hb⟩
      have HCl := Lib.hid hcl; have HB5 := Lib.hid (HBw.out.trans (hb.mono HBw.out.size))
      clear hcl hb HC
      go_wp2_with fail
      go_ret
      exact ⟨A5, c5, rfl, HCl.out, HB5.out⟩
end Ser
end Go.Proofs.YtgfjpnpbkkadpaaGreat
namespace Go.Proofs.YtgfjpnpbkkadpaaGreat
open Go.RowKit
namespace Ser
open KeyP PackP SetP SetW SetF BagP Bag Mk Delta
/-- The view in block h counts these pairs, in windows of W; it was made since w0, with at most m names; the blocks X are not its own. -/
def VS (w0 w : World) (h : Nat) (W : Int) (m : Nat) (q : List Pq) (X : List Nat) : Prop :=
  ∃ r n E, n ≤ m ∧ VwI w h r (max W 1) n E ∧ Hv q E ∧ Below w0.heap.size w0 w ∧ (∀ x ∈ fl h r E, w0.heap.size ≤ x) ∧ ∀ x ∈ X, ¬ x ∈ fl h r E ∧ x < w.heap.size
section
variable {w0 w w' : World} {h : Nat} {W : Int} {m : Nat} {q : List Pq} {X : List Nat}
theorem VS.bel (H : VS w0 w h W m q X) : Below w0.heap.size w0 w := by obtain ⟨r, n, E, h1, h2, h3, h4, h5, h6⟩ := H; exact h4
theorem VS.fr (H : VS w0 w h W m q X) (hf : Fr (fun _ => False) w w') : VS w0 w' h W m q X := by
  obtain ⟨r, n, E, h1, h2, h3, h4, h5, h6⟩ := H
  exact ⟨r, n, E, h1, h2.fr hf (fun _ _ h => h), h3, h4.trans (hf.below h4.size (fun _ _ h => h)), h5, fun x hx => ⟨(h6 x hx).1, Nat.lt_of_lt_of_le (h6 x hx).2 hf.size⟩⟩
theorem VS.below (H : VS w0 w h W m q X) (hb : Below w.heap.size w w') : VS w0 w' h W m q X := H.fr (Fr.of_below' hb _)
theorem VS.perm (H : VS w0 w h W m q X) {q' : List Pq} (hp : q.Perm q') : VS w0 w h W m q' X := by
  obtain ⟨r, n, E, h1, h2, h3, h4, h5, h6⟩ := H
  exact ⟨r, n, E, h1, h2, h3.perm hp, h4, h5, h6⟩
theorem VS.up (H : VS w0 w h W m q X) {m' : Nat} (hm : m ≤ m') : VS w0 w h W m' q X := by
  obtain ⟨r, n, E, h1, h2⟩ := H
  exact ⟨r, n, E, Nat.le_trans h1 hm, h2⟩
/-- Blocks of others turn. -/
theorem VS.oth (H : VS w0 w h W m q X) (hf : Fr (· ∈ X) w w') (hx : ∀ x ∈ X, w0.heap.size ≤ x) : VS w0 w' h W m q X := by
  obtain ⟨r, n, E, h1, h2, h3, h4, h5, h6⟩ := H
  exact ⟨r, n, E, h1, h2.fr hf (fun x hx' hxX => (h6 x hxX).1 hx'), h3, h4.trans (hf.below h4.size (fun k hk hkX => by have := hx k hkX; omega)), h5, fun x hx => ⟨(h6 x hx).1, Nat.lt_of_lt_of_le (h6 x hx).2 hf.size⟩⟩
/-- A new block of another. -/
theorem VS.more (H : VS w0 w h W m q X) {b : Nat} (hf : Fr (fun _ => False) w w') (h1 : w.heap.size ≤ b) (h2 : b < w'.heap.size) : VS w0 w' h W m q (b :: X) := by
  obtain ⟨r, n, E, k1, k2, k3, k4, k5, k6⟩ := H
  refine ⟨r, n, E, k1, k2.fr hf (fun _ _ h => h), k3, k4.trans (hf.below k4.size (fun _ _ h => h)), k5, fun x hx => ?_⟩
  rcases List.mem_cons.1 hx with rfl | hx
  · exact ⟨fun hm => by have := k2.lt _ hm; omega, h2⟩
  · exact ⟨(k6 x hx).1, Nat.lt_of_lt_of_le (k6 x hx).2 hf.size⟩
theorem NewV (W : Int) (w0 w : World) (hb0 : Below w0.heap.size w0 w) (X : List Nat) (hX : ∀ x ∈ X, x < w.heap.size) : Calls Tryz.prog 14 #[.int .i64 W] w fun e w' => ∃ h, e = .returned (.pointer (some ⟨h, 0, none⟩)) ∧ VS w0 w' h W 0 [] X ∧ w.heap.size ≤ h ∧ Below w.heap.size w w' := by
  refine (New W w).mono ?_
  rintro e w' ⟨h, r, rfl, hv, hr, hh, hb⟩
  have hs := hb0.size
  refine ⟨h, rfl, ⟨r, 0, [], Nat.le_refl _, hv, Hv.nil, hb0.trans (hb.mono hs), fun x hx => ?_, fun x hx => ⟨fun hm => ?_, Nat.lt_of_lt_of_le (hX x hx) hb.size⟩⟩, hh, hb⟩
  · rcases mem_fl.1 hx with rfl | rfl | ⟨e, he, -⟩
    · omega
    · omega
    · simp at he
  · have := hX x hx
    rcases mem_fl.1 hm with rfl | rfl | ⟨e, he, -⟩
    · omega
    · omega
    · simp at he
/-- A delta's turn: the answer b, the pairs q2. -/
theorem ApplyT (h : Nat) (W : Int) (m : Nat) (q : List Pq) (X : List Nat) (d : Dl) (w0 w : World) (H : VS w0 w h W m q X) (hd : RdD w d) (lO : d.O.length ≤ 100000) (lI : d.I.length ≤ 100000) (lm : m ≤ 100000) (lq : q.length ≤ 100000)
    (b : Bool) (hb : (mays d.O && (mays d.I && outB q (d.O.map (pr W)))) = b) (q2 : List Pq) (h1 : b = true → ∀ qk, (qk ++ d.O.map (pr W)).Perm q → (qk ++ d.I.map (pr W)).Perm q2) (h2 : b = false → q2 = q) :
    Calls Tryz.prog 16 #[.pointer (some ⟨h, 0, none⟩), d.v] w fun e w' => e = .returned (.bool b) ∧ VS w0 w' h W (m + d.O.length + d.I.length) q2 X ∧ (∀ A c L, Ls w A c L → Ls w' A c L) ∧ Fr (fun x => w0.heap.size ≤ x ∧ ¬ x ∈ X) w w' := by
  obtain ⟨r, n, E, k1, k2, k3, k4, k5, k6⟩ := H
  have hlt := k2.lt
  refine (Apply h r (max W 1) n E q d w k2 k3 hd lO lI (by omega) lq).mono ?_
  rintro e w' ⟨E', n', q', b', rfl, ho⟩
  have hbb : b' = b := by rw [ho.hb, pr_max, hb]
  subst hbb
  have hq2 : q'.Perm q2 := by
    cases hbv : b' with
    | false => rw [ho.no hbv, h2 hbv]
    | true =>
      obtain ⟨qk, j1, rfl⟩ := ho.yes hbv
      rw [pr_max] at j1 ⊢
      exact h1 hbv qk j1
  have hfr : Fr (fun x => w0.heap.size ≤ x ∧ ¬ x ∈ X) w w' := ho.t.fr.mono (fun x hx hm => ⟨k5 x hm, fun hX => (k6 x hX).1 hm⟩)
  refine ⟨rfl, ⟨r, n', E', by have := ho.hn; omega, ho.v, ho.hq.perm hq2, k4.trans (hfr.below k4.size (fun k hk hm => by omega)), fun x hx => ?_, fun x hx => ⟨fun hm => ?_, Nat.lt_of_lt_of_le (k6 x hx).2 hfr.size⟩⟩, fun A c L hL => keepV hL ho.t.fr (k2.apart hL), hfr⟩
  · rcases (ho.t.sub x hx).1 with h3 | h3
    · exact k5 x h3
    · have := k4.size; omega
  · rcases (ho.t.sub x hm).1 with h3 | h3
    · exact (k6 x hx).1 h3
    · have := (k6 x hx).2; omega
theorem CountsT (s o : ByteArray) (H : VS w0 w h W m q X) (hl : q.length ≤ 1000000) (hk : okN (s, o)) (Y : List (Int × Int)) (hY : cts q (s, o) = Y) (n : Nat) (hn : Y.length = n) :
    Calls Tryz.prog 22 #[.pointer (some ⟨h, 0, none⟩), .string s, .string o] w fun e w' => ∃ A c, e = .returned (.slice A n c) ∧ Cl w' A c n Y ∧ Below w.heap.size w w' := by
  obtain ⟨r, n', E, h1, h2, h3, h4, h5, h6⟩ := H
  exact CountsV s o w h2 h3 hl hk Y hY n hn
theorem PeakT (s o : ByteArray) (H : VS w0 w h W m q X) (hl : q.length ≤ 1000000) (hk : okN (s, o)) (a c : Int) (hX : peakL (cts q (s, o)) = (a, c)) (b : Bool) (hb : decide (c > 0) = b) :
    Calls Tryz.prog 19 #[.pointer (some ⟨h, 0, none⟩), .string s, .string o] w fun e w' => e = .returned (.tuple #[.agg #[.int .i64 a, .int .i64 c], .bool b]) ∧ Below w.heap.size w w' := by
  obtain ⟨r, n', E, h1, h2, h3, h4, h5, h6⟩ := H
  exact PeakV s o w h2 h3 hl hk a c hX b hb
theorem Ls_pre {A : Option Addr} {c : Nat} {L : List Sn} (hL : Ls w A c L) (k : Nat) (hk : k ≤ L.length) : Ls w A c (L.take k) := by
  obtain ⟨⟨h1, h2, h3, h4, h5⟩, h6⟩ := hL
  have hsub : ∀ (i : Nat) (u : Value), ((L.take k).flatMap scs)[i]? = some u → (L.flatMap scs)[i]? = some u := by
    intro i u hu
    have e : L.flatMap scs = (L.take k).flatMap scs ++ (L.drop k).flatMap scs := by rw [← List.flatMap_append, List.take_append_drop]
    rw [e, List.getElem?_append_left (List.getElem?_eq_some_iff.1 hu).1]; exact hu
  refine ⟨⟨flat_length scs_len _, by rw [List.length_take]; omega, h3, h4, fun hne => ?_⟩, fun x hx => h6 x (List.take_subset _ _ hx)⟩
  obtain ⟨b, o, e, hc⟩ := h5 (fun e => hne (by
    rcases L with _ | ⟨y, L⟩
    · simp
    · simp [scs] at e))
  exact ⟨b, o, e, fun i u hu => hc i u (hsub i u hu)⟩
end
end Ser
end Go.Proofs.YtgfjpnpbkkadpaaGreat
namespace Go.Proofs.YtgfjpnpbkkadpaaGreat
open Go.RowKit
namespace Ser
open KeyP PackP SetP SetW SetF BagP Name ClsW
theorem mays_ok {L : List Sn} (h : ∀ x ∈ L, mayB x = true) : mays L = true := by
  unfold mays
  rw [Bool.not_eq_true', List.any_eq_false]
  intro x hx
  unfold mayN
  rw [h x hx]; simp
theorem spn_okL (L : List Sn) : PackP.Ok (spn L) := (setOf_ok L).filter _
theorem wout_perm (A B : List Sn) : (A.filter (fun x => decide (x ∈ B)) ++ wout B A).Perm A := List.filter_append_perm (fun x => decide (x ∈ B)) A
theorem both_perm {A B : List Sn} (hA : Srs A) (hB : Srs B) : (A.filter (fun x => decide (x ∈ B))).Perm (B.filter (fun x => decide (x ∈ A))) := by
  refine (List.perm_ext_iff_of_nodup ((srs_nodup hA).filter _) ((srs_nodup hB).filter _)).2 (fun x => ?_)
  simp [List.mem_filter, and_comm]
theorem bet_out (A B : List Sn) (W : Int) : outB (A.map (pr W)) ((wout B A).map (pr W)) = true := by
  refine outB_yes (qk := (A.filter (fun x => decide (x ∈ B))).map (pr W)) ?_
  rw [← List.map_append]; exact (wout_perm A B).map _
theorem bet_in {A B : List Sn} (hA : Srs A) (hB : Srs B) {W : Int} {qk : List Pq} (h : (qk ++ (wout B A).map (pr W)).Perm (A.map (pr W))) : (qk ++ (wout A B).map (pr W)).Perm (B.map (pr W)) := by
  have h1 : (qk ++ (wout B A).map (pr W)).Perm ((A.filter (fun x => decide (x ∈ B))).map (pr W) ++ (wout B A).map (pr W)) := h.trans (by rw [← List.map_append]; exact ((wout_perm A B).map _).symm)
  have h2 := (List.perm_append_right_iff _).1 h1
  refine ((h2.trans ((both_perm hA hB).map _)).append_right _).trans ?_
  rw [← List.map_append]; exact (wout_perm B A).map _
theorem sumL_app (a b : List (Int × Int)) : sumL (a ++ b) = sumL a + sumL b := by
  induction a with
  | nil => simp [sumL]
  | cons p t ih => simp only [List.cons_append, sumL]; rw [ih]; omega
theorem sumL_nn {a : List (Int × Int)} (h : ∀ p ∈ a, 1 ≤ p.2) : 0 ≤ sumL a := by
  induction a with
  | nil => simp [sumL]
  | cons p t ih => have h1 := h p (by simp); have h2 := ih (fun q hq => h q (by simp [hq])); simp only [sumL]; omega
theorem sumL_take {a : List (Int × Int)} {k : Nat} (hk : k < a.length) : sumL (a.take (k + 1)) = sumL (a.take k) + a[k].2 := by
  rw [List.take_succ_eq_append_getElem hk, sumL_app]; simp [sumL]
theorem sumL_pre {a : List (Int × Int)} (h : ∀ p ∈ a, 1 ≤ p.2) (k : Nat) : 0 ≤ sumL (a.take k) ∧ sumL (a.take k) ≤ sumL a := by
  have h1 := sumL_nn (a := a.take k) (fun p hp => h p (List.take_subset _ _ hp))
  have h2 := sumL_nn (a := a.drop k) (fun p hp => h p (List.drop_subset _ _ hp))
  have h3 := sumL_app (a.take k) (a.drop k)
  rw [List.take_append_drop] at h3
  omega
/-- How many records are of a name. -/
def nm (L : List Sn) (s o : ByteArray) : Nat := (L.filter (fun x => decide (x.s = s) && decide (x.o = o))).length
theorem nm_take {L : List Sn} {k : Nat} (hk : k < L.length) (s o : ByteArray) : nm (L.take (k + 1)) s o = nm (L.take k) s o + if decide (L[k].s = s) && decide (L[k].o = o) then 1 else 0 := by
  unfold nm
  rw [List.take_succ_eq_append_getElem hk, List.filter_append, List.length_append, List.filter_cons]
  cases decide (L[k].s = s) && decide (L[k].o = o) <;> simp
theorem nm_le (L : List Sn) (s o : ByteArray) (k : Nat) : nm (L.take k) s o ≤ nm L s o := ((List.take_sublist k L).filter _).length_le
theorem nm_len (L : List Sn) (s o : ByteArray) : nm L s o ≤ L.length := List.length_filter_le _ _
theorem sl_nm (L : List Sn) (W : Int) (s o : ByteArray) : (sl (L.map (pr W)) (s, o)).length = nm L s o := by
  unfold sl nm
  rw [List.length_map, List.filter_map, List.length_map]
  congr 2
  funext x
  show decide ((x.s, x.o) = (s, o)) = _
  by_cases h1 : x.s = s <;> by_cases h2 : x.o = o <;> simp [h1, h2]
theorem cts_bg (q : List Pq) (hl : q.length ≤ 1000000) (k : Nm) : Bg (sl q k) (cts q k) := bg_of _ (Nat.le_trans (sl_len q k) hl)
theorem cts_sum (L : List Sn) (W : Int) (hl : L.length ≤ 1000000) (s o : ByteArray) : sumL (cts (L.map (pr W)) (s, o)) = (nm L s o : Int) := by
  rw [(cts_bg _ (by rw [List.length_map]; exact hl) _).sum, sl_nm]
theorem cts_pos (L : List Sn) (W : Int) (hl : L.length ≤ 1000000) (s o : ByteArray) : ∀ p ∈ cts (L.map (pr W)) (s, o), 1 ≤ p.2 := fun p hp => by
  have := (cts_bg (L.map (pr W)) (by rw [List.length_map]; exact hl) (s, o)).ok.pos p hp
  omega
end Ser
end Go.Proofs.YtgfjpnpbkkadpaaGreat
