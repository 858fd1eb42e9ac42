/- Layer 17's statements: QuotaHolds: for every input the answer is true. -/
import Derived.Test.YtolpdgaomlhgdaaLaw17
import Derived.Test.YtolpdgaomlhgdaaQuotaQ
import Derived.Deep.CutBlock
import Derived.Deep.DeepCutAuto
namespace Go.Proofs.Ytolpdgaomlhgdaa
open Go.RowKit
namespace Law17
open BagP QuotaP Quota
theorem Rd.sl {w w' : World} {a : Ac} (h : Rd w a) (hb : Below w.heap.size w w') : Sl w' 9 a.A a.L.length a.c (a.L.flatMap Sp.cs) := by
  by_cases hne : a.L.flatMap Sp.cs = []
  · obtain ⟨⟨h1, h2, h3, h4, -⟩, -⟩ := h
    exact ⟨h1, h2, h3, h4, fun h => absurd hne h⟩
  · exact h.1.below hb (h.1.lt hne)
theorem Rd.lt {w : World} {a : Ac} (h : Rd w a) (hne : a.L ≠ []) : ∀ ad, a.A = some ad → ad.block < w.heap.size := h.1.lt (fun e => by
  have := flat_length Sp.cs_len a.L
  rw [e] at this
  cases hl : a.L with
  | nil => exact hne hl
  | cons x t => rw [hl] at this; simp at this)
theorem AddH (w0 wr : World) (B r : Nat) (all tr : Int) (L : List (Int × Int)) (a : Ac) (H : QH w0.heap.size w0 wr B r all tr L) (hR : Rd w0 a) (hm : sumL L + a.L.length < 1000000) :
    Calls Try.prog 22 #[.pointer (some ⟨B, 0, none⟩), .slice a.A a.L.length a.c] wr fun e w' => e = .returned (.bool (okM all tr (a.L.map (·.t)) L)) ∧ QH w0.heap.size w0 w' B r all tr (addA all tr (a.L.map (·.t)) L) ∧ Fr (fun k => k = B ∨ k = r) wr w' := by
  refine (Add B r all tr _ _ a.L L _ H.q (hR.sl H.bel) (fun hne ad ha => ?_) hR.2 hm).mono ?_
  · have := hR.lt hne ad ha; have := H.hB; have := H.hr; have := H.le; omega
  · rintro e w' ⟨he, hq, hf⟩
    exact ⟨he, H.to hq hf, hf⟩
theorem DropH (w0 wr : World) (B r : Nat) (all tr : Int) (L : List (Int × Int)) (a : Ac) (H : QH w0.heap.size w0 wr B r all tr L) (hR : Rd w0 a) :
    Calls Try.prog 20 #[.pointer (some ⟨B, 0, none⟩), .slice a.A a.L.length a.c] wr fun e w' => e = .returned (.tuple #[]) ∧ QH w0.heap.size w0 w' B r all tr (dropM (a.L.map (·.t)) L) ∧ Fr (fun k => k = B ∨ k = r) wr w' := by
  refine (Drop B r all tr _ _ a.L L _ H.q (hR.sl H.bel) (fun hne ad ha => ?_) hR.2).mono ?_
  · have := hR.lt hne ad ha; have := H.hB; have := H.hr; have := H.le; omega
  · rintro e w' ⟨he, hq, hf⟩
    exact ⟨he, H.to hq hf, hf⟩
/-- A list of traces that was read, apart from the quota. -/
def Tr (w : World) (B r : Nat) (A : Option Addr) (c : Nat) (L : List (Int × Int)) : Prop := Sl w 1 A L.length c (ints (L.map (·.1))) ∧ ∀ a, A = some a → a.block ≠ B ∧ a.block ≠ r
theorem Tr.fr {S : Nat → Prop} {w w' : World} {B r : Nat} {A : Option Addr} {c : Nat} {L : List (Int × Int)} (h : Tr w B r A c L) (hf : Fr S w w') (hs : ∀ k, S k → k = B ∨ k = r) : Tr w' B r A c L :=
  ⟨h.1.fr hf (fun a ha hx => by have := h.2 a ha; have := hs _ hx; omega), h.2⟩
theorem TracesH (n0 : Nat) (w0 wr : World) (B r : Nat) (all tr : Int) (L : List (Int × Int)) (H : QH n0 w0 wr B r all tr L) :
    Calls Try.prog 27 #[.pointer (some ⟨B, 0, none⟩)] wr fun e w' => ∃ A c, e = .returned (.slice A L.length c) ∧ Tr w' B r A c L ∧ QH n0 w0 w' B r all tr L ∧ Fr (fun _ => False) wr w' := by
  refine (Traces B r all tr L wr H.q).mono ?_
  rintro e w' ⟨v, rfl, hown, hb⟩
  obtain ⟨A, c, rfl, hS, hA⟩ := Sl.of_own hown
  have hf : Fr (fun _ => False) wr w' := Fr.of_below' hb _
  refine ⟨A, c, rfl, ⟨?_, fun a ha => ?_⟩, H.fr hf, hf⟩
  · simpa [ints, Function.comp_def] using hS
  · have := (hA a ha).1; have := lt_of_heap H.q.blk; have := H.q.gm.lt; omega
theorem SameT (B r : Nat) (w : World) (A A' : Option Addr) (c c' : Nat) (L : List (Int × Int)) (h : Tr w B r A c L) (h' : Tr w B r A' c' L) :
    Calls Try.prog 26 #[.slice A L.length c, .slice A' L.length c'] w fun e w' => e = .returned (.bool true) ∧ Fr (fun _ => False) w w' := by
  have := SameInts' A A' c c' (L.map (·.1)) (L.map (·.1)) w L.length L.length (by simp) (by simp) (by simpa using h.1) (by simpa using h'.1)
  simpa using this
def HPost (w : World) (B r : Nat) (all tr : Int) (m : Int) (wr : World) : Prop := ∃ L, QH w.heap.size w wr B r all tr L ∧ Hd all tr L ∧ sumL L ≤ m
set_option maxRecDepth 100000 in
set_option maxHeartbeats 2000000 in
theorem holds (all tr : Int) (A0 : Option Addr) (c0 : Nat) (acts : List Ac) (w : World) (hS0 : Sl w 2 A0 acts.length c0 (acts.flatMap ac)) (hG : ∀ a ∈ acts, Rd w a) :
    Calls Try.prog 4 #[.int .i64 all, .int .i64 tr, .slice A0 acts.length c0] w fun e w' => e = .returned (.bool true) ∧ Below w.heap.size w w' := by
  have HFew := Lib.hid (Few A0 c0 acts w hS0 (fun a ha => by have := (hG a ha).1.2.1; have := (hG a ha).1.2.2.1; unfold maxLen at this; omega))
  by_cases hfew : few acts = false
  · rw [hfew] at HFew
    have HA := Lib.hid (awake w)
    clear hS0 hG hfew
    go_enter Try.func4, Try.ntmps4
    go_wp2_with fail
    refine HFew.out.mono ?_
    rintro e w1 ⟨rfl, rfl⟩
    go_wp2_with fail
    refine HA.out.mono ?_
    rintro e w1 ⟨rfl, hb⟩
    have HB := Lib.hid hb
    clear hb
    go_wp2_with fail
    go_ret
    exact ⟨rfl, HB.out⟩
  · have hfew : few acts = true := by simpa using hfew
    rw [hfew] at HFew
    have hl : acts.length ≤ 30 := by unfold few at hfew; simp at hfew; exact hfew.2
    have H12 : Hid (∀ a ∈ acts, a.L.length ≤ 12) := fun a ha => by
      unfold few at hfew; simp only [Bool.and_eq_true, List.all_eq_true, decide_eq_true_eq] at hfew
      rw [List.take_of_length_le hl] at hfew
      exact hfew.1 a ha
    have HL0 := Lib.hid hS0; have HGa := Lib.hid hG
    clear hS0 hfew hG
    go_enter Try.func4, Try.ntmps4
    go_wp2_with fail
    refine HFew.out.mono ?_
    rintro e w1 ⟨rfl, rfl⟩
    clear HFew
    go_wp2_with fail
    refine (New all tr w).mono ?_
    rintro e w1 ⟨F, rfl, ⟨r, hq, rfl⟩, hF, hb⟩
    have H1 : Hid (QH w.heap.size w w1 (w.heap.size + 1) r (max all 0) (max tr 0) []) := ⟨hq, by omega, (hF r (by simp)).1, hb, hb.size⟩
    generalize w.heap.size + 1 = B at *
    clear hq hF hb
    go_wp2_with fail
    go_loopg [8, 9, 10, 11, 12, 13] acts.length (fun gk i _ _ _ _ _ wr => ∃ j : Nat, i = .int .i64 j ∧ j ≤ acts.length ∧ gk = acts.length - j ∧ HPost w B r (max all 0) (max tr 0) (12 * j) wr)
    case atStart => exact ⟨0, rfl, Nat.zero_le _, rfl, [], H1.out, Hd.nil (by omega) (by omega), by simp [sumL]⟩
    case round =>
      clear H1
      obtain ⟨j, rfl, hj, hg, L, hq, hhd, hsm⟩ := hrel
      have HG := Lib.hid hg; have HQ := Lib.hid hq; have HH := Lib.hid hhd; have HSm := Lib.hid hsm
      clear hg hq hhd hsm
      by_cases hlt : j < acts.length
      · obtain ⟨b1, o1, rfl, hb1, hcs⟩ := HL0.out.at hlt (by omega)
        have HD : Hid (∀ w', Below w.heap.size w w' → w'.cell? ⟨b1, o1 + j * 2, none⟩ = some (.int .i64 acts[j].k) ∧ w'.cell? ⟨b1, o1 + j * 2 + 1, none⟩ = some (.slice acts[j].A acts[j].L.length acts[j].c)) := fun w' hb =>
          ⟨(hb.cell (p := ⟨b1, _, none⟩) hb1).trans (hcs (j * 2) _ (by rw [← Nat.add_zero (j * 2), flat_at ac_len hlt (by omega)]; rfl)), (hb.cell (p := ⟨b1, _, none⟩) hb1).trans (hcs (j * 2 + 1) _ (by rw [flat_at ac_len hlt (by omega)]; rfl))⟩
        have HR := Lib.hid (HGa.out _ (List.getElem_mem hlt))
        have HTw := Lib.hid (H12.out _ (List.getElem_mem hlt))
        clear hcs
        generalize acts[j] = y at *
        have HLen := Lib.hid (Len B r _ _ L wr HQ.out.q)
        have HTrc := Lib.hid (TracesH _ _ _ B r _ _ L HQ.out)
        go_wp2_with fail
        refine HLen.out.mono ?_
        rintro e w2 ⟨rfl, rfl⟩
        go_wp2_with fail
        refine HTrc.out.mono ?_
        rintro e w2 ⟨AT, cT, rfl, ht2, hq2, hf2⟩
        have HT2 := Lib.hid ht2; have HQ2 := Lib.hid hq2
        clear ht2 hq2 hf2 HLen HTrc
        obtain ⟨d0, d1⟩ := HD.out _ HQ2.out.bel
        go_upto_if 36 with (fail)
        go_cut [36] (fun _ wc => HPost w B r (max all 0) (max tr 0) (12 * (j + 1)) wc)
        case first =>
          by_cases hk : y.k = 2
          · have k1 : (y.k == 2) = true := by simp [hk]
            clear hk
            have HDr := Lib.hid (DropH w _ B r _ _ L y HQ2.out HR.out)
            go_wp2_with fail
            refine HDr.out.mono ?_
            rintro e w3 ⟨rfl, hq3, -⟩
            have H3 : Hid (HPost w B r (max all 0) (max tr 0) (12 * (j + 1)) w3) := ⟨_, hq3, HH.out.dropM HQ.out.q.cs _, by have := sum_dropM_le (y.L.map (·.t)) HQ.out.q.cs; have := HSm.out; omega⟩
            clear hq3
            go_wp2_with fail
            go_meet
            exact H3.out
          · have k1 : (y.k == 2) = false := by simp [hk]
            clear hk
            have HAd := Lib.hid (AddH w _ B r _ _ L y HQ2.out HR.out (by have := HSm.out; have := HTw.out; omega))
            cases hok : okM (max all 0) (max tr 0) (y.L.map (·.t)) L with
            | false =>
              have HE : Hid (addA (max all 0) (max tr 0) (y.L.map (·.t)) L = L) := by show _ = _; unfold addA; rw [hok]; rfl
              rw [hok, HE.out] at HAd
              clear hok HE
              go_wp2_with fail
              refine HAd.out.mono ?_
              rintro e w3 ⟨rfl, hq3, hf3⟩
              have HLen := Lib.hid (Len B r _ _ L w3 hq3.q)
              have HTrc := Lib.hid (TracesH _ _ _ B r _ _ L hq3)
              have HT3 := Lib.hid (HT2.out.fr hf3 (fun _ h => h))
              clear hq3 hf3 HAd HT2
              go_wp2_with fail
              refine HLen.out.mono ?_
              rintro e w4 ⟨rfl, rfl⟩
              go_wp2_with fail
              refine HTrc.out.mono ?_
              rintro e w4 ⟨A4, c4, rfl, ht4, hq4, hf4⟩
              have HSa := Lib.hid (SameT B r w4 A4 AT c4 cT L ht4 (HT3.out.fr hf4 (fun _ h => h.elim)))
              have HQ4 := Lib.hid hq4
              clear ht4 hq4 hf4 HLen HTrc HT3
              go_wp2_with fail
              refine HSa.out.mono ?_
              rintro e w5 ⟨rfl, hf5⟩
              have H3 : Hid (HPost w B r (max all 0) (max tr 0) (12 * (j + 1)) w5) := ⟨L, HQ4.out.fr hf5, HH.out, by have := HSm.out; omega⟩
              clear hf5
              go_wp2_with fail
              go_meet
              exact H3.out
            | true =>
              have HE : Hid (addA (max all 0) (max tr 0) (y.L.map (·.t)) L = addM (y.L.map (·.t)) L) := by show _ = _; unfold addA; rw [hok]; rfl
              rw [hok, HE.out] at HAd
              have HOk := Lib.hid hok
              clear hok
              go_wp2_with fail
              refine HAd.out.mono ?_
              rintro e w3 ⟨rfl, hq3, hf3⟩
              have HLen := Lib.hid (Len B r _ _ _ w3 hq3.q)
              rw [sum_addM _ HQ.out.q.cs, List.length_map] at HLen
              have HT3 := Lib.hid (HT2.out.fr hf3 (fun _ h => h))
              have HQ3 := Lib.hid hq3
              obtain ⟨d2, d3⟩ := HD.out _ hq3.bel
              clear hq3 hf3 HAd HT2 d0 d1
              have HLq : Hid (∀ m, Calls Try.prog 25 #[.pointer (some ⟨B, 0, none⟩)] (w3.drewN m) fun e w' => e = .returned (.int .i64 (sumL L + y.L.length)) ∧ w' = w3.drewN m) := fun m => by
                have := Len B r _ _ _ _ (HQ3.out.fr (Fr.drewN (fun _ => False) w3 m)).q
                rw [sum_addM _ HQ.out.q.cs, List.length_map] at this
                exact this.mono (fun _ _ h => ⟨h.1, h.2.symm⟩)
              have hs0 := (HQ.out.q.cs.pos.cnt 0).2.2
              have hs1 := HSm.out
              have hs2 := HTw.out
              have hw13 : IntKind.i64.wrap (sumL L + (y.L.length : Int)) = sumL L + y.L.length := IntWalk.i64_in _ (by omega)
              go_upto_region 13 with (fail)
              go_quiet (first | (go_at_call 25; refine Calls.quiet_of_same (HLq.out _)))
              have HQ4 := Lib.hid (HQ3.out.fr (Fr.drewN (fun _ => False) w3 nq)); have HT4 := Lib.hid (HT3.out.fr (Fr.drewN (fun _ => False) w3 nq) (fun _ h => h.elim))
              clear HQ3 HT3 HLen HLq d2 d3
              generalize w3.drewN nq = w4 at *
              obtain ⟨d2, d3⟩ := HD.out _ HQ4.out.bel
              have HDr := Lib.hid (DropH w w4 B r _ _ _ y HQ4.out HR.out)
              rw [dropM_addM _ HQ.out.q.cs] at HDr
              go_wp2_with fail
              refine HDr.out.mono ?_
              rintro e w5 ⟨rfl, hq5, hf5⟩
              have HLen := Lib.hid (Len B r _ _ L w5 hq5.q)
              have HTrc := Lib.hid (TracesH _ _ _ B r _ _ L hq5)
              have HT5 := Lib.hid (HT4.out.fr hf5 (fun _ h => h))
              clear hq5 hf5 HT4 HQ4 HDr d2 d3 hw13
              go_wp2_with fail
              refine HLen.out.mono ?_
              rintro e w6 ⟨rfl, rfl⟩
              go_wp2_with fail
              refine HTrc.out.mono ?_
              rintro e w6 ⟨A6, c6, rfl, ht6, hq6, hf6⟩
              have HSa := Lib.hid (SameT B r w6 A6 AT c6 cT L ht6 (HT5.out.fr hf6 (fun _ h => h.elim)))
              have HQ6 := Lib.hid hq6
              clear ht6 hq6 hf6 HLen HTrc HT5
              go_wp2_with fail
              refine HSa.out.mono ?_
              rintro e w7 ⟨rfl, hf7⟩
              have HQ7 := Lib.hid (HQ6.out.fr hf7)
              have HAd := Lib.hid (AddH w w7 B r _ _ L y HQ7.out HR.out (by omega))
              rw [HOk.out, HE.out] at HAd
              obtain ⟨d2, d3⟩ := HD.out _ HQ7.out.bel
              clear hf7 HQ6 HSa
              go_wp2_with fail
              refine HAd.out.mono ?_
              rintro e w8 ⟨rfl, hq8, -⟩
              have H3 : Hid (HPost w B r (max all 0) (max tr 0) (12 * (j + 1)) w8) := ⟨_, hq8, HH.out.addM HQ.out.q.cs _ HOk.out, by rw [sum_addM _ HQ.out.q.cs, List.length_map]; omega⟩
              clear hq8
              go_wp2_with fail
              go_meet
              exact H3.out
        case rest =>
          clear HQ2 HT2 HSm HH HQ HD HR HTw d0 d1
          obtain ⟨M, hq, hhd, hsm⟩ := hcut
          have HQ := Lib.hid hq; have HH := Lib.hid hhd; have HSm := Lib.hid hsm
          have HTrc := Lib.hid (TracesH _ _ _ B r _ _ M hq)
          clear hq hhd hsm
          go_wp2_with fail
          refine HTrc.out.mono ?_
          rintro e w2 ⟨AM, cM, rfl, ht2, hq2, -⟩
          have HT2 := Lib.hid ht2; have HQ2 := Lib.hid hq2
          have hMl := hq2.q.len
          clear ht2 hq2 HTrc HQ
          go_wp2_with fail
          go_loopg [11, 13] M.length (fun gk s k wq => ∃ kk : Nat, k = .int .i64 kk ∧ s = .int .i64 (sumL (M.take kk)) ∧ kk ≤ M.length ∧ gk = M.length - kk ∧ w2 = wq)
          case atStart => exact ⟨0, rfl, by simp [sumL], Nat.zero_le _, rfl, rfl⟩
          case round =>
            obtain ⟨kk, rfl, rfl, hkk, hg2, rfl⟩ := hrel
            have HG2 := Lib.hid hg2
            clear hg2
            by_cases hlk : kk < M.length
            · obtain ⟨b2, o2, rfl, hb2, hcs2⟩ := HT2.out.1.at hlk (by omega)
              have e0 : w2.cell? ⟨b2, o2 + kk, none⟩ = some (.int .i64 M[kk].1) := hcs2 kk _ (by simp [ints, hlk])
              have hwk : wfI M[kk].1 := (HQ2.out.q.gm.2.1 _ (List.getElem_mem hlk)).1
              have hst := sum_take HQ2.out.q.cs hlk
              have hHt := HH.out.2 M[kk].1
              have hHs := HH.out.1
              have hmost := HQ2.out.q.most
              have hle := sum_take_le HQ2.out.q.cs kk
              have hle1 := sum_take_le HQ2.out.q.cs (kk + 1)
              have HOf := Lib.hid (Of B r _ _ M[kk].1 M w2 HQ2.out.q hwk)
              generalize M[kk].1 = t at *
              generalize cnt t M = n at *
              rw [hst.1] at hle1
              have HS1 := Lib.hid hst.1
              have hn1 := hst.2
              clear hst hcs2 hwk
              generalize sumL (M.take kk) = s at *
              have htr : ¬ tr < 0 := by omega
              have t1 : decide (n < 1) = false := by simp; omega
              have t2 : decide (tr < n) = false := by simp; omega
              go_wp2_with fail
              refine HOf.out.mono ?_
              rintro e w3 ⟨rfl, rfl⟩
              go_wp2_with fail
              refine HOf.out.mono ?_
              rintro e w3 ⟨rfl, rfl⟩
              go_wp2_with fail
              refine HOf.out.mono ?_
              rintro e w3 ⟨rfl, rfl⟩
              go_wp2_with fail
              go_roundg (M.length - (kk + 1))
              case rel => exact ⟨kk + 1, by go_num, by rw [HS1.out], by omega, rfl, rfl⟩
              case measure => have := HG2.out; omega
            · obtain rfl : kk = M.length := by omega
              rw [List.take_length]
              have HLen := Lib.hid (Len B r _ _ M w2 HQ2.out.q)
              have hHs := HH.out.1
              have H3 : Hid (HPost w B r (max all 0) (max tr 0) (12 * (j + 1)) w2) := ⟨M, HQ2.out, HH.out, HSm.out⟩
              generalize sumL M = s at *
              by_cases hal : all < 0
              all_goals
                have t1 : decide ((if all < 0 then 0 else all) < s) = false := by split <;> simp <;> omega
                have t2 : decide (max all 0 < s) = false := by simp; omega
                go_wp2_with fail
                refine HLen.out.mono ?_
                rintro e w3 ⟨rfl, rfl⟩
                go_wp2_with fail
                go_roundg (acts.length - (j + 1))
                case rel => exact ⟨j + 1, by go_num, by omega, rfl, H3.out⟩
                case measure => have := HG.out; omega
      · obtain rfl : j = acts.length := by omega
        have HA := Lib.hid (awake wr)
        go_wp2_with fail
        refine HA.out.mono ?_
        rintro e w2 ⟨rfl, hb⟩
        have HB := Lib.hid (HQ.out.bel.trans (hb.mono HQ.out.le))
        clear hb
        go_wp2_with fail
        go_ret
        exact ⟨rfl, HB.out⟩
end Law17
end Go.Proofs.Ytolpdgaomlhgdaa
