/- Quotas: the walks of Drop and Add. -/
import Derived.Test.YtolpdgaomlhgdaaQuota
namespace Go.Proofs.Ytolpdgaomlhgdaa
open Go.RowKit
namespace Quota
open BagP QuotaP

theorem sp_cells {w wr : World} {A : Option Addr} {c : Nat} {xs : List Sp} {k : Nat} {b o : Nat} (hA : A = some ⟨b, o, none⟩) (hk : k < xs.length) (hc : ∀ j u, (xs.flatMap Sp.cs)[j]? = some u → w.cell? ⟨b, o + j, none⟩ = some u) (hw : ∀ j, wr.cell? ⟨b, j, none⟩ = w.cell? ⟨b, j, none⟩) :
    wr.cell? ⟨b, o + k * 9, none⟩ = some (.int .i64 xs[k].t) ∧ wr.cell? ⟨b, o + k * 9 + 1, none⟩ = some (.int .i64 xs[k].i) ∧ wr.cell? ⟨b, o + k * 9 + 1 + 1, none⟩ = some (.int .i64 xs[k].p) ∧ wr.cell? ⟨b, o + k * 9 + 1 + 1 + 1, none⟩ = some (.int .i64 xs[k].r) ∧
    wr.cell? ⟨b, o + k * 9 + 1 + 1 + 1 + 1, none⟩ = some (.string xs[k].s) ∧ wr.cell? ⟨b, o + k * 9 + 1 + 1 + 1 + 1 + 1, none⟩ = some (.string xs[k].o) ∧ wr.cell? ⟨b, o + k * 9 + 1 + 1 + 1 + 1 + 1 + 1, none⟩ = some (.int .i64 xs[k].b) ∧ wr.cell? ⟨b, o + k * 9 + 1 + 1 + 1 + 1 + 1 + 1 + 1, none⟩ = some (.int .i64 xs[k].d) ∧ wr.cell? ⟨b, o + k * 9 + 1 + 1 + 1 + 1 + 1 + 1 + 1 + 1, none⟩ = some (.bool xs[k].g) := by
  have key : ∀ j u, (hj : j < 9) → xs[k].cs[j]? = some u → wr.cell? ⟨b, o + (k * 9 + j), none⟩ = some u := fun j u hj hu => by
    rw [hw]; exact hc _ u (by rw [flat_at Sp.cs_len hk hj]; exact hu)
  refine ⟨key 0 _ (by omega) rfl, key 1 _ (by omega) rfl, key 2 _ (by omega) rfl, key 3 _ (by omega) rfl, key 4 _ (by omega) rfl, key 5 _ (by omega) rfl, key 6 _ (by omega) rfl, key 7 _ (by omega) rfl, key 8 _ (by omega) rfl⟩

def DropPost (B r : Nat) (all tr : Int) (ts : List Int) (L : List (Int × Int)) (w : World) (e : Ending) (w' : World) : Prop := e = .returned (.tuple #[]) ∧ QB w' B r all tr (dropM ts L) ∧ Fr (fun k => k = B ∨ k = r) w w'
theorem del_ins (t v : Int) (M : List (Int × Int)) : delL t (insL t v M) = delL t M := by
  induction M with
  | nil => simp [insL, delL_cons, sameK_refl, delL]
  | cons p m ih =>
    obtain ⟨a, b⟩ := p
    rw [insL]
    by_cases h1 : Ord.lt t a = true
    · rw [if_pos h1, delL_cons, if_pos (sameK_refl _)]
    · rw [if_neg h1]
      by_cases h2 : Ord.lt a t = true
      · rw [if_pos h2, delL_cons, delL_cons, ih]
      · have e := Ord.tri a t (by simpa using h2) (by simpa using h1); subst e
        rw [if_neg h2, delL_cons, delL_cons, if_pos (sameK_refl _), if_pos (sameK_refl _)]
theorem dropM_snoc (l : List Int) (t : Int) (L : List (Int × Int)) : dropM (l ++ [t]) L = dropO t (dropM l L) := by simp [dropM]
theorem addM_snoc (l : List Int) (t : Int) (L : List (Int × Int)) : addM (l ++ [t]) L = addO t (addM l L) := by simp [addM]

set_option maxRecDepth 100000 in
set_option maxHeartbeats 1000000 in
theorem Drop (B r : Nat) (all tr : Int) (A : Option Addr) (c : Nat) (xs : List Sp) (L : List (Int × Int)) (w : World) (h : QB w B r all tr L) (hS : Sl w 9 A xs.length c (xs.flatMap Sp.cs)) (hA : xs ≠ [] → ∀ a, A = some a → a.block ≠ B ∧ a.block ≠ r ∧ a.block < w.heap.size) (hwf : ∀ x ∈ xs, wfI x.t) :
    Calls Try.prog 20 #[.pointer (some ⟨B, 0, none⟩), .slice A xs.length c] w (DropPost B r all tr (xs.map (·.t)) L w) := by
  have hlen : xs.length ≤ 9223372036854775807 := by have := hS.2.1; have := hS.2.2.1; unfold maxLen at this; omega
  have HS := Lib.hid hS; have HA := Lib.hid hA; have HWf := Lib.hid hwf; have H0 := Lib.hid h
  clear hS hA hwf h
  go_enter Try.func20, Try.ntmps20
  go_wp2_with fail
  go_loopg [5, 8] xs.length (fun gk _ i wr => ∃ k : Nat, i = .int .i64 k ∧ k ≤ xs.length ∧ gk = xs.length - k ∧ QB wr B r all tr (dropM ((xs.map (·.t)).take k) L) ∧ Fr (fun k => k = B ∨ k = r) w wr)
  case atStart => exact ⟨0, rfl, Nat.zero_le _, rfl, H0.out, Fr.refl _ _⟩
  case round =>
    obtain ⟨k, rfl, hk, hg, hq, hfr⟩ := hrel
    have HG := Lib.hid hg; have HQ := Lib.hid hq; have HFr := Lib.hid hfr
    clear hg hq hfr
    by_cases hlt : k < xs.length
    · obtain ⟨b1, o1, rfl, hb1, hc1⟩ := HS.out.at hlt (by omega)
      have hne := HA.out (by rintro rfl; simp at hlt) _ rfl
      obtain ⟨d0, d1, d2, d3, d4, d5, d6, d7, d8⟩ := sp_cells (w := w) (wr := wr) (c := c) rfl hlt hc1 (fun j => World.cell?_of_block (w := w) (a := ⟨b1, j, none⟩) (HFr.out.block b1 hb1 (by rintro (e | e); exact hne.1 e; exact hne.2.1 e)))
      have HT : Hid (dropM ((xs.map (·.t)).take (k + 1)) L = dropO xs[k].t (dropM ((xs.map (·.t)).take k) L)) := by
        show _ = _
        rw [List.take_succ_eq_append_getElem (by simpa using hlt), dropM_snoc]; simp
      have hwx := HWf.out _ (List.getElem_mem hlt)
      generalize dropM ((xs.map (·.t)).take k) L = M at *
      generalize xs[k] = x at *
      obtain ⟨t, i, p, rv, s, o, b, d, g⟩ := x
      dsimp only at d0 d1 d2 d3 d4 d5 d6 d7 d8 hwx HT
      have H1 : Hid (QB (wr.alloc (.cells #[.int .i64 t, .int .i64 i, .int .i64 p, .int .i64 rv, .string s, .string o, .int .i64 b, .int .i64 d, .bool g] TSp)) B r all tr M) := HQ.out.fr (Fr.alloc (fun _ => False) wr _) (fun h => h) (fun h => h)
      have HBx := Lib.hid (Bk.new wr #[.int .i64 t, .int .i64 i, .int .i64 p, .int .i64 rv, .string s, .string o, .int .i64 b, .int .i64 d, .bool g] TSp)
      have HF1 := Lib.hid (HFr.out.trans (Fr.alloc (fun k => k = B ∨ k = r) wr (.cells #[.int .i64 t, .int .i64 i, .int .i64 p, .int .i64 rv, .string s, .string o, .int .i64 b, .int .i64 d, .bool g] TSp)) (fun _ _ h => h) (fun _ _ h => h))
      have HOf := Lib.hid (Of B r all tr t M _ H1.out hwx)
      have hBlt := lt_of_heap HQ.out.blk
      have hrlt := HQ.out.gm.lt
      have hcnt := HQ.out.cs.pos.cnt t
      have hmost := HQ.out.most
      have hls := len_sum HQ.out.cs.pos
      clear hc1 hne
      by_cases hz : cnt t M = 0
      · have q1 : (cnt t M == 0) = true := by simp [hz]
        have HE := Lib.hid (show dropO t M = M by simp [dropO, hz])
        clear hz
        generalize cnt t M = n at *
        go_wp2_with fail
        refine HOf.out.mono ?_
        rintro e w2 ⟨rfl, rfl⟩
        go_wp2_with fail
        go_roundg (xs.length - (k + 1))
        case rel => exact ⟨k + 1, by go_num, by omega, rfl, by rw [HT.out, HE.out]; exact H1.out, HF1.out⟩
        case measure => have := HG.out; omega
      · have q1 : (cnt t M == 0) = false := by simp [hz]
        go_wp2_with fail
        refine HOf.out.mono ?_
        rintro e w2 ⟨rfl, rfl⟩
        have H2 := H1.out
        have HBx2 : Hid (Bk (wr.alloc (.cells #[.int .i64 t, .int .i64 i, .int .i64 p, .int .i64 rv, .string s, .string o, .int .i64 b, .int .i64 d, .bool g] TSp)) wr.heap.size #[.int .i64 t, .int .i64 i, .int .i64 p, .int .i64 rv, .string s, .string o, .int .i64 b, .int .i64 d, .bool g] TSp) := HBx.out
        have HszW : Hid (wr.heap.size < (wr.alloc (.cells #[.int .i64 t, .int .i64 i, .int .i64 p, .int .i64 rv, .string s, .string o, .int .i64 b, .int .i64 d, .bool g] TSp)).heap.size) := by show _ < _; simp
        generalize (wr.alloc (.cells #[.int .i64 t, .int .i64 i, .int .i64 p, .int .i64 rv, .string s, .string o, .int .i64 b, .int .i64 d, .bool g] TSp)) = W at *
        have c2 : W.cell? ⟨B, 2, none⟩ = some (.int .i64 (sumL M)) := H2.blk.cell 2
        have f2 := H2.blk.free 2
        have hrB : r ≠ B := fun e => H2.ne e.symm
        have f3 := H2.blk.tn 2 (.int .i64 (sumL M - 1))
        have hb3 : Bk (W.setCell ⟨B, 2, none⟩ (.int .i64 (sumL M - 1))) B #[.int .i64 all, .int .i64 tr, .int .i64 (sumL M - 1), .map (some r)] TQ := H2.blk.set 2 (.int .i64 (sumL M - 1))
        have hgm4 : GM (W.setCell ⟨B, 2, none⟩ (.int .i64 (sumL M - 1))).drew r M := (show GM (W.setCell ⟨B, 2, none⟩ (.int .i64 (sumL M - 1))) r M from H2.gm.fr f3.fr (fun b hb h => by simp at hb h; exact hrB (hb ▸ h)))
        have hbx4 : Bk (W.setCell ⟨B, 2, none⟩ (.int .i64 (sumL M - 1))).drew wr.heap.size #[.int .i64 t, .int .i64 i, .int .i64 p, .int .i64 rv, .string s, .string o, .int .i64 b, .int .i64 d, .bool g] TSp := (show Bk (W.setCell ⟨B, 2, none⟩ (.int .i64 (sumL M - 1))) wr.heap.size _ TSp from HBx2.out.fr f3.fr (fun b hb h => by simp at hb h; omega))
        have hlk := hgm4.look uM hwx
        rw [show (getL t M).getD 0 = cnt t M from rfl] at hlk
        obtain ⟨w5, hup, hgm5, hf5⟩ := hgm4.upd uM hwx (wf_small (n := cnt t M - 1) (by omega) (by omega)) (by omega)
        have hb5 : Bk w5 B #[.int .i64 all, .int .i64 tr, .int .i64 (sumL M - 1), .map (some r)] TQ := (show Bk (W.setCell ⟨B, 2, none⟩ (.int .i64 (sumL M - 1))).drew B _ TQ from hb3).fr hf5 (fun b hb e => by simp at hb; exact hrB (e ▸ hb))
        have hbx5 := hbx4.fr hf5 (fun b hb e => by simp at hb; omega)
        have c3 : (W.setCell ⟨B, 2, none⟩ (.int .i64 (sumL M - 1))).drew.cell? ⟨B, 3, none⟩ = some (.map (some r)) := hb3.cell 3
        have cx : (W.setCell ⟨B, 2, none⟩ (.int .i64 (sumL M - 1))).drew.cell? ⟨wr.heap.size, 0, none⟩ = some (.int .i64 t) := hbx4.cell 0
        have HF5 := Lib.hid (((HF1.out.trans f3.fr (T := fun k => k = B ∨ k = r) (fun _ _ h => h) (fun _ _ h => .inl (by simpa using h))).trans (Fr.drew (fun _ => False) _) (T := fun k => k = B ∨ k = r) (fun _ _ h => h) (fun _ _ h => h.elim)).trans hf5 (T := fun k => k = B ∨ k = r) (fun _ _ h => h) (fun _ _ h => .inr h))
        have HSum := Lib.hid (sum_drop H2.cs t); have HCd := Lib.hid (H2.cs.drop t)
        have HB5 := Lib.hid hb5; have HG5 := Lib.hid hgm5; have HUp := Lib.hid hup; have HLk := Lib.hid hlk; have HX5 := Lib.hid hbx5; have HNe := Lib.hid H2.ne
        have HGe : Hid ((getL t (insL t (cnt t M - 1) M)).getD 0 = cnt t M - 1) := by show _ = _; rw [getL_ins, if_pos (sameK_refl _)]; rfl
        have HDr : Hid (dropO t M = setL t (cnt t M - 1) M) := by show _ = _; unfold dropO; rw [if_neg hz]
        clear hb3 hgm4 hbx4 hlk hup hgm5 hf5 hb5 hbx5 f3 H2 H1 hz
        rw [if_neg (by simpa using q1)] at HSum
        generalize hsm : sumL M = sm at *
        generalize hcn : cnt t M = n at *
        have HSm := Lib.hid hsm; have HCn := Lib.hid hcn
        clear hsm hcn
        go_upto_region 5 with (fail)
        have hup := HUp.out
        have hlk := HLk.out
        have hwr : IntKind.i64.wrap (n - 1) = n - 1 := IntWalk.i64_in _ (by omega)
        refine wp_region_still_tail 8 (by kernel_rfl) (by kernel_rfl) ?_
        simp only [List.take_succ_cons, List.take_zero, List.drop_succ_cons, List.drop_zero]
        change wpStill _ _ (W.setCell ⟨B, 2, none⟩ (.int .i64 (sm - 1))).drew (fun a' => wpList _ _ _ _ a' (W.setCell ⟨B, 2, none⟩ (.int .i64 (sm - 1))).drew) _ _
        iterate 8 still_step
        refine wpStill_nil ?_
        go_upto_region 6 with (fail)
        clear hup hlk c3 cx c2 f2 hwr
        by_cases hn1 : n = 1
        · have q2 : (n - 1 == 0) = true := by simp [hn1]
          refine d6y (by kernel_rfl) _ _ B r wr.heap.size t (n - 1) _ w5 HG5.out (HB5.out.cell 3) (HX5.out.cell 0) (Lib.hid HGe.out.symm) hwx q2 rfl rfl rfl ?_
          rintro x w' hx rfl
          simp only [Eng.setAll, Act.put, List.setIfInBounds_toArray, List.set_cons_succ, List.set_cons_zero]
          rw [hx]
          clear hx
          have hgm6 : GM w5.drew.drew r (insL t (n - 1) M) := HG5.out
          obtain ⟨w7, hdl, hgm7, hf7⟩ := hgm6.del uM hwx 0
          have c3 : w5.drew.drew.cell? ⟨B, 3, none⟩ = some (.map (some r)) := HB5.out.cell 3
          have cx : w5.drew.drew.cell? ⟨wr.heap.size, 0, none⟩ = some (.int .i64 t) := HX5.out.cell 0
          have HG7 := Lib.hid hgm7; have HF7 := Lib.hid hf7; have HDl := Lib.hid hdl
          have HN1 := Lib.hid hn1
          clear hgm6 hgm7 hf7 hdl hn1
          go_upto_region 7 with (fail)
          have hdl := HDl.out
          refine wp_region_still_tail 6 (by kernel_rfl) (by kernel_rfl) ?_
          simp only [List.take_succ_cons, List.take_zero, List.drop_succ_cons, List.drop_zero]
          change wpStill _ _ w5.drew.drew (fun a' => wpList _ _ _ _ a' w5.drew.drew) _ _
          iterate 6 still_step
          refine wpStill_nil ?_
          go_wp2_with fail
          go_roundg (xs.length - (k + 1))
          case rel =>
            have hL : dropO t M = delL t M := by rw [HDr.out, HN1.out]; rfl
            refine ⟨k + 1, by go_num, by omega, rfl, ?_, ?_⟩
            · rw [HT.out]
              refine ⟨?_, ?_, HNe.out, HCd.out, by rw [HSum.out]; omega⟩
              · rw [HSum.out]
                exact (show Bk w5.drew.drew B _ TQ from HB5.out).fr HF7.out (fun b hb e => by simp at hb; exact hrB (e ▸ hb))
              · rw [hL, ← del_ins t (n - 1) M]; exact HG7.out
            · exact ((HF5.out.trans (Fr.drew (fun _ => False) _) (T := fun k => k = B ∨ k = r) (fun _ _ h => h) (fun _ _ h => h.elim)).trans (Fr.drew (fun _ => False) _) (T := fun k => k = B ∨ k = r) (fun _ _ h => h) (fun _ _ h => h.elim)).trans HF7.out (fun _ _ h => h) (fun _ _ h => .inr h)
          case measure => have := HG.out; omega
        · have q2 : (n - 1 == 0) = false := by simp; omega
          refine d6n (by kernel_rfl) _ _ B r wr.heap.size t (n - 1) _ w5 HG5.out (HB5.out.cell 3) (HX5.out.cell 0) (Lib.hid HGe.out.symm) hwx q2 rfl rfl rfl ?_
          rintro x w' hx rfl
          simp only [Eng.setAll, Act.put, List.setIfInBounds_toArray, List.set_cons_succ, List.set_cons_zero]
          rw [hx]
          clear hx
          have HN1 := Lib.hid hn1
          clear hn1
          go_wp2_with fail
          go_roundg (xs.length - (k + 1))
          case rel =>
            have hL : dropO t M = insL t (n - 1) M := by rw [HDr.out]; unfold setL; rw [if_neg (by have := HN1.out; omega)]
            refine ⟨k + 1, by go_num, by omega, rfl, ?_, ?_⟩
            · rw [HT.out]
              refine ⟨?_, ?_, HNe.out, HCd.out, by rw [HSum.out]; omega⟩
              · rw [HSum.out]; exact HB5.out
              · rw [hL]; exact HG5.out
            · exact HF5.out.trans (Fr.drew (fun _ => False) _) (fun _ _ h => h) (fun _ _ h => h.elim)
          case measure => have := HG.out; omega
    · obtain rfl : k = xs.length := by omega
      have HE : Hid ((xs.map (·.t)).take xs.length = xs.map (·.t)) := List.take_of_length_le (by simp)
      go_wp2_with fail
      go_end0
      exact ⟨rfl, by rw [← HE.out]; exact HQ.out, HFr.out⟩

def AddPost (B r : Nat) (all tr : Int) (ts : List Int) (L : List (Int × Int)) (w : World) (e : Ending) (w' : World) : Prop := e = .returned (.bool (okM all tr ts L)) ∧ QB w' B r all tr (addA all tr ts L) ∧ Fr (fun k => k = B ∨ k = r) w w'
theorem Add_none (A : Option Addr) (n c : Nat) (w : World) : Calls Try.prog 22 #[.pointer none, .slice A n c] w fun e w' => e = .returned (.bool ((n : Int) == 0)) ∧ w = w' := by
  go_enter Try.func22, Try.ntmps22
  go_wp2
  go_ret
  exact ⟨rfl, rfl⟩
set_option maxRecDepth 100000 in
set_option maxHeartbeats 1000000 in
theorem Add (B r : Nat) (all tr : Int) (A : Option Addr) (c : Nat) (xs : List Sp) (L : List (Int × Int)) (w : World) (h : QB w B r all tr L) (hS : Sl w 9 A xs.length c (xs.flatMap Sp.cs)) (hA : xs ≠ [] → ∀ a, A = some a → a.block ≠ B ∧ a.block ≠ r ∧ a.block < w.heap.size) (hwf : ∀ x ∈ xs, wfI x.t)
    (hm : sumL L + xs.length < 1000000) : Calls Try.prog 22 #[.pointer (some ⟨B, 0, none⟩), .slice A xs.length c] w (AddPost B r all tr (xs.map (·.t)) L w) := by
  have hlen : xs.length ≤ 9223372036854775807 := by have := hS.2.1; have := hS.2.2.1; unfold maxLen at this; omega
  have hcl : xs.length ≤ c ∧ c ≤ 9223372036854775807 := by have := hS.2.1; have := hS.2.2.1; unfold maxLen at this; omega
  have hs0 : 0 ≤ sumL L := (h.cs.pos.cnt 0).2.2
  have HS := Lib.hid hS; have HA := Lib.hid hA; have HWf := Lib.hid hwf; have H0 := Lib.hid h
  clear hS hA hwf h
  go_enter Try.func22, Try.ntmps22
  go_wp2_with fail
  go_loopg [5, 6, 14] xs.length (fun gk _ _ i wr => ∃ k : Nat, i = .int .i64 k ∧ k ≤ xs.length ∧ gk = xs.length - k ∧ okM all tr ((xs.map (·.t)).take k) L = true ∧ QB wr B r all tr (addM ((xs.map (·.t)).take k) L) ∧ Fr (fun k => k = B ∨ k = r) w wr)
  case atStart => exact ⟨0, rfl, Nat.zero_le _, rfl, rfl, H0.out, Fr.refl _ _⟩
  case round =>
    obtain ⟨k, rfl, hk, hg, hok, hq, hfr⟩ := hrel
    have HG := Lib.hid hg; have HQ := Lib.hid hq; have HFr := Lib.hid hfr; have HOk := Lib.hid hok
    clear hg hq hfr hok
    by_cases hlt : k < xs.length
    · obtain ⟨b1, o1, rfl, hb1, hc1⟩ := HS.out.at hlt (by omega)
      have hne := HA.out (by rintro rfl; simp at hlt) _ rfl
      have HBk := Lib.hid (HFr.out.block b1 hb1 (by rintro (e | e); exact hne.1 e; exact hne.2.1 e))
      obtain ⟨d0, d1, d2, d3, d4, d5, d6, d7, d8⟩ := sp_cells (w := w) (wr := wr) (c := c) rfl hlt hc1 (fun j => World.cell?_of_block (w := w) (a := ⟨b1, j, none⟩) HBk.out)
      have hsum : sumL (addM ((xs.map (·.t)).take k) L) < 1000000 := by
        rw [sum_addM _ H0.out.cs]; simp; omega
      have HD : Hid (xs.map (·.t) = (xs.map (·.t)).take k ++ xs[k].t :: (xs.map (·.t)).drop (k + 1)) := by
        show _ = _
        have := List.drop_eq_getElem_cons (l := xs.map (·.t)) (i := k) (by simpa using hlt)
        rw [List.getElem_map] at this
        rw [← this, List.take_append_drop]
      have HT : Hid (addM ((xs.map (·.t)).take (k + 1)) L = addO xs[k].t (addM ((xs.map (·.t)).take k) L) ∧ okM all tr ((xs.map (·.t)).take (k + 1)) L = (okM all tr ((xs.map (·.t)).take k) L && okO all tr xs[k].t (addM ((xs.map (·.t)).take k) L))) := by
        show _ ∧ _
        rw [List.take_succ_eq_append_getElem (by simpa using hlt), addM_snoc, okM_append]
        simp [okM]
      have hwx := HWf.out _ (List.getElem_mem hlt)
      have HBack := Lib.hid (dropM_addM ((xs.map (·.t)).take k) H0.out.cs)
      generalize hM : addM ((xs.map (·.t)).take k) L = M at *
      have HM := Lib.hid hM
      clear hM
      generalize xs[k] = x at *
      have HOne := fun W (hq : QB W B r all tr M) => Lib.hid (one B r all tr x M W hq hwx hsum)
      obtain ⟨t, i, p, rv, s, o, b, d, g⟩ := x
      dsimp only at d0 d1 d2 d3 d4 d5 d6 d7 d8 hwx HT HD HOne
      have H1 : Hid (QB (wr.alloc (.cells #[.int .i64 t, .int .i64 i, .int .i64 p, .int .i64 rv, .string s, .string o, .int .i64 b, .int .i64 d, .bool g] TSp)) B r all tr M) := HQ.out.fr (Fr.alloc (fun _ => False) wr _) (fun h => h) (fun h => h)
      have HF1 := Lib.hid (HFr.out.trans (Fr.alloc (fun k => k = B ∨ k = r) wr (.cells #[.int .i64 t, .int .i64 i, .int .i64 p, .int .i64 rv, .string s, .string o, .int .i64 b, .int .i64 d, .bool g] TSp)) (fun _ _ h => h) (fun _ _ h => h))
      have HO1 := HOne _ H1.out
      unfold OnePost oneL at HO1
      clear hc1 HOne
      cases hok : okO all tr t M with
      | true =>
        rw [hok, if_pos rfl] at HO1
        have HK := Lib.hid hok
        clear hok
        go_wp2_with fail
        refine HO1.out.mono ?_
        rintro e w2 ⟨rfl, hq2, hf2⟩
        have HQ2 := Lib.hid hq2; have HF2 := Lib.hid hf2
        clear hq2 hf2
        go_wp2_with fail
        go_roundg (xs.length - (k + 1))
        case rel => exact ⟨k + 1, by go_num, by omega, rfl, by rw [HT.out.2, HOk.out, HK.out]; rfl, by rw [HT.out.1]; exact HQ2.out, HF1.out.trans HF2.out (fun _ _ h => h) (fun _ _ h => h)⟩
        case measure => have := HG.out; omega
      | false =>
        rw [hok, if_neg (by simp)] at HO1
        have HK := Lib.hid hok
        clear hok
        go_wp2_with fail
        refine HO1.out.mono ?_
        rintro e w2 ⟨rfl, hq2, hf2⟩
        have hf02 := HF1.out.trans hf2 (T := fun k => k = B ∨ k = r) (fun _ _ h => h) (fun _ _ h => h)
        have hS2 : Sl w2 9 (some ⟨b1, o1, none⟩) (xs.take k).length c ((xs.take k).flatMap Sp.cs) := by
          have h1 := (HS.out.take (k := k) hk).fr hf02 (fun a ha => by cases ha; rintro (e | e); exact hne.1 e; exact hne.2.1 e)
          rw [flat_take Sp.cs_len] at h1
          rwa [List.length_take, Nat.min_eq_left hk]
        have HDr := Lib.hid (Drop B r all tr (some ⟨b1, o1, none⟩) c (xs.take k) M w2 hq2 hS2 (fun _ a ha => by cases ha; exact ⟨hne.1, hne.2.1, Nat.lt_of_lt_of_le hb1 hf02.size⟩) (fun x hx => HWf.out x (List.mem_of_mem_take hx)))
        unfold DropPost at HDr
        rw [List.length_take, Nat.min_eq_left hk, List.map_take, HBack.out] at HDr
        have HF2 := Lib.hid hf02
        have hkc : k ≤ c := by omega
        clear hq2 hf2 hf02 hS2
        go_wp2_with fail
        refine HDr.out.mono ?_
        rintro e w3 ⟨rfl, hq3, hf3⟩
        have HQ3 := Lib.hid hq3; have HF3 := Lib.hid hf3
        clear hq3 hf3
        go_wp2_with fail
        go_ret
        have hno : okM all tr (xs.map (·.t)) L = false := by
          rw [HD.out, okM_append, HM.out, okM, HK.out]; simp
        exact ⟨by rw [hno]; rfl, by unfold addA; rw [hno, if_neg (by simp)]; exact HQ3.out, HF2.out.trans HF3.out (fun _ _ h => h) (fun _ _ h => h)⟩
    · obtain rfl : k = xs.length := by omega
      have HE : Hid ((xs.map (·.t)).take xs.length = xs.map (·.t)) := List.take_of_length_le (by simp)
      go_wp2_with fail
      go_ret
      have hok : okM all tr (xs.map (·.t)) L = true := by rw [← HE.out]; exact HOk.out
      exact ⟨by rw [hok]; rfl, by unfold addA; rw [hok, if_pos rfl, ← HE.out]; exact HQ.out, HFr.out⟩
end Quota
end Go.Proofs.Ytolpdgaomlhgdaa
