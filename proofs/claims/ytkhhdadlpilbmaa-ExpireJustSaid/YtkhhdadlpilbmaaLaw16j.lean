/- Layer 16's statements: ExpireJust: for every input the answer is true. -/
import Derived.Test.YtkhhdadlpilbmaaLaw16a
namespace Go.Proofs.Ytkhhdadlpilbmaa
open Go.RowKit
namespace Law16
open KeyP ExpP Exp
attribute [local go_sem] Eng.ev Eng.getO_cons Eng.getO_nil
theorem IB.rel {w : World} {B : Nat} {M : List It} {F : List Nat} (h : IB w B M F) : Srt M ∧ (∀ p ∈ M, gd p) ∧ ∃ KL : List It, KL.Pairwise (fun p q => lt2 p q = true) ∧ (∀ p, p ∈ KL ↔ p ∈ M) := by
  obtain ⟨K, r1, r2, F1, F2, -, hr, -⟩ := h
  obtain ⟨KL, -, h1, h2⟩ := hr.items
  exact ⟨hr.m, hr.g, KL, h1, h2⟩
/-- What is told, of the items in order. -/
abbrev tk (t : Int) (KL : List It) : List ByteArray := (below t KL).map (·.1)
theorem TellK {B : Nat} {M KL : List It} {F : List Nat} {w : World} (h : IB w B M F) (h1 : KL.Pairwise (fun p q => lt2 p q = true)) (h2 : ∀ p, p ∈ KL ↔ p ∈ M) (sz : M.length ≤ 1000000) (t s : Int) (hs : s = t) :
    Calls Try.prog 42 #[.pointer (some ⟨B, 0, none⟩), .int .i64 t] w fun e w' => ∃ A c, e = .returned (.slice A (below s KL).length c) ∧ Sl w' 1 A (below s KL).length c (strs (tk s KL)) ∧ Fr (fun _ => False) w w' := by
  subst hs
  refine (Exp.Below_ B M F s w h sz).mono ?_
  rintro e w' ⟨KL', v, k1, k2, rfl, ho, hb⟩
  obtain rfl : KL' = KL := ord_ext k1 h1 (fun p => by rw [k2, h2])
  obtain ⟨A, c, rfl, hS, -⟩ := Sl.of_own ho
  exact ⟨A, c, rfl, hS, Fr.of_below' hb _⟩
theorem below_pre {lo hi : Int} (hlh : lo ≤ hi) : ∀ KL : List It, below lo KL = (below hi KL).take (below lo KL).length
  | [] => rfl
  | p :: t => by
    have ih := below_pre hlh t
    unfold below at ih ⊢
    rw [List.takeWhile_cons]
    by_cases h : p.2 < lo
    · rw [if_pos (by simpa using h), List.takeWhile_cons, if_pos (by simp; omega), List.length_cons, List.take_succ_cons, ← ih]
    · rw [if_neg (by simpa using h)]; rfl
theorem below_le {lo hi : Int} (hlh : lo ≤ hi) (KL : List It) : (below lo KL).length ≤ (below hi KL).length := by
  have h := congrArg List.length (below_pre hlh KL)
  rw [List.length_take] at h
  omega
theorem below_all (t : Int) (KL : List It) : (below t KL).length ≤ KL.length := (List.takeWhile_sublist _).length_le
theorem below_at {t : Int} {KL : List It} {k : Nat} (h : k < (below t KL).length) : (below t KL)[k] ∈ KL ∧ (below t KL)[k].2 < t := by
  have hm := List.getElem_mem h
  unfold below at hm ⊢
  exact ⟨(List.takeWhile_sublist _).mem hm, by simpa using List.all_eq_true.1 List.all_takeWhile _ hm⟩
theorem below_past {lo hi : Int} {KL : List It} (hp : KL.Pairwise (fun p q => lt2 p q = true)) {k : Nat} (h : k < (below hi KL).length) (hk : (below lo KL).length ≤ k) : ¬ (below hi KL)[k].2 < lo := by
  intro hx
  have hp2 := below_srt (time := hi) hp
  by_cases hlh : lo ≤ hi
  · have hlt : (below lo KL).length < (below hi KL).length := by omega
    have hall : ∀ i (h' : i < (below hi KL).length), i ≤ k → (below hi KL)[i].2 < lo := fun i h' hi => by
      rcases Nat.lt_or_eq_of_le hi with hi | rfl
      · have := lt2_end (List.pairwise_iff_getElem.1 hp2 i k h' h hi); omega
      · exact hx
    have hmem : (below hi KL)[(below lo KL).length] ∈ below lo KL := (below_mem hp _).2 ⟨(below_at hlt).1, hall _ hlt hk⟩
    obtain ⟨i, hi', he⟩ := List.getElem_of_mem hmem
    have e2 : (below lo KL)[i] = (below hi KL)[i] := by
      have e := below_pre hlh KL
      have : (below lo KL)[i]? = ((below hi KL).take (below lo KL).length)[i]? := by rw [← e]
      rw [List.getElem?_eq_getElem hi', List.getElem?_take_of_lt hi', List.getElem?_eq_getElem (by omega)] at this
      exact Option.some.inj this
    have hlt2 := List.pairwise_iff_getElem.1 hp2 i _ (by omega) hlt hi'
    rw [← he, e2, lt2_irr] at hlt2
    cases hlt2
  · have h1 := below_le (lo := hi) (hi := lo) (by omega) KL
    omega
set_option maxRecDepth 100000 in
theorem has_ (A : Option Addr) (c : Nat) (l : List ByteArray) (s : ByteArray) (w : World) (n : Nat) (hn : n = l.length) (hS : Sl w 1 A n c (strs l)) (hin : s ∈ l) :
    Calls Try.prog 44 #[.slice A n c, .string s] w fun e w' => e = .returned (.bool true) ∧ w = w' := by
  subst hn
  have HIn := Lib.hid hin
  clear hin
  have hlen : l.length ≤ 9223372036854775807 := by have := hS.2.1; have := hS.2.2.1; unfold maxLen at this; omega
  have HS := Lib.hid hS
  clear hS
  go_enter Try.func44, Try.ntmps44
  go_wp2_with fail
  go_loopg [5] l.length (fun gk i wr => ∃ k : Nat, i = .int .i64 k ∧ k ≤ l.length ∧ gk = l.length - k ∧ s ∉ l.take k ∧ w = wr)
  case atStart => exact ⟨0, rfl, Nat.zero_le _, rfl, by simp, rfl⟩
  case round =>
    obtain ⟨k, rfl, hk, hg, hno, rfl⟩ := hrel
    have HG := Lib.hid hg; have HNo := Lib.hid hno
    clear hg hno
    by_cases hlt : k < l.length
    · obtain ⟨b1, o1, rfl, hb1, c1⟩ := HS.out.at hlt (by omega)
      have d0 : w.cell? ⟨b1, o1 + k, none⟩ = some (.string l[k]) := c1 k _ (strs_at hlt)
      have HT := Lib.hid (List.take_succ_eq_append_getElem hlt)
      clear c1
      generalize l[k] = x at *
      by_cases hx : x = s
      · have q : (x.toList == s.toList) = true := by rw [hx]; simp
        clear hx
        go_wp2_with fail
        go_ret
        exact ⟨rfl, rfl⟩
      · have q : (x.toList == s.toList) = false := by
          have : x.toList ≠ s.toList := fun e => hx (str_ext e)
          simpa using this
        have HX : Hid (s ∉ l.take (k + 1)) := by
          show ¬ _
          rw [HT.out, List.mem_append]
          rintro (h | h)
          · exact HNo.out h
          · simp at h; exact hx h.symm
        clear hx
        go_wp2_with fail
        go_roundg (l.length - (k + 1))
        case rel => exact ⟨k + 1, by go_num, by omega, rfl, HX.out, rfl⟩
        case measure => have := HG.out; omega
    · obtain rfl : k = l.length := by omega
      have h := HNo.out
      rw [List.take_length] at h
      exact absurd HIn.out h
def putM (k : ByteArray) (v : Int) (M : List It) : List It := if k.size = 16 then insL k v M else M
theorem putM_len (k : ByteArray) (v : Int) (M : List It) : (putM k v M).length ≤ M.length + 1 := by
  unfold putM; split
  · exact insL_len' _ _ _
  · omega
/-- The index alone. -/
structure SJ (w0 w : World) (B : Nat) (M : List It) (F : List Nat) : Prop where
  zs : Zs w0.heap.size w0 w [F]
  i : IB w B M F
section
variable {w0 w w' : World} {B : Nat} {M M' : List It} {F F' : List Nat}
theorem SJ.fr (h : SJ w0 w B M F) (hf : Fr (fun _ => False) w w') : SJ w0 w' B M F := ⟨h.zs.fr hf, h.i.fr hf (fun _ _ h => h)⟩
theorem SJ.turn (h : SJ w0 w B M F) (hi : IB w' B M' F') (ht : Tn F F' w w') : SJ w0 w' B M' F' := ⟨h.zs.turn [] [] ht, hi⟩
theorem SJ.put (h : SJ w0 w B M F) (k : ByteArray) (v : Int) (sz : M.length < 1000000) (hv : wf64 v) : Calls Try.prog 36 #[.pointer (some ⟨B, 0, none⟩), .string k, .int .i64 v] w fun e w' => e = .returned (.tuple #[]) ∧ ∃ F', SJ w0 w' B (putM k v M) F' := by
  by_cases hk : k.size = 16
  · refine (Exp.Put B M F k v w h.i sz hk hv).mono ?_
    rintro e w' ⟨he, F', hi, ht⟩
    exact ⟨he, F', by unfold putM; rw [if_pos hk]; exact h.turn hi ht⟩
  · refine (Exp.Put_short _ k v w hk (.inr ⟨B, rfl⟩)).mono ?_
    rintro e w' ⟨he, rfl⟩
    exact ⟨he, F, by unfold putM; rw [if_neg hk]; exact h⟩
end
set_option maxRecDepth 100000 in
set_option maxHeartbeats 400000 in
theorem ej9 {ops : Array Oper} (hops : Eng.fnOps Try.f8 9 = ops) (a0 : Act) (Q : Exit → Act → World → Prop) (w0 w : World) (B : Nat) (M : List It) (F : List Nat) (b1 o1 len c j : Nat) (k : ByteArray) (v : Int) (hst : SJ w0 w B M F) (sz : M.length < 1000000) (hv : wf64 v) (hj : j < len) (hb : b1 < w0.heap.size) (e0 : w0.cell? ⟨b1, o1 + j * 3 + 1, none⟩ = some (.string k)) (e1 : w0.cell? ⟨b1, o1 + j * 3 + 1 + 1, none⟩ = some (.int .i64 v))
    (hn : a0.tmps.size = 155) (h_0 : a0.tmps.getD 0 undef = .slice (some ⟨b1, o1, none⟩) len c) (h_7 : a0.tmps.getD 7 undef = .pointer (some ⟨B, 0, none⟩)) (h_8 : a0.tmps.getD 8 undef = .int .i64 (j : Int))
    (hpost : ∀ (x : Nat → Value) (w' : World) (F' : List Nat), SJ w0 w' B (putM k v M) F' → Q .normal (Eng.setAll a0 [40, 41, 42, 43, 44, 45, 46, 47, 48, 49, 50] x) w') :
    (Code.region 9 ops true).wp Try.prog Q a0 w := by
  simp only [Eng.fnOps, Eng.regOps, Try.f8, Option.bind_some, Option.getD_some, Nat.reduceEqDiff, ↓reduceIte, Nat.reduceBEq] at hops
  subst hops
  have q1 : (0 : Int) ≤ (j : Int) := by omega
  have q2 : (j : Int) < (len : Int) := by omega
  have HSt := Lib.hid (hst.fr (Fr.drew _ _))
  have hSS : w.drew.cell? ⟨b1, o1 + j * 3 + 1, none⟩ = some (.string k) ∧ w.drew.cell? ⟨b1, o1 + j * 3 + 1 + 1, none⟩ = some (.int .i64 v) := ⟨(HSt.out.zs.bel.cell (p := ⟨b1, _, none⟩) hb).trans e0, (HSt.out.zs.bel.cell (p := ⟨b1, _, none⟩) hb).trans e1⟩
  refine Eng.regionN [(0, true), (1, true), (2, true), (3, true), (4, true), (5, true), (6, true), (7, true), (8, true), (9, true), (10, false)] (fun w' => w'.cell? ⟨b1, o1 + j * 3 + 1, none⟩ = some (.string k) ∧ w'.cell? ⟨b1, o1 + j * 3 + 1 + 1, none⟩ = some (.int .i64 v)) (by kernel_rfl) 155 hn (by kernel_rfl) rfl (by kernel_rfl) (hSS) (fun a b ha hb => ?_)
  subst ha
  have hb0 : b 0 = .slice (some ⟨b1, o1, none⟩) len c := (hb 0).symm.trans h_0
  have hb7 : b 7 = .pointer (some ⟨B, 0, none⟩) := (hb 7).symm.trans h_7
  have hb8 : b 8 = .int .i64 (j : Int) := (hb 8).symm.trans h_8
  clear hb h_0 h_7 h_8
  have HP := Lib.hid hpost; have HN := Lib.hid hn
  clear hpost hn
  refine Eng.Sch.take (v := ?_) rfl rfl (by decide) (by kernel_rfl) (fun w hw => ?_) ?_
  rotate_left
  · (try dsimp only at hw); go_simp; first | done | with_reducible rfl
  refine Eng.Sch.take (v := ?_) rfl rfl (by decide) (by kernel_rfl) (fun w hw => ?_) ?_
  rotate_left
  · (try dsimp only at hw); go_simp; first | done | with_reducible rfl
  refine Eng.Sch.take (v := ?_) rfl rfl (by decide) (by kernel_rfl) (fun w hw => ?_) ?_
  rotate_left
  · (try dsimp only at hw); go_simp; first | done | with_reducible rfl
  refine Eng.Sch.take (v := ?_) rfl rfl (by decide) (by kernel_rfl) (fun w hw => ?_) ?_
  rotate_left
  · (try dsimp only at hw); go_simp; first | done | with_reducible rfl
  refine Eng.Sch.take (v := ?_) rfl rfl (by decide) (by kernel_rfl) (fun w hw => ?_) ?_
  rotate_left
  · (try dsimp only at hw); go_simp; first | done | with_reducible rfl
  refine Eng.Sch.take (v := ?_) rfl rfl (by decide) (by kernel_rfl) (fun w hw => ?_) ?_
  rotate_left
  · (try dsimp only at hw); go_simp; first | done | with_reducible rfl
  refine Eng.Sch.take (v := ?_) rfl rfl (by decide) (by kernel_rfl) (fun w hw => ?_) ?_
  rotate_left
  · (try dsimp only at hw); go_simp; first | done | with_reducible rfl
  refine Eng.Sch.take (v := ?_) rfl rfl (by decide) (by kernel_rfl) (fun w hw => ?_) ?_
  rotate_left
  · (try dsimp only at hw); go_simp; first | done | with_reducible rfl
  refine Eng.Sch.take (v := ?_) rfl rfl (by decide) (by kernel_rfl) (fun w hw => ?_) ?_
  rotate_left
  · (try dsimp only at hw); go_simp; first | done | with_reducible rfl
  refine Eng.Sch.take (v := ?_) rfl rfl (by decide) (by kernel_rfl) (fun w hw => ?_) ?_
  rotate_left
  · (try dsimp only at hw); go_simp; first | done | with_reducible rfl
  refine Eng.Sch.call rfl rfl (by decide) (by kernel_rfl) ?_ (HSt.out.put k v sz hv) ?_
  · go_simp
  rintro e w2 ⟨rfl, F2, hT⟩
  have HSt1 := Lib.hid (hT)
  have hSS : w2.cell? ⟨b1, o1 + j * 3 + 1, none⟩ = some (.string k) ∧ w2.cell? ⟨b1, o1 + j * 3 + 1 + 1, none⟩ = some (.int .i64 v) := ⟨(HSt1.out.zs.bel.cell (p := ⟨b1, _, none⟩) hb).trans e0, (HSt1.out.zs.bel.cell (p := ⟨b1, _, none⟩) hb).trans e1⟩
  clear hT
  refine ⟨_, rfl, hSS, ?_⟩
  refine Eng.Sch.end_ [40, 41, 42, 43, 44, 45, 46, 47, 48, 49, 50] HN.out (by kernel_rfl) (by kernel_rfl) ?_
  exact HP.out _ _ _ HSt1.out

set_option maxRecDepth 100000 in
set_option maxHeartbeats 4000000 in
theorem just_lt (A0 : Option Addr) (c0 : Nat) (acts : List Ac) (ta tb : Int) (hab : ta < tb) (w : World) (hS0 : Sl w 3 A0 acts.length c0 (acts.flatMap ac)) (hG : ∀ a ∈ acts, a.key.size ≤ maxLen ∧ in64 a.e) :
    Calls Try.prog 8 #[.slice A0 acts.length c0, .int .i64 ta, .int .i64 tb] w fun e w' => e = .returned (.bool true) ∧ Below w.heap.size w w' := by
  have HFew := Lib.hid (Few A0 c0 acts w hS0 (fun a ha => by have := (hG a ha).1; unfold maxLen at this; omega))
  by_cases hfew : few acts = false
  · rw [hfew] at HFew
    have HA := Lib.hid (awake w)
    clear hfew hS0 hG
    go_enter Try.func8, Try.ntmps8
    go_wp2_with fail
    refine HFew.out.mono ?_
    rintro e w1 ⟨rfl, rfl⟩
    go_wp2_with fail
    refine HA.out.mono ?_
    rintro e w1 ⟨rfl, hb⟩
    have HB := Lib.hid hb
    clear hb
    go_wp2_with fail
    go_ret
    exact ⟨rfl, HB.out.below (Nat.le_refl _) (fun _ _ h => h)⟩
  · have hfew : few acts = true := by simpa using hfew
    rw [hfew] at HFew
    have hl : acts.length ≤ 60 := by unfold few at hfew; simp at hfew; exact hfew.2
    have HL0 := Lib.hid hS0; have HGa := Lib.hid hG
    have HS0 : Hid (SJ w (w.alloc (.cells (cellsX none 0 none 0) TX)) w.heap.size [] [w.heap.size]) := ⟨(Zs.start w).alloc _, IB.new w⟩
    clear hS0 hfew hG
    go_enter Try.func8, Try.ntmps8
    go_wp2_with fail
    refine HFew.out.mono ?_
    rintro e w1 ⟨rfl, rfl⟩
    clear HFew
    go_wp2_with fail
    generalize w.alloc (.cells (cellsX none 0 none 0) TX) = w3 at *
    generalize hB : w.heap.size = B at *
    have HBB := Lib.hid hB
    clear hB
    go_loopg [8] acts.length (fun gk i wr => ∃ (j : Nat) (M : List It) (F : List Nat), i = .int .i64 j ∧ j ≤ acts.length ∧ gk = acts.length - j ∧ SJ w wr B M F ∧ M.length ≤ j)
    case atStart => exact ⟨0, [], _, rfl, Nat.zero_le _, rfl, HS0.out, by simp⟩
    case round =>
      clear HS0
      obtain ⟨j, M, F, rfl, hj, hg, hst, hml⟩ := hrel
      have HG := Lib.hid hg; have HSt := Lib.hid hst; have HMl := Lib.hid hml
      clear hg hst hml
      by_cases hlt : j < acts.length
      · obtain ⟨b1, o1, rfl, hb1, hcs⟩ := HL0.out.at hlt (by omega)
        have d0 : wr.cell? ⟨b1, o1 + j * 3, none⟩ = some (.int .i64 acts[j].k) := (HSt.out.zs.bel.cell (p := ⟨b1, _, none⟩) hb1).trans (hcs (j * 3) _ (by rw [← Nat.add_zero (j * 3), flat_at ac_len hlt (by omega)]; rfl))
        have e0 : w.cell? ⟨b1, o1 + j * 3 + 1, none⟩ = some (.string acts[j].key) := hcs (j * 3 + 1) _ (by rw [flat_at ac_len hlt (by omega)]; rfl)
        have e1 : w.cell? ⟨b1, o1 + j * 3 + 1 + 1, none⟩ = some (.int .i64 acts[j].e) := hcs (j * 3 + 2) _ (by rw [flat_at ac_len hlt (by omega)]; rfl)
        have HGy := Lib.hid (HGa.out _ (List.getElem_mem hlt))
        have d1 : wr.cell? ⟨b1, o1 + j * 3 + 1, none⟩ = some (.string acts[j].key) := (HSt.out.zs.bel.cell (p := ⟨b1, _, none⟩) hb1).trans e0
        have HE0 := Lib.hid e0; have HE1 := Lib.hid e1; have Hb1 := Lib.hid hb1
        clear hcs e0 e1
        generalize acts[j] = y at *
        by_cases h1 : y.k = 2
        · have k1 : (y.k == 2) = true := by simp [h1]
          clear h1
          go_wp2_with fail
          refine (Exp.Drop B M F y.key wr HSt.out.i (by have := HMl.out; omega)).mono ?_
          rintro e w4 ⟨rfl, F2, hi, ht⟩
          have H4 := Lib.hid (HSt.out.turn hi ht)
          clear hi ht
          go_wp2_with fail
          go_roundg (acts.length - (j + 1))
          case rel => exact ⟨j + 1, _, _, by go_num, by omega, rfl, H4.out, by have := delL_len' y.key M; have := HMl.out; omega⟩
          case measure => have := HG.out; omega
        · have k1 : (y.k == 2) = false := by simp [h1]
          clear h1 d1
          go_upto_region 9 with (fail)
          refine ej9 (by kernel_rfl) _ _ w _ B M F b1 o1 acts.length c0 j y.key y.e HSt.out (by have := HMl.out; omega) HGy.out.2 hlt Hb1.out HE0.out HE1.out rfl rfl rfl rfl ?_
          intro z w4 F2 hst
          simp only [Eng.setAll, Act.put, List.setIfInBounds_toArray, List.set_cons_succ, List.set_cons_zero]
          have H4 := Lib.hid hst
          clear hst
          go_wp2_with fail
          go_roundg (acts.length - (j + 1))
          case rel => exact ⟨j + 1, _, _, by go_num, by omega, rfl, H4.out, by have := putM_len y.key y.e M; have := HMl.out; omega⟩
          case measure => have := HG.out; omega
      · obtain rfl : j = acts.length := by omega
        have HJ := HSt
        obtain ⟨hsrt, hgd, KL, h1, h2⟩ := IB.rel HSt.out.i
        have HSrt := Lib.hid hsrt; have HGd := Lib.hid hgd; have HKL := Lib.hid (⟨h1, h2⟩ : KL.Pairwise (fun p q => lt2 p q = true) ∧ ∀ p, p ∈ KL ↔ p ∈ M)
        have hkm : KL.length = M.length := ((List.perm_ext_iff_of_nodup (nodup_lt2 h1) (nodup_srt hsrt)).2 h2).length_eq
        have hml : M.length ≤ 60 := by have := HMl.out; omega
        clear hsrt hgd h1 h2 HSt HG
        have hba : ¬ tb < ta := by omega
        go_wp2_with fail
        refine (TellK HJ.out.i HKL.out.1 HKL.out.2 (by omega) ta ta rfl).mono ?_
        rintro e w5 ⟨A1, n1, rfl, hS, hf⟩
        have H5 := Lib.hid (HJ.out.fr hf); have HS1 := Lib.hid hS
        clear hS hf HJ
        go_wp2_with fail
        refine (TellK H5.out.i HKL.out.1 HKL.out.2 (by omega) tb tb rfl).mono ?_
        rintro e w6 ⟨A2, n2, rfl, hS2, hf⟩
        have H6 := Lib.hid (H5.out.fr hf); have HS1' := Lib.hid (HS1.out.fr hf (fun _ _ h => h))
        have hlh : ta ≤ tb := by (try have := HLo.out); omega
        have hlen := below_le hlh KL
        have hall := below_all tb KL
        have hca : (below tb KL).length ≤ n2 ∧ n2 ≤ 9223372036854775807 := by have := hS2.2.1; have := hS2.2.2.1; unfold maxLen at this; omega
        have hTk : Sl w6 1 A2 (below ta KL).length n2 (strs (tk ta KL)) := by
          have h := hS2.take (k := (below ta KL).length) hlen
          rw [Nat.mul_one, ← List.map_take, ← List.map_take, ← below_pre hlh KL] at h
          exact h
        have HTk := Lib.hid hTk; have HS2 := Lib.hid hS2
        have HAt : Hid (∀ k (h : k < (below tb KL).length), getL (below tb KL)[k].1 M = some (below tb KL)[k].2 ∧ (below tb KL)[k].2 < tb ∧ wf64 (below tb KL)[k].2 ∧ ((below ta KL).length ≤ k → ¬ (below tb KL)[k].2 < ta)) := fun k h => by
          have h1 := below_at h
          have h2 := (HKL.out.2 _).1 h1.1
          exact ⟨(getL_iff HSrt.out).2 h2, h1.2, (HGd.out _ h2).2, fun hk => below_past HKL.out.1 h hk⟩
        have HNx : Hid (∀ k (h : k < (below tb KL).length) (h' : k + 1 < (below tb KL).length), (below tb KL)[k].2 ≤ (below tb KL)[k + 1].2) := fun k h h' => lt2_end (List.pairwise_iff_getElem.1 (below_srt HKL.out.1) k (k + 1) h h' (by omega))
        have HIn : Hid (∀ key v, getL key M = some v → v < tb → key ∈ tk tb KL) := fun key v h1 h2 => List.mem_map.2 ⟨(key, v), (below_mem HKL.out.1 _).2 ⟨(HKL.out.2 _).2 (getL_mem h1), h2⟩, rfl⟩
        have HTl := Lib.hid (show (below tb KL).length = (tk tb KL).length by simp)
        have HTl1 := Lib.hid (show (below ta KL).length = (tk ta KL).length by simp)
        clear hTk hS2 hf H5 HS1
        have HTe : Hid (tk tb KL = (below tb KL).map (·.1)) := rfl
        generalize tk ta KL = TL at *
        generalize hHI : below tb KL = HI at *
        generalize (below ta KL).length = nl at *
        have HHI := Lib.hid hHI
        clear hHI
        have t1 : decide ((HI.length : Int) < (nl : Int)) = false := by simp; omega
        have t2 : decide ((M.length : Int) < (HI.length : Int)) = false := by simp; omega
        have t3 : decide (HI.length < nl) = false := by simp; omega
        have t4 : decide (M.length < HI.length) = false := by simp; omega
        go_wp2_with fail
        refine (SameTT A1 A2 n1 n2 TL w6 nl HTl1.out HS1'.out HTk.out).mono ?_
        rintro e w7 ⟨rfl, hf⟩
        have H7 := Lib.hid (H6.out.fr hf); have HS2' := Lib.hid (HS2.out.fr hf (fun _ _ h => h))
        clear hf H6 HS2 HS1' HTk
        go_wp2_with fail
        refine (Exp.Len B M F w7 H7.out.i).mono ?_
        rintro e w_ ⟨rfl, rfl⟩
        go_wp2_with fail
        go_loopg [11, 12, 13, 14] HI.length (fun gk bf i _ _ wr => ∃ (k : Nat) (be : Int), bf = .int .i64 be ∧ i = .int .i64 k ∧ k ≤ HI.length ∧ gk = HI.length - k ∧ w7 = wr ∧ ∀ h : k < HI.length, be ≤ HI[k].2)
        case atStart => exact ⟨0, _, rfl, rfl, Nat.zero_le _, rfl, rfl, fun h => by have := (HAt.out 0 h).2.2.1; unfold wf64 at this; omega⟩
        case round =>
          obtain ⟨k, be, rfl, rfl, hk, hg, rfl, hbe⟩ := hrel
          have HG := Lib.hid hg
          clear hg
          by_cases hlk : k < HI.length
          · obtain ⟨b2, o2, rfl, hb2, c2⟩ := HS2'.out.at hlk (by omega)
            have d0 : w7.cell? ⟨b2, o2 + k, none⟩ = some (.string HI[k].1) := c2 k _ (by rw [HTe.out]; simp [strs, hlk])
            have hbe' := hbe hlk
            have hat := HAt.out k hlk
            have HNk := Lib.hid (HNx.out k hlk)
            clear c2 hbe
            generalize HI[k] = q at *
            obtain ⟨qk, qe⟩ := q
            dsimp only at d0 hbe' hat HNk
            obtain ⟨g1, g2, -, g3⟩ := hat
            have HEn := Exp.End B M F qk w7 H7.out.i
            rw [g1] at HEn
            have HEn := Lib.hid HEn
            have u1 : decide (tb ≤ qe) = false := by simp; omega
            have u2 : decide (qe < be) = false := by simp; omega
            by_cases hnk : nl ≤ k
            · have u3 : decide ((nl : Int) ≤ (k : Int)) = true := by simp; omega
              have u5 : decide (nl ≤ k) = true := by simp; omega
              have u4 : decide (qe < ta) = false := by have := g3 hnk; (try have := HLo.out); simp; omega
              clear hbe' g1 g2 g3 hnk
              go_wp2_with fail
              refine HEn.out.mono ?_
              rintro e w_ ⟨rfl, rfl⟩
              dsimp only [Option.getD_some, Option.isSome_some]
              go_wp2_with fail
              go_roundg (HI.length - (k + 1))
              case rel => exact ⟨k + 1, qe, rfl, by go_num, by omega, rfl, rfl, fun h => HNk.out h⟩
              case measure => have := HG.out; omega
            · have u3 : decide ((nl : Int) ≤ (k : Int)) = false := by simp; omega
              have u5 : decide (nl ≤ k) = false := by simp; omega
              clear hbe' g1 g2 g3 hnk
              go_wp2_with fail
              refine HEn.out.mono ?_
              rintro e w_ ⟨rfl, rfl⟩
              dsimp only [Option.getD_some, Option.isSome_some]
              go_wp2_with fail
              go_roundg (HI.length - (k + 1))
              case rel => exact ⟨k + 1, qe, rfl, by go_num, by omega, rfl, rfl, fun h => HNk.out h⟩
              case measure => have := HG.out; omega
          · obtain rfl : k = HI.length := by omega
            clear hbe
            go_wp2_with fail
            go_loopg [15, 16, 17] acts.length (fun gk i _ _ wr => ∃ k : Nat, i = .int .i64 k ∧ k ≤ acts.length ∧ gk = acts.length - k ∧ w7 = wr)
            case atStart => exact ⟨0, rfl, Nat.zero_le _, rfl, rfl⟩
            case round =>
              obtain ⟨k, rfl, hk, hg, rfl⟩ := hrel
              have HG2 := Lib.hid hg
              clear hg
              by_cases hlt : k < acts.length
              · obtain ⟨b1, o1, rfl, hb1, hcs⟩ := HL0.out.at hlt (by omega)
                have d1 : w7.cell? ⟨b1, o1 + k * 3 + 1, none⟩ = some (.string acts[k].key) := (H7.out.zs.bel.cell (p := ⟨b1, _, none⟩) hb1).trans (hcs (k * 3 + 1) _ (by rw [flat_at ac_len hlt (by omega)]; rfl))
                clear hcs
                generalize acts[k].key = ky at *
                have HEn := Exp.End B M F ky w7 H7.out.i
                cases hget : getL ky M with
                | none =>
                  rw [hget] at HEn
                  have HEn := Lib.hid HEn
                  clear hget
                  go_wp2_with fail
                  refine HEn.out.mono ?_
                  rintro e w_ ⟨rfl, rfl⟩
                  dsimp only [Option.getD_none, Option.isSome_none]
                  go_wp2_with fail
                  go_roundg (acts.length - (k + 1))
                  case rel => exact ⟨k + 1, by go_num, by omega, rfl, rfl⟩
                  case measure => have := HG2.out; omega
                | some v =>
                  rw [hget] at HEn
                  have HEn := Lib.hid HEn
                  by_cases hv : v < tb
                  · have u1 : decide (v < tb) = true := by simpa using hv
                    have hin := HIn.out ky v hget hv
                    have HHas := Lib.hid (has_ A2 n2 (tk tb KL) ky w7 HI.length HTl.out HS2'.out hin)
                    clear hget hin hv
                    go_wp2_with fail
                    refine HEn.out.mono ?_
                    rintro e w_ ⟨rfl, rfl⟩
                    dsimp only [Option.getD_some, Option.isSome_some]
                    go_wp2_with fail
                    refine HHas.out.mono ?_
                    rintro e w_ ⟨rfl, rfl⟩
                    go_wp2_with fail
                    go_roundg (acts.length - (k + 1))
                    case rel => exact ⟨k + 1, by go_num, by omega, rfl, rfl⟩
                    case measure => have := HG2.out; omega
                  · have u1 : decide (v < tb) = false := by simpa using hv
                    clear hget hv
                    go_wp2_with fail
                    refine HEn.out.mono ?_
                    rintro e w_ ⟨rfl, rfl⟩
                    dsimp only [Option.getD_some, Option.isSome_some]
                    go_wp2_with fail
                    go_roundg (acts.length - (k + 1))
                    case rel => exact ⟨k + 1, by go_num, by omega, rfl, rfl⟩
                    case measure => have := HG2.out; omega
              · obtain rfl : k = acts.length := by omega
                go_wp2_with fail
                refine (awake w7).mono ?_
                rintro e w8 ⟨rfl, hf⟩
                have H8 := Lib.hid (H7.out.fr hf)
                clear hf
                go_wp2_with fail
                go_ret
                exact ⟨rfl, H8.out.zs.bel⟩
set_option maxRecDepth 100000 in
set_option maxHeartbeats 4000000 in
theorem just_eq (A0 : Option Addr) (c0 : Nat) (acts : List Ac) (ta : Int) (w : World) (hS0 : Sl w 3 A0 acts.length c0 (acts.flatMap ac)) (hG : ∀ a ∈ acts, a.key.size ≤ maxLen ∧ in64 a.e) :
    Calls Try.prog 8 #[.slice A0 acts.length c0, .int .i64 ta, .int .i64 ta] w fun e w' => e = .returned (.bool true) ∧ Below w.heap.size w w' := by
  have HFew := Lib.hid (Few A0 c0 acts w hS0 (fun a ha => by have := (hG a ha).1; unfold maxLen at this; omega))
  by_cases hfew : few acts = false
  · rw [hfew] at HFew
    have HA := Lib.hid (awake w)
    clear hfew hS0 hG
    go_enter Try.func8, Try.ntmps8
    go_wp2_with fail
    refine HFew.out.mono ?_
    rintro e w1 ⟨rfl, rfl⟩
    go_wp2_with fail
    refine HA.out.mono ?_
    rintro e w1 ⟨rfl, hb⟩
    have HB := Lib.hid hb
    clear hb
    go_wp2_with fail
    go_ret
    exact ⟨rfl, HB.out.below (Nat.le_refl _) (fun _ _ h => h)⟩
  · have hfew : few acts = true := by simpa using hfew
    rw [hfew] at HFew
    have hl : acts.length ≤ 60 := by unfold few at hfew; simp at hfew; exact hfew.2
    have HL0 := Lib.hid hS0; have HGa := Lib.hid hG
    have HS0 : Hid (SJ w (w.alloc (.cells (cellsX none 0 none 0) TX)) w.heap.size [] [w.heap.size]) := ⟨(Zs.start w).alloc _, IB.new w⟩
    clear hS0 hfew hG
    go_enter Try.func8, Try.ntmps8
    go_wp2_with fail
    refine HFew.out.mono ?_
    rintro e w1 ⟨rfl, rfl⟩
    clear HFew
    go_wp2_with fail
    generalize w.alloc (.cells (cellsX none 0 none 0) TX) = w3 at *
    generalize hB : w.heap.size = B at *
    have HBB := Lib.hid hB
    clear hB
    go_loopg [8] acts.length (fun gk i wr => ∃ (j : Nat) (M : List It) (F : List Nat), i = .int .i64 j ∧ j ≤ acts.length ∧ gk = acts.length - j ∧ SJ w wr B M F ∧ M.length ≤ j)
    case atStart => exact ⟨0, [], _, rfl, Nat.zero_le _, rfl, HS0.out, by simp⟩
    case round =>
      clear HS0
      obtain ⟨j, M, F, rfl, hj, hg, hst, hml⟩ := hrel
      have HG := Lib.hid hg; have HSt := Lib.hid hst; have HMl := Lib.hid hml
      clear hg hst hml
      by_cases hlt : j < acts.length
      · obtain ⟨b1, o1, rfl, hb1, hcs⟩ := HL0.out.at hlt (by omega)
        have d0 : wr.cell? ⟨b1, o1 + j * 3, none⟩ = some (.int .i64 acts[j].k) := (HSt.out.zs.bel.cell (p := ⟨b1, _, none⟩) hb1).trans (hcs (j * 3) _ (by rw [← Nat.add_zero (j * 3), flat_at ac_len hlt (by omega)]; rfl))
        have e0 : w.cell? ⟨b1, o1 + j * 3 + 1, none⟩ = some (.string acts[j].key) := hcs (j * 3 + 1) _ (by rw [flat_at ac_len hlt (by omega)]; rfl)
        have e1 : w.cell? ⟨b1, o1 + j * 3 + 1 + 1, none⟩ = some (.int .i64 acts[j].e) := hcs (j * 3 + 2) _ (by rw [flat_at ac_len hlt (by omega)]; rfl)
        have HGy := Lib.hid (HGa.out _ (List.getElem_mem hlt))
        have d1 : wr.cell? ⟨b1, o1 + j * 3 + 1, none⟩ = some (.string acts[j].key) := (HSt.out.zs.bel.cell (p := ⟨b1, _, none⟩) hb1).trans e0
        have HE0 := Lib.hid e0; have HE1 := Lib.hid e1; have Hb1 := Lib.hid hb1
        clear hcs e0 e1
        generalize acts[j] = y at *
        by_cases h1 : y.k = 2
        · have k1 : (y.k == 2) = true := by simp [h1]
          clear h1
          go_wp2_with fail
          refine (Exp.Drop B M F y.key wr HSt.out.i (by have := HMl.out; omega)).mono ?_
          rintro e w4 ⟨rfl, F2, hi, ht⟩
          have H4 := Lib.hid (HSt.out.turn hi ht)
          clear hi ht
          go_wp2_with fail
          go_roundg (acts.length - (j + 1))
          case rel => exact ⟨j + 1, _, _, by go_num, by omega, rfl, H4.out, by have := delL_len' y.key M; have := HMl.out; omega⟩
          case measure => have := HG.out; omega
        · have k1 : (y.k == 2) = false := by simp [h1]
          clear h1 d1
          go_upto_region 9 with (fail)
          refine ej9 (by kernel_rfl) _ _ w _ B M F b1 o1 acts.length c0 j y.key y.e HSt.out (by have := HMl.out; omega) HGy.out.2 hlt Hb1.out HE0.out HE1.out rfl rfl rfl rfl ?_
          intro z w4 F2 hst
          simp only [Eng.setAll, Act.put, List.setIfInBounds_toArray, List.set_cons_succ, List.set_cons_zero]
          have H4 := Lib.hid hst
          clear hst
          go_wp2_with fail
          go_roundg (acts.length - (j + 1))
          case rel => exact ⟨j + 1, _, _, by go_num, by omega, rfl, H4.out, by have := putM_len y.key y.e M; have := HMl.out; omega⟩
          case measure => have := HG.out; omega
      · obtain rfl : j = acts.length := by omega
        have HJ := HSt
        obtain ⟨hsrt, hgd, KL, h1, h2⟩ := IB.rel HSt.out.i
        have HSrt := Lib.hid hsrt; have HGd := Lib.hid hgd; have HKL := Lib.hid (⟨h1, h2⟩ : KL.Pairwise (fun p q => lt2 p q = true) ∧ ∀ p, p ∈ KL ↔ p ∈ M)
        have hkm : KL.length = M.length := ((List.perm_ext_iff_of_nodup (nodup_lt2 h1) (nodup_srt hsrt)).2 h2).length_eq
        have hml : M.length ≤ 60 := by have := HMl.out; omega
        clear hsrt hgd h1 h2 HSt HG
        obtain ⟨lo, HLo⟩ : ∃ lo : Int, Hid (lo = ta) := ⟨_, Lib.hid rfl⟩
        go_wp2_with fail
        refine (TellK HJ.out.i HKL.out.1 HKL.out.2 (by omega) ta lo HLo.out).mono ?_
        rintro e w5 ⟨A1, n1, rfl, hS, hf⟩
        have H5 := Lib.hid (HJ.out.fr hf); have HS1 := Lib.hid hS
        clear hS hf HJ
        go_wp2_with fail
        refine (TellK H5.out.i HKL.out.1 HKL.out.2 (by omega) ta ta rfl).mono ?_
        rintro e w6 ⟨A2, n2, rfl, hS2, hf⟩
        have H6 := Lib.hid (H5.out.fr hf); have HS1' := Lib.hid (HS1.out.fr hf (fun _ _ h => h))
        have hlh : lo ≤ ta := by (try have := HLo.out); omega
        have hlen := below_le hlh KL
        have hall := below_all ta KL
        have hca : (below ta KL).length ≤ n2 ∧ n2 ≤ 9223372036854775807 := by have := hS2.2.1; have := hS2.2.2.1; unfold maxLen at this; omega
        have hTk : Sl w6 1 A2 (below lo KL).length n2 (strs (tk lo KL)) := by
          have h := hS2.take (k := (below lo KL).length) hlen
          rw [Nat.mul_one, ← List.map_take, ← List.map_take, ← below_pre hlh KL] at h
          exact h
        have HTk := Lib.hid hTk; have HS2 := Lib.hid hS2
        have HAt : Hid (∀ k (h : k < (below ta KL).length), getL (below ta KL)[k].1 M = some (below ta KL)[k].2 ∧ (below ta KL)[k].2 < ta ∧ wf64 (below ta KL)[k].2 ∧ ((below lo KL).length ≤ k → ¬ (below ta KL)[k].2 < lo)) := fun k h => by
          have h1 := below_at h
          have h2 := (HKL.out.2 _).1 h1.1
          exact ⟨(getL_iff HSrt.out).2 h2, h1.2, (HGd.out _ h2).2, fun hk => below_past HKL.out.1 h hk⟩
        have HNx : Hid (∀ k (h : k < (below ta KL).length) (h' : k + 1 < (below ta KL).length), (below ta KL)[k].2 ≤ (below ta KL)[k + 1].2) := fun k h h' => lt2_end (List.pairwise_iff_getElem.1 (below_srt HKL.out.1) k (k + 1) h h' (by omega))
        have HIn : Hid (∀ key v, getL key M = some v → v < ta → key ∈ tk ta KL) := fun key v h1 h2 => List.mem_map.2 ⟨(key, v), (below_mem HKL.out.1 _).2 ⟨(HKL.out.2 _).2 (getL_mem h1), h2⟩, rfl⟩
        have HTl := Lib.hid (show (below ta KL).length = (tk ta KL).length by simp)
        have HTl1 := Lib.hid (show (below lo KL).length = (tk lo KL).length by simp)
        clear hTk hS2 hf H5 HS1
        have HTe : Hid (tk ta KL = (below ta KL).map (·.1)) := rfl
        generalize tk lo KL = TL at *
        generalize hHI : below ta KL = HI at *
        generalize (below lo KL).length = nl at *
        have HHI := Lib.hid hHI
        clear hHI
        have t1 : decide ((HI.length : Int) < (nl : Int)) = false := by simp; omega
        have t2 : decide ((M.length : Int) < (HI.length : Int)) = false := by simp; omega
        have t3 : decide (HI.length < nl) = false := by simp; omega
        have t4 : decide (M.length < HI.length) = false := by simp; omega
        go_wp2_with fail
        refine (SameTT A1 A2 n1 n2 TL w6 nl HTl1.out HS1'.out HTk.out).mono ?_
        rintro e w7 ⟨rfl, hf⟩
        have H7 := Lib.hid (H6.out.fr hf); have HS2' := Lib.hid (HS2.out.fr hf (fun _ _ h => h))
        clear hf H6 HS2 HS1' HTk
        go_wp2_with fail
        refine (Exp.Len B M F w7 H7.out.i).mono ?_
        rintro e w_ ⟨rfl, rfl⟩
        go_wp2_with fail
        go_loopg [11, 12, 13, 14] HI.length (fun gk bf i _ _ wr => ∃ (k : Nat) (be : Int), bf = .int .i64 be ∧ i = .int .i64 k ∧ k ≤ HI.length ∧ gk = HI.length - k ∧ w7 = wr ∧ ∀ h : k < HI.length, be ≤ HI[k].2)
        case atStart => exact ⟨0, _, rfl, rfl, Nat.zero_le _, rfl, rfl, fun h => by have := (HAt.out 0 h).2.2.1; unfold wf64 at this; omega⟩
        case round =>
          obtain ⟨k, be, rfl, rfl, hk, hg, rfl, hbe⟩ := hrel
          have HG := Lib.hid hg
          clear hg
          by_cases hlk : k < HI.length
          · obtain ⟨b2, o2, rfl, hb2, c2⟩ := HS2'.out.at hlk (by omega)
            have d0 : w7.cell? ⟨b2, o2 + k, none⟩ = some (.string HI[k].1) := c2 k _ (by rw [HTe.out]; simp [strs, hlk])
            have hbe' := hbe hlk
            have hat := HAt.out k hlk
            have HNk := Lib.hid (HNx.out k hlk)
            clear c2 hbe
            generalize HI[k] = q at *
            obtain ⟨qk, qe⟩ := q
            dsimp only at d0 hbe' hat HNk
            obtain ⟨g1, g2, -, g3⟩ := hat
            have HEn := Exp.End B M F qk w7 H7.out.i
            rw [g1] at HEn
            have HEn := Lib.hid HEn
            have u1 : decide (ta ≤ qe) = false := by simp; omega
            have u2 : decide (qe < be) = false := by simp; omega
            by_cases hnk : nl ≤ k
            · have u3 : decide ((nl : Int) ≤ (k : Int)) = true := by simp; omega
              have u5 : decide (nl ≤ k) = true := by simp; omega
              have u4 : decide (qe < ta) = false := by have := g3 hnk; (try have := HLo.out); simp; omega
              clear hbe' g1 g2 g3 hnk
              go_wp2_with fail
              refine HEn.out.mono ?_
              rintro e w_ ⟨rfl, rfl⟩
              dsimp only [Option.getD_some, Option.isSome_some]
              go_wp2_with fail
              go_roundg (HI.length - (k + 1))
              case rel => exact ⟨k + 1, qe, rfl, by go_num, by omega, rfl, rfl, fun h => HNk.out h⟩
              case measure => have := HG.out; omega
            · have u3 : decide ((nl : Int) ≤ (k : Int)) = false := by simp; omega
              have u5 : decide (nl ≤ k) = false := by simp; omega
              clear hbe' g1 g2 g3 hnk
              go_wp2_with fail
              refine HEn.out.mono ?_
              rintro e w_ ⟨rfl, rfl⟩
              dsimp only [Option.getD_some, Option.isSome_some]
              go_wp2_with fail
              go_roundg (HI.length - (k + 1))
              case rel => exact ⟨k + 1, qe, rfl, by go_num, by omega, rfl, rfl, fun h => HNk.out h⟩
              case measure => have := HG.out; omega
          · obtain rfl : k = HI.length := by omega
            clear hbe
            go_wp2_with fail
            go_loopg [15, 16, 17] acts.length (fun gk i _ _ wr => ∃ k : Nat, i = .int .i64 k ∧ k ≤ acts.length ∧ gk = acts.length - k ∧ w7 = wr)
            case atStart => exact ⟨0, rfl, Nat.zero_le _, rfl, rfl⟩
            case round =>
              obtain ⟨k, rfl, hk, hg, rfl⟩ := hrel
              have HG2 := Lib.hid hg
              clear hg
              by_cases hlt : k < acts.length
              · obtain ⟨b1, o1, rfl, hb1, hcs⟩ := HL0.out.at hlt (by omega)
                have d1 : w7.cell? ⟨b1, o1 + k * 3 + 1, none⟩ = some (.string acts[k].key) := (H7.out.zs.bel.cell (p := ⟨b1, _, none⟩) hb1).trans (hcs (k * 3 + 1) _ (by rw [flat_at ac_len hlt (by omega)]; rfl))
                clear hcs
                generalize acts[k].key = ky at *
                have HEn := Exp.End B M F ky w7 H7.out.i
                cases hget : getL ky M with
                | none =>
                  rw [hget] at HEn
                  have HEn := Lib.hid HEn
                  clear hget
                  go_wp2_with fail
                  refine HEn.out.mono ?_
                  rintro e w_ ⟨rfl, rfl⟩
                  dsimp only [Option.getD_none, Option.isSome_none]
                  go_wp2_with fail
                  go_roundg (acts.length - (k + 1))
                  case rel => exact ⟨k + 1, by go_num, by omega, rfl, rfl⟩
                  case measure => have := HG2.out; omega
                | some v =>
                  rw [hget] at HEn
                  have HEn := Lib.hid HEn
                  by_cases hv : v < ta
                  · have u1 : decide (v < ta) = true := by simpa using hv
                    have hin := HIn.out ky v hget hv
                    have HHas := Lib.hid (has_ A2 n2 (tk ta KL) ky w7 HI.length HTl.out HS2'.out hin)
                    clear hget hin hv
                    go_wp2_with fail
                    refine HEn.out.mono ?_
                    rintro e w_ ⟨rfl, rfl⟩
                    dsimp only [Option.getD_some, Option.isSome_some]
                    go_wp2_with fail
                    refine HHas.out.mono ?_
                    rintro e w_ ⟨rfl, rfl⟩
                    go_wp2_with fail
                    go_roundg (acts.length - (k + 1))
                    case rel => exact ⟨k + 1, by go_num, by omega, rfl, rfl⟩
                    case measure => have := HG2.out; omega
                  · have u1 : decide (v < ta) = false := by simpa using hv
                    clear hget hv
                    go_wp2_with fail
                    refine HEn.out.mono ?_
                    rintro e w_ ⟨rfl, rfl⟩
                    dsimp only [Option.getD_some, Option.isSome_some]
                    go_wp2_with fail
                    go_roundg (acts.length - (k + 1))
                    case rel => exact ⟨k + 1, by go_num, by omega, rfl, rfl⟩
                    case measure => have := HG2.out; omega
              · obtain rfl : k = acts.length := by omega
                go_wp2_with fail
                refine (awake w7).mono ?_
                rintro e w8 ⟨rfl, hf⟩
                have H8 := Lib.hid (H7.out.fr hf)
                clear hf
                go_wp2_with fail
                go_ret
                exact ⟨rfl, H8.out.zs.bel⟩
set_option maxRecDepth 100000 in
set_option maxHeartbeats 4000000 in
theorem just_gt (A0 : Option Addr) (c0 : Nat) (acts : List Ac) (ta tb : Int) (hab : tb < ta) (w : World) (hS0 : Sl w 3 A0 acts.length c0 (acts.flatMap ac)) (hG : ∀ a ∈ acts, a.key.size ≤ maxLen ∧ in64 a.e) :
    Calls Try.prog 8 #[.slice A0 acts.length c0, .int .i64 ta, .int .i64 tb] w fun e w' => e = .returned (.bool true) ∧ Below w.heap.size w w' := by
  have HFew := Lib.hid (Few A0 c0 acts w hS0 (fun a ha => by have := (hG a ha).1; unfold maxLen at this; omega))
  by_cases hfew : few acts = false
  · rw [hfew] at HFew
    have HA := Lib.hid (awake w)
    clear hfew hS0 hG
    go_enter Try.func8, Try.ntmps8
    go_wp2_with fail
    refine HFew.out.mono ?_
    rintro e w1 ⟨rfl, rfl⟩
    go_wp2_with fail
    refine HA.out.mono ?_
    rintro e w1 ⟨rfl, hb⟩
    have HB := Lib.hid hb
    clear hb
    go_wp2_with fail
    go_ret
    exact ⟨rfl, HB.out.below (Nat.le_refl _) (fun _ _ h => h)⟩
  · have hfew : few acts = true := by simpa using hfew
    rw [hfew] at HFew
    have hl : acts.length ≤ 60 := by unfold few at hfew; simp at hfew; exact hfew.2
    have HL0 := Lib.hid hS0; have HGa := Lib.hid hG
    have HS0 : Hid (SJ w (w.alloc (.cells (cellsX none 0 none 0) TX)) w.heap.size [] [w.heap.size]) := ⟨(Zs.start w).alloc _, IB.new w⟩
    clear hS0 hfew hG
    go_enter Try.func8, Try.ntmps8
    go_wp2_with fail
    refine HFew.out.mono ?_
    rintro e w1 ⟨rfl, rfl⟩
    clear HFew
    go_wp2_with fail
    generalize w.alloc (.cells (cellsX none 0 none 0) TX) = w3 at *
    generalize hB : w.heap.size = B at *
    have HBB := Lib.hid hB
    clear hB
    go_loopg [8] acts.length (fun gk i wr => ∃ (j : Nat) (M : List It) (F : List Nat), i = .int .i64 j ∧ j ≤ acts.length ∧ gk = acts.length - j ∧ SJ w wr B M F ∧ M.length ≤ j)
    case atStart => exact ⟨0, [], _, rfl, Nat.zero_le _, rfl, HS0.out, by simp⟩
    case round =>
      clear HS0
      obtain ⟨j, M, F, rfl, hj, hg, hst, hml⟩ := hrel
      have HG := Lib.hid hg; have HSt := Lib.hid hst; have HMl := Lib.hid hml
      clear hg hst hml
      by_cases hlt : j < acts.length
      · obtain ⟨b1, o1, rfl, hb1, hcs⟩ := HL0.out.at hlt (by omega)
        have d0 : wr.cell? ⟨b1, o1 + j * 3, none⟩ = some (.int .i64 acts[j].k) := (HSt.out.zs.bel.cell (p := ⟨b1, _, none⟩) hb1).trans (hcs (j * 3) _ (by rw [← Nat.add_zero (j * 3), flat_at ac_len hlt (by omega)]; rfl))
        have e0 : w.cell? ⟨b1, o1 + j * 3 + 1, none⟩ = some (.string acts[j].key) := hcs (j * 3 + 1) _ (by rw [flat_at ac_len hlt (by omega)]; rfl)
        have e1 : w.cell? ⟨b1, o1 + j * 3 + 1 + 1, none⟩ = some (.int .i64 acts[j].e) := hcs (j * 3 + 2) _ (by rw [flat_at ac_len hlt (by omega)]; rfl)
        have HGy := Lib.hid (HGa.out _ (List.getElem_mem hlt))
        have d1 : wr.cell? ⟨b1, o1 + j * 3 + 1, none⟩ = some (.string acts[j].key) := (HSt.out.zs.bel.cell (p := ⟨b1, _, none⟩) hb1).trans e0
        have HE0 := Lib.hid e0; have HE1 := Lib.hid e1; have Hb1 := Lib.hid hb1
        clear hcs e0 e1
        generalize acts[j] = y at *
        by_cases h1 : y.k = 2
        · have k1 : (y.k == 2) = true := by simp [h1]
          clear h1
          go_wp2_with fail
          refine (Exp.Drop B M F y.key wr HSt.out.i (by have := HMl.out; omega)).mono ?_
          rintro e w4 ⟨rfl, F2, hi, ht⟩
          have H4 := Lib.hid (HSt.out.turn hi ht)
          clear hi ht
          go_wp2_with fail
          go_roundg (acts.length - (j + 1))
          case rel => exact ⟨j + 1, _, _, by go_num, by omega, rfl, H4.out, by have := delL_len' y.key M; have := HMl.out; omega⟩
          case measure => have := HG.out; omega
        · have k1 : (y.k == 2) = false := by simp [h1]
          clear h1 d1
          go_upto_region 9 with (fail)
          refine ej9 (by kernel_rfl) _ _ w _ B M F b1 o1 acts.length c0 j y.key y.e HSt.out (by have := HMl.out; omega) HGy.out.2 hlt Hb1.out HE0.out HE1.out rfl rfl rfl rfl ?_
          intro z w4 F2 hst
          simp only [Eng.setAll, Act.put, List.setIfInBounds_toArray, List.set_cons_succ, List.set_cons_zero]
          have H4 := Lib.hid hst
          clear hst
          go_wp2_with fail
          go_roundg (acts.length - (j + 1))
          case rel => exact ⟨j + 1, _, _, by go_num, by omega, rfl, H4.out, by have := putM_len y.key y.e M; have := HMl.out; omega⟩
          case measure => have := HG.out; omega
      · obtain rfl : j = acts.length := by omega
        have HJ := HSt
        obtain ⟨hsrt, hgd, KL, h1, h2⟩ := IB.rel HSt.out.i
        have HSrt := Lib.hid hsrt; have HGd := Lib.hid hgd; have HKL := Lib.hid (⟨h1, h2⟩ : KL.Pairwise (fun p q => lt2 p q = true) ∧ ∀ p, p ∈ KL ↔ p ∈ M)
        have hkm : KL.length = M.length := ((List.perm_ext_iff_of_nodup (nodup_lt2 h1) (nodup_srt hsrt)).2 h2).length_eq
        have hml : M.length ≤ 60 := by have := HMl.out; omega
        clear hsrt hgd h1 h2 HSt HG
        have hba : ¬ ta < tb := by omega
        go_wp2_with fail
        refine (TellK HJ.out.i HKL.out.1 HKL.out.2 (by omega) tb tb rfl).mono ?_
        rintro e w5 ⟨A1, n1, rfl, hS, hf⟩
        have H5 := Lib.hid (HJ.out.fr hf); have HS1 := Lib.hid hS
        clear hS hf HJ
        go_wp2_with fail
        refine (TellK H5.out.i HKL.out.1 HKL.out.2 (by omega) ta ta rfl).mono ?_
        rintro e w6 ⟨A2, n2, rfl, hS2, hf⟩
        have H6 := Lib.hid (H5.out.fr hf); have HS1' := Lib.hid (HS1.out.fr hf (fun _ _ h => h))
        have hlh : tb ≤ ta := by (try have := HLo.out); omega
        have hlen := below_le hlh KL
        have hall := below_all ta KL
        have hca : (below ta KL).length ≤ n2 ∧ n2 ≤ 9223372036854775807 := by have := hS2.2.1; have := hS2.2.2.1; unfold maxLen at this; omega
        have hTk : Sl w6 1 A2 (below tb KL).length n2 (strs (tk tb KL)) := by
          have h := hS2.take (k := (below tb KL).length) hlen
          rw [Nat.mul_one, ← List.map_take, ← List.map_take, ← below_pre hlh KL] at h
          exact h
        have HTk := Lib.hid hTk; have HS2 := Lib.hid hS2
        have HAt : Hid (∀ k (h : k < (below ta KL).length), getL (below ta KL)[k].1 M = some (below ta KL)[k].2 ∧ (below ta KL)[k].2 < ta ∧ wf64 (below ta KL)[k].2 ∧ ((below tb KL).length ≤ k → ¬ (below ta KL)[k].2 < tb)) := fun k h => by
          have h1 := below_at h
          have h2 := (HKL.out.2 _).1 h1.1
          exact ⟨(getL_iff HSrt.out).2 h2, h1.2, (HGd.out _ h2).2, fun hk => below_past HKL.out.1 h hk⟩
        have HNx : Hid (∀ k (h : k < (below ta KL).length) (h' : k + 1 < (below ta KL).length), (below ta KL)[k].2 ≤ (below ta KL)[k + 1].2) := fun k h h' => lt2_end (List.pairwise_iff_getElem.1 (below_srt HKL.out.1) k (k + 1) h h' (by omega))
        have HIn : Hid (∀ key v, getL key M = some v → v < ta → key ∈ tk ta KL) := fun key v h1 h2 => List.mem_map.2 ⟨(key, v), (below_mem HKL.out.1 _).2 ⟨(HKL.out.2 _).2 (getL_mem h1), h2⟩, rfl⟩
        have HTl := Lib.hid (show (below ta KL).length = (tk ta KL).length by simp)
        have HTl1 := Lib.hid (show (below tb KL).length = (tk tb KL).length by simp)
        clear hTk hS2 hf H5 HS1
        have HTe : Hid (tk ta KL = (below ta KL).map (·.1)) := rfl
        generalize tk tb KL = TL at *
        generalize hHI : below ta KL = HI at *
        generalize (below tb KL).length = nl at *
        have HHI := Lib.hid hHI
        clear hHI
        have t1 : decide ((HI.length : Int) < (nl : Int)) = false := by simp; omega
        have t2 : decide ((M.length : Int) < (HI.length : Int)) = false := by simp; omega
        have t3 : decide (HI.length < nl) = false := by simp; omega
        have t4 : decide (M.length < HI.length) = false := by simp; omega
        go_wp2_with fail
        refine (SameTT A1 A2 n1 n2 TL w6 nl HTl1.out HS1'.out HTk.out).mono ?_
        rintro e w7 ⟨rfl, hf⟩
        have H7 := Lib.hid (H6.out.fr hf); have HS2' := Lib.hid (HS2.out.fr hf (fun _ _ h => h))
        clear hf H6 HS2 HS1' HTk
        go_wp2_with fail
        refine (Exp.Len B M F w7 H7.out.i).mono ?_
        rintro e w_ ⟨rfl, rfl⟩
        go_wp2_with fail
        go_loopg [11, 12, 13, 14] HI.length (fun gk bf i _ _ wr => ∃ (k : Nat) (be : Int), bf = .int .i64 be ∧ i = .int .i64 k ∧ k ≤ HI.length ∧ gk = HI.length - k ∧ w7 = wr ∧ ∀ h : k < HI.length, be ≤ HI[k].2)
        case atStart => exact ⟨0, _, rfl, rfl, Nat.zero_le _, rfl, rfl, fun h => by have := (HAt.out 0 h).2.2.1; unfold wf64 at this; omega⟩
        case round =>
          obtain ⟨k, be, rfl, rfl, hk, hg, rfl, hbe⟩ := hrel
          have HG := Lib.hid hg
          clear hg
          by_cases hlk : k < HI.length
          · obtain ⟨b2, o2, rfl, hb2, c2⟩ := HS2'.out.at hlk (by omega)
            have d0 : w7.cell? ⟨b2, o2 + k, none⟩ = some (.string HI[k].1) := c2 k _ (by rw [HTe.out]; simp [strs, hlk])
            have hbe' := hbe hlk
            have hat := HAt.out k hlk
            have HNk := Lib.hid (HNx.out k hlk)
            clear c2 hbe
            generalize HI[k] = q at *
            obtain ⟨qk, qe⟩ := q
            dsimp only at d0 hbe' hat HNk
            obtain ⟨g1, g2, -, g3⟩ := hat
            have HEn := Exp.End B M F qk w7 H7.out.i
            rw [g1] at HEn
            have HEn := Lib.hid HEn
            have u1 : decide (ta ≤ qe) = false := by simp; omega
            have u2 : decide (qe < be) = false := by simp; omega
            by_cases hnk : nl ≤ k
            · have u3 : decide ((nl : Int) ≤ (k : Int)) = true := by simp; omega
              have u5 : decide (nl ≤ k) = true := by simp; omega
              have u4 : decide (qe < tb) = false := by have := g3 hnk; (try have := HLo.out); simp; omega
              clear hbe' g1 g2 g3 hnk
              go_wp2_with fail
              refine HEn.out.mono ?_
              rintro e w_ ⟨rfl, rfl⟩
              dsimp only [Option.getD_some, Option.isSome_some]
              go_wp2_with fail
              go_roundg (HI.length - (k + 1))
              case rel => exact ⟨k + 1, qe, rfl, by go_num, by omega, rfl, rfl, fun h => HNk.out h⟩
              case measure => have := HG.out; omega
            · have u3 : decide ((nl : Int) ≤ (k : Int)) = false := by simp; omega
              have u5 : decide (nl ≤ k) = false := by simp; omega
              clear hbe' g1 g2 g3 hnk
              go_wp2_with fail
              refine HEn.out.mono ?_
              rintro e w_ ⟨rfl, rfl⟩
              dsimp only [Option.getD_some, Option.isSome_some]
              go_wp2_with fail
              go_roundg (HI.length - (k + 1))
              case rel => exact ⟨k + 1, qe, rfl, by go_num, by omega, rfl, rfl, fun h => HNk.out h⟩
              case measure => have := HG.out; omega
          · obtain rfl : k = HI.length := by omega
            clear hbe
            go_wp2_with fail
            go_loopg [15, 16, 17] acts.length (fun gk i _ _ wr => ∃ k : Nat, i = .int .i64 k ∧ k ≤ acts.length ∧ gk = acts.length - k ∧ w7 = wr)
            case atStart => exact ⟨0, rfl, Nat.zero_le _, rfl, rfl⟩
            case round =>
              obtain ⟨k, rfl, hk, hg, rfl⟩ := hrel
              have HG2 := Lib.hid hg
              clear hg
              by_cases hlt : k < acts.length
              · obtain ⟨b1, o1, rfl, hb1, hcs⟩ := HL0.out.at hlt (by omega)
                have d1 : w7.cell? ⟨b1, o1 + k * 3 + 1, none⟩ = some (.string acts[k].key) := (H7.out.zs.bel.cell (p := ⟨b1, _, none⟩) hb1).trans (hcs (k * 3 + 1) _ (by rw [flat_at ac_len hlt (by omega)]; rfl))
                clear hcs
                generalize acts[k].key = ky at *
                have HEn := Exp.End B M F ky w7 H7.out.i
                cases hget : getL ky M with
                | none =>
                  rw [hget] at HEn
                  have HEn := Lib.hid HEn
                  clear hget
                  go_wp2_with fail
                  refine HEn.out.mono ?_
                  rintro e w_ ⟨rfl, rfl⟩
                  dsimp only [Option.getD_none, Option.isSome_none]
                  go_wp2_with fail
                  go_roundg (acts.length - (k + 1))
                  case rel => exact ⟨k + 1, by go_num, by omega, rfl, rfl⟩
                  case measure => have := HG2.out; omega
                | some v =>
                  rw [hget] at HEn
                  have HEn := Lib.hid HEn
                  by_cases hv : v < ta
                  · have u1 : decide (v < ta) = true := by simpa using hv
                    have hin := HIn.out ky v hget hv
                    have HHas := Lib.hid (has_ A2 n2 (tk ta KL) ky w7 HI.length HTl.out HS2'.out hin)
                    clear hget hin hv
                    go_wp2_with fail
                    refine HEn.out.mono ?_
                    rintro e w_ ⟨rfl, rfl⟩
                    dsimp only [Option.getD_some, Option.isSome_some]
                    go_wp2_with fail
                    refine HHas.out.mono ?_
                    rintro e w_ ⟨rfl, rfl⟩
                    go_wp2_with fail
                    go_roundg (acts.length - (k + 1))
                    case rel => exact ⟨k + 1, by go_num, by omega, rfl, rfl⟩
                    case measure => have := HG2.out; omega
                  · have u1 : decide (v < ta) = false := by simpa using hv
                    clear hget hv
                    go_wp2_with fail
                    refine HEn.out.mono ?_
                    rintro e w_ ⟨rfl, rfl⟩
                    dsimp only [Option.getD_some, Option.isSome_some]
                    go_wp2_with fail
                    go_roundg (acts.length - (k + 1))
                    case rel => exact ⟨k + 1, by go_num, by omega, rfl, rfl⟩
                    case measure => have := HG2.out; omega
              · obtain rfl : k = acts.length := by omega
                go_wp2_with fail
                refine (awake w7).mono ?_
                rintro e w8 ⟨rfl, hf⟩
                have H8 := Lib.hid (H7.out.fr hf)
                clear hf
                go_wp2_with fail
                go_ret
                exact ⟨rfl, H8.out.zs.bel⟩
theorem just (A0 : Option Addr) (c0 : Nat) (acts : List Ac) (ta tb : Int) (w : World) (hS0 : Sl w 3 A0 acts.length c0 (acts.flatMap ac)) (hG : ∀ a ∈ acts, a.key.size ≤ maxLen ∧ in64 a.e) :
    Calls Try.prog 8 #[.slice A0 acts.length c0, .int .i64 ta, .int .i64 tb] w fun e w' => e = .returned (.bool true) ∧ Below w.heap.size w w' := by
  rcases Int.lt_trichotomy ta tb with hab | hab | hab
  · exact just_lt A0 c0 acts ta tb hab w hS0 hG
  · subst hab; exact just_eq A0 c0 acts ta w hS0 hG
  · exact just_gt A0 c0 acts ta tb hab w hS0 hG
end Law16
end Go.Proofs.Ytkhhdadlpilbmaa
