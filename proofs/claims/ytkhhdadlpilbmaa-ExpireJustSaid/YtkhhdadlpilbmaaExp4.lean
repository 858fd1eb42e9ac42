/- Layer 16: lists of texts that are the same; the horizons; few acts. -/
import Derived.Test.YtkhhdadlpilbmaaRef16
import Derived.Test.YtkhhdadlpilbmaaSat2
import Derived.Test.YtkhhdadlpilbmaaExp3
namespace Go.Proofs.Ytkhhdadlpilbmaa
open Go.RowKit
namespace Law16
open KeyP ExpP
abbrev strs (l : List ByteArray) : List Value := l.map Value.string
theorem strs_at {l : List ByteArray} {k : Nat} (h : k < l.length) : (strs l)[k]? = some (.string l[k]) := by simp [h]
set_option maxRecDepth 100000 in
theorem SameTexts (A B : Option Addr) (ca cb : Nat) (a b : List ByteArray) (w : World) (ha : Sl w 1 A a.length ca (strs a)) (hb : Sl w 1 B b.length cb (strs b)) :
    Calls Try.prog 41 #[.slice A a.length ca, .slice B b.length cb] w fun e w' => e = .returned (.bool (decide (a = b))) ∧ Fr (fun _ => False) w w' := by
  have la : a.length ≤ 9223372036854775807 := by have := ha.2.1; have := ha.2.2.1; unfold maxLen at this; omega
  have lb : b.length ≤ 9223372036854775807 := by have := hb.2.1; have := hb.2.2.1; unfold maxLen at this; omega
  by_cases hl : a.length = b.length
  · have t1 : ((a.length : Int) != (b.length : Int)) = false := by simp [hl]
    have HL := Lib.hid hl
    clear hl
    go_enter Try.func41, Try.ntmps41
    go_wp2_with fail
    go_loopg [5] a.length (fun gk i wr => ∃ k : Nat, i = .int .i64 k ∧ k ≤ a.length ∧ gk = a.length - k ∧ a.take k = b.take k ∧ ∃ m, wr = w.drewN m)
    case atStart => exact ⟨0, rfl, Nat.zero_le _, rfl, by simp, 0, rfl⟩
    case round =>
      obtain ⟨k, rfl, hk, hg, htk, m, rfl⟩ := hrel
      have HT := Lib.hid htk; have HG := Lib.hid hg
      clear htk hg
      by_cases hlt : k < a.length
      · have hlt' : k < b.length := by have := HL.out; omega
        obtain ⟨b1, o1, rfl, -, c1⟩ := ha.at hlt (by omega)
        obtain ⟨b2, o2, rfl, -, c2⟩ := hb.at hlt' (by omega)
        have d1 : w.cell? ⟨b1, o1 + k, none⟩ = some (.string a[k]) := c1 k _ (strs_at hlt)
        have d2 : w.cell? ⟨b2, o2 + k, none⟩ = some (.string b[k]) := c2 k _ (strs_at hlt')
        have g1 : (w.drewN m).cell? ⟨b1, o1 + k, none⟩ = some (.string a[k]) := d1
        have g2 : (w.drewN m).cell? ⟨b2, o2 + k, none⟩ = some (.string b[k]) := d2
        have HA := Lib.hid ha; have HB := Lib.hid hb
        clear c1 c2 ha hb d1 d2
        have i1 : (k : Int) < (a.length : Int) := by omega
        have i2 : (k : Int) < (b.length : Int) := by omega
        have hta := List.take_succ_eq_append_getElem hlt
        have htb := List.take_succ_eq_append_getElem hlt'
        have HTA := Lib.hid hta; have HTB := Lib.hid htb
        clear hta htb
        generalize hwm : w.drewN m = wm at *
        have HW := Lib.hid hwm
        clear hwm
        generalize hak : a[k] = x at *
        generalize hbk : b[k] = y at *
        have HAK := Lib.hid hak; have HBK := Lib.hid hbk
        clear hak hbk
        by_cases hxy : x = y
        · have t2 : (x.toList == y.toList) = true := by simp [hxy]
          have HX := Lib.hid hxy
          clear hxy
          go_wp2_with fail
          go_quiet (fail)
          go_wp2_with fail
          go_roundg (a.length - (k + 1))
          case rel => exact ⟨k + 1, by go_num, by omega, rfl, by rw [HTA.out, HTB.out, HT.out, HX.out], m + nq, by rw [← HW.out]; simp [World.drewN, Nat.add_assoc]⟩
          case measure => have := HG.out; omega
        · have t2 : (x.toList == y.toList) = false := by have : x.toList ≠ y.toList := fun e => hxy (str_ext e); simpa using this
          have HX := Lib.hid hxy
          clear hxy
          go_wp2_with fail
          go_quiet (fail)
          go_wp2_with fail
          go_ret
          refine ⟨?_, ?_⟩
          · have : decide (a = b) = false := by
              rw [decide_eq_false_iff_not]
              rintro rfl
              exact HX.out (HAK.out.symm.trans HBK.out)
            rw [this]; rfl
          · rw [← HW.out]; exact (Fr.drewN _ w m).trans (Fr.drewN (fun _ => False) _ nq) (fun _ _ h => h) (fun _ _ h => h)
      · obtain rfl : k = a.length := by omega
        go_wp2_with fail
        go_ret
        refine ⟨?_, Fr.drewN _ _ _⟩
        have h1 := HT.out
        rw [List.take_of_length_le (Nat.le_refl _), HL.out, List.take_of_length_le (Nat.le_refl _)] at h1
        rw [h1]; simp
  · have t1 : ((a.length : Int) != (b.length : Int)) = true := by simp; omega
    have hne : a ≠ b := fun e => hl (by rw [e])
    have HN := Lib.hid hne
    clear hl hne
    go_enter Try.func41, Try.ntmps41
    go_wp2_with fail
    go_ret
    exact ⟨by have := HN.out; simp [this], Fr.refl _ _⟩
theorem SameTexts' (A B : Option Addr) (ca cb : Nat) (a b : List ByteArray) (w : World) (na nb : Nat) (hna : na = a.length) (hnb : nb = b.length) (ha : Sl w 1 A a.length ca (strs a)) (hb : Sl w 1 B b.length cb (strs b)) :
    Calls Try.prog 41 #[.slice A na ca, .slice B nb cb] w fun e w' => e = .returned (.bool (decide (a = b))) ∧ Fr (fun _ => False) w w' := by
  subst hna hnb
  exact SameTexts A B ca cb a b w ha hb
/-- An act. -/
structure Ac where
  k : Int
  key : ByteArray
  e : Int
abbrev ac (a : Ac) : List Value := [.int .i64 a.k, .string a.key, .int .i64 a.e]
theorem ac_len (a : Ac) : (ac a).length = 3 := rfl
def few (l : List Ac) : Bool := (l.take 60).all (fun a => decide (a.key.size ≤ 40)) && decide (l.length ≤ 60)
set_option maxRecDepth 100000 in
theorem Few (A : Option Addr) (c : Nat) (l : List Ac) (w : World) (hS : Sl w 3 A l.length c (l.flatMap ac)) (hl : ∀ a ∈ l, a.key.size ≤ 9223372036854775807) :
    Calls Try.prog 33 #[.slice A l.length c] w fun e w' => e = .returned (.bool (few l)) ∧ w = w' := by
  have hlen : l.length ≤ 9223372036854775807 := by have := hS.2.1; have := hS.2.2.1; unfold maxLen at this; omega
  have HS := Lib.hid hS; have HL := Lib.hid hl
  clear hS hl
  go_enter Try.func33, Try.ntmps33
  go_wp2_with fail
  go_loopg [3] l.length (fun gk i wr => ∃ k : Nat, i = .int .i64 k ∧ k ≤ l.length ∧ k ≤ 60 ∧ gk = l.length - k ∧ (l.take k).all (fun a => decide (a.key.size ≤ 40)) = true ∧ w = wr)
  case atStart => exact ⟨0, rfl, Nat.zero_le _, by omega, rfl, rfl, rfl⟩
  case round =>
    obtain ⟨k, rfl, hk, hk30, hg, hall, rfl⟩ := hrel
    have HG := Lib.hid hg; have HAll := Lib.hid hall
    clear hg hall
    by_cases hlt : k < l.length
    · by_cases h30 : k < 60
      · obtain ⟨b1, o1, rfl, hb1, hc1⟩ := HS.out.at hlt (by omega)
        have d1 : w.cell? ⟨b1, o1 + k * 3 + 1, none⟩ = some (.string l[k].key) := hc1 (k * 3 + 1) _ (by rw [flat_at ac_len hlt (by omega)]; rfl)
        have hl1 := HL.out _ (List.getElem_mem hlt)
        have HT : Hid ((l.take (k + 1)).all (fun a => decide (a.key.size ≤ 40)) = decide (l[k].key.size ≤ 40)) := by
          show _ = _
          rw [List.take_succ_eq_append_getElem hlt, List.all_append, HAll.out]; simp
        have HT2 : Hid (decide (l[k].key.size ≤ 40) = false → few l = false) := fun h => by
          unfold few
          have : (l.take 60).all (fun a => decide (a.key.size ≤ 40)) = false := by
            rw [Bool.eq_false_iff]; intro hx
            rw [List.all_eq_true] at hx
            have := hx l[k] (List.mem_take_iff_getElem.2 ⟨k, by omega, rfl⟩)
            rw [this] at h; cases h
          rw [this]; rfl
        clear hc1
        generalize l[k].key = ky at *
        by_cases h12 : ky.size ≤ 40
        · have t1 : decide ((40 : Int) < (ky.size : Int)) = false := by simp; omega
          go_wp2_with fail
          go_roundg (l.length - (k + 1))
          case rel => exact ⟨k + 1, by go_num, by omega, by omega, rfl, by rw [HT.out]; simpa using h12, rfl⟩
          case measure => have := HG.out; omega
        · have t1 : decide ((40 : Int) < (ky.size : Int)) = true := by simp; omega
          go_wp2_with fail
          go_ret
          exact ⟨by rw [HT2.out (by simpa using h12)]; rfl, rfl⟩
      · obtain rfl : k = 60 := by omega
        go_wp2_with fail
        go_ret
        exact ⟨by unfold few; rw [HAll.out]; simp; omega, rfl⟩
    · obtain rfl : k = l.length := by omega
      go_wp2_with fail
      go_ret
      exact ⟨by unfold few; rw [List.take_of_length_le (by omega)]; have := HAll.out; rw [List.take_length] at this; rw [this]; simp; omega, rfl⟩
theorem Horizon (a b : Int) (ha : in64 a) (hb : in64 b) (w : World) : Calls Try.prog 28 #[.int .i64 a, .int .i64 b] w fun e w' => e = .returned (.int .i64 (Sat2.cl (a - max b 0))) ∧ w = w' := by
  have hm : in64 (max b 0) := by unfold in64 at *; omega
  have HS := Lib.hid (Sat2.Sub ha hm w)
  clear ha hb hm
  go_enter Try.func28, Try.ntmps28
  rcases Int.lt_trichotomy b 0 with hb | rfl | hb
  · have h1 : max b 0 = 0 := by omega
    rw [h1] at HS ⊢
    go_wp2_with fail
    all_goals
      refine HS.out.mono ?_
      rintro e w1 ⟨rfl, rfl⟩
      go_wp2_with fail
      go_ret
      exact ⟨by rw [Int.sub_zero]; rfl, rfl⟩
  · have h1 : max (0 : Int) 0 = 0 := by omega
    rw [h1] at HS ⊢
    go_wp2_with fail
    all_goals
      refine HS.out.mono ?_
      rintro e w1 ⟨rfl, rfl⟩
      go_wp2_with fail
      go_ret
      exact ⟨by rw [Int.sub_zero]; rfl, rfl⟩
  · have h1 : max b 0 = b := by omega
    rw [h1] at HS ⊢
    go_wp2_with fail
    all_goals
      refine HS.out.mono ?_
      rintro e w1 ⟨rfl, rfl⟩
      go_wp2_with fail
      go_ret
      exact ⟨rfl, rfl⟩
theorem RefHorizon (a b : Int) (ha : in64 a) (hb : in64 b) (w : World) : Calls Try.prog 29 #[.int .i64 a, .int .i64 b] w fun e w' => e = .returned (.int .i64 (Sat2.cl (a - max b 0))) ∧ w = w' := by
  have hm : in64 (max b 0) := by unfold in64 at *; omega
  have HS := Lib.hid (Sat2.RefSub ha hm w)
  clear ha hb hm
  go_enter Try.func29, Try.ntmps29
  rcases Int.lt_trichotomy b 0 with hb | rfl | hb
  · have h1 : max b 0 = 0 := by omega
    rw [h1] at HS ⊢
    go_wp2_with fail
    all_goals
      refine HS.out.mono ?_
      rintro e w1 ⟨rfl, rfl⟩
      go_wp2_with fail
      go_ret
      exact ⟨by rw [Int.sub_zero]; rfl, rfl⟩
  · have h1 : max (0 : Int) 0 = 0 := by omega
    rw [h1] at HS ⊢
    go_wp2_with fail
    all_goals
      refine HS.out.mono ?_
      rintro e w1 ⟨rfl, rfl⟩
      go_wp2_with fail
      go_ret
      exact ⟨by rw [Int.sub_zero]; rfl, rfl⟩
  · have h1 : max b 0 = b := by omega
    rw [h1] at HS ⊢
    go_wp2_with fail
    all_goals
      refine HS.out.mono ?_
      rintro e w1 ⟨rfl, rfl⟩
      go_wp2_with fail
      go_ret
      exact ⟨rfl, rfl⟩
set_option maxRecDepth 100000 in
theorem Past (x : Sn) (hb : in64 x.b) (h : Int) (w : World) : Calls Try.prog 30 #[x.v, .int .i64 h] w fun e w' => e = .returned (.bool (decide (Sat2.endS x < h))) ∧ Fr (fun _ => False) w w' := by
  have HE := fun w => Lib.hid (Sat2.End x hb w)
  clear hb
  obtain ⟨t, i, p, r, s, o, u, d, g⟩ := x
  have HB := Lib.hid (Bk.new w #[.int .i64 t, .int .i64 i, .int .i64 p, .int .i64 r, .string s, .string o, .int .i64 u, .int .i64 d, .bool g] Sat2.TSn)
  have HF0 := Lib.hid (Fr.alloc (fun _ => False) w (.cells #[.int .i64 t, .int .i64 i, .int .i64 p, .int .i64 r, .string s, .string o, .int .i64 u, .int .i64 d, .bool g] Sat2.TSn))
  go_enter Try.func30, Try.ntmps30
  go_wp2_with fail
  refine (HE _).out.mono ?_
  rintro e w1 ⟨rfl, hf⟩
  have HF := Lib.hid (HF0.out.trans hf (fun _ _ h => h) (fun _ _ h => h))
  clear hf
  go_wp2_with fail
  go_ret
  exact ⟨rfl, HF.out⟩
set_option maxRecDepth 100000 in
theorem RefPast (x : Sn) (hb : in64 x.b) (h : Int) (w : World) : Calls Try.prog 31 #[x.v, .int .i64 h] w fun e w' => e = .returned (.bool (decide (Sat2.endS x < h))) ∧ Fr (fun _ => False) w w' := by
  have HE := fun w => Lib.hid (Sat2.RefEnd x hb w)
  clear hb
  obtain ⟨t, i, p, r, s, o, u, d, g⟩ := x
  have HB := Lib.hid (Bk.new w #[.int .i64 t, .int .i64 i, .int .i64 p, .int .i64 r, .string s, .string o, .int .i64 u, .int .i64 d, .bool g] Sat2.TSn)
  have HF0 := Lib.hid (Fr.alloc (fun _ => False) w (.cells #[.int .i64 t, .int .i64 i, .int .i64 p, .int .i64 r, .string s, .string o, .int .i64 u, .int .i64 d, .bool g] Sat2.TSn))
  go_enter Try.func31, Try.ntmps31
  go_wp2_with fail
  refine (HE _).out.mono ?_
  rintro e w1 ⟨rfl, hf⟩
  have HF := Lib.hid (HF0.out.trans hf (fun _ _ h => h) (fun _ _ h => h))
  clear hf
  go_wp2_with fail
  go_ret
  exact ⟨rfl, HF.out⟩
end Law16
end Go.Proofs.Ytkhhdadlpilbmaa
namespace Go.Proofs.Ytkhhdadlpilbmaa
open Go.RowKit
namespace Law16
open KeyP ExpP Ref16 Exp
attribute [local go_sem] Eng.ev Eng.getO_cons Eng.getO_nil
/-- The document's items are the index's. -/
structure Rl (L M : List It) : Prop where
  m : Srt M
  n : (L.map (·.1)).Nodup
  iff : ∀ p, p ∈ L ↔ p ∈ M
theorem Rl.nil : Rl [] [] := ⟨List.Pairwise.nil, by simp, by simp⟩
theorem nodup_of {L : List It} (h : (L.map (·.1)).Nodup) : L.Nodup := (List.pairwise_map.1 h).imp (fun {a b} hab e => hab (by rw [e]))
theorem Rl.len {L M : List It} (h : Rl L M) : L.length = M.length := ((List.perm_ext_iff_of_nodup (nodup_of h.n) (nodup_srt h.m)).2 h.iff).length_eq
theorem getR_mem {k : ByteArray} {v : Int} : ∀ {L : List It}, getR k L = some v → (k, v) ∈ L
  | [], h => by simp [getR] at h
  | p :: t, h => by
    rw [getR] at h
    by_cases e : p.1 = k
    · rw [if_pos e] at h; simp at h; subst h; subst e; simp
    · rw [if_neg e] at h; exact List.mem_cons_of_mem _ (getR_mem h)
theorem mem_getR {k : ByteArray} {v : Int} : ∀ {L : List It}, (L.map (·.1)).Nodup → (k, v) ∈ L → getR k L = some v
  | [], _, h => by simp at h
  | p :: t, hn, h => by
    rw [List.map_cons, List.nodup_cons] at hn
    rw [getR]
    rcases List.mem_cons.1 h with rfl | h
    · rw [if_pos rfl]
    · by_cases e : p.1 = k
      · exact absurd (List.mem_map.2 ⟨_, h, e.symm⟩) hn.1
      · rw [if_neg e]; exact mem_getR hn.2 h
theorem Rl.get {L M : List It} (h : Rl L M) (k : ByteArray) : getR k L = getL k M := by
  cases hr : getR k L with
  | some v => exact ((getL_iff h.m).2 ((h.iff _).1 (getR_mem hr))).symm
  | none =>
    cases hl : getL k M with
    | none => rfl
    | some v =>
      have := mem_getR h.n ((h.iff _).2 (getL_mem hl))
      rw [hr] at this; cases this
theorem nodup_drop {L : List It} (k : ByteArray) (h : (L.map (·.1)).Nodup) : ((dropR k L).map (·.1)).Nodup := by
  unfold dropR
  exact h.sublist ((List.filter_sublist).map _)
theorem mem_drop {L : List It} {k : ByteArray} {p : It} : p ∈ dropR k L ↔ p ∈ L ∧ p.1 ≠ k := by simp [dropR]
theorem Rl.drop {L M : List It} (h : Rl L M) (k : ByteArray) : Rl (dropR k L) (delL k M) :=
  ⟨srt_delL k h.m, nodup_drop k h.n, fun p => by rw [mem_drop, mem_del h.m, h.iff]⟩
theorem Rl.put {L M : List It} (h : Rl L M) (k : ByteArray) (v : Int) (hk : k.size = 16) : Rl (putR k v L) (insL k v M) := by
  unfold putR
  rw [if_pos hk]
  refine ⟨(srt_insL v h.m).1, ?_, fun p => ?_⟩
  · rw [List.map_append, List.map_cons, List.map_nil, List.nodup_append]
    refine ⟨nodup_drop k h.n, by simp, fun a ha b hb e => ?_⟩
    simp at hb
    subst hb; subst e
    obtain ⟨q, hq, he⟩ := List.mem_map.1 ha
    exact (mem_drop.1 hq).2 he
  · rw [mem_ins h.m, List.mem_append, mem_drop, h.iff, List.mem_singleton]
    constructor
    · rintro (h | h)
      · exact .inr h
      · exact .inl h
    · rintro (h | h)
      · exact .inr h
      · exact .inl h
theorem Rl.below {L M KL : List It} (h : Rl L M) (h1 : KL.Pairwise (fun p q => lt2 p q = true)) (h2 : ∀ p, p ∈ KL ↔ p ∈ M) (t : Int) : belowR t L = below t KL :=
  below_uni h1 h2 (belowR_srt t L (nodup_of h.n)) (fun p => by rw [mem_belowR, h.iff])
theorem putR_len (k : ByteArray) (v : Int) (L : List It) : (putR k v L).length ≤ L.length + 1 := by
  unfold putR; split
  · have := dropR_len k L; simp; omega
  · omega
/-- What lies below a time, and is told. -/
abbrev tt (t : Int) (L : List It) : List ByteArray := (belowR t L).map (·.1)
theorem tt_len (t : Int) (L : List It) : (tt t L).length = (belowR t L).length := by simp
theorem SameTT (A B : Option Addr) (ca cb : Nat) (l : List ByteArray) (w : World) (n : Nat) (hn : n = l.length) (ha : Sl w 1 A n ca (strs l)) (hb : Sl w 1 B n cb (strs l)) :
    Calls Try.prog 41 #[.slice A n ca, .slice B n cb] w fun e w' => e = .returned (.bool true) ∧ Fr (fun _ => False) w w' := by
  subst hn
  have h := SameTexts A B ca cb l l w ha hb
  rwa [show decide (l = l) = true by simp] at h
/-- What the index tells, given the document's list. -/
theorem TellI {B : Nat} {M L : List It} {F : List Nat} {w : World} (h : IB w B M F) (hr : Rl L M) (sz : M.length ≤ 1000000) (t : Int) :
    Calls Try.prog 42 #[.pointer (some ⟨B, 0, none⟩), .int .i64 t] w fun e w' => ∃ A c, e = .returned (.slice A (belowR t L).length c) ∧ Sl w' 1 A (belowR t L).length c (strs (tt t L)) ∧ Fr (fun _ => False) w w' := by
  refine (Exp.Below_ B M F t w h sz).mono ?_
  rintro e w' ⟨KL, v, h1, h2, rfl, ho, hb⟩
  rw [← hr.below h1 h2 t] at ho
  obtain ⟨A, c, rfl, hS, -⟩ := Sl.of_own ho
  exact ⟨A, c, rfl, hS, Fr.of_below' hb _⟩
theorem TellR {Bx : Nat} {L : List It} {F : List Nat} {w : World} (h : RX w Bx L F) (sz : L.length ≤ 1000000) (t : Int) :
    Calls Try.prog 43 #[.pointer (some ⟨Bx, 0, none⟩), .int .i64 t] w fun e w' => ∃ A c, e = .returned (.slice A (belowR t L).length c) ∧ Sl w' 1 A (belowR t L).length c (strs (tt t L)) ∧ Fr (fun _ => False) w w' := by
  refine (Ref16.Below_ Bx t L F w h sz).mono ?_
  rintro e w' ⟨v, rfl, ho, hb⟩
  obtain ⟨A, c, rfl, hS, -⟩ := Sl.of_own ho
  exact ⟨A, c, rfl, hS, Fr.of_below' hb _⟩
abbrev c1 : ByteArray := { data := #[48, 49, 50, 51, 52, 53, 54, 55, 56, 57, 97, 98, 99, 100, 101, 102] }
abbrev c2 : ByteArray := { data := #[102, 101, 100, 99, 98, 97, 57, 56, 55, 54, 53, 52, 51, 50, 49, 48] }
abbrev L2 : List It := [(c1, 5), (c2, 4)]
theorem aw_hor (w : World) : Calls Try.prog 28 #[.int .i64 5, .int .i64 10] w fun e w' => e = .returned (.int .i64 (-5)) ∧ w = w' := by
  have h := Horizon 5 10 (by unfold in64; omega) (by unfold in64; omega) w
  rwa [show Sat2.cl (5 - max 10 0) = -5 by decide] at h
abbrev sp0 : Sn := ⟨0, 0, 0, 0, ByteArray.empty, ByteArray.empty, 3, 4, false⟩
theorem aw_p8 (w : World) : Calls Try.prog 30 #[sp0.v, .int .i64 8] w fun e w' => e = .returned (.bool true) ∧ Fr (fun _ => False) w w' := by
  have h := Past sp0 (by unfold in64; decide) 8 w
  rwa [show decide (Sat2.endS sp0 < 8) = true by decide] at h
theorem aw_p7 (w : World) : Calls Try.prog 30 #[sp0.v, .int .i64 7] w fun e w' => e = .returned (.bool false) ∧ Fr (fun _ => False) w w' := by
  have h := Past sp0 (by unfold in64; decide) 7 w
  rwa [show decide (Sat2.endS sp0 < 7) = false by decide] at h
theorem z1 : c1.size = 16 := rfl
theorem z2 : c2.size = 16 := rfl
theorem c12 : Ord.lt c1 c2 = true := by decide +kernel
theorem mL2 : insL c2 4 (insL c2 3 (insL c1 5 [])) = L2 := by decide +kernel
theorem srt_L2 : Srt L2 := List.pairwise_cons.2 ⟨by simp; exact c12, List.pairwise_singleton _ _⟩
theorem c_ne : c1 ≠ c2 := fun e => by have := c12; rw [e, Ord.irr] at this; cases this
theorem rl_L2 : Rl L2 L2 := ⟨srt_L2, by simp [c_ne], fun _ => Iff.rfl⟩
theorem tt6 : tt 6 L2 = [c2, c1] := by decide +kernel
theorem tt5 : tt 5 L2 = [c2] := by decide +kernel
theorem get2 : getL c2 L2 = some 4 := by decide +kernel
end Law16
end Go.Proofs.Ytkhhdadlpilbmaa
