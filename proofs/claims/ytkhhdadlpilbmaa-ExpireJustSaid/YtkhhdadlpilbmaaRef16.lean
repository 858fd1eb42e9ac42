/- The document's index of what is past: dropping, putting, asking. -/
import Derived.Test.YtkhhdadlpilbmaaExpP
import Derived.Test.YtkhhdadlpilbmaaZone
import Derived.Test.YtkhhdadlpilbmaaOpenRow
import Derived.RegionTactic
import Derived.Outline
import Derived.Lib.Hide
import Derived.WalkSpells
import Derived.WalkLawsBesides
import Derived.Deep.LoopGhost
import Derived.Deep.QuietTactic
import Derived.BigQuiet
import Derived.OwnWalk
import Derived.IntWalk
import Derived.Test.YtkhhdadlpilbmaaEngT
import Derived.Deep.DeepCutAuto
import Derived.Deep.CutBlock
namespace Go.Proofs.Ytkhhdadlpilbmaa
open Go.RowKit
namespace Ref16
open KeyP ExpP
abbrev TR : TypeId := 70
abbrev TIt : TypeId := 129
abbrev TIs : TypeId := 68
abbrev ic (p : It) : List Value := [.string p.1, .int .i64 p.2]
theorem ic_len (p : It) : (ic p).length = 2 := rfl
theorem infoI : (Try.prog.info? 129).map (fun i => (i.zero, i.size, i.bytes)) = some (some (.agg #[.string ByteArray.empty, .int .i64 0]), 2, 24) := by kernel_rfl
/-- The document's index. -/
abbrev RX (w : World) (B : Nat) (L : List It) (F : List Nat) : Prop := SB w B TR 2 ic L F
/-- A slice that was made since w0 lies in it. -/
theorem RX.made {w0 w : World} {B : Nat} {L0 L : List It} {F : List Nat} {v : Value} (h : RX w0 B L0 F) (hb : Bk w B #[v] TR) (ho : w.ownsRow w0.heap.size TIt 2 v L.length (L.flatMap ic)) (hf : Fr (fun x => x ∈ F) w0 w) : ∃ F', RX w B L F' ∧ Tn F F' w0 w := by
  obtain ⟨A, c, rfl, hS, hA⟩ := Sl.of_own ho
  have hBF : B ∈ F ∧ B < w0.heap.size := by obtain ⟨A, c, h1, h2, rfl, h4⟩ := h; exact ⟨by simp, lt_of_heap h1⟩
  refine ⟨B :: ablk A, ⟨A, c, hb, hS, rfl, fun a ha => ⟨fun e => by have := (hA a ha).1; omega, (hA a ha).2.2⟩⟩, hf, fun x hx => ?_⟩
  rcases List.mem_cons.1 hx with rfl | hx
  · exact ⟨.inl hBF.1, lt_of_heap hb⟩
  · obtain ⟨a, ha, rfl⟩ := mem_ablk.1 hx
    exact ⟨.inr (hA a ha).1, (hA a ha).2.2⟩
def dropR (k : ByteArray) (L : List It) : List It := L.filter (fun p => decide (p.1 ≠ k))
theorem dropR_snoc (k : ByteArray) (L : List It) (p : It) : dropR k (L ++ [p]) = dropR k L ++ if p.1 = k then [] else [p] := by
  unfold dropR; rw [List.filter_append]; by_cases h : p.1 = k <;> simp [h]
theorem dropR_len (k : ByteArray) (L : List It) : (dropR k L).length ≤ L.length := List.length_filter_le _ _
theorem ic_at {w : World} {b o : Nat} {L : List It} {k : Nat} (hk : k < L.length) (hc : ∀ j u, (L.flatMap ic)[j]? = some u → w.cell? ⟨b, o + j, none⟩ = some u) : w.cell? ⟨b, o + k * 2, none⟩ = some (.string L[k].1) ∧ w.cell? ⟨b, o + k * 2 + 1, none⟩ = some (.int .i64 L[k].2) :=
  ⟨hc (k * 2) _ (by rw [← Nat.add_zero (k * 2), flat_at ic_len hk (by omega)]; rfl), hc (k * 2 + 1) _ (by rw [flat_at ic_len hk (by omega)]; rfl)⟩
def DropPost (B : Nat) (k : ByteArray) (L : List It) (F : List Nat) (w : World) (e : Ending) (w' : World) : Prop := e = .returned (.tuple #[]) ∧ ∃ v, Bk w' B #[v] TR ∧ w'.ownsRow w.heap.size TIt 2 v (dropR k L).length ((dropR k L).flatMap ic) ∧ Fr (fun x => x ∈ F) w w'
set_option maxRecDepth 100000 in
theorem Drop_ (B : Nat) (k : ByteArray) (L : List It) (F : List Nat) (w : World) (h : RX w B L F) (hlen : L.length ≤ 1000000) : Calls Try.prog 35 #[.pointer (some ⟨B, 0, none⟩), .string k] w (DropPost B k L F w) := by
  obtain ⟨i0, hi, hz0, hz1, hz2⟩ := info_parts infoI
  have hBF : B ∈ F := by obtain ⟨A, c, h1, h2, rfl, h4⟩ := h; simp
  obtain ⟨A, c, hB, hS, -, -⟩ := h
  have hBl := lt_of_heap hB
  have HB := Lib.hid hB; have HS := Lib.hid hS; have HF := Lib.hid hBF
  clear hB hS hBF
  go_enter Try.func35, Try.ntmps35
  go_wp2_with fail
  go_loopg [4, 5] L.length (fun gk v i wr => ∃ j : Nat, i = .int .i64 j ∧ j ≤ L.length ∧ gk = L.length - j ∧ wr.ownsRow w.heap.size TIt 2 v (dropR k (L.take j)).length ((dropR k (L.take j)).flatMap ic) ∧ Below w.heap.size w wr)
  case atStart => exact ⟨0, rfl, Nat.zero_le _, rfl, World.ownsRow_nil _ _ _ _, Below.refl _ _⟩
  case round =>
    obtain ⟨j, rfl, hj, hg, hown, hbel⟩ := hrel
    have HG := Lib.hid hg; have HBe := Lib.hid hbel
    have cB : wr.cell? ⟨B, 0, none⟩ = some (.slice A L.length c) := (hbel.cell (p := ⟨B, 0, none⟩) hBl).trans (HB.out.cell 0)
    have fB : wr.frozen? ⟨B, 0, none⟩ = false := free_of_block ((hbel.block B hBl).trans HB.out) 0
    have hszw : w.heap.size ≤ wr.heap.size := hbel.size
    have HPl : Hid ((dropR k (L.take j)).length ≤ 1000000) := by have := dropR_len k (L.take j); rw [List.length_take] at this; show _ ≤ _; omega
    clear hg hbel
    by_cases hlt : j < L.length
    · obtain ⟨b1, o1, rfl, hb1, c1⟩ := HS.out.at hlt (by omega)
      obtain ⟨d0, d1⟩ := ic_at hlt c1
      have d0 : wr.cell? ⟨b1, o1 + j * 2, none⟩ = some (.string L[j].1) := (HBe.out.cell (p := ⟨b1, _, none⟩) hb1).trans d0
      have d1 : wr.cell? ⟨b1, o1 + j * 2 + 1, none⟩ = some (.int .i64 L[j].2) := (HBe.out.cell (p := ⟨b1, _, none⟩) hb1).trans d1
      have HSn := Lib.hid (show dropR k (L.take (j + 1)) = dropR k (L.take j) ++ if L[j].1 = k then [] else [L[j]] by rw [List.take_succ_eq_append_getElem hlt, dropR_snoc])
      clear c1
      generalize L[j] = p at *
      obtain ⟨pk, pe⟩ := p
      generalize dropR k (L.take j) = P at *
      dsimp only at d0 d1
      by_cases hk : pk = k
      · have q : (pk.toList == k.toList) = true := by rw [hk]; simp
        have HE : Hid (dropR k (L.take (j + 1)) = P) := by show _ = _; rw [HSn.out]; simp [hk]
        have HO := Lib.hid hown
        clear hk hown d1
        go_wp2_with fail
        go_roundg (L.length - (j + 1))
        case rel => exact ⟨j + 1, by go_num, by omega, rfl, by rw [HE.out]; exact HO.out, HBe.out⟩
        case measure => have := HG.out; omega
      · have q : (pk.toList == k.toList) = false := by
          have : pk.toList ≠ k.toList := fun e => hk (str_ext e)
          simpa using this
        have HE : Hid (dropR k (L.take (j + 1)) = P ++ [(pk, pe)]) := by show _ = _; rw [HSn.out]; simp [hk]
        have hown1' := hown.alloc (.cells #[.string pk, .int .i64 pe] TIt)
        have HK1 := Lib.hid (ownsRow_blk hown)
        clear hk hown
        go_wp2_with (at_builtin; refine wpList_append_sl _ rfl (.tmp 25) (.tmp 33) TIs rfl w.heap.size TIt i0 (.agg #[.string ByteArray.empty, .int .i64 0]) 2 24 Try.underlying68 hi hz0 hz1 hz2 rfl (by decide) _ _ _ rfl hown1' _ _ _ _ rfl (Sl.one wr TIt (ic (pk, pe)) 2 rfl) (by simp [Value.oneCell']) ?_ ?_ ?_ ?_)
        · unfold maxLen; have := HPl.out; omega
        · have := HPl.out; omega
        · first | omega | (simp; omega)
        intro v1 w1 hown1 hgrow1
        have HO := Lib.hid hown1; have HGr := Lib.hid hgrow1
        clear hown1 hgrow1 hown1'
        go_wp2_with fail
        go_roundg (L.length - (j + 1))
        case rel => exact ⟨j + 1, by go_num, by omega, rfl, by rw [HE.out]; simpa using HO.out, (HBe.out.alloc hszw _).grown HGr.out (by simp; omega) (fun k e => (HK1.out k e).1)⟩
        case measure => have := HG.out; omega
    · obtain rfl : j = L.length := by omega
      rw [List.take_length] at hown HPl
      have HO := Lib.hid hown
      obtain ⟨A2, c2, rfl, -, -⟩ := Sl.of_own hown
      have hne : ∀ b, (Value.slice A2 (dropR k L).length c2).ownBlock = some b → b ≠ B := fun b hb e => by have := (ownsRow_blk hown b hb).1; omega
      have HN := Lib.hid hne
      have HB1 := Lib.hid (show Bk wr B #[.slice A L.length c] TR from (HBe.out.block B hBl).trans HB.out)
      clear hown hne
      go_wp2_with fail
      have hfs := fun u => Fr.setCell wr ⟨B, 0, none⟩ u (S := (· = B)) rfl
      have key : DropPost B k L F w (.returned (.tuple #[])) (wr.setCell ⟨B, 0, none⟩ (.slice A2 (dropR k L).length c2)) := ⟨rfl, _, HB1.out.set 0 _, ownsRow_fr HO.out (hfs _) (fun b hb e => HN.out b hb e), (Fr.of_below' HBe.out _).trans (hfs _) (fun _ _ h => h) (fun _ _ e => by subst e; exact HF.out)⟩
      first | (go_end0; exact key) | exact bodyPost_ret (results_none rfl _ _ _) rfl key
theorem Drop (B : Nat) (k : ByteArray) (L : List It) (F : List Nat) (w : World) (h : RX w B L F) (hlen : L.length ≤ 1000000) : Calls Try.prog 35 #[.pointer (some ⟨B, 0, none⟩), .string k] w fun e w' => e = .returned (.tuple #[]) ∧ ∃ F', RX w' B (dropR k L) F' ∧ Tn F F' w w' := by
  refine (Drop_ B k L F w h hlen).mono ?_
  rintro e w' ⟨rfl, v, hb, ho, hf⟩
  exact ⟨rfl, h.made hb ho hf⟩
def putR (k : ByteArray) (v : Int) (L : List It) : List It := if k.size = 16 then dropR k L ++ [(k, v)] else L
set_option maxRecDepth 100000 in
theorem Put (B : Nat) (k : ByteArray) (v : Int) (L : List It) (F : List Nat) (w : World) (h : RX w B L F) (hlen : L.length ≤ 100000) : Calls Try.prog 37 #[.pointer (some ⟨B, 0, none⟩), .string k, .int .i64 v] w fun e w' => e = .returned (.tuple #[]) ∧ ∃ F', RX w' B (putR k v L) F' ∧ Tn F F' w w' := by
  obtain ⟨i0, hi, hz0, hz1, hz2⟩ := info_parts infoI
  by_cases hk : k.size = 16
  · have q : ((k.size : Int) != 16) = false := by rw [hk]; rfl
    have HE : Hid (putR k v L = dropR k L ++ [(k, v)]) := by show _ = _; unfold putR; rw [if_pos hk]
    have HD := Lib.hid (Drop_ B k L F w h (by omega))
    have HDl := dropR_len k L
    have H := Lib.hid h
    clear hk h
    go_enter Try.func37, Try.ntmps37
    go_wp2_with fail
    refine HD.out.mono ?_
    rintro e w1 ⟨rfl, u, hb, ho, hf⟩
    have c0 : w1.cell? ⟨B, 0, none⟩ = some u := hb.cell 0
    have f0 := hb.free 0
    have HB := Lib.hid hb; have HF := Lib.hid hf
    have hown1' := ho.alloc (.cells #[.string k, .int .i64 v] TIt)
    have HK1 := Lib.hid (ownsRow_blk ho)
    have hsz : w.heap.size ≤ w1.heap.size := hf.size
    have HBF : Hid (B ∈ F ∧ B < w.heap.size) := by obtain ⟨A, c, h1, h2, rfl, h4⟩ := H.out; exact ⟨by simp, lt_of_heap h1⟩
    clear hb ho hf HD
    go_wp2_with (at_builtin; refine wpList_append_sl _ rfl (.tmp 16) (.tmp 20) TIs rfl w.heap.size TIt i0 (.agg #[.string ByteArray.empty, .int .i64 0]) 2 24 Try.underlying68 hi hz0 hz1 hz2 rfl (by decide) _ _ _ rfl hown1' _ _ _ _ rfl (Sl.one w1 TIt (ic (k, v)) 2 rfl) (by simp [Value.oneCell']) ?_ ?_ ?_ ?_)
    · unfold maxLen; omega
    · omega
    · first | omega | (simp; omega)
    intro v2 w2 hown2 hgr2
    have f1 : Fr (fun b => u.ownBlock = some b) w1 w2 := (Fr.alloc (fun _ => False) w1 _).trans (Fr.grown hgr2 (S := fun b => u.ownBlock = some b) (fun k h => h)) (fun _ _ h => h.elim) (fun _ _ h => h)
    have hb2 : Bk w2 B #[u] TR := HB.out.fr f1 (fun b hb h => by simp at hb; subst hb; have := (HK1.out _ h).1; have := HBF.out.2; omega)
    have c2 : w2.cell? ⟨B, 0, none⟩ = some u := hb2.cell 0
    have f2 := hb2.free 0
    obtain ⟨A2, c2', rfl, -, -⟩ := Sl.of_own hown2
    have HO2 := Lib.hid hown2; have HF1 := Lib.hid f1; have HB2 := Lib.hid hb2
    clear hown1' hown2 hgr2 f1 hb2 c0 f0
    go_wp2_with fail
    have hfs := fun u => Fr.setCell w2 ⟨B, 0, none⟩ u (S := (· = B)) rfl
    have key : ∃ F', RX (w2.setCell ⟨B, 0, none⟩ (.slice A2 ((dropR k L).length + 1) c2')) B (putR k v L) F' ∧ Tn F F' w (w2.setCell ⟨B, 0, none⟩ (.slice A2 ((dropR k L).length + 1) c2')) := by
      rw [HE.out]
      refine H.out.made (HB2.out.set 0 _) (by have := ownsRow_fr HO2.out (hfs (.slice A2 ((dropR k L).length + 1) c2')) (fun b hb e => by have := (ownsRow_blk HO2.out b hb).1; have := HBF.out.2; omega); simpa using this) ?_
      have g1 : Fr (fun x => x ∈ F) w w2 := HF.out.trans HF1.out (fun _ _ h => h) (fun i hi h => by have := (HK1.out i h).1; omega)
      exact g1.trans (hfs _) (fun _ _ h => h) (fun _ _ e => by subst e; exact HBF.out.1)
    first | (go_end0; exact ⟨rfl, key⟩) | exact bodyPost_ret (results_none rfl _ _ _) rfl ⟨rfl, key⟩
  · have q : ((k.size : Int) != 16) = true := by simp; omega
    have key : ∃ F', RX w B (putR k v L) F' ∧ Tn F F' w w := ⟨F, by unfold putR; rw [if_neg hk]; exact h, Tn.refl h.lt⟩
    have HK := Lib.hid key
    clear hk h key
    go_enter Try.func37, Try.ntmps37
    go_wp2_with fail
    first | (go_end0; exact ⟨rfl, HK.out⟩) | exact bodyPost_ret (results_none rfl _ _ _) rfl ⟨rfl, HK.out⟩
end Ref16
end Go.Proofs.Ytkhhdadlpilbmaa
namespace Go.Proofs.Ytkhhdadlpilbmaa
open Go.RowKit
namespace Ref16
open KeyP ExpP
attribute [local go_sem] Eng.ev Eng.getO_cons Eng.getO_nil
abbrev TStr : TypeId := 9
abbrev TSs : TypeId := 78
theorem infoS : (Try.prog.info? 9).map (fun i => (i.zero, i.size, i.bytes)) = some (some (.string ByteArray.empty), 1, 16) := by kernel_rfl
abbrev strs (l : List ByteArray) : List Value := l.map Value.string
/-- What a key has. -/
def getR (k : ByteArray) : List It → Option Int
  | [] => none
  | p :: t => if p.1 = k then some p.2 else getR k t
theorem getR_skip (k : ByteArray) : ∀ (L : List It) (j : Nat), j ≤ L.length → (∀ i (h : i < L.length), i < j → L[i].1 ≠ k) → getR k L = getR k (L.drop j)
  | L, 0, _, _ => rfl
  | [], j + 1, h, _ => by simp at h
  | p :: t, j + 1, h, h0 => by
    have h1 : p.1 ≠ k := h0 0 (by simp) (by omega)
    rw [getR, if_neg h1, getR_skip k t j (by simpa using h) (fun i hi hj => h0 (i + 1) (by simpa using hi) (by omega))]
    rfl
/-- How many lie ahead of an item. -/
def lowR (x : It) : List It → Nat
  | [] => 0
  | y :: t => if lt2 y x = true then lowR x t + 1 else 0
theorem lowR_le (x : It) : ∀ l, lowR x l ≤ l.length
  | [] => Nat.le_refl _
  | y :: t => by have := lowR_le x t; unfold lowR; split <;> simp <;> omega
theorem lowR_at (x : It) : ∀ (l : List It) (k : Nat), (∀ i (h : i < l.length), i < k → lt2 l[i] x = true) → (k = l.length ∨ ∃ h : k < l.length, lt2 l[k] x = false) → lowR x l = k
  | [], k, _, h => by
    rcases h with h | ⟨h, _⟩
    · simp at h; subst h; rfl
    · simp at h
  | y :: t, 0, _, h => by
    rcases h with h | ⟨_, h⟩
    · simp at h
    · have h' : lt2 y x = false := h
      rw [lowR, h', if_neg (by simp)]
  | y :: t, k + 1, h0, h => by
    have h1 : lt2 y x = true := h0 0 (by simp) (by omega)
    rw [lowR, h1, if_pos rfl, lowR_at x t k (fun i hi hk => h0 (i + 1) (by simpa using hi) (by omega))]
    rcases h with h | ⟨hl, h⟩
    · exact .inl (by simpa using h)
    · exact .inr ⟨by simpa using hl, h⟩
def insR (x : It) (l : List It) : List It := l.take (lowR x l) ++ x :: l.drop (lowR x l)
def belowR (time : Int) (L : List It) : List It := L.foldl (fun l p => if p.2 < time then insR p l else l) []
theorem belowR_snoc (time : Int) (L : List It) (p : It) : belowR time (L ++ [p]) = if p.2 < time then insR p (belowR time L) else belowR time L := by
  unfold belowR; rw [List.foldl_append]; rfl
theorem insR_len (x : It) (l : List It) : (insR x l).length = l.length + 1 := by
  have := lowR_le x l; unfold insR; simp; omega
theorem belowR_len (time : Int) (L : List It) : (belowR time L).length ≤ L.length := by
  unfold belowR
  suffices h : ∀ (L out : List It), (L.foldl (fun l p => if p.2 < time then insR p l else l) out).length ≤ L.length + out.length by simpa using h L []
  intro L
  induction L with
  | nil => intro out; simp
  | cons p t ih =>
    intro out
    simp only [List.foldl_cons, List.length_cons]
    have := ih (if p.2 < time then insR p out else out)
    have h2 : (if p.2 < time then insR p out else out).length ≤ out.length + 1 := by
      split
      · rw [insR_len]; exact Nat.le_refl _
      · omega
    omega
theorem mem_insR (x p : It) (l : List It) : p ∈ insR x l ↔ p = x ∨ p ∈ l := by
  have h : p ∈ l ↔ p ∈ l.take (lowR x l) ∨ p ∈ l.drop (lowR x l) := by
    rw [← List.mem_append, List.take_append_drop]
  unfold insR
  rw [List.mem_append, List.mem_cons, h]
  constructor
  · rintro (h | h | h)
    · exact .inr (.inl h)
    · exact .inl h
    · exact .inr (.inr h)
  · rintro (h | h | h)
    · exact .inr (.inl h)
    · exact .inl h
    · exact .inr (.inr h)
theorem mem_belowR (time : Int) (p : It) (L : List It) : p ∈ belowR time L ↔ p ∈ L ∧ p.2 < time := by
  unfold belowR
  suffices h : ∀ (L out : List It), p ∈ (L.foldl (fun l p => if p.2 < time then insR p l else l) out) ↔ (p ∈ L ∧ p.2 < time) ∨ p ∈ out by simpa using h L []
  intro L
  induction L with
  | nil => intro out; simp
  | cons a t ih =>
    intro out
    rw [List.foldl_cons, ih, List.mem_cons]
    by_cases h : a.2 < time
    · rw [if_pos h, mem_insR]
      constructor
      · rintro (⟨h1, h2⟩ | rfl | h1)
        · exact .inl ⟨.inr h1, h2⟩
        · exact .inl ⟨.inl rfl, h⟩
        · exact .inr h1
      · rintro (⟨rfl | h1, h2⟩ | h1)
        · exact .inr (.inl rfl)
        · exact .inl ⟨h1, h2⟩
        · exact .inr (.inr h1)
    · rw [if_neg h]
      constructor
      · rintro (⟨h1, h2⟩ | h1)
        · exact .inl ⟨.inr h1, h2⟩
        · exact .inr h1
      · rintro (⟨rfl | h1, h2⟩ | h1)
        · exact absurd h2 h
        · exact .inl ⟨h1, h2⟩
        · exact .inr h1
theorem lt2_tri {p q : It} (h1 : lt2 p q = false) (h2 : lt2 q p = false) : p = q := by
  simp only [lt2, Bool.or_eq_false_iff, Bool.and_eq_false_iff, decide_eq_false_iff_not] at h1 h2
  have e : p.2 = q.2 := by have := h1.1; have := h2.1; omega
  have a1 : Ord.lt p.1 q.1 = false := by rcases h1.2 with h | h; exact absurd e h; exact h
  have a2 : Ord.lt q.1 p.1 = false := by rcases h2.2 with h | h; exact absurd e.symm h; exact h
  exact Prod.ext (Ord.tri _ _ a1 a2) e
theorem insR_cons (x y : It) (t : List It) : insR x (y :: t) = if lt2 y x = true then y :: insR x t else x :: y :: t := by
  unfold insR
  rw [lowR]
  by_cases h : lt2 y x = true
  · rw [if_pos h, if_pos h]; rfl
  · rw [if_neg h, if_neg h]; rfl
theorem insR_srt (x : It) : ∀ {l : List It}, l.Pairwise (fun p q => lt2 p q = true) → x ∉ l → (insR x l).Pairwise (fun p q => lt2 p q = true)
  | [], _, _ => by simp [insR, lowR]
  | y :: t, h, hx => by
    obtain ⟨h1, h2⟩ := List.pairwise_cons.1 h
    rw [insR_cons]
    by_cases hy : lt2 y x = true
    · rw [if_pos hy]
      refine List.pairwise_cons.2 ⟨fun p hp => ?_, insR_srt x h2 (fun e => hx (by simp [e]))⟩
      rcases (mem_insR x p t).1 hp with rfl | hp
      · exact hy
      · exact h1 p hp
    · rw [if_neg hy]
      have hxy : lt2 x y = true := by
        by_cases e : lt2 x y = true
        · exact e
        · exact absurd (lt2_tri (by simpa using hy) (by simpa using e)) (fun e => hx (by simp [e]))
      refine List.pairwise_cons.2 ⟨fun p hp => ?_, h⟩
      rcases List.mem_cons.1 hp with rfl | hp
      · exact hxy
      · exact lt2_tr hxy (h1 p hp)
theorem belowR_srt (time : Int) (L : List It) (hn : L.Nodup) : (belowR time L).Pairwise (fun p q => lt2 p q = true) := by
  unfold belowR
  suffices h : ∀ (L out : List It), L.Nodup → out.Pairwise (fun p q => lt2 p q = true) → (∀ p ∈ L, p ∉ out) → (L.foldl (fun l p => if p.2 < time then insR p l else l) out).Pairwise (fun p q => lt2 p q = true) from h L [] hn List.Pairwise.nil (by simp)
  intro L
  induction L with
  | nil => intro out _ h _; exact h
  | cons a t ih =>
    intro out hn ho hd
    obtain ⟨n1, n2⟩ := List.nodup_cons.1 hn
    rw [List.foldl_cons]
    by_cases h : a.2 < time
    · rw [if_pos h]
      refine ih _ n2 (insR_srt a ho (hd a (by simp))) (fun p hp hq => ?_)
      rcases (mem_insR a p out).1 hq with rfl | hq
      · exact n1 hp
      · exact hd p (by simp [hp]) hq
    · rw [if_neg h]
      exact ih _ n2 ho (fun p hp => hd p (by simp [hp]))
theorem flat_take {A : Type} {f : A → List Value} {sz : Nat} (hf : ∀ x, (f x).length = sz) : ∀ (l : List A) (k : Nat), (l.flatMap f).take (k * sz) = (l.take k).flatMap f
  | [], k => by simp
  | a :: t, 0 => by simp
  | a :: t, k + 1 => by
    rw [List.flatMap_cons, List.take_succ_cons, List.flatMap_cons, ← flat_take hf t k, List.take_append, hf, List.take_of_length_le (by rw [hf]; exact Nat.le_mul_of_pos_left _ (by omega))]
    rw [show (k + 1) * sz - sz = k * sz by rw [Nat.add_mul]; omega]
theorem flat_drop {A : Type} {f : A → List Value} {sz : Nat} (hf : ∀ x, (f x).length = sz) : ∀ (l : List A) (k : Nat), (l.flatMap f).drop (k * sz) = (l.drop k).flatMap f
  | [], k => by simp
  | a :: t, 0 => by simp
  | a :: t, k + 1 => by
    rw [List.flatMap_cons, List.drop_succ_cons, ← flat_drop hf t k, List.drop_append, hf, List.drop_of_length_le (by rw [hf]; exact Nat.le_mul_of_pos_left _ (by omega)), List.nil_append]
    rw [show (k + 1) * sz - sz = k * sz by rw [Nat.add_mul]; omega]
theorem cells_ic (l : List It) : ∀ u ∈ l.flatMap ic, u.oneCell' = true := by
  intro u hu
  obtain ⟨p, -, hp⟩ := List.mem_flatMap.1 hu
  simp only [List.mem_cons, List.not_mem_nil, or_false] at hp
  rcases hp with rfl | rfl <;> rfl
set_option maxRecDepth 100000 in
theorem ahead (p q : It) (w : World) : Calls Try.prog 89 #[.agg #[.string p.1, .int .i64 p.2], .agg #[.string q.1, .int .i64 q.2]] w fun e w' => e = .returned (.bool (lt2 p q)) ∧ Fr (fun _ => False) w w' := by
  obtain ⟨pk, pe⟩ := p
  obtain ⟨qk, qe⟩ := q
  have HE : Hid (lt2 (pk, pe) (qk, qe) = (decide (pe < qe) || (decide (pe = qe) && Op.bytesLess pk.toList qk.toList))) := rfl
  have hf : ∀ o1 o2 : Obj, Fr (fun _ => False) w ((w.alloc o1).alloc o2) := fun o1 o2 => (Fr.alloc _ w o1).trans (Fr.alloc (fun _ => False) _ o2) (fun _ _ h => h) (fun _ _ h => h)
  have HF := Lib.hid hf
  clear hf
  by_cases h1 : pe < qe
  · have t1 : decide (pe < qe) = true := by simpa using h1
    have HX : Hid (lt2 (pk, pe) (qk, qe) = true) := by show _ = _; rw [HE.out, t1]; rfl
    go_enter Try.func89, Try.ntmps89
    go_wp2_with fail
    first | go_end0 | go_ret
    exact ⟨by rw [HX.out]; try rfl, HF.out _ _⟩
  · have t1 : decide (pe < qe) = false := by simpa using h1
    by_cases h2 : pe = qe
    · have t2 : (pe == qe) = true := by simpa using h2
      cases hb : Op.bytesLess pk.toList qk.toList with
      | true =>
        have HX : Hid (lt2 (pk, pe) (qk, qe) = true) := by show _ = _; rw [HE.out, t1, hb, h2]; simp
        clear h2
        go_enter Try.func89, Try.ntmps89
        go_wp2_with fail
        first | go_end0 | go_ret
        exact ⟨by rw [HX.out]; try rfl, HF.out _ _⟩
      | false =>
        have HX : Hid (lt2 (pk, pe) (qk, qe) = false) := by show _ = _; rw [HE.out, t1, hb]; simp
        clear h2
        go_enter Try.func89, Try.ntmps89
        go_wp2_with fail
        first | go_end0 | go_ret
        exact ⟨by rw [HX.out]; try rfl, HF.out _ _⟩
    · have t2 : (pe == qe) = false := by simpa using h2
      have HX : Hid (lt2 (pk, pe) (qk, qe) = false) := by show _ = _; rw [HE.out, t1]; simp [h2]
      clear h2
      go_enter Try.func89, Try.ntmps89
      go_wp2_with fail
      first | go_end0 | go_ret
      exact ⟨by rw [HX.out]; try rfl, HF.out _ _⟩
set_option maxRecDepth 100000 in
theorem End (B : Nat) (k : ByteArray) (L : List It) (F : List Nat) (w : World) (h : RX w B L F) (hlen : L.length ≤ 1000000) : Calls Try.prog 39 #[.pointer (some ⟨B, 0, none⟩), .string k] w fun e w' => e = .returned (.tuple #[.int .i64 ((getR k L).getD 0), .bool (getR k L).isSome]) ∧ w = w' := by
  obtain ⟨A, c, hB, hS, -, -⟩ := h
  have cB : w.cell? ⟨B, 0, none⟩ = some (.slice A L.length c) := hB.cell 0
  have HS := Lib.hid hS
  clear hB hS
  go_enter Try.func39, Try.ntmps39
  go_wp2_with fail
  go_loopg [6] L.length (fun gk i wr => ∃ j : Nat, i = .int .i64 j ∧ j ≤ L.length ∧ gk = L.length - j ∧ (∀ i (h : i < L.length), i < j → L[i].1 ≠ k) ∧ w = wr)
  case atStart => exact ⟨0, rfl, Nat.zero_le _, rfl, fun i h h' => by omega, rfl⟩
  case round =>
    obtain ⟨j, rfl, hj, hg, hne, rfl⟩ := hrel
    have HG := Lib.hid hg; have HN := Lib.hid hne
    clear hg hne
    by_cases hlt : j < L.length
    · obtain ⟨b1, o1, rfl, hb1, c1⟩ := HS.out.at hlt (by omega)
      obtain ⟨d0, d1⟩ := ic_at hlt c1
      have HSk : Hid (getR k L = getR k (L[j] :: L.drop (j + 1))) := by show _ = _; rw [getR_skip k L j hj HN.out, List.drop_eq_getElem_cons hlt]
      have HNx : Hid (L[j].1 ≠ k → ∀ i (h : i < L.length), i < j + 1 → L[i].1 ≠ k) := fun hx i h hi => by
        rcases Nat.lt_succ_iff_lt_or_eq.1 hi with hi | rfl
        · exact HN.out i h hi
        · exact hx
      clear c1
      generalize L[j] = p at *
      obtain ⟨pk, pe⟩ := p
      dsimp only at d0 d1
      by_cases hk : pk = k
      · have q : (pk.toList == k.toList) = true := by rw [hk]; simp
        have HE : Hid (getR k L = some pe) := by show _ = _; rw [HSk.out, getR, if_pos hk]
        clear hk
        go_wp2_with fail
        exact bodyPost_ret (v := .tuple #[.int .i64 pe, .bool true]) (by simp [results, Try.results39, go_sem]) rfl ⟨by rw [HE.out]; rfl, rfl⟩
      · have q : (pk.toList == k.toList) = false := by
          have : pk.toList ≠ k.toList := fun e => hk (str_ext e)
          simpa using this
        have HK := Lib.hid hk
        clear hk
        go_wp2_with fail
        go_roundg (L.length - (j + 1))
        case rel => exact ⟨j + 1, by go_num, by omega, rfl, HNx.out HK.out, rfl⟩
        case measure => have := HG.out; omega
    · obtain rfl : j = L.length := by omega
      have HE : Hid (getR k L = none) := by show _ = _; rw [getR_skip k L L.length (Nat.le_refl _) HN.out, List.drop_length]; rfl
      go_wp2_with fail
      exact bodyPost_ret (v := .tuple #[.int .i64 0, .bool false]) (by simp [results, Try.results39, go_sem]) rfl ⟨by rw [HE.out]; rfl, rfl⟩
set_option maxRecDepth 100000 in
set_option maxHeartbeats 400000 in
theorem bw7 {ops : Array Oper} (hops : Eng.fnOps Try.f43 7 = ops) (a0 : Act) (Q : Exit → Act → World → Prop) (w : World) (B b1 o1 n c j b2 o2 m d k : Nat) (pk qk : ByteArray) (pe qe : Int) (hj : j < n) (hk : k < m) (l0 : B < w.heap.size) (l1 : b1 < w.heap.size) (l2 : b2 < w.heap.size) (e0 : w.cell? ⟨B, 0, none⟩ = some (.slice (some ⟨b1, o1, none⟩) n c)) (e1 : w.cell? ⟨b1, o1 + j * 2, none⟩ = some (.string pk)) (e2 : w.cell? ⟨b1, o1 + j * 2 + 1, none⟩ = some (.int .i64 pe)) (e3 : w.cell? ⟨b2, o2 + k * 2, none⟩ = some (.string qk)) (e4 : w.cell? ⟨b2, o2 + k * 2 + 1, none⟩ = some (.int .i64 qe))
    (hn : a0.tmps.size = 85) (h_0 : a0.tmps.getD 0 undef = .pointer (some ⟨B, 0, none⟩)) (h_5 : a0.tmps.getD 5 undef = .slice (some ⟨b2, o2, none⟩) m d) (h_6 : a0.tmps.getD 6 undef = .int .i64 (j : Int)) (h_7 : a0.tmps.getD 7 undef = .int .i64 (k : Int))
    (hpost : ∀ (x : Nat → Value) (w' : World), x 47 = .bool (lt2 (qk, qe) (pk, pe)) → Fr (fun _ => False) w w' → Q .normal (Eng.setAll a0 [30, 31, 32, 33, 34, 35, 36, 37, 38, 39, 40, 41, 42, 43, 44, 45, 46, 47] x) w') :
    (Code.region 7 ops true).wp Try.prog Q a0 w := by
  simp only [Eng.fnOps, Eng.regOps, Try.f43, Option.bind_some, Option.getD_some, Nat.reduceEqDiff, ↓reduceIte, Nat.reduceBEq] at hops
  subst hops
  have q1 : (0 : Int) ≤ (j : Int) := by omega
  have q2 : (j : Int) < (n : Int) := by omega
  have q3 : (0 : Int) ≤ (k : Int) := by omega
  have q4 : (k : Int) < (m : Int) := by omega
  have q5 : decide ((k : Int) < (m : Int)) = true := by simpa using q4
  have HSt := Lib.hid (Fr.drew (fun _ => False) w)
  have hSS : w.drew.cell? ⟨B, 0, none⟩ = some (.slice (some ⟨b1, o1, none⟩) n c) ∧ w.drew.cell? ⟨b1, o1 + j * 2, none⟩ = some (.string pk) ∧ w.drew.cell? ⟨b1, o1 + j * 2 + 1, none⟩ = some (.int .i64 pe) ∧ w.drew.cell? ⟨b2, o2 + k * 2, none⟩ = some (.string qk) ∧ w.drew.cell? ⟨b2, o2 + k * 2 + 1, none⟩ = some (.int .i64 qe) := ⟨(World.cell?_of_block (w := w) (a := ⟨B, 0, none⟩) (HSt.out.block B l0 (fun h => h))).trans e0, (World.cell?_of_block (w := w) (a := ⟨b1, o1 + j * 2, none⟩) (HSt.out.block b1 l1 (fun h => h))).trans e1, (World.cell?_of_block (w := w) (a := ⟨b1, o1 + j * 2 + 1, none⟩) (HSt.out.block b1 l1 (fun h => h))).trans e2, (World.cell?_of_block (w := w) (a := ⟨b2, o2 + k * 2, none⟩) (HSt.out.block b2 l2 (fun h => h))).trans e3, (World.cell?_of_block (w := w) (a := ⟨b2, o2 + k * 2 + 1, none⟩) (HSt.out.block b2 l2 (fun h => h))).trans e4⟩
  refine Eng.regionN [(0, true), (1, true), (2, true), (3, true), (4, true), (5, true), (6, true), (7, true), (8, true), (9, true), (10, true), (11, true), (12, true), (13, true), (14, true), (15, true), (16, false), (17, true)] (fun w' => w'.cell? ⟨B, 0, none⟩ = some (.slice (some ⟨b1, o1, none⟩) n c) ∧ w'.cell? ⟨b1, o1 + j * 2, none⟩ = some (.string pk) ∧ w'.cell? ⟨b1, o1 + j * 2 + 1, none⟩ = some (.int .i64 pe) ∧ w'.cell? ⟨b2, o2 + k * 2, none⟩ = some (.string qk) ∧ w'.cell? ⟨b2, o2 + k * 2 + 1, none⟩ = some (.int .i64 qe)) (by kernel_rfl) 85 hn (by kernel_rfl) rfl (by kernel_rfl) (hSS) (fun a b ha hb => ?_)
  subst ha
  have hb0 : b 0 = .pointer (some ⟨B, 0, none⟩) := (hb 0).symm.trans h_0
  have hb5 : b 5 = .slice (some ⟨b2, o2, none⟩) m d := (hb 5).symm.trans h_5
  have hb6 : b 6 = .int .i64 (j : Int) := (hb 6).symm.trans h_6
  have hb7 : b 7 = .int .i64 (k : Int) := (hb 7).symm.trans h_7
  clear hb h_0 h_5 h_6 h_7
  have HP := Lib.hid hpost; have HN := Lib.hid hn
  clear hpost hn
  refine Eng.Sch.take (v := ?_) rfl rfl (by decide) (by kernel_rfl) (fun w hw => ?_) ?_
  rotate_left
  · (try dsimp only at hw); go_simp; first | done | with_reducible rfl
  refine Eng.Sch.take (v := ?_) rfl rfl (by decide) (by kernel_rfl) (fun w hw => ?_) ?_
  rotate_left
  · (try dsimp only at hw); go_simp; first | done | with_reducible rfl
  refine Eng.Sch.take (v := ?_) rfl rfl (by decide) (by kernel_rfl) (fun w hw => ?_) ?_
  rotate_left
  · (try dsimp only at hw); go_simp; first | done | with_reducible rfl
  refine Eng.Sch.take (v := ?_) rfl rfl (by decide) (by kernel_rfl) (fun w hw => ?_) ?_
  rotate_left
  · (try dsimp only at hw); go_simp; first | done | with_reducible rfl
  refine Eng.Sch.take (v := ?_) rfl rfl (by decide) (by kernel_rfl) (fun w hw => ?_) ?_
  rotate_left
  · (try dsimp only at hw); go_simp; first | done | with_reducible rfl
  refine Eng.Sch.take (v := ?_) rfl rfl (by decide) (by kernel_rfl) (fun w hw => ?_) ?_
  rotate_left
  · (try dsimp only at hw); go_simp; first | done | with_reducible rfl
  refine Eng.Sch.take (v := ?_) rfl rfl (by decide) (by kernel_rfl) (fun w hw => ?_) ?_
  rotate_left
  · (try dsimp only at hw); go_simp; first | done | with_reducible rfl
  refine Eng.Sch.take (v := ?_) rfl rfl (by decide) (by kernel_rfl) (fun w hw => ?_) ?_
  rotate_left
  · (try dsimp only at hw); go_simp; first | done | with_reducible rfl
  refine Eng.Sch.take (v := ?_) rfl rfl (by decide) (by kernel_rfl) (fun w hw => ?_) ?_
  rotate_left
  · (try dsimp only at hw); go_simp; first | done | with_reducible rfl
  refine Eng.Sch.take (v := ?_) rfl rfl (by decide) (by kernel_rfl) (fun w hw => ?_) ?_
  rotate_left
  · (try dsimp only at hw); go_simp; first | done | with_reducible rfl
  refine Eng.Sch.take (v := ?_) rfl rfl (by decide) (by kernel_rfl) (fun w hw => ?_) ?_
  rotate_left
  · (try dsimp only at hw); go_simp; first | done | with_reducible rfl
  refine Eng.Sch.take (v := ?_) rfl rfl (by decide) (by kernel_rfl) (fun w hw => ?_) ?_
  rotate_left
  · (try dsimp only at hw); go_simp; first | done | with_reducible rfl
  refine Eng.Sch.take (v := ?_) rfl rfl (by decide) (by kernel_rfl) (fun w hw => ?_) ?_
  rotate_left
  · (try dsimp only at hw); go_simp; first | done | with_reducible rfl
  refine Eng.Sch.take (v := ?_) rfl rfl (by decide) (by kernel_rfl) (fun w hw => ?_) ?_
  rotate_left
  · (try dsimp only at hw); go_simp; first | done | with_reducible rfl
  refine Eng.Sch.take (v := ?_) rfl rfl (by decide) (by kernel_rfl) (fun w hw => ?_) ?_
  rotate_left
  · (try dsimp only at hw); go_simp; first | done | with_reducible rfl
  refine Eng.Sch.take (v := ?_) rfl rfl (by decide) (by kernel_rfl) (fun w hw => ?_) ?_
  rotate_left
  · (try dsimp only at hw); go_simp; first | done | with_reducible rfl
  refine Eng.Sch.call rfl rfl (by decide) (by kernel_rfl) ?_ (ahead (qk, qe) (pk, pe) _) ?_
  · go_simp
  rintro e w2 ⟨rfl, hT⟩
  have HSt1 := Lib.hid (HSt.out.trans hT (fun _ _ h => h) (fun _ _ h => h.elim))
  have hSS : w2.cell? ⟨B, 0, none⟩ = some (.slice (some ⟨b1, o1, none⟩) n c) ∧ w2.cell? ⟨b1, o1 + j * 2, none⟩ = some (.string pk) ∧ w2.cell? ⟨b1, o1 + j * 2 + 1, none⟩ = some (.int .i64 pe) ∧ w2.cell? ⟨b2, o2 + k * 2, none⟩ = some (.string qk) ∧ w2.cell? ⟨b2, o2 + k * 2 + 1, none⟩ = some (.int .i64 qe) := ⟨(World.cell?_of_block (w := w) (a := ⟨B, 0, none⟩) (HSt1.out.block B l0 (fun h => h))).trans e0, (World.cell?_of_block (w := w) (a := ⟨b1, o1 + j * 2, none⟩) (HSt1.out.block b1 l1 (fun h => h))).trans e1, (World.cell?_of_block (w := w) (a := ⟨b1, o1 + j * 2 + 1, none⟩) (HSt1.out.block b1 l1 (fun h => h))).trans e2, (World.cell?_of_block (w := w) (a := ⟨b2, o2 + k * 2, none⟩) (HSt1.out.block b2 l2 (fun h => h))).trans e3, (World.cell?_of_block (w := w) (a := ⟨b2, o2 + k * 2 + 1, none⟩) (HSt1.out.block b2 l2 (fun h => h))).trans e4⟩
  clear hT
  refine ⟨_, rfl, hSS, ?_⟩
  refine Eng.Sch.take (v := ?_) rfl rfl (by decide) (by kernel_rfl) (fun w hw => ?_) ?_
  rotate_left
  · (try dsimp only at hw); go_simp; first | done | with_reducible rfl
  refine Eng.Sch.end_ [30, 31, 32, 33, 34, 35, 36, 37, 38, 39, 40, 41, 42, 43, 44, 45, 46, 47] HN.out (by kernel_rfl) (by kernel_rfl) ?_
  exact HP.out _ _ rfl HSt1.out

theorem Cr {w0 w w' : World} {S : Nat → Prop} (h : Fr S w w') {b o : Nat} {v : Value} (hb : b < w.heap.size) (hn : ¬ S b) (hc : w.cell? ⟨b, o, none⟩ = some v) : w'.cell? ⟨b, o, none⟩ = some v :=
  (World.cell?_of_block (w := w) (a := ⟨b, o, none⟩) (h.block b hb hn)).trans hc
set_option maxRecDepth 100000 in
set_option maxHeartbeats 2000000 in
theorem Below_ (B : Nat) (time : Int) (L : List It) (F : List Nat) (w : World) (h : RX w B L F) (hm : L.length ≤ 1000000) :
    Calls Try.prog 43 #[.pointer (some ⟨B, 0, none⟩), .int .i64 time] w fun e w' => ∃ v, e = .returned v ∧ w'.ownsRow w.heap.size TStr 1 v (belowR time L).length (strs ((belowR time L).map (·.1))) ∧ Below w.heap.size w w' := by
  obtain ⟨i0, hi, hz0, hz1, hz2⟩ := info_parts infoI
  obtain ⟨s0, si, sz0, sz1, sz2⟩ := info_parts infoS
  obtain ⟨A, c, hB, hS, -, -⟩ := h
  have hBl := lt_of_heap hB
  have HB := Lib.hid hB; have HS := Lib.hid hS
  clear hB hS
  go_enter Try.func43, Try.ntmps43
  go_wp2_with fail
  go_loopg [5, 6, 7, 8] L.length (fun gk v i _ _ wr => ∃ j : Nat, i = .int .i64 j ∧ j ≤ L.length ∧ gk = L.length - j ∧ wr.ownsRow w.heap.size TIt 2 v (belowR time (L.take j)).length ((belowR time (L.take j)).flatMap ic) ∧ Below w.heap.size w wr)
  case atStart => exact ⟨0, rfl, Nat.zero_le _, rfl, World.ownsRow_nil _ _ _ _, Below.refl _ _⟩
  case round =>
    obtain ⟨j, rfl, hj, hg, hown, hbel⟩ := hrel
    have HG := Lib.hid hg; have HBe := Lib.hid hbel; have HOw := Lib.hid hown
    have hszw : w.heap.size ≤ wr.heap.size := hbel.size
    clear hg hbel hown
    obtain ⟨wo, rfl⟩ : ∃ wo : World, wo = wr := ⟨_, rfl⟩
    by_cases hlt : j < L.length
    · obtain ⟨b1, o1, rfl, hb1, c1⟩ := HS.out.at hlt (by omega)
      have HD : Hid (∀ w', Below w.heap.size w w' → w'.cell? ⟨B, 0, none⟩ = some (.slice (some ⟨b1, o1, none⟩) L.length c) ∧ w'.cell? ⟨b1, o1 + j * 2, none⟩ = some (.string L[j].1) ∧ w'.cell? ⟨b1, o1 + j * 2 + 1, none⟩ = some (.int .i64 L[j].2)) := fun w' hb =>
        ⟨(hb.cell (p := ⟨B, 0, none⟩) hBl).trans (HB.out.cell 0), (hb.cell (p := ⟨b1, _, none⟩) hb1).trans (ic_at hlt c1).1, (hb.cell (p := ⟨b1, _, none⟩) hb1).trans (ic_at hlt c1).2⟩
      have HSn : Hid (belowR time (L.take (j + 1)) = if L[j].2 < time then insR L[j] (belowR time (L.take j)) else belowR time (L.take j)) := by
        show _ = _
        rw [List.take_succ_eq_append_getElem hlt, belowR_snoc]
      have hol : (belowR time (L.take j)).length ≤ j := Nat.le_trans (belowR_len _ _) (by simp; omega)
      clear c1
      generalize L[j] = p at *
      obtain ⟨pk, pe⟩ := p
      dsimp only at HD HSn
      generalize belowR time (L.take j) = out at *
      obtain ⟨cB, dj0, dj1⟩ := HD.out _ HBe.out
      by_cases htm : pe < time
      · have HX0 : Hid (belowR time (L.take (j + 1)) = insR (pk, pe) out) := by show _ = _; rw [HSn.out, if_pos htm]
        have t0 : decide (time ≤ pe) = false := by simpa using htm
        clear htm
        obtain ⟨A1, ca, hv, hS1, hA1⟩ := Sl.of_own HOw.out
        subst hv
        have HS1 := Lib.hid hS1; have HA1 := Lib.hid hA1
        have hca : out.length ≤ ca ∧ ca ≤ 9223372036854775807 := by have := hS1.2.1; have := hS1.2.2.1; unfold maxLen at this; omega
        clear hS1 hA1
        go_upto_block 2 with (fail)
        go_cut [7] (fun s7 wc => s7 = .int .i64 (lowR (pk, pe) out) ∧ Fr (fun _ => False) wo wc)
        case first =>
          go_wp2_with fail
          go_loopg [7] out.length (fun gk i wq => ∃ k : Nat, i = .int .i64 k ∧ k ≤ out.length ∧ gk = out.length - k ∧ Fr (fun _ => False) wo wq ∧ ∀ i (h : i < out.length), i < k → lt2 out[i] (pk, pe) = true)
          case atStart => exact ⟨0, rfl, Nat.zero_le _, rfl, Fr.refl _ _, fun i h h' => by omega⟩
          case round =>
            obtain ⟨k, rfl, hk, hg2, hfr, hlow⟩ := hrel
            have HG2 := Lib.hid hg2; have HLow := Lib.hid hlow; have HFr := Lib.hid hfr
            clear hg2 hlow
            have hbB : B < wr.heap.size := by have := hfr.size; omega
            have hb1' : b1 < wr.heap.size := by have := hfr.size; omega
            have cB' := (HFr.out.block B (by omega) (fun h => h))
            obtain ⟨cB', dj0', dj1'⟩ := HD.out wr (HBe.out.trans (hfr.below hszw (fun _ _ h => h)))
            by_cases hlk : k < out.length
            · obtain ⟨b2, o2, rfl, hb2, c2⟩ := HS1.out.at hlk (by omega)
              obtain ⟨dk0, dk1⟩ := ic_at hlk c2
              have dk0 := Cr (w0 := w) hfr hb2 (fun h => h) dk0
              have dk1 := Cr (w0 := w) hfr hb2 (fun h => h) dk1
              have hb2' : b2 < wr.heap.size := by have := hfr.size; omega
              clear c2 hfr
              have HQ : Hid (∀ b, lt2 out[k] (pk, pe) = b → b = true → ∀ i (h : i < out.length), i < k + 1 → lt2 out[i] (pk, pe) = true) := fun b hb hbt i h hi => by
                rcases Nat.lt_succ_iff_lt_or_eq.1 hi with hi | rfl
                · exact HLow.out i h hi
                · exact hb.trans hbt
              have HQ2 : Hid (lt2 out[k] (pk, pe) = false → lowR (pk, pe) out = k) := fun hb => lowR_at _ out k HLow.out (.inr ⟨hlk, hb⟩)
              generalize out[k] = q at *
              obtain ⟨qk, qe⟩ := q
              have E0 := Lib.hid cB'; have E1 := Lib.hid dj0'; have E2 := Lib.hid dj1'; have E3 := Lib.hid dk0; have E4 := Lib.hid dk1
              clear cB' dj0' dj1' dk0 dk1 cB dj0 dj1
              go_upto_region 7 with (fail)
              refine bw7 (by kernel_rfl) _ _ _ B b1 o1 L.length c j b2 o2 out.length ca k pk qk pe qe hlt hlk hbB hb1' hb2' E0.out E1.out E2.out E3.out E4.out rfl rfl rfl rfl rfl ?_
              intro y w2 hy hf2
              simp only [Eng.setAll, Act.put, List.setIfInBounds_toArray, List.set_cons_succ, List.set_cons_zero]
              rw [hy]
              have H2 := Lib.hid (HFr.out.trans hf2 (fun _ _ h => h) (fun _ _ h => h))
              clear hf2 hy
              cases hb : lt2 (qk, qe) (pk, pe) with
              | true =>
                have HX := Lib.hid (HQ.out _ hb rfl)
                clear hb
                go_wp2_with fail
                go_roundg (out.length - (k + 1))
                case rel => exact ⟨k + 1, by go_num, by omega, rfl, H2.out, HX.out⟩
                case measure => have := HG2.out; omega
              | false =>
                have HX := Lib.hid (HQ2.out hb)
                clear hb
                go_wp2_with fail
                go_meet
                exact ⟨by rw [HX.out], H2.out⟩
            · obtain rfl : k = out.length := by omega
              have HX := Lib.hid (lowR_at (pk, pe) out out.length HLow.out (.inl rfl))
              have t1 : decide ((out.length : Int) < (out.length : Int)) = false := by simp
              go_upto_region 7 with (fail)
              go_quiet (fail)
              go_wp2_with fail
              go_meet
              exact ⟨by rw [HX.out], HFr.out.trans (Fr.drewN (fun _ => False) _ _) (fun _ _ h => h) (fun _ _ h => h)⟩
        case rest =>
          obtain ⟨rfl, hfr⟩ := hcut
          have hll := lowR_le (pk, pe) out
          have HIn : Hid (insR (pk, pe) out = out.take (lowR (pk, pe) out) ++ (pk, pe) :: out.drop (lowR (pk, pe) out)) := rfl
          generalize lowR (pk, pe) out = k at *
          rename_i wc
          have HBm := Lib.hid (HBe.out.trans (hfr.below hszw (fun _ _ h => h)))
          have HOm := Lib.hid (ownsRow_fr HOw.out hfr (fun _ _ h => h))
          have HSm := Lib.hid (HS1.out.fr hfr (fun _ _ h => h))
          have hszf := hfr.size
          have HAm : Hid (∀ a, A1 = some a → a.block < wc.heap.size) := fun a ha => by have := (HA1.out a ha).2.2; omega
          have hszm : w.heap.size ≤ wc.heap.size := by omega
          clear cB dj0 dj1 HBe HOw HS1 HA1 hfr hszf hszw
          obtain ⟨wm, rfl⟩ : ∃ wm : World, wm = wc := ⟨_, rfl⟩
          obtain ⟨cB, dj0, dj1⟩ := HD.out _ HBm.out
          have hS1 : Sl wm 2 A1 k ca ((out.take k).flatMap ic) := by have := HSm.out.take (k := k) hll; rwa [flat_take ic_len] at this
          go_wp2_with (at_builtin; refine wpList_append_sl _ rfl (.tmp 50) (.tmp 53) TIs rfl wm.heap.size TIt i0 (.agg #[.string ByteArray.empty, .int .i64 0]) 2 24 Try.underlying68 hi hz0 hz1 hz2 rfl (by decide) _ _ _ rfl (World.ownsRow_nil _ _ _ _) _ _ _ _ rfl hS1 (cells_ic _) ?_ ?_ (Nat.le_refl _) ?_)
          · unfold maxLen; omega
          · omega
          intro v1 w1 hown1 hgrow1
          have hb1 : Below wm.heap.size wm w1 := (Below.refl _ _).grown hgrow1 (Nat.le_refl _) (fun k e => by simp [Value.ownBlock] at e)
          obtain ⟨cB1, dj01, dj11⟩ := HD.out w1 (HBm.out.trans (hb1.mono hszm))
          have hown1' := hown1.alloc (.cells #[.string pk, .int .i64 pe] TIt)
          have HB1 := Lib.hid hb1; have HK1 := Lib.hid (ownsRow_blk hown1)
          have hsz1 : wm.heap.size ≤ w1.heap.size := hb1.size
          clear hb1 hgrow1 hown1 hS1 cB dj0 dj1
          go_wp2_with (at_builtin; refine wpList_append_sl _ rfl (.tmp 55) (.tmp 63) TIs rfl wm.heap.size TIt i0 (.agg #[.string ByteArray.empty, .int .i64 0]) 2 24 Try.underlying68 hi hz0 hz1 hz2 rfl (by decide) _ _ _ rfl hown1' _ _ _ _ rfl (Sl.one w1 TIt (ic (pk, pe)) 2 rfl) (by simp [Value.oneCell']) ?_ ?_ ?_ ?_)
          · unfold maxLen; omega
          · omega
          · simp; omega
          intro v2 w2 hown2 hgrow2
          have hb2 : Below wm.heap.size wm w2 := (HB1.out.alloc hsz1 _).grown hgrow2 (by simp; omega) (fun k e => (HK1.out k e).1)
          have hS3 : Sl w2 2 (if ca = k then A1 else A1.map (·.add (k * 2))) (out.length - k) (ca - k) ((out.drop k).flatMap ic) := by have := (HSm.out.below hb2 HAm.out).drop (k := k) hll; rwa [flat_drop ic_len] at this
          have HB2 := Lib.hid hb2; have HK2 := Lib.hid (ownsRow_blk hown2)
          have hsz2 : wm.heap.size ≤ w2.heap.size := hb2.size
          clear hb2 hgrow2 hown1' HB1 HK1 hsz1 cB1 dj01 dj11
          go_wp2_with (at_builtin; refine wpList_append_sl _ rfl (.tmp 65) (.tmp 68) TIs rfl wm.heap.size TIt i0 (.agg #[.string ByteArray.empty, .int .i64 0]) 2 24 Try.underlying68 hi hz0 hz1 hz2 rfl (by decide) _ _ _ rfl hown2 _ _ _ _ ?_ hS3 (cells_ic _) ?_ ?_ ?_ ?_)
          any_goals (unfold maxLen; omega)
          any_goals omega
          all_goals
            intro v3 w3 hown3 hgrow3
            have hb3 : Below wm.heap.size wm w3 := HB2.out.grown hgrow3 hsz2 (fun k e => (HK2.out k e).1)
            have HB3 := Lib.hid (HBm.out.trans (hb3.mono hszm)); have HO3 := Lib.hid (ownsRow_base hown3 hszm)
            have HL : Hid ((out.take k ++ (pk, pe) :: out.drop k).length = k + 1 + (out.length - k)) := by show _ = _; simp; omega
            clear hb3 hgrow3 hown3 hown2 hS3
            go_wp2_with fail
            go_roundg (L.length - (j + 1))
            case rel => exact ⟨j + 1, by go_num, by omega, rfl, by rw [HX0.out, HIn.out, HL.out]; simpa [List.append_assoc] using HO3.out, HB3.out⟩
            case measure => have := HG.out; omega
      · have HX0 : Hid (belowR time (L.take (j + 1)) = out) := by show _ = _; rw [HSn.out, if_neg htm]
        have t0 : decide (time ≤ pe) = true := by simpa using htm
        clear htm
        go_wp2_with fail
        go_roundg (L.length - (j + 1))
        case rel => exact ⟨j + 1, by go_num, by omega, rfl, by rw [HX0.out]; exact HOw.out, HBe.out⟩
        case measure => have := HG.out; omega
    · obtain rfl : j = L.length := by omega
      rw [List.take_length] at HOw
      have hlb := belowR_len time L
      generalize hout : belowR time L = out at *
      have HOe := Lib.hid hout
      clear hout
      have cB : wo.cell? ⟨B, 0, none⟩ = some (.slice A L.length c) := (HBe.out.cell (p := ⟨B, 0, none⟩) hBl).trans (HB.out.cell 0)
      obtain ⟨A1, ca, hv, hS1, hA1⟩ := Sl.of_own HOw.out
      subst hv
      have HS1 := Lib.hid hS1; have HA1 := Lib.hid hA1
      clear hS1 hA1
      go_wp2_with fail
      go_loopg [9, 10] out.length (fun gk v i wr => ∃ j : Nat, i = .int .i64 j ∧ j ≤ out.length ∧ gk = out.length - j ∧ wr.ownsRow wo.heap.size TStr 1 v j (strs ((out.take j).map (·.1))) ∧ Below wo.heap.size wo wr)
      case atStart => exact ⟨0, rfl, Nat.zero_le _, rfl, World.ownsRow_nil _ _ _ _, Below.refl _ _⟩
      case round =>
        obtain ⟨j, rfl, hj, hg, hown, hbel⟩ := hrel
        have HG2 := Lib.hid hg; have HBf := Lib.hid hbel
        have hszo : wo.heap.size ≤ wr.heap.size := hbel.size
        clear hg hbel
        by_cases hlt : j < out.length
        · obtain ⟨b2, o2, rfl, hb2, c2⟩ := HS1.out.at hlt (by omega)
          have d0 := (HBf.out.cell (p := ⟨b2, _, none⟩) hb2).trans (ic_at hlt c2).1
          have HSn : Hid ((out.take (j + 1)).map (·.1) = (out.take j).map (·.1) ++ [out[j].1]) := by show _ = _; rw [List.take_succ_eq_append_getElem hlt, List.map_append]; rfl
          have i1 : (j : Int) < (out.length : Int) := by omega
          clear c2
          generalize out[j] = q at *
          obtain ⟨qk, qe⟩ := q
          dsimp only at d0 HSn
          have hown1' := hown.alloc (.cells #[.string qk] TStr)
          have HK1 := Lib.hid (ownsRow_blk hown)
          clear hown
          go_wp2_with (at_builtin; refine wpList_append_sl _ rfl (.tmp 76) (.tmp 82) TSs rfl wo.heap.size TStr s0 (.string ByteArray.empty) 1 16 Try.underlying78 si sz0 sz1 sz2 rfl (by decide) _ _ _ rfl hown1' _ _ _ _ rfl (Sl.one wr TStr [.string qk] 1 rfl) (by simp [Value.oneCell']) ?_ ?_ ?_ ?_)
          · unfold maxLen; omega
          · omega
          · first | omega | (simp; omega)
          intro v1 w1 hown1 hgrow1
          have HO := Lib.hid hown1; have HGr := Lib.hid hgrow1
          clear hown1 hgrow1 hown1'
          go_wp2_with fail
          go_roundg (out.length - (j + 1))
          case rel => exact ⟨j + 1, by go_num, by omega, rfl, by rw [HSn.out]; simpa using HO.out, (HBf.out.alloc hszo _).grown HGr.out (by simp; omega) (fun k e => (HK1.out k e).1)⟩
          case measure => have := HG2.out; omega
        · obtain rfl : j = out.length := by omega
          rw [List.take_length] at hown
          have HO := Lib.hid hown
          clear hown
          go_wp2_with fail
          go_ret
          exact ⟨u9, rfl, ownsRow_base (by rw [HOe.out]; exact HO.out) hszw, HBe.out.trans (HBf.out.mono hszw)⟩
end Ref16
end Go.Proofs.Ytkhhdadlpilbmaa
