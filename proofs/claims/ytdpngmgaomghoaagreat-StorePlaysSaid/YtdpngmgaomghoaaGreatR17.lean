/- Deltas: the document's: what is between, what a set becomes. -/
import Derived.Test.YtdpngmgaomghoaaGreatLaw15
import Derived.Test.YtdpngmgaomghoaaGreatQuotas
namespace Go.Proofs.YtdpngmgaomghoaaGreat
open Tryz
set_option maxRecDepth 100000
set_option maxHeartbeats 1000000
open Go.RowKit
namespace RefD
open KeyP PackP SetP SetW SetF Delta Comp
attribute [local go_sem] Eng.ev Eng.getO_cons Eng.getO_nil
theorem WithoutL {A A1 : Option Addr} {c c1 : Nat} {L M : List Sn} {w : World} (h : Ls w A c L) (h1 : Ls w A1 c1 M) (hl : L.length ≤ 1000000) :
  Calls prog 50 #[.slice A L.length c, .slice A1 M.length c1] w (LsPost (wout M L) w) :=
 (Without A A1 c c1 L M w h.s h1.s hl).mono (fun _ _ hp => LsPost.of hp (fun x hx => h.ok x (wout_mem.1 hx).1))
theorem Between (A A2 : Option Addr) (c c2 : Nat) (a b : List Sn) (w : World) (h1 : Ls w A c a) (h2 : Ls w A2 c2 b) (hl1 : a.length ≤ 1000000) (hl2 : b.length ≤ 1000000) :
  Calls prog 185 #[.slice A a.length c, .slice A2 b.length c2] w (DlPost (wout (setOf b) (setOf a)) (wout (setOf a) (setOf b)) w) := by
 have hf := Fr.alloc (fun _ => False) w (.cells #[.slice none 0 0, .slice none 0 0] TDl)
 have HR := Lib.hid (Bk.new w #[.slice none 0 0, .slice none 0 0] TDl)
 have HB := Lib.hid ((Below.refl w.heap.size w).alloc (Nat.le_refl _) (.cells #[.slice none 0 0, .slice none 0 0] TDl))
 have HL1 := Lib.hid (h1.keep hf); have HL2 := Lib.hid (h2.keep hf)
 have HLn1 : Hid ((setOf a).length ≤ 1000000) := Nat.le_trans (setOf_len a) hl1
 have HLn2 : Hid ((setOf b).length ≤ 1000000) := Nat.le_trans (setOf_len b) hl2
 have hz1 : w.heap.size < (w.alloc (.cells #[.slice none 0 0, .slice none 0 0] TDl)).heap.size := by simp
 have HZ := Lib.hid hz1
 clear h1 h2 hf hz1
 go_enter func185, ntmps185
 go_upto_region 1 with (fail)
 generalize (w.alloc (.cells #[.slice none 0 0, .slice none 0 0] TDl)) = w1 at *
 go_wp2_with fail
 refine (RefSet A c a w1 HL1.out hl1).mono ?_
 rintro e w2 ⟨A3, c3, rfl, hls, -, hb⟩
 replace HZ : Hid (w.heap.size < w2.heap.size) := Nat.lt_of_lt_of_le HZ.out hb.size
 replace HR := Lib.hid (HR.out.below hb)
 replace HL1 := Lib.hid (HL1.out.below hb)
 replace HL2 := Lib.hid (HL2.out.below hb)
 replace HB := Lib.hid (HB.out.trans (hb.mono HB.out.size))
 clear hb
 have HX := Lib.hid hls
 clear hls
 go_wp2_with fail
 refine (RefSet A2 c2 b w2 HL2.out hl2).mono ?_
 rintro e w3 ⟨A4, c4, rfl, hls, -, hb⟩
 replace HZ : Hid (w.heap.size < w3.heap.size) := Nat.lt_of_lt_of_le HZ.out hb.size
 replace HR := Lib.hid (HR.out.below hb)
 replace HL1 := Lib.hid (HL1.out.below hb)
 replace HL2 := Lib.hid (HL2.out.below hb)
 replace HX := Lib.hid (HX.out.below hb)
 replace HB := Lib.hid (HB.out.trans (hb.mono HB.out.size))
 clear hb
 have HY := Lib.hid hls
 clear hls
 generalize setOf a = X at *
 generalize setOf b = Y at *
 go_wp2_with fail
 refine (WithoutL HX.out HY.out HLn1.out).mono ?_
 rintro e w4 ⟨A5, c5, rfl, hls, ho, hb⟩
 have hnA5 : ∀ q, A5 = some q → w.heap.size < q.block := by
  obtain ⟨A', c', he, -, h3⟩ := Sl.of_own ho
  cases he
  exact fun q hq => Nat.lt_of_lt_of_le HZ.out (h3 q hq).1
 have Hho := Lib.hid hnA5
 clear ho hnA5
 replace HZ : Hid (w.heap.size < w4.heap.size) := Nat.lt_of_lt_of_le HZ.out hb.size
 replace HR := Lib.hid (HR.out.below hb)
 replace HL1 := Lib.hid (HL1.out.below hb)
 replace HL2 := Lib.hid (HL2.out.below hb)
 replace HX := Lib.hid (HX.out.below hb)
 replace HY := Lib.hid (HY.out.below hb)
 replace HB := Lib.hid (HB.out.trans (hb.mono HB.out.size))
 clear hb
 have HO := Lib.hid hls
 clear hls
 go_wp2_with fail
 refine (WithoutL HY.out HX.out HLn2.out).mono ?_
 rintro e w5 ⟨A6, c6, rfl, hls, hi, hb⟩
 have hnA6 : ∀ q, A6 = some q → w.heap.size < q.block := by
  obtain ⟨A', c', he, -, h3⟩ := Sl.of_own hi
  cases he
  exact fun q hq => Nat.lt_of_lt_of_le HZ.out (h3 q hq).1
 have Hhi := Lib.hid hnA6
 clear hi hnA6
 replace HZ : Hid (w.heap.size < w5.heap.size) := Nat.lt_of_lt_of_le HZ.out hb.size
 replace HR := Lib.hid (HR.out.below hb)
 replace HL1 := Lib.hid (HL1.out.below hb)
 replace HL2 := Lib.hid (HL2.out.below hb)
 replace HX := Lib.hid (HX.out.below hb)
 replace HY := Lib.hid (HY.out.below hb)
 replace HO := Lib.hid (HO.out.below hb)
 replace HB := Lib.hid (HB.out.trans (hb.mono HB.out.size))
 clear hb
 have HI := Lib.hid hls
 clear hls
 generalize wout Y X = O at *
 generalize wout X Y = I at *
 have kb : ∀ W : World, (Instr.build TDl #[(0, .slice A5 O.length c5), (1, .slice A6 I.length c6)]).run prog W = .ok (.agg #[.slice A5 O.length c5, .slice A6 I.length c6]) W := fun W => by kernel_rfl
 have r0 := HR.out.cell 0; have r1 := HR.out.cell 1; have f0 := HR.out.free 0; have f1 := HR.out.free 1
 simp only [List.getElem?_toArray, List.getElem?_cons_zero, List.getElem?_cons_succ] at r0 r1
 go_wp2_with fail
 exact result HR.out HO.out HI.out HB.out Hho.out Hhi.out fun w' hbk hp hw => hw ▸ bodyPost_ret (results_cell_row rfl _ _ w.heap.size TDl _ (0, 0) _ rfl hbk underlying35 rfl (by kernel_rfl)) rfl hp
end RefD
namespace QuotaP
open BagP
structure Rel (L : List (Int × Int)) (T : List Int) : Prop where
 cnt : ∀ t, cnt t L = T.count t
 sum : sumL L = T.length
theorem Rel.nil : Rel [] [] := ⟨fun t => by rw [cnt_nil]; simp, by simp [sumL]⟩
def okS (all tr : Int) (l T : List Int) : Bool := decide (l = [] ∨ ((T.length : Int) + l.length ≤ all ∧ ∀ t ∈ l, (((T ++ l).count t : Nat) : Int) ≤ tr))
theorem Rel.ok {L : List (Int × Int)} {T : List Int} (h : Rel L T) (hc : Cs L) (all tr : Int) (l : List Int) : okM all tr l L = okS all tr l T := by
 rw [Bool.eq_iff_iff, okM_iff all tr l hc]
 unfold okS
 rw [decide_eq_true_iff, h.sum]
 constructor
 ·rintro (e | ⟨h1, h2⟩)
  ·exact .inl e
  ·exact .inr ⟨h1, fun t ht => by have := h2 t ht; rw [h.cnt] at this; rw [List.count_append]; omega⟩
 ·rintro (e | ⟨h1, h2⟩)
  ·exact .inl e
  ·exact .inr ⟨h1, fun t ht => by have := h2 t ht; rw [List.count_append] at this; rw [h.cnt]; omega⟩
theorem Rel.add {L : List (Int × Int)} {T : List Int} (h : Rel L T) (hc : Cs L) (l : List Int) : Rel (QuotaP.addM l L) (T ++ l) :=
 ⟨fun t => by rw [cnt_addM l t hc, h.cnt, List.count_append]; omega, by rw [sum_addM l hc, h.sum, List.length_append]; omega⟩
def low (t : Int) (out : List Int) : Nat := (out.takeWhile (fun x => decide (x < t))).length
def insT (t : Int) (out : List Int) : List Int := if out[low t out]? = some t then out else out.take (low t out) ++ t :: out.drop (low t out)
def trT (T : List Int) : List Int := T.foldl (fun out t => insT t out) []
theorem low_cons (t x : Int) (out : List Int) : low t (x :: out) = if x < t then low t out + 1 else 0 := by
 unfold low; rw [List.takeWhile_cons]; by_cases h : x < t <;> simp [h]
theorem insT_nil (t : Int) : insT t [] = [t] := by simp [insT, low]
theorem insT_cons (t x : Int) (out : List Int) : insT t (x :: out) = if x < t then x :: insT t out else if x = t then x :: out else t :: x :: out := by
 unfold insT
 rw [low_cons]
 by_cases h : x < t
 ·rw [if_pos h, if_pos h]
  simp only [List.getElem?_cons_succ, List.take_succ_cons, List.drop_succ_cons, List.cons_append]
  split <;> rfl
 ·rw [if_neg h, if_neg h]
  simp only [List.getElem?_cons_zero, List.take_zero, List.drop_zero, List.nil_append, Option.some.injEq]
theorem mem_insT (t y : Int) : ∀ out : List Int, y ∈ insT t out ↔ y = t ∨ y ∈ out := by
 intro out
 induction out with
 | nil => simp [insT_nil]
 | cons x out ih =>
  rw [insT_cons]
  by_cases h : x < t
  ·rw [if_pos h, List.mem_cons, ih, List.mem_cons]
   constructor
   ·rintro (e | e | e)
    ·exact .inr (.inl e)
    ·exact .inl e
    ·exact .inr (.inr e)
   ·rintro (e | e | e)
    ·exact .inr (.inl e)
    ·exact .inl e
    ·exact .inr (.inr e)
  ·rw [if_neg h]
   by_cases e : x = t
   ·rw [if_pos e, List.mem_cons]
    constructor
    ·exact .inr
    ·rintro (h | h)
     ·exact .inl (h.trans e.symm)
     ·exact h
   ·rw [if_neg e]; simp
theorem srt_insT (t : Int) : ∀ out : List Int, out.Pairwise (· < ·) → (insT t out).Pairwise (· < ·) := by
 intro out
 induction out with
 | nil => intro _; simp [insT_nil]
 | cons x out ih =>
  intro hs
  have hs' := List.pairwise_cons.1 hs
  rw [insT_cons]
  by_cases h : x < t
  ·rw [if_pos h, List.pairwise_cons]
   refine ⟨fun y hy => ?_, ih hs'.2⟩
   rcases (mem_insT t y out).1 hy with rfl | hy
   ·exact h
   ·exact hs'.1 y hy
  ·rw [if_neg h]
   by_cases e : x = t
   ·rw [if_pos e]; exact hs
   ·rw [if_neg e, List.pairwise_cons]
    refine ⟨fun y hy => ?_, hs⟩
    rcases List.mem_cons.1 hy with rfl | hy
    ·omega
    ·have := hs'.1 y hy; omega
theorem srt_ext_int : ∀ (a b : List Int), a.Pairwise (· < ·) → b.Pairwise (· < ·) → (∀ x, x ∈ a ↔ x ∈ b) → a = b := by
 intro a
 induction a with
 | nil =>
  intro b _ _ h
  cases b with
  | nil => rfl
  | cons y b => exact absurd ((h y).2 (by simp)) (by simp)
 | cons x a ih =>
  intro b ha hb h
  cases b with
  | nil => exact absurd ((h x).1 (by simp)) (by simp)
  | cons y b =>
   have ha' := List.pairwise_cons.1 ha
   have hb' := List.pairwise_cons.1 hb
   have e : x = y := by
    rcases List.mem_cons.1 ((h x).1 (by simp)) with e | hx
    ·exact e
    ·rcases List.mem_cons.1 ((h y).2 (by simp)) with e | hy
     ·exact e.symm
     ·have := hb'.1 x hx; have := ha'.1 y hy; omega
   subst e
   rw [ih b ha'.2 hb'.2 (fun z => ?_)]
   have hz := h z
   simp only [List.mem_cons] at hz
   constructor
   ·intro hm
    rcases hz.1 (.inr hm) with e | hb
    ·have := ha'.1 z hm; omega
    ·exact hb
   ·intro hm
    rcases hz.2 (.inr hm) with e | hb
    ·have := hb'.1 z hm; omega
    ·exact hb
theorem trT_srt (T : List Int) : (trT T).Pairwise (· < ·) ∧ ∀ x, x ∈ trT T ↔ x ∈ T := by
 unfold trT
 suffices h : ∀ (T out : List Int), out.Pairwise (· < ·) → (T.foldl (fun out t => insT t out) out).Pairwise (· < ·) ∧ ∀ x, x ∈ T.foldl (fun out t => insT t out) out ↔ x ∈ T ∨ x ∈ out by
  have := h T [] List.Pairwise.nil
  exact ⟨this.1, fun x => by rw [this.2]; simp⟩
 intro T
 induction T with
 | nil => intro out h; exact ⟨h, by simp⟩
 | cons t T ih =>
  intro out h
  have := ih (insT t out) (srt_insT t out h)
  refine ⟨this.1, fun x => ?_⟩
  rw [List.foldl_cons, this.2, mem_insT, List.mem_cons]
  constructor
  ·rintro (h | h | h)
   ·exact .inl (.inr h)
   ·exact .inl (.inl h)
   ·exact .inr h
  ·rintro ((h | h) | h)
   ·exact .inr (.inl h)
   ·exact .inl h
   ·exact .inr (.inr h)
theorem Rel.keys {L : List (Int × Int)} {T : List Int} (h : Rel L T) (hc : Cs L) : L.map (·.1) = trT T := by
 refine srt_ext_int _ _ ?_ (trT_srt T).1 (fun x => ?_)
 ·have hs : L.Pairwise (fun a b => Ord.lt a.1 b.1 = true) := hc.srt
  rw [List.pairwise_map]
  exact hs.imp (fun {a b} h => by simpa [Ord.lt] using h)
 ·rw [(trT_srt T).2, List.mem_map]
  constructor
  ·rintro ⟨p, hp, rfl⟩
   have h1 := cnt_of_mem hc.srt p hp
   have h2 := hc.pos p hp
   rw [h.cnt] at h1
   exact List.count_pos_iff.1 (by omega)
  ·intro hx
   have := List.count_pos_iff.2 hx
   have h1 := h.cnt x
   unfold BagP.cnt at h1
   cases hg : getL x L with
   | none => rw [hg] at h1; simp at h1; omega
   | some v => exact ⟨(x, v), getL_mem hg, rfl⟩
end QuotaP
namespace Ref12
theorem infoI : (prog.info? 3).map (fun i => (i.zero, i.size, i.bytes)) = some (some (.int .i64 0), 1, 8) := by kernel_rfl
end Ref12
set_option maxRecDepth 100000
set_option maxHeartbeats 1000000
namespace Ref17
open BagP QuotaP Quota
abbrev TR : TypeId := 295
abbrev TI : TypeId := 3
abbrev TIs : TypeId := 115
def RQ (w : World) (B : Nat) (all tr : Int) (T : List Int) (F : List Nat) : Prop :=
 ∃ A c, Bk w B #[.int .i64 all, .int .i64 tr, .slice A T.length c] TR ∧ Sl w 1 A T.length c (ints T) ∧ F = B :: ablk A ∧ ∀ a, A = some a → a.block ≠ B ∧ a.block < w.heap.size
theorem RQ.fr {S : Nat → Prop} {w w' : World} {B : Nat} {all tr : Int} {T : List Int} {F : List Nat} (h : RQ w B all tr T F) (hf : Fr S w w') (hs : ∀ b ∈ F, ¬ S b) : RQ w' B all tr T F := by
 obtain ⟨A, c, h1, h2, rfl, h4⟩ := h
 exact ⟨A, c, h1.fr hf (fun b hb => hs b (by simp at hb; simp [hb])), h2.fr hf (fun a ha => hs _ (List.mem_cons_of_mem _ (mem_ablk.2 ⟨a, ha, rfl⟩))), rfl, fun a ha => ⟨(h4 a ha).1, Nat.lt_of_lt_of_le (h4 a ha).2 hf.size⟩⟩
theorem RQ.lt {w : World} {B : Nat} {all tr : Int} {T : List Int} {F : List Nat} (h : RQ w B all tr T F) : ∀ x ∈ F, x < w.heap.size := by
 obtain ⟨A, c, h1, h2, rfl, h4⟩ := h
 intro x hx
 rcases List.mem_cons.1 hx with rfl | hx
 ·exact lt_of_heap h1
 ·obtain ⟨a, ha, rfl⟩ := mem_ablk.1 hx; exact (h4 a ha).2
theorem RQ.store {w wr : World} {B : Nat} {all tr : Int} {E : TypeId} {T T' : List Int} {F : List Nat} {v : Value} (h : RQ w B all tr T F) (hb : Below w.heap.size w wr) (hown : wr.ownsRow w.heap.size E 1 v T'.length (ints T')) :
  ∃ F', RQ (wr.setCell ⟨B, 2, none⟩ v) B all tr T' F' ∧ Tn F F' w (wr.setCell ⟨B, 2, none⟩ v) := by
 obtain ⟨A, c, h1, h2, rfl, h4⟩ := h
 have hlt := lt_of_heap h1
 have h1' : Bk wr B #[.int .i64 all, .int .i64 tr, .slice A T.length c] TR := (hb.block B hlt).trans h1
 obtain ⟨A', c', rfl, hS, hA⟩ := Sl.of_own hown
 have hfs := Fr.setCell wr ⟨B, 2, none⟩ (.slice A' T'.length c') (S := (· = B)) rfl
 have hne : ∀ a, A' = some a → a.block ≠ B := fun a ha e => by have := (hA a ha).1; omega
 have hsz : (wr.setCell ⟨B, 2, none⟩ (.slice A' T'.length c')).heap.size = wr.heap.size := by simp [World.setCell]
 have hfr : Fr (fun x => x ∈ B :: ablk A) w (wr.setCell ⟨B, 2, none⟩ (.slice A' T'.length c')) :=
  (Fr.of_below' hb (fun x => x ∈ B :: ablk A)).trans hfs (fun _ _ h => h) (fun _ _ h => by simp [h])
 refine ⟨B :: ablk A', ⟨A', c', h1'.set 2 _, hS.fr hfs (fun a ha e => hne a ha e), rfl, fun a ha => ⟨hne a ha, by rw [hsz]; exact (hA a ha).2.2⟩⟩, hfr, fun x hx => ?_⟩
 rw [hsz]
 rcases List.mem_cons.1 hx with rfl | hx
 ·exact ⟨.inl (by simp), lt_of_heap h1'⟩
 ·obtain ⟨a, ha, rfl⟩ := mem_ablk.1 hx
  exact ⟨.inr (hA a ha).1, (hA a ha).2.2⟩
theorem cells_int (T : List Int) : ∀ u ∈ ints T, u.oneCell' = true := by
 intro u hu
 simp only [List.mem_map] at hu
 obtain ⟨p, -, rfl⟩ := hu; rfl
def NewPost (all tr : Int) (w : World) (e : Ending) (w' : World) : Prop := e = .returned (.pointer (some ⟨w.heap.size, 0, none⟩)) ∧ Bk w' w.heap.size #[.int .i64 (max all 0), .int .i64 (max tr 0), .slice none 0 0] TR ∧ w'.heap.size = w.heap.size + 1 ∧ Below w.heap.size w w'
theorem New (all tr : Int) (w : World) : Calls prog 194 #[.int .i64 all, .int .i64 tr] w (NewPost all tr w) := by
 have HE : Hid (∀ a b : Int, a = max all 0 → b = max tr 0 → ∀ e, e = Ending.returned (.pointer (some ⟨w.heap.size, 0, none⟩)) → NewPost all tr w e (w.alloc (.cells #[.int .i64 a, .int .i64 b, .slice none 0 0] TR))) := fun a b ha hb e he => by
  have b1 := Bk.new w #[.int .i64 a, .int .i64 b, .slice none 0 0] TR
  exact ⟨he, ha ▸ hb ▸ b1, by simp, (Below.refl _ w).alloc (Nat.le_refl _) _⟩
 by_cases ha : all < 0
 all_goals
  by_cases ht : tr < 0
  all_goals
   go_enter func194, ntmps194
   go_wp2
   go_ret
   exact HE.out _ _ (by omega) (by omega) _ rfl
theorem Of (B : Nat) (t : Int) (A : Option Addr) (c : Nat) (T : List Int) (w : World) (a0 a1 : Value) (hB : Bk w B #[a0, a1, .slice A T.length c] TR) (hS : Sl w 1 A T.length c (ints T)) :
  Calls prog 248 #[.pointer (some ⟨B, 0, none⟩), .int .i64 t] w fun e w' => e = .returned (.int .i64 (T.count t : Nat)) ∧ w = w' := by
 have cB : w.cell? ⟨B, 2, none⟩ = some (.slice A T.length c) := hB.cell 2
 have hlen : T.length ≤ 9223372036854775807 := by have := hS.2.1; have := hS.2.2.1; unfold maxLen at this; omega
 have HS := Lib.hid hS
 clear hB hS
 go_enter func248, ntmps248
 go_wp2_with fail
 go_loopg [5, 6] T.length (fun gk n i wr => w = wr ∧ ∃ j : Nat, i = .int .i64 j ∧ j ≤ T.length ∧ gk = T.length - j ∧ n = .int .i64 ((T.take j).count t : Nat))
 case atStart => exact ⟨rfl, 0, rfl, Nat.zero_le _, rfl, rfl⟩
 case round =>
  obtain ⟨rfl, j, rfl, hj, hg, rfl⟩ := hrel
  have HG := Lib.hid hg
  clear hg
  by_cases hlt : j < T.length
  ·obtain ⟨b1, o1, rfl, -, c1⟩ := HS.out.at hlt (by omega)
   have d1 : w.cell? ⟨b1, o1 + j, none⟩ = some (.int .i64 T[j]) := c1 j _ (by simp [ints, hlt])
   have HT : Hid ((T.take (j + 1)).count t = (T.take j).count t + if T[j] = t then 1 else 0) := by
    show _ = _
    rw [List.take_succ_eq_append_getElem hlt, List.count_append, List.count_singleton]; simp
   have hle : (T.take j).count t ≤ j := Nat.le_trans List.count_le_length (by simp; omega)
   clear c1
   generalize (T.take j).count t = n at *
   generalize T[j] = x at *
   by_cases hx : x = t
   ·have t2 : (x == t) = true := by simp [hx]
    rw [if_pos hx] at HT
    clear hx
    go_wp2_with fail
    go_roundg (T.length - (j + 1))
    case rel => exact ⟨rfl, j + 1, by go_num, by omega, rfl, by rw [HT.out]; go_num⟩
    case measure => have := HG.out; omega
   ·have t2 : (x == t) = false := by simp [hx]
    rw [if_neg hx] at HT
    clear hx
    go_wp2_with fail
    go_roundg (T.length - (j + 1))
    case rel => exact ⟨rfl, j + 1, by go_num, by omega, rfl, by rw [HT.out]; rfl⟩
    case measure => have := HG.out; omega
  ·obtain rfl : j = T.length := by omega
   rw [List.take_length]
   go_wp2_with fail
   go_ret
   exact ⟨rfl, rfl⟩
theorem Of' (B : Nat) (t : Int) (A : Option Addr) (c n : Nat) (T : List Int) (w : World) (a0 a1 : Value) (hn : n = T.length) (hB : Bk w B #[a0, a1, .slice A n c] TR) (hS : Sl w 1 A n c (ints T)) :
  Calls prog 248 #[.pointer (some ⟨B, 0, none⟩), .int .i64 t] w fun e w' => e = .returned (.int .i64 (T.count t : Nat)) ∧ w = w' := by
 subst hn
 exact Of B t A c T w a0 a1 hB hS
def AddPost (B : Nat) (all tr : Int) (ts T : List Int) (F : List Nat) (w : World) (e : Ending) (w' : World) : Prop :=
 e = .returned (.bool (okS all tr ts T)) ∧ ∃ F', RQ w' B all tr (if okS all tr ts T then T ++ ts else T) F' ∧ Tn F F' w w'
theorem Add (B : Nat) (all tr : Int) (A0 : Option Addr) (c0 : Nat) (xs : List Sp) (T : List Int) (F : List Nat) (w : World) (h : RQ w B all tr T F) (hS0 : Sl w 9 A0 xs.length c0 (xs.flatMap Sp.cs)) (hm : T.length + xs.length ≤ 1000000) :
  Calls prog 195 #[.pointer (some ⟨B, 0, none⟩), .slice A0 xs.length c0] w (AddPost B all tr (xs.map (·.t)) T F w) := by
 obtain ⟨i0, hi, hz0, hz1, hz2⟩ := info_parts Ref12.infoI
 have HH := Lib.hid h
 obtain ⟨A, c, hB, hS, -, -⟩ := h
 have hBl := lt_of_heap hB
 have cB : w.cell? ⟨B, 2, none⟩ = some (.slice A T.length c) := hB.cell 2
 have HB := Lib.hid hB; have HS0 := Lib.hid hS0
 have hnil := World.ownsRow_nil w w.heap.size TI 1
 have hxl : xs.length ≤ 1000000 := by omega
 clear hB hS0
 go_enter func195, ntmps195
 go_wp2_with (at_builtin; refine wpList_append_sl _ rfl (.tmp 9) (.tmp 13) TIs rfl w.heap.size TI i0 (.int .i64 0) 1 8 underlying115 hi hz0 hz1 hz2 rfl (by decide) _ _ _ rfl hnil _ _ _ _ rfl hS (cells_int T) ?_ ?_ ?_ ?_)
 ·unfold maxLen; omega
 ·omega
 ·omega
 intro v1 w1 hown1 hgrow1
 have hb1 : Below w.heap.size w w1 := (Below.refl _ w).grown hgrow1 (Nat.le_refl _) (fun k e => by simp [Value.ownBlock] at e)
 have HO1 := Lib.hid hown1; have HB1 := Lib.hid hb1
 clear hown1 hgrow1 hnil hb1 hS cB
 go_wp2_with fail
 go_loopg [5, 6] xs.length (fun gk v i wr => ∃ j : Nat, i = .int .i64 j ∧ j ≤ xs.length ∧ gk = xs.length - j ∧ wr.ownsRow w.heap.size TI 1 v (T.length + j) (ints (T ++ (xs.map (·.t)).take j)) ∧ Below w.heap.size w wr)
 case atStart => exact ⟨0, rfl, Nat.zero_le _, rfl, by simpa using HO1.out, HB1.out⟩
 case round =>
  clear HO1 HB1
  obtain ⟨j, rfl, hj, hg, hown, hbel⟩ := hrel
  have HG := Lib.hid hg
  have hszw : w.heap.size ≤ wr.heap.size := hbel.size
  have HBe := Lib.hid hbel
  clear hg hbel
  by_cases hlt : j < xs.length
  ·obtain ⟨b1, o1, rfl, hb1, c1⟩ := HS0.out.at hlt (by omega)
   have d1 : wr.cell? ⟨b1, o1 + j * 9, none⟩ = some (.int .i64 xs[j].t) := (HBe.out.cell (p := ⟨b1, _, none⟩) hb1).trans (c1 (j * 9) _ (by rw [← Nat.add_zero (j * 9), flat_at Sp.cs_len hlt (by omega)]; rfl))
   have HSn : Hid ((xs.map (·.t)).take (j + 1) = (xs.map (·.t)).take j ++ [xs[j].t]) := by
    show _ = _
    rw [List.take_succ_eq_append_getElem (by simpa using hlt)]; simp
   clear c1
   generalize xs[j].t = t at *
   have hown1' := hown.alloc (.cells #[.int .i64 t] TI)
   have HK1 := Lib.hid (ownsRow_blk hown)
   clear hown
   go_wp2_with (at_builtin; refine wpList_append_sl _ rfl (.tmp 21) (.tmp 27) TIs rfl w.heap.size TI i0 (.int .i64 0) 1 8 underlying115 hi hz0 hz1 hz2 rfl (by decide) _ _ _ rfl hown1' _ _ _ _ rfl (Sl.one wr TI [.int .i64 t] 1 rfl) (by simp [Value.oneCell']) ?_ ?_ ?_ ?_)
   ·unfold maxLen; omega
   ·omega
   ·first | omega | (simp; omega)
   intro v2 w2 hown2 hgrow2
   have HO := Lib.hid hown2; have HGr := Lib.hid hgrow2
   clear hown2 hgrow2 hown1'
   go_wp2_with fail
   go_roundg (xs.length - (j + 1))
   case rel => exact ⟨j + 1, by go_num, by omega, rfl, by rw [HSn.out]; simpa [Nat.add_assoc] using HO.out, (HBe.out.alloc hszw _).grown HGr.out (by simp; omega) (fun k e => (HK1.out k e).1)⟩
   case measure => have := HG.out; omega
  ·obtain rfl : j = xs.length := by omega
   rw [List.take_of_length_le (by simp)] at hown
   have HO := Lib.hid hown
   obtain ⟨A2, c2, rfl, hS2, hA2⟩ := Sl.of_own hown
   clear hown
   obtain ⟨wo, rfl⟩ : ∃ wo : World, wo = wr := ⟨_, rfl⟩
   have hTl : T.length + xs.length = (T ++ xs.map (·.t)).length := by simp
   have HTl := Lib.hid hTl
   generalize T.length + xs.length = N at *
   have HW1 : Hid (∀ m, Bk ((wo.alloc (.cells #[.int .i64 0, .int .i64 0, .slice A2 N c2] TR)).drewN m) wo.heap.size #[.int .i64 0, .int .i64 0, .slice A2 N c2] TR ∧ Sl ((wo.alloc (.cells #[.int .i64 0, .int .i64 0, .slice A2 N c2] TR)).drewN m) 1 A2 N c2 (ints (T ++ xs.map (·.t)))) := fun m =>
    ⟨Bk.new wo _ _, (hS2.fr (Fr.alloc (fun _ => False) wo _) (fun _ _ h => h)).fr (Fr.drewN (fun _ => False) _ m) (fun _ _ h => h)⟩
   have HB2 : Hid (∀ m, Below w.heap.size w ((wo.alloc (.cells #[.int .i64 0, .int .i64 0, .slice A2 N c2] TR)).drewN m) ∧ ((wo.alloc (.cells #[.int .i64 0, .int .i64 0, .slice A2 N c2] TR)).drewN m).ownsRow w.heap.size TI 1 (.slice A2 N c2) N (ints (T ++ xs.map (·.t)))) := fun m =>
    ⟨(HBe.out.alloc hszw _).trans ((Fr.drewN (fun _ => False) _ m).below (by simp; omega) (fun _ _ h => h)), ownsRow_fr (HO.out.alloc _) (Fr.drewN (fun _ => False) _ m) (fun _ _ h => h)⟩
   clear hS2 hA2 HO hTl
   go_wp2_with fail
   go_loopg [8] xs.length (fun gk i wq => ∃ j m : Nat, i = .int .i64 j ∧ j ≤ xs.length ∧ gk = xs.length - j ∧ wq = (wo.alloc (.cells #[.int .i64 0, .int .i64 0, .slice A2 N c2] TR)).drewN m ∧ (0 < j → (N : Int) ≤ all) ∧ ∀ t ∈ (xs.map (·.t)).take j, (((T ++ xs.map (·.t)).count t : Nat) : Int) ≤ tr)
   case atStart => exact ⟨0, 0, rfl, Nat.zero_le _, rfl, rfl, by omega, by simp⟩
   case round =>
    obtain ⟨k, m, rfl, hk, hg2, rfl, hN, hall⟩ := hrel
    have HG2 := Lib.hid hg2; have HN := Lib.hid hN; have HAll := Lib.hid hall
    clear hg2 hN hall
    by_cases hlk : k < xs.length
    ·obtain ⟨b1, o1, rfl, hb1, c1⟩ := HS0.out.at hlk (by omega)
     have hbel := (HB2.out m).1
     have d1 : ((wo.alloc (.cells #[.int .i64 0, .int .i64 0, .slice A2 N c2] TR)).drewN m).cell? ⟨b1, o1 + k * 9, none⟩ = some (.int .i64 xs[k].t) := (hbel.cell (p := ⟨b1, _, none⟩) hb1).trans (c1 (k * 9) _ (by rw [← Nat.add_zero (k * 9), flat_at Sp.cs_len hlk (by omega)]; rfl))
     have e0 : ((wo.alloc (.cells #[.int .i64 0, .int .i64 0, .slice A2 N c2] TR)).drewN m).cell? ⟨B, 0, none⟩ = some (.int .i64 all) := (hbel.cell (p := ⟨B, 0, none⟩) hBl).trans (HB.out.cell 0)
     have e1 : ((wo.alloc (.cells #[.int .i64 0, .int .i64 0, .slice A2 N c2] TR)).drewN m).cell? ⟨B, 1, none⟩ = some (.int .i64 tr) := (hbel.cell (p := ⟨B, 1, none⟩) hBl).trans (HB.out.cell 1)
     have HSn : Hid ((xs.map (·.t)).take (k + 1) = (xs.map (·.t)).take k ++ [xs[k].t]) := by
      show _ = _
      rw [List.take_succ_eq_append_getElem (by simpa using hlk)]; simp
     have HMem : Hid (xs[k].t ∈ xs.map (·.t)) := List.mem_map.2 ⟨_, List.getElem_mem hlk, rfl⟩
     have HOfq : Hid (∀ m', Calls prog 248 #[.pointer (some ⟨wo.heap.size, 0, none⟩), .int .i64 xs[k].t] (((wo.alloc (.cells #[.int .i64 0, .int .i64 0, .slice A2 N c2] TR)).drewN m).drewN m') fun e w' => e = .returned (.int .i64 ((T ++ xs.map (·.t)).count xs[k].t : Nat)) ∧ w' = ((wo.alloc (.cells #[.int .i64 0, .int .i64 0, .slice A2 N c2] TR)).drewN m).drewN m') := fun m' => by
      have f := Fr.drewN (fun _ => False) ((wo.alloc (.cells #[.int .i64 0, .int .i64 0, .slice A2 N c2] TR)).drewN m) m'
      have := Of' wo.heap.size xs[k].t A2 c2 N _ _ _ _ HTl.out ((HW1.out m).1.fr f (fun _ _ h => h)) ((HW1.out m).2.fr f (fun _ _ h => h))
      exact this.mono (fun _ _ h => ⟨h.1, h.2.symm⟩)
     have HNo : Hid (∀ b : Nat, b = (T ++ xs.map (·.t)).count xs[k].t → ¬ (b : Int) ≤ tr → okS all tr (xs.map (·.t)) T = false) := fun b hb hbt => by
      subst hb
      unfold okS; rw [decide_eq_false_iff_not]
      rintro (e | ⟨-, h2⟩)
      ·have := HMem.out; rw [e] at this; cases this
      ·exact hbt (h2 _ HMem.out)
     have HNo2 : Hid (¬ (N : Int) ≤ all → okS all tr (xs.map (·.t)) T = false) := fun hbt => by
      unfold okS; rw [decide_eq_false_iff_not]
      rintro (e | ⟨h1, -⟩)
      ·have := HMem.out; rw [e] at this; cases this
      ·have := HTl.out; simp at this; simp at h1; omega
     have HB2m := Lib.hid (fun m' => (HB2.out (m + m')))
     have HDd : Hid (∀ m', ((wo.alloc (.cells #[.int .i64 0, .int .i64 0, .slice A2 N c2] TR)).drewN m).drewN m' = (wo.alloc (.cells #[.int .i64 0, .int .i64 0, .slice A2 N c2] TR)).drewN (m + m')) := fun m' => by simp [World.drewN, Nat.add_assoc]
     have i1 : (k : Int) < (xs.length : Int) := by omega
     have i0 : (0 : Int) ≤ (k : Int) := by omega
     clear c1 hbel
     generalize hwm : (wo.alloc (.cells #[.int .i64 0, .int .i64 0, .slice A2 N c2] TR)).drewN m = wm at *
     have HWm := Lib.hid hwm
     clear hwm
     generalize xs[k].t = t at *
     generalize hcn : (T ++ xs.map (·.t)).count t = n at *
     have HCn := Lib.hid hcn
     clear hcn
     by_cases hNa : (N : Int) ≤ all
     ·have k1 : decide (all < (N : Int)) = false := by simp; omega
      by_cases hnt : (n : Int) ≤ tr
      ·have k2 : decide (tr < (n : Int)) = false := by simp; omega
       go_upto_region 11 with (fail)
       go_quiet (first | (go_at_call 248; refine Calls.quiet_of_same (HOfq.out _)))
       go_wp2_with fail
       go_roundg (xs.length - (k + 1))
       case rel =>
        refine ⟨k + 1, m + nq, by go_num, by omega, rfl, HDd.out nq, fun _ => hNa, fun t' ht' => ?_⟩
        rw [HSn.out] at ht'
        rcases List.mem_append.1 ht' with h | h
        ·exact HAll.out t' h
        ·simp at h; subst h; rw [HCn.out]; exact hnt
       case measure => have := HG2.out; omega
      ·have k2 : decide (tr < (n : Int)) = true := by simp; omega
       go_upto_region 11 with (fail)
       go_quiet (first | (go_at_call 248; refine Calls.quiet_of_same (HOfq.out _)))
       go_wp2_with fail
       go_ret
       have hno := HNo.out n rfl hnt
       have hf : Fr (fun _ => False) w (wm.drewN nq) := by rw [HDd.out nq]; exact Fr.of_below' (HB2.out (m + nq)).1 _
       exact ⟨by rw [hno]; rfl, F, by rw [hno, if_neg (by simp)]; exact HH.out.fr hf (fun _ _ h => h), Tn.of_fr hf HH.out.lt⟩
     ·have k1 : decide (all < (N : Int)) = true := by simp; omega
      go_upto_region 11 with (fail)
      go_quiet (fail)
      go_wp2_with fail
      go_ret
      have hno := HNo2.out hNa
      have hf : Fr (fun _ => False) w (wm.drewN nq) := by rw [HDd.out nq]; exact Fr.of_below' (HB2.out (m + nq)).1 _
      exact ⟨by rw [hno]; rfl, F, by rw [hno, if_neg (by simp)]; exact HH.out.fr hf (fun _ _ h => h), Tn.of_fr hf HH.out.lt⟩
    ·obtain rfl : k = xs.length := by omega
     have HYes : Hid (okS all tr (xs.map (·.t)) T = true) := by
      show _ = _
      unfold okS; rw [decide_eq_true_iff]
      by_cases hx0 : xs.length = 0
      ·exact .inl (by rw [List.eq_nil_of_length_eq_zero hx0]; rfl)
      ·refine .inr ⟨?_, fun t ht => HAll.out t (by rw [List.take_of_length_le (by simp)]; exact ht)⟩
       have := HN.out (by omega); have h2 := HTl.out; simp at h2; simp; omega
     have hbk : Bk ((wo.alloc (.cells #[.int .i64 0, .int .i64 0, .slice A2 N c2] TR)).drewN m) B #[.int .i64 all, .int .i64 tr, .slice A T.length c] TR := ((HB2.out m).1.block B hBl).trans HB.out
     have fB := hbk.free 2
     have cB2 : ((wo.alloc (.cells #[.int .i64 0, .int .i64 0, .slice A2 N c2] TR)).drewN m).cell? ⟨B, 2, none⟩ = some (.slice A T.length c) := hbk.cell 2
     have HFin := Lib.hid (RQ.store HH.out (HB2.out m).1 (by have := (HB2.out m).2; rw [HTl.out] at this ⊢; exact this))
     rw [← HTl.out] at HFin
     clear hbk
     generalize (wo.alloc (.cells #[.int .i64 0, .int .i64 0, .slice A2 N c2] TR)).drewN m = wm at *
     go_wp2_with fail
     go_ret
     exact ⟨by rw [HYes.out]; rfl, by rw [HYes.out, if_pos rfl]; exact HFin.out⟩
end Ref17
end Go.Proofs.YtdpngmgaomghoaaGreat
