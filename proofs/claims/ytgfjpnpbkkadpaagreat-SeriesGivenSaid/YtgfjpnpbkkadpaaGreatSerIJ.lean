/- Series: the windows from one on, up to another one, are given in order. -/
import Derived.Test.YtgfjpnpbkkadpaaGreatSers2
import Derived.Test.YtgfjpnpbkkadpaaGreatRngs
import Derived.Test.YtgfjpnpbkkadpaaGreatSetWs
import Derived.Deep.CutBlock
import Derived.Shelf.Abstract
import Derived.RangeFuncCalls
import Derived.RangeFuncBound
import Derived.RangeFuncLeaves
import Derived.TacticsInMore
import Derived.Sort.AtCallIn
import Derived.Maps.OwnIn
namespace Go.Proofs.YtgfjpnpbkkadpaaGreat
open Go.RowKit Go.Shelf
attribute [local go_sem] Oper.semAt_some
namespace Ser
open KeyP SetP SetW BagP Bag Mk
abbrev TI : TypeId := 3
abbrev TStr : TypeId := 9
abbrev TPVw : TypeId := 24
abbrev TY2 : TypeId := 134
/-- From one window on, up to another one. -/
def inr (f t : Int) (p : Int × Int) : Bool := decide (f ≤ p.1) && decide (p.1 < t)
theorem roundIn_in {m l l2 : Nat} {P : Program} {fn : FuncId} {tmps : Array Value} {assign body : Code} {W : World} {R : Ending → World → Prop} (h : RoundIn Fence.wide m P l fn tmps assign body W R) : RoundIn (Fence.wide.inRound l2) m P l fn tmps assign body W R := h
theorem take_pre {f t : Int} (L : List (Int × Int)) (m : Nat) : (L.take m).filter (inr f t) <+: L.filter (inr f t) := (List.take_prefix m L).filter _
/-- Behind one that is not below, none is in. -/
theorem stop_at {f t : Int} {L : List (Int × Int)} (hs : Srt L) {m : Nat} (hm : m < L.length) (h : t ≤ L[m].1) : L.filter (inr f t) = (L.take m).filter (inr f t) := by
  conv => lhs; rw [← List.take_append_drop m L]
  rw [List.filter_append]
  have : (L.drop m).filter (inr f t) = [] := by
    rw [List.filter_eq_nil_iff]
    intro p hp
    obtain ⟨j, hj, rfl⟩ := List.getElem_of_mem hp
    rw [List.getElem_drop]
    have hle : L[m].1 ≤ (L[m + j]'(by rw [List.length_drop] at hj; omega)).1 := by
      rcases Nat.eq_zero_or_pos j with rfl | h0
      · exact Int.le_refl _
      · have := List.pairwise_iff_getElem.1 hs m (m + j) hm (by rw [List.length_drop] at hj; omega) (by omega)
        have h2 : L[m].1 < (L[m + j]'(by rw [List.length_drop] at hj; omega)).1 := by simpa [Ord.lt] using this
        omega
    unfold inr
    simp; omega
  rw [this, List.append_nil]
/-- Between the rounds: as many have been looked at. -/
structure SI (J : List (Int × Int) → World → Prop) (N Bf Bt l : Nat) (f t : Int) (L : List (Int × Int)) (m : Nat) (W : World) : Prop where
  j : J ((L.take m).filter (inr f t)) W
  y : Bk W N #[.func (.yield l) #[] #[]] TY2
  bf : Bk W Bf #[.int .i64 f] TI
  bt : Bk W Bt #[.int .i64 t] TI
  sz : N + 2 ≤ W.heap.size
theorem SI.fr {J : List (Int × Int) → World → Prop} {N Bf Bt l : Nat} {f t : Int} {L : List (Int × Int)} {m : Nat} {W W' : World} {S : Nat → Prop} (h : SI J N Bf Bt l f t L m W) (hJ : Abide N (N + 4) J) (hf : Fr S W W') (hS : ∀ b, b < W.heap.size → S b → Rg N (N + 4) b) (h1 : ¬ S N) (h2 : ¬ S Bf) (h3 : ¬ S Bt) : SI J N Bf Bt l f t L m W' :=
  ⟨hJ _ _ _ h.j (hf.mono hS), h.y.fr hf (fun b hb => by simp at hb; subst hb; exact h1), h.bf.fr hf (fun b hb => by simp at hb; subst hb; exact h2), h.bt.fr hf (fun b hb => by simp at hb; subst hb; exact h3), Nat.le_trans h.sz hf.size⟩
/-- No more rounds: all has been given, or no more is wanted. -/
def SX (J Jx : List (Int × Int) → World → Prop) (N : Nat) (LL : List (Int × Int)) (k : Code) (A : World) : Prop := (k = .exit 0 ∧ (J LL A ∨ ∃ q, q <+: LL ∧ Jx q A)) ∧ N + 2 ≤ A.heap.size
theorem SX.fr {J Jx : List (Int × Int) → World → Prop} {N : Nat} {LL : List (Int × Int)} {k : Code} {A C : World} {S : Nat → Prop} (h : SX J Jx N LL k A) (hJ : Abide N (N + 4) J) (hJx : Abide N (N + 4) Jx) (hf : Fr S A C) (hS : ∀ b, b < A.heap.size → S b → Rg N (N + 4) b) : SX J Jx N LL k C := by
  obtain ⟨⟨rfl, h1⟩, h2⟩ := h
  refine ⟨⟨rfl, ?_⟩, Nat.le_trans h2 hf.size⟩
  rcases h1 with h1 | ⟨q, h3, h4⟩
  · exact .inl (hJ _ _ _ h1 (hf.mono hS))
  · exact .inr ⟨q, h3, hJx _ _ _ h4 (hf.mono hS)⟩
set_option maxRecDepth 100000 in
set_option maxHeartbeats 2000000 in
theorem Between_seq (FP : List Nat) (v : Value) (Bv Bs Bo Bf Bt : Nat) (s o : ByteArray) (f t : Int) (p : Option Addr) (hp : p = none ∨ ∃ B off, p = some ⟨B, off, none⟩) (L : List (Int × Int)) (F : List Nat) (w : World) (hb : BagAt v s o p w) (hM : AvlII.MapP w p L F)
    (hv : Bk w Bv #[v] TPVw) (hs : Bk w Bs #[.string s] TStr) (ho : Bk w Bo #[.string o] TStr) (hf : Bk w Bf #[.int .i64 f] TI) (ht : Bk w Bt #[.int .i64 t] TI) (hF : ∀ b ∈ F, b ∈ FP) (hBf : Bf ∈ FP) (hBt : Bt ∈ FP) (hFP : ∀ b ∈ FP, b < w.heap.size) :
    SeqP Tryz.prog 72 #[.pointer (some ⟨Bv, 0, none⟩), .pointer (some ⟨Bs, 0, none⟩), .pointer (some ⟨Bo, 0, none⟩), .pointer (some ⟨Bf, 0, none⟩), .pointer (some ⟨Bt, 0, none⟩)] AvlII.encs FP 4 (L.filter (inr f t)) w := by
  intro n l J Jx W hW hJ hJx hY h0
  have hfw := Fr.of_below' hW (fun _ => False)
  have hsrt := hM.srt
  have hv := hv.fr hfw (fun _ _ h => h)
  have hs := hs.fr hfw (fun _ _ h => h)
  have ho := ho.fr hfw (fun _ _ h => h)
  have hf := hf.fr hfw (fun _ _ h => h)
  have ht := ht.fr hfw (fun _ _ h => h)
  have hbW : BagAt v s o p W := fun X hX => hb X (hW.trans (hX.mono hW.size))
  have hMW := hM.below hW
  have hFP : ∀ b ∈ FP, b < W.heap.size := fun b hb => Nat.lt_of_lt_of_le (hFP b hb) hfw.size
  clear hfw hW hb hM
  generalize hLL : L.filter (inr f t) = LL at *
  have HLs := Lib.hid hLL
  clear hLL
  have c1 := hv.cell 0; have c2 := hs.cell 0; have c3 := ho.cell 0
  have HS := Lib.hid hsrt; have HMP := Lib.hid hMW; have HBA := Lib.hid hbW; have HFP := Lib.hid hFP; have HF := Lib.hid hF; have HY := Lib.hid hY; have HJ := Lib.hid hJ; have HJx := Lib.hid hJx; have H0 := Lib.hid h0
  have HBf := Lib.hid hf; have HBt := Lib.hid ht
  have HBf2 := Lib.hid hBf; have HBt2 := Lib.hid hBt
  have HAll := fun w => Lib.hid (Bag.All_any p hp w)
  have lt1 := lt_of_heap hv; have lt2 := lt_of_heap hs; have lt3 := lt_of_heap ho; have lt4 := lt_of_heap hf; have lt5 := lt_of_heap ht
  clear hsrt hMW hbW hFP hF hY hJ hJx h0 hv hs ho hf ht hBf hBt hp
  refine callsIn_of_wp_marks Tryz.func72 rfl trivial ?_ rfl
  simp only [Tryz.ntmps72, List.size_toArray, List.length_cons, List.length_nil, Nat.reduceAdd, Nat.reduceSub, Array.replicate_succ, Array.replicate_zero, List.push_toArray, List.append_toArray, List.nil_append, List.cons_append]
  refine wpIn_wide.2 ?_
  go_wp2_with fail
  go_step3
  go_wp2_with fail
  go_step3
  go_wp2_with fail
  refine (HBA.out (W.alloc (.cells #[.func (.yield l) #[] #[]] TY2)) ((Below.refl _ W).alloc (Nat.le_refl _) _)).mono ?_
  rintro e w1 ⟨rfl, rfl⟩
  go_wp2_with fail
  refine (HAll _).out.mono ?_
  rintro e w1 ⟨rfl, rfl⟩
  clear HAll HBA
  go_wp2_with fail
  have fa := fun (w : World) (o : Obj) => Fr.alloc (fun _ => False) w o
  have hG := (fa W (.cells #[.func (.yield l) #[] #[]] TY2)).trans (fa (W.alloc (.cells #[.func (.yield l) #[] #[]] TY2)) (.cells #[.pointer p] 181)) (T := fun _ => False) (fun _ _ h => h) (fun _ _ h => h)
  have hy1 := (Bk.new W #[.func (.yield l) #[] #[]] TY2).fr (fa _ (.cells #[.pointer p] 181)) (fun _ _ h => h)
  have hq : ((W.alloc (.cells #[.func (.yield l) #[] #[]] TY2)).alloc (.cells #[.pointer p] 181)).cell? ⟨W.heap.size + 1, 0, none⟩ = some (.pointer p) := by
    have := (Bk.new (W.alloc (.cells #[.func (.yield l) #[] #[]] TY2)) #[.pointer p] 181).cell 0
    rwa [World.size_alloc] at this
  have n6 : ((W.alloc (.cells #[.func (.yield l) #[] #[]] TY2)).alloc (.cells #[.pointer p] 181)).heap.size = W.heap.size + 2 := by simp
  generalize ((W.alloc (.cells #[.func (.yield l) #[] #[]] TY2)).alloc (.cells #[.pointer p] 181)) = W1 at *
  have HY1 := Lib.hid hy1; have HQ := Lib.hid hq; have HN := Lib.hid n6
  have HBf1 : Hid (Bk W1 Bf #[.int .i64 f] TI) := HBf.out.fr hG (fun _ _ h => h)
  have HBt1 : Hid (Bk W1 Bt #[.int .i64 t] TI) := HBt.out.fr hG (fun _ _ h => h)
  have HMP1 : Hid (AvlII.MapP W1 p L F) := HMP.out.below (hG.below (Nat.le_refl _) (fun _ _ h => h))
  have HJ1 : Hid (J [] W1) := HJ.out _ _ _ H0.out (hG.mono (fun _ _ h => h.elim))
  clear hG hy1 hq n6 HBf HBt HMP H0 c1 c2 c3 fa
  have hseq := AvlII.All_seq F (W.heap.size + 1) p L F W1 HQ.out (by have := HN.out; omega) HMP1.out (fun _ h => h)
  refine (wpIn_wide (n := n)).1 ?_
  refine range_P' (n := n) (a₁ := ?fr) (gf := 167) (lb := #[.pointer (some ⟨W.heap.size + 1, 0, none⟩)]) rfl (enters_of Tryz.func167 (by kernel_rfl) rfl)
    hseq (fun b hb => by have := HFP.out b (HF.out b hb); have := HN.out; omega) (fun _ => rfl)
    (fun (pre : List (Int × Int)) (A : World) => SI J W.heap.size Bf Bt l f t L pre.length A)
    (fun k (_ : List (Int × Int)) (A : World) => SX J Jx W.heap.size LL k A)
    (fun pre A C hA hf => hA.fr HJ.out hf (fun b _ hb => ⟨by have := hb.1; have := HN.out; omega, by have := hb.2; have := HN.out; omega⟩) (fun hb => by have := hb.1; have := HN.out; omega) (fun hb => by have := hb.1; have := HN.out; omega) (fun hb => by have := hb.1; have := HN.out; omega))
    (fun k pre A C hA hf => hA.fr HJ.out HJx.out hf (fun b _ hb => ⟨by have := hb.1; have := HN.out; omega, by have := hb.2; have := HN.out; omega⟩))
    ⟨by simpa using HJ1.out, HY1.out, HBf1.out, HBt1.out, by have := HN.out; omega⟩ ?assign ?body ?done ?stop
  case assign =>
    intro l m x W K hK
    gi_wp2_with fail
    exact hK
  case body =>
    rintro l2 m pre x W2 hI hsz hpre rfl ⟨r, hl⟩ hd
    (try dsimp only)
    have hlt : pre.length < L.length := by have := hpre.length_le; rw [List.length_append, List.length_singleton] at this; omega
    have hx : x = L[pre.length] := by
      obtain ⟨t', ht'⟩ := hpre
      have h1 : L[pre.length]? = some x := by rw [← ht']; simp
      rw [List.getElem?_eq_getElem hlt] at h1
      exact (Option.some.inj h1).symm
    have HStop : Hid (t ≤ x.1 → LL = (L.take pre.length).filter (inr f t)) := fun h => by rw [← HLs.out]; exact stop_at HS.out hlt (by rw [← hx]; exact h)
    have HTk : Hid (L.take (pre.length + 1) = L.take pre.length ++ [x]) := by rw [hx]; exact List.take_succ_eq_append_getElem hlt
    have HI := Lib.hid hI; have HSz := Lib.hid hsz
    have ct : W2.cell? ⟨Bt, 0, none⟩ = some (.int .i64 t) := hI.bt.cell 0
    have ci : W2.cell? ⟨Bf, 0, none⟩ = some (.int .i64 f) := hI.bf.cell 0
    have cy : W2.cell? ⟨W.heap.size, 0, none⟩ = some (.func (.yield l) #[] #[]) := hI.y.cell 0
    clear hI hl hd hpre hsz hx
    obtain ⟨xk, xv⟩ := x
    dsimp only at *
    cases h1 : decide (xk < f) with
    | true =>
      have hno : inr f t (xk, xv) = false := by unfold inr; simp at h1 ⊢; omega
      have HNx : Hid (SI J W.heap.size Bf Bt l f t L (pre.length + 1) W2) := ⟨by rw [HTk.out, List.filter_append, List.filter_cons, hno]; simpa using HI.out.j, HI.out.y, HI.out.bf, HI.out.bt, HI.out.sz⟩
      clear hno
      gi_wp2_with fail
      refine ⟨KeptR.refl _ _ _, Nat.le_refl _, KeptL.refl _ _, ?_⟩
      show SI J W.heap.size Bf Bt l f t L (pre ++ [(xk, xv)]).length W2
      rw [List.length_append, List.length_singleton]
      exact HNx.out
    | false =>
      cases h2 : decide (xk ≥ t) with
      | true =>
        have HE := Lib.hid (HStop.out (by simpa using h2))
        gi_wp2_with fail
        refine ⟨fun _ h => (by cases h), ?_⟩
        gi_wp2_with fail
        exact ⟨KeptR.refl _ _ _, Nat.le_refl _, ⟨rfl, .inl (by rw [HE.out]; exact HI.out.j)⟩, HI.out.sz⟩
      | false =>
        have hyes : inr f t (xk, xv) = true := by unfold inr; simp at h1 h2 ⊢; omega
        have hpre2 : (L.take pre.length).filter (inr f t) ++ [(xk, xv)] <+: LL := by
          have := take_pre (f := f) (t := t) L (pre.length + 1)
          rwa [HTk.out, List.filter_append, List.filter_cons, hyes, if_pos rfl, List.filter_nil, HLs.out] at this
        have HPre := Lib.hid hpre2
        have HEq : Hid ((L.take (pre.length + 1)).filter (inr f t) = (L.take pre.length).filter (inr f t) ++ [(xk, xv)]) := by rw [HTk.out, List.filter_append, List.filter_cons, hyes]; rfl
        have hsz2 : W.heap.size + 4 ≤ W2.heap.size := by have := HSz.out; have := HN.out; omega
        obtain ⟨fn, tmps, assign, body, hyy, hR⟩ := HY.out (m - 1) _ (xk, xv) W2 HI.out.j hsz2 hpre2
        have HR := Lib.hid hR
        have HSz2 := Lib.hid hsz2
        clear hpre2 hR hsz2 hyes
        gi_wp2_with fail
        refine ⟨fun h => (by cases h), roundIn_in (HR.out.mono ?_)⟩
        rintro e W3 (⟨rfl, j3, k3', r3, s3⟩ | ⟨rfl, j3, r3, s3⟩)
        · have HJ3 := Lib.hid j3; have HK3 := Lib.hid k3'; have HR3 := Lib.hid r3; have HS3 := Lib.hid s3
          clear j3 k3' r3 s3 HR hyy ct ci cy
          gi_wp2_with fail
          have hn := HN.out
          have hrg : ∀ b, Rg W1.heap.size (W1.heap.size + 2 + 0) b → Rg W.heap.size (W.heap.size + 4) b := fun b hb => ⟨by have := hb.1; omega, by have := hb.2; omega⟩
          refine ⟨fun b hb => HR3.out b (hrg b hb), HS3.out, fun b hb => HK3.out b (HF.out b hb), ?_⟩
          show SI J W.heap.size Bf Bt l f t L (pre ++ [(xk, xv)]).length W3
          rw [List.length_append, List.length_singleton]
          exact ⟨by rw [HEq.out]; exact HJ3.out, (HR3.out _ ⟨Nat.le_refl _, by omega⟩).trans HI.out.y, (HK3.out _ HBf2.out).trans HI.out.bf, (HK3.out _ HBt2.out).trans HI.out.bt, by have := HS3.out; have := HSz2.out; omega⟩
        · have HJ3 := Lib.hid j3; have HR3 := Lib.hid r3; have HS3 := Lib.hid s3
          clear j3 r3 s3 HR hyy ct ci cy
          gi_wp2_with fail
          have hn := HN.out
          exact ⟨fun b hb => HR3.out b ⟨by have := hb.1; omega, by have := hb.2; omega⟩, HS3.out, ⟨rfl, .inr ⟨_, HPre.out, HJ3.out⟩⟩, by have := HS3.out; have := HSz2.out; omega⟩
  case done =>
    rintro W3 hsz hI hK
    have hj := hI.j
    rw [List.take_length, HLs.out] at hj
    have HJ3 := Lib.hid hj; have HK := Lib.hid hK
    clear hI hj hK
    go_wp2_with fail
    try rw [Exit.noGoto_ret]
    refine ⟨by simp, .inl ⟨_, _, rfl, run_takeDeferred HK.out, ?_⟩⟩
    have hn := HN.out
    have hf := Fr.putObj W3 W1.heap.size (.deferred none) (S := Rg W.heap.size (W.heap.size + 4)) ⟨by omega, by omega⟩
    refine ⟨.tuple #[], by simp [results, Tryz.results72, go_sem], ⟨_, rfl⟩, by have := hf.size; omega, .inl (HJ.out _ _ _ HJ3.out hf)⟩
  case stop =>
    rintro k pre W3 hsz hpre ⟨⟨rfl, hI⟩, hsz0⟩ hK
    have HI3 := Lib.hid hI; have HK := Lib.hid hK
    clear hI hK
    refine (wpIn_wide (n := n)).2 ?_
    go_wp2_with fail
    try rw [Exit.noGoto_ret]
    refine ⟨by simp, .inl ⟨_, _, rfl, run_takeDeferred HK.out, ?_⟩⟩
    have hn := HN.out
    have hf := Fr.putObj W3 W1.heap.size (.deferred none) (S := Rg W.heap.size (W.heap.size + 4)) ⟨by omega, by omega⟩
    refine ⟨.tuple #[], by simp [results, Tryz.results72, go_sem], ⟨_, rfl⟩, by have := hf.size; omega, ?_⟩
    rcases HI3.out with h | ⟨q, h1, h2⟩
    · exact .inl (HJ.out _ _ _ h hf)
    · exact .inr ⟨q, h1, HJx.out _ _ _ h2 hf⟩
end Ser
end Go.Proofs.YtgfjpnpbkkadpaaGreat
namespace Go.Proofs.YtgfjpnpbkkadpaaGreat
open Go.RowKit Go.Shelf
namespace Ser
open KeyP SetP SetW BagP Bag Mk
def BetPost (v : Value) (s o : ByteArray) (f t : Int) (w : World) (e : Ending) (w' : World) : Prop :=
  e = .returned (.func (.func 72) #[] #[.pointer (some ⟨w.heap.size, 0, none⟩), .pointer (some ⟨w.heap.size + 1, 0, none⟩), .pointer (some ⟨w.heap.size + 2, 0, none⟩), .pointer (some ⟨w.heap.size + 3, 0, none⟩), .pointer (some ⟨w.heap.size + 4, 0, none⟩)]) ∧
    Fr (fun _ => False) w w' ∧ w'.heap.size = w.heap.size + 5 ∧ Bk w' w.heap.size #[v] TPVw ∧ Bk w' (w.heap.size + 1) #[.string s] TStr ∧ Bk w' (w.heap.size + 2) #[.string o] TStr ∧ Bk w' (w.heap.size + 3) #[.int .i64 f] TI ∧ Bk w' (w.heap.size + 4) #[.int .i64 t] TI
theorem Between_ (v : Value) (hv : v = .pointer none ∨ ∃ b, v = .pointer (some ⟨b, 0, none⟩)) (s o : ByteArray) (f t : Int) (w : World) : Calls Tryz.prog 29 #[v, .string s, .string o, .int .i64 f, .int .i64 t] w (BetPost v s o f t w) := by
  have HP : Hid (BetPost v s o f t w (.returned (.func (.func 72) #[] #[.pointer (some ⟨w.heap.size, 0, none⟩), .pointer (some ⟨w.heap.size + 1, 0, none⟩), .pointer (some ⟨w.heap.size + 2, 0, none⟩), .pointer (some ⟨w.heap.size + 3, 0, none⟩), .pointer (some ⟨w.heap.size + 4, 0, none⟩)])) (((((w.alloc (.cells #[v] TPVw)).alloc (.cells #[.string s] TStr)).alloc (.cells #[.string o] TStr)).alloc (.cells #[.int .i64 f] TI)).alloc (.cells #[.int .i64 t] TI))) := by
    have fa := fun (w : World) (o : Obj) => Fr.alloc (fun _ => False) w o
    have nn : ∀ G : List Nat, ∀ b ∈ G, ¬ False := fun _ _ _ h => h
    have tr : ∀ {a b c : World}, Fr (fun _ => False) a b → Fr (fun _ => False) b c → Fr (fun _ => False) a c := fun h k => h.trans k (fun _ _ h => h) (fun _ _ h => h)
    refine ⟨rfl, tr (tr (tr (tr (fa _ _) (fa _ _)) (fa _ _)) (fa _ _)) (fa _ _), by simp, ?_, ?_, ?_, ?_, ?_⟩
    · exact ((((Bk.new w _ _).fr (fa _ _) (nn _)).fr (fa _ _) (nn _)).fr (fa _ _) (nn _)).fr (fa _ _) (nn _)
    · have h := Bk.new (w.alloc (.cells #[v] TPVw)) #[.string s] TStr
      rw [World.size_alloc] at h
      exact ((h.fr (fa _ _) (nn _)).fr (fa _ _) (nn _)).fr (fa _ _) (nn _)
    · have h := Bk.new ((w.alloc (.cells #[v] TPVw)).alloc (.cells #[.string s] TStr)) #[.string o] TStr
      rw [World.size_alloc, World.size_alloc] at h
      exact (h.fr (fa _ _) (nn _)).fr (fa _ _) (nn _)
    · have h := Bk.new (((w.alloc (.cells #[v] TPVw)).alloc (.cells #[.string s] TStr)).alloc (.cells #[.string o] TStr)) #[.int .i64 f] TI
      rw [World.size_alloc, World.size_alloc, World.size_alloc] at h
      exact h.fr (fa _ _) (nn _)
    · have h := Bk.new ((((w.alloc (.cells #[v] TPVw)).alloc (.cells #[.string s] TStr)).alloc (.cells #[.string o] TStr)).alloc (.cells #[.int .i64 f] TI)) #[.int .i64 t] TI
      rwa [World.size_alloc, World.size_alloc, World.size_alloc, World.size_alloc] at h
  rcases hv with rfl | ⟨b, rfl⟩
  all_goals
    go_enter Tryz.func29, Tryz.ntmps29
    go_wp2_with fail
    go_ret
    exact HP.out

theorem filt_take {f t : Int} {X : List (Int × Int)} {k : Nat} (hk : k < X.length) : (X.take (k + 1)).filter (inr f t) = (X.take k).filter (inr f t) ++ if inr f t X[k] then [X[k]] else [] := by
  rw [List.take_succ_eq_append_getElem hk, List.filter_append, List.filter_cons]
  split <;> simp
set_option maxRecDepth 100000 in
set_option maxHeartbeats 1000000 in
theorem RBetween (A : Option Addr) (c n : Nat) (X : List (Int × Int)) (f t : Int) (w : World) (hC : Cl w A c n X) (hlen : X.length ≤ 1000000) (Y : List (Int × Int)) (hY : X.filter (inr f t) = Y) (m : Nat) (hm : Y.length = m) :
    Calls Tryz.prog 27 #[.slice A n c, .int .i64 f, .int .i64 t] w fun e w' => ∃ A' c', e = .returned (.slice A' m c') ∧ Cl w' A' c' m Y ∧ Below w.heap.size w w' := by
  obtain ⟨i0, hi, hz0, hz1_, hz2⟩ := info_parts Bag.infoC
  subst hm
  have HYe := Lib.hid hY
  have HC := Lib.hid hC.s
  have hn := hC.n
  clear hC hY
  subst hn
  go_enter Tryz.func27, Tryz.ntmps27
  go_wp2_with fail
  go_loopg [7, 8] X.length (fun gk v i wr => ∃ k : Nat, i = .int .i64 k ∧ k ≤ X.length ∧ gk = X.length - k ∧ wr.ownsRow w.heap.size TC 2 v ((X.take k).filter (inr f t)).length (((X.take k).filter (inr f t)).flatMap pc) ∧ Below w.heap.size w wr)
  case atStart => exact ⟨0, rfl, Nat.zero_le _, rfl, World.ownsRow_nil _ _ _ _, Below.refl _ _⟩
  case round =>
    obtain ⟨k, rfl, hk, hg, hown, hb⟩ := hrel
    obtain ⟨wo, hwo⟩ : ∃ wo, wo = wr := ⟨_, rfl⟩
    subst hwo
    have HG := Lib.hid hg; have HO := Lib.hid hown; have HB := Lib.hid hb
    clear hg hown hb
    by_cases hlt : k < X.length
    · have hCo : Sl wo 2 A X.length c (X.flatMap pc) := HC.out.fr (Fr.of_below' HB.out (fun _ => False)) (fun _ _ h => h)
      obtain ⟨b1, o1, rfl, hb1, c1⟩ := hCo.at hlt (by omega)
      have d1 : wo.cell? ⟨b1, o1 + k * 2, none⟩ = some (.int .i64 X[k].1) := by
        have := c1 (k * 2) _ (by rw [show k * 2 = k * 2 + 0 from rfl, flat_at pc_len hlt (by omega)]; rfl)
        exact this
      have d2 : wo.cell? ⟨b1, o1 + k * 2 + 1, none⟩ = some (.int .i64 X[k].2) := c1 (k * 2 + 1) _ (by rw [flat_at pc_len hlt (by omega)]; rfl)
      have HT := Lib.hid (filt_take (f := f) (t := t) hlt)
      have hl1 := List.length_filter_le (inr f t) (X.take k)
      have hl2 := List.length_take_le k X
      have q1 : (0 : Int) ≤ (k : Int) := by omega
      have q2 : (k : Int) < (X.length : Int) := by omega
      have q3 : decide ((k : Int) < (X.length : Int)) = true := by simp; omega
      clear c1 hCo
      generalize X[k] = p at *
      obtain ⟨pa, pb⟩ := p
      dsimp only at d1 d2
      cases h1 : decide (pa ≥ f) with
      | false =>
        have hno : inr f t (pa, pb) = false := by unfold inr; simp at h1 ⊢; omega
        rw [hno] at HT
        clear hno
        go_wp2_with fail
        go_roundg (X.length - (k + 1))
        case rel => exact ⟨k + 1, by go_num, by omega, rfl, by rw [HT.out]; simpa using HO.out, HB.out⟩
        case measure => have := HG.out; omega
      | true =>
        cases h2 : decide (pa < t) with
        | false =>
          have hno : inr f t (pa, pb) = false := by unfold inr; simp at h2 ⊢; omega
          rw [hno] at HT
          clear hno
          go_wp2_with fail
          go_roundg (X.length - (k + 1))
          case rel => exact ⟨k + 1, by go_num, by omega, rfl, by rw [HT.out]; simpa using HO.out, HB.out⟩
          case measure => have := HG.out; omega
        | true =>
          have hyes : inr f t (pa, pb) = true := by unfold inr; simp at h1 h2 ⊢; omega
          rw [hyes, if_pos rfl] at HT
          clear hyes
          have hown' := HO.out.alloc (.cells #[.int .i64 pa, .int .i64 pb] TC)
          have hsz := HB.out.size
          go_wp2_with (at_builtin; refine wpList_append_sl _ rfl (.tmp 31) (.tmp 36) TCs rfl w.heap.size TC i0 (.agg #[.int .i64 0, .int .i64 0]) 2 16 Tryz.underlying39 hi hz0 hz1_ hz2 rfl (by decide) _ _ _ rfl hown' _ _ _ _ rfl (Sl.one wo TC (pc (pa, pb)) 2 rfl) (by simp [Value.oneCell']) ?_ ?_ ?_ ?_)
          · unfold maxLen; omega
          · omega
          · rw [World.size_alloc]; omega
          intro v' w2 hown1 hgrow
          have hb2 : Below w.heap.size w w2 := (HB.out.alloc hsz _).trans ((Fr.grown hgrow (S := fun k => w.heap.size ≤ k) (fun k e => (ownsRow_blk HO.out k e).1)).below (by simp; omega) (fun k hk h => by omega))
          have HO2 : Hid (w2.ownsRow w.heap.size TC 2 v' ((X.take (k + 1)).filter (inr f t)).length (((X.take (k + 1)).filter (inr f t)).flatMap pc)) := by
            show World.ownsRow _ _ _ _ _ _ _
            rw [HT.out, List.length_append, List.length_singleton, List.flatMap_append]
            simpa using hown1
          have HB2 := Lib.hid hb2
          clear hown1 hgrow hb2 hown'
          go_wp2_with fail
          go_roundg (X.length - (k + 1))
          case rel => exact ⟨k + 1, by go_num, by omega, rfl, HO2.out, HB2.out⟩
          case measure => have := HG.out; omega
    · obtain rfl : k = X.length := by omega
      have q3 : decide ((X.length : Int) < (X.length : Int)) = false := by simp
      have ho := HO.out
      rw [List.take_length, HYe.out] at ho
      obtain ⟨A9, c9, rfl, hs9, -⟩ := Sl.of_own ho
      have H9 := Lib.hid hs9
      clear ho hs9 HO HG
      go_wp2_with fail
      go_ret
      exact ⟨A9, c9, rfl, ⟨H9.out, rfl⟩, HB.out⟩
end Ser
end Go.Proofs.YtgfjpnpbkkadpaaGreat
