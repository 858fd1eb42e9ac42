/- Bags: the walks of Add, Take, All and Counts. -/
import Derived.Test.YtolpdgaomlhgdaaBag
import Derived.Test.YtolpdgaomlhgdaaColl
import Derived.RangeFuncLeaves
import Derived.OwnWalkIn
namespace Go.Proofs.Ytolpdgaomlhgdaa
open Go.RowKit Go.Shelf
attribute [local go_sem] Oper.semAt_some
namespace Bag
open BagP
theorem BagPost.refl {w : World} {B off : Nat} {c : Array Value} {TB : TypeId} {L : List (Int × Int)} {F : List Nat} (h : BagIn w B off c TB L F) : BagPost B off c TB L F w w :=
  ⟨c, F, h, rfl, fun _ _ => rfl, fun _ hx => .inl hx, Fr.refl _ _⟩
theorem BagIn.ok {w : World} {B off : Nat} {c : Array Value} {TB : TypeId} {L : List (Int × Int)} {F : List Nat} (h : BagIn w B off c TB L F) : Ok L := ⟨h.srt, h.pos.1, h.pos.2⟩
theorem Add_none (x many : Int) (w : World) : Calls Try.prog 46 #[.pointer none, .int .i64 x, .int .i64 many] w fun e w' => e = .returned (.bool false) ∧ w = w' := by
  go_enter Try.func46, Try.ntmps46
  go_wp2
  go_ret
  exact ⟨rfl, rfl⟩
set_option maxRecDepth 100000 in
theorem Add (B off : Nat) (c : Array Value) (TB : TypeId) (x many : Int) (L : List (Int × Int)) (F : List Nat) (w : World) (h : BagIn w B off c TB L F) (sz : L.length < 144115188075855871) :
    Calls Try.prog 46 #[.pointer (some ⟨B, off, none⟩), .int .i64 x, .int .i64 many] w fun e w' => e = .returned (.bool (okA many L)) ∧ BagPost B off c TB (addL x many L) F w w' := by
  have hcnt := h.pos.1.cnt x
  have hmost := h.pos.2
  have HH := Lib.hid h
  have c2 : w.cell? ⟨B, off + 2, none⟩ = some (.int .i64 (sumL L)) := by
    obtain ⟨hB, ⟨r, h0, h1, h2, -⟩, -⟩ := h
    exact (hB.cell _).trans h2
  have HC := Lib.hid (Count B off c TB x L F w h)
  by_cases hk : 0 ≤ many ∧ many ≤ 4611686018427387904 - sumL L
  · have HOk := Lib.hid (show okA many L = true by simp [okA, hk])
    have HAdd := Lib.hid (show addL x many L = setL x (cnt x L + many) L by simp [addL, HOk.out])
    have HSet := Lib.hid (set B off c TB x (cnt x L + many) L F w h (by omega) (by omega) sz)
    clear h
    generalize cnt x L = n at *
    generalize sumL L = s at *
    have q1 : ¬ many < 0 := by omega
    have q2 : ¬ 4611686018427387904 - s < many := by omega
    go_enter Try.func46, Try.ntmps46
    go_wp2_with fail
    refine HC.out.mono ?_
    rintro e w1 ⟨rfl, rfl⟩
    go_wp2_with fail
    refine HSet.out.mono ?_
    rintro e w1 ⟨rfl, hp⟩
    have HP := Lib.hid hp
    clear hp
    go_wp2_with fail
    go_ret
    exact ⟨by rw [HOk.out]; rfl, by rw [HAdd.out]; exact HP.out⟩
  · have HOk := Lib.hid (show okA many L = false by simp [okA]; omega)
    have HAdd := Lib.hid (show addL x many L = L by simp [addL, HOk.out])
    clear h HC
    generalize cnt x L = n at *
    generalize sumL L = s at *
    by_cases q1 : many < 0
    · go_enter Try.func46, Try.ntmps46
      go_wp2_with fail
      go_ret
      exact ⟨by rw [HOk.out]; rfl, by rw [HAdd.out]; exact BagPost.refl HH.out⟩
    · have q2 : 4611686018427387904 - s < many := by omega
      go_enter Try.func46, Try.ntmps46
      go_wp2_with fail
      go_ret
      exact ⟨by rw [HOk.out]; rfl, by rw [HAdd.out]; exact BagPost.refl HH.out⟩
theorem Take_none (x many : Int) (w : World) : Calls Try.prog 48 #[.pointer none, .int .i64 x, .int .i64 many] w fun e w' => e = .returned (.bool (decide (many = 0))) ∧ w = w' := by
  by_cases q1 : many < 0
  · have HD := Lib.hid (show decide (many = 0) = false by simp; omega)
    go_enter Try.func48, Try.ntmps48
    go_wp2_with fail
    go_ret
    exact ⟨by rw [HD.out]; rfl, rfl⟩
  · by_cases q2 : 0 < many
    · have HD := Lib.hid (show decide (many = 0) = false by simp; omega)
      go_enter Try.func48, Try.ntmps48
      go_wp2_with fail
      refine (Count_none x w).mono ?_
      rintro e w1 ⟨rfl, rfl⟩
      go_wp2_with fail
      go_ret
      exact ⟨by rw [HD.out]; rfl, rfl⟩
    · have HD := Lib.hid (show decide (many = 0) = true by simp; omega)
      go_enter Try.func48, Try.ntmps48
      go_wp2_with fail
      refine (Count_none x w).mono ?_
      rintro e w1 ⟨rfl, rfl⟩
      go_wp2_with fail
      go_ret
      exact ⟨by rw [HD.out]; rfl, rfl⟩
set_option maxRecDepth 100000 in
theorem Take (B off : Nat) (c : Array Value) (TB : TypeId) (x many : Int) (L : List (Int × Int)) (F : List Nat) (w : World) (h : BagIn w B off c TB L F) (sz : L.length < 144115188075855871) :
    Calls Try.prog 48 #[.pointer (some ⟨B, off, none⟩), .int .i64 x, .int .i64 many] w fun e w' => e = .returned (.bool (okT x many L)) ∧ BagPost B off c TB (takeL x many L) F w w' := by
  have hcnt := h.pos.1.cnt x
  have hmost := h.pos.2
  have HH := Lib.hid h
  have HC := Lib.hid (Count B off c TB x L F w h)
  by_cases hk : 0 ≤ many ∧ many ≤ cnt x L
  · have HOk := Lib.hid (show okT x many L = true by simp [okT, hk])
    have HAdd := Lib.hid (show takeL x many L = setL x (cnt x L - many) L by simp [takeL, HOk.out])
    have HSet := Lib.hid (set B off c TB x (cnt x L - many) L F w h (by omega) (by omega) sz)
    clear h
    generalize cnt x L = n at *
    generalize sumL L = s at *
    have q1 : ¬ many < 0 := by omega
    have q2 : ¬ n < many := by omega
    go_enter Try.func48, Try.ntmps48
    go_wp2_with fail
    refine HC.out.mono ?_
    rintro e w1 ⟨rfl, rfl⟩
    go_wp2_with fail
    refine HC.out.mono ?_
    rintro e w1 ⟨rfl, rfl⟩
    go_wp2_with fail
    refine HSet.out.mono ?_
    rintro e w1 ⟨rfl, hp⟩
    have HP := Lib.hid hp
    clear hp
    go_wp2_with fail
    go_ret
    exact ⟨by rw [HOk.out]; rfl, by rw [HAdd.out]; exact HP.out⟩
  · have HOk := Lib.hid (show okT x many L = false by simp [okT]; omega)
    have HAdd := Lib.hid (show takeL x many L = L by simp [takeL, HOk.out])
    clear h
    generalize cnt x L = n at *
    by_cases q1 : many < 0
    · go_enter Try.func48, Try.ntmps48
      go_wp2_with fail
      go_ret
      exact ⟨by rw [HOk.out]; rfl, by rw [HAdd.out]; exact BagPost.refl HH.out⟩
    · have q2 : n < many := by omega
      go_enter Try.func48, Try.ntmps48
      go_wp2_with fail
      refine HC.out.mono ?_
      rintro e w1 ⟨rfl, rfl⟩
      go_wp2_with fail
      go_ret
      exact ⟨by rw [HOk.out]; rfl, by rw [HAdd.out]; exact BagPost.refl HH.out⟩
theorem All_none (w : World) : Calls Try.prog 57 #[.pointer none] w fun e w' => e = .returned (.func (.func 92) #[] #[.pointer (some ⟨w.heap.size, 0, none⟩)]) ∧ w.alloc (.cells #[.pointer none] 52 (0, 0)) = w' := by
  go_enter Try.func57, Try.ntmps57
  go_wp2_with fail
  refine (AvlII.All none w).mono ?_
  rintro e w1 ⟨rfl, rfl⟩
  go_wp2_with fail
  go_ret
  exact ⟨rfl, rfl⟩
theorem All (B off : Nat) (w : World) : Calls Try.prog 57 #[.pointer (some ⟨B, off, none⟩)] w fun e w' => e = .returned (.func (.func 92) #[] #[.pointer (some ⟨w.heap.size, 0, none⟩)]) ∧ w.alloc (.cells #[.pointer (some ⟨B, off, none⟩)] 52 (0, 0)) = w' := by
  go_enter Try.func57, Try.ntmps57
  go_wp2_with fail
  refine (AvlII.All _ w).mono ?_
  rintro e w1 ⟨rfl, rfl⟩
  go_wp2_with fail
  go_ret
  exact ⟨rfl, rfl⟩
theorem All_any (p : Option Addr) (hp : p = none ∨ ∃ B off, p = some ⟨B, off, none⟩) (w : World) : Calls Try.prog 57 #[.pointer p] w fun e w' => e = .returned (.func (.func 92) #[] #[.pointer (some ⟨w.heap.size, 0, none⟩)]) ∧ w.alloc (.cells #[.pointer p] 52 (0, 0)) = w' := by
  rcases hp with rfl | ⟨B, off, rfl⟩
  · exact All_none w
  · exact All B off w
theorem infoC : (Try.prog.info? 87).map (fun i => (i.zero, i.size, i.bytes)) = some (some (.agg #[.int .i64 0, .int .i64 0]), 2, 16) := by kernel_rfl
abbrev TC : TypeId := 87
abbrev TCs : TypeId := 79
abbrev pc (p : Int × Int) : List Value := [.int .i64 p.1, .int .i64 p.2]
theorem pc_len (p : Int × Int) : (pc p).length = 2 := rfl

set_option maxRecDepth 100000 in
set_option maxHeartbeats 1000000 in
theorem Counts_any (p : Option Addr) (hp : p = none ∨ ∃ B off, p = some ⟨B, off, none⟩) (L : List (Int × Int)) (F : List Nat) (w : World) (hM : AvlII.MapP w p L F) (hFlt : ∀ b ∈ F, b < w.heap.size) (hlen : L.length ≤ 1000000000000) :
    Calls Try.prog 52 #[.pointer p] w fun e w' => ∃ v, e = .returned v ∧ w'.ownsRow w.heap.size TC 2 v L.length (L.flatMap pc) ∧ Below w.heap.size w w' := by
  obtain ⟨i0, hi, hz0, hz1, hz2⟩ := info_parts infoC
  have HAll := fun w => Lib.hid (All_any p hp w)
  clear hp
  refine (callsIn_wide (n := 3)).1 ?_
  refine callsIn_of_wp_marks Try.func52 rfl trivial ?_ rfl
  simp only [Try.ntmps52, List.size_toArray, List.length_cons, List.length_nil, Nat.reduceAdd, Nat.reduceSub, Array.replicate_succ, Array.replicate_zero, List.push_toArray, List.append_toArray, List.nil_append, List.cons_append]
  refine wpIn_wide.2 ?_
  go_wp2_with fail
  refine (HAll _).out.mono ?_
  rintro e w1 ⟨rfl, rfl⟩
  clear HAll
  go_wp2_with fail
  have fa := fun (w : World) (o : Obj) => Fr.alloc (fun _ => False) w o
  have nn : ∀ G : List Nat, ∀ b ∈ G, ¬ False := fun _ _ _ h => h
  have b0 : Bk ((w.alloc (.cells #[.slice none 0 0] TCs)).alloc (.cells #[.pointer p] 52)) w.heap.size #[.slice none 0 0] TCs := (Bk.new w _ _).fr (fa _ _) (nn _)
  have hcc : ((w.alloc (.cells #[.slice none 0 0] TCs)).alloc (.cells #[.pointer p] 52)).cell? ⟨w.heap.size + 1, 0, none⟩ = some (.pointer p) := by
    have := (Bk.new (w.alloc (.cells #[.slice none 0 0] TCs)) #[.pointer p] 52).cell 0
    rwa [World.size_alloc] at this
  have hb0 : Below w.heap.size w ((w.alloc (.cells #[.slice none 0 0] TCs)).alloc (.cells #[.pointer p] 52)) := ((Below.refl _ w).alloc (Nat.le_refl _) _).alloc (by simp) _
  have hs0 : ((w.alloc (.cells #[.slice none 0 0] TCs)).alloc (.cells #[.pointer p] 52)).heap.size = w.heap.size + 2 := by simp
  have hM0 := hM.below hb0
  generalize (w.alloc (.cells #[.slice none 0 0] TCs)).alloc (.cells #[.pointer p] 52) = W0 at *
  have HS0 := Lib.hid hs0
  clear hs0 fa hM
  refine (wpIn_wide (n := 3)).1 ?_
  refine range_P' (n := 3) (a₁ := ?fr) (gf := 92) (lb := #[.pointer (some ⟨w.heap.size + 1, 0, none⟩)]) rfl (enters_of Try.func92 (by kernel_rfl) rfl)
    (AvlII.All_seq F (w.heap.size + 1) p L F W0 hcc (by have := HS0.out; omega) hM0 (fun _ h => h)) (fun b hb => by have := hFlt b hb; have := HS0.out; omega) (fun _ => rfl)
    (fun (pre : List (Int × Int)) (W : World) => Coll w.heap.size W0.heap.size (W0.heap.size + 2 + 0) w.heap.size TCs TC 2 w W pre.length (pre.flatMap pc) ∧ W0.heap.size ≤ W.heap.size) (fun _ _ _ => False)
    (fun pre A B h hf => ⟨h.1.abide hf (by have := HS0.out; omega) (fun h => by have := h.1; have := HS0.out; omega) (by have := h.2; have := HS0.out; omega), Nat.le_trans h.2 hf.size⟩) (fun _ _ _ _ h _ => h)
    ⟨Coll.start b0 hb0, Nat.le_refl _⟩ ?assign ?body ?done (fun _ _ _ _ _ h _ => h.elim)
  case assign =>
    intro l m x W K hK
    gi_wp2
    exact hK
  case body =>
    rintro l m pre x W ⟨⟨v, hv, hown, hbel, hout⟩, hsz0⟩ hsz hpre rfl ⟨r, hl⟩ hd
    (try dsimp only)
    obtain ⟨xk, xv⟩ := x
    have hlt : pre.length + 1 ≤ L.length := by have := hpre.length_le; rw [List.length_append, List.length_singleton] at this; exact this
    have cv : W.cell? ⟨w.heap.size, 0, none⟩ = some v := hv.cell 0
    have fv := hv.free 0
    have hn1 : w.heap.size ≤ W.heap.size := by have := HS0.out; omega
    have HV := Lib.hid hv; have HO := Lib.hid hown; have HBe := Lib.hid hbel; have HOut := Lib.hid hout; have HL := Lib.hid hl; have HD := Lib.hid hd
    have hown' := hown.alloc (.cells #[.int .i64 xk, .int .i64 xv] TC)
    clear hv hown hbel hout hl hd hM0 hcc b0
    gi_wp2_with (gi_at_builtin; refine wpListIn_append_own _ rfl (.tmp 10) (.tmp 14) TCs rfl w.heap.size TC i0 (.agg #[.int .i64 0, .int .i64 0]) 2 16 Try.underlying79 hi hz0 hz1 hz2 rfl (by decide) _ _ _ rfl hown' ⟨W.heap.size, 0, none⟩ 1 1 [.int .i64 xk, .int .i64 xv] rfl rfl (new_cells W TC [.int .i64 xk, .int .i64 xv]) (by simp [Value.oneCell']) (by unfold maxLen; omega) (by omega) (by simp; omega) ?_)
    intro v' w1 hown1 hgrow _
    obtain ⟨g', cap', rfl⟩ := ownsRow_succ hown1
    have hb : ¬ Rg W0.heap.size (W0.heap.size + 2 + 0) w.heap.size := fun h => by have := h.1; have := HS0.out; omega
    obtain ⟨k1, k2, k3⟩ := Coll.step HV.out HO.out HBe.out HOut.out (by decide) hn1 (Nat.le_refl _) hb HL.out HD.out hown1 hgrow
    have cv1 : w1.cell? ⟨w.heap.size, 0, none⟩ = some v := k1.cell 0
    have fv1 := k1.free 0
    have K2 := Lib.hid k2; have K3 := Lib.hid k3; have KO := Lib.hid (ownsRow_blk HO.out)
    clear k1 k2 k3 hown1 hgrow hown' cv fv
    gi_wp2_with fail
    have hs1 := HS0.out
    refine ⟨KeptR.of_fr K3.out hsz ?_, K3.out.size, KeptL.of_fr K3.out (fun b hb => ⟨by have := hFlt b hb; omega, ?_⟩), ⟨by simpa using K2.out, Nat.le_trans hsz0 K3.out.size⟩⟩
    · rintro b hr (e | e)
      · exact hb (e ▸ hr)
      · exact HOut.out b e hr
    · rintro (e | e)
      · have := hFlt b hb; omega
      · have := (KO.out b e).1; have := hFlt b hb; omega
  case done =>
    rintro W hsz ⟨⟨v, hv, hown, hbel, hout⟩, hsz0⟩ hK
    have cv : W.cell? ⟨w.heap.size, 0, none⟩ = some v := hv.cell 0
    have HO := Lib.hid hown; have HBe := Lib.hid hbel; have HOut := Lib.hid hout; have HK := Lib.hid hK
    clear hv hown hbel hout hK hM0 hcc b0
    obtain ⟨A, cA, rfl, -, -⟩ := Sl.of_own HO.out
    go_wp2_with fail
    refine ⟨by simp, .inl ⟨_, _, rfl, run_takeDeferred HK.out, ?_⟩⟩
    have hs1 := HS0.out
    have hf := Fr.putObj W W0.heap.size (.deferred none) (S := (· = W0.heap.size)) rfl
    exact ⟨.slice A L.length cA, by simp [results, Try.results52, go_sem], .slice A L.length cA, rfl, ownsRow_fr HO.out hf (fun b hb e => HOut.out b hb ⟨by omega, by omega⟩), HBe.out.trans (hf.below (by omega) (fun k hk e => by omega))⟩
theorem Counts (B off : Nat) (c : Array Value) (TB : TypeId) (L : List (Int × Int)) (F : List Nat) (w : World) (h : BagIn w B off c TB L F) (hlen : L.length ≤ 1000000000000) :
    Calls Try.prog 52 #[.pointer (some ⟨B, off, none⟩)] w fun e w' => ∃ v, e = .returned v ∧ w'.ownsRow w.heap.size TC 2 v L.length (L.flatMap pc) ∧ Below w.heap.size w w' :=
  Counts_any _ (.inr ⟨B, off, rfl⟩) L F w h.mapP (fun b hb => h.lt b (by simp [hb])) hlen
theorem Counts_none (w : World) : Calls Try.prog 52 #[.pointer none] w fun e w' => ∃ v, e = .returned v ∧ w'.ownsRow w.heap.size TC 2 v 0 [] ∧ Below w.heap.size w w' :=
  Counts_any none (.inl rfl) [] [] w (.inl ⟨rfl, rfl, rfl⟩) (by simp) (by simp)
end Bag
end Go.Proofs.Ytolpdgaomlhgdaa
