/- Bags in blocks of their own, as objects among others. -/
import Derived.Test.YtolpdgaomlhgdaaRef13
namespace Go.Proofs.Ytolpdgaomlhgdaa
open Go.RowKit
namespace Bag
open BagP
/-- A bag in block B; its blocks are FZ. -/
def BagZ (w : World) (B : Nat) (L : List (Int × Int)) (FZ : List Nat) : Prop := ∃ c F, BagIn w B 0 c TBag L F ∧ FZ = B :: F ∧ c.size = 3
section
variable {w w' : World} {B : Nat} {L L' : List (Int × Int)} {FZ : List Nat}
theorem BagZ.fr {S : Nat → Prop} (h : BagZ w B L FZ) (hf : Fr S w w') (hs : ∀ b ∈ FZ, ¬ S b) : BagZ w' B L FZ := by
  obtain ⟨c, F, h, rfl, h3⟩ := h
  exact ⟨c, F, h.fr hf hs, rfl, h3⟩
theorem BagZ.ok (h : BagZ w B L FZ) : Ok L := by obtain ⟨c, F, h, -, -⟩ := h; exact h.ok
theorem BagZ.lt (h : BagZ w B L FZ) : ∀ b ∈ FZ, b < w.heap.size := by obtain ⟨c, F, h, rfl, -⟩ := h; exact h.lt
theorem BagZ.mem (h : BagZ w B L FZ) : B ∈ FZ := by obtain ⟨c, F, h, rfl, -⟩ := h; simp
theorem BagZ.mapP (h : BagZ w B L FZ) : ∃ F, AvlII.MapP w (some ⟨B, 0, none⟩) L F ∧ ∀ b ∈ F, b ∈ FZ := by
  obtain ⟨c, F, h, rfl, -⟩ := h
  exact ⟨F, h.mapP, fun b hb => by simp [hb]⟩
theorem BagZ.of_post {c : Array Value} {F : List Nat} (hc : c.size = 3) (hlt : B < w.heap.size) (h : BagPost B 0 c TBag L' F w w') : ∃ FZ', BagZ w' B L' FZ' ∧ Tn (B :: F) FZ' w w' := by
  obtain ⟨c', F', h1, h2, -, h4, h5⟩ := h
  refine ⟨B :: F', ⟨c', F', h1, rfl, h2.trans hc⟩, h5.mono (fun i _ hi => by simpa using hi), fun x hx => ?_⟩
  have hl := h1.lt x hx
  rcases List.mem_cons.1 hx with rfl | hx
  · exact ⟨.inl (by simp), hl⟩
  · exact ⟨(h4 x hx).elim (fun h => .inl (by simp [h])) .inr, hl⟩
end
theorem BagZ.new (w : World) : BagZ (w.alloc (.cells #[.pointer none, .int .i64 0, .int .i64 0] TBag)) w.heap.size [] [w.heap.size] :=
  ⟨_, [], ⟨heap_new _ _, ⟨none, rfl, rfl, rfl, AvlII.MapIn.nil _, fun p h => by simp at h, by simp [sumL]⟩, by simp⟩, rfl, rfl⟩
theorem AddZ (B : Nat) (x many : Int) (L : List (Int × Int)) (FZ : List Nat) (w : World) (h : BagZ w B L FZ) (sz : L.length < 144115188075855871) :
    Calls Try.prog 46 #[.pointer (some ⟨B, 0, none⟩), .int .i64 x, .int .i64 many] w fun e w' => e = .returned (.bool (okA many L)) ∧ ∃ FZ', BagZ w' B (addL x many L) FZ' ∧ Tn FZ FZ' w w' := by
  obtain ⟨c, F, h, rfl, h3⟩ := h
  refine (Add B 0 c TBag x many L F w h sz).mono ?_
  rintro e w' ⟨rfl, hp⟩
  exact ⟨rfl, BagZ.of_post h3 (h.lt B (by simp)) hp⟩
theorem TakeZ (B : Nat) (x many : Int) (L : List (Int × Int)) (FZ : List Nat) (w : World) (h : BagZ w B L FZ) (sz : L.length < 144115188075855871) :
    Calls Try.prog 48 #[.pointer (some ⟨B, 0, none⟩), .int .i64 x, .int .i64 many] w fun e w' => e = .returned (.bool (okT x many L)) ∧ ∃ FZ', BagZ w' B (takeL x many L) FZ' ∧ Tn FZ FZ' w w' := by
  obtain ⟨c, F, h, rfl, h3⟩ := h
  refine (Take B 0 c TBag x many L F w h sz).mono ?_
  rintro e w' ⟨rfl, hp⟩
  exact ⟨rfl, BagZ.of_post h3 (h.lt B (by simp)) hp⟩
theorem CountZ (B : Nat) (x : Int) (L : List (Int × Int)) (FZ : List Nat) (w : World) (h : BagZ w B L FZ) :
    Calls Try.prog 55 #[.pointer (some ⟨B, 0, none⟩), .int .i64 x] w fun e w' => e = .returned (.int .i64 (cnt x L)) ∧ w = w' := by
  obtain ⟨c, F, h, rfl, h3⟩ := h
  exact Count B 0 c TBag x L F w h
theorem LenZ (B : Nat) (L : List (Int × Int)) (FZ : List Nat) (w : World) (h : BagZ w B L FZ) :
    Calls Try.prog 53 #[.pointer (some ⟨B, 0, none⟩)] w fun e w' => e = .returned (.int .i64 (sumL L)) ∧ w = w' := by
  obtain ⟨c, F, h, rfl, h3⟩ := h
  exact Len B 0 c TBag L F w h
theorem LastZ (B : Nat) (L : List (Int × Int)) (FZ : List Nat) (w : World) (h : BagZ w B L FZ) :
    Calls Try.prog 50 #[.pointer (some ⟨B, 0, none⟩)] w (AvlII.LastPost L w) := by
  obtain ⟨c, F, h, rfl, h3⟩ := h
  exact Last B 0 c TBag L F w h
theorem CountsZ (B : Nat) (L : List (Int × Int)) (FZ : List Nat) (w : World) (h : BagZ w B L FZ) (hlen : L.length ≤ 1000000000000) :
    Calls Try.prog 52 #[.pointer (some ⟨B, 0, none⟩)] w fun e w' => ∃ v, e = .returned v ∧ w'.ownsRow w.heap.size TC 2 v L.length (L.flatMap pc) ∧ Below w.heap.size w w' := by
  obtain ⟨c, F, h, rfl, h3⟩ := h
  exact Counts B 0 c TBag L F w h hlen
end Bag
namespace Law13
open BagP Bag
set_option maxRecDepth 100000 in
set_option maxHeartbeats 400000 in
theorem awake (w : World) : Calls Try.prog 45 #[] w fun e w' => e = .returned (.bool true) ∧ Below w.heap.size w w' := by
  have e1 : okA 2 [] = true ∧ addL 3 2 [] = [(3, 2)] := by decide
  have e2 : okT 3 1 [(3, 2)] = true ∧ takeL 3 1 [(3, 2)] = [(3, 1)] := by decide
  have e3 : cnt 3 [(3, 1)] = 1 ∧ sumL [(3, 1)] = 1 := by decide
  have e4 : okT 3 2 [(3, 1)] = false ∧ takeL 3 2 [(3, 1)] = [(3, 1)] := by decide
  have e5 : okA (-1) [(3, 1)] = false ∧ addL 1 (-1) [(3, 1)] = [(3, 1)] := by decide
  have E1 := Lib.hid e1; have E2 := Lib.hid e2; have E3 := Lib.hid e3; have E4 := Lib.hid e4; have E5 := Lib.hid e5
  clear e1 e2 e3 e4 e5
  have h0 := BagZ.new w
  have z0 : Zs w.heap.size w (w.alloc (.cells #[.pointer none, .int .i64 0, .int .i64 0] TBag)) [[w.heap.size]] := (Zs.start w).alloc _
  have H0 := Lib.hid h0; have Z0 := Lib.hid z0
  clear h0 z0
  go_enter Try.func45, Try.ntmps45
  go_wp2_with fail
  refine (AddZ w.heap.size 3 2 [] _ _ H0.out (by simp)).mono ?_
  rintro e w1 ⟨rfl, F1, h1, t1⟩
  rw [E1.out.1]
  rw [E1.out.2] at h1
  have H1 := Lib.hid h1; have Z1 := Lib.hid (Z0.out.turn [] [] t1)
  clear h1 t1
  go_wp2_with fail
  refine (TakeZ w.heap.size 3 1 _ _ _ H1.out (by simp)).mono ?_
  rintro e w2 ⟨rfl, F2, h2, t2⟩
  rw [E2.out.1]
  rw [E2.out.2] at h2
  have H2 := Lib.hid h2; have Z2 := Lib.hid (Z1.out.turn [] [] t2)
  clear h2 t2
  have HLast := Lib.hid (LastZ w.heap.size _ _ _ H2.out)
  unfold AvlII.LastPost at HLast
  go_wp2_with fail
  refine HLast.out.mono ?_
  rintro e w3 ⟨rfl, rfl⟩
  have HC := Lib.hid (CountZ w.heap.size 3 _ _ _ H2.out)
  rw [E3.out.1] at HC
  have HLe := Lib.hid (LenZ w.heap.size _ _ _ H2.out)
  rw [E3.out.2] at HLe
  go_wp2_with fail
  refine HC.out.mono ?_
  rintro e w3 ⟨rfl, rfl⟩
  go_wp2_with fail
  refine HLe.out.mono ?_
  rintro e w3 ⟨rfl, rfl⟩
  go_wp2_with fail
  refine (TakeZ w.heap.size 3 2 _ _ _ H2.out (by simp)).mono ?_
  rintro e w3 ⟨rfl, F3, h3, t3⟩
  rw [E4.out.1]
  rw [E4.out.2] at h3
  have H3 := Lib.hid h3; have Z3 := Lib.hid (Z2.out.turn [] [] t3)
  clear h3 t3
  go_wp2_with fail
  refine (AddZ w.heap.size 1 (-1) _ _ _ H3.out (by simp)).mono ?_
  rintro e w4 ⟨rfl, F4, h4, t4⟩
  rw [E5.out.1]
  rw [E5.out.2] at h4
  have H4 := Lib.hid h4; have Z4 := Lib.hid (Z3.out.turn [] [] t4)
  clear h4 t4
  go_wp2_with fail
  refine (CountsZ w.heap.size _ _ _ H4.out (by simp)).mono ?_
  rintro e w5 ⟨v, rfl, hown, hb⟩
  obtain ⟨A, c, rfl, hS, -⟩ := Sl.of_own hown
  have Z5 := Lib.hid (Z4.out.below hb)
  have HS1 : Hid (Sl (w5.alloc (.cells #[.int .i64 3, .int .i64 1] TC)) 2 A [((3 : Int), (1 : Int))].length c ([((3 : Int), (1 : Int))].flatMap pc)) := hS.fr (Fr.alloc (fun _ => False) _ _) (fun _ _ h => h)
  have HS2 : Hid (Sl (w5.alloc (.cells #[.int .i64 3, .int .i64 1] TC)) 2 (some ⟨w5.heap.size, 0, none⟩) [((3 : Int), (1 : Int))].length 1 ([((3 : Int), (1 : Int))].flatMap pc)) := Sl.one w5 TC [.int .i64 3, .int .i64 1] 2 rfl
  have Z6 := Lib.hid (Z5.out.fr (Fr.alloc (fun _ => False) _ (.cells #[.int .i64 3, .int .i64 1] TC)))
  clear hown hb hS
  go_wp2_with fail
  refine (Ref13.Same A _ c 1 _ _ _ 1 1 rfl rfl HS1.out HS2.out rfl).mono ?_
  rintro e w6 ⟨rfl, hf⟩
  have Z7 := Lib.hid (Z6.out.fr hf)
  clear hf
  go_wp2_with fail
  go_ret
  exact ⟨rfl, Z7.out.bel⟩
end Law13
end Go.Proofs.Ytolpdgaomlhgdaa
