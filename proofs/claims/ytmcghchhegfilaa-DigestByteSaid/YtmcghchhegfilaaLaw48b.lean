/- Layer 48's statements: what several of them need. -/
import Derived.Test.YtmcghchhegfilaaLaw48
namespace Go.Proofs.Ytmcghchhegfilaa
open Go.RowKit
namespace Law48
open KeyP PackP SetP SetW SetF Code_ Rank DigW
attribute [local go_sem] Eng.ev Eng.getO_cons Eng.getO_nil
theorem few_len {L : List Sn} {n : Nat} (h : fewB L n = true) : L.length ≤ n := by unfold fewB at h; simp at h; exact h.2
theorem SameT {A A2 : Option Addr} {c c2 : Nat} {L M : List Sn} {w : World} (hS : Ls w A c L) (hS2 : Ls w A2 c2 M) (h : L = M) :
    Calls Try.prog 19 #[.slice A L.length c, .slice A2 M.length c2] w fun e w' => e = .returned (.bool true) ∧ Fr (fun _ => False) w w' :=
  (SetF.Same A A2 c c2 L M w hS.s hS2.s).mono (fun _ _ ⟨h1, h2⟩ => ⟨by rw [h1, decide_eq_true h], h2⟩)
structure L2 (w : World) (B : Nat) (x y : Lv) : Prop where
  s : Sl w 1 (some ⟨B, 0, none⟩) 2 2 ([x, y].flatMap lvc)
theorem L2.below {w w' : World} {B : Nat} {x y : Lv} (h : L2 w B x y) (hb : Below w.heap.size w w') : L2 w' B x y := ⟨h.s.fr (Fr.of_below' hb (fun _ => False)) (fun _ _ h => h)⟩
theorem L2.rd {w : World} {x y : Lv} (h1 : Rd w x) (h2 : Rd w y) : ∀ q ∈ [x, y], Rd w q := fun q hq => by
  simp at hq
  rcases hq with rfl | rfl <;> assumption
theorem RefAllE {A : Option Addr} {c n : Nat} {l : List Lv} {w : World} (hS : Sl w 1 A l.length c (l.flatMap lvc)) (hR : ∀ x ∈ l, Rd w x) (hlen : (cat l).length ≤ 1000000) (hn : l.length = n) (N : List Sn) (hN : setOf (cat l) = N) :
    Calls Try.prog 26 #[.slice A n c] w (LsPost N w) := hn ▸ hN ▸ Join.RefAll A c l w hS hR hlen
theorem RefSetE {A : Option Addr} {c : Nat} {L : List Sn} {w : World} (hS : Ls w A c L) (hlen : L.length ≤ 1000000) (N : List Sn) (hN : setOf L = N) :
    Calls Try.prog 24 #[.slice A L.length c] w (LsPost N w) := hN ▸ RefSet A c L w hS hlen
theorem SetE {A : Option Addr} {c : Nat} {L : List Sn} {w : World} (hS : Ls w A c L) (hlen : L.length ≤ 1000000) (N : List Sn) (hN : setOf L = N) :
    Calls Try.prog 23 #[.slice A L.length c] w (LsPost N w) := hN ▸ SetF.Set A c L w hS hlen
/-- What holds behind a meeting. -/
structure Mt (a b J K : List Sn) (D : List Int) : Prop where
  sj : setOf J = J
  sk : setOf K = K
  d : ∀ k < 16, dgI (setOf J) k = dgI (setOf K) k
  z : dto (dgI (setOf J)) (dgI (setOf K)) 16 = []
  p : Dig.pick D (setOf J) = Dig.pick D (setOf K)
  aj : setOf (a ++ J) = J
  bk : setOf (b ++ K) = K
theorem mt {a b X Y J K : List Sn} {D : List Int} (hD : dto (dgI (setOf a)) (dgI (setOf b)) 16 = D) (hX : Dig.pick D (setOf a) = X) (hY : Dig.pick D (setOf b) = Y) (hJ : setOf (a ++ Y) = J) (hK : setOf (b ++ X) = K) : Mt a b J K D := by
  have hDf : Dig.diff a b = D := (dto_dgI (setOf a) (setOf b)).symm.trans hD
  have eJ : Dig.meetL (Dig.diff a b) a b = J := by rw [hDf, ← hJ, ← hY]; rfl
  have eK : Dig.meetL (Dig.diff a b) b a = K := by rw [hDf, ← hK, ← hX]; rfl
  have sj : setOf J = J := by rw [← hJ, setOf_idem]
  have sk : setOf K = K := by rw [← hK, setOf_idem]
  have d : ∀ k < 16, dgI (setOf J) k = dgI (setOf K) k := fun k hk => by
    show ((Dig.dig (setOf J) k : Nat) : Int) = ((Dig.dig (setOf K) k : Nat) : Int)
    rw [sj, sk, ← eJ, ← eK, Dig.meet_dig hk]
  refine ⟨sj, sk, d, dto_same (eqD_iff.2 d), ?_, ?_, ?_⟩
  · rw [sj, sk, ← eJ, ← eK, ← hDf]; exact Dig.meet_pick
  · rw [← eJ]; exact Dig.meet_all _
  · rw [← eK]; exact Dig.meet_all _
end Law48
end Go.Proofs.Ytmcghchhegfilaa
