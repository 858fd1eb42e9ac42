/- Layer 21's statements: what must come, whatever the arguments are. -/
import Derived.Test.YtgfjpnpbkkadpaaGreatCls5
import Derived.Test.YtgfjpnpbkkadpaaGreatRef09
import Derived.Test.YtgfjpnpbkkadpaaGreatSetFs
namespace Go.Proofs.YtgfjpnpbkkadpaaGreat
open Go.RowKit
namespace Law21
open KeyP PackP SetP SetW SetF Cls ClsW ClsS ClsF Pack
attribute [local go_sem] Eng.ev Eng.getO_cons Eng.getO_nil
/-- A list of places that lies there. -/
structure Pl (w : World) (A : Option Addr) (c n : Nat) (P : List Pc) : Prop where
  s : Sl w 6 A n c (pcs P)
  n : P.length = n
theorem Pl.below {w w' : World} {A : Option Addr} {c n : Nat} {P : List Pc} (h : Pl w A c n P) (hb : Below w.heap.size w w') : Pl w' A c n P := ⟨h.s.fr (Fr.of_below' hb (fun _ => False)) (fun _ _ h => h), h.n⟩
theorem plcs_len (L : List Sn) : (plcs L).length = L.length := by simp
theorem OfE {A : Option Addr} {c : Nat} {L : List Sn} {w : World} (hS : Ls w A c L) (hlen : L.length ≤ 900) (P : List Pc) (hP : plcs (spn L) = P) (n : Nat) (hn : P.length = n) :
    Calls Tryz.prog 46 #[.slice A L.length c] w fun e w' => ∃ A' c', e = .returned (.slice A' n c') ∧ Pl w' A' c' n P ∧ Below w.heap.size w w' := by
  subst hn; subst hP
  refine (Of A c L w hS hlen).mono ?_
  rintro e w' ⟨A', c', rfl, h1, h2⟩
  rw [plcs_len]
  exact ⟨A', c', rfl, ⟨h1, plcs_len _⟩, h2⟩
instance (n : Int) : Decidable (in64 n) := by unfold in64; infer_instance
end Law21
end Go.Proofs.YtgfjpnpbkkadpaaGreat
namespace Go.Proofs.YtgfjpnpbkkadpaaGreat
open Go.RowKit
namespace Law21
open KeyP PackP SetP SetW SetF Cls ClsW ClsS ClsF Pack
attribute [local go_sem] Eng.ev Eng.getO_cons Eng.getO_nil
theorem FindE {A : Option Addr} {c n : Nat} {P : List Pc} {w : World} (h : Pl w A c n P) (t i k : Int) (hk : fdI P t i = k) : Calls Tryz.prog 39 #[.slice A n c, .int .i64 t, .int .i64 i] w fun e w' => e = .returned (.int .i64 k) ∧ Fr (fun _ => False) w w' := by
  obtain ⟨h, rfl⟩ := h
  exact hk ▸ FindP A c P t i w h
theorem fd_no {M : List Sn} {t i : Int} (h : nx M t i = none) : fdI (plcs M) t i = -1 := fd_none (fun p hp e => by
  obtain ⟨y, hy, rfl⟩ := List.mem_map.1 hp
  have := List.find?_eq_none.1 h y hy
  simp at this
  exact this e.1 e.2)
theorem fd_yes {M : List Sn} {t i : Int} {y : Sn} (h : nx M t i = some y) : ∃ k : Nat, ∃ hk : k < M.length, fdI (plcs M) t i = (k : Int) ∧ M[k] = y := by
  obtain ⟨hp, k, hk, hy, hn⟩ := List.find?_eq_some_iff_getElem.1 h
  simp only [Bool.and_eq_true, decide_eq_true_eq] at hp
  refine ⟨k, hk, fd_at (by simpa using hk) (fun p hp e => ?_) (by simp [hy, plc, hp.1]) (by simp [hy, plc, hp.2]), hy⟩
  obtain ⟨j, hj, rfl⟩ := List.mem_iff_getElem.1 hp
  rw [List.length_take] at hj
  have h2 := hn j (by omega)
  simp [plc] at e h2
  rcases h2 with h2 | h2
  · exact h2 e.1
  · exact h2 e.2
end Law21
end Go.Proofs.YtgfjpnpbkkadpaaGreat
namespace Go.Proofs.YtgfjpnpbkkadpaaGreat
open Go.RowKit
namespace Law21
open KeyP PackP SetP SetW SetF Cls ClsW ClsS ClsF Pack
attribute [local go_sem] Eng.ev Eng.getO_cons Eng.getO_nil
end Law21
end Go.Proofs.YtgfjpnpbkkadpaaGreat
namespace Go.Proofs.YtgfjpnpbkkadpaaGreat
open Go.RowKit
namespace Law21
open KeyP PackP SetP SetW SetF Cls ClsW ClsS ClsF Pack
attribute [local go_sem] Eng.ev Eng.getO_cons Eng.getO_nil
theorem fd_iff {M : List Sn} {t i : Int} : 0 ≤ fdI (plcs M) t i ↔ (nx M t i).isSome = true := by
  cases h : nx M t i with
  | none => rw [fd_no h]; simp
  | some y => obtain ⟨k, hk, hfd, -⟩ := fd_yes h; rw [hfd]; simp
end Law21
end Go.Proofs.YtgfjpnpbkkadpaaGreat
