/- The document's answer for layer 12: dropping, getting, keys. -/
import Derived.Test.YtgfjpnpbkkadpaaRef12
namespace Go.Proofs.Ytgfjpnpbkkadpaa
open Go.RowKit
namespace Ref12

theorem del_snoc {k : Int} {L : List (Int × Int)} {j : Nat} (h : j < L.length) : delL k (L.take (j + 1)) = if L[j].1 = k then delL k (L.take j) else delL k (L.take j) ++ [L[j]] := by
  rw [List.take_succ_eq_append_getElem h, delL_append, delL_cons]
  by_cases e : L[j].1 = k
  · rw [if_pos e, if_pos (sameK_iff.2 e.symm)]; simp [delL]
  · rw [if_neg e, if_neg (fun h => e (sameK_iff.1 h).symm)]; simp [delL]
theorem del_le (k : Int) (L : List (Int × Int)) : (delL k L).length ≤ L.length := List.length_filter_le _ _
theorem del_lt (k : Int) (L : List (Int × Int)) : decide ((delL k L).length < L.length) = hasL k L := by
  rw [Bool.eq_iff_iff, decide_eq_true_iff, hasL, List.any_eq_true]
  constructor
  · intro h
    refine Classical.byContradiction fun hn => ?_
    have : delL k L = L := delL_none (fun p hp => by
      cases hs : sameK k p.1 with
      | false => rfl
      | true => exact absurd ⟨p, hp, hs⟩ hn)
    rw [this] at h; omega
  · rintro ⟨p, hp, hs⟩
    have := List.length_filter_lt_length_iff_exists (p := fun p : Int × Int => !sameK k p.1) (l := L)
    exact this.2 ⟨p, hp, by simp [hs]⟩

end Ref12
end Go.Proofs.Ytgfjpnpbkkadpaa
