/- Numbers that are held at their ends, and the document's: Clamp. -/
import Derived.Test.YtolpdgaomlhgdaaHistP
import Derived.Test.YtolpdgaomlhgdaaZone
import Derived.Test.YtolpdgaomlhgdaaProg
import Derived.WalkLawsBesides
namespace Go.Proofs.Ytolpdgaomlhgdaa
open Go.RowKit
namespace Sat
open HistP
theorem Clamp (n lo hi : Int) (w : World) : Calls Try.prog 118 #[.int .i64 n, .int .i64 lo, .int .i64 hi] w fun e w' => e = .returned (.int .i64 (clamp n lo hi)) ∧ w = w' := by
  have HE : Hid (∀ m : Int, m = max lo (min n hi) → Ending.returned (.int .i64 m) = .returned (.int .i64 (clamp n lo hi))) := fun m hm => by rw [hm]; rfl
  go_enter Try.func118, Try.ntmps118
  go_wp2
  all_goals
    go_ret
    exact ⟨HE.out _ (by omega), rfl⟩
end Sat
namespace Ref03
open HistP
theorem Clamp (n lo hi : Int) (w : World) : Calls Try.prog 59 #[.int .i64 n, .int .i64 lo, .int .i64 hi] w fun e w' => e = .returned (.int .i64 (clamp n lo hi)) ∧ w = w' := by
  have HE : Hid (∀ m : Int, m = max lo (min n hi) → Ending.returned (.int .i64 m) = .returned (.int .i64 (clamp n lo hi))) := fun m hm => by rw [hm]; rfl
  by_cases h1 : hi < lo
  · go_enter Try.func59, Try.ntmps59
    go_wp2
    go_ret
    exact ⟨HE.out _ (by omega), rfl⟩
  · by_cases h2 : n < lo
    · go_enter Try.func59, Try.ntmps59
      go_wp2
      go_ret
      exact ⟨HE.out _ (by omega), rfl⟩
    · by_cases h3 : hi < n
      all_goals
        go_enter Try.func59, Try.ntmps59
        go_wp2
        go_ret
        exact ⟨HE.out _ (by omega), rfl⟩
end Ref03
end Go.Proofs.Ytolpdgaomlhgdaa
