/- Contracts of how many months and how many seconds a period has. Condition: its parts lie between 0 and 9999. -/
import Derived.Test.YtacglejojkamfaaDoorPer
namespace Go.Proofs.YtacglejojkamfaaDoor
open Go.RowKit

set_option maxHeartbeats 400000 in
theorem secondsOf_any (y o d u i s : Int) (w : World) (h1 : 0 ≤ u) (h2 : u ≤ 9999) (h3 : 0 ≤ i) (h4 : i ≤ 9999) (h5 : 0 ≤ s) (h6 : s ≤ 9999) :
    Calls Tryd.prog 65 #[.agg #[.int .i64 y, .int .i64 o, .int .i64 d, .int .i64 u, .int .i64 i, .int .i64 s]] w fun e w' => e = .returned (.int .i64 ((u * 60 + i) * 60 + s)) ∧ w' = w.alloc (.cells #[.int .i64 y, .int .i64 o, .int .i64 d, .int .i64 u, .int .i64 i, .int .i64 s] 58) := by
  go_enter Tryd.func65, Tryd.ntmps65
  go_wp2
  go_ret
  exact ⟨rfl, rfl⟩
set_option maxHeartbeats 400000 in
theorem monthsOf_any (y o d u i s : Int) (w : World) (h1 : 0 ≤ y) (h2 : y ≤ 9999) (h3 : 0 ≤ o) (h4 : o ≤ 9999) :
    Calls Tryd.prog 97 #[.agg #[.int .i64 y, .int .i64 o, .int .i64 d, .int .i64 u, .int .i64 i, .int .i64 s]] w fun e w' => e = .returned (.int .i64 (12 * y + o)) ∧ w' = w.alloc (.cells #[.int .i64 y, .int .i64 o, .int .i64 d, .int .i64 u, .int .i64 i, .int .i64 s] 58) := by
  go_enter Tryd.func97, Tryd.ntmps97
  go_wp2
  go_ret
  exact ⟨rfl, rfl⟩
end Go.Proofs.YtacglejojkamfaaDoor
