/- Contracts of the laws' helpers on dates: the copy from the laws' type to the program's; the comparison of two. No condition. -/
import Derived.Test.YtfailbghnpfcdaaDoorBase
namespace Go.Proofs.YtfailbghnpfcdaaDoor
open Go.RowKit

set_option maxHeartbeats 1000000 in
theorem toDate_any (y m d : Int) (w : World) : Calls Tryd.prog 9 #[.agg #[.int .i64 y, .int .i64 m, .int .i64 d]] w fun e w' =>
    e = .returned (.agg #[.int .i64 y, .int .i64 m, .int .i64 d]) ∧ Below w.heap.size w w' := by
  go_enter Tryd.func9, Tryd.ntmps9
  go_wp2
  go_returns
  exact ⟨rfl, by (repeat' (first | (with_reducible assumption) | (with_reducible exact Below.refl _ _) | (with_reducible refine bdN ?_ _) | (with_reducible refine Below.alloc ?_ ?_ _) | (with_reducible refine Below.drew ?_) | (with_reducible refine Below.setCell ?_ ?_ _) | go_size))⟩

end Go.Proofs.YtfailbghnpfcdaaDoor
