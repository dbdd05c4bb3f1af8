/- What the draws of a date and a number give: some integers; only new blocks change. -/
import Derived.Test.YtfgljffmokehfaaDoorDrawDate
namespace Go.Proofs.YtfgljffmokehfaaDoor
open Go.RowKit

/-- a drawn date and number -/
def DrawnShift (w : World) (e : Ending) (w' : World) : Prop := ∃ y m d k : Int, e = .returned (.tuple #[.agg #[.int .i64 y, .int .i64 m, .int .i64 d], .int .i64 k]) ∧ Below w.heap.size w w'
end Go.Proofs.YtfgljffmokehfaaDoor
