/- What the draws of dates give: some integers; only new blocks and the reader's own change. Conditions: the reader stands in memory, few picks have been made. -/
import Derived.Test.YtbgpdjceofofoaaRd
import Derived.Deep.DeepCutAuto
import Derived.Deep.CutBlock
namespace Go.Proofs.Ytbgpdjceofofoaa
open Go.RowKit

/-- some integer is drawn -/
def DrawnInt (w : World) (r N : Nat) (e : Ending) (w' : World) : Prop := ∃ z : Int, e = .returned (.int .i64 z) ∧ Rd w' r N ∧ Onl r w w'

/-- a drawn date -/
def DrawnDate (w : World) (r N : Nat) (e : Ending) (w' : World) : Prop := ∃ y m d : Int, e = .returned (.agg #[.int .i64 y, .int .i64 m, .int .i64 d]) ∧ Rd w' r N ∧ Onl r w w'
/-- where the ways of the draw of a date meet: block g holds three integers -/
def DateCut (w : World) (r N g : Nat) (wx : World) : Prop := ∃ y m d : Int, Rd wx r N ∧ Onl r w wx ∧ g < wx.heap.size ∧ CellsAt wx g 0 [.int .i64 y, .int .i64 m, .int .i64 d] ∧ CellsAt wx w.heap.size 0 [.int .i64 0, .int .i64 0, .int .i64 0]

end Go.Proofs.Ytbgpdjceofofoaa
