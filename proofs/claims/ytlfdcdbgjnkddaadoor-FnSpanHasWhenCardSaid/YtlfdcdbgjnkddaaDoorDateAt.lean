/- Contracts of the functions that give the date of a day, by the program and by the reference. Conditions: the program's table of the months' days stands in memory ('Tab'); the day is in range where it is said. -/
import Derived.Test.YtlfdcdbgjnkddaaDoorDay
import Derived.Deep.LoopGhost
import Derived.Deep.RegionWith
namespace Go.Proofs.YtlfdcdbgjnkddaaDoor
open Go.RowKit DN

/-- the months' loop of the date of a day: g rounds at most are to come -/
def AtRel (w : World) (n y m : Int) (g : Nat) (wx : World) : Prop := ∃ k : Int, 1 ≤ k ∧ k ≤ m ∧ g = (m - k).toNat ∧ w.heap.size + 1 < wx.heap.size ∧ Below w.heap.size w wx ∧
  CellsAt wx w.heap.size 0 [.int .i64 0, .int .i64 0, .int .i64 0] ∧ CellsAt wx (w.heap.size + 1) 0 [.int .i64 y, .int .i64 k, .int .i64 (n - yb y - mc y k + 1)]

end Go.Proofs.YtlfdcdbgjnkddaaDoor
