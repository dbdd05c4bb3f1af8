/- The contracts of validity and of ranges, their answer given by an equation. Conditions: as of those contracts. -/
import Derived.Test.YtfailbghnpfcdaaDoorDay
namespace Go.Proofs.YtfailbghnpfcdaaDoor
open Go.RowKit DN

theorem vd_ib (y m d : Int) (w : World) (T : Tab w) (b : Bool) (h : vd y m d = b) : Calls Tryd.prog 25 #[.agg #[.int .i64 y, .int .i64 m, .int .i64 d]] w fun e w' => e = .returned (.bool b) ∧ Below w.heap.size w w' := by
  have c := vd_i y m d w T
  rwa [h] at c
theorem vd_sb (y m d : Int) (w : World) (b : Bool) (h : vd y m d = b) : Calls Tryd.prog 20 #[.agg #[.int .i64 y, .int .i64 m, .int .i64 d]] w fun e w' => e = .returned (.bool b) ∧ Below w.heap.size w w' := by
  have c := vd_s y m d w
  rwa [h] at c
theorem within_b (n a c : Int) (b : Bool) (h : inB n a c = b) (w : World) : Calls Tryd.prog 26 #[.int .i64 n, .int .i64 a, .int .i64 c] w fun e w' => e = .returned (.bool b) ∧ w = w' := by
  have c := within_any n a c w
  rwa [h] at c
theorem l6In_b (n a c : Int) (b : Bool) (h : inB n a c = b) (w : World) : Calls Tryd.prog 44 #[.int .i64 n, .int .i64 a, .int .i64 c] w fun e w' => e = .returned (.bool b) ∧ w = w' := by
  have c := l6In_any n a c w
  rwa [h] at c

end Go.Proofs.YtfailbghnpfcdaaDoor
