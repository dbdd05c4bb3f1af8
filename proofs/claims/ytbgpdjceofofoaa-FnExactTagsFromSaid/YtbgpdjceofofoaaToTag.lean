/- Contracts of the laws' helpers on a tag: its size, its copy. Condition: the texts are not longer than a Go text can be. -/
import Derived.Test.YtbgpdjceofofoaaBase
import Derived.Test.YtbgpdjceofofoaaSeal
namespace Go.Proofs.Ytbgpdjceofofoaa
open Go.RowKit

/-- what is left of a size -/
def leftT (n k v : Int) : Int := if n - k < 0 then -1 else if n - k - v < 0 then -1 else n - k - v
set_option maxHeartbeats 1000000 in
theorem szTag_any (k v : ByteArray) (c : Bool) (n : Int) (w : World) (hk : k.size ≤ maxLen) (hv : v.size ≤ maxLen) (n1 : 0 ≤ n) (n2 : n ≤ 1048576) : Calls Try.prog 15 #[.agg #[.string k, .string v, .bool c], .int .i64 n] w fun e w' => e = .returned (.int .i64 (leftT n k.size v.size)) ∧ Below w.heap.size w w' := by
  unfold maxLen at hk hv
  by_cases h1 : n - (k.size : Int) < 0
  · go_enter Try.func15, Try.ntmps15
    go_wp2_with fail
    go_ret
    exact ⟨ret_int (by unfold leftT; rw [if_pos (by omega)]), by (repeat' (first | (with_reducible assumption) | (with_reducible exact Below.refl _ _) | (with_reducible refine bdN ?_ _) | (with_reducible refine Below.alloc ?_ ?_ _) | (with_reducible refine Below.drew ?_) | (with_reducible refine Below.setCell ?_ ?_ _) | go_size))⟩
  · by_cases h2 : n - (k.size : Int) - v.size < 0
    · go_enter Try.func15, Try.ntmps15
      go_wp2_with fail
      go_ret
      exact ⟨ret_int (by unfold leftT; rw [if_neg (by omega), if_pos (by omega)]), by (repeat' (first | (with_reducible assumption) | (with_reducible exact Below.refl _ _) | (with_reducible refine bdN ?_ _) | (with_reducible refine Below.alloc ?_ ?_ _) | (with_reducible refine Below.drew ?_) | (with_reducible refine Below.setCell ?_ ?_ _) | go_size))⟩
    · go_enter Try.func15, Try.ntmps15
      go_wp2_with fail
      go_ret
      exact ⟨ret_int (by unfold leftT; rw [if_neg (by omega), if_neg (by omega)]), by (repeat' (first | (with_reducible assumption) | (with_reducible exact Below.refl _ _) | (with_reducible refine bdN ?_ _) | (with_reducible refine Below.alloc ?_ ?_ _) | (with_reducible refine Below.drew ?_) | (with_reducible refine Below.setCell ?_ ?_ _) | go_size))⟩
set_option maxHeartbeats 1000000 in
theorem toTag_any (k v : ByteArray) (c : Bool) (w : World) : Calls Try.prog 17 #[.agg #[.string k, .string v, .bool c]] w fun e w' => e = .returned (.agg #[.string k, .string v, .bool c]) ∧ Below w.heap.size w w' := by
  go_enter Try.func17, Try.ntmps17
  go_wp2_with fail
  exact bodyPost_ret (v := .agg #[.string k, .string v, .bool c]) (by simp [results, Try.results17, go_sem]) rfl ⟨rfl, by (repeat' (first | (with_reducible assumption) | (with_reducible exact Below.refl _ _) | (with_reducible refine bdN ?_ _) | (with_reducible refine Below.alloc ?_ ?_ _) | (with_reducible refine Below.drew ?_) | (with_reducible refine Below.setCell ?_ ?_ _) | go_size))⟩
end Go.Proofs.Ytbgpdjceofofoaa
