/- What the draws of times, offsets and stamps give: some integers; only new blocks and the reader's own change. Conditions: the reader stands in memory, few picks have been made. -/
import Derived.Test.YtbgpdjceofofoaaDrawDate
import Derived.Test.YtbgpdjceofofoaaKeep
import Derived.Deep.RegionHeld3
namespace Go.Proofs.Ytbgpdjceofofoaa
set_option linter.unusedSimpArgs false
set_option linter.unusedVariables false
open Go.RowKit

/-- a drawn time -/
def DrawnClock (w : World) (r N : Nat) (e : Ending) (w' : World) : Prop := ∃ h i s u : Int, e = .returned (.agg #[.int .i64 h, .int .i64 i, .int .i64 s, .int .i64 u]) ∧ Rd w' r N ∧ Onl r w w'

set_option maxHeartbeats 2000000 in
theorem l91Offset_any (w : World) (r N : Nat) (hr : Rd w r N) (hN : N ≤ 90000) : Calls Try.prog 59 #[.pointer (some ⟨r, 0, none⟩)] w (DrawnInt w r (N + 5)) := by
  have hlt := rd_lt hr
  go_enter Try.func59, Try.ntmps59
  go_wp2_with fail
  refine (pick_any _ r N _ (by (repeat' (first | (with_reducible assumption) | (with_reducible refine rd_alloc ?_ _) | (with_reducible refine rd_drewN ?_ _) | (with_reducible refine rd_drew ?_) | (with_reducible refine rd_set ?_ ?_ _) | go_size))) (by omega) (by omega) (by omega)).mono ?_
  rintro e w1 ⟨k, hk1, hk2, rfl, Rw1, Gw1⟩
  have sw1 := Gw1.size
  (try simp at sw1)
  have Ow1 : Onl r w w1 := onl_trans (by (repeat' (first | (with_reducible assumption) | (with_reducible exact onl_refl _ _) | (with_reducible refine onl_drewN ?_ _) | (with_reducible refine onl_drew ?_) | (with_reducible refine onl_alloc ?_ _) | (with_reducible refine onl_set ?_ (Or.inr ?_) _) | go_size))) Gw1
  go_wp2_with fail
  · refine (pick_any _ r (N + 1) _ (by (repeat' (first | (with_reducible assumption) | (with_reducible refine rd_alloc ?_ _) | (with_reducible refine rd_drewN ?_ _) | (with_reducible refine rd_drew ?_) | (with_reducible refine rd_set ?_ ?_ _) | go_size))) (by omega) (by omega) (by omega)).mono ?_
    rintro e w2 ⟨j, hj1, hj2, rfl, Rw2, Gw2⟩
    have sw2 := Gw2.size
    (try simp at sw2)
    have Ow2 : Onl r w w2 := onl_trans (by (repeat' (first | (with_reducible assumption) | (with_reducible exact onl_refl _ _) | (with_reducible refine onl_drewN ?_ _) | (with_reducible refine onl_drew ?_) | (with_reducible refine onl_alloc ?_ _) | (with_reducible refine onl_set ?_ (Or.inr ?_) _) | go_size))) Gw2
    obtain ⟨z, hz⟩ : ∃ z : Int, w2.cell? ⟨w1.heap.size, j.toNat, none⟩ = some (.int .i64 z) := by
      have hj : j = 0 ∨ j = 1 ∨ j = 2 ∨ j = 3 ∨ j = 4 ∨ j = 5 := by omega
      rcases hj with rfl | rfl | rfl | rfl | rfl | rfl <;> exact ⟨_, (onl_cell Gw2 (by go_size) (by omega) _).trans (by go_simp; rfl)⟩
    go_wp2_with fail
    go_ret
    exact ⟨_, rfl, rd_le (N := N + 1 + 1) (by (repeat' (first | (with_reducible assumption) | (with_reducible refine rd_alloc ?_ _) | (with_reducible refine rd_drewN ?_ _) | (with_reducible refine rd_drew ?_) | (with_reducible refine rd_set ?_ ?_ _) | go_size))) (by omega), by (repeat' (first | (with_reducible assumption) | (with_reducible exact onl_refl _ _) | (with_reducible refine onl_drewN ?_ _) | (with_reducible refine onl_drew ?_) | (with_reducible refine onl_alloc ?_ _) | (with_reducible refine onl_set ?_ (Or.inr ?_) _) | go_size))⟩
  · go_ret
    exact ⟨_, rfl, rd_le (N := N + 1) (by (repeat' (first | (with_reducible assumption) | (with_reducible refine rd_alloc ?_ _) | (with_reducible refine rd_drewN ?_ _) | (with_reducible refine rd_drew ?_) | (with_reducible refine rd_set ?_ ?_ _) | go_size))) (by omega), by (repeat' (first | (with_reducible assumption) | (with_reducible exact onl_refl _ _) | (with_reducible refine onl_drewN ?_ _) | (with_reducible refine onl_drew ?_) | (with_reducible refine onl_alloc ?_ _) | (with_reducible refine onl_set ?_ (Or.inr ?_) _) | go_size))⟩
  · go_ret
    exact ⟨_, rfl, rd_le (N := N + 1) (by (repeat' (first | (with_reducible assumption) | (with_reducible refine rd_alloc ?_ _) | (with_reducible refine rd_drewN ?_ _) | (with_reducible refine rd_drew ?_) | (with_reducible refine rd_set ?_ ?_ _) | go_size))) (by omega), by (repeat' (first | (with_reducible assumption) | (with_reducible exact onl_refl _ _) | (with_reducible refine onl_drewN ?_ _) | (with_reducible refine onl_drew ?_) | (with_reducible refine onl_alloc ?_ _) | (with_reducible refine onl_set ?_ (Or.inr ?_) _) | go_size))⟩
  · refine (pick_any _ r (N + 1) _ (by (repeat' (first | (with_reducible assumption) | (with_reducible refine rd_alloc ?_ _) | (with_reducible refine rd_drewN ?_ _) | (with_reducible refine rd_drew ?_) | (with_reducible refine rd_set ?_ ?_ _) | go_size))) (by omega) (by omega) (by omega)).mono ?_
    rintro e w2 ⟨j, hj1, hj2, rfl, Rw2, Gw2⟩
    have sw2 := Gw2.size
    (try simp at sw2)
    have Ow2 : Onl r w w2 := onl_trans (by (repeat' (first | (with_reducible assumption) | (with_reducible exact onl_refl _ _) | (with_reducible refine onl_drewN ?_ _) | (with_reducible refine onl_drew ?_) | (with_reducible refine onl_alloc ?_ _) | (with_reducible refine onl_set ?_ (Or.inr ?_) _) | go_size))) Gw2
    go_wp2_with fail
    go_ret
    exact ⟨_, rfl, rd_le (N := N + 1 + 1) (by (repeat' (first | (with_reducible assumption) | (with_reducible refine rd_alloc ?_ _) | (with_reducible refine rd_drewN ?_ _) | (with_reducible refine rd_drew ?_) | (with_reducible refine rd_set ?_ ?_ _) | go_size))) (by omega), by (repeat' (first | (with_reducible assumption) | (with_reducible exact onl_refl _ _) | (with_reducible refine onl_drewN ?_ _) | (with_reducible refine onl_drew ?_) | (with_reducible refine onl_alloc ?_ _) | (with_reducible refine onl_set ?_ (Or.inr ?_) _) | go_size))⟩

/-- a drawn stamp -/
def DrawnStamp (w : World) (r N : Nat) (e : Ending) (w' : World) : Prop := ∃ y m d h i s u o : Int, e = .returned (.agg #[.int .i64 y, .int .i64 m, .int .i64 d, .int .i64 h, .int .i64 i, .int .i64 s, .int .i64 u, .int .i64 o]) ∧ Rd w' r N ∧ Onl r w w'

/-- a stamp drawn out of a slice of bytes -/
def DrawnStamp0 (w : World) (e : Ending) (w' : World) : Prop := ∃ y m d h i s u o : Int, e = .returned (.agg #[.int .i64 y, .int .i64 m, .int .i64 d, .int .i64 h, .int .i64 i, .int .i64 s, .int .i64 u, .int .i64 o]) ∧ Below w.heap.size w w'



end Go.Proofs.Ytbgpdjceofofoaa
