/- What the draws of dates give: some integers; only new blocks and the reader's own change. Conditions: the reader stands in memory, few picks have been made. -/
import Derived.Test.YtfailbghnpfcdaaDoorRd
import Derived.Deep.DeepCutAuto
import Derived.Deep.CutBlock
namespace Go.Proofs.YtfailbghnpfcdaaDoor
open Go.RowKit

/-- some integer is drawn -/
def DrawnInt (w : World) (r N : Nat) (e : Ending) (w' : World) : Prop := ∃ z : Int, e = .returned (.int .i64 z) ∧ Rd w' r N ∧ Onl r w w'

set_option maxHeartbeats 2000000 in
theorem l91Year_any (w : World) (r N : Nat) (hr : Rd w r N) (hN : N ≤ 90000) : Calls Tryd.prog 52 #[.pointer (some ⟨r, 0, none⟩)] w (DrawnInt w r (N + 5)) := by
  have hlt := rd_lt hr
  go_enter Tryd.func52, Tryd.ntmps52
  go_wp2_with fail
  refine (pick_any _ r N _ (by (repeat' (first | (with_reducible assumption) | (with_reducible refine rd_alloc ?_ _) | (with_reducible refine rd_drewN ?_ _) | (with_reducible refine rd_drew ?_) | (with_reducible refine rd_set ?_ ?_ _) | go_size))) (by omega) (by omega) (by omega)).mono ?_
  rintro e w1 ⟨k, hk1, hk2, rfl, Rw1, Gw1⟩
  have sw1 := Gw1.size
  (try simp at sw1)
  have Ow1 : Onl r w w1 := onl_trans (by (repeat' (first | (with_reducible assumption) | (with_reducible exact onl_refl _ _) | (with_reducible refine onl_drewN ?_ _) | (with_reducible refine onl_drew ?_) | (with_reducible refine onl_alloc ?_ _) | (with_reducible refine onl_set ?_ (Or.inr ?_) _) | go_size))) Gw1
  go_wp2_with fail
  · refine (pick_any _ r (N + 1) _ (by (repeat' (first | (with_reducible assumption) | (with_reducible refine rd_alloc ?_ _) | (with_reducible refine rd_drewN ?_ _) | (with_reducible refine rd_drew ?_) | (with_reducible refine rd_set ?_ ?_ _) | go_size))) (by omega) (by omega) (by omega)).mono ?_
    rintro e w2 ⟨j, hj1, hj2, rfl, Rw2, Gw2⟩
    have sw2 := Gw2.size
    (try simp at sw2)
    have Ow2 : Onl r w w2 := onl_trans (by (repeat' (first | (with_reducible assumption) | (with_reducible exact onl_refl _ _) | (with_reducible refine onl_drewN ?_ _) | (with_reducible refine onl_drew ?_) | (with_reducible refine onl_alloc ?_ _) | (with_reducible refine onl_set ?_ (Or.inr ?_) _) | go_size))) Gw2
    obtain ⟨z, hz⟩ : ∃ z : Int, w2.cell? ⟨w1.heap.size, j.toNat, none⟩ = some (.int .i64 z) := by
      have hj : j = 0 ∨ j = 1 ∨ j = 2 ∨ j = 3 ∨ j = 4 ∨ j = 5 := by omega
      rcases hj with rfl | rfl | rfl | rfl | rfl | rfl <;> exact ⟨_, (onl_cell Gw2 (by go_size) (by omega) _).trans (by go_simp; rfl)⟩
    go_wp2_with fail
    go_ret
    exact ⟨_, rfl, rd_le (N := N + 1 + 1) (by (repeat' (first | (with_reducible assumption) | (with_reducible refine rd_alloc ?_ _) | (with_reducible refine rd_drewN ?_ _) | (with_reducible refine rd_drew ?_) | (with_reducible refine rd_set ?_ ?_ _) | go_size))) (by omega), by (repeat' (first | (with_reducible assumption) | (with_reducible exact onl_refl _ _) | (with_reducible refine onl_drewN ?_ _) | (with_reducible refine onl_drew ?_) | (with_reducible refine onl_alloc ?_ _) | (with_reducible refine onl_set ?_ (Or.inr ?_) _) | go_size))⟩
  · refine (pick_any _ r (N + 1) _ (by (repeat' (first | (with_reducible assumption) | (with_reducible refine rd_alloc ?_ _) | (with_reducible refine rd_drewN ?_ _) | (with_reducible refine rd_drew ?_) | (with_reducible refine rd_set ?_ ?_ _) | go_size))) (by omega) (by omega) (by omega)).mono ?_
    rintro e w2 ⟨j, hj1, hj2, rfl, Rw2, Gw2⟩
    have sw2 := Gw2.size
    (try simp at sw2)
    have Ow2 : Onl r w w2 := onl_trans (by (repeat' (first | (with_reducible assumption) | (with_reducible exact onl_refl _ _) | (with_reducible refine onl_drewN ?_ _) | (with_reducible refine onl_drew ?_) | (with_reducible refine onl_alloc ?_ _) | (with_reducible refine onl_set ?_ (Or.inr ?_) _) | go_size))) Gw2
    obtain ⟨z, hz⟩ : ∃ z : Int, w2.cell? ⟨w1.heap.size, j.toNat, none⟩ = some (.int .i64 z) := by
      have hj : j = 0 ∨ j = 1 ∨ j = 2 ∨ j = 3 ∨ j = 4 := by omega
      rcases hj with rfl | rfl | rfl | rfl | rfl <;> exact ⟨_, (onl_cell Gw2 (by go_size) (by omega) _).trans (by go_simp; rfl)⟩
    go_wp2_with fail
    go_ret
    exact ⟨_, rfl, rd_le (N := N + 1 + 1) (by (repeat' (first | (with_reducible assumption) | (with_reducible refine rd_alloc ?_ _) | (with_reducible refine rd_drewN ?_ _) | (with_reducible refine rd_drew ?_) | (with_reducible refine rd_set ?_ ?_ _) | go_size))) (by omega), by (repeat' (first | (with_reducible assumption) | (with_reducible exact onl_refl _ _) | (with_reducible refine onl_drewN ?_ _) | (with_reducible refine onl_drew ?_) | (with_reducible refine onl_alloc ?_ _) | (with_reducible refine onl_set ?_ (Or.inr ?_) _) | go_size))⟩
  · refine (pick_any _ r (N + 1) _ (by (repeat' (first | (with_reducible assumption) | (with_reducible refine rd_alloc ?_ _) | (with_reducible refine rd_drewN ?_ _) | (with_reducible refine rd_drew ?_) | (with_reducible refine rd_set ?_ ?_ _) | go_size))) (by omega) (by omega) (by omega)).mono ?_
    rintro e w2 ⟨j, hj1, hj2, rfl, Rw2, Gw2⟩
    have sw2 := Gw2.size
    (try simp at sw2)
    have Ow2 : Onl r w w2 := onl_trans (by (repeat' (first | (with_reducible assumption) | (with_reducible exact onl_refl _ _) | (with_reducible refine onl_drewN ?_ _) | (with_reducible refine onl_drew ?_) | (with_reducible refine onl_alloc ?_ _) | (with_reducible refine onl_set ?_ (Or.inr ?_) _) | go_size))) Gw2
    go_wp2_with fail
    go_ret
    exact ⟨_, rfl, rd_le (N := N + 1 + 1) (by (repeat' (first | (with_reducible assumption) | (with_reducible refine rd_alloc ?_ _) | (with_reducible refine rd_drewN ?_ _) | (with_reducible refine rd_drew ?_) | (with_reducible refine rd_set ?_ ?_ _) | go_size))) (by omega), by (repeat' (first | (with_reducible assumption) | (with_reducible exact onl_refl _ _) | (with_reducible refine onl_drewN ?_ _) | (with_reducible refine onl_drew ?_) | (with_reducible refine onl_alloc ?_ _) | (with_reducible refine onl_set ?_ (Or.inr ?_) _) | go_size))⟩
  · refine (pick_any _ r (N + 1) _ (by (repeat' (first | (with_reducible assumption) | (with_reducible refine rd_alloc ?_ _) | (with_reducible refine rd_drewN ?_ _) | (with_reducible refine rd_drew ?_) | (with_reducible refine rd_set ?_ ?_ _) | go_size))) (by omega) (by omega) (by omega)).mono ?_
    rintro e w2 ⟨j, hj1, hj2, rfl, Rw2, Gw2⟩
    have sw2 := Gw2.size
    (try simp at sw2)
    have Ow2 : Onl r w w2 := onl_trans (by (repeat' (first | (with_reducible assumption) | (with_reducible exact onl_refl _ _) | (with_reducible refine onl_drewN ?_ _) | (with_reducible refine onl_drew ?_) | (with_reducible refine onl_alloc ?_ _) | (with_reducible refine onl_set ?_ (Or.inr ?_) _) | go_size))) Gw2
    go_wp2_with fail
    go_ret
    exact ⟨_, rfl, rd_le (N := N + 1 + 1) (by (repeat' (first | (with_reducible assumption) | (with_reducible refine rd_alloc ?_ _) | (with_reducible refine rd_drewN ?_ _) | (with_reducible refine rd_drew ?_) | (with_reducible refine rd_set ?_ ?_ _) | go_size))) (by omega), by (repeat' (first | (with_reducible assumption) | (with_reducible exact onl_refl _ _) | (with_reducible refine onl_drewN ?_ _) | (with_reducible refine onl_drew ?_) | (with_reducible refine onl_alloc ?_ _) | (with_reducible refine onl_set ?_ (Or.inr ?_) _) | go_size))⟩

/-- a drawn date -/
def DrawnDate (w : World) (r N : Nat) (e : Ending) (w' : World) : Prop := ∃ y m d : Int, e = .returned (.agg #[.int .i64 y, .int .i64 m, .int .i64 d]) ∧ Rd w' r N ∧ Onl r w w'
/-- where the ways of the draw of a date meet: block g holds three integers -/
def DateCut (w : World) (r N g : Nat) (wx : World) : Prop := ∃ y m d : Int, Rd wx r N ∧ Onl r w wx ∧ g < wx.heap.size ∧ CellsAt wx g 0 [.int .i64 y, .int .i64 m, .int .i64 d] ∧ CellsAt wx w.heap.size 0 [.int .i64 0, .int .i64 0, .int .i64 0]

set_option maxHeartbeats 4000000 in
theorem l91Date_any (w : World) (r N : Nat) (hr : Rd w r N) (hN : N ≤ 80000) : Calls Tryd.prog 30 #[.pointer (some ⟨r, 0, none⟩)] w (DrawnDate w r (N + 20)) := by
  have hlt := rd_lt hr
  go_enter Tryd.func30, Tryd.ntmps30
  go_wp2_with fail
  refine (l91Year_any _ r N (by (repeat' (first | (with_reducible assumption) | (with_reducible refine rd_alloc ?_ _) | (with_reducible refine rd_drewN ?_ _) | (with_reducible refine rd_drew ?_) | (with_reducible refine rd_set ?_ ?_ _) | go_size))) (by omega)).mono ?_
  rintro e w1 ⟨y, rfl, Rw1, Gw1⟩
  have sw1 := Gw1.size
  (try simp at sw1)
  have Ow1 : Onl r w w1 := onl_trans (by (repeat' (first | (with_reducible assumption) | (with_reducible exact onl_refl _ _) | (with_reducible refine onl_drewN ?_ _) | (with_reducible refine onl_drew ?_) | (with_reducible refine onl_alloc ?_ _) | (with_reducible refine onl_set ?_ (Or.inr ?_) _) | go_size))) Gw1
  have lw1_0 : w.heap.size < w1.heap.size := by omega
  have zw1_wH : CellsAt w1 (w.heap.size) 0 [.int .i64 0, .int .i64 0, .int .i64 0] := cells_keep (by simp only [CellsAt]; go_simp) (fun o => onl_cell Gw1 (by go_size) (by omega) o) (fun o => onl_frozen Gw1 (by go_size) (by omega) o)
  simp only [CellsAt] at zw1_wH
  go_wp2_with fail
  refine (pick_any _ r (N + 5) _ (by (repeat' (first | (with_reducible assumption) | (with_reducible refine rd_alloc ?_ _) | (with_reducible refine rd_drewN ?_ _) | (with_reducible refine rd_drew ?_) | (with_reducible refine rd_set ?_ ?_ _) | go_size))) (by omega) (by omega) (by omega)).mono ?_
  rintro e w2 ⟨m, hm1, hm2, rfl, Rw2, Gw2⟩
  have sw2 := Gw2.size
  (try simp at sw2)
  have Ow2 : Onl r w w2 := onl_trans (by (repeat' (first | (with_reducible assumption) | (with_reducible exact onl_refl _ _) | (with_reducible refine onl_drewN ?_ _) | (with_reducible refine onl_drew ?_) | (with_reducible refine onl_alloc ?_ _) | (with_reducible refine onl_set ?_ (Or.inr ?_) _) | go_size))) Gw2
  have lw2_0 : w.heap.size < w2.heap.size := by omega
  have zw2_wH : CellsAt w2 (w.heap.size) 0 [.int .i64 0, .int .i64 0, .int .i64 0] := cells_keep (by simp only [CellsAt]; go_simp) (fun o => onl_cell Gw2 (by go_size) (by omega) o) (fun o => onl_frozen Gw2 (by go_size) (by omega) o)
  simp only [CellsAt] at zw2_wH
  clear zw1_wH
  go_wp2_with fail
  refine (pick_any _ r (N + 5 + 1) _ (by (repeat' (first | (with_reducible assumption) | (with_reducible refine rd_alloc ?_ _) | (with_reducible refine rd_drewN ?_ _) | (with_reducible refine rd_drew ?_) | (with_reducible refine rd_set ?_ ?_ _) | go_size))) (by omega) (by omega) (by omega)).mono ?_
  rintro e w3 ⟨d, hd1, hd2, rfl, Rw3, Gw3⟩
  have sw3 := Gw3.size
  (try simp at sw3)
  have Ow3 : Onl r w w3 := onl_trans (by (repeat' (first | (with_reducible assumption) | (with_reducible exact onl_refl _ _) | (with_reducible refine onl_drewN ?_ _) | (with_reducible refine onl_drew ?_) | (with_reducible refine onl_alloc ?_ _) | (with_reducible refine onl_set ?_ (Or.inr ?_) _) | go_size))) Gw3
  have lw3_0 : w.heap.size < w3.heap.size := by omega
  have zw3_wH : CellsAt w3 (w.heap.size) 0 [.int .i64 0, .int .i64 0, .int .i64 0] := cells_keep (by simp only [CellsAt]; go_simp) (fun o => onl_cell Gw3 (by go_size) (by omega) o) (fun o => onl_frozen Gw3 (by go_size) (by omega) o)
  simp only [CellsAt] at zw3_wH
  clear zw2_wH
  go_wp2_with fail
  refine (pick_any _ r (N + 5 + 1 + 1) _ (by (repeat' (first | (with_reducible assumption) | (with_reducible refine rd_alloc ?_ _) | (with_reducible refine rd_drewN ?_ _) | (with_reducible refine rd_drew ?_) | (with_reducible refine rd_set ?_ ?_ _) | go_size))) (by omega) (by omega) (by omega)).mono ?_
  rintro e w4 ⟨k, hk1, hk2, rfl, Rw4, Gw4⟩
  have sw4 := Gw4.size
  (try simp at sw4)
  have Ow4 : Onl r w w4 := onl_trans (by (repeat' (first | (with_reducible assumption) | (with_reducible exact onl_refl _ _) | (with_reducible refine onl_drewN ?_ _) | (with_reducible refine onl_drew ?_) | (with_reducible refine onl_alloc ?_ _) | (with_reducible refine onl_set ?_ (Or.inr ?_) _) | go_size))) Gw4
  have lw4_0 : w.heap.size < w4.heap.size := by omega
  have lw4_1 : w3.heap.size < w4.heap.size := by omega
  have zw4_wH : CellsAt w4 (w.heap.size) 0 [.int .i64 0, .int .i64 0, .int .i64 0] := cells_keep (by simp only [CellsAt]; go_simp) (fun o => onl_cell Gw4 (by go_size) (by omega) o) (fun o => onl_frozen Gw4 (by go_size) (by omega) o)
  simp only [CellsAt] at zw4_wH
  have zw4_w3H : CellsAt w4 (w3.heap.size) 0 [.int .i64 y, .int .i64 (1 + m), .int .i64 (1 + d)] := cells_keep (by simp only [CellsAt]; go_simp) (fun o => onl_cell Gw4 (by go_size) (by omega) o) (fun o => onl_frozen Gw4 (by go_size) (by omega) o)
  simp only [CellsAt] at zw4_w3H
  clear zw3_wH
  go_upto_block 0 with fail
  have hg0 : r < w3.heap.size := by omega
  have hg1 : w.heap.size < w3.heap.size := by omega
  have hne : ¬ w.heap.size = w3.heap.size := by omega
  have hne' : ¬ w3.heap.size = w.heap.size := by omega
  go_cut [] (DateCut w r (N + 14) w3.heap.size)
  case first =>
    go_wp2_with fail
    · refine (pick_any _ r (N + 8) _ (by (repeat' (first | (with_reducible assumption) | (with_reducible refine rd_alloc ?_ _) | (with_reducible refine rd_drewN ?_ _) | (with_reducible refine rd_drew ?_) | (with_reducible refine rd_set ?_ ?_ _) | go_size))) (by omega) (by omega) (by omega)).mono ?_
      rintro e w5 ⟨j, hj1, hj2, rfl, Rw5, Gw5⟩
      have sw5 := Gw5.size
      (try simp at sw5)
      have Ow5 : Onl r w w5 := onl_trans (by (repeat' (first | (with_reducible assumption) | (with_reducible exact onl_refl _ _) | (with_reducible refine onl_drewN ?_ _) | (with_reducible refine onl_drew ?_) | (with_reducible refine onl_alloc ?_ _) | (with_reducible refine onl_set ?_ (Or.inr ?_) _) | go_size))) Gw5
      have lw5_0 : w.heap.size < w5.heap.size := by omega
      have lw5_1 : w3.heap.size < w5.heap.size := by omega
      have zw5_wH : CellsAt w5 (w.heap.size) 0 [.int .i64 0, .int .i64 0, .int .i64 0] := cells_keep (by simp only [CellsAt]; go_simp) (fun o => onl_cell Gw5 (by go_size) (by omega) o) (fun o => onl_frozen Gw5 (by go_size) (by omega) o)
      simp only [CellsAt] at zw5_wH
      have zw5_w3H : CellsAt w5 (w3.heap.size) 0 [.int .i64 y, .int .i64 (1 + m), .int .i64 (1 + d)] := cells_keep (by simp only [CellsAt]; go_simp) (fun o => onl_cell Gw5 (by go_size) (by omega) o) (fun o => onl_frozen Gw5 (by go_size) (by omega) o)
      simp only [CellsAt] at zw5_w3H
      clear zw4_wH zw4_w3H
      go_wp2_with fail
      go_meet
      case rel => exact ⟨y, 1 + m, 29 + j, rd_le (N := N + 9) (by (repeat' (first | (with_reducible assumption) | (with_reducible refine rd_alloc ?_ _) | (with_reducible refine rd_drewN ?_ _) | (with_reducible refine rd_drew ?_) | (with_reducible refine rd_set ?_ ?_ _) | go_size))) (by omega), by (repeat' (first | (with_reducible assumption) | (with_reducible exact onl_refl _ _) | (with_reducible refine onl_drewN ?_ _) | (with_reducible refine onl_drew ?_) | (with_reducible refine onl_alloc ?_ _) | (with_reducible refine onl_set ?_ (Or.inr ?_) _) | go_size)), by go_size, by simp only [CellsAt]; go_simp, by simp only [CellsAt]; go_simp⟩
    · refine (pick_any _ r (N + 8) _ (by (repeat' (first | (with_reducible assumption) | (with_reducible refine rd_alloc ?_ _) | (with_reducible refine rd_drewN ?_ _) | (with_reducible refine rd_drew ?_) | (with_reducible refine rd_set ?_ ?_ _) | go_size))) (by omega) (by omega) (by omega)).mono ?_
      rintro e w5 ⟨j, hj1, hj2, rfl, Rw5, Gw5⟩
      have sw5 := Gw5.size
      (try simp at sw5)
      have Ow5 : Onl r w w5 := onl_trans (by (repeat' (first | (with_reducible assumption) | (with_reducible exact onl_refl _ _) | (with_reducible refine onl_drewN ?_ _) | (with_reducible refine onl_drew ?_) | (with_reducible refine onl_alloc ?_ _) | (with_reducible refine onl_set ?_ (Or.inr ?_) _) | go_size))) Gw5
      have lw5_0 : w.heap.size < w5.heap.size := by omega
      have lw5_1 : w3.heap.size < w5.heap.size := by omega
      obtain ⟨z, hz⟩ : ∃ z : Int, w5.cell? ⟨w4.heap.size, j.toNat, none⟩ = some (.int .i64 z) := by
        have hj : j = 0 ∨ j = 1 := by omega
        rcases hj with rfl | rfl <;> exact ⟨_, (onl_cell Gw5 (by go_size) (by omega) _).trans (by go_simp; rfl)⟩
      have zw5_wH : CellsAt w5 (w.heap.size) 0 [.int .i64 0, .int .i64 0, .int .i64 0] := cells_keep (by simp only [CellsAt]; go_simp) (fun o => onl_cell Gw5 (by go_size) (by omega) o) (fun o => onl_frozen Gw5 (by go_size) (by omega) o)
      simp only [CellsAt] at zw5_wH
      have zw5_w3H : CellsAt w5 (w3.heap.size) 0 [.int .i64 y, .int .i64 (1 + m), .int .i64 (1 + d)] := cells_keep (by simp only [CellsAt]; go_simp) (fun o => onl_cell Gw5 (by go_size) (by omega) o) (fun o => onl_frozen Gw5 (by go_size) (by omega) o)
      simp only [CellsAt] at zw5_w3H
      clear zw4_wH zw4_w3H
      go_wp2_with fail
      refine (pick_any _ r (N + 9) _ (by (repeat' (first | (with_reducible assumption) | (with_reducible refine rd_alloc ?_ _) | (with_reducible refine rd_drewN ?_ _) | (with_reducible refine rd_drew ?_) | (with_reducible refine rd_set ?_ ?_ _) | go_size))) (by omega) (by omega) (by omega)).mono ?_
      rintro e w6 ⟨i, hi1, hi2, rfl, Rw6, Gw6⟩
      have sw6 := Gw6.size
      (try simp at sw6)
      have Ow6 : Onl r w w6 := onl_trans (by (repeat' (first | (with_reducible assumption) | (with_reducible exact onl_refl _ _) | (with_reducible refine onl_drewN ?_ _) | (with_reducible refine onl_drew ?_) | (with_reducible refine onl_alloc ?_ _) | (with_reducible refine onl_set ?_ (Or.inr ?_) _) | go_size))) Gw6
      have lw6_0 : w.heap.size < w6.heap.size := by omega
      have lw6_1 : w3.heap.size < w6.heap.size := by omega
      obtain ⟨v, hv⟩ : ∃ z : Int, w6.cell? ⟨w5.heap.size, i.toNat, none⟩ = some (.int .i64 z) := by
        have hi : i = 0 ∨ i = 1 ∨ i = 2 ∨ i = 3 ∨ i = 4 ∨ i = 5 ∨ i = 6 := by omega
        rcases hi with rfl | rfl | rfl | rfl | rfl | rfl | rfl <;> exact ⟨_, (onl_cell Gw6 (by go_size) (by omega) _).trans (by go_simp; rfl)⟩
      have zw6_wH : CellsAt w6 (w.heap.size) 0 [.int .i64 0, .int .i64 0, .int .i64 0] := cells_keep (by simp only [CellsAt]; go_simp) (fun o => onl_cell Gw6 (by go_size) (by omega) o) (fun o => onl_frozen Gw6 (by go_size) (by omega) o)
      simp only [CellsAt] at zw6_wH
      have zw6_w3H : CellsAt w6 (w3.heap.size) 0 [.int .i64 y, .int .i64 z, .int .i64 (1 + d)] := cells_keep (by simp only [CellsAt]; go_simp) (fun o => onl_cell Gw6 (by go_size) (by omega) o) (fun o => onl_frozen Gw6 (by go_size) (by omega) o)
      simp only [CellsAt] at zw6_w3H
      clear zw5_wH zw5_w3H
      go_wp2_with fail
      go_meet
      case rel => exact ⟨y, z, v, rd_le (N := N + 10) (by (repeat' (first | (with_reducible assumption) | (with_reducible refine rd_alloc ?_ _) | (with_reducible refine rd_drewN ?_ _) | (with_reducible refine rd_drew ?_) | (with_reducible refine rd_set ?_ ?_ _) | go_size))) (by omega), by (repeat' (first | (with_reducible assumption) | (with_reducible exact onl_refl _ _) | (with_reducible refine onl_drewN ?_ _) | (with_reducible refine onl_drew ?_) | (with_reducible refine onl_alloc ?_ _) | (with_reducible refine onl_set ?_ (Or.inr ?_) _) | go_size)), by go_size, by simp only [CellsAt]; go_simp, by simp only [CellsAt]; go_simp⟩
    · refine (pick_any _ r (N + 8) _ (by (repeat' (first | (with_reducible assumption) | (with_reducible refine rd_alloc ?_ _) | (with_reducible refine rd_drewN ?_ _) | (with_reducible refine rd_drew ?_) | (with_reducible refine rd_set ?_ ?_ _) | go_size))) (by omega) (by omega) (by omega)).mono ?_
      rintro e w5 ⟨j, hj1, hj2, rfl, Rw5, Gw5⟩
      have sw5 := Gw5.size
      (try simp at sw5)
      have Ow5 : Onl r w w5 := onl_trans (by (repeat' (first | (with_reducible assumption) | (with_reducible exact onl_refl _ _) | (with_reducible refine onl_drewN ?_ _) | (with_reducible refine onl_drew ?_) | (with_reducible refine onl_alloc ?_ _) | (with_reducible refine onl_set ?_ (Or.inr ?_) _) | go_size))) Gw5
      have lw5_0 : w.heap.size < w5.heap.size := by omega
      have lw5_1 : w3.heap.size < w5.heap.size := by omega
      have zw5_wH : CellsAt w5 (w.heap.size) 0 [.int .i64 0, .int .i64 0, .int .i64 0] := cells_keep (by simp only [CellsAt]; go_simp) (fun o => onl_cell Gw5 (by go_size) (by omega) o) (fun o => onl_frozen Gw5 (by go_size) (by omega) o)
      simp only [CellsAt] at zw5_wH
      have zw5_w3H : CellsAt w5 (w3.heap.size) 0 [.int .i64 y, .int .i64 2, .int .i64 (1 + d)] := cells_keep (by simp only [CellsAt]; go_simp) (fun o => onl_cell Gw5 (by go_size) (by omega) o) (fun o => onl_frozen Gw5 (by go_size) (by omega) o)
      simp only [CellsAt] at zw5_w3H
      clear zw4_wH zw4_w3H
      go_wp2_with fail
      go_meet
      case rel => exact ⟨y, 2, 28 + j, rd_le (N := N + 9) (by (repeat' (first | (with_reducible assumption) | (with_reducible refine rd_alloc ?_ _) | (with_reducible refine rd_drewN ?_ _) | (with_reducible refine rd_drew ?_) | (with_reducible refine rd_set ?_ ?_ _) | go_size))) (by omega), by (repeat' (first | (with_reducible assumption) | (with_reducible exact onl_refl _ _) | (with_reducible refine onl_drewN ?_ _) | (with_reducible refine onl_drew ?_) | (with_reducible refine onl_alloc ?_ _) | (with_reducible refine onl_set ?_ (Or.inr ?_) _) | go_size)), by go_size, by simp only [CellsAt]; go_simp, by simp only [CellsAt]; go_simp⟩
    · go_meet
      case rel => exact ⟨y, 1 + m, 1 + d, rd_le (N := N + 8) (by (repeat' (first | (with_reducible assumption) | (with_reducible refine rd_alloc ?_ _) | (with_reducible refine rd_drewN ?_ _) | (with_reducible refine rd_drew ?_) | (with_reducible refine rd_set ?_ ?_ _) | go_size))) (by omega), by (repeat' (first | (with_reducible assumption) | (with_reducible exact onl_refl _ _) | (with_reducible refine onl_drewN ?_ _) | (with_reducible refine onl_drew ?_) | (with_reducible refine onl_alloc ?_ _) | (with_reducible refine onl_set ?_ (Or.inr ?_) _) | go_size)), by go_size, by simp only [CellsAt]; go_simp, by simp only [CellsAt]; go_simp⟩
  case rest =>
    clear zw4_wH zw4_w3H Rw1 Rw2 Rw3 Rw4 Gw1 Gw2 Gw3 Gw4 Ow1 Ow2 Ow3 Ow4
    obtain ⟨y', m', d', R, O, sg, c1, c2⟩ := hcut
    have hs : w.heap.size < wc.heap.size := by omega
    simp only [CellsAt] at c1 c2
    go_wp2_with fail
    refine (pick_any _ r (N + 14) _ (by (repeat' (first | (with_reducible assumption) | (with_reducible refine rd_alloc ?_ _) | (with_reducible refine rd_drewN ?_ _) | (with_reducible refine rd_drew ?_) | (with_reducible refine rd_set ?_ ?_ _) | go_size))) (by omega) (by omega) (by omega)).mono ?_
    rintro e w5 ⟨q, hq1, hq2, rfl, Rw5, Gw5⟩
    have sw5 := Gw5.size
    (try simp at sw5)
    have Ow5 : Onl r w w5 := onl_trans (by (repeat' (first | (with_reducible assumption) | (with_reducible exact onl_refl _ _) | (with_reducible refine onl_drewN ?_ _) | (with_reducible refine onl_drew ?_) | (with_reducible refine onl_alloc ?_ _) | (with_reducible refine onl_set ?_ (Or.inr ?_) _) | go_size))) Gw5
    have lw5_0 : w.heap.size < w5.heap.size := by omega
    have lw5_1 : w3.heap.size < w5.heap.size := by omega
    have zw5_wH : CellsAt w5 (w.heap.size) 0 [.int .i64 0, .int .i64 0, .int .i64 0] := cells_keep (by simp only [CellsAt]; go_simp) (fun o => onl_cell Gw5 (by go_size) (by omega) o) (fun o => onl_frozen Gw5 (by go_size) (by omega) o)
    simp only [CellsAt] at zw5_wH
    have zw5_w3H : CellsAt w5 (w3.heap.size) 0 [.int .i64 y', .int .i64 m', .int .i64 d'] := cells_keep (by simp only [CellsAt]; go_simp) (fun o => onl_cell Gw5 (by go_size) (by omega) o) (fun o => onl_frozen Gw5 (by go_size) (by omega) o)
    simp only [CellsAt] at zw5_w3H
    clear c1 c2
    go_wp2_with fail
    · refine (pick_any _ r (N + 15) _ (by (repeat' (first | (with_reducible assumption) | (with_reducible refine rd_alloc ?_ _) | (with_reducible refine rd_drewN ?_ _) | (with_reducible refine rd_drew ?_) | (with_reducible refine rd_set ?_ ?_ _) | go_size))) (by omega) (by omega) (by omega)).mono ?_
      rintro e w6 ⟨j, hj1, hj2, rfl, Rw6, Gw6⟩
      have sw6 := Gw6.size
      (try simp at sw6)
      have Ow6 : Onl r w w6 := onl_trans (by (repeat' (first | (with_reducible assumption) | (with_reducible exact onl_refl _ _) | (with_reducible refine onl_drewN ?_ _) | (with_reducible refine onl_drew ?_) | (with_reducible refine onl_alloc ?_ _) | (with_reducible refine onl_set ?_ (Or.inr ?_) _) | go_size))) Gw6
      have lw6_0 : w.heap.size < w6.heap.size := by omega
      have lw6_1 : w3.heap.size < w6.heap.size := by omega
      have zw6_wH : CellsAt w6 (w.heap.size) 0 [.int .i64 0, .int .i64 0, .int .i64 0] := cells_keep (by simp only [CellsAt]; go_simp) (fun o => onl_cell Gw6 (by go_size) (by omega) o) (fun o => onl_frozen Gw6 (by go_size) (by omega) o)
      simp only [CellsAt] at zw6_wH
      have zw6_w3H : CellsAt w6 (w3.heap.size) 0 [.int .i64 y', .int .i64 m', .int .i64 d'] := cells_keep (by simp only [CellsAt]; go_simp) (fun o => onl_cell Gw6 (by go_size) (by omega) o) (fun o => onl_frozen Gw6 (by go_size) (by omega) o)
      simp only [CellsAt] at zw6_w3H
      clear zw5_wH zw5_w3H
      go_wp2_with fail
      exact bodyPost_ret (v := .agg #[.int .i64 y', .int .i64 (j - 1), .int .i64 d']) (by simp [results, Tryd.results30, go_sem, zw6_wH]) rfl ⟨_, _, _, rfl, rd_le (N := N + 16) (by (repeat' (first | (with_reducible assumption) | (with_reducible refine rd_alloc ?_ _) | (with_reducible refine rd_drewN ?_ _) | (with_reducible refine rd_drew ?_) | (with_reducible refine rd_set ?_ ?_ _) | go_size))) (by omega), by (repeat' (first | (with_reducible assumption) | (with_reducible exact onl_refl _ _) | (with_reducible refine onl_drewN ?_ _) | (with_reducible refine onl_drew ?_) | (with_reducible refine onl_alloc ?_ _) | (with_reducible refine onl_set ?_ (Or.inr ?_) _) | go_size))⟩
    · exact bodyPost_ret (v := .agg #[.int .i64 y', .int .i64 m', .int .i64 d']) (by simp [results, Tryd.results30, go_sem, zw5_wH]) rfl ⟨_, _, _, rfl, rd_le (N := N + 15) (by (repeat' (first | (with_reducible assumption) | (with_reducible refine rd_alloc ?_ _) | (with_reducible refine rd_drewN ?_ _) | (with_reducible refine rd_drew ?_) | (with_reducible refine rd_set ?_ ?_ _) | go_size))) (by omega), by (repeat' (first | (with_reducible assumption) | (with_reducible exact onl_refl _ _) | (with_reducible refine onl_drewN ?_ _) | (with_reducible refine onl_drew ?_) | (with_reducible refine onl_alloc ?_ _) | (with_reducible refine onl_set ?_ (Or.inr ?_) _) | go_size))⟩
end Go.Proofs.YtfailbghnpfcdaaDoor
