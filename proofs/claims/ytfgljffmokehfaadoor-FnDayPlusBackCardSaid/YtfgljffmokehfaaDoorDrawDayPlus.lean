/- What the draws of a date and a number of months or days give: some integers; only new blocks change. No condition. -/
import Derived.Test.YtfgljffmokehfaaDoorDrawShift
import Derived.Deep.RegionHeld3
import Derived.Deep.RegionWith
namespace Go.Proofs.YtfgljffmokehfaaDoor
open Go.RowKit


set_option maxHeartbeats 4000000 in
theorem DrawDayPlus_any (w0 : World) (a : Option Addr) (len cap : Nat) (zs : List Int) (h : IsRow .u8 w0 a len cap zs) : Calls Tryd.prog 24 #[.slice a len cap] w0 (DrawnShift w0) := by
  have h1 := isRow_keep h ((Below.refl _ w0).alloc (Nat.le_refl _) (.cells #[.int .i64 0, .int .i64 0, .int .i64 0] 24))
  have H1 := Lib.hid h1
  clear h h1
  go_enter Tryd.func24, Tryd.ntmps24
  go_wp2_with fail
  refine (open_any _ _ _ _ _ H1.out).mono ?_
  rintro e w ⟨rfl, R0, B0⟩
  obtain ⟨hcw, hfw⟩ := bcell B0
  have s0 := B0.size
  have A0 : Below w0.heap.size w0 w := Below.trans (by (repeat' (first | (with_reducible assumption) | (with_reducible exact Below.refl _ _) | (with_reducible refine bdN ?_ _) | (with_reducible refine Below.alloc ?_ ?_ _) | (with_reducible refine Below.drew ?_) | (with_reducible refine Below.setCell ?_ ?_ _) | go_size))) (B0.mono (by go_size))
  simp at s0 R0
  have zw_w0H : CellsAt w (w0.heap.size) 0 [.int .i64 0, .int .i64 0, .int .i64 0] := cells_keep (by simp only [CellsAt]; go_simp) (fun o => hcw _ o (by go_size)) (fun o => hfw _ o (by go_size))
  simp only [CellsAt] at zw_w0H
  clear hcw hfw B0
  have hlt := rd_lt R0
  obtain ⟨r, hr⟩ : ∃ r, w0.heap.size + 1 = r := ⟨_, rfl⟩
  rw [hr] at R0 hlt
  have HR := Lib.hid hr
  have r1 : w0.heap.size < r := by omega
  go_wp2_with fail
  clear hr
  refine (l91Date_any _ r 0 (by (repeat' (first | (with_reducible assumption) | (with_reducible refine rd_alloc ?_ _) | (with_reducible refine rd_drewN ?_ _) | (with_reducible refine rd_drew ?_) | (with_reducible refine rd_set ?_ ?_ _) | go_size))) (by omega)).mono ?_
  rintro e w1 ⟨y, m, d, rfl, Rw1, Gw1⟩
  have sw1 := Gw1.size
  (try simp at sw1)
  have Ow1 : Onl r w w1 := onl_trans (by (repeat' (first | (with_reducible assumption) | (with_reducible exact onl_refl _ _) | (with_reducible refine onl_drewN ?_ _) | (with_reducible refine onl_drew ?_) | (with_reducible refine onl_alloc ?_ _) | (with_reducible refine onl_set ?_ (Or.inr ?_) _) | go_size))) Gw1
  have lw1_0 : w0.heap.size < w1.heap.size := by omega
  have zw1_w0H : CellsAt w1 (w0.heap.size) 0 [.int .i64 0, .int .i64 0, .int .i64 0] := cells_keep (by simp only [CellsAt]; go_simp) (fun o => onl_cell Gw1 (by go_size) (by omega) o) (fun o => onl_frozen Gw1 (by go_size) (by omega) o)
  simp only [CellsAt] at zw1_w0H
  go_wp2_with fail
  refine (pick_any _ r (0 + 20) _ (by (repeat' (first | (with_reducible assumption) | (with_reducible refine rd_alloc ?_ _) | (with_reducible refine rd_drewN ?_ _) | (with_reducible refine rd_drew ?_) | (with_reducible refine rd_set ?_ ?_ _) | go_size))) (by omega) (by omega) (by omega)).mono ?_
  rintro e w2 ⟨k, hk1, hk2, rfl, Rw2, Gw2⟩
  have sw2 := Gw2.size
  (try simp at sw2)
  have Ow2 : Onl r w w2 := onl_trans (by (repeat' (first | (with_reducible assumption) | (with_reducible exact onl_refl _ _) | (with_reducible refine onl_drewN ?_ _) | (with_reducible refine onl_drew ?_) | (with_reducible refine onl_alloc ?_ _) | (with_reducible refine onl_set ?_ (Or.inr ?_) _) | go_size))) Gw2
  have lw2_0 : w0.heap.size < w2.heap.size := by omega
  have lw2_1 : w1.heap.size < w2.heap.size := by omega
  have zw2_w0H : CellsAt w2 (w0.heap.size) 0 [.int .i64 0, .int .i64 0, .int .i64 0] := cells_keep (by simp only [CellsAt]; go_simp) (fun o => onl_cell Gw2 (by go_size) (by omega) o) (fun o => onl_frozen Gw2 (by go_size) (by omega) o)
  simp only [CellsAt] at zw2_w0H
  have zw2_w1H : CellsAt w2 (w1.heap.size) 0 [.int .i64 y, .int .i64 m, .int .i64 d] := cells_keep (by simp only [CellsAt]; go_simp) (fun o => onl_cell Gw2 (by go_size) (by omega) o) (fun o => onl_frozen Gw2 (by go_size) (by omega) o)
  simp only [CellsAt] at zw2_w1H
  clear zw_w0H zw1_w0H
  go_wp2_with fail
  · have n1 : ¬ w1.heap.size = r := by omega
    have n2 : ¬ w0.heap.size = r := by omega
    have A2 : Below w0.heap.size w0 w2 := A0.trans (onl_below Ow2 (by omega) A0.size)
    go_region_with ((go_at_call 41; refine (pick_any _ r (0 + 20 + 1) _ (by (repeat' (first | (with_reducible assumption) | (with_reducible refine rd_alloc ?_ _) | (with_reducible refine rd_drewN ?_ _) | (with_reducible refine rd_drew ?_) | (with_reducible refine rd_set ?_ ?_ _) | go_size))) (by omega) (by omega) (by omega)).mono ?_; rintro e w3 ⟨j, hj1, hj2, rfl, R3, G3⟩; have s3 := G3.size; (try simp at s3); have l3 : w0.heap.size < w3.heap.size := (by omega); have l4 : w1.heap.size < w3.heap.size := (by omega); have c1 := fun o => onl_cell G3 (b := w1.heap.size) (by go_size) (by omega) o; have c2 := fun o => onl_cell G3 (b := w0.heap.size) (by go_size) (by omega) o; have f2 := fun o => onl_frozen G3 (b := w0.heap.size) (by go_size) (by omega) o; have A3 : Below w0.heap.size w0 w3 := Below.trans (by (repeat' (first | (with_reducible assumption) | (with_reducible exact Below.refl _ _) | (with_reducible refine bdN ?_ _) | (with_reducible refine Below.alloc ?_ ?_ _) | (with_reducible refine Below.drew ?_) | (with_reducible refine Below.setCell ?_ ?_ _) | go_size))) (onl_below G3 (by omega) (by go_size)); have zz : CellsAt w3 w0.heap.size 0 [.int .i64 0, .int .i64 0, .int .i64 0] := cells_keep (by simp only [CellsAt]; go_simp) c2 f2; simp only [CellsAt] at zz; clear c2 f2; have c3 := fun o (hh : w2.heap.size < _) => onl_cell G3 (b := w2.heap.size) hh (by omega) o; obtain ⟨z, hA2⟩ : ∃ z : Int, ([.int .i64 (-3652058), .int .i64 3652058, .int .i64 3652059, .int .i64 (-3652059)] : List Value)[j.toNat]? = some (.int .i64 z) := (by have hj : j = 0 ∨ j = 1 ∨ j = 2 ∨ j = 3 := (by omega); rcases hj with rfl | rfl | rfl | rfl <;> exact ⟨_, rfl⟩); have hA3 := (List.getElem?_eq_some_iff.1 hA2); have hA4 : ∀ h, ([.int .i64 (-3652058), .int .i64 3652058, .int .i64 3652059, .int .i64 (-3652059)] : List Value)[j.toNat]'h = .int .i64 z := (fun h => hA3.2); clear hA2 hA3))
    all_goals
      go_wp2_with fail
      refine bodyPost_ret (v := .tuple #[.agg #[.int .i64 y, .int .i64 m, .int .i64 d], .int .i64 z]) (by simp [results, Tryd.results24, go_sem, zz, l3]) rfl ⟨_, _, _, _, rfl, ?_⟩
      (repeat' (first | (with_reducible assumption) | (with_reducible exact Below.refl _ _) | (with_reducible refine bdN ?_ _) | (with_reducible refine Below.alloc ?_ ?_ _) | (with_reducible refine Below.drew ?_) | (with_reducible refine Below.setCell ?_ ?_ _) | go_size))
  · have n1 : ¬ w1.heap.size = r := by omega
    have n2 : ¬ w0.heap.size = r := by omega
    have A2 : Below w0.heap.size w0 w2 := A0.trans (onl_below Ow2 (by omega) A0.size)
    go_region_with ((first | (go_at_call 41; (with_reducible refine (pick_any _ r (0 + 20 + 1) 250 (by (repeat' (first | (with_reducible assumption) | (with_reducible refine rd_alloc ?_ _) | (with_reducible refine rd_drewN ?_ _) | (with_reducible refine rd_drew ?_) | (with_reducible refine rd_set ?_ ?_ _) | go_size))) (by omega) (by omega) (by omega)).mono ?_); rintro e w3 ⟨j, hj1, hj2, rfl, R3, G3⟩; have s3 := G3.size; (try simp at s3); have l3 : w0.heap.size < w3.heap.size := (by omega); have l4 : w1.heap.size < w3.heap.size := (by omega); have c1 := fun o => onl_cell G3 (b := w1.heap.size) (by go_size) (by omega) o; have c2 := fun o => onl_cell G3 (b := w0.heap.size) (by go_size) (by omega) o; have f2 := fun o => onl_frozen G3 (b := w0.heap.size) (by go_size) (by omega) o; have A3 : Below w0.heap.size w0 w3 := Below.trans (by (repeat' (first | (with_reducible assumption) | (with_reducible exact Below.refl _ _) | (with_reducible refine bdN ?_ _) | (with_reducible refine Below.alloc ?_ ?_ _) | (with_reducible refine Below.drew ?_) | (with_reducible refine Below.setCell ?_ ?_ _) | go_size))) (onl_below G3 (by omega) (by go_size)); have zz : CellsAt w3 w0.heap.size 0 [.int .i64 0, .int .i64 0, .int .i64 0] := cells_keep (by simp only [CellsAt]; go_simp) c2 f2; simp only [CellsAt] at zz; clear c2 f2) | (go_at_call 41; (with_reducible refine (pick_any _ r (0 + 20 + 1 + 1) 20 (by (repeat' (first | (with_reducible assumption) | (with_reducible refine rd_alloc ?_ _) | (with_reducible refine rd_drewN ?_ _) | (with_reducible refine rd_drew ?_) | (with_reducible refine rd_set ?_ ?_ _) | go_size))) (by omega) (by omega) (by omega)).mono ?_); rintro e w4 ⟨q, hq1, hq2, rfl, R4, G4⟩; have s4 := G4.size; (try simp at s4); have l5 : w0.heap.size < w4.heap.size := (by omega); have l6 : w1.heap.size < w4.heap.size := (by omega); have c3 := fun o => onl_cell G4 (b := w1.heap.size) (by go_size) (by omega) o; have c2 := fun o => onl_cell G4 (b := w0.heap.size) (by go_size) (by omega) o; have f2 := fun o => onl_frozen G4 (b := w0.heap.size) (by go_size) (by omega) o; have A4 : Below w0.heap.size w0 w4 := Below.trans (by (repeat' (first | (with_reducible assumption) | (with_reducible exact Below.refl _ _) | (with_reducible refine bdN ?_ _) | (with_reducible refine Below.alloc ?_ ?_ _) | (with_reducible refine Below.drew ?_) | (with_reducible refine Below.setCell ?_ ?_ _) | go_size))) (onl_below G4 (by omega) (by go_size)); have yy : CellsAt w4 w0.heap.size 0 [.int .i64 0, .int .i64 0, .int .i64 0] := cells_keep (by simp only [CellsAt]; go_simp) c2 f2; simp only [CellsAt] at yy; clear c2 f2)))
    all_goals
      go_wp2_with fail
      refine bodyPost_ret (v := .tuple #[.agg #[.int .i64 y, .int .i64 m, .int .i64 d], .int .i64 _]) (by simp [results, Tryd.results24, go_sem, yy]; rfl) rfl ⟨_, _, _, _, rfl, ?_⟩
      (repeat' (first | (with_reducible assumption) | (with_reducible exact Below.refl _ _) | (with_reducible refine bdN ?_ _) | (with_reducible refine Below.alloc ?_ ?_ _) | (with_reducible refine Below.drew ?_) | (with_reducible refine Below.setCell ?_ ?_ _) | go_size))
end Go.Proofs.YtfgljffmokehfaaDoor
