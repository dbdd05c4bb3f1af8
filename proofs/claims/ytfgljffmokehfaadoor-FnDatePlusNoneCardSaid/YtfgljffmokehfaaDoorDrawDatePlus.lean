/- What the draws of a date, a period and a direction give: some integers and a truth value; only new blocks change. No condition. -/
import Derived.Test.YtfgljffmokehfaaDoorDrawDate
import Derived.Test.YtfgljffmokehfaaDoorDrawPer
import Derived.Test.YtfgljffmokehfaaDoorKeep
import Derived.Deep.RegionHeld3
namespace Go.Proofs.YtfgljffmokehfaaDoor
set_option linter.unusedSimpArgs false
set_option linter.unusedVariables false
open Go.RowKit

set_option maxHeartbeats 2000000 in
theorem l92Days_any (w : World) (r N : Nat) (hr : Rd w r N) (hN : N ≤ 80000) : Calls Tryd.prog 60 #[.pointer (some ⟨r, 0, none⟩)] w (DrawnPer w r (N + 21)) := by
  have hlt := rd_lt hr
  go_enter Tryd.func60, Tryd.ntmps60
  go_wp2_with fail
  refine (l92Period_any _ r N (by (repeat' (first | (with_reducible assumption) | (with_reducible refine rd_alloc ?_ _) | (with_reducible refine rd_drewN ?_ _) | (with_reducible refine rd_drew ?_) | (with_reducible refine rd_set ?_ ?_ _) | go_size))) (by omega)).mono ?_
  rintro e w1 ⟨y, o, d, u, i, s, rfl, Rw1, Gw1⟩
  have sw1 := Gw1.size
  (try simp at sw1)
  have Ow1 : Onl r w w1 := onl_trans (by (repeat' (first | (with_reducible assumption) | (with_reducible exact onl_refl _ _) | (with_reducible refine onl_drewN ?_ _) | (with_reducible refine onl_drew ?_) | (with_reducible refine onl_alloc ?_ _) | (with_reducible refine onl_set ?_ (Or.inr ?_) _) | go_size))) Gw1
  have lw1_0 : w.heap.size < w1.heap.size := (by go_size)
  have zw1_wH : CellsAt w1 (w.heap.size) 0 [.int .i64 0, .int .i64 0, .int .i64 0, .int .i64 0, .int .i64 0, .int .i64 0] := cells_keep (by (simp only [CellsAt]; (first | (go_simp; done) | ((repeat' (with_reducible refine And.intro ?_ ?_)) <;> (repeat' (first | (with_reducible assumption) | (with_reducible exact trivial) | (with_reducible refine kA _ ?_) | (with_reducible refine kD ?_) | (with_reducible refine kS _ ?_ ?_) | (with_reducible refine fA _ ?_ ?_) | (with_reducible refine fD ?_) | (with_reducible refine fS _ ?_) | go_size | (go_simp; done))))))) (fun o => onl_cell Gw1 (by go_size) (by omega) o) (fun o => onl_frozen Gw1 (by go_size) (by omega) o)
  simp only [CellsAt] at zw1_wH
  go_wp2_with fail
  refine (pick_any _ r (N + 20) _ (by (repeat' (first | (with_reducible assumption) | (with_reducible refine rd_alloc ?_ _) | (with_reducible refine rd_drewN ?_ _) | (with_reducible refine rd_drew ?_) | (with_reducible refine rd_set ?_ ?_ _) | go_size))) (by omega) (by omega) (by omega)).mono ?_
  rintro e w2 ⟨k, hk1, hk2, rfl, Rw2, Gw2⟩
  have sw2 := Gw2.size
  (try simp at sw2)
  have Ow2 : Onl r w w2 := onl_trans (by (repeat' (first | (with_reducible assumption) | (with_reducible exact onl_refl _ _) | (with_reducible refine onl_drewN ?_ _) | (with_reducible refine onl_drew ?_) | (with_reducible refine onl_alloc ?_ _) | (with_reducible refine onl_set ?_ (Or.inr ?_) _) | go_size))) Gw2
  have lw2_0 : w.heap.size < w2.heap.size := (by go_size)
  have zw2_wH : CellsAt w2 (w.heap.size) 0 [.int .i64 0, .int .i64 0, .int .i64 0, .int .i64 0, .int .i64 0, .int .i64 0] := cells_keep (by (simp only [CellsAt]; (first | (go_simp; done) | ((repeat' (with_reducible refine And.intro ?_ ?_)) <;> (repeat' (first | (with_reducible assumption) | (with_reducible exact trivial) | (with_reducible refine kA _ ?_) | (with_reducible refine kD ?_) | (with_reducible refine kS _ ?_ ?_) | (with_reducible refine fA _ ?_ ?_) | (with_reducible refine fD ?_) | (with_reducible refine fS _ ?_) | go_size | (go_simp; done))))))) (fun o => onl_cell Gw2 (by go_size) (by omega) o) (fun o => onl_frozen Gw2 (by go_size) (by omega) o)
  have lw2_1 : w1.heap.size < w2.heap.size := (by go_size)
  have zw2_w1H : CellsAt w2 (w1.heap.size) 0 [.int .i64 y, .int .i64 o, .int .i64 d, .int .i64 u, .int .i64 i, .int .i64 s] := cells_keep (by (simp only [CellsAt]; (first | (go_simp; done) | ((repeat' (with_reducible refine And.intro ?_ ?_)) <;> (repeat' (first | (with_reducible assumption) | (with_reducible exact trivial) | (with_reducible refine kA _ ?_) | (with_reducible refine kD ?_) | (with_reducible refine kS _ ?_ ?_) | (with_reducible refine fA _ ?_ ?_) | (with_reducible refine fD ?_) | (with_reducible refine fS _ ?_) | go_size | (go_simp; done))))))) (fun o => onl_cell Gw2 (by go_size) (by omega) o) (fun o => onl_frozen Gw2 (by go_size) (by omega) o)
  simp only [CellsAt] at zw2_wH
  simp only [CellsAt] at zw2_w1H
  clear zw1_wH
  go_wp2_with fail
  · exact bodyPost_ret (v := .agg #[.int .i64 y, .int .i64 o, .int .i64 d, .int .i64 0, .int .i64 0, .int .i64 0]) (by simp [results, Tryd.results60, go_sem, zw2_wH, zw2_w1H, lw2_0, lw2_1]) rfl ⟨_, _, _, _, _, _, rfl, rd_le (N := N + 20 + 1) (by (repeat' (first | (with_reducible assumption) | (with_reducible refine rd_alloc ?_ _) | (with_reducible refine rd_drewN ?_ _) | (with_reducible refine rd_drew ?_) | (with_reducible refine rd_set ?_ ?_ _) | go_size))) (by omega), by (repeat' (first | (with_reducible assumption) | (with_reducible exact onl_refl _ _) | (with_reducible refine onl_drewN ?_ _) | (with_reducible refine onl_drew ?_) | (with_reducible refine onl_alloc ?_ _) | (with_reducible refine onl_set ?_ (Or.inr ?_) _) | go_size))⟩
  · exact bodyPost_ret (v := .agg #[.int .i64 y, .int .i64 o, .int .i64 d, .int .i64 u, .int .i64 i, .int .i64 s]) (by simp [results, Tryd.results60, go_sem, zw2_wH, zw2_w1H, lw2_0, lw2_1]) rfl ⟨_, _, _, _, _, _, rfl, rd_le (N := N + 20 + 1) (by (repeat' (first | (with_reducible assumption) | (with_reducible refine rd_alloc ?_ _) | (with_reducible refine rd_drewN ?_ _) | (with_reducible refine rd_drew ?_) | (with_reducible refine rd_set ?_ ?_ _) | go_size))) (by omega), by (repeat' (first | (with_reducible assumption) | (with_reducible exact onl_refl _ _) | (with_reducible refine onl_drewN ?_ _) | (with_reducible refine onl_drew ?_) | (with_reducible refine onl_alloc ?_ _) | (with_reducible refine onl_set ?_ (Or.inr ?_) _) | go_size))⟩

/-- a drawn date, period and direction -/
def DrawnDp (w : World) (e : Ending) (w' : World) : Prop := ∃ (y m d py po pd pu pi ps : Int) (back : Bool), e = .returned (.tuple #[.agg #[.int .i64 y, .int .i64 m, .int .i64 d], .agg #[.int .i64 py, .int .i64 po, .int .i64 pd, .int .i64 pu, .int .i64 pi, .int .i64 ps], .bool back]) ∧ Below w.heap.size w w'

set_option maxHeartbeats 4000000 in
theorem DrawDatePlus_any (w0 : World) (a : Option Addr) (len cap : Nat) (zs : List Int) (h : IsRow .u8 w0 a len cap zs) : Calls Tryd.prog 33 #[.slice a len cap] w0 (DrawnDp w0) := by
  have H1 := Lib.hid (isRow_keep h (((Below.refl _ w0).alloc (Nat.le_refl _) (.cells #[.int .i64 0, .int .i64 0, .int .i64 0] 24)).alloc (by simp) (.cells #[.int .i64 0, .int .i64 0, .int .i64 0, .int .i64 0, .int .i64 0, .int .i64 0] 46)))
  clear h
  go_enter Tryd.func33, Tryd.ntmps33
  go_wp2_with fail
  refine (open_any _ _ _ _ _ H1.out).mono ?_
  rintro e w ⟨rfl, R0, bw⟩
  have sw := bw.size
  (try simp at sw)
  have Aw : Below w0.heap.size w0 w := Below.trans (by (repeat' (first | (with_reducible assumption) | (with_reducible exact Below.refl _ _) | (with_reducible refine bdN ?_ _) | (with_reducible refine Below.alloc ?_ ?_ _) | (with_reducible refine Below.drew ?_) | (with_reducible refine Below.setCell ?_ ?_ _) | go_size))) (bw.mono (by go_size))
  have lw_0 : w0.heap.size < w.heap.size := (by go_size)
  have zw_w0H : CellsAt w (w0.heap.size) 0 [.int .i64 0, .int .i64 0, .int .i64 0] := cells_keep (by (simp only [CellsAt]; (first | (go_simp; done) | ((repeat' (with_reducible refine And.intro ?_ ?_)) <;> (repeat' (first | (with_reducible assumption) | (with_reducible exact trivial) | (with_reducible refine kA _ ?_) | (with_reducible refine kD ?_) | (with_reducible refine kS _ ?_ ?_) | (with_reducible refine fA _ ?_ ?_) | (with_reducible refine fD ?_) | (with_reducible refine fS _ ?_) | go_size | (go_simp; done))))))) (fun o => bw.cell (p := ⟨_, o, none⟩) (by go_size)) (fun o => bw.frozen (p := ⟨_, o, none⟩) (by go_size))
  have lw_1 : w0.heap.size+1 < w.heap.size := (by go_size)
  have zw_w0H1 : CellsAt w (w0.heap.size+1) 0 [.int .i64 0, .int .i64 0, .int .i64 0, .int .i64 0, .int .i64 0, .int .i64 0] := cells_keep (by (simp only [CellsAt]; (first | (go_simp; done) | ((repeat' (with_reducible refine And.intro ?_ ?_)) <;> (repeat' (first | (with_reducible assumption) | (with_reducible exact trivial) | (with_reducible refine kA _ ?_) | (with_reducible refine kD ?_) | (with_reducible refine kS _ ?_ ?_) | (with_reducible refine fA _ ?_ ?_) | (with_reducible refine fD ?_) | (with_reducible refine fS _ ?_) | go_size | (go_simp; done))))))) (fun o => bw.cell (p := ⟨_, o, none⟩) (by go_size)) (fun o => bw.frozen (p := ⟨_, o, none⟩) (by go_size))
  simp only [CellsAt] at zw_w0H
  simp only [CellsAt] at zw_w0H1
  clear bw
  (try simp at R0)
  have hlt := rd_lt R0
  obtain ⟨r, hr⟩ : ∃ r, w0.heap.size + 2 = r := ⟨_, rfl⟩
  rw [hr] at R0 hlt
  have HR := Lib.hid hr
  have r1 : w0.heap.size ≤ r := by omega
  have r2_0 : w0.heap.size < r := by omega
  have r2_1 : w0.heap.size+1 < r := by omega
  go_wp2_with fail
  clear hr
  refine (l91Date_any _ r 0 (by (repeat' (first | (with_reducible assumption) | (with_reducible refine rd_alloc ?_ _) | (with_reducible refine rd_drewN ?_ _) | (with_reducible refine rd_drew ?_) | (with_reducible refine rd_set ?_ ?_ _) | go_size))) (by omega)).mono ?_
  rintro e w1 ⟨y, m, d, rfl, Rw1, Gw1⟩
  have sw1 := Gw1.size
  (try simp at sw1)
  have Ow1 : Onl r w w1 := onl_trans (by (repeat' (first | (with_reducible assumption) | (with_reducible exact onl_refl _ _) | (with_reducible refine onl_drewN ?_ _) | (with_reducible refine onl_drew ?_) | (with_reducible refine onl_alloc ?_ _) | (with_reducible refine onl_set ?_ (Or.inr ?_) _) | go_size))) Gw1
  have lw1_0 : w0.heap.size < w1.heap.size := (by go_size)
  have zw1_w0H : CellsAt w1 (w0.heap.size) 0 [.int .i64 0, .int .i64 0, .int .i64 0] := cells_keep (by (simp only [CellsAt]; (first | (go_simp; done) | ((repeat' (with_reducible refine And.intro ?_ ?_)) <;> (repeat' (first | (with_reducible assumption) | (with_reducible exact trivial) | (with_reducible refine kA _ ?_) | (with_reducible refine kD ?_) | (with_reducible refine kS _ ?_ ?_) | (with_reducible refine fA _ ?_ ?_) | (with_reducible refine fD ?_) | (with_reducible refine fS _ ?_) | go_size | (go_simp; done))))))) (fun o => onl_cell Gw1 (by go_size) (by omega) o) (fun o => onl_frozen Gw1 (by go_size) (by omega) o)
  have lw1_1 : w0.heap.size+1 < w1.heap.size := (by go_size)
  have zw1_w0H1 : CellsAt w1 (w0.heap.size+1) 0 [.int .i64 0, .int .i64 0, .int .i64 0, .int .i64 0, .int .i64 0, .int .i64 0] := cells_keep (by (simp only [CellsAt]; (first | (go_simp; done) | ((repeat' (with_reducible refine And.intro ?_ ?_)) <;> (repeat' (first | (with_reducible assumption) | (with_reducible exact trivial) | (with_reducible refine kA _ ?_) | (with_reducible refine kD ?_) | (with_reducible refine kS _ ?_ ?_) | (with_reducible refine fA _ ?_ ?_) | (with_reducible refine fD ?_) | (with_reducible refine fS _ ?_) | go_size | (go_simp; done))))))) (fun o => onl_cell Gw1 (by go_size) (by omega) o) (fun o => onl_frozen Gw1 (by go_size) (by omega) o)
  simp only [CellsAt] at zw1_w0H
  simp only [CellsAt] at zw1_w0H1
  clear zw_w0H zw_w0H1
  go_wp2_with fail
  have n1 : ¬ w1.heap.size = r := by omega
  go_region_held3 (fun w' => w'.cell? ⟨w1.heap.size, 0, none⟩ = some (.int .i64 y) ∧ w'.cell? ⟨w1.heap.size, 1, none⟩ = some (.int .i64 m) ∧ w'.cell? ⟨w1.heap.size, 2, none⟩ = some (.int .i64 d)) (((repeat' (with_reducible refine And.intro ?_ ?_)) <;> (first | (with_reducible assumption) | (go_simp; done) | (repeat' (first | (with_reducible assumption) | (with_reducible refine kA _ ?_) | (with_reducible refine kD ?_) | (with_reducible refine kS _ ?_ ?_) | go_size | (go_simp; done))))))
    (first
      | (go_at_call 60; (with_reducible refine (l92Days_any _ r (0 + 20) ?hR (by omega)).mono ?_); (case hR => (repeat' (first | (with_reducible assumption) | (with_reducible refine rd_alloc ?_ _) | (with_reducible refine rd_drewN ?_ _) | (with_reducible refine rd_drew ?_) | (with_reducible refine rd_set ?_ ?_ _) | go_size))); rintro e w2 ⟨py, po, pd, pu, pi, ps, rfl, Rw2, Gw2⟩; have sw2 := Gw2.size; (try simp at sw2); have Ow2 : Onl r w w2 := onl_trans (by (repeat' (first | (with_reducible assumption) | (with_reducible exact onl_refl _ _) | (with_reducible refine onl_drewN ?_ _) | (with_reducible refine onl_drew ?_) | (with_reducible refine onl_alloc ?_ _) | (with_reducible refine onl_set ?_ (Or.inr ?_) _) | go_size))) Gw2; have lw2_0 : w0.heap.size < w2.heap.size := (by go_size); have zw2_w0H : CellsAt w2 (w0.heap.size) 0 [.int .i64 0, .int .i64 0, .int .i64 0] := cells_keep (by (simp only [CellsAt]; (first | (go_simp; done) | ((repeat' (with_reducible refine And.intro ?_ ?_)) <;> (repeat' (first | (with_reducible assumption) | (with_reducible exact trivial) | (with_reducible refine kA _ ?_) | (with_reducible refine kD ?_) | (with_reducible refine kS _ ?_ ?_) | (with_reducible refine fA _ ?_ ?_) | (with_reducible refine fD ?_) | (with_reducible refine fS _ ?_) | go_size | (go_simp; done))))))) (fun o => onl_cell Gw2 (by go_size) (by omega) o) (fun o => onl_frozen Gw2 (by go_size) (by omega) o); have lw2_1 : w0.heap.size+1 < w2.heap.size := (by go_size); have zw2_w0H1 : CellsAt w2 (w0.heap.size+1) 0 [.int .i64 0, .int .i64 0, .int .i64 0, .int .i64 0, .int .i64 0, .int .i64 0] := cells_keep (by (simp only [CellsAt]; (first | (go_simp; done) | ((repeat' (with_reducible refine And.intro ?_ ?_)) <;> (repeat' (first | (with_reducible assumption) | (with_reducible exact trivial) | (with_reducible refine kA _ ?_) | (with_reducible refine kD ?_) | (with_reducible refine kS _ ?_ ?_) | (with_reducible refine fA _ ?_ ?_) | (with_reducible refine fD ?_) | (with_reducible refine fS _ ?_) | go_size | (go_simp; done))))))) (fun o => onl_cell Gw2 (by go_size) (by omega) o) (fun o => onl_frozen Gw2 (by go_size) (by omega) o); have lw2_2 : w1.heap.size < w2.heap.size := (by go_size); have zw2_w1H : CellsAt w2 (w1.heap.size) 0 [.int .i64 y, .int .i64 m, .int .i64 d] := cells_keep (by (simp only [CellsAt]; (first | (go_simp; done) | ((repeat' (with_reducible refine And.intro ?_ ?_)) <;> (repeat' (first | (with_reducible assumption) | (with_reducible exact trivial) | (with_reducible refine kA _ ?_) | (with_reducible refine kD ?_) | (with_reducible refine kS _ ?_ ?_) | (with_reducible refine fA _ ?_ ?_) | (with_reducible refine fD ?_) | (with_reducible refine fS _ ?_) | go_size | (go_simp; done))))))) (fun o => onl_cell Gw2 (by go_size) (by omega) o) (fun o => onl_frozen Gw2 (by go_size) (by omega) o); simp only [CellsAt] at zw2_w0H; simp only [CellsAt] at zw2_w0H1; simp only [CellsAt] at zw2_w1H; clear zw1_w0H zw1_w0H1)
      | (go_at_call 41; (with_reducible refine (pick_any _ r (0 + 20 + 21) _ ?hR2 (by omega) (by omega) (by omega)).mono ?_); (case hR2 => (repeat' (first | (with_reducible assumption) | (with_reducible refine rd_alloc ?_ _) | (with_reducible refine rd_drewN ?_ _) | (with_reducible refine rd_drew ?_) | (with_reducible refine rd_set ?_ ?_ _) | go_size))); rintro e w3 ⟨k, hk1, hk2, rfl, Rw3, Gw3⟩; have sw3 := Gw3.size; (try simp at sw3); have Ow3 : Onl r w w3 := onl_trans (by (repeat' (first | (with_reducible assumption) | (with_reducible exact onl_refl _ _) | (with_reducible refine onl_drewN ?_ _) | (with_reducible refine onl_drew ?_) | (with_reducible refine onl_alloc ?_ _) | (with_reducible refine onl_set ?_ (Or.inr ?_) _) | go_size))) Gw3; have lw3_0 : w0.heap.size < w3.heap.size := (by go_size); have zw3_w0H : CellsAt w3 (w0.heap.size) 0 [.int .i64 0, .int .i64 0, .int .i64 0] := cells_keep (by (simp only [CellsAt]; (first | (go_simp; done) | ((repeat' (with_reducible refine And.intro ?_ ?_)) <;> (repeat' (first | (with_reducible assumption) | (with_reducible exact trivial) | (with_reducible refine kA _ ?_) | (with_reducible refine kD ?_) | (with_reducible refine kS _ ?_ ?_) | (with_reducible refine fA _ ?_ ?_) | (with_reducible refine fD ?_) | (with_reducible refine fS _ ?_) | go_size | (go_simp; done))))))) (fun o => onl_cell Gw3 (by go_size) (by omega) o) (fun o => onl_frozen Gw3 (by go_size) (by omega) o); have lw3_1 : w0.heap.size+1 < w3.heap.size := (by go_size); have zw3_w0H1 : CellsAt w3 (w0.heap.size+1) 0 [.int .i64 0, .int .i64 0, .int .i64 0, .int .i64 0, .int .i64 0, .int .i64 0] := cells_keep (by (simp only [CellsAt]; (first | (go_simp; done) | ((repeat' (with_reducible refine And.intro ?_ ?_)) <;> (repeat' (first | (with_reducible assumption) | (with_reducible exact trivial) | (with_reducible refine kA _ ?_) | (with_reducible refine kD ?_) | (with_reducible refine kS _ ?_ ?_) | (with_reducible refine fA _ ?_ ?_) | (with_reducible refine fD ?_) | (with_reducible refine fS _ ?_) | go_size | (go_simp; done))))))) (fun o => onl_cell Gw3 (by go_size) (by omega) o) (fun o => onl_frozen Gw3 (by go_size) (by omega) o); have lw3_2 : w1.heap.size < w3.heap.size := (by go_size); have zw3_w1H : CellsAt w3 (w1.heap.size) 0 [.int .i64 y, .int .i64 m, .int .i64 d] := cells_keep (by (simp only [CellsAt]; (first | (go_simp; done) | ((repeat' (with_reducible refine And.intro ?_ ?_)) <;> (repeat' (first | (with_reducible assumption) | (with_reducible exact trivial) | (with_reducible refine kA _ ?_) | (with_reducible refine kD ?_) | (with_reducible refine kS _ ?_ ?_) | (with_reducible refine fA _ ?_ ?_) | (with_reducible refine fD ?_) | (with_reducible refine fS _ ?_) | go_size | (go_simp; done))))))) (fun o => onl_cell Gw3 (by go_size) (by omega) o) (fun o => onl_frozen Gw3 (by go_size) (by omega) o); simp only [CellsAt] at zw3_w0H; simp only [CellsAt] at zw3_w0H1; simp only [CellsAt] at zw3_w1H; clear zw2_w0H zw2_w0H1 zw2_w1H)
    )
  all_goals
    go_wp2_with fail
    have A3 : Below w0.heap.size w0 w3 := Aw.trans (onl_below Ow3 (by omega) Aw.size)
    exact bodyPost_ret (v := .tuple #[.agg #[.int .i64 y, .int .i64 m, .int .i64 d], .agg #[.int .i64 py, .int .i64 po, .int .i64 pd, .int .i64 pu, .int .i64 pi, .int .i64 ps], .bool (k == 0)]) (by simp [results, Tryd.results33, go_sem, zw3_w0H, zw3_w0H1, zw3_w1H, lw3_0, lw3_1, lw3_2]) rfl ⟨_, _, _, _, _, _, _, _, _, _, rfl, by (repeat' (first | (with_reducible assumption) | (with_reducible exact Below.refl _ _) | (with_reducible refine bdN ?_ _) | (with_reducible refine Below.alloc ?_ ?_ _) | (with_reducible refine Below.drew ?_) | (with_reducible refine Below.setCell ?_ ?_ _) | go_size))⟩
end Go.Proofs.YtfgljffmokehfaaDoor
