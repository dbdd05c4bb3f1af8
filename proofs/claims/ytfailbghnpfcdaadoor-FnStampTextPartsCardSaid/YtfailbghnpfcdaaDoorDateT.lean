/- Contracts of the text of a date in a form, by the program and by the reference. Conditions: there is such a date; the program's table of the months' days stands in memory ('Tab'). -/
import Derived.Test.YtfailbghnpfcdaaDoorJoin
namespace Go.Proofs.YtfailbghnpfcdaaDoor
set_option linter.unusedSimpArgs false
set_option linter.unusedVariables false
open Go.RowKit DN

theorem vd_bd {y m d : Int} (h : vd y m d = true) : 1 ≤ y ∧ y ≤ 9999 ∧ 1 ≤ m ∧ m ≤ 12 ∧ 1 ≤ d ∧ d ≤ 31 := by
  have a := vd_iff.1 h
  have b := md_bd y m
  omega
set_option maxHeartbeats 4000000 in
theorem monthParts (y m d : Int) (w : World) (hv : vd y m d = true) : Calls Tryd.prog 100 #[.agg #[], .agg #[.int .i64 y, .int .i64 m, .int .i64 d]] w (Parts w [.string (dgS 4 y), .string (dgS 2 m), .string (dgS 2 d)]) := by
  obtain ⟨v1, v2, v3, v4, v5, v6⟩ := vd_bd hv
  clear hv
  go_enter Tryd.func100, Tryd.ntmps100
  go_wp2_with fail
  go_region_held3 (fun w' => w'.cell? ⟨w.heap.size+1, 0, none⟩ = some (.int .i64 y) ∧ w'.cell? ⟨w.heap.size+1, 1, none⟩ = some (.int .i64 m) ∧ w'.cell? ⟨w.heap.size+1, 2, none⟩ = some (.int .i64 d)) (((repeat' (with_reducible refine And.intro ?_ ?_)) <;> (first | (with_reducible assumption) | (go_simp; done) | (repeat' (first | (with_reducible assumption) | (with_reducible refine kA _ ?_) | (with_reducible refine kD ?_) | (with_reducible refine kS _ ?_ ?_) | go_size | (go_simp; done))))))
    (first
      | (go_at_call 40; (with_reducible refine (digits_4 y _ ?a1 ?b1).mono ?_); (case a1 => omega); (case b1 => omega); rintro e w1 ⟨rfl, bw1⟩; have sw1 := bw1.size; (try simp at sw1); have Aw1 : Below w.heap.size w w1 := Below.trans (by (repeat' (first | (with_reducible assumption) | (with_reducible exact Below.refl _ _) | (with_reducible refine bdN ?_ _) | (with_reducible refine Below.alloc ?_ ?_ _) | (with_reducible refine Below.drew ?_) | (with_reducible refine Below.setCell ?_ ?_ _) | go_size))) (bw1.mono (by go_size)); have lw1_0 : w.heap.size+1 < w1.heap.size := (by go_size); have zw1_wH1 : CellsAt w1 (w.heap.size+1) 0 [.int .i64 y, .int .i64 m, .int .i64 d] := cells_keep (by (simp only [CellsAt]; (first | (go_simp; done) | ((repeat' (with_reducible refine And.intro ?_ ?_)) <;> (repeat' (first | (with_reducible assumption) | (with_reducible exact trivial) | (with_reducible refine kA _ ?_) | (with_reducible refine kD ?_) | (with_reducible refine kS _ ?_ ?_) | (with_reducible refine fA _ ?_ ?_) | (with_reducible refine fD ?_) | (with_reducible refine fS _ ?_) | go_size | (go_simp; done))))))) (fun o => bw1.cell (p := ⟨_, o, none⟩) (by go_size)) (fun o => bw1.frozen (p := ⟨_, o, none⟩) (by go_size)); simp only [CellsAt] at zw1_wH1; clear bw1)
      | (go_at_call 40; (with_reducible refine (digits_2 m _ ?a2 ?b2).mono ?_); (case a2 => omega); (case b2 => omega); rintro e w2 ⟨rfl, bw2⟩; have sw2 := bw2.size; (try simp at sw2); have Aw2 : Below w.heap.size w w2 := Below.trans (by (repeat' (first | (with_reducible assumption) | (with_reducible exact Below.refl _ _) | (with_reducible refine bdN ?_ _) | (with_reducible refine Below.alloc ?_ ?_ _) | (with_reducible refine Below.drew ?_) | (with_reducible refine Below.setCell ?_ ?_ _) | go_size))) (bw2.mono (by go_size)); have lw2_0 : w.heap.size+1 < w2.heap.size := (by go_size); have zw2_wH1 : CellsAt w2 (w.heap.size+1) 0 [.int .i64 y, .int .i64 m, .int .i64 d] := cells_keep (by (simp only [CellsAt]; (first | (go_simp; done) | ((repeat' (with_reducible refine And.intro ?_ ?_)) <;> (repeat' (first | (with_reducible assumption) | (with_reducible exact trivial) | (with_reducible refine kA _ ?_) | (with_reducible refine kD ?_) | (with_reducible refine kS _ ?_ ?_) | (with_reducible refine fA _ ?_ ?_) | (with_reducible refine fD ?_) | (with_reducible refine fS _ ?_) | go_size | (go_simp; done))))))) (fun o => bw2.cell (p := ⟨_, o, none⟩) (by go_size)) (fun o => bw2.frozen (p := ⟨_, o, none⟩) (by go_size)); simp only [CellsAt] at zw2_wH1; clear zw1_wH1; clear bw2)
      | (go_at_call 40; (with_reducible refine (digits_2 d _ ?a3 ?b3).mono ?_); (case a3 => omega); (case b3 => omega); rintro e w3 ⟨rfl, bw3⟩; have sw3 := bw3.size; (try simp at sw3); have Aw3 : Below w.heap.size w w3 := Below.trans (by (repeat' (first | (with_reducible assumption) | (with_reducible exact Below.refl _ _) | (with_reducible refine bdN ?_ _) | (with_reducible refine Below.alloc ?_ ?_ _) | (with_reducible refine Below.drew ?_) | (with_reducible refine Below.setCell ?_ ?_ _) | go_size))) (bw3.mono (by go_size)); have lw3_0 : w.heap.size+1 < w3.heap.size := (by go_size); have zw3_wH1 : CellsAt w3 (w.heap.size+1) 0 [.int .i64 y, .int .i64 m, .int .i64 d] := cells_keep (by (simp only [CellsAt]; (first | (go_simp; done) | ((repeat' (with_reducible refine And.intro ?_ ?_)) <;> (repeat' (first | (with_reducible assumption) | (with_reducible exact trivial) | (with_reducible refine kA _ ?_) | (with_reducible refine kD ?_) | (with_reducible refine kS _ ?_ ?_) | (with_reducible refine fA _ ?_ ?_) | (with_reducible refine fD ?_) | (with_reducible refine fS _ ?_) | go_size | (go_simp; done))))))) (fun o => bw3.cell (p := ⟨_, o, none⟩) (by go_size)) (fun o => bw3.frozen (p := ⟨_, o, none⟩) (by go_size)); simp only [CellsAt] at zw3_wH1; clear zw2_wH1; clear bw3)
    )
  all_goals
    go_wp2_with fail
    go_ret
    exact ⟨_, _, rfl, by go_size, by (simp only [CellsAt]; (first | (go_simp; done) | ((repeat' (with_reducible refine And.intro ?_ ?_)) <;> (repeat' (first | (with_reducible assumption) | (with_reducible exact trivial) | (with_reducible refine kA _ ?_) | (with_reducible refine kD ?_) | (with_reducible refine kS _ ?_ ?_) | (with_reducible refine fA _ ?_ ?_) | (with_reducible refine fD ?_) | (with_reducible refine fS _ ?_) | go_size | (go_simp; done)))))), by (repeat' (first | (with_reducible assumption) | (with_reducible exact Below.refl _ _) | (with_reducible refine bdN ?_ _) | (with_reducible refine Below.alloc ?_ ?_ _) | (with_reducible refine Below.drew ?_) | (with_reducible refine Below.setCell ?_ ?_ _) | go_size))⟩
theorem ordB_i (y m d : Int) (w : World) (T : Tab w) (h : vd y m d = true) : Calls Tryd.prog 54 #[.agg #[.int .i64 y, .int .i64 m, .int .i64 d]] w fun e w' => e = .returned (.int .i64 (mc y m + d)) ∧ Below w.heap.size w w' :=
  (ord_i y m d w T h).mono fun e w' ⟨he, hw⟩ => ⟨he, by rw [hw]; exact (Below.refl _ _).alloc (Nat.le_refl _) _⟩
set_option maxHeartbeats 4000000 in
theorem dayParts (y m d : Int) (w : World) (T : Tab w) (hv : vd y m d = true) : Calls Tryd.prog 106 #[.agg #[], .agg #[.int .i64 y, .int .i64 m, .int .i64 d]] w (Parts w [.string (dgS 4 y), .string (dgS 3 (mc y m + d))]) := by
  obtain ⟨v1, v2, v3, v4, v5, v6⟩ := vd_bd hv
  have O := Lib.hid (fun w T => ordB_i y m d w T hv)
  obtain ⟨m1, m2⟩ := mc_bd y m v3 (by omega)
  have T0 := Lib.hid T
  clear hv T
  generalize mc y m = q at *
  go_enter Tryd.func106, Tryd.ntmps106
  go_wp2_with fail
  go_region_held3 (fun w' => w'.cell? ⟨w.heap.size+1, 0, none⟩ = some (.int .i64 y) ∧ w'.cell? ⟨w.heap.size+1, 1, none⟩ = some (.int .i64 m) ∧ w'.cell? ⟨w.heap.size+1, 2, none⟩ = some (.int .i64 d)) (((repeat' (with_reducible refine And.intro ?_ ?_)) <;> (first | (with_reducible assumption) | (go_simp; done) | (repeat' (first | (with_reducible assumption) | (with_reducible refine kA _ ?_) | (with_reducible refine kD ?_) | (with_reducible refine kS _ ?_ ?_) | go_size | (go_simp; done))))))
    (first
      | (go_at_call 40; (with_reducible refine (digits_4 y _ ?a1 ?b1).mono ?_); (case a1 => omega); (case b1 => omega); rintro e w1 ⟨rfl, bw1⟩; have sw1 := bw1.size; (try simp at sw1); have Aw1 : Below w.heap.size w w1 := Below.trans (by (repeat' (first | (with_reducible assumption) | (with_reducible exact Below.refl _ _) | (with_reducible refine bdN ?_ _) | (with_reducible refine Below.alloc ?_ ?_ _) | (with_reducible refine Below.drew ?_) | (with_reducible refine Below.setCell ?_ ?_ _) | go_size))) (bw1.mono (by go_size)); have Tw1 := Lib.hid (tab_keep (by (repeat' (first | (with_reducible exact T0.out) | (with_reducible assumption) | (with_reducible refine tab_alloc ?_ _) | (with_reducible refine tab_drewN ?_ _) | (with_reducible refine tab_drew ?_) | (with_reducible refine tab_set ?_ ?_ _) | go_size))) bw1); have lw1_0 : w.heap.size+1 < w1.heap.size := (by go_size); have zw1_wH1 : CellsAt w1 (w.heap.size+1) 0 [.int .i64 y, .int .i64 m, .int .i64 d] := cells_keep (by (simp only [CellsAt]; (first | (go_simp; done) | ((repeat' (with_reducible refine And.intro ?_ ?_)) <;> (repeat' (first | (with_reducible assumption) | (with_reducible exact trivial) | (with_reducible refine kA _ ?_) | (with_reducible refine kD ?_) | (with_reducible refine kS _ ?_ ?_) | (with_reducible refine fA _ ?_ ?_) | (with_reducible refine fD ?_) | (with_reducible refine fS _ ?_) | go_size | (go_simp; done))))))) (fun o => bw1.cell (p := ⟨_, o, none⟩) (by go_size)) (fun o => bw1.frozen (p := ⟨_, o, none⟩) (by go_size)); simp only [CellsAt] at zw1_wH1; clear bw1)
      | (go_at_call 54; (with_reducible refine (O.out _ ?hT).mono ?_); (case hT => (repeat' (first | (with_reducible exact Tw1.out) | (with_reducible assumption) | (with_reducible refine tab_alloc ?_ _) | (with_reducible refine tab_drewN ?_ _) | (with_reducible refine tab_drew ?_) | (with_reducible refine tab_set ?_ ?_ _) | go_size))); rintro e w2 ⟨rfl, bw2⟩; have sw2 := bw2.size; (try simp at sw2); have Aw2 : Below w.heap.size w w2 := Below.trans (by (repeat' (first | (with_reducible assumption) | (with_reducible exact Below.refl _ _) | (with_reducible refine bdN ?_ _) | (with_reducible refine Below.alloc ?_ ?_ _) | (with_reducible refine Below.drew ?_) | (with_reducible refine Below.setCell ?_ ?_ _) | go_size))) (bw2.mono (by go_size)); have Tw2 := Lib.hid (tab_keep (by (repeat' (first | (with_reducible exact Tw1.out) | (with_reducible assumption) | (with_reducible refine tab_alloc ?_ _) | (with_reducible refine tab_drewN ?_ _) | (with_reducible refine tab_drew ?_) | (with_reducible refine tab_set ?_ ?_ _) | go_size))) bw2); have lw2_0 : w.heap.size+1 < w2.heap.size := (by go_size); have zw2_wH1 : CellsAt w2 (w.heap.size+1) 0 [.int .i64 y, .int .i64 m, .int .i64 d] := cells_keep (by (simp only [CellsAt]; (first | (go_simp; done) | ((repeat' (with_reducible refine And.intro ?_ ?_)) <;> (repeat' (first | (with_reducible assumption) | (with_reducible exact trivial) | (with_reducible refine kA _ ?_) | (with_reducible refine kD ?_) | (with_reducible refine kS _ ?_ ?_) | (with_reducible refine fA _ ?_ ?_) | (with_reducible refine fD ?_) | (with_reducible refine fS _ ?_) | go_size | (go_simp; done))))))) (fun o => bw2.cell (p := ⟨_, o, none⟩) (by go_size)) (fun o => bw2.frozen (p := ⟨_, o, none⟩) (by go_size)); simp only [CellsAt] at zw2_wH1; clear zw1_wH1; clear bw2)
      | (go_at_call 40; (with_reducible refine (digits_3 (q + d) _ ?a3 ?b3).mono ?_); (case a3 => omega); (case b3 => omega); rintro e w3 ⟨rfl, bw3⟩; have sw3 := bw3.size; (try simp at sw3); have Aw3 : Below w.heap.size w w3 := Below.trans (by (repeat' (first | (with_reducible assumption) | (with_reducible exact Below.refl _ _) | (with_reducible refine bdN ?_ _) | (with_reducible refine Below.alloc ?_ ?_ _) | (with_reducible refine Below.drew ?_) | (with_reducible refine Below.setCell ?_ ?_ _) | go_size))) (bw3.mono (by go_size)); have Tw3 := Lib.hid (tab_keep (by (repeat' (first | (with_reducible exact Tw2.out) | (with_reducible assumption) | (with_reducible refine tab_alloc ?_ _) | (with_reducible refine tab_drewN ?_ _) | (with_reducible refine tab_drew ?_) | (with_reducible refine tab_set ?_ ?_ _) | go_size))) bw3); have lw3_0 : w.heap.size+1 < w3.heap.size := (by go_size); have zw3_wH1 : CellsAt w3 (w.heap.size+1) 0 [.int .i64 y, .int .i64 m, .int .i64 d] := cells_keep (by (simp only [CellsAt]; (first | (go_simp; done) | ((repeat' (with_reducible refine And.intro ?_ ?_)) <;> (repeat' (first | (with_reducible assumption) | (with_reducible exact trivial) | (with_reducible refine kA _ ?_) | (with_reducible refine kD ?_) | (with_reducible refine kS _ ?_ ?_) | (with_reducible refine fA _ ?_ ?_) | (with_reducible refine fD ?_) | (with_reducible refine fS _ ?_) | go_size | (go_simp; done))))))) (fun o => bw3.cell (p := ⟨_, o, none⟩) (by go_size)) (fun o => bw3.frozen (p := ⟨_, o, none⟩) (by go_size)); simp only [CellsAt] at zw3_wH1; clear zw2_wH1; clear bw3)
    )
  all_goals
    go_wp2_with fail
    go_ret
    exact ⟨_, _, rfl, by go_size, by (simp only [CellsAt]; (first | (go_simp; done) | ((repeat' (with_reducible refine And.intro ?_ ?_)) <;> (repeat' (first | (with_reducible assumption) | (with_reducible exact trivial) | (with_reducible refine kA _ ?_) | (with_reducible refine kD ?_) | (with_reducible refine kS _ ?_ ?_) | (with_reducible refine fA _ ?_ ?_) | (with_reducible refine fD ?_) | (with_reducible refine fS _ ?_) | go_size | (go_simp; done)))))), by (repeat' (first | (with_reducible assumption) | (with_reducible exact Below.refl _ _) | (with_reducible refine bdN ?_ _) | (with_reducible refine Below.alloc ?_ ?_ _) | (with_reducible refine Below.drew ?_) | (with_reducible refine Below.setCell ?_ ?_ _) | go_size))⟩
set_option maxHeartbeats 4000000 in
theorem weekParts (y m d Y mm dd : Int) (w : World) (T : Tab w) (hv : vd y m d = true) (h : IsD (dn y m d - dn y m d % 7 + 3) Y mm dd) : Calls Tryd.prog 102 #[.agg #[], .agg #[.int .i64 y, .int .i64 m, .int .i64 d]] w (Parts w [.string (dgS 4 Y), .string (⟨#[87]⟩ ++ dgS 2 ((dn y m d - dn y m d % 7 + 3 - yb Y) / 7 + 1)), .string (dgS 1 (dn y m d % 7 + 1))]) := by
  have N := Lib.hid (fun w T => num_i y m d w T hv)
  obtain ⟨n1, n2⟩ := dn_bd hv
  obtain ⟨y1, y2, y3, y4⟩ := isD_year h
  generalize dn y m d = n at *
  have K := Lib.hid (fun w T => weekAt_i n Y mm dd w T n1 n2 h)
  have T0 := Lib.hid T
  clear hv T h
  have e1 : 0 ≤ (n - n % 7 + 3 - yb Y) / 7 + 1 := by omega
  have e2 : (n - n % 7 + 3 - yb Y) / 7 + 1 ≤ 1000000 := by have := yb_succ Y y1; have := lpI_01 Y; omega
  have e3 : 0 ≤ n % 7 + 1 := by omega
  have e4 : n % 7 + 1 ≤ 7 := by omega
  generalize (n - n % 7 + 3 - yb Y) / 7 + 1 = W at *
  generalize n % 7 + 1 = D at *
  clear y3 y4
  have sz := dgS_size 2 W
  go_enter Tryd.func102, Tryd.ntmps102
  go_wp2_with fail
  refine (N.out _ (by (repeat' (first | (with_reducible exact T0.out) | (with_reducible assumption) | (with_reducible refine tab_alloc ?_ _) | (with_reducible refine tab_drewN ?_ _) | (with_reducible refine tab_drew ?_) | (with_reducible refine tab_set ?_ ?_ _) | go_size)))).mono ?_
  rintro e w1 ⟨rfl, bw1⟩
  have sw1 := bw1.size
  (try simp at sw1)
  have Aw1 : Below w.heap.size w w1 := Below.trans (by (repeat' (first | (with_reducible assumption) | (with_reducible exact Below.refl _ _) | (with_reducible refine bdN ?_ _) | (with_reducible refine Below.alloc ?_ ?_ _) | (with_reducible refine Below.drew ?_) | (with_reducible refine Below.setCell ?_ ?_ _) | go_size))) (bw1.mono (by go_size))
  have Tw1 := Lib.hid (tab_keep (by (repeat' (first | (with_reducible exact T0.out) | (with_reducible assumption) | (with_reducible refine tab_alloc ?_ _) | (with_reducible refine tab_drewN ?_ _) | (with_reducible refine tab_drew ?_) | (with_reducible refine tab_set ?_ ?_ _) | go_size))) bw1)
  have lw1_0 : w.heap.size+1 < w1.heap.size := (by go_size)
  have zw1_wH1 : CellsAt w1 (w.heap.size+1) 0 [.int .i64 y, .int .i64 m, .int .i64 d] := cells_keep (by (simp only [CellsAt]; (first | (go_simp; done) | ((repeat' (with_reducible refine And.intro ?_ ?_)) <;> (repeat' (first | (with_reducible assumption) | (with_reducible exact trivial) | (with_reducible refine kA _ ?_) | (with_reducible refine kD ?_) | (with_reducible refine kS _ ?_ ?_) | (with_reducible refine fA _ ?_ ?_) | (with_reducible refine fD ?_) | (with_reducible refine fS _ ?_) | go_size | (go_simp; done))))))) (fun o => bw1.cell (p := ⟨_, o, none⟩) (by go_size)) (fun o => bw1.frozen (p := ⟨_, o, none⟩) (by go_size))
  simp only [CellsAt] at zw1_wH1
  clear bw1
  go_wp2_with fail
  refine (K.out _ (by (repeat' (first | (with_reducible exact Tw1.out) | (with_reducible assumption) | (with_reducible refine tab_alloc ?_ _) | (with_reducible refine tab_drewN ?_ _) | (with_reducible refine tab_drew ?_) | (with_reducible refine tab_set ?_ ?_ _) | go_size)))).mono ?_
  rintro e w2 ⟨rfl, bw2⟩
  have sw2 := bw2.size
  (try simp at sw2)
  have Aw2 : Below w.heap.size w w2 := Below.trans (by (repeat' (first | (with_reducible assumption) | (with_reducible exact Below.refl _ _) | (with_reducible refine bdN ?_ _) | (with_reducible refine Below.alloc ?_ ?_ _) | (with_reducible refine Below.drew ?_) | (with_reducible refine Below.setCell ?_ ?_ _) | go_size))) (bw2.mono (by go_size))
  have Tw2 := Lib.hid (tab_keep (by (repeat' (first | (with_reducible exact Tw1.out) | (with_reducible assumption) | (with_reducible refine tab_alloc ?_ _) | (with_reducible refine tab_drewN ?_ _) | (with_reducible refine tab_drew ?_) | (with_reducible refine tab_set ?_ ?_ _) | go_size))) bw2)
  have lw2_0 : w.heap.size+1 < w2.heap.size := (by go_size)
  have zw2_wH1 : CellsAt w2 (w.heap.size+1) 0 [.int .i64 y, .int .i64 m, .int .i64 d] := cells_keep (by (simp only [CellsAt]; (first | (go_simp; done) | ((repeat' (with_reducible refine And.intro ?_ ?_)) <;> (repeat' (first | (with_reducible assumption) | (with_reducible exact trivial) | (with_reducible refine kA _ ?_) | (with_reducible refine kD ?_) | (with_reducible refine kS _ ?_ ?_) | (with_reducible refine fA _ ?_ ?_) | (with_reducible refine fD ?_) | (with_reducible refine fS _ ?_) | go_size | (go_simp; done))))))) (fun o => bw2.cell (p := ⟨_, o, none⟩) (by go_size)) (fun o => bw2.frozen (p := ⟨_, o, none⟩) (by go_size))
  simp only [CellsAt] at zw2_wH1
  clear zw1_wH1
  clear bw2
  go_wp2_with fail
  go_region_held3 (fun w' => w'.cell? ⟨w2.heap.size, 0, none⟩ = some (.int .i64 Y) ∧ w'.cell? ⟨w2.heap.size, 1, none⟩ = some (.int .i64 W) ∧ w'.cell? ⟨w2.heap.size, 2, none⟩ = some (.int .i64 D)) (((repeat' (with_reducible refine And.intro ?_ ?_)) <;> (first | (with_reducible assumption) | (go_simp; done) | (repeat' (first | (with_reducible assumption) | (with_reducible refine kA _ ?_) | (with_reducible refine kD ?_) | (with_reducible refine kS _ ?_ ?_) | go_size | (go_simp; done))))))
    (first
      | (go_at_call 40; (with_reducible refine (digits_4 Y _ ?a1 ?b1).mono ?_); (case a1 => omega); (case b1 => omega); rintro e w3 ⟨rfl, bw3⟩; have sw3 := bw3.size; (try simp at sw3); have Aw3 : Below w.heap.size w w3 := Below.trans (by (repeat' (first | (with_reducible assumption) | (with_reducible exact Below.refl _ _) | (with_reducible refine bdN ?_ _) | (with_reducible refine Below.alloc ?_ ?_ _) | (with_reducible refine Below.drew ?_) | (with_reducible refine Below.setCell ?_ ?_ _) | go_size))) (bw3.mono (by go_size)); have Tw3 := Lib.hid (tab_keep (by (repeat' (first | (with_reducible exact Tw2.out) | (with_reducible assumption) | (with_reducible refine tab_alloc ?_ _) | (with_reducible refine tab_drewN ?_ _) | (with_reducible refine tab_drew ?_) | (with_reducible refine tab_set ?_ ?_ _) | go_size))) bw3); have lw3_0 : w.heap.size+1 < w3.heap.size := (by go_size); have zw3_wH1 : CellsAt w3 (w.heap.size+1) 0 [.int .i64 y, .int .i64 m, .int .i64 d] := cells_keep (by (simp only [CellsAt]; (first | (go_simp; done) | ((repeat' (with_reducible refine And.intro ?_ ?_)) <;> (repeat' (first | (with_reducible assumption) | (with_reducible exact trivial) | (with_reducible refine kA _ ?_) | (with_reducible refine kD ?_) | (with_reducible refine kS _ ?_ ?_) | (with_reducible refine fA _ ?_ ?_) | (with_reducible refine fD ?_) | (with_reducible refine fS _ ?_) | go_size | (go_simp; done))))))) (fun o => bw3.cell (p := ⟨_, o, none⟩) (by go_size)) (fun o => bw3.frozen (p := ⟨_, o, none⟩) (by go_size)); have lw3_1 : w2.heap.size < w3.heap.size := (by go_size); have zw3_w2H : CellsAt w3 (w2.heap.size) 0 [.int .i64 Y, .int .i64 W, .int .i64 D] := cells_keep (by (simp only [CellsAt]; (first | (go_simp; done) | ((repeat' (with_reducible refine And.intro ?_ ?_)) <;> (repeat' (first | (with_reducible assumption) | (with_reducible exact trivial) | (with_reducible refine kA _ ?_) | (with_reducible refine kD ?_) | (with_reducible refine kS _ ?_ ?_) | (with_reducible refine fA _ ?_ ?_) | (with_reducible refine fD ?_) | (with_reducible refine fS _ ?_) | go_size | (go_simp; done))))))) (fun o => bw3.cell (p := ⟨_, o, none⟩) (by go_size)) (fun o => bw3.frozen (p := ⟨_, o, none⟩) (by go_size)); simp only [CellsAt] at zw3_wH1; simp only [CellsAt] at zw3_w2H; clear zw2_wH1; clear bw3)
      | (go_at_call 40; (with_reducible refine (digits_2 W _ ?a2 ?b2).mono ?_); (case a2 => omega); (case b2 => omega); rintro e w4 ⟨rfl, bw4⟩; have sw4 := bw4.size; (try simp at sw4); have Aw4 : Below w.heap.size w w4 := Below.trans (by (repeat' (first | (with_reducible assumption) | (with_reducible exact Below.refl _ _) | (with_reducible refine bdN ?_ _) | (with_reducible refine Below.alloc ?_ ?_ _) | (with_reducible refine Below.drew ?_) | (with_reducible refine Below.setCell ?_ ?_ _) | go_size))) (bw4.mono (by go_size)); have Tw4 := Lib.hid (tab_keep (by (repeat' (first | (with_reducible exact Tw3.out) | (with_reducible assumption) | (with_reducible refine tab_alloc ?_ _) | (with_reducible refine tab_drewN ?_ _) | (with_reducible refine tab_drew ?_) | (with_reducible refine tab_set ?_ ?_ _) | go_size))) bw4); have lw4_0 : w.heap.size+1 < w4.heap.size := (by go_size); have zw4_wH1 : CellsAt w4 (w.heap.size+1) 0 [.int .i64 y, .int .i64 m, .int .i64 d] := cells_keep (by (simp only [CellsAt]; (first | (go_simp; done) | ((repeat' (with_reducible refine And.intro ?_ ?_)) <;> (repeat' (first | (with_reducible assumption) | (with_reducible exact trivial) | (with_reducible refine kA _ ?_) | (with_reducible refine kD ?_) | (with_reducible refine kS _ ?_ ?_) | (with_reducible refine fA _ ?_ ?_) | (with_reducible refine fD ?_) | (with_reducible refine fS _ ?_) | go_size | (go_simp; done))))))) (fun o => bw4.cell (p := ⟨_, o, none⟩) (by go_size)) (fun o => bw4.frozen (p := ⟨_, o, none⟩) (by go_size)); have lw4_1 : w2.heap.size < w4.heap.size := (by go_size); have zw4_w2H : CellsAt w4 (w2.heap.size) 0 [.int .i64 Y, .int .i64 W, .int .i64 D] := cells_keep (by (simp only [CellsAt]; (first | (go_simp; done) | ((repeat' (with_reducible refine And.intro ?_ ?_)) <;> (repeat' (first | (with_reducible assumption) | (with_reducible exact trivial) | (with_reducible refine kA _ ?_) | (with_reducible refine kD ?_) | (with_reducible refine kS _ ?_ ?_) | (with_reducible refine fA _ ?_ ?_) | (with_reducible refine fD ?_) | (with_reducible refine fS _ ?_) | go_size | (go_simp; done))))))) (fun o => bw4.cell (p := ⟨_, o, none⟩) (by go_size)) (fun o => bw4.frozen (p := ⟨_, o, none⟩) (by go_size)); simp only [CellsAt] at zw4_wH1; simp only [CellsAt] at zw4_w2H; clear zw3_wH1 zw3_w2H; clear bw4)
      | (go_at_call 40; (with_reducible refine (digits_1 D _ ?a3 ?b3).mono ?_); (case a3 => omega); (case b3 => omega); rintro e w5 ⟨rfl, bw5⟩; have sw5 := bw5.size; (try simp at sw5); have Aw5 : Below w.heap.size w w5 := Below.trans (by (repeat' (first | (with_reducible assumption) | (with_reducible exact Below.refl _ _) | (with_reducible refine bdN ?_ _) | (with_reducible refine Below.alloc ?_ ?_ _) | (with_reducible refine Below.drew ?_) | (with_reducible refine Below.setCell ?_ ?_ _) | go_size))) (bw5.mono (by go_size)); have Tw5 := Lib.hid (tab_keep (by (repeat' (first | (with_reducible exact Tw4.out) | (with_reducible assumption) | (with_reducible refine tab_alloc ?_ _) | (with_reducible refine tab_drewN ?_ _) | (with_reducible refine tab_drew ?_) | (with_reducible refine tab_set ?_ ?_ _) | go_size))) bw5); have lw5_0 : w.heap.size+1 < w5.heap.size := (by go_size); have zw5_wH1 : CellsAt w5 (w.heap.size+1) 0 [.int .i64 y, .int .i64 m, .int .i64 d] := cells_keep (by (simp only [CellsAt]; (first | (go_simp; done) | ((repeat' (with_reducible refine And.intro ?_ ?_)) <;> (repeat' (first | (with_reducible assumption) | (with_reducible exact trivial) | (with_reducible refine kA _ ?_) | (with_reducible refine kD ?_) | (with_reducible refine kS _ ?_ ?_) | (with_reducible refine fA _ ?_ ?_) | (with_reducible refine fD ?_) | (with_reducible refine fS _ ?_) | go_size | (go_simp; done))))))) (fun o => bw5.cell (p := ⟨_, o, none⟩) (by go_size)) (fun o => bw5.frozen (p := ⟨_, o, none⟩) (by go_size)); have lw5_1 : w2.heap.size < w5.heap.size := (by go_size); have zw5_w2H : CellsAt w5 (w2.heap.size) 0 [.int .i64 Y, .int .i64 W, .int .i64 D] := cells_keep (by (simp only [CellsAt]; (first | (go_simp; done) | ((repeat' (with_reducible refine And.intro ?_ ?_)) <;> (repeat' (first | (with_reducible assumption) | (with_reducible exact trivial) | (with_reducible refine kA _ ?_) | (with_reducible refine kD ?_) | (with_reducible refine kS _ ?_ ?_) | (with_reducible refine fA _ ?_ ?_) | (with_reducible refine fD ?_) | (with_reducible refine fS _ ?_) | go_size | (go_simp; done))))))) (fun o => bw5.cell (p := ⟨_, o, none⟩) (by go_size)) (fun o => bw5.frozen (p := ⟨_, o, none⟩) (by go_size)); simp only [CellsAt] at zw5_wH1; simp only [CellsAt] at zw5_w2H; clear zw4_wH1 zw4_w2H; clear bw5)
    )
  all_goals
    go_wp2_with fail
    go_ret
    exact ⟨_, _, rfl, by go_size, by (simp only [CellsAt]; (first | (go_simp; done) | ((repeat' (with_reducible refine And.intro ?_ ?_)) <;> (repeat' (first | (with_reducible assumption) | (with_reducible exact trivial) | (with_reducible refine kA _ ?_) | (with_reducible refine kD ?_) | (with_reducible refine kS _ ?_ ?_) | (with_reducible refine fA _ ?_ ?_) | (with_reducible refine fD ?_) | (with_reducible refine fS _ ?_) | go_size | (go_simp; done)))))), by (repeat' (first | (with_reducible assumption) | (with_reducible exact Below.refl _ _) | (with_reducible refine bdN ?_ _) | (with_reducible refine Below.alloc ?_ ?_ _) | (with_reducible refine Below.drew ?_) | (with_reducible refine Below.setCell ?_ ?_ _) | go_size))⟩
set_option maxHeartbeats 4000000 in
theorem dateText_m (y m d : Int) (b : Bool) (w : World) (hv : vd y m d = true) : Calls Tryd.prog 27 #[.agg #[.int .i64 y, .int .i64 m, .int .i64 d], .iface 73 (.agg #[]), .bool b] w fun e w' => e = .returned (.string (jn3 b (dgS 4 y) (dgS 2 m) (dgS 2 d))) ∧ Below w.heap.size w w' := by
  have P := Lib.hid (fun w => monthParts y m d w hv)
  clear hv
  have s0 := dgS_size 4 y
  have s1 := dgS_size 2 m
  have s2 := dgS_size 2 d
  generalize dgS 4 y = p0 at *
  generalize dgS 2 m = p1 at *
  generalize dgS 2 d = p2 at *
  cases b
  all_goals
    go_enter Tryd.func27, Tryd.ntmps27
    go_wp2_with fail
    refine (P.out _).mono ?_
    rintro e w1 ⟨x, k, rfl, hx, hc, bw1⟩
    simp only [CellsAt] at hc
    go_wp2_with fail
    refine wp_loop_rounds 4 ?_
    rw [rounds_succ]
    go_wp2_with fail
    rw [rounds_succ]
    go_wp2_with fail
    rw [rounds_succ]
    go_wp2_with fail
    rw [rounds_succ]
    go_wp2_with fail
    go_ret
    exact ⟨ret_str (by simp only [nil_add]; rfl), Below.trans (by (repeat' (first | (with_reducible assumption) | (with_reducible exact Below.refl _ _) | (with_reducible refine bdN ?_ _) | (with_reducible refine Below.alloc ?_ ?_ _) | (with_reducible refine Below.drew ?_) | (with_reducible refine Below.setCell ?_ ?_ _) | go_size))) (bw1.mono (by go_size))⟩
set_option maxHeartbeats 4000000 in
theorem dateText_d (y m d : Int) (b : Bool) (w : World) (T : Tab w) (hv : vd y m d = true) : Calls Tryd.prog 27 #[.agg #[.int .i64 y, .int .i64 m, .int .i64 d], .iface 83 (.agg #[]), .bool b] w fun e w' => e = .returned (.string (jn2 b (dgS 4 y) (dgS 3 (mc y m + d)))) ∧ Below w.heap.size w w' := by
  have P := Lib.hid (fun w T => dayParts y m d w T hv)
  have T0 := Lib.hid T
  clear hv T
  have s0 := dgS_size 4 y
  have s1 := dgS_size 3 (mc y m + d)
  generalize dgS 4 y = p0 at *
  generalize dgS 3 (mc y m + d) = p1 at *
  cases b
  all_goals
    go_enter Tryd.func27, Tryd.ntmps27
    go_wp2_with fail
    refine (P.out _ (tab_alloc T0.out _)).mono ?_
    rintro e w1 ⟨x, k, rfl, hx, hc, bw1⟩
    simp only [CellsAt] at hc
    go_wp2_with fail
    refine wp_loop_rounds 3 ?_
    rw [rounds_succ]
    go_wp2_with fail
    rw [rounds_succ]
    go_wp2_with fail
    rw [rounds_succ]
    go_wp2_with fail
    go_ret
    exact ⟨ret_str (by simp only [nil_add]; rfl), Below.trans (by (repeat' (first | (with_reducible assumption) | (with_reducible exact Below.refl _ _) | (with_reducible refine bdN ?_ _) | (with_reducible refine Below.alloc ?_ ?_ _) | (with_reducible refine Below.drew ?_) | (with_reducible refine Below.setCell ?_ ?_ _) | go_size))) (bw1.mono (by go_size))⟩
set_option maxHeartbeats 4000000 in
theorem dateText_w (y m d Y mm dd : Int) (b : Bool) (w : World) (T : Tab w) (hv : vd y m d = true) (h : IsD (dn y m d - dn y m d % 7 + 3) Y mm dd) : Calls Tryd.prog 27 #[.agg #[.int .i64 y, .int .i64 m, .int .i64 d], .iface 82 (.agg #[]), .bool b] w fun e w' => e = .returned (.string (jn3 b (dgS 4 Y) (⟨#[87]⟩ ++ dgS 2 ((dn y m d - dn y m d % 7 + 3 - yb Y) / 7 + 1)) (dgS 1 (dn y m d % 7 + 1)))) ∧ Below w.heap.size w w' := by
  have P := Lib.hid (fun w T => weekParts y m d Y mm dd w T hv h)
  have T0 := Lib.hid T
  clear hv T h
  have s0 := dgS_size 4 Y
  have s1 : (⟨#[87]⟩ ++ dgS 2 ((dn y m d - dn y m d % 7 + 3 - yb Y) / 7 + 1) : ByteArray).size = 3 := by rw [ByteArray.size_append, dgS_size]; rfl
  have s2 := dgS_size 1 (dn y m d % 7 + 1)
  generalize dgS 4 Y = p0 at *
  generalize (⟨#[87]⟩ ++ dgS 2 ((dn y m d - dn y m d % 7 + 3 - yb Y) / 7 + 1) : ByteArray) = p1 at *
  generalize dgS 1 (dn y m d % 7 + 1) = p2 at *
  cases b
  all_goals
    go_enter Tryd.func27, Tryd.ntmps27
    go_wp2_with fail
    refine (P.out _ (tab_alloc T0.out _)).mono ?_
    rintro e w1 ⟨x, k, rfl, hx, hc, bw1⟩
    simp only [CellsAt] at hc
    go_wp2_with fail
    refine wp_loop_rounds 4 ?_
    rw [rounds_succ]
    go_wp2_with fail
    rw [rounds_succ]
    go_wp2_with fail
    rw [rounds_succ]
    go_wp2_with fail
    rw [rounds_succ]
    go_wp2_with fail
    go_ret
    exact ⟨ret_str (by simp only [nil_add]; rfl), Below.trans (by (repeat' (first | (with_reducible assumption) | (with_reducible exact Below.refl _ _) | (with_reducible refine bdN ?_ _) | (with_reducible refine Below.alloc ?_ ?_ _) | (with_reducible refine Below.drew ?_) | (with_reducible refine Below.setCell ?_ ?_ _) | go_size))) (bw1.mono (by go_size))⟩
end Go.Proofs.YtfailbghnpfcdaaDoor
