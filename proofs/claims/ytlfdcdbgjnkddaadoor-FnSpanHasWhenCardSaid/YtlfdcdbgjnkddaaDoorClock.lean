/- Contracts of the functions on times of a day, by the program and by the reference. Conditions: of some the time is valid. -/
import Derived.Test.YtlfdcdbgjnkddaaDoorStampCal
import Derived.Test.YtlfdcdbgjnkddaaDoorKeep
import Derived.Deep.QuietTactic
import Derived.BigQuiet
import Derived.Deep.RegionHeld3
namespace Go.Proofs.YtlfdcdbgjnkddaaDoor
set_option linter.unusedSimpArgs false
set_option linter.unusedVariables false
open Go.RowKit DN

theorem cv_24 {h i s u : Int} (e : h = 24 ∧ i = 0 ∧ s = 0 ∧ u = 0) : cvB h i s u = true := cvB_iff.2 (.inl e)
theorem cv_in {h i s u : Int} (e : ¬ (h = 24 ∧ i = 0 ∧ s = 0 ∧ u = 0)) : cvB h i s u = (inB h 0 23 && (inB i 0 59 && (inB s 0 59 && inB u 0 999))) := by
  unfold cvB inB
  rw [Bool.eq_iff_iff]
  simp only [decide_eq_true_eq, Bool.and_eq_true]
  omega

set_option maxHeartbeats 2000000 in
theorem cv_i (h i s u : Int) (w : World) : Calls Tryd.prog 35 #[.agg #[.int .i64 h, .int .i64 i, .int .i64 s, .int .i64 u]] w fun e w' => e = .returned (.bool (cvB h i s u)) ∧ Below w.heap.size w w' := by
  go_enter Tryd.func35, Tryd.ntmps35
  go_wp2_with (go_at_call 50; (with_reducible refine (within_any _ _ _ _).mono ?_); rintro e w' ⟨rfl, rfl⟩)
  all_goals
    go_ret
    refine ⟨ret_bool ?_, by (repeat' (first | (with_reducible assumption) | (with_reducible exact Below.refl _ _) | (with_reducible refine bdN ?_ _) | (with_reducible refine Below.alloc ?_ ?_ _) | (with_reducible refine Below.drew ?_) | (with_reducible refine Below.setCell ?_ ?_ _) | go_size))⟩
    rw [Bool.eq_iff_iff, cvB_iff]
    simp only [inB, decide_eq_true_eq, Bool.false_eq_true, false_iff, true_iff, Bool.not_eq_true, decide_eq_false_iff_not] at *
    omega
theorem cv_ib (h i s u : Int) (w : World) (b : Bool) (e : cvB h i s u = b) : Calls Tryd.prog 35 #[.agg #[.int .i64 h, .int .i64 i, .int .i64 s, .int .i64 u]] w fun e w' => e = .returned (.bool b) ∧ Below w.heap.size w w' := by
  have c := cv_i h i s u w
  rwa [e] at c

set_option maxHeartbeats 2000000 in
theorem cv_s (h i s u : Int) (w : World) : Calls Tryd.prog 30 #[.agg #[.int .i64 h, .int .i64 i, .int .i64 s, .int .i64 u]] w fun e w' => e = .returned (.bool (cvB h i s u)) ∧ Below w.heap.size w w' := by
  by_cases hb : (0 ≤ h ∧ h ≤ 24) ∧ (0 ≤ i ∧ i ≤ 59) ∧ (0 ≤ s ∧ s ≤ 59) ∧ (0 ≤ u ∧ u ≤ 999)
  · obtain ⟨⟨a1, a2⟩, ⟨b1, b2⟩, ⟨c1, c2⟩, ⟨d1, d2⟩⟩ := hb
    have W1 := Lib.hid (fun w => l6In_any h 0 24 w)
    have W2 := Lib.hid (fun w => l6In_any i 0 59 w)
    have W3 := Lib.hid (fun w => l6In_any s 0 59 w)
    have W4 := Lib.hid (fun w => l6In_any u 0 999 w)
    rw [inB_t a1 a2] at W1
    rw [inB_t b1 b2] at W2
    rw [inB_t c1 c2] at W3
    rw [inB_t d1 d2] at W4
    go_enter Tryd.func30, Tryd.ntmps30
    go_wp2_with fail
    refine (W1.out _).mono ?_
    rintro e w' ⟨rfl, rfl⟩
    go_wp2_with fail
    refine (W2.out _).mono ?_
    rintro e w' ⟨rfl, rfl⟩
    go_wp2_with fail
    refine (W3.out _).mono ?_
    rintro e w' ⟨rfl, rfl⟩
    go_wp2_with fail
    refine (W4.out _).mono ?_
    rintro e w' ⟨rfl, rfl⟩
    go_wp2_with fail
    all_goals
      go_ret
      refine ⟨ret_bool ?_, by (repeat' (first | (with_reducible assumption) | (with_reducible exact Below.refl _ _) | (with_reducible refine bdN ?_ _) | (with_reducible refine Below.alloc ?_ ?_ _) | (with_reducible refine Below.drew ?_) | (with_reducible refine Below.setCell ?_ ?_ _) | go_size))⟩
      rw [Bool.eq_iff_iff, cvB_iff]
      simp
      omega
  · go_enter Tryd.func30, Tryd.ntmps30
    go_wp2_with (go_at_call 31; (with_reducible refine (l6In_any _ _ _ _).mono ?_); rintro e w' ⟨rfl, rfl⟩)
    all_goals
      go_ret
      refine ⟨ret_bool ?_, by (repeat' (first | (with_reducible assumption) | (with_reducible exact Below.refl _ _) | (with_reducible refine bdN ?_ _) | (with_reducible refine Below.alloc ?_ ?_ _) | (with_reducible refine Below.drew ?_) | (with_reducible refine Below.setCell ?_ ?_ _) | go_size))⟩
      rw [Bool.eq_iff_iff, cvB_iff]
      simp only [inB, decide_eq_true_eq, Bool.false_eq_true, false_iff, true_iff, Bool.not_eq_true, decide_eq_false_iff_not, Bool.not_eq_false, Bool.not_true, Bool.not_false, Bool.not_eq_true', Bool.not_eq_false'] at *
      omega
theorem cv_sb (h i s u : Int) (w : World) (b : Bool) (e : cvB h i s u = b) : Calls Tryd.prog 30 #[.agg #[.int .i64 h, .int .i64 i, .int .i64 s, .int .i64 u]] w fun e w' => e = .returned (.bool b) ∧ Below w.heap.size w w' := by
  have c := cv_s h i s u w
  rwa [e] at c

set_option maxHeartbeats 400000 in
theorem millis_i (h i s u : Int) (w : World) (v : cvB h i s u = true) : Calls Tryd.prog 61 #[.agg #[.int .i64 h, .int .i64 i, .int .i64 s, .int .i64 u]] w fun e w' => e = .returned (.int .i64 (ckm h i s u)) ∧ w' = w.alloc (.cells #[.int .i64 h, .int .i64 i, .int .i64 s, .int .i64 u] 30) := by
  obtain ⟨h1, h2, i1, i2, s1, s2, u1, u2⟩ := cvB_bd v
  clear v
  unfold ckm
  go_enter Tryd.func61, Tryd.ntmps61
  go_wp2
  go_ret
  exact ⟨rfl, rfl⟩

set_option maxHeartbeats 400000 in
theorem clockMillis_s (h i s u : Int) (w : World) (v : cvB h i s u = true) : Calls Tryd.prog 33 #[.agg #[.int .i64 h, .int .i64 i, .int .i64 s, .int .i64 u]] w fun e w' => e = .returned (.int .i64 (ckm h i s u)) ∧ Below w.heap.size w w' := by
  obtain ⟨h1, h2, i1, i2, s1, s2, u1, u2⟩ := cvB_bd v
  have V := Lib.hid (fun w => cv_sb h i s u w true v)
  clear v
  have e : ckm h i s u = 1000 * (60 * (60 * h + i) + s) + u := by unfold ckm; omega
  rw [e]
  clear e
  go_enter Tryd.func33, Tryd.ntmps33
  go_wp2_with fail
  refine (V.out _).mono ?_
  rintro e w1 ⟨rfl, bw1⟩
  have sw1 := bw1.size
  (try simp at sw1)
  have Aw1 : Below w.heap.size w w1 := Below.trans (by (repeat' (first | (with_reducible assumption) | (with_reducible exact Below.refl _ _) | (with_reducible refine bdN ?_ _) | (with_reducible refine Below.alloc ?_ ?_ _) | (with_reducible refine Below.drew ?_) | (with_reducible refine Below.setCell ?_ ?_ _) | go_size))) (bw1.mono (by go_size))
  have lw1_0 : w.heap.size < w1.heap.size := (by go_size)
  have zw1_wH : CellsAt w1 (w.heap.size) 0 [.int .i64 h, .int .i64 i, .int .i64 s, .int .i64 u] := cells_keep (by (simp only [CellsAt]; (first | (go_simp; done) | ((repeat' (with_reducible refine And.intro ?_ ?_)) <;> (repeat' (first | (with_reducible assumption) | (with_reducible exact trivial) | (with_reducible refine kA _ ?_) | (with_reducible refine kD ?_) | (with_reducible refine kS _ ?_ ?_) | (with_reducible refine fA _ ?_ ?_) | (with_reducible refine fD ?_) | (with_reducible refine fS _ ?_) | go_size | (go_simp; done))))))) (fun o => bw1.cell (p := ⟨_, o, none⟩) (by go_size)) (fun o => bw1.frozen (p := ⟨_, o, none⟩) (by go_size))
  simp only [CellsAt] at zw1_wH
  clear bw1
  go_wp2_with fail
  go_ret
  exact ⟨rfl, by (repeat' (first | (with_reducible assumption) | (with_reducible exact Below.refl _ _) | (with_reducible refine bdN ?_ _) | (with_reducible refine Below.alloc ?_ ?_ _) | (with_reducible refine Below.drew ?_) | (with_reducible refine Below.setCell ?_ ?_ _) | go_size))⟩

set_option maxHeartbeats 400000 in
theorem l5Of_s (n : Int) (w : World) (h1 : 0 ≤ n) (h2 : n ≤ 86400000) : Calls Tryd.prog 46 #[.int .i64 n] w fun e w' => e = .returned (.agg #[.int .i64 (n / 3600000), .int .i64 (n / 60000 % 60), .int .i64 (n / 1000 % 60), .int .i64 (n % 1000)]) ∧ Below w.heap.size w w' := by
  go_enter Tryd.func46, Tryd.ntmps46
  go_wp2
  go_returns
  exact ⟨rfl, by (repeat' (first | (with_reducible assumption) | (with_reducible exact Below.refl _ _) | (with_reducible refine bdN ?_ _) | (with_reducible refine Below.alloc ?_ ?_ _) | (with_reducible refine Below.drew ?_) | (with_reducible refine Below.setCell ?_ ?_ _) | go_size))⟩
set_option maxHeartbeats 400000 in
theorem offsetValid_any (o : Int) (w : World) : Calls Tryd.prog 36 #[.int .i64 o] w fun e w' => e = .returned (.bool (inB o (-1439) 1439)) ∧ w = w' := by
  go_enter Tryd.func36, Tryd.ntmps36
  go_wp2_with fail
  refine (within_any _ _ _ _).mono ?_
  rintro e w' ⟨rfl, rfl⟩
  go_wp2
  go_ret
  exact ⟨rfl, rfl⟩
set_option maxHeartbeats 400000 in
theorem l12Ok_any (n : Int) (w : World) : Calls Tryd.prog 44 #[.int .i64 n] w fun e w' => e = .returned (.bool (inB n (-86400000) 315537984000000)) ∧ w = w' := by
  go_enter Tryd.func44, Tryd.ntmps44
  go_wp2_with fail
  refine (l6In_any _ _ _ _).mono ?_
  rintro e w' ⟨rfl, rfl⟩
  go_wp2
  go_ret
  exact ⟨rfl, rfl⟩
end Go.Proofs.YtlfdcdbgjnkddaaDoor
