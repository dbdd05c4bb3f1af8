/- Contracts of the functions on times of a day, by the program and by the reference. Conditions: of some the time is valid. -/
import Derived.Test.YtfailbghnpfcdaaDoorStampCal
import Derived.Test.YtfailbghnpfcdaaDoorKeep
import Derived.Deep.QuietTactic
import Derived.BigQuiet
import Derived.Deep.RegionHeld3
namespace Go.Proofs.YtfailbghnpfcdaaDoor
set_option linter.unusedSimpArgs false
set_option linter.unusedVariables false
open Go.RowKit DN

theorem cv_24 {h i s u : Int} (e : h = 24 ∧ i = 0 ∧ s = 0 ∧ u = 0) : cvB h i s u = true := cvB_iff.2 (.inl e)
theorem cv_in {h i s u : Int} (e : ¬ (h = 24 ∧ i = 0 ∧ s = 0 ∧ u = 0)) : cvB h i s u = (inB h 0 23 && (inB i 0 59 && (inB s 0 59 && inB u 0 999))) := by
  unfold cvB inB
  rw [Bool.eq_iff_iff]
  simp only [decide_eq_true_eq, Bool.and_eq_true]
  omega

set_option maxHeartbeats 2000000 in
theorem cv_i (h i s u : Int) (w : World) : Calls Tryd.prog 39 #[.agg #[.int .i64 h, .int .i64 i, .int .i64 s, .int .i64 u]] w fun e w' => e = .returned (.bool (cvB h i s u)) ∧ Below w.heap.size w w' := by
  go_enter Tryd.func39, Tryd.ntmps39
  go_wp2_with (go_at_call 26; (with_reducible refine (within_any _ _ _ _).mono ?_); rintro e w' ⟨rfl, rfl⟩)
  all_goals
    go_ret
    refine ⟨ret_bool ?_, by (repeat' (first | (with_reducible assumption) | (with_reducible exact Below.refl _ _) | (with_reducible refine bdN ?_ _) | (with_reducible refine Below.alloc ?_ ?_ _) | (with_reducible refine Below.drew ?_) | (with_reducible refine Below.setCell ?_ ?_ _) | go_size))⟩
    rw [Bool.eq_iff_iff, cvB_iff]
    simp only [inB, decide_eq_true_eq, Bool.false_eq_true, false_iff, true_iff, Bool.not_eq_true, decide_eq_false_iff_not] at *
    omega
theorem cv_ib (h i s u : Int) (w : World) (b : Bool) (e : cvB h i s u = b) : Calls Tryd.prog 39 #[.agg #[.int .i64 h, .int .i64 i, .int .i64 s, .int .i64 u]] w fun e w' => e = .returned (.bool b) ∧ Below w.heap.size w w' := by
  have c := cv_i h i s u w
  rwa [e] at c

set_option maxHeartbeats 2000000 in
theorem cv_s (h i s u : Int) (w : World) : Calls Tryd.prog 55 #[.agg #[.int .i64 h, .int .i64 i, .int .i64 s, .int .i64 u]] w fun e w' => e = .returned (.bool (cvB h i s u)) ∧ Below w.heap.size w w' := by
  by_cases hb : (0 ≤ h ∧ h ≤ 24) ∧ (0 ≤ i ∧ i ≤ 59) ∧ (0 ≤ s ∧ s ≤ 59) ∧ (0 ≤ u ∧ u ≤ 999)
  · obtain ⟨⟨a1, a2⟩, ⟨b1, b2⟩, ⟨c1, c2⟩, ⟨d1, d2⟩⟩ := hb
    have W1 := Lib.hid (fun w => l6In_any h 0 24 w)
    have W2 := Lib.hid (fun w => l6In_any i 0 59 w)
    have W3 := Lib.hid (fun w => l6In_any s 0 59 w)
    have W4 := Lib.hid (fun w => l6In_any u 0 999 w)
    rw [inB_t a1 a2] at W1
    rw [inB_t b1 b2] at W2
    rw [inB_t c1 c2] at W3
    rw [inB_t d1 d2] at W4
    go_enter Tryd.func55, Tryd.ntmps55
    go_wp2_with fail
    refine (W1.out _).mono ?_
    rintro e w' ⟨rfl, rfl⟩
    go_wp2_with fail
    refine (W2.out _).mono ?_
    rintro e w' ⟨rfl, rfl⟩
    go_wp2_with fail
    refine (W3.out _).mono ?_
    rintro e w' ⟨rfl, rfl⟩
    go_wp2_with fail
    refine (W4.out _).mono ?_
    rintro e w' ⟨rfl, rfl⟩
    go_wp2_with fail
    all_goals
      go_ret
      refine ⟨ret_bool ?_, by (repeat' (first | (with_reducible assumption) | (with_reducible exact Below.refl _ _) | (with_reducible refine bdN ?_ _) | (with_reducible refine Below.alloc ?_ ?_ _) | (with_reducible refine Below.drew ?_) | (with_reducible refine Below.setCell ?_ ?_ _) | go_size))⟩
      rw [Bool.eq_iff_iff, cvB_iff]
      simp
      omega
  · go_enter Tryd.func55, Tryd.ntmps55
    go_wp2_with (go_at_call 44; (with_reducible refine (l6In_any _ _ _ _).mono ?_); rintro e w' ⟨rfl, rfl⟩)
    all_goals
      go_ret
      refine ⟨ret_bool ?_, by (repeat' (first | (with_reducible assumption) | (with_reducible exact Below.refl _ _) | (with_reducible refine bdN ?_ _) | (with_reducible refine Below.alloc ?_ ?_ _) | (with_reducible refine Below.drew ?_) | (with_reducible refine Below.setCell ?_ ?_ _) | go_size))⟩
      rw [Bool.eq_iff_iff, cvB_iff]
      simp only [inB, decide_eq_true_eq, Bool.false_eq_true, false_iff, true_iff, Bool.not_eq_true, decide_eq_false_iff_not, Bool.not_eq_false, Bool.not_true, Bool.not_false, Bool.not_eq_true', Bool.not_eq_false'] at *
      omega
theorem cv_sb (h i s u : Int) (w : World) (b : Bool) (e : cvB h i s u = b) : Calls Tryd.prog 55 #[.agg #[.int .i64 h, .int .i64 i, .int .i64 s, .int .i64 u]] w fun e w' => e = .returned (.bool b) ∧ Below w.heap.size w w' := by
  have c := cv_s h i s u w
  rwa [e] at c

set_option maxHeartbeats 400000 in
theorem offsetValid_any (o : Int) (w : World) : Calls Tryd.prog 42 #[.int .i64 o] w fun e w' => e = .returned (.bool (inB o (-1439) 1439)) ∧ w = w' := by
  go_enter Tryd.func42, Tryd.ntmps42
  go_wp2_with fail
  refine (within_any _ _ _ _).mono ?_
  rintro e w' ⟨rfl, rfl⟩
  go_wp2
  go_ret
  exact ⟨rfl, rfl⟩
end Go.Proofs.YtfailbghnpfcdaaDoor
