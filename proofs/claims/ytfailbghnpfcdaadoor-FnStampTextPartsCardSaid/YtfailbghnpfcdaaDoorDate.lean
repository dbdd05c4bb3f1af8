/- Contracts of the functions on years, months and dates, by the program and by the reference. Conditions: the program's table of the months' days stands in memory as its text lays it ('Tab'). -/
import Derived.Test.YtfailbghnpfcdaaDoorBase
import Derived.Test.YtfailbghnpfcdaaDoorCal
import Derived.Deep.QuietTactic
import Derived.BigQuiet
import Derived.Deep.RegionHeld3
import Derived.Deep.DeepCutAuto
namespace Go.Proofs.YtfailbghnpfcdaaDoor
open Go.RowKit DN

/-- the table of the months' days stands in its block -/
def Tab (w : World) : Prop := 0 < w.heap.size ∧ ∀ j : Nat, j < 12 → w.cell? ⟨0, j, none⟩ = some (.int .i64 (md0 (j + 1)))
theorem tab_keep {w w' : World} (h : Tab w) (b : Below w.heap.size w w') : Tab w' :=
  ⟨Nat.lt_of_lt_of_le h.1 b.size, fun j hj => by rw [b.cell (p := ⟨0, j, none⟩) h.1]; exact h.2 j hj⟩

set_option maxHeartbeats 400000 in
theorem yearValid_any (y : Int) (w : World) : Calls Tryd.prog 66 #[.int .i64 y] w fun e w' => e = .returned (.bool (inB y 1 9999)) ∧ w = w' := by
  go_enter Tryd.func66, Tryd.ntmps66
  go_wp2_with (go_at_call 26; refine (within_any _ _ _ _).mono ?_; rintro e w' ⟨rfl, rfl⟩)
  go_ret
  exact ⟨rfl, rfl⟩

theorem lp_y {y : Int} (h : lpI y = 1) : y % 4 = 0 ∧ (y % 100 ≠ 0 ∨ y % 400 = 0) := by unfold lpI at h; split at h <;> simp_all
theorem lp_n {y : Int} (h : ¬ lpI y = 1) : ¬ (y % 4 = 0 ∧ (y % 100 ≠ 0 ∨ y % 400 = 0)) := by unfold lpI at h; split at h <;> simp_all

set_option maxHeartbeats 1000000 in
theorem leap_i (y : Int) (w : World) (h1 : 1 ≤ y) (h2 : y ≤ 9999) : Calls Tryd.prog 67 #[.int .i64 y] w fun e w' => e = .returned (.bool (lp y)) ∧ w = w' := by
  have hv : inB y 1 9999 = true := inB_t h1 h2
  have Y := Lib.hid (fun w => yearValid_any y w)
  rw [hv] at Y
  clear hv
  by_cases a : y % 4 = 0
  · by_cases b : y % 100 = 0
    · by_cases c : y % 400 = 0
      all_goals
        go_enter Tryd.func67, Tryd.ntmps67
        go_wp2_with (go_at_call 66; refine (Y.out _).mono ?_; rintro e w' ⟨rfl, rfl⟩)
        go_ret
        exact ⟨ret_bool (by unfold lp; simp [*]), rfl⟩
    · go_enter Tryd.func67, Tryd.ntmps67
      go_wp2_with (go_at_call 66; refine (Y.out _).mono ?_; rintro e w' ⟨rfl, rfl⟩)
      go_ret
      exact ⟨ret_bool (by unfold lp; simp [*]), rfl⟩
  · go_enter Tryd.func67, Tryd.ntmps67
    go_wp2_with (go_at_call 66; refine (Y.out _).mono ?_; rintro e w' ⟨rfl, rfl⟩)
    go_ret
    exact ⟨ret_bool (by unfold lp; simp [*]), rfl⟩

theorem md_no {y m : Int} (h : ¬ (1 ≤ y ∧ y ≤ 9999 ∧ 1 ≤ m ∧ m ≤ 12)) : md y m = 0 := by unfold md; rw [if_neg h]
theorem md_feb {y : Int} (h1 : 1 ≤ y) (h2 : y ≤ 9999) : md y 2 = 28 + lpI y := by unfold md; rw [if_pos ⟨h1, h2, by omega, by omega⟩, if_pos rfl]
theorem md_oth {y m : Int} (h1 : 1 ≤ y) (h2 : y ≤ 9999) (h3 : 1 ≤ m) (h4 : m ≤ 12) (h5 : ¬ m = 2) : md y m = md0 m := by unfold md; rw [if_pos ⟨h1, h2, h3, h4⟩, if_neg h5]

theorem inB_no {n a b : Int} (h : ¬ (a ≤ n ∧ n ≤ b)) : inB n a b = false := inB_f h

set_option maxHeartbeats 1000000 in
theorem mdays_i (y m : Int) (w : World) (T : Tab w) : Calls Tryd.prog 51 #[.int .i64 y, .int .i64 m] w fun e w' => e = .returned (.int .i64 (md y m)) ∧ w = w' := by
  by_cases hy : 1 ≤ y ∧ y ≤ 9999
  · have Y := Lib.hid (fun w => yearValid_any y w)
    rw [inB_t hy.1 hy.2] at Y
    by_cases hm : 1 ≤ m ∧ m ≤ 12
    · have M := Lib.hid (fun w => within_any m 1 12 w)
      rw [inB_t hm.1 hm.2] at M
      obtain ⟨y1, y2⟩ := hy
      obtain ⟨m1, m2⟩ := hm
      have hc : w.cell? ⟨0, m.toNat - 1, none⟩ = some (.int .i64 (md0 m)) := by
        have h := T.2 (m.toNat - 1) (by omega)
        rw [h, show ((m.toNat - 1 : Nat) : Int) + 1 = m by omega]
      have L := Lib.hid (fun w => leap_i y w y1 y2)
      by_cases h2 : m = 2
      · subst h2
        cases hl : lp y
        · rw [hl] at L
          have e : md y 2 = 28 := by rw [md_feb y1 y2]; have := lpI_01 y; have : ¬ lpI y = 1 := by rw [lp_eq] at hl; simpa using hl
                                     omega
          have hc' : w.cell? ⟨0, 1, none⟩ = some (.int .i64 28) := hc
          rw [e]
          clear hl e hc T
          go_enter Tryd.func51, Tryd.ntmps51
          go_wp2_with (first | (go_at_call 66; refine (Y.out _).mono ?_; rintro e w' ⟨rfl, rfl⟩) | (go_at_call 26; refine (M.out _).mono ?_; rintro e w' ⟨rfl, rfl⟩) | (go_at_call 67; refine (L.out _).mono ?_; rintro e w' ⟨rfl, rfl⟩))
          go_ret
          exact ⟨rfl, rfl⟩
        · rw [hl] at L
          have e : md y 2 = 29 := by rw [md_feb y1 y2]; have : lpI y = 1 := by rw [lp_eq] at hl; simpa using hl
                                     omega
          rw [e]
          clear hl e hc T
          go_enter Tryd.func51, Tryd.ntmps51
          go_wp2_with (first | (go_at_call 66; refine (Y.out _).mono ?_; rintro e w' ⟨rfl, rfl⟩) | (go_at_call 26; refine (M.out _).mono ?_; rintro e w' ⟨rfl, rfl⟩) | (go_at_call 67; refine (L.out _).mono ?_; rintro e w' ⟨rfl, rfl⟩))
          go_ret
          exact ⟨rfl, rfl⟩
      · rw [md_oth y1 y2 m1 m2 h2]
        clear T
        go_enter Tryd.func51, Tryd.ntmps51
        go_wp2_with (first | (go_at_call 66; refine (Y.out _).mono ?_; rintro e w' ⟨rfl, rfl⟩) | (go_at_call 26; refine (M.out _).mono ?_; rintro e w' ⟨rfl, rfl⟩))
        go_ret
        exact ⟨rfl, rfl⟩
    · have M := Lib.hid (fun w => within_any m 1 12 w)
      rw [inB_f hm] at M
      rw [md_no (by omega)]
      clear T
      go_enter Tryd.func51, Tryd.ntmps51
      go_wp2_with (first | (go_at_call 66; refine (Y.out _).mono ?_; rintro e w' ⟨rfl, rfl⟩) | (go_at_call 26; refine (M.out _).mono ?_; rintro e w' ⟨rfl, rfl⟩))
      go_ret
      exact ⟨rfl, rfl⟩
  · have Y := Lib.hid (fun w => yearValid_any y w)
    rw [inB_f hy] at Y
    rw [md_no (by omega)]
    clear T
    go_enter Tryd.func51, Tryd.ntmps51
    go_wp2_with (go_at_call 66; refine (Y.out _).mono ?_; rintro e w' ⟨rfl, rfl⟩)
    go_ret
    exact ⟨rfl, rfl⟩

set_option maxHeartbeats 1000000 in
theorem leap_s (y : Int) (w : World) (h1 : 1 ≤ y) (h2 : y ≤ 9999) : Calls Tryd.prog 64 #[.int .i64 y] w fun e w' => e = .returned (.bool (lp y)) ∧ w = w' := by
  have hv : inB y 1 9999 = true := inB_t h1 h2
  have Y := Lib.hid (fun w => l6In_any y 1 9999 w)
  rw [hv] at Y
  clear hv
  by_cases a : y % 4 = 0
  · by_cases b : y % 100 = 0
    · by_cases c : y % 400 = 0
      all_goals
        go_enter Tryd.func64, Tryd.ntmps64
        go_wp2_with (go_at_call 44; refine (Y.out _).mono ?_; rintro e w' ⟨rfl, rfl⟩)
        go_ret
        exact ⟨ret_bool (by unfold lp; simp [*]), rfl⟩
    · go_enter Tryd.func64, Tryd.ntmps64
      go_wp2_with (go_at_call 44; refine (Y.out _).mono ?_; rintro e w' ⟨rfl, rfl⟩)
      go_ret
      exact ⟨ret_bool (by unfold lp; simp [*]), rfl⟩
  · go_enter Tryd.func64, Tryd.ntmps64
    go_wp2_with (go_at_call 44; refine (Y.out _).mono ?_; rintro e w' ⟨rfl, rfl⟩)
    go_ret
    exact ⟨ret_bool (by unfold lp; simp [*]), rfl⟩

set_option maxHeartbeats 1000000 in
theorem mdays_s (y m : Int) (w : World) : Calls Tryd.prog 45 #[.int .i64 y, .int .i64 m] w fun e w' => e = .returned (.int .i64 (md y m)) ∧ Below w.heap.size w w' := by
  by_cases hy : 1 ≤ y ∧ y ≤ 9999
  · have Y := Lib.hid (fun w => l6In_any y 1 9999 w)
    rw [inB_t hy.1 hy.2] at Y
    have M := Lib.hid (fun w => l6In_any m 1 12 w)
    by_cases hm : 1 ≤ m ∧ m ≤ 12
    · rw [inB_t hm.1 hm.2] at M
      obtain ⟨y1, y2⟩ := hy
      have L := Lib.hid (fun w => leap_s y w y1 y2)
      have hm12 : m = 1 ∨ m = 2 ∨ m = 3 ∨ m = 4 ∨ m = 5 ∨ m = 6 ∨ m = 7 ∨ m = 8 ∨ m = 9 ∨ m = 10 ∨ m = 11 ∨ m = 12 := by omega
      clear hm
      by_cases h2 : m = 2
      · subst h2
        clear hm12
        cases hl : lp y
        · rw [hl] at L
          have e : md y 2 = 28 := by rw [md_feb y1 y2]; have := lpI_01 y; have : ¬ lpI y = 1 := by rw [lp_eq] at hl; simpa using hl
                                     omega
          rw [e]
          clear hl e
          go_enter Tryd.func45, Tryd.ntmps45
          go_wp2_with (first | (go_at_call 44; with_reducible refine (Y.out _).mono ?_; rintro e w' ⟨rfl, rfl⟩) | (go_at_call 44; with_reducible refine (M.out _).mono ?_; rintro e w' ⟨rfl, rfl⟩) | (go_at_call 64; refine (L.out _).mono ?_; rintro e w' ⟨rfl, rfl⟩))
          go_ret
          exact ⟨rfl, by (repeat' (first | (with_reducible assumption) | (with_reducible exact Below.refl _ _) | (with_reducible refine bdN ?_ _) | (with_reducible refine Below.alloc ?_ ?_ _) | (with_reducible refine Below.drew ?_) | (with_reducible refine Below.setCell ?_ ?_ _) | go_size))⟩
        · rw [hl] at L
          have e : md y 2 = 29 := by rw [md_feb y1 y2]; have : lpI y = 1 := by rw [lp_eq] at hl; simpa using hl
                                     omega
          rw [e]
          clear hl e
          go_enter Tryd.func45, Tryd.ntmps45
          go_wp2_with (first | (go_at_call 44; with_reducible refine (Y.out _).mono ?_; rintro e w' ⟨rfl, rfl⟩) | (go_at_call 44; with_reducible refine (M.out _).mono ?_; rintro e w' ⟨rfl, rfl⟩) | (go_at_call 64; refine (L.out _).mono ?_; rintro e w' ⟨rfl, rfl⟩))
          go_ret
          exact ⟨rfl, by (repeat' (first | (with_reducible assumption) | (with_reducible exact Below.refl _ _) | (with_reducible refine bdN ?_ _) | (with_reducible refine Below.alloc ?_ ?_ _) | (with_reducible refine Below.drew ?_) | (with_reducible refine Below.setCell ?_ ?_ _) | go_size))⟩
      · rw [md_oth y1 y2 (by omega) (by omega) h2]
        clear L
        rcases hm12 with rfl | rfl | rfl | rfl | rfl | rfl | rfl | rfl | rfl | rfl | rfl | rfl
        any_goals exact absurd rfl h2
        all_goals
          go_enter Tryd.func45, Tryd.ntmps45
          go_wp2_with (first | (go_at_call 44; with_reducible refine (Y.out _).mono ?_; rintro e w' ⟨rfl, rfl⟩) | (go_at_call 44; with_reducible refine (M.out _).mono ?_; rintro e w' ⟨rfl, rfl⟩))
          go_ret
          exact ⟨rfl, by (repeat' (first | (with_reducible assumption) | (with_reducible exact Below.refl _ _) | (with_reducible refine bdN ?_ _) | (with_reducible refine Below.alloc ?_ ?_ _) | (with_reducible refine Below.drew ?_) | (with_reducible refine Below.setCell ?_ ?_ _) | go_size))⟩
    · rw [inB_f hm] at M
      rw [md_no (by omega)]
      go_enter Tryd.func45, Tryd.ntmps45
      go_wp2_with (first | (go_at_call 44; with_reducible refine (Y.out _).mono ?_; rintro e w' ⟨rfl, rfl⟩) | (go_at_call 44; with_reducible refine (M.out _).mono ?_; rintro e w' ⟨rfl, rfl⟩))
      go_ret
      exact ⟨rfl, by (repeat' (first | (with_reducible assumption) | (with_reducible exact Below.refl _ _) | (with_reducible refine bdN ?_ _) | (with_reducible refine Below.alloc ?_ ?_ _) | (with_reducible refine Below.drew ?_) | (with_reducible refine Below.setCell ?_ ?_ _) | go_size))⟩
  · have Y := Lib.hid (fun w => l6In_any y 1 9999 w)
    rw [inB_f hy] at Y
    rw [md_no (by omega)]
    go_enter Tryd.func45, Tryd.ntmps45
    go_wp2_with (go_at_call 44; refine (Y.out _).mono ?_; rintro e w' ⟨rfl, rfl⟩)
    go_ret
    exact ⟨rfl, by (repeat' (first | (with_reducible assumption) | (with_reducible exact Below.refl _ _) | (with_reducible refine bdN ?_ _) | (with_reducible refine Below.alloc ?_ ?_ _) | (with_reducible refine Below.drew ?_) | (with_reducible refine Below.setCell ?_ ?_ _) | go_size))⟩
end Go.Proofs.YtfailbghnpfcdaaDoor
