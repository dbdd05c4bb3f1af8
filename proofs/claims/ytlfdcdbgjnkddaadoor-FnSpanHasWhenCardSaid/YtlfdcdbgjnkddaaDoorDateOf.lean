/- Contracts of DateOf, by the program and by the reference. Conditions: the program's table of the months' days stands in memory ('Tab'). -/
import Derived.Test.YtlfdcdbgjnkddaaDoorDateAt
namespace Go.Proofs.YtlfdcdbgjnkddaaDoor
open Go.RowKit DN

/-- what DateOf gives for a day: its date, or nothing -/
def OfDay (n y m d : Int) (b : Bool) : Prop := (b = true ∧ IsD n y m d) ∨ (b = false ∧ ¬ (0 ≤ n ∧ n ≤ 3652058) ∧ y = 0 ∧ m = 0 ∧ d = 0)
theorem ofDay_ex (n : Int) : ∃ y m d b, OfDay n y m d b := by
  by_cases h : 0 ≤ n ∧ n ≤ 3652058
  · obtain ⟨y, m, d, hd⟩ := isD_ex h.1 h.2
    exact ⟨y, m, d, true, .inl ⟨rfl, hd⟩⟩
  · exact ⟨0, 0, 0, false, .inr ⟨rfl, h, rfl, rfl, rfl⟩⟩

set_option maxRecDepth 100000 in
set_option maxHeartbeats 2000000 in
theorem dateOf_s (n y m d : Int) (b : Bool) (w : World) (h : OfDay n y m d b) : Calls Tryd.prog 45 #[.int .i64 n] w fun e w' => e = .returned (.tuple #[.agg #[.int .i64 y, .int .i64 m, .int .i64 d], .bool b]) ∧ Below w.heap.size w w' := by
  have V := Lib.hid (fun w => l6In_any n 0 3652058 w)
  rcases h with ⟨rfl, hd⟩ | ⟨rfl, hn, rfl, rfl, rfl⟩
  · obtain ⟨n1, n2⟩ := isD_bd hd
    obtain ⟨y1, y2, y3, y4⟩ := isD_year hd
    obtain ⟨m1, m2, m3, m4, m5⟩ := isD_month hd
    have H := Lib.hid hd
    have M5 := Lib.hid m5
    have g0 := isD_year_lt hd (k := n / 366 + 1) (by omega) (yb_guess n n1)
    have ybd := yb_bd y y1 (by omega)
    rw [inB_t n1 n2] at V
    clear hd m5
    go_enter Tryd.func45, Tryd.ntmps45
    go_wp2_with (go_at_call 31; refine (V.out _).mono ?_; rintro e w' ⟨rfl, rfl⟩)
    go_loop [4] (fun t => ∃ k : Int, 1 ≤ k ∧ k ≤ y ∧ t = .int .i64 k) (fun t => (y - intOf t).toNat)
    case atStart => exact ⟨_, by omega, g0, rfl⟩
    case round =>
      obtain ⟨k, k1, k2, rfl⟩ := hrel
      clear g0
      by_cases hk : k < y
      · have hd : yb (k + 1) ≤ n := isD_year_le H.out (by omega) (by omega)
        go_wp2_with (go_at_call 48; refine (yb_s _ _ (by omega) (by omega)).mono ?_; rintro e w' ⟨rfl, rfl⟩)
        go_round
        case rel => exact ⟨k + 1, by omega, by omega, rfl⟩
        case measure => simp [intOf]; omega
      · obtain rfl : k = y := by omega
        clear hk k1 k2
        by_cases h9 : k < 9999
        all_goals
          go_wp2_with (go_at_call 48; refine (yb_s _ _ (by omega) (by omega)).mono ?_; rintro e w' ⟨rfl, rfl⟩)
          go_loopw [5] (fun t wr => ∃ j : Int, 1 ≤ j ∧ j ≤ m ∧ t = .int .i64 j ∧ w.heap.size < wr.heap.size ∧ Below w.heap.size w wr ∧ CellsAt wr w.heap.size 0 [.int .i64 0, .int .i64 0, .int .i64 0]) (fun t _ => (m - intOf t).toNat)
          case atStart => exact ⟨1, by omega, m1, rfl, by simp, by (repeat' (first | (with_reducible assumption) | (with_reducible exact Below.refl _ _) | (with_reducible refine bdN ?_ _) | (with_reducible refine Below.alloc ?_ ?_ _) | (with_reducible refine Below.drew ?_) | (with_reducible refine Below.setCell ?_ ?_ _) | go_size)), by simp only [CellsAt]; go_simp⟩
          case round =>
            obtain ⟨j, j1, j2, rfl, hs, hB, c0⟩ := hrel
            have mb := mc_bd k j j1 (by omega)
            have mb1 := mc_bd k (j + 1) (by omega) (by omega)
            simp only [CellsAt] at c0
            by_cases hm : j < m
            · have hd : yb k + mc k (j + 1) ≤ n := by have := isD_month_le H.out (k := j + 1) (by omega) (by omega); omega
              go_wp2_with (first | (go_at_call 48; refine (yb_s _ _ (by omega) (by omega)).mono ?_; rintro e w' ⟨rfl, rfl⟩) | (go_at_call 49; refine (mc_s _ _ _ (by omega) (by omega) (by omega) (by omega)).mono ?_; rintro e w1 ⟨rfl, b1⟩; have c1 := fun o => (bcell b1).1 w.heap.size o hs; have f1 := fun o => (bcell b1).2 w.heap.size o hs; have s1 := b1.size; have A1 := Below.trans hB (b1.mono hB.size)))
              go_roundw
              case rel => exact ⟨j + 1, by omega, by omega, rfl, by omega, A1, by simp only [CellsAt]; go_simp⟩
              case measure => simp [intOf]; omega
            · obtain rfl : j = m := by omega
              by_cases h12 : j < 12
              · have hd : n < yb k + mc k (j + 1) := by omega
                go_wp2_with (first | (go_at_call 48; refine (yb_s _ _ (by omega) (by omega)).mono ?_; rintro e w' ⟨rfl, rfl⟩) | (go_at_call 49; refine (mc_s _ _ _ (by omega) (by omega) (by omega) (by omega)).mono ?_; rintro e w1 ⟨rfl, b1⟩; have c1 := fun o => (bcell b1).1 w.heap.size o (by omega); have f1 := fun o => (bcell b1).2 w.heap.size o (by omega); have s1 := b1.size; have A1 := Below.trans (by (repeat' (first | (with_reducible assumption) | (with_reducible exact Below.refl _ _) | (with_reducible refine bdN ?_ _) | (with_reducible refine Below.alloc ?_ ?_ _) | (with_reducible refine Below.drew ?_) | (with_reducible refine Below.setCell ?_ ?_ _) | go_size))) (b1.mono (by omega))))
                exact bodyPost_ret (v := .tuple #[.agg #[.int .i64 k, .int .i64 j, .int .i64 (n - yb k - mc k j + 1)], .bool true]) (by simp [results, Tryd.results45, go_sem, *]) rfl ⟨by rw [M5.out], by (repeat' (first | (with_reducible assumption) | (with_reducible exact Below.refl _ _) | (with_reducible refine bdN ?_ _) | (with_reducible refine Below.alloc ?_ ?_ _) | (with_reducible refine Below.drew ?_) | (with_reducible refine Below.setCell ?_ ?_ _) | go_size))⟩
              · go_wp2_with (first | (go_at_call 48; refine (yb_s _ _ (by omega) (by omega)).mono ?_; rintro e w' ⟨rfl, rfl⟩) | (go_at_call 49; refine (mc_s _ _ _ (by omega) (by omega) (by omega) (by omega)).mono ?_; rintro e w1 ⟨rfl, b1⟩; have c1 := fun o => (bcell b1).1 w.heap.size o (by omega); have f1 := fun o => (bcell b1).2 w.heap.size o (by omega); have s1 := b1.size; have A1 := Below.trans (by (repeat' (first | (with_reducible assumption) | (with_reducible exact Below.refl _ _) | (with_reducible refine bdN ?_ _) | (with_reducible refine Below.alloc ?_ ?_ _) | (with_reducible refine Below.drew ?_) | (with_reducible refine Below.setCell ?_ ?_ _) | go_size))) (b1.mono (by omega))))
                exact bodyPost_ret (v := .tuple #[.agg #[.int .i64 k, .int .i64 j, .int .i64 (n - yb k - mc k j + 1)], .bool true]) (by simp [results, Tryd.results45, go_sem, *]) rfl ⟨by rw [M5.out], by (repeat' (first | (with_reducible assumption) | (with_reducible exact Below.refl _ _) | (with_reducible refine bdN ?_ _) | (with_reducible refine Below.alloc ?_ ?_ _) | (with_reducible refine Below.drew ?_) | (with_reducible refine Below.setCell ?_ ?_ _) | go_size))⟩
  · rw [inB_f hn] at V
    clear hn
    go_enter Tryd.func45, Tryd.ntmps45
    go_wp2_with (go_at_call 31; refine (V.out _).mono ?_; rintro e w' ⟨rfl, rfl⟩)
    go_returns
    exact ⟨rfl, by (repeat' (first | (with_reducible assumption) | (with_reducible exact Below.refl _ _) | (with_reducible refine bdN ?_ _) | (with_reducible refine Below.alloc ?_ ?_ _) | (with_reducible refine Below.drew ?_) | (with_reducible refine Below.setCell ?_ ?_ _) | go_size))⟩
end Go.Proofs.YtlfdcdbgjnkddaaDoor
