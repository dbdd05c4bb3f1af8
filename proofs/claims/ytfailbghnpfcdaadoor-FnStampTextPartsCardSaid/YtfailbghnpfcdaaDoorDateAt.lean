/- Contracts of the functions that give the date of a day, by the program and by the reference. Conditions: the program's table of the months' days stands in memory ('Tab'); the day is in range where it is said. -/
import Derived.Test.YtfailbghnpfcdaaDoorDay
import Derived.Deep.LoopGhost
import Derived.Deep.RegionWith
namespace Go.Proofs.YtfailbghnpfcdaaDoor
open Go.RowKit DN

/-- the months' loop of the date of a day: g rounds at most are to come -/
def AtRel (w : World) (n y m : Int) (g : Nat) (wx : World) : Prop := ∃ k : Int, 1 ≤ k ∧ k ≤ m ∧ g = (m - k).toNat ∧ w.heap.size + 1 < wx.heap.size ∧ Below w.heap.size w wx ∧
  CellsAt wx w.heap.size 0 [.int .i64 0, .int .i64 0, .int .i64 0] ∧ CellsAt wx (w.heap.size + 1) 0 [.int .i64 y, .int .i64 k, .int .i64 (n - yb y - mc y k + 1)]

set_option maxRecDepth 100000 in
set_option maxHeartbeats 2000000 in
theorem dateAt_i (n y m d : Int) (w : World) (T : Tab w) (h : IsD n y m d) : Calls Tryd.prog 32 #[.int .i64 n] w fun e w' => e = .returned (.agg #[.int .i64 y, .int .i64 m, .int .i64 d]) ∧ Below w.heap.size w w' := by
  obtain ⟨n1, n2⟩ := isD_bd h
  obtain ⟨y1, y2, y3, y4⟩ := isD_year h
  obtain ⟨m1, m2, m3, m4, m5⟩ := isD_month h
  have H := Lib.hid h
  have M5 := Lib.hid m5
  have g0 := isD_year_lt h (k := n / 366 + 1) (by omega) (yb_guess n n1)
  have T0 := Lib.hid T
  have ybd := yb_bd y y1 (by omega)
  clear h T m5
  go_enter Tryd.func32, Tryd.ntmps32
  go_wp2
  go_loop [3] (fun t => ∃ k : Int, 1 ≤ k ∧ k ≤ y ∧ t = .int .i64 k) (fun t => (y - intOf t).toNat)
  case atStart => exact ⟨_, by omega, g0, rfl⟩
  case round =>
    obtain ⟨k, k1, k2, rfl⟩ := hrel
    clear g0
    by_cases hk : k < y
    · have hd : yb (k + 1) ≤ n := isD_year_le H.out (by omega) (by omega)
      go_wp2_with (go_at_call 53; refine (yb_i _ _ (by omega) (by omega)).mono ?_; rintro e w' ⟨rfl, rfl⟩)
      go_round
      case rel => exact ⟨k + 1, by omega, by omega, rfl⟩
      case measure => simp [intOf]; omega
    · obtain rfl : k = y := by omega
      clear hk k1 k2
      by_cases h9 : k < 9999
      all_goals
        go_wp2_with (go_at_call 53; refine (yb_i _ _ (by omega) (by omega)).mono ?_; rintro e w' ⟨rfl, rfl⟩)
        go_loopg [] (m - 1).toNat (fun g wx => AtRel w n k m g wx)
        case atStart => exact ⟨1, by omega, m1, rfl, by simp, by (repeat' (first | (with_reducible assumption) | (with_reducible exact Below.refl _ _) | (with_reducible refine bdN ?_ _) | (with_reducible refine Below.alloc ?_ ?_ _) | (with_reducible refine Below.drew ?_) | (with_reducible refine Below.setCell ?_ ?_ _) | go_size)), by simp only [CellsAt]; go_simp, by simp only [CellsAt]; rw [mc_one]; go_simp⟩
        case round =>
          obtain ⟨j, j1, j2, hg, hs, hB, c0, c1⟩ := hrel
          simp only [CellsAt] at c0 c1
          have T1 := Lib.hid (tab_keep T0.out hB)
          have hs0 : w.heap.size < wr.heap.size := by omega
          have mb := mc_bd k j j1 (by omega)
          have dp := md_pos k j y1 y2 j1 (by omega)
          have S := Lib.hid (mc_succ k j y1 y2 j1 (by omega))
          have G := Lib.hid hg
          clear hg
          by_cases hm : j < m
          · have hd : md k j < n - yb k - mc k j + 1 := by have := isD_month_le H.out (k := j + 1) (by omega) (by omega); have := S.out; omega
            go_wp2_with fail
            go_quiet ((go_at_call 51; exact quiet_same (mdays_i _ _ _ (tab_drewN T1.out _))))
            go_wp2_with fail
            go_region_with ((go_at_call 51; refine (mdays_i _ _ _ (tab_drewN T1.out _)).mono ?_; rintro e w' ⟨rfl, rfl⟩))
            all_goals
              go_wp2_with fail
              go_roundg (m - (j + 1)).toNat
              case measure => rw [G.out]; omega
              case rel => exact ⟨j + 1, by omega, by omega, rfl, by go_size, by (repeat' (first | (with_reducible assumption) | (with_reducible exact Below.refl _ _) | (with_reducible refine bdN ?_ _) | (with_reducible refine Below.alloc ?_ ?_ _) | (with_reducible refine Below.drew ?_) | (with_reducible refine Below.setCell ?_ ?_ _) | go_size)), by simp only [CellsAt]; go_simp, by simp only [CellsAt]; rw [S.out]; go_simp; omega⟩
          · obtain rfl : j = m := by omega
            have hd : n - yb k - mc k j + 1 ≤ md k j := by have := S.out; omega
            go_wp2_with fail
            go_quiet ((go_at_call 51; exact quiet_same (mdays_i _ _ _ (tab_drewN T1.out _))))
            go_wp2_with fail
            exact bodyPost_ret (v := .agg #[.int .i64 k, .int .i64 j, .int .i64 (n - yb k - mc k j + 1)]) (by simp [results, Tryd.results32, go_sem, c0]) rfl ⟨by rw [M5.out], by (repeat' (first | (with_reducible assumption) | (with_reducible exact Below.refl _ _) | (with_reducible refine bdN ?_ _) | (with_reducible refine Below.alloc ?_ ?_ _) | (with_reducible refine Below.drew ?_) | (with_reducible refine Below.setCell ?_ ?_ _) | go_size))⟩
end Go.Proofs.YtfailbghnpfcdaaDoor
