/- Contracts of the functions on dates and numbers of days, by the program and by the reference. Conditions: the program's table of the months' days stands in memory ('Tab'); of some the date or the day is valid. -/
import Derived.Test.YtfailbghnpfcdaaDoorDate
namespace Go.Proofs.YtfailbghnpfcdaaDoor
open Go.RowKit DN

theorem tab_set {w : World} (h : Tab w) {p : Addr} (hp : 0 < p.block) (u : Value) : Tab (w.setCell p u) := by
  have b : Below (0 + 1) w (w.setCell p u) := (Below.refl _ _).setCell hp u
  exact ⟨Nat.lt_of_lt_of_le h.1 b.size, fun j hj => by rw [b.cell (p := ⟨0, j, none⟩) (Nat.lt_succ_self _)]; exact h.2 j hj⟩
theorem tab_drew {w : World} (h : Tab w) : Tab w.drew := h
theorem tab_drewN {w : World} (h : Tab w) (n : Nat) : Tab (w.drewN n) := h
theorem tab_alloc {w : World} (h : Tab w) (o : Obj) : Tab (w.alloc o) := tab_keep h ((Below.refl _ _).alloc (Nat.le_refl _) o)

set_option maxHeartbeats 1000000 in
theorem vd_i (y m d : Int) (w : World) (T : Tab w) : Calls Tryd.prog 25 #[.agg #[.int .i64 y, .int .i64 m, .int .i64 d]] w fun e w' => e = .returned (.bool (vd y m d)) ∧ Below w.heap.size w w' := by
  have T1 := Lib.hid (tab_alloc T (.cells #[.int .i64 y, .int .i64 m, .int .i64 d] 26))
  clear T
  go_enter Tryd.func25, Tryd.ntmps25
  go_wp2
  go_quiet ((first | (go_at_call 51; exact quiet_same (mdays_i _ _ _ (tab_drewN T1.out _))) | (go_at_call 26; exact quiet_same (within_any _ _ _ _))))
  go_wp2
  go_ret
  exact ⟨rfl, bdN (by (repeat' (first | (with_reducible assumption) | (with_reducible exact Below.refl _ _) | (with_reducible refine bdN ?_ _) | (with_reducible refine Below.alloc ?_ ?_ _) | (with_reducible refine Below.drew ?_) | (with_reducible refine Below.setCell ?_ ?_ _) | go_size))) _⟩

set_option maxHeartbeats 1000000 in
theorem vd_s (y m d : Int) (w : World) : Calls Tryd.prog 20 #[.agg #[.int .i64 y, .int .i64 m, .int .i64 d]] w fun e w' => e = .returned (.bool (vd y m d)) ∧ Below w.heap.size w w' := by
  go_enter Tryd.func20, Tryd.ntmps20
  go_wp2
  go_region_held3 (fun w' => w'.cell? ⟨w.heap.size, 0, none⟩ = some (.int .i64 y) ∧ w'.cell? ⟨w.heap.size, 1, none⟩ = some (.int .i64 m) ∧ w'.cell? ⟨w.heap.size, 2, none⟩ = some (.int .i64 d)) (go_simp)
    (first
      | (go_at_call 45; refine (mdays_s _ _ _).mono ?_; rintro e w' ⟨rfl, b⟩; obtain ⟨hc, hf⟩ := bcell b)
      | (go_at_call 44; refine (l6In_any _ _ _ _).mono ?_; rintro e w' ⟨rfl, rfl⟩))
  go_wp2
  go_ret
  exact ⟨rfl, Below.trans (by (repeat' (first | (with_reducible assumption) | (with_reducible exact Below.refl _ _) | (with_reducible refine bdN ?_ _) | (with_reducible refine Below.alloc ?_ ?_ _) | (with_reducible refine Below.drew ?_) | (with_reducible refine Below.setCell ?_ ?_ _) | go_size))) (b.mono (by simp))⟩

set_option maxHeartbeats 400000 in
theorem yb_i (y : Int) (w : World) (h1 : 1 ≤ y) (h2 : y ≤ 10000) : Calls Tryd.prog 53 #[.int .i64 y] w fun e w' => e = .returned (.int .i64 (yb y)) ∧ w = w' := by
  go_enter Tryd.func53, Tryd.ntmps53
  go_wp2
  go_ret
  exact ⟨ret_int (by unfold yb; omega), rfl⟩
set_option maxHeartbeats 400000 in
theorem yb_s (y : Int) (w : World) (h1 : 1 ≤ y) (h2 : y ≤ 10000) : Calls Tryd.prog 65 #[.int .i64 y] w fun e w' => e = .returned (.int .i64 (yb y)) ∧ w = w' := by
  go_enter Tryd.func65, Tryd.ntmps65
  go_wp2
  go_ret
  exact ⟨ret_int (by unfold yb; omega), rfl⟩

set_option maxHeartbeats 1000000 in
theorem ord_i (y m d : Int) (w : World) (T : Tab w) (h : vd y m d = true) : Calls Tryd.prog 54 #[.agg #[.int .i64 y, .int .i64 m, .int .i64 d]] w fun e w' => e = .returned (.int .i64 (mc y m + d)) ∧ w' = w.alloc (.cells #[.int .i64 y, .int .i64 m, .int .i64 d] 26) := by
  obtain ⟨y1, y2, m1, m2, d1, d2⟩ := vd_iff.1 h
  have d3 := (md_bd y m).2
  have T1 := Lib.hid (tab_alloc T (.cells #[.int .i64 y, .int .i64 m, .int .i64 d] 26))
  have one := mc_one y
  clear T h
  go_enter Tryd.func54, Tryd.ntmps54
  have O := Lib.hid one
  clear one
  go_wp2
  go_loop [3, 4] (fun n k => ∃ j : Int, 1 ≤ j ∧ j ≤ m ∧ k = .int .i64 j ∧ n = .int .i64 (mc y j + d)) (fun _ k => (m - intOf k).toNat)
  case atStart => exact ⟨1, by omega, by omega, rfl, by rw [O.out]; simp⟩
  case round =>
    obtain ⟨j, j1, j2, rfl, rfl⟩ := hrel
    have b1 := mc_bd y j j1 (by omega)
    by_cases hj : j < m
    · have b2 := md_pos y j y1 y2 j1 (by omega)
      have S := Lib.hid (mc_succ y j y1 y2 j1 (by omega))
      go_wp2_with (go_at_call 51; refine (mdays_i _ _ _ T1.out).mono ?_; rintro e w' ⟨rfl, rfl⟩)
      go_round
      case rel => exact ⟨j + 1, by omega, by omega, rfl, by rw [S.out]; go_num⟩
      case measure => simp [intOf]; omega
    · obtain rfl : j = m := by omega
      go_wp2
      go_ret
      exact ⟨rfl, rfl⟩

set_option maxHeartbeats 1000000 in
theorem mc_s (y m : Int) (w : World) (y1 : 1 ≤ y) (y2 : y ≤ 9999) (m1 : 1 ≤ m) (m2 : m ≤ 13) : Calls Tryd.prog 50 #[.int .i64 y, .int .i64 m] w fun e w' => e = .returned (.int .i64 (mc y m)) ∧ Below w.heap.size w w' := by
  have O := Lib.hid (mc_one y)
  go_enter Tryd.func50, Tryd.ntmps50
  go_wp2
  go_loopw [5, 6] (fun n k wr => ∃ j : Int, 1 ≤ j ∧ j ≤ m ∧ k = .int .i64 j ∧ n = .int .i64 (mc y j) ∧ Below w.heap.size w wr) (fun _ k _ => (m - intOf k).toNat)
  case atStart => exact ⟨1, by omega, by omega, rfl, by rw [O.out], Below.refl _ _⟩
  case round =>
    obtain ⟨j, j1, j2, rfl, rfl, hB⟩ := hrel
    have b1 := mc_bd y j j1 (by omega)
    by_cases hj : j < m
    · have b2 := md_pos y j y1 y2 j1 (by omega)
      have S := Lib.hid (mc_succ y j y1 y2 j1 (by omega))
      go_wp2_with (go_at_call 45; refine (mdays_s _ _ _).mono ?_; rintro e w' ⟨rfl, b⟩)
      go_roundw
      case rel => exact ⟨j + 1, by omega, by omega, rfl, by rw [S.out], hB.trans (b.mono hB.size)⟩
      case measure => simp [intOf]; omega
    · obtain rfl : j = m := by omega
      go_wp2
      go_ret
      exact ⟨rfl, hB⟩

set_option maxHeartbeats 1000000 in
theorem num_i (y m d : Int) (w : World) (T : Tab w) (h : vd y m d = true) : Calls Tryd.prog 33 #[.agg #[.int .i64 y, .int .i64 m, .int .i64 d]] w fun e w' => e = .returned (.int .i64 (dn y m d)) ∧ Below w.heap.size w w' := by
  have T1 := Lib.hid (tab_alloc T (.cells #[.int .i64 y, .int .i64 m, .int .i64 d] 26))
  obtain ⟨y1, y2, m1, m2, d1, d2⟩ := vd_iff.1 h
  have d3 := (md_bd y m).2
  have H := Lib.hid h
  have b1 := mc_bd y m m1 (by omega)
  have b2 := yb_bd y y1 (by omega)
  have E := Lib.hid (show dn y m d = yb y + mc y m + d - 1 from rfl)
  have k1 : IntKind.i64.wrap (yb y + (mc y m + d)) = yb y + (mc y m + d) := IntWalk.i64_in _ (by omega)
  have k2 : IntKind.i64.wrap (yb y + (mc y m + d) - 1) = yb y + (mc y m + d) - 1 := IntWalk.i64_in _ (by omega)
  clear h T
  go_enter Tryd.func33, Tryd.ntmps33
  go_wp2
  go_region_held3 (fun w' => w'.cell? ⟨w.heap.size, 0, none⟩ = some (.int .i64 y) ∧ w'.cell? ⟨w.heap.size, 1, none⟩ = some (.int .i64 m) ∧ w'.cell? ⟨w.heap.size, 2, none⟩ = some (.int .i64 d)) (go_simp)
    (first
      | (go_at_call 53; refine (yb_i _ _ y1 (by omega)).mono ?_; rintro e w' ⟨rfl, rfl⟩)
      | (go_at_call 54; refine (ord_i _ _ _ _ (by exact T1.out) H.out).mono ?_; rintro e w' ⟨rfl, rfl⟩))
  all_goals
    go_wp2
    go_ret
    exact ⟨ret_int (by rw [E.out]; omega), by (repeat' (first | (with_reducible assumption) | (with_reducible exact Below.refl _ _) | (with_reducible refine bdN ?_ _) | (with_reducible refine Below.alloc ?_ ?_ _) | (with_reducible refine Below.drew ?_) | (with_reducible refine Below.setCell ?_ ?_ _) | go_size))⟩

set_option maxHeartbeats 1000000 in
theorem dayNumber_i (y m d : Int) (w : World) (T : Tab w) (b : Bool) (h : vd y m d = b) : Calls Tryd.prog 13 #[.agg #[.int .i64 y, .int .i64 m, .int .i64 d]] w fun e w' => e = .returned (.int .i64 (bif b then dn y m d else -1)) ∧ Below w.heap.size w w' := by
  have V := Lib.hid (fun w T => vd_i y m d w T)
  rw [h] at V
  have T1 := Lib.hid (tab_alloc T (.cells #[.int .i64 y, .int .i64 m, .int .i64 d] 26))
  clear T
  cases b
  · clear h
    go_enter Tryd.func13, Tryd.ntmps13
    go_wp2_with fail
    refine (V.out _ T1.out).mono ?_
    rintro e w1 ⟨rfl, bw1⟩
    obtain ⟨hcw1, hfw1⟩ := bcell bw1
    have sw1 := bw1.size
    (try simp at sw1)
    have Aw1 : Below w.heap.size w w1 := Below.trans (by (repeat' (first | (with_reducible assumption) | (with_reducible exact Below.refl _ _) | (with_reducible refine bdN ?_ _) | (with_reducible refine Below.alloc ?_ ?_ _) | (with_reducible refine Below.drew ?_) | (with_reducible refine Below.setCell ?_ ?_ _) | go_size))) (bw1.mono (by go_size))
    clear bw1
    have lw1_0 : w.heap.size < w1.heap.size := by omega
    go_wp2_with fail
    go_ret
    exact ⟨rfl, by (repeat' (first | (with_reducible assumption) | (with_reducible exact Below.refl _ _) | (with_reducible refine bdN ?_ _) | (with_reducible refine Below.alloc ?_ ?_ _) | (with_reducible refine Below.drew ?_) | (with_reducible refine Below.setCell ?_ ?_ _) | go_size))⟩
  · have H := Lib.hid h
    clear h
    go_enter Tryd.func13, Tryd.ntmps13
    go_wp2_with fail
    refine (V.out _ T1.out).mono ?_
    rintro e w1 ⟨rfl, b1⟩
    have T2 := Lib.hid (tab_keep T1.out b1)
    obtain ⟨hc1, hf1⟩ := bcell b1
    have A1 : Below w.heap.size w w1 := Below.trans (by (repeat' (first | (with_reducible assumption) | (with_reducible exact Below.refl _ _) | (with_reducible refine bdN ?_ _) | (with_reducible refine Below.alloc ?_ ?_ _) | (with_reducible refine Below.drew ?_) | (with_reducible refine Below.setCell ?_ ?_ _) | go_size))) (b1.mono (by go_size))
    have s1 := b1.size
    simp at s1
    clear b1
    go_wp2_with fail
    refine (num_i _ _ _ _ T2.out H.out).mono ?_
    rintro e w2 ⟨rfl, bw2⟩
    obtain ⟨hcw2, hfw2⟩ := bcell bw2
    have sw2 := bw2.size
    (try simp at sw2)
    have Aw2 : Below w.heap.size w w2 := Below.trans (by (repeat' (first | (with_reducible assumption) | (with_reducible exact Below.refl _ _) | (with_reducible refine bdN ?_ _) | (with_reducible refine Below.alloc ?_ ?_ _) | (with_reducible refine Below.drew ?_) | (with_reducible refine Below.setCell ?_ ?_ _) | go_size))) (bw2.mono (by go_size))
    clear bw2
    go_wp2_with fail
    go_ret
    exact ⟨rfl, by (repeat' (first | (with_reducible assumption) | (with_reducible exact Below.refl _ _) | (with_reducible refine bdN ?_ _) | (with_reducible refine Below.alloc ?_ ?_ _) | (with_reducible refine Below.drew ?_) | (with_reducible refine Below.setCell ?_ ?_ _) | go_size))⟩

set_option maxHeartbeats 1000000 in
theorem dayNumber_s (y m d : Int) (w : World) (b : Bool) (h : vd y m d = b) : Calls Tryd.prog 48 #[.agg #[.int .i64 y, .int .i64 m, .int .i64 d]] w fun e w' => e = .returned (.int .i64 (bif b then dn y m d else -1)) ∧ Below w.heap.size w w' := by
  have V := Lib.hid (fun w => vd_s y m d w)
  rw [h] at V
  cases b
  · clear h
    go_enter Tryd.func48, Tryd.ntmps48
    go_wp2_with fail
    refine (V.out _).mono ?_
    rintro e w1 ⟨rfl, bw1⟩
    obtain ⟨hcw1, hfw1⟩ := bcell bw1
    have sw1 := bw1.size
    (try simp at sw1)
    have Aw1 : Below w.heap.size w w1 := Below.trans (by (repeat' (first | (with_reducible assumption) | (with_reducible exact Below.refl _ _) | (with_reducible refine bdN ?_ _) | (with_reducible refine Below.alloc ?_ ?_ _) | (with_reducible refine Below.drew ?_) | (with_reducible refine Below.setCell ?_ ?_ _) | go_size))) (bw1.mono (by go_size))
    clear bw1
    have lw1_0 : w.heap.size < w1.heap.size := by omega
    go_wp2_with fail
    go_ret
    exact ⟨rfl, by (repeat' (first | (with_reducible assumption) | (with_reducible exact Below.refl _ _) | (with_reducible refine bdN ?_ _) | (with_reducible refine Below.alloc ?_ ?_ _) | (with_reducible refine Below.drew ?_) | (with_reducible refine Below.setCell ?_ ?_ _) | go_size))⟩
  · obtain ⟨y1, y2, m1, m2, d1, d2⟩ := vd_iff.1 h
    have d3 := (md_bd y m).2
    have b1 := mc_bd y m m1 (by omega)
    have b2 := yb_bd y y1 (by omega)
    have E := Lib.hid (show dn y m d = yb y + mc y m + d - 1 from rfl)
    have k1 : IntKind.i64.wrap (yb y + mc y m) = yb y + mc y m := IntWalk.i64_in _ (by omega)
    have k2 : IntKind.i64.wrap (yb y + mc y m + d) = yb y + mc y m + d := IntWalk.i64_in _ (by omega)
    have k3 : IntKind.i64.wrap (yb y + mc y m + d - 1) = yb y + mc y m + d - 1 := IntWalk.i64_in _ (by omega)
    clear h
    go_enter Tryd.func48, Tryd.ntmps48
    go_wp2_with fail
    refine (V.out _).mono ?_
    rintro e w1 ⟨rfl, bw1⟩
    obtain ⟨hcw1, hfw1⟩ := bcell bw1
    have sw1 := bw1.size
    (try simp at sw1)
    have Aw1 : Below w.heap.size w w1 := Below.trans (by (repeat' (first | (with_reducible assumption) | (with_reducible exact Below.refl _ _) | (with_reducible refine bdN ?_ _) | (with_reducible refine Below.alloc ?_ ?_ _) | (with_reducible refine Below.drew ?_) | (with_reducible refine Below.setCell ?_ ?_ _) | go_size))) (bw1.mono (by go_size))
    clear bw1
    have lw1_0 : w.heap.size < w1.heap.size := by omega
    have zw1_wH : CellsAt w1 (w.heap.size) 0 [.int .i64 y, .int .i64 m, .int .i64 d] := cells_keep (by simp only [CellsAt]; go_simp) (fun o => hcw1 _ o (by go_size)) (fun o => hfw1 _ o (by go_size))
    simp only [CellsAt] at zw1_wH
    clear hcw1 hfw1
    go_wp2_with fail
    go_region_held3 (fun w' => w'.cell? ⟨w.heap.size, 0, none⟩ = some (.int .i64 y) ∧ w'.cell? ⟨w.heap.size, 1, none⟩ = some (.int .i64 m) ∧ w'.cell? ⟨w.heap.size, 2, none⟩ = some (.int .i64 d)) (go_simp)
      (first
        | (go_at_call 65; refine (yb_s _ _ y1 (by omega)).mono ?_; rintro e w' ⟨rfl, rfl⟩)
        | (go_at_call 50; refine (mc_s _ _ _ y1 y2 m1 (by omega)).mono ?_; rintro e w' ⟨rfl, b⟩; have hc := fun o => (bcell b).1 w.heap.size o (by simp; omega)))
    all_goals
      go_wp2
      go_ret
      exact ⟨ret_int (by simp [E.out]), Below.trans (by (repeat' (first | (with_reducible assumption) | (with_reducible exact Below.refl _ _) | (with_reducible refine bdN ?_ _) | (with_reducible refine Below.alloc ?_ ?_ _) | (with_reducible refine Below.drew ?_) | (with_reducible refine Below.setCell ?_ ?_ _) | go_size))) (b.mono (by simp; omega))⟩
end Go.Proofs.YtfailbghnpfcdaaDoor
