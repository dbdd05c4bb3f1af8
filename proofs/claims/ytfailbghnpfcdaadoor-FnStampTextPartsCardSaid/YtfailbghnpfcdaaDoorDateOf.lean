/- Contracts of DateOf, by the program and by the reference. Conditions: the program's table of the months' days stands in memory ('Tab'). -/
import Derived.Test.YtfailbghnpfcdaaDoorDateAt
namespace Go.Proofs.YtfailbghnpfcdaaDoor
open Go.RowKit DN

/-- what DateOf gives for a day: its date, or nothing -/
def OfDay (n y m d : Int) (b : Bool) : Prop := (b = true ∧ IsD n y m d) ∨ (b = false ∧ ¬ (0 ≤ n ∧ n ≤ 3652058) ∧ y = 0 ∧ m = 0 ∧ d = 0)
theorem ofDay_ex (n : Int) : ∃ y m d b, OfDay n y m d b := by
  by_cases h : 0 ≤ n ∧ n ≤ 3652058
  · obtain ⟨y, m, d, hd⟩ := isD_ex h.1 h.2
    exact ⟨y, m, d, true, .inl ⟨rfl, hd⟩⟩
  · exact ⟨0, 0, 0, false, .inr ⟨rfl, h, rfl, rfl, rfl⟩⟩

set_option maxHeartbeats 1000000 in
theorem dateOf_i (n y m d : Int) (b : Bool) (w : World) (T : Tab w) (h : OfDay n y m d b) : Calls Tryd.prog 12 #[.int .i64 n] w fun e w' => e = .returned (.tuple #[.agg #[.int .i64 y, .int .i64 m, .int .i64 d], .bool b]) ∧ Below w.heap.size w w' := by
  have T1 := Lib.hid (tab_alloc T (.cells #[.int .i64 0, .int .i64 0, .int .i64 0] 26))
  have V := Lib.hid (fun w => within_any n 0 3652058 w)
  rcases h with ⟨rfl, hd⟩ | ⟨rfl, hn, rfl, rfl, rfl⟩
  · obtain ⟨n1, n2⟩ := isD_bd hd
    rw [inB_t n1 n2] at V
    have D := Lib.hid hd
    clear T hd
    go_enter Tryd.func12, Tryd.ntmps12
    go_wp2_with (go_at_call 26; refine (V.out _).mono ?_; rintro e w' ⟨rfl, rfl⟩)
    refine (dateAt_i _ _ _ _ _ T1.out D.out).mono ?_
    rintro e w1 ⟨rfl, bw1⟩
    obtain ⟨hcw1, hfw1⟩ := bcell bw1
    have sw1 := bw1.size
    (try simp at sw1)
    have Aw1 : Below w.heap.size w w1 := Below.trans (by (repeat' (first | (with_reducible assumption) | (with_reducible exact Below.refl _ _) | (with_reducible refine bdN ?_ _) | (with_reducible refine Below.alloc ?_ ?_ _) | (with_reducible refine Below.drew ?_) | (with_reducible refine Below.setCell ?_ ?_ _) | go_size))) (bw1.mono (by go_size))
    clear bw1
    have lw1_0 : w.heap.size < w1.heap.size := by omega
    have zw1_wH : CellsAt w1 (w.heap.size) 0 [.int .i64 0, .int .i64 0, .int .i64 0] := cells_keep (by simp only [CellsAt]; go_simp) (fun o => hcw1 _ o (by go_size)) (fun o => hfw1 _ o (by go_size))
    simp only [CellsAt] at zw1_wH
    clear hcw1 hfw1
    go_wp2_with fail
    exact bodyPost_ret (v := .tuple #[.agg #[.int .i64 y, .int .i64 m, .int .i64 d], .bool true]) (by simp [results, Tryd.results12, go_sem, zw1_wH]) rfl ⟨rfl, by (repeat' (first | (with_reducible assumption) | (with_reducible exact Below.refl _ _) | (with_reducible refine bdN ?_ _) | (with_reducible refine Below.alloc ?_ ?_ _) | (with_reducible refine Below.drew ?_) | (with_reducible refine Below.setCell ?_ ?_ _) | go_size))⟩
  · rw [inB_f hn] at V
    clear T hn
    go_enter Tryd.func12, Tryd.ntmps12
    go_wp2_with (go_at_call 26; refine (V.out _).mono ?_; rintro e w' ⟨rfl, rfl⟩)
    go_returns
    exact ⟨rfl, by (repeat' (first | (with_reducible assumption) | (with_reducible exact Below.refl _ _) | (with_reducible refine bdN ?_ _) | (with_reducible refine Below.alloc ?_ ?_ _) | (with_reducible refine Below.drew ?_) | (with_reducible refine Below.setCell ?_ ?_ _) | go_size))⟩

end Go.Proofs.YtfailbghnpfcdaaDoor
