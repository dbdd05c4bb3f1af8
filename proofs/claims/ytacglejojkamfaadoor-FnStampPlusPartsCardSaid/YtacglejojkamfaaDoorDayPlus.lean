/- Contracts of DayPlus and, joined, of MonthPlus, by the program and by the reference: both give the same. Conditions: the program's table of the months' days stands in memory ('Tab'). -/
import Derived.Test.YtacglejojkamfaaDoorShiftS
namespace Go.Proofs.YtacglejojkamfaaDoor
open Go.RowKit DN

/-- what DayPlus gives: a date, or nothing -/
def DpIs (y m d k Y M D : Int) (b : Bool) : Prop :=
  (b = true ∧ vd y m d = true ∧ -3652058 ≤ k ∧ k ≤ 3652058 ∧ IsD (dn y m d + k) Y M D) ∨
  (b = false ∧ ¬ (vd y m d = true ∧ -3652058 ≤ k ∧ k ≤ 3652058 ∧ 0 ≤ dn y m d + k ∧ dn y m d + k ≤ 3652058) ∧ Y = 0 ∧ M = 0 ∧ D = 0)
theorem dpIs_ex (y m d k : Int) : ∃ Y M D b, DpIs y m d k Y M D b := by
  by_cases h : vd y m d = true ∧ -3652058 ≤ k ∧ k ≤ 3652058 ∧ 0 ≤ dn y m d + k ∧ dn y m d + k ≤ 3652058
  · obtain ⟨Y, M, D, hd⟩ := isD_ex h.2.2.2.1 h.2.2.2.2
    exact ⟨Y, M, D, true, .inl ⟨rfl, h.1, h.2.1, h.2.2.1, hd⟩⟩
  · exact ⟨0, 0, 0, false, .inr ⟨rfl, h, rfl, rfl, rfl⟩⟩
theorem dp_no {y m d k Y M D : Int} {b : Bool} (h : DpIs y m d k Y M D b) (hn : ¬ (vd y m d = true ∧ -3652058 ≤ k ∧ k ≤ 3652058)) : b = false ∧ Y = 0 ∧ M = 0 ∧ D = 0 := by
  rcases h with h | h
  · exact absurd ⟨h.2.1, h.2.2.1, h.2.2.2.1⟩ hn
  · exact ⟨h.1, h.2.2⟩
theorem dp_of {y m d k Y M D : Int} {b : Bool} (h : DpIs y m d k Y M D b) (hv : vd y m d = true) (hk : -3652058 ≤ k ∧ k ≤ 3652058) : OfDay (dn y m d + k) Y M D b := by
  rcases h with h | h
  · exact .inl ⟨h.1, h.2.2.2.2⟩
  · exact .inr ⟨h.1, fun hb => h.2.1 ⟨hv, hk.1, hk.2, hb.1, hb.2⟩, h.2.2⟩

theorem monthPlus_i (y m d k Y M D : Int) (b : Bool) (w : World) (T : Tab w) (h : MpIs y m d k Y M D b) : Calls Tryd.prog 96 #[.agg #[.int .i64 y, .int .i64 m, .int .i64 d], .int .i64 k] w fun e w' => e = .returned (.tuple #[.agg #[.int .i64 Y, .int .i64 M, .int .i64 D], .bool b]) ∧ Below w.heap.size w w' := by
  rcases h with ⟨rfl, h1, h2, h3, h4, h5, rfl, rfl, rfl⟩ | ⟨rfl, h, rfl, rfl, rfl⟩
  · exact monthPlus_yes y m d k w T h1 h2 h3 h4 h5
  · exact monthPlus_no y m d k w T h
theorem monthPlus_s (y m d k Y M D : Int) (b : Bool) (w : World) (h : MpIs y m d k Y M D b) : Calls Tryd.prog 92 #[.agg #[.int .i64 y, .int .i64 m, .int .i64 d], .int .i64 k] w fun e w' => e = .returned (.tuple #[.agg #[.int .i64 Y, .int .i64 M, .int .i64 D], .bool b]) ∧ Below w.heap.size w w' := by
  rcases h with ⟨rfl, h1, h2, h3, h4, h5, rfl, rfl, rfl⟩ | ⟨rfl, h, rfl, rfl, rfl⟩
  · exact monthPlusS_yes y m d k w h1 h2 h3 h4 h5
  · exact monthPlusS_no y m d k w h

set_option maxHeartbeats 2000000 in
theorem dayPlus_i (y m d k Y M D : Int) (b : Bool) (w : World) (T : Tab w) (h : DpIs y m d k Y M D b) : Calls Tryd.prog 100 #[.agg #[.int .i64 y, .int .i64 m, .int .i64 d], .int .i64 k] w fun e w' => e = .returned (.tuple #[.agg #[.int .i64 Y, .int .i64 M, .int .i64 D], .bool b]) ∧ Below w.heap.size w w' := by
  have T1 := Lib.hid (tab_alloc (tab_alloc T (.cells #[.int .i64 y, .int .i64 m, .int .i64 d] 29)) (.cells #[.int .i64 0, .int .i64 0, .int .i64 0] 29))
  clear T
  cases hv : vd y m d
  · obtain ⟨rfl, rfl, rfl, rfl⟩ := dp_no h (by simp [hv])
    have V := Lib.hid (fun w T => vd_ib y m d w T false hv)
    clear h hv
    go_enter Tryd.func100, Tryd.ntmps100
    go_wp2_with fail
    refine (V.out _ T1.out).mono ?_
    rintro e w1 ⟨rfl, bw1⟩
    obtain ⟨hcw1, hfw1⟩ := bcell bw1
    have sw1 := bw1.size
    (try simp at sw1)
    have Aw1 : Below w.heap.size w w1 := Below.trans (by (repeat' (first | (with_reducible assumption) | (with_reducible exact Below.refl _ _) | (with_reducible refine bdN ?_ _) | (with_reducible refine Below.alloc ?_ ?_ _) | (with_reducible refine Below.drew ?_) | (with_reducible refine Below.setCell ?_ ?_ _) | go_size))) (bw1.mono (by go_size))
    clear bw1
    have lw1_0 : w.heap.size < w1.heap.size := by omega
    have lw1_1 : w.heap.size+1 < w1.heap.size := by omega
    have zw1_wH1 : CellsAt w1 (w.heap.size+1) 0 [.int .i64 0, .int .i64 0, .int .i64 0] := cells_keep (by simp only [CellsAt]; go_simp) (fun o => hcw1 _ o (by go_size)) (fun o => hfw1 _ o (by go_size))
    simp only [CellsAt] at zw1_wH1
    clear hcw1 hfw1
    go_wp2_with fail
    exact bodyPost_ret (v := .tuple #[.agg #[.int .i64 0, .int .i64 0, .int .i64 0], .bool false]) (by simp [results, Tryd.results100, go_sem, zw1_wH1]) rfl ⟨rfl, by (repeat' (first | (with_reducible assumption) | (with_reducible exact Below.refl _ _) | (with_reducible refine bdN ?_ _) | (with_reducible refine Below.alloc ?_ ?_ _) | (with_reducible refine Below.drew ?_) | (with_reducible refine Below.setCell ?_ ?_ _) | go_size))⟩
  · have V := Lib.hid (fun w T => vd_ib y m d w T true hv)
    obtain ⟨y1, y2, m1, m2, d1, d2⟩ := vd_iff.1 hv
    obtain ⟨q1, q2⟩ := dn_bd hv
    have H := Lib.hid hv
    by_cases hk : -3652058 ≤ k ∧ k ≤ 3652058
    · have K := Lib.hid (fun w => within_b k (-3652058) 3652058 true (inB_t hk.1 hk.2) w)
      obtain ⟨k1, k2⟩ := hk
      have O := dp_of h hv ⟨k1, k2⟩
      clear h hv
      go_enter Tryd.func100, Tryd.ntmps100
      go_wp2_with fail
      refine (V.out _ T1.out).mono ?_
      rintro e w1 ⟨rfl, b1⟩
      have T2 := Lib.hid (tab_keep T1.out b1)
      obtain ⟨hcw1, hfw1⟩ := bcell b1
      have Aw1 : Below w.heap.size w w1 := Below.trans (by (repeat' (first | (with_reducible assumption) | (with_reducible exact Below.refl _ _) | (with_reducible refine bdN ?_ _) | (with_reducible refine Below.alloc ?_ ?_ _) | (with_reducible refine Below.drew ?_) | (with_reducible refine Below.setCell ?_ ?_ _) | go_size))) (b1.mono (by go_size))
      have s1 := b1.size
      simp at s1
      have lw1_0 : w.heap.size < w1.heap.size := by omega
      have lw1_1 : w.heap.size + 1 < w1.heap.size := by omega
      clear b1
      have zw1_wH : CellsAt w1 (w.heap.size) 0 [.int .i64 y, .int .i64 m, .int .i64 d] := cells_keep (by simp only [CellsAt]; go_simp) (fun o => hcw1 _ o (by go_size)) (fun o => hfw1 _ o (by go_size))
      simp only [CellsAt] at zw1_wH
      have zw1_wH1 : CellsAt w1 (w.heap.size+1) 0 [.int .i64 0, .int .i64 0, .int .i64 0] := cells_keep (by simp only [CellsAt]; go_simp) (fun o => hcw1 _ o (by go_size)) (fun o => hfw1 _ o (by go_size))
      simp only [CellsAt] at zw1_wH1
      clear hcw1 hfw1
      go_wp2_with fail
      refine (K.out _).mono ?_
      rintro e w' ⟨rfl, rfl⟩
      go_wp2_with fail
      refine (num_i _ _ _ _ T2.out H.out).mono ?_
      rintro e w2 ⟨rfl, b2⟩
      have T3 := Lib.hid (tab_keep T2.out b2)
      obtain ⟨hcw2, hfw2⟩ := bcell b2
      have Aw2 : Below w.heap.size w w2 := Below.trans (by (repeat' (first | (with_reducible assumption) | (with_reducible exact Below.refl _ _) | (with_reducible refine bdN ?_ _) | (with_reducible refine Below.alloc ?_ ?_ _) | (with_reducible refine Below.drew ?_) | (with_reducible refine Below.setCell ?_ ?_ _) | go_size))) (b2.mono (by go_size))
      have s2 := b2.size
      (try simp at s2)
      have lw2_0 : w.heap.size < w2.heap.size := by omega
      have lw2_1 : w.heap.size + 1 < w2.heap.size := by omega
      clear b2
      have zw2_wH1 : CellsAt w2 (w.heap.size+1) 0 [.int .i64 0, .int .i64 0, .int .i64 0] := cells_keep (by simp only [CellsAt]; go_simp) (fun o => hcw2 _ o (by go_size)) (fun o => hfw2 _ o (by go_size))
      simp only [CellsAt] at zw2_wH1
      clear hcw2 hfw2
      go_wp2_with fail
      refine (dateOf_i _ _ _ _ _ _ T3.out O).mono ?_
      rintro e w3 ⟨rfl, bw3⟩
      obtain ⟨hcw3, hfw3⟩ := bcell bw3
      have sw3 := bw3.size
      (try simp at sw3)
      have Aw3 : Below w.heap.size w w3 := Below.trans (by (repeat' (first | (with_reducible assumption) | (with_reducible exact Below.refl _ _) | (with_reducible refine bdN ?_ _) | (with_reducible refine Below.alloc ?_ ?_ _) | (with_reducible refine Below.drew ?_) | (with_reducible refine Below.setCell ?_ ?_ _) | go_size))) (bw3.mono (by go_size))
      clear bw3
      have lw3_0 : w.heap.size < w3.heap.size := by omega
      have lw3_1 : w.heap.size+1 < w3.heap.size := by omega
      have zw3_wH1 : CellsAt w3 (w.heap.size+1) 0 [.int .i64 0, .int .i64 0, .int .i64 0] := cells_keep (by simp only [CellsAt]; go_simp) (fun o => hcw3 _ o (by go_size)) (fun o => hfw3 _ o (by go_size))
      simp only [CellsAt] at zw3_wH1
      clear hcw3 hfw3
      go_wp2_with fail
      exact bodyPost_ret (v := .tuple #[.agg #[.int .i64 Y, .int .i64 M, .int .i64 D], .bool b]) (by simp [results, Tryd.results100, go_sem, zw3_wH1]) rfl ⟨rfl, by (repeat' (first | (with_reducible assumption) | (with_reducible exact Below.refl _ _) | (with_reducible refine bdN ?_ _) | (with_reducible refine Below.alloc ?_ ?_ _) | (with_reducible refine Below.drew ?_) | (with_reducible refine Below.setCell ?_ ?_ _) | go_size))⟩
    · have K := Lib.hid (fun w => within_b k (-3652058) 3652058 false (inB_f hk) w)
      obtain ⟨rfl, rfl, rfl, rfl⟩ := dp_no h (by simp only [not_and]; intro _ a b; exact absurd ⟨a, b⟩ hk)
      clear h hk hv
      go_enter Tryd.func100, Tryd.ntmps100
      go_wp2_with fail
      refine (V.out _ T1.out).mono ?_
      rintro e w1 ⟨rfl, bw1⟩
      obtain ⟨hcw1, hfw1⟩ := bcell bw1
      have sw1 := bw1.size
      (try simp at sw1)
      have Aw1 : Below w.heap.size w w1 := Below.trans (by (repeat' (first | (with_reducible assumption) | (with_reducible exact Below.refl _ _) | (with_reducible refine bdN ?_ _) | (with_reducible refine Below.alloc ?_ ?_ _) | (with_reducible refine Below.drew ?_) | (with_reducible refine Below.setCell ?_ ?_ _) | go_size))) (bw1.mono (by go_size))
      clear bw1
      have lw1_0 : w.heap.size < w1.heap.size := by omega
      have lw1_1 : w.heap.size+1 < w1.heap.size := by omega
      have zw1_wH1 : CellsAt w1 (w.heap.size+1) 0 [.int .i64 0, .int .i64 0, .int .i64 0] := cells_keep (by simp only [CellsAt]; go_simp) (fun o => hcw1 _ o (by go_size)) (fun o => hfw1 _ o (by go_size))
      simp only [CellsAt] at zw1_wH1
      clear hcw1 hfw1
      go_wp2_with fail
      refine (K.out _).mono ?_
      rintro e w' ⟨rfl, rfl⟩
      go_wp2_with fail
      exact bodyPost_ret (v := .tuple #[.agg #[.int .i64 0, .int .i64 0, .int .i64 0], .bool false]) (by simp [results, Tryd.results100, go_sem, zw1_wH1]) rfl ⟨rfl, by (repeat' (first | (with_reducible assumption) | (with_reducible exact Below.refl _ _) | (with_reducible refine bdN ?_ _) | (with_reducible refine Below.alloc ?_ ?_ _) | (with_reducible refine Below.drew ?_) | (with_reducible refine Below.setCell ?_ ?_ _) | go_size))⟩

set_option maxHeartbeats 2000000 in
theorem dayPlus_s (y m d k Y M D : Int) (b : Bool) (w : World) (h : DpIs y m d k Y M D b) : Calls Tryd.prog 93 #[.agg #[.int .i64 y, .int .i64 m, .int .i64 d], .int .i64 k] w fun e w' => e = .returned (.tuple #[.agg #[.int .i64 Y, .int .i64 M, .int .i64 D], .bool b]) ∧ Below w.heap.size w w' := by
  cases hv : vd y m d
  · obtain ⟨rfl, rfl, rfl, rfl⟩ := dp_no h (by simp [hv])
    have V := Lib.hid (fun w => vd_sb y m d w false hv)
    clear h hv
    go_enter Tryd.func93, Tryd.ntmps93
    go_wp2_with fail
    refine (V.out _).mono ?_
    rintro e w1 ⟨rfl, bw1⟩
    obtain ⟨hcw1, hfw1⟩ := bcell bw1
    have sw1 := bw1.size
    (try simp at sw1)
    have Aw1 : Below w.heap.size w w1 := Below.trans (by (repeat' (first | (with_reducible assumption) | (with_reducible exact Below.refl _ _) | (with_reducible refine bdN ?_ _) | (with_reducible refine Below.alloc ?_ ?_ _) | (with_reducible refine Below.drew ?_) | (with_reducible refine Below.setCell ?_ ?_ _) | go_size))) (bw1.mono (by go_size))
    clear bw1
    have lw1_0 : w.heap.size < w1.heap.size := by omega
    have lw1_1 : w.heap.size+1 < w1.heap.size := by omega
    have zw1_wH1 : CellsAt w1 (w.heap.size+1) 0 [.int .i64 0, .int .i64 0, .int .i64 0] := cells_keep (by simp only [CellsAt]; go_simp) (fun o => hcw1 _ o (by go_size)) (fun o => hfw1 _ o (by go_size))
    simp only [CellsAt] at zw1_wH1
    clear hcw1 hfw1
    go_wp2_with fail
    exact bodyPost_ret (v := .tuple #[.agg #[.int .i64 0, .int .i64 0, .int .i64 0], .bool false]) (by simp [results, Tryd.results93, go_sem, zw1_wH1]) rfl ⟨rfl, by (repeat' (first | (with_reducible assumption) | (with_reducible exact Below.refl _ _) | (with_reducible refine bdN ?_ _) | (with_reducible refine Below.alloc ?_ ?_ _) | (with_reducible refine Below.drew ?_) | (with_reducible refine Below.setCell ?_ ?_ _) | go_size))⟩
  · have V := Lib.hid (fun w => vd_sb y m d w true hv)
    obtain ⟨y1, y2, m1, m2, d1, d2⟩ := vd_iff.1 hv
    obtain ⟨q1, q2⟩ := dn_bd hv
    have H := Lib.hid hv
    by_cases hk : -3652058 ≤ k ∧ k ≤ 3652058
    · have K := Lib.hid (fun w => l6In_b k (-3652058) 3652058 true (inB_t hk.1 hk.2) w)
      obtain ⟨k1, k2⟩ := hk
      have O := dp_of h hv ⟨k1, k2⟩
      clear h hv
      go_enter Tryd.func93, Tryd.ntmps93
      go_wp2_with fail
      refine (V.out _).mono ?_
      rintro e w1 ⟨rfl, bw1⟩
      obtain ⟨hcw1, hfw1⟩ := bcell bw1
      have sw1 := bw1.size
      (try simp at sw1)
      have Aw1 : Below w.heap.size w w1 := Below.trans (by (repeat' (first | (with_reducible assumption) | (with_reducible exact Below.refl _ _) | (with_reducible refine bdN ?_ _) | (with_reducible refine Below.alloc ?_ ?_ _) | (with_reducible refine Below.drew ?_) | (with_reducible refine Below.setCell ?_ ?_ _) | go_size))) (bw1.mono (by go_size))
      clear bw1
      have lw1_0 : w.heap.size < w1.heap.size := by omega
      have lw1_1 : w.heap.size+1 < w1.heap.size := by omega
      have zw1_wH : CellsAt w1 (w.heap.size) 0 [.int .i64 y, .int .i64 m, .int .i64 d] := cells_keep (by simp only [CellsAt]; go_simp) (fun o => hcw1 _ o (by go_size)) (fun o => hfw1 _ o (by go_size))
      simp only [CellsAt] at zw1_wH
      have zw1_wH1 : CellsAt w1 (w.heap.size+1) 0 [.int .i64 0, .int .i64 0, .int .i64 0] := cells_keep (by simp only [CellsAt]; go_simp) (fun o => hcw1 _ o (by go_size)) (fun o => hfw1 _ o (by go_size))
      simp only [CellsAt] at zw1_wH1
      clear hcw1 hfw1
      go_wp2_with fail
      refine (K.out _).mono ?_
      rintro e w' ⟨rfl, rfl⟩
      go_wp2_with fail
      refine (dayNumber_s _ _ _ _ _ H.out).mono ?_
      rintro e w2 ⟨rfl, bw2⟩
      obtain ⟨hcw2, hfw2⟩ := bcell bw2
      have sw2 := bw2.size
      (try simp at sw2)
      have Aw2 : Below w.heap.size w w2 := Below.trans (by (repeat' (first | (with_reducible assumption) | (with_reducible exact Below.refl _ _) | (with_reducible refine bdN ?_ _) | (with_reducible refine Below.alloc ?_ ?_ _) | (with_reducible refine Below.drew ?_) | (with_reducible refine Below.setCell ?_ ?_ _) | go_size))) (bw2.mono (by go_size))
      clear bw2
      have lw2_0 : w.heap.size < w2.heap.size := by omega
      have lw2_1 : w.heap.size+1 < w2.heap.size := by omega
      have zw2_wH1 : CellsAt w2 (w.heap.size+1) 0 [.int .i64 0, .int .i64 0, .int .i64 0] := cells_keep (by simp only [CellsAt]; go_simp) (fun o => hcw2 _ o (by go_size)) (fun o => hfw2 _ o (by go_size))
      simp only [CellsAt] at zw2_wH1
      clear hcw2 hfw2
      go_wp2_with fail
      refine (dateOf_s _ _ _ _ _ _ O).mono ?_
      rintro e w3 ⟨rfl, bw3⟩
      obtain ⟨hcw3, hfw3⟩ := bcell bw3
      have sw3 := bw3.size
      (try simp at sw3)
      have Aw3 : Below w.heap.size w w3 := Below.trans (by (repeat' (first | (with_reducible assumption) | (with_reducible exact Below.refl _ _) | (with_reducible refine bdN ?_ _) | (with_reducible refine Below.alloc ?_ ?_ _) | (with_reducible refine Below.drew ?_) | (with_reducible refine Below.setCell ?_ ?_ _) | go_size))) (bw3.mono (by go_size))
      clear bw3
      have lw3_0 : w.heap.size < w3.heap.size := by omega
      have lw3_1 : w.heap.size+1 < w3.heap.size := by omega
      have zw3_wH1 : CellsAt w3 (w.heap.size+1) 0 [.int .i64 0, .int .i64 0, .int .i64 0] := cells_keep (by simp only [CellsAt]; go_simp) (fun o => hcw3 _ o (by go_size)) (fun o => hfw3 _ o (by go_size))
      simp only [CellsAt] at zw3_wH1
      clear hcw3 hfw3
      go_wp2_with fail
      exact bodyPost_ret (v := .tuple #[.agg #[.int .i64 Y, .int .i64 M, .int .i64 D], .bool b]) (by simp [results, Tryd.results93, go_sem, zw3_wH1]) rfl ⟨rfl, by (repeat' (first | (with_reducible assumption) | (with_reducible exact Below.refl _ _) | (with_reducible refine bdN ?_ _) | (with_reducible refine Below.alloc ?_ ?_ _) | (with_reducible refine Below.drew ?_) | (with_reducible refine Below.setCell ?_ ?_ _) | go_size))⟩
    · have K := Lib.hid (fun w => l6In_b k (-3652058) 3652058 false (inB_f hk) w)
      obtain ⟨rfl, rfl, rfl, rfl⟩ := dp_no h (by simp only [not_and]; intro _ a b; exact absurd ⟨a, b⟩ hk)
      clear h hk hv
      go_enter Tryd.func93, Tryd.ntmps93
      go_wp2_with fail
      refine (V.out _).mono ?_
      rintro e w1 ⟨rfl, bw1⟩
      obtain ⟨hcw1, hfw1⟩ := bcell bw1
      have sw1 := bw1.size
      (try simp at sw1)
      have Aw1 : Below w.heap.size w w1 := Below.trans (by (repeat' (first | (with_reducible assumption) | (with_reducible exact Below.refl _ _) | (with_reducible refine bdN ?_ _) | (with_reducible refine Below.alloc ?_ ?_ _) | (with_reducible refine Below.drew ?_) | (with_reducible refine Below.setCell ?_ ?_ _) | go_size))) (bw1.mono (by go_size))
      clear bw1
      have lw1_0 : w.heap.size < w1.heap.size := by omega
      have lw1_1 : w.heap.size+1 < w1.heap.size := by omega
      have zw1_wH1 : CellsAt w1 (w.heap.size+1) 0 [.int .i64 0, .int .i64 0, .int .i64 0] := cells_keep (by simp only [CellsAt]; go_simp) (fun o => hcw1 _ o (by go_size)) (fun o => hfw1 _ o (by go_size))
      simp only [CellsAt] at zw1_wH1
      clear hcw1 hfw1
      go_wp2_with fail
      refine (K.out _).mono ?_
      rintro e w' ⟨rfl, rfl⟩
      go_wp2_with fail
      exact bodyPost_ret (v := .tuple #[.agg #[.int .i64 0, .int .i64 0, .int .i64 0], .bool false]) (by simp [results, Tryd.results93, go_sem, zw1_wH1]) rfl ⟨rfl, by (repeat' (first | (with_reducible assumption) | (with_reducible exact Below.refl _ _) | (with_reducible refine bdN ?_ _) | (with_reducible refine Below.alloc ?_ ?_ _) | (with_reducible refine Below.drew ?_) | (with_reducible refine Below.setCell ?_ ?_ _) | go_size))⟩
end Go.Proofs.YtacglejojkamfaaDoor
