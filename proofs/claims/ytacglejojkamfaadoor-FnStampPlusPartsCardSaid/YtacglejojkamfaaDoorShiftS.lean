/- Contracts of the reference's MonthPlus. No condition. -/
import Derived.Test.YtacglejojkamfaaDoorShift
import Derived.Deep.DeepMust
namespace Go.Proofs.YtacglejojkamfaaDoor
open Go.RowKit DN

set_option maxHeartbeats 2000000 in
theorem monthPlusS_no (y m d k : Int) (w : World) (h : ¬ (vd y m d = true ∧ -119988 ≤ k ∧ k ≤ 119988 ∧ 12 ≤ mpN y m k ∧ mpN y m k ≤ 119999)) :
    Calls Tryd.prog 92 #[.agg #[.int .i64 y, .int .i64 m, .int .i64 d], .int .i64 k] w fun e w' => e = .returned (.tuple #[.agg #[.int .i64 0, .int .i64 0, .int .i64 0], .bool false]) ∧ Below w.heap.size w w' := by
  cases hv : vd y m d
  · have V := Lib.hid (fun w => vd_sb y m d w false hv)
    clear h hv
    go_enter Tryd.func92, Tryd.ntmps92
    go_wp2_with fail
    refine (V.out _).mono ?_
    rintro e w1 ⟨rfl, bw1⟩
    obtain ⟨hcw1, hfw1⟩ := bcell bw1
    have sw1 := bw1.size
    (try simp at sw1)
    have Aw1 : Below w.heap.size w w1 := Below.trans (by (repeat' (first | (with_reducible assumption) | (with_reducible exact Below.refl _ _) | (with_reducible refine bdN ?_ _) | (with_reducible refine Below.alloc ?_ ?_ _) | (with_reducible refine Below.drew ?_) | (with_reducible refine Below.setCell ?_ ?_ _) | go_size))) (bw1.mono (by go_size))
    clear bw1
    have lw1_0 : w.heap.size < w1.heap.size := by omega
    have lw1_1 : w.heap.size+1 < w1.heap.size := by omega
    have zw1_wH1 : CellsAt w1 (w.heap.size+1) 0 [.int .i64 0, .int .i64 0, .int .i64 0] := cells_keep (by simp only [CellsAt]; go_simp) (fun o => hcw1 _ o (by go_size)) (fun o => hfw1 _ o (by go_size))
    simp only [CellsAt] at zw1_wH1
    clear hcw1 hfw1
    go_wp2_with fail
    exact bodyPost_ret (v := .tuple #[.agg #[.int .i64 0, .int .i64 0, .int .i64 0], .bool false]) (by simp [results, Tryd.results92, go_sem, zw1_wH1]) rfl ⟨rfl, by (repeat' (first | (with_reducible assumption) | (with_reducible exact Below.refl _ _) | (with_reducible refine bdN ?_ _) | (with_reducible refine Below.alloc ?_ ?_ _) | (with_reducible refine Below.drew ?_) | (with_reducible refine Below.setCell ?_ ?_ _) | go_size))⟩
  · have V := Lib.hid (fun w => vd_sb y m d w true hv)
    obtain ⟨y1, y2, m1, m2, d1, d2⟩ := vd_iff.1 hv
    simp only [hv, true_and] at h
    clear hv
    by_cases hk : -119988 ≤ k ∧ k ≤ 119988
    · have K := Lib.hid (fun w => l6In_b k (-119988) 119988 true (inB_t hk.1 hk.2) w)
      obtain ⟨k1, k2⟩ := hk
      have M := Lib.hid (fun w => l6In_b (12 * y + m - 1 + k) 12 119999 false (inB_f (by unfold mpN at h; omega)) w)
      clear h
      go_enter Tryd.func92, Tryd.ntmps92
      go_wp2_with fail
      refine (V.out _).mono ?_
      rintro e w1 ⟨rfl, bw1⟩
      obtain ⟨hcw1, hfw1⟩ := bcell bw1
      have sw1 := bw1.size
      (try simp at sw1)
      have Aw1 : Below w.heap.size w w1 := Below.trans (by (repeat' (first | (with_reducible assumption) | (with_reducible exact Below.refl _ _) | (with_reducible refine bdN ?_ _) | (with_reducible refine Below.alloc ?_ ?_ _) | (with_reducible refine Below.drew ?_) | (with_reducible refine Below.setCell ?_ ?_ _) | go_size))) (bw1.mono (by go_size))
      clear bw1
      have lw1_0 : w.heap.size < w1.heap.size := by omega
      have lw1_1 : w.heap.size+1 < w1.heap.size := by omega
      have zw1_wH : CellsAt w1 (w.heap.size) 0 [.int .i64 y, .int .i64 m, .int .i64 d] := cells_keep (by simp only [CellsAt]; go_simp) (fun o => hcw1 _ o (by go_size)) (fun o => hfw1 _ o (by go_size))
      simp only [CellsAt] at zw1_wH
      have zw1_wH1 : CellsAt w1 (w.heap.size+1) 0 [.int .i64 0, .int .i64 0, .int .i64 0] := cells_keep (by simp only [CellsAt]; go_simp) (fun o => hcw1 _ o (by go_size)) (fun o => hfw1 _ o (by go_size))
      simp only [CellsAt] at zw1_wH1
      clear hcw1 hfw1
      go_wp2_with fail
      refine (K.out _).mono ?_
      rintro e w' ⟨rfl, rfl⟩
      go_wp2_with fail
      refine (M.out _).mono ?_
      rintro e w' ⟨rfl, rfl⟩
      go_wp2_with fail
      exact bodyPost_ret (v := .tuple #[.agg #[.int .i64 0, .int .i64 0, .int .i64 0], .bool false]) (by simp [results, Tryd.results92, go_sem, zw1_wH1]) rfl ⟨rfl, by (repeat' (first | (with_reducible assumption) | (with_reducible exact Below.refl _ _) | (with_reducible refine bdN ?_ _) | (with_reducible refine Below.alloc ?_ ?_ _) | (with_reducible refine Below.drew ?_) | (with_reducible refine Below.setCell ?_ ?_ _) | go_size))⟩
    · have K := Lib.hid (fun w => l6In_b k (-119988) 119988 false (inB_f hk) w)
      clear h hk
      go_enter Tryd.func92, Tryd.ntmps92
      go_wp2_with fail
      refine (V.out _).mono ?_
      rintro e w1 ⟨rfl, bw1⟩
      obtain ⟨hcw1, hfw1⟩ := bcell bw1
      have sw1 := bw1.size
      (try simp at sw1)
      have Aw1 : Below w.heap.size w w1 := Below.trans (by (repeat' (first | (with_reducible assumption) | (with_reducible exact Below.refl _ _) | (with_reducible refine bdN ?_ _) | (with_reducible refine Below.alloc ?_ ?_ _) | (with_reducible refine Below.drew ?_) | (with_reducible refine Below.setCell ?_ ?_ _) | go_size))) (bw1.mono (by go_size))
      clear bw1
      have lw1_0 : w.heap.size < w1.heap.size := by omega
      have lw1_1 : w.heap.size+1 < w1.heap.size := by omega
      have zw1_wH1 : CellsAt w1 (w.heap.size+1) 0 [.int .i64 0, .int .i64 0, .int .i64 0] := cells_keep (by simp only [CellsAt]; go_simp) (fun o => hcw1 _ o (by go_size)) (fun o => hfw1 _ o (by go_size))
      simp only [CellsAt] at zw1_wH1
      clear hcw1 hfw1
      go_wp2_with (go_at_call 48; refine (K.out _).mono ?_; rintro e w' ⟨rfl, rfl⟩)
      exact bodyPost_ret (v := .tuple #[.agg #[.int .i64 0, .int .i64 0, .int .i64 0], .bool false]) (by simp [results, Tryd.results92, go_sem, zw1_wH1]) rfl ⟨rfl, by (repeat' (first | (with_reducible assumption) | (with_reducible exact Below.refl _ _) | (with_reducible refine bdN ?_ _) | (with_reducible refine Below.alloc ?_ ?_ _) | (with_reducible refine Below.drew ?_) | (with_reducible refine Below.setCell ?_ ?_ _) | go_size))⟩


set_option maxRecDepth 100000 in
set_option maxHeartbeats 2000000 in
theorem monthPlusS_yes (y m d k : Int) (w : World) (hv : vd y m d = true) (k1 : -119988 ≤ k) (k2 : k ≤ 119988) (n1 : 12 ≤ mpN y m k) (n2 : mpN y m k ≤ 119999) :
    Calls Tryd.prog 92 #[.agg #[.int .i64 y, .int .i64 m, .int .i64 d], .int .i64 k] w fun e w' => e = .returned (.tuple #[.agg #[.int .i64 (mpN y m k / 12), .int .i64 (mpN y m k % 12 + 1), .int .i64 (min d (md (mpN y m k / 12) (mpN y m k % 12 + 1)))], .bool true]) ∧ Below w.heap.size w w' := by
  have V := Lib.hid (fun w => vd_sb y m d w true hv)
  obtain ⟨y1, y2, m1, m2, d1, d2⟩ := vd_iff.1 hv
  have K := Lib.hid (fun w => l6In_b k (-119988) 119988 true (inB_t k1 k2) w)
  have R := mpN_md n1 n2
  have M := Lib.hid (fun w => l6In_b (12 * y + m - 1 + k) 12 119999 true (inB_t n1 n2) w)
  unfold mpN at n1 n2 R ⊢
  clear hv
  go_enter Tryd.func92, Tryd.ntmps92
  go_wp2_with fail
  refine (V.out _).mono ?_
  rintro e w1 ⟨rfl, bw1⟩
  obtain ⟨hcw1, hfw1⟩ := bcell bw1
  have sw1 := bw1.size
  (try simp at sw1)
  have Aw1 : Below w.heap.size w w1 := Below.trans (by (repeat' (first | (with_reducible assumption) | (with_reducible exact Below.refl _ _) | (with_reducible refine bdN ?_ _) | (with_reducible refine Below.alloc ?_ ?_ _) | (with_reducible refine Below.drew ?_) | (with_reducible refine Below.setCell ?_ ?_ _) | go_size))) (bw1.mono (by go_size))
  clear bw1
  have lw1_0 : w.heap.size < w1.heap.size := by omega
  have lw1_1 : w.heap.size+1 < w1.heap.size := by omega
  have zw1_wH : CellsAt w1 (w.heap.size) 0 [.int .i64 y, .int .i64 m, .int .i64 d] := cells_keep (by simp only [CellsAt]; go_simp) (fun o => hcw1 _ o (by go_size)) (fun o => hfw1 _ o (by go_size))
  simp only [CellsAt] at zw1_wH
  have zw1_wH1 : CellsAt w1 (w.heap.size+1) 0 [.int .i64 0, .int .i64 0, .int .i64 0] := cells_keep (by simp only [CellsAt]; go_simp) (fun o => hcw1 _ o (by go_size)) (fun o => hfw1 _ o (by go_size))
  simp only [CellsAt] at zw1_wH1
  clear hcw1 hfw1
  go_wp2_with fail
  refine (K.out _).mono ?_
  rintro e w' ⟨rfl, rfl⟩
  go_wp2_with fail
  refine (M.out _).mono ?_
  rintro e w' ⟨rfl, rfl⟩
  go_wp2_with fail
  go_cut [] (fun wx => w1.heap.size < wx.heap.size ∧ Below w.heap.size w wx ∧ CellsAt wx (w.heap.size + 1) 0 [.int .i64 0, .int .i64 0, .int .i64 0] ∧ CellsAt wx w1.heap.size 0 [.int .i64 ((12 * y + m - 1 + k) / 12), .int .i64 ((12 * y + m - 1 + k) % 12 + 1), .int .i64 (min d (md ((12 * y + m - 1 + k) / 12) ((12 * y + m - 1 + k) % 12 + 1)))])
  case first =>
    go_region_held3 (fun w' => w'.cell? ⟨w.heap.size, 2, none⟩ = some (.int .i64 d) ∧ w'.cell? ⟨w1.heap.size, 0, none⟩ = some (.int .i64 ((12 * y + m - 1 + k) / 12)) ∧ w'.cell? ⟨w1.heap.size, 1, none⟩ = some (.int .i64 ((12 * y + m - 1 + k) % 12 + 1))) (go_simp)
      ((go_at_call 81; go_must (refine (mdays_s _ _ _).mono ?_; rintro e w2 ⟨rfl, b2⟩; have c0 := fun o => (bcell b2).1 w.heap.size o (by go_size); have c1 := fun o => (bcell b2).1 w1.heap.size o (by go_size); have f1 := fun o => (bcell b2).2 w1.heap.size o (by go_size); have c2 := fun o => (bcell b2).1 (w.heap.size + 1) o (by go_size); have f2 := fun o => (bcell b2).2 (w.heap.size + 1) o (by go_size); have s2 := b2.size; (try simp at s2); have A2 : Below w.heap.size w w2 := Below.trans (by (repeat' (first | (with_reducible assumption) | (with_reducible exact Below.refl _ _) | (with_reducible refine bdN ?_ _) | (with_reducible refine Below.alloc ?_ ?_ _) | (with_reducible refine Below.drew ?_) | (with_reducible refine Below.setCell ?_ ?_ _) | go_size))) (b2.mono (by go_size))); clear b2))
    all_goals (go_wp2_with fail)
    all_goals go_meet
    all_goals refine ⟨by go_size, by (repeat' (first | (with_reducible assumption) | (with_reducible exact Below.refl _ _) | (with_reducible refine bdN ?_ _) | (with_reducible refine Below.alloc ?_ ?_ _) | (with_reducible refine Below.drew ?_) | (with_reducible refine Below.setCell ?_ ?_ _) | go_size)), by simp only [CellsAt]; go_simp, ?_⟩
    all_goals (simp only [CellsAt]; go_simp; omega)
  case rest =>
    obtain ⟨s2, A2, c2, c3⟩ := hcut
    simp only [CellsAt] at c2 c3
    go_wp2_with fail
    exact bodyPost_ret (v := .tuple #[.agg #[.int .i64 ((12 * y + m - 1 + k) / 12), .int .i64 ((12 * y + m - 1 + k) % 12 + 1), .int .i64 (min d (md ((12 * y + m - 1 + k) / 12) ((12 * y + m - 1 + k) % 12 + 1)))], .bool true]) (by simp [results, Tryd.results92, go_sem, c2]) rfl ⟨rfl, by (repeat' (first | (with_reducible assumption) | (with_reducible exact Below.refl _ _) | (with_reducible refine bdN ?_ _) | (with_reducible refine Below.alloc ?_ ?_ _) | (with_reducible refine Below.drew ?_) | (with_reducible refine Below.setCell ?_ ?_ _) | go_size))⟩
end Go.Proofs.YtacglejojkamfaaDoor
