/- Contracts of MonthPlus and DayPlus, by the program and by the reference. Conditions: the program's table of the months' days stands in memory ('Tab'). -/
import Derived.Test.YtacglejojkamfaaDoorDateOf
import Derived.Test.YtacglejojkamfaaDoorVdb
namespace Go.Proofs.YtacglejojkamfaaDoor
open Go.RowKit DN

/-- months since the year 0 -/
def mpN (y m k : Int) : Int := 12 * y + m - 1 + k
/-- what MonthPlus gives: a date, or nothing -/
def MpIs (y m d k Y M D : Int) (b : Bool) : Prop :=
  (b = true ∧ vd y m d = true ∧ -119988 ≤ k ∧ k ≤ 119988 ∧ 12 ≤ mpN y m k ∧ mpN y m k ≤ 119999 ∧ Y = mpN y m k / 12 ∧ M = mpN y m k % 12 + 1 ∧ D = min d (md Y M)) ∨
  (b = false ∧ ¬ (vd y m d = true ∧ -119988 ≤ k ∧ k ≤ 119988 ∧ 12 ≤ mpN y m k ∧ mpN y m k ≤ 119999) ∧ Y = 0 ∧ M = 0 ∧ D = 0)
theorem mpIs_ex (y m d k : Int) : ∃ Y M D b, MpIs y m d k Y M D b := by
  by_cases h : vd y m d = true ∧ -119988 ≤ k ∧ k ≤ 119988 ∧ 12 ≤ mpN y m k ∧ mpN y m k ≤ 119999
  · exact ⟨_, _, _, true, .inl ⟨rfl, h.1, h.2.1, h.2.2.1, h.2.2.2.1, h.2.2.2.2, rfl, rfl, rfl⟩⟩
  · exact ⟨0, 0, 0, false, .inr ⟨rfl, h, rfl, rfl, rfl⟩⟩

set_option maxHeartbeats 2000000 in
theorem monthPlus_no (y m d k : Int) (w : World) (T : Tab w) (h : ¬ (vd y m d = true ∧ -119988 ≤ k ∧ k ≤ 119988 ∧ 12 ≤ mpN y m k ∧ mpN y m k ≤ 119999)) :
    Calls Tryd.prog 96 #[.agg #[.int .i64 y, .int .i64 m, .int .i64 d], .int .i64 k] w fun e w' => e = .returned (.tuple #[.agg #[.int .i64 0, .int .i64 0, .int .i64 0], .bool false]) ∧ Below w.heap.size w w' := by
  have T1 := Lib.hid (tab_alloc (tab_alloc T (.cells #[.int .i64 y, .int .i64 m, .int .i64 d] 29)) (.cells #[.int .i64 0, .int .i64 0, .int .i64 0] 29))
  clear T
  cases hv : vd y m d
  · have V := Lib.hid (fun w T => vd_ib y m d w T false hv)
    clear h hv
    go_enter Tryd.func96, Tryd.ntmps96
    go_wp2_with fail
    refine (V.out _ T1.out).mono ?_
    rintro e w1 ⟨rfl, bw1⟩
    obtain ⟨hcw1, hfw1⟩ := bcell bw1
    have sw1 := bw1.size
    (try simp at sw1)
    have Aw1 : Below w.heap.size w w1 := Below.trans (by (repeat' (first | (with_reducible assumption) | (with_reducible exact Below.refl _ _) | (with_reducible refine bdN ?_ _) | (with_reducible refine Below.alloc ?_ ?_ _) | (with_reducible refine Below.drew ?_) | (with_reducible refine Below.setCell ?_ ?_ _) | go_size))) (bw1.mono (by go_size))
    clear bw1
    have lw1_0 : w.heap.size < w1.heap.size := by omega
    have lw1_1 : w.heap.size+1 < w1.heap.size := by omega
    have zw1_wH1 : CellsAt w1 (w.heap.size+1) 0 [.int .i64 0, .int .i64 0, .int .i64 0] := cells_keep (by simp only [CellsAt]; go_simp) (fun o => hcw1 _ o (by go_size)) (fun o => hfw1 _ o (by go_size))
    simp only [CellsAt] at zw1_wH1
    clear hcw1 hfw1
    go_wp2_with fail
    exact bodyPost_ret (v := .tuple #[.agg #[.int .i64 0, .int .i64 0, .int .i64 0], .bool false]) (by simp [results, Tryd.results96, go_sem, zw1_wH1]) rfl ⟨rfl, by (repeat' (first | (with_reducible assumption) | (with_reducible exact Below.refl _ _) | (with_reducible refine bdN ?_ _) | (with_reducible refine Below.alloc ?_ ?_ _) | (with_reducible refine Below.drew ?_) | (with_reducible refine Below.setCell ?_ ?_ _) | go_size))⟩
  · have V := Lib.hid (fun w T => vd_ib y m d w T true hv)
    obtain ⟨y1, y2, m1, m2, d1, d2⟩ := vd_iff.1 hv
    simp only [hv, true_and] at h
    clear hv
    by_cases hk : -119988 ≤ k ∧ k ≤ 119988
    · have K := Lib.hid (fun w => within_b k (-119988) 119988 true (inB_t hk.1 hk.2) w)
      obtain ⟨k1, k2⟩ := hk
      unfold mpN at h
      go_enter Tryd.func96, Tryd.ntmps96
      go_wp2_with fail
      refine (V.out _ T1.out).mono ?_
      rintro e w1 ⟨rfl, bw1⟩
      obtain ⟨hcw1, hfw1⟩ := bcell bw1
      have sw1 := bw1.size
      (try simp at sw1)
      have Aw1 : Below w.heap.size w w1 := Below.trans (by (repeat' (first | (with_reducible assumption) | (with_reducible exact Below.refl _ _) | (with_reducible refine bdN ?_ _) | (with_reducible refine Below.alloc ?_ ?_ _) | (with_reducible refine Below.drew ?_) | (with_reducible refine Below.setCell ?_ ?_ _) | go_size))) (bw1.mono (by go_size))
      clear bw1
      have lw1_0 : w.heap.size < w1.heap.size := by omega
      have lw1_1 : w.heap.size+1 < w1.heap.size := by omega
      have zw1_wH : CellsAt w1 (w.heap.size) 0 [.int .i64 y, .int .i64 m, .int .i64 d] := cells_keep (by simp only [CellsAt]; go_simp) (fun o => hcw1 _ o (by go_size)) (fun o => hfw1 _ o (by go_size))
      simp only [CellsAt] at zw1_wH
      have zw1_wH1 : CellsAt w1 (w.heap.size+1) 0 [.int .i64 0, .int .i64 0, .int .i64 0] := cells_keep (by simp only [CellsAt]; go_simp) (fun o => hcw1 _ o (by go_size)) (fun o => hfw1 _ o (by go_size))
      simp only [CellsAt] at zw1_wH1
      clear hcw1 hfw1
      by_cases hn : 12 * y + m - 1 + k < 12
      · clear h
        go_wp2_with (go_at_call 53; refine (K.out _).mono ?_; rintro e w' ⟨rfl, rfl⟩)
        exact bodyPost_ret (v := .tuple #[.agg #[.int .i64 0, .int .i64 0, .int .i64 0], .bool false]) (by simp [results, Tryd.results96, go_sem, zw1_wH1]) rfl ⟨rfl, by (repeat' (first | (with_reducible assumption) | (with_reducible exact Below.refl _ _) | (with_reducible refine bdN ?_ _) | (with_reducible refine Below.alloc ?_ ?_ _) | (with_reducible refine Below.drew ?_) | (with_reducible refine Below.setCell ?_ ?_ _) | go_size))⟩
      · have hn' : 119999 < 12 * y + m - 1 + k := by omega
        clear h
        go_wp2_with (go_at_call 53; refine (K.out _).mono ?_; rintro e w' ⟨rfl, rfl⟩)
        exact bodyPost_ret (v := .tuple #[.agg #[.int .i64 0, .int .i64 0, .int .i64 0], .bool false]) (by simp [results, Tryd.results96, go_sem, zw1_wH1]) rfl ⟨rfl, by (repeat' (first | (with_reducible assumption) | (with_reducible exact Below.refl _ _) | (with_reducible refine bdN ?_ _) | (with_reducible refine Below.alloc ?_ ?_ _) | (with_reducible refine Below.drew ?_) | (with_reducible refine Below.setCell ?_ ?_ _) | go_size))⟩
    · have K := Lib.hid (fun w => within_b k (-119988) 119988 false (inB_f hk) w)
      clear h hk
      go_enter Tryd.func96, Tryd.ntmps96
      go_wp2_with fail
      refine (V.out _ T1.out).mono ?_
      rintro e w1 ⟨rfl, bw1⟩
      obtain ⟨hcw1, hfw1⟩ := bcell bw1
      have sw1 := bw1.size
      (try simp at sw1)
      have Aw1 : Below w.heap.size w w1 := Below.trans (by (repeat' (first | (with_reducible assumption) | (with_reducible exact Below.refl _ _) | (with_reducible refine bdN ?_ _) | (with_reducible refine Below.alloc ?_ ?_ _) | (with_reducible refine Below.drew ?_) | (with_reducible refine Below.setCell ?_ ?_ _) | go_size))) (bw1.mono (by go_size))
      clear bw1
      have lw1_0 : w.heap.size < w1.heap.size := by omega
      have lw1_1 : w.heap.size+1 < w1.heap.size := by omega
      have zw1_wH1 : CellsAt w1 (w.heap.size+1) 0 [.int .i64 0, .int .i64 0, .int .i64 0] := cells_keep (by simp only [CellsAt]; go_simp) (fun o => hcw1 _ o (by go_size)) (fun o => hfw1 _ o (by go_size))
      simp only [CellsAt] at zw1_wH1
      clear hcw1 hfw1
      go_wp2_with (go_at_call 53; refine (K.out _).mono ?_; rintro e w' ⟨rfl, rfl⟩)
      exact bodyPost_ret (v := .tuple #[.agg #[.int .i64 0, .int .i64 0, .int .i64 0], .bool false]) (by simp [results, Tryd.results96, go_sem, zw1_wH1]) rfl ⟨rfl, by (repeat' (first | (with_reducible assumption) | (with_reducible exact Below.refl _ _) | (with_reducible refine bdN ?_ _) | (with_reducible refine Below.alloc ?_ ?_ _) | (with_reducible refine Below.drew ?_) | (with_reducible refine Below.setCell ?_ ?_ _) | go_size))⟩

theorem mpN_md {y m k : Int} (h1 : 12 ≤ mpN y m k) (h2 : mpN y m k ≤ 119999) : 28 ≤ md (mpN y m k / 12) (mpN y m k % 12 + 1) ∧ md (mpN y m k / 12) (mpN y m k % 12 + 1) ≤ 31 :=
  md_pos _ _ (by omega) (by omega) (by omega) (by omega)

set_option maxRecDepth 100000 in
set_option maxHeartbeats 2000000 in
theorem monthPlus_yes (y m d k : Int) (w : World) (T : Tab w) (hv : vd y m d = true) (k1 : -119988 ≤ k) (k2 : k ≤ 119988) (n1 : 12 ≤ mpN y m k) (n2 : mpN y m k ≤ 119999) :
    Calls Tryd.prog 96 #[.agg #[.int .i64 y, .int .i64 m, .int .i64 d], .int .i64 k] w fun e w' => e = .returned (.tuple #[.agg #[.int .i64 (mpN y m k / 12), .int .i64 (mpN y m k % 12 + 1), .int .i64 (min d (md (mpN y m k / 12) (mpN y m k % 12 + 1)))], .bool true]) ∧ Below w.heap.size w w' := by
  have T1 := Lib.hid (tab_alloc (tab_alloc T (.cells #[.int .i64 y, .int .i64 m, .int .i64 d] 29)) (.cells #[.int .i64 0, .int .i64 0, .int .i64 0] 29))
  have V := Lib.hid (fun w T => vd_ib y m d w T true hv)
  obtain ⟨y1, y2, m1, m2, d1, d2⟩ := vd_iff.1 hv
  have K := Lib.hid (fun w => within_b k (-119988) 119988 true (inB_t k1 k2) w)
  have R := mpN_md n1 n2
  have N := Lib.hid (show mpN y m k = 12 * y + m - 1 + k from rfl)
  obtain ⟨n, hn⟩ : ∃ n, n = mpN y m k := ⟨_, rfl⟩
  rw [← hn] at n1 n2 R ⊢
  have e : 12 * (y - 1) + m - 1 + k = n - 12 := by rw [hn, N.out]; omega
  have e0 : 0 ≤ 12 * (y - 1) + m - 1 + k := by omega
  have e1 : (12 * (y - 1) + m - 1 + k) / 12 < 9999 := by omega
  have E := Lib.hid e
  clear T hv hn N
  clear e
  go_enter Tryd.func96, Tryd.ntmps96
  go_wp2_with fail
  refine (V.out _ T1.out).mono ?_
  rintro e w1 ⟨rfl, b1⟩
  have T2 := Lib.hid (tab_keep T1.out b1)
  obtain ⟨hcw1, hfw1⟩ := bcell b1
  have A1 : Below w.heap.size w w1 := Below.trans (by (repeat' (first | (with_reducible assumption) | (with_reducible exact Below.refl _ _) | (with_reducible refine bdN ?_ _) | (with_reducible refine Below.alloc ?_ ?_ _) | (with_reducible refine Below.drew ?_) | (with_reducible refine Below.setCell ?_ ?_ _) | go_size))) (b1.mono (by go_size))
  have s1 := b1.size
  simp at s1
  have l1 : w.heap.size < w1.heap.size := by omega
  have l2 : w.heap.size + 1 < w1.heap.size := by omega
  clear b1
  have zw1_wH : CellsAt w1 (w.heap.size) 0 [.int .i64 y, .int .i64 m, .int .i64 d] := cells_keep (by simp only [CellsAt]; go_simp) (fun o => hcw1 _ o (by go_size)) (fun o => hfw1 _ o (by go_size))
  simp only [CellsAt] at zw1_wH
  have zw1_wH1 : CellsAt w1 (w.heap.size+1) 0 [.int .i64 0, .int .i64 0, .int .i64 0] := cells_keep (by simp only [CellsAt]; go_simp) (fun o => hcw1 _ o (by go_size)) (fun o => hfw1 _ o (by go_size))
  simp only [CellsAt] at zw1_wH1
  clear hcw1 hfw1
  go_wp2_with (go_at_call 53; refine (K.out _).mono ?_; rintro e w' ⟨rfl, rfl⟩)
  have T3 := Lib.hid (tab_alloc T2.out (.cells #[.int .i64 ((12 * (y - 1) + m - 1 + k) / 12 + 1), .int .i64 ((12 * (y - 1) + m - 1 + k) % 12 + 1), .int .i64 d] 29))
  have f1 := Lib.hid (show (12 * (y - 1) + m - 1 + k) / 12 + 1 = n / 12 by have := E.out; omega)
  have f2 := Lib.hid (show (12 * (y - 1) + m - 1 + k) % 12 + 1 = n % 12 + 1 by have := E.out; omega)
  go_cut [] (fun wx => w1.heap.size < wx.heap.size ∧ Below w.heap.size w wx ∧ CellsAt wx (w.heap.size + 1) 0 [.int .i64 0, .int .i64 0, .int .i64 0] ∧ CellsAt wx w1.heap.size 0 [.int .i64 (n / 12), .int .i64 (n % 12 + 1), .int .i64 (min d (md (n / 12) (n % 12 + 1)))])
  case first =>
    go_region_with ((go_at_call 86; refine (mdays_i _ _ _ (by exact T3.out)).mono ?_; rintro e w' ⟨rfl, rfl⟩))
    all_goals (go_wp2_with fail)
    all_goals go_meet
    all_goals refine ⟨by go_size, by (repeat' (first | (with_reducible assumption) | (with_reducible exact Below.refl _ _) | (with_reducible refine bdN ?_ _) | (with_reducible refine Below.alloc ?_ ?_ _) | (with_reducible refine Below.drew ?_) | (with_reducible refine Below.setCell ?_ ?_ _) | go_size)), by simp only [CellsAt]; go_simp, ?_⟩
    all_goals (simp only [CellsAt]; rw [← f1.out, ← f2.out]; go_simp; omega)
  case rest =>
    obtain ⟨s2, A2, c2, c3⟩ := hcut
    simp only [CellsAt] at c2 c3
    go_wp2_with fail
    exact bodyPost_ret (v := .tuple #[.agg #[.int .i64 (n / 12), .int .i64 (n % 12 + 1), .int .i64 (min d (md (n / 12) (n % 12 + 1)))], .bool true]) (by simp [results, Tryd.results96, go_sem, c2]) rfl ⟨rfl, by (repeat' (first | (with_reducible assumption) | (with_reducible exact Below.refl _ _) | (with_reducible refine bdN ?_ _) | (with_reducible refine Below.alloc ?_ ?_ _) | (with_reducible refine Below.drew ?_) | (with_reducible refine Below.setCell ?_ ?_ _) | go_size))⟩
end Go.Proofs.YtacglejojkamfaaDoor
