/- Contracts of DatePlus, by the program and by the reference: both give the same date, or fail alike. Condition: the program's table of the months' days stands in memory ('Tab'). -/
import Derived.Test.YtacglejojkamfaaDoorShiftOf
import Derived.Test.YtacglejojkamfaaDoorKeep
import Derived.Deep.RegionWith
namespace Go.Proofs.YtacglejojkamfaaDoor
set_option linter.unusedSimpArgs false
set_option linter.unusedVariables false
open Go.RowKit DN

/-- the sign of a shift -/
def sgn (back : Bool) : Int := bif back then -1 else 1
theorem sgn_bd (back : Bool) : -1 ≤ sgn back ∧ sgn back ≤ 1 := by cases back <;> decide

set_option maxHeartbeats 400000 in
theorem shiftOf_any (y o d u i s : Int) (back : Bool) (w : World) : Calls Tryd.prog 64 #[.agg #[.int .i64 y, .int .i64 o, .int .i64 d, .int .i64 u, .int .i64 i, .int .i64 s], .bool back] w fun e w' =>
    e = .returned (.func (.func 121) #[] #[.pointer (some ⟨w.heap.size + 2, 0, none⟩), .pointer (some ⟨w.heap.size + 3, 0, none⟩)]) ∧
      w' = (((w.alloc (.cells #[.int .i64 y, .int .i64 o, .int .i64 d, .int .i64 u, .int .i64 i, .int .i64 s] 58)).alloc (.cells #[.int .i64 (sgn back)] 3)).alloc (.cells #[fMonths (w.heap.size + 1) w.heap.size] 98)).alloc (.cells #[fDays (w.heap.size + 1) w.heap.size] 98) := by
  cases back
  all_goals
    go_enter Tryd.func64, Tryd.ntmps64
    go_wp2_with fail
    refine (then_any _ _ _).mono ?_
    rintro e w' ⟨rfl, rfl⟩
    go_wp2_with fail
    go_ret
    exact ⟨by simp, rfl⟩

/-- what DatePlus gives -/
def DpsIs (y m d py po pd pu pi ps : Int) (back : Bool) (Y M D : Int) (b : Bool) : Prop :=
  (vd y m d = true ∧ pvB py po pd pu pi ps = true ∧ (pu = 0 ∧ pi = 0 ∧ ps = 0) ∧ DtIs y m d (sgn back * (12 * py + po)) (sgn back * pd) Y M D b) ∨
  (¬ (vd y m d = true ∧ pvB py po pd pu pi ps = true ∧ pu = 0 ∧ pi = 0 ∧ ps = 0) ∧ b = false ∧ Y = 0 ∧ M = 0 ∧ D = 0)
theorem dpsIs_ex (y m d py po pd pu pi ps : Int) (back : Bool) : ∃ Y M D b, DpsIs y m d py po pd pu pi ps back Y M D b := by
  by_cases h : vd y m d = true ∧ pvB py po pd pu pi ps = true ∧ pu = 0 ∧ pi = 0 ∧ ps = 0
  · obtain ⟨Y, M, D, b, hb⟩ := dtIs_ex y m d (sgn back * (12 * py + po)) (sgn back * pd)
    exact ⟨Y, M, D, b, .inl ⟨h.1, h.2.1, h.2.2, hb⟩⟩
  · exact ⟨0, 0, 0, false, .inr ⟨h, rfl, rfl, rfl, rfl⟩⟩

set_option maxHeartbeats 4000000 in
theorem datePlus_i (y m d py po pd pu pi ps : Int) (back : Bool) (Y M D : Int) (b : Bool) (w : World) (T : Tab w) (h : DpsIs y m d py po pd pu pi ps back Y M D b) :
    Calls Tryd.prog 35 #[.agg #[.int .i64 y, .int .i64 m, .int .i64 d], .agg #[.int .i64 py, .int .i64 po, .int .i64 pd, .int .i64 pu, .int .i64 pi, .int .i64 ps], .bool back] w fun e w' =>
      e = .returned (.tuple #[.agg #[.int .i64 Y, .int .i64 M, .int .i64 D], .bool b]) ∧ Below w.heap.size w w' := by
  have T1 := Lib.hid T
  clear T
  cases hv : vd y m d
  · obtain ⟨rfl, rfl, rfl, rfl⟩ : b = false ∧ Y = 0 ∧ M = 0 ∧ D = 0 := by
      rcases h with h | h
      · rw [hv] at h; cases h.1
      · exact h.2
    have V := Lib.hid (fun w T => vd_ib y m d w T false hv)
    clear h hv
    go_enter Tryd.func35, Tryd.ntmps35
    go_wp2_with fail
    refine (V.out _ (by (repeat' (first | (with_reducible exact T1.out) | (with_reducible assumption) | (with_reducible refine tab_alloc ?_ _) | (with_reducible refine tab_drewN ?_ _) | (with_reducible refine tab_drew ?_) | (with_reducible refine tab_set ?_ ?_ _) | go_size)))).mono ?_
    rintro e w1 ⟨rfl, bw1⟩
    have sw1 := bw1.size
    (try simp at sw1)
    have Aw1 : Below w.heap.size w w1 := Below.trans (by (repeat' (first | (with_reducible assumption) | (with_reducible exact Below.refl _ _) | (with_reducible refine bdN ?_ _) | (with_reducible refine Below.alloc ?_ ?_ _) | (with_reducible refine Below.drew ?_) | (with_reducible refine Below.setCell ?_ ?_ _) | go_size))) (bw1.mono (by go_size))
    have Tw1 := Lib.hid (tab_keep (by (repeat' (first | (with_reducible exact T1.out) | (with_reducible assumption) | (with_reducible refine tab_alloc ?_ _) | (with_reducible refine tab_drewN ?_ _) | (with_reducible refine tab_drew ?_) | (with_reducible refine tab_set ?_ ?_ _) | go_size))) bw1)
    have lw1_0 : w.heap.size+2 < w1.heap.size := (by go_size)
    have zw1_wH2 : CellsAt w1 (w.heap.size+2) 0 [.int .i64 0, .int .i64 0, .int .i64 0] := cells_keep (by (simp only [CellsAt]; (first | (go_simp; done) | ((repeat' (with_reducible refine And.intro ?_ ?_)) <;> (repeat' (first | (with_reducible assumption) | (with_reducible exact trivial) | (with_reducible refine kA _ ?_) | (with_reducible refine kD ?_) | (with_reducible refine kS _ ?_ ?_) | (with_reducible refine fA _ ?_ ?_) | (with_reducible refine fD ?_) | (with_reducible refine fS _ ?_) | go_size | (go_simp; done))))))) (fun o => bw1.cell (p := ⟨_, o, none⟩) (by go_size)) (fun o => bw1.frozen (p := ⟨_, o, none⟩) (by go_size))
    simp only [CellsAt] at zw1_wH2
    clear bw1
    go_wp2_with fail
    exact bodyPost_ret (v := .tuple #[.agg #[.int .i64 0, .int .i64 0, .int .i64 0], .bool false]) (by simp [results, Tryd.results35, go_sem, zw1_wH2, lw1_0]) rfl ⟨rfl, by (repeat' (first | (with_reducible assumption) | (with_reducible exact Below.refl _ _) | (with_reducible refine bdN ?_ _) | (with_reducible refine Below.alloc ?_ ?_ _) | (with_reducible refine Below.drew ?_) | (with_reducible refine Below.setCell ?_ ?_ _) | go_size))⟩
  · have V := Lib.hid (fun w T => vd_ib y m d w T true hv)
    cases hp : pvB py po pd pu pi ps
    · obtain ⟨rfl, rfl, rfl, rfl⟩ : b = false ∧ Y = 0 ∧ M = 0 ∧ D = 0 := by
        rcases h with h | h
        · rw [hp] at h; cases h.2.1
        · exact h.2
      have P := Lib.hid (fun w => pv_impl_b _ _ _ _ _ _ _ hp w)
      clear h hv hp
      go_enter Tryd.func35, Tryd.ntmps35
      go_wp2_with fail
      refine (V.out _ (by (repeat' (first | (with_reducible exact T1.out) | (with_reducible assumption) | (with_reducible refine tab_alloc ?_ _) | (with_reducible refine tab_drewN ?_ _) | (with_reducible refine tab_drew ?_) | (with_reducible refine tab_set ?_ ?_ _) | go_size)))).mono ?_
      rintro e w1 ⟨rfl, bw1⟩
      have sw1 := bw1.size
      (try simp at sw1)
      have Aw1 : Below w.heap.size w w1 := Below.trans (by (repeat' (first | (with_reducible assumption) | (with_reducible exact Below.refl _ _) | (with_reducible refine bdN ?_ _) | (with_reducible refine Below.alloc ?_ ?_ _) | (with_reducible refine Below.drew ?_) | (with_reducible refine Below.setCell ?_ ?_ _) | go_size))) (bw1.mono (by go_size))
      have Tw1 := Lib.hid (tab_keep (by (repeat' (first | (with_reducible exact T1.out) | (with_reducible assumption) | (with_reducible refine tab_alloc ?_ _) | (with_reducible refine tab_drewN ?_ _) | (with_reducible refine tab_drew ?_) | (with_reducible refine tab_set ?_ ?_ _) | go_size))) bw1)
      have lw1_0 : w.heap.size+2 < w1.heap.size := (by go_size)
      have zw1_wH2 : CellsAt w1 (w.heap.size+2) 0 [.int .i64 0, .int .i64 0, .int .i64 0] := cells_keep (by (simp only [CellsAt]; (first | (go_simp; done) | ((repeat' (with_reducible refine And.intro ?_ ?_)) <;> (repeat' (first | (with_reducible assumption) | (with_reducible exact trivial) | (with_reducible refine kA _ ?_) | (with_reducible refine kD ?_) | (with_reducible refine kS _ ?_ ?_) | (with_reducible refine fA _ ?_ ?_) | (with_reducible refine fD ?_) | (with_reducible refine fS _ ?_) | go_size | (go_simp; done))))))) (fun o => bw1.cell (p := ⟨_, o, none⟩) (by go_size)) (fun o => bw1.frozen (p := ⟨_, o, none⟩) (by go_size))
      have lw1_1 : w.heap.size+1 < w1.heap.size := (by go_size)
      have zw1_wH1 : CellsAt w1 (w.heap.size+1) 0 [.int .i64 py, .int .i64 po, .int .i64 pd, .int .i64 pu, .int .i64 pi, .int .i64 ps] := cells_keep (by (simp only [CellsAt]; (first | (go_simp; done) | ((repeat' (with_reducible refine And.intro ?_ ?_)) <;> (repeat' (first | (with_reducible assumption) | (with_reducible exact trivial) | (with_reducible refine kA _ ?_) | (with_reducible refine kD ?_) | (with_reducible refine kS _ ?_ ?_) | (with_reducible refine fA _ ?_ ?_) | (with_reducible refine fD ?_) | (with_reducible refine fS _ ?_) | go_size | (go_simp; done))))))) (fun o => bw1.cell (p := ⟨_, o, none⟩) (by go_size)) (fun o => bw1.frozen (p := ⟨_, o, none⟩) (by go_size))
      simp only [CellsAt] at zw1_wH2
      simp only [CellsAt] at zw1_wH1
      clear bw1
      go_wp2_with fail
      refine (P.out _).mono ?_
      rintro e w2 ⟨rfl, bw2⟩
      have sw2 := bw2.size
      (try simp at sw2)
      have Aw2 : Below w.heap.size w w2 := Below.trans (by (repeat' (first | (with_reducible assumption) | (with_reducible exact Below.refl _ _) | (with_reducible refine bdN ?_ _) | (with_reducible refine Below.alloc ?_ ?_ _) | (with_reducible refine Below.drew ?_) | (with_reducible refine Below.setCell ?_ ?_ _) | go_size))) (bw2.mono (by go_size))
      have Tw2 := Lib.hid (tab_keep (by (repeat' (first | (with_reducible exact Tw1.out) | (with_reducible assumption) | (with_reducible refine tab_alloc ?_ _) | (with_reducible refine tab_drewN ?_ _) | (with_reducible refine tab_drew ?_) | (with_reducible refine tab_set ?_ ?_ _) | go_size))) bw2)
      have lw2_0 : w.heap.size+2 < w2.heap.size := (by go_size)
      have zw2_wH2 : CellsAt w2 (w.heap.size+2) 0 [.int .i64 0, .int .i64 0, .int .i64 0] := cells_keep (by (simp only [CellsAt]; (first | (go_simp; done) | ((repeat' (with_reducible refine And.intro ?_ ?_)) <;> (repeat' (first | (with_reducible assumption) | (with_reducible exact trivial) | (with_reducible refine kA _ ?_) | (with_reducible refine kD ?_) | (with_reducible refine kS _ ?_ ?_) | (with_reducible refine fA _ ?_ ?_) | (with_reducible refine fD ?_) | (with_reducible refine fS _ ?_) | go_size | (go_simp; done))))))) (fun o => bw2.cell (p := ⟨_, o, none⟩) (by go_size)) (fun o => bw2.frozen (p := ⟨_, o, none⟩) (by go_size))
      have lw2_1 : w.heap.size+1 < w2.heap.size := (by go_size)
      have zw2_wH1 : CellsAt w2 (w.heap.size+1) 0 [.int .i64 py, .int .i64 po, .int .i64 pd, .int .i64 pu, .int .i64 pi, .int .i64 ps] := cells_keep (by (simp only [CellsAt]; (first | (go_simp; done) | ((repeat' (with_reducible refine And.intro ?_ ?_)) <;> (repeat' (first | (with_reducible assumption) | (with_reducible exact trivial) | (with_reducible refine kA _ ?_) | (with_reducible refine kD ?_) | (with_reducible refine kS _ ?_ ?_) | (with_reducible refine fA _ ?_ ?_) | (with_reducible refine fD ?_) | (with_reducible refine fS _ ?_) | go_size | (go_simp; done))))))) (fun o => bw2.cell (p := ⟨_, o, none⟩) (by go_size)) (fun o => bw2.frozen (p := ⟨_, o, none⟩) (by go_size))
      simp only [CellsAt] at zw2_wH2
      simp only [CellsAt] at zw2_wH1
      clear zw1_wH2 zw1_wH1
      clear bw2
      go_wp2_with fail
      exact bodyPost_ret (v := .tuple #[.agg #[.int .i64 0, .int .i64 0, .int .i64 0], .bool false]) (by simp [results, Tryd.results35, go_sem, zw2_wH2, zw2_wH1, lw2_0, lw2_1]) rfl ⟨rfl, by (repeat' (first | (with_reducible assumption) | (with_reducible exact Below.refl _ _) | (with_reducible refine bdN ?_ _) | (with_reducible refine Below.alloc ?_ ?_ _) | (with_reducible refine Below.drew ?_) | (with_reducible refine Below.setCell ?_ ?_ _) | go_size))⟩
    · have P := Lib.hid (fun w => pv_impl_b _ _ _ _ _ _ _ hp w)
      obtain ⟨⟨a1, a2⟩, ⟨b1, b2⟩, ⟨c1, c2⟩, ⟨d1, d2⟩, ⟨e1, e2⟩, ⟨f1, f2⟩⟩ := pvB_iff.1 hp
      by_cases hz : pu = 0 ∧ pi = 0 ∧ ps = 0
      · have hd : DtIs y m d (sgn back * (12 * py + po)) (sgn back * pd) Y M D b := by
          rcases h with h | h
          · exact h.2.2.2
          · exact absurd ⟨hv, hp, hz⟩ h.1
        obtain ⟨rfl, rfl, rfl⟩ := hz
        obtain ⟨s1, s2⟩ := sgn_bd back
        have C := Lib.hid (fun (fb gb sb pb : Nat) w T x1 x2 x3 x4 x5 x6 x7 x8 => then1_i fb gb sb pb (sgn back) py po pd 0 0 0 y m d Y M D b w T x1 x2 x3 x4 x5 x6 x7 x8 s1 s2 a1 a2 b1 b2 c1 c2 hd)
        clear h hv hp hd
        go_enter Tryd.func35, Tryd.ntmps35
        go_wp2_with fail
        refine (V.out _ (by (repeat' (first | (with_reducible exact T1.out) | (with_reducible assumption) | (with_reducible refine tab_alloc ?_ _) | (with_reducible refine tab_drewN ?_ _) | (with_reducible refine tab_drew ?_) | (with_reducible refine tab_set ?_ ?_ _) | go_size)))).mono ?_
        rintro e w1 ⟨rfl, bw1⟩
        have sw1 := bw1.size
        (try simp at sw1)
        have Aw1 : Below w.heap.size w w1 := Below.trans (by (repeat' (first | (with_reducible assumption) | (with_reducible exact Below.refl _ _) | (with_reducible refine bdN ?_ _) | (with_reducible refine Below.alloc ?_ ?_ _) | (with_reducible refine Below.drew ?_) | (with_reducible refine Below.setCell ?_ ?_ _) | go_size))) (bw1.mono (by go_size))
        have Tw1 := Lib.hid (tab_keep (by (repeat' (first | (with_reducible exact T1.out) | (with_reducible assumption) | (with_reducible refine tab_alloc ?_ _) | (with_reducible refine tab_drewN ?_ _) | (with_reducible refine tab_drew ?_) | (with_reducible refine tab_set ?_ ?_ _) | go_size))) bw1)
        have lw1_0 : w.heap.size < w1.heap.size := (by go_size)
        have zw1_wH : CellsAt w1 (w.heap.size) 0 [.int .i64 y, .int .i64 m, .int .i64 d] := cells_keep (by (simp only [CellsAt]; (first | (go_simp; done) | ((repeat' (with_reducible refine And.intro ?_ ?_)) <;> (repeat' (first | (with_reducible assumption) | (with_reducible exact trivial) | (with_reducible refine kA _ ?_) | (with_reducible refine kD ?_) | (with_reducible refine kS _ ?_ ?_) | (with_reducible refine fA _ ?_ ?_) | (with_reducible refine fD ?_) | (with_reducible refine fS _ ?_) | go_size | (go_simp; done))))))) (fun o => bw1.cell (p := ⟨_, o, none⟩) (by go_size)) (fun o => bw1.frozen (p := ⟨_, o, none⟩) (by go_size))
        have lw1_1 : w.heap.size+1 < w1.heap.size := (by go_size)
        have zw1_wH1 : CellsAt w1 (w.heap.size+1) 0 [.int .i64 py, .int .i64 po, .int .i64 pd, .int .i64 0, .int .i64 0, .int .i64 0] := cells_keep (by (simp only [CellsAt]; (first | (go_simp; done) | ((repeat' (with_reducible refine And.intro ?_ ?_)) <;> (repeat' (first | (with_reducible assumption) | (with_reducible exact trivial) | (with_reducible refine kA _ ?_) | (with_reducible refine kD ?_) | (with_reducible refine kS _ ?_ ?_) | (with_reducible refine fA _ ?_ ?_) | (with_reducible refine fD ?_) | (with_reducible refine fS _ ?_) | go_size | (go_simp; done))))))) (fun o => bw1.cell (p := ⟨_, o, none⟩) (by go_size)) (fun o => bw1.frozen (p := ⟨_, o, none⟩) (by go_size))
        have lw1_2 : w.heap.size+2 < w1.heap.size := (by go_size)
        have zw1_wH2 : CellsAt w1 (w.heap.size+2) 0 [.int .i64 0, .int .i64 0, .int .i64 0] := cells_keep (by (simp only [CellsAt]; (first | (go_simp; done) | ((repeat' (with_reducible refine And.intro ?_ ?_)) <;> (repeat' (first | (with_reducible assumption) | (with_reducible exact trivial) | (with_reducible refine kA _ ?_) | (with_reducible refine kD ?_) | (with_reducible refine kS _ ?_ ?_) | (with_reducible refine fA _ ?_ ?_) | (with_reducible refine fD ?_) | (with_reducible refine fS _ ?_) | go_size | (go_simp; done))))))) (fun o => bw1.cell (p := ⟨_, o, none⟩) (by go_size)) (fun o => bw1.frozen (p := ⟨_, o, none⟩) (by go_size))
        simp only [CellsAt] at zw1_wH
        simp only [CellsAt] at zw1_wH1
        simp only [CellsAt] at zw1_wH2
        clear bw1
        go_wp2_with fail
        refine (P.out _).mono ?_
        rintro e w2 ⟨rfl, bw2⟩
        have sw2 := bw2.size
        (try simp at sw2)
        have Aw2 : Below w.heap.size w w2 := Below.trans (by (repeat' (first | (with_reducible assumption) | (with_reducible exact Below.refl _ _) | (with_reducible refine bdN ?_ _) | (with_reducible refine Below.alloc ?_ ?_ _) | (with_reducible refine Below.drew ?_) | (with_reducible refine Below.setCell ?_ ?_ _) | go_size))) (bw2.mono (by go_size))
        have Tw2 := Lib.hid (tab_keep (by (repeat' (first | (with_reducible exact Tw1.out) | (with_reducible assumption) | (with_reducible refine tab_alloc ?_ _) | (with_reducible refine tab_drewN ?_ _) | (with_reducible refine tab_drew ?_) | (with_reducible refine tab_set ?_ ?_ _) | go_size))) bw2)
        have lw2_0 : w.heap.size < w2.heap.size := (by go_size)
        have zw2_wH : CellsAt w2 (w.heap.size) 0 [.int .i64 y, .int .i64 m, .int .i64 d] := cells_keep (by (simp only [CellsAt]; (first | (go_simp; done) | ((repeat' (with_reducible refine And.intro ?_ ?_)) <;> (repeat' (first | (with_reducible assumption) | (with_reducible exact trivial) | (with_reducible refine kA _ ?_) | (with_reducible refine kD ?_) | (with_reducible refine kS _ ?_ ?_) | (with_reducible refine fA _ ?_ ?_) | (with_reducible refine fD ?_) | (with_reducible refine fS _ ?_) | go_size | (go_simp; done))))))) (fun o => bw2.cell (p := ⟨_, o, none⟩) (by go_size)) (fun o => bw2.frozen (p := ⟨_, o, none⟩) (by go_size))
        have lw2_1 : w.heap.size+1 < w2.heap.size := (by go_size)
        have zw2_wH1 : CellsAt w2 (w.heap.size+1) 0 [.int .i64 py, .int .i64 po, .int .i64 pd, .int .i64 0, .int .i64 0, .int .i64 0] := cells_keep (by (simp only [CellsAt]; (first | (go_simp; done) | ((repeat' (with_reducible refine And.intro ?_ ?_)) <;> (repeat' (first | (with_reducible assumption) | (with_reducible exact trivial) | (with_reducible refine kA _ ?_) | (with_reducible refine kD ?_) | (with_reducible refine kS _ ?_ ?_) | (with_reducible refine fA _ ?_ ?_) | (with_reducible refine fD ?_) | (with_reducible refine fS _ ?_) | go_size | (go_simp; done))))))) (fun o => bw2.cell (p := ⟨_, o, none⟩) (by go_size)) (fun o => bw2.frozen (p := ⟨_, o, none⟩) (by go_size))
        have lw2_2 : w.heap.size+2 < w2.heap.size := (by go_size)
        have zw2_wH2 : CellsAt w2 (w.heap.size+2) 0 [.int .i64 0, .int .i64 0, .int .i64 0] := cells_keep (by (simp only [CellsAt]; (first | (go_simp; done) | ((repeat' (with_reducible refine And.intro ?_ ?_)) <;> (repeat' (first | (with_reducible assumption) | (with_reducible exact trivial) | (with_reducible refine kA _ ?_) | (with_reducible refine kD ?_) | (with_reducible refine kS _ ?_ ?_) | (with_reducible refine fA _ ?_ ?_) | (with_reducible refine fD ?_) | (with_reducible refine fS _ ?_) | go_size | (go_simp; done))))))) (fun o => bw2.cell (p := ⟨_, o, none⟩) (by go_size)) (fun o => bw2.frozen (p := ⟨_, o, none⟩) (by go_size))
        simp only [CellsAt] at zw2_wH
        simp only [CellsAt] at zw2_wH1
        simp only [CellsAt] at zw2_wH2
        clear zw1_wH zw1_wH1 zw1_wH2
        clear bw2
        go_wp2_with fail
        refine (secondsOf_any _ _ _ _ _ _ _ d1 d2 e1 e2 f1 f2).mono ?_
        rintro e w' ⟨rfl, rfl⟩
        go_wp2_with fail
        go_region_held3 (fun w' => w'.cell? ⟨w.heap.size, 0, none⟩ = some (.int .i64 y) ∧ w'.cell? ⟨w.heap.size, 1, none⟩ = some (.int .i64 m) ∧ w'.cell? ⟨w.heap.size, 2, none⟩ = some (.int .i64 d) ∧ w'.cell? ⟨w.heap.size+1, 0, none⟩ = some (.int .i64 py) ∧ w'.cell? ⟨w.heap.size+1, 1, none⟩ = some (.int .i64 po) ∧ w'.cell? ⟨w.heap.size+1, 2, none⟩ = some (.int .i64 pd) ∧ w'.cell? ⟨w.heap.size+1, 3, none⟩ = some (.int .i64 0) ∧ w'.cell? ⟨w.heap.size+1, 4, none⟩ = some (.int .i64 0) ∧ w'.cell? ⟨w.heap.size+1, 5, none⟩ = some (.int .i64 0)) (((repeat' (with_reducible refine And.intro ?_ ?_)) <;> (first | (with_reducible assumption) | (go_simp; done) | (repeat' (first | (with_reducible assumption) | (with_reducible refine kA _ ?_) | (with_reducible refine kD ?_) | (with_reducible refine kS _ ?_ ?_) | go_size | (go_simp; done))))))
          (first
            | (go_at_call 64; refine (shiftOf_any _ _ _ _ _ _ _ _).mono ?_; rintro e w' ⟨rfl, rfl⟩)
            | (go_at_call 121; (with_reducible refine (C.out _ _ (w2.heap.size + 1 + 1) (w2.heap.size + 1) _ ?hT ?h1 ?h2 ?h3 ?h4 ?h5 ?h6 ?h7 ?h8).mono ?_); (case hT => (repeat' (first | (with_reducible exact Tw2.out) | (with_reducible assumption) | (with_reducible refine tab_alloc ?_ _) | (with_reducible refine tab_drewN ?_ _) | (with_reducible refine tab_drew ?_) | (with_reducible refine tab_set ?_ ?_ _) | go_size))); (case h1 => go_size); (case h2 => go_size); (case h3 => go_size); (case h4 => go_size); (case h5 => (simp only [CellsAt]; (first | (go_simp; done) | ((repeat' (with_reducible refine And.intro ?_ ?_)) <;> (repeat' (first | (with_reducible assumption) | (with_reducible exact trivial) | (with_reducible refine kA _ ?_) | (with_reducible refine kD ?_) | (with_reducible refine kS _ ?_ ?_) | (with_reducible refine fA _ ?_ ?_) | (with_reducible refine fD ?_) | (with_reducible refine fS _ ?_) | go_size | (go_simp; done))))))); (case h6 => (simp only [CellsAt]; (first | (go_simp; done) | ((repeat' (with_reducible refine And.intro ?_ ?_)) <;> (repeat' (first | (with_reducible assumption) | (with_reducible exact trivial) | (with_reducible refine kA _ ?_) | (with_reducible refine kD ?_) | (with_reducible refine kS _ ?_ ?_) | (with_reducible refine fA _ ?_ ?_) | (with_reducible refine fD ?_) | (with_reducible refine fS _ ?_) | go_size | (go_simp; done))))))); (case h7 => (simp only [CellsAt]; (first | (go_simp; done) | ((repeat' (with_reducible refine And.intro ?_ ?_)) <;> (repeat' (first | (with_reducible assumption) | (with_reducible exact trivial) | (with_reducible refine kA _ ?_) | (with_reducible refine kD ?_) | (with_reducible refine kS _ ?_ ?_) | (with_reducible refine fA _ ?_ ?_) | (with_reducible refine fD ?_) | (with_reducible refine fS _ ?_) | go_size | (go_simp; done))))))); (case h8 => (simp only [CellsAt]; (first | (go_simp; done) | ((repeat' (with_reducible refine And.intro ?_ ?_)) <;> (repeat' (first | (with_reducible assumption) | (with_reducible exact trivial) | (with_reducible refine kA _ ?_) | (with_reducible refine kD ?_) | (with_reducible refine kS _ ?_ ?_) | (with_reducible refine fA _ ?_ ?_) | (with_reducible refine fD ?_) | (with_reducible refine fS _ ?_) | go_size | (go_simp; done))))))); rintro e w4 ⟨rfl, bw4⟩; have sw4 := bw4.size; (try simp at sw4); have Aw4 : Below w.heap.size w w4 := Below.trans (by (repeat' (first | (with_reducible assumption) | (with_reducible exact Below.refl _ _) | (with_reducible refine bdN ?_ _) | (with_reducible refine Below.alloc ?_ ?_ _) | (with_reducible refine Below.drew ?_) | (with_reducible refine Below.setCell ?_ ?_ _) | go_size))) (bw4.mono (by go_size)); have Tw4 := Lib.hid (tab_keep (by (repeat' (first | (with_reducible exact Tw2.out) | (with_reducible assumption) | (with_reducible refine tab_alloc ?_ _) | (with_reducible refine tab_drewN ?_ _) | (with_reducible refine tab_drew ?_) | (with_reducible refine tab_set ?_ ?_ _) | go_size))) bw4); have lw4_0 : w.heap.size < w4.heap.size := (by go_size); have zw4_wH : CellsAt w4 (w.heap.size) 0 [.int .i64 y, .int .i64 m, .int .i64 d] := cells_keep (by (simp only [CellsAt]; (first | (go_simp; done) | ((repeat' (with_reducible refine And.intro ?_ ?_)) <;> (repeat' (first | (with_reducible assumption) | (with_reducible exact trivial) | (with_reducible refine kA _ ?_) | (with_reducible refine kD ?_) | (with_reducible refine kS _ ?_ ?_) | (with_reducible refine fA _ ?_ ?_) | (with_reducible refine fD ?_) | (with_reducible refine fS _ ?_) | go_size | (go_simp; done))))))) (fun o => bw4.cell (p := ⟨_, o, none⟩) (by go_size)) (fun o => bw4.frozen (p := ⟨_, o, none⟩) (by go_size)); have lw4_1 : w.heap.size+1 < w4.heap.size := (by go_size); have zw4_wH1 : CellsAt w4 (w.heap.size+1) 0 [.int .i64 py, .int .i64 po, .int .i64 pd, .int .i64 0, .int .i64 0, .int .i64 0] := cells_keep (by (simp only [CellsAt]; (first | (go_simp; done) | ((repeat' (with_reducible refine And.intro ?_ ?_)) <;> (repeat' (first | (with_reducible assumption) | (with_reducible exact trivial) | (with_reducible refine kA _ ?_) | (with_reducible refine kD ?_) | (with_reducible refine kS _ ?_ ?_) | (with_reducible refine fA _ ?_ ?_) | (with_reducible refine fD ?_) | (with_reducible refine fS _ ?_) | go_size | (go_simp; done))))))) (fun o => bw4.cell (p := ⟨_, o, none⟩) (by go_size)) (fun o => bw4.frozen (p := ⟨_, o, none⟩) (by go_size)); have lw4_2 : w.heap.size+2 < w4.heap.size := (by go_size); have zw4_wH2 : CellsAt w4 (w.heap.size+2) 0 [.int .i64 0, .int .i64 0, .int .i64 0] := cells_keep (by (simp only [CellsAt]; (first | (go_simp; done) | ((repeat' (with_reducible refine And.intro ?_ ?_)) <;> (repeat' (first | (with_reducible assumption) | (with_reducible exact trivial) | (with_reducible refine kA _ ?_) | (with_reducible refine kD ?_) | (with_reducible refine kS _ ?_ ?_) | (with_reducible refine fA _ ?_ ?_) | (with_reducible refine fD ?_) | (with_reducible refine fS _ ?_) | go_size | (go_simp; done))))))) (fun o => bw4.cell (p := ⟨_, o, none⟩) (by go_size)) (fun o => bw4.frozen (p := ⟨_, o, none⟩) (by go_size)); simp only [CellsAt] at zw4_wH; simp only [CellsAt] at zw4_wH1; simp only [CellsAt] at zw4_wH2; clear zw2_wH zw2_wH1 zw2_wH2; clear bw4)
          )
        all_goals
          go_wp2_with fail
          exact bodyPost_ret (v := .tuple #[.agg #[.int .i64 Y, .int .i64 M, .int .i64 D], .bool b]) (by simp [results, Tryd.results35, go_sem, zw4_wH, zw4_wH1, zw4_wH2, lw4_0, lw4_1, lw4_2]) rfl ⟨rfl, by (repeat' (first | (with_reducible assumption) | (with_reducible exact Below.refl _ _) | (with_reducible refine bdN ?_ _) | (with_reducible refine Below.alloc ?_ ?_ _) | (with_reducible refine Below.drew ?_) | (with_reducible refine Below.setCell ?_ ?_ _) | go_size))⟩
      · obtain ⟨rfl, rfl, rfl, rfl⟩ : b = false ∧ Y = 0 ∧ M = 0 ∧ D = 0 := by
          rcases h with h | h
          · exact absurd h.2.2.1 hz
          · exact h.2
        have hs : 0 < (pu * 60 + pi) * 60 + ps := by omega
        clear h hv hp hz
        go_enter Tryd.func35, Tryd.ntmps35
        go_wp2_with fail
        refine (V.out _ (by (repeat' (first | (with_reducible exact T1.out) | (with_reducible assumption) | (with_reducible refine tab_alloc ?_ _) | (with_reducible refine tab_drewN ?_ _) | (with_reducible refine tab_drew ?_) | (with_reducible refine tab_set ?_ ?_ _) | go_size)))).mono ?_
        rintro e w1 ⟨rfl, bw1⟩
        have sw1 := bw1.size
        (try simp at sw1)
        have Aw1 : Below w.heap.size w w1 := Below.trans (by (repeat' (first | (with_reducible assumption) | (with_reducible exact Below.refl _ _) | (with_reducible refine bdN ?_ _) | (with_reducible refine Below.alloc ?_ ?_ _) | (with_reducible refine Below.drew ?_) | (with_reducible refine Below.setCell ?_ ?_ _) | go_size))) (bw1.mono (by go_size))
        have Tw1 := Lib.hid (tab_keep (by (repeat' (first | (with_reducible exact T1.out) | (with_reducible assumption) | (with_reducible refine tab_alloc ?_ _) | (with_reducible refine tab_drewN ?_ _) | (with_reducible refine tab_drew ?_) | (with_reducible refine tab_set ?_ ?_ _) | go_size))) bw1)
        have lw1_0 : w.heap.size+1 < w1.heap.size := (by go_size)
        have zw1_wH1 : CellsAt w1 (w.heap.size+1) 0 [.int .i64 py, .int .i64 po, .int .i64 pd, .int .i64 pu, .int .i64 pi, .int .i64 ps] := cells_keep (by (simp only [CellsAt]; (first | (go_simp; done) | ((repeat' (with_reducible refine And.intro ?_ ?_)) <;> (repeat' (first | (with_reducible assumption) | (with_reducible exact trivial) | (with_reducible refine kA _ ?_) | (with_reducible refine kD ?_) | (with_reducible refine kS _ ?_ ?_) | (with_reducible refine fA _ ?_ ?_) | (with_reducible refine fD ?_) | (with_reducible refine fS _ ?_) | go_size | (go_simp; done))))))) (fun o => bw1.cell (p := ⟨_, o, none⟩) (by go_size)) (fun o => bw1.frozen (p := ⟨_, o, none⟩) (by go_size))
        have lw1_1 : w.heap.size+2 < w1.heap.size := (by go_size)
        have zw1_wH2 : CellsAt w1 (w.heap.size+2) 0 [.int .i64 0, .int .i64 0, .int .i64 0] := cells_keep (by (simp only [CellsAt]; (first | (go_simp; done) | ((repeat' (with_reducible refine And.intro ?_ ?_)) <;> (repeat' (first | (with_reducible assumption) | (with_reducible exact trivial) | (with_reducible refine kA _ ?_) | (with_reducible refine kD ?_) | (with_reducible refine kS _ ?_ ?_) | (with_reducible refine fA _ ?_ ?_) | (with_reducible refine fD ?_) | (with_reducible refine fS _ ?_) | go_size | (go_simp; done))))))) (fun o => bw1.cell (p := ⟨_, o, none⟩) (by go_size)) (fun o => bw1.frozen (p := ⟨_, o, none⟩) (by go_size))
        simp only [CellsAt] at zw1_wH1
        simp only [CellsAt] at zw1_wH2
        clear bw1
        go_wp2_with fail
        refine (P.out _).mono ?_
        rintro e w2 ⟨rfl, bw2⟩
        have sw2 := bw2.size
        (try simp at sw2)
        have Aw2 : Below w.heap.size w w2 := Below.trans (by (repeat' (first | (with_reducible assumption) | (with_reducible exact Below.refl _ _) | (with_reducible refine bdN ?_ _) | (with_reducible refine Below.alloc ?_ ?_ _) | (with_reducible refine Below.drew ?_) | (with_reducible refine Below.setCell ?_ ?_ _) | go_size))) (bw2.mono (by go_size))
        have Tw2 := Lib.hid (tab_keep (by (repeat' (first | (with_reducible exact Tw1.out) | (with_reducible assumption) | (with_reducible refine tab_alloc ?_ _) | (with_reducible refine tab_drewN ?_ _) | (with_reducible refine tab_drew ?_) | (with_reducible refine tab_set ?_ ?_ _) | go_size))) bw2)
        have lw2_0 : w.heap.size+1 < w2.heap.size := (by go_size)
        have zw2_wH1 : CellsAt w2 (w.heap.size+1) 0 [.int .i64 py, .int .i64 po, .int .i64 pd, .int .i64 pu, .int .i64 pi, .int .i64 ps] := cells_keep (by (simp only [CellsAt]; (first | (go_simp; done) | ((repeat' (with_reducible refine And.intro ?_ ?_)) <;> (repeat' (first | (with_reducible assumption) | (with_reducible exact trivial) | (with_reducible refine kA _ ?_) | (with_reducible refine kD ?_) | (with_reducible refine kS _ ?_ ?_) | (with_reducible refine fA _ ?_ ?_) | (with_reducible refine fD ?_) | (with_reducible refine fS _ ?_) | go_size | (go_simp; done))))))) (fun o => bw2.cell (p := ⟨_, o, none⟩) (by go_size)) (fun o => bw2.frozen (p := ⟨_, o, none⟩) (by go_size))
        have lw2_1 : w.heap.size+2 < w2.heap.size := (by go_size)
        have zw2_wH2 : CellsAt w2 (w.heap.size+2) 0 [.int .i64 0, .int .i64 0, .int .i64 0] := cells_keep (by (simp only [CellsAt]; (first | (go_simp; done) | ((repeat' (with_reducible refine And.intro ?_ ?_)) <;> (repeat' (first | (with_reducible assumption) | (with_reducible exact trivial) | (with_reducible refine kA _ ?_) | (with_reducible refine kD ?_) | (with_reducible refine kS _ ?_ ?_) | (with_reducible refine fA _ ?_ ?_) | (with_reducible refine fD ?_) | (with_reducible refine fS _ ?_) | go_size | (go_simp; done))))))) (fun o => bw2.cell (p := ⟨_, o, none⟩) (by go_size)) (fun o => bw2.frozen (p := ⟨_, o, none⟩) (by go_size))
        simp only [CellsAt] at zw2_wH1
        simp only [CellsAt] at zw2_wH2
        clear zw1_wH1 zw1_wH2
        clear bw2
        go_wp2_with fail
        refine (secondsOf_any _ _ _ _ _ _ _ d1 d2 e1 e2 f1 f2).mono ?_
        rintro e w' ⟨rfl, rfl⟩
        go_wp2_with fail
        exact bodyPost_ret (v := .tuple #[.agg #[.int .i64 0, .int .i64 0, .int .i64 0], .bool false]) (by simp [results, Tryd.results35, go_sem, zw2_wH1, zw2_wH2, lw2_0, lw2_1]) rfl ⟨rfl, by (repeat' (first | (with_reducible assumption) | (with_reducible exact Below.refl _ _) | (with_reducible refine bdN ?_ _) | (with_reducible refine Below.alloc ?_ ?_ _) | (with_reducible refine Below.drew ?_) | (with_reducible refine Below.setCell ?_ ?_ _) | go_size))⟩
end Go.Proofs.YtacglejojkamfaaDoor
