/- Contracts of the functions on stamps and instants, by the program and by the reference. Conditions: the program's table of the months' days stands in memory ('Tab'); of some the stamp is valid. -/
import Derived.Test.YtlfdcdbgjnkddaaDoorClock
import Derived.Test.YtlfdcdbgjnkddaaDoorDateOf
import Derived.Test.YtlfdcdbgjnkddaaDoorVdb
import Derived.Deep.RegionWith
import Derived.Deep.DeepCutAuto
namespace Go.Proofs.YtlfdcdbgjnkddaaDoor
set_option linter.unusedSimpArgs false
set_option linter.unusedVariables false
open Go.RowKit DN

theorem sv_ff {y m d h i s u o : Int} (a : vd y m d = false) : svB y m d h i s u o = false := by unfold svB; rw [a]; rfl
theorem sv_tf {y m d h i s u o : Int} (b : cvB h i s u = false) : svB y m d h i s u o = false := by unfold svB; rw [b]; simp
theorem sv_tt {y m d h i s u o : Int} (a : vd y m d = true) (b : cvB h i s u = true) : svB y m d h i s u o = inB o (-1439) 1439 := by unfold svB; rw [a, b]; simp

set_option maxHeartbeats 1000000 in
theorem sv_i (y m d h i s u o : Int) (w : World) (T : Tab w) : Calls Tryd.prog 21 #[.agg #[.int .i64 y, .int .i64 m, .int .i64 d, .int .i64 h, .int .i64 i, .int .i64 s, .int .i64 u, .int .i64 o]] w fun e w' => e = .returned (.bool (svB y m d h i s u o)) ∧ Below w.heap.size w w' := by
  have T0 := Lib.hid T
  clear T
  cases hv : vd y m d
  · rw [sv_ff hv]
    have V := Lib.hid (fun w T => vd_ib y m d w T false hv)
    clear hv
    go_enter Tryd.func21, Tryd.ntmps21
    go_wp2_with fail
    refine (V.out _ (by (repeat' (first | (with_reducible exact T0.out) | (with_reducible assumption) | (with_reducible refine tab_alloc ?_ _) | (with_reducible refine tab_drewN ?_ _) | (with_reducible refine tab_drew ?_) | (with_reducible refine tab_set ?_ ?_ _) | go_size)))).mono ?_
    rintro e w1 ⟨rfl, bw1⟩
    have sw1 := bw1.size
    (try simp at sw1)
    have Aw1 : Below w.heap.size w w1 := Below.trans (by (repeat' (first | (with_reducible assumption) | (with_reducible exact Below.refl _ _) | (with_reducible refine bdN ?_ _) | (with_reducible refine Below.alloc ?_ ?_ _) | (with_reducible refine Below.drew ?_) | (with_reducible refine Below.setCell ?_ ?_ _) | go_size))) (bw1.mono (by go_size))
    have Tw1 := Lib.hid (tab_keep (by (repeat' (first | (with_reducible exact T0.out) | (with_reducible assumption) | (with_reducible refine tab_alloc ?_ _) | (with_reducible refine tab_drewN ?_ _) | (with_reducible refine tab_drew ?_) | (with_reducible refine tab_set ?_ ?_ _) | go_size))) bw1)
    clear bw1
    go_wp2_with fail
    go_ret
    exact ⟨rfl, by (repeat' (first | (with_reducible assumption) | (with_reducible exact Below.refl _ _) | (with_reducible refine bdN ?_ _) | (with_reducible refine Below.alloc ?_ ?_ _) | (with_reducible refine Below.drew ?_) | (with_reducible refine Below.setCell ?_ ?_ _) | go_size))⟩
  · have V := Lib.hid (fun w T => vd_ib y m d w T true hv)
    cases hc : cvB h i s u
    · rw [sv_tf hc]
      have C := Lib.hid (fun w => cv_ib h i s u w false hc)
      clear hv hc
      go_enter Tryd.func21, Tryd.ntmps21
      go_wp2_with fail
      refine (V.out _ (by (repeat' (first | (with_reducible exact T0.out) | (with_reducible assumption) | (with_reducible refine tab_alloc ?_ _) | (with_reducible refine tab_drewN ?_ _) | (with_reducible refine tab_drew ?_) | (with_reducible refine tab_set ?_ ?_ _) | go_size)))).mono ?_
      rintro e w1 ⟨rfl, bw1⟩
      have sw1 := bw1.size
      (try simp at sw1)
      have Aw1 : Below w.heap.size w w1 := Below.trans (by (repeat' (first | (with_reducible assumption) | (with_reducible exact Below.refl _ _) | (with_reducible refine bdN ?_ _) | (with_reducible refine Below.alloc ?_ ?_ _) | (with_reducible refine Below.drew ?_) | (with_reducible refine Below.setCell ?_ ?_ _) | go_size))) (bw1.mono (by go_size))
      have Tw1 := Lib.hid (tab_keep (by (repeat' (first | (with_reducible exact T0.out) | (with_reducible assumption) | (with_reducible refine tab_alloc ?_ _) | (with_reducible refine tab_drewN ?_ _) | (with_reducible refine tab_drew ?_) | (with_reducible refine tab_set ?_ ?_ _) | go_size))) bw1)
      have lw1_0 : w.heap.size < w1.heap.size := (by go_size)
      have zw1_wH : CellsAt w1 (w.heap.size) 0 [.int .i64 y, .int .i64 m, .int .i64 d, .int .i64 h, .int .i64 i, .int .i64 s, .int .i64 u, .int .i64 o] := cells_keep (by (simp only [CellsAt]; (first | (go_simp; done) | ((repeat' (with_reducible refine And.intro ?_ ?_)) <;> (repeat' (first | (with_reducible assumption) | (with_reducible exact trivial) | (with_reducible refine kA _ ?_) | (with_reducible refine kD ?_) | (with_reducible refine kS _ ?_ ?_) | (with_reducible refine fA _ ?_ ?_) | (with_reducible refine fD ?_) | (with_reducible refine fS _ ?_) | go_size | (go_simp; done))))))) (fun o => bw1.cell (p := ⟨_, o, none⟩) (by go_size)) (fun o => bw1.frozen (p := ⟨_, o, none⟩) (by go_size))
      simp only [CellsAt] at zw1_wH
      clear bw1
      go_wp2_with fail
      refine (C.out _).mono ?_
      rintro e w2 ⟨rfl, bw2⟩
      have sw2 := bw2.size
      (try simp at sw2)
      have Aw2 : Below w.heap.size w w2 := Below.trans (by (repeat' (first | (with_reducible assumption) | (with_reducible exact Below.refl _ _) | (with_reducible refine bdN ?_ _) | (with_reducible refine Below.alloc ?_ ?_ _) | (with_reducible refine Below.drew ?_) | (with_reducible refine Below.setCell ?_ ?_ _) | go_size))) (bw2.mono (by go_size))
      have Tw2 := Lib.hid (tab_keep (by (repeat' (first | (with_reducible exact Tw1.out) | (with_reducible assumption) | (with_reducible refine tab_alloc ?_ _) | (with_reducible refine tab_drewN ?_ _) | (with_reducible refine tab_drew ?_) | (with_reducible refine tab_set ?_ ?_ _) | go_size))) bw2)
      have lw2_0 : w.heap.size < w2.heap.size := (by go_size)
      have zw2_wH : CellsAt w2 (w.heap.size) 0 [.int .i64 y, .int .i64 m, .int .i64 d, .int .i64 h, .int .i64 i, .int .i64 s, .int .i64 u, .int .i64 o] := cells_keep (by (simp only [CellsAt]; (first | (go_simp; done) | ((repeat' (with_reducible refine And.intro ?_ ?_)) <;> (repeat' (first | (with_reducible assumption) | (with_reducible exact trivial) | (with_reducible refine kA _ ?_) | (with_reducible refine kD ?_) | (with_reducible refine kS _ ?_ ?_) | (with_reducible refine fA _ ?_ ?_) | (with_reducible refine fD ?_) | (with_reducible refine fS _ ?_) | go_size | (go_simp; done))))))) (fun o => bw2.cell (p := ⟨_, o, none⟩) (by go_size)) (fun o => bw2.frozen (p := ⟨_, o, none⟩) (by go_size))
      simp only [CellsAt] at zw2_wH
      clear zw1_wH
      clear bw2
      go_wp2_with fail
      go_ret
      exact ⟨rfl, by (repeat' (first | (with_reducible assumption) | (with_reducible exact Below.refl _ _) | (with_reducible refine bdN ?_ _) | (with_reducible refine Below.alloc ?_ ?_ _) | (with_reducible refine Below.drew ?_) | (with_reducible refine Below.setCell ?_ ?_ _) | go_size))⟩
    · rw [sv_tt hv hc]
      have C := Lib.hid (fun w => cv_ib h i s u w true hc)
      clear hv hc
      go_enter Tryd.func21, Tryd.ntmps21
      go_wp2_with fail
      refine (V.out _ (by (repeat' (first | (with_reducible exact T0.out) | (with_reducible assumption) | (with_reducible refine tab_alloc ?_ _) | (with_reducible refine tab_drewN ?_ _) | (with_reducible refine tab_drew ?_) | (with_reducible refine tab_set ?_ ?_ _) | go_size)))).mono ?_
      rintro e w1 ⟨rfl, bw1⟩
      have sw1 := bw1.size
      (try simp at sw1)
      have Aw1 : Below w.heap.size w w1 := Below.trans (by (repeat' (first | (with_reducible assumption) | (with_reducible exact Below.refl _ _) | (with_reducible refine bdN ?_ _) | (with_reducible refine Below.alloc ?_ ?_ _) | (with_reducible refine Below.drew ?_) | (with_reducible refine Below.setCell ?_ ?_ _) | go_size))) (bw1.mono (by go_size))
      have Tw1 := Lib.hid (tab_keep (by (repeat' (first | (with_reducible exact T0.out) | (with_reducible assumption) | (with_reducible refine tab_alloc ?_ _) | (with_reducible refine tab_drewN ?_ _) | (with_reducible refine tab_drew ?_) | (with_reducible refine tab_set ?_ ?_ _) | go_size))) bw1)
      have lw1_0 : w.heap.size < w1.heap.size := (by go_size)
      have zw1_wH : CellsAt w1 (w.heap.size) 0 [.int .i64 y, .int .i64 m, .int .i64 d, .int .i64 h, .int .i64 i, .int .i64 s, .int .i64 u, .int .i64 o] := cells_keep (by (simp only [CellsAt]; (first | (go_simp; done) | ((repeat' (with_reducible refine And.intro ?_ ?_)) <;> (repeat' (first | (with_reducible assumption) | (with_reducible exact trivial) | (with_reducible refine kA _ ?_) | (with_reducible refine kD ?_) | (with_reducible refine kS _ ?_ ?_) | (with_reducible refine fA _ ?_ ?_) | (with_reducible refine fD ?_) | (with_reducible refine fS _ ?_) | go_size | (go_simp; done))))))) (fun o => bw1.cell (p := ⟨_, o, none⟩) (by go_size)) (fun o => bw1.frozen (p := ⟨_, o, none⟩) (by go_size))
      simp only [CellsAt] at zw1_wH
      clear bw1
      go_wp2_with fail
      refine (C.out _).mono ?_
      rintro e w2 ⟨rfl, bw2⟩
      have sw2 := bw2.size
      (try simp at sw2)
      have Aw2 : Below w.heap.size w w2 := Below.trans (by (repeat' (first | (with_reducible assumption) | (with_reducible exact Below.refl _ _) | (with_reducible refine bdN ?_ _) | (with_reducible refine Below.alloc ?_ ?_ _) | (with_reducible refine Below.drew ?_) | (with_reducible refine Below.setCell ?_ ?_ _) | go_size))) (bw2.mono (by go_size))
      have Tw2 := Lib.hid (tab_keep (by (repeat' (first | (with_reducible exact Tw1.out) | (with_reducible assumption) | (with_reducible refine tab_alloc ?_ _) | (with_reducible refine tab_drewN ?_ _) | (with_reducible refine tab_drew ?_) | (with_reducible refine tab_set ?_ ?_ _) | go_size))) bw2)
      have lw2_0 : w.heap.size < w2.heap.size := (by go_size)
      have zw2_wH : CellsAt w2 (w.heap.size) 0 [.int .i64 y, .int .i64 m, .int .i64 d, .int .i64 h, .int .i64 i, .int .i64 s, .int .i64 u, .int .i64 o] := cells_keep (by (simp only [CellsAt]; (first | (go_simp; done) | ((repeat' (with_reducible refine And.intro ?_ ?_)) <;> (repeat' (first | (with_reducible assumption) | (with_reducible exact trivial) | (with_reducible refine kA _ ?_) | (with_reducible refine kD ?_) | (with_reducible refine kS _ ?_ ?_) | (with_reducible refine fA _ ?_ ?_) | (with_reducible refine fD ?_) | (with_reducible refine fS _ ?_) | go_size | (go_simp; done))))))) (fun o => bw2.cell (p := ⟨_, o, none⟩) (by go_size)) (fun o => bw2.frozen (p := ⟨_, o, none⟩) (by go_size))
      simp only [CellsAt] at zw2_wH
      clear zw1_wH
      clear bw2
      go_wp2_with fail
      refine (offsetValid_any _ _).mono ?_
      rintro e w' ⟨rfl, rfl⟩
      go_wp2_with fail
      go_ret
      exact ⟨rfl, by (repeat' (first | (with_reducible assumption) | (with_reducible exact Below.refl _ _) | (with_reducible refine bdN ?_ _) | (with_reducible refine Below.alloc ?_ ?_ _) | (with_reducible refine Below.drew ?_) | (with_reducible refine Below.setCell ?_ ?_ _) | go_size))⟩
theorem sv_ib (y m d h i s u o : Int) (w : World) (T : Tab w) (b : Bool) (e : svB y m d h i s u o = b) : Calls Tryd.prog 21 #[.agg #[.int .i64 y, .int .i64 m, .int .i64 d, .int .i64 h, .int .i64 i, .int .i64 s, .int .i64 u, .int .i64 o]] w fun e w' => e = .returned (.bool b) ∧ Below w.heap.size w w' := by
  have c := sv_i y m d h i s u o w T
  rwa [e] at c

set_option maxHeartbeats 1000000 in
theorem sv_s (y m d h i s u o : Int) (w : World) : Calls Tryd.prog 17 #[.agg #[.int .i64 y, .int .i64 m, .int .i64 d, .int .i64 h, .int .i64 i, .int .i64 s, .int .i64 u, .int .i64 o]] w fun e w' => e = .returned (.bool (svB y m d h i s u o)) ∧ Below w.heap.size w w' := by
  cases hv : vd y m d
  · rw [sv_ff hv]
    have V := Lib.hid (fun w => vd_sb y m d w false hv)
    clear hv
    go_enter Tryd.func17, Tryd.ntmps17
    go_wp2_with fail
    refine (V.out _).mono ?_
    rintro e w1 ⟨rfl, bw1⟩
    have sw1 := bw1.size
    (try simp at sw1)
    have Aw1 : Below w.heap.size w w1 := Below.trans (by (repeat' (first | (with_reducible assumption) | (with_reducible exact Below.refl _ _) | (with_reducible refine bdN ?_ _) | (with_reducible refine Below.alloc ?_ ?_ _) | (with_reducible refine Below.drew ?_) | (with_reducible refine Below.setCell ?_ ?_ _) | go_size))) (bw1.mono (by go_size))
    clear bw1
    go_wp2_with fail
    go_ret
    exact ⟨rfl, by (repeat' (first | (with_reducible assumption) | (with_reducible exact Below.refl _ _) | (with_reducible refine bdN ?_ _) | (with_reducible refine Below.alloc ?_ ?_ _) | (with_reducible refine Below.drew ?_) | (with_reducible refine Below.setCell ?_ ?_ _) | go_size))⟩
  · have V := Lib.hid (fun w => vd_sb y m d w true hv)
    cases hc : cvB h i s u
    · rw [sv_tf hc]
      have C := Lib.hid (fun w => cv_sb h i s u w false hc)
      clear hv hc
      go_enter Tryd.func17, Tryd.ntmps17
      go_wp2_with fail
      refine (V.out _).mono ?_
      rintro e w1 ⟨rfl, bw1⟩
      have sw1 := bw1.size
      (try simp at sw1)
      have Aw1 : Below w.heap.size w w1 := Below.trans (by (repeat' (first | (with_reducible assumption) | (with_reducible exact Below.refl _ _) | (with_reducible refine bdN ?_ _) | (with_reducible refine Below.alloc ?_ ?_ _) | (with_reducible refine Below.drew ?_) | (with_reducible refine Below.setCell ?_ ?_ _) | go_size))) (bw1.mono (by go_size))
      have lw1_0 : w.heap.size < w1.heap.size := (by go_size)
      have zw1_wH : CellsAt w1 (w.heap.size) 0 [.int .i64 y, .int .i64 m, .int .i64 d, .int .i64 h, .int .i64 i, .int .i64 s, .int .i64 u, .int .i64 o] := cells_keep (by (simp only [CellsAt]; (first | (go_simp; done) | ((repeat' (with_reducible refine And.intro ?_ ?_)) <;> (repeat' (first | (with_reducible assumption) | (with_reducible exact trivial) | (with_reducible refine kA _ ?_) | (with_reducible refine kD ?_) | (with_reducible refine kS _ ?_ ?_) | (with_reducible refine fA _ ?_ ?_) | (with_reducible refine fD ?_) | (with_reducible refine fS _ ?_) | go_size | (go_simp; done))))))) (fun o => bw1.cell (p := ⟨_, o, none⟩) (by go_size)) (fun o => bw1.frozen (p := ⟨_, o, none⟩) (by go_size))
      simp only [CellsAt] at zw1_wH
      clear bw1
      go_wp2_with fail
      refine (C.out _).mono ?_
      rintro e w2 ⟨rfl, bw2⟩
      have sw2 := bw2.size
      (try simp at sw2)
      have Aw2 : Below w.heap.size w w2 := Below.trans (by (repeat' (first | (with_reducible assumption) | (with_reducible exact Below.refl _ _) | (with_reducible refine bdN ?_ _) | (with_reducible refine Below.alloc ?_ ?_ _) | (with_reducible refine Below.drew ?_) | (with_reducible refine Below.setCell ?_ ?_ _) | go_size))) (bw2.mono (by go_size))
      have lw2_0 : w.heap.size < w2.heap.size := (by go_size)
      have zw2_wH : CellsAt w2 (w.heap.size) 0 [.int .i64 y, .int .i64 m, .int .i64 d, .int .i64 h, .int .i64 i, .int .i64 s, .int .i64 u, .int .i64 o] := cells_keep (by (simp only [CellsAt]; (first | (go_simp; done) | ((repeat' (with_reducible refine And.intro ?_ ?_)) <;> (repeat' (first | (with_reducible assumption) | (with_reducible exact trivial) | (with_reducible refine kA _ ?_) | (with_reducible refine kD ?_) | (with_reducible refine kS _ ?_ ?_) | (with_reducible refine fA _ ?_ ?_) | (with_reducible refine fD ?_) | (with_reducible refine fS _ ?_) | go_size | (go_simp; done))))))) (fun o => bw2.cell (p := ⟨_, o, none⟩) (by go_size)) (fun o => bw2.frozen (p := ⟨_, o, none⟩) (by go_size))
      simp only [CellsAt] at zw2_wH
      clear zw1_wH
      clear bw2
      go_wp2_with fail
      go_ret
      exact ⟨rfl, by (repeat' (first | (with_reducible assumption) | (with_reducible exact Below.refl _ _) | (with_reducible refine bdN ?_ _) | (with_reducible refine Below.alloc ?_ ?_ _) | (with_reducible refine Below.drew ?_) | (with_reducible refine Below.setCell ?_ ?_ _) | go_size))⟩
    · rw [sv_tt hv hc]
      have C := Lib.hid (fun w => cv_sb h i s u w true hc)
      clear hv hc
      go_enter Tryd.func17, Tryd.ntmps17
      go_wp2_with fail
      refine (V.out _).mono ?_
      rintro e w1 ⟨rfl, bw1⟩
      have sw1 := bw1.size
      (try simp at sw1)
      have Aw1 : Below w.heap.size w w1 := Below.trans (by (repeat' (first | (with_reducible assumption) | (with_reducible exact Below.refl _ _) | (with_reducible refine bdN ?_ _) | (with_reducible refine Below.alloc ?_ ?_ _) | (with_reducible refine Below.drew ?_) | (with_reducible refine Below.setCell ?_ ?_ _) | go_size))) (bw1.mono (by go_size))
      have lw1_0 : w.heap.size < w1.heap.size := (by go_size)
      have zw1_wH : CellsAt w1 (w.heap.size) 0 [.int .i64 y, .int .i64 m, .int .i64 d, .int .i64 h, .int .i64 i, .int .i64 s, .int .i64 u, .int .i64 o] := cells_keep (by (simp only [CellsAt]; (first | (go_simp; done) | ((repeat' (with_reducible refine And.intro ?_ ?_)) <;> (repeat' (first | (with_reducible assumption) | (with_reducible exact trivial) | (with_reducible refine kA _ ?_) | (with_reducible refine kD ?_) | (with_reducible refine kS _ ?_ ?_) | (with_reducible refine fA _ ?_ ?_) | (with_reducible refine fD ?_) | (with_reducible refine fS _ ?_) | go_size | (go_simp; done))))))) (fun o => bw1.cell (p := ⟨_, o, none⟩) (by go_size)) (fun o => bw1.frozen (p := ⟨_, o, none⟩) (by go_size))
      simp only [CellsAt] at zw1_wH
      clear bw1
      go_wp2_with fail
      refine (C.out _).mono ?_
      rintro e w2 ⟨rfl, bw2⟩
      have sw2 := bw2.size
      (try simp at sw2)
      have Aw2 : Below w.heap.size w w2 := Below.trans (by (repeat' (first | (with_reducible assumption) | (with_reducible exact Below.refl _ _) | (with_reducible refine bdN ?_ _) | (with_reducible refine Below.alloc ?_ ?_ _) | (with_reducible refine Below.drew ?_) | (with_reducible refine Below.setCell ?_ ?_ _) | go_size))) (bw2.mono (by go_size))
      have lw2_0 : w.heap.size < w2.heap.size := (by go_size)
      have zw2_wH : CellsAt w2 (w.heap.size) 0 [.int .i64 y, .int .i64 m, .int .i64 d, .int .i64 h, .int .i64 i, .int .i64 s, .int .i64 u, .int .i64 o] := cells_keep (by (simp only [CellsAt]; (first | (go_simp; done) | ((repeat' (with_reducible refine And.intro ?_ ?_)) <;> (repeat' (first | (with_reducible assumption) | (with_reducible exact trivial) | (with_reducible refine kA _ ?_) | (with_reducible refine kD ?_) | (with_reducible refine kS _ ?_ ?_) | (with_reducible refine fA _ ?_ ?_) | (with_reducible refine fD ?_) | (with_reducible refine fS _ ?_) | go_size | (go_simp; done))))))) (fun o => bw2.cell (p := ⟨_, o, none⟩) (by go_size)) (fun o => bw2.frozen (p := ⟨_, o, none⟩) (by go_size))
      simp only [CellsAt] at zw2_wH
      clear zw1_wH
      clear bw2
      go_wp2_with fail
      refine (l6In_any _ _ _ _).mono ?_
      rintro e w' ⟨rfl, rfl⟩
      go_wp2_with fail
      go_ret
      exact ⟨rfl, by (repeat' (first | (with_reducible assumption) | (with_reducible exact Below.refl _ _) | (with_reducible refine bdN ?_ _) | (with_reducible refine Below.alloc ?_ ?_ _) | (with_reducible refine Below.drew ?_) | (with_reducible refine Below.setCell ?_ ?_ _) | go_size))⟩
theorem sv_sb (y m d h i s u o : Int) (w : World) (b : Bool) (e : svB y m d h i s u o = b) : Calls Tryd.prog 17 #[.agg #[.int .i64 y, .int .i64 m, .int .i64 d, .int .i64 h, .int .i64 i, .int .i64 s, .int .i64 u, .int .i64 o]] w fun e w' => e = .returned (.bool b) ∧ Below w.heap.size w w' := by
  have c := sv_s y m d h i s u o w
  rwa [e] at c

set_option maxHeartbeats 1000000 in
theorem momentOf_i (y m d h i s u o : Int) (w : World) (T : Tab w) (v : svB y m d h i s u o = true) : Calls Tryd.prog 37 #[.agg #[.int .i64 y, .int .i64 m, .int .i64 d, .int .i64 h, .int .i64 i, .int .i64 s, .int .i64 u, .int .i64 o]] w fun e w' => e = .returned (.agg #[.int .i64 y, .int .i64 m, .int .i64 d, .int .i64 (dn y m d), .int .i64 h, .int .i64 i, .int .i64 s, .int .i64 u, .int .i64 o]) ∧ Below w.heap.size w w' := by
  have T0 := Lib.hid T
  have N := Lib.hid (fun w T => num_i y m d w T (svB_iff.1 v).1)
  clear T v
  go_enter Tryd.func37, Tryd.ntmps37
  go_wp2_with fail
  go_region_held3 (fun w' => w'.cell? ⟨w.heap.size, 0, none⟩ = some (.int .i64 y) ∧ w'.cell? ⟨w.heap.size, 1, none⟩ = some (.int .i64 m) ∧ w'.cell? ⟨w.heap.size, 2, none⟩ = some (.int .i64 d) ∧ w'.cell? ⟨w.heap.size, 3, none⟩ = some (.int .i64 h) ∧ w'.cell? ⟨w.heap.size, 4, none⟩ = some (.int .i64 i) ∧ w'.cell? ⟨w.heap.size, 5, none⟩ = some (.int .i64 s) ∧ w'.cell? ⟨w.heap.size, 6, none⟩ = some (.int .i64 u) ∧ w'.cell? ⟨w.heap.size, 7, none⟩ = some (.int .i64 o)) (((repeat' (with_reducible refine And.intro ?_ ?_)) <;> (first | (with_reducible assumption) | (go_simp; done) | (repeat' (first | (with_reducible assumption) | (with_reducible refine kA _ ?_) | (with_reducible refine kD ?_) | (with_reducible refine kS _ ?_ ?_) | go_size | (go_simp; done))))))
    (first
      | (go_at_call 52; (with_reducible refine (N.out _ ?hT).mono ?_); (case hT => (repeat' (first | (with_reducible exact T0.out) | (with_reducible assumption) | (with_reducible refine tab_alloc ?_ _) | (with_reducible refine tab_drewN ?_ _) | (with_reducible refine tab_drew ?_) | (with_reducible refine tab_set ?_ ?_ _) | go_size))); rintro e w1 ⟨rfl, bw1⟩; have sw1 := bw1.size; (try simp at sw1); have Aw1 : Below w.heap.size w w1 := Below.trans (by (repeat' (first | (with_reducible assumption) | (with_reducible exact Below.refl _ _) | (with_reducible refine bdN ?_ _) | (with_reducible refine Below.alloc ?_ ?_ _) | (with_reducible refine Below.drew ?_) | (with_reducible refine Below.setCell ?_ ?_ _) | go_size))) (bw1.mono (by go_size)); have Tw1 := Lib.hid (tab_keep (by (repeat' (first | (with_reducible exact T0.out) | (with_reducible assumption) | (with_reducible refine tab_alloc ?_ _) | (with_reducible refine tab_drewN ?_ _) | (with_reducible refine tab_drew ?_) | (with_reducible refine tab_set ?_ ?_ _) | go_size))) bw1); have lw1_0 : w.heap.size < w1.heap.size := (by go_size); have zw1_wH : CellsAt w1 (w.heap.size) 0 [.int .i64 y, .int .i64 m, .int .i64 d, .int .i64 h, .int .i64 i, .int .i64 s, .int .i64 u, .int .i64 o] := cells_keep (by (simp only [CellsAt]; (first | (go_simp; done) | ((repeat' (with_reducible refine And.intro ?_ ?_)) <;> (repeat' (first | (with_reducible assumption) | (with_reducible exact trivial) | (with_reducible refine kA _ ?_) | (with_reducible refine kD ?_) | (with_reducible refine kS _ ?_ ?_) | (with_reducible refine fA _ ?_ ?_) | (with_reducible refine fD ?_) | (with_reducible refine fS _ ?_) | go_size | (go_simp; done))))))) (fun o => bw1.cell (p := ⟨_, o, none⟩) (by go_size)) (fun o => bw1.frozen (p := ⟨_, o, none⟩) (by go_size)); have lw1_1 : w.heap.size+1 < w1.heap.size := (by go_size); have zw1_wH1 : CellsAt w1 (w.heap.size+1) 0 [.int .i64 0, .int .i64 0, .int .i64 0, .int .i64 0, .int .i64 0, .int .i64 0, .int .i64 0, .int .i64 0, .int .i64 0] := cells_keep (by (simp only [CellsAt]; (first | (go_simp; done) | ((repeat' (with_reducible refine And.intro ?_ ?_)) <;> (repeat' (first | (with_reducible assumption) | (with_reducible exact trivial) | (with_reducible refine kA _ ?_) | (with_reducible refine kD ?_) | (with_reducible refine kS _ ?_ ?_) | (with_reducible refine fA _ ?_ ?_) | (with_reducible refine fD ?_) | (with_reducible refine fS _ ?_) | go_size | (go_simp; done))))))) (fun o => bw1.cell (p := ⟨_, o, none⟩) (by go_size)) (fun o => bw1.frozen (p := ⟨_, o, none⟩) (by go_size)); simp only [CellsAt] at zw1_wH; simp only [CellsAt] at zw1_wH1; clear bw1)
    )
  all_goals
    go_wp2_with fail
    exact bodyPost_ret (v := .agg #[.int .i64 y, .int .i64 m, .int .i64 d, .int .i64 (dn y m d), .int .i64 h, .int .i64 i, .int .i64 s, .int .i64 u, .int .i64 o]) (by simp [results, Tryd.results37, go_sem, zw1_wH, zw1_wH1, lw1_0, lw1_1]) rfl ⟨rfl, by (repeat' (first | (with_reducible assumption) | (with_reducible exact Below.refl _ _) | (with_reducible refine bdN ?_ _) | (with_reducible refine Below.alloc ?_ ?_ _) | (with_reducible refine Below.drew ?_) | (with_reducible refine Below.setCell ?_ ?_ _) | go_size))⟩

set_option maxHeartbeats 1000000 in
theorem local_i (y m d n h i s u o : Int) (w : World) (v : cvB h i s u = true) (n1 : 0 ≤ n) (n2 : n ≤ 3652058) : Calls Tryd.prog 53 #[.agg #[.int .i64 y, .int .i64 m, .int .i64 d, .int .i64 n, .int .i64 h, .int .i64 i, .int .i64 s, .int .i64 u, .int .i64 o]] w fun e w' => e = .returned (.int .i64 (86400000 * n + ckm h i s u)) ∧ Below w.heap.size w w' := by
  obtain ⟨b1, b2, _⟩ := ckm_bd v
  have M := Lib.hid (fun w => millis_i h i s u w v)
  have k1 : IntKind.i64.wrap (86400000 * n) = 86400000 * n := IntWalk.i64_in _ (by omega)
  have k2 : IntKind.i64.wrap (86400000 * n + ckm h i s u) = 86400000 * n + ckm h i s u := IntWalk.i64_in _ (by omega)
  clear v
  go_enter Tryd.func53, Tryd.ntmps53
  go_wp2_with fail
  go_region_held3 (fun w' => w'.cell? ⟨w.heap.size, 0, none⟩ = some (.int .i64 y) ∧ w'.cell? ⟨w.heap.size, 1, none⟩ = some (.int .i64 m) ∧ w'.cell? ⟨w.heap.size, 2, none⟩ = some (.int .i64 d) ∧ w'.cell? ⟨w.heap.size, 3, none⟩ = some (.int .i64 n) ∧ w'.cell? ⟨w.heap.size, 4, none⟩ = some (.int .i64 h) ∧ w'.cell? ⟨w.heap.size, 5, none⟩ = some (.int .i64 i) ∧ w'.cell? ⟨w.heap.size, 6, none⟩ = some (.int .i64 s) ∧ w'.cell? ⟨w.heap.size, 7, none⟩ = some (.int .i64 u) ∧ w'.cell? ⟨w.heap.size, 8, none⟩ = some (.int .i64 o)) (((repeat' (with_reducible refine And.intro ?_ ?_)) <;> (first | (with_reducible assumption) | (go_simp; done) | (repeat' (first | (with_reducible assumption) | (with_reducible refine kA _ ?_) | (with_reducible refine kD ?_) | (with_reducible refine kS _ ?_ ?_) | go_size | (go_simp; done))))))
    (first
      | (go_at_call 61; refine (M.out _).mono ?_; rintro e w' ⟨rfl, rfl⟩)
    )
  all_goals
    go_wp2_with fail
    go_ret
    exact ⟨rfl, by (repeat' (first | (with_reducible assumption) | (with_reducible exact Below.refl _ _) | (with_reducible refine bdN ?_ _) | (with_reducible refine Below.alloc ?_ ?_ _) | (with_reducible refine Below.drew ?_) | (with_reducible refine Below.setCell ?_ ?_ _) | go_size))⟩

set_option maxHeartbeats 1000000 in
theorem instant_i (y m d n h i s u o : Int) (w : World) (v : cvB h i s u = true) (n1 : 0 ≤ n) (n2 : n ≤ 3652058) (o1 : -1439 ≤ o) (o2 : o ≤ 1439) : Calls Tryd.prog 38 #[.agg #[.int .i64 y, .int .i64 m, .int .i64 d, .int .i64 n, .int .i64 h, .int .i64 i, .int .i64 s, .int .i64 u, .int .i64 o]] w fun e w' => e = .returned (.int .i64 (86400000 * n + ckm h i s u - 60000 * o)) ∧ Below w.heap.size w w' := by
  obtain ⟨b1, b2, _⟩ := ckm_bd v
  have M := Lib.hid (fun w => local_i y m d n h i s u o w v n1 n2)
  have k1 : IntKind.i64.wrap (60000 * o) = 60000 * o := IntWalk.i64_in _ (by omega)
  have k2 : IntKind.i64.wrap (86400000 * n + ckm h i s u - 60000 * o) = 86400000 * n + ckm h i s u - 60000 * o := IntWalk.i64_in _ (by omega)
  clear v
  go_enter Tryd.func38, Tryd.ntmps38
  go_wp2_with fail
  go_region_held3 (fun w' => w'.cell? ⟨w.heap.size, 0, none⟩ = some (.int .i64 y) ∧ w'.cell? ⟨w.heap.size, 1, none⟩ = some (.int .i64 m) ∧ w'.cell? ⟨w.heap.size, 2, none⟩ = some (.int .i64 d) ∧ w'.cell? ⟨w.heap.size, 3, none⟩ = some (.int .i64 n) ∧ w'.cell? ⟨w.heap.size, 4, none⟩ = some (.int .i64 h) ∧ w'.cell? ⟨w.heap.size, 5, none⟩ = some (.int .i64 i) ∧ w'.cell? ⟨w.heap.size, 6, none⟩ = some (.int .i64 s) ∧ w'.cell? ⟨w.heap.size, 7, none⟩ = some (.int .i64 u) ∧ w'.cell? ⟨w.heap.size, 8, none⟩ = some (.int .i64 o)) (((repeat' (with_reducible refine And.intro ?_ ?_)) <;> (first | (with_reducible assumption) | (go_simp; done) | (repeat' (first | (with_reducible assumption) | (with_reducible refine kA _ ?_) | (with_reducible refine kD ?_) | (with_reducible refine kS _ ?_ ?_) | go_size | (go_simp; done))))))
    (first
      | (go_at_call 53; (with_reducible refine (M.out _).mono ?_); rintro e w1 ⟨rfl, bw1⟩; have sw1 := bw1.size; (try simp at sw1); have Aw1 : Below w.heap.size w w1 := Below.trans (by (repeat' (first | (with_reducible assumption) | (with_reducible exact Below.refl _ _) | (with_reducible refine bdN ?_ _) | (with_reducible refine Below.alloc ?_ ?_ _) | (with_reducible refine Below.drew ?_) | (with_reducible refine Below.setCell ?_ ?_ _) | go_size))) (bw1.mono (by go_size)); have lw1_0 : w.heap.size < w1.heap.size := (by go_size); have zw1_wH : CellsAt w1 (w.heap.size) 0 [.int .i64 y, .int .i64 m, .int .i64 d, .int .i64 n, .int .i64 h, .int .i64 i, .int .i64 s, .int .i64 u, .int .i64 o] := cells_keep (by (simp only [CellsAt]; (first | (go_simp; done) | ((repeat' (with_reducible refine And.intro ?_ ?_)) <;> (repeat' (first | (with_reducible assumption) | (with_reducible exact trivial) | (with_reducible refine kA _ ?_) | (with_reducible refine kD ?_) | (with_reducible refine kS _ ?_ ?_) | (with_reducible refine fA _ ?_ ?_) | (with_reducible refine fD ?_) | (with_reducible refine fS _ ?_) | go_size | (go_simp; done))))))) (fun o => bw1.cell (p := ⟨_, o, none⟩) (by go_size)) (fun o => bw1.frozen (p := ⟨_, o, none⟩) (by go_size)); simp only [CellsAt] at zw1_wH; clear bw1)
    )
  all_goals
    go_wp2_with fail
    go_ret
    exact ⟨rfl, by (repeat' (first | (with_reducible assumption) | (with_reducible exact Below.refl _ _) | (with_reducible refine bdN ?_ _) | (with_reducible refine Below.alloc ?_ ?_ _) | (with_reducible refine Below.drew ?_) | (with_reducible refine Below.setCell ?_ ?_ _) | go_size))⟩

set_option maxHeartbeats 1000000 in
theorem instantOf_i (y m d h i s u o : Int) (w : World) (T : Tab w) (v : svB y m d h i s u o = true) : Calls Tryd.prog 22 #[.agg #[.int .i64 y, .int .i64 m, .int .i64 d, .int .i64 h, .int .i64 i, .int .i64 s, .int .i64 u, .int .i64 o]] w fun e w' => e = .returned (.int .i64 (ins y m d h i s u o)) ∧ Below w.heap.size w w' := by
  have T0 := Lib.hid T
  have N := Lib.hid (fun w T => momentOf_i y m d h i s u o w T v)
  obtain ⟨v1, v2, o1, o2⟩ := svB_iff.1 v
  obtain ⟨b1, b2⟩ := dn_bd v1
  have M := Lib.hid (fun w => instant_i y m d (dn y m d) h i s u o w v2 b1 b2 o1 o2)
  unfold ins
  clear T v v1 v2
  go_enter Tryd.func22, Tryd.ntmps22
  go_wp2_with fail
  refine (N.out _ (by (repeat' (first | (with_reducible exact T0.out) | (with_reducible assumption) | (with_reducible refine tab_alloc ?_ _) | (with_reducible refine tab_drewN ?_ _) | (with_reducible refine tab_drew ?_) | (with_reducible refine tab_set ?_ ?_ _) | go_size)))).mono ?_
  rintro e w1 ⟨rfl, bw1⟩
  have sw1 := bw1.size
  (try simp at sw1)
  have Aw1 : Below w.heap.size w w1 := Below.trans (by (repeat' (first | (with_reducible assumption) | (with_reducible exact Below.refl _ _) | (with_reducible refine bdN ?_ _) | (with_reducible refine Below.alloc ?_ ?_ _) | (with_reducible refine Below.drew ?_) | (with_reducible refine Below.setCell ?_ ?_ _) | go_size))) (bw1.mono (by go_size))
  have Tw1 := Lib.hid (tab_keep (by (repeat' (first | (with_reducible exact T0.out) | (with_reducible assumption) | (with_reducible refine tab_alloc ?_ _) | (with_reducible refine tab_drewN ?_ _) | (with_reducible refine tab_drew ?_) | (with_reducible refine tab_set ?_ ?_ _) | go_size))) bw1)
  clear bw1
  go_wp2_with fail
  refine (M.out _).mono ?_
  rintro e w2 ⟨rfl, bw2⟩
  have sw2 := bw2.size
  (try simp at sw2)
  have Aw2 : Below w.heap.size w w2 := Below.trans (by (repeat' (first | (with_reducible assumption) | (with_reducible exact Below.refl _ _) | (with_reducible refine bdN ?_ _) | (with_reducible refine Below.alloc ?_ ?_ _) | (with_reducible refine Below.drew ?_) | (with_reducible refine Below.setCell ?_ ?_ _) | go_size))) (bw2.mono (by go_size))
  have Tw2 := Lib.hid (tab_keep (by (repeat' (first | (with_reducible exact Tw1.out) | (with_reducible assumption) | (with_reducible refine tab_alloc ?_ _) | (with_reducible refine tab_drewN ?_ _) | (with_reducible refine tab_drew ?_) | (with_reducible refine tab_set ?_ ?_ _) | go_size))) bw2)
  clear bw2
  go_wp2_with fail
  go_ret
  exact ⟨rfl, by (repeat' (first | (with_reducible assumption) | (with_reducible exact Below.refl _ _) | (with_reducible refine bdN ?_ _) | (with_reducible refine Below.alloc ?_ ?_ _) | (with_reducible refine Below.drew ?_) | (with_reducible refine Below.setCell ?_ ?_ _) | go_size))⟩

set_option maxHeartbeats 1000000 in
theorem l12Instant_s (y m d h i s u o : Int) (w : World) (v : svB y m d h i s u o = true) : Calls Tryd.prog 18 #[.agg #[.int .i64 y, .int .i64 m, .int .i64 d, .int .i64 h, .int .i64 i, .int .i64 s, .int .i64 u, .int .i64 o]] w fun e w' => e = .returned (.int .i64 (ins y m d h i s u o)) ∧ Below w.heap.size w w' := by
  obtain ⟨v1, v2, o1, o2⟩ := svB_iff.1 v
  obtain ⟨b1, b2⟩ := dn_bd v1
  obtain ⟨c1, c2, _⟩ := ckm_bd v2
  have N := Lib.hid (fun w => dayNumber_s y m d w true v1)
  simp only [cond_true] at N
  have M := Lib.hid (fun w => clockMillis_s h i s u w v2)
  have E := Lib.hid (show ins y m d h i s u o = dn y m d * 86400000 + ckm h i s u - 60000 * o by unfold ins; omega)
  have k0 : IntKind.i64.wrap (dn y m d * 86400000) = dn y m d * 86400000 := IntWalk.i64_in _ (by omega)
  have k1 : IntKind.i64.wrap (60000 * o) = 60000 * o := IntWalk.i64_in _ (by omega)
  have k2 : IntKind.i64.wrap (dn y m d * 86400000 + ckm h i s u) = dn y m d * 86400000 + ckm h i s u := IntWalk.i64_in _ (by omega)
  have k3 : IntKind.i64.wrap (dn y m d * 86400000 + ckm h i s u - 60000 * o) = dn y m d * 86400000 + ckm h i s u - 60000 * o := IntWalk.i64_in _ (by omega)
  clear v v1 v2
  go_enter Tryd.func18, Tryd.ntmps18
  go_wp2_with fail
  go_region_held3 (fun w' => w'.cell? ⟨w.heap.size, 0, none⟩ = some (.int .i64 y) ∧ w'.cell? ⟨w.heap.size, 1, none⟩ = some (.int .i64 m) ∧ w'.cell? ⟨w.heap.size, 2, none⟩ = some (.int .i64 d) ∧ w'.cell? ⟨w.heap.size, 3, none⟩ = some (.int .i64 h) ∧ w'.cell? ⟨w.heap.size, 4, none⟩ = some (.int .i64 i) ∧ w'.cell? ⟨w.heap.size, 5, none⟩ = some (.int .i64 s) ∧ w'.cell? ⟨w.heap.size, 6, none⟩ = some (.int .i64 u) ∧ w'.cell? ⟨w.heap.size, 7, none⟩ = some (.int .i64 o)) (((repeat' (with_reducible refine And.intro ?_ ?_)) <;> (first | (with_reducible assumption) | (go_simp; done) | (repeat' (first | (with_reducible assumption) | (with_reducible refine kA _ ?_) | (with_reducible refine kD ?_) | (with_reducible refine kS _ ?_ ?_) | go_size | (go_simp; done))))))
    (first
      | (go_at_call 32; (with_reducible refine (N.out _).mono ?_); rintro e w1 ⟨rfl, bw1⟩; have sw1 := bw1.size; (try simp at sw1); have Aw1 : Below w.heap.size w w1 := Below.trans (by (repeat' (first | (with_reducible assumption) | (with_reducible exact Below.refl _ _) | (with_reducible refine bdN ?_ _) | (with_reducible refine Below.alloc ?_ ?_ _) | (with_reducible refine Below.drew ?_) | (with_reducible refine Below.setCell ?_ ?_ _) | go_size))) (bw1.mono (by go_size)); have lw1_0 : w.heap.size < w1.heap.size := (by go_size); have zw1_wH : CellsAt w1 (w.heap.size) 0 [.int .i64 y, .int .i64 m, .int .i64 d, .int .i64 h, .int .i64 i, .int .i64 s, .int .i64 u, .int .i64 o] := cells_keep (by (simp only [CellsAt]; (first | (go_simp; done) | ((repeat' (with_reducible refine And.intro ?_ ?_)) <;> (repeat' (first | (with_reducible assumption) | (with_reducible exact trivial) | (with_reducible refine kA _ ?_) | (with_reducible refine kD ?_) | (with_reducible refine kS _ ?_ ?_) | (with_reducible refine fA _ ?_ ?_) | (with_reducible refine fD ?_) | (with_reducible refine fS _ ?_) | go_size | (go_simp; done))))))) (fun o => bw1.cell (p := ⟨_, o, none⟩) (by go_size)) (fun o => bw1.frozen (p := ⟨_, o, none⟩) (by go_size)); simp only [CellsAt] at zw1_wH; clear bw1)
      | (go_at_call 33; (with_reducible refine (M.out _).mono ?_); rintro e w2 ⟨rfl, bw2⟩; have sw2 := bw2.size; (try simp at sw2); have Aw2 : Below w.heap.size w w2 := Below.trans (by (repeat' (first | (with_reducible assumption) | (with_reducible exact Below.refl _ _) | (with_reducible refine bdN ?_ _) | (with_reducible refine Below.alloc ?_ ?_ _) | (with_reducible refine Below.drew ?_) | (with_reducible refine Below.setCell ?_ ?_ _) | go_size))) (bw2.mono (by go_size)); have lw2_0 : w.heap.size < w2.heap.size := (by go_size); have zw2_wH : CellsAt w2 (w.heap.size) 0 [.int .i64 y, .int .i64 m, .int .i64 d, .int .i64 h, .int .i64 i, .int .i64 s, .int .i64 u, .int .i64 o] := cells_keep (by (simp only [CellsAt]; (first | (go_simp; done) | ((repeat' (with_reducible refine And.intro ?_ ?_)) <;> (repeat' (first | (with_reducible assumption) | (with_reducible exact trivial) | (with_reducible refine kA _ ?_) | (with_reducible refine kD ?_) | (with_reducible refine kS _ ?_ ?_) | (with_reducible refine fA _ ?_ ?_) | (with_reducible refine fD ?_) | (with_reducible refine fS _ ?_) | go_size | (go_simp; done))))))) (fun o => bw2.cell (p := ⟨_, o, none⟩) (by go_size)) (fun o => bw2.frozen (p := ⟨_, o, none⟩) (by go_size)); simp only [CellsAt] at zw2_wH; clear zw1_wH; clear bw2)
    )
  all_goals
    go_wp2_with fail
    go_ret
    exact ⟨ret_int E.out.symm, by (repeat' (first | (with_reducible assumption) | (with_reducible exact Below.refl _ _) | (with_reducible refine bdN ?_ _) | (with_reducible refine Below.alloc ?_ ?_ _) | (with_reducible refine Below.drew ?_) | (with_reducible refine Below.setCell ?_ ?_ _) | go_size))⟩

set_option maxHeartbeats 1000000 in
theorem Instant_i (y m d h i s u o n : Int) (b : Bool) (w : World) (T : Tab w) (e : InsIs y m d h i s u o n b) : Calls Tryd.prog 14 #[.agg #[.int .i64 y, .int .i64 m, .int .i64 d, .int .i64 h, .int .i64 i, .int .i64 s, .int .i64 u, .int .i64 o]] w fun e w' => e = .returned (.tuple #[.int .i64 n, .bool b]) ∧ Below w.heap.size w w' := by
  have T0 := Lib.hid T
  obtain ⟨hb, hn⟩ := e
  have V := Lib.hid (fun w T => sv_ib y m d h i s u o w T b hb)
  cases b
  · simp only [cond_false] at hn
    subst hn
    clear T hb
    go_enter Tryd.func14, Tryd.ntmps14
    go_wp2_with fail
    refine (V.out _ (by (repeat' (first | (with_reducible exact T0.out) | (with_reducible assumption) | (with_reducible refine tab_alloc ?_ _) | (with_reducible refine tab_drewN ?_ _) | (with_reducible refine tab_drew ?_) | (with_reducible refine tab_set ?_ ?_ _) | go_size)))).mono ?_
    rintro e w1 ⟨rfl, bw1⟩
    have sw1 := bw1.size
    (try simp at sw1)
    have Aw1 : Below w.heap.size w w1 := Below.trans (by (repeat' (first | (with_reducible assumption) | (with_reducible exact Below.refl _ _) | (with_reducible refine bdN ?_ _) | (with_reducible refine Below.alloc ?_ ?_ _) | (with_reducible refine Below.drew ?_) | (with_reducible refine Below.setCell ?_ ?_ _) | go_size))) (bw1.mono (by go_size))
    have Tw1 := Lib.hid (tab_keep (by (repeat' (first | (with_reducible exact T0.out) | (with_reducible assumption) | (with_reducible refine tab_alloc ?_ _) | (with_reducible refine tab_drewN ?_ _) | (with_reducible refine tab_drew ?_) | (with_reducible refine tab_set ?_ ?_ _) | go_size))) bw1)
    clear bw1
    go_wp2_with fail
    go_returns
    exact ⟨rfl, by (repeat' (first | (with_reducible assumption) | (with_reducible exact Below.refl _ _) | (with_reducible refine bdN ?_ _) | (with_reducible refine Below.alloc ?_ ?_ _) | (with_reducible refine Below.drew ?_) | (with_reducible refine Below.setCell ?_ ?_ _) | go_size))⟩
  · simp only [cond_true] at hn
    subst hn
    have I := Lib.hid (fun w T => instantOf_i y m d h i s u o w T hb)
    clear T hb
    go_enter Tryd.func14, Tryd.ntmps14
    go_wp2_with fail
    refine (V.out _ (by (repeat' (first | (with_reducible exact T0.out) | (with_reducible assumption) | (with_reducible refine tab_alloc ?_ _) | (with_reducible refine tab_drewN ?_ _) | (with_reducible refine tab_drew ?_) | (with_reducible refine tab_set ?_ ?_ _) | go_size)))).mono ?_
    rintro e w1 ⟨rfl, bw1⟩
    have sw1 := bw1.size
    (try simp at sw1)
    have Aw1 : Below w.heap.size w w1 := Below.trans (by (repeat' (first | (with_reducible assumption) | (with_reducible exact Below.refl _ _) | (with_reducible refine bdN ?_ _) | (with_reducible refine Below.alloc ?_ ?_ _) | (with_reducible refine Below.drew ?_) | (with_reducible refine Below.setCell ?_ ?_ _) | go_size))) (bw1.mono (by go_size))
    have Tw1 := Lib.hid (tab_keep (by (repeat' (first | (with_reducible exact T0.out) | (with_reducible assumption) | (with_reducible refine tab_alloc ?_ _) | (with_reducible refine tab_drewN ?_ _) | (with_reducible refine tab_drew ?_) | (with_reducible refine tab_set ?_ ?_ _) | go_size))) bw1)
    have lw1_0 : w.heap.size < w1.heap.size := (by go_size)
    have zw1_wH : CellsAt w1 (w.heap.size) 0 [.int .i64 y, .int .i64 m, .int .i64 d, .int .i64 h, .int .i64 i, .int .i64 s, .int .i64 u, .int .i64 o] := cells_keep (by (simp only [CellsAt]; (first | (go_simp; done) | ((repeat' (with_reducible refine And.intro ?_ ?_)) <;> (repeat' (first | (with_reducible assumption) | (with_reducible exact trivial) | (with_reducible refine kA _ ?_) | (with_reducible refine kD ?_) | (with_reducible refine kS _ ?_ ?_) | (with_reducible refine fA _ ?_ ?_) | (with_reducible refine fD ?_) | (with_reducible refine fS _ ?_) | go_size | (go_simp; done))))))) (fun o => bw1.cell (p := ⟨_, o, none⟩) (by go_size)) (fun o => bw1.frozen (p := ⟨_, o, none⟩) (by go_size))
    simp only [CellsAt] at zw1_wH
    clear bw1
    go_wp2_with fail
    refine (I.out _ (by (repeat' (first | (with_reducible exact Tw1.out) | (with_reducible assumption) | (with_reducible refine tab_alloc ?_ _) | (with_reducible refine tab_drewN ?_ _) | (with_reducible refine tab_drew ?_) | (with_reducible refine tab_set ?_ ?_ _) | go_size)))).mono ?_
    rintro e w2 ⟨rfl, bw2⟩
    have sw2 := bw2.size
    (try simp at sw2)
    have Aw2 : Below w.heap.size w w2 := Below.trans (by (repeat' (first | (with_reducible assumption) | (with_reducible exact Below.refl _ _) | (with_reducible refine bdN ?_ _) | (with_reducible refine Below.alloc ?_ ?_ _) | (with_reducible refine Below.drew ?_) | (with_reducible refine Below.setCell ?_ ?_ _) | go_size))) (bw2.mono (by go_size))
    have Tw2 := Lib.hid (tab_keep (by (repeat' (first | (with_reducible exact Tw1.out) | (with_reducible assumption) | (with_reducible refine tab_alloc ?_ _) | (with_reducible refine tab_drewN ?_ _) | (with_reducible refine tab_drew ?_) | (with_reducible refine tab_set ?_ ?_ _) | go_size))) bw2)
    have lw2_0 : w.heap.size < w2.heap.size := (by go_size)
    have zw2_wH : CellsAt w2 (w.heap.size) 0 [.int .i64 y, .int .i64 m, .int .i64 d, .int .i64 h, .int .i64 i, .int .i64 s, .int .i64 u, .int .i64 o] := cells_keep (by (simp only [CellsAt]; (first | (go_simp; done) | ((repeat' (with_reducible refine And.intro ?_ ?_)) <;> (repeat' (first | (with_reducible assumption) | (with_reducible exact trivial) | (with_reducible refine kA _ ?_) | (with_reducible refine kD ?_) | (with_reducible refine kS _ ?_ ?_) | (with_reducible refine fA _ ?_ ?_) | (with_reducible refine fD ?_) | (with_reducible refine fS _ ?_) | go_size | (go_simp; done))))))) (fun o => bw2.cell (p := ⟨_, o, none⟩) (by go_size)) (fun o => bw2.frozen (p := ⟨_, o, none⟩) (by go_size))
    simp only [CellsAt] at zw2_wH
    clear zw1_wH
    clear bw2
    go_wp2_with fail
    go_returns
    exact ⟨rfl, by (repeat' (first | (with_reducible assumption) | (with_reducible exact Below.refl _ _) | (with_reducible refine bdN ?_ _) | (with_reducible refine Below.alloc ?_ ?_ _) | (with_reducible refine Below.drew ?_) | (with_reducible refine Below.setCell ?_ ?_ _) | go_size))⟩
end Go.Proofs.YtlfdcdbgjnkddaaDoor
