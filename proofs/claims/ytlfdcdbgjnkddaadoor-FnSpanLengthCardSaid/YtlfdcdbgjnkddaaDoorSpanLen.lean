/- Contracts of SpanLength, by the program and by the reference: both give the same. Condition: the program's table of the months' days stands in memory ('Tab'). -/
import Derived.Test.YtlfdcdbgjnkddaaDoorSpan
namespace Go.Proofs.YtlfdcdbgjnkddaaDoor
set_option linter.unusedSimpArgs false
set_option linter.unusedVariables false
open Go.RowKit DN

/-- what the program's spanOf tells of two stamps: their instants, and whether they stand in order -/
def SpIs (va vb : Bool) (a b p q : Int) (c : Bool) : Prop := (va = true ∧ vb = true ∧ p = a ∧ q = b ∧ c = decide (a ≤ b)) ∨ (¬ (va = true ∧ vb = true) ∧ p = 0 ∧ q = 0 ∧ c = false)

set_option maxHeartbeats 2000000 in
theorem spanOf_no (y m d h i s u o y' m' d' h' i' s' u' o' : Int) (w : World) (T : Tab w) (v : ¬ (svB y m d h i s u o = true ∧ svB y' m' d' h' i' s' u' o' = true)) :
    Calls Tryd.prog 23 #[.agg #[.int .i64 y, .int .i64 m, .int .i64 d, .int .i64 h, .int .i64 i, .int .i64 s, .int .i64 u, .int .i64 o], .agg #[.int .i64 (y'), .int .i64 (m'), .int .i64 (d'), .int .i64 (h'), .int .i64 (i'), .int .i64 (s'), .int .i64 (u'), .int .i64 (o')]] w fun e w' => e = .returned (.tuple #[.agg #[.int .i64 0, .int .i64 0], .bool false]) ∧ Below w.heap.size w w' := by
  have T0 := Lib.hid T
  cases hv : svB y m d h i s u o
  · have V := Lib.hid (fun w T => sv_ib y m d h i s u o w T false hv)
    clear T hv v
    go_enter Tryd.func23, Tryd.ntmps23
    go_wp2_with fail
    refine (V.out _ (by (repeat' (first | (with_reducible exact T0.out) | (with_reducible assumption) | (with_reducible refine tab_alloc ?_ _) | (with_reducible refine tab_drewN ?_ _) | (with_reducible refine tab_drew ?_) | (with_reducible refine tab_set ?_ ?_ _) | go_size)))).mono ?_
    rintro e w1 ⟨rfl, bw1⟩
    have sw1 := bw1.size
    (try simp at sw1)
    have Aw1 : Below w.heap.size w w1 := Below.trans (by (repeat' (first | (with_reducible assumption) | (with_reducible exact Below.refl _ _) | (with_reducible refine bdN ?_ _) | (with_reducible refine Below.alloc ?_ ?_ _) | (with_reducible refine Below.drew ?_) | (with_reducible refine Below.setCell ?_ ?_ _) | go_size))) (bw1.mono (by go_size))
    have Tw1 := Lib.hid (tab_keep (by (repeat' (first | (with_reducible exact T0.out) | (with_reducible assumption) | (with_reducible refine tab_alloc ?_ _) | (with_reducible refine tab_drewN ?_ _) | (with_reducible refine tab_drew ?_) | (with_reducible refine tab_set ?_ ?_ _) | go_size))) bw1)
    have lw1_0 : w.heap.size+2 < w1.heap.size := (by go_size)
    have zw1_wH2 : CellsAt w1 (w.heap.size+2) 0 [.int .i64 0, .int .i64 0] := cells_keep (by (simp only [CellsAt]; (first | (go_simp; done) | ((repeat' (with_reducible refine And.intro ?_ ?_)) <;> (repeat' (first | (with_reducible assumption) | (with_reducible exact trivial) | (with_reducible refine kA _ ?_) | (with_reducible refine kD ?_) | (with_reducible refine kS _ ?_ ?_) | (with_reducible refine fA _ ?_ ?_) | (with_reducible refine fD ?_) | (with_reducible refine fS _ ?_) | go_size | (go_simp; done))))))) (fun o => bw1.cell (p := ⟨_, o, none⟩) (by go_size)) (fun o => bw1.frozen (p := ⟨_, o, none⟩) (by go_size))
    simp only [CellsAt] at zw1_wH2
    clear bw1
    go_wp2_with fail
    exact bodyPost_ret (v := .tuple #[.agg #[.int .i64 0, .int .i64 0], .bool false]) (by simp [results, Tryd.results23, go_sem, zw1_wH2, lw1_0]) rfl ⟨rfl, by (repeat' (first | (with_reducible assumption) | (with_reducible exact Below.refl _ _) | (with_reducible refine bdN ?_ _) | (with_reducible refine Below.alloc ?_ ?_ _) | (with_reducible refine Below.drew ?_) | (with_reducible refine Below.setCell ?_ ?_ _) | go_size))⟩
  · have V := Lib.hid (fun w T => sv_ib y m d h i s u o w T true hv)
    have hp : svB y' m' d' h' i' s' u' o' = false := by
      cases hp : svB y' m' d' h' i' s' u' o'
      · rfl
      · exact absurd ⟨hv, hp⟩ v
    have V' := Lib.hid (fun w T => sv_ib y' m' d' h' i' s' u' o' w T false hp)
    clear T hv v hp
    go_enter Tryd.func23, Tryd.ntmps23
    go_wp2_with fail
    refine (V.out _ (by (repeat' (first | (with_reducible exact T0.out) | (with_reducible assumption) | (with_reducible refine tab_alloc ?_ _) | (with_reducible refine tab_drewN ?_ _) | (with_reducible refine tab_drew ?_) | (with_reducible refine tab_set ?_ ?_ _) | go_size)))).mono ?_
    rintro e w1 ⟨rfl, bw1⟩
    have sw1 := bw1.size
    (try simp at sw1)
    have Aw1 : Below w.heap.size w w1 := Below.trans (by (repeat' (first | (with_reducible assumption) | (with_reducible exact Below.refl _ _) | (with_reducible refine bdN ?_ _) | (with_reducible refine Below.alloc ?_ ?_ _) | (with_reducible refine Below.drew ?_) | (with_reducible refine Below.setCell ?_ ?_ _) | go_size))) (bw1.mono (by go_size))
    have Tw1 := Lib.hid (tab_keep (by (repeat' (first | (with_reducible exact T0.out) | (with_reducible assumption) | (with_reducible refine tab_alloc ?_ _) | (with_reducible refine tab_drewN ?_ _) | (with_reducible refine tab_drew ?_) | (with_reducible refine tab_set ?_ ?_ _) | go_size))) bw1)
    have lw1_0 : w.heap.size+2 < w1.heap.size := (by go_size)
    have zw1_wH2 : CellsAt w1 (w.heap.size+2) 0 [.int .i64 0, .int .i64 0] := cells_keep (by (simp only [CellsAt]; (first | (go_simp; done) | ((repeat' (with_reducible refine And.intro ?_ ?_)) <;> (repeat' (first | (with_reducible assumption) | (with_reducible exact trivial) | (with_reducible refine kA _ ?_) | (with_reducible refine kD ?_) | (with_reducible refine kS _ ?_ ?_) | (with_reducible refine fA _ ?_ ?_) | (with_reducible refine fD ?_) | (with_reducible refine fS _ ?_) | go_size | (go_simp; done))))))) (fun o => bw1.cell (p := ⟨_, o, none⟩) (by go_size)) (fun o => bw1.frozen (p := ⟨_, o, none⟩) (by go_size))
    have lw1_1 : w.heap.size+1 < w1.heap.size := (by go_size)
    have zw1_wH1 : CellsAt w1 (w.heap.size+1) 0 [.int .i64 (y'), .int .i64 (m'), .int .i64 (d'), .int .i64 (h'), .int .i64 (i'), .int .i64 (s'), .int .i64 (u'), .int .i64 (o')] := cells_keep (by (simp only [CellsAt]; (first | (go_simp; done) | ((repeat' (with_reducible refine And.intro ?_ ?_)) <;> (repeat' (first | (with_reducible assumption) | (with_reducible exact trivial) | (with_reducible refine kA _ ?_) | (with_reducible refine kD ?_) | (with_reducible refine kS _ ?_ ?_) | (with_reducible refine fA _ ?_ ?_) | (with_reducible refine fD ?_) | (with_reducible refine fS _ ?_) | go_size | (go_simp; done))))))) (fun o => bw1.cell (p := ⟨_, o, none⟩) (by go_size)) (fun o => bw1.frozen (p := ⟨_, o, none⟩) (by go_size))
    simp only [CellsAt] at zw1_wH2
    simp only [CellsAt] at zw1_wH1
    clear bw1
    go_wp2_with fail
    refine (V'.out _ (by (repeat' (first | (with_reducible exact Tw1.out) | (with_reducible assumption) | (with_reducible refine tab_alloc ?_ _) | (with_reducible refine tab_drewN ?_ _) | (with_reducible refine tab_drew ?_) | (with_reducible refine tab_set ?_ ?_ _) | go_size)))).mono ?_
    rintro e w2 ⟨rfl, bw2⟩
    have sw2 := bw2.size
    (try simp at sw2)
    have Aw2 : Below w.heap.size w w2 := Below.trans (by (repeat' (first | (with_reducible assumption) | (with_reducible exact Below.refl _ _) | (with_reducible refine bdN ?_ _) | (with_reducible refine Below.alloc ?_ ?_ _) | (with_reducible refine Below.drew ?_) | (with_reducible refine Below.setCell ?_ ?_ _) | go_size))) (bw2.mono (by go_size))
    have Tw2 := Lib.hid (tab_keep (by (repeat' (first | (with_reducible exact Tw1.out) | (with_reducible assumption) | (with_reducible refine tab_alloc ?_ _) | (with_reducible refine tab_drewN ?_ _) | (with_reducible refine tab_drew ?_) | (with_reducible refine tab_set ?_ ?_ _) | go_size))) bw2)
    have lw2_0 : w.heap.size+2 < w2.heap.size := (by go_size)
    have zw2_wH2 : CellsAt w2 (w.heap.size+2) 0 [.int .i64 0, .int .i64 0] := cells_keep (by (simp only [CellsAt]; (first | (go_simp; done) | ((repeat' (with_reducible refine And.intro ?_ ?_)) <;> (repeat' (first | (with_reducible assumption) | (with_reducible exact trivial) | (with_reducible refine kA _ ?_) | (with_reducible refine kD ?_) | (with_reducible refine kS _ ?_ ?_) | (with_reducible refine fA _ ?_ ?_) | (with_reducible refine fD ?_) | (with_reducible refine fS _ ?_) | go_size | (go_simp; done))))))) (fun o => bw2.cell (p := ⟨_, o, none⟩) (by go_size)) (fun o => bw2.frozen (p := ⟨_, o, none⟩) (by go_size))
    have lw2_1 : w.heap.size+1 < w2.heap.size := (by go_size)
    have zw2_wH1 : CellsAt w2 (w.heap.size+1) 0 [.int .i64 (y'), .int .i64 (m'), .int .i64 (d'), .int .i64 (h'), .int .i64 (i'), .int .i64 (s'), .int .i64 (u'), .int .i64 (o')] := cells_keep (by (simp only [CellsAt]; (first | (go_simp; done) | ((repeat' (with_reducible refine And.intro ?_ ?_)) <;> (repeat' (first | (with_reducible assumption) | (with_reducible exact trivial) | (with_reducible refine kA _ ?_) | (with_reducible refine kD ?_) | (with_reducible refine kS _ ?_ ?_) | (with_reducible refine fA _ ?_ ?_) | (with_reducible refine fD ?_) | (with_reducible refine fS _ ?_) | go_size | (go_simp; done))))))) (fun o => bw2.cell (p := ⟨_, o, none⟩) (by go_size)) (fun o => bw2.frozen (p := ⟨_, o, none⟩) (by go_size))
    simp only [CellsAt] at zw2_wH2
    simp only [CellsAt] at zw2_wH1
    clear zw1_wH2 zw1_wH1
    clear bw2
    go_wp2_with fail
    exact bodyPost_ret (v := .tuple #[.agg #[.int .i64 0, .int .i64 0], .bool false]) (by simp [results, Tryd.results23, go_sem, zw2_wH2, zw2_wH1, lw2_0, lw2_1]) rfl ⟨rfl, by (repeat' (first | (with_reducible assumption) | (with_reducible exact Below.refl _ _) | (with_reducible refine bdN ?_ _) | (with_reducible refine Below.alloc ?_ ?_ _) | (with_reducible refine Below.drew ?_) | (with_reducible refine Below.setCell ?_ ?_ _) | go_size))⟩

set_option maxHeartbeats 2000000 in
theorem spanOf_yes (y m d h i s u o y' m' d' h' i' s' u' o' a b : Int) (c : Bool) (w : World) (T : Tab w) (va : svB y m d h i s u o = true) (vb : svB y' m' d' h' i' s' u' o' = true) (ea : ins y m d h i s u o = a) (eb : ins y' m' d' h' i' s' u' o' = b) (ec : decide (a ≤ b) = c) :
    Calls Tryd.prog 23 #[.agg #[.int .i64 y, .int .i64 m, .int .i64 d, .int .i64 h, .int .i64 i, .int .i64 s, .int .i64 u, .int .i64 o], .agg #[.int .i64 (y'), .int .i64 (m'), .int .i64 (d'), .int .i64 (h'), .int .i64 (i'), .int .i64 (s'), .int .i64 (u'), .int .i64 (o')]] w fun e w' => e = .returned (.tuple #[.agg #[.int .i64 a, .int .i64 b], .bool c]) ∧ Below w.heap.size w w' := by
  have T0 := Lib.hid T
  have V := Lib.hid (fun w T => sv_ib y m d h i s u o w T true va)
  have V' := Lib.hid (fun w T => sv_ib y' m' d' h' i' s' u' o' w T true vb)
  have B := Lib.hid (fun w T => both_i y m d h i s u o y' m' d' h' i' s' u' o' w T va vb)
  rw [ea, eb] at B
  clear T va vb ea eb
  go_enter Tryd.func23, Tryd.ntmps23
  go_wp2_with fail
  refine (V.out _ (by (repeat' (first | (with_reducible exact T0.out) | (with_reducible assumption) | (with_reducible refine tab_alloc ?_ _) | (with_reducible refine tab_drewN ?_ _) | (with_reducible refine tab_drew ?_) | (with_reducible refine tab_set ?_ ?_ _) | go_size)))).mono ?_
  rintro e w1 ⟨rfl, bw1⟩
  have sw1 := bw1.size
  (try simp at sw1)
  have Aw1 : Below w.heap.size w w1 := Below.trans (by (repeat' (first | (with_reducible assumption) | (with_reducible exact Below.refl _ _) | (with_reducible refine bdN ?_ _) | (with_reducible refine Below.alloc ?_ ?_ _) | (with_reducible refine Below.drew ?_) | (with_reducible refine Below.setCell ?_ ?_ _) | go_size))) (bw1.mono (by go_size))
  have Tw1 := Lib.hid (tab_keep (by (repeat' (first | (with_reducible exact T0.out) | (with_reducible assumption) | (with_reducible refine tab_alloc ?_ _) | (with_reducible refine tab_drewN ?_ _) | (with_reducible refine tab_drew ?_) | (with_reducible refine tab_set ?_ ?_ _) | go_size))) bw1)
  have lw1_0 : w.heap.size < w1.heap.size := (by go_size)
  have zw1_wH : CellsAt w1 (w.heap.size) 0 [.int .i64 y, .int .i64 m, .int .i64 d, .int .i64 h, .int .i64 i, .int .i64 s, .int .i64 u, .int .i64 o] := cells_keep (by (simp only [CellsAt]; (first | (go_simp; done) | ((repeat' (with_reducible refine And.intro ?_ ?_)) <;> (repeat' (first | (with_reducible assumption) | (with_reducible exact trivial) | (with_reducible refine kA _ ?_) | (with_reducible refine kD ?_) | (with_reducible refine kS _ ?_ ?_) | (with_reducible refine fA _ ?_ ?_) | (with_reducible refine fD ?_) | (with_reducible refine fS _ ?_) | go_size | (go_simp; done))))))) (fun o => bw1.cell (p := ⟨_, o, none⟩) (by go_size)) (fun o => bw1.frozen (p := ⟨_, o, none⟩) (by go_size))
  have lw1_1 : w.heap.size+1 < w1.heap.size := (by go_size)
  have zw1_wH1 : CellsAt w1 (w.heap.size+1) 0 [.int .i64 (y'), .int .i64 (m'), .int .i64 (d'), .int .i64 (h'), .int .i64 (i'), .int .i64 (s'), .int .i64 (u'), .int .i64 (o')] := cells_keep (by (simp only [CellsAt]; (first | (go_simp; done) | ((repeat' (with_reducible refine And.intro ?_ ?_)) <;> (repeat' (first | (with_reducible assumption) | (with_reducible exact trivial) | (with_reducible refine kA _ ?_) | (with_reducible refine kD ?_) | (with_reducible refine kS _ ?_ ?_) | (with_reducible refine fA _ ?_ ?_) | (with_reducible refine fD ?_) | (with_reducible refine fS _ ?_) | go_size | (go_simp; done))))))) (fun o => bw1.cell (p := ⟨_, o, none⟩) (by go_size)) (fun o => bw1.frozen (p := ⟨_, o, none⟩) (by go_size))
  have lw1_2 : w.heap.size+2 < w1.heap.size := (by go_size)
  have zw1_wH2 : CellsAt w1 (w.heap.size+2) 0 [.int .i64 0, .int .i64 0] := cells_keep (by (simp only [CellsAt]; (first | (go_simp; done) | ((repeat' (with_reducible refine And.intro ?_ ?_)) <;> (repeat' (first | (with_reducible assumption) | (with_reducible exact trivial) | (with_reducible refine kA _ ?_) | (with_reducible refine kD ?_) | (with_reducible refine kS _ ?_ ?_) | (with_reducible refine fA _ ?_ ?_) | (with_reducible refine fD ?_) | (with_reducible refine fS _ ?_) | go_size | (go_simp; done))))))) (fun o => bw1.cell (p := ⟨_, o, none⟩) (by go_size)) (fun o => bw1.frozen (p := ⟨_, o, none⟩) (by go_size))
  simp only [CellsAt] at zw1_wH
  simp only [CellsAt] at zw1_wH1
  simp only [CellsAt] at zw1_wH2
  clear bw1
  go_wp2_with fail
  refine (V'.out _ (by (repeat' (first | (with_reducible exact Tw1.out) | (with_reducible assumption) | (with_reducible refine tab_alloc ?_ _) | (with_reducible refine tab_drewN ?_ _) | (with_reducible refine tab_drew ?_) | (with_reducible refine tab_set ?_ ?_ _) | go_size)))).mono ?_
  rintro e w2 ⟨rfl, bw2⟩
  have sw2 := bw2.size
  (try simp at sw2)
  have Aw2 : Below w.heap.size w w2 := Below.trans (by (repeat' (first | (with_reducible assumption) | (with_reducible exact Below.refl _ _) | (with_reducible refine bdN ?_ _) | (with_reducible refine Below.alloc ?_ ?_ _) | (with_reducible refine Below.drew ?_) | (with_reducible refine Below.setCell ?_ ?_ _) | go_size))) (bw2.mono (by go_size))
  have Tw2 := Lib.hid (tab_keep (by (repeat' (first | (with_reducible exact Tw1.out) | (with_reducible assumption) | (with_reducible refine tab_alloc ?_ _) | (with_reducible refine tab_drewN ?_ _) | (with_reducible refine tab_drew ?_) | (with_reducible refine tab_set ?_ ?_ _) | go_size))) bw2)
  have lw2_0 : w.heap.size < w2.heap.size := (by go_size)
  have zw2_wH : CellsAt w2 (w.heap.size) 0 [.int .i64 y, .int .i64 m, .int .i64 d, .int .i64 h, .int .i64 i, .int .i64 s, .int .i64 u, .int .i64 o] := cells_keep (by (simp only [CellsAt]; (first | (go_simp; done) | ((repeat' (with_reducible refine And.intro ?_ ?_)) <;> (repeat' (first | (with_reducible assumption) | (with_reducible exact trivial) | (with_reducible refine kA _ ?_) | (with_reducible refine kD ?_) | (with_reducible refine kS _ ?_ ?_) | (with_reducible refine fA _ ?_ ?_) | (with_reducible refine fD ?_) | (with_reducible refine fS _ ?_) | go_size | (go_simp; done))))))) (fun o => bw2.cell (p := ⟨_, o, none⟩) (by go_size)) (fun o => bw2.frozen (p := ⟨_, o, none⟩) (by go_size))
  have lw2_1 : w.heap.size+1 < w2.heap.size := (by go_size)
  have zw2_wH1 : CellsAt w2 (w.heap.size+1) 0 [.int .i64 (y'), .int .i64 (m'), .int .i64 (d'), .int .i64 (h'), .int .i64 (i'), .int .i64 (s'), .int .i64 (u'), .int .i64 (o')] := cells_keep (by (simp only [CellsAt]; (first | (go_simp; done) | ((repeat' (with_reducible refine And.intro ?_ ?_)) <;> (repeat' (first | (with_reducible assumption) | (with_reducible exact trivial) | (with_reducible refine kA _ ?_) | (with_reducible refine kD ?_) | (with_reducible refine kS _ ?_ ?_) | (with_reducible refine fA _ ?_ ?_) | (with_reducible refine fD ?_) | (with_reducible refine fS _ ?_) | go_size | (go_simp; done))))))) (fun o => bw2.cell (p := ⟨_, o, none⟩) (by go_size)) (fun o => bw2.frozen (p := ⟨_, o, none⟩) (by go_size))
  have lw2_2 : w.heap.size+2 < w2.heap.size := (by go_size)
  have zw2_wH2 : CellsAt w2 (w.heap.size+2) 0 [.int .i64 0, .int .i64 0] := cells_keep (by (simp only [CellsAt]; (first | (go_simp; done) | ((repeat' (with_reducible refine And.intro ?_ ?_)) <;> (repeat' (first | (with_reducible assumption) | (with_reducible exact trivial) | (with_reducible refine kA _ ?_) | (with_reducible refine kD ?_) | (with_reducible refine kS _ ?_ ?_) | (with_reducible refine fA _ ?_ ?_) | (with_reducible refine fD ?_) | (with_reducible refine fS _ ?_) | go_size | (go_simp; done))))))) (fun o => bw2.cell (p := ⟨_, o, none⟩) (by go_size)) (fun o => bw2.frozen (p := ⟨_, o, none⟩) (by go_size))
  simp only [CellsAt] at zw2_wH
  simp only [CellsAt] at zw2_wH1
  simp only [CellsAt] at zw2_wH2
  clear zw1_wH zw1_wH1 zw1_wH2
  clear bw2
  go_wp2_with fail
  refine (B.out _ (by (repeat' (first | (with_reducible exact Tw2.out) | (with_reducible assumption) | (with_reducible refine tab_alloc ?_ _) | (with_reducible refine tab_drewN ?_ _) | (with_reducible refine tab_drew ?_) | (with_reducible refine tab_set ?_ ?_ _) | go_size)))).mono ?_
  rintro e w3 ⟨rfl, bw3⟩
  have sw3 := bw3.size
  (try simp at sw3)
  have Aw3 : Below w.heap.size w w3 := Below.trans (by (repeat' (first | (with_reducible assumption) | (with_reducible exact Below.refl _ _) | (with_reducible refine bdN ?_ _) | (with_reducible refine Below.alloc ?_ ?_ _) | (with_reducible refine Below.drew ?_) | (with_reducible refine Below.setCell ?_ ?_ _) | go_size))) (bw3.mono (by go_size))
  have Tw3 := Lib.hid (tab_keep (by (repeat' (first | (with_reducible exact Tw2.out) | (with_reducible assumption) | (with_reducible refine tab_alloc ?_ _) | (with_reducible refine tab_drewN ?_ _) | (with_reducible refine tab_drew ?_) | (with_reducible refine tab_set ?_ ?_ _) | go_size))) bw3)
  have lw3_0 : w.heap.size < w3.heap.size := (by go_size)
  have zw3_wH : CellsAt w3 (w.heap.size) 0 [.int .i64 y, .int .i64 m, .int .i64 d, .int .i64 h, .int .i64 i, .int .i64 s, .int .i64 u, .int .i64 o] := cells_keep (by (simp only [CellsAt]; (first | (go_simp; done) | ((repeat' (with_reducible refine And.intro ?_ ?_)) <;> (repeat' (first | (with_reducible assumption) | (with_reducible exact trivial) | (with_reducible refine kA _ ?_) | (with_reducible refine kD ?_) | (with_reducible refine kS _ ?_ ?_) | (with_reducible refine fA _ ?_ ?_) | (with_reducible refine fD ?_) | (with_reducible refine fS _ ?_) | go_size | (go_simp; done))))))) (fun o => bw3.cell (p := ⟨_, o, none⟩) (by go_size)) (fun o => bw3.frozen (p := ⟨_, o, none⟩) (by go_size))
  have lw3_1 : w.heap.size+1 < w3.heap.size := (by go_size)
  have zw3_wH1 : CellsAt w3 (w.heap.size+1) 0 [.int .i64 (y'), .int .i64 (m'), .int .i64 (d'), .int .i64 (h'), .int .i64 (i'), .int .i64 (s'), .int .i64 (u'), .int .i64 (o')] := cells_keep (by (simp only [CellsAt]; (first | (go_simp; done) | ((repeat' (with_reducible refine And.intro ?_ ?_)) <;> (repeat' (first | (with_reducible assumption) | (with_reducible exact trivial) | (with_reducible refine kA _ ?_) | (with_reducible refine kD ?_) | (with_reducible refine kS _ ?_ ?_) | (with_reducible refine fA _ ?_ ?_) | (with_reducible refine fD ?_) | (with_reducible refine fS _ ?_) | go_size | (go_simp; done))))))) (fun o => bw3.cell (p := ⟨_, o, none⟩) (by go_size)) (fun o => bw3.frozen (p := ⟨_, o, none⟩) (by go_size))
  have lw3_2 : w.heap.size+2 < w3.heap.size := (by go_size)
  have zw3_wH2 : CellsAt w3 (w.heap.size+2) 0 [.int .i64 0, .int .i64 0] := cells_keep (by (simp only [CellsAt]; (first | (go_simp; done) | ((repeat' (with_reducible refine And.intro ?_ ?_)) <;> (repeat' (first | (with_reducible assumption) | (with_reducible exact trivial) | (with_reducible refine kA _ ?_) | (with_reducible refine kD ?_) | (with_reducible refine kS _ ?_ ?_) | (with_reducible refine fA _ ?_ ?_) | (with_reducible refine fD ?_) | (with_reducible refine fS _ ?_) | go_size | (go_simp; done))))))) (fun o => bw3.cell (p := ⟨_, o, none⟩) (by go_size)) (fun o => bw3.frozen (p := ⟨_, o, none⟩) (by go_size))
  simp only [CellsAt] at zw3_wH
  simp only [CellsAt] at zw3_wH1
  simp only [CellsAt] at zw3_wH2
  clear zw2_wH zw2_wH1 zw2_wH2
  clear bw3
  clear zw3_wH
  clear zw3_wH1
  go_wp2_with fail
  first | refine seal_wp ?_ | refine seal_calls ?_ | refine seal_post ?_
  intro w4 hww4
  have sw4 := congrArg (fun x : World => x.heap.size) hww4
  (try simp at sw4)
  have Aw4 : Below w.heap.size w w4 := by rw [hww4]; (repeat' (first | (with_reducible assumption) | (with_reducible exact Below.refl _ _) | (with_reducible refine bdN ?_ _) | (with_reducible refine Below.alloc ?_ ?_ _) | (with_reducible refine Below.drew ?_) | (with_reducible refine Below.setCell ?_ ?_ _) | go_size))
  have Tw4 := Lib.hid (show Tab w4 by rw [hww4]; (repeat' (first | (with_reducible exact Tw3.out) | (with_reducible assumption) | (with_reducible refine tab_alloc ?_ _) | (with_reducible refine tab_drewN ?_ _) | (with_reducible refine tab_drew ?_) | (with_reducible refine tab_set ?_ ?_ _) | go_size)))
  have lw4_0 : w.heap.size+2 < w4.heap.size := (by go_size)
  have zw4_wH2 : CellsAt w4 (w.heap.size+2) 0 [.int .i64 0, .int .i64 0] := by rw [hww4]; (simp only [CellsAt]; (first | (go_simp; done) | ((repeat' (with_reducible refine And.intro ?_ ?_)) <;> (repeat' (first | (with_reducible assumption) | (with_reducible exact trivial) | (with_reducible refine kA _ ?_) | (with_reducible refine kD ?_) | (with_reducible refine kS _ ?_ ?_) | (with_reducible refine fA _ ?_ ?_) | (with_reducible refine fD ?_) | (with_reducible refine fS _ ?_) | go_size | (go_simp; done))))))
  have lw4_1 : w3.heap.size < w4.heap.size := (by go_size)
  have zw4_w3H : CellsAt w4 (w3.heap.size) 0 [.int .i64 a, .int .i64 b] := by rw [hww4]; (simp only [CellsAt]; (first | (go_simp; done) | ((repeat' (with_reducible refine And.intro ?_ ?_)) <;> (repeat' (first | (with_reducible assumption) | (with_reducible exact trivial) | (with_reducible refine kA _ ?_) | (with_reducible refine kD ?_) | (with_reducible refine kS _ ?_ ?_) | (with_reducible refine fA _ ?_ ?_) | (with_reducible refine fD ?_) | (with_reducible refine fS _ ?_) | go_size | (go_simp; done))))))
  simp only [CellsAt] at zw4_wH2
  simp only [CellsAt] at zw4_w3H
  clear zw3_wH2
  clear hww4
  go_region
  all_goals
    go_wp2_with fail
    exact bodyPost_ret (v := .tuple #[.agg #[.int .i64 a, .int .i64 b], .bool c]) (by simp [results, Tryd.results23, go_sem, zw4_wH2, zw4_w3H, lw4_0, lw4_1]) rfl ⟨by first | (rw [← ec]; done) | (rw [← ec]; simp), by (repeat' (first | (with_reducible assumption) | (with_reducible exact Below.refl _ _) | (with_reducible refine bdN ?_ _) | (with_reducible refine Below.alloc ?_ ?_ _) | (with_reducible refine Below.drew ?_) | (with_reducible refine Below.setCell ?_ ?_ _) | go_size))⟩

theorem SpanLength_no_i (y m d h i s u o y' m' d' h' i' s' u' o' : Int) (w : World) (T : Tab w) (v : ¬ (svB y m d h i s u o = true ∧ svB y' m' d' h' i' s' u' o' = true)) :
    Calls Tryd.prog 12 #[.agg #[.int .i64 y, .int .i64 m, .int .i64 d, .int .i64 h, .int .i64 i, .int .i64 s, .int .i64 u, .int .i64 o], .agg #[.int .i64 (y'), .int .i64 (m'), .int .i64 (d'), .int .i64 (h'), .int .i64 (i'), .int .i64 (s'), .int .i64 (u'), .int .i64 (o')]] w fun e w' => e = .returned (.int .i64 (-1)) ∧ Below w.heap.size w w' := by
  have T0 := Lib.hid T
  have P := Lib.hid (fun w T => spanOf_no y m d h i s u o y' m' d' h' i' s' u' o' w T v)
  clear T v
  go_enter Tryd.func12, Tryd.ntmps12
  go_wp2_with fail
  refine (P.out _ (by (repeat' (first | (with_reducible exact T0.out) | (with_reducible assumption) | (with_reducible refine tab_alloc ?_ _) | (with_reducible refine tab_drewN ?_ _) | (with_reducible refine tab_drew ?_) | (with_reducible refine tab_set ?_ ?_ _) | go_size)))).mono ?_
  rintro e w1 ⟨rfl, bw1⟩
  have sw1 := bw1.size
  (try simp at sw1)
  have Aw1 : Below w.heap.size w w1 := Below.trans (by (repeat' (first | (with_reducible assumption) | (with_reducible exact Below.refl _ _) | (with_reducible refine bdN ?_ _) | (with_reducible refine Below.alloc ?_ ?_ _) | (with_reducible refine Below.drew ?_) | (with_reducible refine Below.setCell ?_ ?_ _) | go_size))) (bw1.mono (by go_size))
  have Tw1 := Lib.hid (tab_keep (by (repeat' (first | (with_reducible exact T0.out) | (with_reducible assumption) | (with_reducible refine tab_alloc ?_ _) | (with_reducible refine tab_drewN ?_ _) | (with_reducible refine tab_drew ?_) | (with_reducible refine tab_set ?_ ?_ _) | go_size))) bw1)
  clear bw1
  go_wp2_with fail
  go_ret
  exact ⟨rfl, by (repeat' (first | (with_reducible assumption) | (with_reducible exact Below.refl _ _) | (with_reducible refine bdN ?_ _) | (with_reducible refine Below.alloc ?_ ?_ _) | (with_reducible refine Below.drew ?_) | (with_reducible refine Below.setCell ?_ ?_ _) | go_size))⟩
theorem SpanLength_yes_i (y m d h i s u o y' m' d' h' i' s' u' o' a b : Int) (w : World) (T : Tab w) (va : svB y m d h i s u o = true) (vb : svB y' m' d' h' i' s' u' o' = true) (ea : ins y m d h i s u o = a) (eb : ins y' m' d' h' i' s' u' o' = b) :
    Calls Tryd.prog 12 #[.agg #[.int .i64 y, .int .i64 m, .int .i64 d, .int .i64 h, .int .i64 i, .int .i64 s, .int .i64 u, .int .i64 o], .agg #[.int .i64 (y'), .int .i64 (m'), .int .i64 (d'), .int .i64 (h'), .int .i64 (i'), .int .i64 (s'), .int .i64 (u'), .int .i64 (o')]] w fun e w' => e = .returned (.int .i64 (slN true true a b)) ∧ Below w.heap.size w w' := by
  have T0 := Lib.hid T
  have na := ins_bd va
  have nb := ins_bd vb
  rw [ea] at na
  rw [eb] at nb
  obtain ⟨a1, a2⟩ := na
  obtain ⟨b1, b2⟩ := nb
  by_cases hab : a ≤ b
  · have P := Lib.hid (fun w T => spanOf_yes y m d h i s u o y' m' d' h' i' s' u' o' a b true w T va vb ea eb (by simpa using hab))
    have E : slN true true a b = b - a := by unfold slN; rw [if_pos ⟨rfl, rfl, hab⟩]
    rw [E]
    clear T va vb ea eb E
    go_enter Tryd.func12, Tryd.ntmps12
    go_wp2_with fail
    refine (P.out _ (by (repeat' (first | (with_reducible exact T0.out) | (with_reducible assumption) | (with_reducible refine tab_alloc ?_ _) | (with_reducible refine tab_drewN ?_ _) | (with_reducible refine tab_drew ?_) | (with_reducible refine tab_set ?_ ?_ _) | go_size)))).mono ?_
    rintro e w1 ⟨rfl, bw1⟩
    have sw1 := bw1.size
    (try simp at sw1)
    have Aw1 : Below w.heap.size w w1 := Below.trans (by (repeat' (first | (with_reducible assumption) | (with_reducible exact Below.refl _ _) | (with_reducible refine bdN ?_ _) | (with_reducible refine Below.alloc ?_ ?_ _) | (with_reducible refine Below.drew ?_) | (with_reducible refine Below.setCell ?_ ?_ _) | go_size))) (bw1.mono (by go_size))
    have Tw1 := Lib.hid (tab_keep (by (repeat' (first | (with_reducible exact T0.out) | (with_reducible assumption) | (with_reducible refine tab_alloc ?_ _) | (with_reducible refine tab_drewN ?_ _) | (with_reducible refine tab_drew ?_) | (with_reducible refine tab_set ?_ ?_ _) | go_size))) bw1)
    clear bw1
    go_wp2_with fail
    go_ret
    exact ⟨rfl, by (repeat' (first | (with_reducible assumption) | (with_reducible exact Below.refl _ _) | (with_reducible refine bdN ?_ _) | (with_reducible refine Below.alloc ?_ ?_ _) | (with_reducible refine Below.drew ?_) | (with_reducible refine Below.setCell ?_ ?_ _) | go_size))⟩
  · have P := Lib.hid (fun w T => spanOf_yes y m d h i s u o y' m' d' h' i' s' u' o' a b false w T va vb ea eb (by simpa using hab))
    have E : slN true true a b = -1 := by unfold slN; rw [if_neg (fun c => hab c.2.2)]
    rw [E]
    clear T va vb ea eb E
    go_enter Tryd.func12, Tryd.ntmps12
    go_wp2_with fail
    refine (P.out _ (by (repeat' (first | (with_reducible exact T0.out) | (with_reducible assumption) | (with_reducible refine tab_alloc ?_ _) | (with_reducible refine tab_drewN ?_ _) | (with_reducible refine tab_drew ?_) | (with_reducible refine tab_set ?_ ?_ _) | go_size)))).mono ?_
    rintro e w1 ⟨rfl, bw1⟩
    have sw1 := bw1.size
    (try simp at sw1)
    have Aw1 : Below w.heap.size w w1 := Below.trans (by (repeat' (first | (with_reducible assumption) | (with_reducible exact Below.refl _ _) | (with_reducible refine bdN ?_ _) | (with_reducible refine Below.alloc ?_ ?_ _) | (with_reducible refine Below.drew ?_) | (with_reducible refine Below.setCell ?_ ?_ _) | go_size))) (bw1.mono (by go_size))
    have Tw1 := Lib.hid (tab_keep (by (repeat' (first | (with_reducible exact T0.out) | (with_reducible assumption) | (with_reducible refine tab_alloc ?_ _) | (with_reducible refine tab_drewN ?_ _) | (with_reducible refine tab_drew ?_) | (with_reducible refine tab_set ?_ ?_ _) | go_size))) bw1)
    clear bw1
    go_wp2_with fail
    go_ret
    exact ⟨rfl, by (repeat' (first | (with_reducible assumption) | (with_reducible exact Below.refl _ _) | (with_reducible refine bdN ?_ _) | (with_reducible refine Below.alloc ?_ ?_ _) | (with_reducible refine Below.drew ?_) | (with_reducible refine Below.setCell ?_ ?_ _) | go_size))⟩
theorem SpanLength_i (y m d h i s u o y' m' d' h' i' s' u' o' : Int) (w : World) (T : Tab w) :
    Calls Tryd.prog 12 #[.agg #[.int .i64 y, .int .i64 m, .int .i64 d, .int .i64 h, .int .i64 i, .int .i64 s, .int .i64 u, .int .i64 o], .agg #[.int .i64 (y'), .int .i64 (m'), .int .i64 (d'), .int .i64 (h'), .int .i64 (i'), .int .i64 (s'), .int .i64 (u'), .int .i64 (o')]] w fun e w' => e = .returned (.int .i64 (slN (svB y m d h i s u o) (svB y' m' d' h' i' s' u' o') (ins y m d h i s u o) (ins y' m' d' h' i' s' u' o'))) ∧ Below w.heap.size w w' := by
  by_cases v : svB y m d h i s u o = true ∧ svB y' m' d' h' i' s' u' o' = true
  · have c := SpanLength_yes_i y m d h i s u o y' m' d' h' i' s' u' o' _ _ w T v.1 v.2 rfl rfl
    rw [v.1, v.2]
    exact c
  · have c := SpanLength_no_i y m d h i s u o y' m' d' h' i' s' u' o' w T v
    have E : slN (svB y m d h i s u o) (svB y' m' d' h' i' s' u' o') (ins y m d h i s u o) (ins y' m' d' h' i' s' u' o') = -1 := by
      unfold slN
      rw [if_neg (fun c => v ⟨c.1, c.2.1⟩)]
    rw [E]
    exact c

set_option maxHeartbeats 4000000 in
theorem SpanLength_no_s (y m d h i s u o y' m' d' h' i' s' u' o' : Int) (w : World) (v : ¬ (svB y m d h i s u o = true ∧ svB y' m' d' h' i' s' u' o' = true)) :
    Calls Tryd.prog 11 #[.agg #[.int .i64 y, .int .i64 m, .int .i64 d, .int .i64 h, .int .i64 i, .int .i64 s, .int .i64 u, .int .i64 o], .agg #[.int .i64 (y'), .int .i64 (m'), .int .i64 (d'), .int .i64 (h'), .int .i64 (i'), .int .i64 (s'), .int .i64 (u'), .int .i64 (o')]] w fun e w' => e = .returned (.int .i64 (-1)) ∧ Below w.heap.size w w' := by
  cases hv : svB y m d h i s u o
  · have V := Lib.hid (fun w => sv_sb y m d h i s u o w false hv)
    clear hv v
    go_enter Tryd.func11, Tryd.ntmps11
    go_wp2_with fail
    go_region_with
      (
        (go_at_call 17; (with_reducible refine (V.out _).mono ?_); rintro e w1 ⟨rfl, bw1⟩; have sw1 := bw1.size; (try simp at sw1); have Aw1 : Below w.heap.size w w1 := Below.trans (by (repeat' (first | (with_reducible assumption) | (with_reducible exact Below.refl _ _) | (with_reducible refine bdN ?_ _) | (with_reducible refine Below.alloc ?_ ?_ _) | (with_reducible refine Below.drew ?_) | (with_reducible refine Below.setCell ?_ ?_ _) | go_size))) (bw1.mono (by go_size)); clear bw1)
      )
    all_goals
      go_wp2_with fail
      go_ret
      exact ⟨rfl, by (repeat' (first | (with_reducible assumption) | (with_reducible exact Below.refl _ _) | (with_reducible refine bdN ?_ _) | (with_reducible refine Below.alloc ?_ ?_ _) | (with_reducible refine Below.drew ?_) | (with_reducible refine Below.setCell ?_ ?_ _) | go_size))⟩
  · have V := Lib.hid (fun w => sv_sb y m d h i s u o w true hv)
    have hp : svB y' m' d' h' i' s' u' o' = false := by
      cases hp : svB y' m' d' h' i' s' u' o'
      · rfl
      · exact absurd ⟨hv, hp⟩ v
    have V' := Lib.hid (fun w => sv_sb y' m' d' h' i' s' u' o' w false hp)
    clear hv v hp
    go_enter Tryd.func11, Tryd.ntmps11
    go_wp2_with fail
    go_region_with
      (first
        | (go_at_call 17; (with_reducible refine (V.out _).mono ?_); rintro e w1 ⟨rfl, bw1⟩; have sw1 := bw1.size; (try simp at sw1); have Aw1 : Below w.heap.size w w1 := Below.trans (by (repeat' (first | (with_reducible assumption) | (with_reducible exact Below.refl _ _) | (with_reducible refine bdN ?_ _) | (with_reducible refine Below.alloc ?_ ?_ _) | (with_reducible refine Below.drew ?_) | (with_reducible refine Below.setCell ?_ ?_ _) | go_size))) (bw1.mono (by go_size)); have lw1_0 : w.heap.size+1 < w1.heap.size := (by go_size); have zw1_wH1 : CellsAt w1 (w.heap.size+1) 0 [.int .i64 (y'), .int .i64 (m'), .int .i64 (d'), .int .i64 (h'), .int .i64 (i'), .int .i64 (s'), .int .i64 (u'), .int .i64 (o')] := cells_keep (by (simp only [CellsAt]; (first | (go_simp; done) | ((repeat' (with_reducible refine And.intro ?_ ?_)) <;> (repeat' (first | (with_reducible assumption) | (with_reducible exact trivial) | (with_reducible refine kA _ ?_) | (with_reducible refine kD ?_) | (with_reducible refine kS _ ?_ ?_) | (with_reducible refine fA _ ?_ ?_) | (with_reducible refine fD ?_) | (with_reducible refine fS _ ?_) | go_size | (go_simp; done))))))) (fun o => bw1.cell (p := ⟨_, o, none⟩) (by go_size)) (fun o => bw1.frozen (p := ⟨_, o, none⟩) (by go_size)); simp only [CellsAt] at zw1_wH1; clear bw1)
        | (go_at_call 17; (with_reducible refine (V'.out _).mono ?_); rintro e w2 ⟨rfl, bw2⟩; have sw2 := bw2.size; (try simp at sw2); have Aw2 : Below w.heap.size w w2 := Below.trans (by (repeat' (first | (with_reducible assumption) | (with_reducible exact Below.refl _ _) | (with_reducible refine bdN ?_ _) | (with_reducible refine Below.alloc ?_ ?_ _) | (with_reducible refine Below.drew ?_) | (with_reducible refine Below.setCell ?_ ?_ _) | go_size))) (bw2.mono (by go_size)); have lw2_0 : w.heap.size+1 < w2.heap.size := (by go_size); have zw2_wH1 : CellsAt w2 (w.heap.size+1) 0 [.int .i64 (y'), .int .i64 (m'), .int .i64 (d'), .int .i64 (h'), .int .i64 (i'), .int .i64 (s'), .int .i64 (u'), .int .i64 (o')] := cells_keep (by (simp only [CellsAt]; (first | (go_simp; done) | ((repeat' (with_reducible refine And.intro ?_ ?_)) <;> (repeat' (first | (with_reducible assumption) | (with_reducible exact trivial) | (with_reducible refine kA _ ?_) | (with_reducible refine kD ?_) | (with_reducible refine kS _ ?_ ?_) | (with_reducible refine fA _ ?_ ?_) | (with_reducible refine fD ?_) | (with_reducible refine fS _ ?_) | go_size | (go_simp; done))))))) (fun o => bw2.cell (p := ⟨_, o, none⟩) (by go_size)) (fun o => bw2.frozen (p := ⟨_, o, none⟩) (by go_size)); simp only [CellsAt] at zw2_wH1; clear zw1_wH1; clear bw2)
      )
    all_goals
      go_wp2_with fail
      go_ret
      exact ⟨rfl, by (repeat' (first | (with_reducible assumption) | (with_reducible exact Below.refl _ _) | (with_reducible refine bdN ?_ _) | (with_reducible refine Below.alloc ?_ ?_ _) | (with_reducible refine Below.drew ?_) | (with_reducible refine Below.setCell ?_ ?_ _) | go_size))⟩
set_option maxHeartbeats 4000000 in
theorem SpanLength_yes_s (y m d h i s u o y' m' d' h' i' s' u' o' a b : Int) (w : World) (va : svB y m d h i s u o = true) (vb : svB y' m' d' h' i' s' u' o' = true) (ea : ins y m d h i s u o = a) (eb : ins y' m' d' h' i' s' u' o' = b) :
    Calls Tryd.prog 11 #[.agg #[.int .i64 y, .int .i64 m, .int .i64 d, .int .i64 h, .int .i64 i, .int .i64 s, .int .i64 u, .int .i64 o], .agg #[.int .i64 (y'), .int .i64 (m'), .int .i64 (d'), .int .i64 (h'), .int .i64 (i'), .int .i64 (s'), .int .i64 (u'), .int .i64 (o')]] w fun e w' => e = .returned (.int .i64 (slN true true a b)) ∧ Below w.heap.size w w' := by
  have na := ins_bd va
  have nb := ins_bd vb
  rw [ea] at na
  rw [eb] at nb
  obtain ⟨a1, a2⟩ := na
  obtain ⟨b1, b2⟩ := nb
  have V := Lib.hid (fun w => sv_sb y m d h i s u o w true va)
  have V' := Lib.hid (fun w => sv_sb y' m' d' h' i' s' u' o' w true vb)
  have I := Lib.hid (fun w => l12Instant_s y m d h i s u o w va)
  have I' := Lib.hid (fun w => l12Instant_s y' m' d' h' i' s' u' o' w vb)
  rw [ea] at I
  rw [eb] at I'
  clear va vb ea eb
  by_cases hab : a ≤ b
  · have E : slN true true a b = b - a := by unfold slN; rw [if_pos ⟨rfl, rfl, hab⟩]
    have k1 : IntKind.i64.wrap (b - a) = b - a := IntWalk.i64_in _ (by omega)
    have hd : decide (b < a) = false := by simpa using hab
    rw [E]
    clear E
    go_enter Tryd.func11, Tryd.ntmps11
    go_wp2_with fail
    go_region_held3 (fun w' => w'.cell? ⟨w.heap.size, 0, none⟩ = some (.int .i64 y) ∧ w'.cell? ⟨w.heap.size, 1, none⟩ = some (.int .i64 m) ∧ w'.cell? ⟨w.heap.size, 2, none⟩ = some (.int .i64 d) ∧ w'.cell? ⟨w.heap.size, 3, none⟩ = some (.int .i64 h) ∧ w'.cell? ⟨w.heap.size, 4, none⟩ = some (.int .i64 i) ∧ w'.cell? ⟨w.heap.size, 5, none⟩ = some (.int .i64 s) ∧ w'.cell? ⟨w.heap.size, 6, none⟩ = some (.int .i64 u) ∧ w'.cell? ⟨w.heap.size, 7, none⟩ = some (.int .i64 o) ∧ w'.cell? ⟨w.heap.size+1, 0, none⟩ = some (.int .i64 (y')) ∧ w'.cell? ⟨w.heap.size+1, 1, none⟩ = some (.int .i64 (m')) ∧ w'.cell? ⟨w.heap.size+1, 2, none⟩ = some (.int .i64 (d')) ∧ w'.cell? ⟨w.heap.size+1, 3, none⟩ = some (.int .i64 (h')) ∧ w'.cell? ⟨w.heap.size+1, 4, none⟩ = some (.int .i64 (i')) ∧ w'.cell? ⟨w.heap.size+1, 5, none⟩ = some (.int .i64 (s')) ∧ w'.cell? ⟨w.heap.size+1, 6, none⟩ = some (.int .i64 (u')) ∧ w'.cell? ⟨w.heap.size+1, 7, none⟩ = some (.int .i64 (o'))) (((repeat' (with_reducible refine And.intro ?_ ?_)) <;> (first | (with_reducible assumption) | (go_simp; done) | (repeat' (first | (with_reducible assumption) | (with_reducible refine kA _ ?_) | (with_reducible refine kD ?_) | (with_reducible refine kS _ ?_ ?_) | go_size | (go_simp; done))))))
      (first
        | (go_at_call 17; (with_reducible refine (V.out _).mono ?_); rintro e w1 ⟨rfl, bw1⟩; have sw1 := bw1.size; (try simp at sw1); have Aw1 : Below w.heap.size w w1 := Below.trans (by (repeat' (first | (with_reducible assumption) | (with_reducible exact Below.refl _ _) | (with_reducible refine bdN ?_ _) | (with_reducible refine Below.alloc ?_ ?_ _) | (with_reducible refine Below.drew ?_) | (with_reducible refine Below.setCell ?_ ?_ _) | go_size))) (bw1.mono (by go_size)); have lw1_0 : w.heap.size < w1.heap.size := (by go_size); have zw1_wH : CellsAt w1 (w.heap.size) 0 [.int .i64 y, .int .i64 m, .int .i64 d, .int .i64 h, .int .i64 i, .int .i64 s, .int .i64 u, .int .i64 o] := cells_keep (by (simp only [CellsAt]; (first | (go_simp; done) | ((repeat' (with_reducible refine And.intro ?_ ?_)) <;> (repeat' (first | (with_reducible assumption) | (with_reducible exact trivial) | (with_reducible refine kA _ ?_) | (with_reducible refine kD ?_) | (with_reducible refine kS _ ?_ ?_) | (with_reducible refine fA _ ?_ ?_) | (with_reducible refine fD ?_) | (with_reducible refine fS _ ?_) | go_size | (go_simp; done))))))) (fun o => bw1.cell (p := ⟨_, o, none⟩) (by go_size)) (fun o => bw1.frozen (p := ⟨_, o, none⟩) (by go_size)); have lw1_1 : w.heap.size+1 < w1.heap.size := (by go_size); have zw1_wH1 : CellsAt w1 (w.heap.size+1) 0 [.int .i64 (y'), .int .i64 (m'), .int .i64 (d'), .int .i64 (h'), .int .i64 (i'), .int .i64 (s'), .int .i64 (u'), .int .i64 (o')] := cells_keep (by (simp only [CellsAt]; (first | (go_simp; done) | ((repeat' (with_reducible refine And.intro ?_ ?_)) <;> (repeat' (first | (with_reducible assumption) | (with_reducible exact trivial) | (with_reducible refine kA _ ?_) | (with_reducible refine kD ?_) | (with_reducible refine kS _ ?_ ?_) | (with_reducible refine fA _ ?_ ?_) | (with_reducible refine fD ?_) | (with_reducible refine fS _ ?_) | go_size | (go_simp; done))))))) (fun o => bw1.cell (p := ⟨_, o, none⟩) (by go_size)) (fun o => bw1.frozen (p := ⟨_, o, none⟩) (by go_size)); simp only [CellsAt] at zw1_wH; simp only [CellsAt] at zw1_wH1; clear bw1)
        | (go_at_call 17; (with_reducible refine (V'.out _).mono ?_); rintro e w2 ⟨rfl, bw2⟩; have sw2 := bw2.size; (try simp at sw2); have Aw2 : Below w.heap.size w w2 := Below.trans (by (repeat' (first | (with_reducible assumption) | (with_reducible exact Below.refl _ _) | (with_reducible refine bdN ?_ _) | (with_reducible refine Below.alloc ?_ ?_ _) | (with_reducible refine Below.drew ?_) | (with_reducible refine Below.setCell ?_ ?_ _) | go_size))) (bw2.mono (by go_size)); have lw2_0 : w.heap.size < w2.heap.size := (by go_size); have zw2_wH : CellsAt w2 (w.heap.size) 0 [.int .i64 y, .int .i64 m, .int .i64 d, .int .i64 h, .int .i64 i, .int .i64 s, .int .i64 u, .int .i64 o] := cells_keep (by (simp only [CellsAt]; (first | (go_simp; done) | ((repeat' (with_reducible refine And.intro ?_ ?_)) <;> (repeat' (first | (with_reducible assumption) | (with_reducible exact trivial) | (with_reducible refine kA _ ?_) | (with_reducible refine kD ?_) | (with_reducible refine kS _ ?_ ?_) | (with_reducible refine fA _ ?_ ?_) | (with_reducible refine fD ?_) | (with_reducible refine fS _ ?_) | go_size | (go_simp; done))))))) (fun o => bw2.cell (p := ⟨_, o, none⟩) (by go_size)) (fun o => bw2.frozen (p := ⟨_, o, none⟩) (by go_size)); have lw2_1 : w.heap.size+1 < w2.heap.size := (by go_size); have zw2_wH1 : CellsAt w2 (w.heap.size+1) 0 [.int .i64 (y'), .int .i64 (m'), .int .i64 (d'), .int .i64 (h'), .int .i64 (i'), .int .i64 (s'), .int .i64 (u'), .int .i64 (o')] := cells_keep (by (simp only [CellsAt]; (first | (go_simp; done) | ((repeat' (with_reducible refine And.intro ?_ ?_)) <;> (repeat' (first | (with_reducible assumption) | (with_reducible exact trivial) | (with_reducible refine kA _ ?_) | (with_reducible refine kD ?_) | (with_reducible refine kS _ ?_ ?_) | (with_reducible refine fA _ ?_ ?_) | (with_reducible refine fD ?_) | (with_reducible refine fS _ ?_) | go_size | (go_simp; done))))))) (fun o => bw2.cell (p := ⟨_, o, none⟩) (by go_size)) (fun o => bw2.frozen (p := ⟨_, o, none⟩) (by go_size)); simp only [CellsAt] at zw2_wH; simp only [CellsAt] at zw2_wH1; clear zw1_wH zw1_wH1; clear bw2)
        | (go_at_call 18; (with_reducible refine (I.out _).mono ?_); rintro e w3 ⟨rfl, bw3⟩; have sw3 := bw3.size; (try simp at sw3); have Aw3 : Below w.heap.size w w3 := Below.trans (by (repeat' (first | (with_reducible assumption) | (with_reducible exact Below.refl _ _) | (with_reducible refine bdN ?_ _) | (with_reducible refine Below.alloc ?_ ?_ _) | (with_reducible refine Below.drew ?_) | (with_reducible refine Below.setCell ?_ ?_ _) | go_size))) (bw3.mono (by go_size)); have lw3_0 : w.heap.size < w3.heap.size := (by go_size); have zw3_wH : CellsAt w3 (w.heap.size) 0 [.int .i64 y, .int .i64 m, .int .i64 d, .int .i64 h, .int .i64 i, .int .i64 s, .int .i64 u, .int .i64 o] := cells_keep (by (simp only [CellsAt]; (first | (go_simp; done) | ((repeat' (with_reducible refine And.intro ?_ ?_)) <;> (repeat' (first | (with_reducible assumption) | (with_reducible exact trivial) | (with_reducible refine kA _ ?_) | (with_reducible refine kD ?_) | (with_reducible refine kS _ ?_ ?_) | (with_reducible refine fA _ ?_ ?_) | (with_reducible refine fD ?_) | (with_reducible refine fS _ ?_) | go_size | (go_simp; done))))))) (fun o => bw3.cell (p := ⟨_, o, none⟩) (by go_size)) (fun o => bw3.frozen (p := ⟨_, o, none⟩) (by go_size)); have lw3_1 : w.heap.size+1 < w3.heap.size := (by go_size); have zw3_wH1 : CellsAt w3 (w.heap.size+1) 0 [.int .i64 (y'), .int .i64 (m'), .int .i64 (d'), .int .i64 (h'), .int .i64 (i'), .int .i64 (s'), .int .i64 (u'), .int .i64 (o')] := cells_keep (by (simp only [CellsAt]; (first | (go_simp; done) | ((repeat' (with_reducible refine And.intro ?_ ?_)) <;> (repeat' (first | (with_reducible assumption) | (with_reducible exact trivial) | (with_reducible refine kA _ ?_) | (with_reducible refine kD ?_) | (with_reducible refine kS _ ?_ ?_) | (with_reducible refine fA _ ?_ ?_) | (with_reducible refine fD ?_) | (with_reducible refine fS _ ?_) | go_size | (go_simp; done))))))) (fun o => bw3.cell (p := ⟨_, o, none⟩) (by go_size)) (fun o => bw3.frozen (p := ⟨_, o, none⟩) (by go_size)); simp only [CellsAt] at zw3_wH; simp only [CellsAt] at zw3_wH1; clear zw2_wH zw2_wH1; clear bw3)
        | (go_at_call 18; (with_reducible refine (I'.out _).mono ?_); rintro e w4 ⟨rfl, bw4⟩; have sw4 := bw4.size; (try simp at sw4); have Aw4 : Below w.heap.size w w4 := Below.trans (by (repeat' (first | (with_reducible assumption) | (with_reducible exact Below.refl _ _) | (with_reducible refine bdN ?_ _) | (with_reducible refine Below.alloc ?_ ?_ _) | (with_reducible refine Below.drew ?_) | (with_reducible refine Below.setCell ?_ ?_ _) | go_size))) (bw4.mono (by go_size)); have lw4_0 : w.heap.size < w4.heap.size := (by go_size); have zw4_wH : CellsAt w4 (w.heap.size) 0 [.int .i64 y, .int .i64 m, .int .i64 d, .int .i64 h, .int .i64 i, .int .i64 s, .int .i64 u, .int .i64 o] := cells_keep (by (simp only [CellsAt]; (first | (go_simp; done) | ((repeat' (with_reducible refine And.intro ?_ ?_)) <;> (repeat' (first | (with_reducible assumption) | (with_reducible exact trivial) | (with_reducible refine kA _ ?_) | (with_reducible refine kD ?_) | (with_reducible refine kS _ ?_ ?_) | (with_reducible refine fA _ ?_ ?_) | (with_reducible refine fD ?_) | (with_reducible refine fS _ ?_) | go_size | (go_simp; done))))))) (fun o => bw4.cell (p := ⟨_, o, none⟩) (by go_size)) (fun o => bw4.frozen (p := ⟨_, o, none⟩) (by go_size)); have lw4_1 : w.heap.size+1 < w4.heap.size := (by go_size); have zw4_wH1 : CellsAt w4 (w.heap.size+1) 0 [.int .i64 (y'), .int .i64 (m'), .int .i64 (d'), .int .i64 (h'), .int .i64 (i'), .int .i64 (s'), .int .i64 (u'), .int .i64 (o')] := cells_keep (by (simp only [CellsAt]; (first | (go_simp; done) | ((repeat' (with_reducible refine And.intro ?_ ?_)) <;> (repeat' (first | (with_reducible assumption) | (with_reducible exact trivial) | (with_reducible refine kA _ ?_) | (with_reducible refine kD ?_) | (with_reducible refine kS _ ?_ ?_) | (with_reducible refine fA _ ?_ ?_) | (with_reducible refine fD ?_) | (with_reducible refine fS _ ?_) | go_size | (go_simp; done))))))) (fun o => bw4.cell (p := ⟨_, o, none⟩) (by go_size)) (fun o => bw4.frozen (p := ⟨_, o, none⟩) (by go_size)); simp only [CellsAt] at zw4_wH; simp only [CellsAt] at zw4_wH1; clear zw3_wH zw3_wH1; clear bw4)
      )
    all_goals go_wp2_with fail
    go_region_held3 (fun w' => w'.cell? ⟨w.heap.size, 0, none⟩ = some (.int .i64 y) ∧ w'.cell? ⟨w.heap.size, 1, none⟩ = some (.int .i64 m) ∧ w'.cell? ⟨w.heap.size, 2, none⟩ = some (.int .i64 d) ∧ w'.cell? ⟨w.heap.size, 3, none⟩ = some (.int .i64 h) ∧ w'.cell? ⟨w.heap.size, 4, none⟩ = some (.int .i64 i) ∧ w'.cell? ⟨w.heap.size, 5, none⟩ = some (.int .i64 s) ∧ w'.cell? ⟨w.heap.size, 6, none⟩ = some (.int .i64 u) ∧ w'.cell? ⟨w.heap.size, 7, none⟩ = some (.int .i64 o) ∧ w'.cell? ⟨w.heap.size+1, 0, none⟩ = some (.int .i64 (y')) ∧ w'.cell? ⟨w.heap.size+1, 1, none⟩ = some (.int .i64 (m')) ∧ w'.cell? ⟨w.heap.size+1, 2, none⟩ = some (.int .i64 (d')) ∧ w'.cell? ⟨w.heap.size+1, 3, none⟩ = some (.int .i64 (h')) ∧ w'.cell? ⟨w.heap.size+1, 4, none⟩ = some (.int .i64 (i')) ∧ w'.cell? ⟨w.heap.size+1, 5, none⟩ = some (.int .i64 (s')) ∧ w'.cell? ⟨w.heap.size+1, 6, none⟩ = some (.int .i64 (u')) ∧ w'.cell? ⟨w.heap.size+1, 7, none⟩ = some (.int .i64 (o'))) (((repeat' (with_reducible refine And.intro ?_ ?_)) <;> (first | (with_reducible assumption) | (go_simp; done) | (repeat' (first | (with_reducible assumption) | (with_reducible refine kA _ ?_) | (with_reducible refine kD ?_) | (with_reducible refine kS _ ?_ ?_) | go_size | (go_simp; done))))))
      (first
        | (go_at_call 18; (with_reducible refine (I'.out _).mono ?_); rintro e w5 ⟨rfl, bw5⟩; have sw5 := bw5.size; (try simp at sw5); have Aw5 : Below w.heap.size w w5 := Below.trans (by (repeat' (first | (with_reducible assumption) | (with_reducible exact Below.refl _ _) | (with_reducible refine bdN ?_ _) | (with_reducible refine Below.alloc ?_ ?_ _) | (with_reducible refine Below.drew ?_) | (with_reducible refine Below.setCell ?_ ?_ _) | go_size))) (bw5.mono (by go_size)); have lw5_0 : w.heap.size < w5.heap.size := (by go_size); have zw5_wH : CellsAt w5 (w.heap.size) 0 [.int .i64 y, .int .i64 m, .int .i64 d, .int .i64 h, .int .i64 i, .int .i64 s, .int .i64 u, .int .i64 o] := cells_keep (by (simp only [CellsAt]; (first | (go_simp; done) | ((repeat' (with_reducible refine And.intro ?_ ?_)) <;> (repeat' (first | (with_reducible assumption) | (with_reducible exact trivial) | (with_reducible refine kA _ ?_) | (with_reducible refine kD ?_) | (with_reducible refine kS _ ?_ ?_) | (with_reducible refine fA _ ?_ ?_) | (with_reducible refine fD ?_) | (with_reducible refine fS _ ?_) | go_size | (go_simp; done))))))) (fun o => bw5.cell (p := ⟨_, o, none⟩) (by go_size)) (fun o => bw5.frozen (p := ⟨_, o, none⟩) (by go_size)); have lw5_1 : w.heap.size+1 < w5.heap.size := (by go_size); have zw5_wH1 : CellsAt w5 (w.heap.size+1) 0 [.int .i64 (y'), .int .i64 (m'), .int .i64 (d'), .int .i64 (h'), .int .i64 (i'), .int .i64 (s'), .int .i64 (u'), .int .i64 (o')] := cells_keep (by (simp only [CellsAt]; (first | (go_simp; done) | ((repeat' (with_reducible refine And.intro ?_ ?_)) <;> (repeat' (first | (with_reducible assumption) | (with_reducible exact trivial) | (with_reducible refine kA _ ?_) | (with_reducible refine kD ?_) | (with_reducible refine kS _ ?_ ?_) | (with_reducible refine fA _ ?_ ?_) | (with_reducible refine fD ?_) | (with_reducible refine fS _ ?_) | go_size | (go_simp; done))))))) (fun o => bw5.cell (p := ⟨_, o, none⟩) (by go_size)) (fun o => bw5.frozen (p := ⟨_, o, none⟩) (by go_size)); simp only [CellsAt] at zw5_wH; simp only [CellsAt] at zw5_wH1; clear zw4_wH zw4_wH1; clear bw5)
        | (go_at_call 18; (with_reducible refine (I.out _).mono ?_); rintro e w6 ⟨rfl, bw6⟩; have sw6 := bw6.size; (try simp at sw6); have Aw6 : Below w.heap.size w w6 := Below.trans (by (repeat' (first | (with_reducible assumption) | (with_reducible exact Below.refl _ _) | (with_reducible refine bdN ?_ _) | (with_reducible refine Below.alloc ?_ ?_ _) | (with_reducible refine Below.drew ?_) | (with_reducible refine Below.setCell ?_ ?_ _) | go_size))) (bw6.mono (by go_size)); have lw6_0 : w.heap.size < w6.heap.size := (by go_size); have zw6_wH : CellsAt w6 (w.heap.size) 0 [.int .i64 y, .int .i64 m, .int .i64 d, .int .i64 h, .int .i64 i, .int .i64 s, .int .i64 u, .int .i64 o] := cells_keep (by (simp only [CellsAt]; (first | (go_simp; done) | ((repeat' (with_reducible refine And.intro ?_ ?_)) <;> (repeat' (first | (with_reducible assumption) | (with_reducible exact trivial) | (with_reducible refine kA _ ?_) | (with_reducible refine kD ?_) | (with_reducible refine kS _ ?_ ?_) | (with_reducible refine fA _ ?_ ?_) | (with_reducible refine fD ?_) | (with_reducible refine fS _ ?_) | go_size | (go_simp; done))))))) (fun o => bw6.cell (p := ⟨_, o, none⟩) (by go_size)) (fun o => bw6.frozen (p := ⟨_, o, none⟩) (by go_size)); have lw6_1 : w.heap.size+1 < w6.heap.size := (by go_size); have zw6_wH1 : CellsAt w6 (w.heap.size+1) 0 [.int .i64 (y'), .int .i64 (m'), .int .i64 (d'), .int .i64 (h'), .int .i64 (i'), .int .i64 (s'), .int .i64 (u'), .int .i64 (o')] := cells_keep (by (simp only [CellsAt]; (first | (go_simp; done) | ((repeat' (with_reducible refine And.intro ?_ ?_)) <;> (repeat' (first | (with_reducible assumption) | (with_reducible exact trivial) | (with_reducible refine kA _ ?_) | (with_reducible refine kD ?_) | (with_reducible refine kS _ ?_ ?_) | (with_reducible refine fA _ ?_ ?_) | (with_reducible refine fD ?_) | (with_reducible refine fS _ ?_) | go_size | (go_simp; done))))))) (fun o => bw6.cell (p := ⟨_, o, none⟩) (by go_size)) (fun o => bw6.frozen (p := ⟨_, o, none⟩) (by go_size)); simp only [CellsAt] at zw6_wH; simp only [CellsAt] at zw6_wH1; clear zw5_wH zw5_wH1; clear bw6)
      )
    all_goals
      go_wp2_with fail
      go_ret
      exact ⟨rfl, by (repeat' (first | (with_reducible assumption) | (with_reducible exact Below.refl _ _) | (with_reducible refine bdN ?_ _) | (with_reducible refine Below.alloc ?_ ?_ _) | (with_reducible refine Below.drew ?_) | (with_reducible refine Below.setCell ?_ ?_ _) | go_size))⟩
  · have E : slN true true a b = -1 := by unfold slN; rw [if_neg (fun c => hab c.2.2)]
    have hd : decide (b < a) = true := by simpa using hab
    rw [E]
    clear E
    go_enter Tryd.func11, Tryd.ntmps11
    go_wp2_with fail
    go_region_held3 (fun w' => w'.cell? ⟨w.heap.size, 0, none⟩ = some (.int .i64 y) ∧ w'.cell? ⟨w.heap.size, 1, none⟩ = some (.int .i64 m) ∧ w'.cell? ⟨w.heap.size, 2, none⟩ = some (.int .i64 d) ∧ w'.cell? ⟨w.heap.size, 3, none⟩ = some (.int .i64 h) ∧ w'.cell? ⟨w.heap.size, 4, none⟩ = some (.int .i64 i) ∧ w'.cell? ⟨w.heap.size, 5, none⟩ = some (.int .i64 s) ∧ w'.cell? ⟨w.heap.size, 6, none⟩ = some (.int .i64 u) ∧ w'.cell? ⟨w.heap.size, 7, none⟩ = some (.int .i64 o) ∧ w'.cell? ⟨w.heap.size+1, 0, none⟩ = some (.int .i64 (y')) ∧ w'.cell? ⟨w.heap.size+1, 1, none⟩ = some (.int .i64 (m')) ∧ w'.cell? ⟨w.heap.size+1, 2, none⟩ = some (.int .i64 (d')) ∧ w'.cell? ⟨w.heap.size+1, 3, none⟩ = some (.int .i64 (h')) ∧ w'.cell? ⟨w.heap.size+1, 4, none⟩ = some (.int .i64 (i')) ∧ w'.cell? ⟨w.heap.size+1, 5, none⟩ = some (.int .i64 (s')) ∧ w'.cell? ⟨w.heap.size+1, 6, none⟩ = some (.int .i64 (u')) ∧ w'.cell? ⟨w.heap.size+1, 7, none⟩ = some (.int .i64 (o'))) (((repeat' (with_reducible refine And.intro ?_ ?_)) <;> (first | (with_reducible assumption) | (go_simp; done) | (repeat' (first | (with_reducible assumption) | (with_reducible refine kA _ ?_) | (with_reducible refine kD ?_) | (with_reducible refine kS _ ?_ ?_) | go_size | (go_simp; done))))))
      (first
        | (go_at_call 17; (with_reducible refine (V.out _).mono ?_); rintro e w1 ⟨rfl, bw1⟩; have sw1 := bw1.size; (try simp at sw1); have Aw1 : Below w.heap.size w w1 := Below.trans (by (repeat' (first | (with_reducible assumption) | (with_reducible exact Below.refl _ _) | (with_reducible refine bdN ?_ _) | (with_reducible refine Below.alloc ?_ ?_ _) | (with_reducible refine Below.drew ?_) | (with_reducible refine Below.setCell ?_ ?_ _) | go_size))) (bw1.mono (by go_size)); have lw1_0 : w.heap.size < w1.heap.size := (by go_size); have zw1_wH : CellsAt w1 (w.heap.size) 0 [.int .i64 y, .int .i64 m, .int .i64 d, .int .i64 h, .int .i64 i, .int .i64 s, .int .i64 u, .int .i64 o] := cells_keep (by (simp only [CellsAt]; (first | (go_simp; done) | ((repeat' (with_reducible refine And.intro ?_ ?_)) <;> (repeat' (first | (with_reducible assumption) | (with_reducible exact trivial) | (with_reducible refine kA _ ?_) | (with_reducible refine kD ?_) | (with_reducible refine kS _ ?_ ?_) | (with_reducible refine fA _ ?_ ?_) | (with_reducible refine fD ?_) | (with_reducible refine fS _ ?_) | go_size | (go_simp; done))))))) (fun o => bw1.cell (p := ⟨_, o, none⟩) (by go_size)) (fun o => bw1.frozen (p := ⟨_, o, none⟩) (by go_size)); have lw1_1 : w.heap.size+1 < w1.heap.size := (by go_size); have zw1_wH1 : CellsAt w1 (w.heap.size+1) 0 [.int .i64 (y'), .int .i64 (m'), .int .i64 (d'), .int .i64 (h'), .int .i64 (i'), .int .i64 (s'), .int .i64 (u'), .int .i64 (o')] := cells_keep (by (simp only [CellsAt]; (first | (go_simp; done) | ((repeat' (with_reducible refine And.intro ?_ ?_)) <;> (repeat' (first | (with_reducible assumption) | (with_reducible exact trivial) | (with_reducible refine kA _ ?_) | (with_reducible refine kD ?_) | (with_reducible refine kS _ ?_ ?_) | (with_reducible refine fA _ ?_ ?_) | (with_reducible refine fD ?_) | (with_reducible refine fS _ ?_) | go_size | (go_simp; done))))))) (fun o => bw1.cell (p := ⟨_, o, none⟩) (by go_size)) (fun o => bw1.frozen (p := ⟨_, o, none⟩) (by go_size)); simp only [CellsAt] at zw1_wH; simp only [CellsAt] at zw1_wH1; clear bw1)
        | (go_at_call 17; (with_reducible refine (V'.out _).mono ?_); rintro e w2 ⟨rfl, bw2⟩; have sw2 := bw2.size; (try simp at sw2); have Aw2 : Below w.heap.size w w2 := Below.trans (by (repeat' (first | (with_reducible assumption) | (with_reducible exact Below.refl _ _) | (with_reducible refine bdN ?_ _) | (with_reducible refine Below.alloc ?_ ?_ _) | (with_reducible refine Below.drew ?_) | (with_reducible refine Below.setCell ?_ ?_ _) | go_size))) (bw2.mono (by go_size)); have lw2_0 : w.heap.size < w2.heap.size := (by go_size); have zw2_wH : CellsAt w2 (w.heap.size) 0 [.int .i64 y, .int .i64 m, .int .i64 d, .int .i64 h, .int .i64 i, .int .i64 s, .int .i64 u, .int .i64 o] := cells_keep (by (simp only [CellsAt]; (first | (go_simp; done) | ((repeat' (with_reducible refine And.intro ?_ ?_)) <;> (repeat' (first | (with_reducible assumption) | (with_reducible exact trivial) | (with_reducible refine kA _ ?_) | (with_reducible refine kD ?_) | (with_reducible refine kS _ ?_ ?_) | (with_reducible refine fA _ ?_ ?_) | (with_reducible refine fD ?_) | (with_reducible refine fS _ ?_) | go_size | (go_simp; done))))))) (fun o => bw2.cell (p := ⟨_, o, none⟩) (by go_size)) (fun o => bw2.frozen (p := ⟨_, o, none⟩) (by go_size)); have lw2_1 : w.heap.size+1 < w2.heap.size := (by go_size); have zw2_wH1 : CellsAt w2 (w.heap.size+1) 0 [.int .i64 (y'), .int .i64 (m'), .int .i64 (d'), .int .i64 (h'), .int .i64 (i'), .int .i64 (s'), .int .i64 (u'), .int .i64 (o')] := cells_keep (by (simp only [CellsAt]; (first | (go_simp; done) | ((repeat' (with_reducible refine And.intro ?_ ?_)) <;> (repeat' (first | (with_reducible assumption) | (with_reducible exact trivial) | (with_reducible refine kA _ ?_) | (with_reducible refine kD ?_) | (with_reducible refine kS _ ?_ ?_) | (with_reducible refine fA _ ?_ ?_) | (with_reducible refine fD ?_) | (with_reducible refine fS _ ?_) | go_size | (go_simp; done))))))) (fun o => bw2.cell (p := ⟨_, o, none⟩) (by go_size)) (fun o => bw2.frozen (p := ⟨_, o, none⟩) (by go_size)); simp only [CellsAt] at zw2_wH; simp only [CellsAt] at zw2_wH1; clear zw1_wH zw1_wH1; clear bw2)
        | (go_at_call 18; (with_reducible refine (I.out _).mono ?_); rintro e w3 ⟨rfl, bw3⟩; have sw3 := bw3.size; (try simp at sw3); have Aw3 : Below w.heap.size w w3 := Below.trans (by (repeat' (first | (with_reducible assumption) | (with_reducible exact Below.refl _ _) | (with_reducible refine bdN ?_ _) | (with_reducible refine Below.alloc ?_ ?_ _) | (with_reducible refine Below.drew ?_) | (with_reducible refine Below.setCell ?_ ?_ _) | go_size))) (bw3.mono (by go_size)); have lw3_0 : w.heap.size < w3.heap.size := (by go_size); have zw3_wH : CellsAt w3 (w.heap.size) 0 [.int .i64 y, .int .i64 m, .int .i64 d, .int .i64 h, .int .i64 i, .int .i64 s, .int .i64 u, .int .i64 o] := cells_keep (by (simp only [CellsAt]; (first | (go_simp; done) | ((repeat' (with_reducible refine And.intro ?_ ?_)) <;> (repeat' (first | (with_reducible assumption) | (with_reducible exact trivial) | (with_reducible refine kA _ ?_) | (with_reducible refine kD ?_) | (with_reducible refine kS _ ?_ ?_) | (with_reducible refine fA _ ?_ ?_) | (with_reducible refine fD ?_) | (with_reducible refine fS _ ?_) | go_size | (go_simp; done))))))) (fun o => bw3.cell (p := ⟨_, o, none⟩) (by go_size)) (fun o => bw3.frozen (p := ⟨_, o, none⟩) (by go_size)); have lw3_1 : w.heap.size+1 < w3.heap.size := (by go_size); have zw3_wH1 : CellsAt w3 (w.heap.size+1) 0 [.int .i64 (y'), .int .i64 (m'), .int .i64 (d'), .int .i64 (h'), .int .i64 (i'), .int .i64 (s'), .int .i64 (u'), .int .i64 (o')] := cells_keep (by (simp only [CellsAt]; (first | (go_simp; done) | ((repeat' (with_reducible refine And.intro ?_ ?_)) <;> (repeat' (first | (with_reducible assumption) | (with_reducible exact trivial) | (with_reducible refine kA _ ?_) | (with_reducible refine kD ?_) | (with_reducible refine kS _ ?_ ?_) | (with_reducible refine fA _ ?_ ?_) | (with_reducible refine fD ?_) | (with_reducible refine fS _ ?_) | go_size | (go_simp; done))))))) (fun o => bw3.cell (p := ⟨_, o, none⟩) (by go_size)) (fun o => bw3.frozen (p := ⟨_, o, none⟩) (by go_size)); simp only [CellsAt] at zw3_wH; simp only [CellsAt] at zw3_wH1; clear zw2_wH zw2_wH1; clear bw3)
        | (go_at_call 18; (with_reducible refine (I'.out _).mono ?_); rintro e w4 ⟨rfl, bw4⟩; have sw4 := bw4.size; (try simp at sw4); have Aw4 : Below w.heap.size w w4 := Below.trans (by (repeat' (first | (with_reducible assumption) | (with_reducible exact Below.refl _ _) | (with_reducible refine bdN ?_ _) | (with_reducible refine Below.alloc ?_ ?_ _) | (with_reducible refine Below.drew ?_) | (with_reducible refine Below.setCell ?_ ?_ _) | go_size))) (bw4.mono (by go_size)); have lw4_0 : w.heap.size < w4.heap.size := (by go_size); have zw4_wH : CellsAt w4 (w.heap.size) 0 [.int .i64 y, .int .i64 m, .int .i64 d, .int .i64 h, .int .i64 i, .int .i64 s, .int .i64 u, .int .i64 o] := cells_keep (by (simp only [CellsAt]; (first | (go_simp; done) | ((repeat' (with_reducible refine And.intro ?_ ?_)) <;> (repeat' (first | (with_reducible assumption) | (with_reducible exact trivial) | (with_reducible refine kA _ ?_) | (with_reducible refine kD ?_) | (with_reducible refine kS _ ?_ ?_) | (with_reducible refine fA _ ?_ ?_) | (with_reducible refine fD ?_) | (with_reducible refine fS _ ?_) | go_size | (go_simp; done))))))) (fun o => bw4.cell (p := ⟨_, o, none⟩) (by go_size)) (fun o => bw4.frozen (p := ⟨_, o, none⟩) (by go_size)); have lw4_1 : w.heap.size+1 < w4.heap.size := (by go_size); have zw4_wH1 : CellsAt w4 (w.heap.size+1) 0 [.int .i64 (y'), .int .i64 (m'), .int .i64 (d'), .int .i64 (h'), .int .i64 (i'), .int .i64 (s'), .int .i64 (u'), .int .i64 (o')] := cells_keep (by (simp only [CellsAt]; (first | (go_simp; done) | ((repeat' (with_reducible refine And.intro ?_ ?_)) <;> (repeat' (first | (with_reducible assumption) | (with_reducible exact trivial) | (with_reducible refine kA _ ?_) | (with_reducible refine kD ?_) | (with_reducible refine kS _ ?_ ?_) | (with_reducible refine fA _ ?_ ?_) | (with_reducible refine fD ?_) | (with_reducible refine fS _ ?_) | go_size | (go_simp; done))))))) (fun o => bw4.cell (p := ⟨_, o, none⟩) (by go_size)) (fun o => bw4.frozen (p := ⟨_, o, none⟩) (by go_size)); simp only [CellsAt] at zw4_wH; simp only [CellsAt] at zw4_wH1; clear zw3_wH zw3_wH1; clear bw4)
      )
    all_goals
      go_wp2_with fail
      go_ret
      exact ⟨rfl, by (repeat' (first | (with_reducible assumption) | (with_reducible exact Below.refl _ _) | (with_reducible refine bdN ?_ _) | (with_reducible refine Below.alloc ?_ ?_ _) | (with_reducible refine Below.drew ?_) | (with_reducible refine Below.setCell ?_ ?_ _) | go_size))⟩
theorem SpanLength_s (y m d h i s u o y' m' d' h' i' s' u' o' : Int) (w : World) :
    Calls Tryd.prog 11 #[.agg #[.int .i64 y, .int .i64 m, .int .i64 d, .int .i64 h, .int .i64 i, .int .i64 s, .int .i64 u, .int .i64 o], .agg #[.int .i64 (y'), .int .i64 (m'), .int .i64 (d'), .int .i64 (h'), .int .i64 (i'), .int .i64 (s'), .int .i64 (u'), .int .i64 (o')]] w fun e w' => e = .returned (.int .i64 (slN (svB y m d h i s u o) (svB y' m' d' h' i' s' u' o') (ins y m d h i s u o) (ins y' m' d' h' i' s' u' o'))) ∧ Below w.heap.size w w' := by
  by_cases v : svB y m d h i s u o = true ∧ svB y' m' d' h' i' s' u' o' = true
  · have c := SpanLength_yes_s y m d h i s u o y' m' d' h' i' s' u' o' _ _ w v.1 v.2 rfl rfl
    rw [v.1, v.2]
    exact c
  · have c := SpanLength_no_s y m d h i s u o y' m' d' h' i' s' u' o' w v
    have E : slN (svB y m d h i s u o) (svB y' m' d' h' i' s' u' o') (ins y m d h i s u o) (ins y' m' d' h' i' s' u' o') = -1 := by
      unfold slN
      rw [if_neg (fun c => v ⟨c.1, c.2.1⟩)]
    rw [E]
    exact c
end Go.Proofs.YtlfdcdbgjnkddaaDoor
