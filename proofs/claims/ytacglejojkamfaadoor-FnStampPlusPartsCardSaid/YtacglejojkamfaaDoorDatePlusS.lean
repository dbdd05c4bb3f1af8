/- Contracts of the reference's DatePlus: it gives the same as the program's. No condition. -/
import Derived.Test.YtacglejojkamfaaDoorDatePlus
namespace Go.Proofs.YtacglejojkamfaaDoor
set_option linter.unusedSimpArgs false
set_option linter.unusedVariables false
open Go.RowKit DN

set_option maxHeartbeats 400000 in
theorem l16Sign_any (back : Bool) (w : World) : Calls Tryd.prog 62 #[.bool back] w fun e w' => e = .returned (.int .i64 (sgn back)) ∧ w = w' := by
  cases back
  all_goals
    go_enter Tryd.func62, Tryd.ntmps62
    go_wp2
    go_ret
    exact ⟨rfl, rfl⟩

set_option maxHeartbeats 2000000 in
theorem l16Date_any (sg py po pd pu pi ps : Int) (y m d Y M D : Int) (b : Bool) (w : World)
    (g1 : -1 ≤ sg) (g2 : sg ≤ 1) (p1 : 0 ≤ py) (p2 : py ≤ 9999) (p3 : 0 ≤ po) (p4 : po ≤ 9999) (p5 : 0 ≤ pd) (p6 : pd ≤ 9999) (h : DtIs y m d (sg * (12 * py + po)) (sg * pd) Y M D b) :
    Calls Tryd.prog 61 #[.agg #[.int .i64 y, .int .i64 m, .int .i64 d], .agg #[.int .i64 py, .int .i64 po, .int .i64 pd, .int .i64 pu, .int .i64 pi, .int .i64 ps], .int .i64 sg] w fun e w' =>
      e = .returned (.tuple #[.agg #[.int .i64 Y, .int .i64 M, .int .i64 D], .bool b]) ∧ Below w.heap.size w w' := by
  obtain ⟨X, Z, V, c, hm, hd⟩ := h
  have P1 := Lib.hid (fun w => monthPlus_s y m d (sg * (12 * py + po)) X Z V c w hm)
  clear hm
  have hk : -9999999 ≤ sg * (12 * py + po) ∧ sg * (12 * py + po) ≤ 9999999 := by
    rcases (show sg = -1 ∨ sg = 0 ∨ sg = 1 by omega) with rfl | rfl | rfl <;> omega
  have hw : IntKind.i64.wrap (sg * (12 * py + po)) = sg * (12 * py + po) := IntWalk.i64_in _ (by omega)
  have hk2 : -9999999 ≤ sg * pd ∧ sg * pd ≤ 9999999 := by
    rcases (show sg = -1 ∨ sg = 0 ∨ sg = 1 by omega) with rfl | rfl | rfl <;> omega
  have hw2 : IntKind.i64.wrap (sg * pd) = sg * pd := IntWalk.i64_in _ (by omega)
  rcases hd with ⟨rfl, hd⟩ | ⟨rfl, rfl, rfl, rfl, rfl⟩
  · have P2 := Lib.hid (fun w => dayPlus_s X Z V (sg * pd) Y M D b w hd)
    clear hd
    go_enter Tryd.func61, Tryd.ntmps61
    go_wp2_with fail
    refine (P1.out _).mono ?_
    rintro e w1 ⟨rfl, bw1⟩
    have sw1 := bw1.size
    (try simp at sw1)
    have Aw1 : Below w.heap.size w w1 := Below.trans (by (repeat' (first | (with_reducible assumption) | (with_reducible exact Below.refl _ _) | (with_reducible refine bdN ?_ _) | (with_reducible refine Below.alloc ?_ ?_ _) | (with_reducible refine Below.drew ?_) | (with_reducible refine Below.setCell ?_ ?_ _) | go_size))) (bw1.mono (by go_size))
    have lw1_0 : w.heap.size+1 < w1.heap.size := (by go_size)
    have zw1_wH1 : CellsAt w1 (w.heap.size+1) 0 [.int .i64 py, .int .i64 po, .int .i64 pd, .int .i64 pu, .int .i64 pi, .int .i64 ps] := cells_keep (by (simp only [CellsAt]; (first | (go_simp; done) | ((repeat' (with_reducible refine And.intro ?_ ?_)) <;> (repeat' (first | (with_reducible assumption) | (with_reducible exact trivial) | (with_reducible refine kA _ ?_) | (with_reducible refine kD ?_) | (with_reducible refine kS _ ?_ ?_) | (with_reducible refine fA _ ?_ ?_) | (with_reducible refine fD ?_) | (with_reducible refine fS _ ?_) | go_size | (go_simp; done))))))) (fun o => bw1.cell (p := ⟨_, o, none⟩) (by go_size)) (fun o => bw1.frozen (p := ⟨_, o, none⟩) (by go_size))
    have lw1_1 : w.heap.size+2 < w1.heap.size := (by go_size)
    have zw1_wH2 : CellsAt w1 (w.heap.size+2) 0 [.int .i64 0, .int .i64 0, .int .i64 0] := cells_keep (by (simp only [CellsAt]; (first | (go_simp; done) | ((repeat' (with_reducible refine And.intro ?_ ?_)) <;> (repeat' (first | (with_reducible assumption) | (with_reducible exact trivial) | (with_reducible refine kA _ ?_) | (with_reducible refine kD ?_) | (with_reducible refine kS _ ?_ ?_) | (with_reducible refine fA _ ?_ ?_) | (with_reducible refine fD ?_) | (with_reducible refine fS _ ?_) | go_size | (go_simp; done))))))) (fun o => bw1.cell (p := ⟨_, o, none⟩) (by go_size)) (fun o => bw1.frozen (p := ⟨_, o, none⟩) (by go_size))
    simp only [CellsAt] at zw1_wH1
    simp only [CellsAt] at zw1_wH2
    clear bw1
    go_wp2_with fail
    refine (P2.out _).mono ?_
    rintro e w2 ⟨rfl, bw2⟩
    have sw2 := bw2.size
    (try simp at sw2)
    have Aw2 : Below w.heap.size w w2 := Below.trans (by (repeat' (first | (with_reducible assumption) | (with_reducible exact Below.refl _ _) | (with_reducible refine bdN ?_ _) | (with_reducible refine Below.alloc ?_ ?_ _) | (with_reducible refine Below.drew ?_) | (with_reducible refine Below.setCell ?_ ?_ _) | go_size))) (bw2.mono (by go_size))
    have lw2_0 : w.heap.size+1 < w2.heap.size := (by go_size)
    have zw2_wH1 : CellsAt w2 (w.heap.size+1) 0 [.int .i64 py, .int .i64 po, .int .i64 pd, .int .i64 pu, .int .i64 pi, .int .i64 ps] := cells_keep (by (simp only [CellsAt]; (first | (go_simp; done) | ((repeat' (with_reducible refine And.intro ?_ ?_)) <;> (repeat' (first | (with_reducible assumption) | (with_reducible exact trivial) | (with_reducible refine kA _ ?_) | (with_reducible refine kD ?_) | (with_reducible refine kS _ ?_ ?_) | (with_reducible refine fA _ ?_ ?_) | (with_reducible refine fD ?_) | (with_reducible refine fS _ ?_) | go_size | (go_simp; done))))))) (fun o => bw2.cell (p := ⟨_, o, none⟩) (by go_size)) (fun o => bw2.frozen (p := ⟨_, o, none⟩) (by go_size))
    have lw2_1 : w.heap.size+2 < w2.heap.size := (by go_size)
    have zw2_wH2 : CellsAt w2 (w.heap.size+2) 0 [.int .i64 0, .int .i64 0, .int .i64 0] := cells_keep (by (simp only [CellsAt]; (first | (go_simp; done) | ((repeat' (with_reducible refine And.intro ?_ ?_)) <;> (repeat' (first | (with_reducible assumption) | (with_reducible exact trivial) | (with_reducible refine kA _ ?_) | (with_reducible refine kD ?_) | (with_reducible refine kS _ ?_ ?_) | (with_reducible refine fA _ ?_ ?_) | (with_reducible refine fD ?_) | (with_reducible refine fS _ ?_) | go_size | (go_simp; done))))))) (fun o => bw2.cell (p := ⟨_, o, none⟩) (by go_size)) (fun o => bw2.frozen (p := ⟨_, o, none⟩) (by go_size))
    simp only [CellsAt] at zw2_wH1
    simp only [CellsAt] at zw2_wH2
    clear zw1_wH1 zw1_wH2
    clear bw2
    go_wp2_with fail
    exact bodyPost_ret (v := .tuple #[.agg #[.int .i64 Y, .int .i64 M, .int .i64 D], .bool b]) (by simp [results, Tryd.results61, go_sem, zw2_wH1, zw2_wH2, lw2_0, lw2_1]) rfl ⟨rfl, by (repeat' (first | (with_reducible assumption) | (with_reducible exact Below.refl _ _) | (with_reducible refine bdN ?_ _) | (with_reducible refine Below.alloc ?_ ?_ _) | (with_reducible refine Below.drew ?_) | (with_reducible refine Below.setCell ?_ ?_ _) | go_size))⟩
  · go_enter Tryd.func61, Tryd.ntmps61
    go_wp2_with fail
    refine (P1.out _).mono ?_
    rintro e w1 ⟨rfl, bw1⟩
    have sw1 := bw1.size
    (try simp at sw1)
    have Aw1 : Below w.heap.size w w1 := Below.trans (by (repeat' (first | (with_reducible assumption) | (with_reducible exact Below.refl _ _) | (with_reducible refine bdN ?_ _) | (with_reducible refine Below.alloc ?_ ?_ _) | (with_reducible refine Below.drew ?_) | (with_reducible refine Below.setCell ?_ ?_ _) | go_size))) (bw1.mono (by go_size))
    have lw1_0 : w.heap.size+2 < w1.heap.size := (by go_size)
    have zw1_wH2 : CellsAt w1 (w.heap.size+2) 0 [.int .i64 0, .int .i64 0, .int .i64 0] := cells_keep (by (simp only [CellsAt]; (first | (go_simp; done) | ((repeat' (with_reducible refine And.intro ?_ ?_)) <;> (repeat' (first | (with_reducible assumption) | (with_reducible exact trivial) | (with_reducible refine kA _ ?_) | (with_reducible refine kD ?_) | (with_reducible refine kS _ ?_ ?_) | (with_reducible refine fA _ ?_ ?_) | (with_reducible refine fD ?_) | (with_reducible refine fS _ ?_) | go_size | (go_simp; done))))))) (fun o => bw1.cell (p := ⟨_, o, none⟩) (by go_size)) (fun o => bw1.frozen (p := ⟨_, o, none⟩) (by go_size))
    simp only [CellsAt] at zw1_wH2
    clear bw1
    go_wp2_with fail
    exact bodyPost_ret (v := .tuple #[.agg #[.int .i64 0, .int .i64 0, .int .i64 0], .bool false]) (by simp [results, Tryd.results61, go_sem, zw1_wH2, lw1_0]) rfl ⟨rfl, by (repeat' (first | (with_reducible assumption) | (with_reducible exact Below.refl _ _) | (with_reducible refine bdN ?_ _) | (with_reducible refine Below.alloc ?_ ?_ _) | (with_reducible refine Below.drew ?_) | (with_reducible refine Below.setCell ?_ ?_ _) | go_size))⟩

end Go.Proofs.YtacglejojkamfaaDoor
