/- Contracts of the laws' helpers on stamps: the copy from the laws' type to the program's; the comparison of two. No condition. -/
import Derived.Test.YtfailbghnpfcdaaDoorToDate
import Derived.Test.YtfailbghnpfcdaaDoorSeal
namespace Go.Proofs.YtfailbghnpfcdaaDoor
set_option linter.unusedSimpArgs false
set_option linter.unusedVariables false
open Go.RowKit

set_option maxHeartbeats 1000000 in
theorem toClock_any (h i s u : Int) (w : World) : Calls Tryd.prog 36 #[.agg #[.int .i64 h, .int .i64 i, .int .i64 s, .int .i64 u]] w fun e w' => e = .returned (.agg #[.int .i64 h, .int .i64 i, .int .i64 s, .int .i64 u]) ∧ Below w.heap.size w w' := by
  go_enter Tryd.func36, Tryd.ntmps36
  go_wp2
  go_returns
  exact ⟨rfl, by (repeat' (first | (with_reducible assumption) | (with_reducible exact Below.refl _ _) | (with_reducible refine bdN ?_ _) | (with_reducible refine Below.alloc ?_ ?_ _) | (with_reducible refine Below.drew ?_) | (with_reducible refine Below.setCell ?_ ?_ _) | go_size))⟩

set_option maxHeartbeats 2000000 in
theorem toStamp_any (y m d h i s u o : Int) (w : World) : Calls Tryd.prog 15 #[.agg #[.int .i64 y, .int .i64 m, .int .i64 d, .int .i64 h, .int .i64 i, .int .i64 s, .int .i64 u, .int .i64 o]] w fun e w' => e = .returned (.agg #[.int .i64 y, .int .i64 m, .int .i64 d, .int .i64 h, .int .i64 i, .int .i64 s, .int .i64 u, .int .i64 o]) ∧ Below w.heap.size w w' := by
  go_enter Tryd.func15, Tryd.ntmps15
  go_wp2_with fail
  refine (toDate_any _ _ _ _).mono ?_
  rintro e w1 ⟨rfl, bw1⟩
  have sw1 := bw1.size
  (try simp at sw1)
  have Aw1 : Below w.heap.size w w1 := Below.trans (by (repeat' (first | (with_reducible assumption) | (with_reducible exact Below.refl _ _) | (with_reducible refine bdN ?_ _) | (with_reducible refine Below.alloc ?_ ?_ _) | (with_reducible refine Below.drew ?_) | (with_reducible refine Below.setCell ?_ ?_ _) | go_size))) (bw1.mono (by go_size))
  have lw1_0 : w.heap.size < w1.heap.size := (by go_size)
  have zw1_wH : CellsAt w1 (w.heap.size) 0 [.int .i64 y, .int .i64 m, .int .i64 d, .int .i64 h, .int .i64 i, .int .i64 s, .int .i64 u, .int .i64 o] := cells_keep (by (simp only [CellsAt]; (first | (go_simp; done) | ((repeat' (with_reducible refine And.intro ?_ ?_)) <;> (repeat' (first | (with_reducible assumption) | (with_reducible exact trivial) | (with_reducible refine kA _ ?_) | (with_reducible refine kD ?_) | (with_reducible refine kS _ ?_ ?_) | (with_reducible refine fA _ ?_ ?_) | (with_reducible refine fD ?_) | (with_reducible refine fS _ ?_) | go_size | (go_simp; done))))))) (fun o => bw1.cell (p := ⟨_, o, none⟩) (by go_size)) (fun o => bw1.frozen (p := ⟨_, o, none⟩) (by go_size))
  have lw1_1 : w.heap.size+1 < w1.heap.size := (by go_size)
  have zw1_wH1 : CellsAt w1 (w.heap.size+1) 0 [.int .i64 0, .int .i64 0, .int .i64 0, .int .i64 0, .int .i64 0, .int .i64 0, .int .i64 0, .int .i64 0] := cells_keep (by (simp only [CellsAt]; (first | (go_simp; done) | ((repeat' (with_reducible refine And.intro ?_ ?_)) <;> (repeat' (first | (with_reducible assumption) | (with_reducible exact trivial) | (with_reducible refine kA _ ?_) | (with_reducible refine kD ?_) | (with_reducible refine kS _ ?_ ?_) | (with_reducible refine fA _ ?_ ?_) | (with_reducible refine fD ?_) | (with_reducible refine fS _ ?_) | go_size | (go_simp; done))))))) (fun o => bw1.cell (p := ⟨_, o, none⟩) (by go_size)) (fun o => bw1.frozen (p := ⟨_, o, none⟩) (by go_size))
  have lw1_2 : w.heap.size+2 < w1.heap.size := (by go_size)
  have zw1_wH2 : CellsAt w1 (w.heap.size+2) 0 [.int .i64 0, .int .i64 0, .int .i64 0, .int .i64 0, .int .i64 0, .int .i64 0, .int .i64 0, .int .i64 0] := cells_keep (by (simp only [CellsAt]; (first | (go_simp; done) | ((repeat' (with_reducible refine And.intro ?_ ?_)) <;> (repeat' (first | (with_reducible assumption) | (with_reducible exact trivial) | (with_reducible refine kA _ ?_) | (with_reducible refine kD ?_) | (with_reducible refine kS _ ?_ ?_) | (with_reducible refine fA _ ?_ ?_) | (with_reducible refine fD ?_) | (with_reducible refine fS _ ?_) | go_size | (go_simp; done))))))) (fun o => bw1.cell (p := ⟨_, o, none⟩) (by go_size)) (fun o => bw1.frozen (p := ⟨_, o, none⟩) (by go_size))
  simp only [CellsAt] at zw1_wH
  simp only [CellsAt] at zw1_wH1
  simp only [CellsAt] at zw1_wH2
  clear bw1
  go_wp2_with fail
  refine (toClock_any _ _ _ _ _).mono ?_
  rintro e w2 ⟨rfl, bw2⟩
  have sw2 := bw2.size
  (try simp at sw2)
  have Aw2 : Below w.heap.size w w2 := Below.trans (by (repeat' (first | (with_reducible assumption) | (with_reducible exact Below.refl _ _) | (with_reducible refine bdN ?_ _) | (with_reducible refine Below.alloc ?_ ?_ _) | (with_reducible refine Below.drew ?_) | (with_reducible refine Below.setCell ?_ ?_ _) | go_size))) (bw2.mono (by go_size))
  have lw2_0 : w.heap.size < w2.heap.size := (by go_size)
  have zw2_wH : CellsAt w2 (w.heap.size) 0 [.int .i64 y, .int .i64 m, .int .i64 d, .int .i64 h, .int .i64 i, .int .i64 s, .int .i64 u, .int .i64 o] := cells_keep (by (simp only [CellsAt]; (first | (go_simp; done) | ((repeat' (with_reducible refine And.intro ?_ ?_)) <;> (repeat' (first | (with_reducible assumption) | (with_reducible exact trivial) | (with_reducible refine kA _ ?_) | (with_reducible refine kD ?_) | (with_reducible refine kS _ ?_ ?_) | (with_reducible refine fA _ ?_ ?_) | (with_reducible refine fD ?_) | (with_reducible refine fS _ ?_) | go_size | (go_simp; done))))))) (fun o => bw2.cell (p := ⟨_, o, none⟩) (by go_size)) (fun o => bw2.frozen (p := ⟨_, o, none⟩) (by go_size))
  have lw2_1 : w.heap.size+1 < w2.heap.size := (by go_size)
  have zw2_wH1 : CellsAt w2 (w.heap.size+1) 0 [.int .i64 0, .int .i64 0, .int .i64 0, .int .i64 0, .int .i64 0, .int .i64 0, .int .i64 0, .int .i64 0] := cells_keep (by (simp only [CellsAt]; (first | (go_simp; done) | ((repeat' (with_reducible refine And.intro ?_ ?_)) <;> (repeat' (first | (with_reducible assumption) | (with_reducible exact trivial) | (with_reducible refine kA _ ?_) | (with_reducible refine kD ?_) | (with_reducible refine kS _ ?_ ?_) | (with_reducible refine fA _ ?_ ?_) | (with_reducible refine fD ?_) | (with_reducible refine fS _ ?_) | go_size | (go_simp; done))))))) (fun o => bw2.cell (p := ⟨_, o, none⟩) (by go_size)) (fun o => bw2.frozen (p := ⟨_, o, none⟩) (by go_size))
  have lw2_2 : w.heap.size+2 < w2.heap.size := (by go_size)
  have zw2_wH2 : CellsAt w2 (w.heap.size+2) 0 [.int .i64 y, .int .i64 m, .int .i64 d, .int .i64 0, .int .i64 0, .int .i64 0, .int .i64 0, .int .i64 0] := cells_keep (by (simp only [CellsAt]; (first | (go_simp; done) | ((repeat' (with_reducible refine And.intro ?_ ?_)) <;> (repeat' (first | (with_reducible assumption) | (with_reducible exact trivial) | (with_reducible refine kA _ ?_) | (with_reducible refine kD ?_) | (with_reducible refine kS _ ?_ ?_) | (with_reducible refine fA _ ?_ ?_) | (with_reducible refine fD ?_) | (with_reducible refine fS _ ?_) | go_size | (go_simp; done))))))) (fun o => bw2.cell (p := ⟨_, o, none⟩) (by go_size)) (fun o => bw2.frozen (p := ⟨_, o, none⟩) (by go_size))
  simp only [CellsAt] at zw2_wH
  simp only [CellsAt] at zw2_wH1
  simp only [CellsAt] at zw2_wH2
  clear zw1_wH zw1_wH1 zw1_wH2
  clear bw2
  go_upto_region 5 with fail
  first | refine seal_wp ?_ | refine seal_calls ?_ | refine seal_post ?_
  intro w3 hww3
  have sw3 := congrArg (fun x : World => x.heap.size) hww3
  (try simp at sw3)
  have Aw3 : Below w.heap.size w w3 := by rw [hww3]; (repeat' (first | (with_reducible assumption) | (with_reducible exact Below.refl _ _) | (with_reducible refine bdN ?_ _) | (with_reducible refine Below.alloc ?_ ?_ _) | (with_reducible refine Below.drew ?_) | (with_reducible refine Below.setCell ?_ ?_ _) | go_size))
  have lw3_0 : w.heap.size < w3.heap.size := (by go_size)
  have zw3_wH : CellsAt w3 (w.heap.size) 0 [.int .i64 y, .int .i64 m, .int .i64 d, .int .i64 h, .int .i64 i, .int .i64 s, .int .i64 u, .int .i64 o] := by rw [hww3]; (simp only [CellsAt]; (first | (go_simp; done) | ((repeat' (with_reducible refine And.intro ?_ ?_)) <;> (repeat' (first | (with_reducible assumption) | (with_reducible exact trivial) | (with_reducible refine kA _ ?_) | (with_reducible refine kD ?_) | (with_reducible refine kS _ ?_ ?_) | (with_reducible refine fA _ ?_ ?_) | (with_reducible refine fD ?_) | (with_reducible refine fS _ ?_) | go_size | (go_simp; done))))))
  have lw3_1 : w.heap.size+1 < w3.heap.size := (by go_size)
  have zw3_wH1 : CellsAt w3 (w.heap.size+1) 0 [.int .i64 0, .int .i64 0, .int .i64 0, .int .i64 0, .int .i64 0, .int .i64 0, .int .i64 0, .int .i64 0] := by rw [hww3]; (simp only [CellsAt]; (first | (go_simp; done) | ((repeat' (with_reducible refine And.intro ?_ ?_)) <;> (repeat' (first | (with_reducible assumption) | (with_reducible exact trivial) | (with_reducible refine kA _ ?_) | (with_reducible refine kD ?_) | (with_reducible refine kS _ ?_ ?_) | (with_reducible refine fA _ ?_ ?_) | (with_reducible refine fD ?_) | (with_reducible refine fS _ ?_) | go_size | (go_simp; done))))))
  have lw3_2 : w.heap.size+2 < w3.heap.size := (by go_size)
  have zw3_wH2 : CellsAt w3 (w.heap.size+2) 0 [.int .i64 y, .int .i64 m, .int .i64 d, .int .i64 h, .int .i64 i, .int .i64 s, .int .i64 u, .int .i64 o] := by rw [hww3]; (simp only [CellsAt]; (first | (go_simp; done) | ((repeat' (with_reducible refine And.intro ?_ ?_)) <;> (repeat' (first | (with_reducible assumption) | (with_reducible exact trivial) | (with_reducible refine kA _ ?_) | (with_reducible refine kD ?_) | (with_reducible refine kS _ ?_ ?_) | (with_reducible refine fA _ ?_ ?_) | (with_reducible refine fD ?_) | (with_reducible refine fS _ ?_) | go_size | (go_simp; done))))))
  simp only [CellsAt] at zw3_wH
  simp only [CellsAt] at zw3_wH1
  simp only [CellsAt] at zw3_wH2
  clear zw2_wH zw2_wH1 zw2_wH2
  clear hww3
  go_wp2_with fail
  exact bodyPost_ret (v := .agg #[.int .i64 y, .int .i64 m, .int .i64 d, .int .i64 h, .int .i64 i, .int .i64 s, .int .i64 u, .int .i64 o]) (by simp [results, Tryd.results15, go_sem, zw3_wH, zw3_wH1, zw3_wH2, lw3_0, lw3_1, lw3_2]) rfl ⟨rfl, by (repeat' (first | (with_reducible assumption) | (with_reducible exact Below.refl _ _) | (with_reducible refine bdN ?_ _) | (with_reducible refine Below.alloc ?_ ?_ _) | (with_reducible refine Below.drew ?_) | (with_reducible refine Below.setCell ?_ ?_ _) | go_size))⟩


end Go.Proofs.YtfailbghnpfcdaaDoor
