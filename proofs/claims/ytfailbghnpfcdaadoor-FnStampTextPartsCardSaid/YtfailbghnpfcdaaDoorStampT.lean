/- Contracts of the text of a stamp, by the program and by the reference. Condition: the program's table of the months' days stands in memory ('Tab'). -/
import Derived.Test.YtfailbghnpfcdaaDoorClockT
import Derived.Test.YtfailbghnpfcdaaDoorDateB
import Derived.Test.YtfailbghnpfcdaaDoorStamp
namespace Go.Proofs.YtfailbghnpfcdaaDoor
set_option linter.unusedSimpArgs false
set_option linter.unusedVariables false
open Go.RowKit DN

/-- the text of a stamp -/
def stS (y m d h i s u o : Int) : ByteArray := ((jn3 true (dgS 4 y) (dgS 2 m) (dgS 2 d) ++ ⟨#[84]⟩) ++ ckS h i s u) ++ offS o
/-- the text of a stamp, or nothing -/
def stT (y m d h i s u o : Int) : ByteArray := if svB y m d h i s u o = true then stS y m d h i s u o else ⟨#[]⟩
theorem jn3_size (y m d : Int) : (jn3 true (dgS 4 y) (dgS 2 m) (dgS 2 d)).size = 10 := by simp only [jn3, if_true, ByteArray.size_append, dgS_size]; rfl
theorem offS_le (o : Int) : (offS o).size ≤ 6 := by
  unfold offS
  split
  · decide
  · split
    · simp only [ByteArray.size_append, dgS_size]; decide
    · split
      · simp only [ByteArray.size_append, dgS_size]; decide
      · decide
set_option maxHeartbeats 4000000 in
theorem StampText_i (y m d h i s u o : Int) (w : World) (T : Tab w) : Calls Tryd.prog 16 #[.agg #[.int .i64 y, .int .i64 m, .int .i64 d, .int .i64 h, .int .i64 i, .int .i64 s, .int .i64 u, .int .i64 o]] w fun e w' => e = .returned (.string (stT y m d h i s u o)) ∧ Below w.heap.size w w' := by
  have T0 := Lib.hid T
  clear T
  by_cases hv : svB y m d h i s u o = true
  · have E := Lib.hid (show stT y m d h i s u o = stS y m d h i s u o from if_pos hv)
    have V := Lib.hid (fun w T => sv_ib y m d h i s u o w T true hv)
    obtain ⟨v1, v2, v3, v4⟩ := svB_iff.1 hv
    have D := Lib.hid (fun w => dateText_m y m d true w v1)
    have C := Lib.hid (fun w => ClockText_i h i s u v2 w)
    have O := Lib.hid (fun w => OffsetText_i o w)
    have z1 := jn3_size y m d
    have z2 := ckS_size h i s u
    have z3 := offS_le o
    have HS := Lib.hid (show stS y m d h i s u o = ((jn3 true (dgS 4 y) (dgS 2 m) (dgS 2 d) ++ ⟨#[84]⟩) ++ ckS h i s u) ++ offS o from rfl)
    clear hv v1 v2 v3 v4
    generalize jn3 true (dgS 4 y) (dgS 2 m) (dgS 2 d) = s1 at *
    generalize ckS h i s u = s2 at *
    generalize offS o = s3 at *
    have h1' := fun wx => add_ok (P := Tryd.prog) s1 ⟨#[84]⟩ 10 1 (by omega) (by decide) (by omega) wx
    have h2' := fun wx => add_ok (P := Tryd.prog) (s1 ++ ⟨#[84]⟩) s2 11 12 (by rw [ByteArray.size_append, z1]; decide) z2 (by omega) wx
    have h3' := fun wx => add_ok (P := Tryd.prog) ((s1 ++ ⟨#[84]⟩) ++ s2) s3 23 6 (by rw [ByteArray.size_append, ByteArray.size_append, z1]; have : (ByteArray.mk #[84]).size = 1 := rfl; omega) z3 (by omega) wx
    go_enter Tryd.func16, Tryd.ntmps16
    go_wp2_with fail
    refine (V.out _ (by (repeat' (first | (with_reducible exact T0.out) | (with_reducible assumption) | (with_reducible refine tab_alloc ?_ _) | (with_reducible refine tab_drewN ?_ _) | (with_reducible refine tab_drew ?_) | (with_reducible refine tab_set ?_ ?_ _) | go_size)))).mono ?_
    rintro e w1 ⟨rfl, bw1⟩
    have sw1 := bw1.size
    (try simp at sw1)
    have Aw1 : Below w.heap.size w w1 := Below.trans (by (repeat' (first | (with_reducible assumption) | (with_reducible exact Below.refl _ _) | (with_reducible refine bdN ?_ _) | (with_reducible refine Below.alloc ?_ ?_ _) | (with_reducible refine Below.drew ?_) | (with_reducible refine Below.setCell ?_ ?_ _) | go_size))) (bw1.mono (by go_size))
    have Tw1 := Lib.hid (tab_keep (by (repeat' (first | (with_reducible exact T0.out) | (with_reducible assumption) | (with_reducible refine tab_alloc ?_ _) | (with_reducible refine tab_drewN ?_ _) | (with_reducible refine tab_drew ?_) | (with_reducible refine tab_set ?_ ?_ _) | go_size))) bw1)
    have lw1_0 : w.heap.size < w1.heap.size := (by go_size)
    have zw1_wH : CellsAt w1 (w.heap.size) 0 [.int .i64 y, .int .i64 m, .int .i64 d, .int .i64 h, .int .i64 i, .int .i64 s, .int .i64 u, .int .i64 o] := cells_keep (by (simp only [CellsAt]; (first | (go_simp; done) | ((repeat' (with_reducible refine And.intro ?_ ?_)) <;> (repeat' (first | (with_reducible assumption) | (with_reducible exact trivial) | (with_reducible refine kA _ ?_) | (with_reducible refine kD ?_) | (with_reducible refine kS _ ?_ ?_) | (with_reducible refine fA _ ?_ ?_) | (with_reducible refine fD ?_) | (with_reducible refine fS _ ?_) | go_size | (go_simp; done))))))) (fun o => bw1.cell (p := ⟨_, o, none⟩) (by go_size)) (fun o => bw1.frozen (p := ⟨_, o, none⟩) (by go_size))
    simp only [CellsAt] at zw1_wH
    clear bw1
    go_wp2_with fail
    go_region_held3 (fun w' => w'.cell? ⟨w.heap.size, 0, none⟩ = some (.int .i64 y) ∧ w'.cell? ⟨w.heap.size, 1, none⟩ = some (.int .i64 m) ∧ w'.cell? ⟨w.heap.size, 2, none⟩ = some (.int .i64 d) ∧ w'.cell? ⟨w.heap.size, 3, none⟩ = some (.int .i64 h) ∧ w'.cell? ⟨w.heap.size, 4, none⟩ = some (.int .i64 i) ∧ w'.cell? ⟨w.heap.size, 5, none⟩ = some (.int .i64 s) ∧ w'.cell? ⟨w.heap.size, 6, none⟩ = some (.int .i64 u) ∧ w'.cell? ⟨w.heap.size, 7, none⟩ = some (.int .i64 o)) (((repeat' (with_reducible refine And.intro ?_ ?_)) <;> (first | (with_reducible assumption) | (go_simp; done) | (repeat' (first | (with_reducible assumption) | (with_reducible refine kA _ ?_) | (with_reducible refine kD ?_) | (with_reducible refine kS _ ?_ ?_) | go_size | (go_simp; done))))))
      (first
        | (go_at_call 27; (with_reducible refine (D.out _).mono ?_); rintro e w2 ⟨rfl, bw2⟩; have sw2 := bw2.size; (try simp at sw2); have Aw2 : Below w.heap.size w w2 := Below.trans (by (repeat' (first | (with_reducible assumption) | (with_reducible exact Below.refl _ _) | (with_reducible refine bdN ?_ _) | (with_reducible refine Below.alloc ?_ ?_ _) | (with_reducible refine Below.drew ?_) | (with_reducible refine Below.setCell ?_ ?_ _) | go_size))) (bw2.mono (by go_size)); have Tw2 := Lib.hid (tab_keep (by (repeat' (first | (with_reducible exact Tw1.out) | (with_reducible assumption) | (with_reducible refine tab_alloc ?_ _) | (with_reducible refine tab_drewN ?_ _) | (with_reducible refine tab_drew ?_) | (with_reducible refine tab_set ?_ ?_ _) | go_size))) bw2); have lw2_0 : w.heap.size < w2.heap.size := (by go_size); have zw2_wH : CellsAt w2 (w.heap.size) 0 [.int .i64 y, .int .i64 m, .int .i64 d, .int .i64 h, .int .i64 i, .int .i64 s, .int .i64 u, .int .i64 o] := cells_keep (by (simp only [CellsAt]; (first | (go_simp; done) | ((repeat' (with_reducible refine And.intro ?_ ?_)) <;> (repeat' (first | (with_reducible assumption) | (with_reducible exact trivial) | (with_reducible refine kA _ ?_) | (with_reducible refine kD ?_) | (with_reducible refine kS _ ?_ ?_) | (with_reducible refine fA _ ?_ ?_) | (with_reducible refine fD ?_) | (with_reducible refine fS _ ?_) | go_size | (go_simp; done))))))) (fun o => bw2.cell (p := ⟨_, o, none⟩) (by go_size)) (fun o => bw2.frozen (p := ⟨_, o, none⟩) (by go_size)); simp only [CellsAt] at zw2_wH; clear zw1_wH; clear bw2)
        | (go_at_call 18; (with_reducible refine (C.out _).mono ?_); rintro e w3 ⟨rfl, bw3⟩; have sw3 := bw3.size; (try simp at sw3); have Aw3 : Below w.heap.size w w3 := Below.trans (by (repeat' (first | (with_reducible assumption) | (with_reducible exact Below.refl _ _) | (with_reducible refine bdN ?_ _) | (with_reducible refine Below.alloc ?_ ?_ _) | (with_reducible refine Below.drew ?_) | (with_reducible refine Below.setCell ?_ ?_ _) | go_size))) (bw3.mono (by go_size)); have Tw3 := Lib.hid (tab_keep (by (repeat' (first | (with_reducible exact Tw2.out) | (with_reducible assumption) | (with_reducible refine tab_alloc ?_ _) | (with_reducible refine tab_drewN ?_ _) | (with_reducible refine tab_drew ?_) | (with_reducible refine tab_set ?_ ?_ _) | go_size))) bw3); have lw3_0 : w.heap.size < w3.heap.size := (by go_size); have zw3_wH : CellsAt w3 (w.heap.size) 0 [.int .i64 y, .int .i64 m, .int .i64 d, .int .i64 h, .int .i64 i, .int .i64 s, .int .i64 u, .int .i64 o] := cells_keep (by (simp only [CellsAt]; (first | (go_simp; done) | ((repeat' (with_reducible refine And.intro ?_ ?_)) <;> (repeat' (first | (with_reducible assumption) | (with_reducible exact trivial) | (with_reducible refine kA _ ?_) | (with_reducible refine kD ?_) | (with_reducible refine kS _ ?_ ?_) | (with_reducible refine fA _ ?_ ?_) | (with_reducible refine fD ?_) | (with_reducible refine fS _ ?_) | go_size | (go_simp; done))))))) (fun o => bw3.cell (p := ⟨_, o, none⟩) (by go_size)) (fun o => bw3.frozen (p := ⟨_, o, none⟩) (by go_size)); simp only [CellsAt] at zw3_wH; clear zw2_wH; clear bw3)
        | (go_at_call 19; (with_reducible refine (O.out _).mono ?_); rintro e w4 ⟨rfl, bw4⟩; have sw4 := bw4.size; (try simp at sw4); have Aw4 : Below w.heap.size w w4 := Below.trans (by (repeat' (first | (with_reducible assumption) | (with_reducible exact Below.refl _ _) | (with_reducible refine bdN ?_ _) | (with_reducible refine Below.alloc ?_ ?_ _) | (with_reducible refine Below.drew ?_) | (with_reducible refine Below.setCell ?_ ?_ _) | go_size))) (bw4.mono (by go_size)); have Tw4 := Lib.hid (tab_keep (by (repeat' (first | (with_reducible exact Tw3.out) | (with_reducible assumption) | (with_reducible refine tab_alloc ?_ _) | (with_reducible refine tab_drewN ?_ _) | (with_reducible refine tab_drew ?_) | (with_reducible refine tab_set ?_ ?_ _) | go_size))) bw4); have lw4_0 : w.heap.size < w4.heap.size := (by go_size); have zw4_wH : CellsAt w4 (w.heap.size) 0 [.int .i64 y, .int .i64 m, .int .i64 d, .int .i64 h, .int .i64 i, .int .i64 s, .int .i64 u, .int .i64 o] := cells_keep (by (simp only [CellsAt]; (first | (go_simp; done) | ((repeat' (with_reducible refine And.intro ?_ ?_)) <;> (repeat' (first | (with_reducible assumption) | (with_reducible exact trivial) | (with_reducible refine kA _ ?_) | (with_reducible refine kD ?_) | (with_reducible refine kS _ ?_ ?_) | (with_reducible refine fA _ ?_ ?_) | (with_reducible refine fD ?_) | (with_reducible refine fS _ ?_) | go_size | (go_simp; done))))))) (fun o => bw4.cell (p := ⟨_, o, none⟩) (by go_size)) (fun o => bw4.frozen (p := ⟨_, o, none⟩) (by go_size)); simp only [CellsAt] at zw4_wH; clear zw3_wH; clear bw4)
      )
    all_goals
      go_wp2_with fail
      go_ret
      exact ⟨ret_str (by rw [E.out, HS.out]), by (repeat' (first | (with_reducible assumption) | (with_reducible exact Below.refl _ _) | (with_reducible refine bdN ?_ _) | (with_reducible refine Below.alloc ?_ ?_ _) | (with_reducible refine Below.drew ?_) | (with_reducible refine Below.setCell ?_ ?_ _) | go_size))⟩
  · have hv' : svB y m d h i s u o = false := by simpa using hv
    have E := Lib.hid (show stT y m d h i s u o = ⟨#[]⟩ from if_neg hv)
    have V := Lib.hid (fun w T => sv_ib y m d h i s u o w T false hv')
    clear hv hv'
    go_enter Tryd.func16, Tryd.ntmps16
    go_wp2_with fail
    refine (V.out _ (by (repeat' (first | (with_reducible exact T0.out) | (with_reducible assumption) | (with_reducible refine tab_alloc ?_ _) | (with_reducible refine tab_drewN ?_ _) | (with_reducible refine tab_drew ?_) | (with_reducible refine tab_set ?_ ?_ _) | go_size)))).mono ?_
    rintro e w1 ⟨rfl, bw1⟩
    have sw1 := bw1.size
    (try simp at sw1)
    have Aw1 : Below w.heap.size w w1 := Below.trans (by (repeat' (first | (with_reducible assumption) | (with_reducible exact Below.refl _ _) | (with_reducible refine bdN ?_ _) | (with_reducible refine Below.alloc ?_ ?_ _) | (with_reducible refine Below.drew ?_) | (with_reducible refine Below.setCell ?_ ?_ _) | go_size))) (bw1.mono (by go_size))
    have Tw1 := Lib.hid (tab_keep (by (repeat' (first | (with_reducible exact T0.out) | (with_reducible assumption) | (with_reducible refine tab_alloc ?_ _) | (with_reducible refine tab_drewN ?_ _) | (with_reducible refine tab_drew ?_) | (with_reducible refine tab_set ?_ ?_ _) | go_size))) bw1)
    clear bw1
    go_wp2_with fail
    go_ret
    exact ⟨ret_str E.out.symm, by (repeat' (first | (with_reducible assumption) | (with_reducible exact Below.refl _ _) | (with_reducible refine bdN ?_ _) | (with_reducible refine Below.alloc ?_ ?_ _) | (with_reducible refine Below.drew ?_) | (with_reducible refine Below.setCell ?_ ?_ _) | go_size))⟩
set_option maxHeartbeats 4000000 in
theorem l13Text_s (y m d h i s u o : Int) (hv : svB y m d h i s u o = true) (w : World) : Calls Tryd.prog 35 #[.agg #[.int .i64 y, .int .i64 m, .int .i64 d, .int .i64 h, .int .i64 i, .int .i64 s, .int .i64 u, .int .i64 o]] w fun e w' => e = .returned (.string (stS y m d h i s u o)) ∧ Below w.heap.size w w' := by
  obtain ⟨v1, v2, v3, v4⟩ := svB_iff.1 hv
  have D := Lib.hid (dtS_0 y m d true v1)
  have C := Lib.hid (fun w => l5Text_s h i s u v2 w)
  have O := Lib.hid (fun w => OffsetText_s o w)
  have z1 := jn3_size y m d
  have z2 := ckS_size h i s u
  have z3 := offS_le o
  have HS := Lib.hid (show stS y m d h i s u o = ((jn3 true (dgS 4 y) (dgS 2 m) (dgS 2 d) ++ ⟨#[84]⟩) ++ ckS h i s u) ++ offS o from rfl)
  clear hv v1 v2 v3 v4
  generalize jn3 true (dgS 4 y) (dgS 2 m) (dgS 2 d) = s1 at *
  generalize ckS h i s u = s2 at *
  generalize offS o = s3 at *
  have h1' := fun wx => add_ok (P := Tryd.prog) s1 ⟨#[84]⟩ 10 1 (by omega) (by decide) (by omega) wx
  have h2' := fun wx => add_ok (P := Tryd.prog) (s1 ++ ⟨#[84]⟩) s2 11 12 (by rw [ByteArray.size_append, z1]; decide) z2 (by omega) wx
  have h3' := fun wx => add_ok (P := Tryd.prog) ((s1 ++ ⟨#[84]⟩) ++ s2) s3 23 6 (by rw [ByteArray.size_append, ByteArray.size_append, z1]; have : (ByteArray.mk #[84]).size = 1 := rfl; omega) z3 (by omega) wx
  go_enter Tryd.func35, Tryd.ntmps35
  go_wp2_with fail
  refine (D.out _).mono ?_
  rintro e w1 ⟨rfl, bw1⟩
  have sw1 := bw1.size
  (try simp at sw1)
  have Aw1 : Below w.heap.size w w1 := Below.trans (by (repeat' (first | (with_reducible assumption) | (with_reducible exact Below.refl _ _) | (with_reducible refine bdN ?_ _) | (with_reducible refine Below.alloc ?_ ?_ _) | (with_reducible refine Below.drew ?_) | (with_reducible refine Below.setCell ?_ ?_ _) | go_size))) (bw1.mono (by go_size))
  have lw1_0 : w.heap.size < w1.heap.size := (by go_size)
  have zw1_wH : CellsAt w1 (w.heap.size) 0 [.int .i64 y, .int .i64 m, .int .i64 d, .int .i64 h, .int .i64 i, .int .i64 s, .int .i64 u, .int .i64 o] := cells_keep (by (simp only [CellsAt]; (first | (go_simp; done) | ((repeat' (with_reducible refine And.intro ?_ ?_)) <;> (repeat' (first | (with_reducible assumption) | (with_reducible exact trivial) | (with_reducible refine kA _ ?_) | (with_reducible refine kD ?_) | (with_reducible refine kS _ ?_ ?_) | (with_reducible refine fA _ ?_ ?_) | (with_reducible refine fD ?_) | (with_reducible refine fS _ ?_) | go_size | (go_simp; done))))))) (fun o => bw1.cell (p := ⟨_, o, none⟩) (by go_size)) (fun o => bw1.frozen (p := ⟨_, o, none⟩) (by go_size))
  simp only [CellsAt] at zw1_wH
  clear bw1
  go_wp2_with fail
  go_region_held3 (fun w' => w'.cell? ⟨w.heap.size, 0, none⟩ = some (.int .i64 y) ∧ w'.cell? ⟨w.heap.size, 1, none⟩ = some (.int .i64 m) ∧ w'.cell? ⟨w.heap.size, 2, none⟩ = some (.int .i64 d) ∧ w'.cell? ⟨w.heap.size, 3, none⟩ = some (.int .i64 h) ∧ w'.cell? ⟨w.heap.size, 4, none⟩ = some (.int .i64 i) ∧ w'.cell? ⟨w.heap.size, 5, none⟩ = some (.int .i64 s) ∧ w'.cell? ⟨w.heap.size, 6, none⟩ = some (.int .i64 u) ∧ w'.cell? ⟨w.heap.size, 7, none⟩ = some (.int .i64 o)) (((repeat' (with_reducible refine And.intro ?_ ?_)) <;> (first | (with_reducible assumption) | (go_simp; done) | (repeat' (first | (with_reducible assumption) | (with_reducible refine kA _ ?_) | (with_reducible refine kD ?_) | (with_reducible refine kS _ ?_ ?_) | go_size | (go_simp; done))))))
    (first
      | (go_at_call 56; (with_reducible refine (C.out _).mono ?_); rintro e w3 ⟨rfl, bw3⟩; have sw3 := bw3.size; (try simp at sw3); have Aw3 : Below w.heap.size w w3 := Below.trans (by (repeat' (first | (with_reducible assumption) | (with_reducible exact Below.refl _ _) | (with_reducible refine bdN ?_ _) | (with_reducible refine Below.alloc ?_ ?_ _) | (with_reducible refine Below.drew ?_) | (with_reducible refine Below.setCell ?_ ?_ _) | go_size))) (bw3.mono (by go_size)); have lw3_0 : w.heap.size < w3.heap.size := (by go_size); have zw3_wH : CellsAt w3 (w.heap.size) 0 [.int .i64 y, .int .i64 m, .int .i64 d, .int .i64 h, .int .i64 i, .int .i64 s, .int .i64 u, .int .i64 o] := cells_keep (by (simp only [CellsAt]; (first | (go_simp; done) | ((repeat' (with_reducible refine And.intro ?_ ?_)) <;> (repeat' (first | (with_reducible assumption) | (with_reducible exact trivial) | (with_reducible refine kA _ ?_) | (with_reducible refine kD ?_) | (with_reducible refine kS _ ?_ ?_) | (with_reducible refine fA _ ?_ ?_) | (with_reducible refine fD ?_) | (with_reducible refine fS _ ?_) | go_size | (go_simp; done))))))) (fun o => bw3.cell (p := ⟨_, o, none⟩) (by go_size)) (fun o => bw3.frozen (p := ⟨_, o, none⟩) (by go_size)); simp only [CellsAt] at zw3_wH; clear zw1_wH; clear bw3)
      | (go_at_call 57; (with_reducible refine (O.out _).mono ?_); rintro e w4 ⟨rfl, bw4⟩; have sw4 := bw4.size; (try simp at sw4); have Aw4 : Below w.heap.size w w4 := Below.trans (by (repeat' (first | (with_reducible assumption) | (with_reducible exact Below.refl _ _) | (with_reducible refine bdN ?_ _) | (with_reducible refine Below.alloc ?_ ?_ _) | (with_reducible refine Below.drew ?_) | (with_reducible refine Below.setCell ?_ ?_ _) | go_size))) (bw4.mono (by go_size)); have lw4_0 : w.heap.size < w4.heap.size := (by go_size); have zw4_wH : CellsAt w4 (w.heap.size) 0 [.int .i64 y, .int .i64 m, .int .i64 d, .int .i64 h, .int .i64 i, .int .i64 s, .int .i64 u, .int .i64 o] := cells_keep (by (simp only [CellsAt]; (first | (go_simp; done) | ((repeat' (with_reducible refine And.intro ?_ ?_)) <;> (repeat' (first | (with_reducible assumption) | (with_reducible exact trivial) | (with_reducible refine kA _ ?_) | (with_reducible refine kD ?_) | (with_reducible refine kS _ ?_ ?_) | (with_reducible refine fA _ ?_ ?_) | (with_reducible refine fD ?_) | (with_reducible refine fS _ ?_) | go_size | (go_simp; done))))))) (fun o => bw4.cell (p := ⟨_, o, none⟩) (by go_size)) (fun o => bw4.frozen (p := ⟨_, o, none⟩) (by go_size)); simp only [CellsAt] at zw4_wH; clear zw3_wH; clear bw4)
    )
  all_goals
    go_wp2_with fail
    go_ret
    exact ⟨ret_str (by rw [HS.out]), by (repeat' (first | (with_reducible assumption) | (with_reducible exact Below.refl _ _) | (with_reducible refine bdN ?_ _) | (with_reducible refine Below.alloc ?_ ?_ _) | (with_reducible refine Below.drew ?_) | (with_reducible refine Below.setCell ?_ ?_ _) | go_size))⟩
set_option maxHeartbeats 4000000 in
theorem StampText_s (y m d h i s u o : Int) (w : World) : Calls Tryd.prog 14 #[.agg #[.int .i64 y, .int .i64 m, .int .i64 d, .int .i64 h, .int .i64 i, .int .i64 s, .int .i64 u, .int .i64 o]] w fun e w' => e = .returned (.string (stT y m d h i s u o)) ∧ Below w.heap.size w w' := by
  by_cases hv : svB y m d h i s u o = true
  · have E := Lib.hid (show stT y m d h i s u o = stS y m d h i s u o from if_pos hv)
    have V := Lib.hid (fun w => sv_sb y m d h i s u o w true hv)
    have L := Lib.hid (fun w => l13Text_s y m d h i s u o hv w)
    clear hv
    go_enter Tryd.func14, Tryd.ntmps14
    go_wp2_with fail
    refine (V.out _).mono ?_
    rintro e w1 ⟨rfl, bw1⟩
    have sw1 := bw1.size
    (try simp at sw1)
    have Aw1 : Below w.heap.size w w1 := Below.trans (by (repeat' (first | (with_reducible assumption) | (with_reducible exact Below.refl _ _) | (with_reducible refine bdN ?_ _) | (with_reducible refine Below.alloc ?_ ?_ _) | (with_reducible refine Below.drew ?_) | (with_reducible refine Below.setCell ?_ ?_ _) | go_size))) (bw1.mono (by go_size))
    have lw1_0 : w.heap.size < w1.heap.size := (by go_size)
    have zw1_wH : CellsAt w1 (w.heap.size) 0 [.int .i64 y, .int .i64 m, .int .i64 d, .int .i64 h, .int .i64 i, .int .i64 s, .int .i64 u, .int .i64 o] := cells_keep (by (simp only [CellsAt]; (first | (go_simp; done) | ((repeat' (with_reducible refine And.intro ?_ ?_)) <;> (repeat' (first | (with_reducible assumption) | (with_reducible exact trivial) | (with_reducible refine kA _ ?_) | (with_reducible refine kD ?_) | (with_reducible refine kS _ ?_ ?_) | (with_reducible refine fA _ ?_ ?_) | (with_reducible refine fD ?_) | (with_reducible refine fS _ ?_) | go_size | (go_simp; done))))))) (fun o => bw1.cell (p := ⟨_, o, none⟩) (by go_size)) (fun o => bw1.frozen (p := ⟨_, o, none⟩) (by go_size))
    simp only [CellsAt] at zw1_wH
    clear bw1
    go_wp2_with fail
    refine (L.out _).mono ?_
    rintro e w2 ⟨rfl, bw2⟩
    have sw2 := bw2.size
    (try simp at sw2)
    have Aw2 : Below w.heap.size w w2 := Below.trans (by (repeat' (first | (with_reducible assumption) | (with_reducible exact Below.refl _ _) | (with_reducible refine bdN ?_ _) | (with_reducible refine Below.alloc ?_ ?_ _) | (with_reducible refine Below.drew ?_) | (with_reducible refine Below.setCell ?_ ?_ _) | go_size))) (bw2.mono (by go_size))
    have lw2_0 : w.heap.size < w2.heap.size := (by go_size)
    have zw2_wH : CellsAt w2 (w.heap.size) 0 [.int .i64 y, .int .i64 m, .int .i64 d, .int .i64 h, .int .i64 i, .int .i64 s, .int .i64 u, .int .i64 o] := cells_keep (by (simp only [CellsAt]; (first | (go_simp; done) | ((repeat' (with_reducible refine And.intro ?_ ?_)) <;> (repeat' (first | (with_reducible assumption) | (with_reducible exact trivial) | (with_reducible refine kA _ ?_) | (with_reducible refine kD ?_) | (with_reducible refine kS _ ?_ ?_) | (with_reducible refine fA _ ?_ ?_) | (with_reducible refine fD ?_) | (with_reducible refine fS _ ?_) | go_size | (go_simp; done))))))) (fun o => bw2.cell (p := ⟨_, o, none⟩) (by go_size)) (fun o => bw2.frozen (p := ⟨_, o, none⟩) (by go_size))
    simp only [CellsAt] at zw2_wH
    clear zw1_wH
    clear bw2
    go_wp2_with fail
    go_ret
    exact ⟨ret_str E.out.symm, by (repeat' (first | (with_reducible assumption) | (with_reducible exact Below.refl _ _) | (with_reducible refine bdN ?_ _) | (with_reducible refine Below.alloc ?_ ?_ _) | (with_reducible refine Below.drew ?_) | (with_reducible refine Below.setCell ?_ ?_ _) | go_size))⟩
  · have hv' : svB y m d h i s u o = false := by simpa using hv
    have E := Lib.hid (show stT y m d h i s u o = ⟨#[]⟩ from if_neg hv)
    have V := Lib.hid (fun w => sv_sb y m d h i s u o w false hv')
    clear hv hv'
    go_enter Tryd.func14, Tryd.ntmps14
    go_wp2_with fail
    refine (V.out _).mono ?_
    rintro e w1 ⟨rfl, bw1⟩
    have sw1 := bw1.size
    (try simp at sw1)
    have Aw1 : Below w.heap.size w w1 := Below.trans (by (repeat' (first | (with_reducible assumption) | (with_reducible exact Below.refl _ _) | (with_reducible refine bdN ?_ _) | (with_reducible refine Below.alloc ?_ ?_ _) | (with_reducible refine Below.drew ?_) | (with_reducible refine Below.setCell ?_ ?_ _) | go_size))) (bw1.mono (by go_size))
    clear bw1
    go_wp2_with fail
    go_ret
    exact ⟨ret_str E.out.symm, by (repeat' (first | (with_reducible assumption) | (with_reducible exact Below.refl _ _) | (with_reducible refine bdN ?_ _) | (with_reducible refine Below.alloc ?_ ?_ _) | (with_reducible refine Below.drew ?_) | (with_reducible refine Below.setCell ?_ ?_ _) | go_size))⟩
end Go.Proofs.YtfailbghnpfcdaaDoor
