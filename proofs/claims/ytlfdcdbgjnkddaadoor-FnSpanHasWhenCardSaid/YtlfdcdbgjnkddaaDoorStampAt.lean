/- Contracts of StampAt, by the program and by the reference: both give the same. Condition: the program's table of the months' days stands in memory ('Tab'). -/
import Derived.Test.YtlfdcdbgjnkddaaDoorStamp
namespace Go.Proofs.YtlfdcdbgjnkddaaDoor
set_option linter.unusedSimpArgs false
set_option linter.unusedVariables false
open Go.RowKit DN

theorem at_no {n o Y M D H I S U O : Int} {b : Bool} (h : AtIs n o Y M D H I S U O b) (a : ¬ ((-86400000 ≤ n ∧ n ≤ 315537984000000) ∧ (-1439 ≤ o ∧ o ≤ 1439) ∧ 0 ≤ n + 60000 * o)) : b = false ∧ Y = 0 ∧ M = 0 ∧ D = 0 ∧ H = 0 ∧ I = 0 ∧ S = 0 ∧ U = 0 ∧ O = 0 := by
  rcases h with ⟨_, ha, _⟩ | ⟨hb, _, hz⟩
  · have := atB_iff.1 ha
    exact absurd ⟨this.2.1, this.1, this.2.2.1⟩ a
  · exact ⟨hb, hz⟩
theorem at_day {n o L q Y M D H I S U O : Int} {b : Bool} (h : AtIs n o Y M D H I S U O b) (a1 : -86400000 ≤ n ∧ n ≤ 315537984000000) (a2 : -1439 ≤ o ∧ o ≤ 1439) (e : n + 60000 * o = L) (l : 0 ≤ L) (eq : L % 86400000 = q) :
    OfDay (L / 86400000) Y M D b ∧ ((b = true ∧ H = q / 3600000 ∧ I = q / 60000 % 60 ∧ S = q / 1000 % 60 ∧ U = q % 1000 ∧ O = o) ∨ (b = false ∧ Y = 0 ∧ M = 0 ∧ D = 0 ∧ H = 0 ∧ I = 0 ∧ S = 0 ∧ U = 0 ∧ O = 0)) := by
  subst e eq
  rcases h with ⟨hb, ha, hd, h1, h2, h3, h4, h5⟩ | ⟨hb, ha, z1, z2, z3, h1, h2, h3, h4, h5⟩
  · exact ⟨.inl ⟨hb, hd⟩, .inl ⟨hb, h1, h2, h3, h4, h5⟩⟩
  · refine ⟨.inr ⟨hb, fun hc => ?_, z1, z2, z3⟩, .inr ⟨hb, z1, z2, z3, h1, h2, h3, h4, h5⟩⟩
    have : atB n o = true := atB_iff.2 ⟨a2, a1, l, by omega⟩
    rw [ha] at this
    cases this






set_option maxHeartbeats 1000000 in
theorem StampAt_yes_s (n o L q Y M D : Int) (w : World) (n1 : -86400000 ≤ n) (n2 : n ≤ 315537984000000) (o1 : -1439 ≤ o) (o2 : o ≤ 1439) (hL : n + 60000 * o = L) (l : 0 ≤ L) (hq : L % 86400000 = q) (O1 : OfDay (L / 86400000) Y M D true) : Calls Tryd.prog 28 #[.int .i64 n, .int .i64 o] w fun e w' => e = .returned (.tuple #[.agg #[.int .i64 Y, .int .i64 M, .int .i64 D, .int .i64 (q / 3600000), .int .i64 (q / 60000 % 60), .int .i64 (q / 1000 % 60), .int .i64 (q % 1000), .int .i64 o], .bool true]) ∧ Below w.heap.size w w' := by
  have K1 := Lib.hid (fun w => l12Ok_any n w)
  rw [inB_t n1 n2] at K1
  have K2 := Lib.hid (fun w => l6In_any o (-1439) 1439 w)
  rw [inB_t o1 o2] at K2
  have P := Lib.hid (fun w => dateOf_s (L / 86400000) Y M D true w O1)
  have Lb : L ≤ 400000000000000 := by omega
  have q0 : 0 ≤ q := by omega
  have q1 : q ≤ 86400000 := by omega
  have ht : L.tmod 86400000 = q := by rw [Int.tmod_eq_emod_of_nonneg l]; exact hq
  clear O1
  go_enter Tryd.func28, Tryd.ntmps28
  go_wp2_with fail
  refine (K2.out _).mono ?_
  rintro e w' ⟨rfl, rfl⟩
  go_wp2_with fail
  refine (K1.out _).mono ?_
  rintro e w' ⟨rfl, rfl⟩
  go_wp2_with fail
  refine (P.out _).mono ?_
  rintro e w1 ⟨rfl, bw1⟩
  have sw1 := bw1.size
  (try simp at sw1)
  have Aw1 : Below w.heap.size w w1 := Below.trans (by (repeat' (first | (with_reducible assumption) | (with_reducible exact Below.refl _ _) | (with_reducible refine bdN ?_ _) | (with_reducible refine Below.alloc ?_ ?_ _) | (with_reducible refine Below.drew ?_) | (with_reducible refine Below.setCell ?_ ?_ _) | go_size))) (bw1.mono (by go_size))
  have lw1_0 : w.heap.size < w1.heap.size := (by go_size)
  have zw1_wH : CellsAt w1 (w.heap.size) 0 [.int .i64 0, .int .i64 0, .int .i64 0, .int .i64 0, .int .i64 0, .int .i64 0, .int .i64 0, .int .i64 0] := cells_keep (by (simp only [CellsAt]; (first | (go_simp; done) | ((repeat' (with_reducible refine And.intro ?_ ?_)) <;> (repeat' (first | (with_reducible assumption) | (with_reducible exact trivial) | (with_reducible refine kA _ ?_) | (with_reducible refine kD ?_) | (with_reducible refine kS _ ?_ ?_) | (with_reducible refine fA _ ?_ ?_) | (with_reducible refine fD ?_) | (with_reducible refine fS _ ?_) | go_size | (go_simp; done))))))) (fun o => bw1.cell (p := ⟨_, o, none⟩) (by go_size)) (fun o => bw1.frozen (p := ⟨_, o, none⟩) (by go_size))
  simp only [CellsAt] at zw1_wH
  clear bw1
  go_wp2_with fail
  clear hL hq n1 n2 o1 o2
  go_region_held3 (fun w' => w'.cell? ⟨w1.heap.size, 0, none⟩ = some (.int .i64 Y) ∧ w'.cell? ⟨w1.heap.size, 1, none⟩ = some (.int .i64 M) ∧ w'.cell? ⟨w1.heap.size, 2, none⟩ = some (.int .i64 D)) (((repeat' (with_reducible refine And.intro ?_ ?_)) <;> (first | (with_reducible assumption) | (go_simp; done) | (repeat' (first | (with_reducible assumption) | (with_reducible refine kA _ ?_) | (with_reducible refine kD ?_) | (with_reducible refine kS _ ?_ ?_) | go_size | (go_simp; done))))))
    (first
      | (go_at_call 46; (with_reducible refine (l5Of_s q _ q0 q1).mono ?_); rintro e w2 ⟨rfl, bw2⟩; have sw2 := bw2.size; (try simp at sw2); have Aw2 : Below w.heap.size w w2 := Below.trans (by (repeat' (first | (with_reducible assumption) | (with_reducible exact Below.refl _ _) | (with_reducible refine bdN ?_ _) | (with_reducible refine Below.alloc ?_ ?_ _) | (with_reducible refine Below.drew ?_) | (with_reducible refine Below.setCell ?_ ?_ _) | go_size))) (bw2.mono (by go_size)); have lw2_0 : w.heap.size < w2.heap.size := (by go_size); have zw2_wH : CellsAt w2 (w.heap.size) 0 [.int .i64 0, .int .i64 0, .int .i64 0, .int .i64 0, .int .i64 0, .int .i64 0, .int .i64 0, .int .i64 0] := cells_keep (by (simp only [CellsAt]; (first | (go_simp; done) | ((repeat' (with_reducible refine And.intro ?_ ?_)) <;> (repeat' (first | (with_reducible assumption) | (with_reducible exact trivial) | (with_reducible refine kA _ ?_) | (with_reducible refine kD ?_) | (with_reducible refine kS _ ?_ ?_) | (with_reducible refine fA _ ?_ ?_) | (with_reducible refine fD ?_) | (with_reducible refine fS _ ?_) | go_size | (go_simp; done))))))) (fun o => bw2.cell (p := ⟨_, o, none⟩) (by go_size)) (fun o => bw2.frozen (p := ⟨_, o, none⟩) (by go_size)); have lw2_1 : w1.heap.size < w2.heap.size := (by go_size); have zw2_w1H : CellsAt w2 (w1.heap.size) 0 [.int .i64 Y, .int .i64 M, .int .i64 D] := cells_keep (by (simp only [CellsAt]; (first | (go_simp; done) | ((repeat' (with_reducible refine And.intro ?_ ?_)) <;> (repeat' (first | (with_reducible assumption) | (with_reducible exact trivial) | (with_reducible refine kA _ ?_) | (with_reducible refine kD ?_) | (with_reducible refine kS _ ?_ ?_) | (with_reducible refine fA _ ?_ ?_) | (with_reducible refine fD ?_) | (with_reducible refine fS _ ?_) | go_size | (go_simp; done))))))) (fun o => bw2.cell (p := ⟨_, o, none⟩) (by go_size)) (fun o => bw2.frozen (p := ⟨_, o, none⟩) (by go_size)); simp only [CellsAt] at zw2_wH; simp only [CellsAt] at zw2_w1H; clear zw1_wH; clear bw2)
    )
  all_goals
    go_wp2_with fail
    exact bodyPost_ret (v := .tuple #[.agg #[.int .i64 Y, .int .i64 M, .int .i64 D, .int .i64 (q / 3600000), .int .i64 (q / 60000 % 60), .int .i64 (q / 1000 % 60), .int .i64 (q % 1000), .int .i64 o], .bool true]) (by simp [results, Tryd.results28, go_sem, zw2_wH, zw2_w1H, lw2_0, lw2_1]) rfl ⟨rfl, by (repeat' (first | (with_reducible assumption) | (with_reducible exact Below.refl _ _) | (with_reducible refine bdN ?_ _) | (with_reducible refine Below.alloc ?_ ?_ _) | (with_reducible refine Below.drew ?_) | (with_reducible refine Below.setCell ?_ ?_ _) | go_size))⟩

set_option maxHeartbeats 1000000 in
theorem StampAt_late_s (n o L Y M D : Int) (w : World) (n1 : -86400000 ≤ n) (n2 : n ≤ 315537984000000) (o1 : -1439 ≤ o) (o2 : o ≤ 1439) (hL : n + 60000 * o = L) (l : 0 ≤ L) (O1 : OfDay (L / 86400000) Y M D false) : Calls Tryd.prog 28 #[.int .i64 n, .int .i64 o] w fun e w' => e = .returned (.tuple #[.agg #[.int .i64 0, .int .i64 0, .int .i64 0, .int .i64 0, .int .i64 0, .int .i64 0, .int .i64 0, .int .i64 0], .bool false]) ∧ Below w.heap.size w w' := by
  have K1 := Lib.hid (fun w => l12Ok_any n w)
  rw [inB_t n1 n2] at K1
  have K2 := Lib.hid (fun w => l6In_any o (-1439) 1439 w)
  rw [inB_t o1 o2] at K2
  have P := Lib.hid (fun w => dateOf_s (L / 86400000) Y M D false w O1)
  have Lb : L ≤ 400000000000000 := by omega
  clear O1
  go_enter Tryd.func28, Tryd.ntmps28
  go_wp2_with fail
  refine (K2.out _).mono ?_
  rintro e w' ⟨rfl, rfl⟩
  go_wp2_with fail
  refine (K1.out _).mono ?_
  rintro e w' ⟨rfl, rfl⟩
  go_wp2_with fail
  refine (P.out _).mono ?_
  rintro e w1 ⟨rfl, bw1⟩
  have sw1 := bw1.size
  (try simp at sw1)
  have Aw1 : Below w.heap.size w w1 := Below.trans (by (repeat' (first | (with_reducible assumption) | (with_reducible exact Below.refl _ _) | (with_reducible refine bdN ?_ _) | (with_reducible refine Below.alloc ?_ ?_ _) | (with_reducible refine Below.drew ?_) | (with_reducible refine Below.setCell ?_ ?_ _) | go_size))) (bw1.mono (by go_size))
  have lw1_0 : w.heap.size < w1.heap.size := (by go_size)
  have zw1_wH : CellsAt w1 (w.heap.size) 0 [.int .i64 0, .int .i64 0, .int .i64 0, .int .i64 0, .int .i64 0, .int .i64 0, .int .i64 0, .int .i64 0] := cells_keep (by (simp only [CellsAt]; (first | (go_simp; done) | ((repeat' (with_reducible refine And.intro ?_ ?_)) <;> (repeat' (first | (with_reducible assumption) | (with_reducible exact trivial) | (with_reducible refine kA _ ?_) | (with_reducible refine kD ?_) | (with_reducible refine kS _ ?_ ?_) | (with_reducible refine fA _ ?_ ?_) | (with_reducible refine fD ?_) | (with_reducible refine fS _ ?_) | go_size | (go_simp; done))))))) (fun o => bw1.cell (p := ⟨_, o, none⟩) (by go_size)) (fun o => bw1.frozen (p := ⟨_, o, none⟩) (by go_size))
  simp only [CellsAt] at zw1_wH
  clear bw1
  clear hL n1 n2 o1 o2 K1 K2 P Lb l
  go_upto_region 7 with fail
  obtain ⟨w2, hww2⟩ : ∃ x, x = w1.alloc (.cells #[.int .i64 Y, .int .i64 M, .int .i64 D] 29) := ⟨_, rfl⟩
  rw [← hww2]
  have sw2 := congrArg (fun x : World => x.heap.size) hww2
  (try simp at sw2)
  have Aw2 : Below w.heap.size w w2 := by rw [hww2]; (repeat' (first | (with_reducible assumption) | (with_reducible exact Below.refl _ _) | (with_reducible refine bdN ?_ _) | (with_reducible refine Below.alloc ?_ ?_ _) | (with_reducible refine Below.drew ?_) | (with_reducible refine Below.setCell ?_ ?_ _) | go_size))
  have lw2_0 : w.heap.size < w2.heap.size := (by go_size)
  have zw2_wH : CellsAt w2 (w.heap.size) 0 [.int .i64 0, .int .i64 0, .int .i64 0, .int .i64 0, .int .i64 0, .int .i64 0, .int .i64 0, .int .i64 0] := by rw [hww2]; (simp only [CellsAt]; (first | (go_simp; done) | ((repeat' (with_reducible refine And.intro ?_ ?_)) <;> (repeat' (first | (with_reducible assumption) | (with_reducible exact trivial) | (with_reducible refine kA _ ?_) | (with_reducible refine kD ?_) | (with_reducible refine kS _ ?_ ?_) | (with_reducible refine fA _ ?_ ?_) | (with_reducible refine fD ?_) | (with_reducible refine fS _ ?_) | go_size | (go_simp; done))))))
  simp only [CellsAt] at zw2_wH
  clear zw1_wH
  clear hww2
  go_wp2_with fail
  exact bodyPost_ret (v := .tuple #[.agg #[.int .i64 0, .int .i64 0, .int .i64 0, .int .i64 0, .int .i64 0, .int .i64 0, .int .i64 0, .int .i64 0], .bool false]) (by simp [results, Tryd.results28, go_sem, zw2_wH, lw2_0]) rfl ⟨rfl, by (repeat' (first | (with_reducible assumption) | (with_reducible exact Below.refl _ _) | (with_reducible refine bdN ?_ _) | (with_reducible refine Below.alloc ?_ ?_ _) | (with_reducible refine Below.drew ?_) | (with_reducible refine Below.setCell ?_ ?_ _) | go_size))⟩

set_option maxHeartbeats 1000000 in
theorem StampAt_early_s (n o : Int) (w : World) (n1 : -86400000 ≤ n) (n2 : n ≤ 315537984000000) (o1 : -1439 ≤ o) (o2 : o ≤ 1439) (l : n + 60000 * o < 0) : Calls Tryd.prog 28 #[.int .i64 n, .int .i64 o] w fun e w' => e = .returned (.tuple #[.agg #[.int .i64 0, .int .i64 0, .int .i64 0, .int .i64 0, .int .i64 0, .int .i64 0, .int .i64 0, .int .i64 0], .bool false]) ∧ Below w.heap.size w w' := by
  have K1 := Lib.hid (fun w => l12Ok_any n w)
  rw [inB_t n1 n2] at K1
  have K2 := Lib.hid (fun w => l6In_any o (-1439) 1439 w)
  rw [inB_t o1 o2] at K2
  go_enter Tryd.func28, Tryd.ntmps28
  go_wp2_with fail
  refine (K2.out _).mono ?_
  rintro e w' ⟨rfl, rfl⟩
  go_wp2_with fail
  refine (K1.out _).mono ?_
  rintro e w' ⟨rfl, rfl⟩
  go_wp2_with fail
  exact bodyPost_ret (v := .tuple #[.agg #[.int .i64 0, .int .i64 0, .int .i64 0, .int .i64 0, .int .i64 0, .int .i64 0, .int .i64 0, .int .i64 0], .bool false]) (by simp [results, Tryd.results28, go_sem]) rfl ⟨rfl, by (repeat' (first | (with_reducible assumption) | (with_reducible exact Below.refl _ _) | (with_reducible refine bdN ?_ _) | (with_reducible refine Below.alloc ?_ ?_ _) | (with_reducible refine Below.drew ?_) | (with_reducible refine Below.setCell ?_ ?_ _) | go_size))⟩

set_option maxHeartbeats 1000000 in
theorem StampAt_bad_s (n o : Int) (w : World) (c : ¬ ((-86400000 ≤ n ∧ n ≤ 315537984000000) ∧ (-1439 ≤ o ∧ o ≤ 1439))) : Calls Tryd.prog 28 #[.int .i64 n, .int .i64 o] w fun e w' => e = .returned (.tuple #[.agg #[.int .i64 0, .int .i64 0, .int .i64 0, .int .i64 0, .int .i64 0, .int .i64 0, .int .i64 0, .int .i64 0], .bool false]) ∧ Below w.heap.size w w' := by
  have K1 := Lib.hid (fun w => l12Ok_any n w)
  have K2 := Lib.hid (fun w => l6In_any o (-1439) 1439 w)
  have hc : inB n (-86400000) 315537984000000 = false ∨ inB o (-1439) 1439 = false := by
    by_cases a : (-86400000 ≤ n ∧ n ≤ 315537984000000)
    · exact .inr (inB_f (fun b => c ⟨a, b⟩))
    · exact .inl (inB_f a)
  clear c
  generalize inB n (-86400000) 315537984000000 = A at K1 hc
  generalize inB o (-1439) 1439 = B at K2 hc
  cases B
  · clear hc
    go_enter Tryd.func28, Tryd.ntmps28
    go_wp2_with fail
    refine (K2.out _).mono ?_
    rintro e w' ⟨rfl, rfl⟩
    go_wp2_with fail
    exact bodyPost_ret (v := .tuple #[.agg #[.int .i64 0, .int .i64 0, .int .i64 0, .int .i64 0, .int .i64 0, .int .i64 0, .int .i64 0, .int .i64 0], .bool false]) (by simp [results, Tryd.results28, go_sem]) rfl ⟨rfl, by (repeat' (first | (with_reducible assumption) | (with_reducible exact Below.refl _ _) | (with_reducible refine bdN ?_ _) | (with_reducible refine Below.alloc ?_ ?_ _) | (with_reducible refine Below.drew ?_) | (with_reducible refine Below.setCell ?_ ?_ _) | go_size))⟩
  · obtain rfl : A = false := by simpa using hc
    clear hc
    go_enter Tryd.func28, Tryd.ntmps28
    go_wp2_with fail
    refine (K2.out _).mono ?_
    rintro e w' ⟨rfl, rfl⟩
    go_wp2_with fail
    refine (K1.out _).mono ?_
    rintro e w' ⟨rfl, rfl⟩
    go_wp2_with fail
    exact bodyPost_ret (v := .tuple #[.agg #[.int .i64 0, .int .i64 0, .int .i64 0, .int .i64 0, .int .i64 0, .int .i64 0, .int .i64 0, .int .i64 0], .bool false]) (by simp [results, Tryd.results28, go_sem]) rfl ⟨rfl, by (repeat' (first | (with_reducible assumption) | (with_reducible exact Below.refl _ _) | (with_reducible refine bdN ?_ _) | (with_reducible refine Below.alloc ?_ ?_ _) | (with_reducible refine Below.drew ?_) | (with_reducible refine Below.setCell ?_ ?_ _) | go_size))⟩

theorem StampAt_s (n o Y M D H I S U O : Int) (b : Bool) (w : World) (h : AtIs n o Y M D H I S U O b) : Calls Tryd.prog 28 #[.int .i64 n, .int .i64 o] w fun e w' => e = .returned (.tuple #[.agg #[.int .i64 Y, .int .i64 M, .int .i64 D, .int .i64 H, .int .i64 I, .int .i64 S, .int .i64 U, .int .i64 O], .bool b]) ∧ Below w.heap.size w w' := by
  by_cases c : (-86400000 ≤ n ∧ n ≤ 315537984000000) ∧ (-1439 ≤ o ∧ o ≤ 1439)
  · by_cases l : 0 ≤ n + 60000 * o
    · obtain ⟨O1, O2⟩ := at_day h c.1 c.2 rfl l rfl
      rcases O2 with ⟨rfl, rfl, rfl, rfl, rfl, rfl⟩ | ⟨rfl, rfl, rfl, rfl, rfl, rfl, rfl, rfl, rfl⟩
      · exact StampAt_yes_s n _ _ _ Y M D w c.1.1 c.1.2 c.2.1 c.2.2 rfl l rfl O1
      · exact StampAt_late_s n o _ 0 0 0 w c.1.1 c.1.2 c.2.1 c.2.2 rfl l O1
    · obtain ⟨rfl, rfl, rfl, rfl, rfl, rfl, rfl, rfl, rfl⟩ := at_no h (fun c => l c.2.2)
      exact StampAt_early_s n o w c.1.1 c.1.2 c.2.1 c.2.2 (by omega)
  · obtain ⟨rfl, rfl, rfl, rfl, rfl, rfl, rfl, rfl, rfl⟩ := at_no h (fun d => c ⟨d.1, d.2.1⟩)
    exact StampAt_bad_s n o w c
end Go.Proofs.YtlfdcdbgjnkddaaDoor
