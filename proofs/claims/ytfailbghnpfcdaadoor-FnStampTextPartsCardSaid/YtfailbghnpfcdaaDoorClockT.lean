/- Contracts of the text of a time of a day, by the program and by the reference. Condition: there is such a time. -/
import Derived.Test.YtfailbghnpfcdaaDoorOffT
import Derived.Test.YtfailbghnpfcdaaDoorClock
import Derived.Deep.RegionWith
namespace Go.Proofs.YtfailbghnpfcdaaDoor
set_option linter.unusedSimpArgs false
set_option linter.unusedVariables false
open Go.RowKit DN

/-- the digits behind a second -/
def frS (u : Int) : ByteArray := if u % 100 = 0 then ⟨#[46]⟩ ++ dgS 1 (u / 100) else if u % 10 = 0 then ⟨#[46]⟩ ++ dgS 2 (u / 10) else ⟨#[46]⟩ ++ dgS 3 u
/-- hours, minutes and seconds -/
def hmS (h i s : Int) : ByteArray := (((dgS 2 h ++ ⟨#[58]⟩) ++ dgS 2 i) ++ ⟨#[58]⟩) ++ dgS 2 s
/-- the text of a time -/
def ckS (h i s u : Int) : ByteArray := if u = 0 then hmS h i s else hmS h i s ++ frS u
theorem dgS_cut (k : Nat) (n : Int) (j : Nat) (hj : j = k + 1) : (dgS j n).extract 0 k = dgS k (n / 10) := by
  subst hj
  unfold dgS
  rw [ByteArray.extract_mk]
  simp only [Nat.sub_zero, List.drop_zero, dgL]
  rw [List.take_left' (dgL_len k (n / 10))]
theorem dgS_last (k : Nat) (n : Int) (hk : k < (dgS (k + 1) n).size) : ((dgS (k + 1) n)[k].toNat : Int) = 48 + n % 10 := by
  have hk' : k < (dgL (k + 1) n).toArray.size := by rw [List.size_toArray, dgL_len]; omega
  have e : (dgS (k + 1) n)[k]'hk = dgB n := by
    show (dgL (k + 1) n).toArray[k] = dgB n
    simp [dgL, dgL_len]
  exact (congrArg (fun b : UInt8 => (b.toNat : Int)) e).trans (dgB_num n)
theorem add_ok {P : Program} (a b : ByteArray) (n m : Nat) (ha : a.size ≤ n) (hb : b.size ≤ m) (h : n + m ≤ 1000) (wx : World) : (Op.stringOp .add a b).run P wx = .ok (.string (a ++ b)) wx :=
  run_string_add_sum wx a b (by omega)
/-- what is left of three digits without zeros at the end -/
def trS (u : Int) : ByteArray := if u % 100 = 0 then dgS 1 (u / 100) else if u % 10 = 0 then dgS 2 (u / 10) else dgS 3 u
theorem frS_tr (u : Int) : frS u = ⟨#[46]⟩ ++ trS u := by
  unfold frS trS
  by_cases a : u % 100 = 0
  · rw [if_pos a, if_pos a]
  · rw [if_neg a, if_neg a]
    by_cases b : u % 10 = 0
    · rw [if_pos b, if_pos b]
    · rw [if_neg b, if_neg b]
theorem ix_dg (k j : Nat) (n z : Int) (hj : j = k + 1) (hz : z = k) (wx : World) : (Instr.index 9 (.string (dgS j n)) (.int .i64 z)).run Tryd.prog wx = .ok (.int .u8 (48 + n % 10)) wx := by
  subst hj
  have hk : k < (dgS (k + 1) n).size := by rw [dgS_size]; omega
  rw [ix_str Tryd.underlying9 (dgS (k + 1) n) k z hz hk wx, dgS_last k n hk]
set_option maxHeartbeats 2000000 in
theorem trimByte_dg (u : Int) (h1 : 1 ≤ u) (h2 : u ≤ 999) (w : World) : Calls Tryd.prog 60 #[.string (dgS 3 u), .int .u8 48] w fun e w' => e = .returned (.string (trS u)) ∧ w = w' := by
  have z3 := dgS_size 3 u
  have z2 := dgS_size 2 (u / 10)
  have z1 := dgS_size 1 (u / 100)
  have x3 : (dgS 3 u).extract 0 2 = dgS 2 (u / 10) := dgS_cut 2 u 3 rfl
  have x2 : (dgS 2 (u / 10)).extract 0 1 = dgS 1 (u / 100) := by
    rw [dgS_cut 1 (u / 10) 2 rfl, show u / 10 / 10 = u / 100 by omega]
  have i3 := fun wx => ix_dg 2 3 u 2 rfl rfl wx
  have i2 := fun wx => ix_dg 1 2 (u / 10) 1 rfl rfl wx
  have i1 := fun wx => ix_dg 0 1 (u / 100) 0 rfl rfl wx
  have hT : trS u = if u % 100 = 0 then dgS 1 (u / 100) else if u % 10 = 0 then dgS 2 (u / 10) else dgS 3 u := rfl
  by_cases a : u % 10 = 0
  · by_cases b : u % 100 = 0
    · rw [hT, if_pos b]
      have e3 : (48 + u % 10 == 48) = true := by simp; omega
      have e2 : (48 + u / 10 % 10 == 48) = true := by simp; omega
      have e1 : (48 + u / 100 % 10 == 48) = false := by simp; omega
      clear hT a b
      generalize 48 + u % 10 = b3 at *
      generalize 48 + u / 10 % 10 = b2 at *
      generalize 48 + u / 100 % 10 = b1 at *
      generalize dgS 3 u = S3 at *
      generalize dgS 2 (u / 10) = S2 at *
      generalize dgS 1 (u / 100) = S1 at *
      go_enter Tryd.func60, Tryd.ntmps60
      go_wp2_with fail
      refine wp_loop_rounds 3 ?_
      rw [rounds_succ]
      go_wp2_with fail
      rw [rounds_succ]
      go_wp2_with fail
      rw [rounds_succ]
      go_wp2_with fail
      go_ret
      exact ⟨rfl, rfl⟩
    · rw [hT, if_neg b, if_pos a]
      have e3 : (48 + u % 10 == 48) = true := by simp; omega
      have e2 : (48 + u / 10 % 10 == 48) = false := by simp; omega
      clear hT a b z1 x2 i1
      generalize 48 + u % 10 = b3 at *
      generalize 48 + u / 10 % 10 = b2 at *
      generalize dgS 3 u = S3 at *
      generalize dgS 2 (u / 10) = S2 at *
      go_enter Tryd.func60, Tryd.ntmps60
      go_wp2_with fail
      refine wp_loop_rounds 2 ?_
      rw [rounds_succ]
      go_wp2_with fail
      rw [rounds_succ]
      go_wp2_with fail
      go_ret
      exact ⟨rfl, rfl⟩
  · rw [hT, if_neg (by omega), if_neg a]
    have e3 : (48 + u % 10 == 48) = false := by simp; omega
    clear hT a z1 x2 i1 z2 x3 i2
    generalize 48 + u % 10 = b3 at *
    generalize dgS 3 u = S3 at *
    go_enter Tryd.func60, Tryd.ntmps60
    go_wp2_with fail
    refine wp_loop_rounds 1 ?_
    rw [rounds_succ]
    go_wp2_with fail
    go_ret
    exact ⟨rfl, rfl⟩
set_option maxRecDepth 100000 in
set_option maxHeartbeats 2000000 in
theorem TrimRight_dg (u : Int) (h1 : 1 ≤ u) (h2 : u ≤ 999) (w : World) : Calls Tryd.prog 41 #[.string (dgS 3 u), .string ⟨#[48]⟩] w fun e w' => e = .returned (.string (trS u)) ∧ w = w' := by
  have B := Lib.hid (trimByte_dg u h1 h2)
  have z : (dgS 3 u).toList.isEmpty = false := by rw [ByteArray.toList_eq]; simp [dgS, dgL]
  have z' : ((dgS 3 u).toList == []) = false := by rw [ByteArray.toList_eq]; simp [dgS, dgL]
  generalize dgS 3 u = S3 at *
  have ixc : ∀ wx : World, (Instr.index 9 (.string ⟨#[48]⟩) (.int .i64 0)).run Tryd.prog wx = .ok (.int .u8 48) wx := fun _ => by kernel_rfl
  go_enter Tryd.func41, Tryd.ntmps41
  go_wp2_with fail
  refine (B.out _).mono ?_
  rintro e w' ⟨rfl, rfl⟩
  go_wp2_with fail
  go_ret
  exact ⟨rfl, rfl⟩
theorem hmS_size (h i s : Int) : (hmS h i s).size = 8 := by unfold hmS; simp only [ByteArray.size_append, dgS_size]; rfl
theorem trS_size (u : Int) : (trS u).size ≤ 3 := by
  unfold trS
  by_cases a : u % 100 = 0
  · rw [if_pos a, dgS_size]; omega
  · rw [if_neg a]
    by_cases b : u % 10 = 0
    · rw [if_pos b, dgS_size]; omega
    · rw [if_neg b, dgS_size]; omega
set_option maxHeartbeats 4000000 in
theorem ClockText_i (h i s u : Int) (hv : cvB h i s u = true) (w : World) : Calls Tryd.prog 18 #[.agg #[.int .i64 h, .int .i64 i, .int .i64 s, .int .i64 u], .bool true] w fun e w' => e = .returned (.string (ckS h i s u)) ∧ Below w.heap.size w w' := by
  obtain ⟨a1, a2, a3, a4, a5, a6, a7, a8⟩ := cvB_bd hv
  have V := Lib.hid (fun w => cv_ib h i s u w true hv)
  have sz := fun n => dgS_size 2 n
  clear hv
  by_cases hu : u = 0
  · subst hu
    have E : ckS h i s 0 = hmS h i s := if_pos rfl
    have HE := Lib.hid E
    clear E
    go_enter Tryd.func18, Tryd.ntmps18
    go_wp2_with fail
    refine (V.out _).mono ?_
    rintro e w1 ⟨rfl, bw1⟩
    have sw1 := bw1.size
    (try simp at sw1)
    have Aw1 : Below w.heap.size w w1 := Below.trans (by (repeat' (first | (with_reducible assumption) | (with_reducible exact Below.refl _ _) | (with_reducible refine bdN ?_ _) | (with_reducible refine Below.alloc ?_ ?_ _) | (with_reducible refine Below.drew ?_) | (with_reducible refine Below.setCell ?_ ?_ _) | go_size))) (bw1.mono (by go_size))
    have lw1_0 : w.heap.size < w1.heap.size := (by go_size)
    have zw1_wH : CellsAt w1 (w.heap.size) 0 [.int .i64 h, .int .i64 i, .int .i64 s, .int .i64 0] := cells_keep (by (simp only [CellsAt]; (first | (go_simp; done) | ((repeat' (with_reducible refine And.intro ?_ ?_)) <;> (repeat' (first | (with_reducible assumption) | (with_reducible exact trivial) | (with_reducible refine kA _ ?_) | (with_reducible refine kD ?_) | (with_reducible refine kS _ ?_ ?_) | (with_reducible refine fA _ ?_ ?_) | (with_reducible refine fD ?_) | (with_reducible refine fS _ ?_) | go_size | (go_simp; done))))))) (fun o => bw1.cell (p := ⟨_, o, none⟩) (by go_size)) (fun o => bw1.frozen (p := ⟨_, o, none⟩) (by go_size))
    simp only [CellsAt] at zw1_wH
    clear bw1
    go_wp2_with fail
    go_region_held3 (fun w' => w'.cell? ⟨w.heap.size, 0, none⟩ = some (.int .i64 h) ∧ w'.cell? ⟨w.heap.size, 1, none⟩ = some (.int .i64 i) ∧ w'.cell? ⟨w.heap.size, 2, none⟩ = some (.int .i64 s) ∧ w'.cell? ⟨w.heap.size, 3, none⟩ = some (.int .i64 0)) (((repeat' (with_reducible refine And.intro ?_ ?_)) <;> (first | (with_reducible assumption) | (go_simp; done) | (repeat' (first | (with_reducible assumption) | (with_reducible refine kA _ ?_) | (with_reducible refine kD ?_) | (with_reducible refine kS _ ?_ ?_) | go_size | (go_simp; done))))))
      (first
        | (go_at_call 40; (with_reducible refine (digits_2 h _ ?a1 ?b1).mono ?_); (case a1 => omega); (case b1 => omega); rintro e w2 ⟨rfl, bw2⟩; have sw2 := bw2.size; (try simp at sw2); have Aw2 : Below w.heap.size w w2 := Below.trans (by (repeat' (first | (with_reducible assumption) | (with_reducible exact Below.refl _ _) | (with_reducible refine bdN ?_ _) | (with_reducible refine Below.alloc ?_ ?_ _) | (with_reducible refine Below.drew ?_) | (with_reducible refine Below.setCell ?_ ?_ _) | go_size))) (bw2.mono (by go_size)); have lw2_0 : w.heap.size < w2.heap.size := (by go_size); have zw2_wH : CellsAt w2 (w.heap.size) 0 [.int .i64 h, .int .i64 i, .int .i64 s, .int .i64 0] := cells_keep (by (simp only [CellsAt]; (first | (go_simp; done) | ((repeat' (with_reducible refine And.intro ?_ ?_)) <;> (repeat' (first | (with_reducible assumption) | (with_reducible exact trivial) | (with_reducible refine kA _ ?_) | (with_reducible refine kD ?_) | (with_reducible refine kS _ ?_ ?_) | (with_reducible refine fA _ ?_ ?_) | (with_reducible refine fD ?_) | (with_reducible refine fS _ ?_) | go_size | (go_simp; done))))))) (fun o => bw2.cell (p := ⟨_, o, none⟩) (by go_size)) (fun o => bw2.frozen (p := ⟨_, o, none⟩) (by go_size)); simp only [CellsAt] at zw2_wH; clear zw1_wH; clear bw2)
        | (go_at_call 40; (with_reducible refine (digits_2 i _ ?a2 ?b2).mono ?_); (case a2 => omega); (case b2 => omega); rintro e w3 ⟨rfl, bw3⟩; have sw3 := bw3.size; (try simp at sw3); have Aw3 : Below w.heap.size w w3 := Below.trans (by (repeat' (first | (with_reducible assumption) | (with_reducible exact Below.refl _ _) | (with_reducible refine bdN ?_ _) | (with_reducible refine Below.alloc ?_ ?_ _) | (with_reducible refine Below.drew ?_) | (with_reducible refine Below.setCell ?_ ?_ _) | go_size))) (bw3.mono (by go_size)); have lw3_0 : w.heap.size < w3.heap.size := (by go_size); have zw3_wH : CellsAt w3 (w.heap.size) 0 [.int .i64 h, .int .i64 i, .int .i64 s, .int .i64 0] := cells_keep (by (simp only [CellsAt]; (first | (go_simp; done) | ((repeat' (with_reducible refine And.intro ?_ ?_)) <;> (repeat' (first | (with_reducible assumption) | (with_reducible exact trivial) | (with_reducible refine kA _ ?_) | (with_reducible refine kD ?_) | (with_reducible refine kS _ ?_ ?_) | (with_reducible refine fA _ ?_ ?_) | (with_reducible refine fD ?_) | (with_reducible refine fS _ ?_) | go_size | (go_simp; done))))))) (fun o => bw3.cell (p := ⟨_, o, none⟩) (by go_size)) (fun o => bw3.frozen (p := ⟨_, o, none⟩) (by go_size)); simp only [CellsAt] at zw3_wH; clear zw2_wH; clear bw3)
        | (go_at_call 40; (with_reducible refine (digits_2 s _ ?a3 ?b3).mono ?_); (case a3 => omega); (case b3 => omega); rintro e w4 ⟨rfl, bw4⟩; have sw4 := bw4.size; (try simp at sw4); have Aw4 : Below w.heap.size w w4 := Below.trans (by (repeat' (first | (with_reducible assumption) | (with_reducible exact Below.refl _ _) | (with_reducible refine bdN ?_ _) | (with_reducible refine Below.alloc ?_ ?_ _) | (with_reducible refine Below.drew ?_) | (with_reducible refine Below.setCell ?_ ?_ _) | go_size))) (bw4.mono (by go_size)); have lw4_0 : w.heap.size < w4.heap.size := (by go_size); have zw4_wH : CellsAt w4 (w.heap.size) 0 [.int .i64 h, .int .i64 i, .int .i64 s, .int .i64 0] := cells_keep (by (simp only [CellsAt]; (first | (go_simp; done) | ((repeat' (with_reducible refine And.intro ?_ ?_)) <;> (repeat' (first | (with_reducible assumption) | (with_reducible exact trivial) | (with_reducible refine kA _ ?_) | (with_reducible refine kD ?_) | (with_reducible refine kS _ ?_ ?_) | (with_reducible refine fA _ ?_ ?_) | (with_reducible refine fD ?_) | (with_reducible refine fS _ ?_) | go_size | (go_simp; done))))))) (fun o => bw4.cell (p := ⟨_, o, none⟩) (by go_size)) (fun o => bw4.frozen (p := ⟨_, o, none⟩) (by go_size)); simp only [CellsAt] at zw4_wH; clear zw3_wH; clear bw4)
      )
    all_goals
      go_wp2_with fail
      go_ret
      exact ⟨ret_str (by rw [HE.out]; rfl), by (repeat' (first | (with_reducible assumption) | (with_reducible exact Below.refl _ _) | (with_reducible refine bdN ?_ _) | (with_reducible refine Below.alloc ?_ ?_ _) | (with_reducible refine Below.drew ?_) | (with_reducible refine Below.setCell ?_ ?_ _) | go_size))⟩
  · have E : ckS h i s u = hmS h i s ++ (⟨#[46]⟩ ++ trS u) := by unfold ckS; rw [if_neg hu, frS_tr]
    have HE := Lib.hid E
    have sh := hmS_size h i s
    have st := trS_size u
    have hu' : (u == 0) = false := by simpa using hu
    have hu2 : (u != 0) = true := by simpa using hu
    have R := Lib.hid (TrimRight_dg u (by omega) a8)
    have u1 : 1 ≤ u := by omega
    clear E hu
    generalize trS u = tr at *
    go_enter Tryd.func18, Tryd.ntmps18
    go_wp2_with fail
    refine (V.out _).mono ?_
    rintro e w1 ⟨rfl, bw1⟩
    have sw1 := bw1.size
    (try simp at sw1)
    have Aw1 : Below w.heap.size w w1 := Below.trans (by (repeat' (first | (with_reducible assumption) | (with_reducible exact Below.refl _ _) | (with_reducible refine bdN ?_ _) | (with_reducible refine Below.alloc ?_ ?_ _) | (with_reducible refine Below.drew ?_) | (with_reducible refine Below.setCell ?_ ?_ _) | go_size))) (bw1.mono (by go_size))
    have lw1_0 : w.heap.size < w1.heap.size := (by go_size)
    have zw1_wH : CellsAt w1 (w.heap.size) 0 [.int .i64 h, .int .i64 i, .int .i64 s, .int .i64 u] := cells_keep (by (simp only [CellsAt]; (first | (go_simp; done) | ((repeat' (with_reducible refine And.intro ?_ ?_)) <;> (repeat' (first | (with_reducible assumption) | (with_reducible exact trivial) | (with_reducible refine kA _ ?_) | (with_reducible refine kD ?_) | (with_reducible refine kS _ ?_ ?_) | (with_reducible refine fA _ ?_ ?_) | (with_reducible refine fD ?_) | (with_reducible refine fS _ ?_) | go_size | (go_simp; done))))))) (fun o => bw1.cell (p := ⟨_, o, none⟩) (by go_size)) (fun o => bw1.frozen (p := ⟨_, o, none⟩) (by go_size))
    simp only [CellsAt] at zw1_wH
    clear bw1
    go_wp2_with fail
    go_region_held3 (fun w' => w'.cell? ⟨w.heap.size, 0, none⟩ = some (.int .i64 h) ∧ w'.cell? ⟨w.heap.size, 1, none⟩ = some (.int .i64 i) ∧ w'.cell? ⟨w.heap.size, 2, none⟩ = some (.int .i64 s) ∧ w'.cell? ⟨w.heap.size, 3, none⟩ = some (.int .i64 u)) (((repeat' (with_reducible refine And.intro ?_ ?_)) <;> (first | (with_reducible assumption) | (go_simp; done) | (repeat' (first | (with_reducible assumption) | (with_reducible refine kA _ ?_) | (with_reducible refine kD ?_) | (with_reducible refine kS _ ?_ ?_) | go_size | (go_simp; done))))))
      (first
        | (go_at_call 40; (with_reducible refine (digits_2 h _ ?a4 ?b4).mono ?_); (case a4 => omega); (case b4 => omega); rintro e w2 ⟨rfl, bw2⟩; have sw2 := bw2.size; (try simp at sw2); have Aw2 : Below w.heap.size w w2 := Below.trans (by (repeat' (first | (with_reducible assumption) | (with_reducible exact Below.refl _ _) | (with_reducible refine bdN ?_ _) | (with_reducible refine Below.alloc ?_ ?_ _) | (with_reducible refine Below.drew ?_) | (with_reducible refine Below.setCell ?_ ?_ _) | go_size))) (bw2.mono (by go_size)); have lw2_0 : w.heap.size < w2.heap.size := (by go_size); have zw2_wH : CellsAt w2 (w.heap.size) 0 [.int .i64 h, .int .i64 i, .int .i64 s, .int .i64 u] := cells_keep (by (simp only [CellsAt]; (first | (go_simp; done) | ((repeat' (with_reducible refine And.intro ?_ ?_)) <;> (repeat' (first | (with_reducible assumption) | (with_reducible exact trivial) | (with_reducible refine kA _ ?_) | (with_reducible refine kD ?_) | (with_reducible refine kS _ ?_ ?_) | (with_reducible refine fA _ ?_ ?_) | (with_reducible refine fD ?_) | (with_reducible refine fS _ ?_) | go_size | (go_simp; done))))))) (fun o => bw2.cell (p := ⟨_, o, none⟩) (by go_size)) (fun o => bw2.frozen (p := ⟨_, o, none⟩) (by go_size)); simp only [CellsAt] at zw2_wH; clear zw1_wH; clear bw2)
        | (go_at_call 40; (with_reducible refine (digits_2 i _ ?a5 ?b5).mono ?_); (case a5 => omega); (case b5 => omega); rintro e w3 ⟨rfl, bw3⟩; have sw3 := bw3.size; (try simp at sw3); have Aw3 : Below w.heap.size w w3 := Below.trans (by (repeat' (first | (with_reducible assumption) | (with_reducible exact Below.refl _ _) | (with_reducible refine bdN ?_ _) | (with_reducible refine Below.alloc ?_ ?_ _) | (with_reducible refine Below.drew ?_) | (with_reducible refine Below.setCell ?_ ?_ _) | go_size))) (bw3.mono (by go_size)); have lw3_0 : w.heap.size < w3.heap.size := (by go_size); have zw3_wH : CellsAt w3 (w.heap.size) 0 [.int .i64 h, .int .i64 i, .int .i64 s, .int .i64 u] := cells_keep (by (simp only [CellsAt]; (first | (go_simp; done) | ((repeat' (with_reducible refine And.intro ?_ ?_)) <;> (repeat' (first | (with_reducible assumption) | (with_reducible exact trivial) | (with_reducible refine kA _ ?_) | (with_reducible refine kD ?_) | (with_reducible refine kS _ ?_ ?_) | (with_reducible refine fA _ ?_ ?_) | (with_reducible refine fD ?_) | (with_reducible refine fS _ ?_) | go_size | (go_simp; done))))))) (fun o => bw3.cell (p := ⟨_, o, none⟩) (by go_size)) (fun o => bw3.frozen (p := ⟨_, o, none⟩) (by go_size)); simp only [CellsAt] at zw3_wH; clear zw2_wH; clear bw3)
        | (go_at_call 40; (with_reducible refine (digits_2 s _ ?a6 ?b6).mono ?_); (case a6 => omega); (case b6 => omega); rintro e w4 ⟨rfl, bw4⟩; have sw4 := bw4.size; (try simp at sw4); have Aw4 : Below w.heap.size w w4 := Below.trans (by (repeat' (first | (with_reducible assumption) | (with_reducible exact Below.refl _ _) | (with_reducible refine bdN ?_ _) | (with_reducible refine Below.alloc ?_ ?_ _) | (with_reducible refine Below.drew ?_) | (with_reducible refine Below.setCell ?_ ?_ _) | go_size))) (bw4.mono (by go_size)); have lw4_0 : w.heap.size < w4.heap.size := (by go_size); have zw4_wH : CellsAt w4 (w.heap.size) 0 [.int .i64 h, .int .i64 i, .int .i64 s, .int .i64 u] := cells_keep (by (simp only [CellsAt]; (first | (go_simp; done) | ((repeat' (with_reducible refine And.intro ?_ ?_)) <;> (repeat' (first | (with_reducible assumption) | (with_reducible exact trivial) | (with_reducible refine kA _ ?_) | (with_reducible refine kD ?_) | (with_reducible refine kS _ ?_ ?_) | (with_reducible refine fA _ ?_ ?_) | (with_reducible refine fD ?_) | (with_reducible refine fS _ ?_) | go_size | (go_simp; done))))))) (fun o => bw4.cell (p := ⟨_, o, none⟩) (by go_size)) (fun o => bw4.frozen (p := ⟨_, o, none⟩) (by go_size)); simp only [CellsAt] at zw4_wH; clear zw3_wH; clear bw4)
      )
    all_goals
      go_wp2_with fail
      refine (digits_3 _ _ (by omega) (by omega)).mono ?_
      rintro e w5 ⟨rfl, bw5⟩
      have sw5 := bw5.size
      (try simp at sw5)
      have Aw5 : Below w.heap.size w w5 := Below.trans (by (repeat' (first | (with_reducible assumption) | (with_reducible exact Below.refl _ _) | (with_reducible refine bdN ?_ _) | (with_reducible refine Below.alloc ?_ ?_ _) | (with_reducible refine Below.drew ?_) | (with_reducible refine Below.setCell ?_ ?_ _) | go_size))) (bw5.mono (by go_size))
      have lw5_0 : w.heap.size < w5.heap.size := (by go_size)
      have zw5_wH : CellsAt w5 (w.heap.size) 0 [.int .i64 h, .int .i64 i, .int .i64 s, .int .i64 u] := cells_keep (by (simp only [CellsAt]; (first | (go_simp; done) | ((repeat' (with_reducible refine And.intro ?_ ?_)) <;> (repeat' (first | (with_reducible assumption) | (with_reducible exact trivial) | (with_reducible refine kA _ ?_) | (with_reducible refine kD ?_) | (with_reducible refine kS _ ?_ ?_) | (with_reducible refine fA _ ?_ ?_) | (with_reducible refine fD ?_) | (with_reducible refine fS _ ?_) | go_size | (go_simp; done))))))) (fun o => bw5.cell (p := ⟨_, o, none⟩) (by go_size)) (fun o => bw5.frozen (p := ⟨_, o, none⟩) (by go_size))
      simp only [CellsAt] at zw5_wH
      clear zw4_wH
      clear bw5
      go_wp2_with fail
      refine (R.out _).mono ?_
      rintro e w' ⟨rfl, rfl⟩
      go_wp2_with fail
      go_ret
      exact ⟨ret_str (by rw [HE.out]; rfl), by (repeat' (first | (with_reducible assumption) | (with_reducible exact Below.refl _ _) | (with_reducible refine bdN ?_ _) | (with_reducible refine Below.alloc ?_ ?_ _) | (with_reducible refine Below.drew ?_) | (with_reducible refine Below.setCell ?_ ?_ _) | go_size))⟩
/-- the digits behind a second, or nothing -/
def fr0 (u : Int) : ByteArray := if u = 0 then ⟨#[]⟩ else frS u
theorem fr0_size (u : Int) : (fr0 u).size ≤ 4 := by
  unfold fr0
  split
  · decide
  · rw [frS_tr, ByteArray.size_append]
    have := trS_size u
    have e : (ByteArray.mk #[46]).size = 1 := rfl
    omega
theorem ckS_fr (h i s u : Int) : ckS h i s u = hmS h i s ++ fr0 u := by
  unfold ckS fr0
  split
  · rw [add_nil]
  · rfl
theorem ckS_size (h i s u : Int) : (ckS h i s u).size ≤ 12 := by
  rw [ckS_fr, ByteArray.size_append, hmS_size]
  have := fr0_size u
  omega
set_option maxHeartbeats 2000000 in
theorem l5Fraction_any (u : Int) (h1 : 0 ≤ u) (h2 : u ≤ 999) (w : World) : Calls Tryd.prog 68 #[.int .i64 u] w fun e w' => e = .returned (.string (fr0 u)) ∧ Below w.heap.size w w' := by
  have hF : fr0 u = if u = 0 then ⟨#[]⟩ else if u % 100 = 0 then ⟨#[46]⟩ ++ dgS 1 (u / 100) else if u % 10 = 0 then ⟨#[46]⟩ ++ dgS 2 (u / 10) else ⟨#[46]⟩ ++ dgS 3 u := rfl
  have z1 := dgS_size 1 (u / 100)
  have z2 := dgS_size 2 (u / 10)
  have z3 := dgS_size 3 u
  by_cases a : u = 0
  · subst a
    go_enter Tryd.func68, Tryd.ntmps68
    go_wp2_with fail
    go_ret
    exact ⟨rfl, by (repeat' (first | (with_reducible assumption) | (with_reducible exact Below.refl _ _) | (with_reducible refine bdN ?_ _) | (with_reducible refine Below.alloc ?_ ?_ _) | (with_reducible refine Below.drew ?_) | (with_reducible refine Below.setCell ?_ ?_ _) | go_size))⟩
  · have a' : (u == 0) = false := by simpa using a
    by_cases b : u % 100 = 0
    · have b' : (u % 100 == 0) = true := by simpa using b
      have HF := Lib.hid (hF.trans ((if_neg a).trans (if_pos b)))
      clear hF a b
      go_enter Tryd.func68, Tryd.ntmps68
      go_wp2_with fail
      refine (l1Put_1 _ _ (by omega) (by omega)).mono ?_
      rintro e w1 ⟨rfl, bw1⟩
      have sw1 := bw1.size
      (try simp at sw1)
      have Aw1 : Below w.heap.size w w1 := Below.trans (by (repeat' (first | (with_reducible assumption) | (with_reducible exact Below.refl _ _) | (with_reducible refine bdN ?_ _) | (with_reducible refine Below.alloc ?_ ?_ _) | (with_reducible refine Below.drew ?_) | (with_reducible refine Below.setCell ?_ ?_ _) | go_size))) (bw1.mono (by go_size))
      clear bw1
      go_wp2_with fail
      go_ret
      exact ⟨ret_str HF.out.symm, by (repeat' (first | (with_reducible assumption) | (with_reducible exact Below.refl _ _) | (with_reducible refine bdN ?_ _) | (with_reducible refine Below.alloc ?_ ?_ _) | (with_reducible refine Below.drew ?_) | (with_reducible refine Below.setCell ?_ ?_ _) | go_size))⟩
    · have b' : (u % 100 == 0) = false := by simpa using b
      by_cases c : u % 10 = 0
      · have c' : (u % 10 == 0) = true := by simpa using c
        have HF := Lib.hid (hF.trans ((if_neg a).trans ((if_neg b).trans (if_pos c))))
        clear hF a b c
        go_enter Tryd.func68, Tryd.ntmps68
        go_wp2_with fail
        refine (l1Put_2 _ _ (by omega) (by omega)).mono ?_
        rintro e w1 ⟨rfl, bw1⟩
        have sw1 := bw1.size
        (try simp at sw1)
        have Aw1 : Below w.heap.size w w1 := Below.trans (by (repeat' (first | (with_reducible assumption) | (with_reducible exact Below.refl _ _) | (with_reducible refine bdN ?_ _) | (with_reducible refine Below.alloc ?_ ?_ _) | (with_reducible refine Below.drew ?_) | (with_reducible refine Below.setCell ?_ ?_ _) | go_size))) (bw1.mono (by go_size))
        clear bw1
        go_wp2_with fail
        go_ret
        exact ⟨ret_str HF.out.symm, by (repeat' (first | (with_reducible assumption) | (with_reducible exact Below.refl _ _) | (with_reducible refine bdN ?_ _) | (with_reducible refine Below.alloc ?_ ?_ _) | (with_reducible refine Below.drew ?_) | (with_reducible refine Below.setCell ?_ ?_ _) | go_size))⟩
      · have c' : (u % 10 == 0) = false := by simpa using c
        have HF := Lib.hid (hF.trans ((if_neg a).trans ((if_neg b).trans (if_neg c))))
        clear hF a b c
        go_enter Tryd.func68, Tryd.ntmps68
        go_wp2_with fail
        refine (l1Put_3 _ _ (by omega) (by omega)).mono ?_
        rintro e w1 ⟨rfl, bw1⟩
        have sw1 := bw1.size
        (try simp at sw1)
        have Aw1 : Below w.heap.size w w1 := Below.trans (by (repeat' (first | (with_reducible assumption) | (with_reducible exact Below.refl _ _) | (with_reducible refine bdN ?_ _) | (with_reducible refine Below.alloc ?_ ?_ _) | (with_reducible refine Below.drew ?_) | (with_reducible refine Below.setCell ?_ ?_ _) | go_size))) (bw1.mono (by go_size))
        clear bw1
        go_wp2_with fail
        go_ret
        exact ⟨ret_str HF.out.symm, by (repeat' (first | (with_reducible assumption) | (with_reducible exact Below.refl _ _) | (with_reducible refine bdN ?_ _) | (with_reducible refine Below.alloc ?_ ?_ _) | (with_reducible refine Below.drew ?_) | (with_reducible refine Below.setCell ?_ ?_ _) | go_size))⟩
set_option maxHeartbeats 4000000 in
theorem l5Text_s (h i s u : Int) (hv : cvB h i s u = true) (w : World) : Calls Tryd.prog 56 #[.agg #[.int .i64 h, .int .i64 i, .int .i64 s, .int .i64 u], .bool true] w fun e w' => e = .returned (.string (ckS h i s u)) ∧ Below w.heap.size w w' := by
  obtain ⟨a1, a2, a3, a4, a5, a6, a7, a8⟩ := cvB_bd hv
  have sz := fun n => dgS_size 2 n
  have R := Lib.hid (fun w => l5Fraction_any u a7 a8 w)
  have E := Lib.hid (ckS_fr h i s u)
  have st := fr0_size u
  clear hv
  have ha := fun wx => add_ok (P := Tryd.prog) ((((dgS 2 h ++ ⟨#[58]⟩) ++ dgS 2 i) ++ ⟨#[58]⟩) ++ dgS 2 s) (fr0 u) 8 4 (by simp only [ByteArray.size_append, dgS_size]; decide) st (by omega) wx
  generalize fr0 u = fr at *
  go_enter Tryd.func56, Tryd.ntmps56
  go_wp2_with fail
  go_region_held3 (fun w' => w'.cell? ⟨w.heap.size, 0, none⟩ = some (.int .i64 h) ∧ w'.cell? ⟨w.heap.size, 1, none⟩ = some (.int .i64 i) ∧ w'.cell? ⟨w.heap.size, 2, none⟩ = some (.int .i64 s) ∧ w'.cell? ⟨w.heap.size, 3, none⟩ = some (.int .i64 u)) (((repeat' (with_reducible refine And.intro ?_ ?_)) <;> (first | (with_reducible assumption) | (go_simp; done) | (repeat' (first | (with_reducible assumption) | (with_reducible refine kA _ ?_) | (with_reducible refine kD ?_) | (with_reducible refine kS _ ?_ ?_) | go_size | (go_simp; done))))))
    (first
      | (go_at_call 22; (with_reducible refine (l1Put_2 h _ ?a1 ?b1).mono ?_); (case a1 => omega); (case b1 => omega); rintro e w2 ⟨rfl, bw2⟩; have sw2 := bw2.size; (try simp at sw2); have Aw2 : Below w.heap.size w w2 := Below.trans (by (repeat' (first | (with_reducible assumption) | (with_reducible exact Below.refl _ _) | (with_reducible refine bdN ?_ _) | (with_reducible refine Below.alloc ?_ ?_ _) | (with_reducible refine Below.drew ?_) | (with_reducible refine Below.setCell ?_ ?_ _) | go_size))) (bw2.mono (by go_size)); have lw2_0 : w.heap.size < w2.heap.size := (by go_size); have zw2_wH : CellsAt w2 (w.heap.size) 0 [.int .i64 h, .int .i64 i, .int .i64 s, .int .i64 u] := cells_keep (by (simp only [CellsAt]; (first | (go_simp; done) | ((repeat' (with_reducible refine And.intro ?_ ?_)) <;> (repeat' (first | (with_reducible assumption) | (with_reducible exact trivial) | (with_reducible refine kA _ ?_) | (with_reducible refine kD ?_) | (with_reducible refine kS _ ?_ ?_) | (with_reducible refine fA _ ?_ ?_) | (with_reducible refine fD ?_) | (with_reducible refine fS _ ?_) | go_size | (go_simp; done))))))) (fun o => bw2.cell (p := ⟨_, o, none⟩) (by go_size)) (fun o => bw2.frozen (p := ⟨_, o, none⟩) (by go_size)); simp only [CellsAt] at zw2_wH; clear bw2)
      | (go_at_call 22; (with_reducible refine (l1Put_2 i _ ?a2 ?b2).mono ?_); (case a2 => omega); (case b2 => omega); rintro e w3 ⟨rfl, bw3⟩; have sw3 := bw3.size; (try simp at sw3); have Aw3 : Below w.heap.size w w3 := Below.trans (by (repeat' (first | (with_reducible assumption) | (with_reducible exact Below.refl _ _) | (with_reducible refine bdN ?_ _) | (with_reducible refine Below.alloc ?_ ?_ _) | (with_reducible refine Below.drew ?_) | (with_reducible refine Below.setCell ?_ ?_ _) | go_size))) (bw3.mono (by go_size)); have lw3_0 : w.heap.size < w3.heap.size := (by go_size); have zw3_wH : CellsAt w3 (w.heap.size) 0 [.int .i64 h, .int .i64 i, .int .i64 s, .int .i64 u] := cells_keep (by (simp only [CellsAt]; (first | (go_simp; done) | ((repeat' (with_reducible refine And.intro ?_ ?_)) <;> (repeat' (first | (with_reducible assumption) | (with_reducible exact trivial) | (with_reducible refine kA _ ?_) | (with_reducible refine kD ?_) | (with_reducible refine kS _ ?_ ?_) | (with_reducible refine fA _ ?_ ?_) | (with_reducible refine fD ?_) | (with_reducible refine fS _ ?_) | go_size | (go_simp; done))))))) (fun o => bw3.cell (p := ⟨_, o, none⟩) (by go_size)) (fun o => bw3.frozen (p := ⟨_, o, none⟩) (by go_size)); simp only [CellsAt] at zw3_wH; clear zw2_wH; clear bw3)
      | (go_at_call 22; (with_reducible refine (l1Put_2 s _ ?a3 ?b3).mono ?_); (case a3 => omega); (case b3 => omega); rintro e w4 ⟨rfl, bw4⟩; have sw4 := bw4.size; (try simp at sw4); have Aw4 : Below w.heap.size w w4 := Below.trans (by (repeat' (first | (with_reducible assumption) | (with_reducible exact Below.refl _ _) | (with_reducible refine bdN ?_ _) | (with_reducible refine Below.alloc ?_ ?_ _) | (with_reducible refine Below.drew ?_) | (with_reducible refine Below.setCell ?_ ?_ _) | go_size))) (bw4.mono (by go_size)); have lw4_0 : w.heap.size < w4.heap.size := (by go_size); have zw4_wH : CellsAt w4 (w.heap.size) 0 [.int .i64 h, .int .i64 i, .int .i64 s, .int .i64 u] := cells_keep (by (simp only [CellsAt]; (first | (go_simp; done) | ((repeat' (with_reducible refine And.intro ?_ ?_)) <;> (repeat' (first | (with_reducible assumption) | (with_reducible exact trivial) | (with_reducible refine kA _ ?_) | (with_reducible refine kD ?_) | (with_reducible refine kS _ ?_ ?_) | (with_reducible refine fA _ ?_ ?_) | (with_reducible refine fD ?_) | (with_reducible refine fS _ ?_) | go_size | (go_simp; done))))))) (fun o => bw4.cell (p := ⟨_, o, none⟩) (by go_size)) (fun o => bw4.frozen (p := ⟨_, o, none⟩) (by go_size)); simp only [CellsAt] at zw4_wH; clear zw3_wH; clear bw4)
      | (go_at_call 68; (with_reducible refine (R.out _).mono ?_); rintro e w5 ⟨rfl, bw5⟩; have sw5 := bw5.size; (try simp at sw5); have Aw5 : Below w.heap.size w w5 := Below.trans (by (repeat' (first | (with_reducible assumption) | (with_reducible exact Below.refl _ _) | (with_reducible refine bdN ?_ _) | (with_reducible refine Below.alloc ?_ ?_ _) | (with_reducible refine Below.drew ?_) | (with_reducible refine Below.setCell ?_ ?_ _) | go_size))) (bw5.mono (by go_size)); have lw5_0 : w.heap.size < w5.heap.size := (by go_size); have zw5_wH : CellsAt w5 (w.heap.size) 0 [.int .i64 h, .int .i64 i, .int .i64 s, .int .i64 u] := cells_keep (by (simp only [CellsAt]; (first | (go_simp; done) | ((repeat' (with_reducible refine And.intro ?_ ?_)) <;> (repeat' (first | (with_reducible assumption) | (with_reducible exact trivial) | (with_reducible refine kA _ ?_) | (with_reducible refine kD ?_) | (with_reducible refine kS _ ?_ ?_) | (with_reducible refine fA _ ?_ ?_) | (with_reducible refine fD ?_) | (with_reducible refine fS _ ?_) | go_size | (go_simp; done))))))) (fun o => bw5.cell (p := ⟨_, o, none⟩) (by go_size)) (fun o => bw5.frozen (p := ⟨_, o, none⟩) (by go_size)); simp only [CellsAt] at zw5_wH; clear zw4_wH; clear bw5)
    )
  all_goals
    go_wp2_with fail
    go_ret
    exact ⟨ret_str (by rw [E.out]; rfl), by (repeat' (first | (with_reducible assumption) | (with_reducible exact Below.refl _ _) | (with_reducible refine bdN ?_ _) | (with_reducible refine Below.alloc ?_ ?_ _) | (with_reducible refine Below.drew ?_) | (with_reducible refine Below.setCell ?_ ?_ _) | go_size))⟩
end Go.Proofs.YtfailbghnpfcdaaDoor
