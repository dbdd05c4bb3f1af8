/- The text of a period: the plain words, and that the reference's PeriodText gives it. No condition. -/
import Derived.Test.YtmdmahgplmijcaaDoorDec
import Derived.Test.YtmdmahgplmijcaaDoorPer
import Derived.Deep.LoopGhost
import Derived.Deep.DeepCutAuto
namespace Go.Proofs.YtmdmahgplmijcaaDoor
open Go.RowKit DN
set_option linter.unusedVariables false
set_option linter.unusedSimpArgs false

theorem add_okS {P : Program} (a b : ByteArray) (n m : Nat) (ha : a.size ≤ n) (hb : b.size ≤ m) (h : n + m ≤ 1000) (wx : World) : (Op.stringOp .add a b).run P wx = .ok (.string (a ++ b)) wx :=
  run_string_add_sum wx a b (by omega)
/-- a part behind a text -/
def stS (out : ByteArray) (n : Int) (c : UInt8) : ByteArray := if 0 < n then out ++ decS n ++ ⟨#[c]⟩ else out
theorem st_p {out : ByteArray} {n : Int} {c : UInt8} (h : 0 < n) : stS out n c = out ++ decS n ++ ⟨#[c]⟩ := if_pos h
theorem st_z {out : ByteArray} {n : Int} {c : UInt8} (h : ¬ 0 < n) : stS out n c = out := if_neg h
theorem st_size (out : ByteArray) (n : Int) (c : UInt8) : (stS out n c).size ≤ out.size + 5 := by
  unfold stS
  split
  · have := decS_size n
    simp only [ByteArray.size_append]
    have : (⟨#[c]⟩ : ByteArray).size = 1 := rfl
    omega
  · omega
/-- a T where there is a time -/
def teS (out : ByteArray) (z : Int) : ByteArray := if 0 < z then out ++ ⟨#[84]⟩ else out
theorem te_size (out : ByteArray) (z : Int) : (teS out z).size ≤ out.size + 1 := by
  unfold teS
  split
  · rw [ByteArray.size_append]; exact Nat.le_refl _
  · omega
/-- the parts' text -/
def ptR (y o d u i s : Int) : ByteArray := stS (stS (stS (teS (stS (stS (stS ⟨#[80]⟩ y 89) o 77) d 68) (u + i + s)) u 72) i 77) s 83
/-- the text of a valid period -/
def ptS (y o d u i s : Int) : ByteArray := if (ptR y o d u i s).toList = [80] then ⟨#[80, 84, 48, 83]⟩ else ptR y o d u i s

set_option maxRecDepth 100000 in
set_option maxHeartbeats 8000000 in
theorem l15Text_s (y o d u i s : Int) (w : World) (h0 : 0 ≤ y) (h1 : y ≤ 9999) (h2 : 0 ≤ o) (h3 : o ≤ 9999) (h4 : 0 ≤ d) (h5 : d ≤ 9999) (h6 : 0 ≤ u) (h7 : u ≤ 9999) (h8 : 0 ≤ i) (h9 : i ≤ 9999) (ha : 0 ≤ s) (hb : s ≤ 9999) :
    Calls Tryd.prog 28 #[.agg #[.int .i64 y, .int .i64 o, .int .i64 d, .int .i64 u, .int .i64 i, .int .i64 s]] w fun e w' => e = .returned (.string (ptS y o d u i s)) ∧ Below w.heap.size w w' := by
  obtain ⟨P0, e0⟩ : ∃ P, (⟨#[80]⟩ : ByteArray) = P := ⟨_, rfl⟩
  obtain ⟨P1, e1⟩ : ∃ P, stS P0 y 89 = P := ⟨_, rfl⟩
  obtain ⟨P2, e2⟩ : ∃ P, stS P1 o 77 = P := ⟨_, rfl⟩
  obtain ⟨P3, e3⟩ : ∃ P, stS P2 d 68 = P := ⟨_, rfl⟩
  obtain ⟨PT, eT⟩ : ∃ P, teS P3 (u + i + s) = P := ⟨_, rfl⟩
  obtain ⟨P4, e4⟩ : ∃ P, stS PT u 72 = P := ⟨_, rfl⟩
  obtain ⟨P5, e5⟩ : ∃ P, stS P4 i 77 = P := ⟨_, rfl⟩
  obtain ⟨P6, e6⟩ : ∃ P, stS P5 s 83 = P := ⟨_, rfl⟩
  have hp : ptS y o d u i s = if P6.toList = [80] then ⟨#[80, 84, 48, 83]⟩ else P6 := by rw [← e6, ← e5, ← e4, ← eT, ← e3, ← e2, ← e1, ← e0]; rfl
  have z0 : P0.size ≤ 1 := by rw [← e0]; decide
  have z1 : P1.size ≤ 6 := by have := st_size P0 y 89; rw [e1] at this; omega
  have z2 : P2.size ≤ 11 := by have := st_size P1 o 77; rw [e2] at this; omega
  have z3 : P3.size ≤ 16 := by have := st_size P2 d 68; rw [e3] at this; omega
  have zT : PT.size ≤ 17 := by have := te_size P3 (u + i + s); rw [eT] at this; omega
  have z4 : P4.size ≤ 22 := by have := st_size PT u 72; rw [e4] at this; omega
  have z5 : P5.size ≤ 27 := by have := st_size P4 i 77; rw [e5] at this; omega
  have z6 : P6.size ≤ 32 := by have := st_size P5 s 83; rw [e6] at this; omega
  have E0 := Lib.hid e0
  have E1 := Lib.hid e1
  have E2 := Lib.hid e2
  have E3 := Lib.hid e3
  have ET := Lib.hid eT
  have E4 := Lib.hid e4
  have E5 := Lib.hid e5
  have E6 := Lib.hid e6
  have HP := Lib.hid hp
  clear e0 e1 e2 e3 eT e4 e5 e6 hp
  have DD := Lib.hid (fun n w h h' => l6Dec_any n w h h')
  go_enter Tryd.func28, Tryd.ntmps28
  go_wp2_with fail
  refine (l15Parts_any _ _ _ _ _ _ _).mono ?_
  rintro e w' ⟨rfl, rfl⟩
  go_wp2_with fail
  go_loopg [4, 5] 6 (fun g out kv wr => CellsAt wr (w.heap.size + 1 + 1) 0 [.int .i64 y, .int .i64 o, .int .i64 d, .int .i64 u, .int .i64 i, .int .i64 s] ∧ w.heap.size + 1 + 1 < wr.heap.size ∧ Below w.heap.size w wr ∧
    ((g = 6 ∧ kv = .int .i64 0 ∧ out = .string P0) ∨ (g = 5 ∧ kv = .int .i64 1 ∧ out = .string P1) ∨ (g = 4 ∧ kv = .int .i64 2 ∧ out = .string P2) ∨ (g = 3 ∧ kv = .int .i64 3 ∧ out = .string P3) ∨ (g = 2 ∧ kv = .int .i64 4 ∧ out = .string P4) ∨ (g = 1 ∧ kv = .int .i64 5 ∧ out = .string P5) ∨ (g = 0 ∧ kv = .int .i64 6 ∧ out = .string P6)))
  case atStart => exact ⟨by (simp only [CellsAt]; (first | (go_simp; done) | ((repeat' (with_reducible refine And.intro ?_ ?_)) <;> (repeat' (first | (with_reducible assumption) | (with_reducible exact trivial) | (with_reducible refine kA _ ?_) | (with_reducible refine kD ?_) | (with_reducible refine kS _ ?_ ?_) | (with_reducible refine fA _ ?_ ?_) | (with_reducible refine fD ?_) | (with_reducible refine fS _ ?_) | go_size | (go_simp; done)))))), by go_size, by (repeat' (first | (with_reducible assumption) | (with_reducible exact Below.refl _ _) | (with_reducible refine bdN ?_ _) | (with_reducible refine Below.alloc ?_ ?_ _) | (with_reducible refine Below.drew ?_) | (with_reducible refine Below.setCell ?_ ?_ _) | go_size)), .inl ⟨rfl, rfl, by rw [← E0.out]⟩⟩
  case round =>
    obtain ⟨zn, hlt, bel, hk⟩ := hrel
    simp only [CellsAt] at zn
    rcases hk with ⟨rfl, rfl, rfl⟩ | ⟨rfl, rfl, rfl⟩ | ⟨rfl, rfl, rfl⟩ | ⟨rfl, rfl, rfl⟩ | ⟨rfl, rfl, rfl⟩ | ⟨rfl, rfl, rfl⟩ | ⟨rfl, rfl, rfl⟩
    · by_cases hx : 0 < y
      · have hE := (st_p (out := P0) (n := y) (c := 89) hx).symm.trans E1.out
        have sD := decS_size y
        have TD := Lib.hid (fun w => l6Dec_any y w (by omega) (by omega))
        obtain ⟨D, hD⟩ : ∃ D, decS y = D := ⟨_, rfl⟩
        rw [hD] at TD hE sD
        have HE := Lib.hid hE
        clear hD hE
        have sl : ∀ wx : World, (Instr.slice 9 (.string ⟨#[89, 77, 68, 72, 77, 83]⟩) (some (.int .i64 0)) (some (.int .i64 1)) none).run Tryd.prog wx = .ok (.string ⟨#[89]⟩) wx := fun _ => by kernel_rfl
        have ad := fun wx => add_okS (P := Tryd.prog) P0 D 40 4 (by omega) sD (by omega) wx
        go_wp2_with fail
        go_quiet (fail)
        go_wp2_with fail
        go_region_with
          (first
            | (go_at_call 38; (with_reducible refine (TD.out _).mono ?_); rintro e w1 ⟨rfl, bw1⟩; have sw1 := bw1.size; (try simp at sw1); have Aw1 : Below w.heap.size w w1 := Below.trans (by (repeat' (first | (with_reducible assumption) | (with_reducible exact Below.refl _ _) | (with_reducible refine bdN ?_ _) | (with_reducible refine Below.alloc ?_ ?_ _) | (with_reducible refine Below.drew ?_) | (with_reducible refine Below.setCell ?_ ?_ _) | go_size))) (bw1.mono (by go_size)); have lw1_0 : w.heap.size+1+1 < w1.heap.size := (by go_size); have zw1_wH11 : CellsAt w1 (w.heap.size+1+1) 0 [.int .i64 y, .int .i64 o, .int .i64 d, .int .i64 u, .int .i64 i, .int .i64 s] := cells_keep (by (simp only [CellsAt]; (first | (go_simp; done) | ((repeat' (with_reducible refine And.intro ?_ ?_)) <;> (repeat' (first | (with_reducible assumption) | (with_reducible exact trivial) | (with_reducible refine kA _ ?_) | (with_reducible refine kD ?_) | (with_reducible refine kS _ ?_ ?_) | (with_reducible refine fA _ ?_ ?_) | (with_reducible refine fD ?_) | (with_reducible refine fS _ ?_) | go_size | (go_simp; done))))))) (fun o => bw1.cell (p := ⟨_, o, none⟩) (by go_size)) (fun o => bw1.frozen (p := ⟨_, o, none⟩) (by go_size)); simp only [CellsAt] at zw1_wH11; clear zn; clear bw1)
          )
        all_goals
          go_wp2_with fail
          go_roundg 5
          case measure => omega
          case rel => exact ⟨by (simp only [CellsAt]; (first | (go_simp; done) | ((repeat' (with_reducible refine And.intro ?_ ?_)) <;> (repeat' (first | (with_reducible assumption) | (with_reducible exact trivial) | (with_reducible refine kA _ ?_) | (with_reducible refine kD ?_) | (with_reducible refine kS _ ?_ ?_) | (with_reducible refine fA _ ?_ ?_) | (with_reducible refine fD ?_) | (with_reducible refine fS _ ?_) | go_size | (go_simp; done)))))), by go_size, by (repeat' (first | (with_reducible assumption) | (with_reducible exact Below.refl _ _) | (with_reducible refine bdN ?_ _) | (with_reducible refine Below.alloc ?_ ?_ _) | (with_reducible refine Below.drew ?_) | (with_reducible refine Below.setCell ?_ ?_ _) | go_size)), .inr (.inl ⟨rfl, by first | rfl | go_num, by rw [← HE.out] <;> rfl⟩)⟩
      · have HE := Lib.hid ((st_z (out := P0) (n := y) (c := 89) hx).symm.trans E1.out)
        go_wp2_with fail
        go_quiet (fail)
        go_wp2_with fail
        go_roundg 5
        case measure => omega
        case rel => exact ⟨by (simp only [CellsAt]; (first | (go_simp; done) | ((repeat' (with_reducible refine And.intro ?_ ?_)) <;> (repeat' (first | (with_reducible assumption) | (with_reducible exact trivial) | (with_reducible refine kA _ ?_) | (with_reducible refine kD ?_) | (with_reducible refine kS _ ?_ ?_) | (with_reducible refine fA _ ?_ ?_) | (with_reducible refine fD ?_) | (with_reducible refine fS _ ?_) | go_size | (go_simp; done)))))), by go_size, by (repeat' (first | (with_reducible assumption) | (with_reducible exact Below.refl _ _) | (with_reducible refine bdN ?_ _) | (with_reducible refine Below.alloc ?_ ?_ _) | (with_reducible refine Below.drew ?_) | (with_reducible refine Below.setCell ?_ ?_ _) | go_size)), .inr (.inl ⟨rfl, by first | rfl | go_num, by rw [← HE.out] <;> rfl⟩)⟩
    · by_cases hx : 0 < o
      · have hE := (st_p (out := P1) (n := o) (c := 77) hx).symm.trans E2.out
        have sD := decS_size o
        have TD := Lib.hid (fun w => l6Dec_any o w (by omega) (by omega))
        obtain ⟨D, hD⟩ : ∃ D, decS o = D := ⟨_, rfl⟩
        rw [hD] at TD hE sD
        have HE := Lib.hid hE
        clear hD hE
        have sl : ∀ wx : World, (Instr.slice 9 (.string ⟨#[89, 77, 68, 72, 77, 83]⟩) (some (.int .i64 1)) (some (.int .i64 2)) none).run Tryd.prog wx = .ok (.string ⟨#[77]⟩) wx := fun _ => by kernel_rfl
        have ad := fun wx => add_okS (P := Tryd.prog) P1 D 40 4 (by omega) sD (by omega) wx
        go_wp2_with fail
        go_quiet (fail)
        go_wp2_with fail
        go_region_with
          (first
            | (go_at_call 38; (with_reducible refine (TD.out _).mono ?_); rintro e w1 ⟨rfl, bw1⟩; have sw1 := bw1.size; (try simp at sw1); have Aw1 : Below w.heap.size w w1 := Below.trans (by (repeat' (first | (with_reducible assumption) | (with_reducible exact Below.refl _ _) | (with_reducible refine bdN ?_ _) | (with_reducible refine Below.alloc ?_ ?_ _) | (with_reducible refine Below.drew ?_) | (with_reducible refine Below.setCell ?_ ?_ _) | go_size))) (bw1.mono (by go_size)); have lw1_0 : w.heap.size+1+1 < w1.heap.size := (by go_size); have zw1_wH11 : CellsAt w1 (w.heap.size+1+1) 0 [.int .i64 y, .int .i64 o, .int .i64 d, .int .i64 u, .int .i64 i, .int .i64 s] := cells_keep (by (simp only [CellsAt]; (first | (go_simp; done) | ((repeat' (with_reducible refine And.intro ?_ ?_)) <;> (repeat' (first | (with_reducible assumption) | (with_reducible exact trivial) | (with_reducible refine kA _ ?_) | (with_reducible refine kD ?_) | (with_reducible refine kS _ ?_ ?_) | (with_reducible refine fA _ ?_ ?_) | (with_reducible refine fD ?_) | (with_reducible refine fS _ ?_) | go_size | (go_simp; done))))))) (fun o => bw1.cell (p := ⟨_, o, none⟩) (by go_size)) (fun o => bw1.frozen (p := ⟨_, o, none⟩) (by go_size)); simp only [CellsAt] at zw1_wH11; clear zn; clear bw1)
          )
        all_goals
          go_wp2_with fail
          go_roundg 4
          case measure => omega
          case rel => exact ⟨by (simp only [CellsAt]; (first | (go_simp; done) | ((repeat' (with_reducible refine And.intro ?_ ?_)) <;> (repeat' (first | (with_reducible assumption) | (with_reducible exact trivial) | (with_reducible refine kA _ ?_) | (with_reducible refine kD ?_) | (with_reducible refine kS _ ?_ ?_) | (with_reducible refine fA _ ?_ ?_) | (with_reducible refine fD ?_) | (with_reducible refine fS _ ?_) | go_size | (go_simp; done)))))), by go_size, by (repeat' (first | (with_reducible assumption) | (with_reducible exact Below.refl _ _) | (with_reducible refine bdN ?_ _) | (with_reducible refine Below.alloc ?_ ?_ _) | (with_reducible refine Below.drew ?_) | (with_reducible refine Below.setCell ?_ ?_ _) | go_size)), .inr (.inr (.inl ⟨rfl, by first | rfl | go_num, by rw [← HE.out] <;> rfl⟩))⟩
      · have HE := Lib.hid ((st_z (out := P1) (n := o) (c := 77) hx).symm.trans E2.out)
        go_wp2_with fail
        go_quiet (fail)
        go_wp2_with fail
        go_roundg 4
        case measure => omega
        case rel => exact ⟨by (simp only [CellsAt]; (first | (go_simp; done) | ((repeat' (with_reducible refine And.intro ?_ ?_)) <;> (repeat' (first | (with_reducible assumption) | (with_reducible exact trivial) | (with_reducible refine kA _ ?_) | (with_reducible refine kD ?_) | (with_reducible refine kS _ ?_ ?_) | (with_reducible refine fA _ ?_ ?_) | (with_reducible refine fD ?_) | (with_reducible refine fS _ ?_) | go_size | (go_simp; done)))))), by go_size, by (repeat' (first | (with_reducible assumption) | (with_reducible exact Below.refl _ _) | (with_reducible refine bdN ?_ _) | (with_reducible refine Below.alloc ?_ ?_ _) | (with_reducible refine Below.drew ?_) | (with_reducible refine Below.setCell ?_ ?_ _) | go_size)), .inr (.inr (.inl ⟨rfl, by first | rfl | go_num, by rw [← HE.out] <;> rfl⟩))⟩
    · by_cases hx : 0 < d
      · have hE := (st_p (out := P2) (n := d) (c := 68) hx).symm.trans E3.out
        have sD := decS_size d
        have TD := Lib.hid (fun w => l6Dec_any d w (by omega) (by omega))
        obtain ⟨D, hD⟩ : ∃ D, decS d = D := ⟨_, rfl⟩
        rw [hD] at TD hE sD
        have HE := Lib.hid hE
        clear hD hE
        have sl : ∀ wx : World, (Instr.slice 9 (.string ⟨#[89, 77, 68, 72, 77, 83]⟩) (some (.int .i64 2)) (some (.int .i64 3)) none).run Tryd.prog wx = .ok (.string ⟨#[68]⟩) wx := fun _ => by kernel_rfl
        have ad := fun wx => add_okS (P := Tryd.prog) P2 D 40 4 (by omega) sD (by omega) wx
        go_wp2_with fail
        go_quiet (fail)
        go_wp2_with fail
        go_region_with
          (first
            | (go_at_call 38; (with_reducible refine (TD.out _).mono ?_); rintro e w1 ⟨rfl, bw1⟩; have sw1 := bw1.size; (try simp at sw1); have Aw1 : Below w.heap.size w w1 := Below.trans (by (repeat' (first | (with_reducible assumption) | (with_reducible exact Below.refl _ _) | (with_reducible refine bdN ?_ _) | (with_reducible refine Below.alloc ?_ ?_ _) | (with_reducible refine Below.drew ?_) | (with_reducible refine Below.setCell ?_ ?_ _) | go_size))) (bw1.mono (by go_size)); have lw1_0 : w.heap.size+1+1 < w1.heap.size := (by go_size); have zw1_wH11 : CellsAt w1 (w.heap.size+1+1) 0 [.int .i64 y, .int .i64 o, .int .i64 d, .int .i64 u, .int .i64 i, .int .i64 s] := cells_keep (by (simp only [CellsAt]; (first | (go_simp; done) | ((repeat' (with_reducible refine And.intro ?_ ?_)) <;> (repeat' (first | (with_reducible assumption) | (with_reducible exact trivial) | (with_reducible refine kA _ ?_) | (with_reducible refine kD ?_) | (with_reducible refine kS _ ?_ ?_) | (with_reducible refine fA _ ?_ ?_) | (with_reducible refine fD ?_) | (with_reducible refine fS _ ?_) | go_size | (go_simp; done))))))) (fun o => bw1.cell (p := ⟨_, o, none⟩) (by go_size)) (fun o => bw1.frozen (p := ⟨_, o, none⟩) (by go_size)); simp only [CellsAt] at zw1_wH11; clear zn; clear bw1)
          )
        all_goals
          go_wp2_with fail
          go_roundg 3
          case measure => omega
          case rel => exact ⟨by (simp only [CellsAt]; (first | (go_simp; done) | ((repeat' (with_reducible refine And.intro ?_ ?_)) <;> (repeat' (first | (with_reducible assumption) | (with_reducible exact trivial) | (with_reducible refine kA _ ?_) | (with_reducible refine kD ?_) | (with_reducible refine kS _ ?_ ?_) | (with_reducible refine fA _ ?_ ?_) | (with_reducible refine fD ?_) | (with_reducible refine fS _ ?_) | go_size | (go_simp; done)))))), by go_size, by (repeat' (first | (with_reducible assumption) | (with_reducible exact Below.refl _ _) | (with_reducible refine bdN ?_ _) | (with_reducible refine Below.alloc ?_ ?_ _) | (with_reducible refine Below.drew ?_) | (with_reducible refine Below.setCell ?_ ?_ _) | go_size)), .inr (.inr (.inr (.inl ⟨rfl, by first | rfl | go_num, by rw [← HE.out] <;> rfl⟩)))⟩
      · have HE := Lib.hid ((st_z (out := P2) (n := d) (c := 68) hx).symm.trans E3.out)
        go_wp2_with fail
        go_quiet (fail)
        go_wp2_with fail
        go_roundg 3
        case measure => omega
        case rel => exact ⟨by (simp only [CellsAt]; (first | (go_simp; done) | ((repeat' (with_reducible refine And.intro ?_ ?_)) <;> (repeat' (first | (with_reducible assumption) | (with_reducible exact trivial) | (with_reducible refine kA _ ?_) | (with_reducible refine kD ?_) | (with_reducible refine kS _ ?_ ?_) | (with_reducible refine fA _ ?_ ?_) | (with_reducible refine fD ?_) | (with_reducible refine fS _ ?_) | go_size | (go_simp; done)))))), by go_size, by (repeat' (first | (with_reducible assumption) | (with_reducible exact Below.refl _ _) | (with_reducible refine bdN ?_ _) | (with_reducible refine Below.alloc ?_ ?_ _) | (with_reducible refine Below.drew ?_) | (with_reducible refine Below.setCell ?_ ?_ _) | go_size)), .inr (.inr (.inr (.inl ⟨rfl, by first | rfl | go_num, by rw [← HE.out] <;> rfl⟩)))⟩
    · by_cases hT : 0 < u + i + s
      · have hT2 := (show P3 ++ ⟨#[84]⟩ = PT from (if_pos hT).symm.trans ET.out)
        have HT2 := Lib.hid hT2
        clear hT2
        have wr1 : IntKind.i64.wrap (u + i) = u + i := IntWalk.i64_in _ (by omega)
        have wr2 : IntKind.i64.wrap (u + i + s) = u + i + s := IntWalk.i64_in _ (by omega)
        by_cases hx : 0 < u
        · have hE := (st_p (out := PT) (n := u) (c := 72) hx).symm.trans E4.out
          rw [← HT2.out] at hE
          have sD := decS_size u
          have TD := Lib.hid (fun w => l6Dec_any u w (by omega) (by omega))
          obtain ⟨D, hD⟩ : ∃ D, decS u = D := ⟨_, rfl⟩
          rw [hD] at TD hE sD
          have HE := Lib.hid hE
          clear hD hE
          have sl : ∀ wx : World, (Instr.slice 9 (.string ⟨#[89, 77, 68, 72, 77, 83]⟩) (some (.int .i64 3)) (some (.int .i64 4)) none).run Tryd.prog wx = .ok (.string ⟨#[72]⟩) wx := fun _ => by kernel_rfl
          have ad := fun wx => add_okS (P := Tryd.prog) (P3 ++ ⟨#[84]⟩) D 41 4 (by rw [ByteArray.size_append]; have : (⟨#[84]⟩ : ByteArray).size = 1 := rfl; omega) sD (by omega) wx
          go_wp2_with fail
          go_quiet (fail)
          go_wp2_with fail
          go_region_with
            (first
              | (go_at_call 38; (with_reducible refine (TD.out _).mono ?_); rintro e w1 ⟨rfl, bw1⟩; have sw1 := bw1.size; (try simp at sw1); have Aw1 : Below w.heap.size w w1 := Below.trans (by (repeat' (first | (with_reducible assumption) | (with_reducible exact Below.refl _ _) | (with_reducible refine bdN ?_ _) | (with_reducible refine Below.alloc ?_ ?_ _) | (with_reducible refine Below.drew ?_) | (with_reducible refine Below.setCell ?_ ?_ _) | go_size))) (bw1.mono (by go_size)); have lw1_0 : w.heap.size+1+1 < w1.heap.size := (by go_size); have zw1_wH11 : CellsAt w1 (w.heap.size+1+1) 0 [.int .i64 y, .int .i64 o, .int .i64 d, .int .i64 u, .int .i64 i, .int .i64 s] := cells_keep (by (simp only [CellsAt]; (first | (go_simp; done) | ((repeat' (with_reducible refine And.intro ?_ ?_)) <;> (repeat' (first | (with_reducible assumption) | (with_reducible exact trivial) | (with_reducible refine kA _ ?_) | (with_reducible refine kD ?_) | (with_reducible refine kS _ ?_ ?_) | (with_reducible refine fA _ ?_ ?_) | (with_reducible refine fD ?_) | (with_reducible refine fS _ ?_) | go_size | (go_simp; done))))))) (fun o => bw1.cell (p := ⟨_, o, none⟩) (by go_size)) (fun o => bw1.frozen (p := ⟨_, o, none⟩) (by go_size)); simp only [CellsAt] at zw1_wH11; clear zn; clear bw1)
            )
          all_goals
            go_wp2_with fail
            go_roundg 2
            case measure => omega
            case rel => exact ⟨by (simp only [CellsAt]; (first | (go_simp; done) | ((repeat' (with_reducible refine And.intro ?_ ?_)) <;> (repeat' (first | (with_reducible assumption) | (with_reducible exact trivial) | (with_reducible refine kA _ ?_) | (with_reducible refine kD ?_) | (with_reducible refine kS _ ?_ ?_) | (with_reducible refine fA _ ?_ ?_) | (with_reducible refine fD ?_) | (with_reducible refine fS _ ?_) | go_size | (go_simp; done)))))), by go_size, by (repeat' (first | (with_reducible assumption) | (with_reducible exact Below.refl _ _) | (with_reducible refine bdN ?_ _) | (with_reducible refine Below.alloc ?_ ?_ _) | (with_reducible refine Below.drew ?_) | (with_reducible refine Below.setCell ?_ ?_ _) | go_size)), .inr (.inr (.inr (.inr (.inl ⟨rfl, by first | rfl | go_num, by rw [← HE.out] <;> rfl⟩))))⟩
        · have hE := (st_z (out := PT) (n := u) (c := 72) hx).symm.trans E4.out
          rw [← HT2.out] at hE
          have HE := Lib.hid hE
          clear hE
          go_wp2_with fail
          go_quiet (fail)
          go_wp2_with fail
          go_roundg 2
          case measure => omega
          case rel => exact ⟨by (simp only [CellsAt]; (first | (go_simp; done) | ((repeat' (with_reducible refine And.intro ?_ ?_)) <;> (repeat' (first | (with_reducible assumption) | (with_reducible exact trivial) | (with_reducible refine kA _ ?_) | (with_reducible refine kD ?_) | (with_reducible refine kS _ ?_ ?_) | (with_reducible refine fA _ ?_ ?_) | (with_reducible refine fD ?_) | (with_reducible refine fS _ ?_) | go_size | (go_simp; done)))))), by go_size, by (repeat' (first | (with_reducible assumption) | (with_reducible exact Below.refl _ _) | (with_reducible refine bdN ?_ _) | (with_reducible refine Below.alloc ?_ ?_ _) | (with_reducible refine Below.drew ?_) | (with_reducible refine Below.setCell ?_ ?_ _) | go_size)), .inr (.inr (.inr (.inr (.inl ⟨rfl, by first | rfl | go_num, by rw [← HE.out] <;> rfl⟩))))⟩
      · have hx : ¬ 0 < u := by omega
        have hE := (st_z (out := PT) (n := u) (c := 72) hx).symm.trans E4.out
        rw [← (show P3 = PT from (if_neg hT).symm.trans ET.out)] at hE
        have HE := Lib.hid hE
        clear hE
        have wr1 : IntKind.i64.wrap (u + i) = u + i := IntWalk.i64_in _ (by omega)
        have wr2 : IntKind.i64.wrap (u + i + s) = u + i + s := IntWalk.i64_in _ (by omega)
        go_wp2_with fail
        go_quiet (fail)
        go_wp2_with fail
        go_roundg 2
        case measure => omega
        case rel => exact ⟨by (simp only [CellsAt]; (first | (go_simp; done) | ((repeat' (with_reducible refine And.intro ?_ ?_)) <;> (repeat' (first | (with_reducible assumption) | (with_reducible exact trivial) | (with_reducible refine kA _ ?_) | (with_reducible refine kD ?_) | (with_reducible refine kS _ ?_ ?_) | (with_reducible refine fA _ ?_ ?_) | (with_reducible refine fD ?_) | (with_reducible refine fS _ ?_) | go_size | (go_simp; done)))))), by go_size, by (repeat' (first | (with_reducible assumption) | (with_reducible exact Below.refl _ _) | (with_reducible refine bdN ?_ _) | (with_reducible refine Below.alloc ?_ ?_ _) | (with_reducible refine Below.drew ?_) | (with_reducible refine Below.setCell ?_ ?_ _) | go_size)), .inr (.inr (.inr (.inr (.inl ⟨rfl, by first | rfl | go_num, by rw [← HE.out] <;> rfl⟩))))⟩
    · by_cases hx : 0 < i
      · have hE := (st_p (out := P4) (n := i) (c := 77) hx).symm.trans E5.out
        have sD := decS_size i
        have TD := Lib.hid (fun w => l6Dec_any i w (by omega) (by omega))
        obtain ⟨D, hD⟩ : ∃ D, decS i = D := ⟨_, rfl⟩
        rw [hD] at TD hE sD
        have HE := Lib.hid hE
        clear hD hE
        have sl : ∀ wx : World, (Instr.slice 9 (.string ⟨#[89, 77, 68, 72, 77, 83]⟩) (some (.int .i64 4)) (some (.int .i64 5)) none).run Tryd.prog wx = .ok (.string ⟨#[77]⟩) wx := fun _ => by kernel_rfl
        have ad := fun wx => add_okS (P := Tryd.prog) P4 D 40 4 (by omega) sD (by omega) wx
        go_wp2_with fail
        go_quiet (fail)
        go_wp2_with fail
        go_region_with
          (first
            | (go_at_call 38; (with_reducible refine (TD.out _).mono ?_); rintro e w1 ⟨rfl, bw1⟩; have sw1 := bw1.size; (try simp at sw1); have Aw1 : Below w.heap.size w w1 := Below.trans (by (repeat' (first | (with_reducible assumption) | (with_reducible exact Below.refl _ _) | (with_reducible refine bdN ?_ _) | (with_reducible refine Below.alloc ?_ ?_ _) | (with_reducible refine Below.drew ?_) | (with_reducible refine Below.setCell ?_ ?_ _) | go_size))) (bw1.mono (by go_size)); have lw1_0 : w.heap.size+1+1 < w1.heap.size := (by go_size); have zw1_wH11 : CellsAt w1 (w.heap.size+1+1) 0 [.int .i64 y, .int .i64 o, .int .i64 d, .int .i64 u, .int .i64 i, .int .i64 s] := cells_keep (by (simp only [CellsAt]; (first | (go_simp; done) | ((repeat' (with_reducible refine And.intro ?_ ?_)) <;> (repeat' (first | (with_reducible assumption) | (with_reducible exact trivial) | (with_reducible refine kA _ ?_) | (with_reducible refine kD ?_) | (with_reducible refine kS _ ?_ ?_) | (with_reducible refine fA _ ?_ ?_) | (with_reducible refine fD ?_) | (with_reducible refine fS _ ?_) | go_size | (go_simp; done))))))) (fun o => bw1.cell (p := ⟨_, o, none⟩) (by go_size)) (fun o => bw1.frozen (p := ⟨_, o, none⟩) (by go_size)); simp only [CellsAt] at zw1_wH11; clear zn; clear bw1)
          )
        all_goals
          go_wp2_with fail
          go_roundg 1
          case measure => omega
          case rel => exact ⟨by (simp only [CellsAt]; (first | (go_simp; done) | ((repeat' (with_reducible refine And.intro ?_ ?_)) <;> (repeat' (first | (with_reducible assumption) | (with_reducible exact trivial) | (with_reducible refine kA _ ?_) | (with_reducible refine kD ?_) | (with_reducible refine kS _ ?_ ?_) | (with_reducible refine fA _ ?_ ?_) | (with_reducible refine fD ?_) | (with_reducible refine fS _ ?_) | go_size | (go_simp; done)))))), by go_size, by (repeat' (first | (with_reducible assumption) | (with_reducible exact Below.refl _ _) | (with_reducible refine bdN ?_ _) | (with_reducible refine Below.alloc ?_ ?_ _) | (with_reducible refine Below.drew ?_) | (with_reducible refine Below.setCell ?_ ?_ _) | go_size)), .inr (.inr (.inr (.inr (.inr (.inl ⟨rfl, by first | rfl | go_num, by rw [← HE.out] <;> rfl⟩)))))⟩
      · have HE := Lib.hid ((st_z (out := P4) (n := i) (c := 77) hx).symm.trans E5.out)
        go_wp2_with fail
        go_quiet (fail)
        go_wp2_with fail
        go_roundg 1
        case measure => omega
        case rel => exact ⟨by (simp only [CellsAt]; (first | (go_simp; done) | ((repeat' (with_reducible refine And.intro ?_ ?_)) <;> (repeat' (first | (with_reducible assumption) | (with_reducible exact trivial) | (with_reducible refine kA _ ?_) | (with_reducible refine kD ?_) | (with_reducible refine kS _ ?_ ?_) | (with_reducible refine fA _ ?_ ?_) | (with_reducible refine fD ?_) | (with_reducible refine fS _ ?_) | go_size | (go_simp; done)))))), by go_size, by (repeat' (first | (with_reducible assumption) | (with_reducible exact Below.refl _ _) | (with_reducible refine bdN ?_ _) | (with_reducible refine Below.alloc ?_ ?_ _) | (with_reducible refine Below.drew ?_) | (with_reducible refine Below.setCell ?_ ?_ _) | go_size)), .inr (.inr (.inr (.inr (.inr (.inl ⟨rfl, by first | rfl | go_num, by rw [← HE.out] <;> rfl⟩)))))⟩
    · by_cases hx : 0 < s
      · have hE := (st_p (out := P5) (n := s) (c := 83) hx).symm.trans E6.out
        have sD := decS_size s
        have TD := Lib.hid (fun w => l6Dec_any s w (by omega) (by omega))
        obtain ⟨D, hD⟩ : ∃ D, decS s = D := ⟨_, rfl⟩
        rw [hD] at TD hE sD
        have HE := Lib.hid hE
        clear hD hE
        have sl : ∀ wx : World, (Instr.slice 9 (.string ⟨#[89, 77, 68, 72, 77, 83]⟩) (some (.int .i64 5)) (some (.int .i64 6)) none).run Tryd.prog wx = .ok (.string ⟨#[83]⟩) wx := fun _ => by kernel_rfl
        have ad := fun wx => add_okS (P := Tryd.prog) P5 D 40 4 (by omega) sD (by omega) wx
        go_wp2_with fail
        go_quiet (fail)
        go_wp2_with fail
        go_region_with
          (first
            | (go_at_call 38; (with_reducible refine (TD.out _).mono ?_); rintro e w1 ⟨rfl, bw1⟩; have sw1 := bw1.size; (try simp at sw1); have Aw1 : Below w.heap.size w w1 := Below.trans (by (repeat' (first | (with_reducible assumption) | (with_reducible exact Below.refl _ _) | (with_reducible refine bdN ?_ _) | (with_reducible refine Below.alloc ?_ ?_ _) | (with_reducible refine Below.drew ?_) | (with_reducible refine Below.setCell ?_ ?_ _) | go_size))) (bw1.mono (by go_size)); have lw1_0 : w.heap.size+1+1 < w1.heap.size := (by go_size); have zw1_wH11 : CellsAt w1 (w.heap.size+1+1) 0 [.int .i64 y, .int .i64 o, .int .i64 d, .int .i64 u, .int .i64 i, .int .i64 s] := cells_keep (by (simp only [CellsAt]; (first | (go_simp; done) | ((repeat' (with_reducible refine And.intro ?_ ?_)) <;> (repeat' (first | (with_reducible assumption) | (with_reducible exact trivial) | (with_reducible refine kA _ ?_) | (with_reducible refine kD ?_) | (with_reducible refine kS _ ?_ ?_) | (with_reducible refine fA _ ?_ ?_) | (with_reducible refine fD ?_) | (with_reducible refine fS _ ?_) | go_size | (go_simp; done))))))) (fun o => bw1.cell (p := ⟨_, o, none⟩) (by go_size)) (fun o => bw1.frozen (p := ⟨_, o, none⟩) (by go_size)); simp only [CellsAt] at zw1_wH11; clear zn; clear bw1)
          )
        all_goals
          go_wp2_with fail
          go_roundg 0
          case measure => omega
          case rel => exact ⟨by (simp only [CellsAt]; (first | (go_simp; done) | ((repeat' (with_reducible refine And.intro ?_ ?_)) <;> (repeat' (first | (with_reducible assumption) | (with_reducible exact trivial) | (with_reducible refine kA _ ?_) | (with_reducible refine kD ?_) | (with_reducible refine kS _ ?_ ?_) | (with_reducible refine fA _ ?_ ?_) | (with_reducible refine fD ?_) | (with_reducible refine fS _ ?_) | go_size | (go_simp; done)))))), by go_size, by (repeat' (first | (with_reducible assumption) | (with_reducible exact Below.refl _ _) | (with_reducible refine bdN ?_ _) | (with_reducible refine Below.alloc ?_ ?_ _) | (with_reducible refine Below.drew ?_) | (with_reducible refine Below.setCell ?_ ?_ _) | go_size)), .inr (.inr (.inr (.inr (.inr (.inr (⟨rfl, by first | rfl | go_num, by rw [← HE.out] <;> rfl⟩))))))⟩
      · have HE := Lib.hid ((st_z (out := P5) (n := s) (c := 83) hx).symm.trans E6.out)
        go_wp2_with fail
        go_quiet (fail)
        go_wp2_with fail
        go_roundg 0
        case measure => omega
        case rel => exact ⟨by (simp only [CellsAt]; (first | (go_simp; done) | ((repeat' (with_reducible refine And.intro ?_ ?_)) <;> (repeat' (first | (with_reducible assumption) | (with_reducible exact trivial) | (with_reducible refine kA _ ?_) | (with_reducible refine kD ?_) | (with_reducible refine kS _ ?_ ?_) | (with_reducible refine fA _ ?_ ?_) | (with_reducible refine fD ?_) | (with_reducible refine fS _ ?_) | go_size | (go_simp; done)))))), by go_size, by (repeat' (first | (with_reducible assumption) | (with_reducible exact Below.refl _ _) | (with_reducible refine bdN ?_ _) | (with_reducible refine Below.alloc ?_ ?_ _) | (with_reducible refine Below.drew ?_) | (with_reducible refine Below.setCell ?_ ?_ _) | go_size)), .inr (.inr (.inr (.inr (.inr (.inr (⟨rfl, by first | rfl | go_num, by rw [← HE.out] <;> rfl⟩))))))⟩
    · by_cases hx : P6.toList = [80]
      · have hb : (P6.toList == [80]) = true := by rw [hx]; rfl
        have HE := Lib.hid (HP.out.trans (if_pos hx))
        clear hx
        go_wp2_with fail
        go_ret
        exact ⟨by rw [HE.out] <;> rfl, by (repeat' (first | (with_reducible assumption) | (with_reducible exact Below.refl _ _) | (with_reducible refine bdN ?_ _) | (with_reducible refine Below.alloc ?_ ?_ _) | (with_reducible refine Below.drew ?_) | (with_reducible refine Below.setCell ?_ ?_ _) | go_size))⟩
      · have hb : (P6.toList == [80]) = false := by simpa using hx
        have HE := Lib.hid (HP.out.trans (if_neg hx))
        clear hx
        go_wp2_with fail
        go_ret
        exact ⟨by rw [HE.out] <;> rfl, by (repeat' (first | (with_reducible assumption) | (with_reducible exact Below.refl _ _) | (with_reducible refine bdN ?_ _) | (with_reducible refine Below.alloc ?_ ?_ _) | (with_reducible refine Below.drew ?_) | (with_reducible refine Below.setCell ?_ ?_ _) | go_size))⟩

theorem pvB_bd {y o d u i s : Int} (h : pvB y o d u i s = true) : (0 ≤ y ∧ y ≤ 9999) ∧ (0 ≤ o ∧ o ≤ 9999) ∧ (0 ≤ d ∧ d ≤ 9999) ∧ (0 ≤ u ∧ u ≤ 9999) ∧ (0 ≤ i ∧ i ≤ 9999) ∧ (0 ≤ s ∧ s ≤ 9999) := by
  unfold pvB at h
  simp only [Bool.and_eq_true, inB_iff] at h
  omega
/-- the text of a period -/
def ptA (y o d u i s : Int) : ByteArray := if pvB y o d u i s = true then ptS y o d u i s else ⟨#[]⟩
theorem ptR_size (y o d u i s : Int) : (ptR y o d u i s).size ≤ 32 := by
  unfold ptR
  have h1 := st_size ⟨#[80]⟩ y 89
  have h2 := st_size (stS ⟨#[80]⟩ y 89) o 77
  have h3 := st_size (stS (stS ⟨#[80]⟩ y 89) o 77) d 68
  have h4 := te_size (stS (stS (stS ⟨#[80]⟩ y 89) o 77) d 68) (u + i + s)
  have h5 := st_size (teS (stS (stS (stS ⟨#[80]⟩ y 89) o 77) d 68) (u + i + s)) u 72
  have h6 := st_size (stS (teS (stS (stS (stS ⟨#[80]⟩ y 89) o 77) d 68) (u + i + s)) u 72) i 77
  have h7 := st_size (stS (stS (teS (stS (stS (stS ⟨#[80]⟩ y 89) o 77) d 68) (u + i + s)) u 72) i 77) s 83
  have h0 : (⟨#[80]⟩ : ByteArray).size = 1 := rfl
  omega
theorem ptA_size (y o d u i s : Int) : (ptA y o d u i s).size ≤ 32 := by
  unfold ptA ptS
  split
  · split
    · decide
    · exact ptR_size y o d u i s
  · decide
set_option maxRecDepth 100000 in
set_option maxHeartbeats 1000000 in
theorem PeriodText_s (y o d u i s : Int) (w : World) : Calls Tryd.prog 13 #[.agg #[.int .i64 y, .int .i64 o, .int .i64 d, .int .i64 u, .int .i64 i, .int .i64 s]] w fun e w' => e = .returned (.string (ptA y o d u i s)) ∧ Below w.heap.size w w' := by
  cases h : pvB y o d u i s
  · have V := Lib.hid (pv_spec_b y o d u i s false h)
    rw [show ptA y o d u i s = ⟨#[]⟩ from if_neg (by rw [h]; exact Bool.false_ne_true)]
    clear h
    go_enter Tryd.func13, Tryd.ntmps13
    go_wp2_with fail
    refine (V.out _).mono ?_
    rintro e w1 ⟨rfl, bw1⟩
    have sw1 := bw1.size
    (try simp at sw1)
    have Aw1 : Below w.heap.size w w1 := Below.trans (by (repeat' (first | (with_reducible assumption) | (with_reducible exact Below.refl _ _) | (with_reducible refine bdN ?_ _) | (with_reducible refine Below.alloc ?_ ?_ _) | (with_reducible refine Below.drew ?_) | (with_reducible refine Below.setCell ?_ ?_ _) | go_size))) (bw1.mono (by go_size))
    have lw1_0 : w.heap.size < w1.heap.size := (by go_size)
    have zw1_wH : CellsAt w1 (w.heap.size) 0 [.int .i64 y, .int .i64 o, .int .i64 d, .int .i64 u, .int .i64 i, .int .i64 s] := cells_keep (by (simp only [CellsAt]; (first | (go_simp; done) | ((repeat' (with_reducible refine And.intro ?_ ?_)) <;> (repeat' (first | (with_reducible assumption) | (with_reducible exact trivial) | (with_reducible refine kA _ ?_) | (with_reducible refine kD ?_) | (with_reducible refine kS _ ?_ ?_) | (with_reducible refine fA _ ?_ ?_) | (with_reducible refine fD ?_) | (with_reducible refine fS _ ?_) | go_size | (go_simp; done))))))) (fun o => bw1.cell (p := ⟨_, o, none⟩) (by go_size)) (fun o => bw1.frozen (p := ⟨_, o, none⟩) (by go_size))
    simp only [CellsAt] at zw1_wH
    clear bw1
    go_wp2_with fail
    go_ret
    exact ⟨rfl, by (repeat' (first | (with_reducible assumption) | (with_reducible exact Below.refl _ _) | (with_reducible refine bdN ?_ _) | (with_reducible refine Below.alloc ?_ ?_ _) | (with_reducible refine Below.drew ?_) | (with_reducible refine Below.setCell ?_ ?_ _) | go_size))⟩
  · obtain ⟨⟨h0, h1⟩, ⟨h2, h3⟩, ⟨h4, h5⟩, ⟨h6, h7⟩, ⟨h8, h9⟩, ⟨ha, hb⟩⟩ := pvB_bd h
    have V := Lib.hid (pv_spec_b y o d u i s true h)
    have X := Lib.hid (fun w => l15Text_s y o d u i s w h0 h1 h2 h3 h4 h5 h6 h7 h8 h9 ha hb)
    rw [show ptA y o d u i s = ptS y o d u i s from if_pos h]
    clear h
    go_enter Tryd.func13, Tryd.ntmps13
    go_wp2_with fail
    refine (V.out _).mono ?_
    rintro e w1 ⟨rfl, bw1⟩
    have sw1 := bw1.size
    (try simp at sw1)
    have Aw1 : Below w.heap.size w w1 := Below.trans (by (repeat' (first | (with_reducible assumption) | (with_reducible exact Below.refl _ _) | (with_reducible refine bdN ?_ _) | (with_reducible refine Below.alloc ?_ ?_ _) | (with_reducible refine Below.drew ?_) | (with_reducible refine Below.setCell ?_ ?_ _) | go_size))) (bw1.mono (by go_size))
    have lw1_0 : w.heap.size < w1.heap.size := (by go_size)
    have zw1_wH : CellsAt w1 (w.heap.size) 0 [.int .i64 y, .int .i64 o, .int .i64 d, .int .i64 u, .int .i64 i, .int .i64 s] := cells_keep (by (simp only [CellsAt]; (first | (go_simp; done) | ((repeat' (with_reducible refine And.intro ?_ ?_)) <;> (repeat' (first | (with_reducible assumption) | (with_reducible exact trivial) | (with_reducible refine kA _ ?_) | (with_reducible refine kD ?_) | (with_reducible refine kS _ ?_ ?_) | (with_reducible refine fA _ ?_ ?_) | (with_reducible refine fD ?_) | (with_reducible refine fS _ ?_) | go_size | (go_simp; done))))))) (fun o => bw1.cell (p := ⟨_, o, none⟩) (by go_size)) (fun o => bw1.frozen (p := ⟨_, o, none⟩) (by go_size))
    simp only [CellsAt] at zw1_wH
    clear bw1
    go_wp2_with fail
    refine (X.out _).mono ?_
    rintro e w2 ⟨rfl, bw2⟩
    have sw2 := bw2.size
    (try simp at sw2)
    have Aw2 : Below w.heap.size w w2 := Below.trans (by (repeat' (first | (with_reducible assumption) | (with_reducible exact Below.refl _ _) | (with_reducible refine bdN ?_ _) | (with_reducible refine Below.alloc ?_ ?_ _) | (with_reducible refine Below.drew ?_) | (with_reducible refine Below.setCell ?_ ?_ _) | go_size))) (bw2.mono (by go_size))
    have lw2_0 : w.heap.size < w2.heap.size := (by go_size)
    have zw2_wH : CellsAt w2 (w.heap.size) 0 [.int .i64 y, .int .i64 o, .int .i64 d, .int .i64 u, .int .i64 i, .int .i64 s] := cells_keep (by (simp only [CellsAt]; (first | (go_simp; done) | ((repeat' (with_reducible refine And.intro ?_ ?_)) <;> (repeat' (first | (with_reducible assumption) | (with_reducible exact trivial) | (with_reducible refine kA _ ?_) | (with_reducible refine kD ?_) | (with_reducible refine kS _ ?_ ?_) | (with_reducible refine fA _ ?_ ?_) | (with_reducible refine fD ?_) | (with_reducible refine fS _ ?_) | go_size | (go_simp; done))))))) (fun o => bw2.cell (p := ⟨_, o, none⟩) (by go_size)) (fun o => bw2.frozen (p := ⟨_, o, none⟩) (by go_size))
    simp only [CellsAt] at zw2_wH
    clear zw1_wH
    clear bw2
    go_wp2_with fail
    go_ret
    exact ⟨rfl, by (repeat' (first | (with_reducible assumption) | (with_reducible exact Below.refl _ _) | (with_reducible refine bdN ?_ _) | (with_reducible refine Below.alloc ?_ ?_ _) | (with_reducible refine Below.drew ?_) | (with_reducible refine Below.setCell ?_ ?_ _) | go_size))⟩
end Go.Proofs.YtmdmahgplmijcaaDoor
