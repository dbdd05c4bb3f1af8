/- The text of a period: the program's PeriodText gives the plain words. Condition: the library's table of powers of ten stands in memory ('Tab'). -/
import Derived.Test.YtmdmahgplmijcaaDoorItoa
import Derived.Test.YtmdmahgplmijcaaDoorPtP
import Derived.Test.YtmdmahgplmijcaaDoorPfI
namespace Go.Proofs.YtmdmahgplmijcaaDoor
open Go.RowKit DN
set_option linter.unusedVariables false
set_option linter.unusedSimpArgs false

theorem let_89 (wx : World) : (convert 21 9 (.int .i32 89)).run Tryd.prog wx = .ok (.string ⟨#[89]⟩) wx := by kernel_rfl
theorem let_77 (wx : World) : (convert 21 9 (.int .i32 77)).run Tryd.prog wx = .ok (.string ⟨#[77]⟩) wx := by kernel_rfl
theorem let_68 (wx : World) : (convert 21 9 (.int .i32 68)).run Tryd.prog wx = .ok (.string ⟨#[68]⟩) wx := by kernel_rfl
theorem let_72 (wx : World) : (convert 21 9 (.int .i32 72)).run Tryd.prog wx = .ok (.string ⟨#[72]⟩) wx := by kernel_rfl
theorem let_83 (wx : World) : (convert 21 9 (.int .i32 83)).run Tryd.prog wx = .ok (.string ⟨#[83]⟩) wx := by kernel_rfl
theorem ptS_zero : ptS 0 0 0 0 0 0 = ⟨#[80, 84, 48, 83]⟩ := by
  unfold ptS
  rw [if_pos (by rw [ByteArray.toList_eq, ptR_list]; exact ptL_zero)]
theorem ptS_some {y o d u i s : Int} (h0 : 0 ≤ y) (h2 : 0 ≤ o) (h4 : 0 ≤ d) (h6 : 0 ≤ u) (h8 : 0 ≤ i) (ha : 0 ≤ s) (hne : 0 < y + o + d + u + i + s) : ptS y o d u i s = ptR y o d u i s := by
  have h := ptS_list h0 h2 h4 h6 h8 ha
  rw [if_pos hne, ← ptR_list] at h
  exact ByteArray.ext (by rw [← Array.toList_inj]; exact h)
theorem te_p {out : ByteArray} {z : Int} (h : 0 < z) : teS out z = out ++ ⟨#[84]⟩ := if_pos h
theorem te_z {out : ByteArray} {z : Int} (h : ¬ 0 < z) : teS out z = out := if_neg h

/-- what the loop over the parts keeps -/
def PtK (w wr : World) (m : Nat) (cs : List Value) : Prop := CellsAt wr w.heap.size 0 cs ∧ CellsAt wr m 0 (partCells w.heap.size) ∧ (w.heap.size < wr.heap.size ∧ m < wr.heap.size) ∧ Below w.heap.size w wr ∧ Tab wr
theorem pt_keep {w wr w' : World} {m : Nat} {cs : List Value} (h : PtK w wr m cs) (b : Below wr.heap.size wr w') : PtK w w' m cs :=
  ⟨cells_keep h.1 (fun o => b.cell (p := ⟨_, o, none⟩) h.2.2.1.1) (fun o => b.frozen (p := ⟨_, o, none⟩) h.2.2.1.1), cells_keep h.2.1 (fun o => b.cell (p := ⟨_, o, none⟩) h.2.2.1.2) (fun o => b.frozen (p := ⟨_, o, none⟩) h.2.2.1.2), ⟨Nat.lt_of_lt_of_le h.2.2.1.1 b.size, Nat.lt_of_lt_of_le h.2.2.1.2 b.size⟩, h.2.2.2.1.trans (b.mono (Nat.le_of_lt h.2.2.1.1)), tab_keep h.2.2.2.2 b⟩
theorem cat3 {A B C R : ByteArray} (h : A ++ B ++ C = R) : A ++ (B ++ C) = R := by rw [← ByteArray.append_assoc]; exact h
theorem one_sz (c : UInt8) : (⟨#[c]⟩ : ByteArray).size ≤ 1 := Nat.le_refl _
set_option maxRecDepth 100000 in
set_option maxHeartbeats 8000000 in
theorem ptI_some (y o d u i s : Int) (w : World) (TW : Tab w) (hv : pvB y o d u i s = true) (hne : 0 < y + o + d + u + i + s) : Calls Tryd.prog 11 #[.agg #[.int .i64 y, .int .i64 o, .int .i64 d, .int .i64 u, .int .i64 i, .int .i64 s]] w fun e w' => e = .returned (.string (ptS y o d u i s)) ∧ Below w.heap.size w w' := by
  obtain ⟨⟨h0, h1⟩, ⟨h2, h3⟩, ⟨h4, h5⟩, ⟨h6, h7⟩, ⟨h8, h9⟩, ⟨ha, hb⟩⟩ := pvB_bd hv
  have VV := Lib.hid (fun w => pv_impl_b y o d u i s true hv w)
  rw [ptS_some h0 h2 h4 h6 h8 ha hne]
  obtain ⟨P0, e0⟩ : ∃ P, (⟨#[80]⟩ : ByteArray) = P := ⟨_, rfl⟩
  obtain ⟨P1, e1⟩ : ∃ P, stS P0 y 89 = P := ⟨_, rfl⟩
  obtain ⟨P2, e2⟩ : ∃ P, stS P1 o 77 = P := ⟨_, rfl⟩
  obtain ⟨P3, e3⟩ : ∃ P, stS P2 d 68 = P := ⟨_, rfl⟩
  obtain ⟨PT, eT⟩ : ∃ P, teS P3 (u + i + s) = P := ⟨_, rfl⟩
  obtain ⟨P4, e4⟩ : ∃ P, stS PT u 72 = P := ⟨_, rfl⟩
  obtain ⟨P5, e5⟩ : ∃ P, stS P4 i 77 = P := ⟨_, rfl⟩
  obtain ⟨P6, e6⟩ : ∃ P, stS P5 s 83 = P := ⟨_, rfl⟩
  have hp : ptR y o d u i s = P6 := by rw [← e6, ← e5, ← e4, ← eT, ← e3, ← e2, ← e1, ← e0]; rfl
  rw [hp]
  have z0 : P0.size ≤ 1 := by rw [← e0]; decide
  have z1 : P1.size ≤ 6 := by have := st_size P0 y 89; rw [e1] at this; omega
  have z2 : P2.size ≤ 11 := by have := st_size P1 o 77; rw [e2] at this; omega
  have z3 : P3.size ≤ 16 := by have := st_size P2 d 68; rw [e3] at this; omega
  have zT : PT.size ≤ 17 := by have := te_size P3 (u + i + s); rw [eT] at this; omega
  have z4 : P4.size ≤ 22 := by have := st_size PT u 72; rw [e4] at this; omega
  have z5 : P5.size ≤ 27 := by have := st_size P4 i 77; rw [e5] at this; omega
  have E0 := Lib.hid e0
  have E1 := Lib.hid e1
  have E2 := Lib.hid e2
  have E3 := Lib.hid e3
  have ET := Lib.hid eT
  have E4 := Lib.hid e4
  have E5 := Lib.hid e5
  have E6 := Lib.hid e6
  have c89 := let_89
  have c77 := let_77
  have c68 := let_68
  have c72 := let_72
  have c83 := let_83
  have hbig : ((y == 0) && (o == 0) && (d == 0) && (u == 0) && (i == 0) && (s == 0)) = false := by
    cases hz : ((y == 0) && (o == 0) && (d == 0) && (u == 0) && (i == 0) && (s == 0))
    · rfl
    · simp only [Bool.and_eq_true, beq_iff_eq] at hz; omega
  have HNE := Lib.hid hne
  clear e0 e1 e2 e3 eT e4 e5 e6 hp hv hne
  have HT := Lib.hid TW
  clear TW
  go_enter Tryd.func11, Tryd.ntmps11
  go_wp2_with fail
  refine (VV.out _).mono ?_
  rintro e w1 ⟨rfl, bw1⟩
  have sw1 := bw1.size
  (try simp at sw1)
  have Aw1 : Below w.heap.size w w1 := Below.trans (by (repeat' (first | (with_reducible assumption) | (with_reducible exact Below.refl _ _) | (with_reducible refine bdN ?_ _) | (with_reducible refine Below.alloc ?_ ?_ _) | (with_reducible refine Below.drew ?_) | (with_reducible refine Below.setCell ?_ ?_ _) | go_size))) (bw1.mono (by go_size))
  have Tw1 := Lib.hid (tab_keep (by (repeat' (first | (with_reducible exact HT.out) | (with_reducible assumption) | (with_reducible refine tab_alloc ?_ _) | (with_reducible refine tab_drewN ?_ _) | (with_reducible refine tab_drew ?_) | (with_reducible refine tab_set ?_ ?_ _) | go_size))) bw1)
  have lw1_0 : w.heap.size < w1.heap.size := (by go_size)
  have zw1_wH : CellsAt w1 (w.heap.size) 0 [.int .i64 y, .int .i64 o, .int .i64 d, .int .i64 u, .int .i64 i, .int .i64 s] := cells_keep (by (simp only [CellsAt]; (first | (go_simp; done) | ((repeat' (with_reducible refine And.intro ?_ ?_)) <;> (repeat' (first | (with_reducible assumption) | (with_reducible exact trivial) | (with_reducible refine kA _ ?_) | (with_reducible refine kD ?_) | (with_reducible refine kS _ ?_ ?_) | (with_reducible refine fA _ ?_ ?_) | (with_reducible refine fD ?_) | (with_reducible refine fS _ ?_) | go_size | (go_simp; done))))))) (fun o => bw1.cell (p := ⟨_, o, none⟩) (by go_size)) (fun o => bw1.frozen (p := ⟨_, o, none⟩) (by go_size))
  simp only [CellsAt] at zw1_wH
  clear bw1
  go_upto_region 3 with fail
  go_cut [12] (fun v wx => v = .bool false ∧ wx = w1)
  case first =>
    by_cases f1 : y = 0
    · by_cases f2 : o = 0
      · by_cases f3 : d = 0
        · by_cases f4 : u = 0
          · by_cases f5 : i = 0
            · have f6 : ¬ s = 0 := by have := HNE.out; omega
              go_wp2_with fail
              go_meet
              exact ⟨rfl, rfl⟩
            · go_wp2_with fail
              go_meet
              exact ⟨rfl, rfl⟩
          · go_wp2_with fail
            go_meet
            exact ⟨rfl, rfl⟩
        · go_wp2_with fail
          go_meet
          exact ⟨rfl, rfl⟩
      · go_wp2_with fail
        go_meet
        exact ⟨rfl, rfl⟩
    · go_wp2_with fail
      go_meet
      exact ⟨rfl, rfl⟩
  case rest =>
  obtain ⟨rfl, hw⟩ := hcut
  have hw2 := hw.symm
  clear hw
  subst hw2
  go_wp2_with fail
  refine (parts_mem _ _ (by go_size)).mono ?_
  rintro e w2 ⟨_, rfl, hpc, hsz2, b2⟩
  have T2 := Lib.hid (tab_keep (by (repeat' (first | (with_reducible exact Tw1.out) | (with_reducible assumption) | (with_reducible refine tab_alloc ?_ _) | (with_reducible refine tab_drewN ?_ _) | (with_reducible refine tab_drew ?_) | (with_reducible refine tab_set ?_ ?_ _) | go_size))) b2)
  have A2 : Below w.heap.size w w2 := Aw1.trans (b2.mono (by omega))
  have HK := Lib.hid (show PtK w w2 w1.heap.size [.int .i64 y, .int .i64 o, .int .i64 d, .int .i64 u, .int .i64 i, .int .i64 s] from ⟨cells_keep (by (simp only [CellsAt]; (first | (go_simp; done) | ((repeat' (with_reducible refine And.intro ?_ ?_)) <;> (repeat' (first | (with_reducible assumption) | (with_reducible exact trivial) | (with_reducible refine kA _ ?_) | (with_reducible refine kD ?_) | (with_reducible refine kS _ ?_ ?_) | (with_reducible refine fA _ ?_ ?_) | (with_reducible refine fD ?_) | (with_reducible refine fS _ ?_) | go_size | (go_simp; done))))))) (fun o => b2.cell (p := ⟨_, o, none⟩) (by go_size)) (fun o => b2.frozen (p := ⟨_, o, none⟩) (by go_size)), hpc, ⟨by omega, by omega⟩, A2, T2.out⟩)
  clear T2 A2 b2 hpc hsz2 Tw1 Aw1
  go_wp2_with fail
  go_loopg [3, 4, 15] 6 (fun g ov tv kv wr => PtK w wr w1.heap.size [.int .i64 y, .int .i64 o, .int .i64 d, .int .i64 u, .int .i64 i, .int .i64 s] ∧
    ((g = 6 ∧ kv = .int .i64 0 ∧ ov = .string P0 ∧ tv = .bool false) ∨ (g = 5 ∧ kv = .int .i64 1 ∧ ov = .string P1 ∧ tv = .bool false) ∨ (g = 4 ∧ kv = .int .i64 2 ∧ ov = .string P2 ∧ tv = .bool false) ∨ (g = 3 ∧ kv = .int .i64 3 ∧ ov = .string P3 ∧ tv = .bool false) ∨ (g = 2 ∧ kv = .int .i64 4 ∧ ov = .string P4 ∧ tv = .bool true ∧ Hid (0 < u)) ∨ (g = 2 ∧ kv = .int .i64 4 ∧ ov = .string P3 ∧ tv = .bool false ∧ Hid (u ≤ 0)) ∨ (g = 1 ∧ kv = .int .i64 5 ∧ ov = .string P5 ∧ tv = .bool true ∧ Hid (0 < u + i)) ∨ (g = 1 ∧ kv = .int .i64 5 ∧ ov = .string P3 ∧ tv = .bool false ∧ Hid (u + i ≤ 0)) ∨ (g = 0 ∧ kv = .int .i64 6 ∧ ov = .string P6 ∧ ∃ tb, tv = .bool tb)))
  case atStart => exact ⟨HK.out, .inl ⟨rfl, rfl, by rw [← E0.out], rfl⟩⟩
  case round =>
    obtain ⟨hi, hk⟩ := hrel
    have HI := Lib.hid hi
    have HT2 := Lib.hid hi.2.2.2.2
    have hb0 := hi.2.2.1.1
    have hbm := hi.2.2.1.2
    have BW := hi.2.2.2.1
    have zb := hi.1
    have zp := hi.2.1
    unfold partCells at zp
    simp only [CellsAt] at zb zp
    clear hi HK HT zw1_wH
    rcases hk with ⟨rfl, rfl, rfl, rfl⟩ | ⟨rfl, rfl, rfl, rfl⟩ | ⟨rfl, rfl, rfl, rfl⟩ | ⟨rfl, rfl, rfl, rfl⟩ | ⟨rfl, rfl, rfl, rfl, hcd⟩ | ⟨rfl, rfl, rfl, rfl, hcd⟩ | ⟨rfl, rfl, rfl, rfl, hcd⟩ | ⟨rfl, rfl, rfl, rfl, hcd⟩ | ⟨rfl, rfl, rfl, tb, rfl⟩
    · have q0 : wr.cell? ⟨w1.heap.size, 0, none⟩ = some (.int .u8 89) := zp.1
      have q1 : wr.cell? ⟨w1.heap.size, 1, none⟩ = some (.bool false) := zp.2.2.1
      have q2 : wr.cell? ⟨w1.heap.size, 2, none⟩ = some (.pointer (some ⟨w.heap.size, 0, none⟩)) := zp.2.2.2.2.1
      clear zp
      by_cases hx : 0 < y
      · have hE := (st_p (out := P0) (n := y) (c := 89) hx).symm.trans E1.out
        have hE2 := cat3 hE
        have sD := decS_size y
        have TD := Lib.hid (fun w T => itoa_any y w (by omega) (by omega) T)
        obtain ⟨D, hD⟩ : ∃ D, decS y = D := ⟨_, rfl⟩
        rw [hD] at TD hE2 sD
        have HE := Lib.hid hE2
        have hwl : IntKind.i32.wrap 89 = 89 := by decide
        have hz0 : (y == 0) = false := by simp; omega
        have ad1 := fun wx => add_okS (P := Tryd.prog) D ⟨#[89]⟩ 4 1 sD (one_sz _) (by omega) wx
        have ad2 := fun wx => add_okS (P := Tryd.prog) P0 (D ++ ⟨#[89]⟩) 40 5 (by omega) (by rw [ByteArray.size_append]; have := one_sz 89; omega) (by omega) wx
        clear hD hE hE2
        go_wp2_with fail
        go_region_held3 (fun w' => w'.cell? ⟨wr.heap.size, 0, none⟩ = some (.int .u8 89) ∧ w'.cell? ⟨wr.heap.size, 1, none⟩ = some (.bool false) ∧ w'.cell? ⟨wr.heap.size, 2, none⟩ = some (.pointer (some ⟨w.heap.size, 0, none⟩)) ∧ w'.cell? ⟨w.heap.size, 0, none⟩ = some (.int .i64 y) ∧ w'.cell? ⟨w.heap.size, 1, none⟩ = some (.int .i64 o) ∧ w'.cell? ⟨w.heap.size, 2, none⟩ = some (.int .i64 d) ∧ w'.cell? ⟨w.heap.size, 3, none⟩ = some (.int .i64 u) ∧ w'.cell? ⟨w.heap.size, 4, none⟩ = some (.int .i64 i) ∧ w'.cell? ⟨w.heap.size, 5, none⟩ = some (.int .i64 s)) (((repeat' (with_reducible refine And.intro ?_ ?_)) <;> (first | (with_reducible assumption) | (go_simp; done) | (repeat' (first | (with_reducible assumption) | (with_reducible refine kA _ ?_) | (with_reducible refine kD ?_) | (with_reducible refine kS _ ?_ ?_) | go_size | (go_simp; done))))))
          (first
            | (go_at_call 25; (with_reducible refine (TD.out _ ?tb).mono ?_); (case tb => (repeat' (first | (with_reducible exact HT2.out) | (with_reducible assumption) | (with_reducible refine tab_alloc ?_ _) | (with_reducible refine tab_drewN ?_ _) | (with_reducible refine tab_drew ?_) | (with_reducible refine tab_set ?_ ?_ _) | go_size))); rintro e w3 ⟨rfl, bw3⟩; have sw3 := bw3.size; (try simp at sw3); have Aw3 : Below wr.heap.size wr w3 := Below.trans (by (repeat' (first | (with_reducible assumption) | (with_reducible exact Below.refl _ _) | (with_reducible refine bdN ?_ _) | (with_reducible refine Below.alloc ?_ ?_ _) | (with_reducible refine Below.drew ?_) | (with_reducible refine Below.setCell ?_ ?_ _) | go_size))) (bw3.mono (by go_size)); have Tw3 := Lib.hid (tab_keep (by (repeat' (first | (with_reducible exact HT2.out) | (with_reducible assumption) | (with_reducible refine tab_alloc ?_ _) | (with_reducible refine tab_drewN ?_ _) | (with_reducible refine tab_drew ?_) | (with_reducible refine tab_set ?_ ?_ _) | go_size))) bw3); have lw3_0 : wr.heap.size < w3.heap.size := (by go_size); have zw3_wrH : CellsAt w3 (wr.heap.size) 0 [.int .u8 89, .bool false, .pointer (some ⟨w.heap.size, 0, none⟩)] := cells_keep (by (simp only [CellsAt]; (first | (go_simp; done) | ((repeat' (with_reducible refine And.intro ?_ ?_)) <;> (repeat' (first | (with_reducible assumption) | (with_reducible exact trivial) | (with_reducible refine kA _ ?_) | (with_reducible refine kD ?_) | (with_reducible refine kS _ ?_ ?_) | (with_reducible refine fA _ ?_ ?_) | (with_reducible refine fD ?_) | (with_reducible refine fS _ ?_) | go_size | (go_simp; done))))))) (fun o => bw3.cell (p := ⟨_, o, none⟩) (by go_size)) (fun o => bw3.frozen (p := ⟨_, o, none⟩) (by go_size)); have lw3_1 : w.heap.size < w3.heap.size := (by go_size); have zw3_wH : CellsAt w3 (w.heap.size) 0 [.int .i64 y, .int .i64 o, .int .i64 d, .int .i64 u, .int .i64 i, .int .i64 s] := cells_keep (by (simp only [CellsAt]; (first | (go_simp; done) | ((repeat' (with_reducible refine And.intro ?_ ?_)) <;> (repeat' (first | (with_reducible assumption) | (with_reducible exact trivial) | (with_reducible refine kA _ ?_) | (with_reducible refine kD ?_) | (with_reducible refine kS _ ?_ ?_) | (with_reducible refine fA _ ?_ ?_) | (with_reducible refine fD ?_) | (with_reducible refine fS _ ?_) | go_size | (go_simp; done))))))) (fun o => bw3.cell (p := ⟨_, o, none⟩) (by go_size)) (fun o => bw3.frozen (p := ⟨_, o, none⟩) (by go_size)); simp only [CellsAt] at zw3_wrH; simp only [CellsAt] at zw3_wH; clear zb; clear bw3)
          )
        all_goals
          go_wp2_with fail
          go_roundg 5
          case measure => omega
          case rel => exact ⟨pt_keep HI.out (by (repeat' (first | (with_reducible assumption) | (with_reducible exact Below.refl _ _) | (with_reducible refine bdN ?_ _) | (with_reducible refine Below.alloc ?_ ?_ _) | (with_reducible refine Below.drew ?_) | (with_reducible refine Below.setCell ?_ ?_ _) | go_size))), .inr (.inl ⟨rfl, by first | rfl | go_num, by rw [← HE.out] <;> rfl, rfl⟩)⟩
      · have hE := (st_z (out := P0) (n := y) (c := 89) hx).symm.trans E1.out
        have HE := Lib.hid hE
        obtain rfl : y = 0 := by omega
        clear hE
        go_wp2_with fail
        go_roundg 5
        case measure => omega
        case rel => exact ⟨pt_keep HI.out (by (repeat' (first | (with_reducible assumption) | (with_reducible exact Below.refl _ _) | (with_reducible refine bdN ?_ _) | (with_reducible refine Below.alloc ?_ ?_ _) | (with_reducible refine Below.drew ?_) | (with_reducible refine Below.setCell ?_ ?_ _) | go_size))), .inr (.inl ⟨rfl, by first | rfl | go_num, by rw [← HE.out] <;> rfl, rfl⟩)⟩
    · have q0 : wr.cell? ⟨w1.heap.size, 3, none⟩ = some (.int .u8 77) := zp.2.2.2.2.2.2.1
      have q1 : wr.cell? ⟨w1.heap.size, 4, none⟩ = some (.bool false) := zp.2.2.2.2.2.2.2.2.1
      have q2 : wr.cell? ⟨w1.heap.size, 5, none⟩ = some (.pointer (some ⟨w.heap.size, 1, none⟩)) := zp.2.2.2.2.2.2.2.2.2.2.1
      clear zp
      by_cases hx : 0 < o
      · have hE := (st_p (out := P1) (n := o) (c := 77) hx).symm.trans E2.out
        have hE2 := cat3 hE
        have sD := decS_size o
        have TD := Lib.hid (fun w T => itoa_any o w (by omega) (by omega) T)
        obtain ⟨D, hD⟩ : ∃ D, decS o = D := ⟨_, rfl⟩
        rw [hD] at TD hE2 sD
        have HE := Lib.hid hE2
        have hwl : IntKind.i32.wrap 77 = 77 := by decide
        have hz0 : (o == 0) = false := by simp; omega
        have ad1 := fun wx => add_okS (P := Tryd.prog) D ⟨#[77]⟩ 4 1 sD (one_sz _) (by omega) wx
        have ad2 := fun wx => add_okS (P := Tryd.prog) P1 (D ++ ⟨#[77]⟩) 40 5 (by omega) (by rw [ByteArray.size_append]; have := one_sz 77; omega) (by omega) wx
        clear hD hE hE2
        go_wp2_with fail
        go_region_held3 (fun w' => w'.cell? ⟨wr.heap.size, 0, none⟩ = some (.int .u8 77) ∧ w'.cell? ⟨wr.heap.size, 1, none⟩ = some (.bool false) ∧ w'.cell? ⟨wr.heap.size, 2, none⟩ = some (.pointer (some ⟨w.heap.size, 1, none⟩)) ∧ w'.cell? ⟨w.heap.size, 0, none⟩ = some (.int .i64 y) ∧ w'.cell? ⟨w.heap.size, 1, none⟩ = some (.int .i64 o) ∧ w'.cell? ⟨w.heap.size, 2, none⟩ = some (.int .i64 d) ∧ w'.cell? ⟨w.heap.size, 3, none⟩ = some (.int .i64 u) ∧ w'.cell? ⟨w.heap.size, 4, none⟩ = some (.int .i64 i) ∧ w'.cell? ⟨w.heap.size, 5, none⟩ = some (.int .i64 s)) (((repeat' (with_reducible refine And.intro ?_ ?_)) <;> (first | (with_reducible assumption) | (go_simp; done) | (repeat' (first | (with_reducible assumption) | (with_reducible refine kA _ ?_) | (with_reducible refine kD ?_) | (with_reducible refine kS _ ?_ ?_) | go_size | (go_simp; done))))))
          (first
            | (go_at_call 25; (with_reducible refine (TD.out _ ?tb).mono ?_); (case tb => (repeat' (first | (with_reducible exact HT2.out) | (with_reducible assumption) | (with_reducible refine tab_alloc ?_ _) | (with_reducible refine tab_drewN ?_ _) | (with_reducible refine tab_drew ?_) | (with_reducible refine tab_set ?_ ?_ _) | go_size))); rintro e w3 ⟨rfl, bw3⟩; have sw3 := bw3.size; (try simp at sw3); have Aw3 : Below wr.heap.size wr w3 := Below.trans (by (repeat' (first | (with_reducible assumption) | (with_reducible exact Below.refl _ _) | (with_reducible refine bdN ?_ _) | (with_reducible refine Below.alloc ?_ ?_ _) | (with_reducible refine Below.drew ?_) | (with_reducible refine Below.setCell ?_ ?_ _) | go_size))) (bw3.mono (by go_size)); have Tw3 := Lib.hid (tab_keep (by (repeat' (first | (with_reducible exact HT2.out) | (with_reducible assumption) | (with_reducible refine tab_alloc ?_ _) | (with_reducible refine tab_drewN ?_ _) | (with_reducible refine tab_drew ?_) | (with_reducible refine tab_set ?_ ?_ _) | go_size))) bw3); have lw3_0 : wr.heap.size < w3.heap.size := (by go_size); have zw3_wrH : CellsAt w3 (wr.heap.size) 0 [.int .u8 77, .bool false, .pointer (some ⟨w.heap.size, 1, none⟩)] := cells_keep (by (simp only [CellsAt]; (first | (go_simp; done) | ((repeat' (with_reducible refine And.intro ?_ ?_)) <;> (repeat' (first | (with_reducible assumption) | (with_reducible exact trivial) | (with_reducible refine kA _ ?_) | (with_reducible refine kD ?_) | (with_reducible refine kS _ ?_ ?_) | (with_reducible refine fA _ ?_ ?_) | (with_reducible refine fD ?_) | (with_reducible refine fS _ ?_) | go_size | (go_simp; done))))))) (fun o => bw3.cell (p := ⟨_, o, none⟩) (by go_size)) (fun o => bw3.frozen (p := ⟨_, o, none⟩) (by go_size)); have lw3_1 : w.heap.size < w3.heap.size := (by go_size); have zw3_wH : CellsAt w3 (w.heap.size) 0 [.int .i64 y, .int .i64 o, .int .i64 d, .int .i64 u, .int .i64 i, .int .i64 s] := cells_keep (by (simp only [CellsAt]; (first | (go_simp; done) | ((repeat' (with_reducible refine And.intro ?_ ?_)) <;> (repeat' (first | (with_reducible assumption) | (with_reducible exact trivial) | (with_reducible refine kA _ ?_) | (with_reducible refine kD ?_) | (with_reducible refine kS _ ?_ ?_) | (with_reducible refine fA _ ?_ ?_) | (with_reducible refine fD ?_) | (with_reducible refine fS _ ?_) | go_size | (go_simp; done))))))) (fun o => bw3.cell (p := ⟨_, o, none⟩) (by go_size)) (fun o => bw3.frozen (p := ⟨_, o, none⟩) (by go_size)); simp only [CellsAt] at zw3_wrH; simp only [CellsAt] at zw3_wH; clear zb; clear bw3)
          )
        all_goals
          go_wp2_with fail
          go_roundg 4
          case measure => omega
          case rel => exact ⟨pt_keep HI.out (by (repeat' (first | (with_reducible assumption) | (with_reducible exact Below.refl _ _) | (with_reducible refine bdN ?_ _) | (with_reducible refine Below.alloc ?_ ?_ _) | (with_reducible refine Below.drew ?_) | (with_reducible refine Below.setCell ?_ ?_ _) | go_size))), .inr (.inr (.inl ⟨rfl, by first | rfl | go_num, by rw [← HE.out] <;> rfl, rfl⟩))⟩
      · have hE := (st_z (out := P1) (n := o) (c := 77) hx).symm.trans E2.out
        have HE := Lib.hid hE
        obtain rfl : o = 0 := by omega
        clear hE
        go_wp2_with fail
        go_roundg 4
        case measure => omega
        case rel => exact ⟨pt_keep HI.out (by (repeat' (first | (with_reducible assumption) | (with_reducible exact Below.refl _ _) | (with_reducible refine bdN ?_ _) | (with_reducible refine Below.alloc ?_ ?_ _) | (with_reducible refine Below.drew ?_) | (with_reducible refine Below.setCell ?_ ?_ _) | go_size))), .inr (.inr (.inl ⟨rfl, by first | rfl | go_num, by rw [← HE.out] <;> rfl, rfl⟩))⟩
    · have q0 : wr.cell? ⟨w1.heap.size, 6, none⟩ = some (.int .u8 68) := zp.2.2.2.2.2.2.2.2.2.2.2.2.1
      have q1 : wr.cell? ⟨w1.heap.size, 7, none⟩ = some (.bool false) := zp.2.2.2.2.2.2.2.2.2.2.2.2.2.2.1
      have q2 : wr.cell? ⟨w1.heap.size, 8, none⟩ = some (.pointer (some ⟨w.heap.size, 2, none⟩)) := zp.2.2.2.2.2.2.2.2.2.2.2.2.2.2.2.2.1
      clear zp
      by_cases hx : 0 < d
      · have hE := (st_p (out := P2) (n := d) (c := 68) hx).symm.trans E3.out
        have hE2 := cat3 hE
        have sD := decS_size d
        have TD := Lib.hid (fun w T => itoa_any d w (by omega) (by omega) T)
        obtain ⟨D, hD⟩ : ∃ D, decS d = D := ⟨_, rfl⟩
        rw [hD] at TD hE2 sD
        have HE := Lib.hid hE2
        have hwl : IntKind.i32.wrap 68 = 68 := by decide
        have hz0 : (d == 0) = false := by simp; omega
        have ad1 := fun wx => add_okS (P := Tryd.prog) D ⟨#[68]⟩ 4 1 sD (one_sz _) (by omega) wx
        have ad2 := fun wx => add_okS (P := Tryd.prog) P2 (D ++ ⟨#[68]⟩) 40 5 (by omega) (by rw [ByteArray.size_append]; have := one_sz 68; omega) (by omega) wx
        clear hD hE hE2
        go_wp2_with fail
        go_region_held3 (fun w' => w'.cell? ⟨wr.heap.size, 0, none⟩ = some (.int .u8 68) ∧ w'.cell? ⟨wr.heap.size, 1, none⟩ = some (.bool false) ∧ w'.cell? ⟨wr.heap.size, 2, none⟩ = some (.pointer (some ⟨w.heap.size, 2, none⟩)) ∧ w'.cell? ⟨w.heap.size, 0, none⟩ = some (.int .i64 y) ∧ w'.cell? ⟨w.heap.size, 1, none⟩ = some (.int .i64 o) ∧ w'.cell? ⟨w.heap.size, 2, none⟩ = some (.int .i64 d) ∧ w'.cell? ⟨w.heap.size, 3, none⟩ = some (.int .i64 u) ∧ w'.cell? ⟨w.heap.size, 4, none⟩ = some (.int .i64 i) ∧ w'.cell? ⟨w.heap.size, 5, none⟩ = some (.int .i64 s)) (((repeat' (with_reducible refine And.intro ?_ ?_)) <;> (first | (with_reducible assumption) | (go_simp; done) | (repeat' (first | (with_reducible assumption) | (with_reducible refine kA _ ?_) | (with_reducible refine kD ?_) | (with_reducible refine kS _ ?_ ?_) | go_size | (go_simp; done))))))
          (first
            | (go_at_call 25; (with_reducible refine (TD.out _ ?tb).mono ?_); (case tb => (repeat' (first | (with_reducible exact HT2.out) | (with_reducible assumption) | (with_reducible refine tab_alloc ?_ _) | (with_reducible refine tab_drewN ?_ _) | (with_reducible refine tab_drew ?_) | (with_reducible refine tab_set ?_ ?_ _) | go_size))); rintro e w3 ⟨rfl, bw3⟩; have sw3 := bw3.size; (try simp at sw3); have Aw3 : Below wr.heap.size wr w3 := Below.trans (by (repeat' (first | (with_reducible assumption) | (with_reducible exact Below.refl _ _) | (with_reducible refine bdN ?_ _) | (with_reducible refine Below.alloc ?_ ?_ _) | (with_reducible refine Below.drew ?_) | (with_reducible refine Below.setCell ?_ ?_ _) | go_size))) (bw3.mono (by go_size)); have Tw3 := Lib.hid (tab_keep (by (repeat' (first | (with_reducible exact HT2.out) | (with_reducible assumption) | (with_reducible refine tab_alloc ?_ _) | (with_reducible refine tab_drewN ?_ _) | (with_reducible refine tab_drew ?_) | (with_reducible refine tab_set ?_ ?_ _) | go_size))) bw3); have lw3_0 : wr.heap.size < w3.heap.size := (by go_size); have zw3_wrH : CellsAt w3 (wr.heap.size) 0 [.int .u8 68, .bool false, .pointer (some ⟨w.heap.size, 2, none⟩)] := cells_keep (by (simp only [CellsAt]; (first | (go_simp; done) | ((repeat' (with_reducible refine And.intro ?_ ?_)) <;> (repeat' (first | (with_reducible assumption) | (with_reducible exact trivial) | (with_reducible refine kA _ ?_) | (with_reducible refine kD ?_) | (with_reducible refine kS _ ?_ ?_) | (with_reducible refine fA _ ?_ ?_) | (with_reducible refine fD ?_) | (with_reducible refine fS _ ?_) | go_size | (go_simp; done))))))) (fun o => bw3.cell (p := ⟨_, o, none⟩) (by go_size)) (fun o => bw3.frozen (p := ⟨_, o, none⟩) (by go_size)); have lw3_1 : w.heap.size < w3.heap.size := (by go_size); have zw3_wH : CellsAt w3 (w.heap.size) 0 [.int .i64 y, .int .i64 o, .int .i64 d, .int .i64 u, .int .i64 i, .int .i64 s] := cells_keep (by (simp only [CellsAt]; (first | (go_simp; done) | ((repeat' (with_reducible refine And.intro ?_ ?_)) <;> (repeat' (first | (with_reducible assumption) | (with_reducible exact trivial) | (with_reducible refine kA _ ?_) | (with_reducible refine kD ?_) | (with_reducible refine kS _ ?_ ?_) | (with_reducible refine fA _ ?_ ?_) | (with_reducible refine fD ?_) | (with_reducible refine fS _ ?_) | go_size | (go_simp; done))))))) (fun o => bw3.cell (p := ⟨_, o, none⟩) (by go_size)) (fun o => bw3.frozen (p := ⟨_, o, none⟩) (by go_size)); simp only [CellsAt] at zw3_wrH; simp only [CellsAt] at zw3_wH; clear zb; clear bw3)
          )
        all_goals
          go_wp2_with fail
          go_roundg 3
          case measure => omega
          case rel => exact ⟨pt_keep HI.out (by (repeat' (first | (with_reducible assumption) | (with_reducible exact Below.refl _ _) | (with_reducible refine bdN ?_ _) | (with_reducible refine Below.alloc ?_ ?_ _) | (with_reducible refine Below.drew ?_) | (with_reducible refine Below.setCell ?_ ?_ _) | go_size))), .inr (.inr (.inr (.inl ⟨rfl, by first | rfl | go_num, by rw [← HE.out] <;> rfl, rfl⟩)))⟩
      · have hE := (st_z (out := P2) (n := d) (c := 68) hx).symm.trans E3.out
        have HE := Lib.hid hE
        obtain rfl : d = 0 := by omega
        clear hE
        go_wp2_with fail
        go_roundg 3
        case measure => omega
        case rel => exact ⟨pt_keep HI.out (by (repeat' (first | (with_reducible assumption) | (with_reducible exact Below.refl _ _) | (with_reducible refine bdN ?_ _) | (with_reducible refine Below.alloc ?_ ?_ _) | (with_reducible refine Below.drew ?_) | (with_reducible refine Below.setCell ?_ ?_ _) | go_size))), .inr (.inr (.inr (.inl ⟨rfl, by first | rfl | go_num, by rw [← HE.out] <;> rfl, rfl⟩)))⟩
    · have q0 : wr.cell? ⟨w1.heap.size, 9, none⟩ = some (.int .u8 72) := zp.2.2.2.2.2.2.2.2.2.2.2.2.2.2.2.2.2.2.1
      have q1 : wr.cell? ⟨w1.heap.size, 10, none⟩ = some (.bool true) := zp.2.2.2.2.2.2.2.2.2.2.2.2.2.2.2.2.2.2.2.2.1
      have q2 : wr.cell? ⟨w1.heap.size, 11, none⟩ = some (.pointer (some ⟨w.heap.size, 3, none⟩)) := zp.2.2.2.2.2.2.2.2.2.2.2.2.2.2.2.2.2.2.2.2.2.2.1
      clear zp
      by_cases hx : 0 < u
      · have hE := (st_p (out := PT) (n := u) (c := 72) hx).symm.trans E4.out
        have hT : 0 < u + i + s := by omega
        have hPT := (te_p (out := P3) hT).symm.trans ET.out
        rw [← hPT] at hE
        have szT : (P3 ++ ⟨#[84]⟩).size ≤ 40 := by rw [ByteArray.size_append]; have := one_sz 84; omega
        have hE2 := cat3 hE
        have sD := decS_size u
        have TD := Lib.hid (fun w T => itoa_any u w (by omega) (by omega) T)
        obtain ⟨D, hD⟩ : ∃ D, decS u = D := ⟨_, rfl⟩
        rw [hD] at TD hE2 sD
        have HE := Lib.hid hE2
        have hwl : IntKind.i32.wrap 72 = 72 := by decide
        have hz0 : (u == 0) = false := by simp; omega
        have ad1 := fun wx => add_okS (P := Tryd.prog) D ⟨#[72]⟩ 4 1 sD (one_sz _) (by omega) wx
        have ad2 := fun wx => add_okS (P := Tryd.prog) (P3 ++ ⟨#[84]⟩) (D ++ ⟨#[72]⟩) 40 5 (by omega) (by rw [ByteArray.size_append]; have := one_sz 72; omega) (by omega) wx
        clear hD hE hE2 hPT hT
        go_wp2_with fail
        go_region_held3 (fun w' => w'.cell? ⟨wr.heap.size, 0, none⟩ = some (.int .u8 72) ∧ w'.cell? ⟨wr.heap.size, 1, none⟩ = some (.bool true) ∧ w'.cell? ⟨wr.heap.size, 2, none⟩ = some (.pointer (some ⟨w.heap.size, 3, none⟩)) ∧ w'.cell? ⟨w.heap.size, 0, none⟩ = some (.int .i64 y) ∧ w'.cell? ⟨w.heap.size, 1, none⟩ = some (.int .i64 o) ∧ w'.cell? ⟨w.heap.size, 2, none⟩ = some (.int .i64 d) ∧ w'.cell? ⟨w.heap.size, 3, none⟩ = some (.int .i64 u) ∧ w'.cell? ⟨w.heap.size, 4, none⟩ = some (.int .i64 i) ∧ w'.cell? ⟨w.heap.size, 5, none⟩ = some (.int .i64 s)) (((repeat' (with_reducible refine And.intro ?_ ?_)) <;> (first | (with_reducible assumption) | (go_simp; done) | (repeat' (first | (with_reducible assumption) | (with_reducible refine kA _ ?_) | (with_reducible refine kD ?_) | (with_reducible refine kS _ ?_ ?_) | go_size | (go_simp; done))))))
          (first
            | (go_at_call 25; (with_reducible refine (TD.out _ ?tb).mono ?_); (case tb => (repeat' (first | (with_reducible exact HT2.out) | (with_reducible assumption) | (with_reducible refine tab_alloc ?_ _) | (with_reducible refine tab_drewN ?_ _) | (with_reducible refine tab_drew ?_) | (with_reducible refine tab_set ?_ ?_ _) | go_size))); rintro e w3 ⟨rfl, bw3⟩; have sw3 := bw3.size; (try simp at sw3); have Aw3 : Below wr.heap.size wr w3 := Below.trans (by (repeat' (first | (with_reducible assumption) | (with_reducible exact Below.refl _ _) | (with_reducible refine bdN ?_ _) | (with_reducible refine Below.alloc ?_ ?_ _) | (with_reducible refine Below.drew ?_) | (with_reducible refine Below.setCell ?_ ?_ _) | go_size))) (bw3.mono (by go_size)); have Tw3 := Lib.hid (tab_keep (by (repeat' (first | (with_reducible exact HT2.out) | (with_reducible assumption) | (with_reducible refine tab_alloc ?_ _) | (with_reducible refine tab_drewN ?_ _) | (with_reducible refine tab_drew ?_) | (with_reducible refine tab_set ?_ ?_ _) | go_size))) bw3); have lw3_0 : wr.heap.size < w3.heap.size := (by go_size); have zw3_wrH : CellsAt w3 (wr.heap.size) 0 [.int .u8 72, .bool true, .pointer (some ⟨w.heap.size, 3, none⟩)] := cells_keep (by (simp only [CellsAt]; (first | (go_simp; done) | ((repeat' (with_reducible refine And.intro ?_ ?_)) <;> (repeat' (first | (with_reducible assumption) | (with_reducible exact trivial) | (with_reducible refine kA _ ?_) | (with_reducible refine kD ?_) | (with_reducible refine kS _ ?_ ?_) | (with_reducible refine fA _ ?_ ?_) | (with_reducible refine fD ?_) | (with_reducible refine fS _ ?_) | go_size | (go_simp; done))))))) (fun o => bw3.cell (p := ⟨_, o, none⟩) (by go_size)) (fun o => bw3.frozen (p := ⟨_, o, none⟩) (by go_size)); have lw3_1 : w.heap.size < w3.heap.size := (by go_size); have zw3_wH : CellsAt w3 (w.heap.size) 0 [.int .i64 y, .int .i64 o, .int .i64 d, .int .i64 u, .int .i64 i, .int .i64 s] := cells_keep (by (simp only [CellsAt]; (first | (go_simp; done) | ((repeat' (with_reducible refine And.intro ?_ ?_)) <;> (repeat' (first | (with_reducible assumption) | (with_reducible exact trivial) | (with_reducible refine kA _ ?_) | (with_reducible refine kD ?_) | (with_reducible refine kS _ ?_ ?_) | (with_reducible refine fA _ ?_ ?_) | (with_reducible refine fD ?_) | (with_reducible refine fS _ ?_) | go_size | (go_simp; done))))))) (fun o => bw3.cell (p := ⟨_, o, none⟩) (by go_size)) (fun o => bw3.frozen (p := ⟨_, o, none⟩) (by go_size)); simp only [CellsAt] at zw3_wrH; simp only [CellsAt] at zw3_wH; clear zb; clear bw3)
          )
        all_goals
          go_wp2_with fail
          go_roundg 2
          case measure => omega
          case rel => exact ⟨pt_keep HI.out (by (repeat' (first | (with_reducible assumption) | (with_reducible exact Below.refl _ _) | (with_reducible refine bdN ?_ _) | (with_reducible refine Below.alloc ?_ ?_ _) | (with_reducible refine Below.drew ?_) | (with_reducible refine Below.setCell ?_ ?_ _) | go_size))), .inr (.inr (.inr (.inr (.inl ⟨rfl, by first | rfl | go_num, by rw [← HE.out] <;> rfl, rfl, Lib.hid (by first | assumption | omega)⟩))))⟩
      · obtain rfl : u = 0 := by omega
        go_wp2_with fail
        go_roundg 2
        case measure => omega
        case rel => exact ⟨pt_keep HI.out (by (repeat' (first | (with_reducible assumption) | (with_reducible exact Below.refl _ _) | (with_reducible refine bdN ?_ _) | (with_reducible refine Below.alloc ?_ ?_ _) | (with_reducible refine Below.drew ?_) | (with_reducible refine Below.setCell ?_ ?_ _) | go_size))), .inr (.inr (.inr (.inr (.inr (.inl ⟨rfl, by first | rfl | go_num, by rfl, rfl, Lib.hid (by first | exact Int.le_refl _ | omega)⟩)))))⟩
    · have q0 : wr.cell? ⟨w1.heap.size, 12, none⟩ = some (.int .u8 77) := zp.2.2.2.2.2.2.2.2.2.2.2.2.2.2.2.2.2.2.2.2.2.2.2.2.1
      have q1 : wr.cell? ⟨w1.heap.size, 13, none⟩ = some (.bool true) := zp.2.2.2.2.2.2.2.2.2.2.2.2.2.2.2.2.2.2.2.2.2.2.2.2.2.2.1
      have q2 : wr.cell? ⟨w1.heap.size, 14, none⟩ = some (.pointer (some ⟨w.heap.size, 4, none⟩)) := zp.2.2.2.2.2.2.2.2.2.2.2.2.2.2.2.2.2.2.2.2.2.2.2.2.2.2.2.2.1
      clear zp
      have hcd2 := hcd.out
      by_cases hx : 0 < i
      · have hE := (st_p (out := P4) (n := i) (c := 77) hx).symm.trans E5.out
        have hE2 := cat3 hE
        have sD := decS_size i
        have TD := Lib.hid (fun w T => itoa_any i w (by omega) (by omega) T)
        obtain ⟨D, hD⟩ : ∃ D, decS i = D := ⟨_, rfl⟩
        rw [hD] at TD hE2 sD
        have HE := Lib.hid hE2
        have hwl : IntKind.i32.wrap 77 = 77 := by decide
        have hz0 : (i == 0) = false := by simp; omega
        have ad1 := fun wx => add_okS (P := Tryd.prog) D ⟨#[77]⟩ 4 1 sD (one_sz _) (by omega) wx
        have ad2 := fun wx => add_okS (P := Tryd.prog) P4 (D ++ ⟨#[77]⟩) 40 5 (by omega) (by rw [ByteArray.size_append]; have := one_sz 77; omega) (by omega) wx
        clear hD hE hE2
        go_wp2_with fail
        go_region_held3 (fun w' => w'.cell? ⟨wr.heap.size, 0, none⟩ = some (.int .u8 77) ∧ w'.cell? ⟨wr.heap.size, 1, none⟩ = some (.bool true) ∧ w'.cell? ⟨wr.heap.size, 2, none⟩ = some (.pointer (some ⟨w.heap.size, 4, none⟩)) ∧ w'.cell? ⟨w.heap.size, 0, none⟩ = some (.int .i64 y) ∧ w'.cell? ⟨w.heap.size, 1, none⟩ = some (.int .i64 o) ∧ w'.cell? ⟨w.heap.size, 2, none⟩ = some (.int .i64 d) ∧ w'.cell? ⟨w.heap.size, 3, none⟩ = some (.int .i64 u) ∧ w'.cell? ⟨w.heap.size, 4, none⟩ = some (.int .i64 i) ∧ w'.cell? ⟨w.heap.size, 5, none⟩ = some (.int .i64 s)) (((repeat' (with_reducible refine And.intro ?_ ?_)) <;> (first | (with_reducible assumption) | (go_simp; done) | (repeat' (first | (with_reducible assumption) | (with_reducible refine kA _ ?_) | (with_reducible refine kD ?_) | (with_reducible refine kS _ ?_ ?_) | go_size | (go_simp; done))))))
          (first
            | (go_at_call 25; (with_reducible refine (TD.out _ ?tb).mono ?_); (case tb => (repeat' (first | (with_reducible exact HT2.out) | (with_reducible assumption) | (with_reducible refine tab_alloc ?_ _) | (with_reducible refine tab_drewN ?_ _) | (with_reducible refine tab_drew ?_) | (with_reducible refine tab_set ?_ ?_ _) | go_size))); rintro e w3 ⟨rfl, bw3⟩; have sw3 := bw3.size; (try simp at sw3); have Aw3 : Below wr.heap.size wr w3 := Below.trans (by (repeat' (first | (with_reducible assumption) | (with_reducible exact Below.refl _ _) | (with_reducible refine bdN ?_ _) | (with_reducible refine Below.alloc ?_ ?_ _) | (with_reducible refine Below.drew ?_) | (with_reducible refine Below.setCell ?_ ?_ _) | go_size))) (bw3.mono (by go_size)); have Tw3 := Lib.hid (tab_keep (by (repeat' (first | (with_reducible exact HT2.out) | (with_reducible assumption) | (with_reducible refine tab_alloc ?_ _) | (with_reducible refine tab_drewN ?_ _) | (with_reducible refine tab_drew ?_) | (with_reducible refine tab_set ?_ ?_ _) | go_size))) bw3); have lw3_0 : wr.heap.size < w3.heap.size := (by go_size); have zw3_wrH : CellsAt w3 (wr.heap.size) 0 [.int .u8 77, .bool true, .pointer (some ⟨w.heap.size, 4, none⟩)] := cells_keep (by (simp only [CellsAt]; (first | (go_simp; done) | ((repeat' (with_reducible refine And.intro ?_ ?_)) <;> (repeat' (first | (with_reducible assumption) | (with_reducible exact trivial) | (with_reducible refine kA _ ?_) | (with_reducible refine kD ?_) | (with_reducible refine kS _ ?_ ?_) | (with_reducible refine fA _ ?_ ?_) | (with_reducible refine fD ?_) | (with_reducible refine fS _ ?_) | go_size | (go_simp; done))))))) (fun o => bw3.cell (p := ⟨_, o, none⟩) (by go_size)) (fun o => bw3.frozen (p := ⟨_, o, none⟩) (by go_size)); have lw3_1 : w.heap.size < w3.heap.size := (by go_size); have zw3_wH : CellsAt w3 (w.heap.size) 0 [.int .i64 y, .int .i64 o, .int .i64 d, .int .i64 u, .int .i64 i, .int .i64 s] := cells_keep (by (simp only [CellsAt]; (first | (go_simp; done) | ((repeat' (with_reducible refine And.intro ?_ ?_)) <;> (repeat' (first | (with_reducible assumption) | (with_reducible exact trivial) | (with_reducible refine kA _ ?_) | (with_reducible refine kD ?_) | (with_reducible refine kS _ ?_ ?_) | (with_reducible refine fA _ ?_ ?_) | (with_reducible refine fD ?_) | (with_reducible refine fS _ ?_) | go_size | (go_simp; done))))))) (fun o => bw3.cell (p := ⟨_, o, none⟩) (by go_size)) (fun o => bw3.frozen (p := ⟨_, o, none⟩) (by go_size)); simp only [CellsAt] at zw3_wrH; simp only [CellsAt] at zw3_wH; clear zb; clear bw3)
          )
        all_goals
          go_wp2_with fail
          go_roundg 1
          case measure => omega
          case rel => exact ⟨pt_keep HI.out (by (repeat' (first | (with_reducible assumption) | (with_reducible exact Below.refl _ _) | (with_reducible refine bdN ?_ _) | (with_reducible refine Below.alloc ?_ ?_ _) | (with_reducible refine Below.drew ?_) | (with_reducible refine Below.setCell ?_ ?_ _) | go_size))), .inr (.inr (.inr (.inr (.inr (.inr (.inl ⟨rfl, by first | rfl | go_num, by rw [← HE.out] <;> rfl, rfl, Lib.hid (by omega)⟩))))))⟩
      · have hE := (st_z (out := P4) (n := i) (c := 77) hx).symm.trans E5.out
        have HE := Lib.hid hE
        obtain rfl : i = 0 := by omega
        clear hE
        go_wp2_with fail
        go_roundg 1
        case measure => omega
        case rel => exact ⟨pt_keep HI.out (by (repeat' (first | (with_reducible assumption) | (with_reducible exact Below.refl _ _) | (with_reducible refine bdN ?_ _) | (with_reducible refine Below.alloc ?_ ?_ _) | (with_reducible refine Below.drew ?_) | (with_reducible refine Below.setCell ?_ ?_ _) | go_size))), .inr (.inr (.inr (.inr (.inr (.inr (.inl ⟨rfl, by first | rfl | go_num, by rw [← HE.out] <;> rfl, rfl, Lib.hid (by omega)⟩))))))⟩
    · have q0 : wr.cell? ⟨w1.heap.size, 12, none⟩ = some (.int .u8 77) := zp.2.2.2.2.2.2.2.2.2.2.2.2.2.2.2.2.2.2.2.2.2.2.2.2.1
      have q1 : wr.cell? ⟨w1.heap.size, 13, none⟩ = some (.bool true) := zp.2.2.2.2.2.2.2.2.2.2.2.2.2.2.2.2.2.2.2.2.2.2.2.2.2.2.1
      have q2 : wr.cell? ⟨w1.heap.size, 14, none⟩ = some (.pointer (some ⟨w.heap.size, 4, none⟩)) := zp.2.2.2.2.2.2.2.2.2.2.2.2.2.2.2.2.2.2.2.2.2.2.2.2.2.2.2.2.1
      clear zp
      have hcd2 := hcd.out
      by_cases hx : 0 < i
      · have hE := (st_p (out := P4) (n := i) (c := 77) hx).symm.trans E5.out
        have hT : 0 < u + i + s := by omega
        have hPT := (te_p (out := P3) hT).symm.trans ET.out
        have h4 := (st_z (out := PT) (n := u) (c := 72) (by omega)).symm.trans E4.out
        rw [← h4, ← hPT] at hE
        have szT : (P3 ++ ⟨#[84]⟩).size ≤ 40 := by rw [ByteArray.size_append]; have := one_sz 84; omega
        have hE2 := cat3 hE
        have sD := decS_size i
        have TD := Lib.hid (fun w T => itoa_any i w (by omega) (by omega) T)
        obtain ⟨D, hD⟩ : ∃ D, decS i = D := ⟨_, rfl⟩
        rw [hD] at TD hE2 sD
        have HE := Lib.hid hE2
        have hwl : IntKind.i32.wrap 77 = 77 := by decide
        have hz0 : (i == 0) = false := by simp; omega
        have ad1 := fun wx => add_okS (P := Tryd.prog) D ⟨#[77]⟩ 4 1 sD (one_sz _) (by omega) wx
        have ad2 := fun wx => add_okS (P := Tryd.prog) (P3 ++ ⟨#[84]⟩) (D ++ ⟨#[77]⟩) 40 5 (by omega) (by rw [ByteArray.size_append]; have := one_sz 77; omega) (by omega) wx
        clear hD hE hE2 hPT hT h4
        go_wp2_with fail
        go_region_held3 (fun w' => w'.cell? ⟨wr.heap.size, 0, none⟩ = some (.int .u8 77) ∧ w'.cell? ⟨wr.heap.size, 1, none⟩ = some (.bool true) ∧ w'.cell? ⟨wr.heap.size, 2, none⟩ = some (.pointer (some ⟨w.heap.size, 4, none⟩)) ∧ w'.cell? ⟨w.heap.size, 0, none⟩ = some (.int .i64 y) ∧ w'.cell? ⟨w.heap.size, 1, none⟩ = some (.int .i64 o) ∧ w'.cell? ⟨w.heap.size, 2, none⟩ = some (.int .i64 d) ∧ w'.cell? ⟨w.heap.size, 3, none⟩ = some (.int .i64 u) ∧ w'.cell? ⟨w.heap.size, 4, none⟩ = some (.int .i64 i) ∧ w'.cell? ⟨w.heap.size, 5, none⟩ = some (.int .i64 s)) (((repeat' (with_reducible refine And.intro ?_ ?_)) <;> (first | (with_reducible assumption) | (go_simp; done) | (repeat' (first | (with_reducible assumption) | (with_reducible refine kA _ ?_) | (with_reducible refine kD ?_) | (with_reducible refine kS _ ?_ ?_) | go_size | (go_simp; done))))))
          (first
            | (go_at_call 25; (with_reducible refine (TD.out _ ?tb).mono ?_); (case tb => (repeat' (first | (with_reducible exact HT2.out) | (with_reducible assumption) | (with_reducible refine tab_alloc ?_ _) | (with_reducible refine tab_drewN ?_ _) | (with_reducible refine tab_drew ?_) | (with_reducible refine tab_set ?_ ?_ _) | go_size))); rintro e w3 ⟨rfl, bw3⟩; have sw3 := bw3.size; (try simp at sw3); have Aw3 : Below wr.heap.size wr w3 := Below.trans (by (repeat' (first | (with_reducible assumption) | (with_reducible exact Below.refl _ _) | (with_reducible refine bdN ?_ _) | (with_reducible refine Below.alloc ?_ ?_ _) | (with_reducible refine Below.drew ?_) | (with_reducible refine Below.setCell ?_ ?_ _) | go_size))) (bw3.mono (by go_size)); have Tw3 := Lib.hid (tab_keep (by (repeat' (first | (with_reducible exact HT2.out) | (with_reducible assumption) | (with_reducible refine tab_alloc ?_ _) | (with_reducible refine tab_drewN ?_ _) | (with_reducible refine tab_drew ?_) | (with_reducible refine tab_set ?_ ?_ _) | go_size))) bw3); have lw3_0 : wr.heap.size < w3.heap.size := (by go_size); have zw3_wrH : CellsAt w3 (wr.heap.size) 0 [.int .u8 77, .bool true, .pointer (some ⟨w.heap.size, 4, none⟩)] := cells_keep (by (simp only [CellsAt]; (first | (go_simp; done) | ((repeat' (with_reducible refine And.intro ?_ ?_)) <;> (repeat' (first | (with_reducible assumption) | (with_reducible exact trivial) | (with_reducible refine kA _ ?_) | (with_reducible refine kD ?_) | (with_reducible refine kS _ ?_ ?_) | (with_reducible refine fA _ ?_ ?_) | (with_reducible refine fD ?_) | (with_reducible refine fS _ ?_) | go_size | (go_simp; done))))))) (fun o => bw3.cell (p := ⟨_, o, none⟩) (by go_size)) (fun o => bw3.frozen (p := ⟨_, o, none⟩) (by go_size)); have lw3_1 : w.heap.size < w3.heap.size := (by go_size); have zw3_wH : CellsAt w3 (w.heap.size) 0 [.int .i64 y, .int .i64 o, .int .i64 d, .int .i64 u, .int .i64 i, .int .i64 s] := cells_keep (by (simp only [CellsAt]; (first | (go_simp; done) | ((repeat' (with_reducible refine And.intro ?_ ?_)) <;> (repeat' (first | (with_reducible assumption) | (with_reducible exact trivial) | (with_reducible refine kA _ ?_) | (with_reducible refine kD ?_) | (with_reducible refine kS _ ?_ ?_) | (with_reducible refine fA _ ?_ ?_) | (with_reducible refine fD ?_) | (with_reducible refine fS _ ?_) | go_size | (go_simp; done))))))) (fun o => bw3.cell (p := ⟨_, o, none⟩) (by go_size)) (fun o => bw3.frozen (p := ⟨_, o, none⟩) (by go_size)); simp only [CellsAt] at zw3_wrH; simp only [CellsAt] at zw3_wH; clear zb; clear bw3)
          )
        all_goals
          go_wp2_with fail
          go_roundg 1
          case measure => omega
          case rel => exact ⟨pt_keep HI.out (by (repeat' (first | (with_reducible assumption) | (with_reducible exact Below.refl _ _) | (with_reducible refine bdN ?_ _) | (with_reducible refine Below.alloc ?_ ?_ _) | (with_reducible refine Below.drew ?_) | (with_reducible refine Below.setCell ?_ ?_ _) | go_size))), .inr (.inr (.inr (.inr (.inr (.inr (.inl ⟨rfl, by first | rfl | go_num, by rw [← HE.out] <;> rfl, rfl, Lib.hid (by omega)⟩))))))⟩
      · obtain rfl : i = 0 := by omega
        go_wp2_with fail
        go_roundg 1
        case measure => omega
        case rel => exact ⟨pt_keep HI.out (by (repeat' (first | (with_reducible assumption) | (with_reducible exact Below.refl _ _) | (with_reducible refine bdN ?_ _) | (with_reducible refine Below.alloc ?_ ?_ _) | (with_reducible refine Below.drew ?_) | (with_reducible refine Below.setCell ?_ ?_ _) | go_size))), .inr (.inr (.inr (.inr (.inr (.inr (.inr (.inl ⟨rfl, by first | rfl | go_num, by rfl, rfl, Lib.hid (by omega)⟩)))))))⟩
    · have q0 : wr.cell? ⟨w1.heap.size, 15, none⟩ = some (.int .u8 83) := zp.2.2.2.2.2.2.2.2.2.2.2.2.2.2.2.2.2.2.2.2.2.2.2.2.2.2.2.2.2.2.1
      have q1 : wr.cell? ⟨w1.heap.size, 16, none⟩ = some (.bool true) := zp.2.2.2.2.2.2.2.2.2.2.2.2.2.2.2.2.2.2.2.2.2.2.2.2.2.2.2.2.2.2.2.2.1
      have q2 : wr.cell? ⟨w1.heap.size, 17, none⟩ = some (.pointer (some ⟨w.heap.size, 5, none⟩)) := zp.2.2.2.2.2.2.2.2.2.2.2.2.2.2.2.2.2.2.2.2.2.2.2.2.2.2.2.2.2.2.2.2.2.2.1
      clear zp
      have hcd2 := hcd.out
      by_cases hx : 0 < s
      · have hE := (st_p (out := P5) (n := s) (c := 83) hx).symm.trans E6.out
        have hE2 := cat3 hE
        have sD := decS_size s
        have TD := Lib.hid (fun w T => itoa_any s w (by omega) (by omega) T)
        obtain ⟨D, hD⟩ : ∃ D, decS s = D := ⟨_, rfl⟩
        rw [hD] at TD hE2 sD
        have HE := Lib.hid hE2
        have hwl : IntKind.i32.wrap 83 = 83 := by decide
        have hz0 : (s == 0) = false := by simp; omega
        have ad1 := fun wx => add_okS (P := Tryd.prog) D ⟨#[83]⟩ 4 1 sD (one_sz _) (by omega) wx
        have ad2 := fun wx => add_okS (P := Tryd.prog) P5 (D ++ ⟨#[83]⟩) 40 5 (by omega) (by rw [ByteArray.size_append]; have := one_sz 83; omega) (by omega) wx
        clear hD hE hE2
        go_wp2_with fail
        go_region_held3 (fun w' => w'.cell? ⟨wr.heap.size, 0, none⟩ = some (.int .u8 83) ∧ w'.cell? ⟨wr.heap.size, 1, none⟩ = some (.bool true) ∧ w'.cell? ⟨wr.heap.size, 2, none⟩ = some (.pointer (some ⟨w.heap.size, 5, none⟩)) ∧ w'.cell? ⟨w.heap.size, 0, none⟩ = some (.int .i64 y) ∧ w'.cell? ⟨w.heap.size, 1, none⟩ = some (.int .i64 o) ∧ w'.cell? ⟨w.heap.size, 2, none⟩ = some (.int .i64 d) ∧ w'.cell? ⟨w.heap.size, 3, none⟩ = some (.int .i64 u) ∧ w'.cell? ⟨w.heap.size, 4, none⟩ = some (.int .i64 i) ∧ w'.cell? ⟨w.heap.size, 5, none⟩ = some (.int .i64 s)) (((repeat' (with_reducible refine And.intro ?_ ?_)) <;> (first | (with_reducible assumption) | (go_simp; done) | (repeat' (first | (with_reducible assumption) | (with_reducible refine kA _ ?_) | (with_reducible refine kD ?_) | (with_reducible refine kS _ ?_ ?_) | go_size | (go_simp; done))))))
          (first
            | (go_at_call 25; (with_reducible refine (TD.out _ ?tb).mono ?_); (case tb => (repeat' (first | (with_reducible exact HT2.out) | (with_reducible assumption) | (with_reducible refine tab_alloc ?_ _) | (with_reducible refine tab_drewN ?_ _) | (with_reducible refine tab_drew ?_) | (with_reducible refine tab_set ?_ ?_ _) | go_size))); rintro e w3 ⟨rfl, bw3⟩; have sw3 := bw3.size; (try simp at sw3); have Aw3 : Below wr.heap.size wr w3 := Below.trans (by (repeat' (first | (with_reducible assumption) | (with_reducible exact Below.refl _ _) | (with_reducible refine bdN ?_ _) | (with_reducible refine Below.alloc ?_ ?_ _) | (with_reducible refine Below.drew ?_) | (with_reducible refine Below.setCell ?_ ?_ _) | go_size))) (bw3.mono (by go_size)); have Tw3 := Lib.hid (tab_keep (by (repeat' (first | (with_reducible exact HT2.out) | (with_reducible assumption) | (with_reducible refine tab_alloc ?_ _) | (with_reducible refine tab_drewN ?_ _) | (with_reducible refine tab_drew ?_) | (with_reducible refine tab_set ?_ ?_ _) | go_size))) bw3); have lw3_0 : wr.heap.size < w3.heap.size := (by go_size); have zw3_wrH : CellsAt w3 (wr.heap.size) 0 [.int .u8 83, .bool true, .pointer (some ⟨w.heap.size, 5, none⟩)] := cells_keep (by (simp only [CellsAt]; (first | (go_simp; done) | ((repeat' (with_reducible refine And.intro ?_ ?_)) <;> (repeat' (first | (with_reducible assumption) | (with_reducible exact trivial) | (with_reducible refine kA _ ?_) | (with_reducible refine kD ?_) | (with_reducible refine kS _ ?_ ?_) | (with_reducible refine fA _ ?_ ?_) | (with_reducible refine fD ?_) | (with_reducible refine fS _ ?_) | go_size | (go_simp; done))))))) (fun o => bw3.cell (p := ⟨_, o, none⟩) (by go_size)) (fun o => bw3.frozen (p := ⟨_, o, none⟩) (by go_size)); have lw3_1 : w.heap.size < w3.heap.size := (by go_size); have zw3_wH : CellsAt w3 (w.heap.size) 0 [.int .i64 y, .int .i64 o, .int .i64 d, .int .i64 u, .int .i64 i, .int .i64 s] := cells_keep (by (simp only [CellsAt]; (first | (go_simp; done) | ((repeat' (with_reducible refine And.intro ?_ ?_)) <;> (repeat' (first | (with_reducible assumption) | (with_reducible exact trivial) | (with_reducible refine kA _ ?_) | (with_reducible refine kD ?_) | (with_reducible refine kS _ ?_ ?_) | (with_reducible refine fA _ ?_ ?_) | (with_reducible refine fD ?_) | (with_reducible refine fS _ ?_) | go_size | (go_simp; done))))))) (fun o => bw3.cell (p := ⟨_, o, none⟩) (by go_size)) (fun o => bw3.frozen (p := ⟨_, o, none⟩) (by go_size)); simp only [CellsAt] at zw3_wrH; simp only [CellsAt] at zw3_wH; clear zb; clear bw3)
          )
        all_goals
          go_wp2_with fail
          go_roundg 0
          case measure => omega
          case rel => exact ⟨pt_keep HI.out (by (repeat' (first | (with_reducible assumption) | (with_reducible exact Below.refl _ _) | (with_reducible refine bdN ?_ _) | (with_reducible refine Below.alloc ?_ ?_ _) | (with_reducible refine Below.drew ?_) | (with_reducible refine Below.setCell ?_ ?_ _) | go_size))), .inr (.inr (.inr (.inr (.inr (.inr (.inr (.inr (⟨rfl, by first | rfl | go_num, by rw [← HE.out] <;> rfl, _, rfl⟩))))))))⟩
      · have hE := (st_z (out := P5) (n := s) (c := 83) hx).symm.trans E6.out
        have HE := Lib.hid hE
        obtain rfl : s = 0 := by omega
        clear hE
        go_wp2_with fail
        go_roundg 0
        case measure => omega
        case rel => exact ⟨pt_keep HI.out (by (repeat' (first | (with_reducible assumption) | (with_reducible exact Below.refl _ _) | (with_reducible refine bdN ?_ _) | (with_reducible refine Below.alloc ?_ ?_ _) | (with_reducible refine Below.drew ?_) | (with_reducible refine Below.setCell ?_ ?_ _) | go_size))), .inr (.inr (.inr (.inr (.inr (.inr (.inr (.inr (⟨rfl, by first | rfl | go_num, by rw [← HE.out] <;> rfl, _, rfl⟩))))))))⟩
    · have q0 : wr.cell? ⟨w1.heap.size, 15, none⟩ = some (.int .u8 83) := zp.2.2.2.2.2.2.2.2.2.2.2.2.2.2.2.2.2.2.2.2.2.2.2.2.2.2.2.2.2.2.1
      have q1 : wr.cell? ⟨w1.heap.size, 16, none⟩ = some (.bool true) := zp.2.2.2.2.2.2.2.2.2.2.2.2.2.2.2.2.2.2.2.2.2.2.2.2.2.2.2.2.2.2.2.2.1
      have q2 : wr.cell? ⟨w1.heap.size, 17, none⟩ = some (.pointer (some ⟨w.heap.size, 5, none⟩)) := zp.2.2.2.2.2.2.2.2.2.2.2.2.2.2.2.2.2.2.2.2.2.2.2.2.2.2.2.2.2.2.2.2.2.2.1
      clear zp
      have hcd2 := hcd.out
      by_cases hx : 0 < s
      · have hE := (st_p (out := P5) (n := s) (c := 83) hx).symm.trans E6.out
        have hT : 0 < u + i + s := by omega
        have hPT := (te_p (out := P3) hT).symm.trans ET.out
        have h4 := (st_z (out := PT) (n := u) (c := 72) (by omega)).symm.trans E4.out
        have h5 := (st_z (out := P4) (n := i) (c := 77) (by omega)).symm.trans E5.out
        rw [← h5, ← h4, ← hPT] at hE
        have szT : (P3 ++ ⟨#[84]⟩).size ≤ 40 := by rw [ByteArray.size_append]; have := one_sz 84; omega
        have hE2 := cat3 hE
        have sD := decS_size s
        have TD := Lib.hid (fun w T => itoa_any s w (by omega) (by omega) T)
        obtain ⟨D, hD⟩ : ∃ D, decS s = D := ⟨_, rfl⟩
        rw [hD] at TD hE2 sD
        have HE := Lib.hid hE2
        have hwl : IntKind.i32.wrap 83 = 83 := by decide
        have hz0 : (s == 0) = false := by simp; omega
        have ad1 := fun wx => add_okS (P := Tryd.prog) D ⟨#[83]⟩ 4 1 sD (one_sz _) (by omega) wx
        have ad2 := fun wx => add_okS (P := Tryd.prog) (P3 ++ ⟨#[84]⟩) (D ++ ⟨#[83]⟩) 40 5 (by omega) (by rw [ByteArray.size_append]; have := one_sz 83; omega) (by omega) wx
        clear hD hE hE2 hPT hT h4 h5
        go_wp2_with fail
        go_region_held3 (fun w' => w'.cell? ⟨wr.heap.size, 0, none⟩ = some (.int .u8 83) ∧ w'.cell? ⟨wr.heap.size, 1, none⟩ = some (.bool true) ∧ w'.cell? ⟨wr.heap.size, 2, none⟩ = some (.pointer (some ⟨w.heap.size, 5, none⟩)) ∧ w'.cell? ⟨w.heap.size, 0, none⟩ = some (.int .i64 y) ∧ w'.cell? ⟨w.heap.size, 1, none⟩ = some (.int .i64 o) ∧ w'.cell? ⟨w.heap.size, 2, none⟩ = some (.int .i64 d) ∧ w'.cell? ⟨w.heap.size, 3, none⟩ = some (.int .i64 u) ∧ w'.cell? ⟨w.heap.size, 4, none⟩ = some (.int .i64 i) ∧ w'.cell? ⟨w.heap.size, 5, none⟩ = some (.int .i64 s)) (((repeat' (with_reducible refine And.intro ?_ ?_)) <;> (first | (with_reducible assumption) | (go_simp; done) | (repeat' (first | (with_reducible assumption) | (with_reducible refine kA _ ?_) | (with_reducible refine kD ?_) | (with_reducible refine kS _ ?_ ?_) | go_size | (go_simp; done))))))
          (first
            | (go_at_call 25; (with_reducible refine (TD.out _ ?tb).mono ?_); (case tb => (repeat' (first | (with_reducible exact HT2.out) | (with_reducible assumption) | (with_reducible refine tab_alloc ?_ _) | (with_reducible refine tab_drewN ?_ _) | (with_reducible refine tab_drew ?_) | (with_reducible refine tab_set ?_ ?_ _) | go_size))); rintro e w3 ⟨rfl, bw3⟩; have sw3 := bw3.size; (try simp at sw3); have Aw3 : Below wr.heap.size wr w3 := Below.trans (by (repeat' (first | (with_reducible assumption) | (with_reducible exact Below.refl _ _) | (with_reducible refine bdN ?_ _) | (with_reducible refine Below.alloc ?_ ?_ _) | (with_reducible refine Below.drew ?_) | (with_reducible refine Below.setCell ?_ ?_ _) | go_size))) (bw3.mono (by go_size)); have Tw3 := Lib.hid (tab_keep (by (repeat' (first | (with_reducible exact HT2.out) | (with_reducible assumption) | (with_reducible refine tab_alloc ?_ _) | (with_reducible refine tab_drewN ?_ _) | (with_reducible refine tab_drew ?_) | (with_reducible refine tab_set ?_ ?_ _) | go_size))) bw3); have lw3_0 : wr.heap.size < w3.heap.size := (by go_size); have zw3_wrH : CellsAt w3 (wr.heap.size) 0 [.int .u8 83, .bool true, .pointer (some ⟨w.heap.size, 5, none⟩)] := cells_keep (by (simp only [CellsAt]; (first | (go_simp; done) | ((repeat' (with_reducible refine And.intro ?_ ?_)) <;> (repeat' (first | (with_reducible assumption) | (with_reducible exact trivial) | (with_reducible refine kA _ ?_) | (with_reducible refine kD ?_) | (with_reducible refine kS _ ?_ ?_) | (with_reducible refine fA _ ?_ ?_) | (with_reducible refine fD ?_) | (with_reducible refine fS _ ?_) | go_size | (go_simp; done))))))) (fun o => bw3.cell (p := ⟨_, o, none⟩) (by go_size)) (fun o => bw3.frozen (p := ⟨_, o, none⟩) (by go_size)); have lw3_1 : w.heap.size < w3.heap.size := (by go_size); have zw3_wH : CellsAt w3 (w.heap.size) 0 [.int .i64 y, .int .i64 o, .int .i64 d, .int .i64 u, .int .i64 i, .int .i64 s] := cells_keep (by (simp only [CellsAt]; (first | (go_simp; done) | ((repeat' (with_reducible refine And.intro ?_ ?_)) <;> (repeat' (first | (with_reducible assumption) | (with_reducible exact trivial) | (with_reducible refine kA _ ?_) | (with_reducible refine kD ?_) | (with_reducible refine kS _ ?_ ?_) | (with_reducible refine fA _ ?_ ?_) | (with_reducible refine fD ?_) | (with_reducible refine fS _ ?_) | go_size | (go_simp; done))))))) (fun o => bw3.cell (p := ⟨_, o, none⟩) (by go_size)) (fun o => bw3.frozen (p := ⟨_, o, none⟩) (by go_size)); simp only [CellsAt] at zw3_wrH; simp only [CellsAt] at zw3_wH; clear zb; clear bw3)
          )
        all_goals
          go_wp2_with fail
          go_roundg 0
          case measure => omega
          case rel => exact ⟨pt_keep HI.out (by (repeat' (first | (with_reducible assumption) | (with_reducible exact Below.refl _ _) | (with_reducible refine bdN ?_ _) | (with_reducible refine Below.alloc ?_ ?_ _) | (with_reducible refine Below.drew ?_) | (with_reducible refine Below.setCell ?_ ?_ _) | go_size))), .inr (.inr (.inr (.inr (.inr (.inr (.inr (.inr (⟨rfl, by first | rfl | go_num, by rw [← HE.out] <;> rfl, _, rfl⟩))))))))⟩
      · have hE := (st_z (out := P5) (n := s) (c := 83) hx).symm.trans E6.out
        have hPT := (te_z (out := P3) (show ¬ 0 < u + i + s by omega)).symm.trans ET.out
        have h4 := (st_z (out := PT) (n := u) (c := 72) (by omega)).symm.trans E4.out
        have h5 := (st_z (out := P4) (n := i) (c := 77) (by omega)).symm.trans E5.out
        rw [← h5, ← h4, ← hPT] at hE
        clear hPT h4 h5
        have HE := Lib.hid hE
        obtain rfl : s = 0 := by omega
        clear hE
        go_wp2_with fail
        go_roundg 0
        case measure => omega
        case rel => exact ⟨pt_keep HI.out (by (repeat' (first | (with_reducible assumption) | (with_reducible exact Below.refl _ _) | (with_reducible refine bdN ?_ _) | (with_reducible refine Below.alloc ?_ ?_ _) | (with_reducible refine Below.drew ?_) | (with_reducible refine Below.setCell ?_ ?_ _) | go_size))), .inr (.inr (.inr (.inr (.inr (.inr (.inr (.inr (⟨rfl, by first | rfl | go_num, by rw [← HE.out] <;> rfl, _, rfl⟩))))))))⟩
    · clear zp
      go_wp2_with fail
      go_ret
      exact ⟨rfl, by (repeat' (first | (with_reducible assumption) | (with_reducible exact Below.refl _ _) | (with_reducible refine bdN ?_ _) | (with_reducible refine Below.alloc ?_ ?_ _) | (with_reducible refine Below.drew ?_) | (with_reducible refine Below.setCell ?_ ?_ _) | go_size))⟩

set_option maxRecDepth 100000 in
set_option maxHeartbeats 2000000 in
theorem PeriodText_i (y o d u i s : Int) (w : World) (TW : Tab w) : Calls Tryd.prog 11 #[.agg #[.int .i64 y, .int .i64 o, .int .i64 d, .int .i64 u, .int .i64 i, .int .i64 s]] w fun e w' => e = .returned (.string (ptA y o d u i s)) ∧ Below w.heap.size w w' := by
  cases h : pvB y o d u i s
  · have V := Lib.hid (pv_impl_b y o d u i s false h)
    rw [show ptA y o d u i s = ⟨#[]⟩ from if_neg (by rw [h]; exact Bool.false_ne_true)]
    clear h TW
    go_enter Tryd.func11, Tryd.ntmps11
    go_wp2_with fail
    refine (V.out _).mono ?_
    rintro e w1 ⟨rfl, bw1⟩
    have sw1 := bw1.size
    (try simp at sw1)
    have Aw1 : Below w.heap.size w w1 := Below.trans (by (repeat' (first | (with_reducible assumption) | (with_reducible exact Below.refl _ _) | (with_reducible refine bdN ?_ _) | (with_reducible refine Below.alloc ?_ ?_ _) | (with_reducible refine Below.drew ?_) | (with_reducible refine Below.setCell ?_ ?_ _) | go_size))) (bw1.mono (by go_size))
    have lw1_0 : w.heap.size < w1.heap.size := (by go_size)
    have zw1_wH : CellsAt w1 (w.heap.size) 0 [.int .i64 y, .int .i64 o, .int .i64 d, .int .i64 u, .int .i64 i, .int .i64 s] := cells_keep (by (simp only [CellsAt]; (first | (go_simp; done) | ((repeat' (with_reducible refine And.intro ?_ ?_)) <;> (repeat' (first | (with_reducible assumption) | (with_reducible exact trivial) | (with_reducible refine kA _ ?_) | (with_reducible refine kD ?_) | (with_reducible refine kS _ ?_ ?_) | (with_reducible refine fA _ ?_ ?_) | (with_reducible refine fD ?_) | (with_reducible refine fS _ ?_) | go_size | (go_simp; done))))))) (fun o => bw1.cell (p := ⟨_, o, none⟩) (by go_size)) (fun o => bw1.frozen (p := ⟨_, o, none⟩) (by go_size))
    simp only [CellsAt] at zw1_wH
    clear bw1
    go_wp2_with fail
    go_ret
    exact ⟨rfl, by (repeat' (first | (with_reducible assumption) | (with_reducible exact Below.refl _ _) | (with_reducible refine bdN ?_ _) | (with_reducible refine Below.alloc ?_ ?_ _) | (with_reducible refine Below.drew ?_) | (with_reducible refine Below.setCell ?_ ?_ _) | go_size))⟩
  · rw [show ptA y o d u i s = ptS y o d u i s from if_pos h]
    by_cases hne : 0 < y + o + d + u + i + s
    · exact ptI_some y o d u i s w TW h hne
    · obtain ⟨⟨h0, h1⟩, ⟨h2, h3⟩, ⟨h4, h5⟩, ⟨h6, h7⟩, ⟨h8, h9⟩, ⟨ha, hb⟩⟩ := pvB_bd h
      obtain rfl : y = 0 := by omega
      obtain rfl : o = 0 := by omega
      obtain rfl : d = 0 := by omega
      obtain rfl : u = 0 := by omega
      obtain rfl : i = 0 := by omega
      obtain rfl : s = 0 := by omega
      rw [ptS_zero]
      have V := Lib.hid (pv_impl_b 0 0 0 0 0 0 true h)
      clear h TW h0 h1 h2 h3 h4 h5 h6 h7 h8 h9 ha hb hne
      go_enter Tryd.func11, Tryd.ntmps11
      go_wp2_with fail
      refine (V.out _).mono ?_
      rintro e w1 ⟨rfl, bw1⟩
      have sw1 := bw1.size
      (try simp at sw1)
      have Aw1 : Below w.heap.size w w1 := Below.trans (by (repeat' (first | (with_reducible assumption) | (with_reducible exact Below.refl _ _) | (with_reducible refine bdN ?_ _) | (with_reducible refine Below.alloc ?_ ?_ _) | (with_reducible refine Below.drew ?_) | (with_reducible refine Below.setCell ?_ ?_ _) | go_size))) (bw1.mono (by go_size))
      have lw1_0 : w.heap.size < w1.heap.size := (by go_size)
      have zw1_wH : CellsAt w1 (w.heap.size) 0 [.int .i64 0, .int .i64 0, .int .i64 0, .int .i64 0, .int .i64 0, .int .i64 0] := cells_keep (by (simp only [CellsAt]; (first | (go_simp; done) | ((repeat' (with_reducible refine And.intro ?_ ?_)) <;> (repeat' (first | (with_reducible assumption) | (with_reducible exact trivial) | (with_reducible refine kA _ ?_) | (with_reducible refine kD ?_) | (with_reducible refine kS _ ?_ ?_) | (with_reducible refine fA _ ?_ ?_) | (with_reducible refine fD ?_) | (with_reducible refine fS _ ?_) | go_size | (go_simp; done))))))) (fun o => bw1.cell (p := ⟨_, o, none⟩) (by go_size)) (fun o => bw1.frozen (p := ⟨_, o, none⟩) (by go_size))
      simp only [CellsAt] at zw1_wH
      clear bw1
      go_wp2_with fail
      go_ret
      exact ⟨rfl, by (repeat' (first | (with_reducible assumption) | (with_reducible exact Below.refl _ _) | (with_reducible refine bdN ?_ _) | (with_reducible refine Below.alloc ?_ ?_ _) | (with_reducible refine Below.drew ?_) | (with_reducible refine Below.setCell ?_ ?_ _) | go_size))⟩
end Go.Proofs.YtmdmahgplmijcaaDoor
