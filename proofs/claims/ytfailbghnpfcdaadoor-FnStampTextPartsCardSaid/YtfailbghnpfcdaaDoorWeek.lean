/- The week of a day: plain lemmas, and contracts of the functions that give it, by the program and by the reference. Conditions: the program's table of the months' days stands in memory ('Tab'); there is such a date. -/
import Derived.Test.YtfailbghnpfcdaaDoorDateAt
import Derived.Test.YtfailbghnpfcdaaDoorVdb
import Derived.Test.YtfailbghnpfcdaaDoorSeal
import Derived.Deep.RegionHeld3
namespace Go.Proofs.YtfailbghnpfcdaaDoor
set_option linter.unusedSimpArgs false
set_option linter.unusedVariables false
open Go.RowKit DN

/-- the first day of the first week of a year -/
def ff (y : Int) : Int := if yb y % 7 ≤ 3 then yb y - yb y % 7 else yb y + 7 - yb y % 7
/-- day n lies in week W of year Y, on its day D -/
def IsW (n Y W D : Int) : Prop := 1 ≤ Y ∧ Y ≤ 9999 ∧ ff Y ≤ n ∧ n < ff (Y + 1) ∧ W = (n - ff Y) / 7 + 1 ∧ D = (n - ff Y) % 7 + 1
theorem ff_is (y : Int) : ff y % 7 = 0 ∧ yb y - 3 ≤ ff y ∧ ff y ≤ yb y + 3 := by unfold ff; split <;> omega
theorem ff_mono {a b : Int} (h1 : 1 ≤ a) (h : a < b) : ff a < ff b := by
  have := yb_mono h1 (by omega : a ≤ b)
  have := ff_is a; have := ff_is b
  omega
theorem isW_year {n Y W D y m d : Int} (h : IsW n Y W D) (hd : vd y m d = true) (hn : dn y m d = n) : (n < ff y → Y = y - 1) ∧ (ff y ≤ n → n < ff (y + 1) → Y = y) ∧ (ff (y + 1) ≤ n → Y = y + 1) ∧ (n < ff y → ff (y - 1) ≤ n ∧ 2 ≤ y) ∧ (ff (y + 1) ≤ n → y ≤ 9998) := by
  obtain ⟨a1, a2, a3, a4, _, _⟩ := h
  obtain ⟨b1, b2⟩ := dn_year hd
  have hv := vd_iff.1 hd
  have hb := dn_bd hd
  rw [hn] at b1 b2 hb
  have cmp : ∀ {a b : Int}, 1 ≤ a → 1 ≤ b → ff a < ff (b + 1) → ff b < ff (a + 1) → a = b := by
    intro a b p q r s
    rcases Int.lt_trichotomy a b with h | h | h
    · rcases Int.lt_or_le (a + 1) b with h' | h'
      · have := ff_mono (by omega) h'; omega
      · have : a + 1 = b := by omega
        subst this; omega
    · exact h
    · rcases Int.lt_or_le (b + 1) a with h' | h'
      · have := ff_mono (by omega) h'; omega
      · have : b + 1 = a := by omega
        subst this; omega
  have f0 := ff_is y
  have f1 := ff_is (y + 1)
  have fm := ff_is (y - 1)
  have f2 := ff_is (y + 1 + 1)
  have s0 := yb_succ y (by omega)
  have s1 := yb_succ (y + 1) (by omega)
  have l0 := lpI_01 y
  have l1 := lpI_01 (y + 1)
  refine ⟨fun h => ?_, fun h1 h2 => ?_, fun h => ?_, fun h => ?_, fun h => ?_⟩
  · by_cases h2 : 2 ≤ y
    · have sm := yb_succ (y - 1) (by omega)
      rw [show y - 1 + 1 = y by omega] at sm
      have lm := lpI_01 (y - 1)
      refine cmp (by omega) (by omega) ?_ ?_
      · rw [show y - 1 + 1 = y by omega]; omega
      · omega
    · have : y = 1 := by omega
      subst this
      have : ff 1 = 0 := by decide
      omega
  · exact cmp (by omega) (by omega) (by omega) (by omega)
  · exact cmp (by omega) (by omega) (by omega) (by omega)
  · by_cases h2 : 2 ≤ y
    · have sm := yb_succ (y - 1) (by omega)
      rw [show y - 1 + 1 = y by omega] at sm
      have lm := lpI_01 (y - 1)
      omega
    · have : y = 1 := by omega
      subst this
      have : ff 1 = 0 := by decide
      omega
  · apply Int.le_of_not_gt
    intro h3
    have : y = 9999 := by omega
    subst this
    have : ff (9999 + 1) = 3652061 := by decide
    omega
/-- the Thursday of a day's week lies in the week's year -/
theorem isW_of {n Y mm dd : Int} (h : IsD (n - n % 7 + 3) Y mm dd) (h0 : 0 ≤ n) : IsW n Y ((n - n % 7 + 3 - yb Y) / 7 + 1) (n % 7 + 1) := by
  obtain ⟨y1, y2, y3, y4⟩ := isD_year h
  have f0 := ff_is Y
  have f1 := ff_is (Y + 1)
  refine ⟨y1, y2, by omega, by omega, ?_, by omega⟩
  generalize ff Y = f at *
  generalize yb Y = k at *
  omega
theorem isD_thu {n : Int} (h1 : 0 ≤ n) (h2 : n ≤ 3652058) : ∃ Y mm dd, IsD (n - n % 7 + 3) Y mm dd := isD_ex (by omega) (by omega)

theorem l3First_s (y : Int) (w : World) (h1 : 1 ≤ y) (h2 : y ≤ 10000) : Calls Tryd.prog 49 #[.int .i64 y] w fun e w' => e = .returned (.int .i64 (ff y)) ∧ w = w' := by
  have K := Lib.hid (fun w => yb_s y w h1 h2)
  obtain ⟨b1, b2⟩ := yb_bd y h1 h2
  obtain ⟨f, hf⟩ : ∃ f, ff y = f := ⟨_, rfl⟩
  rw [hf]
  unfold ff at hf
  generalize yb y = k at *
  by_cases h : k % 7 ≤ 3
  · rw [if_pos h] at hf
    subst hf
    go_enter Tryd.func49, Tryd.ntmps49
    go_wp2_with fail
    refine (K.out _).mono ?_
    rintro e w' ⟨rfl, rfl⟩
    go_wp2_with fail
    go_ret
    exact ⟨rfl, rfl⟩
  · rw [if_neg h] at hf
    subst hf
    go_enter Tryd.func49, Tryd.ntmps49
    go_wp2_with fail
    refine (K.out _).mono ?_
    rintro e w' ⟨rfl, rfl⟩
    go_wp2_with fail
    go_ret
    exact ⟨rfl, rfl⟩

set_option maxHeartbeats 2000000 in
theorem WeekOf_s (y m d Y W D : Int) (w : World) (hv : vd y m d = true) (h : IsW (dn y m d) Y W D) : Calls Tryd.prog 23 #[.agg #[.int .i64 y, .int .i64 m, .int .i64 d]] w fun e w' => e = .returned (.tuple #[.agg #[.int .i64 Y, .int .i64 W, .int .i64 D], .bool true]) ∧ Below w.heap.size w w' := by
  obtain ⟨c1, c2, c3, c4, c5⟩ := isW_year h hv rfl
  obtain ⟨i1, i2, i3, i4, i5, i6⟩ := h
  have hy := vd_iff.1 hv
  have y1 := hy.1
  have y2 := hy.2.1
  have V := Lib.hid (fun w => vd_sb y m d w true hv)
  have N := Lib.hid (fun w => dayNumber_s y m d w true hv)
  simp only [cond_true] at N
  have hn := dn_bd hv
  obtain ⟨n1, n2⟩ := hn
  clear hv hy
  generalize dn y m d = n at *
  have L0 := Lib.hid (l6In_b Y 1 9999 true (inB_t i1 i2))
  have B0 := ff_is y
  have B1 := ff_is (y + 1)
  have bY := yb_bd y y1 (by omega)
  have bZ := yb_bd (y + 1) (by omega) (by omega)
  have BY := ff_is Y
  have bK := yb_bd Y i1 (by omega)
  by_cases a : n < ff y
  · obtain rfl : Y = y - 1 := c1 a
    have a2 := (c4 a).2
    have F0 := Lib.hid (fun w => l3First_s y w y1 (by omega))
    have F1 := Lib.hid (fun w => l3First_s (y - 1 + 1) w (by omega) (by omega))
    have F2 := Lib.hid (fun w => l3First_s (y - 1) w (by omega) (by omega))
    have Fy : y - 1 + 1 = y := by omega
    rw [Fy] at i4 F1
    clear c1 c2 c3 c4 c5 Fy
    generalize ff (y - 1) = f0 at *
    generalize ff y = f1 at *
    subst i5; subst i6
    go_enter Tryd.func23, Tryd.ntmps23
    go_wp2_with fail
    refine (V.out _).mono ?_
    rintro e w1 ⟨rfl, bw1⟩
    have sw1 := bw1.size
    (try simp at sw1)
    have Aw1 : Below w.heap.size w w1 := Below.trans (by (repeat' (first | (with_reducible assumption) | (with_reducible exact Below.refl _ _) | (with_reducible refine bdN ?_ _) | (with_reducible refine Below.alloc ?_ ?_ _) | (with_reducible refine Below.drew ?_) | (with_reducible refine Below.setCell ?_ ?_ _) | go_size))) (bw1.mono (by go_size))
    have lw1_0 : w.heap.size < w1.heap.size := (by go_size)
    have zw1_wH : CellsAt w1 (w.heap.size) 0 [.int .i64 y, .int .i64 m, .int .i64 d] := cells_keep (by (simp only [CellsAt]; (first | (go_simp; done) | ((repeat' (with_reducible refine And.intro ?_ ?_)) <;> (repeat' (first | (with_reducible assumption) | (with_reducible exact trivial) | (with_reducible refine kA _ ?_) | (with_reducible refine kD ?_) | (with_reducible refine kS _ ?_ ?_) | (with_reducible refine fA _ ?_ ?_) | (with_reducible refine fD ?_) | (with_reducible refine fS _ ?_) | go_size | (go_simp; done))))))) (fun o => bw1.cell (p := ⟨_, o, none⟩) (by go_size)) (fun o => bw1.frozen (p := ⟨_, o, none⟩) (by go_size))
    have lw1_1 : w.heap.size+1 < w1.heap.size := (by go_size)
    have zw1_wH1 : CellsAt w1 (w.heap.size+1) 0 [.int .i64 0, .int .i64 0, .int .i64 0] := cells_keep (by (simp only [CellsAt]; (first | (go_simp; done) | ((repeat' (with_reducible refine And.intro ?_ ?_)) <;> (repeat' (first | (with_reducible assumption) | (with_reducible exact trivial) | (with_reducible refine kA _ ?_) | (with_reducible refine kD ?_) | (with_reducible refine kS _ ?_ ?_) | (with_reducible refine fA _ ?_ ?_) | (with_reducible refine fD ?_) | (with_reducible refine fS _ ?_) | go_size | (go_simp; done))))))) (fun o => bw1.cell (p := ⟨_, o, none⟩) (by go_size)) (fun o => bw1.frozen (p := ⟨_, o, none⟩) (by go_size))
    simp only [CellsAt] at zw1_wH
    simp only [CellsAt] at zw1_wH1
    clear bw1
    go_wp2_with fail
    refine (N.out _).mono ?_
    rintro e w2 ⟨rfl, bw2⟩
    have sw2 := bw2.size
    (try simp at sw2)
    have Aw2 : Below w.heap.size w w2 := Below.trans (by (repeat' (first | (with_reducible assumption) | (with_reducible exact Below.refl _ _) | (with_reducible refine bdN ?_ _) | (with_reducible refine Below.alloc ?_ ?_ _) | (with_reducible refine Below.drew ?_) | (with_reducible refine Below.setCell ?_ ?_ _) | go_size))) (bw2.mono (by go_size))
    have lw2_0 : w.heap.size < w2.heap.size := (by go_size)
    have zw2_wH : CellsAt w2 (w.heap.size) 0 [.int .i64 y, .int .i64 m, .int .i64 d] := cells_keep (by (simp only [CellsAt]; (first | (go_simp; done) | ((repeat' (with_reducible refine And.intro ?_ ?_)) <;> (repeat' (first | (with_reducible assumption) | (with_reducible exact trivial) | (with_reducible refine kA _ ?_) | (with_reducible refine kD ?_) | (with_reducible refine kS _ ?_ ?_) | (with_reducible refine fA _ ?_ ?_) | (with_reducible refine fD ?_) | (with_reducible refine fS _ ?_) | go_size | (go_simp; done))))))) (fun o => bw2.cell (p := ⟨_, o, none⟩) (by go_size)) (fun o => bw2.frozen (p := ⟨_, o, none⟩) (by go_size))
    have lw2_1 : w.heap.size+1 < w2.heap.size := (by go_size)
    have zw2_wH1 : CellsAt w2 (w.heap.size+1) 0 [.int .i64 0, .int .i64 0, .int .i64 0] := cells_keep (by (simp only [CellsAt]; (first | (go_simp; done) | ((repeat' (with_reducible refine And.intro ?_ ?_)) <;> (repeat' (first | (with_reducible assumption) | (with_reducible exact trivial) | (with_reducible refine kA _ ?_) | (with_reducible refine kD ?_) | (with_reducible refine kS _ ?_ ?_) | (with_reducible refine fA _ ?_ ?_) | (with_reducible refine fD ?_) | (with_reducible refine fS _ ?_) | go_size | (go_simp; done))))))) (fun o => bw2.cell (p := ⟨_, o, none⟩) (by go_size)) (fun o => bw2.frozen (p := ⟨_, o, none⟩) (by go_size))
    simp only [CellsAt] at zw2_wH
    simp only [CellsAt] at zw2_wH1
    clear zw1_wH zw1_wH1
    clear bw2
    go_wp2_with fail
    refine (F0.out _).mono ?_
    rintro e w' ⟨rfl, rfl⟩
    go_wp2_with fail
    refine (F1.out _).mono ?_
    rintro e w' ⟨rfl, rfl⟩
    go_wp2_with fail
    refine (L0.out _).mono ?_
    rintro e w' ⟨rfl, rfl⟩
    go_wp2_with fail
    refine (F2.out _).mono ?_
    rintro e w' ⟨rfl, rfl⟩
    go_wp2_with fail
    exact bodyPost_ret (v := .tuple #[.agg #[.int .i64 (y - 1), .int .i64 ((n - f0) / 7 + 1), .int .i64 ((n - f0) % 7 + 1)], .bool true]) (by simp [results, Tryd.results23, go_sem, zw2_wH, zw2_wH1, lw2_0, lw2_1]) rfl ⟨rfl, by (repeat' (first | (with_reducible assumption) | (with_reducible exact Below.refl _ _) | (with_reducible refine bdN ?_ _) | (with_reducible refine Below.alloc ?_ ?_ _) | (with_reducible refine Below.drew ?_) | (with_reducible refine Below.setCell ?_ ?_ _) | go_size))⟩
  · by_cases b : n < ff (y + 1)
    · obtain rfl : Y = y := c2 (by omega) b
      have F0 := Lib.hid (fun w => l3First_s Y w y1 (by omega))
      have F1 := Lib.hid (fun w => l3First_s (Y + 1) w (by omega) (by omega))
      clear c1 c2 c3 c4 c5
      generalize ff Y = f0 at *
      generalize ff (Y + 1) = f1 at *
      subst i5; subst i6
      go_enter Tryd.func23, Tryd.ntmps23
      go_wp2_with fail
      refine (V.out _).mono ?_
      rintro e w1 ⟨rfl, bw1⟩
      have sw1 := bw1.size
      (try simp at sw1)
      have Aw1 : Below w.heap.size w w1 := Below.trans (by (repeat' (first | (with_reducible assumption) | (with_reducible exact Below.refl _ _) | (with_reducible refine bdN ?_ _) | (with_reducible refine Below.alloc ?_ ?_ _) | (with_reducible refine Below.drew ?_) | (with_reducible refine Below.setCell ?_ ?_ _) | go_size))) (bw1.mono (by go_size))
      have lw1_0 : w.heap.size < w1.heap.size := (by go_size)
      have zw1_wH : CellsAt w1 (w.heap.size) 0 [.int .i64 Y, .int .i64 m, .int .i64 d] := cells_keep (by (simp only [CellsAt]; (first | (go_simp; done) | ((repeat' (with_reducible refine And.intro ?_ ?_)) <;> (repeat' (first | (with_reducible assumption) | (with_reducible exact trivial) | (with_reducible refine kA _ ?_) | (with_reducible refine kD ?_) | (with_reducible refine kS _ ?_ ?_) | (with_reducible refine fA _ ?_ ?_) | (with_reducible refine fD ?_) | (with_reducible refine fS _ ?_) | go_size | (go_simp; done))))))) (fun o => bw1.cell (p := ⟨_, o, none⟩) (by go_size)) (fun o => bw1.frozen (p := ⟨_, o, none⟩) (by go_size))
      have lw1_1 : w.heap.size+1 < w1.heap.size := (by go_size)
      have zw1_wH1 : CellsAt w1 (w.heap.size+1) 0 [.int .i64 0, .int .i64 0, .int .i64 0] := cells_keep (by (simp only [CellsAt]; (first | (go_simp; done) | ((repeat' (with_reducible refine And.intro ?_ ?_)) <;> (repeat' (first | (with_reducible assumption) | (with_reducible exact trivial) | (with_reducible refine kA _ ?_) | (with_reducible refine kD ?_) | (with_reducible refine kS _ ?_ ?_) | (with_reducible refine fA _ ?_ ?_) | (with_reducible refine fD ?_) | (with_reducible refine fS _ ?_) | go_size | (go_simp; done))))))) (fun o => bw1.cell (p := ⟨_, o, none⟩) (by go_size)) (fun o => bw1.frozen (p := ⟨_, o, none⟩) (by go_size))
      simp only [CellsAt] at zw1_wH
      simp only [CellsAt] at zw1_wH1
      clear bw1
      go_wp2_with fail
      refine (N.out _).mono ?_
      rintro e w2 ⟨rfl, bw2⟩
      have sw2 := bw2.size
      (try simp at sw2)
      have Aw2 : Below w.heap.size w w2 := Below.trans (by (repeat' (first | (with_reducible assumption) | (with_reducible exact Below.refl _ _) | (with_reducible refine bdN ?_ _) | (with_reducible refine Below.alloc ?_ ?_ _) | (with_reducible refine Below.drew ?_) | (with_reducible refine Below.setCell ?_ ?_ _) | go_size))) (bw2.mono (by go_size))
      have lw2_0 : w.heap.size < w2.heap.size := (by go_size)
      have zw2_wH : CellsAt w2 (w.heap.size) 0 [.int .i64 Y, .int .i64 m, .int .i64 d] := cells_keep (by (simp only [CellsAt]; (first | (go_simp; done) | ((repeat' (with_reducible refine And.intro ?_ ?_)) <;> (repeat' (first | (with_reducible assumption) | (with_reducible exact trivial) | (with_reducible refine kA _ ?_) | (with_reducible refine kD ?_) | (with_reducible refine kS _ ?_ ?_) | (with_reducible refine fA _ ?_ ?_) | (with_reducible refine fD ?_) | (with_reducible refine fS _ ?_) | go_size | (go_simp; done))))))) (fun o => bw2.cell (p := ⟨_, o, none⟩) (by go_size)) (fun o => bw2.frozen (p := ⟨_, o, none⟩) (by go_size))
      have lw2_1 : w.heap.size+1 < w2.heap.size := (by go_size)
      have zw2_wH1 : CellsAt w2 (w.heap.size+1) 0 [.int .i64 0, .int .i64 0, .int .i64 0] := cells_keep (by (simp only [CellsAt]; (first | (go_simp; done) | ((repeat' (with_reducible refine And.intro ?_ ?_)) <;> (repeat' (first | (with_reducible assumption) | (with_reducible exact trivial) | (with_reducible refine kA _ ?_) | (with_reducible refine kD ?_) | (with_reducible refine kS _ ?_ ?_) | (with_reducible refine fA _ ?_ ?_) | (with_reducible refine fD ?_) | (with_reducible refine fS _ ?_) | go_size | (go_simp; done))))))) (fun o => bw2.cell (p := ⟨_, o, none⟩) (by go_size)) (fun o => bw2.frozen (p := ⟨_, o, none⟩) (by go_size))
      simp only [CellsAt] at zw2_wH
      simp only [CellsAt] at zw2_wH1
      clear zw1_wH zw1_wH1
      clear bw2
      go_wp2_with fail
      refine (F0.out _).mono ?_
      rintro e w' ⟨rfl, rfl⟩
      go_wp2_with fail
      refine (F1.out _).mono ?_
      rintro e w' ⟨rfl, rfl⟩
      go_wp2_with fail
      refine (L0.out _).mono ?_
      rintro e w' ⟨rfl, rfl⟩
      go_wp2_with fail
      refine (F0.out _).mono ?_
      rintro e w' ⟨rfl, rfl⟩
      go_wp2_with fail
      exact bodyPost_ret (v := .tuple #[.agg #[.int .i64 Y, .int .i64 ((n - f0) / 7 + 1), .int .i64 ((n - f0) % 7 + 1)], .bool true]) (by simp [results, Tryd.results23, go_sem, zw2_wH, zw2_wH1, lw2_0, lw2_1]) rfl ⟨rfl, by (repeat' (first | (with_reducible assumption) | (with_reducible exact Below.refl _ _) | (with_reducible refine bdN ?_ _) | (with_reducible refine Below.alloc ?_ ?_ _) | (with_reducible refine Below.drew ?_) | (with_reducible refine Below.setCell ?_ ?_ _) | go_size))⟩
    · obtain rfl : Y = y + 1 := c3 (by omega)
      have F0 := Lib.hid (fun w => l3First_s y w y1 (by omega))
      have F1 := Lib.hid (fun w => l3First_s (y + 1) w (by omega) (by omega))
      have hm := ff_mono y1 (show y < y + 1 by omega)
      clear c1 c2 c3 c4 c5
      generalize ff y = f0 at *
      generalize ff (y + 1) = f1 at *
      subst i5; subst i6
      go_enter Tryd.func23, Tryd.ntmps23
      go_wp2_with fail
      refine (V.out _).mono ?_
      rintro e w1 ⟨rfl, bw1⟩
      have sw1 := bw1.size
      (try simp at sw1)
      have Aw1 : Below w.heap.size w w1 := Below.trans (by (repeat' (first | (with_reducible assumption) | (with_reducible exact Below.refl _ _) | (with_reducible refine bdN ?_ _) | (with_reducible refine Below.alloc ?_ ?_ _) | (with_reducible refine Below.drew ?_) | (with_reducible refine Below.setCell ?_ ?_ _) | go_size))) (bw1.mono (by go_size))
      have lw1_0 : w.heap.size < w1.heap.size := (by go_size)
      have zw1_wH : CellsAt w1 (w.heap.size) 0 [.int .i64 y, .int .i64 m, .int .i64 d] := cells_keep (by (simp only [CellsAt]; (first | (go_simp; done) | ((repeat' (with_reducible refine And.intro ?_ ?_)) <;> (repeat' (first | (with_reducible assumption) | (with_reducible exact trivial) | (with_reducible refine kA _ ?_) | (with_reducible refine kD ?_) | (with_reducible refine kS _ ?_ ?_) | (with_reducible refine fA _ ?_ ?_) | (with_reducible refine fD ?_) | (with_reducible refine fS _ ?_) | go_size | (go_simp; done))))))) (fun o => bw1.cell (p := ⟨_, o, none⟩) (by go_size)) (fun o => bw1.frozen (p := ⟨_, o, none⟩) (by go_size))
      have lw1_1 : w.heap.size+1 < w1.heap.size := (by go_size)
      have zw1_wH1 : CellsAt w1 (w.heap.size+1) 0 [.int .i64 0, .int .i64 0, .int .i64 0] := cells_keep (by (simp only [CellsAt]; (first | (go_simp; done) | ((repeat' (with_reducible refine And.intro ?_ ?_)) <;> (repeat' (first | (with_reducible assumption) | (with_reducible exact trivial) | (with_reducible refine kA _ ?_) | (with_reducible refine kD ?_) | (with_reducible refine kS _ ?_ ?_) | (with_reducible refine fA _ ?_ ?_) | (with_reducible refine fD ?_) | (with_reducible refine fS _ ?_) | go_size | (go_simp; done))))))) (fun o => bw1.cell (p := ⟨_, o, none⟩) (by go_size)) (fun o => bw1.frozen (p := ⟨_, o, none⟩) (by go_size))
      simp only [CellsAt] at zw1_wH
      simp only [CellsAt] at zw1_wH1
      clear bw1
      go_wp2_with fail
      refine (N.out _).mono ?_
      rintro e w2 ⟨rfl, bw2⟩
      have sw2 := bw2.size
      (try simp at sw2)
      have Aw2 : Below w.heap.size w w2 := Below.trans (by (repeat' (first | (with_reducible assumption) | (with_reducible exact Below.refl _ _) | (with_reducible refine bdN ?_ _) | (with_reducible refine Below.alloc ?_ ?_ _) | (with_reducible refine Below.drew ?_) | (with_reducible refine Below.setCell ?_ ?_ _) | go_size))) (bw2.mono (by go_size))
      have lw2_0 : w.heap.size < w2.heap.size := (by go_size)
      have zw2_wH : CellsAt w2 (w.heap.size) 0 [.int .i64 y, .int .i64 m, .int .i64 d] := cells_keep (by (simp only [CellsAt]; (first | (go_simp; done) | ((repeat' (with_reducible refine And.intro ?_ ?_)) <;> (repeat' (first | (with_reducible assumption) | (with_reducible exact trivial) | (with_reducible refine kA _ ?_) | (with_reducible refine kD ?_) | (with_reducible refine kS _ ?_ ?_) | (with_reducible refine fA _ ?_ ?_) | (with_reducible refine fD ?_) | (with_reducible refine fS _ ?_) | go_size | (go_simp; done))))))) (fun o => bw2.cell (p := ⟨_, o, none⟩) (by go_size)) (fun o => bw2.frozen (p := ⟨_, o, none⟩) (by go_size))
      have lw2_1 : w.heap.size+1 < w2.heap.size := (by go_size)
      have zw2_wH1 : CellsAt w2 (w.heap.size+1) 0 [.int .i64 0, .int .i64 0, .int .i64 0] := cells_keep (by (simp only [CellsAt]; (first | (go_simp; done) | ((repeat' (with_reducible refine And.intro ?_ ?_)) <;> (repeat' (first | (with_reducible assumption) | (with_reducible exact trivial) | (with_reducible refine kA _ ?_) | (with_reducible refine kD ?_) | (with_reducible refine kS _ ?_ ?_) | (with_reducible refine fA _ ?_ ?_) | (with_reducible refine fD ?_) | (with_reducible refine fS _ ?_) | go_size | (go_simp; done))))))) (fun o => bw2.cell (p := ⟨_, o, none⟩) (by go_size)) (fun o => bw2.frozen (p := ⟨_, o, none⟩) (by go_size))
      simp only [CellsAt] at zw2_wH
      simp only [CellsAt] at zw2_wH1
      clear zw1_wH zw1_wH1
      clear bw2
      go_wp2_with fail
      refine (F0.out _).mono ?_
      rintro e w' ⟨rfl, rfl⟩
      go_wp2_with fail
      refine (F1.out _).mono ?_
      rintro e w' ⟨rfl, rfl⟩
      go_wp2_with fail
      refine (L0.out _).mono ?_
      rintro e w' ⟨rfl, rfl⟩
      go_wp2_with fail
      refine (F1.out _).mono ?_
      rintro e w' ⟨rfl, rfl⟩
      go_wp2_with fail
      exact bodyPost_ret (v := .tuple #[.agg #[.int .i64 (y + 1), .int .i64 ((n - f1) / 7 + 1), .int .i64 ((n - f1) % 7 + 1)], .bool true]) (by simp [results, Tryd.results23, go_sem, zw2_wH, zw2_wH1, lw2_0, lw2_1]) rfl ⟨rfl, by (repeat' (first | (with_reducible assumption) | (with_reducible exact Below.refl _ _) | (with_reducible refine bdN ?_ _) | (with_reducible refine Below.alloc ?_ ?_ _) | (with_reducible refine Below.drew ?_) | (with_reducible refine Below.setCell ?_ ?_ _) | go_size))⟩

theorem weekdayOf_i (n : Int) (w : World) (h : 0 ≤ n) (h2 : n ≤ 4000000) : Calls Tryd.prog 105 #[.int .i64 n] w fun e w' => e = .returned (.int .i64 (n % 7 + 1)) ∧ w = w' := by
  go_enter Tryd.func105, Tryd.ntmps105
  go_wp2_with fail
  go_ret
  exact ⟨rfl, rfl⟩
set_option maxRecDepth 100000 in
set_option maxHeartbeats 2000000 in
theorem weekAt_i (n Y mm dd : Int) (w : World) (T : Tab w) (h0 : 0 ≤ n) (h2 : n ≤ 3652058) (h : IsD (n - n % 7 + 3) Y mm dd) : Calls Tryd.prog 104 #[.int .i64 n] w fun e w' => e = .returned (.agg #[.int .i64 Y, .int .i64 ((n - n % 7 + 3 - yb Y) / 7 + 1), .int .i64 (n % 7 + 1)]) ∧ Below w.heap.size w w' := by
  obtain ⟨y1, y2, y3, y4⟩ := isD_year h
  have A := Lib.hid (fun w T => dateAt_i (n - n % 7 + 3) Y mm dd w T h)
  have K := Lib.hid (fun w => yb_i Y w y1 (by omega))
  have W := Lib.hid (fun w => weekdayOf_i n w h0 (by omega))
  obtain ⟨b1, b2⟩ := yb_bd Y y1 (by omega)
  have T0 := Lib.hid T
  clear T h y4
  generalize yb Y = k at *
  obtain ⟨t, ht⟩ : ∃ t, n - n % 7 + 3 = t := ⟨_, rfl⟩
  obtain ⟨z, hz⟩ : ∃ z, n % 7 = z := ⟨_, rfl⟩
  rw [ht] at A y3
  rw [ht]
  rw [hz] at W
  rw [hz] at ht ⊢
  have z1 : 0 ≤ z := by omega
  have z2 : z ≤ 6 := by omega
  have hd : (t - k) / 7 ≤ 4000000 := by omega
  have et : n - (z + 1) + 4 = t := by omega
  clear hz ht
  subst et
  have hfld : ∀ w : World, (Instr.field 26 (.agg #[.int .i64 Y, .int .i64 mm, .int .i64 dd]) 0).run Tryd.prog w = .ok (.int .i64 Y) w := fun w => by kernel_rfl
  go_enter Tryd.func104, Tryd.ntmps104
  go_wp2_with fail
  refine (W.out _).mono ?_
  rintro e w' ⟨rfl, rfl⟩
  go_wp2_with fail
  refine (A.out _ (by (repeat' (first | (with_reducible exact T0.out) | (with_reducible assumption) | (with_reducible refine tab_alloc ?_ _) | (with_reducible refine tab_drewN ?_ _) | (with_reducible refine tab_drew ?_) | (with_reducible refine tab_set ?_ ?_ _) | go_size)))).mono ?_
  rintro e w1 ⟨rfl, bw1⟩
  have sw1 := bw1.size
  (try simp at sw1)
  have Aw1 : Below w.heap.size w w1 := Below.trans (by (repeat' (first | (with_reducible assumption) | (with_reducible exact Below.refl _ _) | (with_reducible refine bdN ?_ _) | (with_reducible refine Below.alloc ?_ ?_ _) | (with_reducible refine Below.drew ?_) | (with_reducible refine Below.setCell ?_ ?_ _) | go_size))) (bw1.mono (by go_size))
  have Tw1 := Lib.hid (tab_keep (by (repeat' (first | (with_reducible exact T0.out) | (with_reducible assumption) | (with_reducible refine tab_alloc ?_ _) | (with_reducible refine tab_drewN ?_ _) | (with_reducible refine tab_drew ?_) | (with_reducible refine tab_set ?_ ?_ _) | go_size))) bw1)
  have lw1_0 : w.heap.size < w1.heap.size := (by go_size)
  have zw1_wH : CellsAt w1 (w.heap.size) 0 [.int .i64 0, .int .i64 0, .int .i64 0] := cells_keep (by (simp only [CellsAt]; (first | (go_simp; done) | ((repeat' (with_reducible refine And.intro ?_ ?_)) <;> (repeat' (first | (with_reducible assumption) | (with_reducible exact trivial) | (with_reducible refine kA _ ?_) | (with_reducible refine kD ?_) | (with_reducible refine kS _ ?_ ?_) | (with_reducible refine fA _ ?_ ?_) | (with_reducible refine fD ?_) | (with_reducible refine fS _ ?_) | go_size | (go_simp; done))))))) (fun o => bw1.cell (p := ⟨_, o, none⟩) (by go_size)) (fun o => bw1.frozen (p := ⟨_, o, none⟩) (by go_size))
  have lw1_1 : w.heap.size+1 < w1.heap.size := (by go_size)
  have zw1_wH1 : CellsAt w1 (w.heap.size+1) 0 [.int .i64 0, .int .i64 0, .int .i64 (z + 1)] := cells_keep (by (simp only [CellsAt]; (first | (go_simp; done) | ((repeat' (with_reducible refine And.intro ?_ ?_)) <;> (repeat' (first | (with_reducible assumption) | (with_reducible exact trivial) | (with_reducible refine kA _ ?_) | (with_reducible refine kD ?_) | (with_reducible refine kS _ ?_ ?_) | (with_reducible refine fA _ ?_ ?_) | (with_reducible refine fD ?_) | (with_reducible refine fS _ ?_) | go_size | (go_simp; done))))))) (fun o => bw1.cell (p := ⟨_, o, none⟩) (by go_size)) (fun o => bw1.frozen (p := ⟨_, o, none⟩) (by go_size))
  simp only [CellsAt] at zw1_wH
  simp only [CellsAt] at zw1_wH1
  clear bw1
  go_wp2_with fail
  refine (K.out _).mono ?_
  rintro e w' ⟨rfl, rfl⟩
  go_wp2_with fail
  exact bodyPost_ret (v := .agg #[.int .i64 Y, .int .i64 ((n - (z + 1) + 4 - k) / 7 + 1), .int .i64 (z + 1)]) (by simp [results, Tryd.results104, go_sem, zw1_wH, zw1_wH1, lw1_0, lw1_1]) rfl ⟨rfl, by (repeat' (first | (with_reducible assumption) | (with_reducible exact Below.refl _ _) | (with_reducible refine bdN ?_ _) | (with_reducible refine Below.alloc ?_ ?_ _) | (with_reducible refine Below.drew ?_) | (with_reducible refine Below.setCell ?_ ?_ _) | go_size))⟩
end Go.Proofs.YtfailbghnpfcdaaDoor
