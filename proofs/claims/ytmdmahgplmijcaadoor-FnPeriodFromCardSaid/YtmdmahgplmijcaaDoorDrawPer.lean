/- What the draws of periods give: some six integers; only new blocks and the reader's own change. Conditions: the reader stands in memory, few picks have been made. -/
import Derived.Test.YtmdmahgplmijcaaDoorRd
import Derived.Deep.DeepCutAuto
import Derived.Deep.CutBlock
namespace Go.Proofs.YtmdmahgplmijcaaDoor
open Go.RowKit

/-- a drawn period -/
def DrawnPer (w : World) (r N : Nat) (e : Ending) (w' : World) : Prop := ∃ y o d u i s : Int, e = .returned (.agg #[.int .i64 y, .int .i64 o, .int .i64 d, .int .i64 u, .int .i64 i, .int .i64 s]) ∧ Rd w' r N ∧ Onl r w w'
/-- block b holds six integers -/
def Six (w : World) (b : Nat) (y o d u i s : Int) : Prop := w.cell? ⟨b, 0, none⟩ = some (.int .i64 y) ∧ w.cell? ⟨b, 1, none⟩ = some (.int .i64 o) ∧ w.cell? ⟨b, 2, none⟩ = some (.int .i64 d) ∧ w.cell? ⟨b, 3, none⟩ = some (.int .i64 u) ∧ w.cell? ⟨b, 4, none⟩ = some (.int .i64 i) ∧ w.cell? ⟨b, 5, none⟩ = some (.int .i64 s) ∧ ∀ j, w.frozen? ⟨b, j, none⟩ = false
theorem six_keep {w w' : World} {r b : Nat} {y o d u i s : Int} (h : Six w b y o d u i s) (g : Onl r w w') (hb : b < w.heap.size) (hr : b ≠ r) : Six w' b y o d u i s := by
  obtain ⟨h0, h1, h2, h3, h4, h5, hf⟩ := h
  have c := onl_cell g hb hr
  exact ⟨by rw [c]; exact h0, by rw [c]; exact h1, by rw [c]; exact h2, by rw [c]; exact h3, by rw [c]; exact h4, by rw [c]; exact h5, fun j => by rw [onl_frozen g hb hr]; exact hf j⟩

/-- where the ways of the draw meet -/
def PerCut (w : World) (r N : Nat) (wx : World) : Prop := ∃ y o d u i s : Int, Rd wx r N ∧ Onl r w wx ∧ w.heap.size + 1 < wx.heap.size ∧ Six wx (w.heap.size + 1) y o d u i s ∧ Six wx w.heap.size 0 0 0 0 0 0

theorem six_set {w : World} {b : Nat} {y o d u i s : Int} (h : Six w b y o d u i s) (j : Nat) (hj : j < 6) (z : Int) : ∃ y o d u i s : Int, Six (w.setCell ⟨b, j, none⟩ (.int .i64 z)) b y o d u i s := by
  unfold Six at h
  have hj6 : j = 0 ∨ j = 1 ∨ j = 2 ∨ j = 3 ∨ j = 4 ∨ j = 5 := by omega
  rcases hj6 with rfl | rfl | rfl | rfl | rfl | rfl
  · exact ⟨z, o, d, u, i, s, by unfold Six; go_simp⟩
  · exact ⟨y, z, d, u, i, s, by unfold Six; go_simp⟩
  · exact ⟨y, o, z, u, i, s, by unfold Six; go_simp⟩
  · exact ⟨y, o, d, z, i, s, by unfold Six; go_simp⟩
  · exact ⟨y, o, d, u, z, s, by unfold Six; go_simp⟩
  · exact ⟨y, o, d, u, i, z, by unfold Six; go_simp⟩
theorem six_far {w : World} {b c : Nat} {y o d u i s : Int} (h : Six w b y o d u i s) (hc : b ≠ c) (j : Nat) (v : Value) : Six (w.setCell ⟨c, j, none⟩ v) b y o d u i s := by
  unfold Six at *
  go_simp
theorem percut_set {w wx : World} {r N : Nat} (h : PerCut w r N wx) (hr : r < w.heap.size) (j : Nat) (hj : j < 6) (z : Int) : PerCut w r N (wx.setCell ⟨w.heap.size + 1, j, none⟩ (.int .i64 z)) := by
  obtain ⟨y, o, d, u, i, s, h1, h2, h3, h4, h5⟩ := h
  obtain ⟨y', o', d', u', i', s', h4'⟩ := six_set h4 j hj z
  exact ⟨y', o', d', u', i', s', rd_set h1 (by simp; omega) _, onl_set h2 (.inr (by simp)) _, by simpa [World.setCell] using h3, h4', six_far h5 (by omega) _ _⟩

set_option maxHeartbeats 1000000 in
theorem l92Period_any (w : World) (r N : Nat) (hr : Rd w r N) (hN : N ≤ 90000) : Calls Tryd.prog 29 #[.pointer (some ⟨r, 0, none⟩)] w (DrawnPer w r (N + 20)) := by
  have hlt : r < w.heap.size := by obtain ⟨_, _, _, _, _, _, _, h, _⟩ := hr; exact h
  obtain ⟨w0, hw0⟩ : ∃ w0, w0 = (w.alloc (.cells #[.int .i64 0, .int .i64 0, .int .i64 0, .int .i64 0, .int .i64 0, .int .i64 0] 25)).alloc (.cells #[.int .i64 0, .int .i64 0, .int .i64 0, .int .i64 0, .int .i64 0, .int .i64 0] 25) := ⟨_, rfl⟩
  have R : Rd w0 r N := by rw [hw0]; exact rd_keep hr (((Below.refl _ w).alloc hlt _).alloc (by simp; omega) _)
  have G : Onl r w0 w0 := onl_refl r w0
  have G0 : Onl r w w0 := by rw [hw0]; exact onl_alloc (onl_alloc (onl_refl r w) _) _
  have s0 : w.heap.size + 2 = w0.heap.size := by rw [hw0]; simp
  have C1 : Six w0 (w.heap.size + 1) 0 0 0 0 0 0 := by rw [hw0]; unfold Six; refine ⟨?_, ?_, ?_, ?_, ?_, ?_, fun j => ?_⟩ <;> go_simp
  have C0 : Six w0 w.heap.size 0 0 0 0 0 0 := by rw [hw0]; unfold Six; refine ⟨?_, ?_, ?_, ?_, ?_, ?_, fun j => ?_⟩ <;> go_simp
  clear hr
  go_enter Tryd.func29, Tryd.ntmps29
  go_upto_region 2 with fail
  rw [← hw0]
  have S0 := Lib.hid s0
  have s1 : w.heap.size + 1 < w0.heap.size := by omega
  clear hw0 s0
  go_upto_block 0 with (go_at_call 30; refine (pick_from w0 _ r _ _ R G (by omega) (by omega) (by omega)).mono ?_; clear R; rintro e wk ⟨k, hk1, hk2, rfl, R, Gn⟩; have C1n := six_keep C1 Gn (by omega) (by omega); have C0n := six_keep C0 Gn (by omega) (by omega); have sk := Gn.size; unfold Six at C1n C0n)
  go_cut [] (PerCut w r (N + 10))
  case first =>
    go_wp2_with (go_at_call 30; refine (pick_from w0 _ r _ _ R Gn (by omega) (by omega) (by omega)).mono ?_; clear R Gn C1n C0n sk; rintro e wk ⟨k, hk1, hk2, rfl, R, Gn⟩; have C1n := six_keep C1 Gn (by omega) (by omega); have C0n := six_keep C0 Gn (by omega) (by omega); have sk := Gn.size; unfold Six at C1n C0n; clear hk1 hk2)
    all_goals go_meet
    all_goals
      have base : PerCut w r (N + 10) wk := ⟨0, 0, 0, 0, 0, 0, rd_le R (by omega), onl_trans G0 Gn, by omega, C1n, C0n⟩
      repeat ((with_reducible refine percut_set ?_ hlt _ ?_ _); rotate_left; decide)
      with_reducible exact base
  case rest =>
    obtain ⟨y, o, d, u, i, s, R, Gx, sx, C1, C0⟩ := hcut
    clear C1n C0n Gn G
    go_wp2_with fail
    refine (pick_any _ r _ _ R (by omega) (by omega) (by omega)).mono ?_
    rintro e w1 ⟨q, hq1, hq2, rfl, R1, G1⟩
    have D1 := six_keep C1 G1 sx (by omega)
    have D0 := six_keep C0 G1 (by omega) (by omega)
    have s1 := G1.size
    clear C1 C0 R hq1 hq2 hk1 hk2
    have E1 := D1
    have E0 := D0
    unfold Six at E1 E0
    go_wp2_with fail
    · have s2 : w1.heap.size + 1 = (w1.alloc (.cells #[.int .i64 (-1), .int .i64 9999, .int .i64 10000] 3)).heap.size := by simp
      have hr1 := rd_lt R1
      refine (pick_any _ r _ _ (rd_keep R1 ((Below.refl _ _).alloc (by omega) _)) (by omega) (by omega) (by omega)).mono ?_
      rintro e w2 ⟨j, hj1, hj2, rfl, R2, G2⟩
      have D1' := six_keep D1 (onl_trans (onl_alloc (onl_refl r w1) _) G2) (by omega) (by omega)
      have D0' := six_keep D0 (onl_trans (onl_alloc (onl_refl r w1) _) G2) (by omega) (by omega)
      have t0 : w2.cell? ⟨w1.heap.size, 0, none⟩ = some (.int .i64 (-1)) := by rw [onl_cell G2 (by omega) (by omega)]; go_simp
      have t1 : w2.cell? ⟨w1.heap.size, 1, none⟩ = some (.int .i64 9999) := by rw [onl_cell G2 (by omega) (by omega)]; go_simp
      have t2 : w2.cell? ⟨w1.heap.size, 2, none⟩ = some (.int .i64 10000) := by rw [onl_cell G2 (by omega) (by omega)]; go_simp
      have GG : Onl r w w2 := onl_trans Gx (onl_trans (onl_trans G1 (onl_alloc (onl_refl r w1) _)) G2)
      have s3 := G2.size
      have hj : j = 0 ∨ j = 1 ∨ j = 2 := by omega
      clear D1 D0 E1 E0 R1 hj1 hj2
      have E1 := D1'
      have E0 := D0'
      unfold Six at E1 E0
      clear s2 hr1
      rcases hj with rfl | rfl | rfl
      all_goals
        go_wp2_with fail
        exact bodyPost_ret (v := .agg #[.int .i64 y, .int .i64 o, .int .i64 _, .int .i64 u, .int .i64 i, .int .i64 s]) (by simp [results, Tryd.results29, go_sem, E0]; rfl) rfl ⟨_, _, _, _, _, _, rfl, by (repeat ((with_reducible refine rd_set ?_ ?_ _); rotate_left; (simp; omega))); exact rd_le R2 (by omega), by (repeat ((with_reducible refine onl_set ?_ (.inr ?_) _); rotate_left; simp)); exact GG⟩
    · exact bodyPost_ret (v := .agg #[.int .i64 y, .int .i64 o, .int .i64 d, .int .i64 u, .int .i64 i, .int .i64 s]) (by simp [results, Tryd.results29, go_sem, E0]) rfl ⟨_, _, _, _, _, _, rfl, by (repeat ((with_reducible refine rd_set ?_ ?_ _); rotate_left; (simp; omega))); exact rd_le R1 (by omega), by (repeat ((with_reducible refine onl_set ?_ (.inr ?_) _); rotate_left; simp)); exact onl_trans Gx G1⟩

/-- a period drawn out of a slice of bytes -/
def DrawnPer0 (w : World) (e : Ending) (w' : World) : Prop := ∃ y o d u i s : Int, e = .returned (.agg #[.int .i64 y, .int .i64 o, .int .i64 d, .int .i64 u, .int .i64 i, .int .i64 s]) ∧ Below w.heap.size w w'



set_option maxHeartbeats 1000000 in
theorem DrawPeriodText_any (w : World) (a : Option Addr) (len cap : Nat) (zs : List Int) (h : IsRow .u8 w a len cap zs) : Calls Tryd.prog 15 #[.slice a len cap] w (DrawnPer0 w) := by
  have h1 := isRow_keep h ((Below.refl _ w).alloc (Nat.le_refl _) (.cells #[.int .i64 0, .int .i64 0, .int .i64 0, .int .i64 0, .int .i64 0, .int .i64 0] 25))
  have H1 := Lib.hid h1
  clear h h1
  go_enter Tryd.func15, Tryd.ntmps15
  go_wp2_with fail
  refine (open_any _ _ _ _ _ H1.out).mono ?_
  rintro e w1 ⟨rfl, R1, B1⟩
  obtain ⟨hc1, hf1⟩ := bcell B1
  have hs1 := B1.size
  simp only [World.size_alloc] at hs1 R1
  go_wp2_with fail
  refine (l92Period_any _ _ _ R1 (by omega)).mono ?_
  rintro e w2 ⟨y, o, d, u, i, s, rfl, R2, G2⟩
  have B2 : Below w.heap.size w w2 := ((Below.refl _ _).alloc (Nat.le_refl _) _).trans (((B1.mono (by simp)).trans (onl_below G2 (by omega) (by omega))))
  have C2 : Six w2 w.heap.size 0 0 0 0 0 0 := by
    refine six_keep (w := w1) ?_ G2 (by omega) (by omega)
    unfold Six
    refine ⟨?_, ?_, ?_, ?_, ?_, ?_, fun j => ?_⟩ <;> go_simp
  clear hc1 hf1 hs1 R1 B1 R2 G2
  unfold Six at C2
  go_wp2_with fail
  exact bodyPost_ret (v := .agg #[.int .i64 y, .int .i64 o, .int .i64 d, .int .i64 u, .int .i64 i, .int .i64 s]) (by simp [results, Tryd.results15, go_sem, C2]) rfl ⟨_, _, _, _, _, _, rfl, by (repeat ((with_reducible refine Below.setCell ?_ ?_ _); rotate_left; simp)); exact B2⟩

end Go.Proofs.YtmdmahgplmijcaaDoor
