/- Contracts of PeriodTidy, by the program and by the reference: both give the same tidy period, or fail alike. No condition. -/
import Derived.Test.YtipfggkndphebaaPer
import Derived.Deep.RegionHeld3
import Derived.Deep.DeepCutAuto
namespace Go.Proofs.Ytipfggkndphebaa
open Go.RowKit

/-- seconds of the time of a period -/
def tSec (u i s : Int) : Int := 60 * (60 * u + i) + s
/-- the parts of a tidy period -/
def tY (y o : Int) : Int := (12 * y + o) / 12
def tO (o : Int) : Int := o % 12
def tD (d u i s : Int) : Int := d + tSec u i s / 86400
def tU (u i s : Int) : Int := tSec u i s / 3600 % 24
def tI (u i s : Int) : Int := tSec u i s / 60 % 60
def tS (s : Int) : Int := s % 60
/-- the tidy period is valid -/
def tvB (y o d u i s : Int) : Bool := pvB (tY y o) (tO o) (tD d u i s) (tU u i s) (tI u i s) (tS s)

theorem t_D (d u i s : Int) : (d * 86400 + ((u * 60 + i) * 60 + s)) / 86400 = tD d u i s := by unfold tD tSec; omega
theorem t_U (d u i s : Int) : (d * 86400 + ((u * 60 + i) * 60 + s)) / 3600 % 24 = tU u i s := by unfold tU tSec; omega
theorem t_I (d u i s : Int) : (d * 86400 + ((u * 60 + i) * 60 + s)) / 60 % 60 = tI u i s := by unfold tI tSec; omega
theorem t_S (d u i s : Int) : (d * 86400 + ((u * 60 + i) * 60 + s)) % 60 = tS s := by unfold tS; omega

set_option maxHeartbeats 400000 in
theorem secondsOf_any (y o d u i s : Int) (w : World) (h1 : 0 ≤ u) (h2 : u ≤ 9999) (h3 : 0 ≤ i) (h4 : i ≤ 9999) (h5 : 0 ≤ s) (h6 : s ≤ 9999) :
    Calls Try.prog 29 #[.agg #[.int .i64 y, .int .i64 o, .int .i64 d, .int .i64 u, .int .i64 i, .int .i64 s]] w fun e w' => e = .returned (.int .i64 ((u * 60 + i) * 60 + s)) ∧ w' = w.alloc (.cells #[.int .i64 y, .int .i64 o, .int .i64 d, .int .i64 u, .int .i64 i, .int .i64 s] 25) := by
  go_enter Try.func29, Try.ntmps29
  go_wp2
  go_ret
  exact ⟨rfl, rfl⟩
set_option maxHeartbeats 400000 in
theorem monthsOf_any (y o d u i s : Int) (w : World) (h1 : 0 ≤ y) (h2 : y ≤ 9999) (h3 : 0 ≤ o) (h4 : o ≤ 9999) :
    Calls Try.prog 30 #[.agg #[.int .i64 y, .int .i64 o, .int .i64 d, .int .i64 u, .int .i64 i, .int .i64 s]] w fun e w' => e = .returned (.int .i64 (12 * y + o)) ∧ w' = w.alloc (.cells #[.int .i64 y, .int .i64 o, .int .i64 d, .int .i64 u, .int .i64 i, .int .i64 s] 25) := by
  go_enter Try.func30, Try.ntmps30
  go_wp2
  go_ret
  exact ⟨rfl, rfl⟩
set_option maxHeartbeats 400000 in
theorem ofSeconds_any (n : Int) (w : World) (h1 : 0 ≤ n) (h2 : n ≤ 1000000000000) : Calls Try.prog 28 #[.int .i64 n] w fun e w' =>
    e = .returned (.agg #[.int .i64 0, .int .i64 0, .int .i64 (n / 86400), .int .i64 (n / 3600 % 24), .int .i64 (n / 60 % 60), .int .i64 (n % 60)]) ∧
      w' = w.alloc (.cells #[.int .i64 0, .int .i64 0, .int .i64 (n / 86400), .int .i64 (n / 3600 % 24), .int .i64 (n / 60 % 60), .int .i64 (n % 60)] 25) := by
  go_enter Try.func28, Try.ntmps28
  go_wp2
  go_returns
  exact ⟨rfl, rfl⟩

def zeroPer : Value := .agg #[.int .i64 0, .int .i64 0, .int .i64 0, .int .i64 0, .int .i64 0, .int .i64 0]

set_option maxHeartbeats 1000000 in
theorem tidy_impl_no (y o d u i s : Int) (w : World) (h : pvB y o d u i s = false) : Calls Try.prog 16 #[.agg #[.int .i64 y, .int .i64 o, .int .i64 d, .int .i64 u, .int .i64 i, .int .i64 s]] w fun e w' =>
    e = .returned (.tuple #[zeroPer, .bool false]) ∧ Below w.heap.size w w' := by
  go_enter Try.func16, Try.ntmps16
  go_wp2_with fail
  refine (pv_impl_b _ _ _ _ _ _ _ h _).mono ?_
  rintro e w1 ⟨rfl, bw1⟩
  obtain ⟨hcw1, hfw1⟩ := bcell bw1
  have sw1 := bw1.size
  (try simp at sw1)
  have Aw1 : Below w.heap.size w w1 := Below.trans (by go_grown) (bw1.mono (by go_size))
  clear bw1
  have lw1_0 : w.heap.size < w1.heap.size := by omega
  have lw1_1 : w.heap.size+1 < w1.heap.size := by omega
  have zw1_wH : CellsAt w1 (w.heap.size) 0 [.int .i64 y, .int .i64 o, .int .i64 d, .int .i64 u, .int .i64 i, .int .i64 s] := cells_keep (by simp only [CellsAt]; go_simp) (fun o => hcw1 _ o (by go_size)) (fun o => hfw1 _ o (by go_size))
  simp only [CellsAt] at zw1_wH
  have zw1_wH1 : CellsAt w1 (w.heap.size+1) 0 [.int .i64 0, .int .i64 0, .int .i64 0, .int .i64 0, .int .i64 0, .int .i64 0] := cells_keep (by simp only [CellsAt]; go_simp) (fun o => hcw1 _ o (by go_size)) (fun o => hfw1 _ o (by go_size))
  simp only [CellsAt] at zw1_wH1
  clear hcw1 hfw1
  go_wp2_with fail
  exact bodyPost_ret (v := .tuple #[zeroPer, .bool false]) (by simp [results, Try.results16, go_sem, zw1_wH1, zeroPer]) rfl ⟨rfl, by go_grown⟩
set_option maxHeartbeats 1000000 in
theorem tidy_spec_no (y o d u i s : Int) (w : World) (h : pvB y o d u i s = false) : Calls Try.prog 15 #[.agg #[.int .i64 y, .int .i64 o, .int .i64 d, .int .i64 u, .int .i64 i, .int .i64 s]] w fun e w' =>
    e = .returned (.tuple #[zeroPer, .bool false]) ∧ Below w.heap.size w w' := by
  go_enter Try.func15, Try.ntmps15
  go_wp2_with fail
  refine (pv_spec_b _ _ _ _ _ _ _ h _).mono ?_
  rintro e w1 ⟨rfl, bw1⟩
  obtain ⟨hcw1, hfw1⟩ := bcell bw1
  have sw1 := bw1.size
  (try simp at sw1)
  have Aw1 : Below w.heap.size w w1 := Below.trans (by go_grown) (bw1.mono (by go_size))
  clear bw1
  have lw1_0 : w.heap.size < w1.heap.size := by omega
  have lw1_1 : w.heap.size+1 < w1.heap.size := by omega
  have zw1_wH : CellsAt w1 (w.heap.size) 0 [.int .i64 y, .int .i64 o, .int .i64 d, .int .i64 u, .int .i64 i, .int .i64 s] := cells_keep (by simp only [CellsAt]; go_simp) (fun o => hcw1 _ o (by go_size)) (fun o => hfw1 _ o (by go_size))
  simp only [CellsAt] at zw1_wH
  have zw1_wH1 : CellsAt w1 (w.heap.size+1) 0 [.int .i64 0, .int .i64 0, .int .i64 0, .int .i64 0, .int .i64 0, .int .i64 0] := cells_keep (by simp only [CellsAt]; go_simp) (fun o => hcw1 _ o (by go_size)) (fun o => hfw1 _ o (by go_size))
  simp only [CellsAt] at zw1_wH1
  clear hcw1 hfw1
  go_wp2_with fail
  exact bodyPost_ret (v := .tuple #[zeroPer, .bool false]) (by simp [results, Try.results15, go_sem, zw1_wH1, zeroPer]) rfl ⟨rfl, by go_grown⟩

theorem tv_iff {y o d u i s : Int} (h : pvB y o d u i s = true) : 0 ≤ tY y o ∧ tY y o ≤ 1000000 ∧ 0 ≤ tO o ∧ tO o < 12 ∧ 0 ≤ tSec u i s ∧ tSec u i s ≤ 40000000 := by
  obtain ⟨⟨a1, a2⟩, ⟨b1, b2⟩, ⟨c1, c2⟩, ⟨d1, d2⟩, ⟨e1, e2⟩, ⟨f1, f2⟩⟩ := pvB_iff.1 h
  unfold tY tO tSec; omega

set_option maxHeartbeats 2000000 in
theorem tidy_spec_yes (y o d u i s : Int) (w : World) (h : pvB y o d u i s = true) (b : Bool) (hb : tvB y o d u i s = b) : Calls Try.prog 15 #[.agg #[.int .i64 y, .int .i64 o, .int .i64 d, .int .i64 u, .int .i64 i, .int .i64 s]] w fun e w' =>
    (e = .returned (.tuple #[bif b then .agg #[.int .i64 (tY y o), .int .i64 (tO o), .int .i64 (tD d u i s), .int .i64 (tU u i s), .int .i64 (tI u i s), .int .i64 (tS s)] else zeroPer, .bool b])) ∧ Below w.heap.size w w' := by
  obtain ⟨⟨a1, a2⟩, ⟨b1, b2⟩, ⟨c1, c2⟩, ⟨d1, d2⟩, ⟨e1, e2⟩, ⟨f1, f2⟩⟩ := pvB_iff.1 h
  have P1 := Lib.hid (fun w => pv_spec_b _ _ _ _ _ _ _ h w)
  have P2 := Lib.hid (fun w => pv_spec_b _ _ _ _ _ _ _ hb w)
  unfold tY tO tD tU tI tS tSec at P2
  unfold tY tO tD tU tI tS tSec
  clear h hb
  go_enter Try.func15, Try.ntmps15
  go_wp2_with fail
  refine (P1.out _).mono ?_
  rintro e w1 ⟨rfl, bw1⟩
  obtain ⟨hcw1, hfw1⟩ := bcell bw1
  have sw1 := bw1.size
  (try simp at sw1)
  have Aw1 : Below w.heap.size w w1 := Below.trans (by go_grown) (bw1.mono (by go_size))
  clear bw1
  have lw1_0 : w.heap.size < w1.heap.size := by omega
  have lw1_1 : w.heap.size+1 < w1.heap.size := by omega
  have zw1_wH : CellsAt w1 (w.heap.size) 0 [.int .i64 y, .int .i64 o, .int .i64 d, .int .i64 u, .int .i64 i, .int .i64 s] := cells_keep (by simp only [CellsAt]; go_simp) (fun o => hcw1 _ o (by go_size)) (fun o => hfw1 _ o (by go_size))
  simp only [CellsAt] at zw1_wH
  have zw1_wH1 : CellsAt w1 (w.heap.size+1) 0 [.int .i64 0, .int .i64 0, .int .i64 0, .int .i64 0, .int .i64 0, .int .i64 0] := cells_keep (by simp only [CellsAt]; go_simp) (fun o => hcw1 _ o (by go_size)) (fun o => hfw1 _ o (by go_size))
  simp only [CellsAt] at zw1_wH1
  clear hcw1 hfw1
  go_wp2_with fail
  refine (P2.out _).mono ?_
  rintro e w2 ⟨rfl, bw2⟩
  obtain ⟨hcw2, hfw2⟩ := bcell bw2
  have sw2 := bw2.size
  (try simp at sw2)
  have Aw2 : Below w.heap.size w w2 := Below.trans (by go_grown) (bw2.mono (by go_size))
  clear bw2
  have lw2_0 : w.heap.size < w2.heap.size := by omega
  have lw2_1 : w.heap.size+1 < w2.heap.size := by omega
  have lw2_2 : w1.heap.size < w2.heap.size := by omega
  have zw2_wH1 : CellsAt w2 (w.heap.size+1) 0 [.int .i64 0, .int .i64 0, .int .i64 0, .int .i64 0, .int .i64 0, .int .i64 0] := cells_keep (by simp only [CellsAt]; go_simp) (fun o => hcw2 _ o (by go_size)) (fun o => hfw2 _ o (by go_size))
  simp only [CellsAt] at zw2_wH1
  have zw2_w1H : CellsAt w2 (w1.heap.size) 0 [.int .i64 ((12 * y + o) / 12), .int .i64 (o % 12), .int .i64 (d + (60 * (60 * u + i) + s) / 86400), .int .i64 ((60 * (60 * u + i) + s) / 3600 % 24), .int .i64 ((60 * (60 * u + i) + s) / 60 % 60), .int .i64 (s % 60)] := cells_keep (by simp only [CellsAt]; go_simp) (fun o => hcw2 _ o (by go_size)) (fun o => hfw2 _ o (by go_size))
  simp only [CellsAt] at zw2_w1H
  clear hcw2 hfw2
  cases b
  · go_wp2_with fail
    exact bodyPost_ret (v := .tuple #[zeroPer, .bool false]) (by simp [results, Try.results15, go_sem, zw2_wH1, zeroPer]) rfl ⟨rfl, by go_grown⟩
  · go_wp2_with fail
    exact bodyPost_ret (v := .tuple #[.agg #[.int .i64 ((12 * y + o) / 12), .int .i64 (o % 12), .int .i64 (d + (60 * (60 * u + i) + s) / 86400), .int .i64 ((60 * (60 * u + i) + s) / 3600 % 24), .int .i64 ((60 * (60 * u + i) + s) / 60 % 60), .int .i64 (s % 60)], .bool true]) (by simp [results, Try.results15, go_sem, zw2_wH1]) rfl ⟨rfl, by go_grown⟩

/-- where the orders of a statement of PeriodTidy meet: a block g holds six numbers, the argument and the result's place stand -/
def TidyCut (w : World) (y o d u i s Y O D U I S : Int) (s4 : Value) (wx : World) : Prop := ∃ g, s4 = .pointer (some ⟨g, 0, none⟩) ∧ w.heap.size + 1 < g ∧ g < wx.heap.size ∧
  CellsAt wx g 0 [.int .i64 Y, .int .i64 O, .int .i64 D, .int .i64 U, .int .i64 I, .int .i64 S] ∧
  CellsAt wx w.heap.size 0 [.int .i64 y, .int .i64 o, .int .i64 d, .int .i64 u, .int .i64 i, .int .i64 s] ∧
  CellsAt wx (w.heap.size + 1) 0 [.int .i64 0, .int .i64 0, .int .i64 0, .int .i64 0, .int .i64 0, .int .i64 0] ∧ Below w.heap.size w wx

set_option maxHeartbeats 2000000 in
theorem tidy_impl_yes (y o d u i s : Int) (w : World) (h : pvB y o d u i s = true) (b : Bool) (hb : tvB y o d u i s = b) : Calls Try.prog 16 #[.agg #[.int .i64 y, .int .i64 o, .int .i64 d, .int .i64 u, .int .i64 i, .int .i64 s]] w fun e w' =>
    (e = .returned (.tuple #[bif b then .agg #[.int .i64 (tY y o), .int .i64 (tO o), .int .i64 (tD d u i s), .int .i64 (tU u i s), .int .i64 (tI u i s), .int .i64 (tS s)] else zeroPer, .bool b])) ∧ Below w.heap.size w w' := by
  obtain ⟨⟨a1, a2⟩, ⟨b1, b2⟩, ⟨c1, c2⟩, ⟨d1, d2⟩, ⟨e1, e2⟩, ⟨f1, f2⟩⟩ := pvB_iff.1 h
  have P1 := Lib.hid (fun w => pv_impl_b _ _ _ _ _ _ _ h w)
  have P2 := Lib.hid (fun w => pv_impl_b _ _ _ _ _ _ _ hb w)
  clear h hb
  go_enter Try.func16, Try.ntmps16
  go_wp2_with fail
  refine (P1.out _).mono ?_
  rintro e w1 ⟨rfl, bw1⟩
  obtain ⟨hcw1, hfw1⟩ := bcell bw1
  have sw1 := bw1.size
  (try simp at sw1)
  have Aw1 : Below w.heap.size w w1 := Below.trans (by go_grown) (bw1.mono (by go_size))
  clear bw1
  have lw1_0 : w.heap.size < w1.heap.size := by omega
  have lw1_1 : w.heap.size+1 < w1.heap.size := by omega
  have zw1_wH : CellsAt w1 (w.heap.size) 0 [.int .i64 y, .int .i64 o, .int .i64 d, .int .i64 u, .int .i64 i, .int .i64 s] := cells_keep (by simp only [CellsAt]; go_simp) (fun o => hcw1 _ o (by go_size)) (fun o => hfw1 _ o (by go_size))
  simp only [CellsAt] at zw1_wH
  have zw1_wH1 : CellsAt w1 (w.heap.size+1) 0 [.int .i64 0, .int .i64 0, .int .i64 0, .int .i64 0, .int .i64 0, .int .i64 0] := cells_keep (by simp only [CellsAt]; go_simp) (fun o => hcw1 _ o (by go_size)) (fun o => hfw1 _ o (by go_size))
  simp only [CellsAt] at zw1_wH1
  clear hcw1 hfw1
  go_wp2_with fail
  have k1 : IntKind.i64.wrap (d * 86400) = d * 86400 := IntWalk.i64_in _ (by omega)
  have k2 : IntKind.i64.wrap (d * 86400 + ((u * 60 + i) * 60 + s)) = d * 86400 + ((u * 60 + i) * 60 + s) := IntWalk.i64_in _ (by omega)
  have q0 : w.heap.size ≤ w1.heap.size := by omega
  have q1 : w.heap.size ≤ w1.heap.size + 1 := by omega
  have q2 : w.heap.size ≤ w1.heap.size + 1 + 1 := by omega
  have q3 : w.heap.size < w1.heap.size + 1 := by omega
  have q4 : w.heap.size < w1.heap.size + 1 + 1 := by omega
  go_cut [4] (TidyCut w y o d u i s 0 0 (tD d u i s) (tU u i s) (tI u i s) (tS s))
  case first =>
    go_region_held3 (fun w' => w'.cell? ⟨w.heap.size, 0, none⟩ = some (.int .i64 y) ∧ w'.cell? ⟨w.heap.size, 1, none⟩ = some (.int .i64 o) ∧ w'.cell? ⟨w.heap.size, 2, none⟩ = some (.int .i64 d) ∧ w'.cell? ⟨w.heap.size, 3, none⟩ = some (.int .i64 u) ∧ w'.cell? ⟨w.heap.size, 4, none⟩ = some (.int .i64 i) ∧ w'.cell? ⟨w.heap.size, 5, none⟩ = some (.int .i64 s)) (go_simp)
      (first
        | (go_at_call 29; refine (secondsOf_any _ _ _ _ _ _ _ d1 d2 e1 e2 f1 f2).mono ?_; rintro e w' ⟨rfl, rfl⟩)
        | (go_at_call 28; refine (ofSeconds_any _ _ (by omega) (by omega)).mono ?_; rintro e w' ⟨rfl, rfl⟩))
    all_goals (go_wp2_with fail; go_meet; refine ⟨_, rfl, ?_, ?_, ?_, ?_, ?_, ?_⟩)
    all_goals first | (simp only [CellsAt]; rw [← t_D d u i s, ← t_U d u i s, ← t_I d u i s, ← t_S d u i s]; go_simp; done) | (simp only [CellsAt]; go_simp; done) | (go_grown; done) | go_size
  case rest =>
    clear k1 k2 q0 q1 q2 q3 q4 zw1_wH zw1_wH1 sw1 Aw1 lw1_0 lw1_1
    obtain ⟨g, rfl, hg1, hg2, c1, c2, c3, A1⟩ := hcut
    simp only [CellsAt] at c1 c2 c3
    go_wp2_with fail
    have m0 : 0 ≤ 12 * y + o := by omega
    have j1 : IntKind.i64.wrap ((12 * y + o).tdiv 12) = (12 * y + o) / 12 := by rw [Int.tdiv_eq_ediv_of_nonneg m0]; exact IntWalk.i64_in _ (by omega)
    have j2 : (12 * y + o).tmod 12 = o % 12 := by rw [Int.tmod_eq_emod_of_nonneg m0]; omega
    have hg3 : ¬ g = w.heap.size := by omega
    have hg4 : ¬ w.heap.size = g := by omega
    have hg5 : ¬ w.heap.size + 1 = g := by omega
    have q0 : w.heap.size < wc.heap.size := by omega
    have q1 : w.heap.size < wc.heap.size + 1 := by omega
    have q2 : w.heap.size ≤ wc.heap.size := by omega
    have q3 : g < wc.heap.size + 1 := by omega
    have q4 : g ≤ wc.heap.size := by omega
    have q5 : w.heap.size + 1 < wc.heap.size := by omega
    have q6 : w.heap.size + 1 < wc.heap.size + 1 := by omega
    have q7 : w.heap.size + 1 ≤ wc.heap.size := by omega
    go_cut [] (TidyCut w y o d u i s (tY y o) (tO o) (tD d u i s) (tU u i s) (tI u i s) (tS s) (.pointer (some ⟨g, 0, none⟩)))
    case first =>
      go_region_held3 (fun w' => w'.cell? ⟨w.heap.size, 0, none⟩ = some (.int .i64 y) ∧ w'.cell? ⟨w.heap.size, 1, none⟩ = some (.int .i64 o) ∧ w'.cell? ⟨w.heap.size, 2, none⟩ = some (.int .i64 d) ∧ w'.cell? ⟨w.heap.size, 3, none⟩ = some (.int .i64 u) ∧ w'.cell? ⟨w.heap.size, 4, none⟩ = some (.int .i64 i) ∧ w'.cell? ⟨w.heap.size, 5, none⟩ = some (.int .i64 s)) (go_simp)
        ((go_at_call 30; refine (monthsOf_any _ _ _ _ _ _ _ a1 a2 b1 b2).mono ?_; rintro e w' ⟨rfl, rfl⟩))
      all_goals (go_wp2_with fail; go_meet; refine ⟨_, rfl, ?_, ?_, ?_, ?_, ?_, ?_⟩)
      all_goals first | (simp only [CellsAt, tY, tO]; go_simp; done) | (simp only [CellsAt]; go_simp; done) | (go_grown; done) | go_size
    case rest =>
      clear c1 c2 c3 A1 q0 q1 q2 q3 q4 q5 q6 q7 hg1 hg2
      obtain ⟨g', hgg, hg1, hg2, c1, c2, c3, A1⟩ := hcut
      obtain rfl : g = g' := by simpa using hgg
      clear hgg
      simp only [CellsAt] at c1 c2 c3
      go_wp2_with fail
      refine (P2.out _).mono ?_
      rintro e w2 ⟨rfl, bw2⟩
      obtain ⟨hcw2, hfw2⟩ := bcell bw2
      have sw2 := bw2.size
      (try simp at sw2)
      have Aw2 : Below w.heap.size w w2 := Below.trans (by go_grown) (bw2.mono (by go_size))
      clear bw2
      have lw2_0 : w.heap.size < w2.heap.size := by omega
      have lw2_1 : w.heap.size+1 < w2.heap.size := by omega
      have lw2_2 : g < w2.heap.size := by omega
      have zw2_wH1 : CellsAt w2 (w.heap.size+1) 0 [.int .i64 0, .int .i64 0, .int .i64 0, .int .i64 0, .int .i64 0, .int .i64 0] := cells_keep (by simp only [CellsAt]; go_simp) (fun o => hcw2 _ o (by go_size)) (fun o => hfw2 _ o (by go_size))
      simp only [CellsAt] at zw2_wH1
      have zw2_g : CellsAt w2 (g) 0 [.int .i64 (tY y o), .int .i64 (tO o), .int .i64 (tD d u i s), .int .i64 (tU u i s), .int .i64 (tI u i s), .int .i64 (tS s)] := cells_keep (by simp only [CellsAt]; go_simp) (fun o => hcw2 _ o (by go_size)) (fun o => hfw2 _ o (by go_size))
      simp only [CellsAt] at zw2_g
      clear hcw2 hfw2
      cases b
      · go_wp2_with fail
        exact bodyPost_ret (v := .tuple #[zeroPer, .bool false]) (by simp [results, Try.results16, go_sem, zw2_wH1, zeroPer]) rfl ⟨rfl, by go_grown⟩
      · go_wp2_with fail
        exact bodyPost_ret (v := .tuple #[.agg #[.int .i64 (tY y o), .int .i64 (tO o), .int .i64 (tD d u i s), .int .i64 (tU u i s), .int .i64 (tI u i s), .int .i64 (tS s)], .bool true]) (by simp [results, Try.results16, go_sem, zw2_wH1]) rfl ⟨rfl, by go_grown⟩

/-- what PeriodTidy gives, by the program and by the reference alike -/
def TidyIs (y o d u i s Y O D U I S : Int) (b : Bool) : Prop :=
  (∀ w : World, Calls Try.prog 16 #[.agg #[.int .i64 y, .int .i64 o, .int .i64 d, .int .i64 u, .int .i64 i, .int .i64 s]] w fun e w' => e = .returned (.tuple #[.agg #[.int .i64 Y, .int .i64 O, .int .i64 D, .int .i64 U, .int .i64 I, .int .i64 S], .bool b]) ∧ Below w.heap.size w w') ∧
  (∀ w : World, Calls Try.prog 15 #[.agg #[.int .i64 y, .int .i64 o, .int .i64 d, .int .i64 u, .int .i64 i, .int .i64 s]] w fun e w' => e = .returned (.tuple #[.agg #[.int .i64 Y, .int .i64 O, .int .i64 D, .int .i64 U, .int .i64 I, .int .i64 S], .bool b]) ∧ Below w.heap.size w w') ∧
  (b = true → pvB y o d u i s = true ∧ pvB Y O D U I S = true ∧ Y = tY y o ∧ O = tO o ∧ D = tD d u i s ∧ U = tU u i s ∧ I = tI u i s ∧ S = tS s)
theorem tidy_is (y o d u i s : Int) : ∃ Y O D U I S b, TidyIs y o d u i s Y O D U I S b := by
  cases h : pvB y o d u i s
  · exact ⟨0, 0, 0, 0, 0, 0, false, fun w => tidy_impl_no y o d u i s w h, fun w => tidy_spec_no y o d u i s w h, fun h => by cases h⟩
  · cases hb : tvB y o d u i s
    · exact ⟨0, 0, 0, 0, 0, 0, false, fun w => tidy_impl_yes y o d u i s w h false hb, fun w => tidy_spec_yes y o d u i s w h false hb, fun h => by cases h⟩
    · exact ⟨_, _, _, _, _, _, true, fun w => tidy_impl_yes y o d u i s w h true hb, fun w => tidy_spec_yes y o d u i s w h true hb, fun _ => ⟨h, hb, rfl, rfl, rfl, rfl, rfl, rfl⟩⟩
theorem tidy_yes {y o d u i s : Int} (h : pvB y o d u i s = true) (hb : tvB y o d u i s = true) : TidyIs y o d u i s (tY y o) (tO o) (tD d u i s) (tU u i s) (tI u i s) (tS s) true :=
  ⟨fun w => tidy_impl_yes y o d u i s w h true hb, fun w => tidy_spec_yes y o d u i s w h true hb, fun _ => ⟨h, hb, rfl, rfl, rfl, rfl, rfl, rfl⟩⟩
end Go.Proofs.Ytipfggkndphebaa
