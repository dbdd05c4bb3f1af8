/- The program's shift closures: by months, by days, one behind the other. Their captured variables by cell facts. -/
import Derived.Test.YtacglejojkamfaaDoorDayPlus
import Derived.Test.YtacglejojkamfaaDoorPerOf
import Derived.Outline
namespace Go.Proofs.YtacglejojkamfaaDoor
set_option linter.unusedSimpArgs false
set_option linter.unusedVariables false
open Go.RowKit

set_option maxHeartbeats 1000000 in
theorem shiftDays_i (sb pb : Nat) (sg py po pd pu pi ps : Int) (y m d Y M D : Int) (b : Bool) (w : World) (T : Tab w) (h1 : sb < w.heap.size) (h2 : pb < w.heap.size)
    (hs : CellsAt w sb 0 [.int .i64 sg]) (hp : CellsAt w pb 0 [.int .i64 py, .int .i64 po, .int .i64 pd, .int .i64 pu, .int .i64 pi, .int .i64 ps]) (g1 : -1 ≤ sg) (g2 : sg ≤ 1) (p1 : 0 ≤ pd) (p2 : pd ≤ 9999999) (h : DpIs y m d (sg * pd) Y M D b) :
    Calls Tryd.prog 99 #[.agg #[.int .i64 y, .int .i64 m, .int .i64 d], .pointer (some ⟨sb, 0, none⟩), .pointer (some ⟨pb, 0, none⟩)] w fun e w' =>
      e = .returned (.tuple #[.agg #[.int .i64 Y, .int .i64 M, .int .i64 D], .bool b]) ∧ Below w.heap.size w w' := by
  have T1 := Lib.hid T
  have P := Lib.hid (fun w T => dayPlus_i y m d (sg * pd) Y M D b w T h)
  clear T h
  have hk : -9999999 ≤ sg * pd ∧ sg * pd ≤ 9999999 := by
    rcases (show sg = -1 ∨ sg = 0 ∨ sg = 1 by omega) with rfl | rfl | rfl <;> omega
  have hw : IntKind.i64.wrap (sg * pd) = sg * pd := IntWalk.i64_in _ (by omega)
  simp only [CellsAt] at hs hp
  go_enter Tryd.func99, Tryd.ntmps99
  go_wp2_with fail
  refine (P.out _ (by (repeat' (first | (with_reducible exact T1.out) | (with_reducible assumption) | (with_reducible refine tab_alloc ?_ _) | (with_reducible refine tab_drewN ?_ _) | (with_reducible refine tab_drew ?_) | (with_reducible refine tab_set ?_ ?_ _) | go_size)))).mono ?_
  rintro e w1 ⟨rfl, bw1⟩
  have sw1 := bw1.size
  (try simp at sw1)
  have Aw1 : Below w.heap.size w w1 := Below.trans (by (repeat' (first | (with_reducible assumption) | (with_reducible exact Below.refl _ _) | (with_reducible refine bdN ?_ _) | (with_reducible refine Below.alloc ?_ ?_ _) | (with_reducible refine Below.drew ?_) | (with_reducible refine Below.setCell ?_ ?_ _) | go_size))) (bw1.mono (by go_size))
  have Tw1 := Lib.hid (tab_keep (by (repeat' (first | (with_reducible exact T1.out) | (with_reducible assumption) | (with_reducible refine tab_alloc ?_ _) | (with_reducible refine tab_drewN ?_ _) | (with_reducible refine tab_drew ?_) | (with_reducible refine tab_set ?_ ?_ _) | go_size))) bw1)
  have lw1_0 : w.heap.size+1 < w1.heap.size := (by go_size)
  have zw1_wH1 : CellsAt w1 (w.heap.size+1) 0 [.int .i64 0, .int .i64 0, .int .i64 0] := cells_keep (by (simp only [CellsAt]; (first | (go_simp; done) | ((repeat' (with_reducible refine And.intro ?_ ?_)) <;> (repeat' (first | (with_reducible assumption) | (with_reducible exact trivial) | (with_reducible refine kA _ ?_) | (with_reducible refine kD ?_) | (with_reducible refine kS _ ?_ ?_) | (with_reducible refine fA _ ?_ ?_) | (with_reducible refine fD ?_) | (with_reducible refine fS _ ?_) | go_size | (go_simp; done))))))) (fun o => bw1.cell (p := ⟨_, o, none⟩) (by go_size)) (fun o => bw1.frozen (p := ⟨_, o, none⟩) (by go_size))
  simp only [CellsAt] at zw1_wH1
  clear bw1
  go_wp2_with fail
  exact bodyPost_ret (v := .tuple #[.agg #[.int .i64 Y, .int .i64 M, .int .i64 D], .bool b]) (by simp [results, Tryd.results99, go_sem, zw1_wH1]) rfl ⟨rfl, by (repeat' (first | (with_reducible assumption) | (with_reducible exact Below.refl _ _) | (with_reducible refine bdN ?_ _) | (with_reducible refine Below.alloc ?_ ?_ _) | (with_reducible refine Below.drew ?_) | (with_reducible refine Below.setCell ?_ ?_ _) | go_size))⟩

set_option maxHeartbeats 1000000 in
theorem shiftMonths_i (sb pb : Nat) (sg py po pd pu pi ps : Int) (y m d Y M D : Int) (b : Bool) (w : World) (T : Tab w) (h1 : sb < w.heap.size) (h2 : pb < w.heap.size)
    (hs : CellsAt w sb 0 [.int .i64 sg]) (hp : CellsAt w pb 0 [.int .i64 py, .int .i64 po, .int .i64 pd, .int .i64 pu, .int .i64 pi, .int .i64 ps]) (g1 : -1 ≤ sg) (g2 : sg ≤ 1) (p1 : 0 ≤ py) (p2 : py ≤ 9999) (p3 : 0 ≤ po) (p4 : po ≤ 9999) (h : MpIs y m d (sg * (12 * py + po)) Y M D b) :
    Calls Tryd.prog 95 #[.agg #[.int .i64 y, .int .i64 m, .int .i64 d], .pointer (some ⟨sb, 0, none⟩), .pointer (some ⟨pb, 0, none⟩)] w fun e w' =>
      e = .returned (.tuple #[.agg #[.int .i64 Y, .int .i64 M, .int .i64 D], .bool b]) ∧ Below w.heap.size w w' := by
  have T1 := Lib.hid T
  have P := Lib.hid (fun w T => monthPlus_i y m d (sg * (12 * py + po)) Y M D b w T h)
  clear T h
  have hk : -9999999 ≤ sg * (12 * py + po) ∧ sg * (12 * py + po) ≤ 9999999 := by
    rcases (show sg = -1 ∨ sg = 0 ∨ sg = 1 by omega) with rfl | rfl | rfl <;> omega
  have hw : IntKind.i64.wrap (sg * (12 * py + po)) = sg * (12 * py + po) := IntWalk.i64_in _ (by omega)
  simp only [CellsAt] at hs hp
  have e1 : ¬ sb = w.heap.size := by omega
  have e2 : ¬ pb = w.heap.size := by omega
  have e3 : ¬ w.heap.size = sb := by omega
  have e4 : ¬ w.heap.size = pb := by omega
  have e5 : ¬ w.heap.size + 1 = sb := by omega
  have e6 : ¬ w.heap.size + 1 = pb := by omega
  have q1 : sb < w.heap.size + 1 := by omega
  have q2 : pb < w.heap.size + 1 := by omega
  have q3 : sb < w.heap.size + 1 + 1 := by omega
  have q4 : pb < w.heap.size + 1 + 1 := by omega
  go_enter Tryd.func95, Tryd.ntmps95
  go_wp2_with fail
  go_region_held3 (fun w' => w'.cell? ⟨w.heap.size, 0, none⟩ = some (.int .i64 y) ∧ w'.cell? ⟨w.heap.size, 1, none⟩ = some (.int .i64 m) ∧ w'.cell? ⟨w.heap.size, 2, none⟩ = some (.int .i64 d) ∧ w'.cell? ⟨sb, 0, none⟩ = some (.int .i64 sg) ∧ w'.cell? ⟨pb, 0, none⟩ = some (.int .i64 py) ∧ w'.cell? ⟨pb, 1, none⟩ = some (.int .i64 po) ∧ w'.cell? ⟨pb, 2, none⟩ = some (.int .i64 pd) ∧ w'.cell? ⟨pb, 3, none⟩ = some (.int .i64 pu) ∧ w'.cell? ⟨pb, 4, none⟩ = some (.int .i64 pi) ∧ w'.cell? ⟨pb, 5, none⟩ = some (.int .i64 ps)) (go_simp)
    (first
      | (go_at_call 97; refine (monthsOf_any _ _ _ _ _ _ _ p1 p2 p3 p4).mono ?_; rintro e w' ⟨rfl, rfl⟩)
      | (go_at_call 96; (with_reducible refine (P.out _ ?hT).mono ?_); (case hT => (repeat' (first | (with_reducible exact T1.out) | (with_reducible refine tab_alloc ?_ _) | (with_reducible refine tab_drewN ?_ _) | (with_reducible refine tab_drew ?_)))); rintro e w4 ⟨rfl, b4⟩; have c1 := fun o => (bcell b4).1 w.heap.size o (by go_size); have c2 := fun o => (bcell b4).1 sb o (by go_size); have c3 := fun o => (bcell b4).1 pb o (by go_size); have c4 := fun o => (bcell b4).1 (w.heap.size + 1) o (by go_size); have f4 := fun o => (bcell b4).2 (w.heap.size + 1) o (by go_size); have s4 := b4.size; (try simp at s4); have l4 : w.heap.size + 1 < w4.heap.size := (by omega); have l5 : w.heap.size < w4.heap.size := (by omega); have A4 : Below w.heap.size w w4 := Below.trans (by (repeat' (first | (with_reducible assumption) | (with_reducible exact Below.refl _ _) | (with_reducible refine bdN ?_ _) | (with_reducible refine Below.alloc ?_ ?_ _) | (with_reducible refine Below.drew ?_) | (with_reducible refine Below.setCell ?_ ?_ _) | go_size))) (b4.mono (by go_size)); have zz : CellsAt w4 (w.heap.size + 1) 0 [.int .i64 0, .int .i64 0, .int .i64 0] := cells_keep (by simp only [CellsAt]; go_simp) c4 f4; simp only [CellsAt] at zz; clear b4 c4 f4))
  all_goals
    go_wp2_with fail
    exact bodyPost_ret (v := .tuple #[.agg #[.int .i64 Y, .int .i64 M, .int .i64 D], .bool b]) (by simp [results, Tryd.results95, go_sem, zz]) rfl ⟨rfl, by (repeat' (first | (with_reducible assumption) | (with_reducible exact Below.refl _ _) | (with_reducible refine bdN ?_ _) | (with_reducible refine Below.alloc ?_ ?_ _) | (with_reducible refine Below.drew ?_) | (with_reducible refine Below.setCell ?_ ?_ _) | go_size))⟩

/-- the two closures as values -/
def fMonths (sb pb : Nat) : Value := .func (.func 95) #[] #[.pointer (some ⟨sb, 0, none⟩), .pointer (some ⟨pb, 0, none⟩)]
def fDays (sb pb : Nat) : Value := .func (.func 99) #[] #[.pointer (some ⟨sb, 0, none⟩), .pointer (some ⟨pb, 0, none⟩)]

set_option maxHeartbeats 400000 in
theorem then_any (sb pb : Nat) (w : World) : Calls Tryd.prog 98 #[fMonths sb pb, fDays sb pb] w fun e w' =>
    e = .returned (.func (.func 121) #[] #[.pointer (some ⟨w.heap.size, 0, none⟩), .pointer (some ⟨w.heap.size + 1, 0, none⟩)]) ∧ w' = (w.alloc (.cells #[fMonths sb pb] 98)).alloc (.cells #[fDays sb pb] 98) := by
  unfold fMonths fDays
  go_enter Tryd.func98, Tryd.ntmps98
  go_wp2_with fail
  go_ret
  exact ⟨rfl, rfl⟩

/-- what a date a period later is, the time of the period left away: months first, then days -/
def DtIs (y m d k n Y M D : Int) (b : Bool) : Prop := ∃ X Z V c, MpIs y m d k X Z V c ∧ ((c = true ∧ DpIs X Z V n Y M D b) ∨ (c = false ∧ b = false ∧ Y = 0 ∧ M = 0 ∧ D = 0))
theorem dtIs_ex (y m d k n : Int) : ∃ Y M D b, DtIs y m d k n Y M D b := by
  obtain ⟨X, Z, V, c, hc⟩ := mpIs_ex y m d k
  cases c
  · exact ⟨0, 0, 0, false, X, Z, V, false, hc, .inr ⟨rfl, rfl, rfl, rfl, rfl⟩⟩
  · obtain ⟨Y, M, D, b, hb⟩ := dpIs_ex X Z V n
    exact ⟨Y, M, D, b, X, Z, V, true, hc, .inl ⟨rfl, hb⟩⟩

set_option maxHeartbeats 1000000 in
theorem then1_i (fb gb sb pb : Nat) (sg py po pd pu pi ps : Int) (y m d Y M D : Int) (b : Bool) (w : World) (T : Tab w) (h1 : sb < w.heap.size) (h2 : pb < w.heap.size) (h3 : fb < w.heap.size) (h4 : gb < w.heap.size)
    (hs : CellsAt w sb 0 [.int .i64 sg]) (hp : CellsAt w pb 0 [.int .i64 py, .int .i64 po, .int .i64 pd, .int .i64 pu, .int .i64 pi, .int .i64 ps]) (hf : CellsAt w fb 0 [fMonths sb pb]) (hg : CellsAt w gb 0 [fDays sb pb])
    (g1 : -1 ≤ sg) (g2 : sg ≤ 1) (p1 : 0 ≤ py) (p2 : py ≤ 9999) (p3 : 0 ≤ po) (p4 : po ≤ 9999) (p5 : 0 ≤ pd) (p6 : pd ≤ 9999) (h : DtIs y m d (sg * (12 * py + po)) (sg * pd) Y M D b) :
    Calls Tryd.prog 121 #[.agg #[.int .i64 y, .int .i64 m, .int .i64 d], .pointer (some ⟨fb, 0, none⟩), .pointer (some ⟨gb, 0, none⟩)] w fun e w' =>
      e = .returned (.tuple #[.agg #[.int .i64 Y, .int .i64 M, .int .i64 D], .bool b]) ∧ Below w.heap.size w w' := by
  have T1 := Lib.hid T
  obtain ⟨X, Z, V, c, hm, hd⟩ := h
  have P1 := Lib.hid (fun w T a1 a2 a3 a4 => shiftMonths_i sb pb sg py po pd pu pi ps y m d X Z V c w T a1 a2 a3 a4 g1 g2 p1 p2 p3 p4 hm)
  unfold fMonths at hf
  unfold fDays at hg
  have hs' := hs
  have hp' := hp
  simp only [CellsAt] at hs' hp' hf hg
  clear T hm hs hp
  have e1 : ¬ sb = w.heap.size := by omega
  have e2 : ¬ pb = w.heap.size := by omega
  have e3 : ¬ fb = w.heap.size := by omega
  have e4 : ¬ gb = w.heap.size := by omega
  have e5 : ¬ sb = w.heap.size + 1 := by omega
  have e6 : ¬ pb = w.heap.size + 1 := by omega
  have e7 : ¬ fb = w.heap.size + 1 := by omega
  have e8 : ¬ gb = w.heap.size + 1 := by omega
  rcases hd with ⟨rfl, hd⟩ | ⟨rfl, rfl, rfl, rfl, rfl⟩
  · have P2 := Lib.hid (fun w T a1 a2 a3 a4 => shiftDays_i sb pb sg py po pd pu pi ps X Z V Y M D b w T a1 a2 a3 a4 g1 g2 p5 (by omega) hd)
    clear hd
    go_enter Tryd.func121, Tryd.ntmps121
    go_wp2_with fail
    refine (P1.out _ (by (repeat' (first | (with_reducible exact T1.out) | (with_reducible assumption) | (with_reducible refine tab_alloc ?_ _) | (with_reducible refine tab_drewN ?_ _) | (with_reducible refine tab_drew ?_) | (with_reducible refine tab_set ?_ ?_ _) | go_size))) (by go_size) (by go_size) (by simp only [CellsAt]; go_simp) (by simp only [CellsAt]; go_simp)).mono ?_
    rintro e w1 ⟨rfl, bw1⟩
    have sw1 := bw1.size
    (try simp at sw1)
    have Aw1 : Below w.heap.size w w1 := Below.trans (by (repeat' (first | (with_reducible assumption) | (with_reducible exact Below.refl _ _) | (with_reducible refine bdN ?_ _) | (with_reducible refine Below.alloc ?_ ?_ _) | (with_reducible refine Below.drew ?_) | (with_reducible refine Below.setCell ?_ ?_ _) | go_size))) (bw1.mono (by go_size))
    have Tw1 := Lib.hid (tab_keep (by (repeat' (first | (with_reducible exact T1.out) | (with_reducible assumption) | (with_reducible refine tab_alloc ?_ _) | (with_reducible refine tab_drewN ?_ _) | (with_reducible refine tab_drew ?_) | (with_reducible refine tab_set ?_ ?_ _) | go_size))) bw1)
    have lw1_0 : w.heap.size+1 < w1.heap.size := (by go_size)
    have zw1_wH1 : CellsAt w1 (w.heap.size+1) 0 [.int .i64 0, .int .i64 0, .int .i64 0] := cells_keep (by (simp only [CellsAt]; (first | (go_simp; done) | ((repeat' (with_reducible refine And.intro ?_ ?_)) <;> (repeat' (first | (with_reducible assumption) | (with_reducible exact trivial) | (with_reducible refine kA _ ?_) | (with_reducible refine kD ?_) | (with_reducible refine kS _ ?_ ?_) | (with_reducible refine fA _ ?_ ?_) | (with_reducible refine fD ?_) | (with_reducible refine fS _ ?_) | go_size | (go_simp; done))))))) (fun o => bw1.cell (p := ⟨_, o, none⟩) (by go_size)) (fun o => bw1.frozen (p := ⟨_, o, none⟩) (by go_size))
    have lw1_1 : sb < w1.heap.size := (by go_size)
    have zw1_sb : CellsAt w1 (sb) 0 [.int .i64 sg] := cells_keep (by (simp only [CellsAt]; (first | (go_simp; done) | ((repeat' (with_reducible refine And.intro ?_ ?_)) <;> (repeat' (first | (with_reducible assumption) | (with_reducible exact trivial) | (with_reducible refine kA _ ?_) | (with_reducible refine kD ?_) | (with_reducible refine kS _ ?_ ?_) | (with_reducible refine fA _ ?_ ?_) | (with_reducible refine fD ?_) | (with_reducible refine fS _ ?_) | go_size | (go_simp; done))))))) (fun o => bw1.cell (p := ⟨_, o, none⟩) (by go_size)) (fun o => bw1.frozen (p := ⟨_, o, none⟩) (by go_size))
    have lw1_2 : pb < w1.heap.size := (by go_size)
    have zw1_pb : CellsAt w1 (pb) 0 [.int .i64 py, .int .i64 po, .int .i64 pd, .int .i64 pu, .int .i64 pi, .int .i64 ps] := cells_keep (by (simp only [CellsAt]; (first | (go_simp; done) | ((repeat' (with_reducible refine And.intro ?_ ?_)) <;> (repeat' (first | (with_reducible assumption) | (with_reducible exact trivial) | (with_reducible refine kA _ ?_) | (with_reducible refine kD ?_) | (with_reducible refine kS _ ?_ ?_) | (with_reducible refine fA _ ?_ ?_) | (with_reducible refine fD ?_) | (with_reducible refine fS _ ?_) | go_size | (go_simp; done))))))) (fun o => bw1.cell (p := ⟨_, o, none⟩) (by go_size)) (fun o => bw1.frozen (p := ⟨_, o, none⟩) (by go_size))
    have lw1_3 : gb < w1.heap.size := (by go_size)
    have zw1_gb : CellsAt w1 (gb) 0 [.func (.func 99) #[] #[.pointer (some ⟨sb, 0, none⟩), .pointer (some ⟨pb, 0, none⟩)]] := cells_keep (by (simp only [CellsAt]; (first | (go_simp; done) | ((repeat' (with_reducible refine And.intro ?_ ?_)) <;> (repeat' (first | (with_reducible assumption) | (with_reducible exact trivial) | (with_reducible refine kA _ ?_) | (with_reducible refine kD ?_) | (with_reducible refine kS _ ?_ ?_) | (with_reducible refine fA _ ?_ ?_) | (with_reducible refine fD ?_) | (with_reducible refine fS _ ?_) | go_size | (go_simp; done))))))) (fun o => bw1.cell (p := ⟨_, o, none⟩) (by go_size)) (fun o => bw1.frozen (p := ⟨_, o, none⟩) (by go_size))
    simp only [CellsAt] at zw1_wH1
    simp only [CellsAt] at zw1_sb
    simp only [CellsAt] at zw1_pb
    simp only [CellsAt] at zw1_gb
    clear bw1
    go_wp2_with fail
    refine (P2.out _ (by (repeat' (first | (with_reducible exact Tw1.out) | (with_reducible assumption) | (with_reducible refine tab_alloc ?_ _) | (with_reducible refine tab_drewN ?_ _) | (with_reducible refine tab_drew ?_) | (with_reducible refine tab_set ?_ ?_ _) | go_size))) (by go_size) (by go_size) (by simp only [CellsAt]; go_simp) (by simp only [CellsAt]; go_simp)).mono ?_
    rintro e w2 ⟨rfl, bw2⟩
    have sw2 := bw2.size
    (try simp at sw2)
    have Aw2 : Below w.heap.size w w2 := Below.trans (by (repeat' (first | (with_reducible assumption) | (with_reducible exact Below.refl _ _) | (with_reducible refine bdN ?_ _) | (with_reducible refine Below.alloc ?_ ?_ _) | (with_reducible refine Below.drew ?_) | (with_reducible refine Below.setCell ?_ ?_ _) | go_size))) (bw2.mono (by go_size))
    have Tw2 := Lib.hid (tab_keep (by (repeat' (first | (with_reducible exact Tw1.out) | (with_reducible assumption) | (with_reducible refine tab_alloc ?_ _) | (with_reducible refine tab_drewN ?_ _) | (with_reducible refine tab_drew ?_) | (with_reducible refine tab_set ?_ ?_ _) | go_size))) bw2)
    have lw2_0 : w.heap.size+1 < w2.heap.size := (by go_size)
    have zw2_wH1 : CellsAt w2 (w.heap.size+1) 0 [.int .i64 0, .int .i64 0, .int .i64 0] := cells_keep (by (simp only [CellsAt]; (first | (go_simp; done) | ((repeat' (with_reducible refine And.intro ?_ ?_)) <;> (repeat' (first | (with_reducible assumption) | (with_reducible exact trivial) | (with_reducible refine kA _ ?_) | (with_reducible refine kD ?_) | (with_reducible refine kS _ ?_ ?_) | (with_reducible refine fA _ ?_ ?_) | (with_reducible refine fD ?_) | (with_reducible refine fS _ ?_) | go_size | (go_simp; done))))))) (fun o => bw2.cell (p := ⟨_, o, none⟩) (by go_size)) (fun o => bw2.frozen (p := ⟨_, o, none⟩) (by go_size))
    have lw2_1 : sb < w2.heap.size := (by go_size)
    have zw2_sb : CellsAt w2 (sb) 0 [.int .i64 sg] := cells_keep (by (simp only [CellsAt]; (first | (go_simp; done) | ((repeat' (with_reducible refine And.intro ?_ ?_)) <;> (repeat' (first | (with_reducible assumption) | (with_reducible exact trivial) | (with_reducible refine kA _ ?_) | (with_reducible refine kD ?_) | (with_reducible refine kS _ ?_ ?_) | (with_reducible refine fA _ ?_ ?_) | (with_reducible refine fD ?_) | (with_reducible refine fS _ ?_) | go_size | (go_simp; done))))))) (fun o => bw2.cell (p := ⟨_, o, none⟩) (by go_size)) (fun o => bw2.frozen (p := ⟨_, o, none⟩) (by go_size))
    have lw2_2 : pb < w2.heap.size := (by go_size)
    have zw2_pb : CellsAt w2 (pb) 0 [.int .i64 py, .int .i64 po, .int .i64 pd, .int .i64 pu, .int .i64 pi, .int .i64 ps] := cells_keep (by (simp only [CellsAt]; (first | (go_simp; done) | ((repeat' (with_reducible refine And.intro ?_ ?_)) <;> (repeat' (first | (with_reducible assumption) | (with_reducible exact trivial) | (with_reducible refine kA _ ?_) | (with_reducible refine kD ?_) | (with_reducible refine kS _ ?_ ?_) | (with_reducible refine fA _ ?_ ?_) | (with_reducible refine fD ?_) | (with_reducible refine fS _ ?_) | go_size | (go_simp; done))))))) (fun o => bw2.cell (p := ⟨_, o, none⟩) (by go_size)) (fun o => bw2.frozen (p := ⟨_, o, none⟩) (by go_size))
    have lw2_3 : gb < w2.heap.size := (by go_size)
    have zw2_gb : CellsAt w2 (gb) 0 [.func (.func 99) #[] #[.pointer (some ⟨sb, 0, none⟩), .pointer (some ⟨pb, 0, none⟩)]] := cells_keep (by (simp only [CellsAt]; (first | (go_simp; done) | ((repeat' (with_reducible refine And.intro ?_ ?_)) <;> (repeat' (first | (with_reducible assumption) | (with_reducible exact trivial) | (with_reducible refine kA _ ?_) | (with_reducible refine kD ?_) | (with_reducible refine kS _ ?_ ?_) | (with_reducible refine fA _ ?_ ?_) | (with_reducible refine fD ?_) | (with_reducible refine fS _ ?_) | go_size | (go_simp; done))))))) (fun o => bw2.cell (p := ⟨_, o, none⟩) (by go_size)) (fun o => bw2.frozen (p := ⟨_, o, none⟩) (by go_size))
    simp only [CellsAt] at zw2_wH1
    simp only [CellsAt] at zw2_sb
    simp only [CellsAt] at zw2_pb
    simp only [CellsAt] at zw2_gb
    clear zw1_wH1 zw1_sb zw1_pb zw1_gb
    clear bw2
    go_wp2_with fail
    exact bodyPost_ret (v := .tuple #[.agg #[.int .i64 Y, .int .i64 M, .int .i64 D], .bool b]) (by simp [results, Tryd.results121, go_sem, zw2_wH1, zw2_sb, zw2_pb, zw2_gb, lw2_0, lw2_1, lw2_2, lw2_3]) rfl ⟨rfl, by (repeat' (first | (with_reducible assumption) | (with_reducible exact Below.refl _ _) | (with_reducible refine bdN ?_ _) | (with_reducible refine Below.alloc ?_ ?_ _) | (with_reducible refine Below.drew ?_) | (with_reducible refine Below.setCell ?_ ?_ _) | go_size))⟩
  · go_enter Tryd.func121, Tryd.ntmps121
    go_wp2_with fail
    refine (P1.out _ (by (repeat' (first | (with_reducible exact T1.out) | (with_reducible assumption) | (with_reducible refine tab_alloc ?_ _) | (with_reducible refine tab_drewN ?_ _) | (with_reducible refine tab_drew ?_) | (with_reducible refine tab_set ?_ ?_ _) | go_size))) (by go_size) (by go_size) (by simp only [CellsAt]; go_simp) (by simp only [CellsAt]; go_simp)).mono ?_
    rintro e w1 ⟨rfl, bw1⟩
    have sw1 := bw1.size
    (try simp at sw1)
    have Aw1 : Below w.heap.size w w1 := Below.trans (by (repeat' (first | (with_reducible assumption) | (with_reducible exact Below.refl _ _) | (with_reducible refine bdN ?_ _) | (with_reducible refine Below.alloc ?_ ?_ _) | (with_reducible refine Below.drew ?_) | (with_reducible refine Below.setCell ?_ ?_ _) | go_size))) (bw1.mono (by go_size))
    have Tw1 := Lib.hid (tab_keep (by (repeat' (first | (with_reducible exact T1.out) | (with_reducible assumption) | (with_reducible refine tab_alloc ?_ _) | (with_reducible refine tab_drewN ?_ _) | (with_reducible refine tab_drew ?_) | (with_reducible refine tab_set ?_ ?_ _) | go_size))) bw1)
    have lw1_0 : w.heap.size+1 < w1.heap.size := (by go_size)
    have zw1_wH1 : CellsAt w1 (w.heap.size+1) 0 [.int .i64 0, .int .i64 0, .int .i64 0] := cells_keep (by (simp only [CellsAt]; (first | (go_simp; done) | ((repeat' (with_reducible refine And.intro ?_ ?_)) <;> (repeat' (first | (with_reducible assumption) | (with_reducible exact trivial) | (with_reducible refine kA _ ?_) | (with_reducible refine kD ?_) | (with_reducible refine kS _ ?_ ?_) | (with_reducible refine fA _ ?_ ?_) | (with_reducible refine fD ?_) | (with_reducible refine fS _ ?_) | go_size | (go_simp; done))))))) (fun o => bw1.cell (p := ⟨_, o, none⟩) (by go_size)) (fun o => bw1.frozen (p := ⟨_, o, none⟩) (by go_size))
    simp only [CellsAt] at zw1_wH1
    clear bw1
    go_wp2_with fail
    exact bodyPost_ret (v := .tuple #[.agg #[.int .i64 0, .int .i64 0, .int .i64 0], .bool false]) (by simp [results, Tryd.results121, go_sem, zw1_wH1, lw1_0]) rfl ⟨rfl, by (repeat' (first | (with_reducible assumption) | (with_reducible exact Below.refl _ _) | (with_reducible refine bdN ?_ _) | (with_reducible refine Below.alloc ?_ ?_ _) | (with_reducible refine Below.drew ?_) | (with_reducible refine Below.setCell ?_ ?_ _) | go_size))⟩
end Go.Proofs.YtacglejojkamfaaDoor
