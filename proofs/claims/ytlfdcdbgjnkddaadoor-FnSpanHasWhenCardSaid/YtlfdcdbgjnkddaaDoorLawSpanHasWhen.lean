/- The law FnSpanHasWhen: what is between is in a span. For every input; the table of the months' days is laid by its text. -/
import Derived.Test.YtlfdcdbgjnkddaaDoorSpan
import Derived.Test.YtlfdcdbgjnkddaaDoorStampLess
import Derived.Test.YtlfdcdbgjnkddaaDoorDrawHas
import Derived.ProofKit
import Derived.ChangeAlike
import Derived.OpenShut
import Derived.ShutString
import Derived.ChangeOld
import Derived.Deep.RegionHeld3
import Derived.Deep.DeepCutAuto
import Derived.Test.YtlfdcdbgjnkddaaDoorCards
import Derived.Test.YtlfdcdbgjnkddaaDoorTie
import Derived.Deep.DeepHandedRow
import Derived.Lib.LaidTab
import Derived.OpenVars
import Derived.ChangeVars
namespace Go.Proofs.YtlfdcdbgjnkddaaDoor.lawSpanHasWhen
set_option linter.unusedSimpArgs false
open Go.Proofs.YtlfdcdbgjnkddaaDoor Go.RowKit DN
open Go.ChangeShapes Go.WideShapes Go.ChangeAt
set_option linter.unusedVariables false

theorem when {y m d h i s u o y' m' d' h' i' s' u' o' Y M D H I S U O : Int} (va : svB y m d h i s u o = true) (vb : svB y' m' d' h' i' s' u' o' = true) (vx : svB Y M D H I S U O = true) :
    shB (svB y m d h i s u o) (svB y' m' d' h' i' s' u' o') (svB Y M D H I S U O) (ins y m d h i s u o) (ins y' m' d' h' i' s' u' o') (ins Y M D H I S U O) = (slB Y M D H I S U O y' m' d' h' i' s' u' o' && !slB Y M D H I S U O y m d h i s u o) := by
  rw [sl_tt vx vb, sl_tt vx va, va, vb, vx]
  unfold shB
  rw [Bool.eq_iff_iff]
  simp only [Bool.true_and, Bool.and_eq_true, decide_eq_true_eq, Bool.not_eq_true', decide_eq_false_iff_not]
  omega
set_option maxHeartbeats 8000000 in
theorem walk (a : Option Addr) (len cap : Nat) (zs : List Int) (w : World) (T : Tab w) (h : IsRow .u8 w a len cap zs) : Calls Tryd.prog 7 #[.slice a len cap] w fun e w' => e = .returned (.bool true) ∧ Below w.heap.size w w' := by
  by_cases hlen : 1048576 < len
  · clear T
    go_enter Tryd.func7, Tryd.ntmps7
    go_wp2
    go_ret
    exact ⟨rfl, Below.refl _ _⟩
  · have HX := Lib.hid h
    have T0 := Lib.hid T
    clear h T
    go_enter Tryd.func7, Tryd.ntmps7
    go_wp2_with fail
    refine (DrawSpanHas_any _ _ _ _ _ HX.out).mono ?_
    rintro e w1 ⟨y, m, d, h, i, s, u, o, y', m', d', h', i', s', u', o', Y, M, D, H, I, S, U, O, rfl, bw1⟩
    have sw1 := bw1.size
    (try simp at sw1)
    have Aw1 : Below w.heap.size w w1 := Below.trans (by (repeat' (first | (with_reducible assumption) | (with_reducible exact Below.refl _ _) | (with_reducible refine bdN ?_ _) | (with_reducible refine Below.alloc ?_ ?_ _) | (with_reducible refine Below.drew ?_) | (with_reducible refine Below.setCell ?_ ?_ _) | go_size))) (bw1.mono (by go_size))
    have Tw1 := Lib.hid (tab_keep (by (repeat' (first | (with_reducible exact T0.out) | (with_reducible assumption) | (with_reducible refine tab_alloc ?_ _) | (with_reducible refine tab_drewN ?_ _) | (with_reducible refine tab_drew ?_) | (with_reducible refine tab_set ?_ ?_ _) | go_size))) bw1)
    clear bw1
    clear HX
    have W := Lib.hid (@when y m d h i s u o y' m' d' h' i' s' u' o' Y M D H I S U O)
    obtain ⟨va, hva⟩ : ∃ b, svB y m d h i s u o = b := ⟨_, rfl⟩
    obtain ⟨vb, hvb⟩ : ∃ b, svB y' m' d' h' i' s' u' o' = b := ⟨_, rfl⟩
    obtain ⟨vx, hvx⟩ : ∃ b, svB Y M D H I S U O = b := ⟨_, rfl⟩
    obtain ⟨b, hb⟩ : ∃ b, shB (svB y m d h i s u o) (svB y' m' d' h' i' s' u' o') (svB Y M D H I S U O) (ins y m d h i s u o) (ins y' m' d' h' i' s' u' o') (ins Y M D H I S U O) = b := ⟨_, rfl⟩
    have P1 := Lib.hid (fun w T => SpanHas_i y m d h i s u o y' m' d' h' i' s' u' o' Y M D H I S U O w T)
    have P2 := Lib.hid (fun w => SpanHas_s y m d h i s u o y' m' d' h' i' s' u' o' Y M D H I S U O w)
    rw [hb] at P1 P2 W
    have VA := Lib.hid (fun w => sv_sb y m d h i s u o w va hva)
    have VB := Lib.hid (fun w => sv_sb y' m' d' h' i' s' u' o' w vb hvb)
    have VX := Lib.hid (fun w => sv_sb Y M D H I S U O w vx hvx)
    rw [hva, hvb, hvx] at W
    clear hva hvb hvx hb
    have L1 := Lib.hid (fun w T => StampLess_i Y M D H I S U O y' m' d' h' i' s' u' o' w T)
    have L2 := Lib.hid (fun w T => StampLess_i Y M D H I S U O y m d h i s u o w T)
    generalize slB Y M D H I S U O y' m' d' h' i' s' u' o' = p at L1 W
    generalize slB Y M D H I S U O y m d h i s u o = q at L2 W
    go_wp2_with fail
    refine (P1.out _ (by (repeat' (first | (with_reducible exact Tw1.out) | (with_reducible assumption) | (with_reducible refine tab_alloc ?_ _) | (with_reducible refine tab_drewN ?_ _) | (with_reducible refine tab_drew ?_) | (with_reducible refine tab_set ?_ ?_ _) | go_size)))).mono ?_
    rintro e w2 ⟨rfl, bw2⟩
    have sw2 := bw2.size
    (try simp at sw2)
    have Aw2 : Below w.heap.size w w2 := Below.trans (by (repeat' (first | (with_reducible assumption) | (with_reducible exact Below.refl _ _) | (with_reducible refine bdN ?_ _) | (with_reducible refine Below.alloc ?_ ?_ _) | (with_reducible refine Below.drew ?_) | (with_reducible refine Below.setCell ?_ ?_ _) | go_size))) (bw2.mono (by go_size))
    have Tw2 := Lib.hid (tab_keep (by (repeat' (first | (with_reducible exact Tw1.out) | (with_reducible assumption) | (with_reducible refine tab_alloc ?_ _) | (with_reducible refine tab_drewN ?_ _) | (with_reducible refine tab_drew ?_) | (with_reducible refine tab_set ?_ ?_ _) | go_size))) bw2)
    have lw2_0 : w1.heap.size < w2.heap.size := (by go_size)
    have zw2_w1H : CellsAt w2 (w1.heap.size) 0 [.int .i64 y, .int .i64 m, .int .i64 d, .int .i64 h, .int .i64 i, .int .i64 s, .int .i64 u, .int .i64 o] := cells_keep (by (simp only [CellsAt]; (first | (go_simp; done) | ((repeat' (with_reducible refine And.intro ?_ ?_)) <;> (repeat' (first | (with_reducible assumption) | (with_reducible exact trivial) | (with_reducible refine kA _ ?_) | (with_reducible refine kD ?_) | (with_reducible refine kS _ ?_ ?_) | (with_reducible refine fA _ ?_ ?_) | (with_reducible refine fD ?_) | (with_reducible refine fS _ ?_) | go_size | (go_simp; done))))))) (fun o => bw2.cell (p := ⟨_, o, none⟩) (by go_size)) (fun o => bw2.frozen (p := ⟨_, o, none⟩) (by go_size))
    have lw2_1 : w1.heap.size+1 < w2.heap.size := (by go_size)
    have zw2_w1H1 : CellsAt w2 (w1.heap.size+1) 0 [.int .i64 (y'), .int .i64 (m'), .int .i64 (d'), .int .i64 (h'), .int .i64 (i'), .int .i64 (s'), .int .i64 (u'), .int .i64 (o')] := cells_keep (by (simp only [CellsAt]; (first | (go_simp; done) | ((repeat' (with_reducible refine And.intro ?_ ?_)) <;> (repeat' (first | (with_reducible assumption) | (with_reducible exact trivial) | (with_reducible refine kA _ ?_) | (with_reducible refine kD ?_) | (with_reducible refine kS _ ?_ ?_) | (with_reducible refine fA _ ?_ ?_) | (with_reducible refine fD ?_) | (with_reducible refine fS _ ?_) | go_size | (go_simp; done))))))) (fun o => bw2.cell (p := ⟨_, o, none⟩) (by go_size)) (fun o => bw2.frozen (p := ⟨_, o, none⟩) (by go_size))
    have lw2_2 : w1.heap.size+2 < w2.heap.size := (by go_size)
    have zw2_w1H2 : CellsAt w2 (w1.heap.size+2) 0 [.int .i64 Y, .int .i64 M, .int .i64 D, .int .i64 H, .int .i64 I, .int .i64 S, .int .i64 U, .int .i64 O] := cells_keep (by (simp only [CellsAt]; (first | (go_simp; done) | ((repeat' (with_reducible refine And.intro ?_ ?_)) <;> (repeat' (first | (with_reducible assumption) | (with_reducible exact trivial) | (with_reducible refine kA _ ?_) | (with_reducible refine kD ?_) | (with_reducible refine kS _ ?_ ?_) | (with_reducible refine fA _ ?_ ?_) | (with_reducible refine fD ?_) | (with_reducible refine fS _ ?_) | go_size | (go_simp; done))))))) (fun o => bw2.cell (p := ⟨_, o, none⟩) (by go_size)) (fun o => bw2.frozen (p := ⟨_, o, none⟩) (by go_size))
    simp only [CellsAt] at zw2_w1H
    simp only [CellsAt] at zw2_w1H1
    simp only [CellsAt] at zw2_w1H2
    clear bw2
    go_wp2_with fail
    refine (P2.out _).mono ?_
    rintro e w3 ⟨rfl, bw3⟩
    have sw3 := bw3.size
    (try simp at sw3)
    have Aw3 : Below w.heap.size w w3 := Below.trans (by (repeat' (first | (with_reducible assumption) | (with_reducible exact Below.refl _ _) | (with_reducible refine bdN ?_ _) | (with_reducible refine Below.alloc ?_ ?_ _) | (with_reducible refine Below.drew ?_) | (with_reducible refine Below.setCell ?_ ?_ _) | go_size))) (bw3.mono (by go_size))
    have Tw3 := Lib.hid (tab_keep (by (repeat' (first | (with_reducible exact Tw2.out) | (with_reducible assumption) | (with_reducible refine tab_alloc ?_ _) | (with_reducible refine tab_drewN ?_ _) | (with_reducible refine tab_drew ?_) | (with_reducible refine tab_set ?_ ?_ _) | go_size))) bw3)
    have lw3_0 : w1.heap.size < w3.heap.size := (by go_size)
    have zw3_w1H : CellsAt w3 (w1.heap.size) 0 [.int .i64 y, .int .i64 m, .int .i64 d, .int .i64 h, .int .i64 i, .int .i64 s, .int .i64 u, .int .i64 o] := cells_keep (by (simp only [CellsAt]; (first | (go_simp; done) | ((repeat' (with_reducible refine And.intro ?_ ?_)) <;> (repeat' (first | (with_reducible assumption) | (with_reducible exact trivial) | (with_reducible refine kA _ ?_) | (with_reducible refine kD ?_) | (with_reducible refine kS _ ?_ ?_) | (with_reducible refine fA _ ?_ ?_) | (with_reducible refine fD ?_) | (with_reducible refine fS _ ?_) | go_size | (go_simp; done))))))) (fun o => bw3.cell (p := ⟨_, o, none⟩) (by go_size)) (fun o => bw3.frozen (p := ⟨_, o, none⟩) (by go_size))
    have lw3_1 : w1.heap.size+1 < w3.heap.size := (by go_size)
    have zw3_w1H1 : CellsAt w3 (w1.heap.size+1) 0 [.int .i64 (y'), .int .i64 (m'), .int .i64 (d'), .int .i64 (h'), .int .i64 (i'), .int .i64 (s'), .int .i64 (u'), .int .i64 (o')] := cells_keep (by (simp only [CellsAt]; (first | (go_simp; done) | ((repeat' (with_reducible refine And.intro ?_ ?_)) <;> (repeat' (first | (with_reducible assumption) | (with_reducible exact trivial) | (with_reducible refine kA _ ?_) | (with_reducible refine kD ?_) | (with_reducible refine kS _ ?_ ?_) | (with_reducible refine fA _ ?_ ?_) | (with_reducible refine fD ?_) | (with_reducible refine fS _ ?_) | go_size | (go_simp; done))))))) (fun o => bw3.cell (p := ⟨_, o, none⟩) (by go_size)) (fun o => bw3.frozen (p := ⟨_, o, none⟩) (by go_size))
    have lw3_2 : w1.heap.size+2 < w3.heap.size := (by go_size)
    have zw3_w1H2 : CellsAt w3 (w1.heap.size+2) 0 [.int .i64 Y, .int .i64 M, .int .i64 D, .int .i64 H, .int .i64 I, .int .i64 S, .int .i64 U, .int .i64 O] := cells_keep (by (simp only [CellsAt]; (first | (go_simp; done) | ((repeat' (with_reducible refine And.intro ?_ ?_)) <;> (repeat' (first | (with_reducible assumption) | (with_reducible exact trivial) | (with_reducible refine kA _ ?_) | (with_reducible refine kD ?_) | (with_reducible refine kS _ ?_ ?_) | (with_reducible refine fA _ ?_ ?_) | (with_reducible refine fD ?_) | (with_reducible refine fS _ ?_) | go_size | (go_simp; done))))))) (fun o => bw3.cell (p := ⟨_, o, none⟩) (by go_size)) (fun o => bw3.frozen (p := ⟨_, o, none⟩) (by go_size))
    simp only [CellsAt] at zw3_w1H
    simp only [CellsAt] at zw3_w1H1
    simp only [CellsAt] at zw3_w1H2
    clear zw2_w1H zw2_w1H1 zw2_w1H2
    clear bw3
    clear P1 P2
    cases va
    · go_wp2_with fail
      refine (VA.out _).mono ?_
      rintro e w4 ⟨rfl, bw4⟩
      have sw4 := bw4.size
      (try simp at sw4)
      have Aw4 : Below w.heap.size w w4 := Below.trans (by (repeat' (first | (with_reducible assumption) | (with_reducible exact Below.refl _ _) | (with_reducible refine bdN ?_ _) | (with_reducible refine Below.alloc ?_ ?_ _) | (with_reducible refine Below.drew ?_) | (with_reducible refine Below.setCell ?_ ?_ _) | go_size))) (bw4.mono (by go_size))
      have Tw4 := Lib.hid (tab_keep (by (repeat' (first | (with_reducible exact Tw3.out) | (with_reducible assumption) | (with_reducible refine tab_alloc ?_ _) | (with_reducible refine tab_drewN ?_ _) | (with_reducible refine tab_drew ?_) | (with_reducible refine tab_set ?_ ?_ _) | go_size))) bw4)
      have lw4_0 : w1.heap.size < w4.heap.size := (by go_size)
      have zw4_w1H : CellsAt w4 (w1.heap.size) 0 [.int .i64 y, .int .i64 m, .int .i64 d, .int .i64 h, .int .i64 i, .int .i64 s, .int .i64 u, .int .i64 o] := cells_keep (by (simp only [CellsAt]; (first | (go_simp; done) | ((repeat' (with_reducible refine And.intro ?_ ?_)) <;> (repeat' (first | (with_reducible assumption) | (with_reducible exact trivial) | (with_reducible refine kA _ ?_) | (with_reducible refine kD ?_) | (with_reducible refine kS _ ?_ ?_) | (with_reducible refine fA _ ?_ ?_) | (with_reducible refine fD ?_) | (with_reducible refine fS _ ?_) | go_size | (go_simp; done))))))) (fun o => bw4.cell (p := ⟨_, o, none⟩) (by go_size)) (fun o => bw4.frozen (p := ⟨_, o, none⟩) (by go_size))
      have lw4_1 : w1.heap.size+1 < w4.heap.size := (by go_size)
      have zw4_w1H1 : CellsAt w4 (w1.heap.size+1) 0 [.int .i64 (y'), .int .i64 (m'), .int .i64 (d'), .int .i64 (h'), .int .i64 (i'), .int .i64 (s'), .int .i64 (u'), .int .i64 (o')] := cells_keep (by (simp only [CellsAt]; (first | (go_simp; done) | ((repeat' (with_reducible refine And.intro ?_ ?_)) <;> (repeat' (first | (with_reducible assumption) | (with_reducible exact trivial) | (with_reducible refine kA _ ?_) | (with_reducible refine kD ?_) | (with_reducible refine kS _ ?_ ?_) | (with_reducible refine fA _ ?_ ?_) | (with_reducible refine fD ?_) | (with_reducible refine fS _ ?_) | go_size | (go_simp; done))))))) (fun o => bw4.cell (p := ⟨_, o, none⟩) (by go_size)) (fun o => bw4.frozen (p := ⟨_, o, none⟩) (by go_size))
      have lw4_2 : w1.heap.size+2 < w4.heap.size := (by go_size)
      have zw4_w1H2 : CellsAt w4 (w1.heap.size+2) 0 [.int .i64 Y, .int .i64 M, .int .i64 D, .int .i64 H, .int .i64 I, .int .i64 S, .int .i64 U, .int .i64 O] := cells_keep (by (simp only [CellsAt]; (first | (go_simp; done) | ((repeat' (with_reducible refine And.intro ?_ ?_)) <;> (repeat' (first | (with_reducible assumption) | (with_reducible exact trivial) | (with_reducible refine kA _ ?_) | (with_reducible refine kD ?_) | (with_reducible refine kS _ ?_ ?_) | (with_reducible refine fA _ ?_ ?_) | (with_reducible refine fD ?_) | (with_reducible refine fS _ ?_) | go_size | (go_simp; done))))))) (fun o => bw4.cell (p := ⟨_, o, none⟩) (by go_size)) (fun o => bw4.frozen (p := ⟨_, o, none⟩) (by go_size))
      simp only [CellsAt] at zw4_w1H
      simp only [CellsAt] at zw4_w1H1
      simp only [CellsAt] at zw4_w1H2
      clear zw3_w1H zw3_w1H1 zw3_w1H2
      clear bw4
      go_wp2_with fail
      go_ret
      exact ⟨ret_bool (by simp), by (repeat' (first | (with_reducible assumption) | (with_reducible exact Below.refl _ _) | (with_reducible refine bdN ?_ _) | (with_reducible refine Below.alloc ?_ ?_ _) | (with_reducible refine Below.drew ?_) | (with_reducible refine Below.setCell ?_ ?_ _) | go_size))⟩
    · go_wp2_with fail
      refine (VA.out _).mono ?_
      rintro e w4 ⟨rfl, bw4⟩
      have sw4 := bw4.size
      (try simp at sw4)
      have Aw4 : Below w.heap.size w w4 := Below.trans (by (repeat' (first | (with_reducible assumption) | (with_reducible exact Below.refl _ _) | (with_reducible refine bdN ?_ _) | (with_reducible refine Below.alloc ?_ ?_ _) | (with_reducible refine Below.drew ?_) | (with_reducible refine Below.setCell ?_ ?_ _) | go_size))) (bw4.mono (by go_size))
      have Tw4 := Lib.hid (tab_keep (by (repeat' (first | (with_reducible exact Tw3.out) | (with_reducible assumption) | (with_reducible refine tab_alloc ?_ _) | (with_reducible refine tab_drewN ?_ _) | (with_reducible refine tab_drew ?_) | (with_reducible refine tab_set ?_ ?_ _) | go_size))) bw4)
      have lw4_0 : w1.heap.size < w4.heap.size := (by go_size)
      have zw4_w1H : CellsAt w4 (w1.heap.size) 0 [.int .i64 y, .int .i64 m, .int .i64 d, .int .i64 h, .int .i64 i, .int .i64 s, .int .i64 u, .int .i64 o] := cells_keep (by (simp only [CellsAt]; (first | (go_simp; done) | ((repeat' (with_reducible refine And.intro ?_ ?_)) <;> (repeat' (first | (with_reducible assumption) | (with_reducible exact trivial) | (with_reducible refine kA _ ?_) | (with_reducible refine kD ?_) | (with_reducible refine kS _ ?_ ?_) | (with_reducible refine fA _ ?_ ?_) | (with_reducible refine fD ?_) | (with_reducible refine fS _ ?_) | go_size | (go_simp; done))))))) (fun o => bw4.cell (p := ⟨_, o, none⟩) (by go_size)) (fun o => bw4.frozen (p := ⟨_, o, none⟩) (by go_size))
      have lw4_1 : w1.heap.size+1 < w4.heap.size := (by go_size)
      have zw4_w1H1 : CellsAt w4 (w1.heap.size+1) 0 [.int .i64 (y'), .int .i64 (m'), .int .i64 (d'), .int .i64 (h'), .int .i64 (i'), .int .i64 (s'), .int .i64 (u'), .int .i64 (o')] := cells_keep (by (simp only [CellsAt]; (first | (go_simp; done) | ((repeat' (with_reducible refine And.intro ?_ ?_)) <;> (repeat' (first | (with_reducible assumption) | (with_reducible exact trivial) | (with_reducible refine kA _ ?_) | (with_reducible refine kD ?_) | (with_reducible refine kS _ ?_ ?_) | (with_reducible refine fA _ ?_ ?_) | (with_reducible refine fD ?_) | (with_reducible refine fS _ ?_) | go_size | (go_simp; done))))))) (fun o => bw4.cell (p := ⟨_, o, none⟩) (by go_size)) (fun o => bw4.frozen (p := ⟨_, o, none⟩) (by go_size))
      have lw4_2 : w1.heap.size+2 < w4.heap.size := (by go_size)
      have zw4_w1H2 : CellsAt w4 (w1.heap.size+2) 0 [.int .i64 Y, .int .i64 M, .int .i64 D, .int .i64 H, .int .i64 I, .int .i64 S, .int .i64 U, .int .i64 O] := cells_keep (by (simp only [CellsAt]; (first | (go_simp; done) | ((repeat' (with_reducible refine And.intro ?_ ?_)) <;> (repeat' (first | (with_reducible assumption) | (with_reducible exact trivial) | (with_reducible refine kA _ ?_) | (with_reducible refine kD ?_) | (with_reducible refine kS _ ?_ ?_) | (with_reducible refine fA _ ?_ ?_) | (with_reducible refine fD ?_) | (with_reducible refine fS _ ?_) | go_size | (go_simp; done))))))) (fun o => bw4.cell (p := ⟨_, o, none⟩) (by go_size)) (fun o => bw4.frozen (p := ⟨_, o, none⟩) (by go_size))
      simp only [CellsAt] at zw4_w1H
      simp only [CellsAt] at zw4_w1H1
      simp only [CellsAt] at zw4_w1H2
      clear zw3_w1H zw3_w1H1 zw3_w1H2
      clear bw4
      cases vb
      · go_wp2_with fail
        refine (VB.out _).mono ?_
        rintro e w5 ⟨rfl, bw5⟩
        have sw5 := bw5.size
        (try simp at sw5)
        have Aw5 : Below w.heap.size w w5 := Below.trans (by (repeat' (first | (with_reducible assumption) | (with_reducible exact Below.refl _ _) | (with_reducible refine bdN ?_ _) | (with_reducible refine Below.alloc ?_ ?_ _) | (with_reducible refine Below.drew ?_) | (with_reducible refine Below.setCell ?_ ?_ _) | go_size))) (bw5.mono (by go_size))
        have Tw5 := Lib.hid (tab_keep (by (repeat' (first | (with_reducible exact Tw4.out) | (with_reducible assumption) | (with_reducible refine tab_alloc ?_ _) | (with_reducible refine tab_drewN ?_ _) | (with_reducible refine tab_drew ?_) | (with_reducible refine tab_set ?_ ?_ _) | go_size))) bw5)
        have lw5_0 : w1.heap.size < w5.heap.size := (by go_size)
        have zw5_w1H : CellsAt w5 (w1.heap.size) 0 [.int .i64 y, .int .i64 m, .int .i64 d, .int .i64 h, .int .i64 i, .int .i64 s, .int .i64 u, .int .i64 o] := cells_keep (by (simp only [CellsAt]; (first | (go_simp; done) | ((repeat' (with_reducible refine And.intro ?_ ?_)) <;> (repeat' (first | (with_reducible assumption) | (with_reducible exact trivial) | (with_reducible refine kA _ ?_) | (with_reducible refine kD ?_) | (with_reducible refine kS _ ?_ ?_) | (with_reducible refine fA _ ?_ ?_) | (with_reducible refine fD ?_) | (with_reducible refine fS _ ?_) | go_size | (go_simp; done))))))) (fun o => bw5.cell (p := ⟨_, o, none⟩) (by go_size)) (fun o => bw5.frozen (p := ⟨_, o, none⟩) (by go_size))
        have lw5_1 : w1.heap.size+1 < w5.heap.size := (by go_size)
        have zw5_w1H1 : CellsAt w5 (w1.heap.size+1) 0 [.int .i64 (y'), .int .i64 (m'), .int .i64 (d'), .int .i64 (h'), .int .i64 (i'), .int .i64 (s'), .int .i64 (u'), .int .i64 (o')] := cells_keep (by (simp only [CellsAt]; (first | (go_simp; done) | ((repeat' (with_reducible refine And.intro ?_ ?_)) <;> (repeat' (first | (with_reducible assumption) | (with_reducible exact trivial) | (with_reducible refine kA _ ?_) | (with_reducible refine kD ?_) | (with_reducible refine kS _ ?_ ?_) | (with_reducible refine fA _ ?_ ?_) | (with_reducible refine fD ?_) | (with_reducible refine fS _ ?_) | go_size | (go_simp; done))))))) (fun o => bw5.cell (p := ⟨_, o, none⟩) (by go_size)) (fun o => bw5.frozen (p := ⟨_, o, none⟩) (by go_size))
        have lw5_2 : w1.heap.size+2 < w5.heap.size := (by go_size)
        have zw5_w1H2 : CellsAt w5 (w1.heap.size+2) 0 [.int .i64 Y, .int .i64 M, .int .i64 D, .int .i64 H, .int .i64 I, .int .i64 S, .int .i64 U, .int .i64 O] := cells_keep (by (simp only [CellsAt]; (first | (go_simp; done) | ((repeat' (with_reducible refine And.intro ?_ ?_)) <;> (repeat' (first | (with_reducible assumption) | (with_reducible exact trivial) | (with_reducible refine kA _ ?_) | (with_reducible refine kD ?_) | (with_reducible refine kS _ ?_ ?_) | (with_reducible refine fA _ ?_ ?_) | (with_reducible refine fD ?_) | (with_reducible refine fS _ ?_) | go_size | (go_simp; done))))))) (fun o => bw5.cell (p := ⟨_, o, none⟩) (by go_size)) (fun o => bw5.frozen (p := ⟨_, o, none⟩) (by go_size))
        simp only [CellsAt] at zw5_w1H
        simp only [CellsAt] at zw5_w1H1
        simp only [CellsAt] at zw5_w1H2
        clear zw4_w1H zw4_w1H1 zw4_w1H2
        clear bw5
        go_wp2_with fail
        go_ret
        exact ⟨ret_bool (by simp), by (repeat' (first | (with_reducible assumption) | (with_reducible exact Below.refl _ _) | (with_reducible refine bdN ?_ _) | (with_reducible refine Below.alloc ?_ ?_ _) | (with_reducible refine Below.drew ?_) | (with_reducible refine Below.setCell ?_ ?_ _) | go_size))⟩
      · go_wp2_with fail
        refine (VB.out _).mono ?_
        rintro e w5 ⟨rfl, bw5⟩
        have sw5 := bw5.size
        (try simp at sw5)
        have Aw5 : Below w.heap.size w w5 := Below.trans (by (repeat' (first | (with_reducible assumption) | (with_reducible exact Below.refl _ _) | (with_reducible refine bdN ?_ _) | (with_reducible refine Below.alloc ?_ ?_ _) | (with_reducible refine Below.drew ?_) | (with_reducible refine Below.setCell ?_ ?_ _) | go_size))) (bw5.mono (by go_size))
        have Tw5 := Lib.hid (tab_keep (by (repeat' (first | (with_reducible exact Tw4.out) | (with_reducible assumption) | (with_reducible refine tab_alloc ?_ _) | (with_reducible refine tab_drewN ?_ _) | (with_reducible refine tab_drew ?_) | (with_reducible refine tab_set ?_ ?_ _) | go_size))) bw5)
        have lw5_0 : w1.heap.size < w5.heap.size := (by go_size)
        have zw5_w1H : CellsAt w5 (w1.heap.size) 0 [.int .i64 y, .int .i64 m, .int .i64 d, .int .i64 h, .int .i64 i, .int .i64 s, .int .i64 u, .int .i64 o] := cells_keep (by (simp only [CellsAt]; (first | (go_simp; done) | ((repeat' (with_reducible refine And.intro ?_ ?_)) <;> (repeat' (first | (with_reducible assumption) | (with_reducible exact trivial) | (with_reducible refine kA _ ?_) | (with_reducible refine kD ?_) | (with_reducible refine kS _ ?_ ?_) | (with_reducible refine fA _ ?_ ?_) | (with_reducible refine fD ?_) | (with_reducible refine fS _ ?_) | go_size | (go_simp; done))))))) (fun o => bw5.cell (p := ⟨_, o, none⟩) (by go_size)) (fun o => bw5.frozen (p := ⟨_, o, none⟩) (by go_size))
        have lw5_1 : w1.heap.size+1 < w5.heap.size := (by go_size)
        have zw5_w1H1 : CellsAt w5 (w1.heap.size+1) 0 [.int .i64 (y'), .int .i64 (m'), .int .i64 (d'), .int .i64 (h'), .int .i64 (i'), .int .i64 (s'), .int .i64 (u'), .int .i64 (o')] := cells_keep (by (simp only [CellsAt]; (first | (go_simp; done) | ((repeat' (with_reducible refine And.intro ?_ ?_)) <;> (repeat' (first | (with_reducible assumption) | (with_reducible exact trivial) | (with_reducible refine kA _ ?_) | (with_reducible refine kD ?_) | (with_reducible refine kS _ ?_ ?_) | (with_reducible refine fA _ ?_ ?_) | (with_reducible refine fD ?_) | (with_reducible refine fS _ ?_) | go_size | (go_simp; done))))))) (fun o => bw5.cell (p := ⟨_, o, none⟩) (by go_size)) (fun o => bw5.frozen (p := ⟨_, o, none⟩) (by go_size))
        have lw5_2 : w1.heap.size+2 < w5.heap.size := (by go_size)
        have zw5_w1H2 : CellsAt w5 (w1.heap.size+2) 0 [.int .i64 Y, .int .i64 M, .int .i64 D, .int .i64 H, .int .i64 I, .int .i64 S, .int .i64 U, .int .i64 O] := cells_keep (by (simp only [CellsAt]; (first | (go_simp; done) | ((repeat' (with_reducible refine And.intro ?_ ?_)) <;> (repeat' (first | (with_reducible assumption) | (with_reducible exact trivial) | (with_reducible refine kA _ ?_) | (with_reducible refine kD ?_) | (with_reducible refine kS _ ?_ ?_) | (with_reducible refine fA _ ?_ ?_) | (with_reducible refine fD ?_) | (with_reducible refine fS _ ?_) | go_size | (go_simp; done))))))) (fun o => bw5.cell (p := ⟨_, o, none⟩) (by go_size)) (fun o => bw5.frozen (p := ⟨_, o, none⟩) (by go_size))
        simp only [CellsAt] at zw5_w1H
        simp only [CellsAt] at zw5_w1H1
        simp only [CellsAt] at zw5_w1H2
        clear zw4_w1H zw4_w1H1 zw4_w1H2
        clear bw5
        cases vx
        · go_wp2_with fail
          refine (VX.out _).mono ?_
          rintro e w6 ⟨rfl, bw6⟩
          have sw6 := bw6.size
          (try simp at sw6)
          have Aw6 : Below w.heap.size w w6 := Below.trans (by (repeat' (first | (with_reducible assumption) | (with_reducible exact Below.refl _ _) | (with_reducible refine bdN ?_ _) | (with_reducible refine Below.alloc ?_ ?_ _) | (with_reducible refine Below.drew ?_) | (with_reducible refine Below.setCell ?_ ?_ _) | go_size))) (bw6.mono (by go_size))
          have Tw6 := Lib.hid (tab_keep (by (repeat' (first | (with_reducible exact Tw5.out) | (with_reducible assumption) | (with_reducible refine tab_alloc ?_ _) | (with_reducible refine tab_drewN ?_ _) | (with_reducible refine tab_drew ?_) | (with_reducible refine tab_set ?_ ?_ _) | go_size))) bw6)
          have lw6_0 : w1.heap.size < w6.heap.size := (by go_size)
          have zw6_w1H : CellsAt w6 (w1.heap.size) 0 [.int .i64 y, .int .i64 m, .int .i64 d, .int .i64 h, .int .i64 i, .int .i64 s, .int .i64 u, .int .i64 o] := cells_keep (by (simp only [CellsAt]; (first | (go_simp; done) | ((repeat' (with_reducible refine And.intro ?_ ?_)) <;> (repeat' (first | (with_reducible assumption) | (with_reducible exact trivial) | (with_reducible refine kA _ ?_) | (with_reducible refine kD ?_) | (with_reducible refine kS _ ?_ ?_) | (with_reducible refine fA _ ?_ ?_) | (with_reducible refine fD ?_) | (with_reducible refine fS _ ?_) | go_size | (go_simp; done))))))) (fun o => bw6.cell (p := ⟨_, o, none⟩) (by go_size)) (fun o => bw6.frozen (p := ⟨_, o, none⟩) (by go_size))
          have lw6_1 : w1.heap.size+1 < w6.heap.size := (by go_size)
          have zw6_w1H1 : CellsAt w6 (w1.heap.size+1) 0 [.int .i64 (y'), .int .i64 (m'), .int .i64 (d'), .int .i64 (h'), .int .i64 (i'), .int .i64 (s'), .int .i64 (u'), .int .i64 (o')] := cells_keep (by (simp only [CellsAt]; (first | (go_simp; done) | ((repeat' (with_reducible refine And.intro ?_ ?_)) <;> (repeat' (first | (with_reducible assumption) | (with_reducible exact trivial) | (with_reducible refine kA _ ?_) | (with_reducible refine kD ?_) | (with_reducible refine kS _ ?_ ?_) | (with_reducible refine fA _ ?_ ?_) | (with_reducible refine fD ?_) | (with_reducible refine fS _ ?_) | go_size | (go_simp; done))))))) (fun o => bw6.cell (p := ⟨_, o, none⟩) (by go_size)) (fun o => bw6.frozen (p := ⟨_, o, none⟩) (by go_size))
          have lw6_2 : w1.heap.size+2 < w6.heap.size := (by go_size)
          have zw6_w1H2 : CellsAt w6 (w1.heap.size+2) 0 [.int .i64 Y, .int .i64 M, .int .i64 D, .int .i64 H, .int .i64 I, .int .i64 S, .int .i64 U, .int .i64 O] := cells_keep (by (simp only [CellsAt]; (first | (go_simp; done) | ((repeat' (with_reducible refine And.intro ?_ ?_)) <;> (repeat' (first | (with_reducible assumption) | (with_reducible exact trivial) | (with_reducible refine kA _ ?_) | (with_reducible refine kD ?_) | (with_reducible refine kS _ ?_ ?_) | (with_reducible refine fA _ ?_ ?_) | (with_reducible refine fD ?_) | (with_reducible refine fS _ ?_) | go_size | (go_simp; done))))))) (fun o => bw6.cell (p := ⟨_, o, none⟩) (by go_size)) (fun o => bw6.frozen (p := ⟨_, o, none⟩) (by go_size))
          simp only [CellsAt] at zw6_w1H
          simp only [CellsAt] at zw6_w1H1
          simp only [CellsAt] at zw6_w1H2
          clear zw5_w1H zw5_w1H1 zw5_w1H2
          clear bw6
          go_wp2_with fail
          go_ret
          exact ⟨ret_bool (by simp), by (repeat' (first | (with_reducible assumption) | (with_reducible exact Below.refl _ _) | (with_reducible refine bdN ?_ _) | (with_reducible refine Below.alloc ?_ ?_ _) | (with_reducible refine Below.drew ?_) | (with_reducible refine Below.setCell ?_ ?_ _) | go_size))⟩
        · have hW := W.out (by trivial) (by trivial) (by trivial)
          have HW := Lib.hid hW
          clear W hW
          go_wp2_with fail
          refine (VX.out _).mono ?_
          rintro e w6 ⟨rfl, bw6⟩
          have sw6 := bw6.size
          (try simp at sw6)
          have Aw6 : Below w.heap.size w w6 := Below.trans (by (repeat' (first | (with_reducible assumption) | (with_reducible exact Below.refl _ _) | (with_reducible refine bdN ?_ _) | (with_reducible refine Below.alloc ?_ ?_ _) | (with_reducible refine Below.drew ?_) | (with_reducible refine Below.setCell ?_ ?_ _) | go_size))) (bw6.mono (by go_size))
          have Tw6 := Lib.hid (tab_keep (by (repeat' (first | (with_reducible exact Tw5.out) | (with_reducible assumption) | (with_reducible refine tab_alloc ?_ _) | (with_reducible refine tab_drewN ?_ _) | (with_reducible refine tab_drew ?_) | (with_reducible refine tab_set ?_ ?_ _) | go_size))) bw6)
          have lw6_0 : w1.heap.size < w6.heap.size := (by go_size)
          have zw6_w1H : CellsAt w6 (w1.heap.size) 0 [.int .i64 y, .int .i64 m, .int .i64 d, .int .i64 h, .int .i64 i, .int .i64 s, .int .i64 u, .int .i64 o] := cells_keep (by (simp only [CellsAt]; (first | (go_simp; done) | ((repeat' (with_reducible refine And.intro ?_ ?_)) <;> (repeat' (first | (with_reducible assumption) | (with_reducible exact trivial) | (with_reducible refine kA _ ?_) | (with_reducible refine kD ?_) | (with_reducible refine kS _ ?_ ?_) | (with_reducible refine fA _ ?_ ?_) | (with_reducible refine fD ?_) | (with_reducible refine fS _ ?_) | go_size | (go_simp; done))))))) (fun o => bw6.cell (p := ⟨_, o, none⟩) (by go_size)) (fun o => bw6.frozen (p := ⟨_, o, none⟩) (by go_size))
          have lw6_1 : w1.heap.size+1 < w6.heap.size := (by go_size)
          have zw6_w1H1 : CellsAt w6 (w1.heap.size+1) 0 [.int .i64 (y'), .int .i64 (m'), .int .i64 (d'), .int .i64 (h'), .int .i64 (i'), .int .i64 (s'), .int .i64 (u'), .int .i64 (o')] := cells_keep (by (simp only [CellsAt]; (first | (go_simp; done) | ((repeat' (with_reducible refine And.intro ?_ ?_)) <;> (repeat' (first | (with_reducible assumption) | (with_reducible exact trivial) | (with_reducible refine kA _ ?_) | (with_reducible refine kD ?_) | (with_reducible refine kS _ ?_ ?_) | (with_reducible refine fA _ ?_ ?_) | (with_reducible refine fD ?_) | (with_reducible refine fS _ ?_) | go_size | (go_simp; done))))))) (fun o => bw6.cell (p := ⟨_, o, none⟩) (by go_size)) (fun o => bw6.frozen (p := ⟨_, o, none⟩) (by go_size))
          have lw6_2 : w1.heap.size+2 < w6.heap.size := (by go_size)
          have zw6_w1H2 : CellsAt w6 (w1.heap.size+2) 0 [.int .i64 Y, .int .i64 M, .int .i64 D, .int .i64 H, .int .i64 I, .int .i64 S, .int .i64 U, .int .i64 O] := cells_keep (by (simp only [CellsAt]; (first | (go_simp; done) | ((repeat' (with_reducible refine And.intro ?_ ?_)) <;> (repeat' (first | (with_reducible assumption) | (with_reducible exact trivial) | (with_reducible refine kA _ ?_) | (with_reducible refine kD ?_) | (with_reducible refine kS _ ?_ ?_) | (with_reducible refine fA _ ?_ ?_) | (with_reducible refine fD ?_) | (with_reducible refine fS _ ?_) | go_size | (go_simp; done))))))) (fun o => bw6.cell (p := ⟨_, o, none⟩) (by go_size)) (fun o => bw6.frozen (p := ⟨_, o, none⟩) (by go_size))
          simp only [CellsAt] at zw6_w1H
          simp only [CellsAt] at zw6_w1H1
          simp only [CellsAt] at zw6_w1H2
          clear zw5_w1H zw5_w1H1 zw5_w1H2
          clear bw6
          go_wp2_with fail
          refine (L1.out _ (by (repeat' (first | (with_reducible exact Tw6.out) | (with_reducible assumption) | (with_reducible refine tab_alloc ?_ _) | (with_reducible refine tab_drewN ?_ _) | (with_reducible refine tab_drew ?_) | (with_reducible refine tab_set ?_ ?_ _) | go_size)))).mono ?_
          rintro e w7 ⟨rfl, bw7⟩
          have sw7 := bw7.size
          (try simp at sw7)
          have Aw7 : Below w.heap.size w w7 := Below.trans (by (repeat' (first | (with_reducible assumption) | (with_reducible exact Below.refl _ _) | (with_reducible refine bdN ?_ _) | (with_reducible refine Below.alloc ?_ ?_ _) | (with_reducible refine Below.drew ?_) | (with_reducible refine Below.setCell ?_ ?_ _) | go_size))) (bw7.mono (by go_size))
          have Tw7 := Lib.hid (tab_keep (by (repeat' (first | (with_reducible exact Tw6.out) | (with_reducible assumption) | (with_reducible refine tab_alloc ?_ _) | (with_reducible refine tab_drewN ?_ _) | (with_reducible refine tab_drew ?_) | (with_reducible refine tab_set ?_ ?_ _) | go_size))) bw7)
          have lw7_0 : w1.heap.size < w7.heap.size := (by go_size)
          have zw7_w1H : CellsAt w7 (w1.heap.size) 0 [.int .i64 y, .int .i64 m, .int .i64 d, .int .i64 h, .int .i64 i, .int .i64 s, .int .i64 u, .int .i64 o] := cells_keep (by (simp only [CellsAt]; (first | (go_simp; done) | ((repeat' (with_reducible refine And.intro ?_ ?_)) <;> (repeat' (first | (with_reducible assumption) | (with_reducible exact trivial) | (with_reducible refine kA _ ?_) | (with_reducible refine kD ?_) | (with_reducible refine kS _ ?_ ?_) | (with_reducible refine fA _ ?_ ?_) | (with_reducible refine fD ?_) | (with_reducible refine fS _ ?_) | go_size | (go_simp; done))))))) (fun o => bw7.cell (p := ⟨_, o, none⟩) (by go_size)) (fun o => bw7.frozen (p := ⟨_, o, none⟩) (by go_size))
          have lw7_1 : w1.heap.size+1 < w7.heap.size := (by go_size)
          have zw7_w1H1 : CellsAt w7 (w1.heap.size+1) 0 [.int .i64 (y'), .int .i64 (m'), .int .i64 (d'), .int .i64 (h'), .int .i64 (i'), .int .i64 (s'), .int .i64 (u'), .int .i64 (o')] := cells_keep (by (simp only [CellsAt]; (first | (go_simp; done) | ((repeat' (with_reducible refine And.intro ?_ ?_)) <;> (repeat' (first | (with_reducible assumption) | (with_reducible exact trivial) | (with_reducible refine kA _ ?_) | (with_reducible refine kD ?_) | (with_reducible refine kS _ ?_ ?_) | (with_reducible refine fA _ ?_ ?_) | (with_reducible refine fD ?_) | (with_reducible refine fS _ ?_) | go_size | (go_simp; done))))))) (fun o => bw7.cell (p := ⟨_, o, none⟩) (by go_size)) (fun o => bw7.frozen (p := ⟨_, o, none⟩) (by go_size))
          have lw7_2 : w1.heap.size+2 < w7.heap.size := (by go_size)
          have zw7_w1H2 : CellsAt w7 (w1.heap.size+2) 0 [.int .i64 Y, .int .i64 M, .int .i64 D, .int .i64 H, .int .i64 I, .int .i64 S, .int .i64 U, .int .i64 O] := cells_keep (by (simp only [CellsAt]; (first | (go_simp; done) | ((repeat' (with_reducible refine And.intro ?_ ?_)) <;> (repeat' (first | (with_reducible assumption) | (with_reducible exact trivial) | (with_reducible refine kA _ ?_) | (with_reducible refine kD ?_) | (with_reducible refine kS _ ?_ ?_) | (with_reducible refine fA _ ?_ ?_) | (with_reducible refine fD ?_) | (with_reducible refine fS _ ?_) | go_size | (go_simp; done))))))) (fun o => bw7.cell (p := ⟨_, o, none⟩) (by go_size)) (fun o => bw7.frozen (p := ⟨_, o, none⟩) (by go_size))
          simp only [CellsAt] at zw7_w1H
          simp only [CellsAt] at zw7_w1H1
          simp only [CellsAt] at zw7_w1H2
          clear zw6_w1H zw6_w1H1 zw6_w1H2
          clear bw7
          cases p
          · go_wp2_with fail
            go_ret
            exact ⟨ret_bool (by rw [HW.out]; rfl), by (repeat' (first | (with_reducible assumption) | (with_reducible exact Below.refl _ _) | (with_reducible refine bdN ?_ _) | (with_reducible refine Below.alloc ?_ ?_ _) | (with_reducible refine Below.drew ?_) | (with_reducible refine Below.setCell ?_ ?_ _) | go_size))⟩
          · go_wp2_with fail
            refine (L2.out _ (by (repeat' (first | (with_reducible exact Tw7.out) | (with_reducible assumption) | (with_reducible refine tab_alloc ?_ _) | (with_reducible refine tab_drewN ?_ _) | (with_reducible refine tab_drew ?_) | (with_reducible refine tab_set ?_ ?_ _) | go_size)))).mono ?_
            rintro e w8 ⟨rfl, bw8⟩
            have sw8 := bw8.size
            (try simp at sw8)
            have Aw8 : Below w.heap.size w w8 := Below.trans (by (repeat' (first | (with_reducible assumption) | (with_reducible exact Below.refl _ _) | (with_reducible refine bdN ?_ _) | (with_reducible refine Below.alloc ?_ ?_ _) | (with_reducible refine Below.drew ?_) | (with_reducible refine Below.setCell ?_ ?_ _) | go_size))) (bw8.mono (by go_size))
            have Tw8 := Lib.hid (tab_keep (by (repeat' (first | (with_reducible exact Tw7.out) | (with_reducible assumption) | (with_reducible refine tab_alloc ?_ _) | (with_reducible refine tab_drewN ?_ _) | (with_reducible refine tab_drew ?_) | (with_reducible refine tab_set ?_ ?_ _) | go_size))) bw8)
            have lw8_0 : w1.heap.size < w8.heap.size := (by go_size)
            have zw8_w1H : CellsAt w8 (w1.heap.size) 0 [.int .i64 y, .int .i64 m, .int .i64 d, .int .i64 h, .int .i64 i, .int .i64 s, .int .i64 u, .int .i64 o] := cells_keep (by (simp only [CellsAt]; (first | (go_simp; done) | ((repeat' (with_reducible refine And.intro ?_ ?_)) <;> (repeat' (first | (with_reducible assumption) | (with_reducible exact trivial) | (with_reducible refine kA _ ?_) | (with_reducible refine kD ?_) | (with_reducible refine kS _ ?_ ?_) | (with_reducible refine fA _ ?_ ?_) | (with_reducible refine fD ?_) | (with_reducible refine fS _ ?_) | go_size | (go_simp; done))))))) (fun o => bw8.cell (p := ⟨_, o, none⟩) (by go_size)) (fun o => bw8.frozen (p := ⟨_, o, none⟩) (by go_size))
            have lw8_1 : w1.heap.size+1 < w8.heap.size := (by go_size)
            have zw8_w1H1 : CellsAt w8 (w1.heap.size+1) 0 [.int .i64 (y'), .int .i64 (m'), .int .i64 (d'), .int .i64 (h'), .int .i64 (i'), .int .i64 (s'), .int .i64 (u'), .int .i64 (o')] := cells_keep (by (simp only [CellsAt]; (first | (go_simp; done) | ((repeat' (with_reducible refine And.intro ?_ ?_)) <;> (repeat' (first | (with_reducible assumption) | (with_reducible exact trivial) | (with_reducible refine kA _ ?_) | (with_reducible refine kD ?_) | (with_reducible refine kS _ ?_ ?_) | (with_reducible refine fA _ ?_ ?_) | (with_reducible refine fD ?_) | (with_reducible refine fS _ ?_) | go_size | (go_simp; done))))))) (fun o => bw8.cell (p := ⟨_, o, none⟩) (by go_size)) (fun o => bw8.frozen (p := ⟨_, o, none⟩) (by go_size))
            have lw8_2 : w1.heap.size+2 < w8.heap.size := (by go_size)
            have zw8_w1H2 : CellsAt w8 (w1.heap.size+2) 0 [.int .i64 Y, .int .i64 M, .int .i64 D, .int .i64 H, .int .i64 I, .int .i64 S, .int .i64 U, .int .i64 O] := cells_keep (by (simp only [CellsAt]; (first | (go_simp; done) | ((repeat' (with_reducible refine And.intro ?_ ?_)) <;> (repeat' (first | (with_reducible assumption) | (with_reducible exact trivial) | (with_reducible refine kA _ ?_) | (with_reducible refine kD ?_) | (with_reducible refine kS _ ?_ ?_) | (with_reducible refine fA _ ?_ ?_) | (with_reducible refine fD ?_) | (with_reducible refine fS _ ?_) | go_size | (go_simp; done))))))) (fun o => bw8.cell (p := ⟨_, o, none⟩) (by go_size)) (fun o => bw8.frozen (p := ⟨_, o, none⟩) (by go_size))
            simp only [CellsAt] at zw8_w1H
            simp only [CellsAt] at zw8_w1H1
            simp only [CellsAt] at zw8_w1H2
            clear zw7_w1H zw7_w1H1 zw7_w1H2
            clear bw8
            go_wp2_with fail
            go_ret
            exact ⟨ret_bool (by rw [HW.out]; cases q <;> rfl), by (repeat' (first | (with_reducible assumption) | (with_reducible exact Below.refl _ _) | (with_reducible refine bdN ?_ _) | (with_reducible refine Below.alloc ?_ ?_ _) | (with_reducible refine Below.drew ?_) | (with_reducible refine Below.setCell ?_ ?_ _) | go_size))⟩

theorem own : ownKnob Tryd.prog.godebug = none := by kernel_rfl
theorem laidOut : laidOutB Tryd.prog = true := by kernel_rfl

theorem gTab : Tryd.prog.globalNamed "loop.example/datenotation/impl.monthDays" = some 0 := by kernel_rfl
theorem gTabType : (Tryd.prog.globals[0]?).map (·.type) = some 84 := by kernel_rfl
theorem cellsA : Tryd.prog.cellsOf 84 = 12 := by kernel_rfl
theorem cellsE : Tryd.prog.cellsOf 3 = 1 := by kernel_rfl
theorem table {W : World} (h : laidMetH Tryd.prog Rows.fnSpanHasWhenRow.laid W) : Tab W := by
  have t : Lib.TabIs Tryd.prog W "loop.example/datenotation/impl.monthDays" .i64 [31, 28, 31, 30, 31, 30, 31, 31, 30, 31, 30, 31] := Lib.tabIs_of_head (rest := []) gTab gTabType Tryd.underlying84 Tryd.underlying3 cellsE cellsA h
  refine ⟨World.block_lt_of_cell? _ _ (t.cell gTab 0 (by decide)), fun j hj => ?_⟩
  rw [t.cell gTab j hj]
  have hj12 : j = 0 ∨ j = 1 ∨ j = 2 ∨ j = 3 ∨ j = 4 ∨ j = 5 ∨ j = 6 ∨ j = 7 ∨ j = 8 ∨ j = 9 ∨ j = 10 ∨ j = 11 := by omega
  rcases hj12 with rfl | rfl | rfl | rfl | rfl | rfl | rfl | rfl | rfl | rfl | rfl | rfl <;> rfl

/-- a world for the witness: the settled one, the table holding what its initialiser lays -/
noncomputable def laidWorld (os : Os) : World :=
  { World.holding Tryd.prog os ⟨#[], #[], []⟩ with heap := (World.holding Tryd.prog os ⟨#[], #[], []⟩).heap.modify 0 fun
      | .cells _ t frozen => .cells #[.int .i64 31, .int .i64 28, .int .i64 31, .int .i64 30, .int .i64 31, .int .i64 30, .int .i64 31, .int .i64 31, .int .i64 30, .int .i64 31, .int .i64 30, .int .i64 31] t frozen
      | o => o }
theorem laid_met (os : Os) : laidMet Tryd.prog Rows.fnSpanHasWhenRow.laid ((laidWorld os).forCall (fun _ _ => 0) ⟨#[], #[.slice none 0 0], []⟩).memory :=
  laidMet_of_run' 8 (by kernel_rfl) (by kernel_rfl)
theorem reads (os : Os) {H : Type} (enc : TypeId × Value → H) : ∃ places, DataW.whole enc Tryd.prog ((laidWorld os).forCall (fun _ _ => 0) ⟨#[], #[.slice none 0 0], []⟩).memory Tryd.f7.params.toList Rows.fnSpanHasWhenSpec.vars false (#[.slice none 0 0] : Array Value).toList 8 = some ([.nil], [Rows.laid_loop_example_datenotation_impl_monthDays], places) :=
  ⟨MemPlace.row ⟨0, 0, none⟩ 12, by kernel_rfl⟩

set_option maxRecDepth 100000 in
theorem lifted (os : Os) (started : os.Started) (H : Type) (enc : TypeId × Value → H) (F : Stop.Interp) :
    ReturnsInHanded {} Tryd.checked os 7 .any ((OpenSpec.ofChange Rows.fnSpanHasWhenSpec).preRow enc Tryd.prog Tryd.f7 Rows.fnSpanHasWhenRow.domain false Rows.fnSpanHasWhenRow.laid) (((OpenSpec.ofChange Rows.fnSpanHasWhenSpec).at F).post enc Tryd.prog Tryd.f7 false true false false) := by
  obtain ⟨places, hx⟩ := reads os enc
  refine returnsInHanded_of_row (C := Tryd.checked) (s := OpenSpec.ofChange Rows.fnSpanHasWhenSpec) own started (by kernel_rfl) Tryd.func7
    (witness_row_at (enc := enc) (C := Tryd.checked) false (laidWorld os) #[.slice none 0 0] rfl (by kernel_rfl) (by kernel_rfl) (by kernel_rfl)
      (OpenSpec.preRow_of_cond 8 hx (by kernel_rfl) (fun k hk => by cases hk) (by kernel_rfl) (laid_met os))) ?_
  intro W base args ds gs before hval0 hW _ _ _ hL _ _
  have tab := table hL
  have hval : ∀ (j : Nat) t v, Tryd.f7.params[j]? = some t → args[j]? = some v → Value.okWide Tryd.prog W .any base t v := hval0
  have hW' := hW
  obtain ⟨p, q, hA0, hV, rfl, hfz, hnd⟩ := hW
  have hA : DataW.TrodAll enc Tryd.prog W 0 (fun _ => true) true Tryd.f7.params.toList args.toList ds p := hA0
  rw [Tryd.params7] at hA hval
  obtain ⟨v0, vs0, d0, ds0, p0, q0, hargs, rfl, rfl, h0, r0⟩ := trodAll_cons hA
  obtain ⟨rfl, rfl, rfl⟩ := trodAll_nil r0
  obtain rfl : args = #[v0] := by cases args; simp_all
  obtain ⟨gv, rfl⟩ : ∃ gv, gs = [gv] := by obtain ⟨_, _, _, _, gv, _, hg, _⟩ := trodVars_one hV; exact ⟨gv, hg⟩
  have k0 := h0
  have lt0 : ∀ x ∈ p0, x.block < W.heap.size := by obtain ⟨m, hm⟩ := k0; exact DataW.trod_lt m _ _ _ hm
  obtain ⟨a0, len0, cap0, rfl⟩ := okWide_slice Tryd.underlying37 (hval 0 37 v0 rfl rfl)
  obtain ⟨z0, w0⟩ : ∃ zs, IsRow .u8 W a0 len0 cap0 zs := by
    obtain ⟨fuel, hf⟩ := h0
    rcases open_ints Tryd.underlying37 Tryd.underlying5 (by kernel_rfl) hf with ⟨hcs, _⟩ | ⟨x, l, c, zs, hcs, _, hl, hm, hz, _, hcell, hwz⟩
    · simp [Value.cells] at hcs
      obtain ⟨rfl, rfl, rfl⟩ := hcs
      exact ⟨[], .inl ⟨rfl, rfl, rfl, rfl⟩⟩
    · simp [Value.cells] at hcs
      obtain ⟨rfl, rfl, rfl⟩ := hcs
      exact ⟨zs, .inr ⟨_, rfl, hl, hm, by simpa using hz, hcell, hwz⟩⟩
  clear hA0 hval0
  refine (walk a0 len0 cap0 z0 W tab w0).mono fun e W' ⟨he, bel⟩ => ?_
  subst he
  exact ⟨_, rfl, _, _, _, [], _, _, hW', trodAll_mk1 (shut_bool Tryd.underlying4 _), (trodAll_cons_mk (Below.trod laidOut (by kernel_rfl) (of_decide_eq_true (by kernel_rfl)) k0 bel lt0) trodAll_mk0), Below.trodVars laidOut bel (by kernel_rfl) hV, bel.frame _, fun h => by cases h⟩

theorem said : Rows.FnSpanHasWhenSaid :=
  OpenClaim.holds_of_cond 7 Tryd.f7 rfl rfl rfl rfl rfl rfl rfl ⟨rfl, rfl, rfl, rfl, rfl⟩ rfl rfl rfl rfl rfl (by kernel_rfl) Tryd.func7 (by kernel_rfl)
    (of_decide_eq_true (by kernel_rfl)) (by unfold Func.isWrapper; first | (rw [if_pos (by decide +kernel)]; kernel_rfl) | (rw [if_neg (by decide +kernel)]; exact ⟨rfl, rfl⟩))
    (fun os started H enc _ F => by rw [OpenClaim.pre_eq_preRow]; exact lifted os started H enc F)
set_option maxRecDepth 100000 in
theorem plain (f : FuncId) (fn : Func) (hf : Tryd.pinned.checked.prog.funcNamed "loop.example/datenotation/laws.FnSpanHasWhen" = some f) (hfn : Tryd.pinned.checked.prog.funcs[f]? = some fn) :
    false = Tryd.pinned.checked.prog.looks [] ∧ ∀ (j : Nat) t, fn.params[j]? = some t → Tryd.pinned.checked.prog.wantsStandIn t = false := by
  obtain rfl : f = 7 := Option.some.inj ((show Tryd.prog.funcNamed "loop.example/datenotation/laws.FnSpanHasWhen" = some 7 by kernel_rfl).symm.trans hf) |>.symm
  obtain rfl : fn = Tryd.f7 := (Option.some.inj (Tryd.func7.symm.trans hfn)).symm
  refine ⟨by kernel_rfl, fun j t ht => ?_⟩
  rw [Tryd.params7] at ht
  have s0 : Tryd.prog.wantsStandIn 37 = false := by kernel_rfl
  have hm : t = 37 := by simpa using Array.mem_of_getElem? ht
  rcases hm with rfl
  all_goals first | exact s0

theorem proved : Rows.FnSpanHasWhenCardSaid :=
  Claim7.holds_tied_plain_at .later [] _ _ _ _ said (fun _ h => by cases h) (by kernel_rfl) (fun _ h => by cases h) fnSpanHasWhen_row_tie rfl ⟨rfl, rfl⟩ (by kernel_rfl) rfl plain (by kernel_rfl)
#print axioms proved
end Go.Proofs.YtlfdcdbgjnkddaaDoor.lawSpanHasWhen
