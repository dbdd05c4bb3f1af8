/- What the draws of valid dates, of valid stamps and of two stamps give: only new blocks and the reader's own change. Conditions: the reader stands in memory, few picks have been made. -/
import Derived.Test.YtlfdcdbgjnkddaaDoorDrawStamp
import Derived.Test.YtlfdcdbgjnkddaaDoorStampAt
import Derived.Test.YtlfdcdbgjnkddaaDoorSeal
import Derived.Deep.RegionHeld3
import Derived.RegionTactic
namespace Go.Proofs.YtlfdcdbgjnkddaaDoor
set_option linter.unusedSimpArgs false
set_option linter.unusedVariables false
open Go.RowKit DN

/-- a drawn valid date -/
def DrawnGood (w : World) (r N : Nat) (e : Ending) (w' : World) : Prop := ∃ y m d : Int, vd y m d = true ∧ e = .returned (.agg #[.int .i64 y, .int .i64 m, .int .i64 d]) ∧ Rd w' r N ∧ Onl r w w'

set_option maxHeartbeats 2000000 in
theorem l91Good_any (w : World) (r N : Nat) (hr : Rd w r N) (hN : N ≤ 70000) : Calls Tryd.prog 54 #[.pointer (some ⟨r, 0, none⟩)] w (DrawnGood w r (N + 20)) := by
  have hlt := rd_lt hr
  go_enter Tryd.func54, Tryd.ntmps54
  go_wp2_with fail
  refine (l91Date_any _ r N (by (repeat' (first | (with_reducible assumption) | (with_reducible refine rd_alloc ?_ _) | (with_reducible refine rd_drewN ?_ _) | (with_reducible refine rd_drew ?_) | (with_reducible refine rd_set ?_ ?_ _) | go_size))) (by omega)).mono ?_
  rintro e w1 ⟨y, m, d, rfl, Rw1, Gw1⟩
  have sw1 := Gw1.size
  (try simp at sw1)
  have Ow1 : Onl r w w1 := onl_trans (by (repeat' (first | (with_reducible assumption) | (with_reducible exact onl_refl _ _) | (with_reducible refine onl_drewN ?_ _) | (with_reducible refine onl_drew ?_) | (with_reducible refine onl_alloc ?_ _) | (with_reducible refine onl_set ?_ (Or.inr ?_) _) | go_size))) Gw1
  have lw1_0 : w.heap.size < w1.heap.size := (by go_size)
  have zw1_wH : CellsAt w1 (w.heap.size) 0 [.int .i64 0, .int .i64 0, .int .i64 0] := cells_keep (by (simp only [CellsAt]; (first | (go_simp; done) | ((repeat' (with_reducible refine And.intro ?_ ?_)) <;> (repeat' (first | (with_reducible assumption) | (with_reducible exact trivial) | (with_reducible refine kA _ ?_) | (with_reducible refine kD ?_) | (with_reducible refine kS _ ?_ ?_) | (with_reducible refine fA _ ?_ ?_) | (with_reducible refine fD ?_) | (with_reducible refine fS _ ?_) | go_size | (go_simp; done))))))) (fun o => onl_cell Gw1 (by go_size) (by omega) o) (fun o => onl_frozen Gw1 (by go_size) (by omega) o)
  simp only [CellsAt] at zw1_wH
  obtain ⟨b, hb⟩ : ∃ b, vd y m d = b := ⟨_, rfl⟩
  have P := Lib.hid (fun w => vd_sb y m d w b hb)
  have HB := Lib.hid hb
  clear hb
  go_wp2_with fail
  refine (P.out _).mono ?_
  rintro e w2 ⟨rfl, bw2⟩
  have sw2 := bw2.size
  (try simp at sw2)
  have Ow2 : Onl r w w2 := onl_of_below (by (repeat' (first | (with_reducible assumption) | (with_reducible exact onl_refl _ _) | (with_reducible refine onl_drewN ?_ _) | (with_reducible refine onl_drew ?_) | (with_reducible refine onl_alloc ?_ _) | (with_reducible refine onl_set ?_ (Or.inr ?_) _) | go_size))) bw2
  have Rw2 : Rd w2 r (N + 20) := rd_keep (by (repeat' (first | (with_reducible assumption) | (with_reducible refine rd_alloc ?_ _) | (with_reducible refine rd_drewN ?_ _) | (with_reducible refine rd_drew ?_) | (with_reducible refine rd_set ?_ ?_ _) | go_size))) (bw2.mono (by go_size))
  have lw2_0 : w.heap.size < w2.heap.size := (by go_size)
  have zw2_wH : CellsAt w2 (w.heap.size) 0 [.int .i64 0, .int .i64 0, .int .i64 0] := cells_keep (by (simp only [CellsAt]; (first | (go_simp; done) | ((repeat' (with_reducible refine And.intro ?_ ?_)) <;> (repeat' (first | (with_reducible assumption) | (with_reducible exact trivial) | (with_reducible refine kA _ ?_) | (with_reducible refine kD ?_) | (with_reducible refine kS _ ?_ ?_) | (with_reducible refine fA _ ?_ ?_) | (with_reducible refine fD ?_) | (with_reducible refine fS _ ?_) | go_size | (go_simp; done))))))) (fun o => bw2.cell (p := ⟨_, o, none⟩) (by go_size)) (fun o => bw2.frozen (p := ⟨_, o, none⟩) (by go_size))
  have lw2_1 : w1.heap.size < w2.heap.size := (by go_size)
  have zw2_w1H : CellsAt w2 (w1.heap.size) 0 [.int .i64 y, .int .i64 m, .int .i64 d] := cells_keep (by (simp only [CellsAt]; (first | (go_simp; done) | ((repeat' (with_reducible refine And.intro ?_ ?_)) <;> (repeat' (first | (with_reducible assumption) | (with_reducible exact trivial) | (with_reducible refine kA _ ?_) | (with_reducible refine kD ?_) | (with_reducible refine kS _ ?_ ?_) | (with_reducible refine fA _ ?_ ?_) | (with_reducible refine fD ?_) | (with_reducible refine fS _ ?_) | go_size | (go_simp; done))))))) (fun o => bw2.cell (p := ⟨_, o, none⟩) (by go_size)) (fun o => bw2.frozen (p := ⟨_, o, none⟩) (by go_size))
  simp only [CellsAt] at zw2_wH
  simp only [CellsAt] at zw2_w1H
  clear zw1_wH
  clear bw2
  cases b
  · have hz := (by decide : vd 2000 2 29 = true)
    have HZ := Lib.hid hz
    clear hz
    go_wp2_with fail
    exact bodyPost_ret (v := .agg #[.int .i64 2000, .int .i64 2, .int .i64 29]) (by simp [results, Tryd.results54, go_sem, zw2_wH, zw2_w1H, lw2_0, lw2_1]) rfl ⟨_, _, _, HZ.out, rfl, rd_le (N := N + 20) (by (repeat' (first | (with_reducible assumption) | (with_reducible refine rd_alloc ?_ _) | (with_reducible refine rd_drewN ?_ _) | (with_reducible refine rd_drew ?_) | (with_reducible refine rd_set ?_ ?_ _) | go_size))) (by omega), by (repeat' (first | (with_reducible assumption) | (with_reducible exact onl_refl _ _) | (with_reducible refine onl_drewN ?_ _) | (with_reducible refine onl_drew ?_) | (with_reducible refine onl_alloc ?_ _) | (with_reducible refine onl_set ?_ (Or.inr ?_) _) | go_size))⟩
  · go_wp2_with fail
    exact bodyPost_ret (v := .agg #[.int .i64 y, .int .i64 m, .int .i64 d]) (by simp [results, Tryd.results54, go_sem, zw2_wH, zw2_w1H, lw2_0, lw2_1]) rfl ⟨_, _, _, HB.out, rfl, rd_le (N := N + 20) (by (repeat' (first | (with_reducible assumption) | (with_reducible refine rd_alloc ?_ _) | (with_reducible refine rd_drewN ?_ _) | (with_reducible refine rd_drew ?_) | (with_reducible refine rd_set ?_ ?_ _) | go_size))) (by omega), by (repeat' (first | (with_reducible assumption) | (with_reducible exact onl_refl _ _) | (with_reducible refine onl_drewN ?_ _) | (with_reducible refine onl_drew ?_) | (with_reducible refine onl_alloc ?_ _) | (with_reducible refine onl_set ?_ (Or.inr ?_) _) | go_size))⟩

/-- a drawn valid stamp -/
def DrawnSound (w : World) (r N : Nat) (e : Ending) (w' : World) : Prop := ∃ y m d h i s u o : Int, svB y m d h i s u o = true ∧ e = .returned (.agg #[.int .i64 y, .int .i64 m, .int .i64 d, .int .i64 h, .int .i64 i, .int .i64 s, .int .i64 u, .int .i64 o]) ∧ Rd w' r N ∧ Onl r w w'

theorem sound {y m d k : Int} (h : vd y m d = true) (k1 : 0 ≤ k) (k2 : k < 24) : svB y m d k 0 0 0 60 = true := svB_iff.2 ⟨h, cvB_iff.2 (.inr (by omega)), by omega, by omega⟩

set_option maxHeartbeats 2000000 in
theorem l91Sound_any (w : World) (r N : Nat) (hr : Rd w r N) (hN : N ≤ 60000) : Calls Tryd.prog 40 #[.pointer (some ⟨r, 0, none⟩)] w (DrawnSound w r (N + 66)) := by
  have hlt := rd_lt hr
  go_enter Tryd.func40, Tryd.ntmps40
  go_wp2_with fail
  refine (l91Stamp_any _ r N (by (repeat' (first | (with_reducible assumption) | (with_reducible refine rd_alloc ?_ _) | (with_reducible refine rd_drewN ?_ _) | (with_reducible refine rd_drew ?_) | (with_reducible refine rd_set ?_ ?_ _) | go_size))) (by omega)).mono ?_
  rintro e w1 ⟨y, m, d, h, i, s, u, o, rfl, Rw1, Gw1⟩
  have sw1 := Gw1.size
  (try simp at sw1)
  have Ow1 : Onl r w w1 := onl_trans (by (repeat' (first | (with_reducible assumption) | (with_reducible exact onl_refl _ _) | (with_reducible refine onl_drewN ?_ _) | (with_reducible refine onl_drew ?_) | (with_reducible refine onl_alloc ?_ _) | (with_reducible refine onl_set ?_ (Or.inr ?_) _) | go_size))) Gw1
  have lw1_0 : w.heap.size < w1.heap.size := (by go_size)
  have zw1_wH : CellsAt w1 (w.heap.size) 0 [.int .i64 0, .int .i64 0, .int .i64 0, .int .i64 0, .int .i64 0, .int .i64 0, .int .i64 0, .int .i64 0] := cells_keep (by (simp only [CellsAt]; (first | (go_simp; done) | ((repeat' (with_reducible refine And.intro ?_ ?_)) <;> (repeat' (first | (with_reducible assumption) | (with_reducible exact trivial) | (with_reducible refine kA _ ?_) | (with_reducible refine kD ?_) | (with_reducible refine kS _ ?_ ?_) | (with_reducible refine fA _ ?_ ?_) | (with_reducible refine fD ?_) | (with_reducible refine fS _ ?_) | go_size | (go_simp; done))))))) (fun o => onl_cell Gw1 (by go_size) (by omega) o) (fun o => onl_frozen Gw1 (by go_size) (by omega) o)
  simp only [CellsAt] at zw1_wH
  obtain ⟨b, hb⟩ : ∃ b, svB y m d h i s u o = b := ⟨_, rfl⟩
  have P := Lib.hid (fun w => sv_sb y m d h i s u o w b hb)
  have HB := Lib.hid hb
  clear hb
  go_wp2_with fail
  refine (P.out _).mono ?_
  rintro e w2 ⟨rfl, bw2⟩
  have sw2 := bw2.size
  (try simp at sw2)
  have Ow2 : Onl r w w2 := onl_of_below (by (repeat' (first | (with_reducible assumption) | (with_reducible exact onl_refl _ _) | (with_reducible refine onl_drewN ?_ _) | (with_reducible refine onl_drew ?_) | (with_reducible refine onl_alloc ?_ _) | (with_reducible refine onl_set ?_ (Or.inr ?_) _) | go_size))) bw2
  have Rw2 : Rd w2 r (N + 45) := rd_keep (by (repeat' (first | (with_reducible assumption) | (with_reducible refine rd_alloc ?_ _) | (with_reducible refine rd_drewN ?_ _) | (with_reducible refine rd_drew ?_) | (with_reducible refine rd_set ?_ ?_ _) | go_size))) (bw2.mono (by go_size))
  have lw2_0 : w.heap.size < w2.heap.size := (by go_size)
  have zw2_wH : CellsAt w2 (w.heap.size) 0 [.int .i64 0, .int .i64 0, .int .i64 0, .int .i64 0, .int .i64 0, .int .i64 0, .int .i64 0, .int .i64 0] := cells_keep (by (simp only [CellsAt]; (first | (go_simp; done) | ((repeat' (with_reducible refine And.intro ?_ ?_)) <;> (repeat' (first | (with_reducible assumption) | (with_reducible exact trivial) | (with_reducible refine kA _ ?_) | (with_reducible refine kD ?_) | (with_reducible refine kS _ ?_ ?_) | (with_reducible refine fA _ ?_ ?_) | (with_reducible refine fD ?_) | (with_reducible refine fS _ ?_) | go_size | (go_simp; done))))))) (fun o => bw2.cell (p := ⟨_, o, none⟩) (by go_size)) (fun o => bw2.frozen (p := ⟨_, o, none⟩) (by go_size))
  have lw2_1 : w1.heap.size < w2.heap.size := (by go_size)
  have zw2_w1H : CellsAt w2 (w1.heap.size) 0 [.int .i64 y, .int .i64 m, .int .i64 d, .int .i64 h, .int .i64 i, .int .i64 s, .int .i64 u, .int .i64 o] := cells_keep (by (simp only [CellsAt]; (first | (go_simp; done) | ((repeat' (with_reducible refine And.intro ?_ ?_)) <;> (repeat' (first | (with_reducible assumption) | (with_reducible exact trivial) | (with_reducible refine kA _ ?_) | (with_reducible refine kD ?_) | (with_reducible refine kS _ ?_ ?_) | (with_reducible refine fA _ ?_ ?_) | (with_reducible refine fD ?_) | (with_reducible refine fS _ ?_) | go_size | (go_simp; done))))))) (fun o => bw2.cell (p := ⟨_, o, none⟩) (by go_size)) (fun o => bw2.frozen (p := ⟨_, o, none⟩) (by go_size))
  simp only [CellsAt] at zw2_wH
  simp only [CellsAt] at zw2_w1H
  clear zw1_wH
  clear bw2
  cases b
  · clear zw2_w1H
    go_wp2_with fail
    refine (l91Good_any _ r (N + 45) (by (repeat' (first | (with_reducible assumption) | (with_reducible refine rd_alloc ?_ _) | (with_reducible refine rd_drewN ?_ _) | (with_reducible refine rd_drew ?_) | (with_reducible refine rd_set ?_ ?_ _) | go_size))) (by omega)).mono ?_
    rintro e w3 ⟨y', m', d', hv, rfl, Rw3, Gw3⟩
    have sw3 := Gw3.size
    (try simp at sw3)
    have Ow3 : Onl r w w3 := onl_trans (by (repeat' (first | (with_reducible assumption) | (with_reducible exact onl_refl _ _) | (with_reducible refine onl_drewN ?_ _) | (with_reducible refine onl_drew ?_) | (with_reducible refine onl_alloc ?_ _) | (with_reducible refine onl_set ?_ (Or.inr ?_) _) | go_size))) Gw3
    have lw3_0 : w.heap.size < w3.heap.size := (by go_size)
    have zw3_wH : CellsAt w3 (w.heap.size) 0 [.int .i64 0, .int .i64 0, .int .i64 0, .int .i64 0, .int .i64 0, .int .i64 0, .int .i64 0, .int .i64 0] := cells_keep (by (simp only [CellsAt]; (first | (go_simp; done) | ((repeat' (with_reducible refine And.intro ?_ ?_)) <;> (repeat' (first | (with_reducible assumption) | (with_reducible exact trivial) | (with_reducible refine kA _ ?_) | (with_reducible refine kD ?_) | (with_reducible refine kS _ ?_ ?_) | (with_reducible refine fA _ ?_ ?_) | (with_reducible refine fD ?_) | (with_reducible refine fS _ ?_) | go_size | (go_simp; done))))))) (fun o => onl_cell Gw3 (by go_size) (by omega) o) (fun o => onl_frozen Gw3 (by go_size) (by omega) o)
    simp only [CellsAt] at zw3_wH
    clear zw2_wH
    have HV := Lib.hid hv
    clear hv
    go_wp2_with fail
    refine (pick_any _ r (N + 45 + 20) _ (by (repeat' (first | (with_reducible assumption) | (with_reducible refine rd_alloc ?_ _) | (with_reducible refine rd_drewN ?_ _) | (with_reducible refine rd_drew ?_) | (with_reducible refine rd_set ?_ ?_ _) | go_size))) (by omega) (by omega) (by omega)).mono ?_
    rintro e w4 ⟨k, hk1, hk2, rfl, Rw4, Gw4⟩
    have sw4 := Gw4.size
    (try simp at sw4)
    have Ow4 : Onl r w w4 := onl_trans (by (repeat' (first | (with_reducible assumption) | (with_reducible exact onl_refl _ _) | (with_reducible refine onl_drewN ?_ _) | (with_reducible refine onl_drew ?_) | (with_reducible refine onl_alloc ?_ _) | (with_reducible refine onl_set ?_ (Or.inr ?_) _) | go_size))) Gw4
    have lw4_0 : w.heap.size < w4.heap.size := (by go_size)
    have zw4_wH : CellsAt w4 (w.heap.size) 0 [.int .i64 0, .int .i64 0, .int .i64 0, .int .i64 0, .int .i64 0, .int .i64 0, .int .i64 0, .int .i64 0] := cells_keep (by (simp only [CellsAt]; (first | (go_simp; done) | ((repeat' (with_reducible refine And.intro ?_ ?_)) <;> (repeat' (first | (with_reducible assumption) | (with_reducible exact trivial) | (with_reducible refine kA _ ?_) | (with_reducible refine kD ?_) | (with_reducible refine kS _ ?_ ?_) | (with_reducible refine fA _ ?_ ?_) | (with_reducible refine fD ?_) | (with_reducible refine fS _ ?_) | go_size | (go_simp; done))))))) (fun o => onl_cell Gw4 (by go_size) (by omega) o) (fun o => onl_frozen Gw4 (by go_size) (by omega) o)
    simp only [CellsAt] at zw4_wH
    clear zw3_wH
    go_wp2_with fail
    exact bodyPost_ret (v := .agg #[.int .i64 (y'), .int .i64 (m'), .int .i64 (d'), .int .i64 k, .int .i64 0, .int .i64 0, .int .i64 0, .int .i64 60]) (by simp [results, Tryd.results40, go_sem, zw4_wH, lw4_0]) rfl ⟨_, _, _, _, _, _, _, _, sound HV.out hk1 hk2, rfl, rd_le (N := N + 66) (by (repeat' (first | (with_reducible assumption) | (with_reducible refine rd_alloc ?_ _) | (with_reducible refine rd_drewN ?_ _) | (with_reducible refine rd_drew ?_) | (with_reducible refine rd_set ?_ ?_ _) | go_size))) (by omega), by (repeat' (first | (with_reducible assumption) | (with_reducible exact onl_refl _ _) | (with_reducible refine onl_drewN ?_ _) | (with_reducible refine onl_drew ?_) | (with_reducible refine onl_alloc ?_ _) | (with_reducible refine onl_set ?_ (Or.inr ?_) _) | go_size))⟩
  · go_wp2_with fail
    exact bodyPost_ret (v := .agg #[.int .i64 y, .int .i64 m, .int .i64 d, .int .i64 h, .int .i64 i, .int .i64 s, .int .i64 u, .int .i64 o]) (by simp [results, Tryd.results40, go_sem, zw2_wH, zw2_w1H, lw2_0, lw2_1]) rfl ⟨_, _, _, _, _, _, _, _, HB.out, rfl, rd_le (N := N + 45) (by (repeat' (first | (with_reducible assumption) | (with_reducible refine rd_alloc ?_ _) | (with_reducible refine rd_drewN ?_ _) | (with_reducible refine rd_drew ?_) | (with_reducible refine rd_set ?_ ?_ _) | go_size))) (by omega), by (repeat' (first | (with_reducible assumption) | (with_reducible exact onl_refl _ _) | (with_reducible refine onl_drewN ?_ _) | (with_reducible refine onl_drew ?_) | (with_reducible refine onl_alloc ?_ _) | (with_reducible refine onl_set ?_ (Or.inr ?_) _) | go_size))⟩

theorem StampAt_s_any (n o : Int) (w : World) : Calls Tryd.prog 28 #[.int .i64 n, .int .i64 o] w fun e w' => ∃ (Y M D H I S U O : Int) (b : Bool), e = .returned (.tuple #[.agg #[.int .i64 Y, .int .i64 M, .int .i64 D, .int .i64 H, .int .i64 I, .int .i64 S, .int .i64 U, .int .i64 O], .bool b]) ∧ Below w.heap.size w w' := by
  obtain ⟨Y, M, D, H, I, S, U, O, b, hb⟩ := atIs_ex n o
  exact (StampAt_s n o Y M D H I S U O b w hb).mono fun e w' h => ⟨Y, M, D, H, I, S, U, O, b, h⟩

end Go.Proofs.YtlfdcdbgjnkddaaDoor
