/- What the draws of a tag give: two short texts and a bool; only new blocks change. No condition. -/
import Derived.Test.YtbgpdjceofofoaaRdOf
namespace Go.Proofs.Ytbgpdjceofofoaa
set_option linter.unusedSimpArgs false
set_option linter.unusedVariables false
open Go.RowKit

/-- a drawn tag -/
def DrawnTag (w : World) (r N : Nat) (e : Ending) (w' : World) : Prop := ∃ (k v : ByteArray) (c : Bool), (k.size ≤ 16 ∧ v.size ≤ 16) ∧ e = .returned (.agg #[.string k, .string v, .bool c]) ∧ Rd w' r N ∧ Onl r w w'
/-- short texts -/
def shortS (s : ByteArray) : Prop := s.size ≤ 16

set_option maxHeartbeats 4000000 in
theorem l92Tag_any (w : World) (r N : Nat) (z : Bool) (hr : Rd w r N) (hN : N ≤ 80000) : Calls Try.prog 47 #[.pointer (some ⟨r, 0, none⟩), .bool z] w (DrawnTag w r (N + 8)) := by
  have hlt := rd_lt hr
  go_enter Try.func47, Try.ntmps47
  go_wp2_with fail
  refine (of_any _ r N _ 4 _ shortS (by (repeat' (first | (with_reducible assumption) | (with_reducible refine rd_alloc ?_ _) | (with_reducible refine rd_drewN ?_ _) | (with_reducible refine rd_drew ?_) | (with_reducible refine rd_set ?_ ?_ _) | go_size))) (by omega) (by omega) (by omega) (by go_size) (by omega) (by intro i hi; have hi' : i = 0 ∨ i = 1 ∨ i = 2 ∨ i = 3 := (by omega); rcases hi' with rfl | rfl | rfl | rfl <;> exact ⟨_, by go_simp; rfl, by unfold shortS; decide⟩)).mono ?_
  rintro e w1 ⟨k, hk, rfl, Rw1, Gw1⟩
  have sw1 := Gw1.size
  (try simp at sw1)
  have Ow1 : Onl r w w1 := onl_trans (by (repeat' (first | (with_reducible assumption) | (with_reducible exact onl_refl _ _) | (with_reducible refine onl_drewN ?_ _) | (with_reducible refine onl_drew ?_) | (with_reducible refine onl_alloc ?_ _) | (with_reducible refine onl_set ?_ (Or.inr ?_) _) | go_size))) Gw1
  have lw1_0 : w.heap.size < w1.heap.size := (by go_size)
  have zw1_wH : CellsAt w1 (w.heap.size) 0 [.string ⟨#[]⟩, .string ⟨#[]⟩, .bool false] := cells_keep (by (simp only [CellsAt]; (first | (go_simp; done) | ((repeat' (with_reducible refine And.intro ?_ ?_)) <;> (repeat' (first | (with_reducible assumption) | (with_reducible exact trivial) | (with_reducible refine kA _ ?_) | (with_reducible refine kD ?_) | (with_reducible refine kS _ ?_ ?_) | (with_reducible refine fA _ ?_ ?_) | (with_reducible refine fD ?_) | (with_reducible refine fS _ ?_) | go_size | (go_simp; done))))))) (fun o => onl_cell Gw1 (by go_size) (by omega) o) (fun o => onl_frozen Gw1 (by go_size) (by omega) o)
  simp only [CellsAt] at zw1_wH
  have HK := Lib.hid hk
  clear hk
  go_wp2_with fail
  refine (of_any _ r (N + 1) _ 4 _ shortS (by (repeat' (first | (with_reducible assumption) | (with_reducible refine rd_alloc ?_ _) | (with_reducible refine rd_drewN ?_ _) | (with_reducible refine rd_drew ?_) | (with_reducible refine rd_set ?_ ?_ _) | go_size))) (by omega) (by omega) (by omega) (by go_size) (by omega) (by intro i hi; have hi' : i = 0 ∨ i = 1 ∨ i = 2 ∨ i = 3 := (by omega); rcases hi' with rfl | rfl | rfl | rfl <;> exact ⟨_, by go_simp; rfl, by unfold shortS; decide⟩)).mono ?_
  rintro e w2 ⟨v, hv, rfl, Rw2, Gw2⟩
  have sw2 := Gw2.size
  (try simp at sw2)
  have Ow2 : Onl r w w2 := onl_trans (by (repeat' (first | (with_reducible assumption) | (with_reducible exact onl_refl _ _) | (with_reducible refine onl_drewN ?_ _) | (with_reducible refine onl_drew ?_) | (with_reducible refine onl_alloc ?_ _) | (with_reducible refine onl_set ?_ (Or.inr ?_) _) | go_size))) Gw2
  have lw2_0 : w.heap.size < w2.heap.size := (by go_size)
  have zw2_wH : CellsAt w2 (w.heap.size) 0 [.string ⟨#[]⟩, .string ⟨#[]⟩, .bool false] := cells_keep (by (simp only [CellsAt]; (first | (go_simp; done) | ((repeat' (with_reducible refine And.intro ?_ ?_)) <;> (repeat' (first | (with_reducible assumption) | (with_reducible exact trivial) | (with_reducible refine kA _ ?_) | (with_reducible refine kD ?_) | (with_reducible refine kS _ ?_ ?_) | (with_reducible refine fA _ ?_ ?_) | (with_reducible refine fD ?_) | (with_reducible refine fS _ ?_) | go_size | (go_simp; done))))))) (fun o => onl_cell Gw2 (by go_size) (by omega) o) (fun o => onl_frozen Gw2 (by go_size) (by omega) o)
  simp only [CellsAt] at zw2_wH
  clear zw1_wH
  have HV := Lib.hid hv
  clear hv
  go_wp2_with fail
  refine (pick_any _ r (N + 1 + 1) _ (by (repeat' (first | (with_reducible assumption) | (with_reducible refine rd_alloc ?_ _) | (with_reducible refine rd_drewN ?_ _) | (with_reducible refine rd_drew ?_) | (with_reducible refine rd_set ?_ ?_ _) | go_size))) (by omega) (by omega) (by omega)).mono ?_
  rintro e w3 ⟨j, hj1, hj2, rfl, Rw3, Gw3⟩
  have sw3 := Gw3.size
  (try simp at sw3)
  have Ow3 : Onl r w w3 := onl_trans (by (repeat' (first | (with_reducible assumption) | (with_reducible exact onl_refl _ _) | (with_reducible refine onl_drewN ?_ _) | (with_reducible refine onl_drew ?_) | (with_reducible refine onl_alloc ?_ _) | (with_reducible refine onl_set ?_ (Or.inr ?_) _) | go_size))) Gw3
  have lw3_0 : w.heap.size < w3.heap.size := (by go_size)
  have zw3_wH : CellsAt w3 (w.heap.size) 0 [.string ⟨#[]⟩, .string ⟨#[]⟩, .bool false] := cells_keep (by (simp only [CellsAt]; (first | (go_simp; done) | ((repeat' (with_reducible refine And.intro ?_ ?_)) <;> (repeat' (first | (with_reducible assumption) | (with_reducible exact trivial) | (with_reducible refine kA _ ?_) | (with_reducible refine kD ?_) | (with_reducible refine kS _ ?_ ?_) | (with_reducible refine fA _ ?_ ?_) | (with_reducible refine fD ?_) | (with_reducible refine fS _ ?_) | go_size | (go_simp; done))))))) (fun o => onl_cell Gw3 (by go_size) (by omega) o) (fun o => onl_frozen Gw3 (by go_size) (by omega) o)
  simp only [CellsAt] at zw3_wH
  clear zw2_wH
  cases z
  · go_wp2_with fail
    refine (pick_any _ r (N + 1 + 1 + 1) _ (by (repeat' (first | (with_reducible assumption) | (with_reducible refine rd_alloc ?_ _) | (with_reducible refine rd_drewN ?_ _) | (with_reducible refine rd_drew ?_) | (with_reducible refine rd_set ?_ ?_ _) | go_size))) (by omega) (by omega) (by omega)).mono ?_
    rintro e w6 ⟨q, hq1, hq2, rfl, Rw6, Gw6⟩
    have sw6 := Gw6.size
    (try simp at sw6)
    have Ow6 : Onl r w w6 := onl_trans (by (repeat' (first | (with_reducible assumption) | (with_reducible exact onl_refl _ _) | (with_reducible refine onl_drewN ?_ _) | (with_reducible refine onl_drew ?_) | (with_reducible refine onl_alloc ?_ _) | (with_reducible refine onl_set ?_ (Or.inr ?_) _) | go_size))) Gw6
    have lw6_0 : w.heap.size < w6.heap.size := (by go_size)
    have zw6_wH : CellsAt w6 (w.heap.size) 0 [.string ⟨#[]⟩, .string ⟨#[]⟩, .bool false] := cells_keep (by (simp only [CellsAt]; (first | (go_simp; done) | ((repeat' (with_reducible refine And.intro ?_ ?_)) <;> (repeat' (first | (with_reducible assumption) | (with_reducible exact trivial) | (with_reducible refine kA _ ?_) | (with_reducible refine kD ?_) | (with_reducible refine kS _ ?_ ?_) | (with_reducible refine fA _ ?_ ?_) | (with_reducible refine fD ?_) | (with_reducible refine fS _ ?_) | go_size | (go_simp; done))))))) (fun o => onl_cell Gw6 (by go_size) (by omega) o) (fun o => onl_frozen Gw6 (by go_size) (by omega) o)
    have lw6_1 : w3.heap.size < w6.heap.size := (by go_size)
    have zw6_w3H : CellsAt w6 (w3.heap.size) 0 [.string k, .string v, .bool (j == 0)] := cells_keep (by (simp only [CellsAt]; (first | (go_simp; done) | ((repeat' (with_reducible refine And.intro ?_ ?_)) <;> (repeat' (first | (with_reducible assumption) | (with_reducible exact trivial) | (with_reducible refine kA _ ?_) | (with_reducible refine kD ?_) | (with_reducible refine kS _ ?_ ?_) | (with_reducible refine fA _ ?_ ?_) | (with_reducible refine fD ?_) | (with_reducible refine fS _ ?_) | go_size | (go_simp; done))))))) (fun o => onl_cell Gw6 (by go_size) (by omega) o) (fun o => onl_frozen Gw6 (by go_size) (by omega) o)
    simp only [CellsAt] at zw6_wH
    simp only [CellsAt] at zw6_w3H
    clear zw3_wH
    go_wp2_with fail
    · refine (of_any _ r (N + 1 + 1 + 1 + 1) _ 5 _ shortS (by (repeat' (first | (with_reducible assumption) | (with_reducible refine rd_alloc ?_ _) | (with_reducible refine rd_drewN ?_ _) | (with_reducible refine rd_drew ?_) | (with_reducible refine rd_set ?_ ?_ _) | go_size))) (by omega) (by omega) (by omega) (by go_size) (by omega) (by intro i hi; have hi' : i = 0 ∨ i = 1 ∨ i = 2 ∨ i = 3 ∨ i = 4 := (by omega); rcases hi' with rfl | rfl | rfl | rfl | rfl <;> exact ⟨_, by go_simp; rfl, by unfold shortS; decide⟩)).mono ?_
      rintro e w7 ⟨x, hx, rfl, Rw7, Gw7⟩
      have sw7 := Gw7.size
      (try simp at sw7)
      have Ow7 : Onl r w w7 := onl_trans (by (repeat' (first | (with_reducible assumption) | (with_reducible exact onl_refl _ _) | (with_reducible refine onl_drewN ?_ _) | (with_reducible refine onl_drew ?_) | (with_reducible refine onl_alloc ?_ _) | (with_reducible refine onl_set ?_ (Or.inr ?_) _) | go_size))) Gw7
      have lw7_0 : w.heap.size < w7.heap.size := (by go_size)
      have zw7_wH : CellsAt w7 (w.heap.size) 0 [.string ⟨#[]⟩, .string ⟨#[]⟩, .bool false] := cells_keep (by (simp only [CellsAt]; (first | (go_simp; done) | ((repeat' (with_reducible refine And.intro ?_ ?_)) <;> (repeat' (first | (with_reducible assumption) | (with_reducible exact trivial) | (with_reducible refine kA _ ?_) | (with_reducible refine kD ?_) | (with_reducible refine kS _ ?_ ?_) | (with_reducible refine fA _ ?_ ?_) | (with_reducible refine fD ?_) | (with_reducible refine fS _ ?_) | go_size | (go_simp; done))))))) (fun o => onl_cell Gw7 (by go_size) (by omega) o) (fun o => onl_frozen Gw7 (by go_size) (by omega) o)
      have lw7_1 : w3.heap.size < w7.heap.size := (by go_size)
      have zw7_w3H : CellsAt w7 (w3.heap.size) 0 [.string k, .string v, .bool (j == 0)] := cells_keep (by (simp only [CellsAt]; (first | (go_simp; done) | ((repeat' (with_reducible refine And.intro ?_ ?_)) <;> (repeat' (first | (with_reducible assumption) | (with_reducible exact trivial) | (with_reducible refine kA _ ?_) | (with_reducible refine kD ?_) | (with_reducible refine kS _ ?_ ?_) | (with_reducible refine fA _ ?_ ?_) | (with_reducible refine fD ?_) | (with_reducible refine fS _ ?_) | go_size | (go_simp; done))))))) (fun o => onl_cell Gw7 (by go_size) (by omega) o) (fun o => onl_frozen Gw7 (by go_size) (by omega) o)
      simp only [CellsAt] at zw7_wH
      simp only [CellsAt] at zw7_w3H
      clear zw6_wH zw6_w3H
      have HX := Lib.hid hx
      clear hx
      go_wp2_with fail
      exact bodyPost_ret (v := .agg #[.string k, .string x, .bool (j == 0)]) (by simp [results, Try.results47, go_sem, zw7_wH, zw7_w3H, lw7_0, lw7_1]) rfl ⟨_, _, _, ⟨HK.out, HX.out⟩, rfl, rd_le (N := N + 1 + 1 + 1 + 1 + 1) (by (repeat' (first | (with_reducible assumption) | (with_reducible refine rd_alloc ?_ _) | (with_reducible refine rd_drewN ?_ _) | (with_reducible refine rd_drew ?_) | (with_reducible refine rd_set ?_ ?_ _) | go_size))) (by omega), by (repeat' (first | (with_reducible assumption) | (with_reducible exact onl_refl _ _) | (with_reducible refine onl_drewN ?_ _) | (with_reducible refine onl_drew ?_) | (with_reducible refine onl_alloc ?_ _) | (with_reducible refine onl_set ?_ (Or.inr ?_) _) | go_size))⟩
    · refine (of_any _ r (N + 1 + 1 + 1 + 1) _ 3 _ shortS (by (repeat' (first | (with_reducible assumption) | (with_reducible refine rd_alloc ?_ _) | (with_reducible refine rd_drewN ?_ _) | (with_reducible refine rd_drew ?_) | (with_reducible refine rd_set ?_ ?_ _) | go_size))) (by omega) (by omega) (by omega) (by go_size) (by omega) (by intro i hi; have hi' : i = 0 ∨ i = 1 ∨ i = 2 := (by omega); rcases hi' with rfl | rfl | rfl <;> exact ⟨_, by go_simp; rfl, by unfold shortS; decide⟩)).mono ?_
      rintro e w7 ⟨x, hx, rfl, Rw7, Gw7⟩
      have sw7 := Gw7.size
      (try simp at sw7)
      have Ow7 : Onl r w w7 := onl_trans (by (repeat' (first | (with_reducible assumption) | (with_reducible exact onl_refl _ _) | (with_reducible refine onl_drewN ?_ _) | (with_reducible refine onl_drew ?_) | (with_reducible refine onl_alloc ?_ _) | (with_reducible refine onl_set ?_ (Or.inr ?_) _) | go_size))) Gw7
      have lw7_0 : w.heap.size < w7.heap.size := (by go_size)
      have zw7_wH : CellsAt w7 (w.heap.size) 0 [.string ⟨#[]⟩, .string ⟨#[]⟩, .bool false] := cells_keep (by (simp only [CellsAt]; (first | (go_simp; done) | ((repeat' (with_reducible refine And.intro ?_ ?_)) <;> (repeat' (first | (with_reducible assumption) | (with_reducible exact trivial) | (with_reducible refine kA _ ?_) | (with_reducible refine kD ?_) | (with_reducible refine kS _ ?_ ?_) | (with_reducible refine fA _ ?_ ?_) | (with_reducible refine fD ?_) | (with_reducible refine fS _ ?_) | go_size | (go_simp; done))))))) (fun o => onl_cell Gw7 (by go_size) (by omega) o) (fun o => onl_frozen Gw7 (by go_size) (by omega) o)
      have lw7_1 : w3.heap.size < w7.heap.size := (by go_size)
      have zw7_w3H : CellsAt w7 (w3.heap.size) 0 [.string k, .string v, .bool (j == 0)] := cells_keep (by (simp only [CellsAt]; (first | (go_simp; done) | ((repeat' (with_reducible refine And.intro ?_ ?_)) <;> (repeat' (first | (with_reducible assumption) | (with_reducible exact trivial) | (with_reducible refine kA _ ?_) | (with_reducible refine kD ?_) | (with_reducible refine kS _ ?_ ?_) | (with_reducible refine fA _ ?_ ?_) | (with_reducible refine fD ?_) | (with_reducible refine fS _ ?_) | go_size | (go_simp; done))))))) (fun o => onl_cell Gw7 (by go_size) (by omega) o) (fun o => onl_frozen Gw7 (by go_size) (by omega) o)
      simp only [CellsAt] at zw7_wH
      simp only [CellsAt] at zw7_w3H
      clear zw6_wH zw6_w3H
      have HX := Lib.hid hx
      clear hx
      go_wp2_with fail
      exact bodyPost_ret (v := .agg #[.string x, .string v, .bool (j == 0)]) (by simp [results, Try.results47, go_sem, zw7_wH, zw7_w3H, lw7_0, lw7_1]) rfl ⟨_, _, _, ⟨HX.out, HV.out⟩, rfl, rd_le (N := N + 1 + 1 + 1 + 1 + 1) (by (repeat' (first | (with_reducible assumption) | (with_reducible refine rd_alloc ?_ _) | (with_reducible refine rd_drewN ?_ _) | (with_reducible refine rd_drew ?_) | (with_reducible refine rd_set ?_ ?_ _) | go_size))) (by omega), by (repeat' (first | (with_reducible assumption) | (with_reducible exact onl_refl _ _) | (with_reducible refine onl_drewN ?_ _) | (with_reducible refine onl_drew ?_) | (with_reducible refine onl_alloc ?_ _) | (with_reducible refine onl_set ?_ (Or.inr ?_) _) | go_size))⟩
    · exact bodyPost_ret (v := .agg #[.string k, .string v, .bool (j == 0)]) (by simp [results, Try.results47, go_sem, zw6_wH, zw6_w3H, lw6_0, lw6_1]) rfl ⟨_, _, _, ⟨HK.out, HV.out⟩, rfl, rd_le (N := N + 1 + 1 + 1 + 1) (by (repeat' (first | (with_reducible assumption) | (with_reducible refine rd_alloc ?_ _) | (with_reducible refine rd_drewN ?_ _) | (with_reducible refine rd_drew ?_) | (with_reducible refine rd_set ?_ ?_ _) | go_size))) (by omega), by (repeat' (first | (with_reducible assumption) | (with_reducible exact onl_refl _ _) | (with_reducible refine onl_drewN ?_ _) | (with_reducible refine onl_drew ?_) | (with_reducible refine onl_alloc ?_ _) | (with_reducible refine onl_set ?_ (Or.inr ?_) _) | go_size))⟩
  · go_wp2_with fail
    refine (of_any _ r (N + 1 + 1 + 1) _ 4 _ shortS (by (repeat' (first | (with_reducible assumption) | (with_reducible refine rd_alloc ?_ _) | (with_reducible refine rd_drewN ?_ _) | (with_reducible refine rd_drew ?_) | (with_reducible refine rd_set ?_ ?_ _) | go_size))) (by omega) (by omega) (by omega) (by go_size) (by omega) (by intro i hi; have hi' : i = 0 ∨ i = 1 ∨ i = 2 ∨ i = 3 := (by omega); rcases hi' with rfl | rfl | rfl | rfl <;> exact ⟨_, by go_simp; rfl, by unfold shortS; decide⟩)).mono ?_
    rintro e w4 ⟨u, hu, rfl, Rw4, Gw4⟩
    have sw4 := Gw4.size
    (try simp at sw4)
    have Ow4 : Onl r w w4 := onl_trans (by (repeat' (first | (with_reducible assumption) | (with_reducible exact onl_refl _ _) | (with_reducible refine onl_drewN ?_ _) | (with_reducible refine onl_drew ?_) | (with_reducible refine onl_alloc ?_ _) | (with_reducible refine onl_set ?_ (Or.inr ?_) _) | go_size))) Gw4
    have lw4_0 : w.heap.size < w4.heap.size := (by go_size)
    have zw4_wH : CellsAt w4 (w.heap.size) 0 [.string ⟨#[]⟩, .string ⟨#[]⟩, .bool false] := cells_keep (by (simp only [CellsAt]; (first | (go_simp; done) | ((repeat' (with_reducible refine And.intro ?_ ?_)) <;> (repeat' (first | (with_reducible assumption) | (with_reducible exact trivial) | (with_reducible refine kA _ ?_) | (with_reducible refine kD ?_) | (with_reducible refine kS _ ?_ ?_) | (with_reducible refine fA _ ?_ ?_) | (with_reducible refine fD ?_) | (with_reducible refine fS _ ?_) | go_size | (go_simp; done))))))) (fun o => onl_cell Gw4 (by go_size) (by omega) o) (fun o => onl_frozen Gw4 (by go_size) (by omega) o)
    have lw4_1 : w3.heap.size < w4.heap.size := (by go_size)
    have zw4_w3H : CellsAt w4 (w3.heap.size) 0 [.string k, .string v, .bool (j == 0)] := cells_keep (by (simp only [CellsAt]; (first | (go_simp; done) | ((repeat' (with_reducible refine And.intro ?_ ?_)) <;> (repeat' (first | (with_reducible assumption) | (with_reducible exact trivial) | (with_reducible refine kA _ ?_) | (with_reducible refine kD ?_) | (with_reducible refine kS _ ?_ ?_) | (with_reducible refine fA _ ?_ ?_) | (with_reducible refine fD ?_) | (with_reducible refine fS _ ?_) | go_size | (go_simp; done))))))) (fun o => onl_cell Gw4 (by go_size) (by omega) o) (fun o => onl_frozen Gw4 (by go_size) (by omega) o)
    simp only [CellsAt] at zw4_wH
    simp only [CellsAt] at zw4_w3H
    clear zw3_wH
    have HU := Lib.hid hu
    clear hu
    go_wp2_with fail
    refine (pick_any _ r (N + 1 + 1 + 1 + 1) _ (by (repeat' (first | (with_reducible assumption) | (with_reducible refine rd_alloc ?_ _) | (with_reducible refine rd_drewN ?_ _) | (with_reducible refine rd_drew ?_) | (with_reducible refine rd_set ?_ ?_ _) | go_size))) (by omega) (by omega) (by omega)).mono ?_
    rintro e w5 ⟨l, hl1, hl2, rfl, Rw5, Gw5⟩
    have sw5 := Gw5.size
    (try simp at sw5)
    have Ow5 : Onl r w w5 := onl_trans (by (repeat' (first | (with_reducible assumption) | (with_reducible exact onl_refl _ _) | (with_reducible refine onl_drewN ?_ _) | (with_reducible refine onl_drew ?_) | (with_reducible refine onl_alloc ?_ _) | (with_reducible refine onl_set ?_ (Or.inr ?_) _) | go_size))) Gw5
    have lw5_0 : w.heap.size < w5.heap.size := (by go_size)
    have zw5_wH : CellsAt w5 (w.heap.size) 0 [.string ⟨#[]⟩, .string ⟨#[]⟩, .bool false] := cells_keep (by (simp only [CellsAt]; (first | (go_simp; done) | ((repeat' (with_reducible refine And.intro ?_ ?_)) <;> (repeat' (first | (with_reducible assumption) | (with_reducible exact trivial) | (with_reducible refine kA _ ?_) | (with_reducible refine kD ?_) | (with_reducible refine kS _ ?_ ?_) | (with_reducible refine fA _ ?_ ?_) | (with_reducible refine fD ?_) | (with_reducible refine fS _ ?_) | go_size | (go_simp; done))))))) (fun o => onl_cell Gw5 (by go_size) (by omega) o) (fun o => onl_frozen Gw5 (by go_size) (by omega) o)
    have lw5_1 : w3.heap.size < w5.heap.size := (by go_size)
    have zw5_w3H : CellsAt w5 (w3.heap.size) 0 [.string k, .string v, .bool (j == 0)] := cells_keep (by (simp only [CellsAt]; (first | (go_simp; done) | ((repeat' (with_reducible refine And.intro ?_ ?_)) <;> (repeat' (first | (with_reducible assumption) | (with_reducible exact trivial) | (with_reducible refine kA _ ?_) | (with_reducible refine kD ?_) | (with_reducible refine kS _ ?_ ?_) | (with_reducible refine fA _ ?_ ?_) | (with_reducible refine fD ?_) | (with_reducible refine fS _ ?_) | go_size | (go_simp; done))))))) (fun o => onl_cell Gw5 (by go_size) (by omega) o) (fun o => onl_frozen Gw5 (by go_size) (by omega) o)
    simp only [CellsAt] at zw5_wH
    simp only [CellsAt] at zw5_w3H
    clear zw4_wH zw4_w3H
    go_wp2_with fail
    refine (pick_any _ r (N + 1 + 1 + 1 + 1 + 1) _ (by (repeat' (first | (with_reducible assumption) | (with_reducible refine rd_alloc ?_ _) | (with_reducible refine rd_drewN ?_ _) | (with_reducible refine rd_drew ?_) | (with_reducible refine rd_set ?_ ?_ _) | go_size))) (by omega) (by omega) (by omega)).mono ?_
    rintro e w6 ⟨q, hq1, hq2, rfl, Rw6, Gw6⟩
    have sw6 := Gw6.size
    (try simp at sw6)
    have Ow6 : Onl r w w6 := onl_trans (by (repeat' (first | (with_reducible assumption) | (with_reducible exact onl_refl _ _) | (with_reducible refine onl_drewN ?_ _) | (with_reducible refine onl_drew ?_) | (with_reducible refine onl_alloc ?_ _) | (with_reducible refine onl_set ?_ (Or.inr ?_) _) | go_size))) Gw6
    have lw6_0 : w.heap.size < w6.heap.size := (by go_size)
    have zw6_wH : CellsAt w6 (w.heap.size) 0 [.string ⟨#[]⟩, .string ⟨#[]⟩, .bool false] := cells_keep (by (simp only [CellsAt]; (first | (go_simp; done) | ((repeat' (with_reducible refine And.intro ?_ ?_)) <;> (repeat' (first | (with_reducible assumption) | (with_reducible exact trivial) | (with_reducible refine kA _ ?_) | (with_reducible refine kD ?_) | (with_reducible refine kS _ ?_ ?_) | (with_reducible refine fA _ ?_ ?_) | (with_reducible refine fD ?_) | (with_reducible refine fS _ ?_) | go_size | (go_simp; done))))))) (fun o => onl_cell Gw6 (by go_size) (by omega) o) (fun o => onl_frozen Gw6 (by go_size) (by omega) o)
    have lw6_1 : w3.heap.size < w6.heap.size := (by go_size)
    have zw6_w3H : CellsAt w6 (w3.heap.size) 0 [.string ⟨#[]⟩, .string u, .bool (l == 0)] := cells_keep (by (simp only [CellsAt]; (first | (go_simp; done) | ((repeat' (with_reducible refine And.intro ?_ ?_)) <;> (repeat' (first | (with_reducible assumption) | (with_reducible exact trivial) | (with_reducible refine kA _ ?_) | (with_reducible refine kD ?_) | (with_reducible refine kS _ ?_ ?_) | (with_reducible refine fA _ ?_ ?_) | (with_reducible refine fD ?_) | (with_reducible refine fS _ ?_) | go_size | (go_simp; done))))))) (fun o => onl_cell Gw6 (by go_size) (by omega) o) (fun o => onl_frozen Gw6 (by go_size) (by omega) o)
    simp only [CellsAt] at zw6_wH
    simp only [CellsAt] at zw6_w3H
    clear zw5_wH zw5_w3H
    go_wp2_with fail
    · refine (of_any _ r (N + 1 + 1 + 1 + 1 + 1 + 1) _ 5 _ shortS (by (repeat' (first | (with_reducible assumption) | (with_reducible refine rd_alloc ?_ _) | (with_reducible refine rd_drewN ?_ _) | (with_reducible refine rd_drew ?_) | (with_reducible refine rd_set ?_ ?_ _) | go_size))) (by omega) (by omega) (by omega) (by go_size) (by omega) (by intro i hi; have hi' : i = 0 ∨ i = 1 ∨ i = 2 ∨ i = 3 ∨ i = 4 := (by omega); rcases hi' with rfl | rfl | rfl | rfl | rfl <;> exact ⟨_, by go_simp; rfl, by unfold shortS; decide⟩)).mono ?_
      rintro e w7 ⟨x, hx, rfl, Rw7, Gw7⟩
      have sw7 := Gw7.size
      (try simp at sw7)
      have Ow7 : Onl r w w7 := onl_trans (by (repeat' (first | (with_reducible assumption) | (with_reducible exact onl_refl _ _) | (with_reducible refine onl_drewN ?_ _) | (with_reducible refine onl_drew ?_) | (with_reducible refine onl_alloc ?_ _) | (with_reducible refine onl_set ?_ (Or.inr ?_) _) | go_size))) Gw7
      have lw7_0 : w.heap.size < w7.heap.size := (by go_size)
      have zw7_wH : CellsAt w7 (w.heap.size) 0 [.string ⟨#[]⟩, .string ⟨#[]⟩, .bool false] := cells_keep (by (simp only [CellsAt]; (first | (go_simp; done) | ((repeat' (with_reducible refine And.intro ?_ ?_)) <;> (repeat' (first | (with_reducible assumption) | (with_reducible exact trivial) | (with_reducible refine kA _ ?_) | (with_reducible refine kD ?_) | (with_reducible refine kS _ ?_ ?_) | (with_reducible refine fA _ ?_ ?_) | (with_reducible refine fD ?_) | (with_reducible refine fS _ ?_) | go_size | (go_simp; done))))))) (fun o => onl_cell Gw7 (by go_size) (by omega) o) (fun o => onl_frozen Gw7 (by go_size) (by omega) o)
      have lw7_1 : w3.heap.size < w7.heap.size := (by go_size)
      have zw7_w3H : CellsAt w7 (w3.heap.size) 0 [.string ⟨#[]⟩, .string u, .bool (l == 0)] := cells_keep (by (simp only [CellsAt]; (first | (go_simp; done) | ((repeat' (with_reducible refine And.intro ?_ ?_)) <;> (repeat' (first | (with_reducible assumption) | (with_reducible exact trivial) | (with_reducible refine kA _ ?_) | (with_reducible refine kD ?_) | (with_reducible refine kS _ ?_ ?_) | (with_reducible refine fA _ ?_ ?_) | (with_reducible refine fD ?_) | (with_reducible refine fS _ ?_) | go_size | (go_simp; done))))))) (fun o => onl_cell Gw7 (by go_size) (by omega) o) (fun o => onl_frozen Gw7 (by go_size) (by omega) o)
      simp only [CellsAt] at zw7_wH
      simp only [CellsAt] at zw7_w3H
      clear zw6_wH zw6_w3H
      have HX := Lib.hid hx
      clear hx
      go_wp2_with fail
      exact bodyPost_ret (v := .agg #[.string ⟨#[]⟩, .string x, .bool (l == 0)]) (by simp [results, Try.results47, go_sem, zw7_wH, zw7_w3H, lw7_0, lw7_1]) rfl ⟨_, _, _, ⟨(by decide), HX.out⟩, rfl, rd_le (N := N + 1 + 1 + 1 + 1 + 1 + 1 + 1) (by (repeat' (first | (with_reducible assumption) | (with_reducible refine rd_alloc ?_ _) | (with_reducible refine rd_drewN ?_ _) | (with_reducible refine rd_drew ?_) | (with_reducible refine rd_set ?_ ?_ _) | go_size))) (by omega), by (repeat' (first | (with_reducible assumption) | (with_reducible exact onl_refl _ _) | (with_reducible refine onl_drewN ?_ _) | (with_reducible refine onl_drew ?_) | (with_reducible refine onl_alloc ?_ _) | (with_reducible refine onl_set ?_ (Or.inr ?_) _) | go_size))⟩
    · refine (of_any _ r (N + 1 + 1 + 1 + 1 + 1 + 1) _ 3 _ shortS (by (repeat' (first | (with_reducible assumption) | (with_reducible refine rd_alloc ?_ _) | (with_reducible refine rd_drewN ?_ _) | (with_reducible refine rd_drew ?_) | (with_reducible refine rd_set ?_ ?_ _) | go_size))) (by omega) (by omega) (by omega) (by go_size) (by omega) (by intro i hi; have hi' : i = 0 ∨ i = 1 ∨ i = 2 := (by omega); rcases hi' with rfl | rfl | rfl <;> exact ⟨_, by go_simp; rfl, by unfold shortS; decide⟩)).mono ?_
      rintro e w7 ⟨x, hx, rfl, Rw7, Gw7⟩
      have sw7 := Gw7.size
      (try simp at sw7)
      have Ow7 : Onl r w w7 := onl_trans (by (repeat' (first | (with_reducible assumption) | (with_reducible exact onl_refl _ _) | (with_reducible refine onl_drewN ?_ _) | (with_reducible refine onl_drew ?_) | (with_reducible refine onl_alloc ?_ _) | (with_reducible refine onl_set ?_ (Or.inr ?_) _) | go_size))) Gw7
      have lw7_0 : w.heap.size < w7.heap.size := (by go_size)
      have zw7_wH : CellsAt w7 (w.heap.size) 0 [.string ⟨#[]⟩, .string ⟨#[]⟩, .bool false] := cells_keep (by (simp only [CellsAt]; (first | (go_simp; done) | ((repeat' (with_reducible refine And.intro ?_ ?_)) <;> (repeat' (first | (with_reducible assumption) | (with_reducible exact trivial) | (with_reducible refine kA _ ?_) | (with_reducible refine kD ?_) | (with_reducible refine kS _ ?_ ?_) | (with_reducible refine fA _ ?_ ?_) | (with_reducible refine fD ?_) | (with_reducible refine fS _ ?_) | go_size | (go_simp; done))))))) (fun o => onl_cell Gw7 (by go_size) (by omega) o) (fun o => onl_frozen Gw7 (by go_size) (by omega) o)
      have lw7_1 : w3.heap.size < w7.heap.size := (by go_size)
      have zw7_w3H : CellsAt w7 (w3.heap.size) 0 [.string ⟨#[]⟩, .string u, .bool (l == 0)] := cells_keep (by (simp only [CellsAt]; (first | (go_simp; done) | ((repeat' (with_reducible refine And.intro ?_ ?_)) <;> (repeat' (first | (with_reducible assumption) | (with_reducible exact trivial) | (with_reducible refine kA _ ?_) | (with_reducible refine kD ?_) | (with_reducible refine kS _ ?_ ?_) | (with_reducible refine fA _ ?_ ?_) | (with_reducible refine fD ?_) | (with_reducible refine fS _ ?_) | go_size | (go_simp; done))))))) (fun o => onl_cell Gw7 (by go_size) (by omega) o) (fun o => onl_frozen Gw7 (by go_size) (by omega) o)
      simp only [CellsAt] at zw7_wH
      simp only [CellsAt] at zw7_w3H
      clear zw6_wH zw6_w3H
      have HX := Lib.hid hx
      clear hx
      go_wp2_with fail
      exact bodyPost_ret (v := .agg #[.string x, .string u, .bool (l == 0)]) (by simp [results, Try.results47, go_sem, zw7_wH, zw7_w3H, lw7_0, lw7_1]) rfl ⟨_, _, _, ⟨HX.out, HU.out⟩, rfl, rd_le (N := N + 1 + 1 + 1 + 1 + 1 + 1 + 1) (by (repeat' (first | (with_reducible assumption) | (with_reducible refine rd_alloc ?_ _) | (with_reducible refine rd_drewN ?_ _) | (with_reducible refine rd_drew ?_) | (with_reducible refine rd_set ?_ ?_ _) | go_size))) (by omega), by (repeat' (first | (with_reducible assumption) | (with_reducible exact onl_refl _ _) | (with_reducible refine onl_drewN ?_ _) | (with_reducible refine onl_drew ?_) | (with_reducible refine onl_alloc ?_ _) | (with_reducible refine onl_set ?_ (Or.inr ?_) _) | go_size))⟩
    · exact bodyPost_ret (v := .agg #[.string ⟨#[]⟩, .string u, .bool (l == 0)]) (by simp [results, Try.results47, go_sem, zw6_wH, zw6_w3H, lw6_0, lw6_1]) rfl ⟨_, _, _, ⟨(by decide), HU.out⟩, rfl, rd_le (N := N + 1 + 1 + 1 + 1 + 1 + 1) (by (repeat' (first | (with_reducible assumption) | (with_reducible refine rd_alloc ?_ _) | (with_reducible refine rd_drewN ?_ _) | (with_reducible refine rd_drew ?_) | (with_reducible refine rd_set ?_ ?_ _) | go_size))) (by omega), by (repeat' (first | (with_reducible assumption) | (with_reducible exact onl_refl _ _) | (with_reducible refine onl_drewN ?_ _) | (with_reducible refine onl_drew ?_) | (with_reducible refine onl_alloc ?_ _) | (with_reducible refine onl_set ?_ (Or.inr ?_) _) | go_size))⟩

/-- a tag drawn out of a slice of bytes -/
def DrawnTag0 (w : World) (e : Ending) (w' : World) : Prop := ∃ (k v : ByteArray) (c : Bool), (k.size ≤ 16 ∧ v.size ≤ 16) ∧ e = .returned (.agg #[.string k, .string v, .bool c]) ∧ Below w.heap.size w w'
set_option maxHeartbeats 2000000 in
theorem DrawTagValid_any (w0 : World) (a : Option Addr) (len cap : Nat) (zs : List Int) (h : IsRow .u8 w0 a len cap zs) : Calls Try.prog 19 #[.slice a len cap] w0 (DrawnTag0 w0) := by
  have H1 := Lib.hid (isRow_keep h ((Below.refl _ w0).alloc (Nat.le_refl _) (.cells #[.string ⟨#[]⟩, .string ⟨#[]⟩, .bool false] 26)))
  clear h
  go_enter Try.func19, Try.ntmps19
  go_wp2_with fail
  refine (open_any _ _ _ _ _ H1.out).mono ?_
  rintro e w ⟨rfl, R0, bw⟩
  have sw := bw.size
  (try simp at sw)
  have Aw : Below w0.heap.size w0 w := Below.trans (by (repeat' (first | (with_reducible assumption) | (with_reducible exact Below.refl _ _) | (with_reducible refine bdN ?_ _) | (with_reducible refine Below.alloc ?_ ?_ _) | (with_reducible refine Below.drew ?_) | (with_reducible refine Below.setCell ?_ ?_ _) | go_size))) (bw.mono (by go_size))
  have lw_0 : w0.heap.size < w.heap.size := (by go_size)
  have zw_w0H : CellsAt w (w0.heap.size) 0 [.string ⟨#[]⟩, .string ⟨#[]⟩, .bool false] := cells_keep (by (simp only [CellsAt]; (first | (go_simp; done) | ((repeat' (with_reducible refine And.intro ?_ ?_)) <;> (repeat' (first | (with_reducible assumption) | (with_reducible exact trivial) | (with_reducible refine kA _ ?_) | (with_reducible refine kD ?_) | (with_reducible refine kS _ ?_ ?_) | (with_reducible refine fA _ ?_ ?_) | (with_reducible refine fD ?_) | (with_reducible refine fS _ ?_) | go_size | (go_simp; done))))))) (fun o => bw.cell (p := ⟨_, o, none⟩) (by go_size)) (fun o => bw.frozen (p := ⟨_, o, none⟩) (by go_size))
  simp only [CellsAt] at zw_w0H
  clear bw
  (try simp at R0)
  have hlt := rd_lt R0
  obtain ⟨r, hr⟩ : ∃ r, w0.heap.size + 1 = r := ⟨_, rfl⟩
  rw [hr] at R0 hlt
  have HR := Lib.hid hr
  have r1 : w0.heap.size ≤ r := by omega
  have r2_0 : w0.heap.size < r := by omega
  go_wp2_with fail
  clear hr
  refine (pick_any _ r 0 _ (by (repeat' (first | (with_reducible assumption) | (with_reducible refine rd_alloc ?_ _) | (with_reducible refine rd_drewN ?_ _) | (with_reducible refine rd_drew ?_) | (with_reducible refine rd_set ?_ ?_ _) | go_size))) (by omega) (by omega) (by omega)).mono ?_
  rintro e w1 ⟨q, hq1, hq2, rfl, Rw1, Gw1⟩
  have sw1 := Gw1.size
  (try simp at sw1)
  have Ow1 : Onl r w w1 := onl_trans (by (repeat' (first | (with_reducible assumption) | (with_reducible exact onl_refl _ _) | (with_reducible refine onl_drewN ?_ _) | (with_reducible refine onl_drew ?_) | (with_reducible refine onl_alloc ?_ _) | (with_reducible refine onl_set ?_ (Or.inr ?_) _) | go_size))) Gw1
  have lw1_0 : w0.heap.size < w1.heap.size := (by go_size)
  have zw1_w0H : CellsAt w1 (w0.heap.size) 0 [.string ⟨#[]⟩, .string ⟨#[]⟩, .bool false] := cells_keep (by (simp only [CellsAt]; (first | (go_simp; done) | ((repeat' (with_reducible refine And.intro ?_ ?_)) <;> (repeat' (first | (with_reducible assumption) | (with_reducible exact trivial) | (with_reducible refine kA _ ?_) | (with_reducible refine kD ?_) | (with_reducible refine kS _ ?_ ?_) | (with_reducible refine fA _ ?_ ?_) | (with_reducible refine fD ?_) | (with_reducible refine fS _ ?_) | go_size | (go_simp; done))))))) (fun o => onl_cell Gw1 (by go_size) (by omega) o) (fun o => onl_frozen Gw1 (by go_size) (by omega) o)
  simp only [CellsAt] at zw1_w0H
  clear zw_w0H
  go_wp2_with fail
  refine (l92Tag_any _ r (0 + 1) _ (by (repeat' (first | (with_reducible assumption) | (with_reducible refine rd_alloc ?_ _) | (with_reducible refine rd_drewN ?_ _) | (with_reducible refine rd_drew ?_) | (with_reducible refine rd_set ?_ ?_ _) | go_size))) (by omega)).mono ?_
  rintro e w2 ⟨k, v, c, hs, rfl, Rw2, Gw2⟩
  have sw2 := Gw2.size
  (try simp at sw2)
  have Ow2 : Onl r w w2 := onl_trans (by (repeat' (first | (with_reducible assumption) | (with_reducible exact onl_refl _ _) | (with_reducible refine onl_drewN ?_ _) | (with_reducible refine onl_drew ?_) | (with_reducible refine onl_alloc ?_ _) | (with_reducible refine onl_set ?_ (Or.inr ?_) _) | go_size))) Gw2
  have lw2_0 : w0.heap.size < w2.heap.size := (by go_size)
  have zw2_w0H : CellsAt w2 (w0.heap.size) 0 [.string ⟨#[]⟩, .string ⟨#[]⟩, .bool false] := cells_keep (by (simp only [CellsAt]; (first | (go_simp; done) | ((repeat' (with_reducible refine And.intro ?_ ?_)) <;> (repeat' (first | (with_reducible assumption) | (with_reducible exact trivial) | (with_reducible refine kA _ ?_) | (with_reducible refine kD ?_) | (with_reducible refine kS _ ?_ ?_) | (with_reducible refine fA _ ?_ ?_) | (with_reducible refine fD ?_) | (with_reducible refine fS _ ?_) | go_size | (go_simp; done))))))) (fun o => onl_cell Gw2 (by go_size) (by omega) o) (fun o => onl_frozen Gw2 (by go_size) (by omega) o)
  simp only [CellsAt] at zw2_w0H
  clear zw1_w0H
  have HS := Lib.hid hs
  clear hs
  go_wp2_with fail
  have A3 : Below w0.heap.size w0 w2 := Aw.trans (onl_below Ow2 (by omega) Aw.size)
  exact bodyPost_ret (v := .agg #[.string k, .string v, .bool c]) (by simp [results, Try.results19, go_sem, zw2_w0H, lw2_0]) rfl ⟨_, _, _, HS.out, rfl, by (repeat' (first | (with_reducible assumption) | (with_reducible exact Below.refl _ _) | (with_reducible refine bdN ?_ _) | (with_reducible refine Below.alloc ?_ ?_ _) | (with_reducible refine Below.drew ?_) | (with_reducible refine Below.setCell ?_ ?_ _) | go_size))⟩
end Go.Proofs.Ytbgpdjceofofoaa
