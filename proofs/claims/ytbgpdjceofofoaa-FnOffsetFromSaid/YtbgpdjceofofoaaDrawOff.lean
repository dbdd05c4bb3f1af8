/- What the draw of an offset's text gives: a short text; only new blocks change. No condition. -/
import Derived.Test.YtbgpdjceofofoaaDrawStamp
import Derived.Test.YtbgpdjceofofoaaRdOf
import Derived.Test.YtbgpdjceofofoaaOffT
namespace Go.Proofs.Ytbgpdjceofofoaa
set_option linter.unusedSimpArgs false
set_option linter.unusedVariables false
open Go.RowKit DN

/-- a short text drawn out of a slice of bytes -/
def DrawnStr0 (w : World) (M : Nat) (e : Ending) (w' : World) : Prop := ∃ s : ByteArray, s.size ≤ M ∧ e = .returned (.string s) ∧ Below w.heap.size w w'
theorem offS_size (o : Int) : (offS o).size ≤ 6 := by
  unfold offS
  split
  · decide
  · split
    · simp only [ByteArray.size_append, dgS_size]; decide
    · split
      · simp only [ByteArray.size_append, dgS_size]; decide
      · decide
set_option maxHeartbeats 2000000 in
theorem DrawOffsetFrom_any (w0 : World) (a : Option Addr) (len cap : Nat) (zs : List Int) (h : IsRow .u8 w0 a len cap zs) : Calls Try.prog 32 #[.slice a len cap] w0 (DrawnStr0 w0 6) := by
  have H1 := Lib.hid h
  clear h
  go_enter Try.func32, Try.ntmps32
  go_wp2_with fail
  refine (open_any _ _ _ _ _ H1.out).mono ?_
  rintro e w ⟨rfl, R0, bw⟩
  have sw := bw.size
  (try simp at sw)
  have Aw : Below w0.heap.size w0 w := Below.trans (by (repeat' (first | (with_reducible assumption) | (with_reducible exact Below.refl _ _) | (with_reducible refine bdN ?_ _) | (with_reducible refine Below.alloc ?_ ?_ _) | (with_reducible refine Below.drew ?_) | (with_reducible refine Below.setCell ?_ ?_ _) | go_size))) (bw.mono (by go_size))
  clear bw
  (try simp at R0)
  have hlt := rd_lt R0
  obtain ⟨r, hr⟩ : ∃ r, w0.heap.size = r := ⟨_, rfl⟩
  rw [hr] at R0 hlt
  have HR := Lib.hid hr
  have r1 : w0.heap.size ≤ r := by omega
  go_wp2_with fail
  clear hr
  refine (pick_any _ r 0 _ (by (repeat' (first | (with_reducible assumption) | (with_reducible refine rd_alloc ?_ _) | (with_reducible refine rd_drewN ?_ _) | (with_reducible refine rd_drew ?_) | (with_reducible refine rd_set ?_ ?_ _) | go_size))) (by omega) (by omega) (by omega)).mono ?_
  rintro e w1 ⟨k, hk1, hk2, rfl, Rw1, Gw1⟩
  have sw1 := Gw1.size
  (try simp at sw1)
  have Ow1 : Onl r w w1 := onl_trans (by (repeat' (first | (with_reducible assumption) | (with_reducible exact onl_refl _ _) | (with_reducible refine onl_drewN ?_ _) | (with_reducible refine onl_drew ?_) | (with_reducible refine onl_alloc ?_ _) | (with_reducible refine onl_set ?_ (Or.inr ?_) _) | go_size))) Gw1
  go_wp2_with fail
  · refine (of_any _ r (0 + 1) _ 11 _ (fun s => s.size ≤ 6) (by (repeat' (first | (with_reducible assumption) | (with_reducible refine rd_alloc ?_ _) | (with_reducible refine rd_drewN ?_ _) | (with_reducible refine rd_drew ?_) | (with_reducible refine rd_set ?_ ?_ _) | go_size))) (by omega) (by omega) (by omega) (by go_size) (by omega) (by intro i hi; have hi' : i = 0 ∨ i = 1 ∨ i = 2 ∨ i = 3 ∨ i = 4 ∨ i = 5 ∨ i = 6 ∨ i = 7 ∨ i = 8 ∨ i = 9 ∨ i = 10 := (by omega); rcases hi' with rfl | rfl | rfl | rfl | rfl | rfl | rfl | rfl | rfl | rfl | rfl <;> exact ⟨_, by go_simp; rfl, by decide⟩)).mono ?_
    rintro e w2 ⟨s, hs, rfl, Rw2, Gw2⟩
    have sw2 := Gw2.size
    (try simp at sw2)
    have Ow2 : Onl r w w2 := onl_trans (by (repeat' (first | (with_reducible assumption) | (with_reducible exact onl_refl _ _) | (with_reducible refine onl_drewN ?_ _) | (with_reducible refine onl_drew ?_) | (with_reducible refine onl_alloc ?_ _) | (with_reducible refine onl_set ?_ (Or.inr ?_) _) | go_size))) Gw2
    go_wp2_with fail
    have A3 : Below w0.heap.size w0 w2 := Aw.trans (onl_below Ow2 (by omega) Aw.size)
    go_ret
    exact ⟨_, hs, rfl, by (repeat' (first | (with_reducible assumption) | (with_reducible exact Below.refl _ _) | (with_reducible refine bdN ?_ _) | (with_reducible refine Below.alloc ?_ ?_ _) | (with_reducible refine Below.drew ?_) | (with_reducible refine Below.setCell ?_ ?_ _) | go_size))⟩
  · refine (l91Offset_any _ r (0 + 1) (by (repeat' (first | (with_reducible assumption) | (with_reducible refine rd_alloc ?_ _) | (with_reducible refine rd_drewN ?_ _) | (with_reducible refine rd_drew ?_) | (with_reducible refine rd_set ?_ ?_ _) | go_size))) (by omega)).mono ?_
    rintro e w2 ⟨o, rfl, Rw2, Gw2⟩
    have sw2 := Gw2.size
    (try simp at sw2)
    have Ow2 : Onl r w w2 := onl_trans (by (repeat' (first | (with_reducible assumption) | (with_reducible exact onl_refl _ _) | (with_reducible refine onl_drewN ?_ _) | (with_reducible refine onl_drew ?_) | (with_reducible refine onl_alloc ?_ _) | (with_reducible refine onl_set ?_ (Or.inr ?_) _) | go_size))) Gw2
    go_wp2_with fail
    refine (OffsetText_s o _).mono ?_
    rintro e w3 ⟨rfl, bw3⟩
    have A3 : Below w0.heap.size w0 w2 := Aw.trans (onl_below Ow2 (by omega) Aw.size)
    have A4 : Below w0.heap.size w0 w3 := A3.trans (bw3.mono (by have := A3.size; omega))
    go_wp2_with fail
    go_ret
    exact ⟨_, offS_size o, rfl, by (repeat' (first | (with_reducible assumption) | (with_reducible exact Below.refl _ _) | (with_reducible refine bdN ?_ _) | (with_reducible refine Below.alloc ?_ ?_ _) | (with_reducible refine Below.drew ?_) | (with_reducible refine Below.setCell ?_ ?_ _) | go_size))⟩
end Go.Proofs.Ytbgpdjceofofoaa
