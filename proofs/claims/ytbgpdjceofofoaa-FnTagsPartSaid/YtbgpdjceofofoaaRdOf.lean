/- What one pick out of a list of texts gives: one of the texts. Conditions: the reader and the texts stand in memory. -/
import Derived.Test.YtbgpdjceofofoaaRd
import Derived.Test.YtbgpdjceofofoaaKeep
namespace Go.Proofs.Ytbgpdjceofofoaa
set_option linter.unusedSimpArgs false
set_option linter.unusedVariables false
open Go.RowKit

/-- n texts lie in block b, each of which is P -/
def Strs (w : World) (b n : Nat) (P : ByteArray → Prop) : Prop := ∀ i, i < n → ∃ s : ByteArray, w.cell? ⟨b, i, none⟩ = some (.string s) ∧ P s
/-- what the pick gives -/
def PickedS (w : World) (r N : Nat) (P : ByteArray → Prop) (e : Ending) (w' : World) : Prop := ∃ s : ByteArray, P s ∧ e = .returned (.string s) ∧ Rd w' r N ∧ Onl r w w'
set_option maxHeartbeats 1000000 in
theorem of_any (w : World) (r N b n c : Nat) (P : ByteArray → Prop) (hr : Rd w r N) (hN : N ≤ 90000) (hn : 1 ≤ n) (hn2 : n ≤ 1000) (hb : b < w.heap.size) (hbr : b ≠ r) (hs : Strs w b n P) :
    Calls Try.prog 57 #[.pointer (some ⟨r, 0, none⟩), .slice (some ⟨b, 0, none⟩) n c] w (PickedS w r (N + 1) P) := by
  have HS := Lib.hid hs
  have HB := Lib.hid hbr
  clear hs hbr
  have hlt := rd_lt hr
  go_enter Try.func57, Try.ntmps57
  go_wp2_with fail
  refine (pick_any _ r N _ (by (repeat' (first | (with_reducible assumption) | (with_reducible refine rd_alloc ?_ _) | (with_reducible refine rd_drewN ?_ _) | (with_reducible refine rd_drew ?_) | (with_reducible refine rd_set ?_ ?_ _) | go_size))) (by omega) (by omega) (by omega)).mono ?_
  rintro e w1 ⟨k, hk1, hk2, rfl, Rw1, Gw1⟩
  have sw1 := Gw1.size
  (try simp at sw1)
  have Ow1 : Onl r w w1 := onl_trans (by (repeat' (first | (with_reducible assumption) | (with_reducible exact onl_refl _ _) | (with_reducible refine onl_drewN ?_ _) | (with_reducible refine onl_drew ?_) | (with_reducible refine onl_alloc ?_ _) | (with_reducible refine onl_set ?_ (Or.inr ?_) _) | go_size))) Gw1
  obtain ⟨s, hc, hp⟩ := HS.out k.toNat (by omega)
  have hc1 : w1.cell? ⟨b, k.toNat, none⟩ = some (.string s) := (onl_cell Gw1 hb HB.out _).trans hc
  have HP := Lib.hid hp
  clear hc hp
  go_wp2_with fail
  go_ret
  exact ⟨_, HP.out, rfl, rd_le (N := N + 1) (by (repeat' (first | (with_reducible assumption) | (with_reducible refine rd_alloc ?_ _) | (with_reducible refine rd_drewN ?_ _) | (with_reducible refine rd_drew ?_) | (with_reducible refine rd_set ?_ ?_ _) | go_size))) (by omega), by (repeat' (first | (with_reducible assumption) | (with_reducible exact onl_refl _ _) | (with_reducible refine onl_drewN ?_ _) | (with_reducible refine onl_drew ?_) | (with_reducible refine onl_alloc ?_ _) | (with_reducible refine onl_set ?_ (Or.inr ?_) _) | go_size))⟩
end Go.Proofs.Ytbgpdjceofofoaa
