/- Contracts of whether a tag is valid, by the program and by the reference. Condition: the texts are not longer than 2^40 bytes. -/
import Derived.Test.YtbgpdjceofofoaaWord
namespace Go.Proofs.Ytbgpdjceofofoaa
set_option linter.unusedSimpArgs false
set_option linter.unusedVariables false
open Go.RowKit DN

/-- whether a tag is valid -/
def tvB (k v : ByteArray) : Bool := if k.toList = [] then wordB true v else wordB false k && wordB false v
theorem tv_e {k v : ByteArray} (h : k.toList = []) : tvB k v = wordB true v := if_pos h
theorem tv_k {k v : ByteArray} (h : ¬ k.toList = []) : tvB k v = (wordB false k && wordB false v) := if_neg h

theorem lw_of {z b : Bool} {s : ByteArray} (hs : s.size ≤ 1099511627776) (h : wordB z s = b) (w : World) : Calls Try.prog 42 #[.string s, .bool z] w fun e w' => e = .returned (.bool b) ∧ w = w' := by
  subst h
  cases z
  · exact l14Word_n s hs w
  · exact l14Word_z s hs w

set_option maxHeartbeats 1000000 in
theorem TagValid_s (k v : ByteArray) (c : Bool) (hk : k.size ≤ 1099511627776) (hv : v.size ≤ 1099511627776) (w : World) : Calls Try.prog 16 #[.agg #[.string k, .string v, .bool c]] w fun e w' => e = .returned (.bool (tvB k v)) ∧ Below w.heap.size w w' := by
  by_cases h : k.toList = []
  · rw [tv_e h]
    have W := Lib.hid (lw_of (z := true) hv rfl)
    have h2 : k.toList.isEmpty = true := by rw [h]; rfl
    generalize wordB true v = b at *
    go_enter Try.func16, Try.ntmps16
    go_wp2_with fail
    refine (W.out _).mono ?_
    rintro e w' ⟨rfl, rfl⟩
    go_wp2_with fail
    go_ret
    exact ⟨rfl, by (repeat' (first | (with_reducible assumption) | (with_reducible exact Below.refl _ _) | (with_reducible refine bdN ?_ _) | (with_reducible refine Below.alloc ?_ ?_ _) | (with_reducible refine Below.drew ?_) | (with_reducible refine Below.setCell ?_ ?_ _) | go_size))⟩
  · rw [tv_k h]
    have W := Lib.hid (lw_of (z := false) hk rfl)
    have W2 := Lib.hid (lw_of (z := false) hv rfl)
    have h2 : k.toList.isEmpty = false := by simpa using h
    generalize wordB false k = b at *
    generalize wordB false v = b2 at *
    cases b
    all_goals
      go_enter Try.func16, Try.ntmps16
      go_wp2_with fail
      refine (W.out _).mono ?_
      rintro e w' ⟨rfl, rfl⟩
      go_wp2_with fail
      try (refine (W2.out _).mono ?_; rintro e w' ⟨rfl, rfl⟩; go_wp2_with fail)
      go_ret
      exact ⟨rfl, by (repeat' (first | (with_reducible assumption) | (with_reducible exact Below.refl _ _) | (with_reducible refine bdN ?_ _) | (with_reducible refine Below.alloc ?_ ?_ _) | (with_reducible refine Below.drew ?_) | (with_reducible refine Below.setCell ?_ ?_ _) | go_size))⟩

theorem wz_of {b : Bool} {s : ByteArray} (hs : s.size ≤ 1099511627776) (h : wordB true s = b) (w : World) : Calls Try.prog 43 #[.string s, .func (.func 44) #[] #[]] w fun e w' => e = .returned (.bool b) ∧ Below w.heap.size w w' := by
  subst h; exact wordOf_z s hs w
theorem wn_of {b : Bool} {s : ByteArray} (hs : s.size ≤ 1099511627776) (h : wordB false s = b) (w : World) : Calls Try.prog 43 #[.string s, .func (.func 45) #[] #[]] w fun e w' => e = .returned (.bool b) ∧ Below w.heap.size w w' := by
  subst h; exact wordOf_n s hs w
set_option maxHeartbeats 1000000 in
theorem TagValid_i (k v : ByteArray) (c : Bool) (hk : k.size ≤ 1099511627776) (hv : v.size ≤ 1099511627776) (w : World) : Calls Try.prog 18 #[.agg #[.string k, .string v, .bool c]] w fun e w' => e = .returned (.bool (tvB k v)) ∧ Below w.heap.size w w' := by
  by_cases h : k.toList = []
  · rw [tv_e h]
    have W := Lib.hid (wz_of hv rfl)
    have h2 : k.toList.isEmpty = true := by rw [h]; rfl
    generalize wordB true v = b at *
    go_enter Try.func18, Try.ntmps18
    go_wp2_with fail
    refine (W.out _).mono ?_
    rintro e w1 ⟨rfl, bw1⟩
    have sw1 := bw1.size
    (try simp at sw1)
    have Aw1 : Below w.heap.size w w1 := Below.trans (by (repeat' (first | (with_reducible assumption) | (with_reducible exact Below.refl _ _) | (with_reducible refine bdN ?_ _) | (with_reducible refine Below.alloc ?_ ?_ _) | (with_reducible refine Below.drew ?_) | (with_reducible refine Below.setCell ?_ ?_ _) | go_size))) (bw1.mono (by go_size))
    clear bw1
    go_wp2_with fail
    go_ret
    exact ⟨rfl, by (repeat' (first | (with_reducible assumption) | (with_reducible exact Below.refl _ _) | (with_reducible refine bdN ?_ _) | (with_reducible refine Below.alloc ?_ ?_ _) | (with_reducible refine Below.drew ?_) | (with_reducible refine Below.setCell ?_ ?_ _) | go_size))⟩
  · rw [tv_k h]
    have W := Lib.hid (wn_of hk rfl)
    have W2 := Lib.hid (wn_of hv rfl)
    have h2 : k.toList.isEmpty = false := by simpa using h
    generalize wordB false k = b at *
    generalize wordB false v = b2 at *
    cases b
    · go_enter Try.func18, Try.ntmps18
      go_wp2_with fail
      refine (W.out _).mono ?_
      rintro e w1 ⟨rfl, bw1⟩
      have sw1 := bw1.size
      (try simp at sw1)
      have Aw1 : Below w.heap.size w w1 := Below.trans (by (repeat' (first | (with_reducible assumption) | (with_reducible exact Below.refl _ _) | (with_reducible refine bdN ?_ _) | (with_reducible refine Below.alloc ?_ ?_ _) | (with_reducible refine Below.drew ?_) | (with_reducible refine Below.setCell ?_ ?_ _) | go_size))) (bw1.mono (by go_size))
      clear bw1
      go_wp2_with fail
      go_ret
      exact ⟨rfl, by (repeat' (first | (with_reducible assumption) | (with_reducible exact Below.refl _ _) | (with_reducible refine bdN ?_ _) | (with_reducible refine Below.alloc ?_ ?_ _) | (with_reducible refine Below.drew ?_) | (with_reducible refine Below.setCell ?_ ?_ _) | go_size))⟩
    · go_enter Try.func18, Try.ntmps18
      go_wp2_with fail
      refine (W.out _).mono ?_
      rintro e w1 ⟨rfl, bw1⟩
      have sw1 := bw1.size
      (try simp at sw1)
      have Aw1 : Below w.heap.size w w1 := Below.trans (by (repeat' (first | (with_reducible assumption) | (with_reducible exact Below.refl _ _) | (with_reducible refine bdN ?_ _) | (with_reducible refine Below.alloc ?_ ?_ _) | (with_reducible refine Below.drew ?_) | (with_reducible refine Below.setCell ?_ ?_ _) | go_size))) (bw1.mono (by go_size))
      have lw1_0 : w.heap.size < w1.heap.size := (by go_size)
      have zw1_wH : CellsAt w1 (w.heap.size) 0 [.string k, .string v, .bool c] := cells_keep (by (simp only [CellsAt]; (first | (go_simp; done) | ((repeat' (with_reducible refine And.intro ?_ ?_)) <;> (repeat' (first | (with_reducible assumption) | (with_reducible exact trivial) | (with_reducible refine kA _ ?_) | (with_reducible refine kD ?_) | (with_reducible refine kS _ ?_ ?_) | (with_reducible refine fA _ ?_ ?_) | (with_reducible refine fD ?_) | (with_reducible refine fS _ ?_) | go_size | (go_simp; done))))))) (fun o => bw1.cell (p := ⟨_, o, none⟩) (by go_size)) (fun o => bw1.frozen (p := ⟨_, o, none⟩) (by go_size))
      simp only [CellsAt] at zw1_wH
      clear bw1
      go_wp2_with fail
      refine (W2.out _).mono ?_
      rintro e w2 ⟨rfl, bw2⟩
      have sw2 := bw2.size
      (try simp at sw2)
      have Aw2 : Below w.heap.size w w2 := Below.trans (by (repeat' (first | (with_reducible assumption) | (with_reducible exact Below.refl _ _) | (with_reducible refine bdN ?_ _) | (with_reducible refine Below.alloc ?_ ?_ _) | (with_reducible refine Below.drew ?_) | (with_reducible refine Below.setCell ?_ ?_ _) | go_size))) (bw2.mono (by go_size))
      have lw2_0 : w.heap.size < w2.heap.size := (by go_size)
      have zw2_wH : CellsAt w2 (w.heap.size) 0 [.string k, .string v, .bool c] := cells_keep (by (simp only [CellsAt]; (first | (go_simp; done) | ((repeat' (with_reducible refine And.intro ?_ ?_)) <;> (repeat' (first | (with_reducible assumption) | (with_reducible exact trivial) | (with_reducible refine kA _ ?_) | (with_reducible refine kD ?_) | (with_reducible refine kS _ ?_ ?_) | (with_reducible refine fA _ ?_ ?_) | (with_reducible refine fD ?_) | (with_reducible refine fS _ ?_) | go_size | (go_simp; done))))))) (fun o => bw2.cell (p := ⟨_, o, none⟩) (by go_size)) (fun o => bw2.frozen (p := ⟨_, o, none⟩) (by go_size))
      simp only [CellsAt] at zw2_wH
      clear zw1_wH
      clear bw2
      go_wp2_with fail
      go_ret
      exact ⟨rfl, by (repeat' (first | (with_reducible assumption) | (with_reducible exact Below.refl _ _) | (with_reducible refine bdN ?_ _) | (with_reducible refine Below.alloc ?_ ?_ _) | (with_reducible refine Below.drew ?_) | (with_reducible refine Below.setCell ?_ ?_ _) | go_size))⟩
end Go.Proofs.Ytbgpdjceofofoaa
