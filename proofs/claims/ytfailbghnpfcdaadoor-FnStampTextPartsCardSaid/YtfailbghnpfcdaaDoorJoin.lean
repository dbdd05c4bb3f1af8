/- Contracts of the functions that join the parts of a date's text, by the program and by the reference. Conditions: the parts stand in memory and are short; there is such a date; the program's table of the months' days stands in memory ('Tab'). -/
import Derived.Test.YtfailbghnpfcdaaDoorDig
import Derived.Test.YtfailbghnpfcdaaDoorWeek
namespace Go.Proofs.YtfailbghnpfcdaaDoor
open Go.RowKit DN

/-- three parts, with hyphens between them or without -/
def jn3 (h : Bool) (a b c : ByteArray) : ByteArray := if h = true then (((a ++ ⟨#[45]⟩) ++ b) ++ ⟨#[45]⟩) ++ c else (a ++ b) ++ c
/-- two parts, with a hyphen between them or without -/
def jn2 (h : Bool) (a b : ByteArray) : ByteArray := if h = true then (a ++ ⟨#[45]⟩) ++ b else a ++ b
set_option maxHeartbeats 2000000 in
theorem l4Join_3 (x k : Nat) (a b c : ByteArray) (h : Bool) (w : World) (h0 : w.cell? ⟨x, 0, none⟩ = some (.string a)) (h1 : w.cell? ⟨x, 1, none⟩ = some (.string b)) (h2 : w.cell? ⟨x, 2, none⟩ = some (.string c)) (s0 : a.size ≤ 100) (s1 : b.size ≤ 100) (s2 : c.size ≤ 100) : Calls Tryd.prog 21 #[.slice (some ⟨x, 0, none⟩) 3 k, .bool h] w fun e w' => e = .returned (.string (jn3 h a b c)) ∧ w = w' := by
  cases h
  · go_enter Tryd.func21, Tryd.ntmps21
    go_wp2_with fail
    refine wp_loop_rounds 4 ?_
    rw [rounds_succ]
    go_wp2_with fail
    rw [rounds_succ]
    go_wp2_with fail
    rw [rounds_succ]
    go_wp2_with fail
    rw [rounds_succ]
    go_wp2_with fail
    go_ret
    exact ⟨ret_str (by simp only [nil_add]; rfl), rfl⟩
  · go_enter Tryd.func21, Tryd.ntmps21
    go_wp2_with fail
    refine wp_loop_rounds 4 ?_
    rw [rounds_succ]
    go_wp2_with fail
    rw [rounds_succ]
    go_wp2_with fail
    rw [rounds_succ]
    go_wp2_with fail
    rw [rounds_succ]
    go_wp2_with fail
    go_ret
    exact ⟨ret_str (by simp only [nil_add]; rfl), rfl⟩
set_option maxHeartbeats 2000000 in
theorem l4Join_2 (x k : Nat) (a b : ByteArray) (h : Bool) (w : World) (h0 : w.cell? ⟨x, 0, none⟩ = some (.string a)) (h1 : w.cell? ⟨x, 1, none⟩ = some (.string b)) (s0 : a.size ≤ 100) (s1 : b.size ≤ 100) : Calls Tryd.prog 21 #[.slice (some ⟨x, 0, none⟩) 2 k, .bool h] w fun e w' => e = .returned (.string (jn2 h a b)) ∧ w = w' := by
  cases h
  · go_enter Tryd.func21, Tryd.ntmps21
    go_wp2_with fail
    refine wp_loop_rounds 3 ?_
    rw [rounds_succ]
    go_wp2_with fail
    rw [rounds_succ]
    go_wp2_with fail
    rw [rounds_succ]
    go_wp2_with fail
    go_ret
    exact ⟨ret_str (by simp only [nil_add]; rfl), rfl⟩
  · go_enter Tryd.func21, Tryd.ntmps21
    go_wp2_with fail
    refine wp_loop_rounds 3 ?_
    rw [rounds_succ]
    go_wp2_with fail
    rw [rounds_succ]
    go_wp2_with fail
    rw [rounds_succ]
    go_wp2_with fail
    go_ret
    exact ⟨ret_str (by simp only [nil_add]; rfl), rfl⟩

/-- the parts of a date's text: a slice of texts, newly made -/
def Parts (w : World) (vs : List Value) (e : Ending) (w' : World) : Prop := ∃ x k : Nat, e = .returned (.slice (some ⟨x, 0, none⟩) vs.length k) ∧ x < w'.heap.size ∧ CellsAt w' x 0 vs ∧ Below w.heap.size w w'
end Go.Proofs.YtfailbghnpfcdaaDoor
