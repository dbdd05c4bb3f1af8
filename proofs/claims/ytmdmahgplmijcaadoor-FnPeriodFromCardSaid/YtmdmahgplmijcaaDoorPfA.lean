/- Reading a period by the reference: the plain function, and that the reference's PeriodFrom gives it. Condition: the text is not longer than 2^40 bytes. -/
import Derived.Test.YtmdmahgplmijcaaDoorPars
namespace Go.Proofs.YtmdmahgplmijcaaDoor
set_option linter.unusedSimpArgs false
open Go.RowKit DN
set_option linter.unusedVariables false

/-- one part: digits and a letter -/
def itm (g : Nat → Nat → List Int → Option (List Int)) (l : List UInt8) (p j : Nat) (t : Bool) (v : List Int) : Option (List Int) :=
  if runL l p = 0 ∨ 4 < runL l p ∨ l.length ≤ p + runL l p then none
  else if ((l.getD (p + runL l p) 0).toNat : Int) = 87 then (if p = 1 ∧ p + runL l p + 1 = l.length ∧ 7 * numAt l p (runL l p) ≤ 9999 then some [0, 0, 7 * numAt l p (runL l p), 0, 0, 0] else none)
  else if ixL (l.getD (p + runL l p) 0).toNat t < (j : Int) then none
  else g (p + runL l p + 1) ((ixL (l.getD (p + runL l p) 0).toNat t).toNat + 1) (v.set (ixL (l.getD (p + runL l p) 0).toNat t).toNat (numAt l p (runL l p)))
/-- the parts of a period from a place on -/
def prs : Nat → List UInt8 → Nat → Nat → Bool → List Int → Option (List Int)
  | 0, _, _, _, _, _ => none
  | f + 1, l, p, j, t, v =>
    if p = l.length then some v
    else if ((l.getD p 0).toNat : Int) = 84 ∧ t = false then (if p + 1 = l.length then none else itm (fun p' j' v' => prs f l p' j' true v') l (p + 1) j true v)
    else itm (fun p' j' v' => prs f l p' j' t v') l p j t v
/-- what reading a period gives -/
def pfL (l : List UInt8) : Option (List Int) := if l.length < 3 ∨ ¬ ((l.getD 0 0).toNat : Int) = 80 then none else prs (l.length + 1) l 1 0 false [0, 0, 0, 0, 0, 0]
/-- as the functions give it -/
def outP (R : Option (List Int)) : Value := match R with
  | some v => .tuple #[.agg (v.map (Value.int .i64)).toArray, .bool true]
  | none => .tuple #[.agg #[.int .i64 0, .int .i64 0, .int .i64 0, .int .i64 0, .int .i64 0, .int .i64 0], .bool false]
theorem itm_none {g : Nat → Nat → List Int → Option (List Int)} {l : List UInt8} {p j : Nat} {t : Bool} {v : List Int} (h : runL l p = 0 ∨ 4 < runL l p ∨ l.length ≤ p + runL l p) : itm g l p j t v = none := if_pos h
theorem itm_W {g : Nat → Nat → List Int → Option (List Int)} {l : List UInt8} {p j : Nat} {t : Bool} {v : List Int} (h : ¬ (runL l p = 0 ∨ 4 < runL l p ∨ l.length ≤ p + runL l p)) (hw : ((l.getD (p + runL l p) 0).toNat : Int) = 87) :
    itm g l p j t v = if p = 1 ∧ p + runL l p + 1 = l.length ∧ 7 * numAt l p (runL l p) ≤ 9999 then some [0, 0, 7 * numAt l p (runL l p), 0, 0, 0] else none := (if_neg h).trans (if_pos hw)
theorem itm_no {g : Nat → Nat → List Int → Option (List Int)} {l : List UInt8} {p j : Nat} {t : Bool} {v : List Int} (h : ¬ (runL l p = 0 ∨ 4 < runL l p ∨ l.length ≤ p + runL l p)) (hw : ¬ ((l.getD (p + runL l p) 0).toNat : Int) = 87) (hi : ixL (l.getD (p + runL l p) 0).toNat t < (j : Int)) : itm g l p j t v = none := (if_neg h).trans ((if_neg hw).trans (if_pos hi))
theorem itm_go {g : Nat → Nat → List Int → Option (List Int)} {l : List UInt8} {p j : Nat} {t : Bool} {v : List Int} (h : ¬ (runL l p = 0 ∨ 4 < runL l p ∨ l.length ≤ p + runL l p)) (hw : ¬ ((l.getD (p + runL l p) 0).toNat : Int) = 87) (hi : ¬ ixL (l.getD (p + runL l p) 0).toNat t < (j : Int)) :
    itm g l p j t v = g (p + runL l p + 1) ((ixL (l.getD (p + runL l p) 0).toNat t).toNat + 1) (v.set (ixL (l.getD (p + runL l p) 0).toNat t).toNat (numAt l p (runL l p))) := (if_neg h).trans ((if_neg hw).trans (if_neg hi))
theorem prs_T {f : Nat} {l : List UInt8} {p j : Nat} {v : List Int} (h : p ≠ l.length) (ht : ((l.getD p 0).toNat : Int) = 84) : prs (f + 1) l p j false v = if p + 1 = l.length then none else itm (fun p' j' v' => prs f l p' j' true v') l (p + 1) j true v := by
  rw [prs, if_neg h, if_pos ⟨ht, rfl⟩]
theorem prs_I {f : Nat} {l : List UInt8} {p j : Nat} {t : Bool} {v : List Int} (h : p ≠ l.length) (ht : ¬ (((l.getD p 0).toNat : Int) = 84 ∧ t = false)) : prs (f + 1) l p j t v = itm (fun p' j' v' => prs f l p' j' t v') l p j t v := by
  rw [prs, if_neg h, if_neg ht]
theorem prs_end {f : Nat} {l : List UInt8} {j : Nat} {t : Bool} {v : List Int} : prs (f + 1) l l.length j t v = some v := by rw [prs, if_pos rfl]
theorem getD_eq (s : ByteArray) (p : Nat) (h : p < s.size) : (s.data.toList.getD p 0).toNat = s[p].toNat := by
  rw [List.getD_eq_getElem?_getD, List.getElem?_eq_getElem (by simpa using h)]; rfl

theorem get_bad_s (s : ByteArray) (z k : Int) (w : World) (hk : ¬ (1 ≤ k ∧ k ≤ 6)) : Calls Tryd.prog 21 #[.string s, .int .i64 z, .int .i64 k] w fun e w' => e = .returned (.tuple #[.int .i64 0, .bool false]) ∧ w = w' := by
  have V := Lib.hid (l6_of2 (n := k) (a := 1) (c := 6) (b := false) (inB_f hk))
  clear hk
  go_enter Tryd.func21, Tryd.ntmps21
  go_wp2_with fail
  refine (V.out _).mono ?_
  rintro e w' ⟨rfl, rfl⟩
  go_wp2_with fail
  go_ret2
  exact ⟨rfl, rfl⟩
theorem letter_of {b : Int} {t : Bool} {i : Int} (h : ixL b t = i) (w : World) : Calls Tryd.prog 22 #[.int .u8 b, .bool t] w fun e w' => e = .returned (.int .i64 i) ∧ w = w' := by rw [← h]; exact l15Letter_s b t w
set_option maxHeartbeats 2000000 in
theorem l15Of_s (x : Nat) (a b c d e f : Int) (w : World) (h : CellsAt w x 0 [.int .i64 a, .int .i64 b, .int .i64 c, .int .i64 d, .int .i64 e, .int .i64 f]) (hx : x < w.heap.size) : Calls Tryd.prog 23 #[.slice (some ⟨x, 0, none⟩) 6 6] w fun en w' => en = .returned (.agg #[.int .i64 a, .int .i64 b, .int .i64 c, .int .i64 d, .int .i64 e, .int .i64 f]) ∧ Below w.heap.size w w' := by
  simp only [CellsAt] at h
  go_enter Tryd.func23, Tryd.ntmps23
  go_wp2_with fail
  go_region_held3 (fun w' => w'.cell? ⟨x, 0, none⟩ = some (.int .i64 a) ∧ w'.cell? ⟨x, 1, none⟩ = some (.int .i64 b) ∧ w'.cell? ⟨x, 2, none⟩ = some (.int .i64 c) ∧ w'.cell? ⟨x, 3, none⟩ = some (.int .i64 d) ∧ w'.cell? ⟨x, 4, none⟩ = some (.int .i64 e) ∧ w'.cell? ⟨x, 5, none⟩ = some (.int .i64 f)) (((repeat' (with_reducible refine And.intro ?_ ?_)) <;> (first | (with_reducible assumption) | (go_simp; done) | (repeat' (first | (with_reducible assumption) | (with_reducible refine kA _ ?_) | (with_reducible refine kD ?_) | (with_reducible refine kS _ ?_ ?_) | go_size | (go_simp; done)))))) (fail)
  all_goals
    go_wp2_with fail
    exact bodyPost_ret (v := .agg #[.int .i64 a, .int .i64 b, .int .i64 c, .int .i64 d, .int .i64 e, .int .i64 f]) (by simp [results, Tryd.results23, go_sem]) rfl ⟨rfl, by (repeat' (first | (with_reducible assumption) | (with_reducible exact Below.refl _ _) | (with_reducible refine bdN ?_ _) | (with_reducible refine Below.alloc ?_ ?_ _) | (with_reducible refine Below.drew ?_) | (with_reducible refine Below.setCell ?_ ?_ _) | go_size))⟩
theorem make6 (w : World) : (Instr.makeSlice 43 (.int .i64 6) (.int .i64 6)).run Tryd.prog w = .ok (.slice (some ⟨w.heap.size, 0, none⟩) 6 6) (w.alloc (.cells #[.int .i64 0, .int .i64 0, .int .i64 0, .int .i64 0, .int .i64 0, .int .i64 0] 3)) := by
  obtain ⟨i0, hi, hz0, hz1, hz2⟩ := info_parts (show (Tryd.prog.info? 3).map (fun i => (i.zero, i.size, i.bytes)) = some (some (.int .i64 0), 1, 8) by kernel_rfl)
  have hmk := run_make (P := Tryd.prog) w 43 3 i0 (.int .i64 0) Tryd.underlying43 hi hz0 .i64 .i64 6 6 (by omega) (by omega) (by rw [hz2]; omega) (by omega)
  have hcs : madeCells #[.int .i64 0] 6 = #[.int .i64 0, .int .i64 0, .int .i64 0, .int .i64 0, .int .i64 0, .int .i64 0] := by kernel_rfl
  rw [hmk, hz1]
  show Result.ok (Value.slice (some ⟨w.heap.size, 0, none⟩) 6 6) (w.alloc (.cells (madeCells #[.int .i64 0] 6) 3)) = _
  rw [hcs]
end Go.Proofs.YtmdmahgplmijcaaDoor
