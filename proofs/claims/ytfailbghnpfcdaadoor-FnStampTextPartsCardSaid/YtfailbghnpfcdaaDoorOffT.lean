/- Contracts of the text of an offset, by the program and by the reference. No condition. -/
import Derived.Test.YtfailbghnpfcdaaDoorDig
namespace Go.Proofs.YtfailbghnpfcdaaDoor
set_option linter.unusedSimpArgs false
set_option linter.unusedVariables false
open Go.RowKit DN

/-- the text of an offset -/
def offS (o : Int) : ByteArray :=
  if o = 0 then ⟨#[90]⟩ else if 1 ≤ o ∧ o ≤ 1439 then ((⟨#[43]⟩ ++ dgS 2 (o / 60)) ++ ⟨#[58]⟩) ++ dgS 2 (o % 60)
  else if -1439 ≤ o ∧ o ≤ -1 then ((⟨#[45]⟩ ++ dgS 2 (-o / 60)) ++ ⟨#[58]⟩) ++ dgS 2 (-o % 60) else ⟨#[]⟩
theorem offS_pos {o : Int} (h1 : 1 ≤ o) (h2 : o ≤ 1439) : offS o = ((⟨#[43]⟩ ++ dgS 2 (o / 60)) ++ ⟨#[58]⟩) ++ dgS 2 (o % 60) := by unfold offS; rw [if_neg (by omega), if_pos ⟨h1, h2⟩]
theorem offS_neg {o : Int} (h1 : -1439 ≤ o) (h2 : o ≤ -1) : offS o = ((⟨#[45]⟩ ++ dgS 2 (-o / 60)) ++ ⟨#[58]⟩) ++ dgS 2 (-o % 60) := by unfold offS; rw [if_neg (by omega), if_neg (by omega), if_pos ⟨h1, h2⟩]
theorem offS_neg' {n : Int} (h1 : n ≤ 1439) (h2 : 1 ≤ n) : offS (-n) = ((⟨#[45]⟩ ++ dgS 2 (n / 60)) ++ ⟨#[58]⟩) ++ dgS 2 (n % 60) := by rw [offS_neg (by omega) (by omega), Int.neg_neg]
theorem offS_bad {o : Int} (h : ¬ (-1439 ≤ o ∧ o ≤ 1439)) : offS o = ⟨#[]⟩ := by unfold offS; rw [if_neg (by omega), if_neg (by omega), if_neg (by omega)]

theorem offValid_any (o : Int) (w : World) : Calls Tryd.prog 42 #[.int .i64 o] w fun e w' => e = .returned (.bool (inB o (-1439) 1439)) ∧ w = w' := by
  go_enter Tryd.func42, Tryd.ntmps42
  go_wp2_with fail
  refine (within_any _ _ _ _).mono ?_
  rintro e w' ⟨rfl, rfl⟩
  go_wp2_with fail
  go_ret
  exact ⟨rfl, rfl⟩
/-- the bits of an offset -/
def bitsOf (o : Int) : Int := if o = 0 then 1 else if o < 0 then 2 else 0
theorem signOf_any (o : Int) (w : World) : Calls Tryd.prog 43 #[.int .i64 o] w fun e w' => e = .returned (.int .u64 (bitsOf o)) ∧ w = w' := by
  by_cases h0 : o = 0
  · subst h0
    go_enter Tryd.func43, Tryd.ntmps43
    go_wp2
    go_ret
    exact ⟨rfl, rfl⟩
  · by_cases h1 : o < 0
    all_goals
      have hb : (o == 0) = false := by simpa using h0
      go_enter Tryd.func43, Tryd.ntmps43
      go_wp2
      go_ret
      exact ⟨ret_int (by simp [bitsOf, h0, h1]), rfl⟩

theorem bits_of {o b : Int} (hb : bitsOf o = b) (w : World) : Calls Tryd.prog 43 #[.int .i64 o] w fun e w' => e = .returned (.int .u64 b) ∧ w = w' := by rw [← hb]; exact signOf_any o w
theorem off_of {o : Int} {b : Bool} (hb : inB o (-1439) 1439 = b) (w : World) : Calls Tryd.prog 42 #[.int .i64 o] w fun e w' => e = .returned (.bool b) ∧ w = w' := by rw [← hb]; exact offValid_any o w

set_option maxHeartbeats 2000000 in
theorem OffsetText_i (o : Int) (w : World) : Calls Tryd.prog 19 #[.int .i64 o] w fun e w' => e = .returned (.string (offS o)) ∧ Below w.heap.size w w' := by
  by_cases hv : -1439 ≤ o ∧ o ≤ 1439
  · have V := Lib.hid (off_of (inB_t hv.1 hv.2))
    have s2 := fun n => dgS_size 2 n
    obtain ⟨v1, v2⟩ := hv
    by_cases h0 : o = 0
    · subst h0
      have B := Lib.hid (bits_of (o := 0) (b := 1) rfl)
      have b1 : (bits BinOp.and IntKind.u64 1 1 != 0) = true := by decide
      go_enter Tryd.func19, Tryd.ntmps19
      go_wp2_with fail
      refine (V.out _).mono ?_
      rintro e w' ⟨rfl, rfl⟩
      go_wp2_with fail
      refine (B.out _).mono ?_
      rintro e w' ⟨rfl, rfl⟩
      go_wp2_with fail
      go_ret
      exact ⟨rfl, Below.refl _ _⟩
    · by_cases h1 : o < 0
      · obtain ⟨n, rfl⟩ : ∃ n, o = -n := ⟨-o, by omega⟩
        have B := Lib.hid (bits_of (o := -n) (b := 2) (by simp only [bitsOf, h0, h1, if_true, if_false]))
        have E := Lib.hid (offS_neg' (n := n) (by omega) (by omega))
        have b1 : (bits BinOp.and IntKind.u64 2 1 != 0) = false := by decide
        have b2 : (bits BinOp.and IntKind.u64 2 2 != 0) = true := by decide
        have n1 : 1 ≤ n := by omega
        have n2 : n ≤ 1439 := by omega
        clear h0 v1 v2 h1
        go_enter Tryd.func19, Tryd.ntmps19
        go_wp2_with fail
        refine (V.out _).mono ?_
        rintro e w' ⟨rfl, rfl⟩
        go_wp2_with fail
        refine (B.out _).mono ?_
        rintro e w' ⟨rfl, rfl⟩
        go_wp2_with fail
        refine (digits_2 _ _ (by omega) (by omega)).mono ?_
        rintro e w1 ⟨rfl, bw1⟩
        have sw1 := bw1.size
        (try simp at sw1)
        have Aw1 : Below w.heap.size w w1 := Below.trans (by (repeat' (first | (with_reducible assumption) | (with_reducible exact Below.refl _ _) | (with_reducible refine bdN ?_ _) | (with_reducible refine Below.alloc ?_ ?_ _) | (with_reducible refine Below.drew ?_) | (with_reducible refine Below.setCell ?_ ?_ _) | go_size))) (bw1.mono (by go_size))
        clear bw1
        go_wp2_with fail
        refine (digits_2 _ _ (by omega) (by omega)).mono ?_
        rintro e w2 ⟨rfl, bw2⟩
        have sw2 := bw2.size
        (try simp at sw2)
        have Aw2 : Below w.heap.size w w2 := Below.trans (by (repeat' (first | (with_reducible assumption) | (with_reducible exact Below.refl _ _) | (with_reducible refine bdN ?_ _) | (with_reducible refine Below.alloc ?_ ?_ _) | (with_reducible refine Below.drew ?_) | (with_reducible refine Below.setCell ?_ ?_ _) | go_size))) (bw2.mono (by go_size))
        clear bw2
        go_wp2_with fail
        go_ret
        exact ⟨ret_str (by rw [E.out]), by (repeat' (first | (with_reducible assumption) | (with_reducible exact Below.refl _ _) | (with_reducible refine bdN ?_ _) | (with_reducible refine Below.alloc ?_ ?_ _) | (with_reducible refine Below.drew ?_) | (with_reducible refine Below.setCell ?_ ?_ _) | go_size))⟩
      · have B := Lib.hid (bits_of (o := o) (b := 0) (by simp [bitsOf, h0, h1]))
        have E := Lib.hid (offS_pos (o := o) (by omega) v2)
        have h1' : 0 < o := by omega
        have b1 : (bits BinOp.and IntKind.u64 0 1 != 0) = false := by decide
        have b2 : (bits BinOp.and IntKind.u64 0 2 != 0) = false := by decide
        clear h0 h1
        go_enter Tryd.func19, Tryd.ntmps19
        go_wp2_with fail
        refine (V.out _).mono ?_
        rintro e w' ⟨rfl, rfl⟩
        go_wp2_with fail
        refine (B.out _).mono ?_
        rintro e w' ⟨rfl, rfl⟩
        go_wp2_with fail
        refine (digits_2 _ _ (by omega) (by omega)).mono ?_
        rintro e w1 ⟨rfl, bw1⟩
        have sw1 := bw1.size
        (try simp at sw1)
        have Aw1 : Below w.heap.size w w1 := Below.trans (by (repeat' (first | (with_reducible assumption) | (with_reducible exact Below.refl _ _) | (with_reducible refine bdN ?_ _) | (with_reducible refine Below.alloc ?_ ?_ _) | (with_reducible refine Below.drew ?_) | (with_reducible refine Below.setCell ?_ ?_ _) | go_size))) (bw1.mono (by go_size))
        clear bw1
        go_wp2_with fail
        refine (digits_2 _ _ (by omega) (by omega)).mono ?_
        rintro e w2 ⟨rfl, bw2⟩
        have sw2 := bw2.size
        (try simp at sw2)
        have Aw2 : Below w.heap.size w w2 := Below.trans (by (repeat' (first | (with_reducible assumption) | (with_reducible exact Below.refl _ _) | (with_reducible refine bdN ?_ _) | (with_reducible refine Below.alloc ?_ ?_ _) | (with_reducible refine Below.drew ?_) | (with_reducible refine Below.setCell ?_ ?_ _) | go_size))) (bw2.mono (by go_size))
        clear bw2
        go_wp2_with fail
        go_ret
        exact ⟨ret_str (by rw [E.out]), by (repeat' (first | (with_reducible assumption) | (with_reducible exact Below.refl _ _) | (with_reducible refine bdN ?_ _) | (with_reducible refine Below.alloc ?_ ?_ _) | (with_reducible refine Below.drew ?_) | (with_reducible refine Below.setCell ?_ ?_ _) | go_size))⟩
  · have V := Lib.hid (off_of (inB_f hv))
    have E := Lib.hid (offS_bad hv)
    clear hv
    go_enter Tryd.func19, Tryd.ntmps19
    go_wp2_with fail
    refine (V.out _).mono ?_
    rintro e w' ⟨rfl, rfl⟩
    go_wp2_with fail
    go_ret
    exact ⟨ret_str (by rw [E.out]), Below.refl _ _⟩

theorem l6_of {n a c : Int} {b : Bool} (hb : inB n a c = b) (w : World) : Calls Tryd.prog 44 #[.int .i64 n, .int .i64 a, .int .i64 c] w fun e w' => e = .returned (.bool b) ∧ w = w' := by rw [← hb]; exact l6In_any n a c w
set_option maxHeartbeats 2000000 in
theorem OffsetText_s (o : Int) (w : World) : Calls Tryd.prog 57 #[.int .i64 o] w fun e w' => e = .returned (.string (offS o)) ∧ Below w.heap.size w w' := by
  by_cases hv : -1439 ≤ o ∧ o ≤ 1439
  · have V := Lib.hid (l6_of (inB_t hv.1 hv.2))
    have s2 := fun n => dgS_size 2 n
    obtain ⟨v1, v2⟩ := hv
    by_cases h0 : o = 0
    · subst h0
      go_enter Tryd.func57, Tryd.ntmps57
      go_wp2_with fail
      refine (V.out _).mono ?_
      rintro e w' ⟨rfl, rfl⟩
      go_wp2_with fail
      go_ret
      exact ⟨rfl, Below.refl _ _⟩
    · have hb : (o == 0) = false := by simpa using h0
      by_cases h1 : o < 0
      · obtain ⟨n, rfl⟩ : ∃ n, o = -n := ⟨-o, by omega⟩
        have E := Lib.hid (offS_neg' (n := n) (by omega) (by omega))
        have n1 : 1 ≤ n := by omega
        have n2 : n ≤ 1439 := by omega
        clear h0 v1 v2
        go_enter Tryd.func57, Tryd.ntmps57
        go_wp2_with fail
        refine (V.out _).mono ?_
        rintro e w' ⟨rfl, rfl⟩
        go_wp2_with fail
        refine (l1Put_2 _ _ (by omega) (by omega)).mono ?_
        rintro e w1 ⟨rfl, bw1⟩
        have sw1 := bw1.size
        (try simp at sw1)
        have Aw1 : Below w.heap.size w w1 := Below.trans (by (repeat' (first | (with_reducible assumption) | (with_reducible exact Below.refl _ _) | (with_reducible refine bdN ?_ _) | (with_reducible refine Below.alloc ?_ ?_ _) | (with_reducible refine Below.drew ?_) | (with_reducible refine Below.setCell ?_ ?_ _) | go_size))) (bw1.mono (by go_size))
        clear bw1
        go_wp2_with fail
        refine (l1Put_2 _ _ (by omega) (by omega)).mono ?_
        rintro e w2 ⟨rfl, bw2⟩
        have sw2 := bw2.size
        (try simp at sw2)
        have Aw2 : Below w.heap.size w w2 := Below.trans (by (repeat' (first | (with_reducible assumption) | (with_reducible exact Below.refl _ _) | (with_reducible refine bdN ?_ _) | (with_reducible refine Below.alloc ?_ ?_ _) | (with_reducible refine Below.drew ?_) | (with_reducible refine Below.setCell ?_ ?_ _) | go_size))) (bw2.mono (by go_size))
        clear bw2
        go_wp2_with fail
        go_ret
        exact ⟨ret_str (by rw [E.out]), by (repeat' (first | (with_reducible assumption) | (with_reducible exact Below.refl _ _) | (with_reducible refine bdN ?_ _) | (with_reducible refine Below.alloc ?_ ?_ _) | (with_reducible refine Below.drew ?_) | (with_reducible refine Below.setCell ?_ ?_ _) | go_size))⟩
      · have E := Lib.hid (offS_pos (o := o) (by omega) v2)
        have h1' : 0 < o := by omega
        clear h0
        go_enter Tryd.func57, Tryd.ntmps57
        go_wp2_with fail
        refine (V.out _).mono ?_
        rintro e w' ⟨rfl, rfl⟩
        go_wp2_with fail
        refine (l1Put_2 _ _ (by omega) (by omega)).mono ?_
        rintro e w1 ⟨rfl, bw1⟩
        have sw1 := bw1.size
        (try simp at sw1)
        have Aw1 : Below w.heap.size w w1 := Below.trans (by (repeat' (first | (with_reducible assumption) | (with_reducible exact Below.refl _ _) | (with_reducible refine bdN ?_ _) | (with_reducible refine Below.alloc ?_ ?_ _) | (with_reducible refine Below.drew ?_) | (with_reducible refine Below.setCell ?_ ?_ _) | go_size))) (bw1.mono (by go_size))
        clear bw1
        go_wp2_with fail
        refine (l1Put_2 _ _ (by omega) (by omega)).mono ?_
        rintro e w2 ⟨rfl, bw2⟩
        have sw2 := bw2.size
        (try simp at sw2)
        have Aw2 : Below w.heap.size w w2 := Below.trans (by (repeat' (first | (with_reducible assumption) | (with_reducible exact Below.refl _ _) | (with_reducible refine bdN ?_ _) | (with_reducible refine Below.alloc ?_ ?_ _) | (with_reducible refine Below.drew ?_) | (with_reducible refine Below.setCell ?_ ?_ _) | go_size))) (bw2.mono (by go_size))
        clear bw2
        go_wp2_with fail
        go_ret
        exact ⟨ret_str (by rw [E.out]), by (repeat' (first | (with_reducible assumption) | (with_reducible exact Below.refl _ _) | (with_reducible refine bdN ?_ _) | (with_reducible refine Below.alloc ?_ ?_ _) | (with_reducible refine Below.drew ?_) | (with_reducible refine Below.setCell ?_ ?_ _) | go_size))⟩
  · have V := Lib.hid (l6_of (inB_f hv))
    have E := Lib.hid (offS_bad hv)
    clear hv
    go_enter Tryd.func57, Tryd.ntmps57
    go_wp2_with fail
    refine (V.out _).mono ?_
    rintro e w' ⟨rfl, rfl⟩
    go_wp2_with fail
    go_ret
    exact ⟨ret_str (by rw [E.out]), Below.refl _ _⟩
end Go.Proofs.YtfailbghnpfcdaaDoor
