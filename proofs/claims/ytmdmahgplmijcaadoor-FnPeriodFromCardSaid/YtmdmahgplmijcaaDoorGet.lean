/- Contracts of the number of so many digits at a place of a text, by the program and by the reference. Conditions: the text is not longer than 2^40 bytes, the place lies in it, one to six digits are asked. -/
import Derived.Test.YtmdmahgplmijcaaDoorDig
namespace Go.Proofs.YtmdmahgplmijcaaDoor
set_option linter.unusedVariables false
set_option linter.unusedSimpArgs false
open Go.RowKit DN

theorem l6_of2 {n a c : Int} {b : Bool} (hb : inB n a c = b) (w : World) : Calls Tryd.prog 35 #[.int .i64 n, .int .i64 a, .int .i64 c] w fun e w' => e = .returned (.bool b) ∧ w = w' := by rw [← hb]; exact l6In_any n a c w
theorem within_of {n a c : Int} {b : Bool} (hb : inB n a c = b) (w : World) : Calls Tryd.prog 26 #[.int .i64 n, .int .i64 a, .int .i64 c] w fun e w' => e = .returned (.bool b) ∧ w = w' := by rw [← hb]; exact within_any n a c w

set_option maxHeartbeats 1000000 in
theorem l1Digit_in (s : ByteArray) (p : Nat) (z : Int) (hz : z = p) (hs : s.size ≤ 1099511627776) (h : p < s.size) (v : Bool) (hv : isDg s[p] = v) (w : World) :
    Calls Tryd.prog 34 #[.string s, .int .i64 z] w fun e w' => e = .returned (.bool v) ∧ w = w' := by
  subst hz
  have V := Lib.hid (l6_of2 (n := p) (a := 0) (c := (s.size : Int) - 1) (b := true) (inB_t (by omega) (by omega)))
  have hd : dgI s[p].toNat = v := hv
  cases v
  · have hn := dgI_f hd
    by_cases h1 : 48 ≤ (s[p].toNat : Int)
    · have h2 : decide ((s[p].toNat : Int) ≤ 57) = false := by simp; omega
      clear hd hn hv
      go_enter Tryd.func34, Tryd.ntmps34
      go_wp2_with fail
      refine (V.out _).mono ?_
      rintro e w' ⟨rfl, rfl⟩
      go_wp2_with fail
      go_ret
      exact ⟨rfl, rfl⟩
    · clear hd hn hv
      go_enter Tryd.func34, Tryd.ntmps34
      go_wp2_with fail
      refine (V.out _).mono ?_
      rintro e w' ⟨rfl, rfl⟩
      go_wp2_with fail
      go_ret
      exact ⟨rfl, rfl⟩
  · obtain ⟨h1, h2⟩ := dgI_t hd
    clear hd hv
    go_enter Tryd.func34, Tryd.ntmps34
    go_wp2_with fail
    refine (V.out _).mono ?_
    rintro e w' ⟨rfl, rfl⟩
    go_wp2_with fail
    go_ret
    exact ⟨rfl, rfl⟩
theorem l1Digit_out (s : ByteArray) (p : Nat) (z : Int) (hz : z = p) (hs : s.size ≤ 1099511627776) (h : s.size ≤ p) (w : World) :
    Calls Tryd.prog 34 #[.string s, .int .i64 z] w fun e w' => e = .returned (.bool false) ∧ w = w' := by
  subst hz
  have V := Lib.hid (l6_of2 (n := p) (a := 0) (c := (s.size : Int) - 1) (b := false) (inB_f (by omega)))
  go_enter Tryd.func34, Tryd.ntmps34
  go_wp2_with fail
  refine (V.out _).mono ?_
  rintro e w' ⟨rfl, rfl⟩
  go_wp2_with fail
  go_ret
  exact ⟨rfl, rfl⟩

set_option maxHeartbeats 2000000 in
theorem get_yes_s (s : ByteArray) (p k : Nat) (w : World) (hs : s.size ≤ 1099511627776) (hp : p ≤ s.size) (hk : k ≤ runL s.data.toList p) (hk1 : 1 ≤ k) (hk2 : k ≤ 6) :
    Calls Tryd.prog 21 #[.string s, .int .i64 p, .int .i64 k] w fun e w' => e = .returned (.tuple #[.int .i64 (numAt s.data.toList p k), .bool true]) ∧ w = w' := by
  have V := Lib.hid (l6_of2 (n := k) (a := 1) (c := 6) (b := true) (inB_t (by omega) (by omega)))
  have hl : s.data.toList.length = s.size := by simp
  have hR : p + runL s.data.toList p ≤ s.size := by have := runL_le (l := s.data.toList) (p := p) (by omega); omega
  have L1 := Lib.hid (fun j => runL_lt (l := s.data.toList) (p := p) (j := j))
  have NS := Lib.hid (fun j => numAt_succ (l := s.data.toList) (p := p) (k := j))
  have NB := Lib.hid (fun j => numAt_bd (l := s.data.toList) (p := p) (k := j))
  have NZ := Lib.hid (numAt_zero s.data.toList p)
  have HL := Lib.hid hl
  clear hl
  generalize runL s.data.toList p = R at *
  go_enter Tryd.func21, Tryd.ntmps21
  go_wp2_with fail
  refine (V.out _).mono ?_
  rintro e w' ⟨rfl, rfl⟩
  go_wp2_with fail
  go_loop [8, 9] (fun n i => ∃ j : Nat, j ≤ k ∧ n = .int .i64 (numAt s.data.toList p j) ∧ i = .int .i64 j) (fun _ i => k - (intOf i).toNat)
  case atStart => exact ⟨0, by omega, by rw [NZ.out], rfl⟩
  case round =>
    obtain ⟨j, hj, rfl, rfl⟩ := hrel
    by_cases hlt : j < k
    · have hb : p + j < s.size := by omega
      have hd : isDg s[p + j] = true := (L1.out j (by omega)).2
      have nb := NB.out j (by omega)
      have e1 := u8_sub s[p + j] hd
      have e2 := isDg_bd hd
      have pw : (10 : Int) ^ j ≤ 100000 := by
        have : j = 0 ∨ j = 1 ∨ j = 2 ∨ j = 3 ∨ j = 4 ∨ j = 5 := by omega
        rcases this with rfl | rfl | rfl | rfl | rfl | rfl <;> decide
      have n1 := nb.1
      have n2 : numAt s.data.toList p j ≤ 100000 := by omega
      have ns : numAt s.data.toList p (j + 1) = 10 * numAt s.data.toList p j + ((s[p + j].toNat : Int) - 48) := NS.out j (by have := HL.out; omega)
      have HS := Lib.hid ns
      have D := Lib.hid (l1Digit_in s (p + j) (↑p + ↑j) (by omega) hs hb true hd)
      obtain ⟨d1, d2⟩ := e2
      clear hd nb pw ns
      generalize hn' : numAt s.data.toList p (j + 1) = n' at *
      have HN := Lib.hid hn'
      clear hn'
      generalize numAt s.data.toList p j = n at *
      go_wp2_with fail
      refine (D.out _).mono ?_
      rintro e w' ⟨rfl, rfl⟩
      go_wp2_with fail
      go_round
      case rel => exact ⟨j + 1, by omega, by rw [HN.out, HS.out], by go_num⟩
      case measure => simp [intOf]; omega
    · obtain rfl : j = k := by omega
      go_wp2_with fail
      go_ret2
      exact ⟨rfl, rfl⟩
set_option maxHeartbeats 2000000 in
theorem get_no_s (s : ByteArray) (p k : Nat) (w : World) (hs : s.size ≤ 1099511627776) (hp : p ≤ 1099511627776) (hk : runL s.data.toList p < k) (hk1 : 1 ≤ k) (hk2 : k ≤ 6) :
    Calls Tryd.prog 21 #[.string s, .int .i64 p, .int .i64 k] w fun e w' => e = .returned (.tuple #[.int .i64 0, .bool false]) ∧ w = w' := by
  have V := Lib.hid (l6_of2 (n := k) (a := 1) (c := 6) (b := true) (inB_t (by omega) (by omega)))
  have hl : s.data.toList.length = s.size := by simp
  have L1 := Lib.hid (fun j => runL_lt (l := s.data.toList) (p := p) (j := j))
  have L2 := Lib.hid (runL_end (l := s.data.toList) (p := p))
  have NS := Lib.hid (fun j => numAt_succ (l := s.data.toList) (p := p) (k := j))
  have NB := Lib.hid (fun j => numAt_bd (l := s.data.toList) (p := p) (k := j))
  have NZ := Lib.hid (numAt_zero s.data.toList p)
  have HL := Lib.hid hl
  clear hl
  generalize hRR : runL s.data.toList p = R at *
  have HR := Lib.hid hRR
  clear hRR
  go_enter Tryd.func21, Tryd.ntmps21
  go_wp2_with fail
  refine (V.out _).mono ?_
  rintro e w' ⟨rfl, rfl⟩
  go_wp2_with fail
  go_loop [8, 9] (fun n i => ∃ j : Nat, j ≤ R ∧ n = .int .i64 (numAt s.data.toList p j) ∧ i = .int .i64 j) (fun _ i => R - (intOf i).toNat)
  case atStart => exact ⟨0, by omega, by rw [NZ.out], rfl⟩
  case round =>
    obtain ⟨j, hj, rfl, rfl⟩ := hrel
    by_cases hlt : j < R
    · have hb : p + j < s.size := by have := (L1.out j hlt).1; have := HL.out; omega
      have hd : isDg s[p + j] = true := (L1.out j (by omega)).2
      have nb := NB.out j (by omega)
      have e1 := u8_sub s[p + j] hd
      have e2 := isDg_bd hd
      have pw : (10 : Int) ^ j ≤ 100000 := by
        have : j = 0 ∨ j = 1 ∨ j = 2 ∨ j = 3 ∨ j = 4 ∨ j = 5 := by omega
        rcases this with rfl | rfl | rfl | rfl | rfl | rfl <;> decide
      have n1 := nb.1
      have n2 : numAt s.data.toList p j ≤ 100000 := by omega
      have ns : numAt s.data.toList p (j + 1) = 10 * numAt s.data.toList p j + ((s[p + j].toNat : Int) - 48) := NS.out j (by have := HL.out; omega)
      have HS := Lib.hid ns
      have D := Lib.hid (l1Digit_in s (p + j) (↑p + ↑j) (by omega) hs hb true hd)
      obtain ⟨d1, d2⟩ := e2
      clear hd nb pw ns
      generalize hn' : numAt s.data.toList p (j + 1) = n' at *
      have HN := Lib.hid hn'
      clear hn'
      generalize numAt s.data.toList p j = n at *
      go_wp2_with fail
      refine (D.out _).mono ?_
      rintro e w' ⟨rfl, rfl⟩
      go_wp2_with fail
      go_round
      case rel => exact ⟨j + 1, by omega, by rw [HN.out, HS.out], by go_num⟩
      case measure => simp [intOf]; omega
    · obtain rfl : j = R := by omega
      by_cases hb : p + j < s.size
      · have hd : isDg s[p + j] = false := by
          have := HR.out; subst this
          exact L2.out (by have := HL.out; omega)
        have D := Lib.hid (l1Digit_in s (p + j) (↑p + ↑j) (by omega) hs hb false hd)
        clear hd
        go_wp2_with fail
        refine (D.out _).mono ?_
        rintro e w' ⟨rfl, rfl⟩
        go_wp2_with fail
        go_ret2
        exact ⟨rfl, rfl⟩
      · have D := Lib.hid (l1Digit_out s (p + j) (↑p + ↑j) (by omega) hs (by omega))
        go_wp2_with fail
        refine (D.out _).mono ?_
        rintro e w' ⟨rfl, rfl⟩
        go_wp2_with fail
        go_ret2
        exact ⟨rfl, rfl⟩

end Go.Proofs.YtmdmahgplmijcaaDoor
