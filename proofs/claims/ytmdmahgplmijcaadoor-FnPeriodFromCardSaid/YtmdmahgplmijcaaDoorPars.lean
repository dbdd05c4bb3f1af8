/- Contracts of the steps of reading a period, by the program and by the reference; and what the reading gives, as a plain function. Conditions: the text is not longer than 2^40 bytes; the reader stands in memory. -/
import Derived.Test.YtmdmahgplmijcaaDoorGet
import Derived.Test.YtmdmahgplmijcaaDoorSeal
import Derived.BigRegion
namespace Go.Proofs.YtmdmahgplmijcaaDoor
set_option linter.unusedVariables false
set_option linter.unusedSimpArgs false
open Go.RowKit DN

/-- a step of the reader: what it gives, and where the reader stands then -/
def RdE (w : World) (r : Nat) (s : ByteArray) (q : Nat) (v : Value) (e : Ending) (w' : World) : Prop := True ∧ e = .returned v ∧ Rdr w' r s q ∧ Onl r w w'
theorem rdr_drew {w : World} {r : Nat} {s : ByteArray} {q : Nat} (h : Rdr w r s q) (n : Nat) : Rdr (w.drewN n) r s q := h
theorem rdr_keep {w w' : World} {r q : Nat} {s : ByteArray} (h : Rdr w r s q) (g : Below (r + 1) w w') : Rdr w' r s q := by
  obtain ⟨h0, h1, hf, hr⟩ := h
  have hc : ∀ b o, b < r + 1 → w'.cell? ⟨b, o, none⟩ = w.cell? ⟨b, o, none⟩ := fun b o hb => g.cell (p := ⟨b, o, none⟩) hb
  exact ⟨by rw [hc _ _ (by omega)]; exact h0, by rw [hc _ _ (by omega)]; exact h1, by rw [g.frozen (p := ⟨r, 1, none⟩) (by simp)]; exact hf, Nat.lt_of_lt_of_le hr g.size⟩

set_option maxHeartbeats 1000000 in
theorem done_any (r : Nat) (s : ByteArray) (p : Nat) (w : World) (h : Rdr w r s p) (hs : s.size ≤ 1099511627776) (hp : p ≤ s.size) (b : Bool) (hb : ((p : Int) == s.size) = b) : Calls Tryd.prog 19 #[.pointer (some ⟨r, 0, none⟩)] w (RdE w r s p (.bool b)) := by
  have HH := Lib.hid h
  obtain ⟨h0, h1, hf, hr⟩ := h
  go_enter Tryd.func19, Tryd.ntmps19
  go_wp2_with fail
  go_quiet (fail)
  go_wp2_with fail
  go_ret
  exact ⟨trivial, rfl, rdr_drew HH.out _, onl_drewN (onl_refl _ _) _⟩
set_option maxHeartbeats 2000000 in
theorem take_end (r : Nat) (s : ByteArray) (p : Nat) (c : Int) (w : World) (h : Rdr w r s p) (hs : s.size ≤ 1099511627776) (hp : p = s.size) : Calls Tryd.prog 32 #[.pointer (some ⟨r, 0, none⟩), .int .u8 c] w (RdE w r s p (.bool false)) := by
  have HH := Lib.hid h
  obtain ⟨h0, h1, hf, hr⟩ := h
  subst hp
  have g1 : decide ((s.size : Int) < 0) = false := by simp
  have g2 : decide ((s.size : Int) ≤ s.size) = true := by simp
  go_enter Tryd.func32, Tryd.ntmps32
  go_wp2_with fail
  go_quiet (fail)
  go_wp2_with fail
  go_ret
  exact ⟨trivial, rfl, rdr_drew HH.out _, onl_drewN (onl_refl _ _) _⟩
set_option maxHeartbeats 2000000 in
theorem take_no (r : Nat) (s : ByteArray) (p : Nat) (c : Int) (w : World) (h : Rdr w r s p) (hs : s.size ≤ 1099511627776) (hp : p < s.size) (hc : ((s[p].toNat : Int) == c) = false) : Calls Tryd.prog 32 #[.pointer (some ⟨r, 0, none⟩), .int .u8 c] w (RdE w r s p (.bool false)) := by
  have HH := Lib.hid h
  obtain ⟨h0, h1, hf, hr⟩ := h
  have g1 : decide ((p : Int) < 0) = false := by simp
  have g2 : decide ((s.size : Int) ≤ p) = false := by simp; omega
  have hc2 : ((s[p].toNat : Int) != c) = true := by simp only [bne, hc, Bool.not_false]
  have ix := fun wx => ix_str Tryd.underlying9 s p ↑p rfl hp wx
  go_enter Tryd.func32, Tryd.ntmps32
  go_wp2_with fail
  go_quiet (fail)
  go_wp2_with fail
  go_ret
  exact ⟨trivial, rfl, rdr_drew HH.out _, onl_drewN (onl_refl _ _) _⟩
set_option maxHeartbeats 2000000 in
theorem take_yes (r : Nat) (s : ByteArray) (p : Nat) (c : Int) (w : World) (h : Rdr w r s p) (hs : s.size ≤ 1099511627776) (hp : p < s.size) (hc : ((s[p].toNat : Int) == c) = true) : Calls Tryd.prog 32 #[.pointer (some ⟨r, 0, none⟩), .int .u8 c] w (RdE w r s (p + 1) (.bool true)) := by
  obtain ⟨h0, h1, hf, hr⟩ := h
  have g1 : decide ((p : Int) < 0) = false := by simp
  have g2 : decide ((s.size : Int) ≤ p) = false := by simp; omega
  have hc2 : ((s[p].toNat : Int) != c) = false := by simp only [bne, hc, Bool.not_true]
  have ix := fun wx => ix_str Tryd.underlying9 s p ↑p rfl hp wx
  go_enter Tryd.func32, Tryd.ntmps32
  go_wp2_with fail
  go_quiet (fail)
  go_wp2_with fail
  go_ret
  exact ⟨trivial, rfl, ⟨by go_simp, by go_simp, by go_simp, by go_size⟩, by first | exact onl_drewN (onl_set (onl_refl _ _) (.inl rfl) _) _ | exact onl_set (onl_drewN (onl_refl _ _) _) (.inl rfl) _⟩
set_option maxHeartbeats 1000000 in
theorem few_no (r : Nat) (s : ByteArray) (p : Nat) (w : World) (h : Rdr w r s p) (hs : s.size ≤ 1099511627776) (hp : p ≤ s.size) (hk : ¬ (1 ≤ runL s.data.toList p ∧ runL s.data.toList p ≤ 4)) : Calls Tryd.prog 33 #[.pointer (some ⟨r, 0, none⟩)] w (RdE w r s p (.tuple #[.int .i64 0, .bool false])) := by
  have HH := Lib.hid h
  have R := Lib.hid (run_any r s p w h.1 h.2.1 hs (by omega))
  have V := Lib.hid (within_of (n := runL s.data.toList p) (a := 1) (c := 4) (b := false) (inB_f (by omega)))
  clear hk h
  generalize runL s.data.toList p = k at *
  go_enter Tryd.func33, Tryd.ntmps33
  go_wp2_with fail
  refine (R.out).mono ?_
  rintro e w' ⟨rfl, rfl⟩
  go_wp2_with fail
  refine (V.out _).mono ?_
  rintro e w' ⟨rfl, rfl⟩
  go_wp2_with fail
  go_ret2
  exact ⟨trivial, rfl, HH.out, onl_refl _ _⟩
set_option maxHeartbeats 1000000 in
theorem few_yes (r : Nat) (s : ByteArray) (p : Nat) (w : World) (h : Rdr w r s p) (hs : s.size ≤ 1099511627776) (hp : p ≤ s.size) (k : Nat) (hkk : runL s.data.toList p = k) (hk1 : 1 ≤ k) (hk2 : k ≤ 4) : Calls Tryd.prog 33 #[.pointer (some ⟨r, 0, none⟩)] w (RdE w r s (p + k) (.tuple #[.int .i64 (numAt s.data.toList p k), .bool true])) := by
  have R := Lib.hid (run_any r s p w h.1 h.2.1 hs (by omega))
  rw [hkk] at R
  have V := Lib.hid (within_of (n := k) (a := 1) (c := 4) (b := true) (inB_t (by omega) (by omega)))
  have N := Lib.hid (number_yes r s p k w h hs hp (by omega) (by omega))
  clear h hkk
  go_enter Tryd.func33, Tryd.ntmps33
  go_wp2_with fail
  refine (R.out).mono ?_
  rintro e w' ⟨rfl, rfl⟩
  go_wp2_with fail
  refine (V.out _).mono ?_
  rintro e w' ⟨rfl, rfl⟩
  go_wp2_with fail
  refine N.out.mono ?_
  rintro e w1 ⟨rfl, R1, G1⟩
  go_wp2_with fail
  go_ret2
  exact ⟨trivial, rfl, R1, G1⟩
set_option maxHeartbeats 1000000 in
theorem DigitsRun_s (s : ByteArray) (p : Nat) (w : World) (hs : s.size ≤ 1099511627776) (hp : p ≤ s.size) : Calls Tryd.prog 20 #[.string s, .int .i64 p] w fun e w' => e = .returned (.int .i64 (runL s.data.toList p)) ∧ w = w' := by
  have hl : s.data.toList.length = s.size := by simp
  have hR : p + runL s.data.toList p ≤ s.size := by have := runL_le (l := s.data.toList) (p := p) (by omega); omega
  have L1 := Lib.hid (fun j => runL_lt (l := s.data.toList) (p := p) (j := j))
  have L2 := Lib.hid (runL_end (l := s.data.toList) (p := p))
  have HL := Lib.hid hl
  clear hl
  generalize hRR : runL s.data.toList p = R at *
  have HR := Lib.hid hRR
  clear hRR
  go_enter Tryd.func20, Tryd.ntmps20
  go_wp2_with fail
  go_loop [5] (fun i => ∃ j : Nat, j ≤ R ∧ i = .int .i64 j) (fun i => R - (intOf i).toNat)
  case atStart => exact ⟨0, by omega, rfl⟩
  case round =>
    obtain ⟨j, hj, rfl⟩ := hrel
    by_cases hlt : j < R
    · have hb : p + j < s.size := by omega
      have hd : isDg s[p + j] = true := (L1.out j hlt).2
      have D := Lib.hid (l1Digit_in s (p + j) (↑p + ↑j) (by omega) hs hb true hd)
      clear hd
      go_wp2_with fail
      refine (D.out _).mono ?_
      rintro e w' ⟨rfl, rfl⟩
      go_wp2_with fail
      go_round
      case rel => exact ⟨j + 1, by omega, by go_num⟩
      case measure => simp [intOf]; omega
    · obtain rfl : j = R := by omega
      by_cases hb : p + j < s.size
      · have hd : isDg s[p + j] = false := by
          have := HR.out; subst this
          exact L2.out (by have := HL.out; omega)
        have D := Lib.hid (l1Digit_in s (p + j) (↑p + ↑j) (by omega) hs hb false hd)
        clear hd
        go_wp2_with fail
        refine (D.out _).mono ?_
        rintro e w' ⟨rfl, rfl⟩
        go_wp2_with fail
        go_ret
        exact ⟨rfl, rfl⟩
      · have D := Lib.hid (l1Digit_out s (p + j) (↑p + ↑j) (by omega) hs (by omega))
        go_wp2_with fail
        refine (D.out _).mono ?_
        rintro e w' ⟨rfl, rfl⟩
        go_wp2_with fail
        go_ret
        exact ⟨rfl, rfl⟩

/-- the part with a letter, or -1 -/
def ixL (b : Int) (t : Bool) : Int := if t = true then (if b = 72 then 3 else if b = 77 then 4 else if b = 83 then 5 else -1) else (if b = 89 then 0 else if b = 77 then 1 else if b = 68 then 2 else -1)
set_option maxHeartbeats 2000000 in
theorem l15Letter_s (b : Int) (t : Bool) (w : World) : Calls Tryd.prog 22 #[.int .u8 b, .bool t] w fun e w' => e = .returned (.int .i64 (ixL b t)) ∧ w = w' := by
  have i0 : ∀ wx : World, (Instr.index 9 (.string ⟨#[89, 77, 68]⟩) (.int .i64 0)).run Tryd.prog wx = .ok (.int .u8 89) wx := fun _ => by kernel_rfl
  have i1 : ∀ wx : World, (Instr.index 9 (.string ⟨#[89, 77, 68]⟩) (.int .i64 1)).run Tryd.prog wx = .ok (.int .u8 77) wx := fun _ => by kernel_rfl
  have i2 : ∀ wx : World, (Instr.index 9 (.string ⟨#[89, 77, 68]⟩) (.int .i64 2)).run Tryd.prog wx = .ok (.int .u8 68) wx := fun _ => by kernel_rfl
  have j0 : ∀ wx : World, (Instr.index 9 (.string ⟨#[72, 77, 83]⟩) (.int .i64 0)).run Tryd.prog wx = .ok (.int .u8 72) wx := fun _ => by kernel_rfl
  have j1 : ∀ wx : World, (Instr.index 9 (.string ⟨#[72, 77, 83]⟩) (.int .i64 1)).run Tryd.prog wx = .ok (.int .u8 77) wx := fun _ => by kernel_rfl
  have j2 : ∀ wx : World, (Instr.index 9 (.string ⟨#[72, 77, 83]⟩) (.int .i64 2)).run Tryd.prog wx = .ok (.int .u8 83) wx := fun _ => by kernel_rfl
  cases t
  · by_cases h0 : b = 89
    · subst h0
      go_enter Tryd.func22, Tryd.ntmps22
      go_wp2_with fail
      refine wp_loop_rounds 1 ?_
      rw [rounds_succ]
      go_wp2_with fail
      go_ret
      exact ⟨rfl, rfl⟩
    · have e0 : ((89 : Int) == b) = false := by simp; omega
      by_cases h1 : b = 77
      · subst h1
        go_enter Tryd.func22, Tryd.ntmps22
        go_wp2_with fail
        refine wp_loop_rounds 2 ?_
        rw [rounds_succ]
        go_wp2_with fail
        rw [rounds_succ]
        go_wp2_with fail
        go_ret
        exact ⟨rfl, rfl⟩
      · have e1 : ((77 : Int) == b) = false := by simp; omega
        by_cases h2 : b = 68
        · subst h2
          go_enter Tryd.func22, Tryd.ntmps22
          go_wp2_with fail
          refine wp_loop_rounds 3 ?_
          rw [rounds_succ]
          go_wp2_with fail
          rw [rounds_succ]
          go_wp2_with fail
          rw [rounds_succ]
          go_wp2_with fail
          go_ret
          exact ⟨rfl, rfl⟩
        · have e2 : ((68 : Int) == b) = false := by simp; omega
          have E : ixL b false = -1 := by unfold ixL; rw [if_neg (by simp), if_neg h0, if_neg h1, if_neg h2]
          have HE := Lib.hid E
          clear h0 h1 h2 E
          go_enter Tryd.func22, Tryd.ntmps22
          go_wp2_with fail
          refine wp_loop_rounds 4 ?_
          rw [rounds_succ]
          go_wp2_with fail
          rw [rounds_succ]
          go_wp2_with fail
          rw [rounds_succ]
          go_wp2_with fail
          rw [rounds_succ]
          go_wp2_with fail
          go_ret
          exact ⟨ret_int HE.out.symm, rfl⟩
  · by_cases h0 : b = 72
    · subst h0
      go_enter Tryd.func22, Tryd.ntmps22
      go_wp2_with fail
      refine wp_loop_rounds 1 ?_
      rw [rounds_succ]
      go_wp2_with fail
      go_ret
      exact ⟨rfl, rfl⟩
    · have e0 : ((72 : Int) == b) = false := by simp; omega
      by_cases h1 : b = 77
      · subst h1
        go_enter Tryd.func22, Tryd.ntmps22
        go_wp2_with fail
        refine wp_loop_rounds 2 ?_
        rw [rounds_succ]
        go_wp2_with fail
        rw [rounds_succ]
        go_wp2_with fail
        go_ret
        exact ⟨rfl, rfl⟩
      · have e1 : ((77 : Int) == b) = false := by simp; omega
        by_cases h2 : b = 83
        · subst h2
          go_enter Tryd.func22, Tryd.ntmps22
          go_wp2_with fail
          refine wp_loop_rounds 3 ?_
          rw [rounds_succ]
          go_wp2_with fail
          rw [rounds_succ]
          go_wp2_with fail
          rw [rounds_succ]
          go_wp2_with fail
          go_ret
          exact ⟨rfl, rfl⟩
        · have e2 : ((83 : Int) == b) = false := by simp; omega
          have E : ixL b true = -1 := by unfold ixL; rw [if_pos rfl, if_neg h0, if_neg h1, if_neg h2]
          have HE := Lib.hid E
          clear h0 h1 h2 E
          go_enter Tryd.func22, Tryd.ntmps22
          go_wp2_with fail
          refine wp_loop_rounds 4 ?_
          rw [rounds_succ]
          go_wp2_with fail
          rw [rounds_succ]
          go_wp2_with fail
          rw [rounds_succ]
          go_wp2_with fail
          rw [rounds_succ]
          go_wp2_with fail
          go_ret
          exact ⟨ret_int HE.out.symm, rfl⟩

/-- the cells of the parts of a period that lies in block b: letter, whether of a time, where it is kept -/
def partCells (b : Nat) : List Value := [.int .u8 89, .bool false, .pointer (some ⟨b, 0, none⟩), .int .u8 77, .bool false, .pointer (some ⟨b, 1, none⟩), .int .u8 68, .bool false, .pointer (some ⟨b, 2, none⟩),
  .int .u8 72, .bool true, .pointer (some ⟨b, 3, none⟩), .int .u8 77, .bool true, .pointer (some ⟨b, 4, none⟩), .int .u8 83, .bool true, .pointer (some ⟨b, 5, none⟩)]
end Go.Proofs.YtmdmahgplmijcaaDoor
