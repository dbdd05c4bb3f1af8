/- Contracts of whether a text is a word, by the program and by the reference: both tell the same; and whether a tag is valid. Condition: the text is not longer than 2^40 bytes. -/
import Derived.Test.YtbgpdjceofofoaaBase
import Derived.Test.YtbgpdjceofofoaaDig
import Derived.Test.YtbgpdjceofofoaaSeal
import Derived.LoopTactic
import Derived.Lib.ConvBytes
namespace Go.Proofs.Ytbgpdjceofofoaa
open Go.RowKit DN

/-- whether a byte may stand in a word; z: of a zone -/
def okB (z : Bool) (b : Int) : Bool := decide (97 ≤ b ∧ b ≤ 122) || (decide (48 ≤ b ∧ b ≤ 57) || (decide (b = 45) || (z && (decide (65 ≤ b ∧ b ≤ 90) || (decide (b = 95) || decide (b = 47))))))
/-- whether a text is a word -/
def wordB (z : Bool) (s : ByteArray) : Bool := decide (1 ≤ s.size ∧ s.size ≤ 12) && s.data.toList.all (fun b => okB z b.toNat)
theorem word_no {z : Bool} {s : ByteArray} {k : Nat} (h : k < s.size) (hv : okB z s[k].toNat = false) : wordB z s = false := by
  unfold wordB
  rw [Bool.and_eq_false_iff]
  right
  rw [List.all_eq_false]
  exact ⟨s[k], by rw [show s[k] = s.data.toList[k]'(by simpa using h) from rfl]; exact List.getElem_mem _, by rw [hv]; simp⟩
theorem word_yes {z : Bool} {s : ByteArray} (h : ∀ k (hk : k < s.size), okB z s[k].toNat = true) : wordB z s = inB s.size 1 12 := by
  unfold wordB
  have : s.data.toList.all (fun b => okB z b.toNat) = true := by
    rw [List.all_eq_true]
    intro b hb
    obtain ⟨k, hk, rfl⟩ := List.getElem_of_mem hb
    exact h k (by simpa using hk)
  rw [this, Bool.and_true]
  unfold inB
  congr 1
  apply propext
  omega
theorem word_len {z : Bool} {s : ByteArray} (h : inB s.size 1 12 = false) : wordB z s = false := by
  unfold wordB
  rw [Bool.and_eq_false_iff]
  left
  unfold inB at h
  rw [decide_eq_false_iff_not] at h ⊢
  omega
theorem byte_cases (b : Int) : b < 45 ∨ (45 ≤ b ∧ b ≤ 45) ∨ (46 ≤ b ∧ b ≤ 46) ∨ (47 ≤ b ∧ b ≤ 47) ∨ (48 ≤ b ∧ b ≤ 57) ∨ (58 ≤ b ∧ b ≤ 64) ∨ (65 ≤ b ∧ b ≤ 90) ∨ (91 ≤ b ∧ b ≤ 94) ∨ (95 ≤ b ∧ b ≤ 95) ∨ (96 ≤ b ∧ b ≤ 96) ∨ (97 ≤ b ∧ b ≤ 122) ∨ 122 < b := by omega

set_option maxHeartbeats 4000000 in
theorem l14Word_z (s : ByteArray) (hs : s.size ≤ 1099511627776) (w : World) : Calls Try.prog 42 #[.string s, .bool true] w fun e w' => e = .returned (.bool (wordB true s)) ∧ w = w' := by
  have NO := Lib.hid (fun k => word_no (z := true) (s := s) (k := k))
  have YES := Lib.hid (word_yes (z := true) (s := s))
  have L := Lib.hid (fun w => l6In_any s.size 1 12 w)
  go_enter Try.func42, Try.ntmps42
  go_wp2_with fail
  go_loop [5] (fun i => ∃ k : Nat, k ≤ s.size ∧ i = .int .i64 k ∧ ∀ j (hj : j < k) (hj2 : j < s.size), okB true s[j].toNat = true) (fun i => s.size - (intOf i).toNat)
  case atStart => exact ⟨0, Nat.zero_le _, rfl, fun j hj => by omega⟩
  case round =>
    obtain ⟨k, hk, rfl, hall⟩ := hrel
    have HA := Lib.hid hall
    clear hall
    by_cases hlt : k < s.size
    · have N1 := Lib.hid (NO.out k hlt)
      have A1 := Lib.hid (fun (h : okB true s[k].toNat = true) j (hj : j < k + 1) (hj2 : j < s.size) => if e : j = k then by subst e; exact h else HA.out j (by omega) hj2)
      have hc := byte_cases (s[k].toNat : Int)
      rcases hc with h | h | h | h | h | h | h | h | h | h | h | h
      all_goals
        first | (have v : okB true s[k].toNat = true := (by unfold okB; simp; omega)) | (have v : okB true s[k].toNat = false := (by unfold okB; simp; omega))
        have V := Lib.hid v
        clear v
        try obtain ⟨h1, h2⟩ := h
        first | (have e45 : ((s[k].toNat : Int) == 45) = true := by simp; omega) | (have e45 : ((s[k].toNat : Int) == 45) = false := by simp; omega)
        first | (have e47 : ((s[k].toNat : Int) == 47) = true := by simp; omega) | (have e47 : ((s[k].toNat : Int) == 47) = false := by simp; omega)
        first | (have e95 : ((s[k].toNat : Int) == 95) = true := by simp; omega) | (have e95 : ((s[k].toNat : Int) == 95) = false := by simp; omega)
        first | (have f57 : decide ((s[k].toNat : Int) ≤ 57) = true := by simp; omega) | (have f57 : decide ((s[k].toNat : Int) ≤ 57) = false := by simp; omega)
        first | (have f90 : decide ((s[k].toNat : Int) ≤ 90) = true := by simp; omega) | (have f90 : decide ((s[k].toNat : Int) ≤ 90) = false := by simp; omega)
        first | (have f122 : decide ((s[k].toNat : Int) ≤ 122) = true := by simp; omega) | (have f122 : decide ((s[k].toNat : Int) ≤ 122) = false := by simp; omega)
        go_wp2_with fail
        first
          | (go_round
             case rel => exact ⟨k + 1, by omega, by go_num, A1.out V.out⟩
             case measure => simp [intOf]; omega)
          | (go_ret; exact ⟨ret_bool (N1.out V.out).symm, rfl⟩)
    · obtain rfl : k = s.size := by omega
      go_wp2_with fail
      refine (L.out _).mono ?_
      rintro e w' ⟨rfl, rfl⟩
      go_wp2_with fail
      go_ret
      exact ⟨ret_bool (YES.out (fun j hj => HA.out j hj hj)).symm, rfl⟩
set_option maxHeartbeats 4000000 in
theorem l14Word_n (s : ByteArray) (hs : s.size ≤ 1099511627776) (w : World) : Calls Try.prog 42 #[.string s, .bool false] w fun e w' => e = .returned (.bool (wordB false s)) ∧ w = w' := by
  have NO := Lib.hid (fun k => word_no (z := false) (s := s) (k := k))
  have YES := Lib.hid (word_yes (z := false) (s := s))
  have L := Lib.hid (fun w => l6In_any s.size 1 12 w)
  go_enter Try.func42, Try.ntmps42
  go_wp2_with fail
  go_loop [5] (fun i => ∃ k : Nat, k ≤ s.size ∧ i = .int .i64 k ∧ ∀ j (hj : j < k) (hj2 : j < s.size), okB false s[j].toNat = true) (fun i => s.size - (intOf i).toNat)
  case atStart => exact ⟨0, Nat.zero_le _, rfl, fun j hj => by omega⟩
  case round =>
    obtain ⟨k, hk, rfl, hall⟩ := hrel
    have HA := Lib.hid hall
    clear hall
    by_cases hlt : k < s.size
    · have N1 := Lib.hid (NO.out k hlt)
      have A1 := Lib.hid (fun (h : okB false s[k].toNat = true) j (hj : j < k + 1) (hj2 : j < s.size) => if e : j = k then by subst e; exact h else HA.out j (by omega) hj2)
      have hc := byte_cases (s[k].toNat : Int)
      rcases hc with h | h | h | h | h | h | h | h | h | h | h | h
      all_goals
        first | (have v : okB false s[k].toNat = true := (by unfold okB; simp; omega)) | (have v : okB false s[k].toNat = false := (by unfold okB; simp; omega))
        have V := Lib.hid v
        clear v
        try obtain ⟨h1, h2⟩ := h
        first | (have e45 : ((s[k].toNat : Int) == 45) = true := by simp; omega) | (have e45 : ((s[k].toNat : Int) == 45) = false := by simp; omega)
        first | (have e47 : ((s[k].toNat : Int) == 47) = true := by simp; omega) | (have e47 : ((s[k].toNat : Int) == 47) = false := by simp; omega)
        first | (have e95 : ((s[k].toNat : Int) == 95) = true := by simp; omega) | (have e95 : ((s[k].toNat : Int) == 95) = false := by simp; omega)
        first | (have f57 : decide ((s[k].toNat : Int) ≤ 57) = true := by simp; omega) | (have f57 : decide ((s[k].toNat : Int) ≤ 57) = false := by simp; omega)
        first | (have f90 : decide ((s[k].toNat : Int) ≤ 90) = true := by simp; omega) | (have f90 : decide ((s[k].toNat : Int) ≤ 90) = false := by simp; omega)
        first | (have f122 : decide ((s[k].toNat : Int) ≤ 122) = true := by simp; omega) | (have f122 : decide ((s[k].toNat : Int) ≤ 122) = false := by simp; omega)
        go_wp2_with fail
        first
          | (go_round
             case rel => exact ⟨k + 1, by omega, by go_num, A1.out V.out⟩
             case measure => simp [intOf]; omega)
          | (go_ret; exact ⟨ret_bool (N1.out V.out).symm, rfl⟩)
    · obtain rfl : k = s.size := by omega
      go_wp2_with fail
      refine (L.out _).mono ?_
      rintro e w' ⟨rfl, rfl⟩
      go_wp2_with fail
      go_ret
      exact ⟨ret_bool (YES.out (fun j hj => HA.out j hj hj)).symm, rfl⟩

theorem below_bytes (w : World) (e : TypeId) (s : ByteArray) : Below w.heap.size w (Lib.bytesWorld w e s) :=
  ⟨rfl, rfl, rfl, by rw [Lib.bytesWorld_size]; omega, fun j hj => Lib.bytesWorld_at_old w e s j hj⟩
theorem cell_eq (s : ByteArray) (j : Nat) (hj : j < s.size) : Value.int .u8 ((s.data.toList.getD j 0).toNat : Int) = .int .u8 (s[j].toNat : Int) := by
  rw [List.getD_eq_getElem?_getD, List.getElem?_eq_getElem (by simpa using hj)]; rfl
/-- whether a byte may stand in a zone alone -/
def znB (b : Int) : Bool := decide (65 ≤ b ∧ b ≤ 90) || (decide (b = 95) || decide (b = 47))
set_option maxHeartbeats 1000000 in
theorem zoneByte_any (b : Int) (w : World) : Calls Try.prog 44 #[.int .u8 b] w fun e w' => e = .returned (.bool (znB b)) ∧ w = w' := by
  have hc := byte_cases b
  rcases hc with h | h | h | h | h | h | h | h | h | h | h | h
  all_goals
    first | (have v : znB b = true := (by unfold znB; simp; omega)) | (have v : znB b = false := (by unfold znB; simp; omega))
    rw [v]
    clear v
    try obtain ⟨h1, h2⟩ := h
    first | (have e47 : (b == 47) = true := by simp; omega) | (have e47 : (b == 47) = false := by simp; omega)
    first | (have e95 : (b == 95) = true := by simp; omega) | (have e95 : (b == 95) = false := by simp; omega)
    first | (have f90 : decide (b ≤ 90) = true := by simp; omega) | (have f90 : decide (b ≤ 90) = false := by simp; omega)
    go_enter Try.func44, Try.ntmps44
    go_wp2_with fail
    go_ret
    exact ⟨rfl, rfl⟩
theorem noByte_any (b : Int) (w : World) : Calls Try.prog 45 #[.int .u8 b] w fun e w' => e = .returned (.bool false) ∧ w = w' := by
  go_enter Try.func45, Try.ntmps45
  go_wp2_with fail
  go_ret
  exact ⟨rfl, rfl⟩
set_option maxHeartbeats 4000000 in
theorem wordOf_z (s : ByteArray) (hs : s.size ≤ 1099511627776) (w : World) : Calls Try.prog 43 #[.string s, .func (.func 44) #[] #[]] w fun e w' => e = .returned (.bool (wordB true s)) ∧ Below w.heap.size w w' := by
  have NO := Lib.hid (fun k => word_no (z := true) (s := s) (k := k))
  have YES := Lib.hid (word_yes (z := true) (s := s))
  have LEN := Lib.hid (word_len (z := true) (s := s))
  obtain ⟨v, hv⟩ : ∃ v, inB s.size 1 12 = v := ⟨_, rfl⟩
  have L := Lib.hid (fun w => within_any s.size 1 12 w)
  rw [hv] at L YES LEN
  clear hv
  cases v
  · have hw := LEN.out rfl
    have HW := Lib.hid hw
    clear hw YES LEN NO
    go_enter Try.func43, Try.ntmps43
    go_wp2_with fail
    refine (L.out _).mono ?_
    rintro e w' ⟨rfl, rfl⟩
    go_wp2_with fail
    go_ret
    exact ⟨ret_bool HW.out.symm, Below.refl _ _⟩
  · clear LEN
    have hcv := fun w => Lib.run_convert_string_bytes (P := Try.prog) w 9 29 5 s Try.underlying9 Try.underlying29 Try.underlying5
    have BW := below_bytes w 5 s
    have CW := Lib.hid (fun j (hj : j < s.size) => (Lib.bytesWorld_cell w 5 s j hj).trans (congrArg some (cell_eq s j hj)))
    go_enter Try.func43, Try.ntmps43
    go_wp2_with fail
    refine (L.out _).mono ?_
    rintro e w' ⟨rfl, rfl⟩
    go_wp2_with fail
    clear hcv
    refine seal_wp ?_
    intro w1 hw1
    rw [← hw1] at BW CW
    clear hw1
    go_loop [14] (fun i => ∃ k : Nat, k ≤ s.size ∧ i = .int .i64 k ∧ ∀ j (hj : j < k) (hj2 : j < s.size), okB true s[j].toNat = true) (fun i => s.size - (intOf i).toNat)
    case atStart => exact ⟨0, Nat.zero_le _, rfl, fun j hj => by omega⟩
    case round =>
      obtain ⟨k, hk, rfl, hall⟩ := hrel
      have HA := Lib.hid hall
      clear hall
      by_cases hlt : k < s.size
      · have N1 := Lib.hid (NO.out k hlt)
        have A1 := Lib.hid (fun (h : okB true s[k].toNat = true) j (hj : j < k + 1) (hj2 : j < s.size) => if e : j = k then by subst e; exact h else HA.out j (by omega) hj2)
        have hcell := CW.out k hlt
        have D := Lib.hid (isDigit_any s[k].toNat)
        have O := Lib.hid (zoneByte_any s[k].toNat)
        have hc := byte_cases (s[k].toNat : Int)
        rcases hc with h | h | h | h | h | h | h | h | h | h | h | h
        all_goals
          first | (have v : okB true s[k].toNat = true := (by unfold okB; simp; omega)) | (have v : okB true s[k].toNat = false := (by unfold okB; simp; omega))
          have V := Lib.hid v
          clear v
          first | (have d : dgI s[k].toNat = true := (by unfold dgI; simp; omega)) | (have d : dgI s[k].toNat = false := (by unfold dgI; simp; omega))
          rw [d] at D
          clear d
          first | (have d : znB s[k].toNat = true := (by unfold znB; simp; omega)) | (have d : znB s[k].toNat = false := (by unfold znB; simp; omega))
          rw [d] at O
          clear d
          try obtain ⟨h1, h2⟩ := h
          first | (have e45 : ((s[k].toNat : Int) == 45) = true := by simp; omega) | (have e45 : ((s[k].toNat : Int) == 45) = false := by simp; omega)
          first | (have e46 : ((s[k].toNat : Int) != 45) = true := by simp; omega) | (have e46 : ((s[k].toNat : Int) != 45) = false := by simp; omega)
          go_wp2_with fail
          refine (D.out _).mono ?_
          rintro e w' ⟨rfl, rfl⟩
          go_wp2_with fail
          try (refine (O.out _).mono ?_; rintro e w' ⟨rfl, rfl⟩; go_wp2_with fail)
          first
            | (go_round
               case rel => exact ⟨k + 1, by omega, by go_num, A1.out V.out⟩
               case measure => simp [intOf]; omega)
            | (go_ret; exact ⟨ret_bool (N1.out V.out).symm, BW⟩)
      · obtain rfl : k = s.size := by omega
        go_wp2_with fail
        go_ret
        exact ⟨ret_bool (YES.out (fun j hj => HA.out j hj hj)).symm, BW⟩
set_option maxHeartbeats 4000000 in
theorem wordOf_n (s : ByteArray) (hs : s.size ≤ 1099511627776) (w : World) : Calls Try.prog 43 #[.string s, .func (.func 45) #[] #[]] w fun e w' => e = .returned (.bool (wordB false s)) ∧ Below w.heap.size w w' := by
  have NO := Lib.hid (fun k => word_no (z := false) (s := s) (k := k))
  have YES := Lib.hid (word_yes (z := false) (s := s))
  have LEN := Lib.hid (word_len (z := false) (s := s))
  obtain ⟨v, hv⟩ : ∃ v, inB s.size 1 12 = v := ⟨_, rfl⟩
  have L := Lib.hid (fun w => within_any s.size 1 12 w)
  rw [hv] at L YES LEN
  clear hv
  cases v
  · have hw := LEN.out rfl
    have HW := Lib.hid hw
    clear hw YES LEN NO
    go_enter Try.func43, Try.ntmps43
    go_wp2_with fail
    refine (L.out _).mono ?_
    rintro e w' ⟨rfl, rfl⟩
    go_wp2_with fail
    go_ret
    exact ⟨ret_bool HW.out.symm, Below.refl _ _⟩
  · clear LEN
    have hcv := fun w => Lib.run_convert_string_bytes (P := Try.prog) w 9 29 5 s Try.underlying9 Try.underlying29 Try.underlying5
    have BW := below_bytes w 5 s
    have CW := Lib.hid (fun j (hj : j < s.size) => (Lib.bytesWorld_cell w 5 s j hj).trans (congrArg some (cell_eq s j hj)))
    go_enter Try.func43, Try.ntmps43
    go_wp2_with fail
    refine (L.out _).mono ?_
    rintro e w' ⟨rfl, rfl⟩
    go_wp2_with fail
    clear hcv
    refine seal_wp ?_
    intro w1 hw1
    rw [← hw1] at BW CW
    clear hw1
    go_loop [14] (fun i => ∃ k : Nat, k ≤ s.size ∧ i = .int .i64 k ∧ ∀ j (hj : j < k) (hj2 : j < s.size), okB false s[j].toNat = true) (fun i => s.size - (intOf i).toNat)
    case atStart => exact ⟨0, Nat.zero_le _, rfl, fun j hj => by omega⟩
    case round =>
      obtain ⟨k, hk, rfl, hall⟩ := hrel
      have HA := Lib.hid hall
      clear hall
      by_cases hlt : k < s.size
      · have N1 := Lib.hid (NO.out k hlt)
        have A1 := Lib.hid (fun (h : okB false s[k].toNat = true) j (hj : j < k + 1) (hj2 : j < s.size) => if e : j = k then by subst e; exact h else HA.out j (by omega) hj2)
        have hcell := CW.out k hlt
        have D := Lib.hid (isDigit_any s[k].toNat)
        have O := Lib.hid (noByte_any s[k].toNat)
        have hc := byte_cases (s[k].toNat : Int)
        rcases hc with h | h | h | h | h | h | h | h | h | h | h | h
        all_goals
          first | (have v : okB false s[k].toNat = true := (by unfold okB; simp; omega)) | (have v : okB false s[k].toNat = false := (by unfold okB; simp; omega))
          have V := Lib.hid v
          clear v
          first | (have d : dgI s[k].toNat = true := (by unfold dgI; simp; omega)) | (have d : dgI s[k].toNat = false := (by unfold dgI; simp; omega))
          rw [d] at D
          clear d
          try obtain ⟨h1, h2⟩ := h
          first | (have e45 : ((s[k].toNat : Int) == 45) = true := by simp; omega) | (have e45 : ((s[k].toNat : Int) == 45) = false := by simp; omega)
          first | (have e46 : ((s[k].toNat : Int) != 45) = true := by simp; omega) | (have e46 : ((s[k].toNat : Int) != 45) = false := by simp; omega)
          go_wp2_with fail
          refine (D.out _).mono ?_
          rintro e w' ⟨rfl, rfl⟩
          go_wp2_with fail
          try (refine (O.out _).mono ?_; rintro e w' ⟨rfl, rfl⟩; go_wp2_with fail)
          first
            | (go_round
               case rel => exact ⟨k + 1, by omega, by go_num, A1.out V.out⟩
               case measure => simp [intOf]; omega)
            | (go_ret; exact ⟨ret_bool (N1.out V.out).symm, BW⟩)
      · obtain rfl : k = s.size := by omega
        go_wp2_with fail
        go_ret
        exact ⟨ret_bool (YES.out (fun j hj => HA.out j hj hj)).symm, BW⟩
end Go.Proofs.Ytbgpdjceofofoaa
