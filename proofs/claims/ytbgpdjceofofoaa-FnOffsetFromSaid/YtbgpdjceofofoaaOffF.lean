/- Contracts of reading an offset, by the program and by the reference: both give the same, and what is read was written. Condition: the text is not longer than 2^40 bytes. -/
import Derived.Test.YtbgpdjceofofoaaOffT
import Derived.Test.YtbgpdjceofofoaaGet
namespace Go.Proofs.Ytbgpdjceofofoaa
set_option linter.unusedSimpArgs false
open Go.RowKit DN
set_option linter.unusedVariables false

theorem offL_pos {o : Int} (h1 : 1 ≤ o) (h2 : o ≤ 1439) : (offS o).data.toList = [43, dgB (o / 60 / 10), dgB (o / 60), 58, dgB (o % 60 / 10), dgB (o % 60)] := by
  rw [offS_pos h1 h2]; simp [dgS, dgL]
theorem offL_neg {n : Int} (h1 : 1 ≤ n) (h2 : n ≤ 1439) : (offS (-n)).data.toList = [45, dgB (n / 60 / 10), dgB (n / 60), 58, dgB (n % 60 / 10), dgB (n % 60)] := by
  rw [offS_neg' h2 h1]; simp [dgS, dgL]
theorem list6b {l : List UInt8} (h : l.length = 6) : ∃ a b c d e f, l = [a, b, c, d, e, f] := by
  match l, h with
  | [a, b, c, d, e, f], _ => exact ⟨a, b, c, d, e, f, rfl⟩
theorem dgB_eq {n : Int} {c : UInt8} : dgB n = c ↔ 48 + n % 10 = c.toNat := by
  rw [← UInt8.toNat_inj, ← dgB_num]; omega
theorem off_text {l : List UInt8} (h6 : l.length = 6) (h3 : l[3] = 58) (k1 : 2 ≤ runL l 1) (k4 : 2 ≤ runL l 4) (o N : Int) (hN : N = 60 * numAt l 1 2 + numAt l 4 2) (ho : o = if l[0] = 45 then -N else N) :
    (offS o).data.toList = l ↔ (0 < N ∧ numAt l 1 2 ≤ 23 ∧ numAt l 4 2 ≤ 59 ∧ (l[0] = 43 ∨ l[0] = 45)) := by
  obtain ⟨a, b, c, d, e, f, rfl⟩ := list6b h6
  simp only [List.getElem_cons_succ, List.getElem_cons_zero] at h3 ho ⊢
  subst h3
  have d1 := isDg_bd (runL_lt (l := [a, b, c, 58, e, f]) (p := 1) (j := 0) (by omega)).2
  have d2 := isDg_bd (runL_lt (l := [a, b, c, 58, e, f]) (p := 1) (j := 1) (by omega)).2
  have d4 := isDg_bd (runL_lt (l := [a, b, c, 58, e, f]) (p := 4) (j := 0) (by omega)).2
  have d5 := isDg_bd (runL_lt (l := [a, b, c, 58, e, f]) (p := 4) (j := 1) (by omega)).2
  simp at d1 d2 d4 d5
  have eH : numAt [a, b, c, 58, e, f] 1 2 = 10 * ((b.toNat : Int) - 48) + (c.toNat - 48) := by simp [numAt, numL]
  have eM : numAt [a, b, c, 58, e, f] 4 2 = 10 * ((e.toNat : Int) - 48) + (f.toNat - 48) := by simp [numAt, numL]
  rw [eH, eM] at hN ⊢
  generalize hH : 10 * ((b.toNat : Int) - 48) + (c.toNat - 48) = H at *
  generalize hM : 10 * ((e.toNat : Int) - 48) + (f.toNat - 48) = M at *
  clear eH eM k1 k4
  by_cases hb : 1 ≤ N ∧ N ≤ 1439
  · obtain ⟨n1, n2⟩ := hb
    by_cases ha : a = 45
    · subst ha
      rw [if_pos rfl] at ho
      subst ho
      rw [offL_neg n1 n2]
      simp only [List.cons.injEq, dgB_eq, and_true, true_and]
      constructor
      · rintro ⟨x1, x2, x3, x4⟩; exact ⟨by omega, by omega, by omega, .inr trivial⟩
      · rintro ⟨x1, x2, x3, _⟩; omega
    · rw [if_neg ha] at ho
      subst ho
      rw [offL_pos n1 n2]
      simp only [List.cons.injEq, dgB_eq, and_true, true_and]
      constructor
      · rintro ⟨x0, x1, x2, x3, x4⟩; exact ⟨by omega, by omega, by omega, .inl x0.symm⟩
      · rintro ⟨x1, x2, x3, x4⟩; exact ⟨(x4.resolve_right ha).symm, by omega, by omega, by omega, by omega⟩
  · constructor
    · intro h
      have hl : (offS o).data.toList.length = 6 := by rw [h]; rfl
      by_cases h0 : o = 0
      · subst h0; simp [offS] at hl
      · rw [offS_bad (by split at ho <;> omega)] at hl
        simp at hl
    · rintro ⟨x1, x2, x3, _⟩; omega
theorem off_zero {l : List UInt8} (h6 : l.length = 6) (h3 : l[3] = 58) (k1 : 2 ≤ runL l 1) (k4 : 2 ≤ runL l 4) :
    l = [43, 48, 48, 58, 48, 48] ↔ (l[0] = 43 ∧ numAt l 1 2 = 0 ∧ numAt l 4 2 = 0) := by
  obtain ⟨a, b, c, d, e, f, rfl⟩ := list6b h6
  simp only [List.getElem_cons_succ, List.getElem_cons_zero] at h3 ⊢
  subst h3
  have d1 := isDg_bd (runL_lt (l := [a, b, c, 58, e, f]) (p := 1) (j := 0) (by omega)).2
  have d2 := isDg_bd (runL_lt (l := [a, b, c, 58, e, f]) (p := 1) (j := 1) (by omega)).2
  have d4 := isDg_bd (runL_lt (l := [a, b, c, 58, e, f]) (p := 4) (j := 0) (by omega)).2
  have d5 := isDg_bd (runL_lt (l := [a, b, c, 58, e, f]) (p := 4) (j := 1) (by omega)).2
  simp at d1 d2 d4 d5
  have eH : numAt [a, b, c, 58, e, f] 1 2 = 10 * ((b.toNat : Int) - 48) + (c.toNat - 48) := by simp [numAt, numL]
  have eM : numAt [a, b, c, 58, e, f] 4 2 = 10 * ((e.toNat : Int) - 48) + (f.toNat - 48) := by simp [numAt, numL]
  rw [eH, eM]
  have q : ∀ x : UInt8, x = 48 ↔ x.toNat = 48 := fun x => by rw [← UInt8.toNat_inj]; rfl
  simp only [List.cons.injEq, and_true, true_and, q]
  constructor
  · rintro ⟨x0, x1, x2, x3, x4⟩; exact ⟨x0, by omega, by omega⟩
  · rintro ⟨x0, x1, x2⟩; exact ⟨x0, by omega, by omega, by omega, by omega⟩

/-- what reading an offset gives, by the program -/
def OffI (s : ByteArray) (v : Int) (b : Bool) : Prop := ∀ w : World, Calls Try.prog 33 #[.string s] w fun e w' => e = .returned (.tuple #[.int .i64 v, .bool b]) ∧ Below w.heap.size w w'
/-- what reading an offset gives, by the reference -/
def OffR (s : ByteArray) (v : Int) (b : Bool) : Prop := ∀ w : World, Calls Try.prog 34 #[.string s] w fun e w' => e = .returned (.tuple #[.int .i64 v, .bool b]) ∧ Below w.heap.size w w'

/-- the number of so many digits at a place, or 0 -/
def gV (l : List UInt8) (p k : Nat) : Int := if k ≤ runL l p then numAt l p k else 0
def gB (l : List UInt8) (p k : Nat) : Bool := decide (k ≤ runL l p)
theorem get_s (s : ByteArray) (p k : Nat) (w : World) (hs : s.size ≤ 1099511627776) (hp : p ≤ 1099511627776) (hk1 : 1 ≤ k) (hk2 : k ≤ 6) :
    Calls Try.prog 61 #[.string s, .int .i64 p, .int .i64 k] w fun e w' => e = .returned (.tuple #[.int .i64 (gV s.data.toList p k), .bool (gB s.data.toList p k)]) ∧ w = w' := by
  by_cases h : k ≤ runL s.data.toList p
  · have hp2 : p ≤ s.size := by
      apply Nat.le_of_not_lt
      intro hlt
      rw [runL_big (by simp; omega)] at h
      omega
    have := get_yes_s s p k w hs hp2 h hk1 hk2
    simpa only [gV, gB, h, if_true, decide_true] using this
  · have := get_no_s s p k w hs hp (by omega) hk1 hk2
    simpa only [gV, gB, h, if_false, decide_false] using this
theorem get_i (s : ByteArray) (p k : Nat) (w : World) (hs : s.size ≤ 1099511627776) (hp : p ≤ 1099511627776) (hk1 : 1 ≤ k) (hk2 : k ≤ 6) :
    Calls Try.prog 60 #[.string s, .int .i64 p, .int .i64 k] w fun e w' => e = .returned (.tuple #[.int .i64 (gV s.data.toList p k), .bool (gB s.data.toList p k)]) ∧ Below w.heap.size w w' := by
  by_cases h : k ≤ runL s.data.toList p
  · have hp2 : p ≤ s.size := by
      apply Nat.le_of_not_lt
      intro hlt
      rw [runL_big (by simp; omega)] at h
      omega
    have := get_yes_i s p k w hs hp2 h hk1 hk2
    simpa only [gV, gB, h, if_true, decide_true] using this
  · have := get_no_i s p k w hs hp (by omega) hk1 hk2
    simpa only [gV, gB, h, if_false, decide_false] using this
theorem gV_bd (l : List UInt8) (p : Nat) : 0 ≤ gV l p 2 ∧ gV l p 2 ≤ 99 := by
  unfold gV
  split
  · rename_i h
    have := numAt_bd h
    omega
  · omega

theorem offI_Z : OffI ⟨#[90]⟩ 0 true := fun w => by
  go_enter Try.func33, Try.ntmps33
  go_wp2_with fail
  go_ret2
  exact ⟨rfl, Below.refl _ _⟩
theorem offI_z : OffI ⟨#[122]⟩ 0 true := fun w => by
  go_enter Try.func33, Try.ntmps33
  go_wp2_with fail
  go_ret2
  exact ⟨rfl, Below.refl _ _⟩
theorem offI_0 : OffI ⟨#[43, 48, 48, 58, 48, 48]⟩ 0 true := fun w => by
  go_enter Try.func33, Try.ntmps33
  go_wp2_with fail
  go_ret2
  exact ⟨rfl, Below.refl _ _⟩
theorem offR_Z : OffR ⟨#[90]⟩ 0 true := fun w => by
  go_enter Try.func34, Try.ntmps34
  go_wp2_with fail
  go_ret2
  exact ⟨rfl, Below.refl _ _⟩
theorem offR_z : OffR ⟨#[122]⟩ 0 true := fun w => by
  go_enter Try.func34, Try.ntmps34
  go_wp2_with fail
  go_ret2
  exact ⟨rfl, Below.refl _ _⟩
/-- the text is none of the three that are known by themselves -/
theorem offI_len (s : ByteArray) (hs : s.size ≤ 1099511627776) (h1 : (s.toList == [90]) = false) (h2 : (s.toList == [122]) = false) (h3 : (s.toList == [43, 48, 48, 58, 48, 48]) = false) (h6 : ((s.size : Int) != 6) = true) : OffI s 0 false := fun w => by
  go_enter Try.func33, Try.ntmps33
  go_wp2_with fail
  go_ret2
  exact ⟨rfl, Below.refl _ _⟩
theorem offI_col (s : ByteArray) (hs : s.size = 6) (h1 : (s.toList == [90]) = false) (h2 : (s.toList == [122]) = false) (h3 : (s.toList == [43, 48, 48, 58, 48, 48]) = false) (h6 : ((s.size : Int) != 6) = false) (hc : ((s[3].toNat : Int) != 58) = true) : OffI s 0 false := fun w => by
  have hs' : 3 < s.size := by omega
  have HS := Lib.hid hs
  go_enter Try.func33, Try.ntmps33
  go_wp2_with fail
  go_ret2
  exact ⟨rfl, Below.refl _ _⟩
set_option maxHeartbeats 1000000 in
theorem offI_get (s : ByteArray) (hs : s.size = 6) (h1 : (s.toList == [90]) = false) (h2 : (s.toList == [122]) = false) (h3 : (s.toList == [43, 48, 48, 58, 48, 48]) = false) (h6 : ((s.size : Int) != 6) = false) (hc : ((s[3].toNat : Int) != 58) = false) (hb : gB s.data.toList 1 2 = false ∨ gB s.data.toList 4 2 = false) : OffI s 0 false := fun w => by
  have hs' : 3 < s.size := by omega
  have hs0 : 0 < s.size := by omega
  have G1 := Lib.hid (get_i s 1 2 · (by omega) (by omega) (by omega) (by omega))
  have G2 := Lib.hid (get_i s 4 2 · (by omega) (by omega) (by omega) (by omega))
  have HS := Lib.hid hs
  obtain ⟨n1, n2⟩ := gV_bd s.data.toList 1
  obtain ⟨m1, m2⟩ := gV_bd s.data.toList 4
  generalize gV s.data.toList 1 2 = H at *
  generalize gV s.data.toList 4 2 = M at *
  obtain ⟨x, hx⟩ : ∃ x, gB s.data.toList 1 2 = x := ⟨_, rfl⟩
  obtain ⟨y, hy⟩ : ∃ x, gB s.data.toList 4 2 = x := ⟨_, rfl⟩
  rw [hx] at G1 hb
  rw [hy] at G2 hb
  clear hx hy
  by_cases h0 : ((s[0].toNat : Int) == 45) = true
  · cases x
    · clear hb
      go_enter Try.func33, Try.ntmps33
      go_wp2_with fail
      refine (G1.out _).mono ?_
      rintro e w1 ⟨rfl, bw1⟩
      have sw1 := bw1.size
      (try simp at sw1)
      have Aw1 : Below w.heap.size w w1 := Below.trans (by (repeat' (first | (with_reducible assumption) | (with_reducible exact Below.refl _ _) | (with_reducible refine bdN ?_ _) | (with_reducible refine Below.alloc ?_ ?_ _) | (with_reducible refine Below.drew ?_) | (with_reducible refine Below.setCell ?_ ?_ _) | go_size))) (bw1.mono (by go_size))
      clear bw1
      go_wp2_with fail
      refine (G2.out _).mono ?_
      rintro e w2 ⟨rfl, bw2⟩
      have sw2 := bw2.size
      (try simp at sw2)
      have Aw2 : Below w.heap.size w w2 := Below.trans (by (repeat' (first | (with_reducible assumption) | (with_reducible exact Below.refl _ _) | (with_reducible refine bdN ?_ _) | (with_reducible refine Below.alloc ?_ ?_ _) | (with_reducible refine Below.drew ?_) | (with_reducible refine Below.setCell ?_ ?_ _) | go_size))) (bw2.mono (by go_size))
      clear bw2
      go_wp2_with fail
      go_ret2
      exact ⟨rfl, by (repeat' (first | (with_reducible assumption) | (with_reducible exact Below.refl _ _) | (with_reducible refine bdN ?_ _) | (with_reducible refine Below.alloc ?_ ?_ _) | (with_reducible refine Below.drew ?_) | (with_reducible refine Below.setCell ?_ ?_ _) | go_size))⟩
    · obtain rfl : y = false := by simpa using hb
      clear hb
      go_enter Try.func33, Try.ntmps33
      go_wp2_with fail
      refine (G1.out _).mono ?_
      rintro e w1 ⟨rfl, bw1⟩
      have sw1 := bw1.size
      (try simp at sw1)
      have Aw1 : Below w.heap.size w w1 := Below.trans (by (repeat' (first | (with_reducible assumption) | (with_reducible exact Below.refl _ _) | (with_reducible refine bdN ?_ _) | (with_reducible refine Below.alloc ?_ ?_ _) | (with_reducible refine Below.drew ?_) | (with_reducible refine Below.setCell ?_ ?_ _) | go_size))) (bw1.mono (by go_size))
      clear bw1
      go_wp2_with fail
      refine (G2.out _).mono ?_
      rintro e w2 ⟨rfl, bw2⟩
      have sw2 := bw2.size
      (try simp at sw2)
      have Aw2 : Below w.heap.size w w2 := Below.trans (by (repeat' (first | (with_reducible assumption) | (with_reducible exact Below.refl _ _) | (with_reducible refine bdN ?_ _) | (with_reducible refine Below.alloc ?_ ?_ _) | (with_reducible refine Below.drew ?_) | (with_reducible refine Below.setCell ?_ ?_ _) | go_size))) (bw2.mono (by go_size))
      clear bw2
      go_wp2_with fail
      go_ret2
      exact ⟨rfl, by (repeat' (first | (with_reducible assumption) | (with_reducible exact Below.refl _ _) | (with_reducible refine bdN ?_ _) | (with_reducible refine Below.alloc ?_ ?_ _) | (with_reducible refine Below.drew ?_) | (with_reducible refine Below.setCell ?_ ?_ _) | go_size))⟩
  · have h0' : ((s[0].toNat : Int) == 45) = false := by simpa using h0
    clear h0
    cases x
    · clear hb
      go_enter Try.func33, Try.ntmps33
      go_wp2_with fail
      refine (G1.out _).mono ?_
      rintro e w1 ⟨rfl, bw1⟩
      have sw1 := bw1.size
      (try simp at sw1)
      have Aw1 : Below w.heap.size w w1 := Below.trans (by (repeat' (first | (with_reducible assumption) | (with_reducible exact Below.refl _ _) | (with_reducible refine bdN ?_ _) | (with_reducible refine Below.alloc ?_ ?_ _) | (with_reducible refine Below.drew ?_) | (with_reducible refine Below.setCell ?_ ?_ _) | go_size))) (bw1.mono (by go_size))
      clear bw1
      go_wp2_with fail
      refine (G2.out _).mono ?_
      rintro e w2 ⟨rfl, bw2⟩
      have sw2 := bw2.size
      (try simp at sw2)
      have Aw2 : Below w.heap.size w w2 := Below.trans (by (repeat' (first | (with_reducible assumption) | (with_reducible exact Below.refl _ _) | (with_reducible refine bdN ?_ _) | (with_reducible refine Below.alloc ?_ ?_ _) | (with_reducible refine Below.drew ?_) | (with_reducible refine Below.setCell ?_ ?_ _) | go_size))) (bw2.mono (by go_size))
      clear bw2
      go_wp2_with fail
      go_ret2
      exact ⟨rfl, by (repeat' (first | (with_reducible assumption) | (with_reducible exact Below.refl _ _) | (with_reducible refine bdN ?_ _) | (with_reducible refine Below.alloc ?_ ?_ _) | (with_reducible refine Below.drew ?_) | (with_reducible refine Below.setCell ?_ ?_ _) | go_size))⟩
    · obtain rfl : y = false := by simpa using hb
      clear hb
      go_enter Try.func33, Try.ntmps33
      go_wp2_with fail
      refine (G1.out _).mono ?_
      rintro e w1 ⟨rfl, bw1⟩
      have sw1 := bw1.size
      (try simp at sw1)
      have Aw1 : Below w.heap.size w w1 := Below.trans (by (repeat' (first | (with_reducible assumption) | (with_reducible exact Below.refl _ _) | (with_reducible refine bdN ?_ _) | (with_reducible refine Below.alloc ?_ ?_ _) | (with_reducible refine Below.drew ?_) | (with_reducible refine Below.setCell ?_ ?_ _) | go_size))) (bw1.mono (by go_size))
      clear bw1
      go_wp2_with fail
      refine (G2.out _).mono ?_
      rintro e w2 ⟨rfl, bw2⟩
      have sw2 := bw2.size
      (try simp at sw2)
      have Aw2 : Below w.heap.size w w2 := Below.trans (by (repeat' (first | (with_reducible assumption) | (with_reducible exact Below.refl _ _) | (with_reducible refine bdN ?_ _) | (with_reducible refine Below.alloc ?_ ?_ _) | (with_reducible refine Below.drew ?_) | (with_reducible refine Below.setCell ?_ ?_ _) | go_size))) (bw2.mono (by go_size))
      clear bw2
      go_wp2_with fail
      go_ret2
      exact ⟨rfl, by (repeat' (first | (with_reducible assumption) | (with_reducible exact Below.refl _ _) | (with_reducible refine bdN ?_ _) | (with_reducible refine Below.alloc ?_ ?_ _) | (with_reducible refine Below.drew ?_) | (with_reducible refine Below.setCell ?_ ?_ _) | go_size))⟩
set_option maxHeartbeats 1000000 in
/-- six bytes with four digits: what the sign and the numbers give -/
theorem offI_text (s : ByteArray) (o : Int) (hs : s.size = 6) (h1 : (s.toList == [90]) = false) (h2 : (s.toList == [122]) = false) (h3 : (s.toList == [43, 48, 48, 58, 48, 48]) = false) (h6 : ((s.size : Int) != 6) = false) (hc : ((s[3].toNat : Int) != 58) = false) (hb1 : gB s.data.toList 1 2 = true) (hb2 : gB s.data.toList 4 2 = true)
    (ho : o = if ((s[0].toNat : Int) == 45) = true then -(60 * gV s.data.toList 1 2 + gV s.data.toList 4 2) else 60 * gV s.data.toList 1 2 + gV s.data.toList 4 2) (b : Bool) (hb : ((offS o).toList == s.toList) = b) : OffI s (if b = true then o else 0) b := fun w => by
  have hs' : 3 < s.size := by omega
  have hs0 : 0 < s.size := by omega
  have G1 := Lib.hid (get_i s 1 2 · (by omega) (by omega) (by omega) (by omega))
  have G2 := Lib.hid (get_i s 4 2 · (by omega) (by omega) (by omega) (by omega))
  have HS := Lib.hid hs
  obtain ⟨n1, n2⟩ := gV_bd s.data.toList 1
  obtain ⟨m1, m2⟩ := gV_bd s.data.toList 4
  generalize gV s.data.toList 1 2 = H at *
  generalize gV s.data.toList 4 2 = M at *
  rw [hb1] at G1
  rw [hb2] at G2
  clear hb1 hb2
  have T := Lib.hid (OffsetText_i o)
  by_cases h0 : ((s[0].toNat : Int) == 45) = true
  · rw [if_pos h0] at ho
    subst ho
    cases b
    all_goals
      go_enter Try.func33, Try.ntmps33
      go_wp2_with fail
      refine (G1.out _).mono ?_
      rintro e w1 ⟨rfl, bw1⟩
      go_wp2_with fail
      refine (G2.out _).mono ?_
      rintro e w2 ⟨rfl, bw2⟩
      go_wp2_with fail
      refine (T.out _).mono ?_
      rintro e w3 ⟨rfl, bw3⟩
      go_wp2_with fail
      go_ret2
      exact ⟨rfl, bnext (bnext bw1 bw2) bw3⟩
  · have h0' : ((s[0].toNat : Int) == 45) = false := by simpa using h0
    rw [if_neg h0] at ho
    subst ho
    clear h0
    cases b
    all_goals
      go_enter Try.func33, Try.ntmps33
      go_wp2_with fail
      refine (G1.out _).mono ?_
      rintro e w1 ⟨rfl, bw1⟩
      go_wp2_with fail
      refine (G2.out _).mono ?_
      rintro e w2 ⟨rfl, bw2⟩
      go_wp2_with fail
      refine (T.out _).mono ?_
      rintro e w3 ⟨rfl, bw3⟩
      go_wp2_with fail
      go_ret2
      exact ⟨rfl, bnext (bnext bw1 bw2) bw3⟩

set_option maxHeartbeats 1000000 in
theorem offR_bad (s : ByteArray) (hs : s.size ≤ 1099511627776) (h1 : (s.toList == [90]) = false) (h2 : (s.toList == [122]) = false) (h : ((s.size : Int) != 6) = true ∨ (((s.size : Int) != 6) = false ∧ (gB s.data.toList 1 2 = false ∨ gB s.data.toList 4 2 = false))) : OffR s 0 false := fun w => by
  have G1 := Lib.hid (get_s s 1 2 · (by omega) (by omega) (by omega) (by omega))
  have G2 := Lib.hid (get_s s 4 2 · (by omega) (by omega) (by omega) (by omega))
  generalize gV s.data.toList 1 2 = H at *
  generalize gV s.data.toList 4 2 = M at *
  generalize gB s.data.toList 1 2 = x at *
  generalize gB s.data.toList 4 2 = y at *
  rcases h with h | ⟨h, hb⟩
  · go_enter Try.func34, Try.ntmps34
    go_wp2_with fail
    refine (G1.out _).mono ?_
    rintro e w' ⟨rfl, rfl⟩
    go_wp2_with fail
    refine (G2.out _).mono ?_
    rintro e w' ⟨rfl, rfl⟩
    go_wp2_with fail
    go_ret2
    exact ⟨rfl, Below.refl _ _⟩
  · cases x
    · clear hb
      go_enter Try.func34, Try.ntmps34
      go_wp2_with fail
      refine (G1.out _).mono ?_
      rintro e w' ⟨rfl, rfl⟩
      go_wp2_with fail
      refine (G2.out _).mono ?_
      rintro e w' ⟨rfl, rfl⟩
      go_wp2_with fail
      go_ret2
      exact ⟨rfl, Below.refl _ _⟩
    · obtain rfl : y = false := by simpa using hb
      clear hb
      go_enter Try.func34, Try.ntmps34
      go_wp2_with fail
      refine (G1.out _).mono ?_
      rintro e w' ⟨rfl, rfl⟩
      go_wp2_with fail
      refine (G2.out _).mono ?_
      rintro e w' ⟨rfl, rfl⟩
      go_wp2_with fail
      go_ret2
      exact ⟨rfl, Below.refl _ _⟩
set_option maxHeartbeats 1000000 in
theorem offR_col (s : ByteArray) (hs : s.size = 6) (h1 : (s.toList == [90]) = false) (h2 : (s.toList == [122]) = false) (h6 : ((s.size : Int) != 6) = false) (hb1 : gB s.data.toList 1 2 = true) (hb2 : gB s.data.toList 4 2 = true) (hc : ((s[3].toNat : Int) != 58) = true ∨ (((s[3].toNat : Int) != 58) = false ∧ (inB (gV s.data.toList 1 2) 0 23 = false ∨ inB (gV s.data.toList 4 2) 0 59 = false))) : OffR s 0 false := fun w => by
  have hs' : 3 < s.size := by omega
  have G1 := Lib.hid (get_s s 1 2 · (by omega) (by omega) (by omega) (by omega))
  have G2 := Lib.hid (get_s s 4 2 · (by omega) (by omega) (by omega) (by omega))
  have HS := Lib.hid hs
  generalize gV s.data.toList 1 2 = H at *
  generalize gV s.data.toList 4 2 = M at *
  rw [hb1] at G1
  rw [hb2] at G2
  clear hb1 hb2
  rcases hc with hc | ⟨hc, hb⟩
  · go_enter Try.func34, Try.ntmps34
    go_wp2_with fail
    refine (G1.out _).mono ?_
    rintro e w' ⟨rfl, rfl⟩
    go_wp2_with fail
    refine (G2.out _).mono ?_
    rintro e w' ⟨rfl, rfl⟩
    go_wp2_with fail
    go_ret2
    exact ⟨rfl, Below.refl _ _⟩
  · obtain ⟨x, hx⟩ : ∃ x, inB H 0 23 = x := ⟨_, rfl⟩
    obtain ⟨y, hy⟩ : ∃ x, inB M 0 59 = x := ⟨_, rfl⟩
    have V1 := Lib.hid (l6_of hx)
    have V2 := Lib.hid (l6_of hy)
    rw [hx, hy] at hb
    clear hx hy
    cases x
    · clear hb
      go_enter Try.func34, Try.ntmps34
      go_wp2_with fail
      refine (G1.out _).mono ?_
      rintro e w' ⟨rfl, rfl⟩
      go_wp2_with fail
      refine (G2.out _).mono ?_
      rintro e w' ⟨rfl, rfl⟩
      go_wp2_with fail
      refine (V1.out _).mono ?_
      rintro e w' ⟨rfl, rfl⟩
      go_wp2_with fail
      go_ret2
      exact ⟨rfl, Below.refl _ _⟩
    · obtain rfl : y = false := by simpa using hb
      clear hb
      go_enter Try.func34, Try.ntmps34
      go_wp2_with fail
      refine (G1.out _).mono ?_
      rintro e w' ⟨rfl, rfl⟩
      go_wp2_with fail
      refine (G2.out _).mono ?_
      rintro e w' ⟨rfl, rfl⟩
      go_wp2_with fail
      refine (V1.out _).mono ?_
      rintro e w' ⟨rfl, rfl⟩
      go_wp2_with fail
      refine (V2.out _).mono ?_
      rintro e w' ⟨rfl, rfl⟩
      go_wp2_with fail
      go_ret2
      exact ⟨rfl, Below.refl _ _⟩
set_option maxHeartbeats 1000000 in
theorem offR_text (s : ByteArray) (hs : s.size = 6) (h1 : (s.toList == [90]) = false) (h2 : (s.toList == [122]) = false) (h6 : ((s.size : Int) != 6) = false) (hb1 : gB s.data.toList 1 2 = true) (hb2 : gB s.data.toList 4 2 = true) (hc : ((s[3].toNat : Int) != 58) = false)
    (hv1 : inB (gV s.data.toList 1 2) 0 23 = true) (hv2 : inB (gV s.data.toList 4 2) 0 59 = true) (N : Int) (hN : N = 60 * gV s.data.toList 1 2 + gV s.data.toList 4 2) (v : Int) (b : Bool)
    (h : (((s[0].toNat : Int) == 43) = true ∧ v = N ∧ b = true) ∨ (((s[0].toNat : Int) == 43) = false ∧ ((s[0].toNat : Int) == 45) = true ∧ 0 < N ∧ v = -N ∧ b = true) ∨ (((s[0].toNat : Int) == 43) = false ∧ ((s[0].toNat : Int) == 45) = true ∧ ¬ 0 < N ∧ v = 0 ∧ b = false) ∨ (((s[0].toNat : Int) == 43) = false ∧ ((s[0].toNat : Int) == 45) = false ∧ v = 0 ∧ b = false)) : OffR s v b := fun w => by
  have hs' : 3 < s.size := by omega
  have hs0 : 0 < s.size := by omega
  have G1 := Lib.hid (get_s s 1 2 · (by omega) (by omega) (by omega) (by omega))
  have G2 := Lib.hid (get_s s 4 2 · (by omega) (by omega) (by omega) (by omega))
  have V1 := Lib.hid (l6_of hv1)
  have V2 := Lib.hid (l6_of hv2)
  have HS := Lib.hid hs
  obtain ⟨n1, n2⟩ := gV_bd s.data.toList 1
  obtain ⟨m1, m2⟩ := gV_bd s.data.toList 4
  generalize gV s.data.toList 1 2 = H at *
  generalize gV s.data.toList 4 2 = M at *
  rw [hb1] at G1
  rw [hb2] at G2
  clear hb1 hb2 hv1 hv2
  subst hN
  rcases h with ⟨q1, rfl, rfl⟩ | ⟨q1, q2, q3, rfl, rfl⟩ | ⟨q1, q2, q3, rfl, rfl⟩ | ⟨q1, q2, rfl, rfl⟩
  all_goals
    go_enter Try.func34, Try.ntmps34
    go_wp2_with fail
    refine (G1.out _).mono ?_
    rintro e w' ⟨rfl, rfl⟩
    go_wp2_with fail
    refine (G2.out _).mono ?_
    rintro e w' ⟨rfl, rfl⟩
    go_wp2_with fail
    refine (V1.out _).mono ?_
    rintro e w' ⟨rfl, rfl⟩
    go_wp2_with fail
    refine (V2.out _).mono ?_
    rintro e w' ⟨rfl, rfl⟩
    go_wp2_with fail
    go_ret2
    exact ⟨rfl, Below.refl _ _⟩
theorem ba_of {s : ByteArray} {l : List UInt8} (h : s.data.toList = l) : s = ⟨l.toArray⟩ := by
  apply ByteArray.ext; rw [← h]
theorem u8_i {x : UInt8} {n : Nat} (hn : n < 256) : ((x.toNat : Int) == (n : Int)) = decide (x = UInt8.ofNat n) := by
  rw [Bool.eq_iff_iff, beq_iff_eq, decide_eq_true_eq, ← UInt8.toNat_inj, UInt8.toNat_ofNat']
  omega
theorem off_both (s : ByteArray) (hs : s.size ≤ 1099511627776) : ∃ (v : Int) (b : Bool), OffI s v b ∧ OffR s v b ∧ (b = true → (offS v).toList = s.toList ∨ (v = 0 ∧ (s.toList = [122] ∨ s.toList = [43, 48, 48, 58, 48, 48]))) := by
  have ht : s.toList = s.data.toList := ByteArray.toList_eq s
  by_cases e1 : s.data.toList = [90]
  · obtain rfl := ba_of e1
    exact ⟨0, true, offI_Z, offR_Z, fun _ => .inl (by simp [offS])⟩
  by_cases e2 : s.data.toList = [122]
  · obtain rfl := ba_of e2
    exact ⟨0, true, offI_z, offR_z, fun _ => .inr ⟨rfl, .inl (by simp)⟩⟩
  have h1 : (s.toList == [90]) = false := by rw [ht]; simpa using e1
  have h2 : (s.toList == [122]) = false := by rw [ht]; simpa using e2
  by_cases e6 : s.size = 6
  rotate_left
  · have h6 : ((s.size : Int) != 6) = true := by simp; omega
    refine ⟨0, false, offI_len s hs h1 h2 ?_ h6, offR_bad s hs h1 h2 (.inl h6), fun h => by cases h⟩
    rw [ht]
    simp only [beq_eq_false_iff_ne, ne_eq]
    intro e
    have := congrArg List.length e
    simp at this
    omega
  have h6 : ((s.size : Int) != 6) = false := by rw [e6]; rfl
  have hl : s.data.toList.length = 6 := by simpa using e6
  have g3 : s[3] = s.data.toList[3] := rfl
  have g0 : s[0] = s.data.toList[0] := rfl
  have q3 : ((s[3].toNat : Int) != 58) = !decide (s.data.toList[3] = 58) := by
    rw [bne, show (58 : Int) = ((58 : Nat) : Int) from rfl, u8_i (by omega), g3]; rfl
  have q43 : ((s[0].toNat : Int) == 43) = decide (s.data.toList[0] = 43) := by
    rw [show (43 : Int) = ((43 : Nat) : Int) from rfl, u8_i (by omega), g0]; rfl
  have q45 : ((s[0].toNat : Int) == 45) = decide (s.data.toList[0] = 45) := by
    rw [show (45 : Int) = ((45 : Nat) : Int) from rfl, u8_i (by omega), g0]; rfl
  by_cases ez : s.data.toList = [43, 48, 48, 58, 48, 48]
  · have g1 : gB s.data.toList 1 2 = true := by rw [ez]; decide
    have g2 : gB s.data.toList 4 2 = true := by rw [ez]; decide
    have v1 : gV s.data.toList 1 2 = 0 := by rw [ez]; decide
    have v2 : gV s.data.toList 4 2 = 0 := by rw [ez]; decide
    refine ⟨0, true, by rw [ba_of ez]; exact offI_0, ?_, fun _ => .inr ⟨rfl, .inr (by rw [ht]; exact ez)⟩⟩
    exact offR_text s e6 h1 h2 h6 g1 g2 (by rw [q3]; simp [ez]) (by rw [v1]; decide) (by rw [v2]; decide) 0 (by rw [v1, v2]; rfl) 0 true (.inl ⟨by rw [q43]; simp [ez], rfl, rfl⟩)
  have h3 : (s.toList == [43, 48, 48, 58, 48, 48]) = false := by rw [ht]; simpa using ez
  by_cases ec : s.data.toList[3] = 58
  rotate_left
  · have hc : ((s[3].toNat : Int) != 58) = true := by rw [q3]; simpa using ec
    by_cases gg : gB s.data.toList 1 2 = true ∧ gB s.data.toList 4 2 = true
    · exact ⟨0, false, offI_col s e6 h1 h2 h3 h6 hc, offR_col s e6 h1 h2 h6 gg.1 gg.2 (.inl hc), fun h => by cases h⟩
    · refine ⟨0, false, offI_col s e6 h1 h2 h3 h6 hc, offR_bad s hs h1 h2 (.inr ⟨h6, ?_⟩), fun h => by cases h⟩
      by_cases g : gB s.data.toList 1 2 = true
      · exact .inr (by simpa using fun h => gg ⟨g, h⟩)
      · exact .inl (by simpa using g)
  have hc : ((s[3].toNat : Int) != 58) = false := by rw [q3]; simpa using ec
  by_cases gg : gB s.data.toList 1 2 = true ∧ gB s.data.toList 4 2 = true
  rotate_left
  · have g : gB s.data.toList 1 2 = false ∨ gB s.data.toList 4 2 = false := by
      by_cases g : gB s.data.toList 1 2 = true
      · exact .inr (by simpa using fun h => gg ⟨g, h⟩)
      · exact .inl (by simpa using g)
    exact ⟨0, false, offI_get s e6 h1 h2 h3 h6 hc g, offR_bad s hs h1 h2 (.inr ⟨h6, g⟩), fun h => by cases h⟩
  obtain ⟨g1, g2⟩ := gg
  have k1 : 2 ≤ runL s.data.toList 1 := by simpa [gB] using g1
  have k4 : 2 ≤ runL s.data.toList 4 := by simpa [gB] using g2
  have v1 : gV s.data.toList 1 2 = numAt s.data.toList 1 2 := if_pos k1
  have v2 : gV s.data.toList 4 2 = numAt s.data.toList 4 2 := if_pos k4
  have z := off_zero hl ec k1 k4
  obtain ⟨b1, b2⟩ := gV_bd s.data.toList 1
  obtain ⟨b3, b4⟩ := gV_bd s.data.toList 4
  rw [← v1, ← v2] at z
  have X := off_text hl ec k1 k4 (if s.data.toList[0] = 45 then -(60 * gV s.data.toList 1 2 + gV s.data.toList 4 2) else 60 * gV s.data.toList 1 2 + gV s.data.toList 4 2) (60 * gV s.data.toList 1 2 + gV s.data.toList 4 2) (by rw [v1, v2]) rfl
  rw [← v1, ← v2] at X
  have T := fun b => offI_text s (if s.data.toList[0] = 45 then -(60 * gV s.data.toList 1 2 + gV s.data.toList 4 2) else 60 * gV s.data.toList 1 2 + gV s.data.toList 4 2) e6 h1 h2 h3 h6 hc g1 g2 (by rw [q45]; simp) b
  have Y := fun a b => offR_text s e6 h1 h2 h6 g1 g2 hc a b (60 * gV s.data.toList 1 2 + gV s.data.toList 4 2) rfl
  have Z := fun h => offR_col s e6 h1 h2 h6 g1 g2 (.inr ⟨hc, h⟩)
  rw [q43, q45] at Y
  generalize gV s.data.toList 1 2 = H at *
  generalize gV s.data.toList 4 2 = M at *
  by_cases good : 0 < 60 * H + M ∧ H ≤ 23 ∧ M ≤ 59 ∧ (s.data.toList[0] = 43 ∨ s.data.toList[0] = 45)
  · have X' := X.2 good
    obtain ⟨p1, p2, p3, p4⟩ := good
    refine ⟨_, true, T true (by rw [ht, ByteArray.toList_eq, X']; simp), Y (inB_t b1 p2) (inB_t b3 p3) _ true ?_, fun _ => .inl ?_⟩
    · rcases p4 with p4 | p4
      · exact .inl ⟨by rw [p4]; rfl, by rw [p4]; rfl, rfl⟩
      · exact .inr (.inl ⟨by rw [p4]; rfl, by rw [p4]; rfl, p1, by rw [p4]; rfl, rfl⟩)
    · rw [ht, ByteArray.toList_eq]; exact X'
  · have X' : ¬ _ := fun h => good (X.1 h)
    have t := T false (by rw [ht, ByteArray.toList_eq]; simpa using X')
    refine ⟨0, false, t, ?_, fun h => by cases h⟩
    by_cases p2 : H ≤ 23
    rotate_left
    · exact Z (.inl (inB_f (by omega)))
    by_cases p3 : M ≤ 59
    rotate_left
    · exact Z (.inr (inB_f (by omega)))
    refine Y (inB_t b1 p2) (inB_t b3 p3) 0 false ?_
    by_cases p0 : s.data.toList[0] = 43
    · exfalso
      have hN : ¬ 0 < 60 * H + M := fun h => good ⟨h, p2, p3, .inl p0⟩
      exact ez (z.2 ⟨p0, by omega, by omega⟩)
    · by_cases p5 : s.data.toList[0] = 45
      · exact .inr (.inr (.inl ⟨by simpa using p0, by simpa using p5, fun h => good ⟨h, p2, p3, .inr p5⟩, rfl, rfl⟩))
      · exact .inr (.inr (.inr ⟨by simpa using p0, by simpa using p5, rfl, rfl⟩))
end Go.Proofs.Ytbgpdjceofofoaa
