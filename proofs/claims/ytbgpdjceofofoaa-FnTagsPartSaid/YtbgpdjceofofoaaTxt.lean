/- Texts and numbers: a number of so many digits, the digits at a place of a text; plain lemmas, of no program. No condition. -/
import GoSem.Claim
namespace DN
set_option linter.unusedVariables false
/-- a digit -/
def isDg (b : UInt8) : Bool := decide (48 ≤ (b.toNat : Int)) && decide ((b.toNat : Int) ≤ 57)
/-- the last digit of a number, as a byte -/
def dgB (n : Int) : UInt8 := UInt8.ofNat (48 + n % 10).toNat
/-- a number's last k digits -/
def dgL : Nat → Int → List UInt8
  | 0, _ => []
  | k + 1, n => dgL k (n / 10) ++ [dgB n]
def dgS (k : Nat) (n : Int) : ByteArray := ⟨(dgL k n).toArray⟩
theorem dgL_len (k : Nat) (n : Int) : (dgL k n).length = k := by
  induction k generalizing n with
  | zero => rfl
  | succ k ih => simp [dgL, ih]
theorem dgS_size (k : Nat) (n : Int) : (dgS k n).size = k := by
  show (dgL k n).toArray.size = k
  simp [dgL_len]
theorem dgB_num (n : Int) : ((dgB n).toNat : Int) = 48 + n % 10 := by
  unfold dgB
  have h : (48 + n % 10).toNat < 256 := by omega
  have e : (UInt8.ofNat (48 + n % 10).toNat).toNat = (48 + n % 10).toNat := by simp [UInt8.toNat_ofNat']; omega
  rw [e]
  omega
theorem dgB_isDg (n : Int) : isDg (dgB n) = true := by
  unfold isDg; rw [dgB_num]; simp; omega
theorem dgL_append (j k : Nat) (n : Int) (_h : 0 ≤ n) : dgL (j + k) n = dgL j (n / 10 ^ k) ++ dgL k n := by
  induction k generalizing n with
  | zero => simp [dgL]
  | succ k ih =>
    show dgL (j + k) (n / 10) ++ [dgB n] = _
    rw [ih (n / 10) (by omega)]
    simp only [dgL, List.append_assoc]
    congr 2
    rw [Int.ediv_ediv_of_nonneg (by omega), Int.pow_succ, Int.mul_comm]
theorem dgL_one (n : Int) : dgL 1 n = [dgB n] := rfl
theorem dgB_mod (n : Int) : dgB (n % 10) = dgB n := by unfold dgB; rw [Int.emod_emod_of_dvd n (Int.dvd_refl 10)]
/-- the number of a list of digits -/
def numL (l : List UInt8) : Int := l.foldl (fun a b => 10 * a + ((b.toNat : Int) - 48)) 0
theorem numL_snoc (l : List UInt8) (b : UInt8) : numL (l ++ [b]) = 10 * numL l + ((b.toNat : Int) - 48) := by simp [numL]
theorem numL_dgL (k : Nat) (n : Int) : 0 ≤ n → n < 10 ^ k → numL (dgL k n) = n := by
  induction k generalizing n with
  | zero => intro h1 h2; simp [dgL, numL]; omega
  | succ k ih =>
    intro h1 h2
    rw [Int.pow_succ] at h2
    rw [dgL, numL_snoc, dgB_num, ih (n / 10) (by omega) (by omega)]
    omega
theorem isDg_bd {b : UInt8} (h : isDg b = true) : 0 ≤ (b.toNat : Int) - 48 ∧ (b.toNat : Int) - 48 ≤ 9 := by
  unfold isDg at h; simp at h; omega
theorem list_snoc {α : Type} {P : List α → Prop} (h0 : P []) (h1 : ∀ l b, P l → P (l ++ [b])) (l : List α) : P l := by
  suffices h : ∀ (k : Nat) (l : List α), l.length = k → P l from h _ l rfl
  intro k
  induction k with
  | zero => intro l hl; rw [List.length_eq_zero_iff.1 hl]; exact h0
  | succ k ih =>
    intro l hl
    have hne : l ≠ [] := by intro e; rw [e] at hl; simp at hl
    rw [← List.dropLast_concat_getLast hne]
    exact h1 _ _ (ih _ (by simp [hl]))
theorem numL_bd (l : List UInt8) : (∀ b ∈ l, isDg b = true) → 0 ≤ numL l ∧ numL l < 10 ^ l.length := by
  refine list_snoc (P := fun l => (∀ b ∈ l, isDg b = true) → 0 ≤ numL l ∧ numL l < 10 ^ l.length) ?_ ?_ l
  · intro _; simp [numL]
  · intro l b ih h
    obtain ⟨a, c⟩ := ih (fun x hx => h x (by simp [hx]))
    obtain ⟨d, e⟩ := isDg_bd (h b (by simp))
    rw [numL_snoc]
    simp only [List.length_append, List.length_cons, List.length_nil, Int.pow_succ]
    omega
/-- how many digits follow -/
def runL (l : List UInt8) (p : Nat) : Nat := ((l.drop p).takeWhile isDg).length
theorem takeWhile_at (l : List UInt8) (q : UInt8 → Bool) : ∀ j, j < (l.takeWhile q).length → ∃ h : j < l.length, q l[j] = true := by
  induction l with
  | nil => intro j h; simp at h
  | cons a r ih =>
    intro j h
    by_cases ha : q a = true
    · rw [List.takeWhile_cons_of_pos ha] at h
      cases j with
      | zero => exact ⟨by simp, ha⟩
      | succ j =>
        obtain ⟨h1, h2⟩ := ih j (by simpa using h)
        exact ⟨by simpa using h1, by simpa using h2⟩
    · rw [List.takeWhile_cons_of_neg ha] at h
      simp at h
theorem takeWhile_stop (l : List UInt8) (q : UInt8 → Bool) (h : (l.takeWhile q).length < l.length) : q l[(l.takeWhile q).length] = false := by
  induction l with
  | nil => simp at h
  | cons a r ih =>
    by_cases ha : q a = true
    · have e : (List.takeWhile q (a :: r)).length = (List.takeWhile q r).length + 1 := by rw [List.takeWhile_cons_of_pos ha]; rfl
      simp only [e, List.getElem_cons_succ]
      exact ih (by rw [e] at h; simpa using h)
    · have e : (List.takeWhile q (a :: r)).length = 0 := by rw [List.takeWhile_cons_of_neg ha]; rfl
      simp only [e, List.getElem_cons_zero]
      simpa using ha
set_option linter.unusedSimpArgs false in
theorem takeWhile_len (l : List UInt8) (q : UInt8 → Bool) : (l.takeWhile q).length ≤ l.length := by
  induction l with
  | nil => simp
  | cons a r ih => by_cases ha : q a = true <;> simp [List.takeWhile_cons, ha]; omega
theorem runL_lt {l : List UInt8} {p j : Nat} (h : j < runL l p) : ∃ hh : p + j < l.length, isDg l[p + j] = true := by
  obtain ⟨h1, h2⟩ := takeWhile_at (l.drop p) isDg j h
  simp only [List.length_drop] at h1
  refine ⟨by omega, ?_⟩
  simpa using h2
theorem runL_end {l : List UInt8} {p : Nat} (h : p + runL l p < l.length) : isDg l[p + runL l p] = false := by
  have h0 : ((l.drop p).takeWhile isDg).length < (l.drop p).length := by simp only [List.length_drop]; unfold runL at h; omega
  have := takeWhile_stop (l.drop p) isDg h0
  simpa [runL] using this
theorem runL_le {l : List UInt8} {p : Nat} (h : p ≤ l.length) : p + runL l p ≤ l.length := by
  have := takeWhile_len (l.drop p) isDg
  simp only [List.length_drop] at this
  unfold runL; omega
theorem runL_big {l : List UInt8} {p : Nat} (h : l.length ≤ p) : runL l p = 0 := by
  unfold runL; rw [List.drop_eq_nil_of_le h]; rfl
/-- k digits stand at p -/
theorem le_runL {l : List UInt8} {p k : Nat} (h : ∀ j, j < k → ∃ hh : p + j < l.length, isDg l[p + j] = true) : k ≤ runL l p := by
  apply Nat.le_of_not_lt
  intro hlt
  obtain ⟨h1, h2⟩ := h _ hlt
  rw [runL_end h1] at h2
  exact absurd h2 (by simp)
/-- the number of the k digits at p -/
def numAt (l : List UInt8) (p k : Nat) : Int := numL ((l.drop p).take k)
theorem numAt_zero (l : List UInt8) (p : Nat) : numAt l p 0 = 0 := by simp [numAt, numL]
theorem numAt_succ {l : List UInt8} {p k : Nat} (h : p + k < l.length) : numAt l p (k + 1) = 10 * numAt l p k + ((l[p + k].toNat : Int) - 48) := by
  unfold numAt
  rw [List.take_succ_eq_append_getElem (by simp; omega), numL_snoc]
  simp
theorem numAt_bd {l : List UInt8} {p k : Nat} (h : k ≤ runL l p) : 0 ≤ numAt l p k ∧ numAt l p k < 10 ^ k := by
  have h1 : ((l.drop p).take k).length = k := by
    have := takeWhile_len (l.drop p) isDg
    rw [List.length_take]; unfold runL at h; omega
  have h2 := numL_bd ((l.drop p).take k) (fun b hb => by
    obtain ⟨j, hj, rfl⟩ := List.getElem_of_mem hb
    obtain ⟨h3, h4⟩ := runL_lt (l := l) (p := p) (j := j) (by omega)
    simpa using h4)
  rw [h1] at h2
  exact h2
end DN
