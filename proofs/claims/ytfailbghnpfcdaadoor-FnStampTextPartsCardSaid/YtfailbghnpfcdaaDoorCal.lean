/- Plain mathematics of the calendar (no program in sight): leap years, days of months, numbers of days; the number of a day determines its date. No condition. -/
namespace DN

/-- whether a year is a leap year -/
def lp (y : Int) : Bool := decide (y % 4 = 0 ∧ (y % 100 ≠ 0 ∨ y % 400 = 0))
/-- 1 in a leap year, else 0 -/
def lpI (y : Int) : Int := if y % 4 = 0 ∧ (y % 100 ≠ 0 ∨ y % 400 = 0) then 1 else 0
/-- days of the months of a year that is no leap year -/
def md0 (m : Int) : Int := if m = 2 then 28 else if m = 4 ∨ m = 6 ∨ m = 9 ∨ m = 11 then 30 else 31
/-- days of a month -/
def md (y m : Int) : Int := if 1 ≤ y ∧ y ≤ 9999 ∧ 1 ≤ m ∧ m ≤ 12 then (if m = 2 then 28 + lpI y else md0 m) else 0
/-- days ahead of a year -/
def yb (y : Int) : Int := 365 * (y - 1) + (y - 1) / 4 - (y - 1) / 100 + (y - 1) / 400
/-- days of a year ahead of a month (1 to 13) -/
def mc0 (m : Int) : Int :=
  if m = 1 then 0 else if m = 2 then 31 else if m = 3 then 59 else if m = 4 then 90 else if m = 5 then 120 else if m = 6 then 151
  else if m = 7 then 181 else if m = 8 then 212 else if m = 9 then 243 else if m = 10 then 273 else if m = 11 then 304 else if m = 12 then 334 else 365
def mc (y m : Int) : Int := mc0 m + if 2 < m then lpI y else 0
/-- the date is valid -/
def vd (y m d : Int) : Bool := decide (1 ≤ d ∧ d ≤ md y m)
/-- the number of the day of a date -/
def dn (y m d : Int) : Int := yb y + mc y m + d - 1

theorem lp_eq (y : Int) : lp y = decide (lpI y = 1) := by
  unfold lp lpI; split <;> simp_all
theorem lpI_01 (y : Int) : 0 ≤ lpI y ∧ lpI y ≤ 1 := by unfold lpI; split <;> omega
theorem yb_succ (y : Int) (_h : 1 ≤ y) : yb (y + 1) = yb y + 365 + lpI y := by
  unfold yb lpI; split <;> omega
theorem yb_one : yb 1 = 0 := by decide
theorem yb_mono {a b : Int} (_h1 : 1 ≤ a) (h : a ≤ b) : yb a + 365 * (b - a) ≤ yb b := by unfold yb; omega
theorem yb_bd (y : Int) (h0 : 1 ≤ y) (h : y ≤ 10000) : 0 ≤ yb y ∧ yb y ≤ 3652059 := by unfold yb; omega
theorem yb_max : yb 10000 = 3652059 := by decide
theorem yb_guess (n : Int) (h0 : 0 ≤ n) : yb (n / 366 + 1) ≤ n := by unfold yb; omega
theorem yb_le (y n : Int) (h : yb y ≤ n) (h1 : 1 ≤ y) : 365 * (y - 1) ≤ n := by unfold yb at h; omega
theorem md_pos (y m : Int) (h1 : 1 ≤ y) (h2 : y ≤ 9999) (h3 : 1 ≤ m) (h4 : m ≤ 12) : 28 ≤ md y m ∧ md y m ≤ 31 := by
  have := lpI_01 y
  unfold md md0; rw [if_pos ⟨h1, h2, h3, h4⟩]; split
  · omega
  · split <;> omega
theorem md_bd (y m : Int) : 0 ≤ md y m ∧ md y m ≤ 31 := by
  by_cases h : 1 ≤ y ∧ y ≤ 9999 ∧ 1 ≤ m ∧ m ≤ 12
  · have := md_pos y m h.1 h.2.1 h.2.2.1 h.2.2.2; omega
  · unfold md; rw [if_neg h]; omega
theorem md_in {y m : Int} (h : 1 ≤ md y m) : 1 ≤ y ∧ y ≤ 9999 ∧ 1 ≤ m ∧ m ≤ 12 := by
  by_cases hc : 1 ≤ y ∧ y ≤ 9999 ∧ 1 ≤ m ∧ m ≤ 12
  · exact hc
  · unfold md at h; rw [if_neg hc] at h; omega
theorem months {m : Int} {P : Int → Prop} (h1 : 1 ≤ m) (h2 : m ≤ 12) (p1 : P 1) (p2 : P 2) (p3 : P 3) (p4 : P 4) (p5 : P 5) (p6 : P 6) (p7 : P 7) (p8 : P 8) (p9 : P 9) (p10 : P 10) (p11 : P 11) (p12 : P 12) : P m := by
  have h : m = 1 ∨ m = 2 ∨ m = 3 ∨ m = 4 ∨ m = 5 ∨ m = 6 ∨ m = 7 ∨ m = 8 ∨ m = 9 ∨ m = 10 ∨ m = 11 ∨ m = 12 := by omega
  rcases h with rfl | rfl | rfl | rfl | rfl | rfl | rfl | rfl | rfl | rfl | rfl | rfl <;> assumption
theorem mc_succ (y m : Int) (h1 : 1 ≤ y) (h2 : y ≤ 9999) (h3 : 1 ≤ m) (h4 : m ≤ 12) : mc y (m + 1) = mc y m + md y m := by
  unfold md; rw [if_pos ⟨h1, h2, h3, h4⟩]; unfold mc
  refine months (P := fun m => mc0 (m + 1) + (if 2 < m + 1 then lpI y else 0) = mc0 m + (if 2 < m then lpI y else 0) + if m = 2 then 28 + lpI y else md0 m) h3 h4 ?_ ?_ ?_ ?_ ?_ ?_ ?_ ?_ ?_ ?_ ?_ ?_ <;> simp [mc0, md0] <;> omega
theorem mc_one (y : Int) : mc y 1 = 0 := by simp [mc, mc0]
theorem mc_end (y : Int) : mc y 13 = 365 + lpI y := by simp [mc, mc0]
theorem mc_bd (y m : Int) (h3 : 1 ≤ m) (h4 : m ≤ 13) : 0 ≤ mc y m ∧ mc y m ≤ 366 := by
  have := lpI_01 y
  by_cases h : m = 13
  · subst h; rw [mc_end]; omega
  · unfold mc
    exact months (P := fun m => 0 ≤ mc0 m + (if 2 < m then lpI y else 0) ∧ mc0 m + (if 2 < m then lpI y else 0) ≤ 366) h3 (by omega) (by simp [mc0]) (by simp [mc0]) (by simp [mc0]; omega) (by simp [mc0]; omega) (by simp [mc0]; omega) (by simp [mc0]; omega) (by simp [mc0]; omega) (by simp [mc0]; omega) (by simp [mc0]; omega) (by simp [mc0]; omega) (by simp [mc0]; omega) (by simp [mc0]; omega)
theorem mc_step (y : Int) (n : Nat) : ∀ m k : Int, 1 ≤ y → y ≤ 9999 → 1 ≤ m → m < k → k ≤ 13 → k - m = n → mc y m + md y m ≤ mc y k := by
  induction n with
  | zero => intros; omega
  | succ n ih =>
    intro m k h1 h2 h3 h4 h5 h6
    have hs := mc_succ y m h1 h2 h3 (by omega)
    by_cases he : k = m + 1
    · subst he; omega
    · have := ih (m + 1) k h1 h2 (by omega) (by omega) h5 (by omega)
      have := (md_pos y (m + 1) h1 h2 (by omega) (by omega)).1
      omega
theorem mc_lt {y m k : Int} (h1 : 1 ≤ y) (h2 : y ≤ 9999) (h3 : 1 ≤ m) (h4 : m < k) (h5 : k ≤ 13) : mc y m + md y m ≤ mc y k :=
  mc_step y (k - m).toNat m k h1 h2 h3 h4 h5 (by omega)

/-- a valid date, as inequalities -/
theorem vd_iff {y m d : Int} : vd y m d = true ↔ (1 ≤ y ∧ y ≤ 9999 ∧ 1 ≤ m ∧ m ≤ 12 ∧ 1 ≤ d ∧ d ≤ md y m) := by
  unfold vd
  constructor
  · intro h
    have h' := of_decide_eq_true h
    have := md_in (y := y) (m := m) (by omega)
    omega
  · intro h; exact decide_eq_true ⟨h.2.2.2.2.1, h.2.2.2.2.2⟩
theorem vd_no {y m d : Int} (h : ¬ (1 ≤ y ∧ y ≤ 9999 ∧ 1 ≤ m ∧ m ≤ 12)) : vd y m d = false := by
  cases hv : vd y m d
  · rfl
  · have := vd_iff.1 hv; omega
theorem dn_year {y m d : Int} (h : vd y m d = true) : yb y ≤ dn y m d ∧ dn y m d < yb (y + 1) := by
  obtain ⟨h1, h2, h3, h4, h5, h6⟩ := vd_iff.1 h
  have := yb_succ y h1
  have := mc_bd y m h3 (by omega)
  have := mc_lt h1 h2 h3 (k := 13) (by omega) (by omega)
  have := mc_end y
  unfold dn; omega
theorem dn_bd {y m d : Int} (h : vd y m d = true) : 0 ≤ dn y m d ∧ dn y m d ≤ 3652058 := by
  have := dn_year h
  obtain ⟨h1, h2, h3, h4, h5, h6⟩ := vd_iff.1 h
  have := yb_bd y h1 (by omega)
  have := yb_mono (a := y + 1) (b := 10000) (by omega) (by omega)
  have := yb_max
  omega
theorem year_eq {y z n : Int} (h1 : 1 ≤ y) (h2 : 1 ≤ z) (a : yb y ≤ n) (b : n < yb (y + 1)) (c : yb z ≤ n) (d : n < yb (z + 1)) : y = z := by
  by_cases h : y < z
  · have := yb_mono (a := y + 1) (b := z) (by omega) (by omega); omega
  · by_cases h' : z < y
    · have := yb_mono (a := z + 1) (b := y) (by omega) (by omega); omega
    · omega
theorem dn_inj {y m d z k e : Int} (hv : vd y m d = true) (hw : vd z k e = true) (h : dn y m d = dn z k e) : y = z ∧ m = k ∧ d = e := by
  have h1 := dn_year hv
  have h2 := dn_year hw
  obtain ⟨a1, a2, a3, a4, a5, a6⟩ := vd_iff.1 hv
  obtain ⟨b1, b2, b3, b4, b5, b6⟩ := vd_iff.1 hw
  have hy : y = z := year_eq a1 b1 h1.1 h1.2 (by omega) (by omega)
  subst hy
  unfold dn at h
  by_cases c : m < k
  · have := mc_lt a1 a2 a3 c (by omega); omega
  · by_cases c' : k < m
    · have := mc_lt a1 a2 b3 c' (by omega); omega
    · obtain rfl : m = k := by omega
      exact ⟨rfl, rfl, by omega⟩

/-- y m d is the date of day n -/
def IsD (n y m d : Int) : Prop := vd y m d = true ∧ dn y m d = n
theorem isD_year {n y m d : Int} (h : IsD n y m d) : 1 ≤ y ∧ y ≤ 9999 ∧ yb y ≤ n ∧ n < yb (y + 1) := by
  obtain ⟨h1, h2⟩ := h
  have := dn_year h1
  have := vd_iff.1 h1
  omega
theorem isD_year_lt {n y m d k : Int} (h : IsD n y m d) (_h1 : 1 ≤ k) (hk : yb k ≤ n) : k ≤ y := by
  obtain ⟨a, b, c, e⟩ := isD_year h
  by_cases hc : k ≤ y
  · exact hc
  · have := yb_mono (a := y + 1) (b := k) (by omega) (by omega); omega
theorem isD_year_le {n y m d k : Int} (h : IsD n y m d) (h1 : 1 ≤ k) (hk : k ≤ y) : yb k ≤ n := by
  obtain ⟨a, b, c, e⟩ := isD_year h
  have := yb_mono (a := k) (b := y) h1 hk
  omega
theorem isD_month {n y m d : Int} (h : IsD n y m d) : 1 ≤ m ∧ m ≤ 12 ∧ mc y m ≤ n - yb y ∧ n - yb y < mc y (m + 1) ∧ d = n - yb y - mc y m + 1 := by
  obtain ⟨h1, h2⟩ := h
  obtain ⟨a1, a2, a3, a4, a5, a6⟩ := vd_iff.1 h1
  have := mc_succ y m a1 a2 a3 a4
  unfold dn at h2
  omega
theorem isD_month_lt {n y m d k : Int} (h : IsD n y m d) (h1 : 1 ≤ k) (h2 : k ≤ 12) (hk : mc y k ≤ n - yb y) : k ≤ m := by
  obtain ⟨a, b, c, e, _⟩ := isD_month h
  obtain ⟨y1, y2, _⟩ := isD_year h
  by_cases hc : k ≤ m
  · exact hc
  · by_cases hm : k = m + 1
    · subst hm; omega
    · have := mc_lt y1 y2 (m := m + 1) (k := k) (by omega) (by omega) (by omega)
      have := (md_pos y (m + 1) y1 y2 (by omega) (by omega)).1
      omega
theorem isD_month_le {n y m d k : Int} (h : IsD n y m d) (h1 : 1 ≤ k) (hk : k ≤ m) : mc y k ≤ n - yb y := by
  obtain ⟨a, b, c, e, _⟩ := isD_month h
  obtain ⟨y1, y2, _⟩ := isD_year h
  by_cases hm : k = m
  · subst hm; exact c
  · have := mc_lt y1 y2 (m := k) (k := m) h1 (by omega) (by omega)
    have := (md_pos y k y1 y2 h1 (by omega)).1
    omega
theorem isD_inj {n y m d z k e : Int} (h : IsD n y m d) (g : IsD n z k e) : y = z ∧ m = k ∧ d = e := dn_inj h.1 g.1 (h.2.trans g.2.symm)
theorem isD_bd {n y m d : Int} (h : IsD n y m d) : 0 ≤ n ∧ n ≤ 3652058 := by have := dn_bd h.1; rw [h.2] at this; exact this
theorem find (f : Int → Int) (n : Int) (k : Nat) : ∀ a : Int, f a ≤ n → n < f (a + k) → ∃ b, a ≤ b ∧ b < a + k ∧ f b ≤ n ∧ n < f (b + 1) := by
  induction k with
  | zero => intro a h1 h2; simp at h2; omega
  | succ k ih =>
    intro a h1 h2
    by_cases hc : n < f (a + 1)
    · exact ⟨a, by omega, by omega, h1, hc⟩
    · have e : a + 1 + (k : Int) = a + ((k + 1 : Nat) : Int) := by omega
      obtain ⟨b, b1, b2, b3, b4⟩ := ih (a + 1) (by omega) (by rw [e]; exact h2)
      exact ⟨b, by omega, by omega, b3, b4⟩
/-- each day has a date -/
theorem isD_ex {n : Int} (h1 : 0 ≤ n) (h2 : n ≤ 3652058) : ∃ y m d, IsD n y m d := by
  obtain ⟨y, y1, y2, y3, y4⟩ := find yb n 9999 1 (by rw [yb_one]; exact h1) (by have := yb_max; show n < yb 10000; omega)
  have hs := yb_succ y y1
  obtain ⟨m, m1, m2, m3, m4⟩ := find (mc y) (n - yb y) 12 1 (by rw [mc_one]; omega) (by show n - yb y < mc y 13; rw [mc_end]; omega)
  have := mc_succ y m y1 (by omega) m1 (by omega)
  refine ⟨y, m, n - yb y - mc y m + 1, vd_iff.2 ⟨y1, by omega, m1, by omega, by omega, by omega⟩, by unfold dn; omega⟩
theorem isD_dn {y m d : Int} (h : vd y m d = true) : IsD (dn y m d) y m d := ⟨h, rfl⟩
end DN
