/- Plain laws of a period's text: the text is read as the period; where a T stands in it; the text of no time. No condition. -/
import Derived.Test.YtmdmahgplmijcaaDoorPfP
import Derived.Test.YtmdmahgplmijcaaDoorPtS
namespace Go.Proofs.YtmdmahgplmijcaaDoor
open Go.RowKit DN
set_option linter.unusedVariables false
set_option linter.unusedSimpArgs false

/-- decimals as a list -/
def decL (n : Int) : List UInt8 := if n < 10 then [dgB n] else if n < 100 then [dgB (n / 10), dgB n] else if n < 1000 then [dgB (n / 10 / 10), dgB (n / 10), dgB n] else [dgB (n / 10 / 10 / 10), dgB (n / 10 / 10), dgB (n / 10), dgB n]
theorem dgS1 (n : Int) : (dgS 1 n).data.toList = [dgB n] := rfl
theorem decS_list (n : Int) : (decS n).data.toList = decL n := by
  unfold decS decL
  repeat' split
  all_goals simp [ByteArray.data_append, Array.toList_append, dgS1]
theorem decL_dg (n : Int) : ∀ b ∈ decL n, isDg b = true := by
  intro b hb
  unfold decL at hb
  repeat' split at hb
  all_goals
    simp only [List.mem_cons, List.not_mem_nil, or_false] at hb
    rcases hb with rfl | hb <;> first | exact dgB_isDg _ | skip
  all_goals (rcases hb with rfl | hb <;> first | exact dgB_isDg _ | skip)
  all_goals (rcases hb with rfl | hb <;> first | exact dgB_isDg _ | skip)
  all_goals (subst hb; exact dgB_isDg _)
theorem decL_len (n : Int) : 1 ≤ (decL n).length ∧ (decL n).length ≤ 4 := by
  unfold decL
  repeat' split
  all_goals simp
theorem decL_num (n : Int) (h : 0 ≤ n) (h2 : n ≤ 9999) : numL (decL n) = n := by
  unfold decL
  repeat' split
  all_goals
    simp only [numL, List.foldl, dgB_num]
    omega
theorem takeWhile_app (q : UInt8 → Bool) : ∀ (a : List UInt8) (c : UInt8) (r : List UInt8), (∀ b ∈ a, q b = true) → q c = false → (a ++ c :: r).takeWhile q = a := by
  intro a
  induction a with
  | nil => intro c r _ hc; simp [List.takeWhile_cons, hc]
  | cons x a ih =>
    intro c r ha hc
    rw [List.cons_append, List.takeWhile_cons_of_pos (ha x (by simp)), ih c r (fun b hb => ha b (by simp [hb])) hc]
theorem run_dec {l : List UInt8} {p : Nat} {n : Int} {c : UInt8} {r : List UInt8} (h : l.drop p = decL n ++ c :: r) (hc : isDg c = false) : runL l p = (decL n).length := by
  unfold runL; rw [h, takeWhile_app isDg _ _ _ (decL_dg n) hc]
theorem num_dec {l : List UInt8} {p : Nat} {n : Int} {r : List UInt8} (h : l.drop p = decL n ++ r) (h0 : 0 ≤ n) (h1 : n ≤ 9999) : numAt l p (decL n).length = n := by
  unfold numAt; rw [h, List.take_left', decL_num n h0 h1]; rfl
theorem getD_drop (l : List UInt8) (p k : Nat) : l.getD (p + k) 0 = (l.drop p).getD k 0 := by
  rw [List.getD_eq_getElem?_getD, List.getD_eq_getElem?_getD, List.getElem?_drop]
theorem at_dec {l : List UInt8} {p : Nat} {a : List UInt8} {c : UInt8} {r : List UInt8} (h : l.drop p = a ++ c :: r) : l.getD (p + a.length) 0 = c ∧ p + a.length < l.length ∧ l.drop (p + a.length + 1) = r := by
  refine ⟨?_, ?_, ?_⟩
  · rw [getD_drop, h]; simp [List.getD_eq_getElem?_getD]
  · have := congrArg List.length h
    simp only [List.length_drop, List.length_append, List.length_cons] at this
    omega
  · rw [show p + a.length + 1 = p + (a.length + 1) by omega, ← List.drop_drop, h, show a ++ c :: r = (a ++ [c]) ++ r by simp]
    exact List.drop_left' (by simp)
theorem prs_step {f : Nat} {l : List UInt8} {p j q : Nat} {t : Bool} {v : List Int} {n : Int} {c : UInt8} {r : List UInt8} (h : l.drop p = decL n ++ c :: r) (h0 : 0 ≤ n) (h1 : n ≤ 9999) (hc : isDg c = false) (hw : ¬ (c.toNat : Int) = 87) (hq : ixL c.toNat t = q) (hj : j ≤ q) :
    prs (f + 1) l p j t v = prs f l (p + (decL n).length + 1) (q + 1) t (v.set q n) := by
  obtain ⟨e1, e2, e3⟩ := at_dec h
  have hr := run_dec h hc
  have hn := num_dec h h0 h1
  obtain ⟨k1, k2⟩ := decL_len n
  have hd : isDg (l.getD p 0) = true := by
    have e := getD_drop l p 0
    rw [Nat.add_zero, h] at e
    rw [e]
    refine decL_dg n _ ?_
    cases hx : decL n with
    | nil => rw [hx] at k1; simp at k1
    | cons a b => simp
  have hT : ¬ (((l.getD p 0).toNat : Int) = 84 ∧ t = false) := by
    have := isDg_bd hd
    omega
  rw [prs_I (by omega) hT, itm_go (by rw [hr]; omega) (by rw [hr, e1]; exact hw) (by rw [hr, e1, hq]; omega), hr, e1, hq, hn]
  rfl
/-- a part's text -/
def itL (n : Int) (c : UInt8) : List UInt8 := if 0 < n then decL n ++ [c] else []
theorem prs_it {f : Nat} {l : List UInt8} {p j q : Nat} {t : Bool} {v : List Int} {n : Int} {c : UInt8} {r : List UInt8} (h : l.drop p = itL n c ++ r) (h0 : 0 ≤ n) (h1 : n ≤ 9999) (hc : isDg c = false) (hw : ¬ (c.toNat : Int) = 87) (hq : ixL c.toNat t = q) (hj : j ≤ q) (hv : v.set q 0 = v) (hp : p ≤ l.length) (hf : l.length < f + p) :
    ∃ f' p' j', prs f l p j t v = prs f' l p' j' t (v.set q n) ∧ l.drop p' = r ∧ j' ≤ q + 1 ∧ p' ≤ l.length ∧ l.length < f' + p' := by
  unfold itL at h
  split at h
  · rw [List.append_assoc] at h
    obtain ⟨e1, e2, e3⟩ := at_dec (c := c) (r := r) h
    cases f with
    | zero => omega
    | succ f => exact ⟨f, _, _, prs_step h h0 h1 hc hw hq hj, e3, Nat.le_refl _, by omega, by omega⟩
  · obtain rfl : n = 0 := by omega
    exact ⟨f, p, j, by rw [hv], by simpa using h, by omega, hp, hf⟩
theorem prs_tee {f : Nat} {l : List UInt8} {p j : Nat} {v : List Int} {b : UInt8} {r : List UInt8} (h : l.drop p = 84 :: b :: r) (hf : 0 < f) : prs f l p j false v = prs f l (p + 1) j true v ∧ l.drop (p + 1) = b :: r ∧ p + 1 < l.length := by
  have hl := congrArg List.length h
  simp only [List.length_drop, List.length_cons] at hl
  have hg : l.getD p 0 = 84 := by
    have e := getD_drop l p 0
    rw [Nat.add_zero, h] at e
    rw [e]; rfl
  cases f with
  | zero => omega
  | succ f =>
    refine ⟨?_, ?_, by omega⟩
    · rw [prs_T (by omega) (by rw [hg]; decide), if_neg (by omega), prs_I (by omega) (by rintro ⟨_, x⟩; cases x)]
    · rw [← List.drop_drop, h]; rfl
/-- the parts' text as a list -/
def tmL (u i s : Int) : List UInt8 := itL u 72 ++ itL i 77 ++ itL s 83
def ptL (y o d u i s : Int) : List UInt8 := 80 :: (itL y 89 ++ itL o 77 ++ itL d 68 ++ ((if 0 < u + i + s then [84] else []) ++ tmL u i s))
theorem stS_list (out : ByteArray) (n : Int) (c : UInt8) : (stS out n c).data.toList = out.data.toList ++ itL n c := by
  unfold stS itL
  split <;> simp [ByteArray.data_append, Array.toList_append, decS_list]
theorem teS_list (out : ByteArray) (z : Int) : (teS out z).data.toList = out.data.toList ++ (if 0 < z then [84] else []) := by
  unfold teS
  split <;> simp [ByteArray.data_append, Array.toList_append]
theorem ptR_list (y o d u i s : Int) : (ptR y o d u i s).data.toList = ptL y o d u i s := by
  unfold ptR ptL tmL
  simp only [stS_list, teS_list, List.append_assoc]
  rfl
theorem itL_nil {n : Int} {c : UInt8} (h : ¬ 0 < n) : itL n c = [] := if_neg h
theorem itL_ne {n : Int} {c : UInt8} (h : 0 < n) : 2 ≤ (itL n c).length := by
  unfold itL; rw [if_pos h]
  have := decL_len n
  simp; omega
theorem tmL_cons {u i s : Int} (h0 : 0 ≤ u) (h1 : 0 ≤ i) (h2 : 0 ≤ s) (h : 0 < u + i + s) : ∃ b r, tmL u i s = b :: r := by
  have : 0 < (tmL u i s).length := by
    unfold tmL
    simp only [List.length_append]
    rcases (show 0 < u ∨ 0 < i ∨ 0 < s by omega) with x | x | x
    · have := itL_ne (c := 72) x; omega
    · have := itL_ne (c := 77) x; omega
    · have := itL_ne (c := 83) x; omega
  cases e : tmL u i s with
  | nil => rw [e] at this; simp at this
  | cons b r => exact ⟨b, r, rfl⟩
theorem pf_ptL {y o d u i s : Int} (h0 : 0 ≤ y) (h1 : y ≤ 9999) (h2 : 0 ≤ o) (h3 : o ≤ 9999) (h4 : 0 ≤ d) (h5 : d ≤ 9999) (h6 : 0 ≤ u) (h7 : u ≤ 9999) (h8 : 0 ≤ i) (h9 : i ≤ 9999) (ha : 0 ≤ s) (hb : s ≤ 9999) (hne : 0 < y + o + d + u + i + s) :
    pfL (ptL y o d u i s) = some [y, o, d, u, i, s] := by
  have hlen : 3 ≤ (ptL y o d u i s).length := by
    unfold ptL tmL
    simp only [List.length_append, List.length_cons]
    rcases (show 0 < y ∨ 0 < o ∨ 0 < d ∨ 0 < u ∨ 0 < i ∨ 0 < s by omega) with x | x | x | x | x | x
    · have := itL_ne (c := 89) x; omega
    · have := itL_ne (c := 77) x; omega
    · have := itL_ne (c := 68) x; omega
    · have := itL_ne (c := 72) x; omega
    · have := itL_ne (c := 77) x; omega
    · have := itL_ne (c := 83) x; omega
  obtain ⟨l, hl⟩ : ∃ l, ptL y o d u i s = l := ⟨_, rfl⟩
  have hd : l.drop 1 = itL y 89 ++ (itL o 77 ++ (itL d 68 ++ ((if 0 < u + i + s then [84] else []) ++ tmL u i s))) := by
    rw [← hl]; unfold ptL; simp [List.append_assoc]
  have hP : ((l.getD 0 0).toNat : Int) = 80 := by rw [← hl]; rfl
  rw [hl] at hlen ⊢
  rw [show pfL l = prs (l.length + 1) l 1 0 false [0, 0, 0, 0, 0, 0] from if_neg (by rintro (x | x); omega; exact x hP)]
  obtain ⟨f1, p1, j1, e1, g1, k1, m1, n1⟩ := prs_it (f := l.length + 1) (j := 0) (q := 0) (t := false) (v := [0, 0, 0, 0, 0, 0]) hd h0 h1 (by decide) (by decide) (by decide) (by omega) rfl (by omega) (by omega)
  obtain ⟨f2, p2, j2, e2, g2, k2, m2, n2⟩ := prs_it (f := f1) (j := j1) (q := 1) (t := false) (v := [y, 0, 0, 0, 0, 0]) g1 h2 h3 (by decide) (by decide) (by decide) (by omega) rfl (by omega) (by omega)
  obtain ⟨f3, p3, j3, e3, g3, k3, m3, n3⟩ := prs_it (f := f2) (j := j2) (q := 2) (t := false) (v := [y, o, 0, 0, 0, 0]) g2 h4 h5 (by decide) (by decide) (by decide) (by omega) rfl (by omega) (by omega)
  refine e1.trans (e2.trans (e3.trans ?_))
  show prs f3 l p3 j3 false [y, o, d, 0, 0, 0] = _
  have endT : ∀ (t : Bool) (f p j : Nat) (v : List Int), l.drop p = [] → p ≤ l.length → l.length < f + p → prs f l p j t v = some v := by
    intro t f p j v e hp hf
    have : p = l.length := by
      have := congrArg List.length e
      simp at this; omega
    subst this
    cases f with
    | zero => omega
    | succ f => exact prs_end
  by_cases hT : 0 < u + i + s
  · rw [if_pos hT] at g3
    obtain ⟨b, r, hbr⟩ := tmL_cons h6 h8 ha hT
    rw [hbr] at g3
    obtain ⟨e4, g4, m4⟩ := prs_tee (f := f3) (j := j3) (v := [y, o, d, 0, 0, 0]) g3 (by omega)
    rw [← hbr] at g4
    unfold tmL at g4
    rw [List.append_assoc] at g4
    obtain ⟨f5, p5, j5, e5, g5, k5, m5, n5⟩ := prs_it (f := f3) (j := j3) (q := 3) (t := true) (v := [y, o, d, 0, 0, 0]) g4 h6 h7 (by decide) (by decide) (by decide) (by omega) rfl (by omega) (by omega)
    obtain ⟨f6, p6, j6, e6, g6, k6, m6, n6⟩ := prs_it (f := f5) (j := j5) (q := 4) (t := true) (v := [y, o, d, u, 0, 0]) g5 h8 h9 (by decide) (by decide) (by decide) (by omega) rfl (by omega) (by omega)
    obtain ⟨f7, p7, j7, e7, g7, k7, m7, n7⟩ := prs_it (f := f6) (j := j6) (q := 5) (t := true) (v := [y, o, d, u, i, 0]) (r := []) (by rw [g6, List.append_nil]) ha hb (by decide) (by decide) (by decide) (by omega) rfl (by omega) (by omega)
    refine e4.trans (e5.trans (e6.trans (e7.trans ?_)))
    exact endT _ _ _ _ _ g7 m7 n7
  · obtain rfl : u = 0 := by omega
    obtain rfl : i = 0 := by omega
    obtain rfl : s = 0 := by omega
    refine endT _ _ _ _ _ ?_ m3 n3
    rw [g3]; rfl
theorem ptL_zero : ptL 0 0 0 0 0 0 = [80] := by decide
/-- a period with all parts 0 -/
theorem ptS_list {y o d u i s : Int} (h0 : 0 ≤ y) (h2 : 0 ≤ o) (h4 : 0 ≤ d) (h6 : 0 ≤ u) (h8 : 0 ≤ i) (ha : 0 ≤ s) : (ptS y o d u i s).data.toList = if 0 < y + o + d + u + i + s then ptL y o d u i s else [80, 84, 48, 83] := by
  by_cases hne : 0 < y + o + d + u + i + s
  · rw [if_pos hne, ← ptR_list]
    unfold ptS
    rw [if_neg]
    intro e
    rw [ByteArray.toList_eq, ptR_list] at e
    have hlen := congrArg List.length e
    unfold ptL tmL at hlen
    simp only [List.length_append, List.length_cons, List.length_nil] at hlen
    rcases (show 0 < y ∨ 0 < o ∨ 0 < d ∨ 0 < u ∨ 0 < i ∨ 0 < s by omega) with x | x | x | x | x | x
    · have := itL_ne (c := 89) x; omega
    · have := itL_ne (c := 77) x; omega
    · have := itL_ne (c := 68) x; omega
    · have := itL_ne (c := 72) x; omega
    · have := itL_ne (c := 77) x; omega
    · have := itL_ne (c := 83) x; omega
  · rw [if_neg hne]
    obtain rfl : y = 0 := by omega
    obtain rfl : o = 0 := by omega
    obtain rfl : d = 0 := by omega
    obtain rfl : u = 0 := by omega
    obtain rfl : i = 0 := by omega
    obtain rfl : s = 0 := by omega
    unfold ptS
    rw [if_pos (by rw [ByteArray.toList_eq, ptR_list]; exact ptL_zero)]
theorem pf_ptS {y o d u i s : Int} (h0 : 0 ≤ y) (h1 : y ≤ 9999) (h2 : 0 ≤ o) (h3 : o ≤ 9999) (h4 : 0 ≤ d) (h5 : d ≤ 9999) (h6 : 0 ≤ u) (h7 : u ≤ 9999) (h8 : 0 ≤ i) (h9 : i ≤ 9999) (ha : 0 ≤ s) (hb : s ≤ 9999) :
    pfL (ptS y o d u i s).data.toList = some [y, o, d, u, i, s] := by
  rw [ptS_list h0 h2 h4 h6 h8 ha]
  split
  · exact pf_ptL h0 h1 h2 h3 h4 h5 h6 h7 h8 h9 ha hb (by assumption)
  · obtain rfl : y = 0 := by omega
    obtain rfl : o = 0 := by omega
    obtain rfl : d = 0 := by omega
    obtain rfl : u = 0 := by omega
    obtain rfl : i = 0 := by omega
    obtain rfl : s = 0 := by omega
    decide +kernel
/-- what is read is in range -/
theorem itm_rng {g : Nat → Nat → List Int → Option (List Int)} {l : List UInt8} {p j : Nat} {t : Bool} {v u : List Int} (hg : ∀ p' j' v', (∀ x ∈ v', 0 ≤ x ∧ x ≤ 9999) → ∀ u, g p' j' v' = some u → ∀ x ∈ u, 0 ≤ x ∧ x ≤ 9999) (hv : ∀ x ∈ v, 0 ≤ x ∧ x ≤ 9999) (h : itm g l p j t v = some u) : ∀ x ∈ u, 0 ≤ x ∧ x ≤ 9999 := by
  by_cases hb : runL l p = 0 ∨ 4 < runL l p ∨ l.length ≤ p + runL l p
  · rw [itm_none hb] at h; cases h
  · have nb := numAt_bd (l := l) (p := p) (k := runL l p) (Nat.le_refl _)
    have pw : (10 : Int) ^ runL l p ≤ 10000 := by
      have : runL l p = 1 ∨ runL l p = 2 ∨ runL l p = 3 ∨ runL l p = 4 := by omega
      rcases this with e | e | e | e <;> rw [e] <;> decide
    by_cases hw : ((l.getD (p + runL l p) 0).toNat : Int) = 87
    · rw [itm_W hb hw] at h
      split at h
      · injection h with h
        subst h
        intro x hx
        simp only [List.mem_cons, List.not_mem_nil, or_false] at hx
        omega
      · cases h
    · by_cases hi : ixL (l.getD (p + runL l p) 0).toNat t < (j : Int)
      · rw [itm_no hb hw hi] at h; cases h
      · rw [itm_go hb hw hi] at h
        refine hg _ _ _ (fun x hx => ?_) _ h
        rcases List.mem_or_eq_of_mem_set hx with hx | rfl
        · exact hv x hx
        · omega
theorem prs_rng {f : Nat} : ∀ {l : List UInt8} {p j : Nat} {t : Bool} {v u : List Int}, (∀ x ∈ v, 0 ≤ x ∧ x ≤ 9999) → prs f l p j t v = some u → ∀ x ∈ u, 0 ≤ x ∧ x ≤ 9999 := by
  induction f with
  | zero => intro l p j t v u _ h; cases h
  | succ f ih =>
    intro l p j t v u hv h
    unfold prs at h
    split at h
    · injection h with h; subst h; exact hv
    · split at h
      · split at h
        · cases h
        · exact itm_rng (fun p' j' v' hv' u hu => ih hv' hu) hv h
      · exact itm_rng (fun p' j' v' hv' u hu => ih hv' hu) hv h
theorem pf_rng {l : List UInt8} {y o d u i s : Int} (h : pfL l = some [y, o, d, u, i, s]) : pvB y o d u i s = true := by
  have hr : ∀ x ∈ [y, o, d, u, i, s], 0 ≤ x ∧ x ≤ 9999 := by
    unfold pfL at h
    split at h
    · cases h
    · exact prs_rng (by intro x hx; simp at hx; omega) h
  rw [pvB_iff]
  exact ⟨hr y (by simp), hr o (by simp), hr d (by simp), hr u (by simp), hr i (by simp), hr s (by simp)⟩
theorem itL_no84 (n : Int) {c : UInt8} (hc : c ≠ 84) : (84 : UInt8) ∉ itL n c := by
  unfold itL
  split
  · intro h
    rcases List.mem_append.1 h with h | h
    · exact absurd (decL_dg n _ h) (by decide)
    · simp at h; exact hc h.symm
  · simp
/-- a T stands in the text where there is a time, or in that of no time -/
theorem tee_ptS {y o d u i s : Int} (h0 : 0 ≤ y) (h2 : 0 ≤ o) (h4 : 0 ≤ d) (h6 : 0 ≤ u) (h8 : 0 ≤ i) (ha : 0 ≤ s) : (84 : UInt8) ∈ (ptS y o d u i s).data.toList ↔ (0 < u + i + s ∨ ¬ 0 < y + o + d + u + i + s) := by
  rw [ptS_list h0 h2 h4 h6 h8 ha]
  split
  · rename_i hne
    unfold ptL tmL
    constructor
    · intro h
      simp only [List.mem_cons, List.mem_append] at h
      by_cases hT : 0 < u + i + s
      · exact .inl hT
      · rw [if_neg hT] at h
        rcases h with h | ((h | h) | h) | (h | (h | h) | h)
        · cases h
        · exact absurd h (itL_no84 _ (by decide))
        · exact absurd h (itL_no84 _ (by decide))
        · exact absurd h (itL_no84 _ (by decide))
        · cases h
        · exact absurd h (itL_no84 _ (by decide))
        · exact absurd h (itL_no84 _ (by decide))
        · exact absurd h (itL_no84 _ (by decide))
    · rintro (h | h)
      · rw [if_pos h]; simp
      · exact absurd hne h
  · rename_i hne
    exact ⟨fun _ => .inr hne, fun _ => by decide⟩
/-- which text is that of no time -/
theorem zero_ptS {y o d u i s : Int} (h0 : 0 ≤ y) (h1 : y ≤ 9999) (h2 : 0 ≤ o) (h3 : o ≤ 9999) (h4 : 0 ≤ d) (h5 : d ≤ 9999) (h6 : 0 ≤ u) (h7 : u ≤ 9999) (h8 : 0 ≤ i) (h9 : i ≤ 9999) (ha : 0 ≤ s) (hb : s ≤ 9999) : (ptS y o d u i s).data.toList = [80, 84, 48, 83] ↔ (y = 0 ∧ o = 0 ∧ d = 0 ∧ u = 0 ∧ i = 0 ∧ s = 0) := by
  constructor
  · intro e
    have h := pf_ptS h0 h1 h2 h3 h4 h5 h6 h7 h8 h9 ha hb
    rw [e, show pfL [80, 84, 48, 83] = some [0, 0, 0, 0, 0, 0] by decide +kernel] at h
    injection h with h
    simp only [List.cons.injEq] at h
    omega
  · rintro ⟨rfl, rfl, rfl, rfl, rfl, rfl⟩
    rw [ptS_list (by omega) (by omega) (by omega) (by omega) (by omega) (by omega), if_neg (by omega)]
theorem head_ptS (y o d u i s : Int) : ∃ r, (ptS y o d u i s).data.toList = 80 :: r := by
  unfold ptS
  split
  · exact ⟨_, rfl⟩
  · rw [ptR_list]; exact ⟨_, rfl⟩
end Go.Proofs.YtmdmahgplmijcaaDoor
