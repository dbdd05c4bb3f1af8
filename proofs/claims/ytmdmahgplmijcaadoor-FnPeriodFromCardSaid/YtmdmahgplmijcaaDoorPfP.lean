/- Plain laws of reading a period: a text that is cut by its last byte, or has a T behind it, gives none; weeks of two digits. No condition. -/
import Derived.Test.YtmdmahgplmijcaaDoorPfA
namespace Go.Proofs.YtmdmahgplmijcaaDoor
open Go.RowKit DN
set_option linter.unusedVariables false
set_option linter.unusedSimpArgs false

theorem dg_at {l : List UInt8} {p j : Nat} (h : j < runL l p) : ∃ b, l[p + j]? = some b ∧ isDg b = true := by
  obtain ⟨h1, h2⟩ := runL_lt h
  exact ⟨_, List.getElem?_eq_getElem h1, h2⟩
theorem dg_end {l : List UInt8} {p : Nat} {b : UInt8} (h : l[p + runL l p]? = some b) : isDg b = false := by
  obtain ⟨h1, rfl⟩ := List.getElem?_eq_some_iff.1 h
  exact runL_end h1
theorem run_same {l l' : List UInt8} {p k : Nat} (hk : runL l p = k) (hA : ∀ i, i < p + k → l'[i]? = l[i]?) (hE : l'[p + k]? = none ∨ l'[p + k]? = l[p + k]?) : runL l' p = k := by
  rcases Nat.lt_trichotomy (runL l' p) k with h | h | h
  · obtain ⟨b, h1, h2⟩ := dg_at (l := l) (p := p) (j := runL l' p) (by omega)
    rw [← hA _ (by omega)] at h1
    rw [dg_end h1] at h2; cases h2
  · exact h
  · obtain ⟨b, h1, h2⟩ := dg_at (l := l') (p := p) (j := k) h
    rcases hE with e | e
    · rw [e] at h1; cases h1
    · rw [e] at h1
      subst hk
      rw [dg_end h1] at h2; cases h2
theorem num_same {l l' : List UInt8} {p k : Nat} (hA : ∀ i, i < p + k → l'[i]? = l[i]?) : numAt l' p k = numAt l p k := by
  unfold numAt
  congr 1
  apply List.ext_getElem?
  intro i
  by_cases hi : i < k
  · rw [List.getElem?_take_of_lt hi, List.getElem?_take_of_lt hi, List.getElem?_drop, List.getElem?_drop]
    exact hA _ (by omega)
  · rw [List.getElem?_eq_none (by rw [List.length_take]; omega), List.getElem?_eq_none (by rw [List.length_take]; omega)]
theorem getD_same {l l' : List UInt8} {i : Nat} (h : l'[i]? = l[i]?) : l'.getD i 0 = l.getD i 0 := by
  rw [List.getD_eq_getElem?_getD, List.getD_eq_getElem?_getD, h]

/-- l' is l without its last byte, or with a T behind it -/
def TornP (l l' : List UInt8) : Prop := (∀ i, i + 1 < l.length → l'[i]? = l[i]?) ∧ (l'.length + 1 = l.length ∨ (l'.length = l.length + 1 ∧ (∀ i, i < l.length → l'[i]? = l[i]?) ∧ l'[l.length]? = some 84))
theorem torn_cut {l : List UInt8} (h : 0 < l.length) : TornP l (l.take (l.length - 1)) :=
  ⟨fun i hi => List.getElem?_take_of_lt (by omega), .inl (by rw [List.length_take]; omega)⟩
theorem torn_tee (l : List UInt8) : TornP l (l ++ [84]) :=
  ⟨fun i hi => List.getElem?_append_left (by omega), .inr ⟨by simp, fun i hi => List.getElem?_append_left hi, by simp⟩⟩

theorem itm_torn {g g' : Nat → Nat → List Int → Option (List Int)} {l l' : List UInt8} {p j : Nat} {t : Bool} {v u : List Int} (ht : TornP l l') (h : itm g l p j t v = some u)
    (hg : ∀ p' j' v', (p' < l.length ∨ (p' = l.length ∧ l'.length = l.length + 1)) → g p' j' v' = some u → g' p' j' v' = none) : itm g' l' p j t v = none ∧ p + 1 < l.length := by
  obtain ⟨hag, hl⟩ := ht
  obtain ⟨k, hk⟩ : ∃ k, runL l p = k := ⟨_, rfl⟩
  by_cases hb : runL l p = 0 ∨ 4 < runL l p ∨ l.length ≤ p + runL l p
  · rw [itm_none hb] at h; cases h
  · have hb' : ¬ (k = 0 ∨ 4 < k ∨ l.length ≤ p + k) := by rw [← hk]; exact hb
    refine ⟨?_, by omega⟩
    by_cases hshort : l'.length + 1 = l.length ∧ p + k + 1 = l.length
    · have hr := run_same (l' := l') hk (fun i hi => hag i (by omega)) (.inl (List.getElem?_eq_none (by omega)))
      exact itm_none (by rw [hr]; omega)
    · have hA : ∀ i, i < p + k + 1 → l'[i]? = l[i]? := by
        intro i hi
        rcases hl with hl | ⟨hl, hl2, _⟩
        · exact hag i (by omega)
        · exact hl2 i (by omega)
      have hr := run_same (l' := l') hk (fun i hi => hA i (by omega)) (.inr (hA _ (by omega)))
      have hn := num_same (l := l) (l' := l') (p := p) (k := k) (fun i hi => hA i (by omega))
      have hgd := getD_same (hA (p + k) (by omega))
      have hb2 : ¬ (runL l' p = 0 ∨ 4 < runL l' p ∨ l'.length ≤ p + runL l' p) := by
        rw [hr]
        rcases hl with hl | ⟨hl, _, _⟩ <;> omega
      by_cases hW : ((l.getD (p + runL l p) 0).toNat : Int) = 87
      · rw [itm_W hb hW] at h
        split at h
        · rename_i hx
          rw [itm_W hb2 (by rw [hr, hgd, ← hk]; exact hW), if_neg (by rw [hr]; rintro ⟨_, x, _⟩; rw [hk] at hx; omega)]
        · cases h
      · by_cases hi : ixL (l.getD (p + runL l p) 0).toNat t < (j : Int)
        · rw [itm_no hb hW hi] at h; cases h
        · rw [itm_go hb hW hi, hk] at h
          rw [itm_go hb2 (by rw [hr, hgd, ← hk]; exact hW) (by rw [hr, hgd, ← hk]; exact hi), hr, hgd, hn]
          refine hg _ _ _ ?_ h
          rcases hl with hl | ⟨hl, _, _⟩ <;> omega
theorem prs_torn {l l' : List UInt8} (ht : TornP l l') {u : List Int} (f : Nat) : ∀ (f' p j : Nat) (t : Bool) (v : List Int), (p < l.length ∨ (p = l.length ∧ l'.length = l.length + 1)) → prs f l p j t v = some u → prs f' l' p j t v = none := by
  induction f with
  | zero => intro f' p j t v _ h; cases h
  | succ f ih =>
    intro f' p j t v hp h
    cases f' with
    | zero => rfl
    | succ f' =>
      by_cases hpe : p = l.length
      · have hlong : l'.length = l.length + 1 := by omega
        have h84 : l'[l.length]? = some 84 := by
          rcases ht.2 with x | ⟨_, _, x⟩
          · omega
          · exact x
        have hr : runL l' p = 0 := by
          rcases Nat.eq_zero_or_pos (runL l' p) with x | x
          · exact x
          · obtain ⟨b, h1, h2⟩ := dg_at (l := l') (p := p) (j := 0) x
            rw [Nat.add_zero, hpe, h84] at h1
            injection h1 with h1
            subst h1
            exact absurd h2 (by decide)
        by_cases hT : ((l'.getD p 0).toNat : Int) = 84 ∧ t = false
        · obtain ⟨hT, rfl⟩ := hT
          rw [prs_T (by omega) hT, if_pos (by omega)]
        · rw [prs_I (by omega) hT, itm_none (.inl hr)]
      · have hpl : p < l.length := by omega
        by_cases hT : ((l.getD p 0).toNat : Int) = 84 ∧ t = false
        · obtain ⟨hT, rfl⟩ := hT
          rw [prs_T (by omega) hT] at h
          split at h
          · cases h
          · obtain ⟨h1, h2⟩ := itm_torn (g' := fun p' j' v' => prs f' l' p' j' true v') ht h (fun p' j' v' hp' hh => ih f' p' j' true v' hp' hh)
            have hs : l'[p]? = l[p]? := ht.1 p (by omega)
            by_cases hx : p = l'.length
            · rcases ht.2 with x | ⟨x, _, _⟩ <;> omega
            · rw [prs_T hx (by rw [getD_same hs]; exact hT)]
              split
              · rfl
              · exact h1
        · rw [prs_I (by omega) hT] at h
          obtain ⟨h1, h2⟩ := itm_torn (g' := fun p' j' v' => prs f' l' p' j' t v') ht h (fun p' j' v' hp' hh => ih f' p' j' t v' hp' hh)
          have hs : l'[p]? = l[p]? := ht.1 p (by omega)
          by_cases hx : p = l'.length
          · rcases ht.2 with x | ⟨x, _, _⟩ <;> omega
          · rw [prs_I hx (by rw [getD_same hs]; exact hT)]
            exact h1
theorem pf_torn {l l' : List UInt8} (ht : TornP l l') {u : List Int} (h : pfL l = some u) : pfL l' = none := by
  unfold pfL at h
  split at h
  · cases h
  · rename_i hb
    by_cases h3 : l'.length < 3 ∨ ¬ ((l'.getD 0 0).toNat : Int) = 80
    · exact if_pos h3
    · rw [show pfL l' = _ from if_neg h3]
      exact prs_torn ht _ _ _ _ _ _ (.inl (by omega)) h
theorem pf_three {l : List UInt8} {u : List Int} (h : pfL l = some u) : 3 ≤ l.length := by
  unfold pfL at h
  split at h
  · cases h
  · omega
theorem weeks_all : ∀ n : Nat, n < 99 → pfL [80, UInt8.ofNat (48 + n / 10), UInt8.ofNat (48 + n % 10), 87] = some [0, 0, 7 * (n : Int), 0, 0, 0] := by decide +kernel
end Go.Proofs.YtmdmahgplmijcaaDoor
