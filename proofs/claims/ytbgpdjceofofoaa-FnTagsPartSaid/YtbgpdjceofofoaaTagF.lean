/- Plain laws of reading tags: the text of valid tags in its parts, and the text of what is read. No condition. -/
import Derived.Test.YtbgpdjceofofoaaTagsT
namespace Go.Proofs.Ytbgpdjceofofoaa
open Go.RowKit DN
set_option linter.unusedVariables false
set_option linter.unusedSimpArgs false

theorem ba_emp {k : ByteArray} (h : k.toList.isEmpty = true) : k = ⟨#[]⟩ := by
  apply ByteArray.ext
  apply Array.toList_inj.1
  rw [ByteArray.toList_eq] at h
  simpa using h
theorem ba_nil_add (a : ByteArray) : (⟨#[]⟩ : ByteArray) ++ a = a := by
  apply ByteArray.ext
  apply Array.toList_inj.1
  simp [ByteArray.data_append, Array.toList_append]
/-- the text of all tags -/
def rsL : List Tg → ByteArray
  | [] => ⟨#[]⟩
  | t :: l => tgT t.1 t.2.1 t.2.2 ++ rsL l
theorem rs_drop {l : List Tg} {k : Nat} (h : k < l.length) : rsL (l.drop k) = tgT (tgK l k) (tgV l k) (tgC l k) ++ rsL (l.drop (k + 1)) := by
  rw [List.drop_eq_getElem_cons h]
  have e : l.getD k (⟨#[]⟩, ⟨#[]⟩, false) = l[k] := by rw [List.getD_eq_getElem?_getD, List.getElem?_eq_getElem h]; rfl
  unfold tgK tgV tgC
  rw [e]
  rfl
theorem rs_end (l : List Tg) : rsL (l.drop l.length) = ⟨#[]⟩ := by rw [List.drop_length]; rfl
theorem tx_rs (l : List Tg) : ∀ n, n ≤ l.length → txT l n ++ rsL (l.drop n) = rsL l := by
  intro n
  induction n with
  | zero => intro _; rw [List.drop_zero]; exact ba_nil_add _
  | succ n ih =>
    intro h
    rw [← ih (by omega), rs_drop (show n < l.length by omega), ← ByteArray.append_assoc]
    rfl
theorem tx_all (l : List Tg) : txT l l.length = rsL l := by
  have h := tx_rs l l.length (Nat.le_refl _)
  rw [rs_end] at h
  rw [← h]
  apply ByteArray.ext
  apply Array.toList_inj.1
  simp [ByteArray.data_append, Array.toList_append]
theorem rs_snoc (l : List Tg) (t : Tg) : rsL (l ++ [t]) = rsL l ++ tgT t.1 t.2.1 t.2.2 := by
  induction l with
  | nil =>
    show tgT _ _ _ ++ (⟨#[]⟩ : ByteArray) = ⟨#[]⟩ ++ _
    rw [ba_nil_add]
    apply ByteArray.ext
    apply Array.toList_inj.1
    simp [ByteArray.data_append, Array.toList_append]
  | cons u l ih =>
    show tgT _ _ _ ++ rsL (l ++ [t]) = tgT _ _ _ ++ rsL l ++ _
    rw [ih, ByteArray.append_assoc]
theorem ok_no {z : Bool} {b : UInt8} (h : okB z b.toNat = true) : b ≠ 93 ∧ b ≠ 61 ∧ b ≠ 33 ∧ b ≠ 91 := by
  refine ⟨?_, ?_, ?_, ?_⟩ <;> (rintro rfl; revert h; cases z <;> decide)
theorem word_bytes {z : Bool} {s : ByteArray} (h : wordB z s = true) : ∀ b ∈ s.data.toList, b ≠ 93 ∧ b ≠ 61 ∧ b ≠ 33 ∧ b ≠ 91 := by
  intro b hb
  unfold wordB at h
  rw [Bool.and_eq_true, List.all_eq_true] at h
  exact ok_no (h.2 b hb)
theorem word_pos {z : Bool} {s : ByteArray} (h : wordB z s = true) : 1 ≤ s.size := by
  unfold wordB at h
  rw [Bool.and_eq_true, decide_eq_true_eq] at h
  exact h.1.1
theorem tv_bytes {k v : ByteArray} (h : tvB k v = true) : (∀ b ∈ k.data.toList, b ≠ 93 ∧ b ≠ 61 ∧ b ≠ 33 ∧ b ≠ 91) ∧ (∀ b ∈ v.data.toList, b ≠ 93 ∧ b ≠ 61 ∧ b ≠ 33 ∧ b ≠ 91) ∧ 1 ≤ v.size := by
  by_cases hk : k.toList = []
  · rw [tv_e hk] at h
    refine ⟨fun b hb => ?_, word_bytes h, word_pos h⟩
    rw [ByteArray.toList_eq] at hk
    rw [hk] at hb; simp at hb
  · rw [tv_k hk, Bool.and_eq_true] at h
    exact ⟨word_bytes h.1, word_bytes h.2, word_pos h.2⟩
/-- the text of a tag in its parts: what stands between the brackets (x), and that without the exclamation mark (y) -/
theorem tag_parts (k v : ByteArray) (c : Bool) : ∃ x y : ByteArray, tgT k v c = ⟨#[91]⟩ ++ x ++ ⟨#[93]⟩ ∧ x = (if c = true then ⟨#[33]⟩ ++ y else y) ∧ y = (if k.toList.isEmpty = true then v else k ++ ⟨#[61]⟩ ++ v) := by
  refine ⟨_, _, ?_, rfl, rfl⟩
  unfold tgT o2T o1T
  cases c <;> cases k.toList.isEmpty <;> simp [ByteArray.append_assoc]
theorem yes_parts {k v : ByteArray} (c : Bool) (h : tvB k v = true) : ∃ x y : ByteArray, tgT k v c = ⟨#[91]⟩ ++ x ++ ⟨#[93]⟩ ∧ (93 : UInt8) ∉ (⟨#[91]⟩ ++ x).data.toList ∧ (c = true → x = ⟨#[33]⟩ ++ y) ∧ (c = false → x = y) ∧ y.data.toList.head? ≠ some 33 ∧ (k.toList.isEmpty = true → y = v ∧ (61 : UInt8) ∉ v.data.toList ∧ k = ⟨#[]⟩) ∧ (k.toList.isEmpty = false → y = k ++ ⟨#[61]⟩ ++ v ∧ (61 : UInt8) ∉ k.data.toList) ∧ 1 ≤ x.size := by
  obtain ⟨x, y, e1, e2, e3⟩ := tag_parts k v c
  obtain ⟨b1, b2, b3⟩ := tv_bytes h
  have hy : ∀ b ∈ y.data.toList, b ≠ 93 := by
    intro b hb
    rw [e3] at hb
    split at hb
    · exact (b2 b hb).1
    · simp only [ByteArray.data_append, Array.toList_append, List.mem_append] at hb
      rcases hb with (hb | hb) | hb
      · exact (b1 b hb).1
      · simp at hb; subst hb; decide
      · exact (b2 b hb).1
  have hx : ∀ b ∈ x.data.toList, b ≠ 93 := by
    intro b hb
    rw [e2] at hb
    split at hb
    · simp only [ByteArray.data_append, Array.toList_append, List.mem_append] at hb
      rcases hb with hb | hb
      · simp at hb; subst hb; decide
      · exact hy b hb
    · exact hy b hb
  have hys : 1 ≤ y.size := by
    rw [e3]
    split
    · exact b3
    · simp only [ByteArray.size_append]; omega
  refine ⟨x, y, e1, ?_, fun hc => by rw [e2, if_pos hc], fun hc => by rw [e2, if_neg (by rw [hc]; exact Bool.false_ne_true)], ?_, ?_, ?_, ?_⟩
  · intro hm
    simp only [ByteArray.data_append, Array.toList_append, List.mem_append] at hm
    rcases hm with hm | hm
    · simp at hm
    · exact hx _ hm rfl
  · intro hh
    rw [e3] at hh
    by_cases hk : k.toList.isEmpty = true
    · rw [if_pos hk] at hh
      exact (b2 33 (List.mem_of_head? hh)).2.2.1 rfl
    · rw [if_neg hk] at hh
      have hk2 : k.data.toList ≠ [] := by
        intro e
        rw [ByteArray.toList_eq, e] at hk
        exact hk rfl
      cases hl : k.data.toList with
      | nil => exact hk2 hl
      | cons a r =>
        simp only [ByteArray.data_append, Array.toList_append, hl, List.cons_append, List.head?_cons, Option.some.injEq] at hh
        exact (b1 a (by rw [hl]; simp)).2.2.1 hh
  · intro hk
    exact ⟨by rw [e3, if_pos hk], fun hm => (b2 61 hm).2.1 rfl, ba_emp hk⟩
  · intro hk
    exact ⟨by rw [e3, if_neg (by rw [hk]; exact Bool.false_ne_true)], fun hm => (b1 61 hm).2.1 rfl⟩
  · rw [e2]
    split
    · simp only [ByteArray.size_append]; omega
    · exact hys
theorem no_kt (k v : ByteArray) (h : k.toList.isEmpty = false) : tgT k v true = ⟨#[91]⟩ ++ (⟨#[33]⟩ ++ (k ++ ⟨#[61]⟩ ++ v)) ++ ⟨#[93]⟩ := by
  unfold tgT o2T o1T
  rw [if_neg (by rw [h]; exact Bool.false_ne_true), if_pos rfl]
  simp only [ByteArray.append_assoc]
theorem no_kf (k v : ByteArray) (h : k.toList.isEmpty = false) : tgT k v false = ⟨#[91]⟩ ++ (k ++ ⟨#[61]⟩ ++ v) ++ ⟨#[93]⟩ := by
  unfold tgT o2T o1T
  rw [if_neg (by rw [h]; exact Bool.false_ne_true), if_neg Bool.false_ne_true]
  simp only [ByteArray.append_assoc]
theorem no_et (v : ByteArray) : tgT ⟨#[]⟩ v true = ⟨#[91]⟩ ++ (⟨#[33]⟩ ++ v) ++ ⟨#[93]⟩ := by
  unfold tgT o2T o1T
  rw [if_pos (by rw [ByteArray.toList_eq]; rfl), if_pos rfl]
  simp only [ByteArray.append_assoc]
theorem no_ef (v : ByteArray) : tgT ⟨#[]⟩ v false = ⟨#[91]⟩ ++ v ++ ⟨#[93]⟩ := by
  unfold tgT o2T o1T
  rw [if_pos (by rw [ByteArray.toList_eq]; rfl), if_neg Bool.false_ne_true]
theorem take_snoc {l : List Tg} {k : Nat} (h : k < l.length) : l.take k ++ [(tgK l k, tgV l k, tgC l k)] = l.take (k + 1) := by
  have e : l.getD k (⟨#[]⟩, ⟨#[]⟩, false) = l[k] := by rw [List.getD_eq_getElem?_getD, List.getElem?_eq_getElem h]; rfl
  unfold tgK tgV tgC
  rw [e, List.take_succ_eq_append_getElem h]
theorem rs_size {l : List Tg} (h : tsP l) : (rsL l).size ≤ 28 * l.length := by
  rw [← tx_all]
  exact txT_size h _ (Nat.le_refl _)
end Go.Proofs.Ytbgpdjceofofoaa
