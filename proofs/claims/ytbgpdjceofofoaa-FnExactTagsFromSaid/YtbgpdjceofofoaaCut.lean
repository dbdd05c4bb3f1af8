/- strings.Cut at one byte, and strings.CutPrefix at one byte (the search and the prefix are laid by the shelf's tool; Cut is walked). No condition. -/
import Derived.Test.YtbgpdjceofofoaaBase
import Derived.Shelf.Small.Wraps
import Derived.Shelf.Strings.Search2
import Derived.Lib.IndexLaws
import Derived.BigRegion
import Derived.RegionTactic
namespace Go.Proofs.Ytbgpdjceofofoaa
open Go.RowKit Go.Shelf
set_option linter.unusedVariables false
set_option linter.unusedSimpArgs false

def lays103_ren : Go.Shelf.Ren := ⟨fun | 103 => 68 | 210 => 77 | 206 => 83 | n => n, fun | 9 => 9 | 4 => 4 | 24 => 38 | 3 => 3 | n => n, fun | n => n⟩
theorem lays103 : Go.Proofs.Lays.n103 Try.prog lays103_ren := {
  mixed := by kernel_rfl
  f103 := Try.func68.trans (congrArg some (by kernel_rfl))
  f206 := Try.func83.trans (congrArg some (by kernel_rfl))
  f210 := Try.func77.trans (congrArg some (by kernel_rfl))
  t3 := Try.underlying3
  a3 := Try.isAgg3
  z3 := Try.sizeOf3
  v3 := Try.zeroValue3
  t4 := Try.underlying4
  a4 := Try.isAgg4
  z4 := Try.sizeOf4
  v4 := Try.zeroValue4
  t9 := Try.underlying9
  a9 := Try.isAgg9
  z9 := Try.sizeOf9
  v9 := Try.zeroValue9
  t24 := Try.underlying38
  a24 := Try.isAgg38
  z24 := Try.sizeOf38
  v24 := Try.zeroValue38 }

theorem strings_CutPrefix (s p : ByteArray) (w : World) :
    Calls Try.prog 68 #[.string s, .string p] w fun e w' => e = .returned (.tuple #[.string ⟨(Lib.trimPrefix s.data.toList p.data.toList).toArray⟩, .bool (Lib.hasPrefix s.data.toList p.data.toList)]) ∧ w' = w := Any.strings_CutPrefix lays103 s p w
def lays219_ren : Go.Shelf.Ren := ⟨fun | 219 => 82 | 217 => 84 | 225 => 85 | 224 => 86 | 267 => 87 | 266 => 88 | 314 => 89 | n => n, fun | 9 => 9 | 3 => 3 | 4 => 4 | 5 => 5 | 46 => 83 | 146 => 107 | 51 => 106 | n => n, fun | 1 => 0 | n => n⟩
theorem lays219 : Go.Proofs.Lays.n219 Try.prog lays219_ren := {
  mixed := by kernel_rfl
  f217 := Try.func84.trans (congrArg some (by kernel_rfl))
  f219 := Try.func82.trans (congrArg some (by kernel_rfl))
  f224 := Try.func86.trans (congrArg some (by kernel_rfl))
  f225 := Try.func85.trans (congrArg some (by kernel_rfl))
  f266 := Try.func88.trans (congrArg some (by kernel_rfl))
  f267 := Try.func87.trans (congrArg some (by kernel_rfl))
  f314 := Try.func89.trans (congrArg some (by kernel_rfl))
  t3 := Try.underlying3
  a3 := Try.isAgg3
  z3 := Try.sizeOf3
  v3 := Try.zeroValue3
  t4 := Try.underlying4
  a4 := Try.isAgg4
  z4 := Try.sizeOf4
  v4 := Try.zeroValue4
  t5 := Try.underlying5
  a5 := Try.isAgg5
  z5 := Try.sizeOf5
  v5 := Try.zeroValue5
  t9 := Try.underlying9
  a9 := Try.isAgg9
  z9 := Try.sizeOf9
  v9 := Try.zeroValue9
  t46 := Try.underlying83
  a46 := Try.isAgg83
  z46 := Try.sizeOf83
  v46 := Try.zeroValue83
  t51 := Try.underlying106
  a51 := Try.isAgg106
  z51 := Try.sizeOf106
  v51 := Try.zeroValue106
  t146 := Try.underlying107
  a146 := Try.isAgg107
  z146 := Try.sizeOf107
  v146 := Try.zeroValue107
  g1 := by kernel_rfl }

theorem stringslite_Index_one (s : ByteArray) (c : UInt8) (w : World) :
    Calls Try.prog 82 #[.string s, .string ⟨#[c]⟩] w fun e w' => e = .returned (.int .i64 (Lib.indexByte s.data.toList c)) ∧ w' = w := Any.stringslite_Index_one lays219 s c w

theorem ba_of (a : ByteArray) : (⟨a.data.toList.toArray⟩ : ByteArray) = a := ByteArray.ext (by simp)
theorem sb_size (c : UInt8) : (⟨#[c]⟩ : ByteArray).size = 1 := rfl
theorem idx_hit (a b : List UInt8) (c : UInt8) (h : c ∉ a) : Lib.indexByte (a ++ c :: b) c = a.length := by
  induction a with
  | nil => simp [Lib.indexByte]
  | cons x a ih =>
    have h1 : (x == c) = false := by
      cases e : (x == c)
      · rfl
      · exact absurd (by simp [beq_iff_eq.1 e]) h
    have ih := ih (fun hx => h (by simp [hx]))
    rw [List.cons_append, Lib.indexByte, h1, ih]
    have : ((a.length : Int) == -1) = false := by first | (simp; done) | (simp; omega)
    rw [this]
    simp
theorem idx_miss (a : List UInt8) (c : UInt8) (h : c ∉ a) : Lib.indexByte a c = -1 := by
  induction a with
  | nil => rfl
  | cons x a ih =>
    have h1 : (x == c) = false := by
      cases e : (x == c)
      · rfl
      · exact absurd (by simp [beq_iff_eq.1 e]) h
    have ih := ih (fun hx => h (by simp [hx]))
    rw [Lib.indexByte, h1, ih]
    rfl
theorem cat_left (a b : ByteArray) (c : UInt8) : (a ++ ⟨#[c]⟩ ++ b).extract 0 a.size = a := by
  apply ByteArray.ext
  apply Array.toList_inj.1
  simp [ByteArray.data_extract, Array.toList_extract, List.extract, ByteArray.data_append, Array.toList_append]
theorem cat_right (a b : ByteArray) (c : UInt8) : (a ++ ⟨#[c]⟩ ++ b).extract (a.size + 1) (a ++ ⟨#[c]⟩ ++ b).size = b := by
  apply ByteArray.ext
  apply Array.toList_inj.1
  have e : (a ++ ⟨#[c]⟩ ++ b).size = a.size + 1 + b.size := by rw [ByteArray.size_append, ByteArray.size_append, sb_size]
  rw [e]
  simp only [ByteArray.data_extract, Array.toList_extract, List.extract, ByteArray.data_append, Array.toList_append]
  have h1 : (a.data.toList ++ [c]).length = a.size + 1 := by simp
  rw [List.drop_left' h1, List.take_of_length_le (by first | (simp; done) | (simp; omega))]
set_option maxRecDepth 100000 in
set_option maxHeartbeats 2000000 in
theorem sCut_hit (a b : ByteArray) (c : UInt8) (h : c ∉ a.data.toList) (hs : (a ++ ⟨#[c]⟩ ++ b).size ≤ 1099511627776) (w : World) :
    Calls Try.prog 76 #[.string (a ++ ⟨#[c]⟩ ++ b), .string ⟨#[c]⟩] w fun e w' => e = .returned (.tuple #[.string a, .string b, .bool true]) ∧ ∃ n, w' = w.drewN n := by
  have ix := stringslite_Index_one (a ++ ⟨#[c]⟩ ++ b) c
  have e1 : (a ++ ⟨#[c]⟩ ++ b).data.toList = a.data.toList ++ c :: b.data.toList := by simp [ByteArray.data_append, Array.toList_append]
  rw [e1, idx_hit _ _ _ h] at ix
  have hal : a.data.toList.length = a.size := by simp
  rw [hal] at ix
  have l1 := cat_left a b c
  have l2 := cat_right a b c
  have e2 : (a ++ ⟨#[c]⟩ ++ b).size = a.size + 1 + b.size := by rw [ByteArray.size_append, ByteArray.size_append, sb_size]
  have sc := sb_size c
  obtain ⟨s, hsx⟩ : ∃ s, a ++ ⟨#[c]⟩ ++ b = s := ⟨_, rfl⟩
  obtain ⟨p, hp⟩ : ∃ p, (⟨#[c]⟩ : ByteArray) = p := ⟨_, rfl⟩
  rw [hsx] at ix hs e2 l1 l2 ⊢
  rw [hp] at ix sc ⊢
  obtain ⟨i, hi⟩ : ∃ i, a.size = i := ⟨_, rfl⟩
  rw [hi] at ix e2 l1 l2
  have IX := Lib.hid ix
  have L1 := Lib.hid l1
  have L2 := Lib.hid l2
  have c1 : (0 : Int) ≤ ↑i := by omega
  have c2 : (↑i : Int) ≤ ↑s.size := by omega
  have c3 : (0 : Int) ≤ ↑i + 1 := by omega
  have c4 : (↑i + 1 : Int) ≤ ↑s.size := by omega
  have c5 : IntKind.i64.wrap ((i : Int) + 1) = (i : Int) + 1 := IntWalk.i64_in _ (by omega)
  clear ix l1 l2 h e1 hal hsx hp hi e2
  go_enter Try.func76, Try.ntmps76
  go_wp2_with fail
  refine (IX.out _).mono ?_
  rintro e w' ⟨rfl, rfl⟩
  go_wp2_with fail
  go_region
  all_goals
    go_wp2_with fail
    go_ret3
    exact ⟨by simp [L1.out, L2.out], 1, rfl⟩
set_option maxRecDepth 100000 in
set_option maxHeartbeats 2000000 in
theorem sCut_miss (s : ByteArray) (c : UInt8) (h : c ∉ s.data.toList) (w : World) :
    Calls Try.prog 76 #[.string s, .string ⟨#[c]⟩] w fun e w' => e = .returned (.tuple #[.string s, .string ⟨#[]⟩, .bool false]) ∧ ∃ n, w' = w.drewN n := by
  have ix := stringslite_Index_one s c
  rw [idx_miss _ _ h] at ix
  have IX := Lib.hid ix
  clear ix h
  go_enter Try.func76, Try.ntmps76
  go_wp2_with fail
  refine (IX.out _).mono ?_
  rintro e w' ⟨rfl, rfl⟩
  go_wp2_with fail
  go_ret3
  exact ⟨rfl, 0, rfl⟩
set_option maxHeartbeats 1000000 in
theorem cut_of (s p a b : ByteArray) (k : Bool) (w : World) (h : ∀ w, Calls Try.prog 76 #[.string s, .string p] w fun e w' => e = .returned (.tuple #[.string a, .string b, .bool k]) ∧ ∃ n, w' = w.drewN n) :
    Calls Try.prog 67 #[.string s, .string p] w fun e w' => e = .returned (.tuple #[.string a, .string b, .bool k]) ∧ ∃ n, w' = w.drewN n := by
  have H := Lib.hid h
  clear h
  go_enter Try.func67, Try.ntmps67
  go_wp2_with fail
  refine (H.out _).mono ?_
  rintro e w' ⟨rfl, n, rfl⟩
  go_wp2_with fail
  go_ret3
  exact ⟨rfl, n, rfl⟩
theorem cut_hit (a b : ByteArray) (c : UInt8) (h : c ∉ a.data.toList) (hs : (a ++ ⟨#[c]⟩ ++ b).size ≤ 1099511627776) (w : World) :
    Calls Try.prog 67 #[.string (a ++ ⟨#[c]⟩ ++ b), .string ⟨#[c]⟩] w fun e w' => e = .returned (.tuple #[.string a, .string b, .bool true]) ∧ ∃ n, w' = w.drewN n := cut_of _ _ _ _ _ _ (fun w => sCut_hit a b c h hs w)
theorem cut_miss (s : ByteArray) (c : UInt8) (h : c ∉ s.data.toList) (w : World) :
    Calls Try.prog 67 #[.string s, .string ⟨#[c]⟩] w fun e w' => e = .returned (.tuple #[.string s, .string ⟨#[]⟩, .bool false]) ∧ ∃ n, w' = w.drewN n := cut_of _ _ _ _ _ _ (fun w => sCut_miss s c h w)
theorem pre_hit (r : ByteArray) (c : UInt8) (w : World) :
    Calls Try.prog 68 #[.string (⟨#[c]⟩ ++ r), .string ⟨#[c]⟩] w fun e w' => e = .returned (.tuple #[.string r, .bool true]) ∧ w = w' := by
  refine (strings_CutPrefix _ _ w).mono ?_
  rintro e w' ⟨rfl, rfl⟩
  refine ⟨?_, rfl⟩
  have e1 : (⟨#[c]⟩ ++ r : ByteArray).data.toList = c :: r.data.toList := by simp [ByteArray.data_append, Array.toList_append]
  have hp : Lib.hasPrefix (c :: r.data.toList) [c] = true := by simp [Lib.hasPrefix, List.isPrefixOf]
  rw [e1, show (⟨#[c]⟩ : ByteArray).data.toList = [c] from rfl, hp, Lib.trimPrefix, if_pos hp]
  show Ending.returned (Value.tuple #[Value.string ⟨r.data.toList.toArray⟩, Value.bool true]) = _
  rw [ba_of]
theorem pre_miss (s : ByteArray) (c : UInt8) (h : s.data.toList.head? ≠ some c) (w : World) :
    Calls Try.prog 68 #[.string s, .string ⟨#[c]⟩] w fun e w' => e = .returned (.tuple #[.string s, .bool false]) ∧ w = w' := by
  refine (strings_CutPrefix _ _ w).mono ?_
  rintro e w' ⟨rfl, rfl⟩
  refine ⟨?_, rfl⟩
  have hp : Lib.hasPrefix s.data.toList [c] = false := by
    unfold Lib.hasPrefix
    cases hl : s.data.toList with
    | nil => rfl
    | cons x r =>
      rw [hl] at h
      simp only [List.isPrefixOf, Bool.and_true]
      cases e : (c == x)
      · rfl
      · exact absurd (by simp [beq_iff_eq.1 e]) h
  rw [show (⟨#[c]⟩ : ByteArray).data.toList = [c] from rfl, hp, Lib.trimPrefix, if_neg (by rw [hp]; exact Bool.false_ne_true), ba_of]
/-- a byte stands in a text or does not -/
theorem cut_cases (s : ByteArray) (c : UInt8) : (∃ a b : ByteArray, s = a ++ ⟨#[c]⟩ ++ b ∧ c ∉ a.data.toList) ∨ c ∉ s.data.toList := by
  by_cases h : c ∈ s.data.toList
  · obtain ⟨a, b, e, hn⟩ : ∃ a b, s.data.toList = a ++ c :: b ∧ c ∉ a := by
      have : ∀ l : List UInt8, c ∈ l → ∃ a b, l = a ++ c :: b ∧ c ∉ a := by
        intro l
        induction l with
        | nil => intro h; simp at h
        | cons x l ih =>
          intro h
          by_cases hx : x = c
          · exact ⟨[], l, by rw [hx]; rfl, by simp⟩
          · have hm : c ∈ l := by
              rcases List.mem_cons.1 h with e | e
              · exact absurd e.symm hx
              · exact e
            obtain ⟨a, b, e, hn⟩ := ih hm
            exact ⟨x :: a, b, by rw [e]; rfl, by
              intro hh
              rcases List.mem_cons.1 hh with e | e
              · exact hx e.symm
              · exact hn e⟩
      exact this _ h
    refine .inl ⟨⟨a.toArray⟩, ⟨b.toArray⟩, ?_, by simpa using hn⟩
    apply ByteArray.ext
    apply Array.toList_inj.1
    rw [e]
    simp [ByteArray.data_append, Array.toList_append]
  · exact .inr h
theorem pre_cases (s : ByteArray) (c : UInt8) : (∃ r : ByteArray, s = ⟨#[c]⟩ ++ r) ∨ s.data.toList.head? ≠ some c := by
  cases hl : s.data.toList with
  | nil => exact .inr (by simp)
  | cons x r =>
    by_cases hx : x = c
    · refine .inl ⟨⟨r.toArray⟩, ?_⟩
      apply ByteArray.ext
      apply Array.toList_inj.1
      rw [hl, hx]
      simp [ByteArray.data_append, Array.toList_append]
    · exact .inr (by simp [hx])
end Go.Proofs.Ytbgpdjceofofoaa
