/- What the reference reads out of the text between two brackets. Condition: the text is not longer than 2^40 bytes. -/
import Derived.Test.YtbgpdjceofofoaaTagF
import Derived.Test.YtbgpdjceofofoaaCut
import Derived.Test.YtbgpdjceofofoaaSeal
import Derived.Deep.LoopGhost
namespace Go.Proofs.Ytbgpdjceofofoaa
open Go.RowKit DN
set_option linter.unusedVariables false
set_option linter.unusedSimpArgs false

theorem bang_ext (y : ByteArray) (c : UInt8) : (⟨#[c]⟩ ++ y : ByteArray).extract 1 (⟨#[c]⟩ ++ y : ByteArray).size = y := by
  have h := cat_right ⟨#[]⟩ y c
  rw [ba_nil_add] at h
  exact h
theorem sl_to (s r : ByteArray) (n : Nat) (h : n ≤ s.size) (hr : s.extract 0 n = r) (hs : s.size ≤ 1099511627776) (wx : World) : (Instr.slice 9 (.string s) none (some (.int .i64 n)) none).run Try.prog wx = .ok (.string r) wx := by
  have c1 : (0 : Int) ≤ ↑n := by omega
  have c2 : (↑n : Int) ≤ ↑s.size := by omega
  go_simp
theorem sl_from (s r : ByteArray) (n : Nat) (z : Int) (hz : z = n) (h : n ≤ s.size) (hr : s.extract n s.size = r) (hs : s.size ≤ 1099511627776) (wx : World) : (Instr.slice 9 (.string s) (some (.int .i64 z)) none none).run Try.prog wx = .ok (.string r) wx := by
  subst hz
  have c1 : (0 : Int) ≤ ↑n := by omega
  have c2 : (↑n : Int) ≤ ↑s.size := by omega
  go_simp
theorem by_idx (s : ByteArray) (j : Nat) (h : j < s.size) : s.data.toList[j]'(by simpa using h) = s[j] := by
  simp; rfl
theorem ne61 {y : ByteArray} (h : (61 : UInt8) ∉ y.data.toList) (j : Nat) (hj : j < y.size) : ((y[j].toNat : Int) == 61) = false := by
  cases e : ((y[j].toNat : Int) == 61)
  · rfl
  · exfalso
    apply h
    have h1 : y[j] = 61 := by
      apply UInt8.toNat_inj.1
      show _ = 61
      have := beq_iff_eq.1 e
      omega
    rw [← h1, ← by_idx y j hj]
    exact List.getElem_mem _
theorem key_at (k v : ByteArray) (j : Nat) (hj : j < (k ++ ⟨#[61]⟩ ++ v).size) (h : (61 : UInt8) ∉ k.data.toList) : (j < k.size → (((k ++ ⟨#[61]⟩ ++ v)[j].toNat : Int) == 61) = false) ∧ (j = k.size → (((k ++ ⟨#[61]⟩ ++ v)[j].toNat : Int) == 61) = true) := by
  have e : (k ++ ⟨#[61]⟩ ++ v).data.toList = k.data.toList ++ 61 :: v.data.toList := by simp [ByteArray.data_append, Array.toList_append]
  constructor
  · intro hk
    have h1 := by_idx _ j hj
    have h2 : (k ++ ⟨#[61]⟩ ++ v)[j] = k[j] := by
      rw [← h1, ← by_idx k j hk]
      simp only [e]
      exact List.getElem_append_left _
    rw [h2]
    exact ne61 h j hk
  · rintro rfl
    have h1 := by_idx _ k.size hj
    have h2 : (k ++ ⟨#[61]⟩ ++ v)[k.size] = 61 := by
      rw [← h1]
      simp only [e]
      rw [List.getElem_append_right (by simp)]
      simp
    rw [h2]; rfl
theorem at33 (s : ByteArray) (h : 0 < s.size) : ((s[0].toNat : Int) == 33) = decide (s.data.toList.head? = some 33) := by
  have h1 := by_idx s 0 h
  cases hl : s.data.toList with
  | nil => rw [← ByteArray.size_data, ← Array.length_toList, hl] at h; simp at h
  | cons a r =>
    have h2 : s[0] = a := by rw [← h1]; simp only [hl]; rfl
    rw [h2]
    simp only [List.head?_cons, Option.some.injEq]
    cases e : ((a.toNat : Int) == 33)
    · symm
      apply decide_eq_false
      rintro rfl
      exact absurd e (by decide)
    · symm
      apply decide_eq_true
      apply UInt8.toNat_inj.1
      show _ = 33
      have := beq_iff_eq.1 e
      omega

set_option maxRecDepth 100000 in
set_option maxHeartbeats 4000000 in
theorem l14_found_t (k v y : ByteArray) (hy : y = k ++ ⟨#[61]⟩ ++ v) (h61 : (61 : UInt8) ∉ k.data.toList) (hs : y.size ≤ 1000000000) (w : World) : Calls Try.prog 66 #[.string (⟨#[33]⟩ ++ y)] w fun e w' => e = .returned (.agg #[.string k, .string v, .bool true]) ∧ Below w.heap.size w w' := by
  have hxz : (⟨#[33]⟩ ++ y : ByteArray).size = 1 + y.size := by rw [ByteArray.size_append, sb_size]
  have hx0 := at33 (⟨#[33]⟩ ++ y) (by omega)
  have hhd : (⟨#[33]⟩ ++ y : ByteArray).data.toList.head? = some 33 := by simp [ByteArray.data_append, Array.toList_append]
  rw [hhd, decide_eq_true rfl] at hx0
  have hxe : (⟨#[33]⟩ ++ y : ByteArray).toList.isEmpty = false := by rw [ByteArray.toList_eq]; simp [ByteArray.data_append, Array.toList_append]
  have sl0 := fun wx => sl_from (⟨#[33]⟩ ++ y) y 1 1 (by rfl) (by omega) (bang_ext y 33) (by omega) wx
  have ix0 := fun wx => ix_str Try.underlying9 (⟨#[33]⟩ ++ y) 0 0 rfl (by omega) wx
  obtain ⟨x, hx⟩ : ∃ x, (⟨#[33]⟩ ++ y : ByteArray) = x := ⟨_, rfl⟩
  obtain ⟨b0, hb0⟩ : ∃ b : Int, ((⟨#[33]⟩ ++ y : ByteArray)[0].toNat : Int) = b := ⟨_, rfl⟩
  rw [hb0] at hx0 ix0
  rw [hx] at hxe sl0 ix0 ⊢
  clear hxz hhd hx hb0
  have hys : y.size = k.size + 1 + v.size := by rw [hy, ByteArray.size_append, ByteArray.size_append, sb_size]
  have KA := Lib.hid (fun j (hj : j < y.size) => (show (j < k.size → ((y[j].toNat : Int) == 61) = false) ∧ (j = k.size → ((y[j].toNat : Int) == 61) = true) by subst hy; exact key_at k v j hj h61))
  have SL1 := Lib.hid (fun wx => sl_to y k k.size (by omega) (by rw [hy]; exact cat_left k v 61) (by omega) wx)
  have SL2 := Lib.hid (fun wx => sl_from y v (k.size + 1) ((k.size : Int) + 1) (by omega) (by omega) (by rw [hy]; exact cat_right k v 61) (by omega) wx)
  clear hy h61
  go_enter Try.func66, Try.ntmps66
  go_upto_region 5 with fail
  first | refine seal_wp ?_ | refine seal_calls ?_ | refine seal_post ?_
  intro v1 hwv1
  have sv1 := congrArg (fun x : World => x.heap.size) hwv1
  (try simp at sv1)
  have Av1 : Below w.heap.size w v1 := by rw [hwv1]; (repeat' (first | (with_reducible assumption) | (with_reducible exact Below.refl _ _) | (with_reducible refine bdN ?_ _) | (with_reducible refine Below.alloc ?_ ?_ _) | (with_reducible refine Below.drew ?_) | (with_reducible refine Below.setCell ?_ ?_ _) | go_size))
  have lv1_0 : w.heap.size < v1.heap.size := (by go_size)
  have zv1_wH : CellsAt v1 (w.heap.size) 0 [.string ⟨#[]⟩, .string ⟨#[]⟩, .bool false] := by rw [hwv1]; (simp only [CellsAt]; (first | (go_simp; done) | ((repeat' (with_reducible refine And.intro ?_ ?_)) <;> (repeat' (first | (with_reducible assumption) | (with_reducible exact trivial) | (with_reducible refine kA _ ?_) | (with_reducible refine kD ?_) | (with_reducible refine kS _ ?_ ?_) | (with_reducible refine fA _ ?_ ?_) | (with_reducible refine fD ?_) | (with_reducible refine fS _ ?_) | go_size | (go_simp; done))))))
  have lv1_1 : w.heap.size+1 < v1.heap.size := (by go_size)
  have zv1_wH1 : CellsAt v1 (w.heap.size+1) 0 [.string ⟨#[]⟩, .string ⟨#[]⟩, .bool true] := by rw [hwv1]; (simp only [CellsAt]; (first | (go_simp; done) | ((repeat' (with_reducible refine And.intro ?_ ?_)) <;> (repeat' (first | (with_reducible assumption) | (with_reducible exact trivial) | (with_reducible refine kA _ ?_) | (with_reducible refine kD ?_) | (with_reducible refine kS _ ?_ ?_) | (with_reducible refine fA _ ?_ ?_) | (with_reducible refine fD ?_) | (with_reducible refine fS _ ?_) | go_size | (go_simp; done))))))
  simp only [CellsAt] at zv1_wH
  simp only [CellsAt] at zv1_wH1
  clear hwv1
  have hv1 : w.heap.size + 1 + 1 ≤ v1.heap.size := by omega
  clear sv1
  go_wp2_with fail
  go_loopg [4] y.size (fun g iv wr => ∃ j : Nat, g = y.size - j ∧ j ≤ k.size ∧ iv = .int .i64 j ∧ wr = v1)
  case atStart => exact ⟨0, rfl, Nat.zero_le _, rfl, rfl⟩
  case round =>
    obtain ⟨j, rfl, hj, rfl, rfl⟩ := hrel
    have hjy : j < y.size := by omega
    have ix := fun wx => ix_str Try.underlying9 y j ↑j rfl hjy wx
    by_cases hjk : j < k.size
    · have e61 := (KA.out j hjy).1 hjk
      go_wp2_with fail
      go_roundg (y.size - (j + 1))
      case measure => omega
      case rel => exact ⟨j + 1, rfl, by omega, by go_num, rfl⟩
    · obtain rfl : j = k.size := by omega
      have e61 := (KA.out k.size hjy).2 rfl
      have s1 := SL1.out
      have s2 := SL2.out
      have hwr : IntKind.i64.wrap ((k.size : Int) + 1) = (k.size : Int) + 1 := IntWalk.i64_in _ (by omega)
      go_wp2_with fail
      exact bodyPost_ret (v := .agg #[.string k, .string v, .bool true]) (by simp [results, Try.results66, go_sem, zv1_wH, zv1_wH1, lv1_0, lv1_1]) rfl ⟨rfl, by (repeat' (first | (with_reducible assumption) | (with_reducible exact Below.refl _ _) | (with_reducible refine bdN ?_ _) | (with_reducible refine Below.alloc ?_ ?_ _) | (with_reducible refine Below.drew ?_) | (with_reducible refine Below.setCell ?_ ?_ _) | go_size))⟩

set_option maxRecDepth 100000 in
set_option maxHeartbeats 4000000 in
theorem l14_found_f (k v y : ByteArray) (hy : y = k ++ ⟨#[61]⟩ ++ v) (h61 : (61 : UInt8) ∉ k.data.toList) (h33 : y.data.toList.head? ≠ some 33) (hs : y.size ≤ 1000000000) (w : World) : Calls Try.prog 66 #[.string y] w fun e w' => e = .returned (.agg #[.string k, .string v, .bool false]) ∧ Below w.heap.size w w' := by
  have hp : 0 < y.size := by rw [hy]; simp only [ByteArray.size_append]; have := sb_size 61; omega
  have hys : y.size = k.size + 1 + v.size := by rw [hy, ByteArray.size_append, ByteArray.size_append, sb_size]
  have KA := Lib.hid (fun j (hj : j < y.size) => (show (j < k.size → ((y[j].toNat : Int) == 61) = false) ∧ (j = k.size → ((y[j].toNat : Int) == 61) = true) by subst hy; exact key_at k v j hj h61))
  have SL1 := Lib.hid (fun wx => sl_to y k k.size (by omega) (by rw [hy]; exact cat_left k v 61) (by omega) wx)
  have SL2 := Lib.hid (fun wx => sl_from y v (k.size + 1) ((k.size : Int) + 1) (by omega) (by omega) (by rw [hy]; exact cat_right k v 61) (by omega) wx)
  clear hy h61
  have hx0 := at33 y hp
  rw [decide_eq_false h33] at hx0
  have hxe : y.toList.isEmpty = false := by
    cases e : y.toList.isEmpty
    · rfl
    · rw [ba_emp e] at hp; exact absurd hp (by decide)
  have ix0 := fun wx => ix_str Try.underlying9 y 0 0 rfl hp wx
  obtain ⟨b0, hb0⟩ : ∃ b : Int, (y[0].toNat : Int) = b := ⟨_, rfl⟩
  rw [hb0] at hx0 ix0
  clear hb0 h33
  go_enter Try.func66, Try.ntmps66
  go_upto_region 5 with fail
  first | refine seal_wp ?_ | refine seal_calls ?_ | refine seal_post ?_
  intro v1 hwv1
  have sv1 := congrArg (fun x : World => x.heap.size) hwv1
  (try simp at sv1)
  have Av1 : Below w.heap.size w v1 := by rw [hwv1]; (repeat' (first | (with_reducible assumption) | (with_reducible exact Below.refl _ _) | (with_reducible refine bdN ?_ _) | (with_reducible refine Below.alloc ?_ ?_ _) | (with_reducible refine Below.drew ?_) | (with_reducible refine Below.setCell ?_ ?_ _) | go_size))
  have lv1_0 : w.heap.size < v1.heap.size := (by go_size)
  have zv1_wH : CellsAt v1 (w.heap.size) 0 [.string ⟨#[]⟩, .string ⟨#[]⟩, .bool false] := by rw [hwv1]; (simp only [CellsAt]; (first | (go_simp; done) | ((repeat' (with_reducible refine And.intro ?_ ?_)) <;> (repeat' (first | (with_reducible assumption) | (with_reducible exact trivial) | (with_reducible refine kA _ ?_) | (with_reducible refine kD ?_) | (with_reducible refine kS _ ?_ ?_) | (with_reducible refine fA _ ?_ ?_) | (with_reducible refine fD ?_) | (with_reducible refine fS _ ?_) | go_size | (go_simp; done))))))
  have lv1_1 : w.heap.size+1 < v1.heap.size := (by go_size)
  have zv1_wH1 : CellsAt v1 (w.heap.size+1) 0 [.string ⟨#[]⟩, .string ⟨#[]⟩, .bool false] := by rw [hwv1]; (simp only [CellsAt]; (first | (go_simp; done) | ((repeat' (with_reducible refine And.intro ?_ ?_)) <;> (repeat' (first | (with_reducible assumption) | (with_reducible exact trivial) | (with_reducible refine kA _ ?_) | (with_reducible refine kD ?_) | (with_reducible refine kS _ ?_ ?_) | (with_reducible refine fA _ ?_ ?_) | (with_reducible refine fD ?_) | (with_reducible refine fS _ ?_) | go_size | (go_simp; done))))))
  simp only [CellsAt] at zv1_wH
  simp only [CellsAt] at zv1_wH1
  clear hwv1
  have hv1 : w.heap.size + 1 + 1 ≤ v1.heap.size := by omega
  clear sv1
  go_wp2_with fail
  go_loopg [4] y.size (fun g iv wr => ∃ j : Nat, g = y.size - j ∧ j ≤ k.size ∧ iv = .int .i64 j ∧ wr = v1)
  case atStart => exact ⟨0, rfl, Nat.zero_le _, rfl, rfl⟩
  case round =>
    obtain ⟨j, rfl, hj, rfl, rfl⟩ := hrel
    have hjy : j < y.size := by omega
    have ix := fun wx => ix_str Try.underlying9 y j ↑j rfl hjy wx
    by_cases hjk : j < k.size
    · have e61 := (KA.out j hjy).1 hjk
      go_wp2_with fail
      go_roundg (y.size - (j + 1))
      case measure => omega
      case rel => exact ⟨j + 1, rfl, by omega, by go_num, rfl⟩
    · obtain rfl : j = k.size := by omega
      have e61 := (KA.out k.size hjy).2 rfl
      have s1 := SL1.out
      have s2 := SL2.out
      have hwr : IntKind.i64.wrap ((k.size : Int) + 1) = (k.size : Int) + 1 := IntWalk.i64_in _ (by omega)
      go_wp2_with fail
      exact bodyPost_ret (v := .agg #[.string k, .string v, .bool false]) (by simp [results, Try.results66, go_sem, zv1_wH, zv1_wH1, lv1_0, lv1_1]) rfl ⟨rfl, by (repeat' (first | (with_reducible assumption) | (with_reducible exact Below.refl _ _) | (with_reducible refine bdN ?_ _) | (with_reducible refine Below.alloc ?_ ?_ _) | (with_reducible refine Below.drew ?_) | (with_reducible refine Below.setCell ?_ ?_ _) | go_size))⟩

set_option maxRecDepth 100000 in
set_option maxHeartbeats 4000000 in
theorem l14_none_t (y : ByteArray) (h61 : (61 : UInt8) ∉ y.data.toList) (hs : y.size ≤ 1000000000) (w : World) : Calls Try.prog 66 #[.string (⟨#[33]⟩ ++ y)] w fun e w' => e = .returned (.agg #[.string ⟨#[]⟩, .string y, .bool true]) ∧ Below w.heap.size w w' := by
  have hxz : (⟨#[33]⟩ ++ y : ByteArray).size = 1 + y.size := by rw [ByteArray.size_append, sb_size]
  have hx0 := at33 (⟨#[33]⟩ ++ y) (by omega)
  have hhd : (⟨#[33]⟩ ++ y : ByteArray).data.toList.head? = some 33 := by simp [ByteArray.data_append, Array.toList_append]
  rw [hhd, decide_eq_true rfl] at hx0
  have hxe : (⟨#[33]⟩ ++ y : ByteArray).toList.isEmpty = false := by rw [ByteArray.toList_eq]; simp [ByteArray.data_append, Array.toList_append]
  have sl0 := fun wx => sl_from (⟨#[33]⟩ ++ y) y 1 1 (by rfl) (by omega) (bang_ext y 33) (by omega) wx
  have ix0 := fun wx => ix_str Try.underlying9 (⟨#[33]⟩ ++ y) 0 0 rfl (by omega) wx
  obtain ⟨x, hx⟩ : ∃ x, (⟨#[33]⟩ ++ y : ByteArray) = x := ⟨_, rfl⟩
  obtain ⟨b0, hb0⟩ : ∃ b : Int, ((⟨#[33]⟩ ++ y : ByteArray)[0].toNat : Int) = b := ⟨_, rfl⟩
  rw [hb0] at hx0 ix0
  rw [hx] at hxe sl0 ix0 ⊢
  clear hxz hhd hx hb0
  have NE := Lib.hid (fun j (hj : j < y.size) => ne61 h61 j hj)
  clear h61
  go_enter Try.func66, Try.ntmps66
  go_upto_region 5 with fail
  first | refine seal_wp ?_ | refine seal_calls ?_ | refine seal_post ?_
  intro v1 hwv1
  have sv1 := congrArg (fun x : World => x.heap.size) hwv1
  (try simp at sv1)
  have Av1 : Below w.heap.size w v1 := by rw [hwv1]; (repeat' (first | (with_reducible assumption) | (with_reducible exact Below.refl _ _) | (with_reducible refine bdN ?_ _) | (with_reducible refine Below.alloc ?_ ?_ _) | (with_reducible refine Below.drew ?_) | (with_reducible refine Below.setCell ?_ ?_ _) | go_size))
  have lv1_0 : w.heap.size < v1.heap.size := (by go_size)
  have zv1_wH : CellsAt v1 (w.heap.size) 0 [.string ⟨#[]⟩, .string ⟨#[]⟩, .bool false] := by rw [hwv1]; (simp only [CellsAt]; (first | (go_simp; done) | ((repeat' (with_reducible refine And.intro ?_ ?_)) <;> (repeat' (first | (with_reducible assumption) | (with_reducible exact trivial) | (with_reducible refine kA _ ?_) | (with_reducible refine kD ?_) | (with_reducible refine kS _ ?_ ?_) | (with_reducible refine fA _ ?_ ?_) | (with_reducible refine fD ?_) | (with_reducible refine fS _ ?_) | go_size | (go_simp; done))))))
  have lv1_1 : w.heap.size+1 < v1.heap.size := (by go_size)
  have zv1_wH1 : CellsAt v1 (w.heap.size+1) 0 [.string ⟨#[]⟩, .string ⟨#[]⟩, .bool true] := by rw [hwv1]; (simp only [CellsAt]; (first | (go_simp; done) | ((repeat' (with_reducible refine And.intro ?_ ?_)) <;> (repeat' (first | (with_reducible assumption) | (with_reducible exact trivial) | (with_reducible refine kA _ ?_) | (with_reducible refine kD ?_) | (with_reducible refine kS _ ?_ ?_) | (with_reducible refine fA _ ?_ ?_) | (with_reducible refine fD ?_) | (with_reducible refine fS _ ?_) | go_size | (go_simp; done))))))
  simp only [CellsAt] at zv1_wH
  simp only [CellsAt] at zv1_wH1
  clear hwv1
  have hv1 : w.heap.size + 1 + 1 ≤ v1.heap.size := by omega
  clear sv1
  go_wp2_with fail
  go_loopg [4] y.size (fun g iv wr => ∃ j : Nat, g = y.size - j ∧ j ≤ y.size ∧ iv = .int .i64 j ∧ wr = v1)
  case atStart => exact ⟨0, rfl, Nat.zero_le _, rfl, rfl⟩
  case round =>
    obtain ⟨j, rfl, hj, rfl, rfl⟩ := hrel
    by_cases hjy : j < y.size
    · have ix := fun wx => ix_str Try.underlying9 y j ↑j rfl hjy wx
      have e61 := NE.out j hjy
      go_wp2_with fail
      go_roundg (y.size - (j + 1))
      case measure => omega
      case rel => exact ⟨j + 1, rfl, by omega, by go_num, rfl⟩
    · obtain rfl : j = y.size := by omega
      go_wp2_with fail
      exact bodyPost_ret (v := .agg #[.string ⟨#[]⟩, .string y, .bool true]) (by simp [results, Try.results66, go_sem, zv1_wH, zv1_wH1, lv1_0, lv1_1]) rfl ⟨rfl, by (repeat' (first | (with_reducible assumption) | (with_reducible exact Below.refl _ _) | (with_reducible refine bdN ?_ _) | (with_reducible refine Below.alloc ?_ ?_ _) | (with_reducible refine Below.drew ?_) | (with_reducible refine Below.setCell ?_ ?_ _) | go_size))⟩

set_option maxRecDepth 100000 in
set_option maxHeartbeats 4000000 in
theorem l14_none_f (y : ByteArray) (h61 : (61 : UInt8) ∉ y.data.toList) (h33 : y.data.toList.head? ≠ some 33) (hs : y.size ≤ 1000000000) (w : World) : Calls Try.prog 66 #[.string y] w fun e w' => e = .returned (.agg #[.string ⟨#[]⟩, .string y, .bool false]) ∧ Below w.heap.size w w' := by
  by_cases hp : 0 < y.size
  · have NE := Lib.hid (fun j (hj : j < y.size) => ne61 h61 j hj)
    clear h61
    have hx0 := at33 y hp
    rw [decide_eq_false h33] at hx0
    have hxe : y.toList.isEmpty = false := by
      cases e : y.toList.isEmpty
      · rfl
      · rw [ba_emp e] at hp; exact absurd hp (by decide)
    have ix0 := fun wx => ix_str Try.underlying9 y 0 0 rfl hp wx
    obtain ⟨b0, hb0⟩ : ∃ b : Int, (y[0].toNat : Int) = b := ⟨_, rfl⟩
    rw [hb0] at hx0 ix0
    clear hb0 h33
    go_enter Try.func66, Try.ntmps66
    go_upto_region 5 with fail
    first | refine seal_wp ?_ | refine seal_calls ?_ | refine seal_post ?_
    intro v1 hwv1
    have sv1 := congrArg (fun x : World => x.heap.size) hwv1
    (try simp at sv1)
    have Av1 : Below w.heap.size w v1 := by rw [hwv1]; (repeat' (first | (with_reducible assumption) | (with_reducible exact Below.refl _ _) | (with_reducible refine bdN ?_ _) | (with_reducible refine Below.alloc ?_ ?_ _) | (with_reducible refine Below.drew ?_) | (with_reducible refine Below.setCell ?_ ?_ _) | go_size))
    have lv1_0 : w.heap.size < v1.heap.size := (by go_size)
    have zv1_wH : CellsAt v1 (w.heap.size) 0 [.string ⟨#[]⟩, .string ⟨#[]⟩, .bool false] := by rw [hwv1]; (simp only [CellsAt]; (first | (go_simp; done) | ((repeat' (with_reducible refine And.intro ?_ ?_)) <;> (repeat' (first | (with_reducible assumption) | (with_reducible exact trivial) | (with_reducible refine kA _ ?_) | (with_reducible refine kD ?_) | (with_reducible refine kS _ ?_ ?_) | (with_reducible refine fA _ ?_ ?_) | (with_reducible refine fD ?_) | (with_reducible refine fS _ ?_) | go_size | (go_simp; done))))))
    have lv1_1 : w.heap.size+1 < v1.heap.size := (by go_size)
    have zv1_wH1 : CellsAt v1 (w.heap.size+1) 0 [.string ⟨#[]⟩, .string ⟨#[]⟩, .bool false] := by rw [hwv1]; (simp only [CellsAt]; (first | (go_simp; done) | ((repeat' (with_reducible refine And.intro ?_ ?_)) <;> (repeat' (first | (with_reducible assumption) | (with_reducible exact trivial) | (with_reducible refine kA _ ?_) | (with_reducible refine kD ?_) | (with_reducible refine kS _ ?_ ?_) | (with_reducible refine fA _ ?_ ?_) | (with_reducible refine fD ?_) | (with_reducible refine fS _ ?_) | go_size | (go_simp; done))))))
    simp only [CellsAt] at zv1_wH
    simp only [CellsAt] at zv1_wH1
    clear hwv1
    have hv1 : w.heap.size + 1 + 1 ≤ v1.heap.size := by omega
    clear sv1
    go_wp2_with fail
    go_loopg [4] y.size (fun g iv wr => ∃ j : Nat, g = y.size - j ∧ j ≤ y.size ∧ iv = .int .i64 j ∧ wr = v1)
    case atStart => exact ⟨0, rfl, Nat.zero_le _, rfl, rfl⟩
    case round =>
      obtain ⟨j, rfl, hj, rfl, rfl⟩ := hrel
      by_cases hjy : j < y.size
      · have ix := fun wx => ix_str Try.underlying9 y j ↑j rfl hjy wx
        have e61 := NE.out j hjy
        go_wp2_with fail
        go_roundg (y.size - (j + 1))
        case measure => omega
        case rel => exact ⟨j + 1, rfl, by omega, by go_num, rfl⟩
      · obtain rfl : j = y.size := by omega
        go_wp2_with fail
        exact bodyPost_ret (v := .agg #[.string ⟨#[]⟩, .string y, .bool false]) (by simp [results, Try.results66, go_sem, zv1_wH, zv1_wH1, lv1_0, lv1_1]) rfl ⟨rfl, by (repeat' (first | (with_reducible assumption) | (with_reducible exact Below.refl _ _) | (with_reducible refine bdN ?_ _) | (with_reducible refine Below.alloc ?_ ?_ _) | (with_reducible refine Below.drew ?_) | (with_reducible refine Below.setCell ?_ ?_ _) | go_size))⟩
  · have hye : y = ⟨#[]⟩ := by
      apply ByteArray.ext
      apply Array.toList_inj.1
      have h0 : y.size = 0 := by omega
      have : y.data.toList.length = 0 := by rw [Array.length_toList]; exact h0
      rw [List.eq_nil_of_length_eq_zero this]
    subst hye
    have hjy0 : (⟨#[]⟩ : ByteArray).size = 0 := rfl
    clear h61 h33 hs hp
    go_enter Try.func66, Try.ntmps66
    go_wp2_with fail
    refine wp_loop_rounds 1 ?_
    rw [rounds_succ]
    go_wp2_with fail
    exact bodyPost_ret (v := .agg #[.string ⟨#[]⟩, .string ⟨#[]⟩, .bool false]) (by simp [results, Try.results66, go_sem]) rfl ⟨rfl, by (repeat' (first | (with_reducible assumption) | (with_reducible exact Below.refl _ _) | (with_reducible refine bdN ?_ _) | (with_reducible refine Below.alloc ?_ ?_ _) | (with_reducible refine Below.drew ?_) | (with_reducible refine Below.setCell ?_ ?_ _) | go_size))⟩
/-- whatever the text, a tag is read out of it -/
theorem l14_any (x : ByteArray) (hs : x.size ≤ 1000000000) : ∃ (k v : ByteArray) (c : Bool), (k.size ≤ x.size ∧ v.size ≤ x.size) ∧ ∀ w, Calls Try.prog 66 #[.string x] w fun e w' => e = .returned (.agg #[.string k, .string v, .bool c]) ∧ Below w.heap.size w w' := by
  rcases pre_cases x 33 with ⟨y, hx⟩ | h33
  · have hxz : x.size = 1 + y.size := by rw [hx, ByteArray.size_append, sb_size]
    subst hx
    rcases cut_cases y 61 with ⟨k, v, hy, h61⟩ | h61
    · have hys : y.size = k.size + 1 + v.size := by rw [hy, ByteArray.size_append, ByteArray.size_append, sb_size]
      exact ⟨k, v, true, ⟨by omega, by omega⟩, fun w => l14_found_t k v y hy h61 (by omega) w⟩
    · exact ⟨⟨#[]⟩, y, true, ⟨Nat.zero_le _, by omega⟩, fun w => l14_none_t y h61 (by omega) w⟩
  · rcases cut_cases x 61 with ⟨k, v, hy, h61⟩ | h61
    · have hys : x.size = k.size + 1 + v.size := by rw [hy, ByteArray.size_append, ByteArray.size_append, sb_size]
      exact ⟨k, v, false, ⟨by omega, by omega⟩, fun w => l14_found_f k v x hy h61 h33 (by omega) w⟩
    · exact ⟨⟨#[]⟩, x, false, ⟨Nat.zero_le _, Nat.le_refl _⟩, fun w => l14_none_f x h61 h33 (by omega) w⟩
/-- what is read out of a valid tag's text -/
theorem l14_yes {k v : ByteArray} (c : Bool) (h : tvB k v = true) : ∃ x : ByteArray, tgT k v c = ⟨#[91]⟩ ++ x ++ ⟨#[93]⟩ ∧ (93 : UInt8) ∉ (⟨#[91]⟩ ++ x).data.toList ∧ 1 ≤ x.size ∧ ∀ w, Calls Try.prog 66 #[.string x] w fun e w' => e = .returned (.agg #[.string k, .string v, .bool c]) ∧ Below w.heap.size w w' := by
  obtain ⟨x, y, e1, e2, e3, e4, e5, e6, e7, e8⟩ := yes_parts c h
  have hz := tgT_size k v c
  have hz2 := tv_size h
  have hy : y.size ≤ 100 := by
    have h2 := congrArg ByteArray.size e1
    simp only [ByteArray.size_append] at h2
    cases c
    · rw [e4 rfl] at h2; omega
    · rw [e3 rfl] at h2; simp only [ByteArray.size_append] at h2; omega
  refine ⟨x, e1, e2, e8, fun w => ?_⟩
  cases c
  · rw [e4 rfl]
    cases he : k.toList.isEmpty
    · obtain ⟨a, b⟩ := e7 he
      exact l14_found_f k v y a b e5 (by omega) w
    · obtain ⟨a, b, d⟩ := e6 he
      subst d
      rw [a] at e5 ⊢
      exact l14_none_f v b e5 (by omega) w
  · rw [e3 rfl]
    cases he : k.toList.isEmpty
    · obtain ⟨a, b⟩ := e7 he
      exact l14_found_t k v y a b (by omega) w
    · obtain ⟨a, b, d⟩ := e6 he
      subst d
      rw [a]
      exact l14_none_t v b (by omega) w
end Go.Proofs.Ytbgpdjceofofoaa
