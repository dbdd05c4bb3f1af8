/- Contracts of the functions that tell whether a period is valid, by the program and by the reference: each of the six parts lies between 0 and 9999. No condition. -/
import Derived.Test.YtmdmahgplmijcaaDoorBase
import Derived.BigRegion
import Derived.ChangeAlike
import Derived.RegionTactic
namespace Go.Proofs.YtmdmahgplmijcaaDoor
open Go.RowKit

/-- whether a period is valid -/
def pvB (y o d u i s : Int) : Bool := inB y 0 9999 && inB o 0 9999 && inB d 0 9999 && inB u 0 9999 && inB i 0 9999 && inB s 0 9999
theorem pvB_iff {y o d u i s : Int} : pvB y o d u i s = true ↔ (0 ≤ y ∧ y ≤ 9999) ∧ (0 ≤ o ∧ o ≤ 9999) ∧ (0 ≤ d ∧ d ≤ 9999) ∧ (0 ≤ u ∧ u ≤ 9999) ∧ (0 ≤ i ∧ i ≤ 9999) ∧ (0 ≤ s ∧ s ≤ 9999) := by
  unfold pvB; simp only [Bool.and_eq_true, inB_iff, and_assoc]

set_option maxHeartbeats 1000000 in
theorem parts_any (b : Nat) (w : World) : Calls Tryd.prog 24 #[.pointer (some ⟨b, 0, none⟩)] w fun e w' =>
    e = .returned (.slice (some ⟨w.heap.size, 0, none⟩) 6 6) ∧ ∃ n, w' = (w.drewN n).alloc (.cells #[.int .u8 89, .bool false, .pointer (some ⟨b, 0, none⟩), .int .u8 77, .bool false, .pointer (some ⟨b, 1, none⟩), .int .u8 68, .bool false, .pointer (some ⟨b, 2, none⟩), .int .u8 72, .bool true, .pointer (some ⟨b, 3, none⟩), .int .u8 77, .bool true, .pointer (some ⟨b, 4, none⟩), .int .u8 83, .bool true, .pointer (some ⟨b, 5, none⟩)] 53) := by
  go_enter Tryd.func24, Tryd.ntmps24
  go_wp2
  go_region
  all_goals (go_wp2; go_ret; exact ⟨rfl, 1, rfl⟩)

set_option maxHeartbeats 400000 in
theorem l15Parts_any (y o d u i s : Int) (w : World) : Calls Tryd.prog 37 #[.agg #[.int .i64 y, .int .i64 o, .int .i64 d, .int .i64 u, .int .i64 i, .int .i64 s]] w fun e w' =>
    e = .returned (.slice (some ⟨w.heap.size + 1, 0, none⟩) 6 6) ∧ w' = (w.alloc (.cells #[.int .i64 y, .int .i64 o, .int .i64 d, .int .i64 u, .int .i64 i, .int .i64 s] 25)).alloc (.cells #[.int .i64 y, .int .i64 o, .int .i64 d, .int .i64 u, .int .i64 i, .int .i64 s] 3) := by
  go_enter Tryd.func37, Tryd.ntmps37
  go_wp2
  go_ret
  exact ⟨rfl, rfl⟩

/-- the validity of the first k parts -/
def pvK (y o d u i s : Int) (k : Nat) : Bool := (List.take k [y, o, d, u, i, s]).all (inB · 0 9999)
theorem pvK_six (y o d u i s : Int) : pvK y o d u i s 6 = pvB y o d u i s := by simp [pvK, pvB, Bool.and_assoc]
theorem pvK_succ {y o d u i s : Int} {k : Nat} (x : Int) (hx : [y, o, d, u, i, s][k]? = some x) : pvK y o d u i s (k + 1) = (pvK y o d u i s k && inB x 0 9999) := by
  unfold pvK; rw [List.take_add_one, hx]; simp
theorem pvK_false {y o d u i s : Int} {k : Nat} (hk : k ≤ 6) (hf : pvK y o d u i s k = false) : pvB y o d u i s = false := by
  rw [← pvK_six]
  unfold pvK at *
  rw [List.all_eq_false] at *
  obtain ⟨x, hx, hn⟩ := hf
  exact ⟨x, List.mem_of_mem_take (i := k) (by rwa [List.take_take, Nat.min_eq_left hk]), hn⟩
theorem pv_no {y o d u i s : Int} {k : Nat} (_HP : Hid (pvK y o d u i s k = true)) (hk : k < 6) {x : Int} (hx : [y, o, d, u, i, s][k]? = some x) (ht : (!inB x 0 9999) = true) : pvB y o d u i s = false :=
  pvK_false (k := k + 1) (by omega) (by rw [pvK_succ x hx]; simp_all)
theorem pv_on {y o d u i s : Int} {k : Nat} (HP : Hid (pvK y o d u i s k = true)) {x : Int} (hx : [y, o, d, u, i, s][k]? = some x) (ht : (!inB x 0 9999) = false) : pvK y o d u i s (k + 1) = true := by
  have h := HP.out
  rw [pvK_succ x hx]; simp_all
theorem pv_yes {y o d u i s : Int} (HP : Hid (pvK y o d u i s 6 = true)) : pvB y o d u i s = true := by rw [← pvK_six]; exact HP.out

set_option maxHeartbeats 1000000 in
theorem pv_spec (y o d u i s : Int) (w : World) : Calls Tryd.prog 27 #[.agg #[.int .i64 y, .int .i64 o, .int .i64 d, .int .i64 u, .int .i64 i, .int .i64 s]] w fun e w' => e = .returned (.bool (pvB y o d u i s)) ∧ Below w.heap.size w w' := by
  go_enter Tryd.func27, Tryd.ntmps27
  go_wp2_with (go_at_call 37; refine (l15Parts_any _ _ _ _ _ _ _).mono ?_; rintro e w' ⟨rfl, rfl⟩)
  go_loop [4] (fun n => ∃ k : Nat, k ≤ 6 ∧ n = .int .i64 k ∧ pvK y o d u i s k = true) (fun n => 6 - (intOf n).toNat)
  case atStart => exact ⟨0, by omega, rfl, rfl⟩
  case round =>
    obtain ⟨k, hk, rfl, hpv⟩ := hrel
    have hk6 : k = 0 ∨ k = 1 ∨ k = 2 ∨ k = 3 ∨ k = 4 ∨ k = 5 ∨ k = 6 := by omega
    have HP : Hid (pvK y o d u i s k = true) := hpv
    clear hpv hk
    rcases hk6 with rfl | rfl | rfl | rfl | rfl | rfl | rfl
    all_goals
      go_wp2_with (go_at_call 35; refine (l6In_any _ _ _ _).mono ?_; rintro e w' ⟨rfl, rfl⟩)
    all_goals first
      | (go_ret; exact ⟨ret_bool (pv_yes HP).symm, (((Below.refl _ _).alloc (Nat.le_refl _) _).alloc (by simp) _).alloc (by simp; omega) _⟩)
      | (go_ret; exact ⟨ret_bool (pv_no HP (by omega) rfl (by assumption)).symm, (((Below.refl _ _).alloc (Nat.le_refl _) _).alloc (by simp) _).alloc (by simp; omega) _⟩)
      | exact ⟨⟨_, by first | omega | decide, rfl, pv_on HP rfl (by assumption)⟩, by simp [intOf]⟩

set_option maxHeartbeats 1000000 in
theorem pv_impl (y o d u i s : Int) (w : World) : Calls Tryd.prog 12 #[.agg #[.int .i64 y, .int .i64 o, .int .i64 d, .int .i64 u, .int .i64 i, .int .i64 s]] w fun e w' => e = .returned (.bool (pvB y o d u i s)) ∧ Below w.heap.size w w' := by
  go_enter Tryd.func12, Tryd.ntmps12
  go_wp2_with (go_at_call 24; refine (parts_any _ _).mono ?_; rintro e w' ⟨rfl, q, rfl⟩)
  go_loopw [7] (fun n wr => ∃ k : Nat, k ≤ 6 ∧ n = .int .i64 k ∧ pvK y o d u i s k = true ∧ Below (w.heap.size + 2) (((w.alloc (.cells #[.int .i64 y, .int .i64 o, .int .i64 d, .int .i64 u, .int .i64 i, .int .i64 s] 25)).drewN q).alloc (.cells #[.int .u8 89, .bool false, .pointer (some ⟨w.heap.size, 0, none⟩), .int .u8 77, .bool false, .pointer (some ⟨w.heap.size, 1, none⟩), .int .u8 68, .bool false, .pointer (some ⟨w.heap.size, 2, none⟩), .int .u8 72, .bool true, .pointer (some ⟨w.heap.size, 3, none⟩), .int .u8 77, .bool true, .pointer (some ⟨w.heap.size, 4, none⟩), .int .u8 83, .bool true, .pointer (some ⟨w.heap.size, 5, none⟩)] 53)) wr) (fun n _ => 6 - (intOf n).toNat)
  case atStart => exact ⟨0, by omega, rfl, rfl, Below.refl _ _⟩
  case round =>
    obtain ⟨k, hk, rfl, hpv, hB⟩ := hrel
    have hk6 : k = 0 ∨ k = 1 ∨ k = 2 ∨ k = 3 ∨ k = 4 ∨ k = 5 ∨ k = 6 := by omega
    have HP : Hid (pvK y o d u i s k = true) := hpv
    have hc : ∀ b o, b < w.heap.size + 2 → wr.cell? ⟨b, o, none⟩ = _ := fun b o h => hB.cell (p := ⟨b, o, none⟩) h
    have hz : w.heap.size + 1 < wr.heap.size := by have := hB.size; simp at this; omega
    have hz0 : w.heap.size < wr.heap.size := by omega
    clear hpv hk
    rcases hk6 with rfl | rfl | rfl | rfl | rfl | rfl | rfl
    all_goals
      go_wp2_with (go_at_call 26; refine (within_any _ _ _ _).mono ?_; rintro e w' ⟨rfl, rfl⟩)
    any_goals (go_ret; refine ⟨ret_bool ?_, ?_⟩)
    any_goals exact (pv_yes HP).symm
    any_goals exact (pv_no HP (by decide) rfl (by assumption)).symm
    any_goals exact (((bdN ((Below.refl _ _).alloc (Nat.le_refl _) _) _).alloc (by simp) _).trans (hB.mono (by omega))).alloc (by omega) _
    any_goals exact (((bdN ((Below.refl _ _).alloc (Nat.le_refl _) _) _).alloc (by simp) _).trans (hB.mono (by omega)))
    all_goals (go_roundw; (case rel => exact ⟨_, by first | omega | decide, rfl, pv_on HP rfl (by assumption), hB.alloc (by omega) _⟩); (case measure => simp [intOf]))

theorem pv_spec_b (y o d u i s : Int) (b : Bool) (hb : pvB y o d u i s = b) (w : World) : Calls Tryd.prog 27 #[.agg #[.int .i64 y, .int .i64 o, .int .i64 d, .int .i64 u, .int .i64 i, .int .i64 s]] w fun e w' => e = .returned (.bool b) ∧ Below w.heap.size w w' := by
  have h := pv_spec y o d u i s w
  rwa [hb] at h
theorem pv_impl_b (y o d u i s : Int) (b : Bool) (hb : pvB y o d u i s = b) (w : World) : Calls Tryd.prog 12 #[.agg #[.int .i64 y, .int .i64 o, .int .i64 d, .int .i64 u, .int .i64 i, .int .i64 s]] w fun e w' => e = .returned (.bool b) ∧ Below w.heap.size w w' := by
  have h := pv_impl y o d u i s w
  rwa [hb] at h
end Go.Proofs.YtmdmahgplmijcaaDoor
