/- Contracts of the reference's decimals, from 0 to 9999. No other condition. -/
import Derived.Test.YtbgpdjceofofoaaDig
import Derived.Test.YtbgpdjceofofoaaSeal
import Derived.Deep.RegionHeld3
namespace Go.Proofs.Ytbgpdjceofofoaa
set_option linter.unusedSimpArgs false
open Go.RowKit DN
set_option linter.unusedVariables false

/-- decimals of a number up to 9999 -/
def decS (n : Int) : ByteArray := if n < 10 then dgS 1 n else if n < 100 then dgS 1 (n / 10) ++ dgS 1 n else if n < 1000 then dgS 1 (n / 10 / 10) ++ dgS 1 (n / 10) ++ dgS 1 n else dgS 1 (n / 10 / 10 / 10) ++ dgS 1 (n / 10 / 10) ++ dgS 1 (n / 10) ++ dgS 1 n
theorem decS_size (n : Int) : (decS n).size ≤ 4 := by
  unfold decS
  repeat' split
  all_goals simp only [ByteArray.size_append, dgS_size]; omega
theorem conv_at (n : Int) (b : Nat) (W : World) (h : W.cell? ⟨b, 0, none⟩ = some (.int .u8 (48 + n % 10))) : (convert 29 9 (.slice (some ⟨b, 0, none⟩) 1 1)).run Try.prog W = .ok (.string (dgS 1 n)) W := by
  refine bytes_back _ _ _ _ _ _ [dgB (n)] _ Try.underlying29 Try.underlying5 Try.underlying9 rfl (fun j hj => ?_)
  simp only [List.length_cons, List.length_nil] at hj
  have hj' : j = 0 := by omega
  subst hj'
  rw [add_at]
  simp only [Nat.add_zero, h]
  simp [dgB_num]
set_option maxRecDepth 100000 in
set_option maxHeartbeats 2000000 in
theorem l6Dec_step (n : Int) (D : ByteArray) (w : World) (h : 10 ≤ n) (h2 : n ≤ 9999) (hD : D.size ≤ 8) (hrec : ∀ w, Calls Try.prog 79 #[.int .i64 (n / 10)] w fun e w' => e = .returned (.string D) ∧ Below w.heap.size w w') :
    Calls Try.prog 79 #[.int .i64 n] w fun e w' => e = .returned (.string (D ++ dgS 1 n)) ∧ Below w.heap.size w w' := by
  have hcv := conv_at n
  have sz := dgS_size 1 n
  have HR := Lib.hid hrec
  have hq : Int.tdiv n 10 = n / 10 := by rw [Int.tdiv_eq_ediv_of_nonneg (by omega)]
  have hm : Int.tmod n 10 = n % 10 := by rw [Int.tmod_eq_emod_of_nonneg (by omega)]
  have hwr : IntKind.i64.wrap (n / 10) = n / 10 := IntWalk.i64_in _ (by omega)
  have hw2 : IntKind.i64.wrap (48 + n % 10) = 48 + n % 10 := IntWalk.i64_in _ (by omega)
  have hw3 : IntKind.u8.wrap (48 + n % 10) = 48 + n % 10 := IntWalk.u8_in _ (by omega)
  have m1 : 0 ≤ n % 10 := by omega
  have m2 : n % 10 < 10 := by omega
  clear hrec
  go_enter Try.func79, Try.ntmps79
  go_wp2_with fail
  go_region_with
    (first
      | (go_at_call 79; (with_reducible refine (HR.out _).mono ?_); rintro e w1 ⟨rfl, bw1⟩; have sw1 := bw1.size; (try simp at sw1); have Aw1 : Below w.heap.size w w1 := Below.trans (by (repeat' (first | (with_reducible assumption) | (with_reducible exact Below.refl _ _) | (with_reducible refine bdN ?_ _) | (with_reducible refine Below.alloc ?_ ?_ _) | (with_reducible refine Below.drew ?_) | (with_reducible refine Below.setCell ?_ ?_ _) | go_size))) (bw1.mono (by go_size)); (first | (have kw1_0 : w.heap.size < w1.heap.size := (by omega)) | skip); have cw1_0 := fun o (hh : w.heap.size < _) => bw1.cell (p := ⟨w.heap.size, o, none⟩) hh; have fw1_0 := fun o (hh : w.heap.size < _) => bw1.frozen (p := ⟨w.heap.size, o, none⟩) hh; clear bw1)
    )
  all_goals
    go_wp2_with fail
    go_ret
    exact ⟨rfl, by (repeat' (first | (with_reducible assumption) | (with_reducible exact Below.refl _ _) | (with_reducible refine bdN ?_ _) | (with_reducible refine Below.alloc ?_ ?_ _) | (with_reducible refine Below.drew ?_) | (with_reducible refine Below.setCell ?_ ?_ _) | go_size))⟩
theorem l6Dec_any (n : Int) (w : World) (h : 0 ≤ n) (h2 : n ≤ 9999) : Calls Try.prog 79 #[.int .i64 n] w fun e w' => e = .returned (.string (decS n)) ∧ Below w.heap.size w w' := by
  have d1 := fun (n : Int) (h : 0 ≤ n) (h2 : n < 10) w => l6Dec_d n w h h2
  have d2 := fun (n : Int) (h : 10 ≤ n) (h2 : n < 100) w => l6Dec_step n (dgS 1 (n / 10)) w h (by omega) (by rw [dgS_size]; omega) (d1 (n / 10) (by omega) (by omega))
  have d3 := fun (n : Int) (h : 100 ≤ n) (h2 : n < 1000) w => l6Dec_step n _ w (by omega) (by omega) (by simp only [ByteArray.size_append, dgS_size]; omega) (d2 (n / 10) (by omega) (by omega))
  unfold decS
  split
  · exact d1 n h (by omega) w
  · split
    · exact d2 n (by omega) (by omega) w
    · split
      · exact d3 n (by omega) (by omega) w
      · exact l6Dec_step n _ w (by omega) (by omega) (by simp only [ByteArray.size_append, dgS_size]; omega) (d3 (n / 10) (by omega) (by omega))
end Go.Proofs.Ytbgpdjceofofoaa
