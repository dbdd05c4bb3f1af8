/- The laws' marks: the text of a mark, the marks laid into a row of tags of the call's own, and whether they stand there still. Condition: at most four tags. -/
import Derived.Test.YtbgpdjceofofoaaTagFi
import Derived.Test.YtbgpdjceofofoaaToTagS
import Derived.Test.YtbgpdjceofofoaaDec
import Derived.Deep.RegionHeld3
import Derived.Lib.Builder
namespace Go.Proofs.Ytbgpdjceofofoaa
open Go.RowKit DN
set_option linter.unusedVariables false
set_option linter.unusedSimpArgs false

/-- the text of a mark -/
def mkT (k : Nat) : ByteArray := ⟨#[109]⟩ ++ (if k < 10 then dgS 1 k ++ ⟨#[]⟩ else dgS 1 ((k : Int) / 10) ++ (dgS 1 k ++ ⟨#[]⟩))
theorem mkT_size (k : Nat) : (mkT k).size ≤ 3 := by
  unfold mkT
  have := one_size 109
  split <;> (simp only [ByteArray.size_append, dgS_size]; have : (⟨#[]⟩ : ByteArray).size = 0 := rfl; omega)
set_option maxRecDepth 100000 in
set_option maxHeartbeats 4000000 in
theorem markText_any (k : Nat) (h1 : 1 ≤ k) (h2 : k ≤ 50) (w : World) : Calls Try.prog 69 #[.int .i64 k] w fun e w' => e = .returned (.string (mkT k)) ∧ Below w.heap.size w w' := by
  have hcv := conv_at (k : Int)
  have hcv2 := conv_at ((k : Int) / 10)
  have sz := dgS_size 1 (k : Int)
  have sz2 := dgS_size 1 ((k : Int) / 10)
  have z0 : (⟨#[]⟩ : ByteArray).size = 0 := rfl
  have hq : Int.tdiv (k : Int) 10 = (k : Int) / 10 := by rw [Int.tdiv_eq_ediv_of_nonneg (by omega)]
  have hm : Int.tmod (k : Int) 10 = (k : Int) % 10 := by rw [Int.tmod_eq_emod_of_nonneg (by omega)]
  have hq2 : Int.tdiv ((k : Int) / 10) 10 = 0 := by rw [Int.tdiv_eq_ediv_of_nonneg (by omega)]; omega
  have hm2 : Int.tmod ((k : Int) / 10) 10 = (k : Int) / 10 % 10 := by rw [Int.tmod_eq_emod_of_nonneg (by omega)]
  have w1 : IntKind.i64.wrap ((k : Int) / 10) = (k : Int) / 10 := IntWalk.i64_in _ (by omega)
  have w2 : IntKind.i64.wrap (48 + (k : Int) % 10) = 48 + (k : Int) % 10 := IntWalk.i64_in _ (by omega)
  have w3 : IntKind.u8.wrap (48 + (k : Int) % 10) = 48 + (k : Int) % 10 := IntWalk.u8_in _ (by omega)
  have w4 : IntKind.i64.wrap (48 + (k : Int) / 10 % 10) = 48 + (k : Int) / 10 % 10 := IntWalk.i64_in _ (by omega)
  have w5 : IntKind.u8.wrap (48 + (k : Int) / 10 % 10) = 48 + (k : Int) / 10 % 10 := IntWalk.u8_in _ (by omega)
  have m1 : 0 ≤ (k : Int) % 10 := by omega
  have m2 : (k : Int) % 10 < 10 := by omega
  have m3 : 0 ≤ (k : Int) / 10 % 10 := by omega
  have m4 : (k : Int) / 10 % 10 < 10 := by omega
  have hpos : 0 < (k : Int) := by omega
  by_cases hk : k < 10
  · have HE := Lib.hid (show mkT k = ⟨#[109]⟩ ++ (dgS 1 k ++ ⟨#[]⟩) from by unfold mkT; rw [if_pos hk])
    have q0 : (k : Int) / 10 = 0 := by omega
    clear hcv2 sz2 hq2 hm2 w4 w5 m3 m4
    go_enter Try.func69, Try.ntmps69
    go_wp2_with fail
    refine wp_loop_rounds 2 ?_
    rw [rounds_succ]
    go_wp2_with fail
    rw [rounds_succ]
    go_wp2_with fail
    go_ret
    exact ⟨by rw [HE.out] <;> rfl, by (repeat' (first | (with_reducible assumption) | (with_reducible exact Below.refl _ _) | (with_reducible refine bdN ?_ _) | (with_reducible refine Below.alloc ?_ ?_ _) | (with_reducible refine Below.drew ?_) | (with_reducible refine Below.setCell ?_ ?_ _) | go_size))⟩
  · have HE := Lib.hid (show mkT k = ⟨#[109]⟩ ++ (dgS 1 ((k : Int) / 10) ++ (dgS 1 k ++ ⟨#[]⟩)) from by unfold mkT; rw [if_neg hk])
    have hpos2 : 0 < (k : Int) / 10 := by omega
    go_enter Try.func69, Try.ntmps69
    go_wp2_with fail
    refine wp_loop_rounds 3 ?_
    rw [rounds_succ]
    go_wp2_with fail
    rw [rounds_succ]
    go_wp2_with fail
    rw [rounds_succ]
    go_wp2_with fail
    go_ret
    exact ⟨by rw [HE.out] <;> rfl, by (repeat' (first | (with_reducible assumption) | (with_reducible exact Below.refl _ _) | (with_reducible refine bdN ?_ _) | (with_reducible refine Below.alloc ?_ ?_ _) | (with_reducible refine Below.drew ?_) | (with_reducible refine Below.setCell ?_ ?_ _) | go_size))⟩
theorem markText_z (z : Int) (k : Nat) (hz : z = k) (h1 : 1 ≤ k) (h2 : k ≤ 50) (w : World) : Calls Try.prog 69 #[.int .i64 z] w fun e w' => e = .returned (.string (mkT k)) ∧ Below w.heap.size w w' := by
  subst hz
  exact markText_any k h1 h2 w
/-- the value of the j-th mark -/
def mkV (j : Nat) : Value := if j % 3 = 2 then .bool true else .string (mkT (j + 1))
theorem mkV_k (i : Nat) : mkV (i * 3) = .string (mkT (i * 3 + 1)) := by unfold mkV; rw [if_neg (by omega)]
theorem mkV_v (i : Nat) : mkV (i * 3 + 1) = .string (mkT (i * 3 + 2)) := by unfold mkV; rw [if_neg (by omega)]
theorem mkV_c (i : Nat) : mkV (i * 3 + 2) = .bool true := by unfold mkV; rw [if_pos (by omega)]
/-- a row of tags whose first m cells are marks -/
def MkAt (w : World) (g n m : Nat) : Prop := (∀ j, j < n * 3 → ∃ u, w.cell? ⟨g, j, none⟩ = some u) ∧ (∀ j, w.frozen? ⟨g, j, none⟩ = false) ∧ g < w.heap.size ∧ ∀ j, j < m → w.cell? ⟨g, j, none⟩ = some (mkV j)
theorem mk_keep {w w' : World} {g n m : Nat} (h : MkAt w g n m) (k : Below w.heap.size w w') : MkAt w' g n m := by
  obtain ⟨h1, h2, h3, h4⟩ := h
  have hc : ∀ o, w'.cell? ⟨g, o, none⟩ = w.cell? ⟨g, o, none⟩ := fun o => k.cell (p := ⟨g, o, none⟩) h3
  have hf : ∀ o, w'.frozen? ⟨g, o, none⟩ = w.frozen? ⟨g, o, none⟩ := fun o => k.frozen (p := ⟨g, o, none⟩) h3
  exact ⟨fun j hj => by rw [hc]; exact h1 j hj, fun j => by rw [hf]; exact h2 j, Nat.lt_of_lt_of_le h3 k.size, fun j hj => by rw [hc]; exact h4 j hj⟩
theorem mk_set {w : World} {g n m : Nat} (h : MkAt w g n m) (hm : m < n * 3) : MkAt (w.setCell ⟨g, m, none⟩ (mkV m)) g n (m + 1) := by
  obtain ⟨h1, h2, h3, h4⟩ := h
  obtain ⟨u, hu⟩ := h1 m hm
  have so : ∀ j, j ≠ m → (w.setCell ⟨g, m, none⟩ (mkV m)).cell? ⟨g, j, none⟩ = w.cell? ⟨g, j, none⟩ := fun j hj => by
    apply World.cell?_setCell_other
    intro e; injection e with _ e; exact hj e.symm
  have ss : (w.setCell ⟨g, m, none⟩ (mkV m)).cell? ⟨g, m, none⟩ = some (mkV m) := by apply World.cell?_setCell_same; exact hu
  refine ⟨fun j hj => ?_, fun j => by simp only [World.frozen?_setCell]; exact h2 j, by simpa [World.setCell] using h3, fun j hj => ?_⟩
  · by_cases e : j = m
    · subst e; exact ⟨_, ss⟩
    · rw [so j e]; exact h1 j hj
  · by_cases e : j = m
    · subst e; exact ss
    · rw [so j e]; exact h4 j (by omega)
theorem mk_row {w : World} {base g cap : Nat} {l : List Tg} (h : RowT w base g cap l) : MkAt w g l.length 0 := by
  have hlt := (rowT_lt h).2
  refine ⟨fun j hj => ?_, fun j => ?_, hlt, fun j hj => by omega⟩
  · obtain ⟨h1, h2, h3⟩ := rowT_at h (j / 3) (by omega)
    rw [Nat.zero_add] at h1 h2 h3
    rcases (show j = j / 3 * 3 ∨ j = j / 3 * 3 + 1 ∨ j = j / 3 * 3 + 2 by omega) with e | e | e
    · exact ⟨_, by rw [e]; exact h1⟩
    · exact ⟨_, by rw [e]; exact h2⟩
    · exact ⟨_, by rw [e]; exact h3⟩
  · rcases h.2 with ⟨h0, _⟩ | ⟨g', cap', cur, e, _, hg, _⟩
    · cases h0
    · injection e with e _ _
      injection e with e
      injection e with e _ _
      subst e
      exact Lib.frozen_of_heap hg j
set_option maxRecDepth 100000 in
set_option maxHeartbeats 4000000 in
theorem markTagS_any (g n cap : Nat) (w : World) (hm : MkAt w g n 0) (hn : n ≤ 4) : Calls Try.prog 38 #[.slice (some ⟨g, 0, none⟩) n cap, .int .i64 1] w fun e w' => e = .returned (.int .i64 (3 * (n : Int) + 1)) ∧ MkAt w' g n (n * 3) ∧ Below g w w' := by
  have HM := Lib.hid hm
  have hlt := hm.2.2.1
  clear hm
  go_enter Try.func38, Try.ntmps38
  go_wp2_with fail
  go_loopg [1, 5] n (fun gg kv iv wr => ∃ i : Nat, gg = n - i ∧ i ≤ n ∧ iv = .int .i64 i ∧ kv = .int .i64 (3 * (i : Int) + 1) ∧ MkAt wr g n (i * 3) ∧ Below g w wr)
  case atStart => exact ⟨0, rfl, Nat.zero_le _, rfl, rfl, by rw [Nat.zero_mul]; exact HM.out, Below.refl _ _⟩
  case round =>
    obtain ⟨i, rfl, hi, rfl, rfl, hmr, bel⟩ := hrel
    have HMR := Lib.hid hmr
    have hgr := hmr.2.2.1
    clear hmr
    by_cases hin : i < n
    · have T1 := Lib.hid (fun w => markText_z (3 * (i : Int) + 1) (i * 3 + 1) (by omega) (by omega) (by omega) w)
      have T2 := Lib.hid (fun w => markText_z (3 * (i : Int) + 1 + 1) (i * 3 + 2) (by omega) (by omega) (by omega) w)
      have T2' := Lib.hid (fun w => markText_z (3 * (i : Int) + 2) (i * 3 + 2) (by omega) (by omega) (by omega) w)
      have hr1 : IntKind.i64.wrap (3 * (i : Int) + 1 + 1) = 3 * (i : Int) + 1 + 1 := IntWalk.i64_in _ (by omega)
      have hr2 : IntKind.i64.wrap (3 * (i : Int) + 1 + 1 + 1) = 3 * (i : Int) + 1 + 1 + 1 := IntWalk.i64_in _ (by omega)
      have hr3 : IntKind.i64.wrap (3 * (i : Int) + 1 + 1 + 1 + 1) = 3 * (i : Int) + 1 + 1 + 1 + 1 := IntWalk.i64_in _ (by omega)
      have hr4 : IntKind.i64.wrap (3 * (i : Int) + 2) = 3 * (i : Int) + 2 := IntWalk.i64_in _ (by omega)
      have hr5 : IntKind.i64.wrap (3 * (i : Int) + 3) = 3 * (i : Int) + 3 := IntWalk.i64_in _ (by omega)
      have hr6 : IntKind.i64.wrap (3 * (i : Int) + 4) = 3 * (i : Int) + 4 := IntWalk.i64_in _ (by omega)
      have hmod : Int.tmod (3 * (i : Int) + 3) 3 = 0 := by rw [Int.tmod_eq_emod_of_nonneg (by omega)]; omega
      have hmod2 : Int.tmod (3 * (i : Int) + 1 + 1 + 1) 3 = 0 := by rw [Int.tmod_eq_emod_of_nonneg (by omega)]; omega
      have hd : (3 * (i : Int) + 3) % 3 = 0 := by omega
      have hd2 : (3 * (i : Int) + 1 + 1 + 1) % 3 = 0 := by omega
      go_wp2_with fail
      refine (T1.out _).mono ?_
      rintro e w1 ⟨rfl, b1⟩
      have hm1 := mk_keep HMR.out b1
      have A1 : Below g w w1 := bel.trans (b1.mono (by omega))
      have hs1 := mk_set hm1 (by omega)
      rw [mkV_k] at hs1
      have HS1 := Lib.hid hs1
      obtain ⟨u0, e0⟩ := hm1.1 (i * 3) (by omega)
      have f0 := hm1.2.1 (i * 3)
      have hl1 := hm1.2.2.1
      clear hm1 hs1 b1 bel
      go_wp2_with fail
      first | refine (T2.out _).mono ?_ | refine (T2'.out _).mono ?_
      rintro e w2 ⟨rfl, b2⟩
      have hm2 := mk_keep HS1.out b2
      have B1 : Below g w (w1.setCell ⟨g, i * 3, none⟩ (.string (mkT (i * 3 + 1)))) := A1.setCell (Nat.le_refl _) _
      have A2 : Below g w w2 := B1.trans (b2.mono (by simp; omega))
      have hs2 := mk_set hm2 (by omega)
      rw [mkV_v] at hs2
      have HS2 := Lib.hid hs2
      obtain ⟨u1, e1⟩ := hm2.1 (i * 3 + 1) (by omega)
      have f1 := hm2.2.1 (i * 3 + 1)
      have hl2 := hm2.2.2.1
      obtain ⟨u2, e2'⟩ := HS2.out.1 (i * 3 + 2) (by omega)
      have f2 := HS2.out.2.1 (i * 3 + 2)
      have hs3 := mk_set HS2.out (show i * 3 + 2 < n * 3 by omega)
      rw [mkV_c, show i * 3 + 2 + 1 = (i + 1) * 3 by omega] at hs3
      have HS3 := Lib.hid hs3
      have B2 : Below g w ((w2.setCell ⟨g, i * 3 + 1, none⟩ (.string (mkT (i * 3 + 2)))).setCell ⟨g, i * 3 + 2, none⟩ (.bool true)) := (A2.setCell (Nat.le_refl _) _).setCell (Nat.le_refl _) _
      have HB2 := Lib.hid B2
      clear hm2 hs2 hs3 b2 A1 B1 A2 B2 e0 f0 hl1
      go_wp2_with fail
      go_roundg (n - (i + 1))
      case measure => omega
      case rel => exact ⟨i + 1, rfl, by omega, by go_num, by go_num, HS3.out, HB2.out⟩
    · obtain rfl : i = n := by omega
      go_wp2_with fail
      go_ret
      exact ⟨rfl, HMR.out, bel⟩
set_option maxRecDepth 100000 in
set_option maxHeartbeats 4000000 in
theorem heldTagS_any (g n cap : Nat) (w : World) (hm : MkAt w g n (n * 3)) (hn : n ≤ 4) : Calls Try.prog 39 #[.slice (some ⟨g, 0, none⟩) n cap, .int .i64 1] w fun e w' => e = .returned (.int .i64 (3 * (n : Int) + 1)) ∧ Below w.heap.size w w' := by
  have HM := Lib.hid hm
  have hlt := hm.2.2.1
  clear hm
  go_enter Try.func39, Try.ntmps39
  go_wp2_with fail
  go_loopg [1, 5] n (fun gg kv iv wr => ∃ i : Nat, gg = n - i ∧ i ≤ n ∧ iv = .int .i64 i ∧ kv = .int .i64 (3 * (i : Int) + 1) ∧ Below w.heap.size w wr)
  case atStart => exact ⟨0, rfl, Nat.zero_le _, rfl, rfl, Below.refl _ _⟩
  case round =>
    obtain ⟨i, rfl, hi, rfl, rfl, bel⟩ := hrel
    have hszr := bel.size
    by_cases hin : i < n
    · have hmr := mk_keep HM.out bel
      have e0 := hmr.2.2.2 (i * 3) (by omega)
      have e1 := hmr.2.2.2 (i * 3 + 1) (by omega)
      have e2 := hmr.2.2.2 (i * 3 + 2) (by omega)
      rw [mkV_k] at e0
      rw [mkV_v] at e1
      rw [mkV_c] at e2
      have hgr := hmr.2.2.1
      obtain ⟨K1, hK1⟩ : ∃ K, mkT (i * 3 + 1) = K := ⟨_, rfl⟩
      obtain ⟨K2, hK2⟩ : ∃ K, mkT (i * 3 + 2) = K := ⟨_, rfl⟩
      have T1 := Lib.hid (fun w => markText_z (3 * (i : Int) + 1) (i * 3 + 1) (by omega) (by omega) (by omega) w)
      have T2 := Lib.hid (fun w => markText_z (3 * (i : Int) + 1 + 1) (i * 3 + 2) (by omega) (by omega) (by omega) w)
      have T2' := Lib.hid (fun w => markText_z (3 * (i : Int) + 2) (i * 3 + 2) (by omega) (by omega) (by omega) w)
      rw [hK1] at T1 e0
      rw [hK2] at T2 T2' e1
      have hr1 : IntKind.i64.wrap (3 * (i : Int) + 1 + 1) = 3 * (i : Int) + 1 + 1 := IntWalk.i64_in _ (by omega)
      have hr2 : IntKind.i64.wrap (3 * (i : Int) + 1 + 1 + 1) = 3 * (i : Int) + 1 + 1 + 1 := IntWalk.i64_in _ (by omega)
      have hr3 : IntKind.i64.wrap (3 * (i : Int) + 1 + 1 + 1 + 1) = 3 * (i : Int) + 1 + 1 + 1 + 1 := IntWalk.i64_in _ (by omega)
      have hr4 : IntKind.i64.wrap (3 * (i : Int) + 2) = 3 * (i : Int) + 2 := IntWalk.i64_in _ (by omega)
      have hr5 : IntKind.i64.wrap (3 * (i : Int) + 3) = 3 * (i : Int) + 3 := IntWalk.i64_in _ (by omega)
      have hr6 : IntKind.i64.wrap (3 * (i : Int) + 4) = 3 * (i : Int) + 4 := IntWalk.i64_in _ (by omega)
      have hmod : Int.tmod (3 * (i : Int) + 3) 3 = 0 := by rw [Int.tmod_eq_emod_of_nonneg (by omega)]; omega
      have hmod2 : Int.tmod (3 * (i : Int) + 1 + 1 + 1) 3 = 0 := by rw [Int.tmod_eq_emod_of_nonneg (by omega)]; omega
      have hd : (3 * (i : Int) + 3) % 3 = 0 := by omega
      have hd2 : (3 * (i : Int) + 1 + 1 + 1) % 3 = 0 := by omega
      clear hmr hK1 hK2
      go_wp2_with fail
      go_region_held3 (fun w' => w'.cell? ⟨g, i * 3, none⟩ = some (.string K1)) (first | (with_reducible assumption) | (go_simp; done)) ((go_at_call 69; (with_reducible refine (T1.out _).mono ?_); rintro e w1 ⟨rfl, b1⟩; have s1 := b1.size; (try simp at s1); have A1 : Below wr.heap.size wr w1 := Below.trans (by (repeat' (first | (with_reducible assumption) | (with_reducible exact Below.refl _ _) | (with_reducible refine bdN ?_ _) | (with_reducible refine Below.alloc ?_ ?_ _) | (with_reducible refine Below.drew ?_) | (with_reducible refine Below.setCell ?_ ?_ _) | go_size))) (b1.mono (by go_size)); have c1 : w1.cell? ⟨g, i * 3, none⟩ = some (.string K1) := (A1.cell (p := ⟨g, i * 3, none⟩) hgr).trans e0; clear b1))
      all_goals
        have d1 : w1.cell? ⟨g, i * 3 + 1, none⟩ = some (.string K2) := (A1.cell (p := ⟨g, i * 3 + 1, none⟩) hgr).trans e1
        clear e0 c1
        go_wp2_with fail
        go_region_held3 (fun w' => w'.cell? ⟨g, i * 3 + 1, none⟩ = some (.string K2)) (first | (with_reducible assumption) | (go_simp; done)) ((go_at_call 69; (first | (with_reducible refine (T2.out _).mono ?_) | (with_reducible refine (T2'.out _).mono ?_)); rintro e w2 ⟨rfl, b2⟩; have s2 := b2.size; (try simp at s2); have A2 : Below wr.heap.size wr w2 := Below.trans (by (repeat' (first | (with_reducible assumption) | (with_reducible exact Below.refl _ _) | (with_reducible refine bdN ?_ _) | (with_reducible refine Below.alloc ?_ ?_ _) | (with_reducible refine Below.drew ?_) | (with_reducible refine Below.setCell ?_ ?_ _) | go_size))) (b2.mono (by go_size)); have c2 : w2.cell? ⟨g, i * 3 + 1, none⟩ = some (.string K2) := (A2.cell (p := ⟨g, i * 3 + 1, none⟩) hgr).trans e1; clear b2))
        all_goals
          have d2 : w2.cell? ⟨g, i * 3 + 2, none⟩ = some (.bool true) := (A2.cell (p := ⟨g, i * 3 + 2, none⟩) hgr).trans e2
          have BB : Below w.heap.size w w2 := bel.trans (A2.mono hszr)
          clear c2 d1
          go_wp2_with fail
          go_roundg (n - (i + 1))
          case measure => omega
          case rel => exact ⟨i + 1, rfl, by omega, by go_num, by go_num, by (repeat' (first | (with_reducible assumption) | (with_reducible exact Below.refl _ _) | (with_reducible refine bdN ?_ _) | (with_reducible refine Below.alloc ?_ ?_ _) | (with_reducible refine Below.drew ?_) | (with_reducible refine Below.setCell ?_ ?_ _) | go_size))⟩
    · obtain rfl : i = n := by omega
      go_wp2_with fail
      go_ret
      exact ⟨rfl, bel⟩
theorem markTagS_nil (w : World) : Calls Try.prog 38 #[.slice none 0 0, .int .i64 1] w fun e w' => e = .returned (.int .i64 1) ∧ w = w' := by
  go_enter Try.func38, Try.ntmps38
  go_wp2_with fail
  refine wp_loop_rounds 1 ?_
  rw [rounds_succ]
  go_wp2_with fail
  go_ret
  exact ⟨rfl, rfl⟩
theorem heldTagS_nil (w : World) : Calls Try.prog 39 #[.slice none 0 0, .int .i64 1] w fun e w' => e = .returned (.int .i64 1) ∧ w = w' := by
  go_enter Try.func39, Try.ntmps39
  go_wp2_with fail
  refine wp_loop_rounds 1 ?_
  rw [rounds_succ]
  go_wp2_with fail
  go_ret
  exact ⟨rfl, rfl⟩
theorem isTags_low {w w' : World} {g len B : Nat} {l : List Tg} (h : IsTags w (some ⟨g, 0, none⟩) len l) (hB : g < B) (k : Below B w w') : IsTags w' (some ⟨g, 0, none⟩) len l := by
  obtain ⟨e, h⟩ := h
  refine ⟨e, h.imp id ?_⟩
  rintro ⟨b, off, hab, hb, hc⟩
  injection hab with hab
  injection hab with hab1 hab2
  subst hab1
  subst hab2
  have hk : ∀ o, w'.cell? ⟨g, o, none⟩ = w.cell? ⟨g, o, none⟩ := fun o => k.cell (p := ⟨g, o, none⟩) hB
  refine ⟨g, 0, rfl, Nat.lt_of_lt_of_le hb k.size, fun i hi => ?_⟩
  rw [hk, hk, hk]
  exact hc i hi
end Go.Proofs.Ytbgpdjceofofoaa
