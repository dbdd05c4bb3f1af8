/- Contracts of the functions on digits, by the program and by the reference: how many digits follow, the number that they are, a number with so many digits. Conditions: the texts are not longer than 2^40 bytes; numbers that are put are not negative. -/
import Derived.Test.YtfailbghnpfcdaaDoorKeep
import Derived.Test.YtfailbghnpfcdaaDoorTxt
import Derived.Test.YtfailbghnpfcdaaDoorRd
import Derived.LoopTactic
import Derived.Laws.IdiomStrings
import Derived.Laws.BytesString
import Derived.Deep.QuietTactic
import Derived.BigQuiet
import Derived.Deep.RegionHeld3
namespace Go.Proofs.YtfailbghnpfcdaaDoor
set_option linter.unusedSimpArgs false
set_option linter.unusedVariables false
open Go.RowKit DN

theorem ret_str {a b : ByteArray} (h : a = b) : Ending.returned (.string a) = .returned (.string b) := by rw [h]
/-- whether a byte is a digit -/
def dgI (b : Int) : Bool := decide (48 ≤ b) && decide (b ≤ 57)
theorem dgI_isDg (b : UInt8) : dgI b.toNat = isDg b := rfl
theorem dgI_t {b : Int} (h : dgI b = true) : 48 ≤ b ∧ b ≤ 57 := by unfold dgI at h; simpa using h
theorem dgI_f {b : Int} (h : dgI b = false) : ¬ (48 ≤ b ∧ b ≤ 57) := by unfold dgI at h; simp at h; omega

/-- the reader in block r: its text, its place -/
def Rdr (w : World) (r : Nat) (s : ByteArray) (p : Nat) : Prop := w.cell? ⟨r, 0, none⟩ = some (.string s) ∧ w.cell? ⟨r, 1, none⟩ = some (.int .i64 p) ∧ w.frozen? ⟨r, 1, none⟩ = false ∧ r < w.heap.size

theorem getD_at (s : ByteArray) (k : Nat) (h : k < s.size) : s[k] = s.data.toList[k]'(by simpa using h) := rfl

theorem ix_str {P : Program} {t : TypeId} (hu : P.underlying t = some .string) (s : ByteArray) (n : Nat) (z : Int) (hz : z = n) (h : n < s.size) (wx : World) : (Instr.index t (.string s) (.int .i64 z)).run P wx = .ok (.int .u8 (s[n].toNat : Int)) wx := by
  subst hz
  rw [run_index_string _ _ _ _ _ hu, dif_pos ⟨by omega, by omega⟩]
  rfl
/-- what reading a number leaves -/
def ReadOk (w : World) (r : Nat) (s : ByteArray) (q : Nat) (n : Int) (e : Ending) (w' : World) : Prop := e = .returned (.tuple #[.int .i64 n, .bool true]) ∧ Rdr w' r s q ∧ Onl r w w'

theorem u8_sub (b : UInt8) (h : isDg b = true) : IntKind.u8.wrap ((b.toNat : Int) - 48) = (b.toNat : Int) - 48 := by
  obtain ⟨h1, h2⟩ := isDg_bd h
  exact IntWalk.u8_in _ ⟨by omega, by omega⟩
theorem bytes_back (w : World) (src dst e : TypeId) {P : Program} (a : Addr) (cap : Nat) (l : List UInt8) (len : Nat) (hs : P.underlying src = some (.slice e)) (he : P.underlying e = some (.int .u8)) (hd : P.underlying dst = some .string) (hl : l.length = len)
    (hc : ∀ j (hj : j < l.length), w.cell? (a.add j) = some (.int .u8 (l[j].toNat : Int))) :
    (convert src dst (.slice (some a) len cap)).run P w = .ok (.string ⟨l.toArray⟩) w := by
  subst hl; exact run_convert_bytes_back w src dst e a cap l hs he hd hc
theorem info8 : (Tryd.prog.info? 5).map (fun i => (i.zero, i.size, i.bytes)) = some (some (.int .u8 0), 1, 1) := by kernel_rfl
theorem make8 (k : Nat) (cs : Array Value) (hcs : madeCells #[.int .u8 0] k = cs) (h : k ≤ 1000) (w : World) : (Instr.makeSlice 29 (.int .i64 k) (.int .i64 k)).run Tryd.prog w = .ok (.slice (some ⟨w.heap.size, 0, none⟩) k k) (w.alloc (.cells cs 5)) := by
  obtain ⟨i0, hi, hz0, hz1, hz2⟩ := info_parts info8
  have hmk := run_make (P := Tryd.prog) w 29 5 i0 (.int .u8 0) Tryd.underlying29 hi hz0 .i64 .i64 k k (by omega) (by omega) (by rw [hz2]; omega) (by omega)
  rw [hmk, hz1, ← hcs]
  simp [Value.cells]
theorem cell_new (w : World) (C : Array Value) (t : TypeId) (j : Nat) : (w.alloc (.cells C t)).cell? ⟨w.heap.size, j, none⟩ = C[j]? := by
  rw [World.cell?_alloc_at _ _ _ _ (by simp)]
theorem add_at (b j : Nat) : (⟨b, 0, none⟩ : Addr).add j = ⟨b, j, none⟩ := by
  cases j with
  | zero => simp [Addr.add]
  | succ j => simp [Addr.add]
theorem conv_1 (n : Int) (w : World) : (convert 29 9 (.slice (some ⟨w.heap.size, 0, none⟩) 1 1)).run Tryd.prog (w.alloc (.cells #[.int .u8 (48 + n % 10)] 5)) = .ok (.string (dgS 1 n)) (w.alloc (.cells #[.int .u8 (48 + n % 10)] 5)) := by
  refine bytes_back _ _ _ _ _ _ [dgB (n)] _ Tryd.underlying29 Tryd.underlying5 Tryd.underlying9 rfl (fun j hj => ?_)
  rw [add_at, cell_new]
  simp only [List.length_cons, List.length_nil] at hj
  have hj' : j = 0 := by omega
  subst hj' <;> simp [dgB_num]
set_option maxHeartbeats 2000000 in
theorem digits_1 (n : Int) (w : World) (h : 0 ≤ n) (h2 : n ≤ 1000000000) :
    Calls Tryd.prog 40 #[.int .i64 n, .int .i64 1] w fun e w' => e = .returned (.string (dgS 1 n)) ∧ Below w.heap.size w w' := by
  have hmk : ∀ w : World, (Instr.makeSlice 29 (.int .i64 1) (.int .i64 1)).run Tryd.prog w = .ok (.slice (some ⟨w.heap.size, 0, none⟩) 1 1) (w.alloc (.cells #[.int .u8 0] 5)) := make8 1 _ (by kernel_rfl) (by omega)
  have hcv := conv_1 n w
  go_enter Tryd.func40, Tryd.ntmps40
  go_wp2_with fail
  refine wp_loop_rounds 2 ?_
  rw [rounds_succ]
  go_wp2_with fail
  rw [rounds_succ]
  go_wp2_with fail
  go_ret
  exact ⟨rfl, (Below.refl _ _).alloc (Nat.le_refl _) _⟩
theorem conv_2 (n : Int) (w : World) : (convert 29 9 (.slice (some ⟨w.heap.size, 0, none⟩) 2 2)).run Tryd.prog (w.alloc (.cells #[.int .u8 (48 + n / 10 % 10), .int .u8 (48 + n % 10)] 5)) = .ok (.string (dgS 2 n)) (w.alloc (.cells #[.int .u8 (48 + n / 10 % 10), .int .u8 (48 + n % 10)] 5)) := by
  refine bytes_back _ _ _ _ _ _ [dgB (n / 10), dgB (n)] _ Tryd.underlying29 Tryd.underlying5 Tryd.underlying9 rfl (fun j hj => ?_)
  rw [add_at, cell_new]
  simp only [List.length_cons, List.length_nil] at hj
  have hj' : j = 0 ∨ j = 1 := by omega
  rcases hj' with rfl | rfl <;> simp [dgB_num]
set_option maxHeartbeats 2000000 in
theorem digits_2 (n : Int) (w : World) (h : 0 ≤ n) (h2 : n ≤ 1000000000) :
    Calls Tryd.prog 40 #[.int .i64 n, .int .i64 2] w fun e w' => e = .returned (.string (dgS 2 n)) ∧ Below w.heap.size w w' := by
  have hmk : ∀ w : World, (Instr.makeSlice 29 (.int .i64 2) (.int .i64 2)).run Tryd.prog w = .ok (.slice (some ⟨w.heap.size, 0, none⟩) 2 2) (w.alloc (.cells #[.int .u8 0, .int .u8 0] 5)) := make8 2 _ (by kernel_rfl) (by omega)
  have hcv := conv_2 n w
  go_enter Tryd.func40, Tryd.ntmps40
  go_wp2_with fail
  refine wp_loop_rounds 3 ?_
  rw [rounds_succ]
  go_wp2_with fail
  rw [rounds_succ]
  go_wp2_with fail
  rw [rounds_succ]
  go_wp2_with fail
  go_ret
  exact ⟨rfl, (Below.refl _ _).alloc (Nat.le_refl _) _⟩
theorem conv_3 (n : Int) (w : World) : (convert 29 9 (.slice (some ⟨w.heap.size, 0, none⟩) 3 3)).run Tryd.prog (w.alloc (.cells #[.int .u8 (48 + n / 10 / 10 % 10), .int .u8 (48 + n / 10 % 10), .int .u8 (48 + n % 10)] 5)) = .ok (.string (dgS 3 n)) (w.alloc (.cells #[.int .u8 (48 + n / 10 / 10 % 10), .int .u8 (48 + n / 10 % 10), .int .u8 (48 + n % 10)] 5)) := by
  refine bytes_back _ _ _ _ _ _ [dgB (n / 10 / 10), dgB (n / 10), dgB (n)] _ Tryd.underlying29 Tryd.underlying5 Tryd.underlying9 rfl (fun j hj => ?_)
  rw [add_at, cell_new]
  simp only [List.length_cons, List.length_nil] at hj
  have hj' : j = 0 ∨ j = 1 ∨ j = 2 := by omega
  rcases hj' with rfl | rfl | rfl <;> simp [dgB_num]
set_option maxHeartbeats 2000000 in
theorem digits_3 (n : Int) (w : World) (h : 0 ≤ n) (h2 : n ≤ 1000000000) :
    Calls Tryd.prog 40 #[.int .i64 n, .int .i64 3] w fun e w' => e = .returned (.string (dgS 3 n)) ∧ Below w.heap.size w w' := by
  have hmk : ∀ w : World, (Instr.makeSlice 29 (.int .i64 3) (.int .i64 3)).run Tryd.prog w = .ok (.slice (some ⟨w.heap.size, 0, none⟩) 3 3) (w.alloc (.cells #[.int .u8 0, .int .u8 0, .int .u8 0] 5)) := make8 3 _ (by kernel_rfl) (by omega)
  have hcv := conv_3 n w
  go_enter Tryd.func40, Tryd.ntmps40
  go_wp2_with fail
  refine wp_loop_rounds 4 ?_
  rw [rounds_succ]
  go_wp2_with fail
  rw [rounds_succ]
  go_wp2_with fail
  rw [rounds_succ]
  go_wp2_with fail
  rw [rounds_succ]
  go_wp2_with fail
  go_ret
  exact ⟨rfl, (Below.refl _ _).alloc (Nat.le_refl _) _⟩
theorem conv_4 (n : Int) (w : World) : (convert 29 9 (.slice (some ⟨w.heap.size, 0, none⟩) 4 4)).run Tryd.prog (w.alloc (.cells #[.int .u8 (48 + n / 10 / 10 / 10 % 10), .int .u8 (48 + n / 10 / 10 % 10), .int .u8 (48 + n / 10 % 10), .int .u8 (48 + n % 10)] 5)) = .ok (.string (dgS 4 n)) (w.alloc (.cells #[.int .u8 (48 + n / 10 / 10 / 10 % 10), .int .u8 (48 + n / 10 / 10 % 10), .int .u8 (48 + n / 10 % 10), .int .u8 (48 + n % 10)] 5)) := by
  refine bytes_back _ _ _ _ _ _ [dgB (n / 10 / 10 / 10), dgB (n / 10 / 10), dgB (n / 10), dgB (n)] _ Tryd.underlying29 Tryd.underlying5 Tryd.underlying9 rfl (fun j hj => ?_)
  rw [add_at, cell_new]
  simp only [List.length_cons, List.length_nil] at hj
  have hj' : j = 0 ∨ j = 1 ∨ j = 2 ∨ j = 3 := by omega
  rcases hj' with rfl | rfl | rfl | rfl <;> simp [dgB_num]
set_option maxHeartbeats 2000000 in
theorem digits_4 (n : Int) (w : World) (h : 0 ≤ n) (h2 : n ≤ 1000000000) :
    Calls Tryd.prog 40 #[.int .i64 n, .int .i64 4] w fun e w' => e = .returned (.string (dgS 4 n)) ∧ Below w.heap.size w w' := by
  have hmk : ∀ w : World, (Instr.makeSlice 29 (.int .i64 4) (.int .i64 4)).run Tryd.prog w = .ok (.slice (some ⟨w.heap.size, 0, none⟩) 4 4) (w.alloc (.cells #[.int .u8 0, .int .u8 0, .int .u8 0, .int .u8 0] 5)) := make8 4 _ (by kernel_rfl) (by omega)
  have hcv := conv_4 n w
  go_enter Tryd.func40, Tryd.ntmps40
  go_wp2_with fail
  refine wp_loop_rounds 5 ?_
  rw [rounds_succ]
  go_wp2_with fail
  rw [rounds_succ]
  go_wp2_with fail
  rw [rounds_succ]
  go_wp2_with fail
  rw [rounds_succ]
  go_wp2_with fail
  rw [rounds_succ]
  go_wp2_with fail
  go_ret
  exact ⟨rfl, (Below.refl _ _).alloc (Nat.le_refl _) _⟩

theorem conv_d (d : Int) (w : World) (h : 0 ≤ d) (h2 : d < 10) : (convert 29 9 (.slice (some ⟨w.heap.size, 0, none⟩) 1 1)).run Tryd.prog (w.alloc (.cells #[.int .u8 (48 + d)] 5)) = .ok (.string (dgS 1 d)) (w.alloc (.cells #[.int .u8 (48 + d)] 5)) := by
  have := conv_1 d w
  rw [show d % 10 = d by omega] at this
  exact this
set_option maxRecDepth 100000 in
set_option maxHeartbeats 2000000 in
theorem l6Dec_d (d : Int) (w : World) (h : 0 ≤ d) (h2 : d < 10) :
    Calls Tryd.prog 46 #[.int .i64 d] w fun e w' => e = .returned (.string (dgS 1 d)) ∧ Below w.heap.size w w' := by
  have hcv := conv_d d w h h2
  go_enter Tryd.func46, Tryd.ntmps46
  go_wp2_with fail
  go_ret
  exact ⟨rfl, (Below.refl _ _).alloc (Nat.le_refl _) _⟩
theorem l1Power_0 (w : World) : Calls Tryd.prog 47 #[.int .i64 0] w fun e w' => e = .returned (.int .i64 1) ∧ w = w' := by
  go_enter Tryd.func47, Tryd.ntmps47
  go_wp2_with fail
  refine wp_loop_rounds 1 ?_
  rw [rounds_succ]
  go_wp2_with fail
  go_ret
  exact ⟨rfl, rfl⟩
theorem l1Power_1 (w : World) : Calls Tryd.prog 47 #[.int .i64 1] w fun e w' => e = .returned (.int .i64 10) ∧ w = w' := by
  go_enter Tryd.func47, Tryd.ntmps47
  go_wp2_with fail
  refine wp_loop_rounds 2 ?_
  rw [rounds_succ]
  go_wp2_with fail
  rw [rounds_succ]
  go_wp2_with fail
  go_ret
  exact ⟨rfl, rfl⟩
theorem l1Power_2 (w : World) : Calls Tryd.prog 47 #[.int .i64 2] w fun e w' => e = .returned (.int .i64 100) ∧ w = w' := by
  go_enter Tryd.func47, Tryd.ntmps47
  go_wp2_with fail
  refine wp_loop_rounds 3 ?_
  rw [rounds_succ]
  go_wp2_with fail
  rw [rounds_succ]
  go_wp2_with fail
  rw [rounds_succ]
  go_wp2_with fail
  go_ret
  exact ⟨rfl, rfl⟩
theorem l1Power_3 (w : World) : Calls Tryd.prog 47 #[.int .i64 3] w fun e w' => e = .returned (.int .i64 1000) ∧ w = w' := by
  go_enter Tryd.func47, Tryd.ntmps47
  go_wp2_with fail
  refine wp_loop_rounds 4 ?_
  rw [rounds_succ]
  go_wp2_with fail
  rw [rounds_succ]
  go_wp2_with fail
  rw [rounds_succ]
  go_wp2_with fail
  rw [rounds_succ]
  go_wp2_with fail
  go_ret
  exact ⟨rfl, rfl⟩

theorem dgS_snoc (k : Nat) (n : Int) : dgS (k + 1) n = dgS k (n / 10) ++ dgS 1 n := by
  apply ByteArray.ext
  simp [dgS, dgL]
theorem dgS_mod (n : Int) : dgS 1 (n % 10) = dgS 1 n := by
  unfold dgS; rw [dgL_one, dgL_one, dgB_mod]
theorem nil_add (s : ByteArray) : (ByteArray.mk #[]) ++ s = s := by
  apply ByteArray.ext; simp
theorem add_nil (s : ByteArray) : s ++ (ByteArray.mk #[]) = s := by
  apply ByteArray.ext; simp
theorem put_2 (n : Int) : dgS 1 (n / 10 % 10) ++ dgS 1 (n % 10) = dgS 2 n := by rw [dgS_mod, dgS_mod, dgS_snoc 1 n]
theorem put_3 (n : Int) : (dgS 1 (n / 100 % 10) ++ dgS 1 (n / 10 % 10)) ++ dgS 1 (n % 10) = dgS 3 n := by
  rw [dgS_snoc 2 n, ← put_2 (n / 10), dgS_mod n, show n / 10 / 10 = n / 100 by omega]
theorem put_4 (n : Int) : ((dgS 1 (n / 1000 % 10) ++ dgS 1 (n / 100 % 10)) ++ dgS 1 (n / 10 % 10)) ++ dgS 1 (n % 10) = dgS 4 n := by
  rw [dgS_snoc 3 n, ← put_3 (n / 10), dgS_mod n, show n / 10 / 10 = n / 100 by omega, show n / 10 / 100 = n / 1000 by omega]
set_option maxHeartbeats 2000000 in
theorem l1Put_1 (n : Int) (w : World) (h : 0 ≤ n) (h2 : n ≤ 1000000000) :
    Calls Tryd.prog 22 #[.int .i64 n, .int .i64 1] w fun e w' => e = .returned (.string (dgS 1 n)) ∧ Below w.heap.size w w' := by
  have sz := dgS_size 1
  go_enter Tryd.func22, Tryd.ntmps22
  go_wp2_with fail
  refine wp_loop_rounds 2 ?_
  rw [rounds_succ]
  go_wp2_with fail
  refine (l1Power_0 _).mono ?_
  rintro e w' ⟨rfl, rfl⟩
  go_wp2_with fail
  refine (l6Dec_d _ _ (by omega) (by omega)).mono ?_
  rintro e w0 ⟨rfl, bw0⟩
  have sw0 := bw0.size
  (try simp at sw0)
  have Aw0 : Below w.heap.size w w0 := Below.trans (by (repeat' (first | (with_reducible assumption) | (with_reducible exact Below.refl _ _) | (with_reducible refine bdN ?_ _) | (with_reducible refine Below.alloc ?_ ?_ _) | (with_reducible refine Below.drew ?_) | (with_reducible refine Below.setCell ?_ ?_ _) | go_size))) (bw0.mono (by go_size))
  clear bw0
  go_wp2_with fail
  rw [rounds_succ]
  go_wp2_with fail
  go_ret
  exact ⟨ret_str (by first | exact dgS_mod n | (simp only [nil_add]; exact dgS_mod n) | (simp only [nil_add, Int.ediv_one]; exact dgS_mod n)), by (repeat' (first | (with_reducible assumption) | (with_reducible exact Below.refl _ _) | (with_reducible refine bdN ?_ _) | (with_reducible refine Below.alloc ?_ ?_ _) | (with_reducible refine Below.drew ?_) | (with_reducible refine Below.setCell ?_ ?_ _) | go_size))⟩
set_option maxHeartbeats 2000000 in
theorem l1Put_2 (n : Int) (w : World) (h : 0 ≤ n) (h2 : n ≤ 1000000000) :
    Calls Tryd.prog 22 #[.int .i64 n, .int .i64 2] w fun e w' => e = .returned (.string (dgS 2 n)) ∧ Below w.heap.size w w' := by
  have sz := dgS_size 1
  go_enter Tryd.func22, Tryd.ntmps22
  go_wp2_with fail
  refine wp_loop_rounds 3 ?_
  rw [rounds_succ]
  go_wp2_with fail
  refine (l1Power_1 _).mono ?_
  rintro e w' ⟨rfl, rfl⟩
  go_wp2_with fail
  refine (l6Dec_d _ _ (by omega) (by omega)).mono ?_
  rintro e w1 ⟨rfl, bw1⟩
  have sw1 := bw1.size
  (try simp at sw1)
  have Aw1 : Below w.heap.size w w1 := Below.trans (by (repeat' (first | (with_reducible assumption) | (with_reducible exact Below.refl _ _) | (with_reducible refine bdN ?_ _) | (with_reducible refine Below.alloc ?_ ?_ _) | (with_reducible refine Below.drew ?_) | (with_reducible refine Below.setCell ?_ ?_ _) | go_size))) (bw1.mono (by go_size))
  clear bw1
  go_wp2_with fail
  rw [rounds_succ]
  go_wp2_with fail
  refine (l1Power_0 _).mono ?_
  rintro e w' ⟨rfl, rfl⟩
  go_wp2_with fail
  refine (l6Dec_d _ _ (by omega) (by omega)).mono ?_
  rintro e w0 ⟨rfl, bw0⟩
  have sw0 := bw0.size
  (try simp at sw0)
  have Aw0 : Below w.heap.size w w0 := Below.trans (by (repeat' (first | (with_reducible assumption) | (with_reducible exact Below.refl _ _) | (with_reducible refine bdN ?_ _) | (with_reducible refine Below.alloc ?_ ?_ _) | (with_reducible refine Below.drew ?_) | (with_reducible refine Below.setCell ?_ ?_ _) | go_size))) (bw0.mono (by go_size))
  clear bw0
  go_wp2_with fail
  rw [rounds_succ]
  go_wp2_with fail
  go_ret
  exact ⟨ret_str (by first | exact put_2 n | (simp only [nil_add]; exact put_2 n) | (simp only [nil_add, Int.ediv_one]; exact put_2 n)), by (repeat' (first | (with_reducible assumption) | (with_reducible exact Below.refl _ _) | (with_reducible refine bdN ?_ _) | (with_reducible refine Below.alloc ?_ ?_ _) | (with_reducible refine Below.drew ?_) | (with_reducible refine Below.setCell ?_ ?_ _) | go_size))⟩
set_option maxHeartbeats 2000000 in
theorem l1Put_3 (n : Int) (w : World) (h : 0 ≤ n) (h2 : n ≤ 1000000000) :
    Calls Tryd.prog 22 #[.int .i64 n, .int .i64 3] w fun e w' => e = .returned (.string (dgS 3 n)) ∧ Below w.heap.size w w' := by
  have sz := dgS_size 1
  go_enter Tryd.func22, Tryd.ntmps22
  go_wp2_with fail
  refine wp_loop_rounds 4 ?_
  rw [rounds_succ]
  go_wp2_with fail
  refine (l1Power_2 _).mono ?_
  rintro e w' ⟨rfl, rfl⟩
  go_wp2_with fail
  refine (l6Dec_d _ _ (by omega) (by omega)).mono ?_
  rintro e w2 ⟨rfl, bw2⟩
  have sw2 := bw2.size
  (try simp at sw2)
  have Aw2 : Below w.heap.size w w2 := Below.trans (by (repeat' (first | (with_reducible assumption) | (with_reducible exact Below.refl _ _) | (with_reducible refine bdN ?_ _) | (with_reducible refine Below.alloc ?_ ?_ _) | (with_reducible refine Below.drew ?_) | (with_reducible refine Below.setCell ?_ ?_ _) | go_size))) (bw2.mono (by go_size))
  clear bw2
  go_wp2_with fail
  rw [rounds_succ]
  go_wp2_with fail
  refine (l1Power_1 _).mono ?_
  rintro e w' ⟨rfl, rfl⟩
  go_wp2_with fail
  refine (l6Dec_d _ _ (by omega) (by omega)).mono ?_
  rintro e w1 ⟨rfl, bw1⟩
  have sw1 := bw1.size
  (try simp at sw1)
  have Aw1 : Below w.heap.size w w1 := Below.trans (by (repeat' (first | (with_reducible assumption) | (with_reducible exact Below.refl _ _) | (with_reducible refine bdN ?_ _) | (with_reducible refine Below.alloc ?_ ?_ _) | (with_reducible refine Below.drew ?_) | (with_reducible refine Below.setCell ?_ ?_ _) | go_size))) (bw1.mono (by go_size))
  clear bw1
  go_wp2_with fail
  rw [rounds_succ]
  go_wp2_with fail
  refine (l1Power_0 _).mono ?_
  rintro e w' ⟨rfl, rfl⟩
  go_wp2_with fail
  refine (l6Dec_d _ _ (by omega) (by omega)).mono ?_
  rintro e w0 ⟨rfl, bw0⟩
  have sw0 := bw0.size
  (try simp at sw0)
  have Aw0 : Below w.heap.size w w0 := Below.trans (by (repeat' (first | (with_reducible assumption) | (with_reducible exact Below.refl _ _) | (with_reducible refine bdN ?_ _) | (with_reducible refine Below.alloc ?_ ?_ _) | (with_reducible refine Below.drew ?_) | (with_reducible refine Below.setCell ?_ ?_ _) | go_size))) (bw0.mono (by go_size))
  clear bw0
  go_wp2_with fail
  rw [rounds_succ]
  go_wp2_with fail
  go_ret
  exact ⟨ret_str (by first | exact put_3 n | (simp only [nil_add]; exact put_3 n) | (simp only [nil_add, Int.ediv_one]; exact put_3 n)), by (repeat' (first | (with_reducible assumption) | (with_reducible exact Below.refl _ _) | (with_reducible refine bdN ?_ _) | (with_reducible refine Below.alloc ?_ ?_ _) | (with_reducible refine Below.drew ?_) | (with_reducible refine Below.setCell ?_ ?_ _) | go_size))⟩
set_option maxHeartbeats 2000000 in
theorem l1Put_4 (n : Int) (w : World) (h : 0 ≤ n) (h2 : n ≤ 1000000000) :
    Calls Tryd.prog 22 #[.int .i64 n, .int .i64 4] w fun e w' => e = .returned (.string (dgS 4 n)) ∧ Below w.heap.size w w' := by
  have sz := dgS_size 1
  go_enter Tryd.func22, Tryd.ntmps22
  go_wp2_with fail
  refine wp_loop_rounds 5 ?_
  rw [rounds_succ]
  go_wp2_with fail
  refine (l1Power_3 _).mono ?_
  rintro e w' ⟨rfl, rfl⟩
  go_wp2_with fail
  refine (l6Dec_d _ _ (by omega) (by omega)).mono ?_
  rintro e w3 ⟨rfl, bw3⟩
  have sw3 := bw3.size
  (try simp at sw3)
  have Aw3 : Below w.heap.size w w3 := Below.trans (by (repeat' (first | (with_reducible assumption) | (with_reducible exact Below.refl _ _) | (with_reducible refine bdN ?_ _) | (with_reducible refine Below.alloc ?_ ?_ _) | (with_reducible refine Below.drew ?_) | (with_reducible refine Below.setCell ?_ ?_ _) | go_size))) (bw3.mono (by go_size))
  clear bw3
  go_wp2_with fail
  rw [rounds_succ]
  go_wp2_with fail
  refine (l1Power_2 _).mono ?_
  rintro e w' ⟨rfl, rfl⟩
  go_wp2_with fail
  refine (l6Dec_d _ _ (by omega) (by omega)).mono ?_
  rintro e w2 ⟨rfl, bw2⟩
  have sw2 := bw2.size
  (try simp at sw2)
  have Aw2 : Below w.heap.size w w2 := Below.trans (by (repeat' (first | (with_reducible assumption) | (with_reducible exact Below.refl _ _) | (with_reducible refine bdN ?_ _) | (with_reducible refine Below.alloc ?_ ?_ _) | (with_reducible refine Below.drew ?_) | (with_reducible refine Below.setCell ?_ ?_ _) | go_size))) (bw2.mono (by go_size))
  clear bw2
  go_wp2_with fail
  rw [rounds_succ]
  go_wp2_with fail
  refine (l1Power_1 _).mono ?_
  rintro e w' ⟨rfl, rfl⟩
  go_wp2_with fail
  refine (l6Dec_d _ _ (by omega) (by omega)).mono ?_
  rintro e w1 ⟨rfl, bw1⟩
  have sw1 := bw1.size
  (try simp at sw1)
  have Aw1 : Below w.heap.size w w1 := Below.trans (by (repeat' (first | (with_reducible assumption) | (with_reducible exact Below.refl _ _) | (with_reducible refine bdN ?_ _) | (with_reducible refine Below.alloc ?_ ?_ _) | (with_reducible refine Below.drew ?_) | (with_reducible refine Below.setCell ?_ ?_ _) | go_size))) (bw1.mono (by go_size))
  clear bw1
  go_wp2_with fail
  rw [rounds_succ]
  go_wp2_with fail
  refine (l1Power_0 _).mono ?_
  rintro e w' ⟨rfl, rfl⟩
  go_wp2_with fail
  refine (l6Dec_d _ _ (by omega) (by omega)).mono ?_
  rintro e w0 ⟨rfl, bw0⟩
  have sw0 := bw0.size
  (try simp at sw0)
  have Aw0 : Below w.heap.size w w0 := Below.trans (by (repeat' (first | (with_reducible assumption) | (with_reducible exact Below.refl _ _) | (with_reducible refine bdN ?_ _) | (with_reducible refine Below.alloc ?_ ?_ _) | (with_reducible refine Below.drew ?_) | (with_reducible refine Below.setCell ?_ ?_ _) | go_size))) (bw0.mono (by go_size))
  clear bw0
  go_wp2_with fail
  rw [rounds_succ]
  go_wp2_with fail
  go_ret
  exact ⟨ret_str (by first | exact put_4 n | (simp only [nil_add]; exact put_4 n) | (simp only [nil_add, Int.ediv_one]; exact put_4 n)), by (repeat' (first | (with_reducible assumption) | (with_reducible exact Below.refl _ _) | (with_reducible refine bdN ?_ _) | (with_reducible refine Below.alloc ?_ ?_ _) | (with_reducible refine Below.drew ?_) | (with_reducible refine Below.setCell ?_ ?_ _) | go_size))⟩
end Go.Proofs.YtfailbghnpfcdaaDoor
