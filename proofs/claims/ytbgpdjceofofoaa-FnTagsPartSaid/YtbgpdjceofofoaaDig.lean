/- Contracts of the functions on digits, by the program and by the reference: how many digits follow, the number that they are, a number with so many digits. Conditions: the texts are not longer than 2^40 bytes; numbers that are put are not negative. -/
import Derived.Test.YtbgpdjceofofoaaKeep
import Derived.Test.YtbgpdjceofofoaaTxt
import Derived.Test.YtbgpdjceofofoaaRd
import Derived.LoopTactic
import Derived.Laws.IdiomStrings
import Derived.Laws.BytesString
import Derived.Deep.QuietTactic
import Derived.BigQuiet
import Derived.Deep.RegionHeld3
namespace Go.Proofs.Ytbgpdjceofofoaa
set_option linter.unusedSimpArgs false
set_option linter.unusedVariables false
open Go.RowKit DN

theorem ret_str {a b : ByteArray} (h : a = b) : Ending.returned (.string a) = .returned (.string b) := by rw [h]
/-- whether a byte is a digit -/
def dgI (b : Int) : Bool := decide (48 ≤ b) && decide (b ≤ 57)
theorem dgI_isDg (b : UInt8) : dgI b.toNat = isDg b := rfl
theorem dgI_t {b : Int} (h : dgI b = true) : 48 ≤ b ∧ b ≤ 57 := by unfold dgI at h; simpa using h
theorem dgI_f {b : Int} (h : dgI b = false) : ¬ (48 ≤ b ∧ b ≤ 57) := by unfold dgI at h; simp at h; omega

set_option maxHeartbeats 400000 in
theorem isDigit_any (b : Int) (w : World) : Calls Try.prog 71 #[.int .u8 b] w fun e w' => e = .returned (.bool (dgI b)) ∧ w = w' := by
  by_cases h1 : 48 ≤ b <;> by_cases h2 : b ≤ 57
  all_goals
    go_enter Try.func71, Try.ntmps71
    go_wp2
    go_ret
    exact ⟨ret_bool (by simp [dgI, *]), rfl⟩
theorem isDigit_v (b : UInt8) (v : Bool) (h : isDg b = v) (w : World) : Calls Try.prog 71 #[.int .u8 (b.toNat : Int)] w fun e w' => e = .returned (.bool v) ∧ w = w' := by
  rw [← h]; exact isDigit_any b.toNat w

/-- the reader in block r: its text, its place -/
def Rdr (w : World) (r : Nat) (s : ByteArray) (p : Nat) : Prop := w.cell? ⟨r, 0, none⟩ = some (.string s) ∧ w.cell? ⟨r, 1, none⟩ = some (.int .i64 p) ∧ w.frozen? ⟨r, 1, none⟩ = false ∧ r < w.heap.size

theorem getD_at (s : ByteArray) (k : Nat) (h : k < s.size) : s[k] = s.data.toList[k]'(by simpa using h) := rfl

set_option maxHeartbeats 1000000 in
theorem run_any (r : Nat) (s : ByteArray) (p : Nat) (w : World) (h0 : w.cell? ⟨r, 0, none⟩ = some (.string s)) (h1 : w.cell? ⟨r, 1, none⟩ = some (.int .i64 p)) (hs : s.size ≤ 1099511627776) (hp : p ≤ 1099511627776) :
    Calls Try.prog 81 #[.pointer (some ⟨r, 0, none⟩)] w fun e w' => e = .returned (.int .i64 (runL s.data.toList p)) ∧ w = w' := by
  have hl : s.data.toList.length = s.size := by simp
  have B1 : p ≤ s.size → p + runL s.data.toList p ≤ s.size := fun h => by have := runL_le (l := s.data.toList) (p := p) (by omega); omega
  have B2 : s.size ≤ p → runL s.data.toList p = 0 := fun h => runL_big (by omega)
  have L1 := Lib.hid (fun j => runL_lt (l := s.data.toList) (p := p) (j := j))
  have L2 := Lib.hid (runL_end (l := s.data.toList) (p := p))
  have HB1 := Lib.hid B1
  have HB2 := Lib.hid B2
  have HL := Lib.hid hl
  clear B1 B2 hl
  generalize hR : runL s.data.toList p = R at *
  have HR := Lib.hid hR
  clear hR
  have hR2 : R ≤ 1099511627776 := by
    rcases Nat.le_total p s.size with h | h
    · have := HB1.out h; omega
    · have := HB2.out h; omega
  go_enter Try.func81, Try.ntmps81
  go_wp2_with fail
  go_loop [3, 4] (fun m k => ∃ j : Nat, j ≤ R ∧ m = .int .i64 j ∧ k = .int .i64 (p + j)) (fun m _ => R - (intOf m).toNat)
  case atStart => exact ⟨0, by omega, rfl, by simp⟩
  case round =>
    obtain ⟨j, hj, rfl, rfl⟩ := hrel
    by_cases hlt : p + j < s.size
    · by_cases hjr : j < R
      · have hd : isDg s[p + j] = true := (L1.out j hjr).2
        have D := Lib.hid (isDigit_v s[p + j] true hd)
        clear hd
        go_wp2_with (go_at_call 71; refine (D.out _).mono ?_; rintro e w' ⟨rfl, rfl⟩)
        go_round
        case rel => exact ⟨j + 1, by omega, by go_num, by go_num⟩
        case measure => simp [intOf]; omega
      · obtain rfl : j = R := by omega
        have hd : isDg s[p + j] = false := by
          have := HR.out; subst this
          exact L2.out (by have := HL.out; omega)
        have D := Lib.hid (isDigit_v s[p + j] false hd)
        clear hd
        go_wp2_with (go_at_call 71; refine (D.out _).mono ?_; rintro e w' ⟨rfl, rfl⟩)
        go_ret
        exact ⟨rfl, rfl⟩
    · have hj0 : j = R := by
        rcases Nat.lt_or_ge j R with h | h
        · obtain ⟨h1, _⟩ := L1.out j h; have := HL.out; omega
        · omega
      subst hj0
      go_wp2_with fail
      go_ret
      exact ⟨rfl, rfl⟩

theorem number_no (r : Nat) (s : ByteArray) (p k : Nat) (w : World) (h0 : w.cell? ⟨r, 0, none⟩ = some (.string s)) (h1 : w.cell? ⟨r, 1, none⟩ = some (.int .i64 p)) (hs : s.size ≤ 1099511627776) (hp : p ≤ 1099511627776) (hk : runL s.data.toList p < k) :
    Calls Try.prog 74 #[.pointer (some ⟨r, 0, none⟩), .int .i64 k] w fun e w' => e = .returned (.tuple #[.int .i64 0, .bool false]) ∧ w = w' := by
  have C := Lib.hid (run_any r s p w h0 h1 hs hp)
  generalize runL s.data.toList p = R at *
  go_enter Try.func74, Try.ntmps74
  go_wp2_with (go_at_call 81; refine C.out.mono ?_; rintro e w' ⟨rfl, rfl⟩)
  go_ret2
  exact ⟨rfl, rfl⟩

theorem ix_str {P : Program} {t : TypeId} (hu : P.underlying t = some .string) (s : ByteArray) (n : Nat) (z : Int) (hz : z = n) (h : n < s.size) (wx : World) : (Instr.index t (.string s) (.int .i64 z)).run P wx = .ok (.int .u8 (s[n].toNat : Int)) wx := by
  subst hz
  rw [run_index_string _ _ _ _ _ hu, dif_pos ⟨by omega, by omega⟩]
  rfl
/-- what reading a number leaves -/
def ReadOk (w : World) (r : Nat) (s : ByteArray) (q : Nat) (n : Int) (e : Ending) (w' : World) : Prop := e = .returned (.tuple #[.int .i64 n, .bool true]) ∧ Rdr w' r s q ∧ Onl r w w'

theorem u8_sub (b : UInt8) (h : isDg b = true) : IntKind.u8.wrap ((b.toNat : Int) - 48) = (b.toNat : Int) - 48 := by
  obtain ⟨h1, h2⟩ := isDg_bd h
  exact IntWalk.u8_in _ ⟨by omega, by omega⟩
set_option maxHeartbeats 2000000 in
theorem number_yes (r : Nat) (s : ByteArray) (p k : Nat) (w : World) (h : Rdr w r s p) (hs : s.size ≤ 1099511627776) (hp : p ≤ s.size) (hk : k ≤ runL s.data.toList p) (hk2 : k ≤ 6) :
    Calls Try.prog 74 #[.pointer (some ⟨r, 0, none⟩), .int .i64 k] w (ReadOk w r s (p + k) (numAt s.data.toList p k)) := by
  obtain ⟨h0, h1, hf, hr⟩ := h
  have C := Lib.hid (run_any r s p w h0 h1 hs (by omega))
  have hl : s.data.toList.length = s.size := by simp
  have hR : p + runL s.data.toList p ≤ s.size := by have := runL_le (l := s.data.toList) (p := p) (by omega); omega
  have L1 := Lib.hid (fun j => runL_lt (l := s.data.toList) (p := p) (j := j))
  have NS := Lib.hid (fun j => numAt_succ (l := s.data.toList) (p := p) (k := j))
  have NB := Lib.hid (fun j => numAt_bd (l := s.data.toList) (p := p) (k := j))
  have NZ := Lib.hid (numAt_zero s.data.toList p)
  have HL := Lib.hid hl
  clear hl
  generalize runL s.data.toList p = R at *
  go_enter Try.func74, Try.ntmps74
  go_wp2_with (go_at_call 81; refine C.out.mono ?_; rintro e w' ⟨rfl, rfl⟩)
  clear C
  have H0 := Lib.hid h0
  have H1 := Lib.hid h1
  have HF := Lib.hid hf
  clear h0 h1 hf
  go_loopw [6, 12] (fun n i wr => ∃ j : Nat, j ≤ k ∧ n = .int .i64 (numAt s.data.toList p j) ∧ i = .int .i64 j ∧ Rdr wr r s (p + j) ∧ Onl r w wr) (fun _ i _ => k - (intOf i).toNat)
  case atStart => exact ⟨0, by omega, by rw [NZ.out], rfl, ⟨H0.out, H1.out, HF.out, hr⟩, onl_refl _ _⟩
  case round =>
    obtain ⟨j, hj, rfl, rfl, ⟨c0, c1, cf, cr⟩, g⟩ := hrel
    by_cases hlt : j < k
    · have hb : p + j < s.size := by omega
      have hd : isDg s[p + j] = true := (L1.out j (by omega)).2
      have nb := NB.out j (by omega)
      have e1 := u8_sub s[p + j] hd
      have e2 := isDg_bd hd
      have pw : (10 : Int) ^ j ≤ 100000 := by
        have : j = 0 ∨ j = 1 ∨ j = 2 ∨ j = 3 ∨ j = 4 ∨ j = 5 := by omega
        rcases this with rfl | rfl | rfl | rfl | rfl | rfl <;> decide
      have n1 := nb.1
      have n2 : numAt s.data.toList p j ≤ 100000 := by omega
      have ns : numAt s.data.toList p (j + 1) = 10 * numAt s.data.toList p j + ((s[p + j].toNat : Int) - 48) := NS.out j (by have := HL.out; omega)
      have HS := Lib.hid ns
      obtain ⟨d1, d2⟩ := e2
      clear hd nb pw ns
      generalize hn' : numAt s.data.toList p (j + 1) = n' at *
      have HN := Lib.hid hn'
      clear hn'
      generalize numAt s.data.toList p j = n at *
      go_wp2_with fail
      have ix := fun wx => ix_str Try.underlying9 s (p + j) (↑p + ↑j) (by omega) hb wx
      have a1 : IntKind.i64.wrap (10 * n) = 10 * n := IntWalk.i64_in _ ⟨by omega, by omega⟩
      have a2 : IntKind.i64.wrap (10 * n + ((s[p + j].toNat : Int) - 48)) = 10 * n + ((s[p + j].toNat : Int) - 48) := IntWalk.i64_in _ ⟨by omega, by omega⟩
      have a3 : IntKind.i64.wrap ((s[p + j].toNat : Int) - 48) = (s[p + j].toNat : Int) - 48 := IntWalk.i64_in _ ⟨by omega, by omega⟩
      go_quiet (fail)
      clear a1 a2 a3 ix
      go_wp2_with fail
      go_roundw
      case rel => exact ⟨j + 1, by omega, by rw [HN.out, HS.out], by go_num, ⟨by go_simp, by go_simp; omega, by go_simp, by go_size⟩, onl_drewN (onl_set g (.inl rfl) _) _⟩
      case measure => simp [intOf]; omega
    · obtain rfl : j = k := by omega
      go_wp2_with fail
      go_ret2
      exact ⟨rfl, ⟨c0, c1, cf, cr⟩, g⟩

theorem bytes_back (w : World) (src dst e : TypeId) {P : Program} (a : Addr) (cap : Nat) (l : List UInt8) (len : Nat) (hs : P.underlying src = some (.slice e)) (he : P.underlying e = some (.int .u8)) (hd : P.underlying dst = some .string) (hl : l.length = len)
    (hc : ∀ j (hj : j < l.length), w.cell? (a.add j) = some (.int .u8 (l[j].toNat : Int))) :
    (convert src dst (.slice (some a) len cap)).run P w = .ok (.string ⟨l.toArray⟩) w := by
  subst hl; exact run_convert_bytes_back w src dst e a cap l hs he hd hc
theorem info8 : (Try.prog.info? 5).map (fun i => (i.zero, i.size, i.bytes)) = some (some (.int .u8 0), 1, 1) := by kernel_rfl
theorem make8 (k : Nat) (cs : Array Value) (hcs : madeCells #[.int .u8 0] k = cs) (h : k ≤ 1000) (w : World) : (Instr.makeSlice 29 (.int .i64 k) (.int .i64 k)).run Try.prog w = .ok (.slice (some ⟨w.heap.size, 0, none⟩) k k) (w.alloc (.cells cs 5)) := by
  obtain ⟨i0, hi, hz0, hz1, hz2⟩ := info_parts info8
  have hmk := run_make (P := Try.prog) w 29 5 i0 (.int .u8 0) Try.underlying29 hi hz0 .i64 .i64 k k (by omega) (by omega) (by rw [hz2]; omega) (by omega)
  rw [hmk, hz1, ← hcs]
  simp [Value.cells]
theorem cell_new (w : World) (C : Array Value) (t : TypeId) (j : Nat) : (w.alloc (.cells C t)).cell? ⟨w.heap.size, j, none⟩ = C[j]? := by
  rw [World.cell?_alloc_at _ _ _ _ (by simp)]
theorem add_at (b j : Nat) : (⟨b, 0, none⟩ : Addr).add j = ⟨b, j, none⟩ := by
  cases j with
  | zero => simp [Addr.add]
  | succ j => simp [Addr.add]
theorem conv_1 (n : Int) (w : World) : (convert 29 9 (.slice (some ⟨w.heap.size, 0, none⟩) 1 1)).run Try.prog (w.alloc (.cells #[.int .u8 (48 + n % 10)] 5)) = .ok (.string (dgS 1 n)) (w.alloc (.cells #[.int .u8 (48 + n % 10)] 5)) := by
  refine bytes_back _ _ _ _ _ _ [dgB (n)] _ Try.underlying29 Try.underlying5 Try.underlying9 rfl (fun j hj => ?_)
  rw [add_at, cell_new]
  simp only [List.length_cons, List.length_nil] at hj
  have hj' : j = 0 := by omega
  subst hj' <;> simp [dgB_num]
set_option maxHeartbeats 2000000 in
theorem digits_1 (n : Int) (w : World) (h : 0 ≤ n) (h2 : n ≤ 1000000000) :
    Calls Try.prog 65 #[.int .i64 n, .int .i64 1] w fun e w' => e = .returned (.string (dgS 1 n)) ∧ Below w.heap.size w w' := by
  have hmk : ∀ w : World, (Instr.makeSlice 29 (.int .i64 1) (.int .i64 1)).run Try.prog w = .ok (.slice (some ⟨w.heap.size, 0, none⟩) 1 1) (w.alloc (.cells #[.int .u8 0] 5)) := make8 1 _ (by kernel_rfl) (by omega)
  have hcv := conv_1 n w
  go_enter Try.func65, Try.ntmps65
  go_wp2_with fail
  refine wp_loop_rounds 2 ?_
  rw [rounds_succ]
  go_wp2_with fail
  rw [rounds_succ]
  go_wp2_with fail
  go_ret
  exact ⟨rfl, (Below.refl _ _).alloc (Nat.le_refl _) _⟩
theorem conv_2 (n : Int) (w : World) : (convert 29 9 (.slice (some ⟨w.heap.size, 0, none⟩) 2 2)).run Try.prog (w.alloc (.cells #[.int .u8 (48 + n / 10 % 10), .int .u8 (48 + n % 10)] 5)) = .ok (.string (dgS 2 n)) (w.alloc (.cells #[.int .u8 (48 + n / 10 % 10), .int .u8 (48 + n % 10)] 5)) := by
  refine bytes_back _ _ _ _ _ _ [dgB (n / 10), dgB (n)] _ Try.underlying29 Try.underlying5 Try.underlying9 rfl (fun j hj => ?_)
  rw [add_at, cell_new]
  simp only [List.length_cons, List.length_nil] at hj
  have hj' : j = 0 ∨ j = 1 := by omega
  rcases hj' with rfl | rfl <;> simp [dgB_num]
set_option maxHeartbeats 2000000 in
theorem digits_2 (n : Int) (w : World) (h : 0 ≤ n) (h2 : n ≤ 1000000000) :
    Calls Try.prog 65 #[.int .i64 n, .int .i64 2] w fun e w' => e = .returned (.string (dgS 2 n)) ∧ Below w.heap.size w w' := by
  have hmk : ∀ w : World, (Instr.makeSlice 29 (.int .i64 2) (.int .i64 2)).run Try.prog w = .ok (.slice (some ⟨w.heap.size, 0, none⟩) 2 2) (w.alloc (.cells #[.int .u8 0, .int .u8 0] 5)) := make8 2 _ (by kernel_rfl) (by omega)
  have hcv := conv_2 n w
  go_enter Try.func65, Try.ntmps65
  go_wp2_with fail
  refine wp_loop_rounds 3 ?_
  rw [rounds_succ]
  go_wp2_with fail
  rw [rounds_succ]
  go_wp2_with fail
  rw [rounds_succ]
  go_wp2_with fail
  go_ret
  exact ⟨rfl, (Below.refl _ _).alloc (Nat.le_refl _) _⟩
theorem conv_3 (n : Int) (w : World) : (convert 29 9 (.slice (some ⟨w.heap.size, 0, none⟩) 3 3)).run Try.prog (w.alloc (.cells #[.int .u8 (48 + n / 10 / 10 % 10), .int .u8 (48 + n / 10 % 10), .int .u8 (48 + n % 10)] 5)) = .ok (.string (dgS 3 n)) (w.alloc (.cells #[.int .u8 (48 + n / 10 / 10 % 10), .int .u8 (48 + n / 10 % 10), .int .u8 (48 + n % 10)] 5)) := by
  refine bytes_back _ _ _ _ _ _ [dgB (n / 10 / 10), dgB (n / 10), dgB (n)] _ Try.underlying29 Try.underlying5 Try.underlying9 rfl (fun j hj => ?_)
  rw [add_at, cell_new]
  simp only [List.length_cons, List.length_nil] at hj
  have hj' : j = 0 ∨ j = 1 ∨ j = 2 := by omega
  rcases hj' with rfl | rfl | rfl <;> simp [dgB_num]
set_option maxHeartbeats 2000000 in
theorem digits_3 (n : Int) (w : World) (h : 0 ≤ n) (h2 : n ≤ 1000000000) :
    Calls Try.prog 65 #[.int .i64 n, .int .i64 3] w fun e w' => e = .returned (.string (dgS 3 n)) ∧ Below w.heap.size w w' := by
  have hmk : ∀ w : World, (Instr.makeSlice 29 (.int .i64 3) (.int .i64 3)).run Try.prog w = .ok (.slice (some ⟨w.heap.size, 0, none⟩) 3 3) (w.alloc (.cells #[.int .u8 0, .int .u8 0, .int .u8 0] 5)) := make8 3 _ (by kernel_rfl) (by omega)
  have hcv := conv_3 n w
  go_enter Try.func65, Try.ntmps65
  go_wp2_with fail
  refine wp_loop_rounds 4 ?_
  rw [rounds_succ]
  go_wp2_with fail
  rw [rounds_succ]
  go_wp2_with fail
  rw [rounds_succ]
  go_wp2_with fail
  rw [rounds_succ]
  go_wp2_with fail
  go_ret
  exact ⟨rfl, (Below.refl _ _).alloc (Nat.le_refl _) _⟩
theorem conv_4 (n : Int) (w : World) : (convert 29 9 (.slice (some ⟨w.heap.size, 0, none⟩) 4 4)).run Try.prog (w.alloc (.cells #[.int .u8 (48 + n / 10 / 10 / 10 % 10), .int .u8 (48 + n / 10 / 10 % 10), .int .u8 (48 + n / 10 % 10), .int .u8 (48 + n % 10)] 5)) = .ok (.string (dgS 4 n)) (w.alloc (.cells #[.int .u8 (48 + n / 10 / 10 / 10 % 10), .int .u8 (48 + n / 10 / 10 % 10), .int .u8 (48 + n / 10 % 10), .int .u8 (48 + n % 10)] 5)) := by
  refine bytes_back _ _ _ _ _ _ [dgB (n / 10 / 10 / 10), dgB (n / 10 / 10), dgB (n / 10), dgB (n)] _ Try.underlying29 Try.underlying5 Try.underlying9 rfl (fun j hj => ?_)
  rw [add_at, cell_new]
  simp only [List.length_cons, List.length_nil] at hj
  have hj' : j = 0 ∨ j = 1 ∨ j = 2 ∨ j = 3 := by omega
  rcases hj' with rfl | rfl | rfl | rfl <;> simp [dgB_num]
set_option maxHeartbeats 2000000 in
theorem digits_4 (n : Int) (w : World) (h : 0 ≤ n) (h2 : n ≤ 1000000000) :
    Calls Try.prog 65 #[.int .i64 n, .int .i64 4] w fun e w' => e = .returned (.string (dgS 4 n)) ∧ Below w.heap.size w w' := by
  have hmk : ∀ w : World, (Instr.makeSlice 29 (.int .i64 4) (.int .i64 4)).run Try.prog w = .ok (.slice (some ⟨w.heap.size, 0, none⟩) 4 4) (w.alloc (.cells #[.int .u8 0, .int .u8 0, .int .u8 0, .int .u8 0] 5)) := make8 4 _ (by kernel_rfl) (by omega)
  have hcv := conv_4 n w
  go_enter Try.func65, Try.ntmps65
  go_wp2_with fail
  refine wp_loop_rounds 5 ?_
  rw [rounds_succ]
  go_wp2_with fail
  rw [rounds_succ]
  go_wp2_with fail
  rw [rounds_succ]
  go_wp2_with fail
  rw [rounds_succ]
  go_wp2_with fail
  rw [rounds_succ]
  go_wp2_with fail
  go_ret
  exact ⟨rfl, (Below.refl _ _).alloc (Nat.le_refl _) _⟩

theorem conv_d (d : Int) (w : World) (h : 0 ≤ d) (h2 : d < 10) : (convert 29 9 (.slice (some ⟨w.heap.size, 0, none⟩) 1 1)).run Try.prog (w.alloc (.cells #[.int .u8 (48 + d)] 5)) = .ok (.string (dgS 1 d)) (w.alloc (.cells #[.int .u8 (48 + d)] 5)) := by
  have := conv_1 d w
  rw [show d % 10 = d by omega] at this
  exact this
set_option maxRecDepth 100000 in
set_option maxHeartbeats 2000000 in
theorem l6Dec_d (d : Int) (w : World) (h : 0 ≤ d) (h2 : d < 10) :
    Calls Try.prog 79 #[.int .i64 d] w fun e w' => e = .returned (.string (dgS 1 d)) ∧ Below w.heap.size w w' := by
  have hcv := conv_d d w h h2
  go_enter Try.func79, Try.ntmps79
  go_wp2_with fail
  go_ret
  exact ⟨rfl, (Below.refl _ _).alloc (Nat.le_refl _) _⟩
theorem l1Power_0 (w : World) : Calls Try.prog 80 #[.int .i64 0] w fun e w' => e = .returned (.int .i64 1) ∧ w = w' := by
  go_enter Try.func80, Try.ntmps80
  go_wp2_with fail
  refine wp_loop_rounds 1 ?_
  rw [rounds_succ]
  go_wp2_with fail
  go_ret
  exact ⟨rfl, rfl⟩
theorem l1Power_1 (w : World) : Calls Try.prog 80 #[.int .i64 1] w fun e w' => e = .returned (.int .i64 10) ∧ w = w' := by
  go_enter Try.func80, Try.ntmps80
  go_wp2_with fail
  refine wp_loop_rounds 2 ?_
  rw [rounds_succ]
  go_wp2_with fail
  rw [rounds_succ]
  go_wp2_with fail
  go_ret
  exact ⟨rfl, rfl⟩
theorem l1Power_2 (w : World) : Calls Try.prog 80 #[.int .i64 2] w fun e w' => e = .returned (.int .i64 100) ∧ w = w' := by
  go_enter Try.func80, Try.ntmps80
  go_wp2_with fail
  refine wp_loop_rounds 3 ?_
  rw [rounds_succ]
  go_wp2_with fail
  rw [rounds_succ]
  go_wp2_with fail
  rw [rounds_succ]
  go_wp2_with fail
  go_ret
  exact ⟨rfl, rfl⟩
theorem l1Power_3 (w : World) : Calls Try.prog 80 #[.int .i64 3] w fun e w' => e = .returned (.int .i64 1000) ∧ w = w' := by
  go_enter Try.func80, Try.ntmps80
  go_wp2_with fail
  refine wp_loop_rounds 4 ?_
  rw [rounds_succ]
  go_wp2_with fail
  rw [rounds_succ]
  go_wp2_with fail
  rw [rounds_succ]
  go_wp2_with fail
  rw [rounds_succ]
  go_wp2_with fail
  go_ret
  exact ⟨rfl, rfl⟩

theorem dgS_snoc (k : Nat) (n : Int) : dgS (k + 1) n = dgS k (n / 10) ++ dgS 1 n := by
  apply ByteArray.ext
  simp [dgS, dgL]
theorem dgS_mod (n : Int) : dgS 1 (n % 10) = dgS 1 n := by
  unfold dgS; rw [dgL_one, dgL_one, dgB_mod]
theorem nil_add (s : ByteArray) : (ByteArray.mk #[]) ++ s = s := by
  apply ByteArray.ext; simp
theorem add_nil (s : ByteArray) : s ++ (ByteArray.mk #[]) = s := by
  apply ByteArray.ext; simp
theorem put_2 (n : Int) : dgS 1 (n / 10 % 10) ++ dgS 1 (n % 10) = dgS 2 n := by rw [dgS_mod, dgS_mod, dgS_snoc 1 n]
theorem put_3 (n : Int) : (dgS 1 (n / 100 % 10) ++ dgS 1 (n / 10 % 10)) ++ dgS 1 (n % 10) = dgS 3 n := by
  rw [dgS_snoc 2 n, ← put_2 (n / 10), dgS_mod n, show n / 10 / 10 = n / 100 by omega]
theorem put_4 (n : Int) : ((dgS 1 (n / 1000 % 10) ++ dgS 1 (n / 100 % 10)) ++ dgS 1 (n / 10 % 10)) ++ dgS 1 (n % 10) = dgS 4 n := by
  rw [dgS_snoc 3 n, ← put_3 (n / 10), dgS_mod n, show n / 10 / 10 = n / 100 by omega, show n / 10 / 100 = n / 1000 by omega]
set_option maxHeartbeats 2000000 in
theorem l1Put_1 (n : Int) (w : World) (h : 0 ≤ n) (h2 : n ≤ 1000000000) :
    Calls Try.prog 73 #[.int .i64 n, .int .i64 1] w fun e w' => e = .returned (.string (dgS 1 n)) ∧ Below w.heap.size w w' := by
  have sz := dgS_size 1
  go_enter Try.func73, Try.ntmps73
  go_wp2_with fail
  refine wp_loop_rounds 2 ?_
  rw [rounds_succ]
  go_wp2_with fail
  refine (l1Power_0 _).mono ?_
  rintro e w' ⟨rfl, rfl⟩
  go_wp2_with fail
  refine (l6Dec_d _ _ (by omega) (by omega)).mono ?_
  rintro e w0 ⟨rfl, bw0⟩
  have sw0 := bw0.size
  (try simp at sw0)
  have Aw0 : Below w.heap.size w w0 := Below.trans (by (repeat' (first | (with_reducible assumption) | (with_reducible exact Below.refl _ _) | (with_reducible refine bdN ?_ _) | (with_reducible refine Below.alloc ?_ ?_ _) | (with_reducible refine Below.drew ?_) | (with_reducible refine Below.setCell ?_ ?_ _) | go_size))) (bw0.mono (by go_size))
  clear bw0
  go_wp2_with fail
  rw [rounds_succ]
  go_wp2_with fail
  go_ret
  exact ⟨ret_str (by first | exact dgS_mod n | (simp only [nil_add]; exact dgS_mod n) | (simp only [nil_add, Int.ediv_one]; exact dgS_mod n)), by (repeat' (first | (with_reducible assumption) | (with_reducible exact Below.refl _ _) | (with_reducible refine bdN ?_ _) | (with_reducible refine Below.alloc ?_ ?_ _) | (with_reducible refine Below.drew ?_) | (with_reducible refine Below.setCell ?_ ?_ _) | go_size))⟩
set_option maxHeartbeats 2000000 in
theorem l1Put_2 (n : Int) (w : World) (h : 0 ≤ n) (h2 : n ≤ 1000000000) :
    Calls Try.prog 73 #[.int .i64 n, .int .i64 2] w fun e w' => e = .returned (.string (dgS 2 n)) ∧ Below w.heap.size w w' := by
  have sz := dgS_size 1
  go_enter Try.func73, Try.ntmps73
  go_wp2_with fail
  refine wp_loop_rounds 3 ?_
  rw [rounds_succ]
  go_wp2_with fail
  refine (l1Power_1 _).mono ?_
  rintro e w' ⟨rfl, rfl⟩
  go_wp2_with fail
  refine (l6Dec_d _ _ (by omega) (by omega)).mono ?_
  rintro e w1 ⟨rfl, bw1⟩
  have sw1 := bw1.size
  (try simp at sw1)
  have Aw1 : Below w.heap.size w w1 := Below.trans (by (repeat' (first | (with_reducible assumption) | (with_reducible exact Below.refl _ _) | (with_reducible refine bdN ?_ _) | (with_reducible refine Below.alloc ?_ ?_ _) | (with_reducible refine Below.drew ?_) | (with_reducible refine Below.setCell ?_ ?_ _) | go_size))) (bw1.mono (by go_size))
  clear bw1
  go_wp2_with fail
  rw [rounds_succ]
  go_wp2_with fail
  refine (l1Power_0 _).mono ?_
  rintro e w' ⟨rfl, rfl⟩
  go_wp2_with fail
  refine (l6Dec_d _ _ (by omega) (by omega)).mono ?_
  rintro e w0 ⟨rfl, bw0⟩
  have sw0 := bw0.size
  (try simp at sw0)
  have Aw0 : Below w.heap.size w w0 := Below.trans (by (repeat' (first | (with_reducible assumption) | (with_reducible exact Below.refl _ _) | (with_reducible refine bdN ?_ _) | (with_reducible refine Below.alloc ?_ ?_ _) | (with_reducible refine Below.drew ?_) | (with_reducible refine Below.setCell ?_ ?_ _) | go_size))) (bw0.mono (by go_size))
  clear bw0
  go_wp2_with fail
  rw [rounds_succ]
  go_wp2_with fail
  go_ret
  exact ⟨ret_str (by first | exact put_2 n | (simp only [nil_add]; exact put_2 n) | (simp only [nil_add, Int.ediv_one]; exact put_2 n)), by (repeat' (first | (with_reducible assumption) | (with_reducible exact Below.refl _ _) | (with_reducible refine bdN ?_ _) | (with_reducible refine Below.alloc ?_ ?_ _) | (with_reducible refine Below.drew ?_) | (with_reducible refine Below.setCell ?_ ?_ _) | go_size))⟩
set_option maxHeartbeats 2000000 in
theorem l1Put_3 (n : Int) (w : World) (h : 0 ≤ n) (h2 : n ≤ 1000000000) :
    Calls Try.prog 73 #[.int .i64 n, .int .i64 3] w fun e w' => e = .returned (.string (dgS 3 n)) ∧ Below w.heap.size w w' := by
  have sz := dgS_size 1
  go_enter Try.func73, Try.ntmps73
  go_wp2_with fail
  refine wp_loop_rounds 4 ?_
  rw [rounds_succ]
  go_wp2_with fail
  refine (l1Power_2 _).mono ?_
  rintro e w' ⟨rfl, rfl⟩
  go_wp2_with fail
  refine (l6Dec_d _ _ (by omega) (by omega)).mono ?_
  rintro e w2 ⟨rfl, bw2⟩
  have sw2 := bw2.size
  (try simp at sw2)
  have Aw2 : Below w.heap.size w w2 := Below.trans (by (repeat' (first | (with_reducible assumption) | (with_reducible exact Below.refl _ _) | (with_reducible refine bdN ?_ _) | (with_reducible refine Below.alloc ?_ ?_ _) | (with_reducible refine Below.drew ?_) | (with_reducible refine Below.setCell ?_ ?_ _) | go_size))) (bw2.mono (by go_size))
  clear bw2
  go_wp2_with fail
  rw [rounds_succ]
  go_wp2_with fail
  refine (l1Power_1 _).mono ?_
  rintro e w' ⟨rfl, rfl⟩
  go_wp2_with fail
  refine (l6Dec_d _ _ (by omega) (by omega)).mono ?_
  rintro e w1 ⟨rfl, bw1⟩
  have sw1 := bw1.size
  (try simp at sw1)
  have Aw1 : Below w.heap.size w w1 := Below.trans (by (repeat' (first | (with_reducible assumption) | (with_reducible exact Below.refl _ _) | (with_reducible refine bdN ?_ _) | (with_reducible refine Below.alloc ?_ ?_ _) | (with_reducible refine Below.drew ?_) | (with_reducible refine Below.setCell ?_ ?_ _) | go_size))) (bw1.mono (by go_size))
  clear bw1
  go_wp2_with fail
  rw [rounds_succ]
  go_wp2_with fail
  refine (l1Power_0 _).mono ?_
  rintro e w' ⟨rfl, rfl⟩
  go_wp2_with fail
  refine (l6Dec_d _ _ (by omega) (by omega)).mono ?_
  rintro e w0 ⟨rfl, bw0⟩
  have sw0 := bw0.size
  (try simp at sw0)
  have Aw0 : Below w.heap.size w w0 := Below.trans (by (repeat' (first | (with_reducible assumption) | (with_reducible exact Below.refl _ _) | (with_reducible refine bdN ?_ _) | (with_reducible refine Below.alloc ?_ ?_ _) | (with_reducible refine Below.drew ?_) | (with_reducible refine Below.setCell ?_ ?_ _) | go_size))) (bw0.mono (by go_size))
  clear bw0
  go_wp2_with fail
  rw [rounds_succ]
  go_wp2_with fail
  go_ret
  exact ⟨ret_str (by first | exact put_3 n | (simp only [nil_add]; exact put_3 n) | (simp only [nil_add, Int.ediv_one]; exact put_3 n)), by (repeat' (first | (with_reducible assumption) | (with_reducible exact Below.refl _ _) | (with_reducible refine bdN ?_ _) | (with_reducible refine Below.alloc ?_ ?_ _) | (with_reducible refine Below.drew ?_) | (with_reducible refine Below.setCell ?_ ?_ _) | go_size))⟩
set_option maxHeartbeats 2000000 in
theorem l1Put_4 (n : Int) (w : World) (h : 0 ≤ n) (h2 : n ≤ 1000000000) :
    Calls Try.prog 73 #[.int .i64 n, .int .i64 4] w fun e w' => e = .returned (.string (dgS 4 n)) ∧ Below w.heap.size w w' := by
  have sz := dgS_size 1
  go_enter Try.func73, Try.ntmps73
  go_wp2_with fail
  refine wp_loop_rounds 5 ?_
  rw [rounds_succ]
  go_wp2_with fail
  refine (l1Power_3 _).mono ?_
  rintro e w' ⟨rfl, rfl⟩
  go_wp2_with fail
  refine (l6Dec_d _ _ (by omega) (by omega)).mono ?_
  rintro e w3 ⟨rfl, bw3⟩
  have sw3 := bw3.size
  (try simp at sw3)
  have Aw3 : Below w.heap.size w w3 := Below.trans (by (repeat' (first | (with_reducible assumption) | (with_reducible exact Below.refl _ _) | (with_reducible refine bdN ?_ _) | (with_reducible refine Below.alloc ?_ ?_ _) | (with_reducible refine Below.drew ?_) | (with_reducible refine Below.setCell ?_ ?_ _) | go_size))) (bw3.mono (by go_size))
  clear bw3
  go_wp2_with fail
  rw [rounds_succ]
  go_wp2_with fail
  refine (l1Power_2 _).mono ?_
  rintro e w' ⟨rfl, rfl⟩
  go_wp2_with fail
  refine (l6Dec_d _ _ (by omega) (by omega)).mono ?_
  rintro e w2 ⟨rfl, bw2⟩
  have sw2 := bw2.size
  (try simp at sw2)
  have Aw2 : Below w.heap.size w w2 := Below.trans (by (repeat' (first | (with_reducible assumption) | (with_reducible exact Below.refl _ _) | (with_reducible refine bdN ?_ _) | (with_reducible refine Below.alloc ?_ ?_ _) | (with_reducible refine Below.drew ?_) | (with_reducible refine Below.setCell ?_ ?_ _) | go_size))) (bw2.mono (by go_size))
  clear bw2
  go_wp2_with fail
  rw [rounds_succ]
  go_wp2_with fail
  refine (l1Power_1 _).mono ?_
  rintro e w' ⟨rfl, rfl⟩
  go_wp2_with fail
  refine (l6Dec_d _ _ (by omega) (by omega)).mono ?_
  rintro e w1 ⟨rfl, bw1⟩
  have sw1 := bw1.size
  (try simp at sw1)
  have Aw1 : Below w.heap.size w w1 := Below.trans (by (repeat' (first | (with_reducible assumption) | (with_reducible exact Below.refl _ _) | (with_reducible refine bdN ?_ _) | (with_reducible refine Below.alloc ?_ ?_ _) | (with_reducible refine Below.drew ?_) | (with_reducible refine Below.setCell ?_ ?_ _) | go_size))) (bw1.mono (by go_size))
  clear bw1
  go_wp2_with fail
  rw [rounds_succ]
  go_wp2_with fail
  refine (l1Power_0 _).mono ?_
  rintro e w' ⟨rfl, rfl⟩
  go_wp2_with fail
  refine (l6Dec_d _ _ (by omega) (by omega)).mono ?_
  rintro e w0 ⟨rfl, bw0⟩
  have sw0 := bw0.size
  (try simp at sw0)
  have Aw0 : Below w.heap.size w w0 := Below.trans (by (repeat' (first | (with_reducible assumption) | (with_reducible exact Below.refl _ _) | (with_reducible refine bdN ?_ _) | (with_reducible refine Below.alloc ?_ ?_ _) | (with_reducible refine Below.drew ?_) | (with_reducible refine Below.setCell ?_ ?_ _) | go_size))) (bw0.mono (by go_size))
  clear bw0
  go_wp2_with fail
  rw [rounds_succ]
  go_wp2_with fail
  go_ret
  exact ⟨ret_str (by first | exact put_4 n | (simp only [nil_add]; exact put_4 n) | (simp only [nil_add, Int.ediv_one]; exact put_4 n)), by (repeat' (first | (with_reducible assumption) | (with_reducible exact Below.refl _ _) | (with_reducible refine bdN ?_ _) | (with_reducible refine Below.alloc ?_ ?_ _) | (with_reducible refine Below.drew ?_) | (with_reducible refine Below.setCell ?_ ?_ _) | go_size))⟩
end Go.Proofs.Ytbgpdjceofofoaa
