/- The reader from which the laws draw their inputs: how it is made, and what one pick gives: a number below its bound; nothing but the reader's own block changes. Conditions: the reader stands in memory, few picks have been made. -/
import Derived.Test.YtbgpdjceofofoaaBase
import Derived.Deep.QuietTactic
import Derived.BigQuiet
import Derived.Laws.AppendOwn
import Derived.Laws.BitsAllLaws
import Derived.OpenShut
namespace Go.Proofs.Ytbgpdjceofofoaa
open Go.RowKit

/-- WHAT A WALK IS TOLD OF A SLICE OF INTEGERS THAT CAME IN -/
def IsRow (k : IntKind) (w : World) (a : Option Addr) (len cap : Nat) (zs : List Int) : Prop :=
  (a = none ∧ len = 0 ∧ cap = 0 ∧ zs = []) ∨
  ∃ x, a = some x ∧ len ≤ cap ∧ cap ≤ maxLen ∧ zs.length = cap ∧ (∀ i, i < zs.length → w.cell? (x.add i) = some (.int k (zs.getD i 0))) ∧ ∀ n ∈ zs, (Lit.int k n).wf = true

/-- only block r has turned, and what is new -/
def Onl (r : Nat) (w w' : World) : Prop := w.grownBy w' (some r)
theorem onl_refl (r : Nat) (w : World) : Onl r w w := ⟨rfl, rfl, rfl, Nat.le_refl _, fun _ _ _ => rfl⟩
theorem onl_trans {r : Nat} {a b c : World} (h : Onl r a b) (k : Onl r b c) : Onl r a c :=
  ⟨k.os.trans h.os, k.tape.trans h.tape, k.output.trans h.output, Nat.le_trans h.size k.size, fun i hi hne => (k.block i (Nat.lt_of_lt_of_le hi h.size) hne).trans (h.block i hi hne)⟩
theorem onl_drewN {r : Nat} {a w : World} (h : Onl r a w) (n : Nat) : Onl r a (w.drewN n) := ⟨h.os, h.tape, h.output, h.size, h.block⟩
theorem onl_alloc {r : Nat} {a w : World} (h : Onl r a w) (o : Obj) : Onl r a (w.alloc o) :=
  ⟨h.os, h.tape, h.output, Nat.le_trans h.size (by simp), fun i hi hne => (Below.heap_alloc w o i (Nat.lt_of_lt_of_le hi h.size)).trans (h.block i hi hne)⟩
theorem onl_set {r : Nat} {a w : World} (h : Onl r a w) {p : Addr} (hp : p.block = r ∨ a.heap.size ≤ p.block) (u : Value) : Onl r a (w.setCell p u) :=
  ⟨h.os, h.tape, h.output, by simpa [World.setCell] using h.size, fun i hi hne => (Below.heap_setCell w p u i (by
    rintro rfl
    rcases hp with hp | hp
    · exact hne (by rw [hp])
    · omega)).trans (h.block i hi hne)⟩
theorem onl_below {r : Nat} {w w' : World} (h : Onl r w w') {B : Nat} (h1 : B ≤ r) (h2 : B ≤ w.heap.size) : Below B w w' :=
  ⟨h.os, h.tape, h.output, h.size, fun k hk => h.block k (by omega) (by intro e; injection e; omega)⟩
theorem onl_of_below {r : Nat} {a w w' : World} (h : Onl r a w) (k : Below w.heap.size w w') : Onl r a w' :=
  ⟨k.os.trans h.os, k.tape.trans h.tape, k.output.trans h.output, Nat.le_trans h.size k.size, fun i hi hne => (k.block i (Nat.lt_of_lt_of_le hi h.size)).trans (h.block i hi hne)⟩
theorem onl_cell {r : Nat} {w w' : World} (h : Onl r w w') {b : Nat} (hb : b < w.heap.size) (hr : b ≠ r) (o : Nat) : w'.cell? ⟨b, o, none⟩ = w.cell? ⟨b, o, none⟩ :=
  World.cell?_of_block (w := w) (h.block b hb (by intro e; injection e; omega))
theorem onl_frozen {r : Nat} {w w' : World} (h : Onl r w w') {b : Nat} (hb : b < w.heap.size) (hr : b ≠ r) (o : Nat) : w'.frozen? ⟨b, o, none⟩ = w.frozen? ⟨b, o, none⟩ :=
  World.frozen?_of_block (w := w) (h.block b hb (by intro e; injection e; omega))

/-- the bytes from which is drawn: none, or a row in a block of its own, which lies ahead of r -/
def Src (w : World) (r : Nat) (a : Option Addr) (n : Nat) : Prop := n = 0 ∨ ∃ b o, a = some ⟨b, o, none⟩ ∧ b < r ∧ ∀ i, i < n → ∃ z : Int, w.cell? ⟨b, o + i, none⟩ = some (.int .u8 z) ∧ 0 ≤ z ∧ z ≤ 255
/-- the reader in block r, from which at most N picks have been made -/
def Rd (w : World) (r N : Nat) : Prop := ∃ (a : Option Addr) (n c p : Nat), w.cell? ⟨r, 0, none⟩ = some (.slice a n c) ∧ w.cell? ⟨r, 1, none⟩ = some (.int .i64 p) ∧ w.frozen? ⟨r, 1, none⟩ = false ∧ r < w.heap.size ∧ p ≤ N ∧ n ≤ 2000 ∧ Src w r a n

theorem src_keep {w w' : World} {r : Nat} {a : Option Addr} {n : Nat} (h : Src w r a n) (hr : r < w.heap.size) (g : Onl r w w') : Src w' r a n := by
  rcases h with h | ⟨b, o, ha, hb, hc⟩
  · exact .inl h
  · exact .inr ⟨b, o, ha, hb, fun i hi => by
      obtain ⟨z, h1, h2⟩ := hc i hi
      exact ⟨z, by rw [onl_cell g (by omega) (by omega)]; exact h1, h2⟩⟩
/-- what is laid anew and not into the reader's block leaves the reader -/
theorem rd_keep {w w' : World} {r N : Nat} (h : Rd w r N) (g : Below (r + 1) w w') : Rd w' r N := by
  obtain ⟨a, n, c, p, h0, h1, hf, hr, hp, hn, hs⟩ := h
  have hc : ∀ b o, b < r + 1 → w'.cell? ⟨b, o, none⟩ = w.cell? ⟨b, o, none⟩ := fun b o hb => g.cell (p := ⟨b, o, none⟩) hb
  refine ⟨a, n, c, p, by rw [hc _ _ (by omega)]; exact h0, by rw [hc _ _ (by omega)]; exact h1, by rw [g.frozen (p := ⟨r, 1, none⟩) (by simp)]; exact hf, Nat.lt_of_lt_of_le hr g.size, hp, hn, ?_⟩
  rcases hs with h | ⟨b, o, ha, hb, hc'⟩
  · exact .inl h
  · exact .inr ⟨b, o, ha, hb, fun i hi => by
      obtain ⟨z, h1, h2⟩ := hc' i hi
      exact ⟨z, by rw [hc _ _ (by omega)]; exact h1, h2⟩⟩
theorem rd_set {w : World} {r N : Nat} (h : Rd w r N) {p : Addr} (hp : r < p.block) (u : Value) : Rd (w.setCell p u) r N := rd_keep h ((Below.refl _ _).setCell (by omega) u)
theorem rd_alloc {w : World} {r N : Nat} (h : Rd w r N) (o : Obj) : Rd (w.alloc o) r N := rd_keep h ((Below.refl _ _).alloc (by obtain ⟨_, _, _, _, _, _, _, h, _⟩ := h; omega) o)
theorem rd_drewN {w : World} {r N : Nat} (h : Rd w r N) (n : Nat) : Rd (w.drewN n) r N := h
theorem rd_drew {w : World} {r N : Nat} (h : Rd w r N) : Rd w.drew r N := h
theorem onl_drew {r : Nat} {a w : World} (h : Onl r a w) : Onl r a w.drew := ⟨h.os, h.tape, h.output, h.size, h.block⟩
theorem rd_le {w : World} {r N M : Nat} (h : Rd w r N) (hm : N ≤ M) : Rd w r M := by
  obtain ⟨a, n, c, p, h0, h1, hf, hr, hp, hn, hs⟩ := h
  exact ⟨a, n, c, p, h0, h1, hf, hr, Nat.le_trans hp hm, hn, hs⟩
theorem rd_lt {w : World} {r N : Nat} (h : Rd w r N) : r < w.heap.size := by obtain ⟨_, _, _, _, _, _, _, h, _⟩ := h; exact h

/-- what one pick below m gives -/
def Picked (w : World) (r N : Nat) (m : Int) (e : Ending) (w' : World) : Prop := ∃ k : Int, 0 ≤ k ∧ k < m ∧ e = .returned (.int .i64 k) ∧ Rd w' r (N + 1) ∧ Onl r w w'

theorem rd_step {w : World} {r N n c p : Nat} {a : Option Addr} (h0 : w.cell? ⟨r, 0, none⟩ = some (.slice a n c)) (h1 : w.cell? ⟨r, 1, none⟩ = some (.int .i64 p)) (hf : w.frozen? ⟨r, 1, none⟩ = false) (hr : r < w.heap.size) (hp : p ≤ N) (hn : n ≤ 2000) (hs : Src w r a n) (q : Nat) :
    Rd ((w.setCell ⟨r, 1, none⟩ (.int .i64 (p + 1))).drewN q) r (N + 1) ∧ Onl r w ((w.setCell ⟨r, 1, none⟩ (.int .i64 (p + 1))).drewN q) := by
  have g : Onl r w ((w.setCell ⟨r, 1, none⟩ (.int .i64 (p + 1))).drewN q) := onl_drewN (onl_set (onl_refl r w) (.inl rfl) _) q
  refine ⟨⟨a, n, c, p + 1, ?_, ?_, ?_, Nat.lt_of_lt_of_le hr g.size, by omega, hn, src_keep hs hr g⟩, g⟩
  all_goals go_simp

theorem i64_xor_nonneg (x y : Int) (hx : 0 ≤ x) (hx' : x < 4611686018427387904) (hy : 0 ≤ y) (hy' : y < 4611686018427387904) : 0 ≤ bits .xor .i64 x y := by
  obtain ⟨a, rfl⟩ := Int.eq_ofNat_of_zero_le hx
  obtain ⟨b, rfl⟩ := Int.eq_ofNat_of_zero_le hy
  have hx2 : a ^^^ b < 2 ^ 62 := Nat.xor_lt_two_pow (by omega) (by omega)
  have h1 : (BitVec.ofInt 64 (a : Int)).toNat = a := by
    rw [BitVec.ofInt_natCast, BitVec.toNat_ofNat]; exact Nat.mod_eq_of_lt (by omega)
  have h2 : (BitVec.ofInt 64 (b : Int)).toNat = b := by
    rw [BitVec.ofInt_natCast, BitVec.toNat_ofNat]; exact Nat.mod_eq_of_lt (by omega)
  show 0 ≤ IntKind.i64.wrap ((BitVec.ofInt 64 (a : Int) ^^^ BitVec.ofInt 64 (b : Int)).toNat : Int)
  rw [BitVec.toNat_xor, h1, h2]
  simp [IntKind.wrap, IntKind.bits, IntKind.signed]
  omega
set_option maxHeartbeats 1000000 in
theorem pick_any (w : World) (r N : Nat) (m : Int) (hr : Rd w r N) (hN : N ≤ 100000) (h1 : 1 ≤ m) (h2 : m ≤ 1000000) :
    Calls Try.prog 48 #[.pointer (some ⟨r, 0, none⟩), .int .i64 m] w (Picked w r N m) := by
  obtain ⟨a, n, c, p, hc0, hc1, hf, hlt, hp, hn, hs⟩ := hr
  have S := fun q => rd_step hc0 hc1 hf hlt hp hn hs q
  have S' := Lib.hid S
  clear S
  rcases hs with hz | ⟨b, o, ha, hbl, hcell⟩
  · subst hz
    go_enter Try.func48, Try.ntmps48
    go_wp2
    go_ret
    exact ⟨0, by omega, by omega, rfl, S'.out 0⟩
  · subst ha
    have hb : ¬ b = r := by omega
    by_cases hz : n = 0
    · subst hz
      go_enter Try.func48, Try.ntmps48
      go_wp2
      go_ret
      exact ⟨0, by omega, by omega, rfl, S'.out 0⟩
    · have hn0 : ((n : Int) == 0) = false := by simp; omega
      by_cases hpn : p < n
      · obtain ⟨z, hz1, hz2, hz3⟩ := hcell p hpn
        go_enter Try.func48, Try.ntmps48
        go_wp2
        go_ret
        exact ⟨z % m, Int.emod_nonneg _ (by omega), Int.emod_lt_of_pos _ (by omega), rfl, S'.out 0⟩
      · obtain ⟨z, hz1, hz2, hz3⟩ := hcell (p % n) (Nat.mod_lt _ (by omega))
        obtain ⟨y, hy1, hy2, hy3⟩ := hcell ((p * 7 + 3) % n) (Nat.mod_lt _ (by omega))
        go_enter Try.func48, Try.ntmps48
        have e1 : ((p : Int) % (n : Int)).toNat = p % n := by rw [← Int.natCast_emod]; rfl
        have e2 : (((p : Int) * 7 + 3) % (n : Int)).toNat = (p * 7 + 3) % n := by rw [show (p : Int) * 7 + 3 = ((p * 7 + 3 : Nat) : Int) by omega, ← Int.natCast_emod]; rfl
        go_wp2
        have q1 : 0 ≤ (p : Int) % (n : Int) := Int.emod_nonneg _ (by omega)
        have q2 : (p : Int) % (n : Int) < (n : Int) := Int.emod_lt_of_pos _ (by omega)
        have q3 : 0 ≤ ((p : Int) * 7 + 3) % (n : Int) := Int.emod_nonneg _ (by omega)
        have q4 : ((p : Int) * 7 + 3) % (n : Int) < (n : Int) := Int.emod_lt_of_pos _ (by omega)
        have d0 : 0 ≤ (p : Int) / (n : Int) := Int.ediv_nonneg (by omega) (by omega)
        have d1 : (p : Int) / (n : Int) ≤ 100000 := by have := Int.ediv_le_self (a := (p : Int)) (n : Int) (by omega); omega
        have x0 : 0 ≤ bits .xor .i64 (z * 131 + y * 1117 + p * 29 + p / n * 53) ((z * 131 + y * 1117 + p * 29 + p / n * 53) / 64) := i64_xor_nonneg _ _ (by omega) (by omega) (by omega) (by omega)
        go_quiet (fail)
        go_wp2
        go_ret
        exact ⟨_, Int.emod_nonneg _ (by omega), Int.emod_lt_of_pos _ (by omega), rfl, S'.out _⟩

/-- what one pick below m gives, said of a world further back -/
def PickedF (w0 : World) (r N : Nat) (m : Int) (e : Ending) (w' : World) : Prop := ∃ k : Int, 0 ≤ k ∧ k < m ∧ e = .returned (.int .i64 k) ∧ Rd w' r (N + 1) ∧ Onl r w0 w'
theorem pick_from (w0 w : World) (r N : Nat) (m : Int) (hr : Rd w r N) (g : Onl r w0 w) (hN : N ≤ 100000) (h1 : 1 ≤ m) (h2 : m ≤ 1000000) :
    Calls Try.prog 48 #[.pointer (some ⟨r, 0, none⟩), .int .i64 m] w (PickedF w0 r N m) :=
  (pick_any w r N m hr hN h1 h2).mono fun _ _ ⟨k, a, b, c, d, e⟩ => ⟨k, a, b, c, d, onl_trans g e⟩

/-- the reader is made -/
def Opened (w : World) (e : Ending) (w' : World) : Prop := e = .returned (.pointer (some ⟨w.heap.size, 0, none⟩)) ∧ Rd w' w.heap.size 0 ∧ Below w.heap.size w w'

theorem rd_new {w : World} {a : Option Addr} {n c : Nat} (hn : n ≤ 2000) (hs : n = 0 ∨ ∃ b o, a = some ⟨b, o, none⟩ ∧ ∀ i, i < n → ∃ z : Int, w.cell? ⟨b, o + i, none⟩ = some (.int .u8 z) ∧ 0 ≤ z ∧ z ≤ 255) :
    Rd (w.alloc (.cells #[.slice a n c, .int .i64 0] 91)) w.heap.size 0 := by
  refine ⟨a, n, c, 0, by go_simp, by go_simp, by go_simp, by simp, Nat.le_refl _, hn, ?_⟩
  rcases hs with h | ⟨b, o, ha, hc⟩
  · exact .inl h
  · by_cases hz : n = 0
    · exact .inl hz
    · have hb : b < w.heap.size := by
        obtain ⟨z, h1, _⟩ := hc 0 (by omega)
        exact World.block_lt_of_cell? _ _ h1
      exact .inr ⟨b, o, ha, hb, fun i hi => by
        obtain ⟨z, h1, h2⟩ := hc i hi
        exact ⟨z, by rw [← h1]; exact World.cell?_of_block (w := w) (Below.heap_alloc w _ b hb), h2⟩⟩

theorem row_src {w : World} {x : Addr} {len cap : Nat} {zs : List Int} (hl : len ≤ cap) (hz : zs.length = cap) (hcell : ∀ i, i < zs.length → w.cell? (x.add i) = some (.int .u8 (zs.getD i 0))) (hw : ∀ n ∈ zs, (Lit.int .u8 n).wf = true) {n : Nat} (hn : n ≤ len) :
    n = 0 ∨ ∃ b o, (some x : Option Addr) = some ⟨b, o, none⟩ ∧ ∀ i, i < n → ∃ z : Int, w.cell? ⟨b, o + i, none⟩ = some (.int .u8 z) ∧ 0 ≤ z ∧ z ≤ 255 := by
  by_cases h0 : n = 0
  · exact .inl h0
  · obtain ⟨b, o, s⟩ := x
    have hs : s = none := by simpa [Addr.add] using World.cell?_spot (hcell 0 (by omega))
    subst hs
    have hadd : ∀ i, (⟨b, o, none⟩ : Addr).add i = ⟨b, o + i, none⟩ := fun i => by
      by_cases h : i = 0
      · subst h; simp [Addr.add]
      · simp [Addr.add, h]
    refine .inr ⟨b, o, rfl, fun i hi => ⟨zs.getD i 0, by rw [← hadd]; exact hcell i (by omega), ?_⟩⟩
    have hm : zs.getD i 0 ∈ zs := by rw [List.getD_eq_getElem?_getD, List.getElem?_eq_getElem (by omega)]; exact List.getElem_mem _
    exact bounds_u8 (hw _ hm)

set_option maxHeartbeats 1000000 in
theorem open_any (w : World) (a : Option Addr) (len cap : Nat) (zs : List Int) (h : IsRow .u8 w a len cap zs) : Calls Try.prog 46 #[.slice a len cap] w (Opened w) := by
  rcases h with ⟨rfl, rfl, rfl, rfl⟩ | ⟨x, rfl, hl, hm, hz, hcell, hw⟩
  · go_enter Try.func46, Try.ntmps46
    go_wp2
    go_ret
    exact ⟨rfl, rd_new (by omega) (.inl rfl), (Below.refl _ _).alloc (Nat.le_refl _) _⟩
  · unfold maxLen at hm
    by_cases hlen : len ≤ 2000
    · have R := Lib.hid (row_src hl hz hcell hw (Nat.le_refl len))
      clear hcell hw hz
      go_enter Try.func46, Try.ntmps46
      go_wp2
      go_ret
      exact ⟨rfl, rd_new hlen R.out, (Below.refl _ _).alloc (Nat.le_refl _) _⟩
    · have R := Lib.hid (row_src hl hz hcell hw (n := 2000) (by omega))
      clear hcell hw hz
      go_enter Try.func46, Try.ntmps46
      go_wp2
      go_ret
      exact ⟨rfl, rd_new (Nat.le_refl _) R.out, (Below.refl _ _).alloc (Nat.le_refl _) _⟩

theorem isRow_keep {k : IntKind} {w w' : World} {a : Option Addr} {len cap : Nat} {zs : List Int} (h : IsRow k w a len cap zs) (g : Below w.heap.size w w') : IsRow k w' a len cap zs := by
  rcases h with h | ⟨x, ha, hl, hm, hz, hcell, hw⟩
  · exact .inl h
  · exact .inr ⟨x, ha, hl, hm, hz, fun i hi => by rw [g.cell (World.block_lt_of_cell? _ _ (hcell i hi))]; exact hcell i hi, hw⟩
end Go.Proofs.Ytbgpdjceofofoaa
