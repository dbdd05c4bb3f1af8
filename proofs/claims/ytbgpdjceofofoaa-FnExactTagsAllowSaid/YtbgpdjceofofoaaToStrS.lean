/- Contracts of the laws' helpers on lists of texts: the copy, the size, the comparison; and how such an argument is opened. Conditions: the list is short, and so are its texts. -/
import Derived.Test.YtbgpdjceofofoaaToTagS
import Derived.Test.YtbgpdjceofofoaaTagsAl
import Derived.Test.YtbgpdjceofofoaaOpenTS
import Derived.SliceStrings
namespace Go.Proofs.Ytbgpdjceofofoaa
open Go Go.ChangeShapes Go.WideShapes Go.Deep Go.RowKit DN
set_option linter.unusedVariables false
set_option linter.unusedSimpArgs false

theorem toStrInfo : (Try.prog.info? 9).map (fun i => (i.zero, i.size, i.bytes)) = some (some (.string ⟨#[]⟩), 1, 16) := by kernel_rfl
theorem makeStrs (n : Nat) (hn : n ≤ 1048576) (w : World) : (Instr.makeSlice 33 (.int .i64 n) (.int .i64 n)).run Try.prog w = .ok (.slice (some ⟨w.heap.size, 0, none⟩) n n) (w.alloc (.cells (madeCells #[.string ⟨#[]⟩] n) 9)) := by
  obtain ⟨i0, hi, hz0, hz1, hz2⟩ := info_parts toStrInfo
  have h := run_make (P := Try.prog) w 33 9 i0 _ Try.underlying33 hi hz0 .i64 .i64 n n (by omega) (by omega) (by rw [hz2]; omega) (by omega)
  rw [h, hz1]
  show Result.ok _ (w.alloc (.cells (madeCells #[.string ⟨#[]⟩] (n * 1)) 9)) = _
  rw [Nat.mul_one]
  rfl
/-- a made block whose first texts stand -/
def MadeS (w : World) (B n : Nat) (l : List ByteArray) (k : Nat) : Prop := (∀ j, j < n → ∃ u, w.cell? ⟨B, j, none⟩ = some u) ∧ (∀ j, w.frozen? ⟨B, j, none⟩ = false) ∧ B < w.heap.size ∧ ∀ i, i < k → w.cell? ⟨B, i, none⟩ = some (.string (sA l i))
theorem madeS_new (w : World) (n : Nat) (l : List ByteArray) (z : Array Value) : MadeS (w.alloc (.cells (madeCells z n) 9)) w.heap.size n l 0 := by
  refine ⟨fun j hj => ?_, fun j => World.frozen?_alloc_at _ _ _ _ rfl, by simp, fun i hi => by omega⟩
  rw [World.cell?_alloc_at _ _ _ _ rfl]
  exact ⟨_, Array.getElem?_eq_getElem (by rw [size_madeCells]; exact hj)⟩
theorem madeS_set {w : World} {B n k : Nat} {l : List ByteArray} (h : MadeS w B n l k) (hk : k < n) : MadeS (w.setCell ⟨B, k, none⟩ (.string (sA l k))) B n l (k + 1) := by
  obtain ⟨h1, h2, h3, h4⟩ := h
  obtain ⟨u0, e0⟩ := h1 k hk
  have so : ∀ y : Nat, y ≠ k → (w.setCell ⟨B, k, none⟩ (.string (sA l k))).cell? ⟨B, y, none⟩ = w.cell? ⟨B, y, none⟩ := fun y h => by apply World.cell?_setCell_other; intro e; injection e with _ e; exact h e.symm
  have ss : (w.setCell ⟨B, k, none⟩ (.string (sA l k))).cell? ⟨B, k, none⟩ = some (.string (sA l k)) := by apply World.cell?_setCell_same; exact e0
  refine ⟨fun j hj => ?_, fun j => by simp only [World.frozen?_setCell]; exact h2 j, by simpa [World.setCell] using h3, fun i hi => ?_⟩
  · by_cases a : j = k
    · subst a; exact ⟨_, ss⟩
    · rw [so j a]; exact h1 j hj
  · by_cases a : i = k
    · subst a; exact ss
    · rw [so i a]; exact h4 i (by omega)

set_option maxRecDepth 100000 in
set_option maxHeartbeats 4000000 in
theorem toStringS_any (a : Option Addr) (len cap : Nat) (l : List ByteArray) (w : World) (h : IsStrs w a len l) (hn : len ≤ 1048576) : Calls Try.prog 29 #[.slice a len cap] w fun e w' => e = .returned (.slice (some ⟨w.heap.size, 0, none⟩) len len) ∧ IsStrs w' (some ⟨w.heap.size, 0, none⟩) len l ∧ Below w.heap.size w w' := by
  have HLn := Lib.hid h.1
  have H1 := Lib.hid h.2
  have hmk := makeStrs len hn w
  clear h
  go_enter Try.func29, Try.ntmps29
  go_wp2_with fail
  clear hmk
  go_loopg [4] len (fun g i wr => ∃ k : Nat, g = len - k ∧ k ≤ len ∧ i = .int .i64 k ∧ MadeS wr w.heap.size len l k ∧ Below w.heap.size w wr)
  case atStart => exact ⟨0, rfl, Nat.zero_le _, rfl, madeS_new w len l _, by (repeat' (first | (with_reducible assumption) | (with_reducible exact Below.refl _ _) | (with_reducible refine bdN ?_ _) | (with_reducible refine Below.alloc ?_ ?_ _) | (with_reducible refine Below.drew ?_) | (with_reducible refine Below.setCell ?_ ?_ _) | go_size))⟩
  case round =>
    obtain ⟨k, rfl, hk, rfl, hm, bel⟩ := hrel
    have hszr := bel.size
    by_cases hkl : k < len
    · rcases H1.out with rfl | ⟨b, off, rfl, hb, hc⟩
      · exact absurd hkl (by omega)
      · have hi : k < l.length := by have := HLn.out; omega
        have x1 := (bel.cell (p := ⟨b, _, none⟩) hb).trans (hc k hi)
        clear hc
        obtain ⟨u0, e0⟩ := hm.1 k hkl
        have f0 := hm.2.1 k
        have hs := madeS_set hm hkl
        obtain ⟨kk, hkk⟩ : ∃ kk, sA l k = kk := ⟨_, rfl⟩
        rw [hkk] at x1 hs
        have HS := Lib.hid hs
        clear hm hs hkk
        go_wp2_with fail
        go_roundg (len - (k + 1))
        case measure => omega
        case rel => exact ⟨k + 1, rfl, by omega, by go_num, HS.out, by (repeat' (first | (with_reducible assumption) | (with_reducible exact Below.refl _ _) | (with_reducible refine bdN ?_ _) | (with_reducible refine Below.alloc ?_ ?_ _) | (with_reducible refine Below.drew ?_) | (with_reducible refine Below.setCell ?_ ?_ _) | go_size))⟩
    · obtain rfl : k = len := by omega
      have HM := Lib.hid hm
      clear hm
      go_wp2_with fail
      go_ret
      exact ⟨rfl, ⟨HLn.out, .inr ⟨_, 0, rfl, HM.out.2.2.1, fun i hi => by rw [Nat.zero_add]; exact HM.out.2.2.2 i (by have := HLn.out; omega)⟩⟩, by (repeat' (first | (with_reducible assumption) | (with_reducible exact Below.refl _ _) | (with_reducible refine bdN ?_ _) | (with_reducible refine Below.alloc ?_ ?_ _) | (with_reducible refine Below.drew ?_) | (with_reducible refine Below.setCell ?_ ?_ _) | go_size))⟩
set_option maxRecDepth 100000 in
set_option maxHeartbeats 4000000 in
theorem eqStringS_same (a a2 : Option Addr) (len cap cap2 : Nat) (l : List ByteArray) (w : World) (h : IsStrs w a len l) (h2 : IsStrs w a2 len l) (hn : len ≤ 1048576) : Calls Try.prog 31 #[.slice a len cap, .slice a2 len cap2] w fun e w' => e = .returned (.bool true) ∧ Below w.heap.size w w' := by
  have HLn := Lib.hid h.1
  have H1 := Lib.hid h.2
  have H2 := Lib.hid h2.2
  clear h h2
  go_enter Try.func31, Try.ntmps31
  go_wp2_with fail
  go_loopg [5] len (fun g i wr => ∃ k : Nat, g = len - k ∧ k ≤ len ∧ i = .int .i64 k ∧ Below w.heap.size w wr)
  case atStart => exact ⟨0, rfl, Nat.zero_le _, rfl, by (repeat' (first | (with_reducible assumption) | (with_reducible exact Below.refl _ _) | (with_reducible refine bdN ?_ _) | (with_reducible refine Below.alloc ?_ ?_ _) | (with_reducible refine Below.drew ?_) | (with_reducible refine Below.setCell ?_ ?_ _) | go_size))⟩
  case round =>
    obtain ⟨k, rfl, hk, rfl, bel⟩ := hrel
    have hszr := bel.size
    by_cases hkl : k < len
    · rcases H1.out with rfl | ⟨b, off, rfl, hb, hc⟩
      · exact absurd hkl (by omega)
      · rcases H2.out with rfl | ⟨b2, off2, rfl, hb2, hc2⟩
        · exact absurd hkl (by omega)
        · have hi : k < l.length := by have := HLn.out; omega
          have x1 := (bel.cell (p := ⟨b, _, none⟩) hb).trans (hc k hi)
          have y1 := (bel.cell (p := ⟨b2, _, none⟩) hb2).trans (hc2 k hi)
          clear hc hc2
          obtain ⟨kk, hkk⟩ : ∃ kk, sA l k = kk := ⟨_, rfl⟩
          rw [hkk] at x1 y1
          clear hkk
          go_wp2_with fail
          go_quiet (fail)
          go_wp2_with fail
          go_roundg (len - (k + 1))
          case measure => omega
          case rel => exact ⟨k + 1, rfl, by omega, by go_num, by (repeat' (first | (with_reducible assumption) | (with_reducible exact Below.refl _ _) | (with_reducible refine bdN ?_ _) | (with_reducible refine Below.alloc ?_ ?_ _) | (with_reducible refine Below.drew ?_) | (with_reducible refine Below.setCell ?_ ?_ _) | go_size))⟩
    · obtain rfl : k = len := by omega
      go_wp2_with fail
      go_ret
      exact ⟨rfl, by (repeat' (first | (with_reducible assumption) | (with_reducible exact Below.refl _ _) | (with_reducible refine bdN ?_ _) | (with_reducible refine Below.alloc ?_ ?_ _) | (with_reducible refine Below.drew ?_) | (with_reducible refine Below.setCell ?_ ?_ _) | go_size))⟩
/-- what the size of texts says -/
def SzSE (l : List ByteArray) (len : Nat) (w : World) (e : Ending) (w' : World) : Prop := ∃ z : Int, (z < 0 ∨ (0 ≤ z ∧ szS l 1048576 ∧ len ≤ 1048576)) ∧ e = .returned (.int .i64 z) ∧ Below w.heap.size w w'
set_option maxRecDepth 100000 in
set_option maxHeartbeats 4000000 in
theorem szStringS_any (a : Option Addr) (len cap : Nat) (l : List ByteArray) (n : Int) (w : World) (h : IsStrs w a len l) (hsz : szS l maxLen) (hlen : len ≤ maxLen) (n0 : 0 ≤ n) (n1 : n ≤ 1048576) : Calls Try.prog 27 #[.slice a len cap, .int .i64 n] w (SzSE l len w) := by
  have HLn := Lib.hid h.1
  have H1 := Lib.hid h.2
  have HZ := Lib.hid hsz
  unfold maxLen at hlen
  clear h hsz
  by_cases hbig : n < len
  · go_enter Try.func27, Try.ntmps27
    go_wp2_with fail
    go_ret
    exact ⟨-1, .inl (by omega), rfl, by (repeat' (first | (with_reducible assumption) | (with_reducible exact Below.refl _ _) | (with_reducible refine bdN ?_ _) | (with_reducible refine Below.alloc ?_ ?_ _) | (with_reducible refine Below.drew ?_) | (with_reducible refine Below.setCell ?_ ?_ _) | go_size))⟩
  · go_enter Try.func27, Try.ntmps27
    go_wp2_with fail
    go_loopg [1, 5] len (fun g lv i wr => ∃ (k : Nat) (m : Int), g = len - k ∧ k ≤ len ∧ i = .int .i64 k ∧ lv = .int .i64 m ∧ 0 ≤ m ∧ m ≤ 1048576 ∧ (∀ j, j < k → (sA l j).size ≤ 1048576) ∧ Below w.heap.size w wr)
    case atStart => exact ⟨0, n - len, rfl, Nat.zero_le _, rfl, rfl, by omega, by omega, (fun j hj => by omega), by (repeat' (first | (with_reducible assumption) | (with_reducible exact Below.refl _ _) | (with_reducible refine bdN ?_ _) | (with_reducible refine Below.alloc ?_ ?_ _) | (with_reducible refine Below.drew ?_) | (with_reducible refine Below.setCell ?_ ?_ _) | go_size))⟩
    case round =>
      obtain ⟨k, m, rfl, hk, rfl, rfl, hm0, hm1, hall, bel⟩ := hrel
      have hszr := bel.size
      have HALL := Lib.hid hall
      clear hall
      by_cases hkl : k < len
      · rcases H1.out with rfl | ⟨b, off, rfl, hb, hc⟩
        · exact absurd hkl (by omega)
        · have hi : k < l.length := by have := HLn.out; omega
          have x1 := (bel.cell (p := ⟨b, _, none⟩) hb).trans (hc k hi)
          have z1 := HZ.out k hi
          clear hc
          obtain ⟨kk, hkk⟩ : ∃ kk, sA l k = kk := ⟨_, rfl⟩
          rw [hkk] at x1 z1
          have HKK := Lib.hid hkk
          unfold maxLen at z1
          clear hkk
          by_cases hq0 : m - kk.size < 0
          · go_wp2_with fail
            go_ret
            exact ⟨-1, .inl (by omega), rfl, by (repeat' (first | (with_reducible assumption) | (with_reducible exact Below.refl _ _) | (with_reducible refine bdN ?_ _) | (with_reducible refine Below.alloc ?_ ?_ _) | (with_reducible refine Below.drew ?_) | (with_reducible refine Below.setCell ?_ ?_ _) | go_size))⟩
          · go_wp2_with fail
            go_roundg (len - (k + 1))
            case measure => omega
            case rel => exact ⟨k + 1, m - kk.size, rfl, by omega, by go_num, rfl, by omega, by omega, (fun j hj => by
              by_cases x : j = k
              · subst x; rw [HKK.out]; omega
              · exact HALL.out j (by omega)), by (repeat' (first | (with_reducible assumption) | (with_reducible exact Below.refl _ _) | (with_reducible refine bdN ?_ _) | (with_reducible refine Below.alloc ?_ ?_ _) | (with_reducible refine Below.drew ?_) | (with_reducible refine Below.setCell ?_ ?_ _) | go_size))⟩
      · obtain rfl : k = len := by omega
        go_wp2_with fail
        go_ret
        exact ⟨m, .inr ⟨hm0, fun i hi => HALL.out i (by rw [HLn.out]; exact hi), by omega⟩, rfl, by (repeat' (first | (with_reducible assumption) | (with_reducible exact Below.refl _ _) | (with_reducible refine bdN ?_ _) | (with_reducible refine Below.alloc ?_ ?_ _) | (with_reducible refine Below.drew ?_) | (with_reducible refine Below.setCell ?_ ?_ _) | go_size))⟩
section
variable {H : Type} {enc : TypeId × Value → H} {P : Program} {w : World} {base : Nat} {spare : Nat → Bool} {held : Bool}
theorem open_strs {t e : TypeId} {a : Option Addr} {len cap : Nat} {x : DataW H × List MemPlace} {fuel : Nat} (ht : P.underlying t = some (.slice e)) (he : P.underlying e = some .string) (hc : P.cellsOf e = 1)
    (h : DataW.trod enc P w base spare held fuel t [.slice a len cap] = some x) : len ≤ maxLen ∧ ∃ l : List ByteArray, IsStrs w a len l ∧ szS l maxLen := by
  rcases open_strings ht he hc h with ⟨hcs, _⟩ | ⟨ad, len', cap', ss, hcs, _, hl, hm, hss, _, hcell, hsz⟩
  · injection hcs with hcs
    injection hcs with e1 e2 e3
    subst e2
    exact ⟨Nat.zero_le _, [], ⟨rfl, .inl rfl⟩, fun i hi => by simp at hi⟩
  · injection hcs with hcs
    injection hcs with e1 e2 e3
    subst e1; subst e2; subst e3
    have hlm : len ≤ ss.length := by rw [hss]; split <;> omega
    have hg : ∀ i, i < len → sA (ss.take len) i = ss.getD i ByteArray.empty := by
      intro i hi
      unfold sA
      rw [List.getD_eq_getElem?_getD, List.getD_eq_getElem?_getD, List.getElem?_take_of_lt hi, List.getElem?_eq_getElem (by omega)]
      rfl
    refine ⟨by omega, ss.take len, ⟨by rw [List.length_take]; omega, ?_⟩, ?_⟩
    · by_cases hz : len = 0
      · exact .inl hz
      · obtain ⟨b, o, s⟩ := ad
        have hs : s = none := by simpa [Addr.add] using World.cell?_spot (hcell 0 (by omega))
        subst hs
        refine .inr ⟨b, o, rfl, World.block_lt_of_cell? _ _ (hcell 0 (by omega)), fun i hi => ?_⟩
        have hil : i < len := by rw [List.length_take] at hi; omega
        have := hcell i (by omega)
        rw [addN] at this
        rw [hg i hil]
        exact this
    · intro i hi
      have hil : i < len := by rw [List.length_take] at hi; omega
      rw [hg i hil]
      have : ss.getD i ByteArray.empty ∈ ss := by rw [List.getD_eq_getElem?_getD, List.getElem?_eq_getElem (by omega)]; exact List.getElem_mem _
      exact hsz _ this
end
end Go.Proofs.Ytbgpdjceofofoaa
