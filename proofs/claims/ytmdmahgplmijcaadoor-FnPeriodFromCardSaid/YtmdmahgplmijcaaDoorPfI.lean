/- Reading a period by the program gives the plain function. Condition: the text is not longer than 2^40 bytes. -/
import Derived.Test.YtmdmahgplmijcaaDoorPfA
import Derived.Deep.RegionHeld3
namespace Go.Proofs.YtmdmahgplmijcaaDoor
set_option linter.unusedSimpArgs false
open Go.RowKit DN
set_option linter.unusedVariables false

set_option maxHeartbeats 2000000 in
theorem parts_mem (b : Nat) (w : World) (hb : b < w.heap.size) : Calls Tryd.prog 24 #[.pointer (some ⟨b, 0, none⟩)] w fun e w' => True ∧ e = .returned (.slice (some ⟨w.heap.size, 0, none⟩) 6 6) ∧ CellsAt w' w.heap.size 0 (partCells b) ∧ w'.heap.size = w.heap.size + 1 ∧ Below w.heap.size w w' := by
  go_enter Tryd.func24, Tryd.ntmps24
  go_wp2_with fail
  go_region_held3 (fun w' => w.heap.size ≤ w'.heap.size) (go_size) (fail)
  all_goals
    go_wp2_with fail
    go_ret
    exact ⟨trivial, by go_simp, by unfold partCells; (simp only [CellsAt]; (first | (go_simp; done) | ((repeat' (with_reducible refine And.intro ?_ ?_)) <;> (repeat' (first | (with_reducible assumption) | (with_reducible exact trivial) | (with_reducible refine kA _ ?_) | (with_reducible refine kD ?_) | (with_reducible refine kS _ ?_ ?_) | (with_reducible refine fA _ ?_ ?_) | (with_reducible refine fD ?_) | (with_reducible refine fS _ ?_) | go_size | (go_simp; done)))))), by go_simp, by (repeat' (first | (with_reducible assumption) | (with_reducible exact Below.refl _ _) | (with_reducible refine bdN ?_ _) | (with_reducible refine Below.alloc ?_ ?_ _) | (with_reducible refine Below.drew ?_) | (with_reducible refine Below.setCell ?_ ?_ _) | go_size))⟩

theorem rdr_alloc {w : World} {r q : Nat} {s : ByteArray} (h : Rdr w r s q) (o : Obj) : Rdr (w.alloc o) r s q := rdr_keep h ((Below.refl _ _).alloc (by have := h.2.2.2; omega) o)
theorem rdr_set {w : World} {r q : Nat} {s : ByteArray} (h : Rdr w r s q) {p : Addr} (hp : r < p.block) (u : Value) : Rdr (w.setCell p u) r s q := rdr_keep h ((Below.refl _ _).setCell (by omega) u)
theorem rdr_below {w w' : World} {r q : Nat} {s : ByteArray} (h : Rdr w r s q) (g : Below w.heap.size w w') : Rdr w' r s q := rdr_keep h (g.mono (by have := h.2.2.2; omega))
theorem rdr_drew1 {w : World} {r q : Nat} {s : ByteArray} (h : Rdr w r s q) : Rdr w.drew r s q := h
/-- what the reading of a period says in the end -/
def FinP (R : Option (List Int)) (v : List Int) (ok : Bool) (q n : Nat) : Prop := (ok = true ∧ q = n ∧ some v = R) ∨ (¬ (ok = true ∧ q = n) ∧ none = R)
/-- what the program's reader gives -/
def PerE (w : World) (r : Nat) (s : ByteArray) (R : Option (List Int)) (e : Ending) (w' : World) : Prop := ∃ (a b c d x y : Int) (ok : Bool) (q : Nat), (q ≤ s.size ∧ FinP R [a, b, c, d, x, y] ok q s.size) ∧ e = .returned (.tuple #[.agg #[.int .i64 a, .int .i64 b, .int .i64 c, .int .i64 d, .int .i64 x, .int .i64 y], .bool ok]) ∧ Rdr w' r s q ∧ Onl r w w'

theorem pf_short {l : List UInt8} (h : l.length < 3) : pfL l = none := if_pos (.inl h)
theorem pf_P {l : List UInt8} (h : ¬ ((l.getD 0 0).toNat : Int) = 80) : pfL l = none := if_pos (.inr h)
theorem pf_go {l : List UInt8} (h : ¬ l.length < 3) (h2 : ((l.getD 0 0).toNat : Int) = 80) : pfL l = prs (l.length + 1) l 1 0 false [0, 0, 0, 0, 0, 0] := if_neg (by rintro (x | x); exact h x; exact x h2)

set_option maxHeartbeats 2000000 in
theorem period_noP (r : Nat) (s : ByteArray) (w : World) (hs : s.size ≤ 1099511627776) (h : Rdr w r s 0) (hb : s.size = 0 ∨ ∃ h0 : 0 < s.size, ((s[0].toNat : Int) == 80) = false) : Calls Tryd.prog 18 #[.pointer (some ⟨r, 0, none⟩)] w (PerE w r s (pfL s.data.toList)) := by
  have hl : s.data.toList.length = s.size := by simp
  have hR : pfL s.data.toList = none := by
    rcases hb with hb | ⟨h0, hb⟩
    · exact pf_short (by omega)
    · exact pf_P (by rw [getD_eq s 0 h0]; simpa using hb)
  rw [hR]
  have hlt := h.2.2.2
  have HD := Lib.hid h
  have TK : ∀ w', Rdr w' r s 0 → Calls Tryd.prog 32 #[.pointer (some ⟨r, 0, none⟩), .int .u8 80] w' (RdE w' r s 0 (.bool false)) := by
    intro w' hw'
    rcases hb with hb | ⟨h0, hb⟩
    · exact take_end r s 0 80 w' hw' hs hb.symm
    · exact take_no r s 0 80 w' hw' hs h0 hb
  have HT := Lib.hid TK
  clear TK hb hR h hl
  go_enter Tryd.func18, Tryd.ntmps18
  go_wp2_with fail
  refine (HT.out _ (rdr_alloc (rdr_alloc HD.out _) _)).mono ?_
  rintro e w1 ⟨_, rfl, R1, G1⟩
  have s1 := G1.size
  (try simp at s1)
  have O1 : Onl r w w1 := onl_trans (by (repeat' (first | (with_reducible assumption) | (with_reducible exact onl_refl _ _) | (with_reducible refine onl_drewN ?_ _) | (with_reducible refine onl_drew ?_) | (with_reducible refine onl_alloc ?_ _) | (with_reducible refine onl_set ?_ (Or.inr ?_) _) | go_size))) G1
  have z1 : CellsAt w1 w.heap.size 0 [.int .i64 0, .int .i64 0, .int .i64 0, .int .i64 0, .int .i64 0, .int .i64 0] := cells_keep (by (simp only [CellsAt]; (first | (go_simp; done) | ((repeat' (with_reducible refine And.intro ?_ ?_)) <;> (repeat' (first | (with_reducible assumption) | (with_reducible exact trivial) | (with_reducible refine kA _ ?_) | (with_reducible refine kD ?_) | (with_reducible refine kS _ ?_ ?_) | (with_reducible refine fA _ ?_ ?_) | (with_reducible refine fD ?_) | (with_reducible refine fS _ ?_) | go_size | (go_simp; done))))))) (fun o => onl_cell G1 (by go_size) (by omega) o) (fun o => onl_frozen G1 (by go_size) (by omega) o)
  simp only [CellsAt] at z1
  go_wp2_with fail
  exact bodyPost_ret (v := .tuple #[.agg #[.int .i64 0, .int .i64 0, .int .i64 0, .int .i64 0, .int .i64 0, .int .i64 0], .bool false]) (by simp [results, Tryd.results18, go_sem, z1]) rfl ⟨0, 0, 0, 0, 0, 0, false, 0, ⟨by omega, .inr ⟨by simp, rfl⟩⟩, rfl, by repeat' (first | (with_reducible assumption) | (with_reducible refine rdr_set ?_ ?_ _) | go_size), by (repeat' (first | (with_reducible assumption) | (with_reducible exact onl_refl _ _) | (with_reducible refine onl_drewN ?_ _) | (with_reducible refine onl_drew ?_) | (with_reducible refine onl_alloc ?_ _) | (with_reducible refine onl_set ?_ (Or.inr ?_) _) | go_size))⟩

theorem prs_two {f : Nat} {l : List UInt8} {v : List Int} (h : l.length = 2) : prs (f + 1) l 1 0 false v = none := by
  by_cases hT : ((l.getD 1 0).toNat : Int) = 84
  · rw [prs_T (by omega) hT, if_pos (by omega)]
  · rw [prs_I (by omega) (by rintro ⟨x, _⟩; exact hT x), itm_none (by omega)]
theorem pf_prs {l : List UInt8} (h : 2 ≤ l.length) (h2 : ((l.getD 0 0).toNat : Int) = 80) : pfL l = prs (l.length + 1) l 1 0 false [0, 0, 0, 0, 0, 0] := by
  by_cases h3 : l.length < 3
  · rw [pf_short h3, prs_two (by omega)]
  · exact pf_go h3 h2
/-- the text is "P" alone -/
theorem rdr_cell {w : World} {r q : Nat} {s : ByteArray} (h : Rdr w r s q) : w.cell? ⟨r, 1, none⟩ = some (.int .i64 q) := h.2.1
set_option maxRecDepth 100000 in
set_option maxHeartbeats 4000000 in
theorem period_W (r : Nat) (s : ByteArray) (w : World) (hs : s.size ≤ 1099511627776) (h : Rdr w r s 0) (h0 : 0 < s.size) (h80 : ((s[0].toNat : Int) == 80) = true) (k : Nat) (n : Int) (hk : runL s.data.toList 1 = k) (hn : numAt s.data.toList 1 k = n) (hk1 : 1 ≤ k) (hk2 : k ≤ 4) (hkk : 1 + k < s.size) (hW : ((s[1 + k].toNat : Int) == 87) = true) : Calls Tryd.prog 18 #[.pointer (some ⟨r, 0, none⟩)] w (PerE w r s (pfL s.data.toList)) := by
  have hl : s.data.toList.length = s.size := by simp
  have e80 : ((s.data.toList.getD 0 0).toNat : Int) = 80 := by rw [getD_eq s 0 h0]; simpa using h80
  have hR := pf_prs (l := s.data.toList) (by omega) e80
  have hd : isDg s[1] = true := (runL_lt (l := s.data.toList) (p := 1) (j := 0) (by omega)).2
  have hT : ¬ (((s.data.toList.getD 1 0).toNat : Int) = 84 ∧ false = false) := by
    rw [getD_eq s 1 (by omega)]
    have := isDg_bd hd
    omega
  rw [prs_I (by omega) hT, itm_W (by rw [hk, hl]; omega) (by rw [hk, getD_eq s _ hkk]; simpa using hW), hk, hn, hl] at hR
  have HR := Lib.hid hR
  have nb := numAt_bd (l := s.data.toList) (p := 1) (k := k) (by omega)
  have pw : (10 : Int) ^ k ≤ 10000 := by
    have : k = 1 ∨ k = 2 ∨ k = 3 ∨ k = 4 := by omega
    rcases this with rfl | rfl | rfl | rfl <;> decide
  rw [hn] at nb
  have n1 : 0 ≤ n := nb.1
  have n2 : n ≤ 9999 := by omega
  have hlt := h.2.2.2
  have HD := Lib.hid h
  have TP := Lib.hid (fun w' (h' : Rdr w' r s 0) => take_yes r s 0 80 w' h' hs h0 h80)
  have FW := Lib.hid (fun w' (h' : Rdr w' r s (0 + 1)) => few_yes r s 1 w' h' hs (by omega) k hk hk1 hk2)
  rw [hn] at FW
  have TW := Lib.hid (fun w' (h' : Rdr w' r s (1 + k)) => take_yes r s (1 + k) 87 w' h' hs hkk hW)
  have HK := Lib.hid hk
  clear hR hd hT e80 nb pw h80 hW hk hn h
  go_enter Tryd.func18, Tryd.ntmps18
  go_wp2_with fail
  refine (TP.out _ (rdr_alloc (rdr_alloc HD.out _) _)).mono ?_
  rintro e w1 ⟨_, rfl, Rw1, Gw1⟩
  have sw1 := Gw1.size
  (try simp at sw1)
  have Ow1 : Onl r w w1 := onl_trans (by (repeat' (first | (with_reducible assumption) | (with_reducible exact onl_refl _ _) | (with_reducible refine onl_drewN ?_ _) | (with_reducible refine onl_drew ?_) | (with_reducible refine onl_alloc ?_ _) | (with_reducible refine onl_set ?_ (Or.inr ?_) _) | go_size))) Gw1
  have lw1_0 : w.heap.size < w1.heap.size := (by go_size)
  have zw1_wH : CellsAt w1 (w.heap.size) 0 [.int .i64 0, .int .i64 0, .int .i64 0, .int .i64 0, .int .i64 0, .int .i64 0] := cells_keep (by (simp only [CellsAt]; (first | (go_simp; done) | ((repeat' (with_reducible refine And.intro ?_ ?_)) <;> (repeat' (first | (with_reducible assumption) | (with_reducible exact trivial) | (with_reducible refine kA _ ?_) | (with_reducible refine kD ?_) | (with_reducible refine kS _ ?_ ?_) | (with_reducible refine fA _ ?_ ?_) | (with_reducible refine fD ?_) | (with_reducible refine fS _ ?_) | go_size | (go_simp; done))))))) (fun o => onl_cell Gw1 (by go_size) (by omega) o) (fun o => onl_frozen Gw1 (by go_size) (by omega) o)
  have lw1_1 : w.heap.size+1 < w1.heap.size := (by go_size)
  have zw1_wH1 : CellsAt w1 (w.heap.size+1) 0 [.int .i64 0, .int .i64 0, .int .i64 0, .int .i64 0, .int .i64 0, .int .i64 0] := cells_keep (by (simp only [CellsAt]; (first | (go_simp; done) | ((repeat' (with_reducible refine And.intro ?_ ?_)) <;> (repeat' (first | (with_reducible assumption) | (with_reducible exact trivial) | (with_reducible refine kA _ ?_) | (with_reducible refine kD ?_) | (with_reducible refine kS _ ?_ ?_) | (with_reducible refine fA _ ?_ ?_) | (with_reducible refine fD ?_) | (with_reducible refine fS _ ?_) | go_size | (go_simp; done))))))) (fun o => onl_cell Gw1 (by go_size) (by omega) o) (fun o => onl_frozen Gw1 (by go_size) (by omega) o)
  simp only [CellsAt] at zw1_wH
  simp only [CellsAt] at zw1_wH1
  have c1 := rdr_cell Rw1
  go_wp2_with fail
  refine (FW.out _ Rw1).mono ?_
  rintro e w2 ⟨_, rfl, Rw2, Gw2⟩
  have sw2 := Gw2.size
  (try simp at sw2)
  have Ow2 : Onl r w w2 := onl_trans (by (repeat' (first | (with_reducible assumption) | (with_reducible exact onl_refl _ _) | (with_reducible refine onl_drewN ?_ _) | (with_reducible refine onl_drew ?_) | (with_reducible refine onl_alloc ?_ _) | (with_reducible refine onl_set ?_ (Or.inr ?_) _) | go_size))) Gw2
  have lw2_0 : w.heap.size < w2.heap.size := (by go_size)
  have zw2_wH : CellsAt w2 (w.heap.size) 0 [.int .i64 0, .int .i64 0, .int .i64 0, .int .i64 0, .int .i64 0, .int .i64 0] := cells_keep (by (simp only [CellsAt]; (first | (go_simp; done) | ((repeat' (with_reducible refine And.intro ?_ ?_)) <;> (repeat' (first | (with_reducible assumption) | (with_reducible exact trivial) | (with_reducible refine kA _ ?_) | (with_reducible refine kD ?_) | (with_reducible refine kS _ ?_ ?_) | (with_reducible refine fA _ ?_ ?_) | (with_reducible refine fD ?_) | (with_reducible refine fS _ ?_) | go_size | (go_simp; done))))))) (fun o => onl_cell Gw2 (by go_size) (by omega) o) (fun o => onl_frozen Gw2 (by go_size) (by omega) o)
  have lw2_1 : w.heap.size+1 < w2.heap.size := (by go_size)
  have zw2_wH1 : CellsAt w2 (w.heap.size+1) 0 [.int .i64 0, .int .i64 0, .int .i64 0, .int .i64 0, .int .i64 0, .int .i64 0] := cells_keep (by (simp only [CellsAt]; (first | (go_simp; done) | ((repeat' (with_reducible refine And.intro ?_ ?_)) <;> (repeat' (first | (with_reducible assumption) | (with_reducible exact trivial) | (with_reducible refine kA _ ?_) | (with_reducible refine kD ?_) | (with_reducible refine kS _ ?_ ?_) | (with_reducible refine fA _ ?_ ?_) | (with_reducible refine fD ?_) | (with_reducible refine fS _ ?_) | go_size | (go_simp; done))))))) (fun o => onl_cell Gw2 (by go_size) (by omega) o) (fun o => onl_frozen Gw2 (by go_size) (by omega) o)
  simp only [CellsAt] at zw2_wH
  simp only [CellsAt] at zw2_wH1
  clear zw1_wH zw1_wH1
  clear c1
  go_wp2_with fail
  refine (TW.out _ Rw2).mono ?_
  rintro e w3 ⟨_, rfl, Rw3, Gw3⟩
  have sw3 := Gw3.size
  (try simp at sw3)
  have Ow3 : Onl r w w3 := onl_trans (by (repeat' (first | (with_reducible assumption) | (with_reducible exact onl_refl _ _) | (with_reducible refine onl_drewN ?_ _) | (with_reducible refine onl_drew ?_) | (with_reducible refine onl_alloc ?_ _) | (with_reducible refine onl_set ?_ (Or.inr ?_) _) | go_size))) Gw3
  have lw3_0 : w.heap.size < w3.heap.size := (by go_size)
  have zw3_wH : CellsAt w3 (w.heap.size) 0 [.int .i64 0, .int .i64 0, .int .i64 0, .int .i64 0, .int .i64 0, .int .i64 0] := cells_keep (by (simp only [CellsAt]; (first | (go_simp; done) | ((repeat' (with_reducible refine And.intro ?_ ?_)) <;> (repeat' (first | (with_reducible assumption) | (with_reducible exact trivial) | (with_reducible refine kA _ ?_) | (with_reducible refine kD ?_) | (with_reducible refine kS _ ?_ ?_) | (with_reducible refine fA _ ?_ ?_) | (with_reducible refine fD ?_) | (with_reducible refine fS _ ?_) | go_size | (go_simp; done))))))) (fun o => onl_cell Gw3 (by go_size) (by omega) o) (fun o => onl_frozen Gw3 (by go_size) (by omega) o)
  have lw3_1 : w.heap.size+1 < w3.heap.size := (by go_size)
  have zw3_wH1 : CellsAt w3 (w.heap.size+1) 0 [.int .i64 0, .int .i64 0, .int .i64 0, .int .i64 0, .int .i64 0, .int .i64 0] := cells_keep (by (simp only [CellsAt]; (first | (go_simp; done) | ((repeat' (with_reducible refine And.intro ?_ ?_)) <;> (repeat' (first | (with_reducible assumption) | (with_reducible exact trivial) | (with_reducible refine kA _ ?_) | (with_reducible refine kD ?_) | (with_reducible refine kS _ ?_ ?_) | (with_reducible refine fA _ ?_ ?_) | (with_reducible refine fD ?_) | (with_reducible refine fS _ ?_) | go_size | (go_simp; done))))))) (fun o => onl_cell Gw3 (by go_size) (by omega) o) (fun o => onl_frozen Gw3 (by go_size) (by omega) o)
  simp only [CellsAt] at zw3_wH
  simp only [CellsAt] at zw3_wH1
  clear zw2_wH zw2_wH1
  go_wp2_with fail
  go_region
  all_goals
    go_wp2_with fail
    exact bodyPost_ret (v := .tuple #[.agg #[.int .i64 0, .int .i64 0, .int .i64 (7 * n), .int .i64 0, .int .i64 0, .int .i64 0], .bool (decide (7 * n ≤ 9999))]) (by simp [results, Tryd.results18, go_sem, zw3_wH, zw3_wH1]) rfl ⟨0, 0, 7 * n, 0, 0, 0, decide (7 * n ≤ 9999), 1 + k + 1, ⟨by omega, by
      rw [HR.out]
      by_cases q : 1 + k + 1 = s.size ∧ 7 * n ≤ 9999
      · exact .inl ⟨by simpa using q.2, q.1, by rw [if_pos (by first | exact ⟨rfl, q⟩ | exact ⟨trivial, q⟩)]⟩
      · exact .inr ⟨by rintro ⟨x1, x2⟩; exact q ⟨x2, by simpa using x1⟩, by rw [if_neg (by rintro ⟨_, x⟩; exact q x)]⟩⟩, rfl, by repeat' (first | (with_reducible assumption) | (with_reducible refine rdr_set ?_ ?_ _) | (with_reducible refine rdr_drew ?_ _) | (with_reducible refine rdr_drew1 ?_) | go_size), by (repeat' (first | (with_reducible assumption) | (with_reducible exact onl_refl _ _) | (with_reducible refine onl_drewN ?_ _) | (with_reducible refine onl_drew ?_) | (with_reducible refine onl_alloc ?_ _) | (with_reducible refine onl_set ?_ (Or.inr ?_) _) | go_size))⟩
end Go.Proofs.YtmdmahgplmijcaaDoor
