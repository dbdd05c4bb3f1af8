/- What the draw of a text of tags gives: a short text; only new blocks change. No condition. -/
import Derived.Test.YtbgpdjceofofoaaDrawTags
import Derived.Test.YtbgpdjceofofoaaTagF
import Derived.Test.YtbgpdjceofofoaaRdOf
namespace Go.Proofs.Ytbgpdjceofofoaa
open Go.RowKit DN
set_option linter.unusedVariables false
set_option linter.unusedSimpArgs false

theorem tt_out (l : List Tg) (b : Bool) (h : tsB l = b) (hl : l.length ≤ 3) : ∃ X : ByteArray, X.size ≤ 100 ∧ ttOut l b = .tuple #[.string X, .bool b] := by
  cases b
  · exact ⟨⟨#[]⟩, by decide, rfl⟩
  · have hts := ts_iff.1 h
    refine ⟨rsL l, ?_, ?_⟩
    · have := rs_size hts; omega
    · unfold ttOut; rw [if_pos rfl, tx_all]
/-- a short text drawn out of a slice of bytes -/
def DrawnTF0 (w : World) (M : Nat) (e : Ending) (w' : World) : Prop := ∃ s : ByteArray, s.size ≤ M ∧ e = .returned (.string s) ∧ Below w.heap.size w w'
set_option maxRecDepth 100000 in
set_option maxHeartbeats 4000000 in
theorem DrawTagsFrom_any (w0 : World) (a : Option Addr) (len cap : Nat) (zs : List Int) (h : IsRow .u8 w0 a len cap zs) : Calls Try.prog 41 #[.slice a len cap] w0 (DrawnTF0 w0 120) := by
  have H1 := Lib.hid h
  clear h
  go_enter Try.func41, Try.ntmps41
  go_wp2_with fail
  refine (open_any _ _ _ _ _ H1.out).mono ?_
  rintro e w ⟨rfl, R0, bw⟩
  have sw := bw.size
  (try simp at sw)
  have Aw : Below w0.heap.size w0 w := Below.trans (by (repeat' (first | (with_reducible assumption) | (with_reducible exact Below.refl _ _) | (with_reducible refine bdN ?_ _) | (with_reducible refine Below.alloc ?_ ?_ _) | (with_reducible refine Below.drew ?_) | (with_reducible refine Below.setCell ?_ ?_ _) | go_size))) (bw.mono (by go_size))
  clear bw
  (try simp at R0)
  have hlt := rd_lt R0
  obtain ⟨r, hr⟩ : ∃ r, w0.heap.size = r := ⟨_, rfl⟩
  rw [hr] at R0 hlt
  have HR := Lib.hid hr
  have r1 : w0.heap.size ≤ r := by omega
  go_wp2_with fail
  clear hr
  refine (l92Tags_any _ r 0 (by (repeat' (first | (with_reducible assumption) | (with_reducible refine rd_alloc ?_ _) | (with_reducible refine rd_drewN ?_ _) | (with_reducible refine rd_drew ?_) | (with_reducible refine rd_set ?_ ?_ _) | go_size))) (by omega)).mono ?_
  rintro e w1 ⟨l, g, cap1, hs, rfl, row, R1, O1⟩
  have hsl := hs.2
  obtain ⟨tb, htb⟩ : ∃ tb, tsB l = tb := ⟨_, rfl⟩
  have TS := Lib.hid (fun w' (h1 : IsTags w' (some ⟨g, 0, none⟩) l.length l) => TagsText_s (some ⟨g, 0, none⟩) l.length cap1 l w' h1 (fun i hi => ⟨by have := (hs.1 i hi).1; omega, by have := (hs.1 i hi).2; omega⟩) (by omega))
  obtain ⟨X, hXs, hX⟩ := tt_out l tb htb hsl
  rw [htb, hX] at TS
  clear htb hX hs
  have hlt1 : r < w1.heap.size := rd_lt R1
  go_wp2_with fail
  refine (TS.out _ (rowT_is row)).mono ?_
  rintro e w2 ⟨rfl, b2⟩
  have O2 : Onl r w w2 := onl_of_below O1 b2
  have R2 : Rd w2 r (0 + 31) := rd_keep R1 (b2.mono (by omega))
  have so2 := O2.size
  clear b2 row O1 R1
  go_wp2_with fail
  refine (pick_any _ r 31 _ R2 (by omega) (by omega) (by omega)).mono ?_
  rintro e w3 ⟨q, hq1, hq2, rfl, Rw3, Gw3⟩
  have sw3 := Gw3.size
  (try simp at sw3)
  have Ow3 : Onl r w w3 := onl_trans (by (repeat' (first | (with_reducible assumption) | (with_reducible exact onl_refl _ _) | (with_reducible refine onl_drewN ?_ _) | (with_reducible refine onl_drew ?_) | (with_reducible refine onl_alloc ?_ _) | (with_reducible refine onl_set ?_ (Or.inr ?_) _) | go_size))) Gw3
  rcases (show q = 0 ∨ q = 1 ∨ 2 ≤ q by omega) with rfl | rfl | hq
  · go_wp2_with fail
    refine (of_any _ r (31 + 1) _ 7 _ (fun s => s.size ≤ 8) (by (repeat' (first | (with_reducible assumption) | (with_reducible refine rd_alloc ?_ _) | (with_reducible refine rd_drewN ?_ _) | (with_reducible refine rd_drew ?_) | (with_reducible refine rd_set ?_ ?_ _) | go_size))) (by omega) (by omega) (by omega) (by go_size) (by omega) (by intro i hi; have hi' : i = 0 ∨ i = 1 ∨ i = 2 ∨ i = 3 ∨ i = 4 ∨ i = 5 ∨ i = 6 := (by omega); rcases hi' with rfl | rfl | rfl | rfl | rfl | rfl | rfl <;> exact ⟨_, by go_simp; rfl, by decide⟩)).mono ?_
    rintro e w4 ⟨s, hs, rfl, Rw4, Gw4⟩
    have sw4 := Gw4.size
    (try simp at sw4)
    have Ow4 : Onl r w w4 := onl_trans (by (repeat' (first | (with_reducible assumption) | (with_reducible exact onl_refl _ _) | (with_reducible refine onl_drewN ?_ _) | (with_reducible refine onl_drew ?_) | (with_reducible refine onl_alloc ?_ _) | (with_reducible refine onl_set ?_ (Or.inr ?_) _) | go_size))) Gw4
    go_wp2_with fail
    have A4 : Below w0.heap.size w0 w4 := Aw.trans (onl_below Ow4 (by omega) Aw.size)
    go_ret
    exact ⟨_, by rw [ByteArray.size_append]; omega, rfl, by (repeat' (first | (with_reducible assumption) | (with_reducible exact Below.refl _ _) | (with_reducible refine bdN ?_ _) | (with_reducible refine Below.alloc ?_ ?_ _) | (with_reducible refine Below.drew ?_) | (with_reducible refine Below.setCell ?_ ?_ _) | go_size))⟩
  · go_wp2_with fail
    refine (of_any _ r (31 + 1) _ 6 _ (fun s => s.size ≤ 12) (by (repeat' (first | (with_reducible assumption) | (with_reducible refine rd_alloc ?_ _) | (with_reducible refine rd_drewN ?_ _) | (with_reducible refine rd_drew ?_) | (with_reducible refine rd_set ?_ ?_ _) | go_size))) (by omega) (by omega) (by omega) (by go_size) (by omega) (by intro i hi; have hi' : i = 0 ∨ i = 1 ∨ i = 2 ∨ i = 3 ∨ i = 4 ∨ i = 5 := (by omega); rcases hi' with rfl | rfl | rfl | rfl | rfl | rfl <;> exact ⟨_, by go_simp; rfl, by decide⟩)).mono ?_
    rintro e w4 ⟨s, hs, rfl, Rw4, Gw4⟩
    have sw4 := Gw4.size
    (try simp at sw4)
    have Ow4 : Onl r w w4 := onl_trans (by (repeat' (first | (with_reducible assumption) | (with_reducible exact onl_refl _ _) | (with_reducible refine onl_drewN ?_ _) | (with_reducible refine onl_drew ?_) | (with_reducible refine onl_alloc ?_ _) | (with_reducible refine onl_set ?_ (Or.inr ?_) _) | go_size))) Gw4
    go_wp2_with fail
    have A4 : Below w0.heap.size w0 w4 := Aw.trans (onl_below Ow4 (by omega) Aw.size)
    go_ret
    exact ⟨_, by omega, rfl, by (repeat' (first | (with_reducible assumption) | (with_reducible exact Below.refl _ _) | (with_reducible refine bdN ?_ _) | (with_reducible refine Below.alloc ?_ ?_ _) | (with_reducible refine Below.drew ?_) | (with_reducible refine Below.setCell ?_ ?_ _) | go_size))⟩
  · have hq0 : (q == 0) = false := by simp; omega
    have hq1' : (q == 1) = false := by simp; omega
    go_wp2_with fail
    have A4 : Below w0.heap.size w0 w3 := Aw.trans (onl_below Ow3 (by omega) Aw.size)
    go_ret
    exact ⟨_, by omega, rfl, by (repeat' (first | (with_reducible assumption) | (with_reducible exact Below.refl _ _) | (with_reducible refine bdN ?_ _) | (with_reducible refine Below.alloc ?_ ?_ _) | (with_reducible refine Below.drew ?_) | (with_reducible refine Below.setCell ?_ ?_ _) | go_size))⟩
end Go.Proofs.Ytbgpdjceofofoaa
