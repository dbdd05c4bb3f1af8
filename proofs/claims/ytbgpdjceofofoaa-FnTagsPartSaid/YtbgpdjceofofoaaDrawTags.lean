/- What the draws of lists of tags give: at most three tags with short texts, in a row of their own; only new blocks change. No condition. -/
import Derived.Test.YtbgpdjceofofoaaDrawTag
import Derived.Test.YtbgpdjceofofoaaTagsAl
import Derived.OwnWalk
import Derived.Laws.AppendOwn
import Derived.Maps.AppendAt
namespace Go.Proofs.Ytbgpdjceofofoaa
open Go.RowKit DN
set_option linter.unusedVariables false
set_option linter.unusedSimpArgs false

theorem onl_below2 {r : Nat} {a w w' : World} (h : Onl r a w) (k : Below a.heap.size w w') : Onl r a w' :=
  ⟨k.os.trans h.os, k.tape.trans h.tape, k.output.trans h.output, Nat.le_trans h.size k.size, fun i hi hr => (k.block i hi).trans (h.block i hi hr)⟩
/-- the cells of tags -/
def flat : List Tg → List Value
  | [] => []
  | t :: l => .string t.1 :: .string t.2.1 :: .bool t.2.2 :: flat l
theorem flat_len (l : List Tg) : (flat l).length = l.length * 3 := by
  induction l with
  | nil => rfl
  | cons t l ih => simp only [flat, List.length_cons, ih]; omega
theorem flat_snoc (l : List Tg) (t : Tg) : flat (l ++ [t]) = flat l ++ [.string t.1, .string t.2.1, .bool t.2.2] := by
  induction l with
  | nil => rfl
  | cons u l ih => simp only [flat, List.cons_append, ih]
theorem flat_at (l : List Tg) : ∀ i, i < l.length → (flat l)[i * 3]? = some (.string (tgK l i)) ∧ (flat l)[i * 3 + 1]? = some (.string (tgV l i)) ∧ (flat l)[i * 3 + 2]? = some (.bool (tgC l i)) := by
  induction l with
  | nil => intro i hi; simp at hi
  | cons t l ih =>
    intro i hi
    cases i with
    | zero => exact ⟨rfl, rfl, rfl⟩
    | succ i =>
      obtain ⟨h1, h2, h3⟩ := ih i (by simpa using hi)
      have e : (i + 1) * 3 = i * 3 + 1 + 1 + 1 := by omega
      rw [e]
      exact ⟨h1, h2, h3⟩
/-- a row of tags of the call's own -/
def RowT (w : World) (base g cap : Nat) (l : List Tg) : Prop := w.ownsRow base 26 3 (.slice (some ⟨g, 0, none⟩) l.length cap) l.length (flat l)
theorem add0 (g j : Nat) : (⟨g, 0, none⟩ : Addr).add j = ⟨g, j, none⟩ := by
  cases j with
  | zero => simp [Addr.add]
  | succ j => simp [Addr.add]
theorem rowT_lt {w : World} {base g cap : Nat} {l : List Tg} (h : RowT w base g cap l) : base ≤ g ∧ g < w.heap.size := World.ownsRow.lt h g rfl
theorem rowT_at {w : World} {base g cap : Nat} {l : List Tg} (h : RowT w base g cap l) : TagsAt w g 0 l := by
  intro i hi
  obtain ⟨h1, h2, h3⟩ := flat_at l i hi
  have hc : ∀ j u, (flat l)[j]? = some u → w.cell? ⟨g, 0 + j, none⟩ = some u := fun j u hu => by have := World.ownsRow.cells h rfl j u hu; rw [add0] at this; rw [Nat.zero_add]; exact this
  exact ⟨hc _ _ h1, hc _ _ h2, hc _ _ h3⟩
theorem rowT_is {w : World} {base g cap : Nat} {l : List Tg} (h : RowT w base g cap l) : IsTags w (some ⟨g, 0, none⟩) l.length l := ⟨rfl, .inr ⟨g, 0, rfl, (rowT_lt h).2, rowT_at h⟩⟩
theorem rowT_keep {w w' : World} {base g cap B : Nat} {l : List Tg} (h : RowT w base g cap l) (k : Below B w w') (hB : g < B) : RowT w' base g cap l := by
  obtain ⟨h1, h2⟩ := h
  refine ⟨h1, ?_⟩
  rcases h2 with ⟨h, _⟩ | ⟨g', cap', cur, e, hb, hg, rest⟩
  · cases h
  · injection e with e1 e2 e3
    injection e1 with e1
    injection e1 with e1
    subst e1
    exact .inr ⟨_, _, cur, by rw [e3], hb, by rw [k.block _ hB]; exact hg, by rw [← e3]; rw [e3]; exact rest⟩
theorem rowT_onl {w w' : World} {base g cap r : Nat} {l : List Tg} (h : RowT w base g cap l) (k : Onl r w w') (hr : g ≠ r) : RowT w' base g cap l :=
  World.ownsRow.kept h k (.inr (by intro e; injection e with e; exact hr e))
theorem rowT_alloc {w : World} {base g cap : Nat} {l : List Tg} (h : RowT w base g cap l) (o : Obj) : RowT (w.alloc o) base g cap l := World.ownsRow.alloc h o
theorem rowT_drewN {w : World} {base g cap : Nat} {l : List Tg} (h : RowT w base g cap l) (n : Nat) : RowT (w.drewN n) base g cap l := h
theorem rowT_of {w : World} {base : Nat} {v : Value} {l : List Tg} {k v1 : ByteArray} {c : Bool} (h : w.ownsRow base 26 3 v (l.length + 1) (flat l ++ [.string k, .string v1, .bool c])) (hn : v ≠ .slice none 0 0) : ∃ g cap, v = .slice (some ⟨g, 0, none⟩) (l ++ [(k, v1, c)]).length cap ∧ RowT w base g cap (l ++ [(k, v1, c)]) := by
  have e : (l ++ [(k, v1, c)]).length = l.length + 1 := by simp
  rcases h.2 with ⟨h0, _⟩ | ⟨g, cap, cur, rfl, _⟩
  · exact absurd h0 hn
  · refine ⟨g, cap, by rw [e], ?_⟩
    unfold RowT
    rw [e, flat_snoc]
    exact h
theorem szT_snoc {l : List Tg} {k v : ByteArray} {c : Bool} {n : Nat} (h : szT l n) (hk : k.size ≤ n) (hv : v.size ≤ n) : szT (l ++ [(k, v, c)]) n := by
  intro i hi
  by_cases x : i < l.length
  · have e : (l ++ [(k, v, c)]).getD i (⟨#[]⟩, ⟨#[]⟩, false) = l.getD i (⟨#[]⟩, ⟨#[]⟩, false) := by rw [List.getD_eq_getElem?_getD, List.getD_eq_getElem?_getD, List.getElem?_append_left x]
    unfold tgK tgV
    rw [e]
    exact h i x
  · have e : (l ++ [(k, v, c)]).getD i (⟨#[]⟩, ⟨#[]⟩, false) = (k, v, c) := by
      obtain rfl : i = l.length := by simp at hi; omega
      rw [List.getD_eq_getElem?_getD]; simp
    unfold tgK tgV
    rw [e]
    exact ⟨hk, hv⟩
theorem tagInfo : (Try.prog.info? 26).map (fun i => (i.zero, i.size, i.bytes)) = some (some (.agg #[.string ⟨#[]⟩, .string ⟨#[]⟩, .bool false]), 3, 40) := by kernel_rfl

/-- drawn tags -/
def DrawnTags (w : World) (r N : Nat) (e : Ending) (w' : World) : Prop := ∃ (l : List Tg) (g cap : Nat), (szT l 16 ∧ l.length ≤ 3) ∧ e = .returned (.slice (some ⟨g, 0, none⟩) l.length cap) ∧ RowT w' w.heap.size g cap l ∧ Rd w' r N ∧ Onl r w w'
set_option maxRecDepth 100000 in
set_option maxHeartbeats 8000000 in
theorem l92Tags_any (w : World) (r N : Nat) (hr : Rd w r N) (hN : N ≤ 70000) : Calls Try.prog 49 #[.pointer (some ⟨r, 0, none⟩)] w (DrawnTags w r (N + 31)) := by
  have hlt := rd_lt hr
  obtain ⟨i0, hi, hz0, hz1, hz2⟩ := info_parts tagInfo
  have HI0 := Lib.hid hi
  have HZ0 := Lib.hid hz0
  have HZ1 := Lib.hid hz1
  have HZ2 := Lib.hid hz2
  clear hi hz0 hz1 hz2
  go_enter Try.func49, Try.ntmps49
  go_wp2_with fail
  have row0 : RowT (w.alloc (.cells #[] 26)) w.heap.size w.heap.size 0 [] := World.ownsRow_made w #[] 0 (Nat.le_refl _) (Nat.zero_le _) rfl
  refine (pick_any _ r N _ (by (repeat' (first | (with_reducible assumption) | (with_reducible refine rd_alloc ?_ _) | (with_reducible refine rd_drewN ?_ _) | (with_reducible refine rd_drew ?_) | (with_reducible refine rd_set ?_ ?_ _) | go_size))) (by omega) (by omega) (by omega)).mono ?_
  rintro e w1 ⟨n, hn1, hn2, rfl, Rw1, Gw1⟩
  have sw1 := Gw1.size
  (try simp at sw1)
  have Ow1 : Onl r w w1 := onl_trans (by (repeat' (first | (with_reducible assumption) | (with_reducible exact onl_refl _ _) | (with_reducible refine onl_drewN ?_ _) | (with_reducible refine onl_drew ?_) | (with_reducible refine onl_alloc ?_ _) | (with_reducible refine onl_set ?_ (Or.inr ?_) _) | go_size))) Gw1
  have row1 : RowT w1 w.heap.size w.heap.size 0 [] := rowT_onl row0 Gw1 (by omega)
  clear row0
  go_wp2_with fail
  go_loopg [3, 5] 3 (fun gg out iv wr => ∃ (k : Nat) (l : List Tg) (g cap : Nat), gg = 3 - k ∧ k ≤ 3 ∧ (k : Int) ≤ n ∧ iv = .int .i64 k ∧ out = .slice (some ⟨g, 0, none⟩) l.length cap ∧ szT l 16 ∧ l.length ≤ k ∧ RowT wr w.heap.size g cap l ∧ Rd wr r (N + 1 + 10 * k) ∧ Onl r w wr)
  case atStart => exact ⟨0, [], w.heap.size, 0, rfl, by omega, by omega, rfl, rfl, (fun i hi => by simp at hi), Nat.zero_le _, row1, Rw1, Ow1⟩
  case round =>
    obtain ⟨k, l, g, cap, rfl, hk3, hkn, rfl, rfl, hzl, hll, hrow, hrd, honl⟩ := hrel
    have HZL := Lib.hid hzl
    have hg := rowT_lt hrow
    have hsr := honl.size
    clear hzl row1
    by_cases hlt2 : (k : Int) < n
    · go_upto_region 6 with fail
      go_cut [6] (fun tv wx => ∃ (b : Nat) (kk vv : ByteArray) (cc : Bool), tv = .pointer (some ⟨b, 0, none⟩) ∧ (kk.size ≤ 16 ∧ vv.size ≤ 16) ∧ CellsAt wx b 0 [.string kk, .string vv, .bool cc] ∧ b < wx.heap.size ∧ b ≠ r ∧ b ≠ g ∧ RowT wx w.heap.size g cap l ∧ Rd wx r (N + 1 + 10 * k + 9) ∧ Onl r w wx)
      case first =>
        by_cases hk0 : k = 0
        · have hk00 : ((k : Int) == 0) = true := by simp [hk0]
          have HK0 := Lib.hid hk0
          clear hk0
          go_wp2_with fail
          refine (pick_any _ r (N + 1 + 10 * k) _ hrd (by omega) (by omega) (by omega)).mono ?_
          rintro e w2 ⟨q, hq1, hq2, rfl, Rw2, Gw2⟩
          have sw2 := Gw2.size
          (try simp at sw2)
          have Ow2 : Onl r w w2 := onl_trans (by (repeat' (first | (with_reducible assumption) | (with_reducible exact onl_refl _ _) | (with_reducible refine onl_drewN ?_ _) | (with_reducible refine onl_drew ?_) | (with_reducible refine onl_alloc ?_ _) | (with_reducible refine onl_set ?_ (Or.inr ?_) _) | go_size))) Gw2
          have row2 := rowT_onl hrow Gw2 (by omega)
          obtain ⟨zb, hzb⟩ : ∃ zb, (q == 0) = zb := ⟨_, rfl⟩
          go_wp2_with fail
          try rw [hzb]
          clear hzb
          refine (l92Tag_any _ r (N + 1 + 10 * k + 1) zb (by (repeat' (first | (with_reducible assumption) | (with_reducible refine rd_alloc ?_ _) | (with_reducible refine rd_drewN ?_ _) | (with_reducible refine rd_drew ?_) | (with_reducible refine rd_set ?_ ?_ _) | go_size))) (by omega)).mono ?_
          rintro e w3 ⟨kk, vv, cc, hs, rfl, Rw3, Gw3⟩
          have sw3 := Gw3.size
          (try simp at sw3)
          have Ow3 : Onl r w w3 := onl_trans (by (repeat' (first | (with_reducible assumption) | (with_reducible exact onl_refl _ _) | (with_reducible refine onl_drewN ?_ _) | (with_reducible refine onl_drew ?_) | (with_reducible refine onl_alloc ?_ _) | (with_reducible refine onl_set ?_ (Or.inr ?_) _) | go_size))) Gw3
          have row3 := rowT_onl row2 Gw3 (by omega)
          have HS := Lib.hid hs
          clear hs
          go_wp2_with fail
          go_meet
          exact ⟨w3.heap.size, kk, vv, cc, rfl, HS.out, by (simp only [CellsAt]; (first | (go_simp; done) | ((repeat' (with_reducible refine And.intro ?_ ?_)) <;> (repeat' (first | (with_reducible assumption) | (with_reducible exact trivial) | (with_reducible refine kA _ ?_) | (with_reducible refine kD ?_) | (with_reducible refine kS _ ?_ ?_) | (with_reducible refine fA _ ?_ ?_) | (with_reducible refine fD ?_) | (with_reducible refine fS _ ?_) | go_size | (go_simp; done)))))), by go_size, by omega, by have := (rowT_lt row3).2; omega, rowT_alloc row3 _, rd_le (rd_alloc Rw3 _) (by omega), onl_alloc Ow3 _⟩
        · have hk00 : ((k : Int) == 0) = false := by simp; omega
          clear hk0
          go_wp2_with fail
          refine (l92Tag_any _ r (N + 1 + 10 * k) false hrd (by omega)).mono ?_
          rintro e w3 ⟨kk, vv, cc, hs, rfl, Rw3, Gw3⟩
          have sw3 := Gw3.size
          (try simp at sw3)
          have Ow3 : Onl r w w3 := onl_trans (by (repeat' (first | (with_reducible assumption) | (with_reducible exact onl_refl _ _) | (with_reducible refine onl_drewN ?_ _) | (with_reducible refine onl_drew ?_) | (with_reducible refine onl_alloc ?_ _) | (with_reducible refine onl_set ?_ (Or.inr ?_) _) | go_size))) Gw3
          have row3 := rowT_onl hrow Gw3 (by omega)
          have HS := Lib.hid hs
          clear hs
          go_wp2_with fail
          go_meet
          exact ⟨w3.heap.size, kk, vv, cc, rfl, HS.out, by (simp only [CellsAt]; (first | (go_simp; done) | ((repeat' (with_reducible refine And.intro ?_ ?_)) <;> (repeat' (first | (with_reducible assumption) | (with_reducible exact trivial) | (with_reducible refine kA _ ?_) | (with_reducible refine kD ?_) | (with_reducible refine kS _ ?_ ?_) | (with_reducible refine fA _ ?_ ?_) | (with_reducible refine fD ?_) | (with_reducible refine fS _ ?_) | go_size | (go_simp; done)))))), by go_size, by omega, by have := (rowT_lt row3).2; omega, rowT_alloc row3 _, rd_le (rd_alloc Rw3 _) (by omega), onl_alloc Ow3 _⟩
      case rest =>
      clear hrow hrd honl
      obtain ⟨b, kk, vv, cc, rfl, ⟨hks, hvs⟩, zb, hbl, hbr, hbg, hrow, hrd, honl⟩ := hcut
      have HK := Lib.hid hks
      have HV := Lib.hid hvs
      simp only [CellsAt] at zb
      clear hks hvs
      go_wp2_with fail
      go_loopg [7, 8] l.length (fun g2 tw kv wx => ∃ (j : Nat) (tb : Bool) (nq : Nat), g2 = l.length - j ∧ j ≤ l.length ∧ tw = .bool tb ∧ kv = .int .i64 j ∧ wx = wc.drewN nq)
      case atStart => exact ⟨0, false, 0, rfl, Nat.zero_le _, rfl, rfl, rfl⟩
      case round =>
        obtain ⟨j, tb, nq, rfl, hj, rfl, rfl, rfl⟩ := hrel
        by_cases hjl : j < l.length
        · have u1 := (rowT_at hrow j hjl).1
          rw [Nat.zero_add] at u1
          obtain ⟨kj, hkj⟩ : ∃ kj, tgK l j = kj := ⟨_, rfl⟩
          rw [hkj] at u1
          clear hkj
          cases tb
          · go_wp2_with fail
            go_quiet (fail)
            go_wp2_with fail
            go_roundg (l.length - (j + 1))
            case measure => omega
            case rel => exact ⟨j + 1, _, _, rfl, by omega, rfl, by go_num, by first | rfl | (simp only [World.drewN_drewN]; rfl)⟩
          · go_wp2_with fail
            go_quiet (fail)
            go_wp2_with fail
            go_roundg (l.length - (j + 1))
            case measure => omega
            case rel => exact ⟨j + 1, _, _, rfl, by omega, rfl, by go_num, by first | rfl | (simp only [World.drewN_drewN]; rfl)⟩
        · obtain rfl : j = l.length := by omega
          have RdQ : Rd (wc.drewN nq) r (N + 1 + 10 * k + 9) := rd_drewN hrd _
          have RowQ := rowT_drewN hrow nq
          have OnQ : Onl r w (wc.drewN nq) := onl_drewN honl _
          have zq : CellsAt (wc.drewN nq) b 0 [.string kk, .string vv, .bool cc] := by simp only [CellsAt]; exact zb
          have lq : b < (wc.drewN nq).heap.size := hbl
          go_upto_region 12 with fail
          obtain ⟨v1, hv1⟩ : ∃ v, v = wc.drewN nq := ⟨_, rfl⟩
          rw [← hv1] at RdQ RowQ OnQ zq lq ⊢
          have Rv1 := RdQ
          have row1 := RowQ
          have Ov1 := OnQ
          have zv1 := zq
          have lv1 := lq
          clear hrow hrd honl zb hbl hv1 RdQ RowQ OnQ zq lq
          simp only [CellsAt] at zv1
          cases tb
          · have hbb : b < v1.heap.size := lv1
            go_wp2_with (first
              | (at_builtin; refine wpList_append_own _ rfl _ _ 32 rfl w.heap.size 26 i0 _ 3 40 Try.underlying32 HI0.out HZ0.out HZ1.out HZ2.out rfl (by decide) _ l.length (flat l) rfl (rowT_alloc row1 _) ⟨v1.heap.size, 0, none⟩ 1 1 [.string kk, .string vv, .bool cc] rfl rfl ?c1 ?c2 ?c3 ?c4 ?c5 ?_)
              | fail)
            case c1 =>
              intro j u hj
              match j, hj with
              | 0, hj => simp at hj; subst hj; simp [Addr.add]
              | 1, hj => simp at hj; subst hj; simp [Addr.add]
              | 2, hj => simp at hj; subst hj; simp [Addr.add]
              | _ + 3, hj => simp at hj
            case c2 => intro u hu; simp at hu; rcases hu with rfl | rfl | rfl <;> rfl
            case c3 => unfold maxLen; omega
            case c4 => omega
            case c5 => have := (rowT_lt row1).2; have := Ov1.size; simp; omega
            intro v' w2 hown' hgrow' hnil
            obtain ⟨g', cap', rfl, rowN⟩ := rowT_of hown' (by first | exact hnil | exact fun e => by have := hnil.1 e; omega)
            have B2 : Below w.heap.size (v1.alloc (.cells #[.string kk, .string vv, .bool cc] 26)) w2 := (Below.refl _ _).grown hgrow' (by have := Ov1.size; simp; omega) (fun j hj => by injection hj with hj; subst hj; exact (rowT_lt row1).1)
            have R2 : Rd w2 r (N + 1 + 10 * (k + 1)) := rd_le (rd_keep (rd_alloc Rv1 _) (B2.mono (by omega))) (by omega)
            have O2 : Onl r w w2 := onl_below2 (onl_alloc Ov1 _) B2
            clear hown' hgrow' hnil row1 Rv1 Ov1 B2
            go_wp2_with fail
            go_roundg (3 - (k + 1))
            case measure => omega
            case rel => exact ⟨k + 1, l ++ [(kk, vv, cc)], g', cap', rfl, by omega, by omega, by go_num, rfl, szT_snoc HZL.out HK.out HV.out, by simp; omega, rowN, R2, O2⟩
          · go_wp2_with fail
            refine (pick_any _ r (N + 1 + 10 * k + 9) _ Rv1 (by omega) (by omega) (by omega)).mono ?_
            rintro e v2 ⟨q, hq1, hq2, rfl, Rv2, Gv2⟩
            have sv2 := Gv2.size
            (try simp at sv2)
            have Ov2 : Onl r w v2 := onl_trans (by (repeat' (first | (with_reducible assumption) | (with_reducible exact onl_refl _ _) | (with_reducible refine onl_drewN ?_ _) | (with_reducible refine onl_drew ?_) | (with_reducible refine onl_alloc ?_ _) | (with_reducible refine onl_set ?_ (Or.inr ?_) _) | go_size))) Gv2
            have lv2_0 : b < v2.heap.size := (by go_size)
            have zv2_b : CellsAt v2 (b) 0 [.string kk, .string vv, .bool cc] := cells_keep (by (simp only [CellsAt]; (first | (go_simp; done) | ((repeat' (with_reducible refine And.intro ?_ ?_)) <;> (repeat' (first | (with_reducible assumption) | (with_reducible exact trivial) | (with_reducible refine kA _ ?_) | (with_reducible refine kD ?_) | (with_reducible refine kS _ ?_ ?_) | (with_reducible refine fA _ ?_ ?_) | (with_reducible refine fD ?_) | (with_reducible refine fS _ ?_) | go_size | (go_simp; done))))))) (fun o => onl_cell Gv2 (by go_size) (by omega) o) (fun o => onl_frozen Gv2 (by go_size) (by omega) o)
            simp only [CellsAt] at zv2_b
            clear zv1
            have row2 := rowT_onl row1 Gv2 (by have := rowT_lt row1; omega)
            by_cases hq0 : q = 0
            · subst hq0
              go_wp2_with (first
                | (at_builtin; refine wpList_append_own _ rfl _ _ 32 rfl w.heap.size 26 i0 _ 3 40 Try.underlying32 HI0.out HZ0.out HZ1.out HZ2.out rfl (by decide) _ l.length (flat l) rfl (rowT_alloc row2 _) ⟨v2.heap.size, 0, none⟩ 1 1 [.string kk, .string vv, .bool cc] rfl rfl ?c1 ?c2 ?c3 ?c4 ?c5 ?_)
                | fail)
              case c1 =>
                intro j u hj
                match j, hj with
                | 0, hj => simp at hj; subst hj; simp [Addr.add]
                | 1, hj => simp at hj; subst hj; simp [Addr.add]
                | 2, hj => simp at hj; subst hj; simp [Addr.add]
                | _ + 3, hj => simp at hj
              case c2 => intro u hu; simp at hu; rcases hu with rfl | rfl | rfl <;> rfl
              case c3 => unfold maxLen; omega
              case c4 => omega
              case c5 => have := (rowT_lt row2).2; have := Ov2.size; simp; omega
              intro v' w2 hown' hgrow' hnil
              obtain ⟨g', cap', rfl, rowN⟩ := rowT_of hown' (by first | exact hnil | exact fun e => by have := hnil.1 e; omega)
              have B2 : Below w.heap.size (v2.alloc (.cells #[.string kk, .string vv, .bool cc] 26)) w2 := (Below.refl _ _).grown hgrow' (by have := Ov2.size; simp; omega) (fun j hj => by injection hj with hj; subst hj; exact (rowT_lt row2).1)
              have R2 : Rd w2 r (N + 1 + 10 * (k + 1)) := rd_le (rd_keep (rd_alloc Rv2 _) (B2.mono (by omega))) (by omega)
              have O2 : Onl r w w2 := onl_below2 (onl_alloc Ov2 _) B2
              clear hown' hgrow' hnil row2 Rv2 Ov2 B2
              go_wp2_with fail
              go_roundg (3 - (k + 1))
              case measure => omega
              case rel => exact ⟨k + 1, l ++ [(kk, vv, cc)], g', cap', rfl, by omega, by omega, by go_num, rfl, szT_snoc HZL.out HK.out HV.out, by simp; omega, rowN, R2, O2⟩
            · have hq00 : (q == 0) = false := by simpa using hq0
              go_wp2_with fail
              go_roundg (3 - (k + 1))
              case measure => omega
              case rel => exact ⟨k + 1, l, g, cap, rfl, by omega, by omega, by go_num, rfl, HZL.out, by omega, row2, rd_le (by (repeat' (first | (with_reducible assumption) | (with_reducible refine rd_alloc ?_ _) | (with_reducible refine rd_drewN ?_ _) | (with_reducible refine rd_drew ?_) | (with_reducible refine rd_set ?_ ?_ _) | go_size))) (Nat.le_refl _), by (repeat' (first | (with_reducible assumption) | (with_reducible exact onl_refl _ _) | (with_reducible refine onl_drewN ?_ _) | (with_reducible refine onl_drew ?_) | (with_reducible refine onl_alloc ?_ _) | (with_reducible refine onl_set ?_ (Or.inr ?_) _) | go_size))⟩
    · go_wp2_with fail
      go_ret
      exact ⟨l, g, cap, ⟨HZL.out, by omega⟩, rfl, hrow, rd_le hrd (by omega), honl⟩
/-- tags drawn out of a slice of bytes -/
def DrawnTags0 (w : World) (e : Ending) (w' : World) : Prop := ∃ (l : List Tg) (g cap : Nat), (szT l 16 ∧ l.length ≤ 3) ∧ e = .returned (.slice (some ⟨g, 0, none⟩) l.length cap) ∧ IsTags w' (some ⟨g, 0, none⟩) l.length l ∧ Below w.heap.size w w'
set_option maxHeartbeats 2000000 in
theorem DrawTagsText_any (w0 : World) (a : Option Addr) (len cap : Nat) (zs : List Int) (h : IsRow .u8 w0 a len cap zs) : Calls Try.prog 23 #[.slice a len cap] w0 (DrawnTags0 w0) := by
  have H1 := Lib.hid h
  clear h
  go_enter Try.func23, Try.ntmps23
  go_wp2_with fail
  refine (open_any _ _ _ _ _ H1.out).mono ?_
  rintro e w ⟨rfl, R0, bw⟩
  have sw := bw.size
  (try simp at sw)
  have Aw : Below w0.heap.size w0 w := Below.trans (by (repeat' (first | (with_reducible assumption) | (with_reducible exact Below.refl _ _) | (with_reducible refine bdN ?_ _) | (with_reducible refine Below.alloc ?_ ?_ _) | (with_reducible refine Below.drew ?_) | (with_reducible refine Below.setCell ?_ ?_ _) | go_size))) (bw.mono (by go_size))
  clear bw
  (try simp at R0)
  have hlt := rd_lt R0
  obtain ⟨r, hr⟩ : ∃ r, w0.heap.size = r := ⟨_, rfl⟩
  rw [hr] at R0 hlt
  have HR := Lib.hid hr
  have r1 : w0.heap.size ≤ r := by omega
  go_wp2_with fail
  clear hr
  refine (l92Tags_any _ r 0 (by (repeat' (first | (with_reducible assumption) | (with_reducible refine rd_alloc ?_ _) | (with_reducible refine rd_drewN ?_ _) | (with_reducible refine rd_drew ?_) | (with_reducible refine rd_set ?_ ?_ _) | go_size))) (by omega)).mono ?_
  rintro e w1 ⟨l, g, cap, hs, rfl, row, R1, O1⟩
  have HS := Lib.hid hs
  clear hs
  go_wp2_with fail
  have A3 : Below w0.heap.size w0 w1 := Aw.trans (onl_below O1 (by omega) Aw.size)
  go_ret
  exact ⟨l, g, cap, HS.out, rfl, rowT_is row, by (repeat' (first | (with_reducible assumption) | (with_reducible exact Below.refl _ _) | (with_reducible refine bdN ?_ _) | (with_reducible refine Below.alloc ?_ ?_ _) | (with_reducible refine Below.drew ?_) | (with_reducible refine Below.setCell ?_ ?_ _) | go_size))⟩
/-- a row of texts of the call's own -/
def RowS (w : World) (base g cap : Nat) (ks : List ByteArray) : Prop := w.ownsRow base 9 1 (.slice (some ⟨g, 0, none⟩) ks.length cap) ks.length (ks.map Value.string)
theorem rowS_lt {w : World} {base g cap : Nat} {l : List ByteArray} (h : RowS w base g cap l) : base ≤ g ∧ g < w.heap.size := World.ownsRow.lt h g rfl
theorem rowS_at {w : World} {base g cap : Nat} {l : List ByteArray} (h : RowS w base g cap l) : StrsAt w g 0 l := by
  intro i hi
  have hc : ∀ j u, (l.map Value.string)[j]? = some u → w.cell? ⟨g, 0 + j, none⟩ = some u := fun j u hu => by have := World.ownsRow.cells h rfl j u hu; rw [add0] at this; rw [Nat.zero_add]; exact this
  refine hc _ _ ?_
  rw [List.getElem?_map, List.getElem?_eq_getElem hi]
  unfold sA
  rw [List.getD_eq_getElem?_getD, List.getElem?_eq_getElem hi]; rfl
theorem rowS_is {w : World} {base g cap : Nat} {l : List ByteArray} (h : RowS w base g cap l) : IsStrs w (some ⟨g, 0, none⟩) l.length l := ⟨rfl, .inr ⟨g, 0, rfl, (rowS_lt h).2, rowS_at h⟩⟩
theorem rowS_onl {w w' : World} {base g cap r : Nat} {l : List ByteArray} (h : RowS w base g cap l) (k : Onl r w w') (hr : g ≠ r) : RowS w' base g cap l :=
  World.ownsRow.kept h k (.inr (by intro e; injection e with e; exact hr e))
theorem rowS_alloc {w : World} {base g cap : Nat} {l : List ByteArray} (h : RowS w base g cap l) (o : Obj) : RowS (w.alloc o) base g cap l := World.ownsRow.alloc h o
theorem rowS_of {w : World} {base : Nat} {v : Value} {l : List ByteArray} {k : ByteArray} (h : w.ownsRow base 9 1 v (l.length + 1) (l.map Value.string ++ [.string k])) (hn : v ≠ .slice none 0 0) : ∃ g cap, v = .slice (some ⟨g, 0, none⟩) (l ++ [k]).length cap ∧ RowS w base g cap (l ++ [k]) := by
  have e : (l ++ [k]).length = l.length + 1 := by simp
  rcases h.2 with ⟨h0, _⟩ | ⟨g, cap, cur, rfl, _⟩
  · exact absurd h0 hn
  · refine ⟨g, cap, by rw [e], ?_⟩
    unfold RowS
    rw [e, List.map_append]
    exact h
theorem szS_snoc {l : List ByteArray} {k : ByteArray} {n : Nat} (h : szS l n) (hk : k.size ≤ n) : szS (l ++ [k]) n := by
  intro i hi
  unfold sA
  rw [List.getD_eq_getElem?_getD]
  by_cases x : i < l.length
  · rw [List.getElem?_append_left x, ← List.getD_eq_getElem?_getD]
    exact h i x
  · obtain rfl : i = l.length := by simp at hi; omega
    simpa using hk
theorem strInfo : (Try.prog.info? 9).map (fun i => (i.zero, i.size, i.bytes)) = some (some (.string ⟨#[]⟩), 1, 16) := by kernel_rfl

/-- tags and keys drawn out of a slice of bytes -/
def DrawnAllow0 (w : World) (e : Ending) (w' : World) : Prop := ∃ (l : List Tg) (g cap : Nat) (ks : List ByteArray) (g2 cap2 : Nat), ((szT l 16 ∧ l.length ≤ 3) ∧ szS ks 16 ∧ ks.length ≤ 4) ∧ e = .returned (.tuple #[.slice (some ⟨g, 0, none⟩) l.length cap, .slice (some ⟨g2, 0, none⟩) ks.length cap2]) ∧ IsTags w' (some ⟨g, 0, none⟩) l.length l ∧ IsStrs w' (some ⟨g2, 0, none⟩) ks.length ks ∧ Below w.heap.size w w'
set_option maxRecDepth 100000 in
set_option maxHeartbeats 4000000 in
theorem DrawTagsAllow_any (w0 : World) (a : Option Addr) (len cap : Nat) (zs : List Int) (h : IsRow .u8 w0 a len cap zs) : Calls Try.prog 20 #[.slice a len cap] w0 (DrawnAllow0 w0) := by
  have H1 := Lib.hid h
  clear h
  obtain ⟨i0, hi, hz0, hz1, hz2⟩ := info_parts strInfo
  have HI0 := Lib.hid hi
  have HZ0 := Lib.hid hz0
  have HZ1 := Lib.hid hz1
  have HZ2 := Lib.hid hz2
  clear hi hz0 hz1 hz2
  go_enter Try.func20, Try.ntmps20
  go_wp2_with fail
  refine (open_any _ _ _ _ _ H1.out).mono ?_
  rintro e w ⟨rfl, R0, bw⟩
  have sw := bw.size
  (try simp at sw)
  have Aw : Below w0.heap.size w0 w := Below.trans (by (repeat' (first | (with_reducible assumption) | (with_reducible exact Below.refl _ _) | (with_reducible refine bdN ?_ _) | (with_reducible refine Below.alloc ?_ ?_ _) | (with_reducible refine Below.drew ?_) | (with_reducible refine Below.setCell ?_ ?_ _) | go_size))) (bw.mono (by go_size))
  clear bw
  (try simp at R0)
  have hlt := rd_lt R0
  obtain ⟨r, hr⟩ : ∃ r, w0.heap.size = r := ⟨_, rfl⟩
  rw [hr] at R0 hlt
  have HR := Lib.hid hr
  have r1 : w0.heap.size ≤ r := by omega
  go_wp2_with fail
  clear hr
  refine (l92Tags_any _ r 0 (by (repeat' (first | (with_reducible assumption) | (with_reducible refine rd_alloc ?_ _) | (with_reducible refine rd_drewN ?_ _) | (with_reducible refine rd_drew ?_) | (with_reducible refine rd_set ?_ ?_ _) | go_size))) (by omega)).mono ?_
  rintro e w1 ⟨l, g, cap1, hs, rfl, row, R1, O1⟩
  have HS := Lib.hid hs
  clear hs R0
  have hg1 := rowT_lt row
  have hs1 := O1.size
  go_wp2_with fail
  have row0 : RowS (w1.alloc (.cells #[] 9)) w1.heap.size w1.heap.size 0 [] := World.ownsRow_made w1 #[] 0 (Nat.le_refl _) (Nat.zero_le _) rfl
  go_loopg [6, 8] 4 (fun gg kv iv wr => ∃ (k : Nat) (ks : List ByteArray) (g2 cap2 : Nat), gg = 4 - k ∧ k ≤ 4 ∧ iv = .int .i64 k ∧ kv = .slice (some ⟨g2, 0, none⟩) ks.length cap2 ∧ szS ks 16 ∧ ks.length ≤ k ∧ RowS wr w1.heap.size g2 cap2 ks ∧ g2 ≠ w1.heap.size + 1 ∧
    CellsAt wr (w1.heap.size + 1) 0 [.string ⟨#[117, 45, 99, 97]⟩, .string ⟨#[120]⟩, .string ⟨#[110, 111, 116, 101]⟩, .string ⟨#[107, 50]⟩] ∧ w1.heap.size + 1 < wr.heap.size ∧ RowT wr w.heap.size g cap1 l ∧ Rd wr r (31 + k) ∧ Onl r w wr)
  case atStart => exact ⟨0, [], w1.heap.size, 0, rfl, by omega, rfl, rfl, (fun i hi => by simp at hi), Nat.zero_le _, rowS_alloc row0 _, by omega, by (simp only [CellsAt]; (first | (go_simp; done) | ((repeat' (with_reducible refine And.intro ?_ ?_)) <;> (repeat' (first | (with_reducible assumption) | (with_reducible exact trivial) | (with_reducible refine kA _ ?_) | (with_reducible refine kD ?_) | (with_reducible refine kS _ ?_ ?_) | (with_reducible refine fA _ ?_ ?_) | (with_reducible refine fD ?_) | (with_reducible refine fS _ ?_) | go_size | (go_simp; done)))))), by go_size, rowT_alloc (rowT_alloc row _) _, by (repeat' (first | (with_reducible assumption) | (with_reducible refine rd_alloc ?_ _) | (with_reducible refine rd_drewN ?_ _) | (with_reducible refine rd_drew ?_) | (with_reducible refine rd_set ?_ ?_ _) | go_size)), by (repeat' (first | (with_reducible assumption) | (with_reducible exact onl_refl _ _) | (with_reducible refine onl_drewN ?_ _) | (with_reducible refine onl_drew ?_) | (with_reducible refine onl_alloc ?_ _) | (with_reducible refine onl_set ?_ (Or.inr ?_) _) | go_size))⟩
  case round =>
    obtain ⟨k, ks, g2, cap2, rfl, hk4, rfl, rfl, hsz, hkl, hrs, hne, zc, hlt2, hrt, hrd, honl⟩ := hrel
    have HSZ := Lib.hid hsz
    have hg2 := rowS_lt hrs
    clear hsz row0 row R1 O1
    by_cases hk : k < 4
    · have hcell : ∃ s : ByteArray, wr.cell? ⟨w1.heap.size + 1, k, none⟩ = some (.string s) ∧ s.size ≤ 16 := by
        simp only [CellsAt] at zc
        rcases (show k = 0 ∨ k = 1 ∨ k = 2 ∨ k = 3 by omega) with rfl | rfl | rfl | rfl
        · exact ⟨_, zc.1, by decide⟩
        · exact ⟨_, zc.2.2.1, by decide⟩
        · exact ⟨_, zc.2.2.2.2.1, by decide⟩
        · exact ⟨_, zc.2.2.2.2.2.2.1, by decide⟩
      obtain ⟨s, hc, hss⟩ := hcell
      have ZC := Lib.hid zc
      clear zc
      go_wp2_with fail
      refine (pick_any _ r (31 + k) _ hrd (by omega) (by omega) (by omega)).mono ?_
      rintro e w2 ⟨q, hq1, hq2, rfl, Rw2, Gw2⟩
      have sw2 := Gw2.size
      (try simp at sw2)
      have Ow2 : Onl r w w2 := onl_trans (by (repeat' (first | (with_reducible assumption) | (with_reducible exact onl_refl _ _) | (with_reducible refine onl_drewN ?_ _) | (with_reducible refine onl_drew ?_) | (with_reducible refine onl_alloc ?_ _) | (with_reducible refine onl_set ?_ (Or.inr ?_) _) | go_size))) Gw2
      have hc2 : w2.cell? ⟨w1.heap.size + 1, k, none⟩ = some (.string s) := (onl_cell Gw2 (by omega) (by omega) _).trans hc
      have zc2 := cells_keep ZC.out (fun o => onl_cell Gw2 (by omega) (by omega) o) (fun o => onl_frozen Gw2 (by omega) (by omega) o)
      have rs2 := rowS_onl hrs Gw2 (by omega)
      have rt2 := rowT_onl hrt Gw2 (by omega)
      have ZC2 := Lib.hid zc2
      clear zc2 hc ZC hrs hrt hrd honl
      by_cases hq0 : q = 0
      · subst hq0
        go_wp2_with (first
          | (at_builtin; refine wpList_append_own_at _ rfl _ _ 33 rfl w1.heap.size 9 i0 _ 1 16 Try.underlying33 HI0.out HZ0.out HZ1.out HZ2.out rfl (by decide) _ ks.length (ks.map Value.string) rfl (rowS_alloc rs2 _) ⟨w2.heap.size, 0, none⟩ 1 1 [.string s] rfl rfl (cell_one_new _ _ _) ?c2 ?c3 ?c4 ?c5 ?_)
          | fail)
        case c2 => intro u hu; simp at hu; subst hu; rfl
        case c3 => unfold maxLen; omega
        case c4 => omega
        case c5 => simp; omega
        intro v' w3 hown' hgrow' hnil hat
        obtain ⟨g3, cap3, rfl, rowN⟩ := rowS_of hown' (by first | exact hnil | exact fun e => by have := hnil.1 e; omega)
        have hg3 : g3 = g2 ∨ g3 = w2.heap.size + 1 := by
          rcases hat with h | h
          · injection h with h; exact .inl h
          · injection h with h; exact .inr h
        have hg3' : g3 ≠ w1.heap.size + 1 := by
          rcases hg3 with h | h
          · omega
          · omega
        have B2 : Below w1.heap.size (w2.alloc (.cells #[.string s] 9)) w3 := (Below.refl _ _).grown hgrow' (by simp; omega) (fun j hj => by injection hj with hj; subst hj; exact (rowS_lt rs2).1)
        have R2 : Rd w3 r (31 + (k + 1)) := rd_le (rd_keep (rd_alloc Rw2 _) (B2.mono (by omega))) (by omega)
        have O2 : Onl r w w3 := onl_below2 (onl_alloc Ow2 _) (B2.mono (by omega))
        have T2 : RowT w3 w.heap.size g cap1 l := rowT_keep (rowT_alloc rt2 _) B2 (by omega)
        have Z3 : CellsAt w3 (w1.heap.size + 1) 0 [.string ⟨#[117, 45, 99, 97]⟩, .string ⟨#[120]⟩, .string ⟨#[110, 111, 116, 101]⟩, .string ⟨#[107, 50]⟩] := by
          have hb : ∀ o, w3.cell? ⟨w1.heap.size + 1, o, none⟩ = (w2.alloc (.cells #[.string s] 9)).cell? ⟨w1.heap.size + 1, o, none⟩ := fun o => World.cell?_of_block (w := w2.alloc (.cells #[.string s] 9)) (hgrow'.block _ (by simp; omega) (by intro e; injection e with e; exact hne e.symm))
          have hf : ∀ o, w3.frozen? ⟨w1.heap.size + 1, o, none⟩ = (w2.alloc (.cells #[.string s] 9)).frozen? ⟨w1.heap.size + 1, o, none⟩ := fun o => World.frozen?_of_block (w := w2.alloc (.cells #[.string s] 9)) (hgrow'.block _ (by simp; omega) (by intro e; injection e with e; exact hne e.symm))
          have ha : Below w2.heap.size w2 (w2.alloc (.cells #[.string s] 9)) := (Below.refl _ _).alloc (Nat.le_refl _) _
          exact cells_keep ZC2.out (fun o => (hb o).trans (ha.cell (p := ⟨_, o, none⟩) (by show w1.heap.size + 1 < _; omega))) (fun o => (hf o).trans (ha.frozen (p := ⟨_, o, none⟩) (by show w1.heap.size + 1 < _; omega)))
        have L3 : w1.heap.size + 1 < w3.heap.size := by have := hgrow'.size; simp at this; omega
        have ZZ3 := Lib.hid Z3
        clear hown' hgrow' hnil hat rs2 rt2 Rw2 Ow2 B2 hg3 hc2 Z3
        go_wp2_with fail
        go_roundg (4 - (k + 1))
        case measure => omega
        case rel => exact ⟨k + 1, ks ++ [s], g3, cap3, rfl, by omega, by go_num, rfl, szS_snoc HSZ.out hss, by simp; omega, rowN, hg3', ZZ3.out, L3, T2, R2, O2⟩
      · have hq00 : (q == 0) = false := by simpa using hq0
        clear hc2
        go_wp2_with fail
        go_roundg (4 - (k + 1))
        case measure => omega
        case rel => exact ⟨k + 1, ks, g2, cap2, rfl, by omega, by go_num, rfl, HSZ.out, by omega, rs2, hne, ZC2.out, by omega, rt2, rd_le Rw2 (by omega), Ow2⟩
    · clear zc
      go_wp2_with fail
      have A3 : Below w0.heap.size w0 wr := Aw.trans (onl_below honl (by omega) Aw.size)
      go_ret2
      exact ⟨l, g, cap1, ks, g2, cap2, ⟨HS.out, HSZ.out, by omega⟩, rfl, rowT_is hrt, rowS_is hrs, by (repeat' (first | (with_reducible assumption) | (with_reducible exact Below.refl _ _) | (with_reducible refine bdN ?_ _) | (with_reducible refine Below.alloc ?_ ?_ _) | (with_reducible refine Below.drew ?_) | (with_reducible refine Below.setCell ?_ ?_ _) | go_size))⟩

theorem rowT_cap {w : World} {base g cap : Nat} {l : List Tg} (h : RowT w base g cap l) : l.length ≤ cap := by
  rcases h.2 with ⟨h0, _⟩ | ⟨g', cap', cur, e, _, _, hc, _⟩
  · cases h0
  · injection e with _ _ e3
    rw [e3]
    exact hc
/-- tags drawn out of a slice of bytes, with the slice's capacity -/
def DrawnTags1 (w : World) (e : Ending) (w' : World) : Prop := ∃ (l : List Tg) (g cap : Nat), (szT l 16 ∧ l.length ≤ 3 ∧ l.length ≤ cap) ∧ e = .returned (.slice (some ⟨g, 0, none⟩) l.length cap) ∧ IsTags w' (some ⟨g, 0, none⟩) l.length l ∧ Below w.heap.size w w'
set_option maxHeartbeats 2000000 in
theorem DrawTagsText_cap (w0 : World) (a : Option Addr) (len cap : Nat) (zs : List Int) (h : IsRow .u8 w0 a len cap zs) : Calls Try.prog 23 #[.slice a len cap] w0 (DrawnTags1 w0) := by
  have H1 := Lib.hid h
  clear h
  go_enter Try.func23, Try.ntmps23
  go_wp2_with fail
  refine (open_any _ _ _ _ _ H1.out).mono ?_
  rintro e w ⟨rfl, R0, bw⟩
  have sw := bw.size
  (try simp at sw)
  have Aw : Below w0.heap.size w0 w := Below.trans (by (repeat' (first | (with_reducible assumption) | (with_reducible exact Below.refl _ _) | (with_reducible refine bdN ?_ _) | (with_reducible refine Below.alloc ?_ ?_ _) | (with_reducible refine Below.drew ?_) | (with_reducible refine Below.setCell ?_ ?_ _) | go_size))) (bw.mono (by go_size))
  clear bw
  (try simp at R0)
  have hlt := rd_lt R0
  obtain ⟨r, hr⟩ : ∃ r, w0.heap.size = r := ⟨_, rfl⟩
  rw [hr] at R0 hlt
  have HR := Lib.hid hr
  have r1 : w0.heap.size ≤ r := by omega
  go_wp2_with fail
  clear hr
  refine (l92Tags_any _ r 0 (by (repeat' (first | (with_reducible assumption) | (with_reducible refine rd_alloc ?_ _) | (with_reducible refine rd_drewN ?_ _) | (with_reducible refine rd_drew ?_) | (with_reducible refine rd_set ?_ ?_ _) | go_size))) (by omega)).mono ?_
  rintro e w1 ⟨l, g, cap, hs, rfl, row, R1, O1⟩
  have HS := Lib.hid hs
  clear hs
  go_wp2_with fail
  have A3 : Below w0.heap.size w0 w1 := Aw.trans (onl_below O1 (by omega) Aw.size)
  go_ret
  exact ⟨l, g, cap, ⟨HS.out.1, HS.out.2, rowT_cap row⟩, rfl, rowT_is row, by (repeat' (first | (with_reducible assumption) | (with_reducible exact Below.refl _ _) | (with_reducible refine bdN ?_ _) | (with_reducible refine Below.alloc ?_ ?_ _) | (with_reducible refine Below.drew ?_) | (with_reducible refine Below.setCell ?_ ?_ _) | go_size))⟩
end Go.Proofs.Ytbgpdjceofofoaa
