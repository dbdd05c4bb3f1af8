/- Lists of tags: plain words, how such a list lies in memory, and whether the tags are valid, by the program and by the reference. Condition: the texts are not longer than 2^40 bytes. -/
import Derived.Test.YtbgpdjceofofoaaTag
import Derived.Test.YtbgpdjceofofoaaSeal
import Derived.Maps.OwnSet
import Derived.Maps.OwnOps
import Derived.Maps.Views
import Derived.Deep.LoopGhost
namespace Go.Proofs.Ytbgpdjceofofoaa
set_option linter.unusedSimpArgs false
open Go.RowKit DN Go.WideMaps Go.Maps
set_option linter.unusedVariables false

/-- a tag: key, value, critical -/
abbrev Tg := ByteArray × ByteArray × Bool
def tgK (l : List Tg) (i : Nat) : ByteArray := (l.getD i (⟨#[]⟩, ⟨#[]⟩, false)).1
def tgV (l : List Tg) (i : Nat) : ByteArray := (l.getD i (⟨#[]⟩, ⟨#[]⟩, false)).2.1
def tgC (l : List Tg) (i : Nat) : Bool := (l.getD i (⟨#[]⟩, ⟨#[]⟩, false)).2.2
/-- the tag at a place is good beside those ahead of it -/
def gdT (l : List Tg) (i : Nat) : Prop := tvB (tgK l i) (tgV l i) = true ∧ ¬ (0 < i ∧ (tgK l i).toList = []) ∧ ∀ j, j < i → tgK l j ≠ tgK l i
/-- the tags are valid -/
def tsP (l : List Tg) : Prop := l.length ≤ 4 ∧ ∀ i, i < l.length → gdT l i
noncomputable def tsB (l : List Tg) : Bool := @ite Bool (tsP l) (Classical.propDecidable _) true false
theorem ts_t {l : List Tg} (h : tsP l) : tsB l = true := @if_pos _ (Classical.propDecidable _) h _ _ _
theorem ts_f {l : List Tg} (h : ¬ tsP l) : tsB l = false := @if_neg _ (Classical.propDecidable _) h _ _ _
theorem ts_iff {l : List Tg} : tsB l = true ↔ tsP l := ⟨fun h => Classical.byContradiction (fun x => by rw [ts_f x] at h; cases h), ts_t⟩
/-- the texts' lengths -/
def szT (l : List Tg) (n : Nat) : Prop := ∀ i, i < l.length → (tgK l i).size ≤ n ∧ (tgV l i).size ≤ n
/-- the tags in memory -/
def TagsAt (w : World) (b off : Nat) (l : List Tg) : Prop := ∀ i, i < l.length → w.cell? ⟨b, off + i * 3, none⟩ = some (.string (tgK l i)) ∧ w.cell? ⟨b, off + i * 3 + 1, none⟩ = some (.string (tgV l i)) ∧ w.cell? ⟨b, off + i * 3 + 2, none⟩ = some (.bool (tgC l i))
/-- a slice of tags -/
def IsTags (w : World) (a : Option Addr) (len : Nat) (l : List Tg) : Prop := len = l.length ∧ (len = 0 ∨ ∃ b off, a = some ⟨b, off, none⟩ ∧ b < w.heap.size ∧ TagsAt w b off l)
theorem isTags_keep {w w' : World} {a : Option Addr} {len : Nat} {l : List Tg} (h : IsTags w a len l) (g : Below w.heap.size w w') : IsTags w' a len l := by
  obtain ⟨e, h⟩ := h
  refine ⟨e, h.imp id ?_⟩
  rintro ⟨b, off, rfl, hb, hc⟩
  refine ⟨b, off, rfl, Nat.lt_of_lt_of_le hb g.size, fun i hi => ?_⟩
  have hk : ∀ o, w'.cell? ⟨b, o, none⟩ = w.cell? ⟨b, o, none⟩ := fun o => g.cell (p := ⟨b, o, none⟩) hb
  rw [hk, hk, hk]
  exact hc i hi

theorem byt_ne {a b : ByteArray} (h : a ≠ b) : (a.toList == b.toList) = false := by
  rw [ByteArray.toList_eq, ByteArray.toList_eq]
  exact beq_eq_false_iff_ne.2 (fun e => h (WideShapes.bytes_inj e))
theorem zeroI (w : World) : (zeroValue 3).run Try.prog w = .ok (.int .i64 0) w := by kernel_rfl
theorem strLaw : Keyed Try.prog 9 := string_keyed Try.underlying9
/-- what the map of keys seen holds -/
def Seen {H : Type} (D : DataW H) (l : List Tg) (i : Nat) : Prop := IsMap D ∧ ∀ s : ByteArray, Maps.has D (.string s.data.toList) = true ↔ ∃ j, j < i ∧ tgK l j = s
theorem key_lit {s : ByteArray} (hs : s.size ≤ 1099511627776) : keyOf Try.prog 9 (.string s) = some (.string s.data.toList) := keyOf_string_mk Try.underlying9 (by unfold maxLen; omega)
theorem isKey_str (x : List UInt8) : WideAt.IsKeyLit (.string x) := trivial
theorem lit_ne {s t : ByteArray} (h : s ≠ t) : (Lit.string s.data.toList) ≠ .string t.data.toList := by
  intro e
  apply h
  have e1 : s.data.toList = t.data.toList := by injection e
  exact ByteArray.ext (by rw [← Array.toList_inj]; exact e1)
theorem own_keep {H : Type} {P : Program} {kt : TypeId} {R : Value → Option (DataW H × List MemPlace)} {b n : Nat} {D : DataW H} {w w' : World} (h : w.ownsMap P kt R b n D) (g : Below w.heap.size w w') : w'.ownsMap P kt R b n D := by
  obtain ⟨es, clock, hb, r⟩ := h
  have hlt : b < w.heap.size := by
    rcases Nat.lt_or_ge b w.heap.size with x | x
    · exact x
    · rw [Array.getElem?_eq_none x] at hb; cases hb
  exact ⟨es, clock, by rw [g.block b hlt]; exact hb, r⟩
theorem seen_none {H : Type} {l : List Tg} : Seen (.map [] : DataW H) l 0 := ⟨isMap_empty, fun s => by simp [has_eq]⟩
theorem seen_put {H : Type} {D : DataW H} {l : List Tg} {i : Nat} (h : Seen D l i) (d : DataW H) : Seen (D.put (.string (tgK l i).data.toList) d) l (i + 1) := by
  obtain ⟨hm, h⟩ := h
  refine ⟨hm.put _ _, fun s => ?_⟩
  by_cases e : s = tgK l i
  · subst e
    rw [has_put_same hm (isKey_str _)]
    simp only [true_iff]
    exact ⟨i, by omega, rfl⟩
  · rw [has_put_other (lit_ne e), h s]
    constructor
    · rintro ⟨j, hj, rfl⟩
      exact ⟨j, by omega, rfl⟩
    · rintro ⟨j, hj, rfl⟩
      refine ⟨j, ?_, rfl⟩
      rcases Nat.lt_or_ge j i with hh | hh
      · exact hh
      · obtain rfl : j = i := by omega
        exact absurd rfl e

set_option maxRecDepth 100000 in
set_option maxHeartbeats 4000000 in
theorem tagsValid_i (a : Option Addr) (len cap : Nat) (l : List Tg) (w : World) (h : IsTags w a len l) (hsz : szT l 1099511627776) (hn : len ≤ 1048576) : Calls Try.prog 50 #[.slice a len cap] w fun e w' => e = .returned (.bool (tsB l)) ∧ Below w.heap.size w w' := by
  obtain ⟨hl, h⟩ := h
  by_cases h4 : 4 < len
  · rw [ts_f (by rintro ⟨x, _⟩; omega)]
    clear h hsz
    go_enter Try.func50, Try.ntmps50
    go_wp2_with fail
    go_ret
    exact ⟨rfl, by (repeat' (first | (with_reducible assumption) | (with_reducible exact Below.refl _ _) | (with_reducible refine bdN ?_ _) | (with_reducible refine Below.alloc ?_ ?_ _) | (with_reducible refine Below.drew ?_) | (with_reducible refine Below.setCell ?_ ?_ _) | go_size))⟩
  · have hmm := @run_makeMap Try.prog
    rcases h with rfl | ⟨b, off, rfl, hb, hc⟩
    · rw [ts_t ⟨by omega, fun i hi => by omega⟩]
      go_enter Try.func50, Try.ntmps50
      go_wp2_with fail
      refine wp_loop_rounds 1 ?_
      rw [rounds_succ]
      go_wp2_with fail
      go_ret
      exact ⟨rfl, by (repeat' (first | (with_reducible assumption) | (with_reducible exact Below.refl _ _) | (with_reducible refine bdN ?_ _) | (with_reducible refine Below.alloc ?_ ?_ _) | (with_reducible refine Below.drew ?_) | (with_reducible refine Below.setCell ?_ ?_ _) | go_size))⟩
    · have HC := Lib.hid hc
      have HZ := Lib.hid hsz
      have HLn := Lib.hid hl
      clear hc hsz hl
      go_enter Try.func50, Try.ntmps50
      go_wp2_with fail
      go_loopg [14] len (fun g i wr => ∃ (k : Nat) (D : DataW Unit), g = len - k ∧ k ≤ len ∧ i = .int .i64 k ∧ (∀ j, j < k → gdT l j) ∧ Seen D l k ∧ wr.ownsMap Try.prog 9 (plainElem Try.prog 3) w.heap.size k D ∧ Below w.heap.size w wr)
      case atStart => exact ⟨0, _, rfl, Nat.zero_le _, rfl, (fun j hj => by omega), seen_none, World.ownsMap_made _ _ _ _, by (repeat' (first | (with_reducible assumption) | (with_reducible exact Below.refl _ _) | (with_reducible refine bdN ?_ _) | (with_reducible refine Below.alloc ?_ ?_ _) | (with_reducible refine Below.drew ?_) | (with_reducible refine Below.setCell ?_ ?_ _) | go_size))⟩
      case round =>
        obtain ⟨k, D, rfl, hk, rfl, hgd, hse, hown, bel⟩ := hrel
        have hsz1 := bel.size
        by_cases hkl : k < len
        · have hi : k < l.length := by have := HLn.out; omega
          obtain ⟨x1', x2', x3'⟩ := HC.out k hi
          obtain ⟨y1, y2⟩ := HZ.out k hi
          have x1 := (bel.cell (p := ⟨b, _, none⟩) hb).trans x1'
          have x2 := (bel.cell (p := ⟨b, _, none⟩) hb).trans x2'
          have x3 := (bel.cell (p := ⟨b, _, none⟩) hb).trans x3'
          have hgk : gdT l k ↔ tvB (tgK l k) (tgV l k) = true ∧ ¬ (0 < k ∧ (tgK l k).toList = []) ∧ ∀ j, j < k → tgK l j ≠ tgK l k := Iff.rfl
          have hse1 := hse.2 (tgK l k)
          have hput := seen_put hse (.lit (.int .i64 k))
          have hno : ¬ gdT l k → tsB l = false := fun h => ts_f (fun g => h (g.2 k hi))
          obtain ⟨kk, hkk⟩ : ∃ kk, tgK l k = kk := ⟨_, rfl⟩
          obtain ⟨vv, hvv⟩ : ∃ vv, tgV l k = vv := ⟨_, rfl⟩
          obtain ⟨cc, hcc⟩ : ∃ cc, tgC l k = cc := ⟨_, rfl⟩
          rw [hkk] at x1 y1 hgk hse1 hput
          rw [hvv] at x2 y2 hgk
          rw [hcc] at x3
          have hkey := key_lit y1
          have TV := Lib.hid (fun w => TagValid_i kk vv cc y1 y2 w)
          obtain ⟨tb, htb⟩ : ∃ tb, tvB kk vv = tb := ⟨_, rfl⟩
          rw [htb] at TV hgk
          obtain ⟨db, hdb⟩ : ∃ db, Maps.has D (.string kk.data.toList) = db := ⟨_, rfl⟩
          rw [hdb] at hse1
          have HG := Lib.hid hgd
          have HGK := Lib.hid hgk
          have HS := Lib.hid hse1
          have HP := Lib.hid hput
          have HNO := Lib.hid hno
          have HKK := Lib.hid hkk
          clear hgd hse hgk hse1 hput hno hkk hvv hcc htb x1' x2' x3'
          cases db
          · have tok : True := trivial
            go_wp2_with (first
              | (at_lookup; refine wpList_lookup_own_ok_int _ rfl _ _ 92 rfl 9 3 .i64 strLaw Try.underlying92 Try.underlying3 (zeroI _) w.heap.size k D rfl (hown.alloc _) _ _ rfl hkey ?_; intro c hat hwc)
              | fail)
            have hown1 := hown.alloc (.cells #[.string kk, .string vv, .bool cc] 26)
            clear hown
            refine (TV.out _).mono ?_
            rintro e w1 ⟨rfl, b1⟩
            have hown2 := own_keep hown1 b1
            have z1 : CellsAt w1 wr.heap.size 0 [.string kk, .string vv, .bool cc] := cells_keep (by (simp only [CellsAt]; (first | (go_simp; done) | ((repeat' (with_reducible refine And.intro ?_ ?_)) <;> (repeat' (first | (with_reducible assumption) | (with_reducible exact trivial) | (with_reducible refine kA _ ?_) | (with_reducible refine kD ?_) | (with_reducible refine kS _ ?_ ?_) | (with_reducible refine fA _ ?_ ?_) | (with_reducible refine fD ?_) | (with_reducible refine fS _ ?_) | go_size | (go_simp; done))))))) (fun o => b1.cell (p := ⟨_, o, none⟩) (by go_size)) (fun o => b1.frozen (p := ⟨_, o, none⟩) (by go_size))
            have s1 := b1.size
            (try simp at s1)
            have A1 : Below w.heap.size w w1 := Below.trans (by (repeat' (first | (with_reducible assumption) | (with_reducible exact Below.refl _ _) | (with_reducible refine bdN ?_ _) | (with_reducible refine Below.alloc ?_ ?_ _) | (with_reducible refine Below.drew ?_) | (with_reducible refine Below.setCell ?_ ?_ _) | go_size))) (b1.mono (by go_size))
            simp only [CellsAt] at z1
            clear b1 hown1
            have hbad : (tb = false ∨ (0 < k ∧ kk.toList = [])) → tsB l = false := by
              intro hb
              refine HNO.out (fun g => ?_)
              have g := HGK.out.1 g
              rcases hb with hb | hb
              · rw [hb] at g; cases g.1
              · exact g.2.1 hb
            have hgood : tb = true → ¬ (0 < k ∧ kk.toList = []) → ∀ j, j < k + 1 → gdT l j := by
              intro h1 h2 j hj
              by_cases e : j = k
              · subst e
                exact HGK.out.2 ⟨h1, h2, fun i hi e => by have := HS.out.2 ⟨i, hi, e⟩; cases this⟩
              · exact HG.out j (by omega)
            have HBAD := Lib.hid hbad
            have HGOOD := Lib.hid hgood
            clear hbad hgood
            have kwf : (Lit.int .i64 (k : Int)).wf = true := by
              simp only [Lit.wf, Bool.and_eq_true, decide_eq_true_eq]
              exact ⟨by show (-9223372036854775808 : Int) ≤ _; omega, by show _ ≤ (9223372036854775807 : Int); omega⟩
            cases tb
            · go_wp2_with fail
              go_ret
              exact ⟨ret_bool (HBAD.out (.inl (by trivial))).symm, by (repeat' (first | (with_reducible assumption) | (with_reducible exact Below.refl _ _) | (with_reducible refine bdN ?_ _) | (with_reducible refine Below.alloc ?_ ?_ _) | (with_reducible refine Below.drew ?_) | (with_reducible refine Below.setCell ?_ ?_ _) | go_size))⟩
            · by_cases he : kk.toList.isEmpty = true
              · by_cases hk0 : 0 < k
                · go_wp2_with fail
                  go_ret
                  exact ⟨ret_bool (HBAD.out (.inr ⟨hk0, by simpa using he⟩)).symm, by (repeat' (first | (with_reducible assumption) | (with_reducible exact Below.refl _ _) | (with_reducible refine bdN ?_ _) | (with_reducible refine Below.alloc ?_ ?_ _) | (with_reducible refine Below.drew ?_) | (with_reducible refine Below.setCell ?_ ?_ _) | go_size))⟩
                · go_wp2_with (first
                    | (at_mapUpdate; refine wpList_mapUpdate_own _ rfl _ _ _ 92 rfl 9 3 strLaw Try.underlying92 _ w.heap.size k D rfl hown2 (by unfold maxLen; omega) _ _ _ rfl rfl hkey _ [] (plainElem_int Try.underlying3 kwf) ?_)
                    | fail)
                  intro w2 hown3 hgrow3
                  have R2 := A1.grown hgrow3 A1.size (fun j hj => by cases hj; exact Nat.le_refl _)
                  clear hown2 hgrow3
                  go_wp2_with fail
                  go_roundg (len - (k + 1))
                  case measure => omega
                  case rel => exact ⟨k + 1, _, rfl, by omega, by go_num, HGOOD.out (by trivial) (fun h => hk0 h.1), HP.out, hown3, R2⟩
              · have he2 : kk.toList.isEmpty = false := by simpa using he
                go_wp2_with (first
                    | (at_mapUpdate; refine wpList_mapUpdate_own _ rfl _ _ _ 92 rfl 9 3 strLaw Try.underlying92 _ w.heap.size k D rfl hown2 (by unfold maxLen; omega) _ _ _ rfl rfl hkey _ [] (plainElem_int Try.underlying3 kwf) ?_)
                    | fail)
                intro w2 hown3 hgrow3
                have R2 := A1.grown hgrow3 A1.size (fun j hj => by cases hj; exact Nat.le_refl _)
                clear hown2 hgrow3
                go_wp2_with fail
                go_roundg (len - (k + 1))
                case measure => omega
                case rel => exact ⟨k + 1, _, rfl, by omega, by go_num, HGOOD.out (by trivial) (fun h => by simp [h.2] at he), HP.out, hown3, R2⟩
          · have HE := Lib.hid (HNO.out (fun g => by obtain ⟨j, hj, e⟩ := HS.out.1 rfl; exact g.2.2 j hj (by rw [e, HKK.out])))
            go_wp2_with (first
              | (at_lookup; refine wpList_lookup_own_ok_int _ rfl _ _ 92 rfl 9 3 .i64 strLaw Try.underlying92 Try.underlying3 (zeroI _) w.heap.size k D rfl (hown.alloc _) _ _ rfl hkey ?_; intro c hat hwc)
              | fail)
            go_ret
            exact ⟨ret_bool HE.out.symm, by (repeat' (first | (with_reducible assumption) | (with_reducible exact Below.refl _ _) | (with_reducible refine bdN ?_ _) | (with_reducible refine Below.alloc ?_ ?_ _) | (with_reducible refine Below.drew ?_) | (with_reducible refine Below.setCell ?_ ?_ _) | go_size))⟩
        · obtain rfl : k = len := by omega
          go_wp2_with fail
          go_ret
          exact ⟨ret_bool (ts_t (l := l) ⟨by have := HLn.out; omega, by rw [← HLn.out]; exact hgd⟩).symm, by (repeat' (first | (with_reducible assumption) | (with_reducible exact Below.refl _ _) | (with_reducible refine bdN ?_ _) | (with_reducible refine Below.alloc ?_ ?_ _) | (with_reducible refine Below.drew ?_) | (with_reducible refine Below.setCell ?_ ?_ _) | go_size))⟩

set_option maxRecDepth 100000 in
set_option maxHeartbeats 4000000 in
theorem l14Tags_s (a : Option Addr) (len cap : Nat) (l : List Tg) (w : World) (h : IsTags w a len l) (hsz : szT l 1099511627776) (hn : len ≤ 1048576) : Calls Try.prog 51 #[.slice a len cap] w fun e w' => e = .returned (.bool (tsB l)) ∧ Below w.heap.size w w' := by
  obtain ⟨hl, h⟩ := h
  rcases h with rfl | ⟨b, off, rfl, hb, hc⟩
  · rw [ts_t ⟨by omega, fun i hi => by omega⟩]
    have HLn := Lib.hid hl
    clear hl
    go_enter Try.func51, Try.ntmps51
    go_wp2_with fail
    refine wp_loop_rounds 1 ?_
    rw [rounds_succ]
    go_wp2_with fail
    go_ret
    exact ⟨rfl, by (repeat' (first | (with_reducible assumption) | (with_reducible exact Below.refl _ _) | (with_reducible refine bdN ?_ _) | (with_reducible refine Below.alloc ?_ ?_ _) | (with_reducible refine Below.drew ?_) | (with_reducible refine Below.setCell ?_ ?_ _) | go_size))⟩
  · have HC := Lib.hid hc
    have HZ := Lib.hid hsz
    have HLn := Lib.hid hl
    clear hc hsz hl
    go_enter Try.func51, Try.ntmps51
    go_wp2_with fail
    go_loopg [3, 4] len (fun g i kv wr => ∃ k : Nat, g = len - k ∧ k ≤ len ∧ i = .int .i64 k ∧ (∀ j, j < k → gdT l j) ∧ Below w.heap.size w wr)
    case atStart => exact ⟨0, rfl, Nat.zero_le _, rfl, (fun j hj => by omega), by (repeat' (first | (with_reducible assumption) | (with_reducible exact Below.refl _ _) | (with_reducible refine bdN ?_ _) | (with_reducible refine Below.alloc ?_ ?_ _) | (with_reducible refine Below.drew ?_) | (with_reducible refine Below.setCell ?_ ?_ _) | go_size))⟩
    case round =>
      obtain ⟨k, rfl, hk, rfl, hgd, bel⟩ := hrel
      have hsz1 := bel.size
      by_cases hkl : k < len
      · have hi : k < l.length := by have := HLn.out; omega
        obtain ⟨x1', x2', x3'⟩ := HC.out k hi
        obtain ⟨y1, y2⟩ := HZ.out k hi
        have x1 := (bel.cell (p := ⟨b, _, none⟩) hb).trans x1'
        have x2 := (bel.cell (p := ⟨b, _, none⟩) hb).trans x2'
        have x3 := (bel.cell (p := ⟨b, _, none⟩) hb).trans x3'
        have hgk : gdT l k ↔ tvB (tgK l k) (tgV l k) = true ∧ ¬ (0 < k ∧ (tgK l k).toList = []) ∧ ∀ j, j < k → tgK l j ≠ tgK l k := Iff.rfl
        have hno : ¬ gdT l k → tsB l = false := fun h => ts_f (fun g => h (g.2 k hi))
        obtain ⟨kk, hkk⟩ : ∃ kk, tgK l k = kk := ⟨_, rfl⟩
        obtain ⟨vv, hvv⟩ : ∃ vv, tgV l k = vv := ⟨_, rfl⟩
        obtain ⟨cc, hcc⟩ : ∃ cc, tgC l k = cc := ⟨_, rfl⟩
        rw [hkk] at x1 y1 hgk
        rw [hvv] at x2 y2 hgk
        rw [hcc] at x3
        have TV := Lib.hid (fun w => TagValid_s kk vv cc y1 y2 w)
        obtain ⟨tb, htb⟩ : ∃ tb, tvB kk vv = tb := ⟨_, rfl⟩
        rw [htb] at TV hgk
        have HG := Lib.hid hgd
        have HGK := Lib.hid hgk
        have HNO := Lib.hid hno
        have HKK := Lib.hid hkk
        clear hgd hgk hno hkk hvv hcc htb x1' x2' x3'
        have hbad : (tb = false ∨ (0 < k ∧ kk.toList = []) ∨ ∃ j, j < k ∧ tgK l j = kk) → tsB l = false := by
          intro hb
          refine HNO.out (fun g => ?_)
          have g := HGK.out.1 g
          rcases hb with hb | hb | ⟨j, hj, hb⟩
          · rw [hb] at g; cases g.1
          · exact g.2.1 hb
          · exact g.2.2 j hj hb
        have HBAD := Lib.hid hbad
        clear hbad
        go_wp2_with fail
        refine (TV.out _).mono ?_
        rintro e w1 ⟨rfl, b1⟩
        have z1 : w1.cell? ⟨b, off + k * 3, none⟩ = some (.string kk) := (b1.cell (p := ⟨b, _, none⟩) (by show b < _; omega)).trans x1
        have z2 : w1.cell? ⟨b, off + k * 3 + 1, none⟩ = some (.string vv) := (b1.cell (p := ⟨b, _, none⟩) (by show b < _; omega)).trans x2
        have s1 := b1.size
        have A1 : Below w.heap.size w w1 := Below.trans (by (repeat' (first | (with_reducible assumption) | (with_reducible exact Below.refl _ _) | (with_reducible refine bdN ?_ _) | (with_reducible refine Below.alloc ?_ ?_ _) | (with_reducible refine Below.drew ?_) | (with_reducible refine Below.setCell ?_ ?_ _) | go_size))) (b1.mono (by go_size))
        clear b1
        cases tb
        · go_wp2_with fail
          go_ret
          exact ⟨ret_bool (HBAD.out (.inl (by trivial))).symm, by (repeat' (first | (with_reducible assumption) | (with_reducible exact Below.refl _ _) | (with_reducible refine bdN ?_ _) | (with_reducible refine Below.alloc ?_ ?_ _) | (with_reducible refine Below.drew ?_) | (with_reducible refine Below.setCell ?_ ?_ _) | go_size))⟩
        · rcases (show (0 < k ∧ kk.toList.isEmpty = true) ∨ (0 < k ∧ kk.toList.isEmpty = false) ∨ k = 0 by
            rcases Nat.eq_zero_or_pos k with h | h
            · exact .inr (.inr h)
            · cases he : kk.toList.isEmpty
              · exact .inr (.inl ⟨h, rfl⟩)
              · exact .inl ⟨h, rfl⟩) with ⟨hk0, he⟩ | ⟨hk0, he⟩ | hk0
          · go_wp2_with fail
            go_ret
            exact ⟨ret_bool (HBAD.out (.inr (.inl ⟨hk0, by simpa using he⟩))).symm, by (repeat' (first | (with_reducible assumption) | (with_reducible exact Below.refl _ _) | (with_reducible refine bdN ?_ _) | (with_reducible refine Below.alloc ?_ ?_ _) | (with_reducible refine Below.drew ?_) | (with_reducible refine Below.setCell ?_ ?_ _) | go_size))⟩
          · go_wp2_with fail
            go_loopg [4] k (fun g2 v wx => ∃ j : Nat, g2 = k - j ∧ j ≤ k ∧ v = .int .i64 j ∧ (∀ i, i < j → tgK l i ≠ kk) ∧ Below w.heap.size w wx)
            case atStart => exact ⟨0, rfl, Nat.zero_le _, rfl, (fun i hi => by omega), A1⟩
            case round =>
              obtain ⟨j, rfl, hj, rfl, hne, belx⟩ := hrel
              have hszx := belx.size
              have HNE := Lib.hid hne
              clear hne z1 z2 x1 x2 x3
              by_cases hjk : j < k
              · have hjl : j < len := by omega
                have hjl2 : j < l.length := by have := HLn.out; omega
                have u1 := (belx.cell (p := ⟨b, _, none⟩) hb).trans (HC.out j hjl2).1
                have u2 := (belx.cell (p := ⟨b, _, none⟩) hb).trans (HC.out k hi).1
                rw [HKK.out] at u2
                obtain ⟨kj, hkj⟩ : ∃ kj, tgK l j = kj := ⟨_, rfl⟩
                rw [hkj] at u1
                by_cases e : kj = kk
                · subst e
                  have HE := Lib.hid (HBAD.out (.inr (.inr ⟨j, hjk, hkj⟩)))
                  clear hkj
                  go_wp2_with fail
                  go_quiet (fail)
                  go_wp2_with fail
                  go_ret
                  exact ⟨ret_bool HE.out.symm, by (repeat' (first | (with_reducible assumption) | (with_reducible exact Below.refl _ _) | (with_reducible refine bdN ?_ _) | (with_reducible refine Below.alloc ?_ ?_ _) | (with_reducible refine Below.drew ?_) | (with_reducible refine Below.setCell ?_ ?_ _) | go_size))⟩
                · have e2 : (kj.toList == kk.toList) = false := byt_ne e
                  have HNE2 := Lib.hid e
                  clear e
                  have HKJ := Lib.hid hkj
                  clear hkj
                  go_wp2_with fail
                  go_quiet (fail)
                  go_wp2_with fail
                  go_roundg (k - (j + 1))
                  case measure => omega
                  case rel => exact ⟨j + 1, rfl, by omega, by go_num, (fun i hi => by
                    by_cases x : i = j
                    · subst x; rw [HKJ.out]; exact HNE2.out
                    · exact HNE.out i (by omega)), by (repeat' (first | (with_reducible assumption) | (with_reducible exact Below.refl _ _) | (with_reducible refine bdN ?_ _) | (with_reducible refine Below.alloc ?_ ?_ _) | (with_reducible refine Below.drew ?_) | (with_reducible refine Below.setCell ?_ ?_ _) | go_size))⟩
              · obtain rfl : j = k := by omega
                go_wp2_with fail
                go_roundg (len - (j + 1))
                case measure => omega
                case rel => exact ⟨j + 1, rfl, by omega, by go_num, (fun i hi => by
                  by_cases x : i = j
                  · subst x
                    exact HGK.out.2 ⟨by trivial, fun h => by simp [h.2] at he, HNE.out⟩
                  · exact HG.out i (by omega)), by (repeat' (first | (with_reducible assumption) | (with_reducible exact Below.refl _ _) | (with_reducible refine bdN ?_ _) | (with_reducible refine Below.alloc ?_ ?_ _) | (with_reducible refine Below.drew ?_) | (with_reducible refine Below.setCell ?_ ?_ _) | go_size))⟩
          · go_wp2_with fail
            go_loopg [4] k (fun g2 v wx => ∃ j : Nat, g2 = k - j ∧ j ≤ k ∧ v = .int .i64 j ∧ (∀ i, i < j → tgK l i ≠ kk) ∧ Below w.heap.size w wx)
            case atStart => exact ⟨0, rfl, Nat.zero_le _, rfl, (fun i hi => by omega), A1⟩
            case round =>
              obtain ⟨j, rfl, hj, rfl, hne, belx⟩ := hrel
              have hszx := belx.size
              have HNE := Lib.hid hne
              clear hne z1 z2 x1 x2 x3
              by_cases hjk : j < k
              · exact absurd hjk (by omega)
              · obtain rfl : j = k := by omega
                go_wp2_with fail
                go_roundg (len - (j + 1))
                case measure => omega
                case rel => exact ⟨j + 1, rfl, by omega, by go_num, (fun i hi => by
                  by_cases x : i = j
                  · subst x
                    exact HGK.out.2 ⟨by trivial, fun h => by omega, HNE.out⟩
                  · exact HG.out i (by omega)), by (repeat' (first | (with_reducible assumption) | (with_reducible exact Below.refl _ _) | (with_reducible refine bdN ?_ _) | (with_reducible refine Below.alloc ?_ ?_ _) | (with_reducible refine Below.drew ?_) | (with_reducible refine Below.setCell ?_ ?_ _) | go_size))⟩
      · obtain rfl : k = len := by omega
        have HGD := Lib.hid hgd
        clear hgd
        by_cases h4 : k ≤ 4
        · go_wp2_with fail
          go_ret
          exact ⟨ret_bool (by rw [ts_t (l := l) ⟨by have := HLn.out; omega, by rw [← HLn.out]; exact HGD.out⟩]; simp; omega), by (repeat' (first | (with_reducible assumption) | (with_reducible exact Below.refl _ _) | (with_reducible refine bdN ?_ _) | (with_reducible refine Below.alloc ?_ ?_ _) | (with_reducible refine Below.drew ?_) | (with_reducible refine Below.setCell ?_ ?_ _) | go_size))⟩
        · go_wp2_with fail
          go_ret
          exact ⟨ret_bool (by rw [ts_f (l := l) (by rintro ⟨x, _⟩; have := HLn.out; omega)]; simp; omega), by (repeat' (first | (with_reducible assumption) | (with_reducible exact Below.refl _ _) | (with_reducible refine bdN ?_ _) | (with_reducible refine Below.alloc ?_ ?_ _) | (with_reducible refine Below.drew ?_) | (with_reducible refine Below.setCell ?_ ?_ _) | go_size))⟩
end Go.Proofs.Ytbgpdjceofofoaa
