/- Whether all critical tags are known, by the program and by the reference. Condition: the texts are not longer than 2^40 bytes. -/
import Derived.Test.YtbgpdjceofofoaaTags
namespace Go.Proofs.Ytbgpdjceofofoaa
open Go.RowKit DN Go.WideMaps Go.Maps
set_option linter.unusedVariables false
set_option linter.unusedSimpArgs false

def sA (ks : List ByteArray) (i : Nat) : ByteArray := ks.getD i ⟨#[]⟩
/-- texts in memory -/
def StrsAt (w : World) (b off : Nat) (ks : List ByteArray) : Prop := ∀ i, i < ks.length → w.cell? ⟨b, off + i, none⟩ = some (.string (sA ks i))
/-- a slice of texts -/
def IsStrs (w : World) (a : Option Addr) (len : Nat) (ks : List ByteArray) : Prop := len = ks.length ∧ (len = 0 ∨ ∃ b off, a = some ⟨b, off, none⟩ ∧ b < w.heap.size ∧ StrsAt w b off ks)
def szS (ks : List ByteArray) (n : Nat) : Prop := ∀ i, i < ks.length → (sA ks i).size ≤ n
theorem isStrs_keep {w w' : World} {a : Option Addr} {len : Nat} {l : List ByteArray} (h : IsStrs w a len l) (g : Below w.heap.size w w') : IsStrs w' a len l := by
  obtain ⟨e, h⟩ := h
  refine ⟨e, h.imp id ?_⟩
  rintro ⟨b, off, rfl, hb, hc⟩
  refine ⟨b, off, rfl, Nat.lt_of_lt_of_le hb g.size, fun i hi => ?_⟩
  have hk : ∀ o, w'.cell? ⟨b, o, none⟩ = w.cell? ⟨b, o, none⟩ := fun o => g.cell (p := ⟨b, o, none⟩) hb
  rw [hk]
  exact hc i hi
/-- the tag at a place is known, or needs not to be -/
def okA (l : List Tg) (ks : List ByteArray) (i : Nat) : Prop := tgC l i = true → ¬ (tgK l i).toList = [] → ∃ j, j < ks.length ∧ sA ks j = tgK l i
/-- all critical tags are known -/
def taP (l : List Tg) (ks : List ByteArray) : Prop := tsP l ∧ ∀ i, i < l.length → okA l ks i
noncomputable def taB (l : List Tg) (ks : List ByteArray) : Bool := @ite Bool (taP l ks) (Classical.propDecidable _) true false
theorem ta_t {l : List Tg} {ks : List ByteArray} (h : taP l ks) : taB l ks = true := @if_pos _ (Classical.propDecidable _) h _ _ _
theorem ta_f {l : List Tg} {ks : List ByteArray} (h : ¬ taP l ks) : taB l ks = false := @if_neg _ (Classical.propDecidable _) h _ _ _
theorem ta_iff {l : List Tg} {ks : List ByteArray} : taB l ks = true ↔ taP l ks := ⟨fun h => Classical.byContradiction (fun x => by rw [ta_f x] at h; cases h), ta_t⟩
/-- behind the check of all tags -/
theorem ta_rest {l : List Tg} {ks : List ByteArray} (h : ∀ i, i < l.length → okA l ks i) : taB l ks = tsB l := by
  by_cases x : tsP l
  · rw [ts_t x, ta_t ⟨x, h⟩]
  · rw [ts_f x, ta_f (fun y => x y.1)]

set_option maxRecDepth 100000 in
set_option maxHeartbeats 4000000 in
theorem TagsAllow_s (a : Option Addr) (len cap : Nat) (l : List Tg) (a2 : Option Addr) (len2 cap2 : Nat) (ks : List ByteArray) (w : World) (h : IsTags w a len l) (hsz : szT l 1099511627776) (hn : len ≤ 1048576) (h2 : IsStrs w a2 len2 ks) (hsz2 : szS ks 1099511627776) (hn2 : len2 ≤ 1048576) :
    Calls Try.prog 22 #[.slice a len cap, .slice a2 len2 cap2] w fun e w' => e = .returned (.bool (taB l ks)) ∧ Below w.heap.size w w' := by
  have HV := Lib.hid (fun w' (h' : IsTags w' a len l) => l14Tags_s a len cap l w' h' hsz hn)
  have HT := Lib.hid h
  obtain ⟨hl, h⟩ := h
  rcases h with rfl | ⟨b, off, rfl, hb, hc⟩
  · have HLn := Lib.hid hl
    have HE := Lib.hid (ta_rest (l := l) (ks := ks) (fun i hi => by omega))
    clear hl h2
    go_enter Try.func22, Try.ntmps22
    go_wp2_with fail
    refine wp_loop_rounds 1 ?_
    rw [rounds_succ]
    go_wp2_with fail
    refine (HV.out _ HT.out).mono ?_
    rintro e w1 ⟨rfl, bw1⟩
    have sw1 := bw1.size
    (try simp at sw1)
    have Aw1 : Below w.heap.size w w1 := Below.trans (by (repeat' (first | (with_reducible assumption) | (with_reducible exact Below.refl _ _) | (with_reducible refine bdN ?_ _) | (with_reducible refine Below.alloc ?_ ?_ _) | (with_reducible refine Below.drew ?_) | (with_reducible refine Below.setCell ?_ ?_ _) | go_size))) (bw1.mono (by go_size))
    clear bw1
    go_wp2_with fail
    go_ret
    exact ⟨ret_bool HE.out.symm, by (repeat' (first | (with_reducible assumption) | (with_reducible exact Below.refl _ _) | (with_reducible refine bdN ?_ _) | (with_reducible refine Below.alloc ?_ ?_ _) | (with_reducible refine Below.drew ?_) | (with_reducible refine Below.setCell ?_ ?_ _) | go_size))⟩
  · have HC := Lib.hid hc
    have HLn := Lib.hid hl
    have H2 := Lib.hid h2
    clear hc hl h2
    go_enter Try.func22, Try.ntmps22
    go_wp2_with fail
    go_loopg [5, 6, 7] len (fun g i sv kv wr => ∃ k : Nat, g = len - k ∧ k ≤ len ∧ i = .int .i64 k ∧ (∀ j, j < k → okA l ks j) ∧ Below w.heap.size w wr)
    case atStart => exact ⟨0, rfl, Nat.zero_le _, rfl, (fun j hj => by omega), by (repeat' (first | (with_reducible assumption) | (with_reducible exact Below.refl _ _) | (with_reducible refine bdN ?_ _) | (with_reducible refine Below.alloc ?_ ?_ _) | (with_reducible refine Below.drew ?_) | (with_reducible refine Below.setCell ?_ ?_ _) | go_size))⟩
    case round =>
      obtain ⟨k, rfl, hk, rfl, hok, bel⟩ := hrel
      have hsz1 := bel.size
      have HOK := Lib.hid hok
      clear hok
      by_cases hkl : k < len
      · have hi : k < l.length := by have := HLn.out; omega
        obtain ⟨x1', x2', x3'⟩ := HC.out k hi
        have x1 := (bel.cell (p := ⟨b, _, none⟩) hb).trans x1'
        have x3 := (bel.cell (p := ⟨b, _, none⟩) hb).trans x3'
        obtain ⟨kk, hkk⟩ : ∃ kk, tgK l k = kk := ⟨_, rfl⟩
        obtain ⟨cc, hcc⟩ : ∃ cc, tgC l k = cc := ⟨_, rfl⟩
        rw [hkk] at x1
        rw [hcc] at x3
        have hokk : okA l ks k ↔ (cc = true → ¬ kk.toList = [] → ∃ j, j < ks.length ∧ sA ks j = kk) := by unfold okA; rw [hkk, hcc]
        have HOKK := Lib.hid hokk
        have HKK := Lib.hid hkk
        have HNO := Lib.hid (fun h : ¬ okA l ks k => ta_f (fun g : taP l ks => h (g.2 k hi)))
        obtain ⟨eb, heb⟩ : ∃ eb, kk.toList.isEmpty = eb := ⟨_, rfl⟩
        have HEB := Lib.hid heb
        clear x1' x2' x3' hkk hcc hokk
        obtain ⟨sb, hsb⟩ : ∃ sb, (!cc || eb) = sb := ⟨_, rfl⟩
        have HSB := Lib.hid hsb
        clear hsb
        go_upto_region 4 with fail
        go_cut [6] (fun c wx => c = .bool sb ∧ wr = wx)
        case first =>
          cases cc <;> cases eb
          all_goals
            go_wp2_with fail
            go_meet
            exact ⟨by rw [← HSB.out]; rfl, rfl⟩
        case rest =>
        obtain ⟨rfl, hwc⟩ := hcut
        subst hwc
        clear x3
        go_wp2_with fail
        go_loopg [6, 7] len2 (fun g2 sv jv wx => ∃ (j : Nat) (b3 : Bool), g2 = len2 - j ∧ j ≤ len2 ∧ jv = .int .i64 j ∧ sv = .bool b3 ∧ (b3 = true ↔ (sb = true ∨ ∃ i, i < j ∧ sA ks i = kk)) ∧ Below w.heap.size w wx)
        case atStart => exact ⟨0, sb, rfl, Nat.zero_le _, rfl, rfl, ⟨fun h => .inl h, fun h => h.resolve_right (by rintro ⟨i, hi, _⟩; omega)⟩, bel⟩
        case round =>
          obtain ⟨j, b3, rfl, hj, rfl, rfl, hb3, belx⟩ := hrel
          have hszx := belx.size
          have HB3 := Lib.hid hb3
          clear hb3 x1
          by_cases hjk : j < len2
          · have u2 := (belx.cell (p := ⟨b, _, none⟩) hb).trans (HC.out k hi).1
            rw [HKK.out] at u2
            obtain ⟨e2, h2⟩ := H2.out
            rcases h2 with rfl | ⟨b2, off2, rfl, hb2, hc2⟩
            · exact absurd hjk (by omega)
            · have u1 := (belx.cell (p := ⟨b2, _, none⟩) hb2).trans (hc2 j (by omega))
              clear hc2 e2
              obtain ⟨kj, hkj⟩ : ∃ kj, sA ks j = kj := ⟨_, rfl⟩
              rw [hkj] at u1
              have HKJ := Lib.hid hkj
              clear hkj
              have hnew : ∀ x : Bool, (x = true ↔ kj = kk) → ((b3 || x) = true ↔ (sb = true ∨ ∃ i, i < j + 1 ∧ sA ks i = kk)) := by
                intro x hx
                rw [Bool.or_eq_true, HB3.out, hx]
                constructor
                · rintro ((h | ⟨i, h1, h2⟩) | h)
                  · exact .inl h
                  · exact .inr ⟨i, by omega, h2⟩
                  · exact .inr ⟨j, by omega, by rw [HKJ.out]; exact h⟩
                · rintro (h | ⟨i, h1, h2⟩)
                  · exact .inl (.inl h)
                  · by_cases x : i = j
                    · subst x; rw [HKJ.out] at h2; exact .inr h2
                    · exact .inl (.inr ⟨i, by omega, h2⟩)
              have HNEW := Lib.hid hnew
              clear hnew
              cases b3
              · by_cases e : kj = kk
                · subst e
                  have HN1 := Lib.hid (HNEW.out true (by simp))
                  go_wp2_with fail
                  go_quiet (fail)
                  go_wp2_with fail
                  go_roundg (len2 - (j + 1))
                  case measure => omega
                  case rel => exact ⟨j + 1, true, rfl, by omega, by go_num, rfl, HN1.out, by (repeat' (first | (with_reducible assumption) | (with_reducible exact Below.refl _ _) | (with_reducible refine bdN ?_ _) | (with_reducible refine Below.alloc ?_ ?_ _) | (with_reducible refine Below.drew ?_) | (with_reducible refine Below.setCell ?_ ?_ _) | go_size))⟩
                · have e2 : (kj.toList == kk.toList) = false := byt_ne e
                  have HN1 := Lib.hid (HNEW.out false (by simpa using e))
                  clear e
                  go_wp2_with fail
                  go_quiet (fail)
                  go_wp2_with fail
                  go_roundg (len2 - (j + 1))
                  case measure => omega
                  case rel => exact ⟨j + 1, false, rfl, by omega, by go_num, rfl, HN1.out, by (repeat' (first | (with_reducible assumption) | (with_reducible exact Below.refl _ _) | (with_reducible refine bdN ?_ _) | (with_reducible refine Below.alloc ?_ ?_ _) | (with_reducible refine Below.drew ?_) | (with_reducible refine Below.setCell ?_ ?_ _) | go_size))⟩
              · have HN1 := Lib.hid (show (true = true ↔ (sb = true ∨ ∃ i, i < j + 1 ∧ sA ks i = kk)) from by
                  rcases Classical.em (kj = kk) with e | e
                  · exact HNEW.out true (by simpa using e)
                  · exact HNEW.out false (by simpa using e))
                go_wp2_with fail
                go_quiet (fail)
                go_wp2_with fail
                go_roundg (len2 - (j + 1))
                case measure => omega
                case rel => exact ⟨j + 1, true, rfl, by omega, by go_num, rfl, ⟨fun _ => HN1.out.1 (by trivial), fun _ => rfl⟩, by (repeat' (first | (with_reducible assumption) | (with_reducible exact Below.refl _ _) | (with_reducible refine bdN ?_ _) | (with_reducible refine Below.alloc ?_ ?_ _) | (with_reducible refine Below.drew ?_) | (with_reducible refine Below.setCell ?_ ?_ _) | go_size))⟩
          · obtain rfl : j = len2 := by omega
            have HL2 := Lib.hid H2.out.1
            have hkn : b3 = true ↔ okA l ks k := by
              rw [HB3.out, HOKK.out, ← HSB.out]
              constructor
              · rintro (h | ⟨i, h1, h2⟩) hc he
                · rw [hc, ← HEB.out] at h
                  exact absurd (by simpa using h) he
                · exact ⟨i, by rw [← HL2.out]; exact h1, h2⟩
              · intro h
                by_cases hc : cc = true
                · by_cases he : kk.toList = []
                  · exact .inl (by rw [← HEB.out, he]; simp)
                  · obtain ⟨i, h1, h2⟩ := h hc he
                    exact .inr ⟨i, by rw [HL2.out]; exact h1, h2⟩
                · exact .inl (by rw [Bool.not_eq_true] at hc; rw [hc]; rfl)
            have HKN := Lib.hid hkn
            clear hkn
            cases b3
            · have HE := Lib.hid (HNO.out (fun g => by have := HKN.out.2 g; cases this))
              go_wp2_with fail
              go_ret
              exact ⟨ret_bool HE.out.symm, by (repeat' (first | (with_reducible assumption) | (with_reducible exact Below.refl _ _) | (with_reducible refine bdN ?_ _) | (with_reducible refine Below.alloc ?_ ?_ _) | (with_reducible refine Below.drew ?_) | (with_reducible refine Below.setCell ?_ ?_ _) | go_size))⟩
            · have HG2 := Lib.hid (HKN.out.1 rfl)
              go_wp2_with fail
              go_roundg (len - (k + 1))
              case measure => omega
              case rel => exact ⟨k + 1, rfl, by omega, by go_num, (fun i hi => by
                by_cases x : i = k
                · subst x; exact HG2.out
                · exact HOK.out i (by omega)), by (repeat' (first | (with_reducible assumption) | (with_reducible exact Below.refl _ _) | (with_reducible refine bdN ?_ _) | (with_reducible refine Below.alloc ?_ ?_ _) | (with_reducible refine Below.drew ?_) | (with_reducible refine Below.setCell ?_ ?_ _) | go_size))⟩
      · obtain rfl : k = len := by omega
        have HE := Lib.hid (ta_rest (l := l) (ks := ks) (fun i hi => HOK.out i (by have := HLn.out; omega)))
        have HT2 := Lib.hid (isTags_keep HT.out (bel.mono (Nat.le_refl _)))
        go_wp2_with fail
        refine (HV.out _ HT2.out).mono ?_
        rintro e w1 ⟨rfl, bw1⟩
        have sw1 := bw1.size
        (try simp at sw1)
        have Aw1 : Below w.heap.size w w1 := Below.trans (by (repeat' (first | (with_reducible assumption) | (with_reducible exact Below.refl _ _) | (with_reducible refine bdN ?_ _) | (with_reducible refine Below.alloc ?_ ?_ _) | (with_reducible refine Below.drew ?_) | (with_reducible refine Below.setCell ?_ ?_ _) | go_size))) (bw1.mono (by go_size))
        clear bw1
        go_wp2_with fail
        go_ret
        exact ⟨ret_bool HE.out.symm, by (repeat' (first | (with_reducible assumption) | (with_reducible exact Below.refl _ _) | (with_reducible refine bdN ?_ _) | (with_reducible refine Below.alloc ?_ ?_ _) | (with_reducible refine Below.drew ?_) | (with_reducible refine Below.setCell ?_ ?_ _) | go_size))⟩

theorem zeroB (w : World) : (zeroValue 4).run Try.prog w = .ok (.bool false) w := by kernel_rfl
/-- what the map of known keys holds -/
def Known {H : Type} (D : DataW H) (ks : List ByteArray) (i : Nat) : Prop := IsMap D ∧ ∀ s : ByteArray, ((∃ j, j < i ∧ sA ks j = s) → D.atKey (.string s.data.toList) (.lit (.bool false)) = .lit (.bool true)) ∧ ((¬ ∃ j, j < i ∧ sA ks j = s) → D.atKey (.string s.data.toList) (.lit (.bool false)) = .lit (.bool false))
theorem known_none {H : Type} {ks : List ByteArray} : Known (.map [] : DataW H) ks 0 := ⟨isMap_empty, fun s => ⟨by rintro ⟨j, hj, _⟩; omega, fun _ => rfl⟩⟩
theorem known_put {H : Type} {D : DataW H} {ks : List ByteArray} {i : Nat} (h : Known D ks i) : Known (D.put (.string (sA ks i).data.toList) (.lit (.bool true))) ks (i + 1) := by
  obtain ⟨hm, h⟩ := h
  refine ⟨hm.put _ _, fun s => ?_⟩
  by_cases e : s = sA ks i
  · subst e
    rw [atKey_put_same hm (isKey_str _)]
    exact ⟨fun _ => rfl, fun hn => absurd ⟨i, by omega, rfl⟩ hn⟩
  · rw [atKey_put_other (lit_ne e)]
    have hx : (∃ j, j < i + 1 ∧ sA ks j = s) ↔ ∃ j, j < i ∧ sA ks j = s := by
      constructor
      · rintro ⟨j, hj, rfl⟩
        refine ⟨j, ?_, rfl⟩
        rcases Nat.lt_or_ge j i with hh | hh
        · exact hh
        · obtain rfl : j = i := by omega
          exact absurd rfl e
      · rintro ⟨j, hj, rfl⟩
        exact ⟨j, by omega, rfl⟩
    rw [hx]
    exact h s
theorem look_bool {H : Type} {P : Program} {w : World} {k t e : TypeId} {b n : Nat} {D : DataW H} (h : w.ownsMap P k (plainElem P e) b n D) (K : Keyed P k) (ht : P.underlying t = some (.map k e)) (he : P.underlying e = some .bool) (hz : (zeroValue e).run P w = .ok (.bool false) w)
    {key : Value} {kl : Lit} (hkey : keyOf P k key = some kl) {x : Bool} (hx : D.atKey kl (.lit (.bool false)) = .lit (.bool x)) : (Instr.lookup t (.map (some b)) key false).run P w = .ok (.bool x) w := by
  obtain ⟨v, ps, hrun, hv⟩ := h.lookup K ht hz (plainElem_bool he false) hkey
  rw [hx] at hv
  have : v = .bool x := by
    unfold plainElem at hv
    rw [he] at hv
    cases v <;> simp at hv
    rw [hv.1]
  rw [this] at hrun
  exact hrun

set_option maxRecDepth 100000 in
set_option maxHeartbeats 4000000 in
theorem TagsAllow_i (a : Option Addr) (len cap : Nat) (l : List Tg) (a2 : Option Addr) (len2 cap2 : Nat) (ks : List ByteArray) (w : World) (h : IsTags w a len l) (hsz : szT l 1099511627776) (hn : len ≤ 1048576) (h2 : IsStrs w a2 len2 ks) (hsz2 : szS ks 1099511627776) (hn2 : len2 ≤ 1048576) :
    Calls Try.prog 21 #[.slice a len cap, .slice a2 len2 cap2] w fun e w' => e = .returned (.bool (taB l ks)) ∧ Below w.heap.size w w' := by
  have HV := Lib.hid (tagsValid_i a len cap l w h hsz hn)
  have HT := Lib.hid h
  have HZ := Lib.hid hsz
  have HZ2 := Lib.hid hsz2
  by_cases hts : tsP l
  · rw [ts_t hts] at HV
    have HTS := Lib.hid hts
    have hmm := @run_makeMap Try.prog
    have HLn := Lib.hid h.1
    have HL2 := Lib.hid h2.1
    have H2 := Lib.hid h2.2
    have H1 := Lib.hid h.2
    clear hts h h2 hsz hsz2
    go_enter Try.func21, Try.ntmps21
    go_wp2_with fail
    refine HV.out.mono ?_
    rintro e w1 ⟨rfl, b1⟩
    have s1 := b1.size
    go_wp2_with fail
    go_loopg [7, 16] len2 (fun g kv i wr => ∃ (k : Nat) (D : DataW Unit), g = len2 - k ∧ k ≤ len2 ∧ i = .int .i64 k ∧ Known D ks k ∧ wr.ownsMap Try.prog 9 (plainElem Try.prog 4) w1.heap.size k D ∧ Below w1.heap.size w1 wr)
    case atStart => exact ⟨0, _, rfl, Nat.zero_le _, rfl, known_none, World.ownsMap_made _ _ _ _, by (repeat' (first | (with_reducible assumption) | (with_reducible exact Below.refl _ _) | (with_reducible refine bdN ?_ _) | (with_reducible refine Below.alloc ?_ ?_ _) | (with_reducible refine Below.drew ?_) | (with_reducible refine Below.setCell ?_ ?_ _) | go_size))⟩
    case round =>
      obtain ⟨k, D, rfl, hk, rfl, hkn, hown, bel⟩ := hrel
      have hszr := bel.size
      have BB : Below w.heap.size w wr := Below.trans b1 (bel.mono s1)
      by_cases hkl : k < len2
      · rcases H2.out with rfl | ⟨b2, off2, rfl, hb2, hc2⟩
        · exact absurd hkl (by omega)
        · have u1 := (BB.cell (p := ⟨b2, _, none⟩) hb2).trans (hc2 k (by have := HL2.out; omega))
          have y1 := HZ2.out k (by have := HL2.out; omega)
          have hput := known_put hkn
          clear hc2
          obtain ⟨kj, hkj⟩ : ∃ kj, sA ks k = kj := ⟨_, rfl⟩
          rw [hkj] at u1 y1 hput
          have hkey := key_lit y1
          have HP := Lib.hid hput
          clear hkj hput hkn
          go_wp2_with (first
            | (at_mapUpdate; refine wpList_mapUpdate_own _ rfl _ _ _ 67 rfl 9 4 strLaw Try.underlying67 _ w1.heap.size k D rfl hown (by unfold maxLen; omega) _ _ _ rfl rfl hkey _ [] (plainElem_bool Try.underlying4 true) ?_)
            | fail)
          intro w2 hown3 hgrow3
          have R2 := bel.grown hgrow3 bel.size (fun j hj => by cases hj; exact Nat.le_refl _)
          clear hown hgrow3
          go_wp2_with fail
          go_roundg (len2 - (k + 1))
          case measure => omega
          case rel => exact ⟨k + 1, _, rfl, by omega, by go_num, HP.out, hown3, R2⟩
      · obtain rfl : k = len2 := by omega
        have HKN := Lib.hid hkn.2
        clear hkn
        go_wp2_with fail
        go_loopg [9, 25] len (fun g tv i wx => ∃ k2 : Nat, g = len - k2 ∧ k2 ≤ len ∧ i = .int .i64 k2 ∧ (∀ j, j < k2 → okA l ks j) ∧ Below wr.heap.size wr wx)
        case atStart => exact ⟨0, rfl, Nat.zero_le _, rfl, (fun j hj => by omega), Below.refl _ _⟩
        case round =>
          obtain ⟨k2, rfl, hk2, rfl, hok, belx⟩ := hrel
          have hszx := belx.size
          have CC : Below w.heap.size w wr := Below.trans BB (belx.mono (by have := b1.size; omega))
          have HOK := Lib.hid hok
          clear hok
          by_cases hkl2 : k2 < len
          · rcases H1.out with rfl | ⟨b, off, rfl, hb, hc⟩
            · exact absurd hkl2 (by omega)
            · have hi : k2 < l.length := by have := HLn.out; omega
              have x1 := (CC.cell (p := ⟨b, _, none⟩) hb).trans (hc k2 hi).1
              have x2 := (CC.cell (p := ⟨b, _, none⟩) hb).trans (hc k2 hi).2.1
              have x3 := (CC.cell (p := ⟨b, _, none⟩) hb).trans (hc k2 hi).2.2
              have y1 := (HZ.out k2 hi).1
              clear hc
              obtain ⟨kk, hkk⟩ : ∃ kk, tgK l k2 = kk := ⟨_, rfl⟩
              obtain ⟨vv, hvv⟩ : ∃ vv, tgV l k2 = vv := ⟨_, rfl⟩
              obtain ⟨cc, hcc⟩ : ∃ cc, tgC l k2 = cc := ⟨_, rfl⟩
              rw [hkk] at x1 y1
              rw [hvv] at x2
              rw [hcc] at x3
              have hokk : okA l ks k2 ↔ (cc = true → ¬ kk.toList = [] → ∃ j, j < ks.length ∧ sA ks j = kk) := by unfold okA; rw [hkk, hcc]
              have hnext : okA l ks k2 → ∀ j, j < k2 + 1 → okA l ks j := by
                intro h j hj
                by_cases x : j = k2
                · subst x; exact h
                · exact HOK.out j (by omega)
              have HOKK := Lib.hid hokk
              have HNX := Lib.hid hnext
              have HNO := Lib.hid (fun h : ¬ okA l ks k2 => ta_f (fun g : taP l ks => h (g.2 k2 hi)))
              clear hkk hvv hcc hokk hnext
              have hkey := key_lit y1
              rcases (show cc = false ∨ (cc = true ∧ kk.toList.isEmpty = true) ∨ (cc = true ∧ kk.toList.isEmpty = false) by
                cases cc
                · exact .inl rfl
                · cases kk.toList.isEmpty
                  · exact .inr (.inr ⟨rfl, rfl⟩)
                  · exact .inr (.inl ⟨rfl, rfl⟩)) with rfl | ⟨rfl, he⟩ | ⟨rfl, he⟩
              · go_wp2_with fail
                go_roundg (len - (k2 + 1))
                case measure => omega
                case rel => exact ⟨k2 + 1, rfl, by omega, by go_num, HNX.out (HOKK.out.2 (fun h => by cases h)), by (repeat' (first | (with_reducible assumption) | (with_reducible exact Below.refl _ _) | (with_reducible refine bdN ?_ _) | (with_reducible refine Below.alloc ?_ ?_ _) | (with_reducible refine Below.drew ?_) | (with_reducible refine Below.setCell ?_ ?_ _) | go_size))⟩
              · have HE0 := Lib.hid (show kk.toList = [] by simpa using he)
                go_wp2_with fail
                go_roundg (len - (k2 + 1))
                case measure => omega
                case rel => exact ⟨k2 + 1, rfl, by omega, by go_num, HNX.out (HOKK.out.2 (fun _ h => absurd HE0.out h)), by (repeat' (first | (with_reducible assumption) | (with_reducible exact Below.refl _ _) | (with_reducible refine bdN ?_ _) | (with_reducible refine Below.alloc ?_ ?_ _) | (with_reducible refine Below.drew ?_) | (with_reducible refine Below.setCell ?_ ?_ _) | go_size))⟩
              · have HE0 := Lib.hid (show ¬ kk.toList = [] by simpa using he)
                have hown2 := (own_keep hown belx).alloc (.cells #[.string kk, .string vv, .bool true] 26)
                by_cases hx : ∃ j, j < k ∧ sA ks j = kk
                · have hl := look_bool hown2 strLaw Try.underlying67 Try.underlying4 (zeroB _) hkey ((HKN.out kk).1 hx)
                  have HX := Lib.hid hx
                  clear hx hown2
                  go_wp2_with fail
                  go_roundg (len - (k2 + 1))
                  case measure => omega
                  case rel => exact ⟨k2 + 1, rfl, by omega, by go_num, HNX.out (HOKK.out.2 (fun _ _ => by obtain ⟨j, h1, h2⟩ := HX.out; exact ⟨j, by have := HL2.out; omega, h2⟩)), by (repeat' (first | (with_reducible assumption) | (with_reducible exact Below.refl _ _) | (with_reducible refine bdN ?_ _) | (with_reducible refine Below.alloc ?_ ?_ _) | (with_reducible refine Below.drew ?_) | (with_reducible refine Below.setCell ?_ ?_ _) | go_size))⟩
                · have hl := look_bool hown2 strLaw Try.underlying67 Try.underlying4 (zeroB _) hkey ((HKN.out kk).2 hx)
                  have HE := Lib.hid (HNO.out (fun g => hx (by obtain ⟨j, h1, h2⟩ := HOKK.out.1 g rfl HE0.out; exact ⟨j, by have := HL2.out; omega, h2⟩)))
                  clear hx hown2
                  go_wp2_with fail
                  go_ret
                  exact ⟨ret_bool HE.out.symm, by (repeat' (first | (with_reducible assumption) | (with_reducible exact Below.refl _ _) | (with_reducible refine bdN ?_ _) | (with_reducible refine Below.alloc ?_ ?_ _) | (with_reducible refine Below.drew ?_) | (with_reducible refine Below.setCell ?_ ?_ _) | go_size))⟩
          · obtain rfl : k2 = len := by omega
            have HE := Lib.hid (ta_t (l := l) (ks := ks) ⟨HTS.out, fun i hi => HOK.out i (by have := HLn.out; omega)⟩)
            go_wp2_with fail
            go_ret
            exact ⟨ret_bool HE.out.symm, by (repeat' (first | (with_reducible assumption) | (with_reducible exact Below.refl _ _) | (with_reducible refine bdN ?_ _) | (with_reducible refine Below.alloc ?_ ?_ _) | (with_reducible refine Below.drew ?_) | (with_reducible refine Below.setCell ?_ ?_ _) | go_size))⟩
  · rw [ts_f hts] at HV
    have HE := Lib.hid (ta_f (l := l) (ks := ks) (fun y => hts y.1))
    clear hts h h2 hsz hsz2
    go_enter Try.func21, Try.ntmps21
    go_wp2_with fail
    refine (HV.out).mono ?_
    rintro e w1 ⟨rfl, bw1⟩
    have sw1 := bw1.size
    (try simp at sw1)
    have Aw1 : Below w.heap.size w w1 := Below.trans (by (repeat' (first | (with_reducible assumption) | (with_reducible exact Below.refl _ _) | (with_reducible refine bdN ?_ _) | (with_reducible refine Below.alloc ?_ ?_ _) | (with_reducible refine Below.drew ?_) | (with_reducible refine Below.setCell ?_ ?_ _) | go_size))) (bw1.mono (by go_size))
    clear bw1
    go_wp2_with fail
    go_ret
    exact ⟨ret_bool HE.out.symm, by (repeat' (first | (with_reducible assumption) | (with_reducible exact Below.refl _ _) | (with_reducible refine bdN ?_ _) | (with_reducible refine Below.alloc ?_ ?_ _) | (with_reducible refine Below.drew ?_) | (with_reducible refine Below.setCell ?_ ?_ _) | go_size))⟩
end Go.Proofs.Ytbgpdjceofofoaa
