/- The texts of tags, by the program and by the reference. Condition: the texts are not longer than 2^40 bytes. -/
import Derived.Test.YtbgpdjceofofoaaTags
import Derived.Test.YtbgpdjceofofoaaBuild
namespace Go.Proofs.Ytbgpdjceofofoaa
open Go.RowKit DN
set_option linter.unusedVariables false
set_option linter.unusedSimpArgs false

theorem tv_size {k v : ByteArray} (h : tvB k v = true) : k.size ≤ 12 ∧ v.size ≤ 12 := by
  have hw : ∀ z s, wordB z s = true → s.size ≤ 12 := by
    intro z s h
    rcases Nat.lt_or_ge 12 s.size with x | x
    · rw [word_len (inB_f (by omega))] at h; cases h
    · exact x
  by_cases hk : k.toList = []
  · rw [tv_e hk] at h
    refine ⟨?_, hw _ _ h⟩
    rw [ByteArray.toList_eq] at hk
    have : k.data.toList.length = 0 := by rw [hk]; rfl
    have : k.size = 0 := by simpa using this
    omega
  · rw [tv_k hk, Bool.and_eq_true] at h
    exact ⟨hw _ _ h.1, hw _ _ h.2⟩
/-- the text of a tag -/
def o1T (c : Bool) : ByteArray := if c = true then ⟨#[91]⟩ ++ ⟨#[33]⟩ else ⟨#[91]⟩
def o2T (k : ByteArray) (c : Bool) : ByteArray := if k.toList.isEmpty = true then o1T c else o1T c ++ (k ++ ⟨#[61]⟩)
def tgT (k v : ByteArray) (c : Bool) : ByteArray := o2T k c ++ v ++ ⟨#[93]⟩
theorem one_size (u : UInt8) : (⟨#[u]⟩ : ByteArray).size = 1 := rfl
theorem o1T_size (c : Bool) : (o1T c).size ≤ 2 := by cases c <;> decide
theorem o2T_size (k : ByteArray) (c : Bool) : (o2T k c).size ≤ k.size + 3 := by
  have := o1T_size c
  unfold o2T
  split
  · omega
  · simp only [ByteArray.size_append, one_size]; omega
theorem tgT_size (k v : ByteArray) (c : Bool) : (tgT k v c).size ≤ k.size + v.size + 4 := by
  have := o2T_size k c
  unfold tgT
  simp only [ByteArray.size_append, one_size]; omega
/-- the text of the first tags -/
def txT (l : List Tg) : Nat → ByteArray
  | 0 => ⟨#[]⟩
  | n + 1 => txT l n ++ tgT (tgK l n) (tgV l n) (tgC l n)
theorem txT_size {l : List Tg} (h : tsP l) : ∀ n, n ≤ l.length → (txT l n).size ≤ 28 * n := by
  intro n
  induction n with
  | zero => intro _; exact Nat.zero_le _
  | succ n ih =>
    intro hn
    have h1 := ih (by omega)
    have h2 := tgT_size (tgK l n) (tgV l n) (tgC l n)
    have h3 := tv_size (h.2 n (by omega)).1
    show (txT l n ++ tgT (tgK l n) (tgV l n) (tgC l n)).size ≤ _
    rw [ByteArray.size_append]
    omega

set_option maxRecDepth 100000 in
set_option maxHeartbeats 2000000 in
theorem text_i (k v : ByteArray) (c : Bool) (w : World) (hk : k.size ≤ 12) (hv : v.size ≤ 12) : Calls Try.prog 53 #[.agg #[.string k, .string v, .bool c]] w fun e w' => e = .returned (.string (tgT k v c)) ∧ Below w.heap.size w w' := by
  have s1 := one_size 91
  have s2 := one_size 33
  have s3 := one_size 61
  have s4 := one_size 93
  cases he : k.toList.isEmpty
  · have E := Lib.hid (show tgT k v c = (o1T c ++ (k ++ ⟨#[61]⟩)) ++ v ++ ⟨#[93]⟩ by unfold tgT o2T; rw [he]; rfl)
    cases c
    all_goals
      have E2 := Lib.hid E.out
      unfold o1T at E2
      clear E
      go_enter Try.func53, Try.ntmps53
      go_wp2_with fail
      go_ret
      exact ⟨by rw [E2.out]; rfl, by (repeat' (first | (with_reducible assumption) | (with_reducible exact Below.refl _ _) | (with_reducible refine bdN ?_ _) | (with_reducible refine Below.alloc ?_ ?_ _) | (with_reducible refine Below.drew ?_) | (with_reducible refine Below.setCell ?_ ?_ _) | go_size))⟩
  · have E := Lib.hid (show tgT k v c = o1T c ++ v ++ ⟨#[93]⟩ by unfold tgT o2T; rw [he]; rfl)
    cases c
    all_goals
      have E2 := Lib.hid E.out
      unfold o1T at E2
      clear E
      go_enter Try.func53, Try.ntmps53
      go_wp2_with fail
      go_ret
      exact ⟨by rw [E2.out]; rfl, by (repeat' (first | (with_reducible assumption) | (with_reducible exact Below.refl _ _) | (with_reducible refine bdN ?_ _) | (with_reducible refine Below.alloc ?_ ?_ _) | (with_reducible refine Below.drew ?_) | (with_reducible refine Below.setCell ?_ ?_ _) | go_size))⟩

/-- the text of tags and whether they are valid -/
def ttOut (l : List Tg) (b : Bool) : Value := .tuple #[.string (if b = true then txT l l.length else ⟨#[]⟩), .bool b]
theorem bld_below {w w' : World} {B b : Nat} {s : ByteArray} (h : BldT w B b s) (k : Below w.heap.size w w') : BldT w' B b s := by
  have hh : ∀ p, Lib.BuilderAt 70 5 B b p (Lib.strCells s) w → Lib.BuilderAt 70 5 B b p (Lib.strCells s) w' := by
    rintro p ⟨hB, v, hb, hown, hne⟩
    have lt : ∀ {g : Nat} {o : Obj}, w.heap[g]? = some o → g < w.heap.size := by
      intro g o hg
      rcases Nat.lt_or_ge g w.heap.size with x | x
      · exact x
      · rw [Array.getElem?_eq_none x] at hg; cases hg
    refine ⟨hB, v, by rw [k.block b (lt hb)]; exact hb, ⟨hown.1, ?_⟩, hne⟩
    rcases hown.2 with h0 | ⟨g, cap, cur, e, hg1, hg2, rest⟩
    · exact .inl h0
    · exact .inr ⟨g, cap, cur, e, hg1, by rw [k.block g (lt hg2)]; exact hg2, rest⟩
  rcases h with h | h
  · exact .inl (hh _ h)
  · exact .inr (hh _ h)
theorem bld_new (w : World) : BldT (w.alloc (.cells #[.pointer none, .slice none 0 0] 70)) w.heap.size w.heap.size ⟨#[]⟩ :=
  .inl ⟨Nat.le_refl _, .slice none 0 0, heap_alloc_new w _, World.ownsRow_nil _ _ _ _, by intro e; cases e⟩

set_option maxRecDepth 100000 in
set_option maxHeartbeats 4000000 in
theorem TagsText_i (a : Option Addr) (len cap : Nat) (l : List Tg) (w : World) (h : IsTags w a len l) (hsz : szT l 1099511627776) (hn : len ≤ 1048576) : Calls Try.prog 24 #[.slice a len cap] w fun e w' => e = .returned (ttOut l (tsB l)) ∧ Below w.heap.size w w' := by
  have HV := Lib.hid (tagsValid_i a len cap l w h hsz hn)
  by_cases hts : tsP l
  · rw [ts_t hts] at HV ⊢
    have HTS := Lib.hid hts
    have HLn := Lib.hid h.1
    have H1 := Lib.hid h.2
    clear hts h hsz
    go_enter Try.func24, Try.ntmps24
    go_wp2_with fail
    refine HV.out.mono ?_
    rintro e w1 ⟨rfl, b1⟩
    have s1 := b1.size
    go_wp2_with fail
    go_loopg [12] len (fun g i wr => ∃ k : Nat, g = len - k ∧ k ≤ len ∧ i = .int .i64 k ∧ BldT wr w1.heap.size w1.heap.size (txT l k) ∧ Below w1.heap.size w1 wr ∧ w1.heap.size < wr.heap.size)
    case atStart => exact ⟨0, rfl, Nat.zero_le _, rfl, bld_new w1, by (repeat' (first | (with_reducible assumption) | (with_reducible exact Below.refl _ _) | (with_reducible refine bdN ?_ _) | (with_reducible refine Below.alloc ?_ ?_ _) | (with_reducible refine Below.drew ?_) | (with_reducible refine Below.setCell ?_ ?_ _) | go_size)), by go_size⟩
    case round =>
      obtain ⟨k, rfl, hk, rfl, hbl, bel, hlt⟩ := hrel
      have hszr := bel.size
      have BB : Below w.heap.size w wr := Below.trans b1 (bel.mono s1)
      by_cases hkl : k < len
      · rcases H1.out with rfl | ⟨b, off, rfl, hb, hc⟩
        · exact absurd hkl (by omega)
        · have hi : k < l.length := by have := HLn.out; omega
          have x1 := (BB.cell (p := ⟨b, _, none⟩) hb).trans (hc k hi).1
          have x2 := (BB.cell (p := ⟨b, _, none⟩) hb).trans (hc k hi).2.1
          have x3 := (BB.cell (p := ⟨b, _, none⟩) hb).trans (hc k hi).2.2
          have hz := tv_size (HTS.out.2 k hi).1
          have hx := txT_size HTS.out k (by omega)
          have hl4 := HTS.out.1
          have hts := tgT_size (tgK l k) (tgV l k) (tgC l k)
          have hnx : txT l (k + 1) = txT l k ++ tgT (tgK l k) (tgV l k) (tgC l k) := rfl
          clear hc
          obtain ⟨kk, hkk⟩ : ∃ kk, tgK l k = kk := ⟨_, rfl⟩
          obtain ⟨vv, hvv⟩ : ∃ vv, tgV l k = vv := ⟨_, rfl⟩
          obtain ⟨cc, hcc⟩ : ∃ cc, tgC l k = cc := ⟨_, rfl⟩
          rw [hkk] at x1 hz hts hnx
          rw [hvv] at x2 hz hts hnx
          rw [hcc] at x3 hts hnx
          clear hkk hvv hcc
          obtain ⟨hz1, hz2⟩ := hz
          have TX := Lib.hid (fun w => text_i kk vv cc w hz1 hz2)
          obtain ⟨tt, htt⟩ : ∃ tt, tgT kk vv cc = tt := ⟨_, rfl⟩
          rw [htt] at TX hts hnx
          obtain ⟨xx, hxx⟩ : ∃ xx, txT l k = xx := ⟨_, rfl⟩
          rw [hxx] at hx hnx hbl
          have HNX := Lib.hid hnx
          have WS := Lib.hid (fun w' (h' : BldT w' w1.heap.size w1.heap.size xx) hB => write_any w1.heap.size w1.heap.size xx tt w' h' (by omega) hB)
          clear htt hnx hxx
          go_wp2_with fail
          refine (TX.out _).mono ?_
          rintro e w2 ⟨rfl, b2⟩
          have s2 := b2.size
          (try simp at s2)
          have bl2 : BldT w2 w1.heap.size w1.heap.size xx := bld_below (bld_below hbl ((Below.refl _ _).alloc (Nat.le_refl _) _)) b2
          have A2 : Below w1.heap.size w1 w2 := Below.trans (by (repeat' (first | (with_reducible assumption) | (with_reducible exact Below.refl _ _) | (with_reducible refine bdN ?_ _) | (with_reducible refine Below.alloc ?_ ?_ _) | (with_reducible refine Below.drew ?_) | (with_reducible refine Below.setCell ?_ ?_ _) | go_size))) (b2.mono (by go_size))
          clear b2 hbl
          go_wp2_with fail
          refine (WS.out _ bl2 (by omega)).mono ?_
          rintro e w3 ⟨rfl, bl3, b3⟩
          have A3 : Below w1.heap.size w1 w3 := A2.trans b3
          have s3 := b3.size
          clear b3 bl2
          go_wp2_with fail
          go_roundg (len - (k + 1))
          case measure => omega
          case rel => exact ⟨k + 1, rfl, by omega, by go_num, by rw [HNX.out]; exact bl3, A3, by omega⟩
      · obtain rfl : k = len := by omega
        have ST := Lib.hid (string_any w1.heap.size w1.heap.size _ wr hbl (by omega))
        have HE := Lib.hid (show ttOut l true = .tuple #[.string (txT l k), .bool true] by unfold ttOut; rw [if_pos rfl, HLn.out])
        clear hbl
        go_wp2_with fail
        refine ST.out.mono ?_
        rintro e w2 ⟨rfl, b2⟩
        have A2 : Below w.heap.size w w2 := BB.trans (b2.mono (by omega))
        go_wp2_with fail
        go_ret2
        exact ⟨by rw [HE.out] <;> rfl, by (repeat' (first | (with_reducible assumption) | (with_reducible exact Below.refl _ _) | (with_reducible refine bdN ?_ _) | (with_reducible refine Below.alloc ?_ ?_ _) | (with_reducible refine Below.drew ?_) | (with_reducible refine Below.setCell ?_ ?_ _) | go_size))⟩
  · rw [ts_f hts] at HV ⊢
    clear hts h hsz
    go_enter Try.func24, Try.ntmps24
    go_wp2_with fail
    refine (HV.out).mono ?_
    rintro e w1 ⟨rfl, bw1⟩
    have sw1 := bw1.size
    (try simp at sw1)
    have Aw1 : Below w.heap.size w w1 := Below.trans (by (repeat' (first | (with_reducible assumption) | (with_reducible exact Below.refl _ _) | (with_reducible refine bdN ?_ _) | (with_reducible refine Below.alloc ?_ ?_ _) | (with_reducible refine Below.drew ?_) | (with_reducible refine Below.setCell ?_ ?_ _) | go_size))) (bw1.mono (by go_size))
    clear bw1
    go_wp2_with fail
    go_ret2
    exact ⟨rfl, by (repeat' (first | (with_reducible assumption) | (with_reducible exact Below.refl _ _) | (with_reducible refine bdN ?_ _) | (with_reducible refine Below.alloc ?_ ?_ _) | (with_reducible refine Below.drew ?_) | (with_reducible refine Below.setCell ?_ ?_ _) | go_size))⟩

theorem tg_tt (X k v : ByteArray) (h : k.toList.isEmpty = true) : X ++ ⟨#[91]⟩ ++ ⟨#[33]⟩ ++ v ++ ⟨#[93]⟩ = X ++ tgT k v true := by
  unfold tgT o2T o1T
  rw [if_pos h, if_pos rfl]
  simp only [ByteArray.append_assoc]
theorem tg_tf (X k v : ByteArray) (h : k.toList.isEmpty = false) : X ++ ⟨#[91]⟩ ++ ⟨#[33]⟩ ++ k ++ ⟨#[61]⟩ ++ v ++ ⟨#[93]⟩ = X ++ tgT k v true := by
  unfold tgT o2T o1T
  rw [if_neg (by rw [h]; exact Bool.false_ne_true), if_pos rfl]
  simp only [ByteArray.append_assoc]
theorem tg_ft (X k v : ByteArray) (h : k.toList.isEmpty = true) : X ++ ⟨#[91]⟩ ++ v ++ ⟨#[93]⟩ = X ++ tgT k v false := by
  unfold tgT o2T o1T
  rw [if_pos h, if_neg Bool.false_ne_true]
  simp only [ByteArray.append_assoc]
theorem tg_ff (X k v : ByteArray) (h : k.toList.isEmpty = false) : X ++ ⟨#[91]⟩ ++ k ++ ⟨#[61]⟩ ++ v ++ ⟨#[93]⟩ = X ++ tgT k v false := by
  unfold tgT o2T o1T
  rw [if_neg (by rw [h]; exact Bool.false_ne_true), if_neg Bool.false_ne_true]
  simp only [ByteArray.append_assoc]
set_option maxRecDepth 100000 in
set_option maxHeartbeats 4000000 in
theorem l14Text_s (a : Option Addr) (len cap : Nat) (l : List Tg) (w : World) (h : IsTags w a len l) (hts : tsP l) : Calls Try.prog 55 #[.slice a len cap] w fun e w' => e = .returned (.string (txT l l.length)) ∧ Below w.heap.size w w' := by
  have HTS := Lib.hid hts
  have HLn := Lib.hid h.1
  have H1 := Lib.hid h.2
  have hn : len ≤ 4 := by rw [h.1]; exact hts.1
  have t1 := one_size 91
  have t2 := one_size 33
  have t3 := one_size 61
  have t4 := one_size 93
  clear hts h
  go_enter Try.func55, Try.ntmps55
  go_wp2_with fail
  go_loopg [3, 4] len (fun g ov i wr => ∃ k : Nat, g = len - k ∧ k ≤ len ∧ i = .int .i64 k ∧ ov = .string (txT l k) ∧ Below w.heap.size w wr)
  case atStart => exact ⟨0, rfl, Nat.zero_le _, rfl, rfl, by (repeat' (first | (with_reducible assumption) | (with_reducible exact Below.refl _ _) | (with_reducible refine bdN ?_ _) | (with_reducible refine Below.alloc ?_ ?_ _) | (with_reducible refine Below.drew ?_) | (with_reducible refine Below.setCell ?_ ?_ _) | go_size))⟩
  case round =>
    obtain ⟨k, rfl, hk, rfl, rfl, bel⟩ := hrel
    have hszr := bel.size
    by_cases hkl : k < len
    · rcases H1.out with rfl | ⟨b, off, rfl, hb, hc⟩
      · exact absurd hkl (by omega)
      · have hi : k < l.length := by have := HLn.out; omega
        have x1 := (bel.cell (p := ⟨b, _, none⟩) hb).trans (hc k hi).1
        have x2 := (bel.cell (p := ⟨b, _, none⟩) hb).trans (hc k hi).2.1
        have x3 := (bel.cell (p := ⟨b, _, none⟩) hb).trans (hc k hi).2.2
        have hz := tv_size (HTS.out.2 k hi).1
        have hx := txT_size HTS.out k (by omega)
        have hnx : txT l (k + 1) = txT l k ++ tgT (tgK l k) (tgV l k) (tgC l k) := rfl
        clear hc
        obtain ⟨kk, hkk⟩ : ∃ kk, tgK l k = kk := ⟨_, rfl⟩
        obtain ⟨vv, hvv⟩ : ∃ vv, tgV l k = vv := ⟨_, rfl⟩
        obtain ⟨cc, hcc⟩ : ∃ cc, tgC l k = cc := ⟨_, rfl⟩
        rw [hkk] at x1 hz hnx
        rw [hvv] at x2 hz hnx
        rw [hcc] at x3 hnx
        clear hkk hvv hcc
        obtain ⟨hz1, hz2⟩ := hz
        obtain ⟨xx, hxx⟩ : ∃ xx, txT l k = xx := ⟨_, rfl⟩
        rw [hxx] at hx hnx ⊢
        have HNX := Lib.hid hnx
        clear hnx hxx
        cases he : kk.toList.isEmpty
        · cases cc
          · have HEQ := Lib.hid ((tg_ff xx kk vv he).trans HNX.out.symm)
            go_wp2_with fail
            go_roundg (len - (k + 1))
            case measure => omega
            case rel => exact ⟨k + 1, rfl, by omega, by go_num, by rw [← HEQ.out], by (repeat' (first | (with_reducible assumption) | (with_reducible exact Below.refl _ _) | (with_reducible refine bdN ?_ _) | (with_reducible refine Below.alloc ?_ ?_ _) | (with_reducible refine Below.drew ?_) | (with_reducible refine Below.setCell ?_ ?_ _) | go_size))⟩
          · have HEQ := Lib.hid ((tg_tf xx kk vv he).trans HNX.out.symm)
            go_wp2_with fail
            go_roundg (len - (k + 1))
            case measure => omega
            case rel => exact ⟨k + 1, rfl, by omega, by go_num, by rw [← HEQ.out], by (repeat' (first | (with_reducible assumption) | (with_reducible exact Below.refl _ _) | (with_reducible refine bdN ?_ _) | (with_reducible refine Below.alloc ?_ ?_ _) | (with_reducible refine Below.drew ?_) | (with_reducible refine Below.setCell ?_ ?_ _) | go_size))⟩
        · cases cc
          · have HEQ := Lib.hid ((tg_ft xx kk vv he).trans HNX.out.symm)
            go_wp2_with fail
            go_roundg (len - (k + 1))
            case measure => omega
            case rel => exact ⟨k + 1, rfl, by omega, by go_num, by rw [← HEQ.out], by (repeat' (first | (with_reducible assumption) | (with_reducible exact Below.refl _ _) | (with_reducible refine bdN ?_ _) | (with_reducible refine Below.alloc ?_ ?_ _) | (with_reducible refine Below.drew ?_) | (with_reducible refine Below.setCell ?_ ?_ _) | go_size))⟩
          · have HEQ := Lib.hid ((tg_tt xx kk vv he).trans HNX.out.symm)
            go_wp2_with fail
            go_roundg (len - (k + 1))
            case measure => omega
            case rel => exact ⟨k + 1, rfl, by omega, by go_num, by rw [← HEQ.out], by (repeat' (first | (with_reducible assumption) | (with_reducible exact Below.refl _ _) | (with_reducible refine bdN ?_ _) | (with_reducible refine Below.alloc ?_ ?_ _) | (with_reducible refine Below.drew ?_) | (with_reducible refine Below.setCell ?_ ?_ _) | go_size))⟩
    · obtain rfl : k = len := by omega
      have HE := Lib.hid (show txT l k = txT l l.length by rw [HLn.out])
      go_wp2_with fail
      go_ret
      exact ⟨by rw [← HE.out] <;> rfl, by (repeat' (first | (with_reducible assumption) | (with_reducible exact Below.refl _ _) | (with_reducible refine bdN ?_ _) | (with_reducible refine Below.alloc ?_ ?_ _) | (with_reducible refine Below.drew ?_) | (with_reducible refine Below.setCell ?_ ?_ _) | go_size))⟩
set_option maxRecDepth 100000 in
set_option maxHeartbeats 2000000 in
theorem TagsText_s (a : Option Addr) (len cap : Nat) (l : List Tg) (w : World) (h : IsTags w a len l) (hsz : szT l 1099511627776) (hn : len ≤ 1048576) : Calls Try.prog 25 #[.slice a len cap] w fun e w' => e = .returned (ttOut l (tsB l)) ∧ Below w.heap.size w w' := by
  have HV := Lib.hid (l14Tags_s a len cap l w h hsz hn)
  by_cases hts : tsP l
  · rw [ts_t hts] at HV ⊢
    have X := Lib.hid (fun w' (h' : IsTags w' a len l) => l14Text_s a len cap l w' h' hts)
    have HT := Lib.hid h
    clear hts h hsz
    go_enter Try.func25, Try.ntmps25
    go_wp2_with fail
    refine HV.out.mono ?_
    rintro e w1 ⟨rfl, b1⟩
    have HT1 := Lib.hid (isTags_keep HT.out b1)
    have s1 := b1.size
    go_wp2_with fail
    refine (X.out _ HT1.out).mono ?_
    rintro e w2 ⟨rfl, b2⟩
    have A2 : Below w.heap.size w w2 := b1.trans (b2.mono s1)
    go_wp2_with fail
    go_ret2
    exact ⟨rfl, by (repeat' (first | (with_reducible assumption) | (with_reducible exact Below.refl _ _) | (with_reducible refine bdN ?_ _) | (with_reducible refine Below.alloc ?_ ?_ _) | (with_reducible refine Below.drew ?_) | (with_reducible refine Below.setCell ?_ ?_ _) | go_size))⟩
  · rw [ts_f hts] at HV ⊢
    clear hts h hsz
    go_enter Try.func25, Try.ntmps25
    go_wp2_with fail
    refine (HV.out).mono ?_
    rintro e w1 ⟨rfl, bw1⟩
    have sw1 := bw1.size
    (try simp at sw1)
    have Aw1 : Below w.heap.size w w1 := Below.trans (by (repeat' (first | (with_reducible assumption) | (with_reducible exact Below.refl _ _) | (with_reducible refine bdN ?_ _) | (with_reducible refine Below.alloc ?_ ?_ _) | (with_reducible refine Below.drew ?_) | (with_reducible refine Below.setCell ?_ ?_ _) | go_size))) (bw1.mono (by go_size))
    clear bw1
    go_wp2_with fail
    go_ret2
    exact ⟨rfl, by (repeat' (first | (with_reducible assumption) | (with_reducible exact Below.refl _ _) | (with_reducible refine bdN ?_ _) | (with_reducible refine Below.alloc ?_ ?_ _) | (with_reducible refine Below.drew ?_) | (with_reducible refine Below.setCell ?_ ?_ _) | go_size))⟩
end Go.Proofs.Ytbgpdjceofofoaa
