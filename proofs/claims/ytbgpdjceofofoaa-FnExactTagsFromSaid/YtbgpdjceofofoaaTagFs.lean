/- Reading tags by the reference: a text that is the text of valid tags gives these tags, any other none. Condition: the text is not longer than 2^20 bytes. -/
import Derived.Test.YtbgpdjceofofoaaTagFi
import Derived.Test.YtbgpdjceofofoaaL14
namespace Go.Proofs.Ytbgpdjceofofoaa
open Go.RowKit DN
set_option linter.unusedVariables false
set_option linter.unusedSimpArgs false

theorem sl_mid (s r : ByteArray) (m n : Nat) (z : Int) (hz : z = m) (h : m ≤ n) (h2 : n ≤ s.size) (hr : s.extract m n = r) (hs : s.size ≤ 1099511627776) (wx : World) : (Instr.slice 9 (.string s) (some (.int .i64 z)) (some (.int .i64 n)) none).run Try.prog wx = .ok (.string r) wx := by
  subst hz
  have c1 : (0 : Int) ≤ ↑m := by omega
  have c2 : (↑m : Int) ≤ ↑n := by omega
  have c3 : (↑n : Int) ≤ ↑s.size := by omega
  go_simp
theorem ne93 {y : ByteArray} (h : (93 : UInt8) ∉ y.data.toList) (j : Nat) (hj : j < y.size) : ((y[j].toNat : Int) == 93) = false := by
  cases e : ((y[j].toNat : Int) == 93)
  · rfl
  · exfalso
    apply h
    have h1 : y[j] = 93 := by
      apply UInt8.toNat_inj.1
      show _ = 93
      have := beq_iff_eq.1 e
      omega
    rw [← h1, ← by_idx y j hj]
    exact List.getElem_mem _
/-- a text F, then x between brackets, then R: what stands where -/
theorem mid_at (F x R : ByteArray) (h93 : (93 : UInt8) ∉ (⟨#[91]⟩ ++ x : ByteArray).data.toList) (s : ByteArray) (hs : s = F ++ (⟨#[91]⟩ ++ x ++ ⟨#[93]⟩ ++ R)) :
    s.size = F.size + x.size + 2 + R.size ∧ (∀ h : F.size < s.size, ((s[F.size].toNat : Int) == 91) = true) ∧ (∀ j (h : j < s.size), F.size ≤ j → j < F.size + x.size + 1 → ((s[j].toNat : Int) == 93) = false) ∧ (∀ j (h : j < s.size), j = F.size + x.size + 1 → ((s[j].toNat : Int) == 93) = true) ∧ s.extract (F.size + 1) (F.size + x.size + 1) = x := by
  have e : s.data.toList = F.data.toList ++ ((⟨#[91]⟩ ++ x : ByteArray).data.toList ++ 93 :: R.data.toList) := by
    rw [hs]; simp [ByteArray.data_append, Array.toList_append]
  have hz : s.size = F.size + x.size + 2 + R.size := by
    rw [hs]; simp only [ByteArray.size_append]
    have := sb_size 91
    have := sb_size 93
    omega
  have hF : F.data.toList.length = F.size := by simp
  have hX : (⟨#[91]⟩ ++ x : ByteArray).data.toList.length = x.size + 1 := by
    rw [Array.length_toList]
    show (⟨#[91]⟩ ++ x : ByteArray).size = _
    rw [ByteArray.size_append, sb_size]; omega
  have at_j : ∀ j (h : j < s.size) (h1 : F.size ≤ j) (h2 : j < F.size + x.size + 1), s[j] = (⟨#[91]⟩ ++ x : ByteArray).data.toList[j - F.size]'(by rw [hX]; omega) := by
    intro j h h1 h2
    rw [← by_idx s j h]
    simp only [e]
    rw [List.getElem_append_right (by rw [hF]; exact h1)]
    simp only [hF]
    rw [List.getElem_append_left (by rw [hX]; omega)]
  refine ⟨hz, ?_, ?_, ?_, ?_⟩
  · intro h
    rw [at_j F.size h (Nat.le_refl _) (by omega)]
    simp [ByteArray.data_append, Array.toList_append]
  · intro j h h1 h2
    rw [at_j j h h1 h2]
    cases e : (((⟨#[91]⟩ ++ x : ByteArray).data.toList[j - F.size]'(by rw [hX]; omega)).toNat : Int) == 93
    · rfl
    · exfalso
      apply h93
      have h1 : (⟨#[91]⟩ ++ x : ByteArray).data.toList[j - F.size]'(by rw [hX]; omega) = 93 := by
        apply UInt8.toNat_inj.1
        show _ = 93
        have := beq_iff_eq.1 e
        omega
      rw [← h1]
      exact List.getElem_mem _
  · intro j h hj
    subst hj
    have : s[F.size + x.size + 1] = 93 := by
      rw [← by_idx s _ h]
      simp only [e]
      rw [List.getElem_append_right (by rw [hF]; omega)]
      rw [List.getElem_append_right (by rw [hX, hF]; omega)]
      have : F.size + x.size + 1 - F.data.toList.length - (⟨#[91]⟩ ++ x : ByteArray).data.toList.length = 0 := by rw [hX, hF]; omega
      simp only [this, List.getElem_cons_zero]
    rw [this]; rfl
  · apply ByteArray.ext
    apply Array.toList_inj.1
    simp only [ByteArray.data_extract, Array.toList_extract, List.extract]
    have e2 : s.data.toList = (F.data.toList ++ [91]) ++ (x.data.toList ++ 93 :: R.data.toList) := by
      rw [hs]; simp [ByteArray.data_append, Array.toList_append]
    rw [e2, List.drop_left' (by simp), List.take_left' (by first | (simp; done) | (simp; omega))]

set_option maxRecDepth 100000 in
set_option maxHeartbeats 8000000 in
theorem TagsFrom_yes_s (l : List Tg) (s : ByteArray) (hts : tsP l) (hs : rsL l = s) (w : World) : Calls Try.prog 36 #[.string s] w (TfYes w l) := by
  obtain ⟨i0, hi, hz0, hz1, hz2⟩ := info_parts tagInfo
  have HI0 := Lib.hid hi
  have HZ0 := Lib.hid hz0
  have HZ1 := Lib.hid hz1
  have HZ2 := Lib.hid hz2
  clear hi hz0 hz1 hz2
  have hl4 := hts.1
  have hsz : s.size ≤ 112 := by have := rs_size hts; rw [hs] at this; omega
  have hall := tx_all l
  rw [hs] at hall
  have HALL := Lib.hid hall
  have HS := Lib.hid hs
  have HTS := Lib.hid hts
  have HV := Lib.hid (fun g cap w (h : IsTags w (some ⟨g, 0, none⟩) l.length l) => l14Tags_s (some ⟨g, 0, none⟩) l.length cap l w h (szT_le (szT_ts hts) (by omega)) (by omega))
  have HX := Lib.hid (fun g cap w (h : IsTags w (some ⟨g, 0, none⟩) l.length l) => l14Text_s (some ⟨g, 0, none⟩) l.length cap l w h hts)
  rw [ts_t hts] at HV
  rw [hall] at HX
  clear hs hts hall
  go_enter Try.func36, Try.ntmps36
  go_wp2_with fail
  have row0 : RowT (w.alloc (.cells #[] 26)) w.heap.size w.heap.size 0 [] := World.ownsRow_made w #[] 0 (Nat.le_refl _) (Nat.zero_le _) rfl
  go_loopg [4, 5, 6] s.size (fun gg lv fv iv wr => ∃ (j f k g cap : Nat) (lk : List Tg), gg = s.size - j ∧ j ≤ s.size ∧ iv = .int .i64 j ∧ fv = .int .i64 f ∧ lv = .slice (some ⟨g, 0, none⟩) lk.length cap ∧ Hid (k ≤ l.length ∧ f = (txT l k).size ∧ f ≤ j ∧ (k < l.length → j < (txT l (k + 1)).size) ∧ (k = l.length → j = f)) ∧ Hid (lk = l.take k) ∧ Hid (lk.length = k) ∧ RowT wr w.heap.size g cap lk ∧ Below w.heap.size w wr)
  case atStart => exact ⟨0, 0, 0, w.heap.size, 0, [], rfl, Nat.zero_le _, rfl, rfl, rfl, Lib.hid ⟨Nat.zero_le _, rfl, Nat.le_refl _, fun h => by rw [show txT l (0 + 1) = txT l 0 ++ tgT (tgK l 0) (tgV l 0) (tgC l 0) from rfl, ByteArray.size_append, show tgT (tgK l 0) (tgV l 0) (tgC l 0) = o2T (tgK l 0) (tgC l 0) ++ tgV l 0 ++ ⟨#[93]⟩ from rfl, ByteArray.size_append, one_size]; omega, fun _ => rfl⟩, Lib.hid rfl, Lib.hid rfl, row0, by (repeat' (first | (with_reducible assumption) | (with_reducible exact Below.refl _ _) | (with_reducible refine bdN ?_ _) | (with_reducible refine Below.alloc ?_ ?_ _) | (with_reducible refine Below.drew ?_) | (with_reducible refine Below.setCell ?_ ?_ _) | go_size))⟩
  case round =>
    obtain ⟨j, f, k, g, cap, lk, rfl, hj, rfl, rfl, rfl, hrel2, hlk, hlkl, hrow, bel⟩ := hrel
    have hg := rowT_lt hrow
    have hszr := bel.size
    clear row0
    obtain ⟨hk, hf, hfj, hin, hat⟩ := hrel2.out
    by_cases hkl : k < l.length
    · have hj2 := hin hkl
      have htv := (HTS.out.2 k hkl).1
      have hsn := take_snoc hkl
      rw [← hlk.out] at hsn
      have hcat := tx_rs l k hk
      rw [rs_drop hkl, HS.out] at hcat
      have hn1 : (txT l (k + 1)).size = f + (tgT (tgK l k) (tgV l k) (tgC l k)).size := by
        rw [show txT l (k + 1) = txT l k ++ tgT (tgK l k) (tgV l k) (tgC l k) from rfl, ByteArray.size_append, ← hf]
      obtain ⟨F, hF⟩ : ∃ F, txT l k = F := ⟨_, rfl⟩
      rw [hF] at hf hcat
      obtain ⟨R, hR⟩ : ∃ R, rsL (l.drop (k + 1)) = R := ⟨_, rfl⟩
      rw [hR] at hcat
      have hnx : k + 1 < l.length → f + (tgT (tgK l k) (tgV l k) (tgC l k)).size < (txT l (k + 1 + 1)).size := by
        intro hh
        rw [show txT l (k + 1 + 1) = txT l (k + 1) ++ tgT (tgK l (k + 1)) (tgV l (k + 1)) (tgC l (k + 1)) from rfl, ByteArray.size_append, hn1, show tgT (tgK l (k + 1)) (tgV l (k + 1)) (tgC l (k + 1)) = o2T (tgK l (k + 1)) (tgC l (k + 1)) ++ tgV l (k + 1) ++ ⟨#[93]⟩ from rfl, ByteArray.size_append, one_size]
        omega
      have hlast : k + 1 = l.length → f + (tgT (tgK l k) (tgV l k) (tgC l k)).size = s.size := by
        intro hh
        rw [← hn1, hh, HALL.out]
      obtain ⟨kk, hkk⟩ : ∃ kk, tgK l k = kk := ⟨_, rfl⟩
      obtain ⟨vv, hvv⟩ : ∃ vv, tgV l k = vv := ⟨_, rfl⟩
      obtain ⟨cc, hcc⟩ : ∃ cc, tgC l k = cc := ⟨_, rfl⟩
      rw [hkk, hvv, hcc] at hsn hcat hn1 hnx hlast
      rw [hkk, hvv] at htv
      obtain ⟨x, e1, e2, e3, TG⟩ := l14_yes cc htv
      rw [e1] at hcat hn1 hnx hlast
      have hxz : (⟨#[91]⟩ ++ x ++ ⟨#[93]⟩ : ByteArray).size = x.size + 2 := by
        have := sb_size 91
        have := sb_size 93
        simp only [ByteArray.size_append]; omega
      rw [hxz] at hn1 hnx hlast
      obtain ⟨m1, m2, m3, m4, m5⟩ := mid_at F x R e2 s hcat.symm
      rw [← hf] at m1 m2 m3 m4 m5
      have hjs : j < s.size := by omega
      have ixj := fun wx => ix_str Try.underlying9 s j ↑j rfl hjs wx
      have HSN := Lib.hid hsn
      have TGH := Lib.hid TG
      have M2 := Lib.hid m2
      have M3 := Lib.hid m3
      have M4 := Lib.hid m4
      have M5 := Lib.hid m5
      have HNX := Lib.hid hnx
      have HLAST := Lib.hid hlast
      have HN1 := Lib.hid hn1
      have HZ := Lib.hid m1
      have HIN := Lib.hid hin
      have HFF : Hid (f = (txT l k).size) := Lib.hid (by rw [hf, hF])
      clear hin hat hsn hcat hn1 hF hR hnx hlast hkk hvv hcc e1 e2 TG hxz m1 m2 m3 m4 m5 htv hf hrel2
      by_cases hje : j = f + x.size + 1
      · have t93 := M4.out j hjs hje
        have hfs : f < s.size := by omega
        have ixf := fun wx => ix_str Try.underlying9 s f ↑f rfl hfs wx
        have t91 := M2.out hfs
        have t91n : ((s[f].toNat : Int) != 91) = false := by rw [bne, t91]; rfl
        have hlt4 : ((lk.length : Int) == 4) = false := by
          have := hlkl.out
          simp
          omega
        have hge : ¬ (f : Int) ≥ (j : Int) := by omega
        have slm := fun wx => sl_mid s x (f + 1) j ((f : Int) + 1) (by omega) (by omega) (by omega) (by rw [hje]; exact M5.out) (by omega) wx
        have hw1 : IntKind.i64.wrap ((f : Int) + 1) = (f : Int) + 1 := IntWalk.i64_in _ (by omega)
        have HJX := Lib.hid (show f + x.size + 2 = j + 1 by omega)
        clear hje
        go_wp2_with fail
        refine (TGH.out _).mono ?_
        rintro e v1 ⟨rfl, bv1⟩
        have row1 : RowT v1 w.heap.size g cap lk := rowT_keep hrow bv1 hg.2
        have BV : Below w.heap.size w v1 := bel.trans (bv1.mono hszr)
        clear hrow bel bv1
        go_wp2_with (first
          | (at_builtin; refine wpList_append_own _ rfl _ _ 32 rfl w.heap.size 26 i0 _ 3 40 Try.underlying32 HI0.out HZ0.out HZ1.out HZ2.out rfl (by decide) _ lk.length (flat lk) rfl (rowT_alloc row1 _) ⟨v1.heap.size, 0, none⟩ 1 1 [.string kk, .string vv, .bool cc] rfl rfl ?c1 ?c2 ?c3 ?c4 ?c5 ?_)
          | fail)
        case c1 =>
          intro j u hj
          match j, hj with
          | 0, hj => simp at hj; subst hj; simp [Addr.add]
          | 1, hj => simp at hj; subst hj; simp [Addr.add]
          | 2, hj => simp at hj; subst hj; simp [Addr.add]
          | _ + 3, hj => simp at hj
        case c2 => intro u hu; simp at hu; rcases hu with rfl | rfl | rfl <;> rfl
        case c3 => unfold maxLen; have := hlkl.out; omega
        case c4 => have := hlkl.out; omega
        case c5 => have := (rowT_lt row1).2; have := BV.size; simp; omega
        intro v' w2 hown' hgrow' hnil
        obtain ⟨g', cap', rfl, rowN⟩ := rowT_of hown' (by first | exact hnil | exact fun e => by have := hnil.1 e; omega)
        have B2 : Below w.heap.size (v1.alloc (.cells #[.string kk, .string vv, .bool cc] 26)) w2 := (Below.refl _ _).grown hgrow' (by have := BV.size; simp; omega) (fun j hj => by injection hj with hj; subst hj; exact (rowT_lt row1).1)
        have BN : Below w.heap.size w w2 := (BV.alloc BV.size _).trans B2
        clear hown' hgrow' hnil row1 BV B2
        go_wp2_with fail
        go_roundg (s.size - (j + 1))
        case measure => omega
        case rel => exact ⟨j + 1, j + 1, k + 1, g', cap', lk ++ [(kk, vv, cc)], rfl, by omega, by go_num, by go_num, rfl, Lib.hid ⟨by omega, by have := HN1.out; have := HJX.out; omega, Nat.le_refl _, fun h => by have := HNX.out h; have := HJX.out; omega, fun _ => rfl⟩, HSN, Lib.hid (by simp [hlkl.out]), rowN, BN⟩
      · have n93 := M3.out j hjs hfj (by have := HN1.out; omega)
        go_wp2_with fail
        go_roundg (s.size - (j + 1))
        case measure => omega
        case rel => exact ⟨j + 1, f, k, g, cap, lk, rfl, by omega, by go_num, rfl, rfl, Lib.hid ⟨hk, HFF.out, by omega, fun h => by have := HN1.out; omega, fun h => by omega⟩, hlk, hlkl, hrow, bel⟩
    · obtain rfl : k = l.length := by omega
      have hjf := hat rfl
      have hfs : f = s.size := by rw [hf, HALL.out]
      obtain rfl : j = s.size := by omega
      have hll : lk = l := by rw [hlk.out, List.take_length]
      subst hll
      clear hat hin hjf hf hfj hrel2 hfs
      have VV := Lib.hid (fun w => HV.out g cap w)
      have XX := Lib.hid (fun w => HX.out g cap w)
      go_wp2_with fail
      refine (VV.out _ (rowT_is hrow)).mono ?_
      rintro e w2 ⟨rfl, b2⟩
      have row2 := rowT_keep hrow b2 hg.2
      have hg2 := rowT_lt row2
      have B2 : Below w.heap.size w w2 := bel.trans (b2.mono hszr)
      clear b2 hrow bel
      go_wp2_with fail
      refine (XX.out _ (rowT_is row2)).mono ?_
      rintro e w3 ⟨rfl, b3⟩
      have row3 := rowT_keep row2 b3 hg2.2
      have B3 : Below w.heap.size w w3 := B2.trans (b3.mono B2.size)
      clear b3 row2
      go_wp2_with fail
      go_ret2
      exact ⟨g, cap, rfl, row3, B3⟩

set_option maxRecDepth 100000 in
set_option maxHeartbeats 8000000 in
theorem TagsFrom_no_s (s : ByteArray) (hs : s.size ≤ 1048576) (hno : ¬ ∃ l, tsP l ∧ rsL l = s) (w : World) : Calls Try.prog 36 #[.string s] w fun e w' => (∃ g : Nat, e = .returned (.tuple #[.slice (some ⟨g, 0, none⟩) 0 0, .bool false])) ∧ Below w.heap.size w w' := by
  obtain ⟨i0, hi, hz0, hz1, hz2⟩ := info_parts tagInfo
  have HI0 := Lib.hid hi
  have HZ0 := Lib.hid hz0
  have HZ1 := Lib.hid hz1
  have HZ2 := Lib.hid hz2
  clear hi hz0 hz1 hz2
  have HNO := Lib.hid hno
  have HV := Lib.hid (fun (l : List Tg) g cap w (h : IsTags w (some ⟨g, 0, none⟩) l.length l) (h1 : szT l 1048576) (h2 : l.length ≤ 4) => l14Tags_s (some ⟨g, 0, none⟩) l.length cap l w h (szT_le h1 (by omega)) (by omega))
  have HX := Lib.hid (fun (l : List Tg) g cap w (h : IsTags w (some ⟨g, 0, none⟩) l.length l) (h1 : tsP l) => l14Text_s (some ⟨g, 0, none⟩) l.length cap l w h h1)
  clear hno
  go_enter Try.func36, Try.ntmps36
  go_wp2_with fail
  have row0 : RowT (w.alloc (.cells #[] 26)) w.heap.size w.heap.size 0 [] := World.ownsRow_made w #[] 0 (Nat.le_refl _) (Nat.zero_le _) rfl
  go_loopg [4, 5, 6] s.size (fun gg lv fv iv wr => ∃ (j f g cap : Nat) (lk : List Tg), gg = s.size - j ∧ j ≤ s.size ∧ iv = .int .i64 j ∧ fv = .int .i64 f ∧ lv = .slice (some ⟨g, 0, none⟩) lk.length cap ∧ f ≤ j ∧ Hid (szT lk 1048576) ∧ lk.length ≤ 4 ∧ RowT wr w.heap.size g cap lk ∧ Below w.heap.size w wr)
  case atStart => exact ⟨0, 0, w.heap.size, 0, [], rfl, Nat.zero_le _, rfl, rfl, rfl, Nat.le_refl _, Lib.hid (fun i hi => by simp at hi), Nat.zero_le _, row0, by (repeat' (first | (with_reducible assumption) | (with_reducible exact Below.refl _ _) | (with_reducible refine bdN ?_ _) | (with_reducible refine Below.alloc ?_ ?_ _) | (with_reducible refine Below.drew ?_) | (with_reducible refine Below.setCell ?_ ?_ _) | go_size))⟩
  case round =>
    obtain ⟨j, f, g, cap, lk, rfl, hj, rfl, rfl, rfl, hfj, hzl, hl4, hrow, bel⟩ := hrel
    have hg := rowT_lt hrow
    have hszr := bel.size
    clear row0
    by_cases hjs : j < s.size
    · have ixj := fun wx => ix_str Try.underlying9 s j ↑j rfl hjs wx
      cases t93 : ((s[j].toNat : Int) == 93)
      · go_wp2_with fail
        go_roundg (s.size - (j + 1))
        case measure => omega
        case rel => exact ⟨j + 1, f, g, cap, lk, rfl, by omega, by go_num, rfl, rfl, by omega, hzl, hl4, hrow, bel⟩
      · by_cases hge : (f : Int) ≥ (j : Int)
        · go_wp2_with fail
          go_ret2
          exact ⟨⟨_, rfl⟩, by (repeat' (first | (with_reducible assumption) | (with_reducible exact Below.refl _ _) | (with_reducible refine bdN ?_ _) | (with_reducible refine Below.alloc ?_ ?_ _) | (with_reducible refine Below.drew ?_) | (with_reducible refine Below.setCell ?_ ?_ _) | go_size))⟩
        · have hfs : f < s.size := by omega
          have ixf := fun wx => ix_str Try.underlying9 s f ↑f rfl hfs wx
          cases t91 : ((s[f].toNat : Int) == 91)
          · have t91n : ((s[f].toNat : Int) != 91) = true := by rw [bne, t91]; rfl
            go_wp2_with fail
            go_ret2
            exact ⟨⟨_, rfl⟩, by (repeat' (first | (with_reducible assumption) | (with_reducible exact Below.refl _ _) | (with_reducible refine bdN ?_ _) | (with_reducible refine Below.alloc ?_ ?_ _) | (with_reducible refine Below.drew ?_) | (with_reducible refine Below.setCell ?_ ?_ _) | go_size))⟩
          · have t91n : ((s[f].toNat : Int) != 91) = false := by rw [bne, t91]; rfl
            by_cases h4 : lk.length = 4
            · have h44 : ((lk.length : Int) == 4) = true := by rw [h4]; rfl
              have HH4 := Lib.hid h4
              clear h4
              go_wp2_with fail
              go_ret2
              exact ⟨⟨_, rfl⟩, by (repeat' (first | (with_reducible assumption) | (with_reducible exact Below.refl _ _) | (with_reducible refine bdN ?_ _) | (with_reducible refine Below.alloc ?_ ?_ _) | (with_reducible refine Below.drew ?_) | (with_reducible refine Below.setCell ?_ ?_ _) | go_size))⟩
            · have h44 : ((lk.length : Int) == 4) = false := by simp; omega
              obtain ⟨x, hx⟩ : ∃ x, s.extract (f + 1) j = x := ⟨_, rfl⟩
              have hxz : x.size ≤ 1048576 := by rw [← hx, ByteArray.size_extract]; omega
              obtain ⟨kk, vv, cc, ⟨hk1, hk2⟩, TG⟩ := l14_any x (by omega)
              have TGH := Lib.hid TG
              have slm := fun wx => sl_mid s x (f + 1) j ((f : Int) + 1) (by omega) (by omega) (by omega) hx (by omega) wx
              have hw1 : IntKind.i64.wrap ((f : Int) + 1) = (f : Int) + 1 := IntWalk.i64_in _ (by omega)
              have HZN := Lib.hid (szT_snoc (c := cc) hzl.out (show kk.size ≤ 1048576 by omega) (show vv.size ≤ 1048576 by omega))
              clear hx TG
              go_wp2_with fail
              refine (TGH.out _).mono ?_
              rintro e v1 ⟨rfl, bv1⟩
              have row1 : RowT v1 w.heap.size g cap lk := rowT_keep hrow bv1 hg.2
              have BV : Below w.heap.size w v1 := bel.trans (bv1.mono hszr)
              clear hrow bel bv1
              go_wp2_with (first
                | (at_builtin; refine wpList_append_own _ rfl _ _ 32 rfl w.heap.size 26 i0 _ 3 40 Try.underlying32 HI0.out HZ0.out HZ1.out HZ2.out rfl (by decide) _ lk.length (flat lk) rfl (rowT_alloc row1 _) ⟨v1.heap.size, 0, none⟩ 1 1 [.string kk, .string vv, .bool cc] rfl rfl ?c1 ?c2 ?c3 ?c4 ?c5 ?_)
                | fail)
              case c1 =>
                intro j u hj
                match j, hj with
                | 0, hj => simp at hj; subst hj; simp [Addr.add]
                | 1, hj => simp at hj; subst hj; simp [Addr.add]
                | 2, hj => simp at hj; subst hj; simp [Addr.add]
                | _ + 3, hj => simp at hj
              case c2 => intro u hu; simp at hu; rcases hu with rfl | rfl | rfl <;> rfl
              case c3 => unfold maxLen; omega
              case c4 => omega
              case c5 => have := (rowT_lt row1).2; have := BV.size; simp; omega
              intro v' w2 hown' hgrow' hnil
              obtain ⟨g', cap', rfl, rowN⟩ := rowT_of hown' (by first | exact hnil | exact fun e => by have := hnil.1 e; omega)
              have B2 : Below w.heap.size (v1.alloc (.cells #[.string kk, .string vv, .bool cc] 26)) w2 := (Below.refl _ _).grown hgrow' (by have := BV.size; simp; omega) (fun j hj => by injection hj with hj; subst hj; exact (rowT_lt row1).1)
              have BN : Below w.heap.size w w2 := (BV.alloc BV.size _).trans B2
              clear hown' hgrow' hnil row1 BV B2
              go_wp2_with fail
              go_roundg (s.size - (j + 1))
              case measure => omega
              case rel => exact ⟨j + 1, j + 1, g', cap', lk ++ [(kk, vv, cc)], rfl, by omega, by go_num, by go_num, rfl, by omega, HZN, by simp; omega, rowN, BN⟩
    · obtain rfl : j = s.size := by omega
      have VV := Lib.hid (fun w h => HV.out lk g cap w h hzl.out hl4)
      by_cases hts : tsP lk
      · rw [ts_t hts] at VV
        have XX := Lib.hid (fun w h => HX.out lk g cap w h hts)
        have hne : txT lk lk.length ≠ s := fun e => HNO.out ⟨lk, hts, by rw [← tx_all, e]⟩
        have hbe : ((txT lk lk.length).toList == s.toList) = false := byt_ne hne
        obtain ⟨X, hX⟩ : ∃ X, txT lk lk.length = X := ⟨_, rfl⟩
        rw [hX] at XX hbe
        clear hne hX hts
        go_wp2_with fail
        refine (VV.out _ (rowT_is hrow)).mono ?_
        rintro e w2 ⟨rfl, b2⟩
        have row2 := rowT_keep hrow b2 hg.2
        have B2 : Below w.heap.size w w2 := bel.trans (b2.mono hszr)
        clear b2 hrow bel
        go_wp2_with fail
        refine (XX.out _ (rowT_is row2)).mono ?_
        rintro e w3 ⟨rfl, b3⟩
        have B3 : Below w.heap.size w w3 := B2.trans (b3.mono B2.size)
        have hs3 := B3.size
        clear b3 row2
        go_wp2_with fail
        go_ret2
        exact ⟨⟨_, rfl⟩, by (repeat' (first | (with_reducible assumption) | (with_reducible exact Below.refl _ _) | (with_reducible refine bdN ?_ _) | (with_reducible refine Below.alloc ?_ ?_ _) | (with_reducible refine Below.drew ?_) | (with_reducible refine Below.setCell ?_ ?_ _) | go_size))⟩
      · rw [ts_f hts] at VV
        clear hts
        go_wp2_with fail
        refine (VV.out _ (rowT_is hrow)).mono ?_
        rintro e w2 ⟨rfl, b2⟩
        have B2 : Below w.heap.size w w2 := bel.trans (b2.mono hszr)
        have hs2 := B2.size
        clear b2 hrow bel
        go_wp2_with fail
        go_ret2
        exact ⟨⟨_, rfl⟩, by (repeat' (first | (with_reducible assumption) | (with_reducible exact Below.refl _ _) | (with_reducible refine bdN ?_ _) | (with_reducible refine Below.alloc ?_ ?_ _) | (with_reducible refine Below.drew ?_) | (with_reducible refine Below.setCell ?_ ?_ _) | go_size))⟩
end Go.Proofs.Ytbgpdjceofofoaa
