/- Reading tags by the program: a text that is the text of valid tags gives these tags, any other none. Condition: the text is not longer than 2^20 bytes. -/
import Derived.Test.YtbgpdjceofofoaaTagF
import Derived.Test.YtbgpdjceofofoaaCut
import Derived.Test.YtbgpdjceofofoaaDrawTags
namespace Go.Proofs.Ytbgpdjceofofoaa
open Go.RowKit DN
set_option linter.unusedVariables false
set_option linter.unusedSimpArgs false

/-- what reading tags gives, if there are any -/
def TfYes (w : World) (l : List Tg) (e : Ending) (w' : World) : Prop := ∃ g cap : Nat, e = .returned (.tuple #[.slice (some ⟨g, 0, none⟩) l.length cap, .bool true]) ∧ RowT w' w.heap.size g cap l ∧ Below w.heap.size w w'
theorem szT_le {l : List Tg} {n m : Nat} (h : szT l n) (hm : n ≤ m) : szT l m := fun i hi => ⟨Nat.le_trans (h i hi).1 hm, Nat.le_trans (h i hi).2 hm⟩
theorem szT_ts {l : List Tg} (h : tsP l) : szT l 12 := fun i hi => tv_size (h.2 i hi).1
theorem pre_any (s : ByteArray) (c : UInt8) : ∃ (x : ByteArray) (b : Bool), ∀ w, Calls Try.prog 68 #[.string s, .string ⟨#[c]⟩] w fun e w' => e = .returned (.tuple #[.string x, .bool b]) ∧ w = w' := by
  rcases pre_cases s c with ⟨r, rfl⟩ | h
  · exact ⟨r, true, fun w => pre_hit r c w⟩
  · exact ⟨s, false, fun w => pre_miss s c h w⟩
theorem ba_pos {a : ByteArray} (h : 0 < a.size) : a.toList.isEmpty = false := by
  cases e : a.toList.isEmpty
  · rfl
  · rw [ba_emp e] at h; exact absurd h (by decide)
theorem ba_one (a : ByteArray) (c : UInt8) : (a ++ ⟨#[c]⟩).size = a.size + 1 := by rw [ByteArray.size_append, sb_size]
theorem tg_snoc (l : List Tg) (k v : ByteArray) (c : Bool) (A R S s : ByteArray) (h : rsL l ++ S = s) (hS : S = A ++ ⟨#[93]⟩ ++ R) (ht : tgT k v c = A ++ ⟨#[93]⟩) : rsL (l ++ [(k, v, c)]) ++ R = s := by
  rw [rs_snoc, ← h, hS]
  show rsL l ++ tgT k v c ++ R = _
  rw [ht, ByteArray.append_assoc]

set_option maxRecDepth 100000 in
set_option maxHeartbeats 8000000 in
theorem TagsFrom_yes_i (l : List Tg) (s : ByteArray) (hts : tsP l) (hs : rsL l = s) (w : World) : Calls Try.prog 37 #[.string s] w (TfYes w l) := by
  obtain ⟨i0, hi, hz0, hz1, hz2⟩ := info_parts tagInfo
  have HI0 := Lib.hid hi
  have HZ0 := Lib.hid hz0
  have HZ1 := Lib.hid hz1
  have HZ2 := Lib.hid hz2
  clear hi hz0 hz1 hz2
  have hl4 := hts.1
  have h0 : s = rsL (l.drop 0) := by rw [← hs, List.drop_zero]
  have H0 := Lib.hid h0
  have HTS := Lib.hid hts
  have HV := Lib.hid (fun g cap w (h : IsTags w (some ⟨g, 0, none⟩) l.length l) => tagsValid_i (some ⟨g, 0, none⟩) l.length cap l w h (szT_le (szT_ts hts) (by omega)) (by omega))
  rw [ts_t hts] at HV
  clear hs h0 hts
  go_enter Try.func37, Try.ntmps37
  go_wp2_with fail
  have row0 : RowT (w.alloc (.cells #[] 26)) w.heap.size w.heap.size 0 [] := World.ownsRow_made w #[] 0 (Nat.le_refl _) (Nat.zero_le _) rfl
  go_loopg [0, 4] l.length (fun gg sv lv wr => ∃ (k g cap : Nat) (lk : List Tg) (S : ByteArray), gg = l.length - k ∧ k ≤ l.length ∧ sv = .string S ∧ lv = .slice (some ⟨g, 0, none⟩) lk.length cap ∧ Hid (S = rsL (l.drop k)) ∧ Hid (lk = l.take k) ∧ Hid (lk.length = k) ∧ RowT wr w.heap.size g cap lk ∧ Below w.heap.size w wr)
  case atStart => exact ⟨0, w.heap.size, 0, [], s, rfl, Nat.zero_le _, rfl, rfl, H0, Lib.hid rfl, Lib.hid rfl, row0, by (repeat' (first | (with_reducible assumption) | (with_reducible exact Below.refl _ _) | (with_reducible refine bdN ?_ _) | (with_reducible refine Below.alloc ?_ ?_ _) | (with_reducible refine Below.drew ?_) | (with_reducible refine Below.setCell ?_ ?_ _) | go_size))⟩
  case round =>
    obtain ⟨k, g, cap, lk, S, rfl, hk, rfl, rfl, hS0, hlk, hlkl, hrow, bel⟩ := hrel
    have hg := rowT_lt hrow
    have hszr := bel.size
    clear row0
    by_cases hkl : k < l.length
    · have hS := hS0.out.trans (rs_drop hkl)
      have hsn := take_snoc hkl
      rw [← hlk.out] at hsn
      have htv := (HTS.out.2 k hkl).1
      have hSz : S.size ≤ 112 := by
        have := tx_rs l k (by omega)
        rw [← hS0.out] at this
        have h2 := congrArg ByteArray.size this
        rw [ByteArray.size_append] at h2
        have := rs_size HTS.out
        omega
      obtain ⟨kk, hkk⟩ : ∃ kk, tgK l k = kk := ⟨_, rfl⟩
      obtain ⟨vv, hvv⟩ : ∃ vv, tgV l k = vv := ⟨_, rfl⟩
      obtain ⟨cc, hcc⟩ : ∃ cc, tgC l k = cc := ⟨_, rfl⟩
      rw [hkk, hvv, hcc] at hS hsn
      rw [hkk, hvv] at htv
      obtain ⟨x, y, e1, e2, e3, e4, e5, e6, e7, e8⟩ := yes_parts cc htv
      rw [e1] at hS
      obtain ⟨R, hR⟩ : ∃ R, rsL (l.drop (k + 1)) = R := ⟨_, rfl⟩
      rw [hR] at hS
      have hSe : S.toList.isEmpty = false := ba_pos (by rw [hS]; simp only [ByteArray.size_append]; omega)
      have C1 := Lib.hid (fun w => cut_hit (⟨#[91]⟩ ++ x) R 93 e2 (by rw [← hS]; omega) w)
      rw [← hS] at C1
      have P1 := Lib.hid (fun w => pre_hit x 91 w)
      obtain ⟨A, hA⟩ : ∃ A, (⟨#[91]⟩ ++ x : ByteArray) = A := ⟨_, rfl⟩
      rw [hA] at C1 P1
      have HSN := Lib.hid hsn
      have HR := Lib.hid hR
      have hy : y.size ≤ 200 := by
        have h2 := congrArg ByteArray.size hS
        simp only [ByteArray.size_append] at h2
        cases cc
        · rw [e4 rfl] at h2; omega
        · rw [e3 rfl] at h2; simp only [ByteArray.size_append] at h2; omega
      have E7 := Lib.hid e7
      have E6 := Lib.hid e6
      have E5 := Lib.hid e5
      have E4 := Lib.hid e4
      have E3 := Lib.hid e3
      clear hS hsn htv hSz hkk hvv hcc e1 e2 hR hA e3 e4 e5 e6 e7 e8
      cases he : kk.toList.isEmpty
      · cases cc
        · have tok : True := trivial
          have hx := E4.out (by trivial)
          have P2 := Lib.hid (fun w => pre_miss y 33 E5.out w)
          subst hx
          obtain ⟨hyv, h61⟩ := E7.out (by trivial)
          have C2 := Lib.hid (fun w => cut_hit kk vv 61 h61 (by rw [← hyv]; omega) w)
          rw [← hyv] at C2
          clear hyv h61
          go_wp2_with fail
          refine (C1.out _).mono ?_
          rintro e w1 ⟨rfl, n1, hw1⟩
          have hs1 : wr.heap.size ≤ w1.heap.size := by rw [hw1]; exact Nat.le_refl _
          have b1 : Below wr.heap.size wr w1 := by rw [hw1]; exact bdN (Below.refl _ _) n1
          have bel1 : Below w.heap.size w w1 := bel.trans (b1.mono hszr)
          have row1 : RowT w1 w.heap.size g cap lk := rowT_keep hrow b1 hg.2
          clear hw1 b1 bel hrow
          go_wp2_with fail
          refine (P1.out _).mono ?_
          rintro e w' ⟨rfl, rfl⟩
          go_wp2_with fail
          refine (P2.out _).mono ?_
          rintro e w' ⟨rfl, rfl⟩
          go_wp2_with fail
          refine (C2.out _).mono ?_
          rintro e w2 ⟨rfl, n2, rfl⟩
          go_upto_region 15 with fail
          first | refine seal_wp ?_ | refine seal_calls ?_ | refine seal_post ?_
          intro v1 hwv1
          have sv1 := congrArg (fun x : World => x.heap.size) hwv1
          (try simp at sv1)
          have Av1 : Below w1.heap.size w1 v1 := by rw [hwv1]; (repeat' (first | (with_reducible assumption) | (with_reducible exact Below.refl _ _) | (with_reducible refine bdN ?_ _) | (with_reducible refine Below.alloc ?_ ?_ _) | (with_reducible refine Below.drew ?_) | (with_reducible refine Below.setCell ?_ ?_ _) | go_size))
          have lv1_0 : w1.heap.size < v1.heap.size := (by go_size)
          have zv1_w1H : CellsAt v1 (w1.heap.size) 0 [.string kk, .string vv, .bool false] := by rw [hwv1]; (simp only [CellsAt]; (first | (go_simp; done) | ((repeat' (with_reducible refine And.intro ?_ ?_)) <;> (repeat' (first | (with_reducible assumption) | (with_reducible exact trivial) | (with_reducible refine kA _ ?_) | (with_reducible refine kD ?_) | (with_reducible refine kS _ ?_ ?_) | (with_reducible refine fA _ ?_ ?_) | (with_reducible refine fD ?_) | (with_reducible refine fS _ ?_) | go_size | (go_simp; done))))))
          simp only [CellsAt] at zv1_w1H
          clear hwv1
          have row2 : RowT v1 w.heap.size g cap lk := rowT_keep row1 Av1 (by omega)
          have BV : Below w.heap.size w v1 := bel1.trans (Av1.mono (by omega))
          have hv1 : w1.heap.size + 1 ≤ v1.heap.size := by omega
          clear row1 bel1 sv1
          go_wp2_with (first
            | (at_builtin; refine wpList_append_own _ rfl _ _ 32 rfl w.heap.size 26 i0 _ 3 40 Try.underlying32 HI0.out HZ0.out HZ1.out HZ2.out rfl (by decide) _ lk.length (flat lk) rfl (rowT_alloc row2 _) ⟨v1.heap.size, 0, none⟩ 1 1 [.string kk, .string vv, .bool false] rfl rfl ?c1 ?c2 ?c3 ?c4 ?c5 ?_)
            | fail)
          case c1 =>
            intro j u hj
            match j, hj with
            | 0, hj => simp at hj; subst hj; simp [Addr.add]
            | 1, hj => simp at hj; subst hj; simp [Addr.add]
            | 2, hj => simp at hj; subst hj; simp [Addr.add]
            | _ + 3, hj => simp at hj
          case c2 => intro u hu; simp at hu; rcases hu with rfl | rfl | rfl <;> rfl
          case c3 => unfold maxLen; have := hlkl.out; omega
          case c4 => have := hlkl.out; omega
          case c5 => have := (rowT_lt row2).2; have := BV.size; simp; omega
          intro v' w2 hown' hgrow' hnil
          obtain ⟨g', cap', rfl, rowN⟩ := rowT_of hown' (by first | exact hnil | exact fun e => by have := hnil.1 e; omega)
          have B2 : Below w.heap.size (v1.alloc (.cells #[.string kk, .string vv, .bool false] 26)) w2 := (Below.refl _ _).grown hgrow' (by have := BV.size; simp; omega) (fun j hj => by injection hj with hj; subst hj; exact (rowT_lt row2).1)
          have BN : Below w.heap.size w w2 := (BV.alloc BV.size _).trans B2
          clear hown' hgrow' hnil row2 BV B2 Av1 zv1_w1H
          go_wp2_with fail
          go_roundg (l.length - (k + 1))
          case measure => omega
          case rel => exact ⟨k + 1, g', cap', lk ++ [(kk, vv, false)], R, rfl, by omega, rfl, rfl, Lib.hid HR.out.symm, HSN, Lib.hid (by simp [hlkl.out]), rowN, BN⟩
        · have tok : True := trivial
          have hx := E3.out (by trivial)
          have P2 := Lib.hid (fun w => pre_hit y 33 w)
          rw [← hx] at P2
          clear hx
          obtain ⟨hyv, h61⟩ := E7.out (by trivial)
          have C2 := Lib.hid (fun w => cut_hit kk vv 61 h61 (by rw [← hyv]; omega) w)
          rw [← hyv] at C2
          clear hyv h61
          go_wp2_with fail
          refine (C1.out _).mono ?_
          rintro e w1 ⟨rfl, n1, hw1⟩
          have hs1 : wr.heap.size ≤ w1.heap.size := by rw [hw1]; exact Nat.le_refl _
          have b1 : Below wr.heap.size wr w1 := by rw [hw1]; exact bdN (Below.refl _ _) n1
          have bel1 : Below w.heap.size w w1 := bel.trans (b1.mono hszr)
          have row1 : RowT w1 w.heap.size g cap lk := rowT_keep hrow b1 hg.2
          clear hw1 b1 bel hrow
          go_wp2_with fail
          refine (P1.out _).mono ?_
          rintro e w' ⟨rfl, rfl⟩
          go_wp2_with fail
          refine (P2.out _).mono ?_
          rintro e w' ⟨rfl, rfl⟩
          go_wp2_with fail
          refine (C2.out _).mono ?_
          rintro e w2 ⟨rfl, n2, rfl⟩
          go_upto_region 15 with fail
          first | refine seal_wp ?_ | refine seal_calls ?_ | refine seal_post ?_
          intro v1 hwv1
          have sv1 := congrArg (fun x : World => x.heap.size) hwv1
          (try simp at sv1)
          have Av1 : Below w1.heap.size w1 v1 := by rw [hwv1]; (repeat' (first | (with_reducible assumption) | (with_reducible exact Below.refl _ _) | (with_reducible refine bdN ?_ _) | (with_reducible refine Below.alloc ?_ ?_ _) | (with_reducible refine Below.drew ?_) | (with_reducible refine Below.setCell ?_ ?_ _) | go_size))
          have lv1_0 : w1.heap.size < v1.heap.size := (by go_size)
          have zv1_w1H : CellsAt v1 (w1.heap.size) 0 [.string kk, .string vv, .bool true] := by rw [hwv1]; (simp only [CellsAt]; (first | (go_simp; done) | ((repeat' (with_reducible refine And.intro ?_ ?_)) <;> (repeat' (first | (with_reducible assumption) | (with_reducible exact trivial) | (with_reducible refine kA _ ?_) | (with_reducible refine kD ?_) | (with_reducible refine kS _ ?_ ?_) | (with_reducible refine fA _ ?_ ?_) | (with_reducible refine fD ?_) | (with_reducible refine fS _ ?_) | go_size | (go_simp; done))))))
          simp only [CellsAt] at zv1_w1H
          clear hwv1
          have row2 : RowT v1 w.heap.size g cap lk := rowT_keep row1 Av1 (by omega)
          have BV : Below w.heap.size w v1 := bel1.trans (Av1.mono (by omega))
          have hv1 : w1.heap.size + 1 ≤ v1.heap.size := by omega
          clear row1 bel1 sv1
          go_wp2_with (first
            | (at_builtin; refine wpList_append_own _ rfl _ _ 32 rfl w.heap.size 26 i0 _ 3 40 Try.underlying32 HI0.out HZ0.out HZ1.out HZ2.out rfl (by decide) _ lk.length (flat lk) rfl (rowT_alloc row2 _) ⟨v1.heap.size, 0, none⟩ 1 1 [.string kk, .string vv, .bool true] rfl rfl ?c1 ?c2 ?c3 ?c4 ?c5 ?_)
            | fail)
          case c1 =>
            intro j u hj
            match j, hj with
            | 0, hj => simp at hj; subst hj; simp [Addr.add]
            | 1, hj => simp at hj; subst hj; simp [Addr.add]
            | 2, hj => simp at hj; subst hj; simp [Addr.add]
            | _ + 3, hj => simp at hj
          case c2 => intro u hu; simp at hu; rcases hu with rfl | rfl | rfl <;> rfl
          case c3 => unfold maxLen; have := hlkl.out; omega
          case c4 => have := hlkl.out; omega
          case c5 => have := (rowT_lt row2).2; have := BV.size; simp; omega
          intro v' w2 hown' hgrow' hnil
          obtain ⟨g', cap', rfl, rowN⟩ := rowT_of hown' (by first | exact hnil | exact fun e => by have := hnil.1 e; omega)
          have B2 : Below w.heap.size (v1.alloc (.cells #[.string kk, .string vv, .bool true] 26)) w2 := (Below.refl _ _).grown hgrow' (by have := BV.size; simp; omega) (fun j hj => by injection hj with hj; subst hj; exact (rowT_lt row2).1)
          have BN : Below w.heap.size w w2 := (BV.alloc BV.size _).trans B2
          clear hown' hgrow' hnil row2 BV B2 Av1 zv1_w1H
          go_wp2_with fail
          go_roundg (l.length - (k + 1))
          case measure => omega
          case rel => exact ⟨k + 1, g', cap', lk ++ [(kk, vv, true)], R, rfl, by omega, rfl, rfl, Lib.hid HR.out.symm, HSN, Lib.hid (by simp [hlkl.out]), rowN, BN⟩
      · cases cc
        · have tok : True := trivial
          have hx := E4.out (by trivial)
          have P2 := Lib.hid (fun w => pre_miss y 33 E5.out w)
          subst hx
          obtain ⟨hyv, h61, hkk⟩ := E6.out (by trivial)
          have C2 := Lib.hid (fun w => cut_miss x 61 (by rw [hyv]; exact h61) w)
          subst hkk
          subst hyv
          go_wp2_with fail
          refine (C1.out _).mono ?_
          rintro e w1 ⟨rfl, n1, hw1⟩
          have hs1 : wr.heap.size ≤ w1.heap.size := by rw [hw1]; exact Nat.le_refl _
          have b1 : Below wr.heap.size wr w1 := by rw [hw1]; exact bdN (Below.refl _ _) n1
          have bel1 : Below w.heap.size w w1 := bel.trans (b1.mono hszr)
          have row1 : RowT w1 w.heap.size g cap lk := rowT_keep hrow b1 hg.2
          clear hw1 b1 bel hrow
          go_wp2_with fail
          refine (P1.out _).mono ?_
          rintro e w' ⟨rfl, rfl⟩
          go_wp2_with fail
          refine (P2.out _).mono ?_
          rintro e w' ⟨rfl, rfl⟩
          go_wp2_with fail
          refine (C2.out _).mono ?_
          rintro e w2 ⟨rfl, n2, rfl⟩
          go_upto_region 15 with fail
          first | refine seal_wp ?_ | refine seal_calls ?_ | refine seal_post ?_
          intro v1 hwv1
          have sv1 := congrArg (fun x : World => x.heap.size) hwv1
          (try simp at sv1)
          have Av1 : Below w1.heap.size w1 v1 := by rw [hwv1]; (repeat' (first | (with_reducible assumption) | (with_reducible exact Below.refl _ _) | (with_reducible refine bdN ?_ _) | (with_reducible refine Below.alloc ?_ ?_ _) | (with_reducible refine Below.drew ?_) | (with_reducible refine Below.setCell ?_ ?_ _) | go_size))
          have lv1_0 : w1.heap.size < v1.heap.size := (by go_size)
          have zv1_w1H : CellsAt v1 (w1.heap.size) 0 [.string ⟨#[]⟩, .string x, .bool false] := by rw [hwv1]; (simp only [CellsAt]; (first | (go_simp; done) | ((repeat' (with_reducible refine And.intro ?_ ?_)) <;> (repeat' (first | (with_reducible assumption) | (with_reducible exact trivial) | (with_reducible refine kA _ ?_) | (with_reducible refine kD ?_) | (with_reducible refine kS _ ?_ ?_) | (with_reducible refine fA _ ?_ ?_) | (with_reducible refine fD ?_) | (with_reducible refine fS _ ?_) | go_size | (go_simp; done))))))
          simp only [CellsAt] at zv1_w1H
          clear hwv1
          have row2 : RowT v1 w.heap.size g cap lk := rowT_keep row1 Av1 (by omega)
          have BV : Below w.heap.size w v1 := bel1.trans (Av1.mono (by omega))
          have hv1 : w1.heap.size + 1 ≤ v1.heap.size := by omega
          clear row1 bel1 sv1
          go_wp2_with (first
            | (at_builtin; refine wpList_append_own _ rfl _ _ 32 rfl w.heap.size 26 i0 _ 3 40 Try.underlying32 HI0.out HZ0.out HZ1.out HZ2.out rfl (by decide) _ lk.length (flat lk) rfl (rowT_alloc row2 _) ⟨v1.heap.size, 0, none⟩ 1 1 [.string ⟨#[]⟩, .string x, .bool false] rfl rfl ?c1 ?c2 ?c3 ?c4 ?c5 ?_)
            | fail)
          case c1 =>
            intro j u hj
            match j, hj with
            | 0, hj => simp at hj; subst hj; simp [Addr.add]
            | 1, hj => simp at hj; subst hj; simp [Addr.add]
            | 2, hj => simp at hj; subst hj; simp [Addr.add]
            | _ + 3, hj => simp at hj
          case c2 => intro u hu; simp at hu; rcases hu with rfl | rfl | rfl <;> rfl
          case c3 => unfold maxLen; have := hlkl.out; omega
          case c4 => have := hlkl.out; omega
          case c5 => have := (rowT_lt row2).2; have := BV.size; simp; omega
          intro v' w2 hown' hgrow' hnil
          obtain ⟨g', cap', rfl, rowN⟩ := rowT_of hown' (by first | exact hnil | exact fun e => by have := hnil.1 e; omega)
          have B2 : Below w.heap.size (v1.alloc (.cells #[.string ⟨#[]⟩, .string x, .bool false] 26)) w2 := (Below.refl _ _).grown hgrow' (by have := BV.size; simp; omega) (fun j hj => by injection hj with hj; subst hj; exact (rowT_lt row2).1)
          have BN : Below w.heap.size w w2 := (BV.alloc BV.size _).trans B2
          clear hown' hgrow' hnil row2 BV B2 Av1 zv1_w1H
          go_wp2_with fail
          go_roundg (l.length - (k + 1))
          case measure => omega
          case rel => exact ⟨k + 1, g', cap', lk ++ [(⟨#[]⟩, x, false)], R, rfl, by omega, rfl, rfl, Lib.hid HR.out.symm, HSN, Lib.hid (by simp [hlkl.out]), rowN, BN⟩
        · have tok : True := trivial
          have hx := E3.out (by trivial)
          have P2 := Lib.hid (fun w => pre_hit y 33 w)
          rw [← hx] at P2
          clear hx
          obtain ⟨hyv, h61, hkk⟩ := E6.out (by trivial)
          have C2 := Lib.hid (fun w => cut_miss y 61 (by rw [hyv]; exact h61) w)
          subst hkk
          subst hyv
          go_wp2_with fail
          refine (C1.out _).mono ?_
          rintro e w1 ⟨rfl, n1, hw1⟩
          have hs1 : wr.heap.size ≤ w1.heap.size := by rw [hw1]; exact Nat.le_refl _
          have b1 : Below wr.heap.size wr w1 := by rw [hw1]; exact bdN (Below.refl _ _) n1
          have bel1 : Below w.heap.size w w1 := bel.trans (b1.mono hszr)
          have row1 : RowT w1 w.heap.size g cap lk := rowT_keep hrow b1 hg.2
          clear hw1 b1 bel hrow
          go_wp2_with fail
          refine (P1.out _).mono ?_
          rintro e w' ⟨rfl, rfl⟩
          go_wp2_with fail
          refine (P2.out _).mono ?_
          rintro e w' ⟨rfl, rfl⟩
          go_wp2_with fail
          refine (C2.out _).mono ?_
          rintro e w2 ⟨rfl, n2, rfl⟩
          go_upto_region 15 with fail
          first | refine seal_wp ?_ | refine seal_calls ?_ | refine seal_post ?_
          intro v1 hwv1
          have sv1 := congrArg (fun x : World => x.heap.size) hwv1
          (try simp at sv1)
          have Av1 : Below w1.heap.size w1 v1 := by rw [hwv1]; (repeat' (first | (with_reducible assumption) | (with_reducible exact Below.refl _ _) | (with_reducible refine bdN ?_ _) | (with_reducible refine Below.alloc ?_ ?_ _) | (with_reducible refine Below.drew ?_) | (with_reducible refine Below.setCell ?_ ?_ _) | go_size))
          have lv1_0 : w1.heap.size < v1.heap.size := (by go_size)
          have zv1_w1H : CellsAt v1 (w1.heap.size) 0 [.string ⟨#[]⟩, .string y, .bool true] := by rw [hwv1]; (simp only [CellsAt]; (first | (go_simp; done) | ((repeat' (with_reducible refine And.intro ?_ ?_)) <;> (repeat' (first | (with_reducible assumption) | (with_reducible exact trivial) | (with_reducible refine kA _ ?_) | (with_reducible refine kD ?_) | (with_reducible refine kS _ ?_ ?_) | (with_reducible refine fA _ ?_ ?_) | (with_reducible refine fD ?_) | (with_reducible refine fS _ ?_) | go_size | (go_simp; done))))))
          simp only [CellsAt] at zv1_w1H
          clear hwv1
          have row2 : RowT v1 w.heap.size g cap lk := rowT_keep row1 Av1 (by omega)
          have BV : Below w.heap.size w v1 := bel1.trans (Av1.mono (by omega))
          have hv1 : w1.heap.size + 1 ≤ v1.heap.size := by omega
          clear row1 bel1 sv1
          go_wp2_with (first
            | (at_builtin; refine wpList_append_own _ rfl _ _ 32 rfl w.heap.size 26 i0 _ 3 40 Try.underlying32 HI0.out HZ0.out HZ1.out HZ2.out rfl (by decide) _ lk.length (flat lk) rfl (rowT_alloc row2 _) ⟨v1.heap.size, 0, none⟩ 1 1 [.string ⟨#[]⟩, .string y, .bool true] rfl rfl ?c1 ?c2 ?c3 ?c4 ?c5 ?_)
            | fail)
          case c1 =>
            intro j u hj
            match j, hj with
            | 0, hj => simp at hj; subst hj; simp [Addr.add]
            | 1, hj => simp at hj; subst hj; simp [Addr.add]
            | 2, hj => simp at hj; subst hj; simp [Addr.add]
            | _ + 3, hj => simp at hj
          case c2 => intro u hu; simp at hu; rcases hu with rfl | rfl | rfl <;> rfl
          case c3 => unfold maxLen; have := hlkl.out; omega
          case c4 => have := hlkl.out; omega
          case c5 => have := (rowT_lt row2).2; have := BV.size; simp; omega
          intro v' w2 hown' hgrow' hnil
          obtain ⟨g', cap', rfl, rowN⟩ := rowT_of hown' (by first | exact hnil | exact fun e => by have := hnil.1 e; omega)
          have B2 : Below w.heap.size (v1.alloc (.cells #[.string ⟨#[]⟩, .string y, .bool true] 26)) w2 := (Below.refl _ _).grown hgrow' (by have := BV.size; simp; omega) (fun j hj => by injection hj with hj; subst hj; exact (rowT_lt row2).1)
          have BN : Below w.heap.size w w2 := (BV.alloc BV.size _).trans B2
          clear hown' hgrow' hnil row2 BV B2 Av1 zv1_w1H
          go_wp2_with fail
          go_roundg (l.length - (k + 1))
          case measure => omega
          case rel => exact ⟨k + 1, g', cap', lk ++ [(⟨#[]⟩, y, true)], R, rfl, by omega, rfl, rfl, Lib.hid HR.out.symm, HSN, Lib.hid (by simp [hlkl.out]), rowN, BN⟩
    · obtain rfl : k = l.length := by omega
      have hSe : S = ⟨#[]⟩ := by rw [hS0.out, rs_end]
      subst hSe
      have hll : lk = l := by rw [hlk.out, List.take_length]
      subst hll
      have VV := Lib.hid (fun w => HV.out g cap w)
      go_wp2_with fail
      refine (VV.out _ (rowT_is hrow)).mono ?_
      rintro e w2 ⟨rfl, b2⟩
      have row2 := rowT_keep hrow b2 hg.2
      have BN : Below w.heap.size w w2 := bel.trans (b2.mono hszr)
      clear b2
      go_wp2_with fail
      go_ret2
      exact ⟨g, cap, rfl, row2, BN⟩

set_option maxRecDepth 100000 in
set_option maxHeartbeats 16000000 in
theorem TagsFrom_no_i (s : ByteArray) (hs : s.size ≤ 1048576) (hno : ¬ ∃ l, tsP l ∧ rsL l = s) (w : World) : Calls Try.prog 37 #[.string s] w fun e w' => e = .returned (.tuple #[.slice none 0 0, .bool false]) ∧ Below w.heap.size w w' := by
  obtain ⟨i0, hi, hz0, hz1, hz2⟩ := info_parts tagInfo
  have HI0 := Lib.hid hi
  have HZ0 := Lib.hid hz0
  have HZ1 := Lib.hid hz1
  have HZ2 := Lib.hid hz2
  clear hi hz0 hz1 hz2
  have h0 : rsL [] ++ s = s := ba_nil_add s
  have H0 := Lib.hid h0
  have HNO := Lib.hid hno
  have HV := Lib.hid (fun (l : List Tg) g cap w (h : IsTags w (some ⟨g, 0, none⟩) l.length l) (h1 : szT l 1048576) (h2 : l.length ≤ 1048576) => tagsValid_i (some ⟨g, 0, none⟩) l.length cap l w h (szT_le h1 (by omega)) h2)
  clear hno h0
  go_enter Try.func37, Try.ntmps37
  go_wp2_with fail
  have row0 : RowT (w.alloc (.cells #[] 26)) w.heap.size w.heap.size 0 [] := World.ownsRow_made w #[] 0 (Nat.le_refl _) (Nat.zero_le _) rfl
  go_loopg [0, 4] s.size (fun gg sv lv wr => ∃ (g cap : Nat) (lk : List Tg) (S : ByteArray), gg = S.size ∧ sv = .string S ∧ lv = .slice (some ⟨g, 0, none⟩) lk.length cap ∧ Hid (rsL lk ++ S = s) ∧ Hid (szT lk 1048576) ∧ lk.length + S.size ≤ s.size ∧ RowT wr w.heap.size g cap lk ∧ Below w.heap.size w wr)
  case atStart => exact ⟨w.heap.size, 0, [], s, rfl, rfl, rfl, H0, Lib.hid (fun i hi => by simp at hi), by simp, row0, by (repeat' (first | (with_reducible assumption) | (with_reducible exact Below.refl _ _) | (with_reducible refine bdN ?_ _) | (with_reducible refine Below.alloc ?_ ?_ _) | (with_reducible refine Below.drew ?_) | (with_reducible refine Below.setCell ?_ ?_ _) | go_size))⟩
  case round =>
    obtain ⟨g, cap, lk, S, rfl, rfl, rfl, hS0, hzl, hlen, hrow, bel⟩ := hrel
    have hg := rowT_lt hrow
    have hszr := bel.size
    clear row0
    cases hSe : S.toList.isEmpty
    · rcases cut_cases S 93 with ⟨A, R, hS, h93⟩ | h93
      · have C1 := Lib.hid (fun w => cut_hit A R 93 h93 (by rw [← hS]; omega) w)
        rw [← hS] at C1
        have hAR : S.size = A.size + 1 + R.size := by rw [hS, ByteArray.size_append, ba_one]
        have HS := Lib.hid hS
        clear h93 hS
        rcases pre_cases A 91 with ⟨x, hA⟩ | h91
        · have P1 := Lib.hid (fun w => pre_hit x 91 w)
          rw [← hA] at P1
          have hxz : x.size ≤ A.size := by rw [hA, ByteArray.size_append]; omega
          have HA := Lib.hid hA
          clear hA
          obtain ⟨y, c, hP2, hxy, hyz⟩ : ∃ (y : ByteArray) (c : Bool), Hid (∀ w, Calls Try.prog 68 #[.string x, .string ⟨#[33]⟩] w fun e w' => e = .returned (.tuple #[.string y, .bool c]) ∧ w = w') ∧ Hid (x = if c = true then ⟨#[33]⟩ ++ y else y) ∧ y.size ≤ x.size := by
            rcases pre_cases x 33 with ⟨y, hx⟩ | h33
            · exact ⟨y, true, Lib.hid (fun w => by rw [hx]; exact pre_hit y 33 w), Lib.hid hx, by rw [hx, ByteArray.size_append]; omega⟩
            · exact ⟨x, false, Lib.hid (fun w => pre_miss x 33 h33 w), Lib.hid rfl, Nat.le_refl _⟩
          rcases cut_cases y 61 with ⟨kk, vv, hy, h61⟩ | h61
          · have C2 := Lib.hid (fun w => cut_hit kk vv 61 h61 (by rw [← hy]; omega) w)
            rw [← hy] at C2
            have hkv : y.size = kk.size + 1 + vv.size := by rw [hy, ByteArray.size_append, ba_one]
            have HY := Lib.hid hy
            clear h61 hy
            cases he : kk.toList.isEmpty
            · have htx : tgT kk vv c = A ++ ⟨#[93]⟩ := by
                rw [HA.out, hxy.out, HY.out]
                cases c
                · exact no_kf kk vv he
                · exact no_kt kk vv he
              have HTX := Lib.hid (tg_snoc lk kk vv c A R S s hS0.out HS.out htx)
              have HZN := Lib.hid (szT_snoc (c := c) hzl.out (show kk.size ≤ 1048576 by omega) (show vv.size ≤ 1048576 by omega))
              clear htx
              go_wp2_with fail
              refine (C1.out _).mono ?_
              rintro e w1 ⟨rfl, n1, hw1⟩
              have hs1 : wr.heap.size ≤ w1.heap.size := by rw [hw1]; exact Nat.le_refl _
              have b1 : Below wr.heap.size wr w1 := by rw [hw1]; exact bdN (Below.refl _ _) n1
              have bel1 : Below w.heap.size w w1 := bel.trans (b1.mono hszr)
              have row1 : RowT w1 w.heap.size g cap lk := rowT_keep hrow b1 hg.2
              clear hw1 b1 bel hrow
              go_wp2_with fail
              refine (P1.out _).mono ?_
              rintro e w' ⟨rfl, rfl⟩
              go_wp2_with fail
              refine (hP2.out _).mono ?_
              rintro e w' ⟨rfl, rfl⟩
              go_wp2_with fail
              refine (C2.out _).mono ?_
              rintro e w2 ⟨rfl, n2, rfl⟩
              go_upto_region 15 with fail
              first | refine seal_wp ?_ | refine seal_calls ?_ | refine seal_post ?_
              intro v1 hwv1
              have sv1 := congrArg (fun x : World => x.heap.size) hwv1
              (try simp at sv1)
              have Av1 : Below w1.heap.size w1 v1 := by rw [hwv1]; (repeat' (first | (with_reducible assumption) | (with_reducible exact Below.refl _ _) | (with_reducible refine bdN ?_ _) | (with_reducible refine Below.alloc ?_ ?_ _) | (with_reducible refine Below.drew ?_) | (with_reducible refine Below.setCell ?_ ?_ _) | go_size))
              have lv1_0 : w1.heap.size < v1.heap.size := (by go_size)
              have zv1_w1H : CellsAt v1 (w1.heap.size) 0 [.string kk, .string vv, .bool c] := by rw [hwv1]; (simp only [CellsAt]; (first | (go_simp; done) | ((repeat' (with_reducible refine And.intro ?_ ?_)) <;> (repeat' (first | (with_reducible assumption) | (with_reducible exact trivial) | (with_reducible refine kA _ ?_) | (with_reducible refine kD ?_) | (with_reducible refine kS _ ?_ ?_) | (with_reducible refine fA _ ?_ ?_) | (with_reducible refine fD ?_) | (with_reducible refine fS _ ?_) | go_size | (go_simp; done))))))
              simp only [CellsAt] at zv1_w1H
              clear hwv1
              have row2 : RowT v1 w.heap.size g cap lk := rowT_keep row1 Av1 (by omega)
              have BV : Below w.heap.size w v1 := bel1.trans (Av1.mono (by omega))
              have hv1 : w1.heap.size + 1 ≤ v1.heap.size := by omega
              clear row1 bel1 sv1
              go_wp2_with (first
                | (at_builtin; refine wpList_append_own _ rfl _ _ 32 rfl w.heap.size 26 i0 _ 3 40 Try.underlying32 HI0.out HZ0.out HZ1.out HZ2.out rfl (by decide) _ lk.length (flat lk) rfl (rowT_alloc row2 _) ⟨v1.heap.size, 0, none⟩ 1 1 [.string kk, .string vv, .bool c] rfl rfl ?c1 ?c2 ?c3 ?c4 ?c5 ?_)
                | fail)
              case c1 =>
                intro j u hj
                match j, hj with
                | 0, hj => simp at hj; subst hj; simp [Addr.add]
                | 1, hj => simp at hj; subst hj; simp [Addr.add]
                | 2, hj => simp at hj; subst hj; simp [Addr.add]
                | _ + 3, hj => simp at hj
              case c2 => intro u hu; simp at hu; rcases hu with rfl | rfl | rfl <;> rfl
              case c3 => unfold maxLen; omega
              case c4 => omega
              case c5 => have := (rowT_lt row2).2; have := BV.size; simp; omega
              intro v' w2 hown' hgrow' hnil
              obtain ⟨g', cap', rfl, rowN⟩ := rowT_of hown' (by first | exact hnil | exact fun e => by have := hnil.1 e; omega)
              have B2 : Below w.heap.size (v1.alloc (.cells #[.string kk, .string vv, .bool c] 26)) w2 := (Below.refl _ _).grown hgrow' (by have := BV.size; simp; omega) (fun j hj => by injection hj with hj; subst hj; exact (rowT_lt row2).1)
              have BN : Below w.heap.size w w2 := (BV.alloc BV.size _).trans B2
              clear hown' hgrow' hnil row2 BV B2 Av1 zv1_w1H
              go_wp2_with fail
              go_roundg R.size
              case measure => omega
              case rel => exact ⟨g', cap', lk ++ [(kk, vv, c)], R, rfl, rfl, rfl, HTX, HZN, by simp; omega, rowN, BN⟩
            · go_wp2_with fail
              refine (C1.out _).mono ?_
              rintro e w1 ⟨rfl, n1, hw1⟩
              have hs1 : wr.heap.size ≤ w1.heap.size := by rw [hw1]; exact Nat.le_refl _
              have b1 : Below wr.heap.size wr w1 := by rw [hw1]; exact bdN (Below.refl _ _) n1
              have bel1 : Below w.heap.size w w1 := bel.trans (b1.mono hszr)
              have row1 : RowT w1 w.heap.size g cap lk := rowT_keep hrow b1 hg.2
              clear hw1 b1 bel hrow
              go_wp2_with fail
              refine (P1.out _).mono ?_
              rintro e w' ⟨rfl, rfl⟩
              go_wp2_with fail
              refine (hP2.out _).mono ?_
              rintro e w' ⟨rfl, rfl⟩
              go_wp2_with fail
              refine (C2.out _).mono ?_
              rintro e w2 ⟨rfl, n2, rfl⟩
              go_wp2_with fail
              go_ret2
              exact ⟨rfl, by (repeat' (first | (with_reducible assumption) | (with_reducible exact Below.refl _ _) | (with_reducible refine bdN ?_ _) | (with_reducible refine Below.alloc ?_ ?_ _) | (with_reducible refine Below.drew ?_) | (with_reducible refine Below.setCell ?_ ?_ _) | go_size))⟩
          · have C2 := Lib.hid (fun w => cut_miss y 61 h61 w)
            have htx : tgT ⟨#[]⟩ y c = A ++ ⟨#[93]⟩ := by
              rw [HA.out, hxy.out]
              cases c
              · exact no_ef y
              · exact no_et y
            have HTX := Lib.hid (tg_snoc lk ⟨#[]⟩ y c A R S s hS0.out HS.out htx)
            have HZN := Lib.hid (szT_snoc (c := c) (k := ⟨#[]⟩) hzl.out (by decide) (show y.size ≤ 1048576 by omega))
            clear htx h61
            go_wp2_with fail
            refine (C1.out _).mono ?_
            rintro e w1 ⟨rfl, n1, hw1⟩
            have hs1 : wr.heap.size ≤ w1.heap.size := by rw [hw1]; exact Nat.le_refl _
            have b1 : Below wr.heap.size wr w1 := by rw [hw1]; exact bdN (Below.refl _ _) n1
            have bel1 : Below w.heap.size w w1 := bel.trans (b1.mono hszr)
            have row1 : RowT w1 w.heap.size g cap lk := rowT_keep hrow b1 hg.2
            clear hw1 b1 bel hrow
            go_wp2_with fail
            refine (P1.out _).mono ?_
            rintro e w' ⟨rfl, rfl⟩
            go_wp2_with fail
            refine (hP2.out _).mono ?_
            rintro e w' ⟨rfl, rfl⟩
            go_wp2_with fail
            refine (C2.out _).mono ?_
            rintro e w2 ⟨rfl, n2, rfl⟩
            go_upto_region 15 with fail
            first | refine seal_wp ?_ | refine seal_calls ?_ | refine seal_post ?_
            intro v1 hwv1
            have sv1 := congrArg (fun x : World => x.heap.size) hwv1
            (try simp at sv1)
            have Av1 : Below w1.heap.size w1 v1 := by rw [hwv1]; (repeat' (first | (with_reducible assumption) | (with_reducible exact Below.refl _ _) | (with_reducible refine bdN ?_ _) | (with_reducible refine Below.alloc ?_ ?_ _) | (with_reducible refine Below.drew ?_) | (with_reducible refine Below.setCell ?_ ?_ _) | go_size))
            have lv1_0 : w1.heap.size < v1.heap.size := (by go_size)
            have zv1_w1H : CellsAt v1 (w1.heap.size) 0 [.string ⟨#[]⟩, .string y, .bool c] := by rw [hwv1]; (simp only [CellsAt]; (first | (go_simp; done) | ((repeat' (with_reducible refine And.intro ?_ ?_)) <;> (repeat' (first | (with_reducible assumption) | (with_reducible exact trivial) | (with_reducible refine kA _ ?_) | (with_reducible refine kD ?_) | (with_reducible refine kS _ ?_ ?_) | (with_reducible refine fA _ ?_ ?_) | (with_reducible refine fD ?_) | (with_reducible refine fS _ ?_) | go_size | (go_simp; done))))))
            simp only [CellsAt] at zv1_w1H
            clear hwv1
            have row2 : RowT v1 w.heap.size g cap lk := rowT_keep row1 Av1 (by omega)
            have BV : Below w.heap.size w v1 := bel1.trans (Av1.mono (by omega))
            have hv1 : w1.heap.size + 1 ≤ v1.heap.size := by omega
            clear row1 bel1 sv1
            go_wp2_with (first
              | (at_builtin; refine wpList_append_own _ rfl _ _ 32 rfl w.heap.size 26 i0 _ 3 40 Try.underlying32 HI0.out HZ0.out HZ1.out HZ2.out rfl (by decide) _ lk.length (flat lk) rfl (rowT_alloc row2 _) ⟨v1.heap.size, 0, none⟩ 1 1 [.string ⟨#[]⟩, .string y, .bool c] rfl rfl ?c1 ?c2 ?c3 ?c4 ?c5 ?_)
              | fail)
            case c1 =>
              intro j u hj
              match j, hj with
              | 0, hj => simp at hj; subst hj; simp [Addr.add]
              | 1, hj => simp at hj; subst hj; simp [Addr.add]
              | 2, hj => simp at hj; subst hj; simp [Addr.add]
              | _ + 3, hj => simp at hj
            case c2 => intro u hu; simp at hu; rcases hu with rfl | rfl | rfl <;> rfl
            case c3 => unfold maxLen; omega
            case c4 => omega
            case c5 => have := (rowT_lt row2).2; have := BV.size; simp; omega
            intro v' w2 hown' hgrow' hnil
            obtain ⟨g', cap', rfl, rowN⟩ := rowT_of hown' (by first | exact hnil | exact fun e => by have := hnil.1 e; omega)
            have B2 : Below w.heap.size (v1.alloc (.cells #[.string ⟨#[]⟩, .string y, .bool c] 26)) w2 := (Below.refl _ _).grown hgrow' (by have := BV.size; simp; omega) (fun j hj => by injection hj with hj; subst hj; exact (rowT_lt row2).1)
            have BN : Below w.heap.size w w2 := (BV.alloc BV.size _).trans B2
            clear hown' hgrow' hnil row2 BV B2 Av1 zv1_w1H
            go_wp2_with fail
            go_roundg R.size
            case measure => omega
            case rel => exact ⟨g', cap', lk ++ [(⟨#[]⟩, y, c)], R, rfl, rfl, rfl, HTX, HZN, by simp; omega, rowN, BN⟩
        · have P1 := Lib.hid (fun w => pre_miss A 91 h91 w)
          clear h91
          go_wp2_with fail
          refine (C1.out _).mono ?_
          rintro e w1 ⟨rfl, n1, hw1⟩
          have hs1 : wr.heap.size ≤ w1.heap.size := by rw [hw1]; exact Nat.le_refl _
          have b1 : Below wr.heap.size wr w1 := by rw [hw1]; exact bdN (Below.refl _ _) n1
          have bel1 : Below w.heap.size w w1 := bel.trans (b1.mono hszr)
          have row1 : RowT w1 w.heap.size g cap lk := rowT_keep hrow b1 hg.2
          clear hw1 b1 bel hrow
          go_wp2_with fail
          refine (P1.out _).mono ?_
          rintro e w' ⟨rfl, rfl⟩
          go_wp2_with fail
          go_ret2
          exact ⟨rfl, by (repeat' (first | (with_reducible assumption) | (with_reducible exact Below.refl _ _) | (with_reducible refine bdN ?_ _) | (with_reducible refine Below.alloc ?_ ?_ _) | (with_reducible refine Below.drew ?_) | (with_reducible refine Below.setCell ?_ ?_ _) | go_size))⟩
      · have C1 := Lib.hid (fun w => cut_miss S 93 h93 w)
        obtain ⟨x, b, hP⟩ := pre_any S 91
        have P1 := Lib.hid hP
        clear hP h93
        go_wp2_with fail
        refine (C1.out _).mono ?_
        rintro e w1 ⟨rfl, n1, hw1⟩
        have hs1 : wr.heap.size ≤ w1.heap.size := by rw [hw1]; exact Nat.le_refl _
        have b1 : Below wr.heap.size wr w1 := by rw [hw1]; exact bdN (Below.refl _ _) n1
        have bel1 : Below w.heap.size w w1 := bel.trans (b1.mono hszr)
        have row1 : RowT w1 w.heap.size g cap lk := rowT_keep hrow b1 hg.2
        clear hw1 b1 bel hrow
        go_wp2_with fail
        refine (P1.out _).mono ?_
        rintro e w' ⟨rfl, rfl⟩
        go_wp2_with fail
        go_ret2
        exact ⟨rfl, by (repeat' (first | (with_reducible assumption) | (with_reducible exact Below.refl _ _) | (with_reducible refine bdN ?_ _) | (with_reducible refine Below.alloc ?_ ?_ _) | (with_reducible refine Below.drew ?_) | (with_reducible refine Below.setCell ?_ ?_ _) | go_size))⟩
    · have hS1 := ba_emp hSe
      subst hS1
      have hts : tsB lk = false := ts_f (fun h => HNO.out ⟨lk, h, by
        rw [← hS0.out]
        apply ByteArray.ext
        apply Array.toList_inj.1
        simp [ByteArray.data_append, Array.toList_append]⟩)
      have VV := Lib.hid (fun w h => HV.out lk g cap w h hzl.out (by omega))
      rw [hts] at VV
      go_wp2_with fail
      refine (VV.out _ (rowT_is hrow)).mono ?_
      rintro e w2 ⟨rfl, b2⟩
      have BN : Below w.heap.size w w2 := bel.trans (b2.mono hszr)
      clear b2
      go_wp2_with fail
      go_ret2
      exact ⟨rfl, BN⟩
end Go.Proofs.Ytbgpdjceofofoaa
