/- The law FnExactTagsAllow: for every list of tags and every list of keys the program's TagsAllow tells what the reference's tells and leaves both lists as they are. No condition. -/
import Derived.Test.YtbgpdjceofofoaaTagsAl
import Derived.Test.YtbgpdjceofofoaaToTagS
import Derived.Test.YtbgpdjceofofoaaToStrS
import Derived.Test.YtbgpdjceofofoaaOpenTS
import Derived.ProofKit
import Derived.ChangeAlike
import Derived.OpenShut
import Derived.ShutString
import Derived.ChangeOld
namespace Go.Proofs.Ytbgpdjceofofoaa.lawExactTagsAllow
open Go.Proofs.Ytbgpdjceofofoaa Go.RowKit DN
open Go.ChangeShapes Go.WideShapes Go.ChangeAt
set_option linter.unusedVariables false
set_option linter.unusedSimpArgs false

set_option maxRecDepth 100000 in
set_option maxHeartbeats 4000000 in
theorem walk (a : Option Addr) (len cap : Nat) (l : List Tg) (a2 : Option Addr) (len2 cap2 : Nat) (ks : List ByteArray) (w : World) (h : IsTags w a len l) (hsz : szT l maxLen) (hlen : len ≤ maxLen) (h2 : IsStrs w a2 len2 ks) (hsz2 : szS ks maxLen) (hlen2 : len2 ≤ maxLen) : Calls Try.prog 8 #[.slice a len cap, .slice a2 len2 cap2] w fun e w' => e = .returned (.bool true) ∧ Below w.heap.size w w' := by
  have Z := Lib.hid (szTagS_any a len cap l w h hsz hlen)
  have Z2 := Lib.hid (fun n w' (h' : IsStrs w' a2 len2 ks) n0 n1 => szStringS_any a2 len2 cap2 ks n w' h' hsz2 hlen2 n0 n1)
  have HT := Lib.hid h
  have HK := Lib.hid h2
  clear h hsz hlen h2 hsz2 hlen2
  go_enter Try.func8, Try.ntmps8
  go_wp2_with fail
  refine Z.out.mono ?_
  rintro e w1 ⟨z, hz, rfl, b1⟩
  by_cases hz0 : z < 0
  · clear hz
    go_wp2_with fail
    go_ret
    exact ⟨rfl, by (repeat' (first | (with_reducible assumption) | (with_reducible exact Below.refl _ _) | (with_reducible refine bdN ?_ _) | (with_reducible refine Below.alloc ?_ ?_ _) | (with_reducible refine Below.drew ?_) | (with_reducible refine Below.setCell ?_ ?_ _) | go_size))⟩
  · obtain ⟨hz1, hz2, hs, hn⟩ := hz.resolve_left hz0
    have HS := Lib.hid (show szT l 1099511627776 from fun i hi => ⟨by have := (hs i hi).1; omega, by have := (hs i hi).2; omega⟩)
    have HT1 := Lib.hid (isTags_keep HT.out b1)
    have HK1 := Lib.hid (isStrs_keep HK.out b1)
    have s1 := b1.size
    clear hz hs
    go_wp2_with fail
    refine (Z2.out z _ HK1.out hz1 hz2).mono ?_
    rintro e v1 ⟨y, hy, rfl, c1⟩
    have A1 : Below w.heap.size w v1 := b1.trans (c1.mono s1)
    by_cases hy0 : y < 0
    · clear hy
      go_wp2_with fail
      go_ret
      exact ⟨rfl, by (repeat' (first | (with_reducible assumption) | (with_reducible exact Below.refl _ _) | (with_reducible refine bdN ?_ _) | (with_reducible refine Below.alloc ?_ ?_ _) | (with_reducible refine Below.drew ?_) | (with_reducible refine Below.setCell ?_ ?_ _) | go_size))⟩
    · obtain ⟨hy1, hs2, hn2⟩ := hy.resolve_left hy0
      have HS2 := Lib.hid (show szS ks 1099511627776 from fun i hi => by have := hs2 i hi; omega)
      have TO := Lib.hid (fun w' (h' : IsTags w' a len l) => toTagS_any a len cap l w' h' hn)
      have TS := Lib.hid (fun w' (h' : IsStrs w' a2 len2 ks) => toStringS_any a2 len2 cap2 ks w' h' hn2)
      have EQ := Lib.hid (fun w' g1 g2 (h1 : IsTags w' (some ⟨g1, 0, none⟩) len l) (h2 : IsTags w' (some ⟨g2, 0, none⟩) len l) => eqTagS_same (some ⟨g1, 0, none⟩) (some ⟨g2, 0, none⟩) len len len l w' h1 h2 hn)
      have ES := Lib.hid (fun w' g1 g2 (h1 : IsStrs w' (some ⟨g1, 0, none⟩) len2 ks) (h2 : IsStrs w' (some ⟨g2, 0, none⟩) len2 ks) => eqStringS_same (some ⟨g1, 0, none⟩) (some ⟨g2, 0, none⟩) len2 len2 len2 ks w' h1 h2 hn2)
      have I := Lib.hid (fun w' g1 g2 (h1 : IsTags w' (some ⟨g1, 0, none⟩) len l) (h2 : IsStrs w' (some ⟨g2, 0, none⟩) len2 ks) => TagsAllow_i (some ⟨g1, 0, none⟩) len len l (some ⟨g2, 0, none⟩) len2 len2 ks w' h1 HS.out hn h2 HS2.out hn2)
      have R := Lib.hid (fun w' g1 g2 (h1 : IsTags w' (some ⟨g1, 0, none⟩) len l) (h2 : IsStrs w' (some ⟨g2, 0, none⟩) len2 ks) => TagsAllow_s (some ⟨g1, 0, none⟩) len len l (some ⟨g2, 0, none⟩) len2 len2 ks w' h1 HS.out hn h2 HS2.out hn2)
      obtain ⟨tb, htb⟩ : ∃ tb, taB l ks = tb := ⟨_, rfl⟩
      rw [htb] at I R
      have P0 := Lib.hid (isTags_keep HT1.out c1)
      have Q0 := Lib.hid (isStrs_keep HK1.out c1)
      have r0 := A1.size
      clear hy hs2 htb b1 c1
      go_wp2_with fail
      refine (TO.out _ P0.out).mono ?_
      rintro e w2 ⟨rfl, t, b⟩
      have P0_2 := Lib.hid (isTags_keep P0.out b)
      have Q0_2 := Lib.hid (isStrs_keep Q0.out b)
      have X1_2 := Lib.hid t
      have r2 := b.size
      have B2 : Below w.heap.size w w2 := A1.trans (b.mono (by omega))
      clear b A1 P0 Q0 t
      go_wp2_with fail
      refine (TS.out _ Q0_2.out).mono ?_
      rintro e w3 ⟨rfl, t, b⟩
      have P0_3 := Lib.hid (isTags_keep P0_2.out b)
      have X1_3 := Lib.hid (isTags_keep X1_2.out b)
      have Q0_3 := Lib.hid (isStrs_keep Q0_2.out b)
      have Y1_3 := Lib.hid t
      have r3 := b.size
      have B3 : Below w.heap.size w w3 := B2.trans (b.mono (by omega))
      clear b B2 P0_2 X1_2 Q0_2 t
      go_wp2_with fail
      refine (R.out _ _ _ X1_3.out Y1_3.out).mono ?_
      rintro e w4 ⟨rfl, b⟩
      have P0_4 := Lib.hid (isTags_keep P0_3.out b)
      have X1_4 := Lib.hid (isTags_keep X1_3.out b)
      have Q0_4 := Lib.hid (isStrs_keep Q0_3.out b)
      have Y1_4 := Lib.hid (isStrs_keep Y1_3.out b)
      have r4 := b.size
      have B4 : Below w.heap.size w w4 := B3.trans (b.mono (by omega))
      clear b B3 P0_3 X1_3 Q0_3 Y1_3
      go_wp2_with fail
      refine (TO.out _ P0_4.out).mono ?_
      rintro e w5 ⟨rfl, t, b⟩
      have P0_5 := Lib.hid (isTags_keep P0_4.out b)
      have X1_5 := Lib.hid (isTags_keep X1_4.out b)
      have Q0_5 := Lib.hid (isStrs_keep Q0_4.out b)
      have Y1_5 := Lib.hid (isStrs_keep Y1_4.out b)
      have X2_5 := Lib.hid t
      have r5 := b.size
      have B5 : Below w.heap.size w w5 := B4.trans (b.mono (by omega))
      clear b B4 P0_4 X1_4 Q0_4 Y1_4 t
      go_wp2_with fail
      refine (TS.out _ Q0_5.out).mono ?_
      rintro e w6 ⟨rfl, t, b⟩
      have P0_6 := Lib.hid (isTags_keep P0_5.out b)
      have X1_6 := Lib.hid (isTags_keep X1_5.out b)
      have X2_6 := Lib.hid (isTags_keep X2_5.out b)
      have Q0_6 := Lib.hid (isStrs_keep Q0_5.out b)
      have Y1_6 := Lib.hid (isStrs_keep Y1_5.out b)
      have Y2_6 := Lib.hid t
      have r6 := b.size
      have B6 : Below w.heap.size w w6 := B5.trans (b.mono (by omega))
      clear b B5 P0_5 X1_5 X2_5 Q0_5 Y1_5 t
      go_wp2_with fail
      refine (I.out _ _ _ X2_6.out Y2_6.out).mono ?_
      rintro e w7 ⟨rfl, b⟩
      have P0_7 := Lib.hid (isTags_keep P0_6.out b)
      have X1_7 := Lib.hid (isTags_keep X1_6.out b)
      have X2_7 := Lib.hid (isTags_keep X2_6.out b)
      have Q0_7 := Lib.hid (isStrs_keep Q0_6.out b)
      have Y1_7 := Lib.hid (isStrs_keep Y1_6.out b)
      have Y2_7 := Lib.hid (isStrs_keep Y2_6.out b)
      have r7 := b.size
      have B7 : Below w.heap.size w w7 := B6.trans (b.mono (by omega))
      clear b B6 P0_6 X1_6 X2_6 Q0_6 Y1_6 Y2_6
      go_wp2_with fail
      refine (TO.out _ P0_7.out).mono ?_
      rintro e w8 ⟨rfl, t, b⟩
      have P0_8 := Lib.hid (isTags_keep P0_7.out b)
      have X1_8 := Lib.hid (isTags_keep X1_7.out b)
      have X2_8 := Lib.hid (isTags_keep X2_7.out b)
      have Q0_8 := Lib.hid (isStrs_keep Q0_7.out b)
      have Y1_8 := Lib.hid (isStrs_keep Y1_7.out b)
      have Y2_8 := Lib.hid (isStrs_keep Y2_7.out b)
      have X3_8 := Lib.hid t
      have r8 := b.size
      have B8 : Below w.heap.size w w8 := B7.trans (b.mono (by omega))
      clear b B7 P0_7 X1_7 X2_7 Q0_7 Y1_7 Y2_7 t
      go_wp2_with fail
      refine (EQ.out _ _ _ X2_8.out X3_8.out).mono ?_
      rintro e w9 ⟨rfl, b⟩
      have P0_9 := Lib.hid (isTags_keep P0_8.out b)
      have X1_9 := Lib.hid (isTags_keep X1_8.out b)
      have X2_9 := Lib.hid (isTags_keep X2_8.out b)
      have X3_9 := Lib.hid (isTags_keep X3_8.out b)
      have Q0_9 := Lib.hid (isStrs_keep Q0_8.out b)
      have Y1_9 := Lib.hid (isStrs_keep Y1_8.out b)
      have Y2_9 := Lib.hid (isStrs_keep Y2_8.out b)
      have r9 := b.size
      have B9 : Below w.heap.size w w9 := B8.trans (b.mono (by omega))
      clear b B8 P0_8 X1_8 X2_8 X3_8 Q0_8 Y1_8 Y2_8
      go_wp2_with fail
      refine (TS.out _ Q0_9.out).mono ?_
      rintro e w10 ⟨rfl, t, b⟩
      have P0_10 := Lib.hid (isTags_keep P0_9.out b)
      have X1_10 := Lib.hid (isTags_keep X1_9.out b)
      have X2_10 := Lib.hid (isTags_keep X2_9.out b)
      have X3_10 := Lib.hid (isTags_keep X3_9.out b)
      have Q0_10 := Lib.hid (isStrs_keep Q0_9.out b)
      have Y1_10 := Lib.hid (isStrs_keep Y1_9.out b)
      have Y2_10 := Lib.hid (isStrs_keep Y2_9.out b)
      have Y3_10 := Lib.hid t
      have r10 := b.size
      have B10 : Below w.heap.size w w10 := B9.trans (b.mono (by omega))
      clear b B9 P0_9 X1_9 X2_9 X3_9 Q0_9 Y1_9 Y2_9 t
      go_wp2_with fail
      refine (ES.out _ _ _ Y2_10.out Y3_10.out).mono ?_
      rintro e w11 ⟨rfl, b⟩
      have P0_11 := Lib.hid (isTags_keep P0_10.out b)
      have X1_11 := Lib.hid (isTags_keep X1_10.out b)
      have X2_11 := Lib.hid (isTags_keep X2_10.out b)
      have X3_11 := Lib.hid (isTags_keep X3_10.out b)
      have Q0_11 := Lib.hid (isStrs_keep Q0_10.out b)
      have Y1_11 := Lib.hid (isStrs_keep Y1_10.out b)
      have Y2_11 := Lib.hid (isStrs_keep Y2_10.out b)
      have Y3_11 := Lib.hid (isStrs_keep Y3_10.out b)
      have r11 := b.size
      have B11 : Below w.heap.size w w11 := B10.trans (b.mono (by omega))
      clear b B10 P0_10 X1_10 X2_10 X3_10 Q0_10 Y1_10 Y2_10 Y3_10
      go_wp2_with fail
      go_ret
      exact ⟨rfl, by (repeat' (first | (with_reducible assumption) | (with_reducible exact Below.refl _ _) | (with_reducible refine bdN ?_ _) | (with_reducible refine Below.alloc ?_ ?_ _) | (with_reducible refine Below.drew ?_) | (with_reducible refine Below.setCell ?_ ?_ _) | go_size))⟩

theorem own : ownKnob Try.prog.godebug = none := by kernel_rfl
theorem laidOut : laidOutB Try.prog = true := by kernel_rfl

set_option maxRecDepth 100000 in
theorem lifted (os : Os) (started : os.Started) (H : Type) (enc : TypeId × Value → H) :
    ReturnsInHanded {} Try.checked os 8 .any (Rows.fnExactTagsAllowSpec.pre6 enc Try.prog Try.f8 Rows.fnExactTagsAllowRow.domain false) (Rows.fnExactTagsAllowSpec.post enc Try.prog Try.f8 false true false false) := by
  refine returnsInHanded_of_change (C := Try.checked) own started (by kernel_rfl) Try.func8
    (ChangeSpec.witness6 (enc := enc) (C := Try.checked) false ⟨#[], #[.slice none 0 0, .slice none 0 0], []⟩ 8 (by kernel_rfl) (by kernel_rfl) (by kernel_rfl) (by kernel_rfl)) ?_
  intro W base args ds gs before hval0 hW hcnd _
  have hval : ∀ (j : Nat) t v, Try.f8.params[j]? = some t → args[j]? = some v → Value.okWide Try.prog W .any base t v := hval0
  have hW' := hW
  obtain ⟨p, q, hA0, hV, rfl, hfz, hnd⟩ := hW
  have hA : DataW.TrodAll enc Try.prog W 0 (fun _ => true) true Try.f8.params.toList args.toList ds p := hA0
  rw [Try.params8] at hA hval
  obtain ⟨v0, vs0, d0, ds0, p0, q0, hargs, rfl, rfl, h0, r0⟩ := trodAll_cons hA
  obtain ⟨v1, vs1, d1, ds1, p1, q1, rfl, rfl, rfl, h1, r1⟩ := trodAll_cons r0
  obtain ⟨rfl, rfl, rfl⟩ := trodAll_nil r1
  obtain rfl : args = #[v0, v1] := by cases args; simp_all
  obtain ⟨rfl, rfl⟩ := trodVars_none hV
  have k0 := h0
  have lt0 : ∀ x ∈ p0, x.block < W.heap.size := by obtain ⟨m, hm⟩ := k0; exact DataW.trod_lt m _ _ _ hm
  obtain ⟨a0, len0, cap0, rfl⟩ := okWide_slice Try.underlying41 (hval 0 41 v0 rfl rfl)
  obtain ⟨hn0, l0, ht0, hz0⟩ : len0 ≤ maxLen ∧ ∃ l : List Tg, IsTags W a0 len0 l ∧ szT l maxLen := by
    obtain ⟨fuel, hf⟩ := h0
    exact open_tags Try.underlying41 Try.underlying23 (by kernel_rfl) (by kernel_rfl) Try.underlying9 Try.underlying9 Try.underlying4 (by simpa [Value.cells] using hf)
  have k1 := h1
  have lt1 : ∀ x ∈ p1, x.block < W.heap.size := by obtain ⟨m, hm⟩ := k1; exact DataW.trod_lt m _ _ _ hm
  obtain ⟨a1, len1, cap1, rfl⟩ := okWide_slice Try.underlying33 (hval 1 33 v1 rfl rfl)
  obtain ⟨hn1, l1, ht1, hz1⟩ : len1 ≤ maxLen ∧ ∃ l : List ByteArray, IsStrs W a1 len1 l ∧ szS l maxLen := by
    obtain ⟨fuel, hf⟩ := h1
    exact open_strs Try.underlying33 Try.underlying9 (by kernel_rfl) (by simpa [Value.cells] using hf)
  clear hA0 hval0
  refine (walk a0 len0 cap0 l0 a1 len1 cap1 l1 W ht0 hz0 hn0 ht1 hz1 hn1).mono fun e W' ⟨he, bel⟩ => ?_
  subst he
  exact ⟨_, rfl, _, _, _, [], _, [], hW', trodAll_mk1 (shut_bool Try.underlying4 _), (trodAll_cons_mk (Below.trod laidOut (by kernel_rfl) (of_decide_eq_true (by kernel_rfl)) k0 bel lt0) (trodAll_cons_mk (Below.trod laidOut (by kernel_rfl) (of_decide_eq_true (by kernel_rfl)) k1 bel lt1) trodAll_mk0)), rfl, bel.frame _, fun h => by cases h⟩

theorem proved : Rows.FnExactTagsAllowSaid :=
  OpenClaim.holds_of_wide 8 Try.f8 rfl rfl rfl rfl rfl rfl rfl ⟨rfl, rfl, rfl, rfl, rfl⟩ rfl rfl rfl rfl rfl (by kernel_rfl) Try.func8 (by kernel_rfl)
    (of_decide_eq_true (by kernel_rfl)) (by unfold Func.isWrapper; first | (rw [if_pos (by decide +kernel)]; kernel_rfl) | (rw [if_neg (by decide +kernel)]; exact ⟨rfl, rfl⟩))
    (fun os started H enc _ => lifted os started H enc)
#print axioms proved
end Go.Proofs.Ytbgpdjceofofoaa.lawExactTagsAllow
