/- The law FnTagsAllowMore: what is allowed with some keys known is allowed with one more. For every input. No condition. -/
import Derived.Test.YtbgpdjceofofoaaTagsAl
import Derived.Test.YtbgpdjceofofoaaDrawTags
import Derived.ProofKit
import Derived.ChangeAlike
import Derived.OpenShut
import Derived.ShutString
import Derived.ChangeOld
namespace Go.Proofs.Ytbgpdjceofofoaa.lawTagsAllowMore
open Go.Proofs.Ytbgpdjceofofoaa Go.RowKit DN
open Go.ChangeShapes Go.WideShapes Go.ChangeAt
set_option linter.unusedVariables false
set_option linter.unusedSimpArgs false

theorem ta_more {l : List Tg} {ks : List ByteArray} {m : ByteArray} (h : taP l ks) : taP l (ks ++ [m]) := by
  refine ⟨h.1, fun i hi hc he => ?_⟩
  obtain ⟨j, h1, h2⟩ := h.2 i hi hc he
  refine ⟨j, by simp; omega, ?_⟩
  rw [← h2]
  unfold sA
  rw [List.getD_eq_getElem?_getD, List.getD_eq_getElem?_getD, List.getElem?_append_left h1]
theorem rowS_of0 {w : World} {base : Nat} {v : Value} {l : List ByteArray} (h : w.ownsRow base 9 1 v l.length (l.map Value.string)) (hn : v ≠ .slice none 0 0) : ∃ g cap, v = .slice (some ⟨g, 0, none⟩) l.length cap ∧ RowS w base g cap l := by
  rcases h.2 with ⟨h0, _⟩ | ⟨g, cap, cur, rfl, _⟩
  · exact absurd h0 hn
  · exact ⟨g, cap, rfl, h⟩
set_option maxRecDepth 100000 in
set_option maxHeartbeats 4000000 in
theorem walk (a : Option Addr) (len cap : Nat) (zs : List Int) (w : World) (h : IsRow .u8 w a len cap zs) : Calls Try.prog 5 #[.slice a len cap] w fun e w' => e = .returned (.bool true) ∧ Below w.heap.size w w' := by
  by_cases hlen : 1048576 < len
  · go_enter Try.func5, Try.ntmps5
    go_wp2
    go_ret
    exact ⟨rfl, Below.refl _ _⟩
  · have H := Lib.hid h
    clear h
    obtain ⟨i0, hi, hz0, hz1, hz2⟩ := info_parts strInfo
    have HI0 := Lib.hid hi
    have HZ0 := Lib.hid hz0
    have HZ1 := Lib.hid hz1
    have HZ2 := Lib.hid hz2
    clear hi hz0 hz1 hz2
    go_enter Try.func5, Try.ntmps5
    go_wp2_with fail
    refine (DrawTagsAllow_any _ _ _ _ _ H.out).mono ?_
    rintro e w1 ⟨l, g, cap1, ks, g2, cap2, ⟨⟨hs1, hs2⟩, hs3, hs4⟩, rfl, ht, hk, b1⟩
    clear H
    have HT := Lib.hid ht
    have HK := Lib.hid hk
    have HS1 := Lib.hid (show szT l 1099511627776 from fun i hi => ⟨by have := (hs1 i hi).1; omega, by have := (hs1 i hi).2; omega⟩)
    have HS3 := Lib.hid hs3
    have I := Lib.hid (fun w' a2 c2 ks' (h1 : IsTags w' (some ⟨g, 0, none⟩) l.length l) (h2 : IsStrs w' a2 ks'.length ks') (h3 : szS ks' 16) (h4 : ks'.length ≤ 5) => TagsAllow_i (some ⟨g, 0, none⟩) l.length cap1 l a2 ks'.length c2 ks' w' h1 HS1.out (by omega) h2 (fun i hi => by have := h3 i hi; omega) (by omega))
    have R := Lib.hid (fun w' (h1 : IsTags w' (some ⟨g, 0, none⟩) l.length l) (h2 : IsStrs w' (some ⟨g2, 0, none⟩) ks.length ks) => TagsAllow_s (some ⟨g, 0, none⟩) l.length cap1 l (some ⟨g2, 0, none⟩) ks.length cap2 ks w' h1 HS1.out (by omega) h2 (fun i hi => by have := hs3 i hi; omega) (by omega))
    obtain ⟨tb, htb⟩ : ∃ tb, taB l ks = tb := ⟨_, rfl⟩
    have I1 := Lib.hid (fun w' a2 c2 (h1 : IsTags w' (some ⟨g, 0, none⟩) l.length l) (h2 : IsStrs w' a2 ks.length ks) => I.out w' a2 c2 ks h1 h2 HS3.out (by omega))
    rw [htb] at I1 R
    have HTB := Lib.hid htb
    clear hs1 hs3 ht hk htb
    have sz1 := b1.size
    go_wp2_with fail
    refine (I1.out _ _ _ HT.out HK.out).mono ?_
    rintro e w2 ⟨rfl, b2⟩
    have HT2 := Lib.hid (isTags_keep HT.out b2)
    have HK2 := Lib.hid (isStrs_keep HK.out b2)
    have A2 : Below w.heap.size w w2 := b1.trans (b2.mono sz1)
    have sz2 := b2.size
    clear b1 b2
    go_wp2_with fail
    refine (R.out _ HT2.out HK2.out).mono ?_
    rintro e w3 ⟨rfl, b3⟩
    have HT3 := Lib.hid (isTags_keep HT2.out b3)
    have HK3 := Lib.hid (isStrs_keep HK2.out b3)
    have A3 : Below w.heap.size w w3 := A2.trans (b3.mono (by omega))
    have sz3 := b3.size
    clear b3 A2
    cases tb
    · go_wp2_with fail
      go_ret
      exact ⟨rfl, by (repeat' (first | (with_reducible assumption) | (with_reducible exact Below.refl _ _) | (with_reducible refine bdN ?_ _) | (with_reducible refine Below.alloc ?_ ?_ _) | (with_reducible refine Below.drew ?_) | (with_reducible refine Below.setCell ?_ ?_ _) | go_size))⟩
    · have HM := Lib.hid (ta_t (ta_more (m := ⟨#[109, 111, 114, 101]⟩) (ta_iff.1 HTB.out)))
      have row0 : World.ownsRow (w3.alloc (.cells #[] 9)) w3.heap.size 9 1 (.slice (some ⟨w3.heap.size, 0, none⟩) 0 0) 0 [] := World.ownsRow_made w3 #[] 0 (Nat.le_refl _) (Nat.zero_le _) rfl
      have hcl : ∀ j u, (ks.map Value.string)[j]? = some u → (w3.alloc (.cells #[] 9)).cell? ((⟨g2, 0, none⟩ : Addr).add j) = some u := by
        intro j u hj
        rcases HK3.out.2 with h0 | ⟨b, off, e, hb, hc⟩
        · rw [List.getElem?_eq_none (by simp; omega)] at hj; cases hj
        · injection e with e
          injection e with e1 e2
          subst e1; subst e2
          have hjl : j < ks.length := by
            rcases Nat.lt_or_ge j ks.length with x | x
            · exact x
            · rw [List.getElem?_eq_none (by simpa using x)] at hj; cases hj
          have h1 := hc j hjl
          rw [add0, ((Below.refl w3.heap.size w3).alloc (Nat.le_refl _) (.cells #[] 9)).cell (p := ⟨g2, j, none⟩) hb]
          rw [Nat.zero_add] at h1
          rw [h1]
          rw [List.getElem?_map, List.getElem?_eq_getElem hjl] at hj
          unfold sA
          rw [List.getD_eq_getElem?_getD, List.getElem?_eq_getElem hjl]
          exact hj
      have HCL := Lib.hid hcl
      clear hcl
      have tok := True.intro
      go_wp2_with (first
        | (at_builtin; have _t := tok; refine wpList_append_own _ rfl _ _ 33 rfl w3.heap.size 9 i0 _ 1 16 Try.underlying33 HI0.out HZ0.out HZ1.out HZ2.out rfl (by decide) _ 0 [] rfl row0 ⟨g2, 0, none⟩ ks.length cap2 (ks.map Value.string) rfl ?c1 HCL.out ?c2 ?c3 ?c4 ?c5 ?_)
        | fail)
      case c1 => simp
      case c2 => intro u hu; obtain ⟨s, _, rfl⟩ := List.mem_map.1 hu; rfl
      case c3 => unfold maxLen; omega
      case c4 => omega
      case c5 => simp
      intro v' w4 hown' hgrow' hnil
      obtain ⟨g3, cap3, rfl, row4⟩ := rowS_of0 hown' (by first | exact hnil | exact fun e => by have := (hnil.1 e).1; cases this)
      have B4 : Below w3.heap.size w3 w4 := ((Below.refl _ _).alloc (Nat.le_refl _) _).grown hgrow' (by simp) (fun j hj => by injection hj with hj; subst hj; exact Nat.le_refl _)
      have A4 : Below w.heap.size w w4 := A3.trans (B4.mono (by have := A3.size; omega))
      have HT4 := Lib.hid (isTags_keep HT3.out B4)
      have sz4 := B4.size
      have ROW4 := Lib.hid row4
      clear hown' hgrow' hnil tok row0 row4
      go_wp2_with (first
        | (at_builtin; refine wpList_append_own _ rfl _ _ 33 rfl w3.heap.size 9 i0 _ 1 16 Try.underlying33 HI0.out HZ0.out HZ1.out HZ2.out rfl (by decide) _ ks.length (ks.map Value.string) rfl (rowS_alloc ROW4.out _) ⟨w4.heap.size, 0, none⟩ 1 1 [.string ⟨#[109, 111, 114, 101]⟩] rfl rfl (cell_one_new _ _ _) ?d2 ?d3 ?d4 ?d5 ?_)
        | fail)
      case d2 => intro u hu; simp at hu; subst hu; rfl
      case d3 => unfold maxLen; omega
      case d4 => omega
      case d5 => simp; omega
      intro v' w5 hown' hgrow' hnil
      obtain ⟨g5, cap5, rfl, row5⟩ := rowS_of hown' (by first | exact hnil | exact fun e => by have := (hnil.1 e).1; cases this)
      have B5 : Below w3.heap.size (w4.alloc (.cells #[.string ⟨#[109, 111, 114, 101]⟩] 9)) w5 := (Below.refl _ _).grown hgrow' (by simp; omega) (fun j hj => by injection hj with hj; subst hj; exact (rowS_lt ROW4.out).1)
      have A5 : Below w.heap.size w w5 := Below.trans (by (repeat' (first | (with_reducible assumption) | (with_reducible exact Below.refl _ _) | (with_reducible refine bdN ?_ _) | (with_reducible refine Below.alloc ?_ ?_ _) | (with_reducible refine Below.drew ?_) | (with_reducible refine Below.setCell ?_ ?_ _) | go_size))) (B5.mono (by have := A3.size; omega))
      have HT5 := Lib.hid (show IsTags w5 (some ⟨g, 0, none⟩) l.length l from isTags_keep HT3.out ((B4.alloc (by omega) _).trans B5))
      have I5 := I.out w5 (some ⟨g5, 0, none⟩) cap5 (ks ++ [⟨#[109, 111, 114, 101]⟩]) HT5.out (rowS_is row5) (szS_snoc HS3.out (by decide)) (by simp; omega)
      rw [show (ks ++ [(⟨#[109, 111, 114, 101]⟩ : ByteArray)]).length = ks.length + 1 by simp, HM.out] at I5
      have HI5 := Lib.hid I5
      clear hown' hgrow' hnil I5 row5
      go_wp2_with fail
      refine HI5.out.mono ?_
      rintro e w6 ⟨rfl, b6⟩
      have A6 : Below w.heap.size w w6 := A5.trans (b6.mono (by have := A5.size; omega))
      go_wp2_with fail
      go_ret
      exact ⟨rfl, by (repeat' (first | (with_reducible assumption) | (with_reducible exact Below.refl _ _) | (with_reducible refine bdN ?_ _) | (with_reducible refine Below.alloc ?_ ?_ _) | (with_reducible refine Below.drew ?_) | (with_reducible refine Below.setCell ?_ ?_ _) | go_size))⟩

theorem own : ownKnob Try.prog.godebug = none := by kernel_rfl
theorem laidOut : laidOutB Try.prog = true := by kernel_rfl

set_option maxRecDepth 100000 in
theorem lifted (os : Os) (started : os.Started) (H : Type) (enc : TypeId × Value → H) :
    ReturnsInHanded {} Try.checked os 5 .any (Rows.fnTagsAllowMoreSpec.pre6 enc Try.prog Try.f5 Rows.fnTagsAllowMoreRow.domain false) (Rows.fnTagsAllowMoreSpec.post enc Try.prog Try.f5 false true false false) := by
  refine returnsInHanded_of_change (C := Try.checked) own started (by kernel_rfl) Try.func5
    (ChangeSpec.witness6 (enc := enc) (C := Try.checked) false ⟨#[], #[.slice none 0 0], []⟩ 8 (by kernel_rfl) (by kernel_rfl) (by kernel_rfl) (by kernel_rfl)) ?_
  intro W base args ds gs before hval0 hW hcnd _
  have hval : ∀ (j : Nat) t v, Try.f5.params[j]? = some t → args[j]? = some v → Value.okWide Try.prog W .any base t v := hval0
  have hW' := hW
  obtain ⟨p, q, hA0, hV, rfl, hfz, hnd⟩ := hW
  have hA : DataW.TrodAll enc Try.prog W 0 (fun _ => true) true Try.f5.params.toList args.toList ds p := hA0
  rw [Try.params5] at hA hval
  obtain ⟨v0, vs0, d0, ds0, p0, q0, hargs, rfl, rfl, h0, r0⟩ := trodAll_cons hA
  obtain ⟨rfl, rfl, rfl⟩ := trodAll_nil r0
  obtain rfl : args = #[v0] := by cases args; simp_all
  obtain ⟨rfl, rfl⟩ := trodVars_none hV
  have k0 := h0
  have lt0 : ∀ x ∈ p0, x.block < W.heap.size := by obtain ⟨m, hm⟩ := k0; exact DataW.trod_lt m _ _ _ hm
  obtain ⟨a0, len0, cap0, rfl⟩ := okWide_slice Try.underlying29 (hval 0 29 v0 rfl rfl)
  obtain ⟨z0, w0⟩ : ∃ zs, IsRow .u8 W a0 len0 cap0 zs := by
    obtain ⟨fuel, hf⟩ := h0
    rcases open_ints Try.underlying29 Try.underlying5 (by kernel_rfl) hf with ⟨hcs, _⟩ | ⟨x, l, c, zs, hcs, _, hl, hm, hz, _, hcell, hwz⟩
    · simp [Value.cells] at hcs
      obtain ⟨rfl, rfl, rfl⟩ := hcs
      exact ⟨[], .inl ⟨rfl, rfl, rfl, rfl⟩⟩
    · simp [Value.cells] at hcs
      obtain ⟨rfl, rfl, rfl⟩ := hcs
      exact ⟨zs, .inr ⟨_, rfl, hl, hm, by simpa using hz, hcell, hwz⟩⟩
  clear hA0 hval0
  refine (walk a0 len0 cap0 z0 W w0).mono fun e W' ⟨he, bel⟩ => ?_
  subst he
  exact ⟨_, rfl, _, _, _, [], _, [], hW', trodAll_mk1 (shut_bool Try.underlying4 _), (trodAll_cons_mk (Below.trod laidOut (by kernel_rfl) (of_decide_eq_true (by kernel_rfl)) k0 bel lt0) trodAll_mk0), rfl, bel.frame _, fun h => by cases h⟩

theorem proved : Rows.FnTagsAllowMoreSaid :=
  OpenClaim.holds_of_wide 5 Try.f5 rfl rfl rfl rfl rfl rfl rfl ⟨rfl, rfl, rfl, rfl, rfl⟩ rfl rfl rfl rfl rfl (by kernel_rfl) Try.func5 (by kernel_rfl)
    (of_decide_eq_true (by kernel_rfl)) (by unfold Func.isWrapper; first | (rw [if_pos (by decide +kernel)]; kernel_rfl) | (rw [if_neg (by decide +kernel)]; exact ⟨rfl, rfl⟩))
    (fun os started H enc _ => lifted os started H enc)
#print axioms proved
end Go.Proofs.Ytbgpdjceofofoaa.lawTagsAllowMore
