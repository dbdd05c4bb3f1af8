/- The law FnExactTagsFrom: for every text the program's TagsFrom gives what the reference's gives, and gives it anew each time. No condition. -/
import Derived.Test.YtbgpdjceofofoaaTagFs
import Derived.Test.YtbgpdjceofofoaaMark
import Derived.ProofKit
import Derived.ChangeAlike
import Derived.OpenShut
import Derived.ShutString
import Derived.ChangeOld
namespace Go.Proofs.Ytbgpdjceofofoaa.lawExactTagsFrom
open Go.Proofs.Ytbgpdjceofofoaa Go.RowKit DN
open Go.ChangeShapes Go.WideShapes Go.ChangeAt
set_option linter.unusedVariables false
set_option linter.unusedSimpArgs false

set_option maxRecDepth 100000 in
set_option maxHeartbeats 4000000 in
theorem walk (s : ByteArray) (w : World) (hs : s.size ≤ maxLen) : Calls Try.prog 12 #[.string s] w fun e w' => e = .returned (.bool true) ∧ Below w.heap.size w w' := by
  unfold maxLen at hs
  by_cases hlen : 1048576 < s.size
  · go_enter Try.func12, Try.ntmps12
    go_wp2
    go_ret
    exact ⟨rfl, Below.refl _ _⟩
  · by_cases hex : ∃ l, tsP l ∧ rsL l = s
    · obtain ⟨l, hts, hl⟩ := hex
      have hl4 := hts.1
      have I := Lib.hid (fun w => TagsFrom_yes_i l s hts hl w)
      have R := Lib.hid (fun w => TagsFrom_yes_s l s hts hl w)
      have EQ := Lib.hid (fun (a1 a2 : Option Addr) (c1 c2 : Nat) (w : World) h1 h2 => eqTagS_same a1 a2 l.length c1 c2 l w h1 h2 (by omega))
      have MK := Lib.hid (fun (g c : Nat) (w : World) h => markTagS_any g l.length c w h hl4)
      have HD := Lib.hid (fun (g c : Nat) (w : World) h => heldTagS_any g l.length c w h hl4)
      have hq1 : ¬ (3 * (l.length : Int) + 1 < 0) := by omega
      clear hts hl
      go_enter Try.func12, Try.ntmps12
      go_wp2_with fail
      refine (R.out _).mono ?_
      rintro e w1 ⟨g0, c0, rfl, row1, b1⟩
      have HT1 := Lib.hid (rowT_is row1)
      have hg0 := (rowT_lt row1).2
      have sz1 := b1.size
      clear row1
      go_wp2_with fail
      refine (I.out _).mono ?_
      rintro e w2 ⟨g, c, rfl, row2, b2⟩
      have HI2 := Lib.hid (rowT_is row2)
      have HT2 := Lib.hid (isTags_keep HT1.out b2)
      have HM2 := Lib.hid (mk_row row2)
      have hg := (rowT_lt row2).1
      have hg2 := (rowT_lt row2).2
      have A2 : Below w.heap.size w w2 := b1.trans (b2.mono sz1)
      have sz2 := A2.size
      clear row2 b2 b1
      go_wp2_with fail
      refine (EQ.out _ _ _ _ _ HI2.out HT2.out).mono ?_
      rintro e w3 ⟨rfl, b3⟩
      have HT3 := Lib.hid (isTags_keep HT2.out b3)
      have HM3 := Lib.hid (mk_keep HM2.out b3)
      have A3 : Below w.heap.size w w3 := A2.trans (b3.mono sz2)
      have sz3 := A3.size
      clear b3 A2
      go_wp2_with fail
      refine (MK.out _ _ _ HM3.out).mono ?_
      rintro e w4 ⟨rfl, hm4, b4⟩
      have HM4 := Lib.hid hm4
      have HT4 := Lib.hid (isTags_low HT3.out (show g0 < g by omega) b4)
      have A4 : Below w.heap.size w w4 := A3.trans (b4.mono (by omega))
      have sz4 := A4.size
      clear b4 A3 hm4
      go_wp2_with fail
      refine (HD.out _ _ _ HM4.out).mono ?_
      rintro e w5 ⟨rfl, b5⟩
      have HM5 := Lib.hid (mk_keep HM4.out b5)
      have HT5 := Lib.hid (isTags_keep HT4.out b5)
      have A5 : Below w.heap.size w w5 := A4.trans (b5.mono sz4)
      have sz5 := A5.size
      clear b5 A4
      go_wp2_with fail
      refine (I.out _).mono ?_
      rintro e w6 ⟨g6, c6, rfl, row6, b6⟩
      have HI6 := Lib.hid (rowT_is row6)
      have HM6 := Lib.hid (mk_keep HM5.out b6)
      have HT6 := Lib.hid (isTags_keep HT5.out b6)
      have A6 : Below w.heap.size w w6 := A5.trans (b6.mono sz5)
      have sz6 := A6.size
      clear b6 A5 row6
      go_wp2_with fail
      refine (EQ.out _ _ _ _ _ HI6.out HT6.out).mono ?_
      rintro e w7 ⟨rfl, b7⟩
      have HM7 := Lib.hid (mk_keep HM6.out b7)
      have A7 : Below w.heap.size w w7 := A6.trans (b7.mono sz6)
      have sz7 := A7.size
      clear b7 A6
      go_wp2_with fail
      refine (HD.out _ _ _ HM7.out).mono ?_
      rintro e w8 ⟨rfl, b8⟩
      have A8 : Below w.heap.size w w8 := A7.trans (b8.mono sz7)
      clear b8 A7
      go_wp2_with fail
      go_ret
      exact ⟨rfl, by (repeat' (first | (with_reducible assumption) | (with_reducible exact Below.refl _ _) | (with_reducible refine bdN ?_ _) | (with_reducible refine Below.alloc ?_ ?_ _) | (with_reducible refine Below.drew ?_) | (with_reducible refine Below.setCell ?_ ?_ _) | go_size))⟩
    · have I := Lib.hid (fun w => TagsFrom_no_i s (by omega) hex w)
      have R := Lib.hid (fun w => TagsFrom_no_s s (by omega) hex w)
      have EQ := Lib.hid (fun (a1 a2 : Option Addr) (w : World) => eqTagS_same a1 a2 0 0 0 [] w ⟨rfl, .inl rfl⟩ ⟨rfl, .inl rfl⟩ (by omega))
      clear hex
      go_enter Try.func12, Try.ntmps12
      go_wp2_with fail
      refine (R.out _).mono ?_
      rintro e w1 ⟨⟨g, rfl⟩, b1⟩
      have sz1 := b1.size
      go_wp2_with fail
      refine (I.out _).mono ?_
      rintro e w2 ⟨rfl, b2⟩
      have A2 : Below w.heap.size w w2 := b1.trans (b2.mono sz1)
      have sz2 := A2.size
      clear b1 b2
      go_wp2_with fail
      refine (EQ.out _ _ _).mono ?_
      rintro e w3 ⟨rfl, b3⟩
      have A3 : Below w.heap.size w w3 := A2.trans (b3.mono sz2)
      have sz3 := A3.size
      clear b3 A2
      go_wp2_with fail
      refine (markTagS_nil _).mono ?_
      rintro e w' ⟨rfl, rfl⟩
      go_wp2_with fail
      refine (heldTagS_nil _).mono ?_
      rintro e w' ⟨rfl, rfl⟩
      go_wp2_with fail
      refine (I.out _).mono ?_
      rintro e w4 ⟨rfl, b4⟩
      have A4 : Below w.heap.size w w4 := A3.trans (b4.mono sz3)
      have sz4 := A4.size
      clear b4 A3
      go_wp2_with fail
      refine (EQ.out _ _ _).mono ?_
      rintro e w5 ⟨rfl, b5⟩
      have A5 : Below w.heap.size w w5 := A4.trans (b5.mono sz4)
      clear b5 A4
      go_wp2_with fail
      refine (heldTagS_nil _).mono ?_
      rintro e w' ⟨rfl, rfl⟩
      go_wp2_with fail
      go_ret
      exact ⟨rfl, by (repeat' (first | (with_reducible assumption) | (with_reducible exact Below.refl _ _) | (with_reducible refine bdN ?_ _) | (with_reducible refine Below.alloc ?_ ?_ _) | (with_reducible refine Below.drew ?_) | (with_reducible refine Below.setCell ?_ ?_ _) | go_size))⟩

theorem own : ownKnob Try.prog.godebug = none := by kernel_rfl
theorem laidOut : laidOutB Try.prog = true := by kernel_rfl

set_option maxRecDepth 100000 in
theorem lifted (os : Os) (started : os.Started) (H : Type) (enc : TypeId × Value → H) :
    ReturnsInHanded {} Try.checked os 12 .any (Rows.fnExactTagsFromSpec.pre6 enc Try.prog Try.f12 Rows.fnExactTagsFromRow.domain false) (Rows.fnExactTagsFromSpec.post enc Try.prog Try.f12 false true false false) := by
  refine returnsInHanded_of_change (C := Try.checked) own started (by kernel_rfl) Try.func12
    (ChangeSpec.witness6 (enc := enc) (C := Try.checked) false ⟨#[], #[.string ⟨#[]⟩], []⟩ 8 (by kernel_rfl) (by kernel_rfl) (by kernel_rfl) (by kernel_rfl)) ?_
  intro W base args ds gs before hval0 hW hcnd _
  have hval : ∀ (j : Nat) t v, Try.f12.params[j]? = some t → args[j]? = some v → Value.okWide Try.prog W .any base t v := hval0
  have hW' := hW
  obtain ⟨p, q, hA0, hV, rfl, hfz, hnd⟩ := hW
  have hA : DataW.TrodAll enc Try.prog W 0 (fun _ => true) true Try.f12.params.toList args.toList ds p := hA0
  rw [Try.params12] at hA hval
  obtain ⟨v0, vs0, d0, ds0, p0, q0, hargs, rfl, rfl, h0, r0⟩ := trodAll_cons hA
  obtain ⟨rfl, rfl, rfl⟩ := trodAll_nil r0
  obtain rfl : args = #[v0] := by cases args; simp_all
  obtain ⟨rfl, rfl⟩ := trodVars_none hV
  have k0 := h0
  have lt0 : ∀ x ∈ p0, x.block < W.heap.size := by obtain ⟨m, hm⟩ := k0; exact DataW.trod_lt m _ _ _ hm
  obtain ⟨a0, rfl, rfl, rfl, ws0⟩ := Go.ChangeMaps.open_string Try.underlying9 (hval 0 9 v0 rfl rfl) h0
  clear hA0 hval0
  refine (walk a0 W ws0).mono fun e W' ⟨he, bel⟩ => ?_
  subst he
  exact ⟨_, rfl, _, _, _, [], _, [], hW', trodAll_mk1 (shut_bool Try.underlying4 _), (trodAll_cons_mk (Below.trod laidOut (by kernel_rfl) (of_decide_eq_true (by kernel_rfl)) k0 bel lt0) trodAll_mk0), rfl, bel.frame _, fun h => by cases h⟩

theorem proved : Rows.FnExactTagsFromSaid :=
  OpenClaim.holds_of_wide 12 Try.f12 rfl rfl rfl rfl rfl rfl rfl ⟨rfl, rfl, rfl, rfl, rfl⟩ rfl rfl rfl rfl rfl (by kernel_rfl) Try.func12 (by kernel_rfl)
    (of_decide_eq_true (by kernel_rfl)) (by unfold Func.isWrapper; first | (rw [if_pos (by decide +kernel)]; kernel_rfl) | (rw [if_neg (by decide +kernel)]; exact ⟨rfl, rfl⟩))
    (fun os started H enc _ => lifted os started H enc)
#print axioms proved
end Go.Proofs.Ytbgpdjceofofoaa.lawExactTagsFrom
