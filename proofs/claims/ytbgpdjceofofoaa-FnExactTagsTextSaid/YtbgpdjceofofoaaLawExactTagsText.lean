/- The law FnExactTagsText: for every list of tags the program's TagsText gives what the reference's gives and leaves the list as it is. No condition. -/
import Derived.Test.YtbgpdjceofofoaaTagsT
import Derived.Test.YtbgpdjceofofoaaToTagS
import Derived.Test.YtbgpdjceofofoaaOpenTS
import Derived.ProofKit
import Derived.ChangeAlike
import Derived.OpenShut
import Derived.ShutString
import Derived.ChangeOld
namespace Go.Proofs.Ytbgpdjceofofoaa.lawExactTagsText
open Go.Proofs.Ytbgpdjceofofoaa Go.RowKit DN
open Go.ChangeShapes Go.WideShapes Go.ChangeAt
set_option linter.unusedVariables false
set_option linter.unusedSimpArgs false

set_option maxRecDepth 100000 in
set_option maxHeartbeats 4000000 in
theorem walk (a : Option Addr) (len cap : Nat) (l : List Tg) (w : World) (h : IsTags w a len l) (hsz : szT l maxLen) (hlen : len ≤ maxLen) : Calls Try.prog 9 #[.slice a len cap] w fun e w' => e = .returned (.bool true) ∧ Below w.heap.size w w' := by
  have Z := Lib.hid (szTagS_any a len cap l w h hsz hlen)
  have HT := Lib.hid h
  clear h hsz hlen
  go_enter Try.func9, Try.ntmps9
  go_wp2_with fail
  refine Z.out.mono ?_
  rintro e w1 ⟨z, hz, rfl, b1⟩
  by_cases hz0 : z < 0
  · clear hz
    go_wp2_with fail
    go_ret
    exact ⟨rfl, by (repeat' (first | (with_reducible assumption) | (with_reducible exact Below.refl _ _) | (with_reducible refine bdN ?_ _) | (with_reducible refine Below.alloc ?_ ?_ _) | (with_reducible refine Below.drew ?_) | (with_reducible refine Below.setCell ?_ ?_ _) | go_size))⟩
  · obtain ⟨_, _, hs, hn⟩ := hz.resolve_left hz0
    have HS := Lib.hid (show szT l 1099511627776 from fun i hi => ⟨by have := (hs i hi).1; omega, by have := (hs i hi).2; omega⟩)
    have TO := Lib.hid (fun w' (h' : IsTags w' a len l) => toTagS_any a len cap l w' h' hn)
    have EQ := Lib.hid (fun w' g1 g2 (h1 : IsTags w' (some ⟨g1, 0, none⟩) len l) (h2 : IsTags w' (some ⟨g2, 0, none⟩) len l) => eqTagS_same (some ⟨g1, 0, none⟩) (some ⟨g2, 0, none⟩) len len len l w' h1 h2 hn)
    have I := Lib.hid (fun w' g1 (h1 : IsTags w' (some ⟨g1, 0, none⟩) len l) => TagsText_i (some ⟨g1, 0, none⟩) len len l w' h1 HS.out hn)
    have R := Lib.hid (fun w' g1 (h1 : IsTags w' (some ⟨g1, 0, none⟩) len l) => TagsText_s (some ⟨g1, 0, none⟩) len len l w' h1 HS.out hn)
    obtain ⟨X, vb, hX⟩ : ∃ X vb, ttOut l (tsB l) = .tuple #[.string X, .bool vb] := ⟨_, _, rfl⟩
    rw [hX] at I R
    have HT1 := Lib.hid (isTags_keep HT.out b1)
    have s1 := b1.size
    clear hz hs hX
    go_wp2_with fail
    refine (TO.out _ HT1.out).mono ?_
    rintro e w2 ⟨rfl, t2, b2⟩
    have T2 := Lib.hid t2
    have HT2 := Lib.hid (isTags_keep HT1.out b2)
    have s2 := b2.size
    have A2 : Below w.heap.size w w2 := b1.trans (b2.mono s1)
    clear t2 b1 b2
    go_wp2_with fail
    refine (R.out _ _ T2.out).mono ?_
    rintro e w3 ⟨rfl, b3⟩
    have HT3 := Lib.hid (isTags_keep HT2.out b3)
    have s3 := b3.size
    have A3 : Below w.heap.size w w3 := A2.trans (b3.mono (by omega))
    clear b3 A2
    go_wp2_with fail
    refine (TO.out _ HT3.out).mono ?_
    rintro e w4 ⟨rfl, t4, b4⟩
    have T4 := Lib.hid t4
    have HT4 := Lib.hid (isTags_keep HT3.out b4)
    have s4 := b4.size
    have A4 : Below w.heap.size w w4 := A3.trans (b4.mono (by omega))
    clear t4 b4 A3
    go_wp2_with fail
    refine (I.out _ _ T4.out).mono ?_
    rintro e w5 ⟨rfl, b5⟩
    have HT5 := Lib.hid (isTags_keep HT4.out b5)
    have T5 := Lib.hid (isTags_keep T4.out b5)
    have s5 := b5.size
    have A5 : Below w.heap.size w w5 := A4.trans (b5.mono (by omega))
    clear b5 A4
    go_wp2_with fail
    refine (TO.out _ HT5.out).mono ?_
    rintro e w6 ⟨rfl, t6, b6⟩
    have T6 := Lib.hid t6
    have T6' := Lib.hid (isTags_keep T5.out b6)
    have s6 := b6.size
    have A6 : Below w.heap.size w w6 := A5.trans (b6.mono (by omega))
    clear t6 b6 A5
    go_wp2_with fail
    refine (EQ.out _ _ _ T6'.out T6.out).mono ?_
    rintro e w7 ⟨rfl, b7⟩
    have A7 : Below w.heap.size w w7 := A6.trans (b7.mono (by omega))
    go_wp2_with fail
    go_ret
    exact ⟨rfl, by (repeat' (first | (with_reducible assumption) | (with_reducible exact Below.refl _ _) | (with_reducible refine bdN ?_ _) | (with_reducible refine Below.alloc ?_ ?_ _) | (with_reducible refine Below.drew ?_) | (with_reducible refine Below.setCell ?_ ?_ _) | go_size))⟩

theorem own : ownKnob Try.prog.godebug = none := by kernel_rfl
theorem laidOut : laidOutB Try.prog = true := by kernel_rfl

set_option maxRecDepth 100000 in
theorem lifted (os : Os) (started : os.Started) (H : Type) (enc : TypeId × Value → H) :
    ReturnsInHanded {} Try.checked os 9 .any (Rows.fnExactTagsTextSpec.pre6 enc Try.prog Try.f9 Rows.fnExactTagsTextRow.domain false) (Rows.fnExactTagsTextSpec.post enc Try.prog Try.f9 false true false false) := by
  refine returnsInHanded_of_change (C := Try.checked) own started (by kernel_rfl) Try.func9
    (ChangeSpec.witness6 (enc := enc) (C := Try.checked) false ⟨#[], #[.slice none 0 0], []⟩ 8 (by kernel_rfl) (by kernel_rfl) (by kernel_rfl) (by kernel_rfl)) ?_
  intro W base args ds gs before hval0 hW hcnd _
  have hval : ∀ (j : Nat) t v, Try.f9.params[j]? = some t → args[j]? = some v → Value.okWide Try.prog W .any base t v := hval0
  have hW' := hW
  obtain ⟨p, q, hA0, hV, rfl, hfz, hnd⟩ := hW
  have hA : DataW.TrodAll enc Try.prog W 0 (fun _ => true) true Try.f9.params.toList args.toList ds p := hA0
  rw [Try.params9] at hA hval
  obtain ⟨v0, vs0, d0, ds0, p0, q0, hargs, rfl, rfl, h0, r0⟩ := trodAll_cons hA
  obtain ⟨rfl, rfl, rfl⟩ := trodAll_nil r0
  obtain rfl : args = #[v0] := by cases args; simp_all
  obtain ⟨rfl, rfl⟩ := trodVars_none hV
  have k0 := h0
  have lt0 : ∀ x ∈ p0, x.block < W.heap.size := by obtain ⟨m, hm⟩ := k0; exact DataW.trod_lt m _ _ _ hm
  obtain ⟨a0, len0, cap0, rfl⟩ := okWide_slice Try.underlying41 (hval 0 41 v0 rfl rfl)
  obtain ⟨hn0, l0, ht0, hz0⟩ : len0 ≤ maxLen ∧ ∃ l : List Tg, IsTags W a0 len0 l ∧ szT l maxLen := by
    obtain ⟨fuel, hf⟩ := h0
    exact open_tags Try.underlying41 Try.underlying23 (by kernel_rfl) (by kernel_rfl) Try.underlying9 Try.underlying9 Try.underlying4 (by simpa [Value.cells] using hf)
  clear hA0 hval0
  refine (walk a0 len0 cap0 l0 W ht0 hz0 hn0).mono fun e W' ⟨he, bel⟩ => ?_
  subst he
  exact ⟨_, rfl, _, _, _, [], _, [], hW', trodAll_mk1 (shut_bool Try.underlying4 _), (trodAll_cons_mk (Below.trod laidOut (by kernel_rfl) (of_decide_eq_true (by kernel_rfl)) k0 bel lt0) trodAll_mk0), rfl, bel.frame _, fun h => by cases h⟩

theorem proved : Rows.FnExactTagsTextSaid :=
  OpenClaim.holds_of_wide 9 Try.f9 rfl rfl rfl rfl rfl rfl rfl ⟨rfl, rfl, rfl, rfl, rfl⟩ rfl rfl rfl rfl rfl (by kernel_rfl) Try.func9 (by kernel_rfl)
    (of_decide_eq_true (by kernel_rfl)) (by unfold Func.isWrapper; first | (rw [if_pos (by decide +kernel)]; kernel_rfl) | (rw [if_neg (by decide +kernel)]; exact ⟨rfl, rfl⟩))
    (fun os started H enc _ => lifted os started H enc)
#print axioms proved
end Go.Proofs.Ytbgpdjceofofoaa.lawExactTagsText
