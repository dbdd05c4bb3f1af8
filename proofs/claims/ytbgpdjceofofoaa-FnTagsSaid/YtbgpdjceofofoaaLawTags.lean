/- The law FnTags: drawn tags that are valid are read out of their text. For every input. No condition. -/
import Derived.Test.YtbgpdjceofofoaaTagFi
import Derived.Test.YtbgpdjceofofoaaSameT
import Derived.ProofKit
import Derived.ChangeAlike
import Derived.OpenShut
import Derived.ShutString
import Derived.ChangeOld
namespace Go.Proofs.Ytbgpdjceofofoaa.lawTags
open Go.Proofs.Ytbgpdjceofofoaa Go.RowKit DN
open Go.ChangeShapes Go.WideShapes Go.ChangeAt
set_option linter.unusedVariables false
set_option linter.unusedSimpArgs false

set_option maxRecDepth 100000 in
set_option maxHeartbeats 4000000 in
theorem walk (a : Option Addr) (len cap : Nat) (zs : List Int) (w : World) (h : IsRow .u8 w a len cap zs) : Calls Try.prog 13 #[.slice a len cap] w fun e w' => e = .returned (.bool true) ∧ Below w.heap.size w w' := by
  by_cases hlen : 1048576 < len
  · go_enter Try.func13, Try.ntmps13
    go_wp2
    go_ret
    exact ⟨rfl, Below.refl _ _⟩
  · have H := Lib.hid h
    clear h
    go_enter Try.func13, Try.ntmps13
    go_wp2_with fail
    refine (DrawTagsText_cap _ _ _ _ _ H.out).mono ?_
    rintro e w1 ⟨l, g, cap1, ⟨hs1, hs2, hcap⟩, rfl, ht, b1⟩
    clear H
    have HT := Lib.hid ht
    have HS1 := Lib.hid (show szT l 1099511627776 from fun i hi => ⟨by have := (hs1 i hi).1; omega, by have := (hs1 i hi).2; omega⟩)
    have I := Lib.hid (fun w' (h1 : IsTags w' (some ⟨g, 0, none⟩) l.length l) => TagsText_i (some ⟨g, 0, none⟩) l.length cap1 l w' h1 HS1.out (by omega))
    have R := Lib.hid (fun w' (h1 : IsTags w' (some ⟨g, 0, none⟩) l.length l) => TagsText_s (some ⟨g, 0, none⟩) l.length cap1 l w' h1 HS1.out (by omega))
    by_cases hts : tsP l
    · have htt : ttOut l true = .tuple #[.string (rsL l), .bool true] := by unfold ttOut; rw [if_pos rfl, tx_all]
      rw [ts_t hts, htt] at I R
      obtain ⟨X, hX⟩ : ∃ X, rsL l = X := ⟨_, rfl⟩
      rw [hX] at I R
      have TF := Lib.hid (fun w => TagsFrom_yes_i l X hts hX w)
      have SM := Lib.hid (fun (a2 : Option Addr) (c2 : Nat) (w : World) h1 h2 => sameTags_same a2 (some ⟨g, 0, none⟩) l.length c2 cap1 l w h1 h2 (by omega))
      clear hs1 hts htt hX ht
      have sz1 := b1.size
      go_wp2_with fail
      refine (I.out _ HT.out).mono ?_
      rintro e w2 ⟨rfl, b2⟩
      have HT2 := Lib.hid (isTags_keep HT.out b2)
      have A2 : Below w.heap.size w w2 := b1.trans (b2.mono sz1)
      have sz2 := b2.size
      clear b1 b2
      go_wp2_with fail
      refine (R.out _ HT2.out).mono ?_
      rintro e w3 ⟨rfl, b3⟩
      have HT3 := Lib.hid (isTags_keep HT2.out b3)
      have A3 : Below w.heap.size w w3 := A2.trans (b3.mono (by omega))
      have sz3 := A3.size
      clear b3 A2
      go_wp2_with fail
      refine (TF.out _).mono ?_
      rintro e w4 ⟨g2, cap2, rfl, row4, b4⟩
      have HT4 := Lib.hid (isTags_keep HT3.out b4)
      have HR4 := Lib.hid (rowT_is row4)
      have A4 : Below w.heap.size w w4 := A3.trans (b4.mono sz3)
      clear b4 A3 row4
      go_wp2_with fail
      refine (SM.out _ _ _ HR4.out HT4.out).mono ?_
      rintro e w5 ⟨rfl, n5, rfl⟩
      go_wp2_with fail
      go_ret
      exact ⟨rfl, by (repeat' (first | (with_reducible assumption) | (with_reducible exact Below.refl _ _) | (with_reducible refine bdN ?_ _) | (with_reducible refine Below.alloc ?_ ?_ _) | (with_reducible refine Below.drew ?_) | (with_reducible refine Below.setCell ?_ ?_ _) | go_size))⟩
    · have htt : ttOut l false = .tuple #[.string ⟨#[]⟩, .bool false] := rfl
      rw [ts_f hts, htt] at I R
      clear hs1 hts htt ht
      have sz1 := b1.size
      go_wp2_with fail
      refine (I.out _ HT.out).mono ?_
      rintro e w2 ⟨rfl, b2⟩
      have HT2 := Lib.hid (isTags_keep HT.out b2)
      have A2 : Below w.heap.size w w2 := b1.trans (b2.mono sz1)
      have sz2 := b2.size
      clear b1 b2
      go_wp2_with fail
      refine (R.out _ HT2.out).mono ?_
      rintro e w3 ⟨rfl, b3⟩
      have A3 : Below w.heap.size w w3 := A2.trans (b3.mono (by omega))
      clear b3 A2
      go_wp2_with fail
      go_ret
      exact ⟨rfl, by (repeat' (first | (with_reducible assumption) | (with_reducible exact Below.refl _ _) | (with_reducible refine bdN ?_ _) | (with_reducible refine Below.alloc ?_ ?_ _) | (with_reducible refine Below.drew ?_) | (with_reducible refine Below.setCell ?_ ?_ _) | go_size))⟩

theorem own : ownKnob Try.prog.godebug = none := by kernel_rfl
theorem laidOut : laidOutB Try.prog = true := by kernel_rfl

set_option maxRecDepth 100000 in
theorem lifted (os : Os) (started : os.Started) (H : Type) (enc : TypeId × Value → H) :
    ReturnsInHanded {} Try.checked os 13 .any (Rows.fnTagsSpec.pre6 enc Try.prog Try.f13 Rows.fnTagsRow.domain false) (Rows.fnTagsSpec.post enc Try.prog Try.f13 false true false false) := by
  refine returnsInHanded_of_change (C := Try.checked) own started (by kernel_rfl) Try.func13
    (ChangeSpec.witness6 (enc := enc) (C := Try.checked) false ⟨#[], #[.slice none 0 0], []⟩ 8 (by kernel_rfl) (by kernel_rfl) (by kernel_rfl) (by kernel_rfl)) ?_
  intro W base args ds gs before hval0 hW hcnd _
  have hval : ∀ (j : Nat) t v, Try.f13.params[j]? = some t → args[j]? = some v → Value.okWide Try.prog W .any base t v := hval0
  have hW' := hW
  obtain ⟨p, q, hA0, hV, rfl, hfz, hnd⟩ := hW
  have hA : DataW.TrodAll enc Try.prog W 0 (fun _ => true) true Try.f13.params.toList args.toList ds p := hA0
  rw [Try.params13] at hA hval
  obtain ⟨v0, vs0, d0, ds0, p0, q0, hargs, rfl, rfl, h0, r0⟩ := trodAll_cons hA
  obtain ⟨rfl, rfl, rfl⟩ := trodAll_nil r0
  obtain rfl : args = #[v0] := by cases args; simp_all
  obtain ⟨rfl, rfl⟩ := trodVars_none hV
  have k0 := h0
  have lt0 : ∀ x ∈ p0, x.block < W.heap.size := by obtain ⟨m, hm⟩ := k0; exact DataW.trod_lt m _ _ _ hm
  obtain ⟨a0, len0, cap0, rfl⟩ := okWide_slice Try.underlying29 (hval 0 29 v0 rfl rfl)
  obtain ⟨z0, w0⟩ : ∃ zs, IsRow .u8 W a0 len0 cap0 zs := by
    obtain ⟨fuel, hf⟩ := h0
    rcases open_ints Try.underlying29 Try.underlying5 (by kernel_rfl) hf with ⟨hcs, _⟩ | ⟨x, l, c, zs, hcs, _, hl, hm, hz, _, hcell, hwz⟩
    · simp [Value.cells] at hcs
      obtain ⟨rfl, rfl, rfl⟩ := hcs
      exact ⟨[], .inl ⟨rfl, rfl, rfl, rfl⟩⟩
    · simp [Value.cells] at hcs
      obtain ⟨rfl, rfl, rfl⟩ := hcs
      exact ⟨zs, .inr ⟨_, rfl, hl, hm, by simpa using hz, hcell, hwz⟩⟩
  clear hA0 hval0
  refine (walk a0 len0 cap0 z0 W w0).mono fun e W' ⟨he, bel⟩ => ?_
  subst he
  exact ⟨_, rfl, _, _, _, [], _, [], hW', trodAll_mk1 (shut_bool Try.underlying4 _), (trodAll_cons_mk (Below.trod laidOut (by kernel_rfl) (of_decide_eq_true (by kernel_rfl)) k0 bel lt0) trodAll_mk0), rfl, bel.frame _, fun h => by cases h⟩

theorem proved : Rows.FnTagsSaid :=
  OpenClaim.holds_of_wide 13 Try.f13 rfl rfl rfl rfl rfl rfl rfl ⟨rfl, rfl, rfl, rfl, rfl⟩ rfl rfl rfl rfl rfl (by kernel_rfl) Try.func13 (by kernel_rfl)
    (of_decide_eq_true (by kernel_rfl)) (by unfold Func.isWrapper; first | (rw [if_pos (by decide +kernel)]; kernel_rfl) | (rw [if_neg (by decide +kernel)]; exact ⟨rfl, rfl⟩))
    (fun os started H enc _ => lifted os started H enc)
#print axioms proved
end Go.Proofs.Ytbgpdjceofofoaa.lawTags
