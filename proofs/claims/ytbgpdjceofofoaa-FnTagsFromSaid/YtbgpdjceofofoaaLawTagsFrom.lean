/- The law FnTagsFrom: tags that are read out of a drawn text are valid, and their text is that text; the program reads as the reference does. For every input. No condition. -/
import Derived.Test.YtbgpdjceofofoaaTagFs
import Derived.Test.YtbgpdjceofofoaaSameT
import Derived.Test.YtbgpdjceofofoaaDrawTF
import Derived.ProofKit
import Derived.ChangeAlike
import Derived.OpenShut
import Derived.ShutString
import Derived.ChangeOld
namespace Go.Proofs.Ytbgpdjceofofoaa.lawTagsFrom
open Go.Proofs.Ytbgpdjceofofoaa Go.RowKit DN
open Go.ChangeShapes Go.WideShapes Go.ChangeAt
set_option linter.unusedVariables false
set_option linter.unusedSimpArgs false

set_option maxRecDepth 100000 in
set_option maxHeartbeats 4000000 in
theorem walk (a : Option Addr) (len cap : Nat) (zs : List Int) (w : World) (h : IsRow .u8 w a len cap zs) : Calls Try.prog 14 #[.slice a len cap] w fun e w' => e = .returned (.bool true) ∧ Below w.heap.size w w' := by
  by_cases hlen : 1048576 < len
  · go_enter Try.func14, Try.ntmps14
    go_wp2
    go_ret
    exact ⟨rfl, Below.refl _ _⟩
  · have H := Lib.hid h
    clear h
    go_enter Try.func14, Try.ntmps14
    go_wp2_with fail
    refine (DrawTagsFrom_any _ _ _ _ _ H.out).mono ?_
    rintro e w1 ⟨s, hs, rfl, bw1⟩
    have sw1 := bw1.size
    (try simp at sw1)
    have Aw1 : Below w.heap.size w w1 := Below.trans (by (repeat' (first | (with_reducible assumption) | (with_reducible exact Below.refl _ _) | (with_reducible refine bdN ?_ _) | (with_reducible refine Below.alloc ?_ ?_ _) | (with_reducible refine Below.drew ?_) | (with_reducible refine Below.setCell ?_ ?_ _) | go_size))) (bw1.mono (by go_size))
    clear bw1
    clear H
    by_cases hex : ∃ l, tsP l ∧ rsL l = s
    · obtain ⟨l, hts, hl⟩ := hex
      have hl4 := hts.1
      have I := Lib.hid (fun w => TagsFrom_yes_i l s hts hl w)
      have R := Lib.hid (fun w => TagsFrom_yes_s l s hts hl w)
      have SM := Lib.hid (fun (a1 a2 : Option Addr) (c1 c2 : Nat) (w : World) h1 h2 => sameTags_same a1 a2 l.length c1 c2 l w h1 h2 (by omega))
      have TT := Lib.hid (fun (a1 : Option Addr) (c1 : Nat) w' (h1 : IsTags w' a1 l.length l) => TagsText_i a1 l.length c1 l w' h1 (szT_le (szT_ts hts) (by omega)) (by omega))
      have htt : ttOut l true = .tuple #[.string s, .bool true] := by unfold ttOut; rw [if_pos rfl, tx_all, hl]
      rw [ts_t hts, htt] at TT
      have TV := Lib.hid (fun i (hi : i < l.length) => (hts.2 i hi).1)
      clear hts hl htt
      go_wp2_with fail
      refine (I.out _).mono ?_
      rintro e w2 ⟨g, c, rfl, row2, b2⟩
      have HT2 := Lib.hid (rowT_is row2)
      have A2 : Below w.heap.size w w2 := Aw1.trans (b2.mono Aw1.size)
      have sz2 := A2.size
      clear b2 row2
      go_wp2_with fail
      refine (R.out _).mono ?_
      rintro e w3 ⟨g3, c3, rfl, row3, b3⟩
      have HT3 := Lib.hid (isTags_keep HT2.out b3)
      have HR3 := Lib.hid (rowT_is row3)
      have A3 : Below w.heap.size w w3 := A2.trans (b3.mono sz2)
      have sz3 := A3.size
      clear b3 row3 A2
      go_wp2_with fail
      refine (SM.out _ _ _ _ _ HT3.out HR3.out).mono ?_
      rintro e w4 ⟨rfl, n4, hw4⟩
      have b4 : Below w3.heap.size w3 w4 := by rw [hw4]; exact bdN (Below.refl _ _) n4
      have HT4 := Lib.hid (isTags_keep HT3.out b4)
      have A4 : Below w.heap.size w w4 := A3.trans (b4.mono sz3)
      have sz4 := A4.size
      clear b4 A3 hw4
      go_wp2_with fail
      refine (TT.out _ _ _ HT4.out).mono ?_
      rintro e w5 ⟨rfl, b5⟩
      have HT5 := Lib.hid (isTags_keep HT4.out b5)
      have A5 : Below w.heap.size w w5 := A4.trans (b5.mono sz4)
      have sz5 := A5.size
      clear b5 A4
      go_wp2_with fail
      go_loopg [10] l.length (fun gg iv wr => ∃ k : Nat, gg = l.length - k ∧ k ≤ l.length ∧ iv = .int .i64 k ∧ Below w5.heap.size w5 wr)
      case atStart => exact ⟨0, rfl, Nat.zero_le _, rfl, Below.refl _ _⟩
      case round =>
        obtain ⟨k, rfl, hk, rfl, bel⟩ := hrel
        have AR : Below w.heap.size w wr := A5.trans (bel.mono sz5)
        have szr := AR.size
        have szr2 := bel.size
        by_cases hkl : k < l.length
        · have HTR := isTags_keep HT5.out bel
          rcases HTR.2 with h0 | ⟨b, off, hab, hb, hc⟩
          · exact absurd hkl (by omega)
          · injection hab with hab
            injection hab with hab1 hab2
            subst hab1
            subst hab2
            obtain ⟨x1, x2, x3⟩ := hc k hkl
            rw [Nat.zero_add] at x1 x2 x3
            have hv := TV.out k hkl
            obtain ⟨kk, hkk⟩ : ∃ kk, tgK l k = kk := ⟨_, rfl⟩
            obtain ⟨vv, hvv⟩ : ∃ vv, tgV l k = vv := ⟨_, rfl⟩
            obtain ⟨cc, hcc⟩ : ∃ cc, tgC l k = cc := ⟨_, rfl⟩
            rw [hkk] at x1 hv
            rw [hvv] at x2 hv
            rw [hcc] at x3
            have hz := tv_size hv
            have VI := Lib.hid (fun w => TagValid_i kk vv cc (by omega) (by omega) w)
            rw [hv] at VI
            clear hc hkk hvv hcc hv
            go_wp2_with fail
            refine (VI.out _).mono ?_
            rintro e w6 ⟨rfl, b6⟩
            have B6 : Below w5.heap.size w5 w6 := bel.trans (b6.mono szr2)
            clear b6 bel AR x1 x2 x3
            go_wp2_with fail
            go_roundg (l.length - (k + 1))
            case measure => omega
            case rel => exact ⟨k + 1, rfl, by omega, by go_num, B6⟩
        · obtain rfl : k = l.length := by omega
          have hl4' : (l.length : Int) ≤ 4 := by omega
          go_wp2_with fail
          go_ret
          exact ⟨rfl, by (repeat' (first | (with_reducible assumption) | (with_reducible exact Below.refl _ _) | (with_reducible refine bdN ?_ _) | (with_reducible refine Below.alloc ?_ ?_ _) | (with_reducible refine Below.drew ?_) | (with_reducible refine Below.setCell ?_ ?_ _) | go_size))⟩
    · have I := Lib.hid (fun w => TagsFrom_no_i s (by omega) hex w)
      have R := Lib.hid (fun w => TagsFrom_no_s s (by omega) hex w)
      have SM := Lib.hid (fun (a1 a2 : Option Addr) (w : World) => sameTags_same a1 a2 0 0 0 [] w ⟨rfl, .inl rfl⟩ ⟨rfl, .inl rfl⟩ (by omega))
      clear hex
      go_wp2_with fail
      refine (I.out _).mono ?_
      rintro e w2 ⟨rfl, bw2⟩
      have sw2 := bw2.size
      (try simp at sw2)
      have Aw2 : Below w.heap.size w w2 := Below.trans (by (repeat' (first | (with_reducible assumption) | (with_reducible exact Below.refl _ _) | (with_reducible refine bdN ?_ _) | (with_reducible refine Below.alloc ?_ ?_ _) | (with_reducible refine Below.drew ?_) | (with_reducible refine Below.setCell ?_ ?_ _) | go_size))) (bw2.mono (by go_size))
      clear bw2
      go_wp2_with fail
      refine (R.out _).mono ?_
      rintro e w3 ⟨⟨g, rfl⟩, b3⟩
      have A3 : Below w.heap.size w w3 := Aw2.trans (b3.mono Aw2.size)
      have sz3 := A3.size
      clear b3
      go_wp2_with fail
      refine (SM.out _ _ _).mono ?_
      rintro e w4 ⟨rfl, n4, rfl⟩
      go_wp2_with fail
      refine (SM.out _ _ _).mono ?_
      rintro e w5 ⟨rfl, n5, rfl⟩
      go_wp2_with fail
      go_ret
      exact ⟨rfl, by (repeat' (first | (with_reducible assumption) | (with_reducible exact Below.refl _ _) | (with_reducible refine bdN ?_ _) | (with_reducible refine Below.alloc ?_ ?_ _) | (with_reducible refine Below.drew ?_) | (with_reducible refine Below.setCell ?_ ?_ _) | go_size))⟩

theorem own : ownKnob Try.prog.godebug = none := by kernel_rfl
theorem laidOut : laidOutB Try.prog = true := by kernel_rfl

set_option maxRecDepth 100000 in
theorem lifted (os : Os) (started : os.Started) (H : Type) (enc : TypeId × Value → H) :
    ReturnsInHanded {} Try.checked os 14 .any (Rows.fnTagsFromSpec.pre6 enc Try.prog Try.f14 Rows.fnTagsFromRow.domain false) (Rows.fnTagsFromSpec.post enc Try.prog Try.f14 false true false false) := by
  refine returnsInHanded_of_change (C := Try.checked) own started (by kernel_rfl) Try.func14
    (ChangeSpec.witness6 (enc := enc) (C := Try.checked) false ⟨#[], #[.slice none 0 0], []⟩ 8 (by kernel_rfl) (by kernel_rfl) (by kernel_rfl) (by kernel_rfl)) ?_
  intro W base args ds gs before hval0 hW hcnd _
  have hval : ∀ (j : Nat) t v, Try.f14.params[j]? = some t → args[j]? = some v → Value.okWide Try.prog W .any base t v := hval0
  have hW' := hW
  obtain ⟨p, q, hA0, hV, rfl, hfz, hnd⟩ := hW
  have hA : DataW.TrodAll enc Try.prog W 0 (fun _ => true) true Try.f14.params.toList args.toList ds p := hA0
  rw [Try.params14] at hA hval
  obtain ⟨v0, vs0, d0, ds0, p0, q0, hargs, rfl, rfl, h0, r0⟩ := trodAll_cons hA
  obtain ⟨rfl, rfl, rfl⟩ := trodAll_nil r0
  obtain rfl : args = #[v0] := by cases args; simp_all
  obtain ⟨rfl, rfl⟩ := trodVars_none hV
  have k0 := h0
  have lt0 : ∀ x ∈ p0, x.block < W.heap.size := by obtain ⟨m, hm⟩ := k0; exact DataW.trod_lt m _ _ _ hm
  obtain ⟨a0, len0, cap0, rfl⟩ := okWide_slice Try.underlying29 (hval 0 29 v0 rfl rfl)
  obtain ⟨z0, w0⟩ : ∃ zs, IsRow .u8 W a0 len0 cap0 zs := by
    obtain ⟨fuel, hf⟩ := h0
    rcases open_ints Try.underlying29 Try.underlying5 (by kernel_rfl) hf with ⟨hcs, _⟩ | ⟨x, l, c, zs, hcs, _, hl, hm, hz, _, hcell, hwz⟩
    · simp [Value.cells] at hcs
      obtain ⟨rfl, rfl, rfl⟩ := hcs
      exact ⟨[], .inl ⟨rfl, rfl, rfl, rfl⟩⟩
    · simp [Value.cells] at hcs
      obtain ⟨rfl, rfl, rfl⟩ := hcs
      exact ⟨zs, .inr ⟨_, rfl, hl, hm, by simpa using hz, hcell, hwz⟩⟩
  clear hA0 hval0
  refine (walk a0 len0 cap0 z0 W w0).mono fun e W' ⟨he, bel⟩ => ?_
  subst he
  exact ⟨_, rfl, _, _, _, [], _, [], hW', trodAll_mk1 (shut_bool Try.underlying4 _), (trodAll_cons_mk (Below.trod laidOut (by kernel_rfl) (of_decide_eq_true (by kernel_rfl)) k0 bel lt0) trodAll_mk0), rfl, bel.frame _, fun h => by cases h⟩

theorem proved : Rows.FnTagsFromSaid :=
  OpenClaim.holds_of_wide 14 Try.f14 rfl rfl rfl rfl rfl rfl rfl ⟨rfl, rfl, rfl, rfl, rfl⟩ rfl rfl rfl rfl rfl (by kernel_rfl) Try.func14 (by kernel_rfl)
    (of_decide_eq_true (by kernel_rfl)) (by unfold Func.isWrapper; first | (rw [if_pos (by decide +kernel)]; kernel_rfl) | (rw [if_neg (by decide +kernel)]; exact ⟨rfl, rfl⟩))
    (fun os started H enc _ => lifted os started H enc)
#print axioms proved
end Go.Proofs.Ytbgpdjceofofoaa.lawTagsFrom
