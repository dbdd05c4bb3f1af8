/- The law FnTagsKeys: in drawn tags a key comes once, and a zone first. For every input. No condition. -/
import Derived.Test.YtbgpdjceofofoaaTagsT
import Derived.Test.YtbgpdjceofofoaaDrawTags
import Derived.ProofKit
import Derived.ChangeAlike
import Derived.OpenShut
import Derived.ShutString
import Derived.ChangeOld
namespace Go.Proofs.Ytbgpdjceofofoaa.lawTagsKeys
open Go.Proofs.Ytbgpdjceofofoaa Go.RowKit DN
open Go.ChangeShapes Go.WideShapes Go.ChangeAt
set_option linter.unusedVariables false
set_option linter.unusedSimpArgs false

theorem isTags_at {w : World} {g : Nat} {l : List Tg} (h : IsTags w (some ⟨g, 0, none⟩) l.length l) : ∀ i, i < l.length → w.cell? ⟨g, i * 3, none⟩ = some (.string (tgK l i)) ∧ w.cell? ⟨g, i * 3 + 1, none⟩ = some (.string (tgV l i)) ∧ w.cell? ⟨g, i * 3 + 2, none⟩ = some (.bool (tgC l i)) := by
  intro i hi
  rcases h.2 with h0 | ⟨b, off, e, hb, hc⟩
  · omega
  · injection e with e
    injection e with e1 e2
    subst e1; subst e2
    have := hc i hi
    simpa using this
set_option maxRecDepth 100000 in
set_option maxHeartbeats 4000000 in
theorem walk (a : Option Addr) (len cap : Nat) (zs : List Int) (w : World) (h : IsRow .u8 w a len cap zs) : Calls Try.prog 6 #[.slice a len cap] w fun e w' => e = .returned (.bool true) ∧ Below w.heap.size w w' := by
  by_cases hlen : 1048576 < len
  · go_enter Try.func6, Try.ntmps6
    go_wp2
    go_ret
    exact ⟨rfl, Below.refl _ _⟩
  · have H := Lib.hid h
    clear h
    go_enter Try.func6, Try.ntmps6
    go_wp2_with fail
    refine (DrawTagsText_any _ _ _ _ _ H.out).mono ?_
    rintro e w1 ⟨l, g, cap1, ⟨hs1, hs2⟩, rfl, ht, b1⟩
    clear H
    have HT := Lib.hid ht
    have HS1 := Lib.hid (show szT l 1099511627776 from fun i hi => ⟨by have := (hs1 i hi).1; omega, by have := (hs1 i hi).2; omega⟩)
    obtain ⟨tb, htb⟩ : ∃ tb, tsB l = tb := ⟨_, rfl⟩
    have I := Lib.hid (fun w' (h1 : IsTags w' (some ⟨g, 0, none⟩) l.length l) => TagsText_i (some ⟨g, 0, none⟩) l.length cap1 l w' h1 HS1.out (by omega))
    have R := Lib.hid (fun w' (h1 : IsTags w' (some ⟨g, 0, none⟩) l.length l) => TagsText_s (some ⟨g, 0, none⟩) l.length cap1 l w' h1 HS1.out (by omega))
    obtain ⟨X, hX⟩ : ∃ X, ttOut l tb = .tuple #[.string X, .bool tb] := ⟨_, rfl⟩
    rw [htb, hX] at I R
    have HTB := Lib.hid htb
    clear hs1 ht htb hX
    have sz1 := b1.size
    go_wp2_with fail
    refine (I.out _ HT.out).mono ?_
    rintro e w2 ⟨rfl, b2⟩
    have HT2 := Lib.hid (isTags_keep HT.out b2)
    have A2 : Below w.heap.size w w2 := b1.trans (b2.mono sz1)
    have sz2 := b2.size
    clear b1 b2
    go_wp2_with fail
    refine (R.out _ HT2.out).mono ?_
    rintro e w3 ⟨rfl, b3⟩
    have HC := Lib.hid (isTags_at (isTags_keep HT2.out b3))
    have A3 : Below w.heap.size w w3 := A2.trans (b3.mono (by omega))
    clear b3 A2
    cases tb
    · go_wp2_with fail
      go_ret
      exact ⟨rfl, by (repeat' (first | (with_reducible assumption) | (with_reducible exact Below.refl _ _) | (with_reducible refine bdN ?_ _) | (with_reducible refine Below.alloc ?_ ?_ _) | (with_reducible refine Below.drew ?_) | (with_reducible refine Below.setCell ?_ ?_ _) | go_size))⟩
    · have HTS := Lib.hid (ts_iff.1 HTB.out)
      go_wp2_with fail
      go_loopg [8, 9] l.length (fun g1 i kv wr => ∃ k nq : Nat, g1 = l.length - k ∧ k ≤ l.length ∧ i = .int .i64 k ∧ wr = w3.drewN nq)
      case atStart => exact ⟨0, 0, rfl, Nat.zero_le _, rfl, rfl⟩
      case round =>
        obtain ⟨k, nq, rfl, hk, rfl, rfl⟩ := hrel
        by_cases hkl : k < l.length
        · have x1 := (HC.out k hkl).1
          have hgd := HTS.out.2 k hkl
          obtain ⟨kk, hkk⟩ : ∃ kk, tgK l k = kk := ⟨_, rfl⟩
          rw [hkk] at x1
          unfold gdT at hgd
          rw [hkk] at hgd
          obtain ⟨_, hg1, hg2⟩ := hgd
          have HG2 := Lib.hid hg2
          have hke : k = 0 ∨ (0 < k ∧ kk.toList.isEmpty = false) := by
            rcases Nat.eq_zero_or_pos k with h | h
            · exact .inl h
            · refine .inr ⟨h, ?_⟩
              cases he : kk.toList.isEmpty
              · rfl
              · exact absurd ⟨h, by simpa using he⟩ hg1
          clear hg1 hg2 hkk
          rcases hke with hk0 | ⟨hk0, he⟩
          · subst hk0
            go_wp2_with fail
            refine wp_loop_rounds 1 ?_
            rw [rounds_succ]
            go_wp2_with fail
            go_roundg (l.length - (0 + 1))
            case measure => omega
            case rel => exact ⟨0 + 1, _, rfl, by omega, by go_num, rfl⟩
          · go_wp2_with fail
            go_loopg [9] k (fun g2 jv wx => ∃ j nq2 : Nat, g2 = k - j ∧ j ≤ k ∧ jv = .int .i64 j ∧ wx = w3.drewN nq2)
            case atStart => exact ⟨0, nq, rfl, Nat.zero_le _, rfl, rfl⟩
            case round =>
              obtain ⟨j, nq2, rfl, hj, rfl, rfl⟩ := hrel
              by_cases hjk : j < k
              · have u1 := (HC.out j (by omega)).1
                obtain ⟨kj, hkj⟩ : ∃ kj, tgK l j = kj := ⟨_, rfl⟩
                rw [hkj] at u1
                have e2 : (kk.toList == kj.toList) = false := byt_ne (fun e => HG2.out j hjk (hkj.trans e.symm))
                clear hkj
                go_wp2_with fail
                go_quiet (fail)
                go_wp2_with fail
                go_roundg (k - (j + 1))
                case measure => omega
                case rel => exact ⟨j + 1, _, rfl, by omega, by go_num, by first | rfl | (simp only [World.drewN_drewN]; rfl)⟩
              · obtain rfl : j = k := by omega
                go_wp2_with fail
                go_roundg (l.length - (j + 1))
                case measure => omega
                case rel => exact ⟨j + 1, _, rfl, by omega, by go_num, by first | rfl | (simp only [World.drewN_drewN]; rfl)⟩
        · obtain rfl : k = l.length := by omega
          go_wp2_with fail
          go_ret
          exact ⟨rfl, by (repeat' (first | (with_reducible assumption) | (with_reducible exact Below.refl _ _) | (with_reducible refine bdN ?_ _) | (with_reducible refine Below.alloc ?_ ?_ _) | (with_reducible refine Below.drew ?_) | (with_reducible refine Below.setCell ?_ ?_ _) | go_size))⟩

theorem own : ownKnob Try.prog.godebug = none := by kernel_rfl
theorem laidOut : laidOutB Try.prog = true := by kernel_rfl

set_option maxRecDepth 100000 in
theorem lifted (os : Os) (started : os.Started) (H : Type) (enc : TypeId × Value → H) :
    ReturnsInHanded {} Try.checked os 6 .any (Rows.fnTagsKeysSpec.pre6 enc Try.prog Try.f6 Rows.fnTagsKeysRow.domain false) (Rows.fnTagsKeysSpec.post enc Try.prog Try.f6 false true false false) := by
  refine returnsInHanded_of_change (C := Try.checked) own started (by kernel_rfl) Try.func6
    (ChangeSpec.witness6 (enc := enc) (C := Try.checked) false ⟨#[], #[.slice none 0 0], []⟩ 8 (by kernel_rfl) (by kernel_rfl) (by kernel_rfl) (by kernel_rfl)) ?_
  intro W base args ds gs before hval0 hW hcnd _
  have hval : ∀ (j : Nat) t v, Try.f6.params[j]? = some t → args[j]? = some v → Value.okWide Try.prog W .any base t v := hval0
  have hW' := hW
  obtain ⟨p, q, hA0, hV, rfl, hfz, hnd⟩ := hW
  have hA : DataW.TrodAll enc Try.prog W 0 (fun _ => true) true Try.f6.params.toList args.toList ds p := hA0
  rw [Try.params6] at hA hval
  obtain ⟨v0, vs0, d0, ds0, p0, q0, hargs, rfl, rfl, h0, r0⟩ := trodAll_cons hA
  obtain ⟨rfl, rfl, rfl⟩ := trodAll_nil r0
  obtain rfl : args = #[v0] := by cases args; simp_all
  obtain ⟨rfl, rfl⟩ := trodVars_none hV
  have k0 := h0
  have lt0 : ∀ x ∈ p0, x.block < W.heap.size := by obtain ⟨m, hm⟩ := k0; exact DataW.trod_lt m _ _ _ hm
  obtain ⟨a0, len0, cap0, rfl⟩ := okWide_slice Try.underlying29 (hval 0 29 v0 rfl rfl)
  obtain ⟨z0, w0⟩ : ∃ zs, IsRow .u8 W a0 len0 cap0 zs := by
    obtain ⟨fuel, hf⟩ := h0
    rcases open_ints Try.underlying29 Try.underlying5 (by kernel_rfl) hf with ⟨hcs, _⟩ | ⟨x, l, c, zs, hcs, _, hl, hm, hz, _, hcell, hwz⟩
    · simp [Value.cells] at hcs
      obtain ⟨rfl, rfl, rfl⟩ := hcs
      exact ⟨[], .inl ⟨rfl, rfl, rfl, rfl⟩⟩
    · simp [Value.cells] at hcs
      obtain ⟨rfl, rfl, rfl⟩ := hcs
      exact ⟨zs, .inr ⟨_, rfl, hl, hm, by simpa using hz, hcell, hwz⟩⟩
  clear hA0 hval0
  refine (walk a0 len0 cap0 z0 W w0).mono fun e W' ⟨he, bel⟩ => ?_
  subst he
  exact ⟨_, rfl, _, _, _, [], _, [], hW', trodAll_mk1 (shut_bool Try.underlying4 _), (trodAll_cons_mk (Below.trod laidOut (by kernel_rfl) (of_decide_eq_true (by kernel_rfl)) k0 bel lt0) trodAll_mk0), rfl, bel.frame _, fun h => by cases h⟩

theorem proved : Rows.FnTagsKeysSaid :=
  OpenClaim.holds_of_wide 6 Try.f6 rfl rfl rfl rfl rfl rfl rfl ⟨rfl, rfl, rfl, rfl, rfl⟩ rfl rfl rfl rfl rfl (by kernel_rfl) Try.func6 (by kernel_rfl)
    (of_decide_eq_true (by kernel_rfl)) (by unfold Func.isWrapper; first | (rw [if_pos (by decide +kernel)]; kernel_rfl) | (rw [if_neg (by decide +kernel)]; exact ⟨rfl, rfl⟩))
    (fun os started H enc _ => lifted os started H enc)
#print axioms proved
end Go.Proofs.Ytbgpdjceofofoaa.lawTagsKeys
