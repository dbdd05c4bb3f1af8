/- The law FnTagsAllow: drawn tags are allowed just where they are valid and each critical one is a zone or known. For every input. No condition. -/
import Derived.Test.YtbgpdjceofofoaaTagsT
import Derived.Test.YtbgpdjceofofoaaDrawTags
import Derived.ProofKit
import Derived.ChangeAlike
import Derived.OpenShut
import Derived.ShutString
import Derived.ChangeOld
namespace Go.Proofs.Ytbgpdjceofofoaa.lawTagsAllow
open Go.Proofs.Ytbgpdjceofofoaa Go.RowKit DN
open Go.ChangeShapes Go.WideShapes Go.ChangeAt
set_option linter.unusedVariables false
set_option linter.unusedSimpArgs false

theorem isTags_at {w : World} {g : Nat} {l : List Tg} (h : IsTags w (some ⟨g, 0, none⟩) l.length l) : ∀ i, i < l.length → w.cell? ⟨g, i * 3, none⟩ = some (.string (tgK l i)) ∧ w.cell? ⟨g, i * 3 + 1, none⟩ = some (.string (tgV l i)) ∧ w.cell? ⟨g, i * 3 + 2, none⟩ = some (.bool (tgC l i)) := by
  intro i hi
  rcases h.2 with h0 | ⟨b, off, e, hb, hc⟩
  · omega
  · injection e with e
    injection e with e1 e2
    subst e1; subst e2
    have := hc i hi
    simpa using this
theorem isStrs_at {w : World} {g : Nat} {l : List ByteArray} (h : IsStrs w (some ⟨g, 0, none⟩) l.length l) : ∀ i, i < l.length → w.cell? ⟨g, i, none⟩ = some (.string (sA l i)) := by
  intro i hi
  rcases h.2 with h0 | ⟨b, off, e, hb, hc⟩
  · omega
  · injection e with e
    injection e with e1 e2
    subst e1; subst e2
    have := hc i hi
    simpa using this
set_option maxRecDepth 100000 in
set_option maxHeartbeats 4000000 in
theorem walk (a : Option Addr) (len cap : Nat) (zs : List Int) (w : World) (h : IsRow .u8 w a len cap zs) : Calls Try.prog 11 #[.slice a len cap] w fun e w' => e = .returned (.bool true) ∧ Below w.heap.size w w' := by
  by_cases hlen : 1048576 < len
  · go_enter Try.func11, Try.ntmps11
    go_wp2
    go_ret
    exact ⟨rfl, Below.refl _ _⟩
  · have H := Lib.hid h
    clear h
    go_enter Try.func11, Try.ntmps11
    go_wp2_with fail
    refine (DrawTagsAllow_any _ _ _ _ _ H.out).mono ?_
    rintro e w1 ⟨l, g, cap1, ks, g2, cap2, ⟨⟨hs1, hs2⟩, hs3, hs4⟩, rfl, ht, hk, b1⟩
    clear H
    have HT := Lib.hid ht
    have HK := Lib.hid hk
    have HS1 := Lib.hid (show szT l 1099511627776 from fun i hi => ⟨by have := (hs1 i hi).1; omega, by have := (hs1 i hi).2; omega⟩)
    have I := Lib.hid (fun w' (h1 : IsTags w' (some ⟨g, 0, none⟩) l.length l) (h2 : IsStrs w' (some ⟨g2, 0, none⟩) ks.length ks) => TagsAllow_i (some ⟨g, 0, none⟩) l.length cap1 l (some ⟨g2, 0, none⟩) ks.length cap2 ks w' h1 HS1.out (by omega) h2 (fun i hi => by have := hs3 i hi; omega) (by omega))
    have R := Lib.hid (fun w' (h1 : IsTags w' (some ⟨g, 0, none⟩) l.length l) (h2 : IsStrs w' (some ⟨g2, 0, none⟩) ks.length ks) => TagsAllow_s (some ⟨g, 0, none⟩) l.length cap1 l (some ⟨g2, 0, none⟩) ks.length cap2 ks w' h1 HS1.out (by omega) h2 (fun i hi => by have := hs3 i hi; omega) (by omega))
    have TT := Lib.hid (fun w' (h1 : IsTags w' (some ⟨g, 0, none⟩) l.length l) => TagsText_i (some ⟨g, 0, none⟩) l.length cap1 l w' h1 HS1.out (by omega))
    obtain ⟨tb, htb⟩ : ∃ tb, taB l ks = tb := ⟨_, rfl⟩
    obtain ⟨vb, hvb⟩ : ∃ vb, tsB l = vb := ⟨_, rfl⟩
    obtain ⟨X, hX⟩ : ∃ X, ttOut l vb = .tuple #[.string X, .bool vb] := ⟨_, rfl⟩
    rw [htb] at I R
    rw [hvb, hX] at TT
    have HTB := Lib.hid htb
    have HVB := Lib.hid hvb
    clear hs1 hs3 ht hk htb hvb hX
    have sz1 := b1.size
    go_wp2_with fail
    refine (I.out _ HT.out HK.out).mono ?_
    rintro e w2 ⟨rfl, b2⟩
    have HT2 := Lib.hid (isTags_keep HT.out b2)
    have HK2 := Lib.hid (isStrs_keep HK.out b2)
    have A2 : Below w.heap.size w w2 := b1.trans (b2.mono sz1)
    have sz2 := b2.size
    clear b1 b2
    go_wp2_with fail
    refine (R.out _ HT2.out HK2.out).mono ?_
    rintro e w3 ⟨rfl, b3⟩
    have HT3 := Lib.hid (isTags_keep HT2.out b3)
    have HK3 := Lib.hid (isStrs_keep HK2.out b3)
    have A3 : Below w.heap.size w w3 := A2.trans (b3.mono (by omega))
    have sz3 := b3.size
    clear b3 A2
    go_wp2_with fail
    refine (TT.out _ HT3.out).mono ?_
    rintro e w4 ⟨rfl, b4⟩
    have HC := Lib.hid (isTags_at (isTags_keep HT3.out b4))
    have HD := Lib.hid (isStrs_at (isStrs_keep HK3.out b4))
    have A4 : Below w.heap.size w w4 := A3.trans (b4.mono (by omega))
    clear b4 A3
    go_wp2_with fail
    go_loopg [9, 10] l.length (fun g1 av i wr => ∃ (k nq : Nat) (ab : Bool), g1 = l.length - k ∧ k ≤ l.length ∧ i = .int .i64 k ∧ av = .bool ab ∧ (ab = true ↔ tsP l ∧ ∀ j, j < k → okA l ks j) ∧ wr = w4.drewN nq)
    case atStart => exact ⟨0, 0, vb, rfl, Nat.zero_le _, rfl, rfl, ⟨fun h => ⟨ts_iff.1 (HVB.out.trans h), fun j hj => by omega⟩, fun h => HVB.out.symm.trans (ts_iff.2 h.1)⟩, rfl⟩
    case round =>
      obtain ⟨k, nq, ab, rfl, hk, rfl, rfl, hab, rfl⟩ := hrel
      have HAB := Lib.hid hab
      clear hab
      by_cases hkl : k < l.length
      · obtain ⟨x1, _, x3⟩ := HC.out k hkl
        obtain ⟨kk, hkk⟩ : ∃ kk, tgK l k = kk := ⟨_, rfl⟩
        obtain ⟨cc, hcc⟩ : ∃ cc, tgC l k = cc := ⟨_, rfl⟩
        rw [hkk] at x1
        rw [hcc] at x3
        have hokk : okA l ks k ↔ (cc = true → ¬ kk.toList = [] → ∃ j, j < ks.length ∧ sA ks j = kk) := by unfold okA; rw [hkk, hcc]
        have HOKK := Lib.hid hokk
        obtain ⟨eb, heb⟩ : ∃ eb, kk.toList.isEmpty = eb := ⟨_, rfl⟩
        have HEB := Lib.hid heb
        clear hkk hcc hokk
        obtain ⟨sb, hsb⟩ : ∃ sb, (!cc || eb) = sb := ⟨_, rfl⟩
        have HSB := Lib.hid hsb
        clear hsb
        go_upto_region 13 with fail
        go_cut [11] (fun c wx => c = .bool sb ∧ ∃ nq1, wx = w4.drewN nq1)
        case first =>
          cases cc <;> cases eb
          all_goals
            go_wp2_with fail
            go_meet
            exact ⟨by rw [← HSB.out]; rfl, _, rfl⟩
        case rest =>
        obtain ⟨rfl, nq1, rfl⟩ := hcut
        clear x3
        go_wp2_with fail
        go_loopg [11, 12] ks.length (fun g2 sv jv wx => ∃ (j nq2 : Nat) (b3 : Bool), g2 = ks.length - j ∧ j ≤ ks.length ∧ jv = .int .i64 j ∧ sv = .bool b3 ∧ (b3 = true ↔ (sb = true ∨ ∃ i, i < j ∧ sA ks i = kk)) ∧ wx = w4.drewN nq2)
        case atStart => exact ⟨0, nq1, sb, rfl, Nat.zero_le _, rfl, rfl, ⟨fun h => .inl h, fun h => h.resolve_right (by rintro ⟨i, hi, _⟩; omega)⟩, rfl⟩
        case round =>
          obtain ⟨j, nq2, b3, rfl, hj, rfl, rfl, hb3, rfl⟩ := hrel
          have HB3 := Lib.hid hb3
          clear hb3
          by_cases hjk : j < ks.length
          · have u1 := HD.out j hjk
            obtain ⟨kj, hkj⟩ : ∃ kj, sA ks j = kj := ⟨_, rfl⟩
            rw [hkj] at u1
            have HKJ := Lib.hid hkj
            clear hkj
            have hnew : ∀ x : Bool, (x = true ↔ kj = kk) → ((b3 || x) = true ↔ (sb = true ∨ ∃ i, i < j + 1 ∧ sA ks i = kk)) := by
              intro x hx
              rw [Bool.or_eq_true, HB3.out, hx]
              constructor
              · rintro ((h | ⟨i, h1, h2⟩) | h)
                · exact .inl h
                · exact .inr ⟨i, by omega, h2⟩
                · exact .inr ⟨j, by omega, by rw [HKJ.out]; exact h⟩
              · rintro (h | ⟨i, h1, h2⟩)
                · exact .inl (.inl h)
                · by_cases x : i = j
                  · subst x; rw [HKJ.out] at h2; exact .inr h2
                  · exact .inl (.inr ⟨i, by omega, h2⟩)
            have HNEW := Lib.hid hnew
            clear hnew
            cases b3
            · by_cases e : kj = kk
              · subst e
                have HN1 := Lib.hid (HNEW.out true (by simp))
                go_wp2_with fail
                go_quiet (fail)
                go_wp2_with fail
                go_roundg (ks.length - (j + 1))
                case measure => omega
                case rel => exact ⟨j + 1, _, true, rfl, by omega, by go_num, rfl, HN1.out, by first | rfl | (simp only [World.drewN_drewN]; rfl)⟩
              · have e2 : (kj.toList == kk.toList) = false := byt_ne e
                have HN1 := Lib.hid (HNEW.out false (by simpa using e))
                clear e
                go_wp2_with fail
                go_quiet (fail)
                go_wp2_with fail
                go_roundg (ks.length - (j + 1))
                case measure => omega
                case rel => exact ⟨j + 1, _, false, rfl, by omega, by go_num, rfl, HN1.out, by first | rfl | (simp only [World.drewN_drewN]; rfl)⟩
            · have HN1 := Lib.hid (show (true = true ↔ (sb = true ∨ ∃ i, i < j + 1 ∧ sA ks i = kk)) from by
                rcases Classical.em (kj = kk) with e | e
                · exact HNEW.out true (by simpa using e)
                · exact HNEW.out false (by simpa using e))
              go_wp2_with fail
              go_quiet (fail)
              go_wp2_with fail
              go_roundg (ks.length - (j + 1))
              case measure => omega
              case rel => exact ⟨j + 1, _, true, rfl, by omega, by go_num, rfl, ⟨fun _ => HN1.out.1 (by trivial), fun _ => rfl⟩, by first | rfl | (simp only [World.drewN_drewN]; rfl)⟩
          · obtain rfl : j = ks.length := by omega
            have hkn : b3 = true ↔ okA l ks k := by
              rw [HB3.out, HOKK.out, ← HSB.out]
              constructor
              · rintro (h | ⟨i, h1, h2⟩) hc he
                · rw [hc, ← HEB.out] at h
                  exact absurd (by simpa using h) he
                · exact ⟨i, h1, h2⟩
              · intro h
                by_cases hc : cc = true
                · by_cases he : kk.toList = []
                  · exact .inl (by rw [← HEB.out, he]; simp)
                  · obtain ⟨i, h1, h2⟩ := h hc he
                    exact .inr ⟨i, h1, h2⟩
                · exact .inl (by rw [Bool.not_eq_true] at hc; rw [hc]; rfl)
            have hall : (ab && b3) = true ↔ tsP l ∧ ∀ j, j < k + 1 → okA l ks j := by
              rw [Bool.and_eq_true, HAB.out, hkn]
              constructor
              · rintro ⟨⟨h1, h2⟩, h3⟩
                refine ⟨h1, fun i hi => ?_⟩
                by_cases x : i = k
                · subst x; exact h3
                · exact h2 i (by omega)
              · rintro ⟨h1, h2⟩
                exact ⟨⟨h1, fun i hi => h2 i (by omega)⟩, h2 k (by omega)⟩
            have HALL := Lib.hid hall
            clear hkn hall
            cases ab
            all_goals
              have HA2 := Lib.hid HALL.out
              clear HALL
              go_wp2_with fail
              go_roundg (l.length - (k + 1))
              case measure => omega
              case rel => exact ⟨k + 1, _, _, rfl, by omega, by go_num, rfl, by simpa using HA2.out, rfl⟩
      · obtain rfl : k = l.length := by omega
        have hfin : tb = ab := by
          have e1 : tb = true ↔ taP l ks := by rw [← HTB.out]; exact ta_iff
          have e2 : tb = true ↔ ab = true := e1.trans HAB.out.symm
          cases tb <;> cases ab
          · rfl
          · exact absurd (e2.2 rfl) Bool.false_ne_true
          · exact absurd (e2.1 rfl) Bool.false_ne_true
          · rfl
        subst hfin
        cases tb
        all_goals
          go_wp2_with fail
          go_ret
          exact ⟨rfl, by (repeat' (first | (with_reducible assumption) | (with_reducible exact Below.refl _ _) | (with_reducible refine bdN ?_ _) | (with_reducible refine Below.alloc ?_ ?_ _) | (with_reducible refine Below.drew ?_) | (with_reducible refine Below.setCell ?_ ?_ _) | go_size))⟩

theorem own : ownKnob Try.prog.godebug = none := by kernel_rfl
theorem laidOut : laidOutB Try.prog = true := by kernel_rfl

set_option maxRecDepth 100000 in
theorem lifted (os : Os) (started : os.Started) (H : Type) (enc : TypeId × Value → H) :
    ReturnsInHanded {} Try.checked os 11 .any (Rows.fnTagsAllowSpec.pre6 enc Try.prog Try.f11 Rows.fnTagsAllowRow.domain false) (Rows.fnTagsAllowSpec.post enc Try.prog Try.f11 false true false false) := by
  refine returnsInHanded_of_change (C := Try.checked) own started (by kernel_rfl) Try.func11
    (ChangeSpec.witness6 (enc := enc) (C := Try.checked) false ⟨#[], #[.slice none 0 0], []⟩ 8 (by kernel_rfl) (by kernel_rfl) (by kernel_rfl) (by kernel_rfl)) ?_
  intro W base args ds gs before hval0 hW hcnd _
  have hval : ∀ (j : Nat) t v, Try.f11.params[j]? = some t → args[j]? = some v → Value.okWide Try.prog W .any base t v := hval0
  have hW' := hW
  obtain ⟨p, q, hA0, hV, rfl, hfz, hnd⟩ := hW
  have hA : DataW.TrodAll enc Try.prog W 0 (fun _ => true) true Try.f11.params.toList args.toList ds p := hA0
  rw [Try.params11] at hA hval
  obtain ⟨v0, vs0, d0, ds0, p0, q0, hargs, rfl, rfl, h0, r0⟩ := trodAll_cons hA
  obtain ⟨rfl, rfl, rfl⟩ := trodAll_nil r0
  obtain rfl : args = #[v0] := by cases args; simp_all
  obtain ⟨rfl, rfl⟩ := trodVars_none hV
  have k0 := h0
  have lt0 : ∀ x ∈ p0, x.block < W.heap.size := by obtain ⟨m, hm⟩ := k0; exact DataW.trod_lt m _ _ _ hm
  obtain ⟨a0, len0, cap0, rfl⟩ := okWide_slice Try.underlying29 (hval 0 29 v0 rfl rfl)
  obtain ⟨z0, w0⟩ : ∃ zs, IsRow .u8 W a0 len0 cap0 zs := by
    obtain ⟨fuel, hf⟩ := h0
    rcases open_ints Try.underlying29 Try.underlying5 (by kernel_rfl) hf with ⟨hcs, _⟩ | ⟨x, l, c, zs, hcs, _, hl, hm, hz, _, hcell, hwz⟩
    · simp [Value.cells] at hcs
      obtain ⟨rfl, rfl, rfl⟩ := hcs
      exact ⟨[], .inl ⟨rfl, rfl, rfl, rfl⟩⟩
    · simp [Value.cells] at hcs
      obtain ⟨rfl, rfl, rfl⟩ := hcs
      exact ⟨zs, .inr ⟨_, rfl, hl, hm, by simpa using hz, hcell, hwz⟩⟩
  clear hA0 hval0
  refine (walk a0 len0 cap0 z0 W w0).mono fun e W' ⟨he, bel⟩ => ?_
  subst he
  exact ⟨_, rfl, _, _, _, [], _, [], hW', trodAll_mk1 (shut_bool Try.underlying4 _), (trodAll_cons_mk (Below.trod laidOut (by kernel_rfl) (of_decide_eq_true (by kernel_rfl)) k0 bel lt0) trodAll_mk0), rfl, bel.frame _, fun h => by cases h⟩

theorem proved : Rows.FnTagsAllowSaid :=
  OpenClaim.holds_of_wide 11 Try.f11 rfl rfl rfl rfl rfl rfl rfl ⟨rfl, rfl, rfl, rfl, rfl⟩ rfl rfl rfl rfl rfl (by kernel_rfl) Try.func11 (by kernel_rfl)
    (of_decide_eq_true (by kernel_rfl)) (by unfold Func.isWrapper; first | (rw [if_pos (by decide +kernel)]; kernel_rfl) | (rw [if_neg (by decide +kernel)]; exact ⟨rfl, rfl⟩))
    (fun os started H enc _ => lifted os started H enc)
#print axioms proved
end Go.Proofs.Ytbgpdjceofofoaa.lawTagsAllow
