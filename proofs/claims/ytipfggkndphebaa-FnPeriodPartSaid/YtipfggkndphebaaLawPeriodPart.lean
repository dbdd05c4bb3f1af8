/- The law FnPeriodPart: a drawn period has its range. For every input. No condition. -/
import Derived.Test.YtipfggkndphebaaPer
import Derived.Test.YtipfggkndphebaaDrawPer
import Derived.ProofKit
import Derived.ChangeAlike
import Derived.OpenShut
import Derived.ShutString
import Derived.ChangeOld
namespace Go.Proofs.Ytipfggkndphebaa.lawPeriodPart
open Go.Proofs.Ytipfggkndphebaa Go.RowKit
open Go.ChangeShapes Go.WideShapes Go.ChangeAt
set_option linter.unusedVariables false

theorem no_minutes (y o d u s : Int) : pvB y o d u 10000 s = false := by
  cases h : pvB y o d u 10000 s
  · rfl
  · have := pvB_iff.1 h; omega
theorem no_years (o d u i s : Int) : pvB (-1) o d u i s = false := by
  cases h : pvB (-1) o d u i s
  · rfl
  · have := pvB_iff.1 h; omega

set_option maxHeartbeats 2000000 in
theorem walk (a : Option Addr) (len cap : Nat) (zs : List Int) (w : World) (h : IsRow .u8 w a len cap zs) : Calls Try.prog 4 #[.slice a len cap] w fun e w' => e = .returned (.bool true) ∧ Below w.heap.size w w' := by
  by_cases hlen : 1048576 < len
  · go_enter Try.func4, Try.ntmps4
    go_wp2
    go_ret
    exact ⟨rfl, Below.refl _ _⟩
  · have H := Lib.hid h
    clear h
    go_enter Try.func4, Try.ntmps4
    go_wp2_with fail
    refine (DrawPeriodValid_any _ _ _ _ _ H.out).mono ?_
    rintro e w1 ⟨y, o, d, u, i, s, rfl, b1⟩
    obtain ⟨b, hb⟩ : ∃ b, b = pvB y o d u i s := ⟨_, rfl⟩
    have p1 := fun w => pv_spec y o d u i s w
    have p2 := fun w => pv_impl y o d u i s w
    have p3 := fun w => pv_impl y o d u 10000 s w
    have p4 := fun w => pv_impl (-1) o d u i s w
    rw [← hb] at p1 p2
    simp only [no_minutes] at p3
    simp only [no_years] at p4
    have P1 := Lib.hid p1
    have P2 := Lib.hid p2
    have P3 := Lib.hid p3
    have P4 := Lib.hid p4
    have A1 := b1
    have s1 := b1.size
    clear p1 p2 p3 p4 hb b1 H
    go_wp2_with fail
    refine (P2.out _).mono ?_
    rintro e w2 ⟨rfl, bw2⟩
    obtain ⟨hcw2, hfw2⟩ := bcell bw2
    have sw2 := bw2.size
    (try simp at sw2)
    have Aw2 : Below w.heap.size w w2 := Below.trans (by go_grown) (bw2.mono (by go_size))
    clear bw2
    have lw2_0 : w1.heap.size < w2.heap.size := by omega
    go_wp2_with fail
    refine (P1.out _).mono ?_
    rintro e w3 ⟨rfl, bw3⟩
    obtain ⟨hcw3, hfw3⟩ := bcell bw3
    have sw3 := bw3.size
    (try simp at sw3)
    have Aw3 : Below w.heap.size w w3 := Below.trans (by go_grown) (bw3.mono (by go_size))
    clear bw3
    have lw3_0 : w1.heap.size < w3.heap.size := by omega
    cases b
    · go_wp2_with fail
      go_ret
      exact ⟨rfl, by go_grown⟩
    · go_wp2_with fail
      refine (P3.out _).mono ?_
      rintro e w4 ⟨rfl, bw4⟩
      obtain ⟨hcw4, hfw4⟩ := bcell bw4
      have sw4 := bw4.size
      (try simp at sw4)
      have Aw4 : Below w.heap.size w w4 := Below.trans (by go_grown) (bw4.mono (by go_size))
      clear bw4
      have lw4_0 : w1.heap.size < w4.heap.size := by omega
      have lw4_1 : w3.heap.size < w4.heap.size := by omega
      go_wp2_with fail
      refine (P4.out _).mono ?_
      rintro e w5 ⟨rfl, bw5⟩
      obtain ⟨hcw5, hfw5⟩ := bcell bw5
      have sw5 := bw5.size
      (try simp at sw5)
      have Aw5 : Below w.heap.size w w5 := Below.trans (by go_grown) (bw5.mono (by go_size))
      clear bw5
      have lw5_0 : w1.heap.size < w5.heap.size := by omega
      have lw5_1 : w3.heap.size < w5.heap.size := by omega
      go_wp2_with fail
      go_ret
      exact ⟨rfl, by go_grown⟩

theorem own : ownKnob Try.prog.godebug = none := by kernel_rfl
theorem laidOut : laidOutB Try.prog = true := by kernel_rfl

set_option maxRecDepth 100000 in
theorem lifted (os : Os) (started : os.Started) (H : Type) (enc : TypeId × Value → H) :
    ReturnsInHanded {} Try.checked os 4 .any (Rows.fnPeriodPartSpec.pre6 enc Try.prog Try.f4 Rows.fnPeriodPartRow.domain false) (Rows.fnPeriodPartSpec.post enc Try.prog Try.f4 false true false false) := by
  refine returnsInHanded_of_change (C := Try.checked) own started (by kernel_rfl) Try.func4
    (ChangeSpec.witness6 (enc := enc) (C := Try.checked) false ⟨#[], #[.slice none 0 0], []⟩ 8 (by kernel_rfl) (by kernel_rfl) (by kernel_rfl) (by kernel_rfl)) ?_
  intro W base args ds gs before hval0 hW hcnd _
  have hval : ∀ (j : Nat) t v, Try.f4.params[j]? = some t → args[j]? = some v → Value.okWide Try.prog W .any base t v := hval0
  have hW' := hW
  obtain ⟨p, q, hA0, hV, rfl, hfz, hnd⟩ := hW
  have hA : DataW.TrodAll enc Try.prog W 0 (fun _ => true) true Try.f4.params.toList args.toList ds p := hA0
  rw [Try.params4] at hA hval
  obtain ⟨v0, vs0, d0, ds0, p0, q0, hargs, rfl, rfl, h0, r0⟩ := trodAll_cons hA
  obtain ⟨rfl, rfl, rfl⟩ := trodAll_nil r0
  obtain rfl : args = #[v0] := by cases args; simp_all
  obtain ⟨rfl, rfl⟩ := trodVars_none hV
  have k0 := h0
  have lt0 : ∀ x ∈ p0, x.block < W.heap.size := by obtain ⟨m, hm⟩ := k0; exact DataW.trod_lt m _ _ _ hm
  obtain ⟨a0, len0, cap0, rfl⟩ := okWide_slice Try.underlying28 (hval 0 28 v0 rfl rfl)
  obtain ⟨z0, w0⟩ : ∃ zs, IsRow .u8 W a0 len0 cap0 zs := by
    obtain ⟨fuel, hf⟩ := h0
    rcases open_ints Try.underlying28 Try.underlying5 (by kernel_rfl) hf with ⟨hcs, _⟩ | ⟨x, l, c, zs, hcs, _, hl, hm, hz, _, hcell, hwz⟩
    · simp [Value.cells] at hcs
      obtain ⟨rfl, rfl, rfl⟩ := hcs
      exact ⟨[], .inl ⟨rfl, rfl, rfl, rfl⟩⟩
    · simp [Value.cells] at hcs
      obtain ⟨rfl, rfl, rfl⟩ := hcs
      exact ⟨zs, .inr ⟨_, rfl, hl, hm, by simpa using hz, hcell, hwz⟩⟩
  clear hA0 hval0
  refine (walk a0 len0 cap0 z0 W w0).mono fun e W' ⟨he, bel⟩ => ?_
  subst he
  exact ⟨_, rfl, _, _, _, [], _, [], hW', trodAll_mk1 (shut_bool Try.underlying4 _), (trodAll_cons_mk (Below.trod laidOut (by kernel_rfl) (of_decide_eq_true (by kernel_rfl)) k0 bel lt0) trodAll_mk0), rfl, bel.frame _, fun h => by cases h⟩

theorem proved : Rows.FnPeriodPartSaid :=
  OpenClaim.holds_of_wide 4 Try.f4 rfl rfl rfl rfl rfl rfl rfl ⟨rfl, rfl, rfl, rfl, rfl⟩ rfl rfl rfl rfl rfl (by kernel_rfl) Try.func4 (by kernel_rfl)
    (of_decide_eq_true (by kernel_rfl)) (by unfold Func.isWrapper; first | (rw [if_pos (by decide +kernel)]; kernel_rfl) | (rw [if_neg (by decide +kernel)]; exact ⟨rfl, rfl⟩))
    (fun os started H enc _ => lifted os started H enc)
#print axioms proved
end Go.Proofs.Ytipfggkndphebaa.lawPeriodPart
