/- The law FnExactPeriodTidy: for every period the program's PeriodTidy gives what the reference's gives. No condition. -/
import Derived.Test.YtipfggkndphebaaTidy
import Derived.Test.YtipfggkndphebaaToPer
import Derived.Test.YtipfggkndphebaaOpen
import Derived.ProofKit
import Derived.ChangeAlike
import Derived.OpenShut
import Derived.ShutString
import Derived.ChangeOld
namespace Go.Proofs.Ytipfggkndphebaa.lawExactPeriodTidy
open Go.Proofs.Ytipfggkndphebaa Go.RowKit
open Go.ChangeShapes Go.WideShapes Go.ChangeAt
set_option linter.unusedVariables false

set_option maxHeartbeats 1000000 in
theorem walk (y o d u i s : Int) (w : World) : Calls Try.prog 5 #[.agg #[.int .i64 y, .int .i64 o, .int .i64 d, .int .i64 u, .int .i64 i, .int .i64 s]] w fun e w' => e = .returned (.bool true) ∧ Below w.heap.size w w' := by
  obtain ⟨Y, O, D, U, I, S, b, p1, p2, _⟩ := tidy_is y o d u i s
  have P1 := Lib.hid p1
  have P2 := Lib.hid p2
  clear p1 p2
  go_enter Try.func5, Try.ntmps5
  go_wp2_with fail
  refine (toPer_any _ _ _ _ _ _ _).mono ?_
  rintro e w1 ⟨rfl, bw1⟩
  obtain ⟨hcw1, hfw1⟩ := bcell bw1
  have sw1 := bw1.size
  (try simp at sw1)
  have Aw1 : Below w.heap.size w w1 := Below.trans (by go_grown) (bw1.mono (by go_size))
  clear bw1
  have lw1_0 : w.heap.size < w1.heap.size := by omega
  go_wp2_with fail
  refine (P2.out _).mono ?_
  rintro e w2 ⟨rfl, bw2⟩
  obtain ⟨hcw2, hfw2⟩ := bcell bw2
  have sw2 := bw2.size
  (try simp at sw2)
  have Aw2 : Below w.heap.size w w2 := Below.trans (by go_grown) (bw2.mono (by go_size))
  clear bw2
  have lw2_0 : w.heap.size < w2.heap.size := by omega
  go_wp2_with fail
  refine (toPer_any _ _ _ _ _ _ _).mono ?_
  rintro e w3 ⟨rfl, bw3⟩
  obtain ⟨hcw3, hfw3⟩ := bcell bw3
  have sw3 := bw3.size
  (try simp at sw3)
  have Aw3 : Below w.heap.size w w3 := Below.trans (by go_grown) (bw3.mono (by go_size))
  clear bw3
  have lw3_0 : w.heap.size < w3.heap.size := by omega
  have lw3_1 : w2.heap.size < w3.heap.size := by omega
  go_wp2_with fail
  refine (P1.out _).mono ?_
  rintro e w4 ⟨rfl, bw4⟩
  obtain ⟨hcw4, hfw4⟩ := bcell bw4
  have sw4 := bw4.size
  (try simp at sw4)
  have Aw4 : Below w.heap.size w w4 := Below.trans (by go_grown) (bw4.mono (by go_size))
  clear bw4
  have lw4_0 : w.heap.size < w4.heap.size := by omega
  have lw4_1 : w2.heap.size < w4.heap.size := by omega
  cases b
  all_goals
    go_wp2_with fail
    refine (eqPer_same _ _ _ _ _ _ _).mono ?_
    rintro e w5 ⟨rfl, bw5⟩
    obtain ⟨hcw5, hfw5⟩ := bcell bw5
    have sw5 := bw5.size
    (try simp at sw5)
    have Aw5 : Below w.heap.size w w5 := Below.trans (by go_grown) (bw5.mono (by go_size))
    clear bw5
    have lw5_0 : w.heap.size < w5.heap.size := by omega
    have lw5_1 : w2.heap.size < w5.heap.size := by omega
    go_wp2_with fail
    go_ret
    exact ⟨rfl, by go_grown⟩

theorem own : ownKnob Try.prog.godebug = none := by kernel_rfl
theorem laidOut : laidOutB Try.prog = true := by kernel_rfl

set_option maxRecDepth 100000 in
theorem lifted (os : Os) (started : os.Started) (H : Type) (enc : TypeId × Value → H) :
    ReturnsInHanded {} Try.checked os 5 .any (Rows.fnExactPeriodTidySpec.pre6 enc Try.prog Try.f5 Rows.fnExactPeriodTidyRow.domain false) (Rows.fnExactPeriodTidySpec.post enc Try.prog Try.f5 false true false false) := by
  refine returnsInHanded_of_change (C := Try.checked) own started (by kernel_rfl) Try.func5
    (ChangeSpec.witness6 (enc := enc) (C := Try.checked) false ⟨#[], #[.agg #[.int .i64 0, .int .i64 0, .int .i64 0, .int .i64 0, .int .i64 0, .int .i64 0]], []⟩ 8 (by kernel_rfl) (by kernel_rfl) (by kernel_rfl) (by kernel_rfl)) ?_
  intro W base args ds gs before hval0 hW hcnd _
  have hval : ∀ (j : Nat) t v, Try.f5.params[j]? = some t → args[j]? = some v → Value.okWide Try.prog W .any base t v := hval0
  have hW' := hW
  obtain ⟨p, q, hA0, hV, rfl, hfz, hnd⟩ := hW
  have hA : DataW.TrodAll enc Try.prog W 0 (fun _ => true) true Try.f5.params.toList args.toList ds p := hA0
  rw [Try.params5] at hA hval
  obtain ⟨v0, vs0, d0, ds0, p0, q0, hargs, rfl, rfl, h0, r0⟩ := trodAll_cons hA
  obtain ⟨rfl, rfl, rfl⟩ := trodAll_nil r0
  obtain rfl : args = #[v0] := by cases args; simp_all
  obtain ⟨rfl, rfl⟩ := trodVars_none hV
  have k0 := h0
  have lt0 : ∀ x ∈ p0, x.block < W.heap.size := by obtain ⟨m, hm⟩ := k0; exact DataW.trod_lt m _ _ _ hm
  obtain ⟨y0, o0, e0, u0, i0, s0, rfl, fy0, fo0, fe0, fu0, fi0, fs0⟩ := DN.open_per Try.underlying23 (by kernel_rfl) (by kernel_rfl) rfl (hval 0 23 v0 rfl rfl) h0
  clear hA0 hval0
  refine (walk y0 o0 e0 u0 i0 s0 W ).mono fun e W' ⟨he, bel⟩ => ?_
  subst he
  exact ⟨_, rfl, _, _, _, [], _, [], hW', trodAll_mk1 (shut_bool Try.underlying4 _), (trodAll_cons_mk (Below.trod laidOut (by kernel_rfl) (of_decide_eq_true (by kernel_rfl)) k0 bel lt0) trodAll_mk0), rfl, bel.frame _, fun h => by cases h⟩

theorem proved : Rows.FnExactPeriodTidySaid :=
  OpenClaim.holds_of_wide 5 Try.f5 rfl rfl rfl rfl rfl rfl rfl ⟨rfl, rfl, rfl, rfl, rfl⟩ rfl rfl rfl rfl rfl (by kernel_rfl) Try.func5 (by kernel_rfl)
    (of_decide_eq_true (by kernel_rfl)) (by unfold Func.isWrapper; first | (rw [if_pos (by decide +kernel)]; kernel_rfl) | (rw [if_neg (by decide +kernel)]; exact ⟨rfl, rfl⟩))
    (fun os started H enc _ => lifted os started H enc)
#print axioms proved
end Go.Proofs.Ytipfggkndphebaa.lawExactPeriodTidy
