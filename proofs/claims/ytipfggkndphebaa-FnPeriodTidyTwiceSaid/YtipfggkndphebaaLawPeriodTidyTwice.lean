/- The law FnPeriodTidyTwice: tidying a drawn period twice is tidying it once. For every input. No condition. -/
import Derived.Test.YtipfggkndphebaaTidy
import Derived.Test.YtipfggkndphebaaDrawPer
import Derived.ProofKit
import Derived.ChangeAlike
import Derived.OpenShut
import Derived.ShutString
import Derived.ChangeOld
namespace Go.Proofs.Ytipfggkndphebaa.lawPeriodTidyTwice
open Go.Proofs.Ytipfggkndphebaa Go.RowKit
open Go.ChangeShapes Go.WideShapes Go.ChangeAt
set_option linter.unusedVariables false

theorem again {y o d u i s Y O D U I S : Int} (h : pvB y o d u i s = true) (hv : pvB Y O D U I S = true) (e1 : Y = tY y o) (e2 : O = tO o) (e3 : D = tD d u i s) (e4 : U = tU u i s) (e5 : I = tI u i s) (e6 : S = tS s) :
    TidyIs Y O D U I S Y O D U I S true := by
  obtain ⟨⟨a1, a2⟩, ⟨b1, b2⟩, ⟨c1, c2⟩, ⟨d1, d2⟩, ⟨f1, f2⟩, ⟨g1, g2⟩⟩ := pvB_iff.1 h
  have q1 : tY Y O = Y := by subst e1 e2; unfold tY tO; omega
  have q2 : tO O = O := by subst e2; unfold tO; omega
  have q3 : tD D U I S = D := by subst e3 e4 e5 e6; unfold tD tU tI tS tSec; omega
  have q4 : tU U I S = U := by subst e4 e5 e6; unfold tU tI tS tSec; omega
  have q5 : tI U I S = I := by subst e4 e5 e6; unfold tU tI tS tSec; omega
  have q6 : tS S = S := by subst e6; unfold tS; omega
  have t := tidy_yes hv (by unfold tvB; rw [q1, q2, q3, q4, q5, q6]; exact hv)
  rwa [q1, q2, q3, q4, q5, q6] at t

set_option maxHeartbeats 2000000 in
theorem walk (a : Option Addr) (len cap : Nat) (zs : List Int) (w : World) (h : IsRow .u8 w a len cap zs) : Calls Try.prog 7 #[.slice a len cap] w fun e w' => e = .returned (.bool true) ∧ Below w.heap.size w w' := by
  by_cases hlen : 1048576 < len
  · go_enter Try.func7, Try.ntmps7
    go_wp2
    go_ret
    exact ⟨rfl, Below.refl _ _⟩
  · have H := Lib.hid h
    clear h
    go_enter Try.func7, Try.ntmps7
    go_wp2_with fail
    refine (DrawPeriodTidy_any _ _ _ _ _ H.out).mono ?_
    rintro e w1 ⟨y, o, d, u, i, s, rfl, A1⟩
    have s1 := A1.size
    clear H
    obtain ⟨Y, O, D, U, I, S, b, p1, p2, p3⟩ := tidy_is y o d u i s
    have P1 := Lib.hid p1
    have P2 := Lib.hid p2
    have P3 := Lib.hid p3
    clear p1 p2 p3
    go_wp2_with fail
    refine (P1.out _).mono ?_
    rintro e w2 ⟨rfl, bw2⟩
    obtain ⟨hcw2, hfw2⟩ := bcell bw2
    have sw2 := bw2.size
    (try simp at sw2)
    have Aw2 : Below w.heap.size w w2 := Below.trans (by go_grown) (bw2.mono (by go_size))
    clear bw2
    have lw2_0 : w1.heap.size < w2.heap.size := by omega
    have zw2_w1H : CellsAt w2 (w1.heap.size) 0 [.int .i64 y, .int .i64 o, .int .i64 d, .int .i64 u, .int .i64 i, .int .i64 s] := cells_keep (by simp only [CellsAt]; go_simp) (fun o => hcw2 _ o (by go_size)) (fun o => hfw2 _ o (by go_size))
    simp only [CellsAt] at zw2_w1H
    clear hcw2 hfw2
    go_wp2_with fail
    refine (P2.out _).mono ?_
    rintro e w3 ⟨rfl, bw3⟩
    obtain ⟨hcw3, hfw3⟩ := bcell bw3
    have sw3 := bw3.size
    (try simp at sw3)
    have Aw3 : Below w.heap.size w w3 := Below.trans (by go_grown) (bw3.mono (by go_size))
    clear bw3
    have lw3_0 : w1.heap.size < w3.heap.size := by omega
    have lw3_1 : w2.heap.size < w3.heap.size := by omega
    have zw3_w2H : CellsAt w3 (w2.heap.size) 0 [.int .i64 Y, .int .i64 O, .int .i64 D, .int .i64 U, .int .i64 I, .int .i64 S] := cells_keep (by simp only [CellsAt]; go_simp) (fun o => hcw3 _ o (by go_size)) (fun o => hfw3 _ o (by go_size))
    simp only [CellsAt] at zw3_w2H
    clear hcw3 hfw3 zw2_w1H
    cases b
    · go_wp2_with fail
      go_ret
      exact ⟨rfl, by go_grown⟩
    · obtain ⟨v1, v2, e1, e2, e3, e4, e5, e6⟩ := P3.out rfl
      have T := Lib.hid (again v1 v2 e1 e2 e3 e4 e5 e6).1
      have V := Lib.hid (fun w => pv_impl_b Y O D U I S true v2 w)
      clear v1 v2 e1 e2 e3 e4 e5 e6 P1 P2 P3
      go_wp2_with fail
      refine (T.out _).mono ?_
      rintro e w4 ⟨rfl, bw4⟩
      obtain ⟨hcw4, hfw4⟩ := bcell bw4
      have sw4 := bw4.size
      (try simp at sw4)
      have Aw4 : Below w.heap.size w w4 := Below.trans (by go_grown) (bw4.mono (by go_size))
      clear bw4
      have lw4_0 : w1.heap.size < w4.heap.size := by omega
      have lw4_1 : w2.heap.size < w4.heap.size := by omega
      have lw4_2 : w3.heap.size < w4.heap.size := by omega
      have zw4_w2H : CellsAt w4 (w2.heap.size) 0 [.int .i64 Y, .int .i64 O, .int .i64 D, .int .i64 U, .int .i64 I, .int .i64 S] := cells_keep (by simp only [CellsAt]; go_simp) (fun o => hcw4 _ o (by go_size)) (fun o => hfw4 _ o (by go_size))
      simp only [CellsAt] at zw4_w2H
      clear hcw4 hfw4
      go_wp2_with fail
      refine (V.out _).mono ?_
      rintro e w5 ⟨rfl, bw5⟩
      obtain ⟨hcw5, hfw5⟩ := bcell bw5
      have sw5 := bw5.size
      (try simp at sw5)
      have Aw5 : Below w.heap.size w w5 := Below.trans (by go_grown) (bw5.mono (by go_size))
      clear bw5
      have lw5_0 : w1.heap.size < w5.heap.size := by omega
      have lw5_1 : w2.heap.size < w5.heap.size := by omega
      have lw5_2 : w3.heap.size < w5.heap.size := by omega
      clear hcw5 hfw5
      go_wp2_with fail
      go_ret
      exact ⟨rfl, by go_grown⟩

theorem own : ownKnob Try.prog.godebug = none := by kernel_rfl
theorem laidOut : laidOutB Try.prog = true := by kernel_rfl

set_option maxRecDepth 100000 in
theorem lifted (os : Os) (started : os.Started) (H : Type) (enc : TypeId × Value → H) :
    ReturnsInHanded {} Try.checked os 7 .any (Rows.fnPeriodTidyTwiceSpec.pre6 enc Try.prog Try.f7 Rows.fnPeriodTidyTwiceRow.domain false) (Rows.fnPeriodTidyTwiceSpec.post enc Try.prog Try.f7 false true false false) := by
  refine returnsInHanded_of_change (C := Try.checked) own started (by kernel_rfl) Try.func7
    (ChangeSpec.witness6 (enc := enc) (C := Try.checked) false ⟨#[], #[.slice none 0 0], []⟩ 8 (by kernel_rfl) (by kernel_rfl) (by kernel_rfl) (by kernel_rfl)) ?_
  intro W base args ds gs before hval0 hW hcnd _
  have hval : ∀ (j : Nat) t v, Try.f7.params[j]? = some t → args[j]? = some v → Value.okWide Try.prog W .any base t v := hval0
  have hW' := hW
  obtain ⟨p, q, hA0, hV, rfl, hfz, hnd⟩ := hW
  have hA : DataW.TrodAll enc Try.prog W 0 (fun _ => true) true Try.f7.params.toList args.toList ds p := hA0
  rw [Try.params7] at hA hval
  obtain ⟨v0, vs0, d0, ds0, p0, q0, hargs, rfl, rfl, h0, r0⟩ := trodAll_cons hA
  obtain ⟨rfl, rfl, rfl⟩ := trodAll_nil r0
  obtain rfl : args = #[v0] := by cases args; simp_all
  obtain ⟨rfl, rfl⟩ := trodVars_none hV
  have k0 := h0
  have lt0 : ∀ x ∈ p0, x.block < W.heap.size := by obtain ⟨m, hm⟩ := k0; exact DataW.trod_lt m _ _ _ hm
  obtain ⟨a0, len0, cap0, rfl⟩ := okWide_slice Try.underlying28 (hval 0 28 v0 rfl rfl)
  obtain ⟨z0, w0⟩ : ∃ zs, IsRow .u8 W a0 len0 cap0 zs := by
    obtain ⟨fuel, hf⟩ := h0
    rcases open_ints Try.underlying28 Try.underlying5 (by kernel_rfl) hf with ⟨hcs, _⟩ | ⟨x, l, c, zs, hcs, _, hl, hm, hz, _, hcell, hwz⟩
    · simp [Value.cells] at hcs
      obtain ⟨rfl, rfl, rfl⟩ := hcs
      exact ⟨[], .inl ⟨rfl, rfl, rfl, rfl⟩⟩
    · simp [Value.cells] at hcs
      obtain ⟨rfl, rfl, rfl⟩ := hcs
      exact ⟨zs, .inr ⟨_, rfl, hl, hm, by simpa using hz, hcell, hwz⟩⟩
  clear hA0 hval0
  refine (walk a0 len0 cap0 z0 W w0).mono fun e W' ⟨he, bel⟩ => ?_
  subst he
  exact ⟨_, rfl, _, _, _, [], _, [], hW', trodAll_mk1 (shut_bool Try.underlying4 _), (trodAll_cons_mk (Below.trod laidOut (by kernel_rfl) (of_decide_eq_true (by kernel_rfl)) k0 bel lt0) trodAll_mk0), rfl, bel.frame _, fun h => by cases h⟩

theorem proved : Rows.FnPeriodTidyTwiceSaid :=
  OpenClaim.holds_of_wide 7 Try.f7 rfl rfl rfl rfl rfl rfl rfl ⟨rfl, rfl, rfl, rfl, rfl⟩ rfl rfl rfl rfl rfl (by kernel_rfl) Try.func7 (by kernel_rfl)
    (of_decide_eq_true (by kernel_rfl)) (by unfold Func.isWrapper; first | (rw [if_pos (by decide +kernel)]; kernel_rfl) | (rw [if_neg (by decide +kernel)]; exact ⟨rfl, rfl⟩))
    (fun os started H enc _ => lifted os started H enc)
#print axioms proved
end Go.Proofs.Ytipfggkndphebaa.lawPeriodTidyTwice
