/- The law FnExactPeriodFrom: for every text the program's PeriodFrom gives what the reference's gives. No condition. -/
import Derived.Test.YtmdmahgplmijcaaPfF
import Derived.Test.YtmdmahgplmijcaaToPer
import Derived.ProofKit
import Derived.ChangeAlike
import Derived.OpenShut
import Derived.ShutString
import Derived.ChangeOld
namespace Go.Proofs.Ytmdmahgplmijcaa.lawExactPeriodFrom
set_option linter.unusedSimpArgs false
open Go.Proofs.Ytmdmahgplmijcaa Go.RowKit DN
open Go.ChangeShapes Go.WideShapes Go.ChangeAt
set_option linter.unusedVariables false

set_option maxRecDepth 100000 in
set_option maxHeartbeats 2000000 in
theorem walk (s : ByteArray) (w : World) (hs : s.size ≤ maxLen) : Calls Try.prog 3 #[.string s] w fun e w' => e = .returned (.bool true) ∧ Below w.heap.size w w' := by
  unfold maxLen at hs
  by_cases hlen : 1048576 < s.size
  · go_enter Try.func3, Try.ntmps3
    go_wp2
    go_ret
    exact ⟨rfl, Below.refl _ _⟩
  · obtain ⟨a, b, c, d, x, y, ok, hv⟩ : ∃ (a b c d x y : Int) (ok : Bool), outP (pfL s.data.toList) = .tuple #[.agg #[.int .i64 a, .int .i64 b, .int .i64 c, .int .i64 d, .int .i64 x, .int .i64 y], .bool ok] := by
      rcases pf_cases s.data.toList with h | ⟨a, b, c, d, x, y, h⟩
      · exact ⟨0, 0, 0, 0, 0, 0, false, by rw [h]; rfl⟩
      · exact ⟨a, b, c, d, x, y, true, by rw [h]; rfl⟩
    have I := Lib.hid (PeriodFrom_i s (by omega))
    have R := Lib.hid (PeriodFrom_s s (by omega))
    rw [hv] at I R
    clear hv
    go_enter Try.func3, Try.ntmps3
    go_wp2_with fail
    refine (R.out _).mono ?_
    rintro e w1 ⟨rfl, bw1⟩
    have sw1 := bw1.size
    (try simp at sw1)
    have Aw1 : Below w.heap.size w w1 := Below.trans (by (repeat' (first | (with_reducible assumption) | (with_reducible exact Below.refl _ _) | (with_reducible refine bdN ?_ _) | (with_reducible refine Below.alloc ?_ ?_ _) | (with_reducible refine Below.drew ?_) | (with_reducible refine Below.setCell ?_ ?_ _) | go_size))) (bw1.mono (by go_size))
    clear bw1
    go_wp2_with fail
    refine (I.out _).mono ?_
    rintro e w2 ⟨rfl, bw2⟩
    have sw2 := bw2.size
    (try simp at sw2)
    have Aw2 : Below w.heap.size w w2 := Below.trans (by (repeat' (first | (with_reducible assumption) | (with_reducible exact Below.refl _ _) | (with_reducible refine bdN ?_ _) | (with_reducible refine Below.alloc ?_ ?_ _) | (with_reducible refine Below.drew ?_) | (with_reducible refine Below.setCell ?_ ?_ _) | go_size))) (bw2.mono (by go_size))
    have lw2_0 : w1.heap.size < w2.heap.size := (by go_size)
    have zw2_w1H : CellsAt w2 (w1.heap.size) 0 [.int .i64 a, .int .i64 b, .int .i64 c, .int .i64 d, .int .i64 x, .int .i64 y] := cells_keep (by (simp only [CellsAt]; (first | (go_simp; done) | ((repeat' (with_reducible refine And.intro ?_ ?_)) <;> (repeat' (first | (with_reducible assumption) | (with_reducible exact trivial) | (with_reducible refine kA _ ?_) | (with_reducible refine kD ?_) | (with_reducible refine kS _ ?_ ?_) | (with_reducible refine fA _ ?_ ?_) | (with_reducible refine fD ?_) | (with_reducible refine fS _ ?_) | go_size | (go_simp; done))))))) (fun o => bw2.cell (p := ⟨_, o, none⟩) (by go_size)) (fun o => bw2.frozen (p := ⟨_, o, none⟩) (by go_size))
    simp only [CellsAt] at zw2_w1H
    clear bw2
    go_wp2_with fail
    refine (eqPer_same _ _ _ _ _ _ _).mono ?_
    rintro e w3 ⟨rfl, bw3⟩
    have sw3 := bw3.size
    (try simp at sw3)
    have Aw3 : Below w.heap.size w w3 := Below.trans (by (repeat' (first | (with_reducible assumption) | (with_reducible exact Below.refl _ _) | (with_reducible refine bdN ?_ _) | (with_reducible refine Below.alloc ?_ ?_ _) | (with_reducible refine Below.drew ?_) | (with_reducible refine Below.setCell ?_ ?_ _) | go_size))) (bw3.mono (by go_size))
    have lw3_0 : w1.heap.size < w3.heap.size := (by go_size)
    have zw3_w1H : CellsAt w3 (w1.heap.size) 0 [.int .i64 a, .int .i64 b, .int .i64 c, .int .i64 d, .int .i64 x, .int .i64 y] := cells_keep (by (simp only [CellsAt]; (first | (go_simp; done) | ((repeat' (with_reducible refine And.intro ?_ ?_)) <;> (repeat' (first | (with_reducible assumption) | (with_reducible exact trivial) | (with_reducible refine kA _ ?_) | (with_reducible refine kD ?_) | (with_reducible refine kS _ ?_ ?_) | (with_reducible refine fA _ ?_ ?_) | (with_reducible refine fD ?_) | (with_reducible refine fS _ ?_) | go_size | (go_simp; done))))))) (fun o => bw3.cell (p := ⟨_, o, none⟩) (by go_size)) (fun o => bw3.frozen (p := ⟨_, o, none⟩) (by go_size))
    have lw3_1 : w2.heap.size < w3.heap.size := (by go_size)
    have zw3_w2H : CellsAt w3 (w2.heap.size) 0 [.int .i64 a, .int .i64 b, .int .i64 c, .int .i64 d, .int .i64 x, .int .i64 y] := cells_keep (by (simp only [CellsAt]; (first | (go_simp; done) | ((repeat' (with_reducible refine And.intro ?_ ?_)) <;> (repeat' (first | (with_reducible assumption) | (with_reducible exact trivial) | (with_reducible refine kA _ ?_) | (with_reducible refine kD ?_) | (with_reducible refine kS _ ?_ ?_) | (with_reducible refine fA _ ?_ ?_) | (with_reducible refine fD ?_) | (with_reducible refine fS _ ?_) | go_size | (go_simp; done))))))) (fun o => bw3.cell (p := ⟨_, o, none⟩) (by go_size)) (fun o => bw3.frozen (p := ⟨_, o, none⟩) (by go_size))
    simp only [CellsAt] at zw3_w1H
    simp only [CellsAt] at zw3_w2H
    clear zw2_w1H
    clear bw3
    cases ok
    all_goals
      go_wp2_with fail
      go_ret
      exact ⟨rfl, by (repeat' (first | (with_reducible assumption) | (with_reducible exact Below.refl _ _) | (with_reducible refine bdN ?_ _) | (with_reducible refine Below.alloc ?_ ?_ _) | (with_reducible refine Below.drew ?_) | (with_reducible refine Below.setCell ?_ ?_ _) | go_size))⟩

theorem own : ownKnob Try.prog.godebug = none := by kernel_rfl
theorem laidOut : laidOutB Try.prog = true := by kernel_rfl

set_option maxRecDepth 100000 in
theorem lifted (os : Os) (started : os.Started) (H : Type) (enc : TypeId × Value → H) :
    ReturnsInHanded {} Try.checked os 3 .any (Rows.fnExactPeriodFromSpec.pre6 enc Try.prog Try.f3 Rows.fnExactPeriodFromRow.domain false) (Rows.fnExactPeriodFromSpec.post enc Try.prog Try.f3 false true false false) := by
  refine returnsInHanded_of_change (C := Try.checked) own started (by kernel_rfl) Try.func3
    (ChangeSpec.witness6 (enc := enc) (C := Try.checked) false ⟨#[], #[.string ⟨#[]⟩], []⟩ 8 (by kernel_rfl) (by kernel_rfl) (by kernel_rfl) (by kernel_rfl)) ?_
  intro W base args ds gs before hval0 hW hcnd _
  have hval : ∀ (j : Nat) t v, Try.f3.params[j]? = some t → args[j]? = some v → Value.okWide Try.prog W .any base t v := hval0
  have hW' := hW
  obtain ⟨p, q, hA0, hV, rfl, hfz, hnd⟩ := hW
  have hA : DataW.TrodAll enc Try.prog W 0 (fun _ => true) true Try.f3.params.toList args.toList ds p := hA0
  rw [Try.params3] at hA hval
  obtain ⟨v0, vs0, d0, ds0, p0, q0, hargs, rfl, rfl, h0, r0⟩ := trodAll_cons hA
  obtain ⟨rfl, rfl, rfl⟩ := trodAll_nil r0
  obtain rfl : args = #[v0] := by cases args; simp_all
  obtain ⟨rfl, rfl⟩ := trodVars_none hV
  have k0 := h0
  have lt0 : ∀ x ∈ p0, x.block < W.heap.size := by obtain ⟨m, hm⟩ := k0; exact DataW.trod_lt m _ _ _ hm
  obtain ⟨a0, rfl, rfl, rfl, ws0⟩ := Go.ChangeMaps.open_string Try.underlying9 (hval 0 9 v0 rfl rfl) h0
  clear hA0 hval0
  refine (walk a0 W ws0).mono fun e W' ⟨he, bel⟩ => ?_
  subst he
  exact ⟨_, rfl, _, _, _, [], _, [], hW', trodAll_mk1 (shut_bool Try.underlying4 _), (trodAll_cons_mk (Below.trod laidOut (by kernel_rfl) (of_decide_eq_true (by kernel_rfl)) k0 bel lt0) trodAll_mk0), rfl, bel.frame _, fun h => by cases h⟩

theorem proved : Rows.FnExactPeriodFromSaid :=
  OpenClaim.holds_of_wide 3 Try.f3 rfl rfl rfl rfl rfl rfl rfl ⟨rfl, rfl, rfl, rfl, rfl⟩ rfl rfl rfl rfl rfl (by kernel_rfl) Try.func3 (by kernel_rfl)
    (of_decide_eq_true (by kernel_rfl)) (by unfold Func.isWrapper; first | (rw [if_pos (by decide +kernel)]; kernel_rfl) | (rw [if_neg (by decide +kernel)]; exact ⟨rfl, rfl⟩))
    (fun os started H enc _ => lifted os started H enc)
#print axioms proved
end Go.Proofs.Ytmdmahgplmijcaa.lawExactPeriodFrom
