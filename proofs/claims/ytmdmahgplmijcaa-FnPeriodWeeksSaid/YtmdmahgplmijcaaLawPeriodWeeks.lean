/- The law FnPeriodWeeks: weeks of two digits are read as seven days each, beside a drawn text that the program reads as the reference does. For every input. No condition. -/
import Derived.Test.YtmdmahgplmijcaaPfF
import Derived.Test.YtmdmahgplmijcaaPfP
import Derived.Test.YtmdmahgplmijcaaDrawPT
import Derived.ProofKit
import Derived.ChangeAlike
import Derived.OpenShut
import Derived.ShutString
import Derived.ChangeOld
namespace Go.Proofs.Ytmdmahgplmijcaa.lawPeriodWeeks
set_option linter.unusedSimpArgs false
open Go.Proofs.Ytmdmahgplmijcaa Go.RowKit DN
open Go.ChangeShapes Go.WideShapes Go.ChangeAt
set_option linter.unusedVariables false

theorem rune_0 (w : World) : (convert 21 9 (.int .i32 (48 + ((0 : Nat) : Int)))).run Try.prog w = .ok (.string ⟨#[UInt8.ofNat (48 + 0)]⟩) w := by kernel_rfl
theorem rune_1 (w : World) : (convert 21 9 (.int .i32 (48 + ((1 : Nat) : Int)))).run Try.prog w = .ok (.string ⟨#[UInt8.ofNat (48 + 1)]⟩) w := by kernel_rfl
theorem rune_2 (w : World) : (convert 21 9 (.int .i32 (48 + ((2 : Nat) : Int)))).run Try.prog w = .ok (.string ⟨#[UInt8.ofNat (48 + 2)]⟩) w := by kernel_rfl
theorem rune_3 (w : World) : (convert 21 9 (.int .i32 (48 + ((3 : Nat) : Int)))).run Try.prog w = .ok (.string ⟨#[UInt8.ofNat (48 + 3)]⟩) w := by kernel_rfl
theorem rune_4 (w : World) : (convert 21 9 (.int .i32 (48 + ((4 : Nat) : Int)))).run Try.prog w = .ok (.string ⟨#[UInt8.ofNat (48 + 4)]⟩) w := by kernel_rfl
theorem rune_5 (w : World) : (convert 21 9 (.int .i32 (48 + ((5 : Nat) : Int)))).run Try.prog w = .ok (.string ⟨#[UInt8.ofNat (48 + 5)]⟩) w := by kernel_rfl
theorem rune_6 (w : World) : (convert 21 9 (.int .i32 (48 + ((6 : Nat) : Int)))).run Try.prog w = .ok (.string ⟨#[UInt8.ofNat (48 + 6)]⟩) w := by kernel_rfl
theorem rune_7 (w : World) : (convert 21 9 (.int .i32 (48 + ((7 : Nat) : Int)))).run Try.prog w = .ok (.string ⟨#[UInt8.ofNat (48 + 7)]⟩) w := by kernel_rfl
theorem rune_8 (w : World) : (convert 21 9 (.int .i32 (48 + ((8 : Nat) : Int)))).run Try.prog w = .ok (.string ⟨#[UInt8.ofNat (48 + 8)]⟩) w := by kernel_rfl
theorem rune_9 (w : World) : (convert 21 9 (.int .i32 (48 + ((9 : Nat) : Int)))).run Try.prog w = .ok (.string ⟨#[UInt8.ofNat (48 + 9)]⟩) w := by kernel_rfl
theorem rune_str (q : Nat) (hq : q < 10) (w : World) : (convert 21 9 (.int .i32 (48 + (q : Int)))).run Try.prog w = .ok (.string ⟨#[UInt8.ofNat (48 + q)]⟩) w := by
  have h : q = 0 ∨ q = 1 ∨ q = 2 ∨ q = 3 ∨ q = 4 ∨ q = 5 ∨ q = 6 ∨ q = 7 ∨ q = 8 ∨ q = 9 := by omega
  rcases h with rfl | rfl | rfl | rfl | rfl | rfl | rfl | rfl | rfl | rfl
  · exact rune_0 w
  · exact rune_1 w
  · exact rune_2 w
  · exact rune_3 w
  · exact rune_4 w
  · exact rune_5 w
  · exact rune_6 w
  · exact rune_7 w
  · exact rune_8 w
  · exact rune_9 w
set_option maxRecDepth 100000 in
set_option maxHeartbeats 4000000 in
theorem walk (a : Option Addr) (len cap : Nat) (zs : List Int) (a2 : Option Addr) (len2 cap2 : Nat) (zs2 : List Int) (w : World) (h : IsRow .u8 w a len cap zs) (h2 : IsRow .u8 w a2 len2 cap2 zs2) : Calls Try.prog 5 #[.slice a len cap, .slice a2 len2 cap2] w fun e w' => e = .returned (.bool true) ∧ Below w.heap.size w w' := by
  clear h2
  by_cases hlen : 1048576 < len
  · go_enter Try.func5, Try.ntmps5
    go_wp2
    go_ret
    exact ⟨rfl, Below.refl _ _⟩
  · by_cases hlen2 : 1048576 < len2
    · go_enter Try.func5, Try.ntmps5
      go_wp2
      go_ret
      exact ⟨rfl, Below.refl _ _⟩
    · have H := Lib.hid h
      clear h
      go_enter Try.func5, Try.ntmps5
      go_wp2_with fail
      refine (DrawPeriodFrom_any _ _ _ _ _ H.out).mono ?_
      rintro e w1 ⟨s, hs, rfl, bw1⟩
      have sw1 := bw1.size
      (try simp at sw1)
      have Aw1 : Below w.heap.size w w1 := Below.trans (by (repeat' (first | (with_reducible assumption) | (with_reducible exact Below.refl _ _) | (with_reducible refine bdN ?_ _) | (with_reducible refine Below.alloc ?_ ?_ _) | (with_reducible refine Below.drew ?_) | (with_reducible refine Below.setCell ?_ ?_ _) | go_size))) (bw1.mono (by go_size))
      clear bw1
      clear H
      have I := Lib.hid (PeriodFrom_i s (by omega))
      have R := Lib.hid (PeriodFrom_s s (by omega))
      rcases pf_cases s.data.toList with hv | ⟨a, b, c, d, x, y, hv⟩
      · rw [hv] at I R
        clear hv
        unfold outP at I R
        go_wp2_with fail
        refine (I.out _).mono ?_
        rintro e w2 ⟨rfl, bw2⟩
        have sw2 := bw2.size
        (try simp at sw2)
        have Aw2 : Below w.heap.size w w2 := Below.trans (by (repeat' (first | (with_reducible assumption) | (with_reducible exact Below.refl _ _) | (with_reducible refine bdN ?_ _) | (with_reducible refine Below.alloc ?_ ?_ _) | (with_reducible refine Below.drew ?_) | (with_reducible refine Below.setCell ?_ ?_ _) | go_size))) (bw2.mono (by go_size))
        clear bw2
        go_wp2_with fail
        refine (R.out _).mono ?_
        rintro e w3 ⟨rfl, bw3⟩
        have sw3 := bw3.size
        (try simp at sw3)
        have Aw3 : Below w.heap.size w w3 := Below.trans (by (repeat' (first | (with_reducible assumption) | (with_reducible exact Below.refl _ _) | (with_reducible refine bdN ?_ _) | (with_reducible refine Below.alloc ?_ ?_ _) | (with_reducible refine Below.drew ?_) | (with_reducible refine Below.setCell ?_ ?_ _) | go_size))) (bw3.mono (by go_size))
        have lw3_0 : w2.heap.size < w3.heap.size := (by go_size)
        have zw3_w2H : CellsAt w3 (w2.heap.size) 0 [.int .i64 0, .int .i64 0, .int .i64 0, .int .i64 0, .int .i64 0, .int .i64 0] := cells_keep (by (simp only [CellsAt]; (first | (go_simp; done) | ((repeat' (with_reducible refine And.intro ?_ ?_)) <;> (repeat' (first | (with_reducible assumption) | (with_reducible exact trivial) | (with_reducible refine kA _ ?_) | (with_reducible refine kD ?_) | (with_reducible refine kS _ ?_ ?_) | (with_reducible refine fA _ ?_ ?_) | (with_reducible refine fD ?_) | (with_reducible refine fS _ ?_) | go_size | (go_simp; done))))))) (fun o => bw3.cell (p := ⟨_, o, none⟩) (by go_size)) (fun o => bw3.frozen (p := ⟨_, o, none⟩) (by go_size))
        simp only [CellsAt] at zw3_w2H
        clear bw3
        go_wp2_with fail
        go_ret
        exact ⟨rfl, by (repeat' (first | (with_reducible assumption) | (with_reducible exact Below.refl _ _) | (with_reducible refine bdN ?_ _) | (with_reducible refine Below.alloc ?_ ?_ _) | (with_reducible refine Below.drew ?_) | (with_reducible refine Below.setCell ?_ ?_ _) | go_size))⟩
      · obtain ⟨n, hn, h99⟩ : ∃ n : Nat, (len2 : Int) % 99 = n ∧ n < 99 := ⟨len2 % 99, by omega, by omega⟩
        obtain ⟨q, hq⟩ : ∃ q : Nat, n / 10 = q := ⟨_, rfl⟩
        obtain ⟨p, hp⟩ : ∃ p : Nat, n % 10 = p := ⟨_, rfl⟩
        have hq1 : (n : Int) / 10 = q := by omega
        have hp1 : (n : Int) % 10 = p := by omega
        have hq9 : q < 10 := by omega
        have hp9 : p < 10 := by omega
        have cq := rune_str q hq9
        have cp := rune_str p hp9
        have W := weeks_all n h99
        rw [hq, hp] at W
        have I2 := PeriodFrom_i (⟨#[80]⟩ ++ ⟨#[UInt8.ofNat (48 + q)]⟩ ++ ⟨#[UInt8.ofNat (48 + p)]⟩ ++ ⟨#[87]⟩) (by simp only [ByteArray.size_append]; have h : ∀ u : UInt8, (⟨#[u]⟩ : ByteArray).size = 1 := fun _ => rfl; simp only [h]; omega)
        rw [show (⟨#[80]⟩ ++ ⟨#[UInt8.ofNat (48 + q)]⟩ ++ ⟨#[UInt8.ofNat (48 + p)]⟩ ++ ⟨#[87]⟩ : ByteArray).data.toList = [80, UInt8.ofNat (48 + q), UInt8.ofNat (48 + p), 87] by simp, W] at I2
        obtain ⟨u1, hu1⟩ : ∃ u, UInt8.ofNat (48 + q) = u := ⟨_, rfl⟩
        obtain ⟨u2, hu2⟩ : ∃ u, UInt8.ofNat (48 + p) = u := ⟨_, rfl⟩
        rw [hu1, hu2] at I2
        rw [hu1] at cq
        rw [hu2] at cp
        have II2 := Lib.hid I2
        have sz := fun u : UInt8 => (show (⟨#[u]⟩ : ByteArray).size = 1 from rfl)
        rw [hv] at I R
        clear hv I2 W hq hp hu1 hu2
        unfold outP at I R II2
        go_wp2_with fail
        refine (I.out _).mono ?_
        rintro e w2 ⟨rfl, bw2⟩
        have sw2 := bw2.size
        (try simp at sw2)
        have Aw2 : Below w.heap.size w w2 := Below.trans (by (repeat' (first | (with_reducible assumption) | (with_reducible exact Below.refl _ _) | (with_reducible refine bdN ?_ _) | (with_reducible refine Below.alloc ?_ ?_ _) | (with_reducible refine Below.drew ?_) | (with_reducible refine Below.setCell ?_ ?_ _) | go_size))) (bw2.mono (by go_size))
        clear bw2
        go_wp2_with fail
        refine (R.out _).mono ?_
        rintro e w3 ⟨rfl, bw3⟩
        have sw3 := bw3.size
        (try simp at sw3)
        have Aw3 : Below w.heap.size w w3 := Below.trans (by (repeat' (first | (with_reducible assumption) | (with_reducible exact Below.refl _ _) | (with_reducible refine bdN ?_ _) | (with_reducible refine Below.alloc ?_ ?_ _) | (with_reducible refine Below.drew ?_) | (with_reducible refine Below.setCell ?_ ?_ _) | go_size))) (bw3.mono (by go_size))
        have lw3_0 : w2.heap.size < w3.heap.size := (by go_size)
        have zw3_w2H : CellsAt w3 (w2.heap.size) 0 [.int .i64 a, .int .i64 b, .int .i64 c, .int .i64 d, .int .i64 x, .int .i64 y] := cells_keep (by (simp only [CellsAt]; (first | (go_simp; done) | ((repeat' (with_reducible refine And.intro ?_ ?_)) <;> (repeat' (first | (with_reducible assumption) | (with_reducible exact trivial) | (with_reducible refine kA _ ?_) | (with_reducible refine kD ?_) | (with_reducible refine kS _ ?_ ?_) | (with_reducible refine fA _ ?_ ?_) | (with_reducible refine fD ?_) | (with_reducible refine fS _ ?_) | go_size | (go_simp; done))))))) (fun o => bw3.cell (p := ⟨_, o, none⟩) (by go_size)) (fun o => bw3.frozen (p := ⟨_, o, none⟩) (by go_size))
        simp only [CellsAt] at zw3_w2H
        clear bw3
        go_wp2_with fail
        clear zw3_w2H
        refine (II2.out _).mono ?_
        rintro e w4 ⟨rfl, bw4⟩
        have sw4 := bw4.size
        (try simp at sw4)
        have Aw4 : Below w.heap.size w w4 := Below.trans (by (repeat' (first | (with_reducible assumption) | (with_reducible exact Below.refl _ _) | (with_reducible refine bdN ?_ _) | (with_reducible refine Below.alloc ?_ ?_ _) | (with_reducible refine Below.drew ?_) | (with_reducible refine Below.setCell ?_ ?_ _) | go_size))) (bw4.mono (by go_size))
        clear bw4
        go_wp2_with fail
        go_ret
        exact ⟨rfl, by (repeat' (first | (with_reducible assumption) | (with_reducible exact Below.refl _ _) | (with_reducible refine bdN ?_ _) | (with_reducible refine Below.alloc ?_ ?_ _) | (with_reducible refine Below.drew ?_) | (with_reducible refine Below.setCell ?_ ?_ _) | go_size))⟩

theorem own : ownKnob Try.prog.godebug = none := by kernel_rfl
theorem laidOut : laidOutB Try.prog = true := by kernel_rfl

set_option maxRecDepth 100000 in
theorem lifted (os : Os) (started : os.Started) (H : Type) (enc : TypeId × Value → H) :
    ReturnsInHanded {} Try.checked os 5 .any (Rows.fnPeriodWeeksSpec.pre6 enc Try.prog Try.f5 Rows.fnPeriodWeeksRow.domain false) (Rows.fnPeriodWeeksSpec.post enc Try.prog Try.f5 false true false false) := by
  refine returnsInHanded_of_change (C := Try.checked) own started (by kernel_rfl) Try.func5
    (ChangeSpec.witness6 (enc := enc) (C := Try.checked) false ⟨#[], #[.slice none 0 0, .slice none 0 0], []⟩ 8 (by kernel_rfl) (by kernel_rfl) (by kernel_rfl) (by kernel_rfl)) ?_
  intro W base args ds gs before hval0 hW hcnd _
  have hval : ∀ (j : Nat) t v, Try.f5.params[j]? = some t → args[j]? = some v → Value.okWide Try.prog W .any base t v := hval0
  have hW' := hW
  obtain ⟨p, q, hA0, hV, rfl, hfz, hnd⟩ := hW
  have hA : DataW.TrodAll enc Try.prog W 0 (fun _ => true) true Try.f5.params.toList args.toList ds p := hA0
  rw [Try.params5] at hA hval
  obtain ⟨v0, vs0, d0, ds0, p0, q0, hargs, rfl, rfl, h0, r0⟩ := trodAll_cons hA
  obtain ⟨v1, vs1, d1, ds1, p1, q1, rfl, rfl, rfl, h1, r1⟩ := trodAll_cons r0
  obtain ⟨rfl, rfl, rfl⟩ := trodAll_nil r1
  obtain rfl : args = #[v0, v1] := by cases args; simp_all
  obtain ⟨rfl, rfl⟩ := trodVars_none hV
  have k0 := h0
  have lt0 : ∀ x ∈ p0, x.block < W.heap.size := by obtain ⟨m, hm⟩ := k0; exact DataW.trod_lt m _ _ _ hm
  obtain ⟨a0, len0, cap0, rfl⟩ := okWide_slice Try.underlying28 (hval 0 28 v0 rfl rfl)
  obtain ⟨z0, w0⟩ : ∃ zs, IsRow .u8 W a0 len0 cap0 zs := by
    obtain ⟨fuel, hf⟩ := h0
    rcases open_ints Try.underlying28 Try.underlying5 (by kernel_rfl) hf with ⟨hcs, _⟩ | ⟨x, l, c, zs, hcs, _, hl, hm, hz, _, hcell, hwz⟩
    · simp [Value.cells] at hcs
      obtain ⟨rfl, rfl, rfl⟩ := hcs
      exact ⟨[], .inl ⟨rfl, rfl, rfl, rfl⟩⟩
    · simp [Value.cells] at hcs
      obtain ⟨rfl, rfl, rfl⟩ := hcs
      exact ⟨zs, .inr ⟨_, rfl, hl, hm, by simpa using hz, hcell, hwz⟩⟩
  have k1 := h1
  have lt1 : ∀ x ∈ p1, x.block < W.heap.size := by obtain ⟨m, hm⟩ := k1; exact DataW.trod_lt m _ _ _ hm
  obtain ⟨a1, len1, cap1, rfl⟩ := okWide_slice Try.underlying28 (hval 1 28 v1 rfl rfl)
  obtain ⟨z1, w1⟩ : ∃ zs, IsRow .u8 W a1 len1 cap1 zs := by
    obtain ⟨fuel, hf⟩ := h1
    rcases open_ints Try.underlying28 Try.underlying5 (by kernel_rfl) hf with ⟨hcs, _⟩ | ⟨x, l, c, zs, hcs, _, hl, hm, hz, _, hcell, hwz⟩
    · simp [Value.cells] at hcs
      obtain ⟨rfl, rfl, rfl⟩ := hcs
      exact ⟨[], .inl ⟨rfl, rfl, rfl, rfl⟩⟩
    · simp [Value.cells] at hcs
      obtain ⟨rfl, rfl, rfl⟩ := hcs
      exact ⟨zs, .inr ⟨_, rfl, hl, hm, by simpa using hz, hcell, hwz⟩⟩
  clear hA0 hval0
  refine (walk a0 len0 cap0 z0 a1 len1 cap1 z1 W w0 w1).mono fun e W' ⟨he, bel⟩ => ?_
  subst he
  exact ⟨_, rfl, _, _, _, [], _, [], hW', trodAll_mk1 (shut_bool Try.underlying4 _), (trodAll_cons_mk (Below.trod laidOut (by kernel_rfl) (of_decide_eq_true (by kernel_rfl)) k0 bel lt0) (trodAll_cons_mk (Below.trod laidOut (by kernel_rfl) (of_decide_eq_true (by kernel_rfl)) k1 bel lt1) trodAll_mk0)), rfl, bel.frame _, fun h => by cases h⟩

theorem proved : Rows.FnPeriodWeeksSaid :=
  OpenClaim.holds_of_wide 5 Try.f5 rfl rfl rfl rfl rfl rfl rfl ⟨rfl, rfl, rfl, rfl, rfl⟩ rfl rfl rfl rfl rfl (by kernel_rfl) Try.func5 (by kernel_rfl)
    (of_decide_eq_true (by kernel_rfl)) (by unfold Func.isWrapper; first | (rw [if_pos (by decide +kernel)]; kernel_rfl) | (rw [if_neg (by decide +kernel)]; exact ⟨rfl, rfl⟩))
    (fun os started H enc _ => lifted os started H enc)
#print axioms proved
end Go.Proofs.Ytmdmahgplmijcaa.lawPeriodWeeks
