/- The law FnMonthPlusYear: months add up. For every input; the table of the months' days is laid by its text. -/
import Derived.Test.YtfgljffmokehfaaDoorDayPlus
import Derived.Test.YtfgljffmokehfaaDoorDrawMonthPlus
import Derived.ProofKit
import Derived.ChangeAlike
import Derived.OpenShut
import Derived.ShutString
import Derived.ChangeOld
import Derived.Test.YtfgljffmokehfaaDoorCards
import Derived.Test.YtfgljffmokehfaaDoorTie
import Derived.Deep.DeepHandedRow
import Derived.Lib.LaidTab
import Derived.OpenVars
import Derived.ChangeVars
namespace Go.Proofs.YtfgljffmokehfaaDoor.lawMonthPlusYear
open Go.Proofs.YtfgljffmokehfaaDoor Go.RowKit DN
open Go.ChangeShapes Go.WideShapes Go.ChangeAt
set_option linter.unusedVariables false

theorem half {y m d k Y M D j : Int} (h : MpIs y m d k Y M D true) (hd : d ≤ 28) (hj : (0 ≤ j ∧ j ≤ k) ∨ (k ≤ j ∧ j ≤ 0)) : ∃ X Z V, MpIs y m d j X Z V true ∧ MpIs X Z V (k - j) Y M D true := by
  rcases h with ⟨_, hv, k1, k2, n1, n2, e1, e2, e3⟩ | ⟨hb, _⟩
  · obtain ⟨y1, y2, m1, m2, d1, d2⟩ := vd_iff.1 hv
    have N : mpN y m k = 12 * y + m - 1 + k := rfl
    have N1 : mpN y m j = 12 * y + m - 1 + j := rfl
    refine ⟨mpN y m j / 12, mpN y m j % 12 + 1, d, ?_, ?_⟩
    · have mb := md_pos (mpN y m j / 12) (mpN y m j % 12 + 1) (by omega) (by omega) (by omega) (by omega)
      exact .inl ⟨rfl, hv, by omega, by omega, by omega, by omega, rfl, rfl, by omega⟩
    · have mb := md_pos (mpN y m j / 12) (mpN y m j % 12 + 1) (by omega) (by omega) (by omega) (by omega)
      have N2 : mpN (mpN y m j / 12) (mpN y m j % 12 + 1) (k - j) = 12 * (mpN y m j / 12) + (mpN y m j % 12 + 1) - 1 + (k - j) := rfl
      exact .inl ⟨rfl, vd_iff.2 ⟨by omega, by omega, by omega, by omega, by omega, by omega⟩, by omega, by omega, by omega, by omega, by omega, by omega, e3⟩
  · cases hb
theorem tdiv2 (k : Int) : (0 ≤ k.tdiv 2 ∧ k.tdiv 2 ≤ k) ∨ (k ≤ k.tdiv 2 ∧ k.tdiv 2 ≤ 0) := by
  by_cases h : 0 ≤ k
  · rw [Int.tdiv_eq_ediv_of_nonneg h]; omega
  · have h2 : k.tdiv 2 = -((-k).tdiv 2) := by rw [Int.neg_tdiv]; omega
    rw [h2, Int.tdiv_eq_ediv_of_nonneg (by omega)]; omega
theorem kbd {y m d k Y M D : Int} (h : MpIs y m d k Y M D true) : -119988 ≤ k ∧ k ≤ 119988 := by
  rcases h with ⟨_, hv, k1, k2, _⟩ | ⟨hb, _⟩
  · exact ⟨k1, k2⟩
  · cases hb

set_option maxHeartbeats 2000000 in
theorem walk (a : Option Addr) (len cap : Nat) (zs : List Int) (w : World) (T : Tab w) (h : IsRow .u8 w a len cap zs) : Calls Tryd.prog 6 #[.slice a len cap] w fun e w' => e = .returned (.bool true) ∧ Below w.heap.size w w' := by
  by_cases hlen : 1048576 < len
  · clear T
    go_enter Tryd.func6, Tryd.ntmps6
    go_wp2
    go_ret
    exact ⟨rfl, Below.refl _ _⟩
  · have H := Lib.hid h
    have T0 := Lib.hid T
    clear h T
    go_enter Tryd.func6, Tryd.ntmps6
    go_wp2_with fail
    refine (DrawMonthPlus_any _ _ _ _ _ H.out).mono ?_
    rintro e w1 ⟨y, m, d, k, rfl, A1⟩
    have s1 := A1.size
    clear H
    obtain ⟨Y, M, D, b, hb⟩ := mpIs_ex y m d k
    have P1 := Lib.hid (fun w T => monthPlus_i y m d k Y M D b w T hb)
    have P2 := Lib.hid (fun w => monthPlus_s y m d k Y M D b w hb)
    have HB := Lib.hid hb
    clear hb
    have T1 := Lib.hid (tab_alloc (tab_keep T0.out A1) (.cells #[.int .i64 y, .int .i64 m, .int .i64 d] 24))
    go_wp2_with fail
    refine (P1.out _ T1.out).mono ?_
    rintro e w2 ⟨rfl, bw2⟩
    obtain ⟨hcw2, hfw2⟩ := bcell bw2
    have sw2 := bw2.size
    (try simp at sw2)
    have Aw2 : Below w.heap.size w w2 := Below.trans (by (repeat' (first | (with_reducible assumption) | (with_reducible exact Below.refl _ _) | (with_reducible refine bdN ?_ _) | (with_reducible refine Below.alloc ?_ ?_ _) | (with_reducible refine Below.drew ?_) | (with_reducible refine Below.setCell ?_ ?_ _) | go_size))) (bw2.mono (by go_size))
    clear bw2
    have lw2_0 : w1.heap.size < w2.heap.size := by omega
    have zw2_w1H : CellsAt w2 (w1.heap.size) 0 [.int .i64 y, .int .i64 m, .int .i64 d] := cells_keep (by simp only [CellsAt]; go_simp) (fun o => hcw2 _ o (by go_size)) (fun o => hfw2 _ o (by go_size))
    simp only [CellsAt] at zw2_w1H
    clear hcw2 hfw2
    go_wp2_with fail
    refine (P2.out _).mono ?_
    rintro e w3 ⟨rfl, bw3⟩
    obtain ⟨hcw3, hfw3⟩ := bcell bw3
    have sw3 := bw3.size
    (try simp at sw3)
    have Aw3 : Below w.heap.size w w3 := Below.trans (by (repeat' (first | (with_reducible assumption) | (with_reducible exact Below.refl _ _) | (with_reducible refine bdN ?_ _) | (with_reducible refine Below.alloc ?_ ?_ _) | (with_reducible refine Below.drew ?_) | (with_reducible refine Below.setCell ?_ ?_ _) | go_size))) (bw3.mono (by go_size))
    clear bw3
    have lw3_0 : w1.heap.size < w3.heap.size := by omega
    have lw3_1 : w2.heap.size < w3.heap.size := by omega
    have zw3_w1H : CellsAt w3 (w1.heap.size) 0 [.int .i64 y, .int .i64 m, .int .i64 d] := cells_keep (by simp only [CellsAt]; go_simp) (fun o => hcw3 _ o (by go_size)) (fun o => hfw3 _ o (by go_size))
    simp only [CellsAt] at zw3_w1H
    have zw3_w2H : CellsAt w3 (w2.heap.size) 0 [.int .i64 Y, .int .i64 M, .int .i64 D] := cells_keep (by simp only [CellsAt]; go_simp) (fun o => hcw3 _ o (by go_size)) (fun o => hfw3 _ o (by go_size))
    simp only [CellsAt] at zw3_w2H
    clear hcw3 hfw3 zw2_w1H
    cases b
    · go_wp2_with fail
      go_ret
      exact ⟨rfl, by (repeat' (first | (with_reducible assumption) | (with_reducible exact Below.refl _ _) | (with_reducible refine bdN ?_ _) | (with_reducible refine Below.alloc ?_ ?_ _) | (with_reducible refine Below.drew ?_) | (with_reducible refine Below.setCell ?_ ?_ _) | go_size))⟩
    · obtain ⟨k1, k2⟩ := kbd HB.out
      by_cases hd : 28 < d
      · go_wp2_with fail
        go_ret
        exact ⟨rfl, by (repeat' (first | (with_reducible assumption) | (with_reducible exact Below.refl _ _) | (with_reducible refine bdN ?_ _) | (with_reducible refine Below.alloc ?_ ?_ _) | (with_reducible refine Below.drew ?_) | (with_reducible refine Below.setCell ?_ ?_ _) | go_size))⟩
      · have tb := tdiv2 k
        obtain ⟨X, Z, V, x1, x2⟩ := half HB.out (by omega) tb
        have P3 := Lib.hid (fun w T => monthPlus_i y m d (k.tdiv 2) X Z V true w T x1)
        have P4 := Lib.hid (fun w T => monthPlus_i X Z V (k - k.tdiv 2) Y M D true w T x2)
        have T3 := Lib.hid (tab_keep T0.out Aw3)
        have q1 : -119988 ≤ k.tdiv 2 := by omega
        have q2 : k.tdiv 2 ≤ 119988 := by omega
        clear HB P1 P2 x1 x2 tb
        go_wp2_with fail
        have T4 := Lib.hid (tab_alloc T3.out (.cells #[.int .i64 Y, .int .i64 M, .int .i64 D] 24))
        refine (P3.out _ T4.out).mono ?_
        rintro e w4 ⟨rfl, bw4⟩
        obtain ⟨hcw4, hfw4⟩ := bcell bw4
        have sw4 := bw4.size
        (try simp at sw4)
        have Aw4 : Below w.heap.size w w4 := Below.trans (by (repeat' (first | (with_reducible assumption) | (with_reducible exact Below.refl _ _) | (with_reducible refine bdN ?_ _) | (with_reducible refine Below.alloc ?_ ?_ _) | (with_reducible refine Below.drew ?_) | (with_reducible refine Below.setCell ?_ ?_ _) | go_size))) (bw4.mono (by go_size))
        clear bw4
        have lw4_0 : w1.heap.size < w4.heap.size := by omega
        have lw4_1 : w2.heap.size < w4.heap.size := by omega
        have lw4_2 : w3.heap.size < w4.heap.size := by omega
        have zw4_w2H : CellsAt w4 (w2.heap.size) 0 [.int .i64 Y, .int .i64 M, .int .i64 D] := cells_keep (by simp only [CellsAt]; go_simp) (fun o => hcw4 _ o (by go_size)) (fun o => hfw4 _ o (by go_size))
        simp only [CellsAt] at zw4_w2H
        clear hcw4 hfw4
        have T5 := Lib.hid (tab_alloc (tab_keep T0.out Aw4) (.cells #[.int .i64 X, .int .i64 Z, .int .i64 V] 24))
        go_wp2_with fail
        refine (P4.out _ T5.out).mono ?_
        rintro e w5 ⟨rfl, bw5⟩
        obtain ⟨hcw5, hfw5⟩ := bcell bw5
        have sw5 := bw5.size
        (try simp at sw5)
        have Aw5 : Below w.heap.size w w5 := Below.trans (by (repeat' (first | (with_reducible assumption) | (with_reducible exact Below.refl _ _) | (with_reducible refine bdN ?_ _) | (with_reducible refine Below.alloc ?_ ?_ _) | (with_reducible refine Below.drew ?_) | (with_reducible refine Below.setCell ?_ ?_ _) | go_size))) (bw5.mono (by go_size))
        clear bw5
        have lw5_0 : w1.heap.size < w5.heap.size := by omega
        have lw5_1 : w2.heap.size < w5.heap.size := by omega
        have lw5_2 : w3.heap.size < w5.heap.size := by omega
        have lw5_3 : w4.heap.size < w5.heap.size := by omega
        have zw5_w2H : CellsAt w5 (w2.heap.size) 0 [.int .i64 Y, .int .i64 M, .int .i64 D] := cells_keep (by simp only [CellsAt]; go_simp) (fun o => hcw5 _ o (by go_size)) (fun o => hfw5 _ o (by go_size))
        simp only [CellsAt] at zw5_w2H
        clear hcw5 hfw5
        go_wp2_with fail
        go_ret
        exact ⟨rfl, by (repeat' (first | (with_reducible assumption) | (with_reducible exact Below.refl _ _) | (with_reducible refine bdN ?_ _) | (with_reducible refine Below.alloc ?_ ?_ _) | (with_reducible refine Below.drew ?_) | (with_reducible refine Below.setCell ?_ ?_ _) | go_size))⟩

theorem own : ownKnob Tryd.prog.godebug = none := by kernel_rfl
theorem laidOut : laidOutB Tryd.prog = true := by kernel_rfl

theorem gTab : Tryd.prog.globalNamed "loop.example/datenotation/impl.monthDays" = some 0 := by kernel_rfl
theorem gTabType : (Tryd.prog.globals[0]?).map (·.type) = some 58 := by kernel_rfl
theorem cellsA : Tryd.prog.cellsOf 58 = 12 := by kernel_rfl
theorem cellsE : Tryd.prog.cellsOf 3 = 1 := by kernel_rfl
theorem table {W : World} (h : laidMetH Tryd.prog Rows.fnMonthPlusYearRow.laid W) : Tab W := by
  have t : Lib.TabIs Tryd.prog W "loop.example/datenotation/impl.monthDays" .i64 [31, 28, 31, 30, 31, 30, 31, 31, 30, 31, 30, 31] := Lib.tabIs_of_head (rest := []) gTab gTabType Tryd.underlying58 Tryd.underlying3 cellsE cellsA h
  refine ⟨World.block_lt_of_cell? _ _ (t.cell gTab 0 (by decide)), fun j hj => ?_⟩
  rw [t.cell gTab j hj]
  have hj12 : j = 0 ∨ j = 1 ∨ j = 2 ∨ j = 3 ∨ j = 4 ∨ j = 5 ∨ j = 6 ∨ j = 7 ∨ j = 8 ∨ j = 9 ∨ j = 10 ∨ j = 11 := by omega
  rcases hj12 with rfl | rfl | rfl | rfl | rfl | rfl | rfl | rfl | rfl | rfl | rfl | rfl <;> rfl

/-- a world for the witness: the settled one, the table holding what its initialiser lays -/
noncomputable def laidWorld (os : Os) : World :=
  { World.holding Tryd.prog os ⟨#[], #[], []⟩ with heap := (World.holding Tryd.prog os ⟨#[], #[], []⟩).heap.modify 0 fun
      | .cells _ t frozen => .cells #[.int .i64 31, .int .i64 28, .int .i64 31, .int .i64 30, .int .i64 31, .int .i64 30, .int .i64 31, .int .i64 31, .int .i64 30, .int .i64 31, .int .i64 30, .int .i64 31] t frozen
      | o => o }
theorem laid_met (os : Os) : laidMet Tryd.prog Rows.fnMonthPlusYearRow.laid ((laidWorld os).forCall (fun _ _ => 0) ⟨#[], #[.slice none 0 0], []⟩).memory :=
  laidMet_of_run' 8 (by kernel_rfl) (by kernel_rfl)
theorem reads (os : Os) {H : Type} (enc : TypeId × Value → H) : ∃ places, DataW.whole enc Tryd.prog ((laidWorld os).forCall (fun _ _ => 0) ⟨#[], #[.slice none 0 0], []⟩).memory Tryd.f6.params.toList Rows.fnMonthPlusYearSpec.vars false (#[.slice none 0 0] : Array Value).toList 8 = some ([.nil], [Rows.laid_loop_example_datenotation_impl_monthDays], places) :=
  ⟨MemPlace.row ⟨0, 0, none⟩ 12, by kernel_rfl⟩

set_option maxRecDepth 100000 in
theorem lifted (os : Os) (started : os.Started) (H : Type) (enc : TypeId × Value → H) (F : Stop.Interp) :
    ReturnsInHanded {} Tryd.checked os 6 .any ((OpenSpec.ofChange Rows.fnMonthPlusYearSpec).preRow enc Tryd.prog Tryd.f6 Rows.fnMonthPlusYearRow.domain false Rows.fnMonthPlusYearRow.laid) (((OpenSpec.ofChange Rows.fnMonthPlusYearSpec).at F).post enc Tryd.prog Tryd.f6 false true false false) := by
  obtain ⟨places, hx⟩ := reads os enc
  refine returnsInHanded_of_row (C := Tryd.checked) (s := OpenSpec.ofChange Rows.fnMonthPlusYearSpec) own started (by kernel_rfl) Tryd.func6
    (witness_row_at (enc := enc) (C := Tryd.checked) false (laidWorld os) #[.slice none 0 0] rfl (by kernel_rfl) (by kernel_rfl) (by kernel_rfl)
      (OpenSpec.preRow_of_cond 8 hx (by kernel_rfl) (fun k hk => by cases hk) (by kernel_rfl) (laid_met os))) ?_
  intro W base args ds gs before hval0 hW _ _ _ hL _ _
  have tab := table hL
  have hval : ∀ (j : Nat) t v, Tryd.f6.params[j]? = some t → args[j]? = some v → Value.okWide Tryd.prog W .any base t v := hval0
  have hW' := hW
  obtain ⟨p, q, hA0, hV, rfl, hfz, hnd⟩ := hW
  have hA : DataW.TrodAll enc Tryd.prog W 0 (fun _ => true) true Tryd.f6.params.toList args.toList ds p := hA0
  rw [Tryd.params6] at hA hval
  obtain ⟨v0, vs0, d0, ds0, p0, q0, hargs, rfl, rfl, h0, r0⟩ := trodAll_cons hA
  obtain ⟨rfl, rfl, rfl⟩ := trodAll_nil r0
  obtain rfl : args = #[v0] := by cases args; simp_all
  obtain ⟨gv, rfl⟩ : ∃ gv, gs = [gv] := by obtain ⟨_, _, _, _, gv, _, hg, _⟩ := trodVars_one hV; exact ⟨gv, hg⟩
  have k0 := h0
  have lt0 : ∀ x ∈ p0, x.block < W.heap.size := by obtain ⟨m, hm⟩ := k0; exact DataW.trod_lt m _ _ _ hm
  obtain ⟨a0, len0, cap0, rfl⟩ := okWide_slice Tryd.underlying30 (hval 0 30 v0 rfl rfl)
  obtain ⟨z0, w0⟩ : ∃ zs, IsRow .u8 W a0 len0 cap0 zs := by
    obtain ⟨fuel, hf⟩ := h0
    rcases open_ints Tryd.underlying30 Tryd.underlying5 (by kernel_rfl) hf with ⟨hcs, _⟩ | ⟨x, l, c, zs, hcs, _, hl, hm, hz, _, hcell, hwz⟩
    · simp [Value.cells] at hcs
      obtain ⟨rfl, rfl, rfl⟩ := hcs
      exact ⟨[], .inl ⟨rfl, rfl, rfl, rfl⟩⟩
    · simp [Value.cells] at hcs
      obtain ⟨rfl, rfl, rfl⟩ := hcs
      exact ⟨zs, .inr ⟨_, rfl, hl, hm, by simpa using hz, hcell, hwz⟩⟩
  clear hA0 hval0
  refine (walk a0 len0 cap0 z0 W tab w0).mono fun e W' ⟨he, bel⟩ => ?_
  subst he
  exact ⟨_, rfl, _, _, _, [], _, _, hW', trodAll_mk1 (shut_bool Tryd.underlying4 _), (trodAll_cons_mk (Below.trod laidOut (by kernel_rfl) (of_decide_eq_true (by kernel_rfl)) k0 bel lt0) trodAll_mk0), Below.trodVars laidOut bel (by kernel_rfl) hV, bel.frame _, fun h => by cases h⟩

theorem said : Rows.FnMonthPlusYearSaid :=
  OpenClaim.holds_of_cond 6 Tryd.f6 rfl rfl rfl rfl rfl rfl rfl ⟨rfl, rfl, rfl, rfl, rfl⟩ rfl rfl rfl rfl rfl (by kernel_rfl) Tryd.func6 (by kernel_rfl)
    (of_decide_eq_true (by kernel_rfl)) (by unfold Func.isWrapper; first | (rw [if_pos (by decide +kernel)]; kernel_rfl) | (rw [if_neg (by decide +kernel)]; exact ⟨rfl, rfl⟩))
    (fun os started H enc _ F => by rw [OpenClaim.pre_eq_preRow]; exact lifted os started H enc F)
set_option maxRecDepth 100000 in
theorem plain (f : FuncId) (fn : Func) (hf : Tryd.pinned.checked.prog.funcNamed "loop.example/datenotation/laws.FnMonthPlusYear" = some f) (hfn : Tryd.pinned.checked.prog.funcs[f]? = some fn) :
    false = Tryd.pinned.checked.prog.looks [] ∧ ∀ (j : Nat) t, fn.params[j]? = some t → Tryd.pinned.checked.prog.wantsStandIn t = false := by
  obtain rfl : f = 6 := Option.some.inj ((show Tryd.prog.funcNamed "loop.example/datenotation/laws.FnMonthPlusYear" = some 6 by kernel_rfl).symm.trans hf) |>.symm
  obtain rfl : fn = Tryd.f6 := (Option.some.inj (Tryd.func6.symm.trans hfn)).symm
  refine ⟨by kernel_rfl, fun j t ht => ?_⟩
  rw [Tryd.params6] at ht
  have s0 : Tryd.prog.wantsStandIn 30 = false := by kernel_rfl
  have hm : t = 30 := by simpa using Array.mem_of_getElem? ht
  rcases hm with rfl
  all_goals first | exact s0

theorem proved : Rows.FnMonthPlusYearCardSaid :=
  Claim7.holds_tied_plain_at .later [] _ _ _ _ said (fun _ h => by cases h) (by kernel_rfl) (fun _ h => by cases h) fnMonthPlusYear_row_tie rfl ⟨rfl, rfl⟩ (by kernel_rfl) rfl plain (by kernel_rfl)
#print axioms proved
end Go.Proofs.YtfgljffmokehfaaDoor.lawMonthPlusYear
