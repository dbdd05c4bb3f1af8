/- The law FnStampPlusTime: seconds are counted. For every input; the table of the months' days is laid by its text. -/
import Derived.Test.YtacglejojkamfaaDoorStampPlusS
import Derived.Test.YtacglejojkamfaaDoorDrawPlus
import Derived.Test.YtacglejojkamfaaDoorKeep
import Derived.ProofKit
import Derived.ChangeAlike
import Derived.OpenShut
import Derived.ShutString
import Derived.ChangeOld
import Derived.Deep.RegionHeld3
import Derived.Deep.DeepCutAuto
import Derived.Test.YtacglejojkamfaaDoorCards
import Derived.Test.YtacglejojkamfaaDoorTie
import Derived.Deep.DeepHandedRow
import Derived.Lib.LaidTab
import Derived.OpenVars
import Derived.ChangeVars
namespace Go.Proofs.YtacglejojkamfaaDoor.lawStampPlusTime
set_option linter.unusedSimpArgs false
open Go.Proofs.YtacglejojkamfaaDoor Go.RowKit DN
open Go.ChangeShapes Go.WideShapes Go.ChangeAt
set_option linter.unusedVariables false

theorem timeOnly {y m d h i s u o py po pd pu pi ps : Int} {back : Bool} {Y M D H I S U O : Int} (e : PlusIs y m d h i s u o py po pd pu pi ps back Y M D H I S U O true) (ht : py + po + pd ≤ 0) :
    ∃ n, InsIs y m d h i s u o n true ∧ InsIs Y M D H I S U O (n + sgn back * (1000 * (3600 * pu + 60 * pi + ps))) true ∧ O = o := by
  rcases e with ⟨hv, hp, X, Z, V, c, hd, ha⟩ | ⟨_, hb, _⟩
  · obtain ⟨⟨a1, a2⟩, ⟨b1, b2⟩, ⟨c1, c2⟩, _⟩ := pvB_iff.1 hp
    obtain rfl : py = 0 := by omega
    obtain rfl : po = 0 := by omega
    obtain rfl : pd = 0 := by omega
    rcases ha with ⟨rfl, ha⟩ | ⟨_, hb, _⟩
    · obtain ⟨X', Z', V', c', hm, hd'⟩ := hd
      rcases hd' with ⟨rfl, hd'⟩ | ⟨_, hb, _⟩
      · have e : X = y ∧ Z = m ∧ V = d := by
          rcases hm with ⟨_, w1, _, _, _, _, x1, x2, x3⟩ | ⟨hb, _⟩
          · rcases hd' with ⟨_, w2, _, _, w3⟩ | ⟨hb, _⟩
            · obtain ⟨y1, y2, m1, m2, q1, q2⟩ := vd_iff.1 w1
              have N : mpN y m (sgn back * (12 * 0 + 0)) = 12 * y + m - 1 := by unfold mpN; simp
              rw [N] at x1 x2
              have e1 : X' = y := by omega
              have e2 : Z' = m := by omega
              subst e1 e2
              have e3 : V' = d := by omega
              subst e3
              have w4 : IsD (dn X' Z' V') X Z V := by
                have := w3
                simpa using this
              obtain ⟨r1, r2, r3⟩ := isD_inj w4 (isD_dn w1)
              exact ⟨r1, r2, r3⟩
            · cases hb
          · cases hb
        obtain ⟨rfl, rfl, rfl⟩ := e
        obtain ⟨v, hn, hO, _⟩ := at_sv ha
        refine ⟨ins X Z V h i s u o, ⟨hv, rfl⟩, ⟨v, ?_⟩, hO⟩
        simp only [cond_true]
        rw [hn]
        congr 2
        omega
      · cases hb
    · cases hb
  · cases hb
theorem pbd {y m d h i s u o py po pd pu pi ps : Int} {back : Bool} {Y M D H I S U O : Int} (e : PlusIs y m d h i s u o py po pd pu pi ps back Y M D H I S U O true) : (0 ≤ py ∧ py ≤ 9999) ∧ (0 ≤ po ∧ po ≤ 9999) ∧ (0 ≤ pd ∧ pd ≤ 9999) ∧ (0 ≤ pu ∧ pu ≤ 9999) ∧ (0 ≤ pi ∧ pi ≤ 9999) ∧ (0 ≤ ps ∧ ps ≤ 9999) := by
  rcases e with ⟨_, hp, _⟩ | ⟨_, hb, _⟩
  · exact pvB_iff.1 hp
  · cases hb
set_option maxHeartbeats 8000000 in
theorem walk (a : Option Addr) (len cap : Nat) (zs : List Int) (w : World) (T : Tab w) (h : IsRow .u8 w a len cap zs) : Calls Tryd.prog 13 #[.slice a len cap] w fun e w' => e = .returned (.bool true) ∧ Below w.heap.size w w' := by
  by_cases hlen : 1048576 < len
  · clear T
    go_enter Tryd.func13, Tryd.ntmps13
    go_wp2
    go_ret
    exact ⟨rfl, Below.refl _ _⟩
  · have H := Lib.hid h
    have T0 := Lib.hid T
    clear h T
    go_enter Tryd.func13, Tryd.ntmps13
    go_wp2_with fail
    refine (DrawStampPlus_any _ _ _ _ _ H.out).mono ?_
    rintro e w1 ⟨y, m, d, h, i, s, u, o, py, po, pd, pu, pi, ps, back, rfl, bw1⟩
    have sw1 := bw1.size
    (try simp at sw1)
    have Aw1 : Below w.heap.size w w1 := Below.trans (by (repeat' (first | (with_reducible assumption) | (with_reducible exact Below.refl _ _) | (with_reducible refine bdN ?_ _) | (with_reducible refine Below.alloc ?_ ?_ _) | (with_reducible refine Below.drew ?_) | (with_reducible refine Below.setCell ?_ ?_ _) | go_size))) (bw1.mono (by go_size))
    have Tw1 := Lib.hid (tab_keep (by (repeat' (first | (with_reducible exact T0.out) | (with_reducible assumption) | (with_reducible refine tab_alloc ?_ _) | (with_reducible refine tab_drewN ?_ _) | (with_reducible refine tab_drew ?_) | (with_reducible refine tab_set ?_ ?_ _) | go_size))) bw1)
    clear bw1
    clear H
    obtain ⟨Y, M, D, H, I, S, U, O, b, hb⟩ := plusIs_ex y m d h i s u o py po pd pu pi ps back
    have P1 := Lib.hid (fun w T => StampPlus_i y m d h i s u o py po pd pu pi ps back Y M D H I S U O b w T hb)
    have P2 := Lib.hid (fun w => StampPlus_s y m d h i s u o py po pd pu pi ps back Y M D H I S U O b w hb)
    have HB := Lib.hid hb
    clear hb
    go_wp2_with fail
    refine (P1.out _ (by (repeat' (first | (with_reducible exact Tw1.out) | (with_reducible assumption) | (with_reducible refine tab_alloc ?_ _) | (with_reducible refine tab_drewN ?_ _) | (with_reducible refine tab_drew ?_) | (with_reducible refine tab_set ?_ ?_ _) | go_size)))).mono ?_
    rintro e w2 ⟨rfl, bw2⟩
    have sw2 := bw2.size
    (try simp at sw2)
    have Aw2 : Below w.heap.size w w2 := Below.trans (by (repeat' (first | (with_reducible assumption) | (with_reducible exact Below.refl _ _) | (with_reducible refine bdN ?_ _) | (with_reducible refine Below.alloc ?_ ?_ _) | (with_reducible refine Below.drew ?_) | (with_reducible refine Below.setCell ?_ ?_ _) | go_size))) (bw2.mono (by go_size))
    have Tw2 := Lib.hid (tab_keep (by (repeat' (first | (with_reducible exact Tw1.out) | (with_reducible assumption) | (with_reducible refine tab_alloc ?_ _) | (with_reducible refine tab_drewN ?_ _) | (with_reducible refine tab_drew ?_) | (with_reducible refine tab_set ?_ ?_ _) | go_size))) bw2)
    have lw2_0 : w1.heap.size < w2.heap.size := (by go_size)
    have zw2_w1H : CellsAt w2 (w1.heap.size) 0 [.int .i64 y, .int .i64 m, .int .i64 d, .int .i64 h, .int .i64 i, .int .i64 s, .int .i64 u, .int .i64 o] := cells_keep (by (simp only [CellsAt]; (first | (go_simp; done) | ((repeat' (with_reducible refine And.intro ?_ ?_)) <;> (repeat' (first | (with_reducible assumption) | (with_reducible exact trivial) | (with_reducible refine kA _ ?_) | (with_reducible refine kD ?_) | (with_reducible refine kS _ ?_ ?_) | (with_reducible refine fA _ ?_ ?_) | (with_reducible refine fD ?_) | (with_reducible refine fS _ ?_) | go_size | (go_simp; done))))))) (fun o => bw2.cell (p := ⟨_, o, none⟩) (by go_size)) (fun o => bw2.frozen (p := ⟨_, o, none⟩) (by go_size))
    have lw2_1 : w1.heap.size+1 < w2.heap.size := (by go_size)
    have zw2_w1H1 : CellsAt w2 (w1.heap.size+1) 0 [.int .i64 py, .int .i64 po, .int .i64 pd, .int .i64 pu, .int .i64 pi, .int .i64 ps] := cells_keep (by (simp only [CellsAt]; (first | (go_simp; done) | ((repeat' (with_reducible refine And.intro ?_ ?_)) <;> (repeat' (first | (with_reducible assumption) | (with_reducible exact trivial) | (with_reducible refine kA _ ?_) | (with_reducible refine kD ?_) | (with_reducible refine kS _ ?_ ?_) | (with_reducible refine fA _ ?_ ?_) | (with_reducible refine fD ?_) | (with_reducible refine fS _ ?_) | go_size | (go_simp; done))))))) (fun o => bw2.cell (p := ⟨_, o, none⟩) (by go_size)) (fun o => bw2.frozen (p := ⟨_, o, none⟩) (by go_size))
    simp only [CellsAt] at zw2_w1H
    simp only [CellsAt] at zw2_w1H1
    clear bw2
    go_wp2_with fail
    refine (P2.out _).mono ?_
    rintro e w3 ⟨rfl, bw3⟩
    have sw3 := bw3.size
    (try simp at sw3)
    have Aw3 : Below w.heap.size w w3 := Below.trans (by (repeat' (first | (with_reducible assumption) | (with_reducible exact Below.refl _ _) | (with_reducible refine bdN ?_ _) | (with_reducible refine Below.alloc ?_ ?_ _) | (with_reducible refine Below.drew ?_) | (with_reducible refine Below.setCell ?_ ?_ _) | go_size))) (bw3.mono (by go_size))
    have Tw3 := Lib.hid (tab_keep (by (repeat' (first | (with_reducible exact Tw2.out) | (with_reducible assumption) | (with_reducible refine tab_alloc ?_ _) | (with_reducible refine tab_drewN ?_ _) | (with_reducible refine tab_drew ?_) | (with_reducible refine tab_set ?_ ?_ _) | go_size))) bw3)
    have lw3_0 : w1.heap.size < w3.heap.size := (by go_size)
    have zw3_w1H : CellsAt w3 (w1.heap.size) 0 [.int .i64 y, .int .i64 m, .int .i64 d, .int .i64 h, .int .i64 i, .int .i64 s, .int .i64 u, .int .i64 o] := cells_keep (by (simp only [CellsAt]; (first | (go_simp; done) | ((repeat' (with_reducible refine And.intro ?_ ?_)) <;> (repeat' (first | (with_reducible assumption) | (with_reducible exact trivial) | (with_reducible refine kA _ ?_) | (with_reducible refine kD ?_) | (with_reducible refine kS _ ?_ ?_) | (with_reducible refine fA _ ?_ ?_) | (with_reducible refine fD ?_) | (with_reducible refine fS _ ?_) | go_size | (go_simp; done))))))) (fun o => bw3.cell (p := ⟨_, o, none⟩) (by go_size)) (fun o => bw3.frozen (p := ⟨_, o, none⟩) (by go_size))
    have lw3_1 : w1.heap.size+1 < w3.heap.size := (by go_size)
    have zw3_w1H1 : CellsAt w3 (w1.heap.size+1) 0 [.int .i64 py, .int .i64 po, .int .i64 pd, .int .i64 pu, .int .i64 pi, .int .i64 ps] := cells_keep (by (simp only [CellsAt]; (first | (go_simp; done) | ((repeat' (with_reducible refine And.intro ?_ ?_)) <;> (repeat' (first | (with_reducible assumption) | (with_reducible exact trivial) | (with_reducible refine kA _ ?_) | (with_reducible refine kD ?_) | (with_reducible refine kS _ ?_ ?_) | (with_reducible refine fA _ ?_ ?_) | (with_reducible refine fD ?_) | (with_reducible refine fS _ ?_) | go_size | (go_simp; done))))))) (fun o => bw3.cell (p := ⟨_, o, none⟩) (by go_size)) (fun o => bw3.frozen (p := ⟨_, o, none⟩) (by go_size))
    have lw3_2 : w2.heap.size < w3.heap.size := (by go_size)
    have zw3_w2H : CellsAt w3 (w2.heap.size) 0 [.int .i64 Y, .int .i64 M, .int .i64 D, .int .i64 H, .int .i64 I, .int .i64 S, .int .i64 U, .int .i64 O] := cells_keep (by (simp only [CellsAt]; (first | (go_simp; done) | ((repeat' (with_reducible refine And.intro ?_ ?_)) <;> (repeat' (first | (with_reducible assumption) | (with_reducible exact trivial) | (with_reducible refine kA _ ?_) | (with_reducible refine kD ?_) | (with_reducible refine kS _ ?_ ?_) | (with_reducible refine fA _ ?_ ?_) | (with_reducible refine fD ?_) | (with_reducible refine fS _ ?_) | go_size | (go_simp; done))))))) (fun o => bw3.cell (p := ⟨_, o, none⟩) (by go_size)) (fun o => bw3.frozen (p := ⟨_, o, none⟩) (by go_size))
    simp only [CellsAt] at zw3_w1H
    simp only [CellsAt] at zw3_w1H1
    simp only [CellsAt] at zw3_w2H
    clear zw2_w1H zw2_w1H1
    clear bw3
    cases b
    · go_wp2_with fail
      go_ret
      exact ⟨rfl, by (repeat' (first | (with_reducible assumption) | (with_reducible exact Below.refl _ _) | (with_reducible refine bdN ?_ _) | (with_reducible refine Below.alloc ?_ ?_ _) | (with_reducible refine Below.drew ?_) | (with_reducible refine Below.setCell ?_ ?_ _) | go_size))⟩
    · obtain ⟨⟨a1, a2⟩, ⟨b1, b2⟩, ⟨c1, c2⟩, ⟨d1, d2⟩, ⟨e1, e2⟩, ⟨f1, f2⟩⟩ := pbd HB.out
      by_cases ht : py + po + pd ≤ 0
      · obtain ⟨n, h1, h2, r1⟩ := timeOnly HB.out ht
        have r1 := r1.symm
        subst r1
        have nb : -86340000 ≤ n ∧ n ≤ 315537984000000 := by rw [h1.2]; exact ins_bd h1.1
        obtain ⟨n1, n2⟩ := nb
        have P3 := Lib.hid (fun w T => Instant_i y m d h i s u o n true w T h1)
        have P4 := Lib.hid (fun w T => Instant_i Y M D H I S U o _ true w T h2)
        clear HB h1 h2 P1 P2
        obtain rfl : py = 0 := by omega
        obtain rfl : po = 0 := by omega
        obtain rfl : pd = 0 := by omega
        cases back
        · simp only [sgn, cond_false, Int.one_mul] at P4
          go_wp2_with fail
          refine (P3.out _ (by (repeat' (first | (with_reducible exact Tw3.out) | (with_reducible assumption) | (with_reducible refine tab_alloc ?_ _) | (with_reducible refine tab_drewN ?_ _) | (with_reducible refine tab_drew ?_) | (with_reducible refine tab_set ?_ ?_ _) | go_size)))).mono ?_
          rintro e w4 ⟨rfl, bw4⟩
          have sw4 := bw4.size
          (try simp at sw4)
          have Aw4 : Below w.heap.size w w4 := Below.trans (by (repeat' (first | (with_reducible assumption) | (with_reducible exact Below.refl _ _) | (with_reducible refine bdN ?_ _) | (with_reducible refine Below.alloc ?_ ?_ _) | (with_reducible refine Below.drew ?_) | (with_reducible refine Below.setCell ?_ ?_ _) | go_size))) (bw4.mono (by go_size))
          have Tw4 := Lib.hid (tab_keep (by (repeat' (first | (with_reducible exact Tw3.out) | (with_reducible assumption) | (with_reducible refine tab_alloc ?_ _) | (with_reducible refine tab_drewN ?_ _) | (with_reducible refine tab_drew ?_) | (with_reducible refine tab_set ?_ ?_ _) | go_size))) bw4)
          have lw4_0 : w1.heap.size < w4.heap.size := (by go_size)
          have zw4_w1H : CellsAt w4 (w1.heap.size) 0 [.int .i64 y, .int .i64 m, .int .i64 d, .int .i64 h, .int .i64 i, .int .i64 s, .int .i64 u, .int .i64 o] := cells_keep (by (simp only [CellsAt]; (first | (go_simp; done) | ((repeat' (with_reducible refine And.intro ?_ ?_)) <;> (repeat' (first | (with_reducible assumption) | (with_reducible exact trivial) | (with_reducible refine kA _ ?_) | (with_reducible refine kD ?_) | (with_reducible refine kS _ ?_ ?_) | (with_reducible refine fA _ ?_ ?_) | (with_reducible refine fD ?_) | (with_reducible refine fS _ ?_) | go_size | (go_simp; done))))))) (fun o => bw4.cell (p := ⟨_, o, none⟩) (by go_size)) (fun o => bw4.frozen (p := ⟨_, o, none⟩) (by go_size))
          have lw4_1 : w1.heap.size+1 < w4.heap.size := (by go_size)
          have zw4_w1H1 : CellsAt w4 (w1.heap.size+1) 0 [.int .i64 0, .int .i64 0, .int .i64 0, .int .i64 pu, .int .i64 pi, .int .i64 ps] := cells_keep (by (simp only [CellsAt]; (first | (go_simp; done) | ((repeat' (with_reducible refine And.intro ?_ ?_)) <;> (repeat' (first | (with_reducible assumption) | (with_reducible exact trivial) | (with_reducible refine kA _ ?_) | (with_reducible refine kD ?_) | (with_reducible refine kS _ ?_ ?_) | (with_reducible refine fA _ ?_ ?_) | (with_reducible refine fD ?_) | (with_reducible refine fS _ ?_) | go_size | (go_simp; done))))))) (fun o => bw4.cell (p := ⟨_, o, none⟩) (by go_size)) (fun o => bw4.frozen (p := ⟨_, o, none⟩) (by go_size))
          have lw4_2 : w2.heap.size < w4.heap.size := (by go_size)
          have zw4_w2H : CellsAt w4 (w2.heap.size) 0 [.int .i64 Y, .int .i64 M, .int .i64 D, .int .i64 H, .int .i64 I, .int .i64 S, .int .i64 U, .int .i64 o] := cells_keep (by (simp only [CellsAt]; (first | (go_simp; done) | ((repeat' (with_reducible refine And.intro ?_ ?_)) <;> (repeat' (first | (with_reducible assumption) | (with_reducible exact trivial) | (with_reducible refine kA _ ?_) | (with_reducible refine kD ?_) | (with_reducible refine kS _ ?_ ?_) | (with_reducible refine fA _ ?_ ?_) | (with_reducible refine fD ?_) | (with_reducible refine fS _ ?_) | go_size | (go_simp; done))))))) (fun o => bw4.cell (p := ⟨_, o, none⟩) (by go_size)) (fun o => bw4.frozen (p := ⟨_, o, none⟩) (by go_size))
          simp only [CellsAt] at zw4_w1H
          simp only [CellsAt] at zw4_w1H1
          simp only [CellsAt] at zw4_w2H
          clear zw3_w1H zw3_w1H1 zw3_w2H
          clear bw4
          go_wp2_with fail
          refine (P4.out _ (by (repeat' (first | (with_reducible exact Tw4.out) | (with_reducible assumption) | (with_reducible refine tab_alloc ?_ _) | (with_reducible refine tab_drewN ?_ _) | (with_reducible refine tab_drew ?_) | (with_reducible refine tab_set ?_ ?_ _) | go_size)))).mono ?_
          rintro e w5 ⟨rfl, bw5⟩
          have sw5 := bw5.size
          (try simp at sw5)
          have Aw5 : Below w.heap.size w w5 := Below.trans (by (repeat' (first | (with_reducible assumption) | (with_reducible exact Below.refl _ _) | (with_reducible refine bdN ?_ _) | (with_reducible refine Below.alloc ?_ ?_ _) | (with_reducible refine Below.drew ?_) | (with_reducible refine Below.setCell ?_ ?_ _) | go_size))) (bw5.mono (by go_size))
          have Tw5 := Lib.hid (tab_keep (by (repeat' (first | (with_reducible exact Tw4.out) | (with_reducible assumption) | (with_reducible refine tab_alloc ?_ _) | (with_reducible refine tab_drewN ?_ _) | (with_reducible refine tab_drew ?_) | (with_reducible refine tab_set ?_ ?_ _) | go_size))) bw5)
          have lw5_0 : w1.heap.size < w5.heap.size := (by go_size)
          have zw5_w1H : CellsAt w5 (w1.heap.size) 0 [.int .i64 y, .int .i64 m, .int .i64 d, .int .i64 h, .int .i64 i, .int .i64 s, .int .i64 u, .int .i64 o] := cells_keep (by (simp only [CellsAt]; (first | (go_simp; done) | ((repeat' (with_reducible refine And.intro ?_ ?_)) <;> (repeat' (first | (with_reducible assumption) | (with_reducible exact trivial) | (with_reducible refine kA _ ?_) | (with_reducible refine kD ?_) | (with_reducible refine kS _ ?_ ?_) | (with_reducible refine fA _ ?_ ?_) | (with_reducible refine fD ?_) | (with_reducible refine fS _ ?_) | go_size | (go_simp; done))))))) (fun o => bw5.cell (p := ⟨_, o, none⟩) (by go_size)) (fun o => bw5.frozen (p := ⟨_, o, none⟩) (by go_size))
          have lw5_1 : w1.heap.size+1 < w5.heap.size := (by go_size)
          have zw5_w1H1 : CellsAt w5 (w1.heap.size+1) 0 [.int .i64 0, .int .i64 0, .int .i64 0, .int .i64 pu, .int .i64 pi, .int .i64 ps] := cells_keep (by (simp only [CellsAt]; (first | (go_simp; done) | ((repeat' (with_reducible refine And.intro ?_ ?_)) <;> (repeat' (first | (with_reducible assumption) | (with_reducible exact trivial) | (with_reducible refine kA _ ?_) | (with_reducible refine kD ?_) | (with_reducible refine kS _ ?_ ?_) | (with_reducible refine fA _ ?_ ?_) | (with_reducible refine fD ?_) | (with_reducible refine fS _ ?_) | go_size | (go_simp; done))))))) (fun o => bw5.cell (p := ⟨_, o, none⟩) (by go_size)) (fun o => bw5.frozen (p := ⟨_, o, none⟩) (by go_size))
          have lw5_2 : w2.heap.size < w5.heap.size := (by go_size)
          have zw5_w2H : CellsAt w5 (w2.heap.size) 0 [.int .i64 Y, .int .i64 M, .int .i64 D, .int .i64 H, .int .i64 I, .int .i64 S, .int .i64 U, .int .i64 o] := cells_keep (by (simp only [CellsAt]; (first | (go_simp; done) | ((repeat' (with_reducible refine And.intro ?_ ?_)) <;> (repeat' (first | (with_reducible assumption) | (with_reducible exact trivial) | (with_reducible refine kA _ ?_) | (with_reducible refine kD ?_) | (with_reducible refine kS _ ?_ ?_) | (with_reducible refine fA _ ?_ ?_) | (with_reducible refine fD ?_) | (with_reducible refine fS _ ?_) | go_size | (go_simp; done))))))) (fun o => bw5.cell (p := ⟨_, o, none⟩) (by go_size)) (fun o => bw5.frozen (p := ⟨_, o, none⟩) (by go_size))
          simp only [CellsAt] at zw5_w1H
          simp only [CellsAt] at zw5_w1H1
          simp only [CellsAt] at zw5_w2H
          clear zw4_w1H zw4_w1H1 zw4_w2H
          clear bw5
          go_wp2_with fail
          go_ret
          exact ⟨rfl, by (repeat' (first | (with_reducible assumption) | (with_reducible exact Below.refl _ _) | (with_reducible refine bdN ?_ _) | (with_reducible refine Below.alloc ?_ ?_ _) | (with_reducible refine Below.drew ?_) | (with_reducible refine Below.setCell ?_ ?_ _) | go_size))⟩
        · simp only [sgn, cond_true, Int.neg_mul, Int.one_mul] at P4
          have k0 : IntKind.i64.wrap (-(1000 * (3600 * pu + 60 * pi + ps))) = -(1000 * (3600 * pu + 60 * pi + ps)) := IntWalk.i64_in _ (by omega)
          have k1 : IntKind.i64.wrap (n + -(1000 * (3600 * pu + 60 * pi + ps))) = n + -(1000 * (3600 * pu + 60 * pi + ps)) := IntWalk.i64_in _ (by omega)
          go_wp2_with fail
          refine (P3.out _ (by (repeat' (first | (with_reducible exact Tw3.out) | (with_reducible assumption) | (with_reducible refine tab_alloc ?_ _) | (with_reducible refine tab_drewN ?_ _) | (with_reducible refine tab_drew ?_) | (with_reducible refine tab_set ?_ ?_ _) | go_size)))).mono ?_
          rintro e w4 ⟨rfl, bw4⟩
          have sw4 := bw4.size
          (try simp at sw4)
          have Aw4 : Below w.heap.size w w4 := Below.trans (by (repeat' (first | (with_reducible assumption) | (with_reducible exact Below.refl _ _) | (with_reducible refine bdN ?_ _) | (with_reducible refine Below.alloc ?_ ?_ _) | (with_reducible refine Below.drew ?_) | (with_reducible refine Below.setCell ?_ ?_ _) | go_size))) (bw4.mono (by go_size))
          have Tw4 := Lib.hid (tab_keep (by (repeat' (first | (with_reducible exact Tw3.out) | (with_reducible assumption) | (with_reducible refine tab_alloc ?_ _) | (with_reducible refine tab_drewN ?_ _) | (with_reducible refine tab_drew ?_) | (with_reducible refine tab_set ?_ ?_ _) | go_size))) bw4)
          have lw4_0 : w1.heap.size < w4.heap.size := (by go_size)
          have zw4_w1H : CellsAt w4 (w1.heap.size) 0 [.int .i64 y, .int .i64 m, .int .i64 d, .int .i64 h, .int .i64 i, .int .i64 s, .int .i64 u, .int .i64 o] := cells_keep (by (simp only [CellsAt]; (first | (go_simp; done) | ((repeat' (with_reducible refine And.intro ?_ ?_)) <;> (repeat' (first | (with_reducible assumption) | (with_reducible exact trivial) | (with_reducible refine kA _ ?_) | (with_reducible refine kD ?_) | (with_reducible refine kS _ ?_ ?_) | (with_reducible refine fA _ ?_ ?_) | (with_reducible refine fD ?_) | (with_reducible refine fS _ ?_) | go_size | (go_simp; done))))))) (fun o => bw4.cell (p := ⟨_, o, none⟩) (by go_size)) (fun o => bw4.frozen (p := ⟨_, o, none⟩) (by go_size))
          have lw4_1 : w1.heap.size+1 < w4.heap.size := (by go_size)
          have zw4_w1H1 : CellsAt w4 (w1.heap.size+1) 0 [.int .i64 0, .int .i64 0, .int .i64 0, .int .i64 pu, .int .i64 pi, .int .i64 ps] := cells_keep (by (simp only [CellsAt]; (first | (go_simp; done) | ((repeat' (with_reducible refine And.intro ?_ ?_)) <;> (repeat' (first | (with_reducible assumption) | (with_reducible exact trivial) | (with_reducible refine kA _ ?_) | (with_reducible refine kD ?_) | (with_reducible refine kS _ ?_ ?_) | (with_reducible refine fA _ ?_ ?_) | (with_reducible refine fD ?_) | (with_reducible refine fS _ ?_) | go_size | (go_simp; done))))))) (fun o => bw4.cell (p := ⟨_, o, none⟩) (by go_size)) (fun o => bw4.frozen (p := ⟨_, o, none⟩) (by go_size))
          have lw4_2 : w2.heap.size < w4.heap.size := (by go_size)
          have zw4_w2H : CellsAt w4 (w2.heap.size) 0 [.int .i64 Y, .int .i64 M, .int .i64 D, .int .i64 H, .int .i64 I, .int .i64 S, .int .i64 U, .int .i64 o] := cells_keep (by (simp only [CellsAt]; (first | (go_simp; done) | ((repeat' (with_reducible refine And.intro ?_ ?_)) <;> (repeat' (first | (with_reducible assumption) | (with_reducible exact trivial) | (with_reducible refine kA _ ?_) | (with_reducible refine kD ?_) | (with_reducible refine kS _ ?_ ?_) | (with_reducible refine fA _ ?_ ?_) | (with_reducible refine fD ?_) | (with_reducible refine fS _ ?_) | go_size | (go_simp; done))))))) (fun o => bw4.cell (p := ⟨_, o, none⟩) (by go_size)) (fun o => bw4.frozen (p := ⟨_, o, none⟩) (by go_size))
          simp only [CellsAt] at zw4_w1H
          simp only [CellsAt] at zw4_w1H1
          simp only [CellsAt] at zw4_w2H
          clear zw3_w1H zw3_w1H1 zw3_w2H
          clear bw4
          go_wp2_with fail
          refine (P4.out _ (by (repeat' (first | (with_reducible exact Tw4.out) | (with_reducible assumption) | (with_reducible refine tab_alloc ?_ _) | (with_reducible refine tab_drewN ?_ _) | (with_reducible refine tab_drew ?_) | (with_reducible refine tab_set ?_ ?_ _) | go_size)))).mono ?_
          rintro e w5 ⟨rfl, bw5⟩
          have sw5 := bw5.size
          (try simp at sw5)
          have Aw5 : Below w.heap.size w w5 := Below.trans (by (repeat' (first | (with_reducible assumption) | (with_reducible exact Below.refl _ _) | (with_reducible refine bdN ?_ _) | (with_reducible refine Below.alloc ?_ ?_ _) | (with_reducible refine Below.drew ?_) | (with_reducible refine Below.setCell ?_ ?_ _) | go_size))) (bw5.mono (by go_size))
          have Tw5 := Lib.hid (tab_keep (by (repeat' (first | (with_reducible exact Tw4.out) | (with_reducible assumption) | (with_reducible refine tab_alloc ?_ _) | (with_reducible refine tab_drewN ?_ _) | (with_reducible refine tab_drew ?_) | (with_reducible refine tab_set ?_ ?_ _) | go_size))) bw5)
          have lw5_0 : w1.heap.size < w5.heap.size := (by go_size)
          have zw5_w1H : CellsAt w5 (w1.heap.size) 0 [.int .i64 y, .int .i64 m, .int .i64 d, .int .i64 h, .int .i64 i, .int .i64 s, .int .i64 u, .int .i64 o] := cells_keep (by (simp only [CellsAt]; (first | (go_simp; done) | ((repeat' (with_reducible refine And.intro ?_ ?_)) <;> (repeat' (first | (with_reducible assumption) | (with_reducible exact trivial) | (with_reducible refine kA _ ?_) | (with_reducible refine kD ?_) | (with_reducible refine kS _ ?_ ?_) | (with_reducible refine fA _ ?_ ?_) | (with_reducible refine fD ?_) | (with_reducible refine fS _ ?_) | go_size | (go_simp; done))))))) (fun o => bw5.cell (p := ⟨_, o, none⟩) (by go_size)) (fun o => bw5.frozen (p := ⟨_, o, none⟩) (by go_size))
          have lw5_1 : w1.heap.size+1 < w5.heap.size := (by go_size)
          have zw5_w1H1 : CellsAt w5 (w1.heap.size+1) 0 [.int .i64 0, .int .i64 0, .int .i64 0, .int .i64 pu, .int .i64 pi, .int .i64 ps] := cells_keep (by (simp only [CellsAt]; (first | (go_simp; done) | ((repeat' (with_reducible refine And.intro ?_ ?_)) <;> (repeat' (first | (with_reducible assumption) | (with_reducible exact trivial) | (with_reducible refine kA _ ?_) | (with_reducible refine kD ?_) | (with_reducible refine kS _ ?_ ?_) | (with_reducible refine fA _ ?_ ?_) | (with_reducible refine fD ?_) | (with_reducible refine fS _ ?_) | go_size | (go_simp; done))))))) (fun o => bw5.cell (p := ⟨_, o, none⟩) (by go_size)) (fun o => bw5.frozen (p := ⟨_, o, none⟩) (by go_size))
          have lw5_2 : w2.heap.size < w5.heap.size := (by go_size)
          have zw5_w2H : CellsAt w5 (w2.heap.size) 0 [.int .i64 Y, .int .i64 M, .int .i64 D, .int .i64 H, .int .i64 I, .int .i64 S, .int .i64 U, .int .i64 o] := cells_keep (by (simp only [CellsAt]; (first | (go_simp; done) | ((repeat' (with_reducible refine And.intro ?_ ?_)) <;> (repeat' (first | (with_reducible assumption) | (with_reducible exact trivial) | (with_reducible refine kA _ ?_) | (with_reducible refine kD ?_) | (with_reducible refine kS _ ?_ ?_) | (with_reducible refine fA _ ?_ ?_) | (with_reducible refine fD ?_) | (with_reducible refine fS _ ?_) | go_size | (go_simp; done))))))) (fun o => bw5.cell (p := ⟨_, o, none⟩) (by go_size)) (fun o => bw5.frozen (p := ⟨_, o, none⟩) (by go_size))
          simp only [CellsAt] at zw5_w1H
          simp only [CellsAt] at zw5_w1H1
          simp only [CellsAt] at zw5_w2H
          clear zw4_w1H zw4_w1H1 zw4_w2H
          clear bw5
          go_wp2_with fail
          go_ret
          exact ⟨rfl, by (repeat' (first | (with_reducible assumption) | (with_reducible exact Below.refl _ _) | (with_reducible refine bdN ?_ _) | (with_reducible refine Below.alloc ?_ ?_ _) | (with_reducible refine Below.drew ?_) | (with_reducible refine Below.setCell ?_ ?_ _) | go_size))⟩
      · have ht : 0 < py + po + pd := by omega
        clear HB P1 P2
        go_wp2_with fail
        go_ret
        exact ⟨rfl, by (repeat' (first | (with_reducible assumption) | (with_reducible exact Below.refl _ _) | (with_reducible refine bdN ?_ _) | (with_reducible refine Below.alloc ?_ ?_ _) | (with_reducible refine Below.drew ?_) | (with_reducible refine Below.setCell ?_ ?_ _) | go_size))⟩

theorem own : ownKnob Tryd.prog.godebug = none := by kernel_rfl
theorem laidOut : laidOutB Tryd.prog = true := by kernel_rfl

theorem gTab : Tryd.prog.globalNamed "loop.example/datenotation/impl.monthDays" = some 0 := by kernel_rfl
theorem gTabType : (Tryd.prog.globals[0]?).map (·.type) = some 144 := by kernel_rfl
theorem cellsA : Tryd.prog.cellsOf 144 = 12 := by kernel_rfl
theorem cellsE : Tryd.prog.cellsOf 3 = 1 := by kernel_rfl
theorem table {W : World} (h : laidMetH Tryd.prog Rows.fnStampPlusTimeRow.laid W) : Tab W := by
  have t : Lib.TabIs Tryd.prog W "loop.example/datenotation/impl.monthDays" .i64 [31, 28, 31, 30, 31, 30, 31, 31, 30, 31, 30, 31] := Lib.tabIs_of_head (rest := []) gTab gTabType Tryd.underlying144 Tryd.underlying3 cellsE cellsA h
  refine ⟨World.block_lt_of_cell? _ _ (t.cell gTab 0 (by decide)), fun j hj => ?_⟩
  rw [t.cell gTab j hj]
  have hj12 : j = 0 ∨ j = 1 ∨ j = 2 ∨ j = 3 ∨ j = 4 ∨ j = 5 ∨ j = 6 ∨ j = 7 ∨ j = 8 ∨ j = 9 ∨ j = 10 ∨ j = 11 := by omega
  rcases hj12 with rfl | rfl | rfl | rfl | rfl | rfl | rfl | rfl | rfl | rfl | rfl | rfl <;> rfl

/-- a world for the witness: the settled one, the table holding what its initialiser lays -/
noncomputable def laidWorld (os : Os) : World :=
  { World.holding Tryd.prog os ⟨#[], #[], []⟩ with heap := (World.holding Tryd.prog os ⟨#[], #[], []⟩).heap.modify 0 fun
      | .cells _ t frozen => .cells #[.int .i64 31, .int .i64 28, .int .i64 31, .int .i64 30, .int .i64 31, .int .i64 30, .int .i64 31, .int .i64 31, .int .i64 30, .int .i64 31, .int .i64 30, .int .i64 31] t frozen
      | o => o }
theorem laid_met (os : Os) : laidMet Tryd.prog Rows.fnStampPlusTimeRow.laid ((laidWorld os).forCall (fun _ _ => 0) ⟨#[], #[.slice none 0 0], []⟩).memory :=
  laidMet_of_run' 8 (by kernel_rfl) (by kernel_rfl)
theorem reads (os : Os) {H : Type} (enc : TypeId × Value → H) : ∃ places, DataW.whole enc Tryd.prog ((laidWorld os).forCall (fun _ _ => 0) ⟨#[], #[.slice none 0 0], []⟩).memory Tryd.f13.params.toList Rows.fnStampPlusTimeSpec.vars false (#[.slice none 0 0] : Array Value).toList 8 = some ([.nil], [Rows.laid_loop_example_datenotation_impl_monthDays], places) :=
  ⟨MemPlace.row ⟨0, 0, none⟩ 12, by kernel_rfl⟩

set_option maxRecDepth 100000 in
theorem lifted (os : Os) (started : os.Started) (H : Type) (enc : TypeId × Value → H) (F : Stop.Interp) :
    ReturnsInHanded {} Tryd.checked os 13 .any ((OpenSpec.ofChange Rows.fnStampPlusTimeSpec).preRow enc Tryd.prog Tryd.f13 Rows.fnStampPlusTimeRow.domain false Rows.fnStampPlusTimeRow.laid) (((OpenSpec.ofChange Rows.fnStampPlusTimeSpec).at F).post enc Tryd.prog Tryd.f13 false true false false) := by
  obtain ⟨places, hx⟩ := reads os enc
  refine returnsInHanded_of_row (C := Tryd.checked) (s := OpenSpec.ofChange Rows.fnStampPlusTimeSpec) own started (by kernel_rfl) Tryd.func13
    (witness_row_at (enc := enc) (C := Tryd.checked) false (laidWorld os) #[.slice none 0 0] rfl (by kernel_rfl) (by kernel_rfl) (by kernel_rfl)
      (OpenSpec.preRow_of_cond 8 hx (by kernel_rfl) (fun k hk => by cases hk) (by kernel_rfl) (laid_met os))) ?_
  intro W base args ds gs before hval0 hW _ _ _ hL _ _
  have tab := table hL
  have hval : ∀ (j : Nat) t v, Tryd.f13.params[j]? = some t → args[j]? = some v → Value.okWide Tryd.prog W .any base t v := hval0
  have hW' := hW
  obtain ⟨p, q, hA0, hV, rfl, hfz, hnd⟩ := hW
  have hA : DataW.TrodAll enc Tryd.prog W 0 (fun _ => true) true Tryd.f13.params.toList args.toList ds p := hA0
  rw [Tryd.params13] at hA hval
  obtain ⟨v0, vs0, d0, ds0, p0, q0, hargs, rfl, rfl, h0, r0⟩ := trodAll_cons hA
  obtain ⟨rfl, rfl, rfl⟩ := trodAll_nil r0
  obtain rfl : args = #[v0] := by cases args; simp_all
  obtain ⟨gv, rfl⟩ : ∃ gv, gs = [gv] := by obtain ⟨_, _, _, _, gv, _, hg, _⟩ := trodVars_one hV; exact ⟨gv, hg⟩
  have k0 := h0
  have lt0 : ∀ x ∈ p0, x.block < W.heap.size := by obtain ⟨m, hm⟩ := k0; exact DataW.trod_lt m _ _ _ hm
  obtain ⟨a0, len0, cap0, rfl⟩ := okWide_slice Tryd.underlying35 (hval 0 35 v0 rfl rfl)
  obtain ⟨z0, w0⟩ : ∃ zs, IsRow .u8 W a0 len0 cap0 zs := by
    obtain ⟨fuel, hf⟩ := h0
    rcases open_ints Tryd.underlying35 Tryd.underlying5 (by kernel_rfl) hf with ⟨hcs, _⟩ | ⟨x, l, c, zs, hcs, _, hl, hm, hz, _, hcell, hwz⟩
    · simp [Value.cells] at hcs
      obtain ⟨rfl, rfl, rfl⟩ := hcs
      exact ⟨[], .inl ⟨rfl, rfl, rfl, rfl⟩⟩
    · simp [Value.cells] at hcs
      obtain ⟨rfl, rfl, rfl⟩ := hcs
      exact ⟨zs, .inr ⟨_, rfl, hl, hm, by simpa using hz, hcell, hwz⟩⟩
  clear hA0 hval0
  refine (walk a0 len0 cap0 z0 W tab w0).mono fun e W' ⟨he, bel⟩ => ?_
  subst he
  exact ⟨_, rfl, _, _, _, [], _, _, hW', trodAll_mk1 (shut_bool Tryd.underlying4 _), (trodAll_cons_mk (Below.trod laidOut (by kernel_rfl) (of_decide_eq_true (by kernel_rfl)) k0 bel lt0) trodAll_mk0), Below.trodVars laidOut bel (by kernel_rfl) hV, bel.frame _, fun h => by cases h⟩

theorem said : Rows.FnStampPlusTimeSaid :=
  OpenClaim.holds_of_cond 13 Tryd.f13 rfl rfl rfl rfl rfl rfl rfl ⟨rfl, rfl, rfl, rfl, rfl⟩ rfl rfl rfl rfl rfl (by kernel_rfl) Tryd.func13 (by kernel_rfl)
    (of_decide_eq_true (by kernel_rfl)) (by unfold Func.isWrapper; first | (rw [if_pos (by decide +kernel)]; kernel_rfl) | (rw [if_neg (by decide +kernel)]; exact ⟨rfl, rfl⟩))
    (fun os started H enc _ F => by rw [OpenClaim.pre_eq_preRow]; exact lifted os started H enc F)
set_option maxRecDepth 100000 in
theorem plain (f : FuncId) (fn : Func) (hf : Tryd.pinned.checked.prog.funcNamed "loop.example/datenotation/laws.FnStampPlusTime" = some f) (hfn : Tryd.pinned.checked.prog.funcs[f]? = some fn) :
    false = Tryd.pinned.checked.prog.looks [] ∧ ∀ (j : Nat) t, fn.params[j]? = some t → Tryd.pinned.checked.prog.wantsStandIn t = false := by
  obtain rfl : f = 13 := Option.some.inj ((show Tryd.prog.funcNamed "loop.example/datenotation/laws.FnStampPlusTime" = some 13 by kernel_rfl).symm.trans hf) |>.symm
  obtain rfl : fn = Tryd.f13 := (Option.some.inj (Tryd.func13.symm.trans hfn)).symm
  refine ⟨by kernel_rfl, fun j t ht => ?_⟩
  rw [Tryd.params13] at ht
  have s0 : Tryd.prog.wantsStandIn 35 = false := by kernel_rfl
  have hm : t = 35 := by simpa using Array.mem_of_getElem? ht
  rcases hm with rfl
  all_goals first | exact s0

theorem proved : Rows.FnStampPlusTimeCardSaid :=
  Claim7.holds_tied_plain_at .later [] _ _ _ _ said (fun _ h => by cases h) (by kernel_rfl) (fun _ h => by cases h) fnStampPlusTime_row_tie rfl ⟨rfl, rfl⟩ (by kernel_rfl) rfl plain (by kernel_rfl)
#print axioms proved
end Go.Proofs.YtacglejojkamfaaDoor.lawStampPlusTime
