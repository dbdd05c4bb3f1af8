/- The law FnDateTextOrder: the text of the next day is greater. For every input; the table of the months' days is laid by its text. -/
import Derived.Test.YtfailbghnpfcdaaDoorDateB
import Derived.Test.YtfailbghnpfcdaaDoorDrawDT
import Derived.Test.YtfailbghnpfcdaaDoorDateOf
import Derived.WalkLawsBesides
import Derived.ProofKit
import Derived.ChangeAlike
import Derived.OpenShut
import Derived.ShutString
import Derived.ChangeOld
import Derived.Test.YtfailbghnpfcdaaDoorCards
import Derived.Test.YtfailbghnpfcdaaDoorTie
import Derived.Deep.DeepHandedRow
import Derived.Lib.LaidTab
import Derived.OpenVars
import Derived.ChangeVars
namespace Go.Proofs.YtfailbghnpfcdaaDoor.lawDateTextOrder
set_option linter.unusedSimpArgs false
open Go.Proofs.YtfailbghnpfcdaaDoor Go.RowKit DN
open Go.ChangeShapes Go.WideShapes Go.ChangeAt
set_option linter.unusedVariables false

theorem less_pre (p x y : List UInt8) : Op.bytesLess (p ++ x) (p ++ y) = Op.bytesLess x y := by
  induction p with
  | nil => rfl
  | cons a r ih =>
    show (decide (a < a) || (a == a && Op.bytesLess (r ++ x) (r ++ y))) = _
    rw [ih]
    simp
theorem less_cons (a b : UInt8) (x y : List UInt8) (h : a.toNat < b.toNat) : Op.bytesLess (a :: x) (b :: y) = true := by
  show (decide (a < b) || _) = true
  rw [decide_eq_true (UInt8.lt_iff_toNat_lt.2 h)]
  rfl
theorem dgL_less (k : Nat) : ∀ (a b : Int) (x y : List UInt8), 0 ≤ a → a < b → b < 10 ^ k → Op.bytesLess (dgL k a ++ x) (dgL k b ++ y) = true := by
  induction k with
  | zero => intro a b x y h1 h2 h3; simp at h3; omega
  | succ k ih =>
    intro a b x y h1 h2 h3
    rw [Int.pow_succ] at h3
    simp only [dgL, List.append_assoc]
    by_cases e : a / 10 = b / 10
    · rw [e, less_pre]
      refine less_cons _ _ _ _ ?_
      have e1 := dgB_num a
      have e2 := dgB_num b
      omega
    · exact ih (a / 10) (b / 10) _ _ (by omega) (by omega) (by omega)
theorem jl3 (h : Bool) (a b c : ByteArray) : ∃ q : List UInt8, (jn3 h a b c).toList = a.data.toList ++ (q ++ (b.data.toList ++ (q ++ c.data.toList))) ∧ q = if h = true then [45] else [] := by
  rw [ByteArray.toList_eq]
  cases h <;> exact ⟨_, by simp [jn3], rfl⟩
theorem jl2 (h : Bool) (a b : ByteArray) : ∃ q : List UInt8, (jn2 h a b).toList = a.data.toList ++ (q ++ b.data.toList) ∧ q = if h = true then [45] else [] := by
  rw [ByteArray.toList_eq]
  cases h <;> exact ⟨_, by simp [jn2], rfl⟩
theorem dgS_list (k : Nat) (n : Int) : (dgS k n).data.toList = dgL k n := by simp [dgS]
theorem lex3 (h : Bool) (k1 k2 k3 : Nat) (p : List UInt8) (a b c a' b' c' : Int) (s2 s2' : ByteArray) (e2 : s2.data.toList = p ++ dgL k2 b) (e2' : s2'.data.toList = p ++ dgL k2 b') (h1 : 0 ≤ a) (h2 : 0 ≤ b) (h3 : 0 ≤ c) (m1 : a' < 10 ^ k1) (m2 : b' < 10 ^ k2) (m3 : c' < 10 ^ k3)
    (g : a < a' ∨ (a = a' ∧ (b < b' ∨ (b = b' ∧ c < c')))) : Op.bytesLess (jn3 h (dgS k1 a) s2 (dgS k3 c)).toList (jn3 h (dgS k1 a') s2' (dgS k3 c')).toList = true := by
  obtain ⟨q, e, hq⟩ := jl3 h (dgS k1 a) s2 (dgS k3 c)
  obtain ⟨q', e', hq'⟩ := jl3 h (dgS k1 a') s2' (dgS k3 c')
  have : q' = q := hq'.trans hq.symm
  subst this
  rw [e, e', dgS_list, dgS_list, dgS_list, dgS_list, e2, e2']
  rcases g with g | ⟨rfl, g | ⟨rfl, g⟩⟩
  · exact dgL_less k1 _ _ _ _ h1 g m1
  · rw [less_pre, less_pre, List.append_assoc, List.append_assoc, less_pre]
    exact dgL_less k2 _ _ _ _ h2 g m2
  · rw [less_pre, less_pre, List.append_assoc, List.append_assoc, less_pre, less_pre, less_pre]
    have := dgL_less k3 _ _ [] [] h3 g m3
    simpa using this
theorem lex2 (h : Bool) (k1 k3 : Nat) (a c a' c' : Int) (h1 : 0 ≤ a) (h3 : 0 ≤ c) (m1 : a' < 10 ^ k1) (m3 : c' < 10 ^ k3)
    (g : a < a' ∨ (a = a' ∧ c < c')) : Op.bytesLess (jn2 h (dgS k1 a) (dgS k3 c)).toList (jn2 h (dgS k1 a') (dgS k3 c')).toList = true := by
  obtain ⟨q, e, hq⟩ := jl2 h (dgS k1 a) (dgS k3 c)
  obtain ⟨q', e', hq'⟩ := jl2 h (dgS k1 a') (dgS k3 c')
  have : q' = q := hq'.trans hq.symm
  subst this
  rw [e, e', dgS_list, dgS_list, dgS_list, dgS_list]
  rcases g with g | ⟨rfl, g⟩
  · exact dgL_less k1 _ _ _ _ h1 g m1
  · rw [less_pre, less_pre]
    have := dgL_less k3 _ _ [] [] h3 g m3
    simpa using this
theorem year_next {n y m d y' m' d' : Int} (h : IsD n y m d) (h' : IsD (n + 1) y' m' d') : y ≤ y' := by
  obtain ⟨a1, a2, a3, a4⟩ := isD_year h
  exact isD_year_lt h' a1 (by omega)
theorem next_month {n y m d y' m' d' : Int} (h : IsD n y m d) (h' : IsD (n + 1) y' m' d') : y < y' ∨ (y = y' ∧ (m < m' ∨ (m = m' ∧ d < d'))) := by
  have hy := year_next h h'
  rcases Int.lt_or_eq_of_le hy with g | g
  · exact .inl g
  · subst g
    refine .inr ⟨rfl, ?_⟩
    obtain ⟨a1, a2, a3, a4, a5⟩ := isD_month h
    obtain ⟨b1, b2, b3, b4, b5⟩ := isD_month h'
    have : m ≤ m' := isD_month_lt h' a1 a2 (by omega)
    rcases Int.lt_or_eq_of_le this with k | k
    · exact .inl k
    · subst k; exact .inr ⟨rfl, by omega⟩
theorem next_day {n y m d y' m' d' : Int} (h : IsD n y m d) (h' : IsD (n + 1) y' m' d') : y < y' ∨ (y = y' ∧ mc y m + d < mc y' m' + d') := by
  have hy := year_next h h'
  rcases Int.lt_or_eq_of_le hy with g | g
  · exact .inl g
  · subst g
    obtain ⟨a1, a2, a3, a4, a5⟩ := isD_month h
    obtain ⟨b1, b2, b3, b4, b5⟩ := isD_month h'
    exact .inr ⟨rfl, by omega⟩
theorem next_week {n Y mm dd Y' mm' dd' : Int} (h0 : 0 ≤ n) (h : IsD (n - n % 7 + 3) Y mm dd) (h' : IsD (n + 1 - (n + 1) % 7 + 3) Y' mm' dd') :
    Y < Y' ∨ (Y = Y' ∧ ((n - n % 7 + 3 - yb Y) / 7 + 1 < (n + 1 - (n + 1) % 7 + 3 - yb Y') / 7 + 1 ∨ ((n - n % 7 + 3 - yb Y) / 7 + 1 = (n + 1 - (n + 1) % 7 + 3 - yb Y') / 7 + 1 ∧ n % 7 + 1 < (n + 1) % 7 + 1))) := by
  obtain ⟨a1, a2, a3, a4⟩ := isD_year h
  obtain ⟨b1, b2, b3, b4⟩ := isD_year h'
  have hy : Y ≤ Y' := isD_year_lt h' a1 (by omega)
  rcases Int.lt_or_eq_of_le hy with g | g
  · exact .inl g
  · subst g
    refine .inr ⟨rfl, ?_⟩
    generalize yb Y = k at *
    omega
theorem order {y m d f y' m' d' : Int} {h : Bool} {S S' : ByteArray} (hv : vd y m d = true) (hn : IsD (dn y m d + 1) y' m' d') (g : DtIs y m d f h S) (g' : DtIs y' m' d' f h S') : Op.bytesLess S.toList S'.toList = true := by
  have h1 := isD_dn hv
  obtain ⟨v1, v2, v3, v4, v5, v6⟩ := vd_bd hv
  obtain ⟨u1, u2, u3, u4, u5, u6⟩ := vd_bd hn.1
  rcases g with ⟨rfl, rfl⟩ | ⟨rfl, Y, mm, dd, hw, rfl⟩ | ⟨rfl, rfl⟩
  · rcases g' with ⟨_, rfl⟩ | ⟨e, _⟩ | ⟨e, _⟩
    · exact lex3 h 4 2 2 [] y m d y' m' d' _ _ (by simp [dgS]) (by simp [dgS]) (by omega) (by omega) (by omega) (by omega) (by omega) (by omega) (next_month h1 hn)
    · omega
    · omega
  · rcases g' with ⟨e, _⟩ | ⟨_, Y', mm', dd', hw', rfl⟩ | ⟨e, _⟩
    · omega
    · have e1 : dn y' m' d' = dn y m d + 1 := hn.2
      rw [e1] at hw' ⊢
      obtain ⟨n1, n2⟩ := dn_bd hv
      have nx := next_week n1 hw hw'
      obtain ⟨a1, a2, a3, a4⟩ := isD_year hw
      obtain ⟨b1, b2, b3, b4⟩ := isD_year hw'
      have s := yb_succ Y' b1
      have l := lpI_01 Y'
      generalize dn y m d = n at *
      refine lex3 h 4 2 1 [87] Y _ _ Y' _ _ _ _ (by simp [dgS]) (by simp [dgS]) (by omega) (by omega) (by omega) (by omega) (by omega) (by omega) nx
    · omega
  · rcases g' with ⟨e, _⟩ | ⟨e, _⟩ | ⟨_, rfl⟩
    · omega
    · omega
    · obtain ⟨m1, m2⟩ := mc_bd y m v3 (by omega)
      obtain ⟨m3, m4⟩ := mc_bd y' m' u3 (by omega)
      exact lex2 h 4 3 y _ y' _ (by omega) (by omega) (by omega) (by omega) (next_day h1 hn)
theorem less_asym : ∀ (x y : List UInt8), Op.bytesLess x y = true → Op.bytesLess y x = false ∧ (y == x) = false
  | _, [], h => by simp [Op.bytesLess] at h
  | [], _ :: _, _ => ⟨rfl, rfl⟩
  | a :: x, b :: y, h => by
    have h' : (decide (a < b) || (a == b && Op.bytesLess x y)) = true := h
    rw [Bool.or_eq_true, decide_eq_true_eq, Bool.and_eq_true, beq_iff_eq] at h'
    show (decide (b < a) || (b == a && Op.bytesLess y x)) = false ∧ _
    rcases h' with g | ⟨rfl, g⟩
    · rw [UInt8.lt_iff_toNat_lt] at g
      have e1 : decide (b < a) = false := by rw [decide_eq_false_iff_not, UInt8.lt_iff_toNat_lt]; omega
      have e2 : (b == a) = false := by rw [beq_eq_false_iff_ne]; rintro rfl; omega
      exact ⟨by rw [e1, e2]; rfl, by show (b == a && y == x) = false; rw [e2]; rfl⟩
    · obtain ⟨i1, i2⟩ := less_asym x y g
      exact ⟨by rw [i1]; simp [UInt8.lt_irrefl], by show (a == a && y == x) = false; rw [i2]; simp⟩
theorem date_yes (y m d f : Int) (h : Bool) (hv : vd y m d = true) (hf : f = 0 ∨ f = 1 ∨ f = 2) : ∃ S, DtI y m d f h S true ∧ DtIs y m d f h S := by
  rcases hf with rfl | rfl | rfl
  · exact ⟨_, dtI_0 y m d h hv, .inl ⟨rfl, rfl⟩⟩
  · obtain ⟨n1, n2⟩ := dn_bd hv
    obtain ⟨Y, mm, dd, hw⟩ := isD_thu n1 n2
    exact ⟨_, dtI_1 y m d h hv Y mm dd hw, .inr (.inl ⟨rfl, Y, mm, dd, hw, rfl⟩)⟩
  · exact ⟨_, dtI_2 y m d h hv, .inr (.inr ⟨rfl, rfl⟩)⟩
theorem dtIs_f {y m d f : Int} {h : Bool} {S : ByteArray} (g : DtIs y m d f h S) : f = 0 ∨ f = 1 ∨ f = 2 := by
  rcases g with ⟨e, _⟩ | ⟨e, _⟩ | ⟨e, _⟩
  · exact .inl e
  · exact .inr (.inl e)
  · exact .inr (.inr e)
theorem ofDay_yes {n y m d : Int} (h : OfDay n y m d true) : IsD n y m d := by
  rcases h with ⟨_, h⟩ | ⟨h, _⟩
  · exact h
  · cases h
set_option maxHeartbeats 2000000 in
theorem walk (a : Option Addr) (len cap : Nat) (zs : List Int) (w : World) (T : Tab w) (h : IsRow .u8 w a len cap zs) : Calls Tryd.prog 5 #[.slice a len cap] w fun e w' => e = .returned (.bool true) ∧ Below w.heap.size w w' := by
  by_cases hlen : 1048576 < len
  · clear T
    go_enter Tryd.func5, Tryd.ntmps5
    go_wp2
    go_ret
    exact ⟨rfl, Below.refl _ _⟩
  · have HX := Lib.hid h
    have T0 := Lib.hid T
    clear h T
    go_enter Tryd.func5, Tryd.ntmps5
    go_wp2_with fail
    refine (DrawDateText_any _ _ _ _ _ HX.out).mono ?_
    rintro e w1 ⟨y, m, d, f, hy, rfl, bw1⟩
    have sw1 := bw1.size
    (try simp at sw1)
    have Aw1 : Below w.heap.size w w1 := Below.trans (by (repeat' (first | (with_reducible assumption) | (with_reducible exact Below.refl _ _) | (with_reducible refine bdN ?_ _) | (with_reducible refine Below.alloc ?_ ?_ _) | (with_reducible refine Below.drew ?_) | (with_reducible refine Below.setCell ?_ ?_ _) | go_size))) (bw1.mono (by go_size))
    have Tw1 := Lib.hid (tab_keep (by (repeat' (first | (with_reducible exact T0.out) | (with_reducible assumption) | (with_reducible refine tab_alloc ?_ _) | (with_reducible refine tab_drewN ?_ _) | (with_reducible refine tab_drew ?_) | (with_reducible refine tab_set ?_ ?_ _) | go_size))) bw1)
    clear bw1
    obtain ⟨S, b, I, R, hS⟩ := date_both y m d f hy
    have HI := Lib.hid I
    have HR := Lib.hid R
    clear HX I R
    cases b
    · clear hS
      go_wp2_with fail
      refine (HI.out _ (by (repeat' (first | (with_reducible exact Tw1.out) | (with_reducible assumption) | (with_reducible refine tab_alloc ?_ _) | (with_reducible refine tab_drewN ?_ _) | (with_reducible refine tab_drew ?_) | (with_reducible refine tab_set ?_ ?_ _) | go_size)))).mono ?_
      rintro e w2 ⟨rfl, bw2⟩
      have sw2 := bw2.size
      (try simp at sw2)
      have Aw2 : Below w.heap.size w w2 := Below.trans (by (repeat' (first | (with_reducible assumption) | (with_reducible exact Below.refl _ _) | (with_reducible refine bdN ?_ _) | (with_reducible refine Below.alloc ?_ ?_ _) | (with_reducible refine Below.drew ?_) | (with_reducible refine Below.setCell ?_ ?_ _) | go_size))) (bw2.mono (by go_size))
      have Tw2 := Lib.hid (tab_keep (by (repeat' (first | (with_reducible exact Tw1.out) | (with_reducible assumption) | (with_reducible refine tab_alloc ?_ _) | (with_reducible refine tab_drewN ?_ _) | (with_reducible refine tab_drew ?_) | (with_reducible refine tab_set ?_ ?_ _) | go_size))) bw2)
      have lw2_0 : w1.heap.size < w2.heap.size := (by go_size)
      have zw2_w1H : CellsAt w2 (w1.heap.size) 0 [.int .i64 y, .int .i64 m, .int .i64 d] := cells_keep (by (simp only [CellsAt]; (first | (go_simp; done) | ((repeat' (with_reducible refine And.intro ?_ ?_)) <;> (repeat' (first | (with_reducible assumption) | (with_reducible exact trivial) | (with_reducible refine kA _ ?_) | (with_reducible refine kD ?_) | (with_reducible refine kS _ ?_ ?_) | (with_reducible refine fA _ ?_ ?_) | (with_reducible refine fD ?_) | (with_reducible refine fS _ ?_) | go_size | (go_simp; done))))))) (fun o => bw2.cell (p := ⟨_, o, none⟩) (by go_size)) (fun o => bw2.frozen (p := ⟨_, o, none⟩) (by go_size))
      simp only [CellsAt] at zw2_w1H
      clear bw2
      go_wp2_with fail
      refine (HR.out _).mono ?_
      rintro e w3 ⟨rfl, bw3⟩
      have sw3 := bw3.size
      (try simp at sw3)
      have Aw3 : Below w.heap.size w w3 := Below.trans (by (repeat' (first | (with_reducible assumption) | (with_reducible exact Below.refl _ _) | (with_reducible refine bdN ?_ _) | (with_reducible refine Below.alloc ?_ ?_ _) | (with_reducible refine Below.drew ?_) | (with_reducible refine Below.setCell ?_ ?_ _) | go_size))) (bw3.mono (by go_size))
      have Tw3 := Lib.hid (tab_keep (by (repeat' (first | (with_reducible exact Tw2.out) | (with_reducible assumption) | (with_reducible refine tab_alloc ?_ _) | (with_reducible refine tab_drewN ?_ _) | (with_reducible refine tab_drew ?_) | (with_reducible refine tab_set ?_ ?_ _) | go_size))) bw3)
      have lw3_0 : w1.heap.size < w3.heap.size := (by go_size)
      have zw3_w1H : CellsAt w3 (w1.heap.size) 0 [.int .i64 y, .int .i64 m, .int .i64 d] := cells_keep (by (simp only [CellsAt]; (first | (go_simp; done) | ((repeat' (with_reducible refine And.intro ?_ ?_)) <;> (repeat' (first | (with_reducible assumption) | (with_reducible exact trivial) | (with_reducible refine kA _ ?_) | (with_reducible refine kD ?_) | (with_reducible refine kS _ ?_ ?_) | (with_reducible refine fA _ ?_ ?_) | (with_reducible refine fD ?_) | (with_reducible refine fS _ ?_) | go_size | (go_simp; done))))))) (fun o => bw3.cell (p := ⟨_, o, none⟩) (by go_size)) (fun o => bw3.frozen (p := ⟨_, o, none⟩) (by go_size))
      simp only [CellsAt] at zw3_w1H
      clear zw2_w1H
      clear bw3
      go_wp2_with fail
      go_ret
      exact ⟨rfl, by (repeat' (first | (with_reducible assumption) | (with_reducible exact Below.refl _ _) | (with_reducible refine bdN ?_ _) | (with_reducible refine Below.alloc ?_ ?_ _) | (with_reducible refine Below.drew ?_) | (with_reducible refine Below.setCell ?_ ?_ _) | go_size))⟩
    · obtain ⟨hv, g⟩ := hS rfl
      clear hS
      have N := Lib.hid (fun w T => dayNumber_i y m d w T true hv)
      simp only [cond_true] at N
      obtain ⟨n1, n2⟩ := dn_bd hv
      obtain ⟨y', m', d', b', hd⟩ := ofDay_ex (dn y m d + 1)
      have D := Lib.hid (fun w T => dateOf_i (dn y m d + 1) y' m' d' b' w T hd)
      have HV := Lib.hid hv
      have HG := Lib.hid g
      have HD := Lib.hid hd
      clear hv g hd
      cases b'
      · clear HV HG HD
        generalize dn y m d = n at *
        go_wp2_with fail
        refine (HI.out _ (by (repeat' (first | (with_reducible exact Tw1.out) | (with_reducible assumption) | (with_reducible refine tab_alloc ?_ _) | (with_reducible refine tab_drewN ?_ _) | (with_reducible refine tab_drew ?_) | (with_reducible refine tab_set ?_ ?_ _) | go_size)))).mono ?_
        rintro e w2 ⟨rfl, bw2⟩
        have sw2 := bw2.size
        (try simp at sw2)
        have Aw2 : Below w.heap.size w w2 := Below.trans (by (repeat' (first | (with_reducible assumption) | (with_reducible exact Below.refl _ _) | (with_reducible refine bdN ?_ _) | (with_reducible refine Below.alloc ?_ ?_ _) | (with_reducible refine Below.drew ?_) | (with_reducible refine Below.setCell ?_ ?_ _) | go_size))) (bw2.mono (by go_size))
        have Tw2 := Lib.hid (tab_keep (by (repeat' (first | (with_reducible exact Tw1.out) | (with_reducible assumption) | (with_reducible refine tab_alloc ?_ _) | (with_reducible refine tab_drewN ?_ _) | (with_reducible refine tab_drew ?_) | (with_reducible refine tab_set ?_ ?_ _) | go_size))) bw2)
        have lw2_0 : w1.heap.size < w2.heap.size := (by go_size)
        have zw2_w1H : CellsAt w2 (w1.heap.size) 0 [.int .i64 y, .int .i64 m, .int .i64 d] := cells_keep (by (simp only [CellsAt]; (first | (go_simp; done) | ((repeat' (with_reducible refine And.intro ?_ ?_)) <;> (repeat' (first | (with_reducible assumption) | (with_reducible exact trivial) | (with_reducible refine kA _ ?_) | (with_reducible refine kD ?_) | (with_reducible refine kS _ ?_ ?_) | (with_reducible refine fA _ ?_ ?_) | (with_reducible refine fD ?_) | (with_reducible refine fS _ ?_) | go_size | (go_simp; done))))))) (fun o => bw2.cell (p := ⟨_, o, none⟩) (by go_size)) (fun o => bw2.frozen (p := ⟨_, o, none⟩) (by go_size))
        simp only [CellsAt] at zw2_w1H
        clear bw2
        go_wp2_with fail
        refine (HR.out _).mono ?_
        rintro e w3 ⟨rfl, bw3⟩
        have sw3 := bw3.size
        (try simp at sw3)
        have Aw3 : Below w.heap.size w w3 := Below.trans (by (repeat' (first | (with_reducible assumption) | (with_reducible exact Below.refl _ _) | (with_reducible refine bdN ?_ _) | (with_reducible refine Below.alloc ?_ ?_ _) | (with_reducible refine Below.drew ?_) | (with_reducible refine Below.setCell ?_ ?_ _) | go_size))) (bw3.mono (by go_size))
        have Tw3 := Lib.hid (tab_keep (by (repeat' (first | (with_reducible exact Tw2.out) | (with_reducible assumption) | (with_reducible refine tab_alloc ?_ _) | (with_reducible refine tab_drewN ?_ _) | (with_reducible refine tab_drew ?_) | (with_reducible refine tab_set ?_ ?_ _) | go_size))) bw3)
        have lw3_0 : w1.heap.size < w3.heap.size := (by go_size)
        have zw3_w1H : CellsAt w3 (w1.heap.size) 0 [.int .i64 y, .int .i64 m, .int .i64 d] := cells_keep (by (simp only [CellsAt]; (first | (go_simp; done) | ((repeat' (with_reducible refine And.intro ?_ ?_)) <;> (repeat' (first | (with_reducible assumption) | (with_reducible exact trivial) | (with_reducible refine kA _ ?_) | (with_reducible refine kD ?_) | (with_reducible refine kS _ ?_ ?_) | (with_reducible refine fA _ ?_ ?_) | (with_reducible refine fD ?_) | (with_reducible refine fS _ ?_) | go_size | (go_simp; done))))))) (fun o => bw3.cell (p := ⟨_, o, none⟩) (by go_size)) (fun o => bw3.frozen (p := ⟨_, o, none⟩) (by go_size))
        simp only [CellsAt] at zw3_w1H
        clear zw2_w1H
        clear bw3
        go_wp2_with fail
        refine (N.out _ (by (repeat' (first | (with_reducible exact Tw3.out) | (with_reducible assumption) | (with_reducible refine tab_alloc ?_ _) | (with_reducible refine tab_drewN ?_ _) | (with_reducible refine tab_drew ?_) | (with_reducible refine tab_set ?_ ?_ _) | go_size)))).mono ?_
        rintro e w4 ⟨rfl, bw4⟩
        have sw4 := bw4.size
        (try simp at sw4)
        have Aw4 : Below w.heap.size w w4 := Below.trans (by (repeat' (first | (with_reducible assumption) | (with_reducible exact Below.refl _ _) | (with_reducible refine bdN ?_ _) | (with_reducible refine Below.alloc ?_ ?_ _) | (with_reducible refine Below.drew ?_) | (with_reducible refine Below.setCell ?_ ?_ _) | go_size))) (bw4.mono (by go_size))
        have Tw4 := Lib.hid (tab_keep (by (repeat' (first | (with_reducible exact Tw3.out) | (with_reducible assumption) | (with_reducible refine tab_alloc ?_ _) | (with_reducible refine tab_drewN ?_ _) | (with_reducible refine tab_drew ?_) | (with_reducible refine tab_set ?_ ?_ _) | go_size))) bw4)
        have lw4_0 : w1.heap.size < w4.heap.size := (by go_size)
        have zw4_w1H : CellsAt w4 (w1.heap.size) 0 [.int .i64 y, .int .i64 m, .int .i64 d] := cells_keep (by (simp only [CellsAt]; (first | (go_simp; done) | ((repeat' (with_reducible refine And.intro ?_ ?_)) <;> (repeat' (first | (with_reducible assumption) | (with_reducible exact trivial) | (with_reducible refine kA _ ?_) | (with_reducible refine kD ?_) | (with_reducible refine kS _ ?_ ?_) | (with_reducible refine fA _ ?_ ?_) | (with_reducible refine fD ?_) | (with_reducible refine fS _ ?_) | go_size | (go_simp; done))))))) (fun o => bw4.cell (p := ⟨_, o, none⟩) (by go_size)) (fun o => bw4.frozen (p := ⟨_, o, none⟩) (by go_size))
        simp only [CellsAt] at zw4_w1H
        clear zw3_w1H
        clear bw4
        go_wp2_with fail
        refine (D.out _ (by (repeat' (first | (with_reducible exact Tw4.out) | (with_reducible assumption) | (with_reducible refine tab_alloc ?_ _) | (with_reducible refine tab_drewN ?_ _) | (with_reducible refine tab_drew ?_) | (with_reducible refine tab_set ?_ ?_ _) | go_size)))).mono ?_
        rintro e w5 ⟨rfl, bw5⟩
        have sw5 := bw5.size
        (try simp at sw5)
        have Aw5 : Below w.heap.size w w5 := Below.trans (by (repeat' (first | (with_reducible assumption) | (with_reducible exact Below.refl _ _) | (with_reducible refine bdN ?_ _) | (with_reducible refine Below.alloc ?_ ?_ _) | (with_reducible refine Below.drew ?_) | (with_reducible refine Below.setCell ?_ ?_ _) | go_size))) (bw5.mono (by go_size))
        have Tw5 := Lib.hid (tab_keep (by (repeat' (first | (with_reducible exact Tw4.out) | (with_reducible assumption) | (with_reducible refine tab_alloc ?_ _) | (with_reducible refine tab_drewN ?_ _) | (with_reducible refine tab_drew ?_) | (with_reducible refine tab_set ?_ ?_ _) | go_size))) bw5)
        have lw5_0 : w1.heap.size < w5.heap.size := (by go_size)
        have zw5_w1H : CellsAt w5 (w1.heap.size) 0 [.int .i64 y, .int .i64 m, .int .i64 d] := cells_keep (by (simp only [CellsAt]; (first | (go_simp; done) | ((repeat' (with_reducible refine And.intro ?_ ?_)) <;> (repeat' (first | (with_reducible assumption) | (with_reducible exact trivial) | (with_reducible refine kA _ ?_) | (with_reducible refine kD ?_) | (with_reducible refine kS _ ?_ ?_) | (with_reducible refine fA _ ?_ ?_) | (with_reducible refine fD ?_) | (with_reducible refine fS _ ?_) | go_size | (go_simp; done))))))) (fun o => bw5.cell (p := ⟨_, o, none⟩) (by go_size)) (fun o => bw5.frozen (p := ⟨_, o, none⟩) (by go_size))
        simp only [CellsAt] at zw5_w1H
        clear zw4_w1H
        clear bw5
        go_wp2_with fail
        go_ret
        exact ⟨rfl, by (repeat' (first | (with_reducible assumption) | (with_reducible exact Below.refl _ _) | (with_reducible refine bdN ?_ _) | (with_reducible refine Below.alloc ?_ ?_ _) | (with_reducible refine Below.drew ?_) | (with_reducible refine Below.setCell ?_ ?_ _) | go_size))⟩
      · have hn := ofDay_yes HD.out
        obtain ⟨S', I', g'⟩ := date_yes y' m' d' f hy hn.1 (dtIs_f HG.out)
        have HI' := Lib.hid I'
        obtain ⟨q1, q2⟩ := less_asym _ _ (order HV.out hn HG.out g')
        clear hn g' I' HV HG HD
        generalize dn y m d = n at *
        go_wp2_with fail
        refine (HI.out _ (by (repeat' (first | (with_reducible exact Tw1.out) | (with_reducible assumption) | (with_reducible refine tab_alloc ?_ _) | (with_reducible refine tab_drewN ?_ _) | (with_reducible refine tab_drew ?_) | (with_reducible refine tab_set ?_ ?_ _) | go_size)))).mono ?_
        rintro e w2 ⟨rfl, bw2⟩
        have sw2 := bw2.size
        (try simp at sw2)
        have Aw2 : Below w.heap.size w w2 := Below.trans (by (repeat' (first | (with_reducible assumption) | (with_reducible exact Below.refl _ _) | (with_reducible refine bdN ?_ _) | (with_reducible refine Below.alloc ?_ ?_ _) | (with_reducible refine Below.drew ?_) | (with_reducible refine Below.setCell ?_ ?_ _) | go_size))) (bw2.mono (by go_size))
        have Tw2 := Lib.hid (tab_keep (by (repeat' (first | (with_reducible exact Tw1.out) | (with_reducible assumption) | (with_reducible refine tab_alloc ?_ _) | (with_reducible refine tab_drewN ?_ _) | (with_reducible refine tab_drew ?_) | (with_reducible refine tab_set ?_ ?_ _) | go_size))) bw2)
        have lw2_0 : w1.heap.size < w2.heap.size := (by go_size)
        have zw2_w1H : CellsAt w2 (w1.heap.size) 0 [.int .i64 y, .int .i64 m, .int .i64 d] := cells_keep (by (simp only [CellsAt]; (first | (go_simp; done) | ((repeat' (with_reducible refine And.intro ?_ ?_)) <;> (repeat' (first | (with_reducible assumption) | (with_reducible exact trivial) | (with_reducible refine kA _ ?_) | (with_reducible refine kD ?_) | (with_reducible refine kS _ ?_ ?_) | (with_reducible refine fA _ ?_ ?_) | (with_reducible refine fD ?_) | (with_reducible refine fS _ ?_) | go_size | (go_simp; done))))))) (fun o => bw2.cell (p := ⟨_, o, none⟩) (by go_size)) (fun o => bw2.frozen (p := ⟨_, o, none⟩) (by go_size))
        simp only [CellsAt] at zw2_w1H
        clear bw2
        go_wp2_with fail
        refine (HR.out _).mono ?_
        rintro e w3 ⟨rfl, bw3⟩
        have sw3 := bw3.size
        (try simp at sw3)
        have Aw3 : Below w.heap.size w w3 := Below.trans (by (repeat' (first | (with_reducible assumption) | (with_reducible exact Below.refl _ _) | (with_reducible refine bdN ?_ _) | (with_reducible refine Below.alloc ?_ ?_ _) | (with_reducible refine Below.drew ?_) | (with_reducible refine Below.setCell ?_ ?_ _) | go_size))) (bw3.mono (by go_size))
        have Tw3 := Lib.hid (tab_keep (by (repeat' (first | (with_reducible exact Tw2.out) | (with_reducible assumption) | (with_reducible refine tab_alloc ?_ _) | (with_reducible refine tab_drewN ?_ _) | (with_reducible refine tab_drew ?_) | (with_reducible refine tab_set ?_ ?_ _) | go_size))) bw3)
        have lw3_0 : w1.heap.size < w3.heap.size := (by go_size)
        have zw3_w1H : CellsAt w3 (w1.heap.size) 0 [.int .i64 y, .int .i64 m, .int .i64 d] := cells_keep (by (simp only [CellsAt]; (first | (go_simp; done) | ((repeat' (with_reducible refine And.intro ?_ ?_)) <;> (repeat' (first | (with_reducible assumption) | (with_reducible exact trivial) | (with_reducible refine kA _ ?_) | (with_reducible refine kD ?_) | (with_reducible refine kS _ ?_ ?_) | (with_reducible refine fA _ ?_ ?_) | (with_reducible refine fD ?_) | (with_reducible refine fS _ ?_) | go_size | (go_simp; done))))))) (fun o => bw3.cell (p := ⟨_, o, none⟩) (by go_size)) (fun o => bw3.frozen (p := ⟨_, o, none⟩) (by go_size))
        simp only [CellsAt] at zw3_w1H
        clear zw2_w1H
        clear bw3
        go_wp2_with fail
        refine (N.out _ (by (repeat' (first | (with_reducible exact Tw3.out) | (with_reducible assumption) | (with_reducible refine tab_alloc ?_ _) | (with_reducible refine tab_drewN ?_ _) | (with_reducible refine tab_drew ?_) | (with_reducible refine tab_set ?_ ?_ _) | go_size)))).mono ?_
        rintro e w4 ⟨rfl, bw4⟩
        have sw4 := bw4.size
        (try simp at sw4)
        have Aw4 : Below w.heap.size w w4 := Below.trans (by (repeat' (first | (with_reducible assumption) | (with_reducible exact Below.refl _ _) | (with_reducible refine bdN ?_ _) | (with_reducible refine Below.alloc ?_ ?_ _) | (with_reducible refine Below.drew ?_) | (with_reducible refine Below.setCell ?_ ?_ _) | go_size))) (bw4.mono (by go_size))
        have Tw4 := Lib.hid (tab_keep (by (repeat' (first | (with_reducible exact Tw3.out) | (with_reducible assumption) | (with_reducible refine tab_alloc ?_ _) | (with_reducible refine tab_drewN ?_ _) | (with_reducible refine tab_drew ?_) | (with_reducible refine tab_set ?_ ?_ _) | go_size))) bw4)
        have lw4_0 : w1.heap.size < w4.heap.size := (by go_size)
        have zw4_w1H : CellsAt w4 (w1.heap.size) 0 [.int .i64 y, .int .i64 m, .int .i64 d] := cells_keep (by (simp only [CellsAt]; (first | (go_simp; done) | ((repeat' (with_reducible refine And.intro ?_ ?_)) <;> (repeat' (first | (with_reducible assumption) | (with_reducible exact trivial) | (with_reducible refine kA _ ?_) | (with_reducible refine kD ?_) | (with_reducible refine kS _ ?_ ?_) | (with_reducible refine fA _ ?_ ?_) | (with_reducible refine fD ?_) | (with_reducible refine fS _ ?_) | go_size | (go_simp; done))))))) (fun o => bw4.cell (p := ⟨_, o, none⟩) (by go_size)) (fun o => bw4.frozen (p := ⟨_, o, none⟩) (by go_size))
        simp only [CellsAt] at zw4_w1H
        clear zw3_w1H
        clear bw4
        go_wp2_with fail
        refine (D.out _ (by (repeat' (first | (with_reducible exact Tw4.out) | (with_reducible assumption) | (with_reducible refine tab_alloc ?_ _) | (with_reducible refine tab_drewN ?_ _) | (with_reducible refine tab_drew ?_) | (with_reducible refine tab_set ?_ ?_ _) | go_size)))).mono ?_
        rintro e w5 ⟨rfl, bw5⟩
        have sw5 := bw5.size
        (try simp at sw5)
        have Aw5 : Below w.heap.size w w5 := Below.trans (by (repeat' (first | (with_reducible assumption) | (with_reducible exact Below.refl _ _) | (with_reducible refine bdN ?_ _) | (with_reducible refine Below.alloc ?_ ?_ _) | (with_reducible refine Below.drew ?_) | (with_reducible refine Below.setCell ?_ ?_ _) | go_size))) (bw5.mono (by go_size))
        have Tw5 := Lib.hid (tab_keep (by (repeat' (first | (with_reducible exact Tw4.out) | (with_reducible assumption) | (with_reducible refine tab_alloc ?_ _) | (with_reducible refine tab_drewN ?_ _) | (with_reducible refine tab_drew ?_) | (with_reducible refine tab_set ?_ ?_ _) | go_size))) bw5)
        have lw5_0 : w1.heap.size < w5.heap.size := (by go_size)
        have zw5_w1H : CellsAt w5 (w1.heap.size) 0 [.int .i64 y, .int .i64 m, .int .i64 d] := cells_keep (by (simp only [CellsAt]; (first | (go_simp; done) | ((repeat' (with_reducible refine And.intro ?_ ?_)) <;> (repeat' (first | (with_reducible assumption) | (with_reducible exact trivial) | (with_reducible refine kA _ ?_) | (with_reducible refine kD ?_) | (with_reducible refine kS _ ?_ ?_) | (with_reducible refine fA _ ?_ ?_) | (with_reducible refine fD ?_) | (with_reducible refine fS _ ?_) | go_size | (go_simp; done))))))) (fun o => bw5.cell (p := ⟨_, o, none⟩) (by go_size)) (fun o => bw5.frozen (p := ⟨_, o, none⟩) (by go_size))
        simp only [CellsAt] at zw5_w1H
        clear zw4_w1H
        clear bw5
        go_wp2_with fail
        refine (HI'.out _ (by (repeat' (first | (with_reducible exact Tw5.out) | (with_reducible assumption) | (with_reducible refine tab_alloc ?_ _) | (with_reducible refine tab_drewN ?_ _) | (with_reducible refine tab_drew ?_) | (with_reducible refine tab_set ?_ ?_ _) | go_size)))).mono ?_
        rintro e w6 ⟨rfl, bw6⟩
        have sw6 := bw6.size
        (try simp at sw6)
        have Aw6 : Below w.heap.size w w6 := Below.trans (by (repeat' (first | (with_reducible assumption) | (with_reducible exact Below.refl _ _) | (with_reducible refine bdN ?_ _) | (with_reducible refine Below.alloc ?_ ?_ _) | (with_reducible refine Below.drew ?_) | (with_reducible refine Below.setCell ?_ ?_ _) | go_size))) (bw6.mono (by go_size))
        have Tw6 := Lib.hid (tab_keep (by (repeat' (first | (with_reducible exact Tw5.out) | (with_reducible assumption) | (with_reducible refine tab_alloc ?_ _) | (with_reducible refine tab_drewN ?_ _) | (with_reducible refine tab_drew ?_) | (with_reducible refine tab_set ?_ ?_ _) | go_size))) bw6)
        have lw6_0 : w1.heap.size < w6.heap.size := (by go_size)
        have zw6_w1H : CellsAt w6 (w1.heap.size) 0 [.int .i64 y, .int .i64 m, .int .i64 d] := cells_keep (by (simp only [CellsAt]; (first | (go_simp; done) | ((repeat' (with_reducible refine And.intro ?_ ?_)) <;> (repeat' (first | (with_reducible assumption) | (with_reducible exact trivial) | (with_reducible refine kA _ ?_) | (with_reducible refine kD ?_) | (with_reducible refine kS _ ?_ ?_) | (with_reducible refine fA _ ?_ ?_) | (with_reducible refine fD ?_) | (with_reducible refine fS _ ?_) | go_size | (go_simp; done))))))) (fun o => bw6.cell (p := ⟨_, o, none⟩) (by go_size)) (fun o => bw6.frozen (p := ⟨_, o, none⟩) (by go_size))
        have lw6_1 : w5.heap.size < w6.heap.size := (by go_size)
        have zw6_w5H : CellsAt w6 (w5.heap.size) 0 [.int .i64 (y'), .int .i64 (m'), .int .i64 (d')] := cells_keep (by (simp only [CellsAt]; (first | (go_simp; done) | ((repeat' (with_reducible refine And.intro ?_ ?_)) <;> (repeat' (first | (with_reducible assumption) | (with_reducible exact trivial) | (with_reducible refine kA _ ?_) | (with_reducible refine kD ?_) | (with_reducible refine kS _ ?_ ?_) | (with_reducible refine fA _ ?_ ?_) | (with_reducible refine fD ?_) | (with_reducible refine fS _ ?_) | go_size | (go_simp; done))))))) (fun o => bw6.cell (p := ⟨_, o, none⟩) (by go_size)) (fun o => bw6.frozen (p := ⟨_, o, none⟩) (by go_size))
        simp only [CellsAt] at zw6_w1H
        simp only [CellsAt] at zw6_w5H
        clear zw5_w1H
        clear bw6
        go_wp2_with fail
        go_ret
        exact ⟨rfl, by (repeat' (first | (with_reducible assumption) | (with_reducible exact Below.refl _ _) | (with_reducible refine bdN ?_ _) | (with_reducible refine Below.alloc ?_ ?_ _) | (with_reducible refine Below.drew ?_) | (with_reducible refine Below.setCell ?_ ?_ _) | go_size))⟩

theorem own : ownKnob Tryd.prog.godebug = none := by kernel_rfl
theorem laidOut : laidOutB Tryd.prog = true := by kernel_rfl

theorem gTab : Tryd.prog.globalNamed "loop.example/datenotation/impl.monthDays" = some 0 := by kernel_rfl
theorem gTabType : (Tryd.prog.globals[0]?).map (·.type) = some 95 := by kernel_rfl
theorem cellsA : Tryd.prog.cellsOf 95 = 12 := by kernel_rfl
theorem cellsE : Tryd.prog.cellsOf 3 = 1 := by kernel_rfl
theorem table {W : World} (h : laidMetH Tryd.prog Rows.fnDateTextOrderRow.laid W) : Tab W := by
  have t : Lib.TabIs Tryd.prog W "loop.example/datenotation/impl.monthDays" .i64 [31, 28, 31, 30, 31, 30, 31, 31, 30, 31, 30, 31] := Lib.tabIs_of_head (rest := []) gTab gTabType Tryd.underlying95 Tryd.underlying3 cellsE cellsA h
  refine ⟨World.block_lt_of_cell? _ _ (t.cell gTab 0 (by decide)), fun j hj => ?_⟩
  rw [t.cell gTab j hj]
  have hj12 : j = 0 ∨ j = 1 ∨ j = 2 ∨ j = 3 ∨ j = 4 ∨ j = 5 ∨ j = 6 ∨ j = 7 ∨ j = 8 ∨ j = 9 ∨ j = 10 ∨ j = 11 := by omega
  rcases hj12 with rfl | rfl | rfl | rfl | rfl | rfl | rfl | rfl | rfl | rfl | rfl | rfl <;> rfl

/-- a world for the witness: the settled one, the table holding what its initialiser lays -/
noncomputable def laidWorld (os : Os) : World :=
  { World.holding Tryd.prog os ⟨#[], #[], []⟩ with heap := (World.holding Tryd.prog os ⟨#[], #[], []⟩).heap.modify 0 fun
      | .cells _ t frozen => .cells #[.int .i64 31, .int .i64 28, .int .i64 31, .int .i64 30, .int .i64 31, .int .i64 30, .int .i64 31, .int .i64 31, .int .i64 30, .int .i64 31, .int .i64 30, .int .i64 31] t frozen
      | o => o }
theorem laid_met (os : Os) : laidMet Tryd.prog Rows.fnDateTextOrderRow.laid ((laidWorld os).forCall (fun _ _ => 0) ⟨#[], #[.slice none 0 0], []⟩).memory :=
  laidMet_of_run' 8 (by kernel_rfl) (by kernel_rfl)
theorem reads (os : Os) {H : Type} (enc : TypeId × Value → H) : ∃ places, DataW.whole enc Tryd.prog ((laidWorld os).forCall (fun _ _ => 0) ⟨#[], #[.slice none 0 0], []⟩).memory Tryd.f5.params.toList Rows.fnDateTextOrderSpec.vars false (#[.slice none 0 0] : Array Value).toList 8 = some ([.nil], [Rows.laid_loop_example_datenotation_impl_monthDays], places) :=
  ⟨MemPlace.row ⟨0, 0, none⟩ 12, by kernel_rfl⟩

set_option maxRecDepth 100000 in
theorem lifted (os : Os) (started : os.Started) (H : Type) (enc : TypeId × Value → H) (F : Stop.Interp) :
    ReturnsInHanded {} Tryd.checked os 5 .any ((OpenSpec.ofChange Rows.fnDateTextOrderSpec).preRow enc Tryd.prog Tryd.f5 Rows.fnDateTextOrderRow.domain false Rows.fnDateTextOrderRow.laid) (((OpenSpec.ofChange Rows.fnDateTextOrderSpec).at F).post enc Tryd.prog Tryd.f5 false true false false) := by
  obtain ⟨places, hx⟩ := reads os enc
  refine returnsInHanded_of_row (C := Tryd.checked) (s := OpenSpec.ofChange Rows.fnDateTextOrderSpec) own started (by kernel_rfl) Tryd.func5
    (witness_row_at (enc := enc) (C := Tryd.checked) false (laidWorld os) #[.slice none 0 0] rfl (by kernel_rfl) (by kernel_rfl) (by kernel_rfl)
      (OpenSpec.preRow_of_cond 8 hx (by kernel_rfl) (fun k hk => by cases hk) (by kernel_rfl) (laid_met os))) ?_
  intro W base args ds gs before hval0 hW _ _ _ hL _ _
  have tab := table hL
  have hval : ∀ (j : Nat) t v, Tryd.f5.params[j]? = some t → args[j]? = some v → Value.okWide Tryd.prog W .any base t v := hval0
  have hW' := hW
  obtain ⟨p, q, hA0, hV, rfl, hfz, hnd⟩ := hW
  have hA : DataW.TrodAll enc Tryd.prog W 0 (fun _ => true) true Tryd.f5.params.toList args.toList ds p := hA0
  rw [Tryd.params5] at hA hval
  obtain ⟨v0, vs0, d0, ds0, p0, q0, hargs, rfl, rfl, h0, r0⟩ := trodAll_cons hA
  obtain ⟨rfl, rfl, rfl⟩ := trodAll_nil r0
  obtain rfl : args = #[v0] := by cases args; simp_all
  obtain ⟨gv, rfl⟩ : ∃ gv, gs = [gv] := by obtain ⟨_, _, _, _, gv, _, hg, _⟩ := trodVars_one hV; exact ⟨gv, hg⟩
  have k0 := h0
  have lt0 : ∀ x ∈ p0, x.block < W.heap.size := by obtain ⟨m, hm⟩ := k0; exact DataW.trod_lt m _ _ _ hm
  obtain ⟨a0, len0, cap0, rfl⟩ := okWide_slice Tryd.underlying29 (hval 0 29 v0 rfl rfl)
  obtain ⟨z0, w0⟩ : ∃ zs, IsRow .u8 W a0 len0 cap0 zs := by
    obtain ⟨fuel, hf⟩ := h0
    rcases open_ints Tryd.underlying29 Tryd.underlying5 (by kernel_rfl) hf with ⟨hcs, _⟩ | ⟨x, l, c, zs, hcs, _, hl, hm, hz, _, hcell, hwz⟩
    · simp [Value.cells] at hcs
      obtain ⟨rfl, rfl, rfl⟩ := hcs
      exact ⟨[], .inl ⟨rfl, rfl, rfl, rfl⟩⟩
    · simp [Value.cells] at hcs
      obtain ⟨rfl, rfl, rfl⟩ := hcs
      exact ⟨zs, .inr ⟨_, rfl, hl, hm, by simpa using hz, hcell, hwz⟩⟩
  clear hA0 hval0
  refine (walk a0 len0 cap0 z0 W tab w0).mono fun e W' ⟨he, bel⟩ => ?_
  subst he
  exact ⟨_, rfl, _, _, _, [], _, _, hW', trodAll_mk1 (shut_bool Tryd.underlying4 _), (trodAll_cons_mk (Below.trod laidOut (by kernel_rfl) (of_decide_eq_true (by kernel_rfl)) k0 bel lt0) trodAll_mk0), Below.trodVars laidOut bel (by kernel_rfl) hV, bel.frame _, fun h => by cases h⟩

theorem said : Rows.FnDateTextOrderSaid :=
  OpenClaim.holds_of_cond 5 Tryd.f5 rfl rfl rfl rfl rfl rfl rfl ⟨rfl, rfl, rfl, rfl, rfl⟩ rfl rfl rfl rfl rfl (by kernel_rfl) Tryd.func5 (by kernel_rfl)
    (of_decide_eq_true (by kernel_rfl)) (by unfold Func.isWrapper; first | (rw [if_pos (by decide +kernel)]; kernel_rfl) | (rw [if_neg (by decide +kernel)]; exact ⟨rfl, rfl⟩))
    (fun os started H enc _ F => by rw [OpenClaim.pre_eq_preRow]; exact lifted os started H enc F)
set_option maxRecDepth 100000 in
theorem plain (f : FuncId) (fn : Func) (hf : Tryd.pinned.checked.prog.funcNamed "loop.example/datenotation/laws.FnDateTextOrder" = some f) (hfn : Tryd.pinned.checked.prog.funcs[f]? = some fn) :
    false = Tryd.pinned.checked.prog.looks [] ∧ ∀ (j : Nat) t, fn.params[j]? = some t → Tryd.pinned.checked.prog.wantsStandIn t = false := by
  obtain rfl : f = 5 := Option.some.inj ((show Tryd.prog.funcNamed "loop.example/datenotation/laws.FnDateTextOrder" = some 5 by kernel_rfl).symm.trans hf) |>.symm
  obtain rfl : fn = Tryd.f5 := (Option.some.inj (Tryd.func5.symm.trans hfn)).symm
  refine ⟨by kernel_rfl, fun j t ht => ?_⟩
  rw [Tryd.params5] at ht
  have s0 : Tryd.prog.wantsStandIn 29 = false := by kernel_rfl
  have hm : t = 29 := by simpa using Array.mem_of_getElem? ht
  rcases hm with rfl
  all_goals first | exact s0

theorem proved : Rows.FnDateTextOrderCardSaid :=
  Claim7.holds_tied_plain_at .later [] _ _ _ _ said (fun _ h => by cases h) (by kernel_rfl) (fun _ h => by cases h) fnDateTextOrder_row_tie rfl ⟨rfl, rfl⟩ (by kernel_rfl) rfl plain (by kernel_rfl)
#print axioms proved
end Go.Proofs.YtfailbghnpfcdaaDoor.lawDateTextOrder
