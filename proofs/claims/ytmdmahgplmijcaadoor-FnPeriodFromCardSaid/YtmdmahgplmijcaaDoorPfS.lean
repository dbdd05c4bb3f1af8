/- Reading a period by the reference gives the plain function. Condition: the text is not longer than 2^40 bytes. -/
import Derived.Test.YtmdmahgplmijcaaDoorPfA
import Derived.Deep.DeepCutAuto
namespace Go.Proofs.YtmdmahgplmijcaaDoor
set_option linter.unusedSimpArgs false
open Go.RowKit DN
set_option linter.unusedVariables false

theorem run_z (s : ByteArray) (q k : Nat) (z : Int) (hz : z = q) (hk : runL s.data.toList q = k) (hs : s.size ≤ 1099511627776) (hp : q ≤ s.size) (w : World) : Calls Tryd.prog 20 #[.string s, .int .i64 z] w fun e w' => e = .returned (.int .i64 k) ∧ w = w' := by
  subst hz; rw [← hk]; exact DigitsRun_s s q w hs hp
theorem get_z (s : ByteArray) (q k : Nat) (z n : Int) (hz : z = q) (hn : numAt s.data.toList q k = n) (hk : runL s.data.toList q = k) (hs : s.size ≤ 1099511627776) (hp : q ≤ s.size) (hk1 : 1 ≤ k) (hk2 : k ≤ 6) (w : World) : Calls Tryd.prog 21 #[.string s, .int .i64 z, .int .i64 k] w fun e w' => e = .returned (.tuple #[.int .i64 n, .bool true]) ∧ w = w' := by
  subst hz; rw [← hn]; exact get_yes_s s q k w hs hp (by omega) hk1 hk2
theorem out_none {R : Option (List Int)} (h : none = R) : Ending.returned (.tuple #[.agg #[.int .i64 0, .int .i64 0, .int .i64 0, .int .i64 0, .int .i64 0, .int .i64 0], .bool false]) = .returned (outP R) := by subst h; rfl
theorem out_some {R : Option (List Int)} {a b c' d x y : Int} (h : some [a, b, c', d, x, y] = R) : Ending.returned (.tuple #[.agg #[.int .i64 a, .int .i64 b, .int .i64 (c'), .int .i64 d, .int .i64 x, .int .i64 y], .bool true]) = .returned (outP R) := by subst h; rfl
theorem ix_cases {b : Int} {t : Bool} : ixL b t = -1 ∨ (t = false ∧ (ixL b t = 0 ∨ ixL b t = 1 ∨ ixL b t = 2)) ∨ (t = true ∧ (ixL b t = 3 ∨ ixL b t = 4 ∨ ixL b t = 5)) := by
  cases t
  · by_cases h0 : b = 89
    · subst h0; exact .inr (.inl ⟨rfl, .inl rfl⟩)
    · by_cases h1 : b = 77
      · subst h1; exact .inr (.inl ⟨rfl, .inr (.inl rfl)⟩)
      · by_cases h2 : b = 68
        · subst h2; exact .inr (.inl ⟨rfl, .inr (.inr rfl)⟩)
        · exact .inl (by unfold ixL; rw [if_neg (by simp), if_neg h0, if_neg h1, if_neg h2])
  · by_cases h0 : b = 72
    · subst h0; exact .inr (.inr ⟨rfl, .inl rfl⟩)
    · by_cases h1 : b = 77
      · subst h1; exact .inr (.inr ⟨rfl, .inr (.inl rfl)⟩)
      · by_cases h2 : b = 83
        · subst h2; exact .inr (.inr ⟨rfl, .inr (.inr rfl)⟩)
        · exact .inl (by unfold ixL; rw [if_pos rfl, if_neg h0, if_neg h1, if_neg h2])

set_option maxHeartbeats 1000000 in
theorem pf_bad (s : ByteArray) (hs : s.size ≤ 1099511627776) (w : World) (h : s.size < 3 ∨ ∃ h3 : 3 ≤ s.size, ((s[0].toNat : Int) != 80) = true) : Calls Tryd.prog 10 #[.string s] w fun e w' => e = .returned (.tuple #[.agg #[.int .i64 0, .int .i64 0, .int .i64 0, .int .i64 0, .int .i64 0, .int .i64 0], .bool false]) ∧ Below w.heap.size w w' := by
  rcases h with h | ⟨h3, h⟩
  · go_enter Tryd.func10, Tryd.ntmps10
    go_wp2_with fail
    exact bodyPost_ret (v := .tuple #[.agg #[.int .i64 0, .int .i64 0, .int .i64 0, .int .i64 0, .int .i64 0, .int .i64 0], .bool false]) (by simp [results, Tryd.results10, go_sem]) rfl ⟨rfl, by (repeat' (first | (with_reducible assumption) | (with_reducible exact Below.refl _ _) | (with_reducible refine bdN ?_ _) | (with_reducible refine Below.alloc ?_ ?_ _) | (with_reducible refine Below.drew ?_) | (with_reducible refine Below.setCell ?_ ?_ _) | go_size))⟩
  · have h0 : 0 < s.size := by omega
    go_enter Tryd.func10, Tryd.ntmps10
    go_wp2_with fail
    exact bodyPost_ret (v := .tuple #[.agg #[.int .i64 0, .int .i64 0, .int .i64 0, .int .i64 0, .int .i64 0, .int .i64 0], .bool false]) (by simp [results, Tryd.results10, go_sem]) rfl ⟨rfl, by (repeat' (first | (with_reducible assumption) | (with_reducible exact Below.refl _ _) | (with_reducible refine bdN ?_ _) | (with_reducible refine Below.alloc ?_ ?_ _) | (with_reducible refine Below.drew ?_) | (with_reducible refine Below.setCell ?_ ?_ _) | go_size))⟩

theorem tee_yes {f : Nat} {l : List UInt8} {p j : Nat} {t : Bool} {v : List Int} {R : Option (List Int)} (h : prs (f + 1) l p j t v = R) (hp : p + 1 < l.length) (hT : ((l.getD p 0).toNat : Int) = 84) (ht : t = false) : itm (fun p' j' v' => prs f l p' j' true v') l (p + 1) j true v = R := by
  subst ht
  rw [prs_T (by omega) hT, if_neg (by omega)] at h
  exact h
theorem tee_no {f : Nat} {l : List UInt8} {p j : Nat} {t : Bool} {v : List Int} {R : Option (List Int)} (h : prs (f + 1) l p j t v = R) (hp : p < l.length) (hc : ¬ (((l.getD p 0).toNat : Int) = 84 ∧ t = false ∧ p + 1 < l.length)) : itm (fun p' j' v' => prs f l p' j' t v') l p j t v = R := by
  by_cases hT : ((l.getD p 0).toNat : Int) = 84 ∧ t = false
  · obtain ⟨hT, rfl⟩ := hT
    have hpe : p + 1 = l.length := by
      rcases Nat.lt_or_ge (p + 1) l.length with x | x
      · exact absurd ⟨hT, rfl, x⟩ hc
      · omega
    rw [prs_T (by omega) hT, if_pos hpe] at h
    have hk : runL l p = 0 := by
      rcases Nat.eq_zero_or_pos (runL l p) with h | h
      · exact h
      · obtain ⟨hh, this⟩ := runL_lt (l := l) (p := p) (j := 0) h
        have e : l.getD p 0 = l[p + 0] := by rw [List.getD_eq_getElem?_getD, List.getElem?_eq_getElem hp]; rfl
        rw [e] at hT
        have hd := isDg_bd this
        omega
    rw [itm_none (.inl hk)]
    exact h
  · rw [prs_I (by omega) hT] at h
    exact h
/-- the loop's relation -/
def PfRel (s : ByteArray) (R : Option (List Int)) (w : World) (g : Nat) (last time pl : Value) (wr : World) : Prop := ∃ (f p j : Nat) (t : Bool) (a b c' d x y : Int), last = .int .i64 ((j : Int) - 1) ∧ time = .bool t ∧ pl = .int .i64 p ∧ g = s.size - p ∧ 1 ≤ p ∧ p ≤ s.size ∧ s.size < f + p ∧ j ≤ 6 ∧
  prs f s.data.toList p j t [a, b, c', d, x, y] = R ∧ CellsAt wr w.heap.size 0 [.int .i64 0, .int .i64 0, .int .i64 0, .int .i64 0, .int .i64 0, .int .i64 0] ∧ CellsAt wr (w.heap.size + 1) 0 [.int .i64 a, .int .i64 b, .int .i64 (c'), .int .i64 d, .int .i64 x, .int .i64 y] ∧ w.heap.size + 1 < wr.heap.size ∧ Below w.heap.size w wr
set_option maxRecDepth 100000 in
set_option maxHeartbeats 16000000 in
theorem pf_loop (s : ByteArray) (hs : s.size ≤ 1099511627776) (w : World) (h3 : 3 ≤ s.size) (h80 : ((s[0].toNat : Int) != 80) = false) (R : Option (List Int)) (hR : prs (s.data.toList.length + 1) s.data.toList 1 0 false [0, 0, 0, 0, 0, 0] = R) : Calls Tryd.prog 10 #[.string s] w fun e w' => e = .returned (outP R) ∧ Below w.heap.size w w' := by
  have h0 : 0 < s.size := by omega
  have hmk := make6
  have HR := Lib.hid hR
  have HL := Lib.hid (show s.data.toList.length = s.size by simp)
  clear hR
  go_enter Tryd.func10, Tryd.ntmps10
  go_wp2_with fail
  clear hmk
  have HA := Lib.hid h80
  clear h80
  go_loopg [5, 6, 7] (s.size - 1) (fun g last time pl wr => PfRel s R w g last time pl wr)
  case atStart => exact ⟨_, 1, 0, false, 0, 0, 0, 0, 0, 0, rfl, rfl, rfl, rfl, by omega, by omega, by have := HL.out; omega, by omega, HR.out, by (simp only [CellsAt]; (first | (go_simp; done) | ((repeat' (with_reducible refine And.intro ?_ ?_)) <;> (repeat' (first | (with_reducible assumption) | (with_reducible exact trivial) | (with_reducible refine kA _ ?_) | (with_reducible refine kD ?_) | (with_reducible refine kS _ ?_ ?_) | (with_reducible refine fA _ ?_ ?_) | (with_reducible refine fD ?_) | (with_reducible refine fS _ ?_) | go_size | (go_simp; done)))))), by (simp only [CellsAt]; (first | (go_simp; done) | ((repeat' (with_reducible refine And.intro ?_ ?_)) <;> (repeat' (first | (with_reducible assumption) | (with_reducible exact trivial) | (with_reducible refine kA _ ?_) | (with_reducible refine kD ?_) | (with_reducible refine kS _ ?_ ?_) | (with_reducible refine fA _ ?_ ?_) | (with_reducible refine fD ?_) | (with_reducible refine fS _ ?_) | go_size | (go_simp; done)))))), by go_size, by (repeat' (first | (with_reducible assumption) | (with_reducible exact Below.refl _ _) | (with_reducible refine bdN ?_ _) | (with_reducible refine Below.alloc ?_ ?_ _) | (with_reducible refine Below.drew ?_) | (with_reducible refine Below.setCell ?_ ?_ _) | go_size))⟩
  case round =>
    obtain ⟨f, p, j, t, a, b, c', d, x, y, rfl, rfl, rfl, hg0, hp1, hp2, hf, hj, hprs, zc, zn, hsz, bel⟩ := hrel
    have HP := Lib.hid hprs
    have HG0 := Lib.hid hg0
    clear hprs HR hg0
    simp only [CellsAt] at zc zn
    obtain ⟨f, rfl⟩ : ∃ g, f = g + 1 := ⟨f - 1, by omega⟩
    by_cases hpl : p = s.size
    · have E : some [a, b, c', d, x, y] = R := by
        have h := HP.out
        rw [show p = s.data.toList.length by rw [HL.out]; exact hpl, prs_end] at h
        exact h
      have HE := Lib.hid E
      clear E
      subst hpl
      go_wp2_with fail
      refine (l15Of_s _ a b c' d x y _ (by simp only [CellsAt]; exact zn) (by go_size)).mono ?_
      rintro en w1 ⟨rfl, b1⟩
      have hc1 : CellsAt w1 w.heap.size 0 [.int .i64 0, .int .i64 0, .int .i64 0, .int .i64 0, .int .i64 0, .int .i64 0] := cells_keep (by simp only [CellsAt]; exact zc) (fun o => b1.cell (p := ⟨_, o, none⟩) (by go_size)) (fun o => b1.frozen (p := ⟨_, o, none⟩) (by go_size))
      have s1 := b1.size
      simp only [CellsAt] at hc1
      have A1 : Below w.heap.size w w1 := bel.trans (b1.mono (by omega))
      clear b1
      go_wp21
      exact bodyPost_ret (v := .tuple #[.agg #[.int .i64 a, .int .i64 b, .int .i64 (c'), .int .i64 d, .int .i64 x, .int .i64 y], .bool true]) (by simp [results, Tryd.results10, go_sem, hc1]) rfl ⟨out_some HE.out, by (repeat' (first | (with_reducible assumption) | (with_reducible exact Below.refl _ _) | (with_reducible refine bdN ?_ _) | (with_reducible refine Below.alloc ?_ ?_ _) | (with_reducible refine Below.drew ?_) | (with_reducible refine Below.setCell ?_ ?_ _) | go_size))⟩
    · have hpp : p < s.size := by omega
      have hne : p ≠ s.data.toList.length := by rw [HL.out]; exact hpl
      have hg := getD_eq s p hpp
      have HN := Lib.hid hne
      have HG := Lib.hid hg
      clear hpl hne hg
      go_upto_region 8 with fail
      go_cut [40] (fun c wx => wr = wx ∧ ∃ cb : Bool, c = .bool cb ∧ (cb = true → p + 1 < s.size ∧ itm (fun p' j' v' => prs f s.data.toList p' j' true v') s.data.toList (p + 1) j true [a, b, c', d, x, y] = R) ∧ (cb = false → itm (fun p' j' v' => prs f s.data.toList p' j' t v') s.data.toList p j t [a, b, c', d, x, y] = R))
      case first =>
        have HY := Lib.hid (fun (h1 : p + 1 < s.data.toList.length) h2 h3 => tee_yes HP.out h1 h2 h3)
        have HQ := Lib.hid (fun h3 => tee_no HP.out (by rw [HL.out]; exact hpp) h3)
        clear hf
        obtain ⟨bb, hbb⟩ : ∃ bb : Int, (s[p].toNat : Int) = bb := ⟨_, rfl⟩
        have hx : ∀ wx : World, (Instr.index 9 (.string s) (.int .i64 (p : Int))).run Tryd.prog wx = .ok (.int .u8 bb) wx := fun wx => by rw [← hbb]; exact ix_str Tryd.underlying9 s p ↑p rfl hpp wx
        have HB := Lib.hid (show ((s.data.toList.getD p 0).toNat : Int) = bb by rw [← hbb, HG.out])
        clear hbb
        by_cases eT : bb = 84
        · subst eT
          cases t
          · by_cases hpe : p + 1 < s.size
            · have eD : decide ((p : Int) + 1 < (s.size : Int)) = true := by simp; omega
              go_wp2_with fail
              go_meet
              exact ⟨rfl, true, rfl, fun _ => ⟨hpe, HY.out (by rw [HL.out]; exact hpe) HB.out (by trivial)⟩, (fun h => by cases h)⟩
            · have eD : decide ((p : Int) + 1 < (s.size : Int)) = false := by simp; omega
              go_wp2_with fail
              go_meet
              exact ⟨rfl, false, rfl, (fun h => by cases h), fun _ => HQ.out (by rintro ⟨_, _, x⟩; rw [HL.out] at x; exact hpe x)⟩
          · go_wp2_with fail
            go_meet
            exact ⟨rfl, false, rfl, (fun h => by cases h), fun _ => HQ.out (by rintro ⟨_, x, _⟩; cases x)⟩
        · have eT2 : (bb == 84) = false := by simpa using eT
          go_wp2_with fail
          go_meet
          exact ⟨rfl, false, rfl, (fun h => by cases h), fun _ => HQ.out (by rintro ⟨x, _, _⟩; exact eT (HB.out.symm.trans x))⟩
      case rest =>
      obtain ⟨hwc, cb, rfl, hy, hn⟩ := hcut
      subst hwc
      have HY := Lib.hid hy
      have HN3 := Lib.hid hn
      clear hy hn HP
      go_upto_if 40 with fail
      go_cut [6, 7] (fun tm pl wx => wr = wx ∧ ∃ (q : Nat) (t2 : Bool), tm = .bool t2 ∧ pl = .int .i64 q ∧ p ≤ q ∧ q < s.size ∧ itm (fun p' j' v' => prs f s.data.toList p' j' t2 v') s.data.toList q j t2 [a, b, c', d, x, y] = R)
      case first =>
        cases cb
        · go_wp2_with fail
          go_meet
          exact ⟨rfl, p, t, rfl, rfl, by omega, hpp, HN3.out (by trivial)⟩
        · have hlt := (HY.out (by trivial)).1
          go_wp2_with fail
          go_meet
          exact ⟨rfl, p + 1, true, rfl, by go_num, by omega, hlt, (HY.out (by trivial)).2⟩
      case rest =>
      clear HY HN3
      obtain ⟨hwc, q, t2, rfl, rfl, hpq, hql, hit⟩ := hcut
      subst hwc
      have HI := Lib.hid hit
      clear hit
      obtain ⟨k, hk⟩ : ∃ k, runL s.data.toList (q) = k := ⟨_, rfl⟩
      obtain ⟨n, hn⟩ : ∃ n, numAt s.data.toList (q) k = n := ⟨_, rfl⟩
      have hkl : q + k ≤ s.size := by have := runL_le (l := s.data.toList) (p := q) (by rw [HL.out]; omega); rw [hk, HL.out] at this; exact this
      have DR := Lib.hid (run_z s (q) k (↑q) (by omega) hk hs (by omega))
      have HK := Lib.hid hk
      have HN2 := Lib.hid hn
      clear hk hn
      go_wp2_with fail
      refine (DR.out _).mono ?_
      rintro e w' ⟨rfl, rfl⟩
      go_wp2_with fail
      by_cases hk0 : k = 0 ∨ 6 < k
      · have GB := Lib.hid (get_bad_s s (↑q) k · (by omega))
        have HE := Lib.hid (show none = R from (itm_none (by rw [HK.out]; omega)).symm.trans HI.out)
        refine (GB.out _).mono ?_
        rintro e w' ⟨rfl, rfl⟩
        go_wp21
        exact bodyPost_ret (v := .tuple #[.agg #[.int .i64 0, .int .i64 0, .int .i64 0, .int .i64 0, .int .i64 0, .int .i64 0], .bool false]) (by simp [results, Tryd.results10, go_sem, zc]) rfl ⟨out_none HE.out, by (repeat' (first | (with_reducible assumption) | (with_reducible exact Below.refl _ _) | (with_reducible refine bdN ?_ _) | (with_reducible refine Below.alloc ?_ ?_ _) | (with_reducible refine Below.drew ?_) | (with_reducible refine Below.setCell ?_ ?_ _) | go_size))⟩
      · have GG := Lib.hid (get_z s (q) k (↑q) n (by omega) HN2.out HK.out hs (by omega) (by omega) (by omega))
        refine (GG.out _).mono ?_
        rintro e w' ⟨rfl, rfl⟩
        by_cases hk4 : 4 < k ∨ q + k = s.size
        · have HE := Lib.hid (show none = R from (itm_none (by rw [HK.out, HL.out]; omega)).symm.trans HI.out)
          by_cases hk5 : 4 < k
          · go_wp21
            exact bodyPost_ret (v := .tuple #[.agg #[.int .i64 0, .int .i64 0, .int .i64 0, .int .i64 0, .int .i64 0, .int .i64 0], .bool false]) (by simp [results, Tryd.results10, go_sem, zc]) rfl ⟨out_none HE.out, by (repeat' (first | (with_reducible assumption) | (with_reducible exact Below.refl _ _) | (with_reducible refine bdN ?_ _) | (with_reducible refine Below.alloc ?_ ?_ _) | (with_reducible refine Below.drew ?_) | (with_reducible refine Below.setCell ?_ ?_ _) | go_size))⟩
          · have eE : (((↑q) + ↑k : Int) == (s.size : Int)) = true := by simp; omega
            go_wp21
            exact bodyPost_ret (v := .tuple #[.agg #[.int .i64 0, .int .i64 0, .int .i64 0, .int .i64 0, .int .i64 0, .int .i64 0], .bool false]) (by simp [results, Tryd.results10, go_sem, zc]) rfl ⟨out_none HE.out, by (repeat' (first | (with_reducible assumption) | (with_reducible exact Below.refl _ _) | (with_reducible refine bdN ?_ _) | (with_reducible refine Below.alloc ?_ ?_ _) | (with_reducible refine Below.drew ?_) | (with_reducible refine Below.setCell ?_ ?_ _) | go_size))⟩
        · have hkk : q + k < s.size := by omega
          have eE : (((↑q) + ↑k : Int) == (s.size : Int)) = false := by simp; omega
          have hok : ¬ (runL s.data.toList (q) = 0 ∨ 4 < runL s.data.toList (q) ∨ s.data.toList.length ≤ q + runL s.data.toList (q)) := by rw [HK.out, HL.out]; omega
          have hgb : ((s.data.toList.getD (q + runL s.data.toList (q)) 0).toNat : Int) = s[q + k].toNat := by rw [HK.out, getD_eq s _ hkk]
          have ixk := fun wx => ix_str Tryd.underlying9 s (q + k) (↑q + ↑k) (by omega) hkk wx
          have nb := numAt_bd (l := s.data.toList) (p := q) (k := k) (by have := HK.out; omega)
          have pw : (10 : Int) ^ k ≤ 10000 := by
            have : k = 1 ∨ k = 2 ∨ k = 3 ∨ k = 4 := by omega
            rcases this with rfl | rfl | rfl | rfl <;> decide
          rw [HN2.out] at nb
          have n1 : 0 ≤ n := nb.1
          have n2 : n ≤ 9999 := by omega
          clear nb pw
          obtain ⟨bb, hbb⟩ : ∃ bb : Int, (s[q + k].toNat : Int) = bb := ⟨_, rfl⟩
          rw [hbb] at hgb
          simp only [hbb] at ixk
          clear hbb
          by_cases hW : bb = 87
          · have hI := HI.out
            rw [itm_W hok (hgb.trans hW), HK.out, HN2.out] at hI
            subst hW
            clear hgb hok
            by_cases q1 : q = 1
            · have eq1 : (((↑q) : Int) != 1) = false := by simp; omega
              by_cases q2 : q + k + 1 = s.size
              · have eq2 : (((↑q) + ↑k + 1 : Int) != (s.size : Int)) = false := by simp; omega
                by_cases q3 : 7 * n ≤ 9999
                · have HE := Lib.hid (show some [0, 0, 7 * n, 0, 0, 0] = R by rw [← hI, if_pos ⟨q1, by rw [HL.out]; exact q2, q3⟩])
                  clear hI q1 q2
                  go_wp21
                  exact bodyPost_ret (v := .tuple #[.agg #[.int .i64 0, .int .i64 0, .int .i64 (7 * n), .int .i64 0, .int .i64 0, .int .i64 0], .bool true]) (by simp [results, Tryd.results10, go_sem, zc]) rfl ⟨out_some HE.out, by (repeat' (first | (with_reducible assumption) | (with_reducible exact Below.refl _ _) | (with_reducible refine bdN ?_ _) | (with_reducible refine Below.alloc ?_ ?_ _) | (with_reducible refine Below.drew ?_) | (with_reducible refine Below.setCell ?_ ?_ _) | go_size))⟩
                · have HE := Lib.hid (show none = R by rw [← hI, if_neg (by rintro ⟨x1, x2, x3⟩; rw [HL.out] at x2; omega)])
                  clear hI
                  have eq3 : 9999 < 7 * n := by omega
                  clear q1 q2 q3
                  go_wp21
                  exact bodyPost_ret (v := .tuple #[.agg #[.int .i64 0, .int .i64 0, .int .i64 0, .int .i64 0, .int .i64 0, .int .i64 0], .bool false]) (by simp [results, Tryd.results10, go_sem, zc]) rfl ⟨out_none HE.out, by (repeat' (first | (with_reducible assumption) | (with_reducible exact Below.refl _ _) | (with_reducible refine bdN ?_ _) | (with_reducible refine Below.alloc ?_ ?_ _) | (with_reducible refine Below.drew ?_) | (with_reducible refine Below.setCell ?_ ?_ _) | go_size))⟩
              · have HE := Lib.hid (show none = R by rw [← hI, if_neg (by rintro ⟨x1, x2, x3⟩; rw [HL.out] at x2; omega)])
                clear hI
                have eq2 : (((↑q) + ↑k + 1 : Int) != (s.size : Int)) = true := by simp; omega
                clear q1 q2
                go_wp21
                exact bodyPost_ret (v := .tuple #[.agg #[.int .i64 0, .int .i64 0, .int .i64 0, .int .i64 0, .int .i64 0, .int .i64 0], .bool false]) (by simp [results, Tryd.results10, go_sem, zc]) rfl ⟨out_none HE.out, by (repeat' (first | (with_reducible assumption) | (with_reducible exact Below.refl _ _) | (with_reducible refine bdN ?_ _) | (with_reducible refine Below.alloc ?_ ?_ _) | (with_reducible refine Below.drew ?_) | (with_reducible refine Below.setCell ?_ ?_ _) | go_size))⟩
            · have HE := Lib.hid (show none = R by rw [← hI, if_neg (by rintro ⟨x1, x2, x3⟩; rw [HL.out] at x2; omega)])
              clear hI
              have eq1 : (((↑q) : Int) != 1) = true := by simp; omega
              clear q1
              go_wp21
              exact bodyPost_ret (v := .tuple #[.agg #[.int .i64 0, .int .i64 0, .int .i64 0, .int .i64 0, .int .i64 0, .int .i64 0], .bool false]) (by simp [results, Tryd.results10, go_sem, zc]) rfl ⟨out_none HE.out, by (repeat' (first | (with_reducible assumption) | (with_reducible exact Below.refl _ _) | (with_reducible refine bdN ?_ _) | (with_reducible refine Below.alloc ?_ ?_ _) | (with_reducible refine Below.drew ?_) | (with_reducible refine Below.setCell ?_ ?_ _) | go_size))⟩
          · have hW2 : (bb == 87) = false := by simpa using hW
            obtain ⟨i, hi⟩ : ∃ i, ixL bb t2 = i := ⟨_, rfl⟩
            have LT := Lib.hid (letter_of hi)
            have hWW : ¬ ((s.data.toList.getD (q + runL s.data.toList (q)) 0).toNat : Int) = 87 := by rw [hgb]; exact hW
            have HI3 := Lib.hid hi
            have HB3 := Lib.hid hgb
            have HO3 := Lib.hid hok
            have HW3 := Lib.hid hWW
            clear hi hgb hok hWW hW
            go_wp2_with fail
            refine (LT.out _).mono ?_
            rintro e w' ⟨rfl, rfl⟩
            by_cases hij : i < (j : Int)
            · have HE := Lib.hid (show none = R from (itm_no HO3.out HW3.out (by rw [HB3.out, HI3.out]; exact hij)).symm.trans HI.out)
              go_wp21
              exact bodyPost_ret (v := .tuple #[.agg #[.int .i64 0, .int .i64 0, .int .i64 0, .int .i64 0, .int .i64 0, .int .i64 0], .bool false]) (by simp [results, Tryd.results10, go_sem, zc]) rfl ⟨out_none HE.out, by (repeat' (first | (with_reducible assumption) | (with_reducible exact Below.refl _ _) | (with_reducible refine bdN ?_ _) | (with_reducible refine Below.alloc ?_ ?_ _) | (with_reducible refine Below.drew ?_) | (with_reducible refine Below.setCell ?_ ?_ _) | go_size))⟩
            · have hI := HI.out
              rw [itm_go HO3.out HW3.out (by rw [HB3.out, HI3.out]; exact hij), HB3.out, HI3.out, HK.out, HN2.out] at hI
              have hic := ix_cases (b := bb) (t := t2)
              rw [HI3.out] at hic
              have HI2 := Lib.hid hI
              have hi6 : i = 0 ∨ i = 1 ∨ i = 2 ∨ i = 3 ∨ i = 4 ∨ i = 5 := by omega
              clear hI hic
              rcases hi6 with rfl | rfl | rfl | rfl | rfl | rfl
              · go_wp2_with fail
                go_roundg (s.size - (q + k + 1))
                case measure => rw [HG0.out]; omega
                case rel => exact ⟨f, q + k + 1, 1, t2, n, b, c', d, x, y, rfl, rfl, by go_num, rfl, by omega, by omega, by omega, by omega, HI2.out, by (simp only [CellsAt]; (first | (go_simp; done) | ((repeat' (with_reducible refine And.intro ?_ ?_)) <;> (repeat' (first | (with_reducible assumption) | (with_reducible exact trivial) | (with_reducible refine kA _ ?_) | (with_reducible refine kD ?_) | (with_reducible refine kS _ ?_ ?_) | (with_reducible refine fA _ ?_ ?_) | (with_reducible refine fD ?_) | (with_reducible refine fS _ ?_) | go_size | (go_simp; done)))))), by (simp only [CellsAt]; (first | (go_simp; done) | ((repeat' (with_reducible refine And.intro ?_ ?_)) <;> (repeat' (first | (with_reducible assumption) | (with_reducible exact trivial) | (with_reducible refine kA _ ?_) | (with_reducible refine kD ?_) | (with_reducible refine kS _ ?_ ?_) | (with_reducible refine fA _ ?_ ?_) | (with_reducible refine fD ?_) | (with_reducible refine fS _ ?_) | go_size | (go_simp; done)))))), by go_size, by (repeat' (first | (with_reducible assumption) | (with_reducible exact Below.refl _ _) | (with_reducible refine bdN ?_ _) | (with_reducible refine Below.alloc ?_ ?_ _) | (with_reducible refine Below.drew ?_) | (with_reducible refine Below.setCell ?_ ?_ _) | go_size))⟩
              · go_wp2_with fail
                go_roundg (s.size - (q + k + 1))
                case measure => rw [HG0.out]; omega
                case rel => exact ⟨f, q + k + 1, 2, t2, a, n, c', d, x, y, rfl, rfl, by go_num, rfl, by omega, by omega, by omega, by omega, HI2.out, by (simp only [CellsAt]; (first | (go_simp; done) | ((repeat' (with_reducible refine And.intro ?_ ?_)) <;> (repeat' (first | (with_reducible assumption) | (with_reducible exact trivial) | (with_reducible refine kA _ ?_) | (with_reducible refine kD ?_) | (with_reducible refine kS _ ?_ ?_) | (with_reducible refine fA _ ?_ ?_) | (with_reducible refine fD ?_) | (with_reducible refine fS _ ?_) | go_size | (go_simp; done)))))), by (simp only [CellsAt]; (first | (go_simp; done) | ((repeat' (with_reducible refine And.intro ?_ ?_)) <;> (repeat' (first | (with_reducible assumption) | (with_reducible exact trivial) | (with_reducible refine kA _ ?_) | (with_reducible refine kD ?_) | (with_reducible refine kS _ ?_ ?_) | (with_reducible refine fA _ ?_ ?_) | (with_reducible refine fD ?_) | (with_reducible refine fS _ ?_) | go_size | (go_simp; done)))))), by go_size, by (repeat' (first | (with_reducible assumption) | (with_reducible exact Below.refl _ _) | (with_reducible refine bdN ?_ _) | (with_reducible refine Below.alloc ?_ ?_ _) | (with_reducible refine Below.drew ?_) | (with_reducible refine Below.setCell ?_ ?_ _) | go_size))⟩
              · go_wp2_with fail
                go_roundg (s.size - (q + k + 1))
                case measure => rw [HG0.out]; omega
                case rel => exact ⟨f, q + k + 1, 3, t2, a, b, n, d, x, y, rfl, rfl, by go_num, rfl, by omega, by omega, by omega, by omega, HI2.out, by (simp only [CellsAt]; (first | (go_simp; done) | ((repeat' (with_reducible refine And.intro ?_ ?_)) <;> (repeat' (first | (with_reducible assumption) | (with_reducible exact trivial) | (with_reducible refine kA _ ?_) | (with_reducible refine kD ?_) | (with_reducible refine kS _ ?_ ?_) | (with_reducible refine fA _ ?_ ?_) | (with_reducible refine fD ?_) | (with_reducible refine fS _ ?_) | go_size | (go_simp; done)))))), by (simp only [CellsAt]; (first | (go_simp; done) | ((repeat' (with_reducible refine And.intro ?_ ?_)) <;> (repeat' (first | (with_reducible assumption) | (with_reducible exact trivial) | (with_reducible refine kA _ ?_) | (with_reducible refine kD ?_) | (with_reducible refine kS _ ?_ ?_) | (with_reducible refine fA _ ?_ ?_) | (with_reducible refine fD ?_) | (with_reducible refine fS _ ?_) | go_size | (go_simp; done)))))), by go_size, by (repeat' (first | (with_reducible assumption) | (with_reducible exact Below.refl _ _) | (with_reducible refine bdN ?_ _) | (with_reducible refine Below.alloc ?_ ?_ _) | (with_reducible refine Below.drew ?_) | (with_reducible refine Below.setCell ?_ ?_ _) | go_size))⟩
              · go_wp2_with fail
                go_roundg (s.size - (q + k + 1))
                case measure => rw [HG0.out]; omega
                case rel => exact ⟨f, q + k + 1, 4, t2, a, b, c', n, x, y, rfl, rfl, by go_num, rfl, by omega, by omega, by omega, by omega, HI2.out, by (simp only [CellsAt]; (first | (go_simp; done) | ((repeat' (with_reducible refine And.intro ?_ ?_)) <;> (repeat' (first | (with_reducible assumption) | (with_reducible exact trivial) | (with_reducible refine kA _ ?_) | (with_reducible refine kD ?_) | (with_reducible refine kS _ ?_ ?_) | (with_reducible refine fA _ ?_ ?_) | (with_reducible refine fD ?_) | (with_reducible refine fS _ ?_) | go_size | (go_simp; done)))))), by (simp only [CellsAt]; (first | (go_simp; done) | ((repeat' (with_reducible refine And.intro ?_ ?_)) <;> (repeat' (first | (with_reducible assumption) | (with_reducible exact trivial) | (with_reducible refine kA _ ?_) | (with_reducible refine kD ?_) | (with_reducible refine kS _ ?_ ?_) | (with_reducible refine fA _ ?_ ?_) | (with_reducible refine fD ?_) | (with_reducible refine fS _ ?_) | go_size | (go_simp; done)))))), by go_size, by (repeat' (first | (with_reducible assumption) | (with_reducible exact Below.refl _ _) | (with_reducible refine bdN ?_ _) | (with_reducible refine Below.alloc ?_ ?_ _) | (with_reducible refine Below.drew ?_) | (with_reducible refine Below.setCell ?_ ?_ _) | go_size))⟩
              · go_wp2_with fail
                go_roundg (s.size - (q + k + 1))
                case measure => rw [HG0.out]; omega
                case rel => exact ⟨f, q + k + 1, 5, t2, a, b, c', d, n, y, rfl, rfl, by go_num, rfl, by omega, by omega, by omega, by omega, HI2.out, by (simp only [CellsAt]; (first | (go_simp; done) | ((repeat' (with_reducible refine And.intro ?_ ?_)) <;> (repeat' (first | (with_reducible assumption) | (with_reducible exact trivial) | (with_reducible refine kA _ ?_) | (with_reducible refine kD ?_) | (with_reducible refine kS _ ?_ ?_) | (with_reducible refine fA _ ?_ ?_) | (with_reducible refine fD ?_) | (with_reducible refine fS _ ?_) | go_size | (go_simp; done)))))), by (simp only [CellsAt]; (first | (go_simp; done) | ((repeat' (with_reducible refine And.intro ?_ ?_)) <;> (repeat' (first | (with_reducible assumption) | (with_reducible exact trivial) | (with_reducible refine kA _ ?_) | (with_reducible refine kD ?_) | (with_reducible refine kS _ ?_ ?_) | (with_reducible refine fA _ ?_ ?_) | (with_reducible refine fD ?_) | (with_reducible refine fS _ ?_) | go_size | (go_simp; done)))))), by go_size, by (repeat' (first | (with_reducible assumption) | (with_reducible exact Below.refl _ _) | (with_reducible refine bdN ?_ _) | (with_reducible refine Below.alloc ?_ ?_ _) | (with_reducible refine Below.drew ?_) | (with_reducible refine Below.setCell ?_ ?_ _) | go_size))⟩
              · go_wp2_with fail
                go_roundg (s.size - (q + k + 1))
                case measure => rw [HG0.out]; omega
                case rel => exact ⟨f, q + k + 1, 6, t2, a, b, c', d, x, n, rfl, rfl, by go_num, rfl, by omega, by omega, by omega, by omega, HI2.out, by (simp only [CellsAt]; (first | (go_simp; done) | ((repeat' (with_reducible refine And.intro ?_ ?_)) <;> (repeat' (first | (with_reducible assumption) | (with_reducible exact trivial) | (with_reducible refine kA _ ?_) | (with_reducible refine kD ?_) | (with_reducible refine kS _ ?_ ?_) | (with_reducible refine fA _ ?_ ?_) | (with_reducible refine fD ?_) | (with_reducible refine fS _ ?_) | go_size | (go_simp; done)))))), by (simp only [CellsAt]; (first | (go_simp; done) | ((repeat' (with_reducible refine And.intro ?_ ?_)) <;> (repeat' (first | (with_reducible assumption) | (with_reducible exact trivial) | (with_reducible refine kA _ ?_) | (with_reducible refine kD ?_) | (with_reducible refine kS _ ?_ ?_) | (with_reducible refine fA _ ?_ ?_) | (with_reducible refine fD ?_) | (with_reducible refine fS _ ?_) | go_size | (go_simp; done)))))), by go_size, by (repeat' (first | (with_reducible assumption) | (with_reducible exact Below.refl _ _) | (with_reducible refine bdN ?_ _) | (with_reducible refine Below.alloc ?_ ?_ _) | (with_reducible refine Below.drew ?_) | (with_reducible refine Below.setCell ?_ ?_ _) | go_size))⟩

theorem PeriodFrom_s (s : ByteArray) (hs : s.size ≤ 1099511627776) (w : World) : Calls Tryd.prog 10 #[.string s] w fun e w' => e = .returned (outP (pfL s.data.toList)) ∧ Below w.heap.size w w' := by
  have hl : s.data.toList.length = s.size := by simp
  by_cases h3 : s.size < 3
  · rw [show pfL s.data.toList = none from if_pos (.inl (by rw [hl]; exact h3))]
    exact pf_bad s hs w (.inl h3)
  · have h0 : 0 < s.size := by omega
    have hg := getD_eq s 0 h0
    by_cases h80 : (s[0].toNat : Int) = 80
    · rw [show pfL s.data.toList = _ from if_neg (by rw [hl, hg]; omega)]
      exact pf_loop s hs w (by omega) (by simpa using h80) _ rfl
    · rw [show pfL s.data.toList = none from if_pos (.inr (by rw [hg]; exact h80))]
      exact pf_bad s hs w (.inr ⟨by omega, by simpa using h80⟩)
end Go.Proofs.YtmdmahgplmijcaaDoor
