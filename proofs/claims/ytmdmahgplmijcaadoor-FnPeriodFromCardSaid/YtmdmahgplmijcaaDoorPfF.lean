/- Reading a period: the program's PeriodFrom and the reference's give the plain function. Condition: the text is not longer than 2^40 bytes. -/
import Derived.Test.YtmdmahgplmijcaaDoorPfJ
import Derived.Test.YtmdmahgplmijcaaDoorPfS
namespace Go.Proofs.YtmdmahgplmijcaaDoor
set_option linter.unusedSimpArgs false
open Go.RowKit DN
set_option linter.unusedVariables false

theorem itm_len {g : Nat → Nat → List Int → Option (List Int)} {l : List UInt8} {p j : Nat} {t : Bool} {v u : List Int} (hg : ∀ p' j' v', v'.length = 6 → ∀ u, g p' j' v' = some u → u.length = 6) (hv : v.length = 6) (h : itm g l p j t v = some u) : u.length = 6 := by
  unfold itm at h
  split at h
  · cases h
  · split at h
    · split at h
      · injection h with h; subst h; rfl
      · cases h
    · split at h
      · cases h
      · exact hg _ _ _ (by simpa using hv) _ h
theorem prs_len {f : Nat} : ∀ {l : List UInt8} {p j : Nat} {t : Bool} {v u : List Int}, v.length = 6 → prs f l p j t v = some u → u.length = 6 := by
  induction f with
  | zero => intro l p j t v u _ h; cases h
  | succ f ih =>
    intro l p j t v u hv h
    unfold prs at h
    split at h
    · injection h with h; subst h; exact hv
    · split at h
      · split at h
        · cases h
        · exact itm_len (fun p' j' v' hv' u hu => ih hv' hu) hv h
      · exact itm_len (fun p' j' v' hv' u hu => ih hv' hu) hv h
theorem pf_cases (l : List UInt8) : pfL l = none ∨ ∃ a b c d x y : Int, pfL l = some [a, b, c, d, x, y] := by
  cases h : pfL l with
  | none => exact .inl rfl
  | some u =>
    have hu : u.length = 6 := by
      unfold pfL at h
      split at h
      · cases h
      · exact prs_len rfl h
    match u, hu with
    | [a, b, c, d, x, y], _ => exact .inr ⟨a, b, c, d, x, y, rfl⟩

set_option maxRecDepth 100000 in
set_option maxHeartbeats 4000000 in
theorem period_one (r : Nat) (s : ByteArray) (w : World) (hs : s.size ≤ 1099511627776) (h : Rdr w r s 0) (h1 : s.size = 1) (h80 : ∀ h0 : 0 < s.size, ((s[0].toNat : Int) == 80) = true) : Calls Tryd.prog 18 #[.pointer (some ⟨r, 0, none⟩)] w (PerE w r s (pfL s.data.toList)) := by
  have hl : s.data.toList.length = s.size := by simp
  have hR : pfL s.data.toList = none := pf_short (by omega)
  rw [hR]
  have hk : runL s.data.toList 1 = 0 := by
    rcases Nat.eq_zero_or_pos (runL s.data.toList 1) with h | h
    · exact h
    · obtain ⟨hh, _⟩ := runL_lt (l := s.data.toList) (p := 1) (j := 0) h
      omega
  have hlt := h.2.2.2
  have HD := Lib.hid h
  have TP := Lib.hid (fun w' (h' : Rdr w' r s 0) => take_yes r s 0 80 w' h' hs (by omega) (h80 (by omega)))
  have FA := Lib.hid (fun w' (h' : Rdr w' r s 1) => few_no r s 1 w' h' hs (by omega) (by rw [hk]; omega))
  have DE := Lib.hid (fun w' (h' : Rdr w' r s 1) => done_any r s 1 w' h' hs (by omega) true (done_t h1.symm))
  have HS1 := Lib.hid h1
  clear hk hR h80 h hl h1
  go_enter Tryd.func18, Tryd.ntmps18
  go_wp2_with fail
  refine (TP.out _ (rdr_alloc (rdr_alloc HD.out _) _)).mono ?_
  rintro e w1 ⟨_, rfl, Rw1, Gw1⟩
  have sw1 := Gw1.size
  (try simp at sw1)
  have Ow1 : Onl r w w1 := onl_trans (by (repeat' (first | (with_reducible assumption) | (with_reducible exact onl_refl _ _) | (with_reducible refine onl_drewN ?_ _) | (with_reducible refine onl_drew ?_) | (with_reducible refine onl_alloc ?_ _) | (with_reducible refine onl_set ?_ (Or.inr ?_) _) | go_size))) Gw1
  have lw1_0 : w.heap.size < w1.heap.size := (by go_size)
  have zw1_wH : CellsAt w1 (w.heap.size) 0 [.int .i64 0, .int .i64 0, .int .i64 0, .int .i64 0, .int .i64 0, .int .i64 0] := cells_keep (by (simp only [CellsAt]; (first | (go_simp; done) | ((repeat' (with_reducible refine And.intro ?_ ?_)) <;> (repeat' (first | (with_reducible assumption) | (with_reducible exact trivial) | (with_reducible refine kA _ ?_) | (with_reducible refine kD ?_) | (with_reducible refine kS _ ?_ ?_) | (with_reducible refine fA _ ?_ ?_) | (with_reducible refine fD ?_) | (with_reducible refine fS _ ?_) | go_size | (go_simp; done))))))) (fun o => onl_cell Gw1 (by go_size) (by omega) o) (fun o => onl_frozen Gw1 (by go_size) (by omega) o)
  have lw1_1 : w.heap.size+1 < w1.heap.size := (by go_size)
  have zw1_wH1 : CellsAt w1 (w.heap.size+1) 0 [.int .i64 0, .int .i64 0, .int .i64 0, .int .i64 0, .int .i64 0, .int .i64 0] := cells_keep (by (simp only [CellsAt]; (first | (go_simp; done) | ((repeat' (with_reducible refine And.intro ?_ ?_)) <;> (repeat' (first | (with_reducible assumption) | (with_reducible exact trivial) | (with_reducible refine kA _ ?_) | (with_reducible refine kD ?_) | (with_reducible refine kS _ ?_ ?_) | (with_reducible refine fA _ ?_ ?_) | (with_reducible refine fD ?_) | (with_reducible refine fS _ ?_) | go_size | (go_simp; done))))))) (fun o => onl_cell Gw1 (by go_size) (by omega) o) (fun o => onl_frozen Gw1 (by go_size) (by omega) o)
  simp only [CellsAt] at zw1_wH
  simp only [CellsAt] at zw1_wH1
  have c1 := rdr_cell Rw1
  go_wp2_with fail
  refine (FA.out _ Rw1).mono ?_
  rintro e w2 ⟨_, rfl, Rw2, Gw2⟩
  have sw2 := Gw2.size
  (try simp at sw2)
  have Ow2 : Onl r w w2 := onl_trans (by (repeat' (first | (with_reducible assumption) | (with_reducible exact onl_refl _ _) | (with_reducible refine onl_drewN ?_ _) | (with_reducible refine onl_drew ?_) | (with_reducible refine onl_alloc ?_ _) | (with_reducible refine onl_set ?_ (Or.inr ?_) _) | go_size))) Gw2
  have lw2_0 : w.heap.size < w2.heap.size := (by go_size)
  have zw2_wH : CellsAt w2 (w.heap.size) 0 [.int .i64 0, .int .i64 0, .int .i64 0, .int .i64 0, .int .i64 0, .int .i64 0] := cells_keep (by (simp only [CellsAt]; (first | (go_simp; done) | ((repeat' (with_reducible refine And.intro ?_ ?_)) <;> (repeat' (first | (with_reducible assumption) | (with_reducible exact trivial) | (with_reducible refine kA _ ?_) | (with_reducible refine kD ?_) | (with_reducible refine kS _ ?_ ?_) | (with_reducible refine fA _ ?_ ?_) | (with_reducible refine fD ?_) | (with_reducible refine fS _ ?_) | go_size | (go_simp; done))))))) (fun o => onl_cell Gw2 (by go_size) (by omega) o) (fun o => onl_frozen Gw2 (by go_size) (by omega) o)
  have lw2_1 : w.heap.size+1 < w2.heap.size := (by go_size)
  have zw2_wH1 : CellsAt w2 (w.heap.size+1) 0 [.int .i64 0, .int .i64 0, .int .i64 0, .int .i64 0, .int .i64 0, .int .i64 0] := cells_keep (by (simp only [CellsAt]; (first | (go_simp; done) | ((repeat' (with_reducible refine And.intro ?_ ?_)) <;> (repeat' (first | (with_reducible assumption) | (with_reducible exact trivial) | (with_reducible refine kA _ ?_) | (with_reducible refine kD ?_) | (with_reducible refine kS _ ?_ ?_) | (with_reducible refine fA _ ?_ ?_) | (with_reducible refine fD ?_) | (with_reducible refine fS _ ?_) | go_size | (go_simp; done))))))) (fun o => onl_cell Gw2 (by go_size) (by omega) o) (fun o => onl_frozen Gw2 (by go_size) (by omega) o)
  simp only [CellsAt] at zw2_wH
  simp only [CellsAt] at zw2_wH1
  clear zw1_wH zw1_wH1
  clear c1
  have q1 := Rw2.2.1
  have q2 := Rw2.2.2.1
  have q3 := Rw2.2.2.2
  have HR0 := Lib.hid Rw2.1
  go_wp2_with fail
  have R2 : Rdr (w2.setCell ⟨r, 1, none⟩ (.int .i64 1)) r s 1 := ⟨by have := HR0.out; go_simp, by go_simp, by go_simp, by go_size⟩
  have O2 : Onl r w (w2.setCell ⟨r, 1, none⟩ (.int .i64 1)) := onl_set Ow2 (.inl rfl) _
  refine (parts_mem _ _ (by go_size)).mono ?_
  rintro e w4 ⟨_, rfl, hpc, hsz4, b4⟩
  have R4 : Rdr w4 r s 1 := rdr_below R2 b4
  have O4 : Onl r w w4 := onl_of_below O2 b4
  have z4 : CellsAt w4 w.heap.size 0 [.int .i64 0, .int .i64 0, .int .i64 0, .int .i64 0, .int .i64 0, .int .i64 0] := cells_keep (by (simp only [CellsAt]; (first | (go_simp; done) | ((repeat' (with_reducible refine And.intro ?_ ?_)) <;> (repeat' (first | (with_reducible assumption) | (with_reducible exact trivial) | (with_reducible refine kA _ ?_) | (with_reducible refine kD ?_) | (with_reducible refine kS _ ?_ ?_) | (with_reducible refine fA _ ?_ ?_) | (with_reducible refine fD ?_) | (with_reducible refine fS _ ?_) | go_size | (go_simp; done))))))) (fun o => b4.cell (p := ⟨_, o, none⟩) (by go_size)) (fun o => b4.frozen (p := ⟨_, o, none⟩) (by go_size))
  have y4 : CellsAt w4 (w.heap.size + 1) 0 [.int .i64 0, .int .i64 0, .int .i64 0, .int .i64 0, .int .i64 0, .int .i64 0] := cells_keep (by (simp only [CellsAt]; (first | (go_simp; done) | ((repeat' (with_reducible refine And.intro ?_ ?_)) <;> (repeat' (first | (with_reducible assumption) | (with_reducible exact trivial) | (with_reducible refine kA _ ?_) | (with_reducible refine kD ?_) | (with_reducible refine kS _ ?_ ?_) | (with_reducible refine fA _ ?_ ?_) | (with_reducible refine fD ?_) | (with_reducible refine fS _ ?_) | go_size | (go_simp; done))))))) (fun o => b4.cell (p := ⟨_, o, none⟩) (by go_size)) (fun o => b4.frozen (p := ⟨_, o, none⟩) (by go_size))
  simp only [World.size_setCell] at hpc hsz4
  have l4 : w.heap.size + 1 < w4.heap.size := by rw [hsz4]; go_size
  clear b4 R2 O2 q1 q2 q3 HR0 hpc zw2_wH zw2_wH1 Rw1 Rw2 Ow1 Ow2
  try simp only [World.size_setCell]
  simp only [CellsAt] at z4 y4
  go_wp2_with fail
  refine wp_loop_rounds 1 ?_
  rw [rounds_succ]
  go_wp2_with fail
  refine (DE.out _ R4).mono ?_
  rintro e d1 ⟨_, rfl, Rd1, Gd1⟩
  have sd1 := Gd1.size
  (try simp at sd1)
  have Od1 : Onl r w d1 := onl_trans (by (repeat' (first | (with_reducible assumption) | (with_reducible exact onl_refl _ _) | (with_reducible refine onl_drewN ?_ _) | (with_reducible refine onl_drew ?_) | (with_reducible refine onl_alloc ?_ _) | (with_reducible refine onl_set ?_ (Or.inr ?_) _) | go_size))) Gd1
  have ld1_0 : w.heap.size < d1.heap.size := (by go_size)
  have zd1_wH : CellsAt d1 (w.heap.size) 0 [.int .i64 0, .int .i64 0, .int .i64 0, .int .i64 0, .int .i64 0, .int .i64 0] := cells_keep (by (simp only [CellsAt]; (first | (go_simp; done) | ((repeat' (with_reducible refine And.intro ?_ ?_)) <;> (repeat' (first | (with_reducible assumption) | (with_reducible exact trivial) | (with_reducible refine kA _ ?_) | (with_reducible refine kD ?_) | (with_reducible refine kS _ ?_ ?_) | (with_reducible refine fA _ ?_ ?_) | (with_reducible refine fD ?_) | (with_reducible refine fS _ ?_) | go_size | (go_simp; done))))))) (fun o => onl_cell Gd1 (by go_size) (by omega) o) (fun o => onl_frozen Gd1 (by go_size) (by omega) o)
  have ld1_1 : w.heap.size+1 < d1.heap.size := (by go_size)
  have zd1_wH1 : CellsAt d1 (w.heap.size+1) 0 [.int .i64 0, .int .i64 0, .int .i64 0, .int .i64 0, .int .i64 0, .int .i64 0] := cells_keep (by (simp only [CellsAt]; (first | (go_simp; done) | ((repeat' (with_reducible refine And.intro ?_ ?_)) <;> (repeat' (first | (with_reducible assumption) | (with_reducible exact trivial) | (with_reducible refine kA _ ?_) | (with_reducible refine kD ?_) | (with_reducible refine kS _ ?_ ?_) | (with_reducible refine fA _ ?_ ?_) | (with_reducible refine fD ?_) | (with_reducible refine fS _ ?_) | go_size | (go_simp; done))))))) (fun o => onl_cell Gd1 (by go_size) (by omega) o) (fun o => onl_frozen Gd1 (by go_size) (by omega) o)
  simp only [CellsAt] at zd1_wH
  simp only [CellsAt] at zd1_wH1
  clear z4 y4
  go_wp21
  exact bodyPost_ret (v := .tuple #[.agg #[.int .i64 0, .int .i64 0, .int .i64 0, .int .i64 0, .int .i64 0, .int .i64 0], .bool false]) (by simp [results, Tryd.results18, go_sem, zd1_wH, zd1_wH1]) rfl ⟨0, 0, 0, 0, 0, 0, false, 1, ⟨by have := HS1.out; omega, .inr ⟨by simp, rfl⟩⟩, rfl, by repeat' (first | (with_reducible assumption) | (with_reducible refine rdr_set ?_ ?_ _) | (with_reducible refine rdr_alloc ?_ _) | (with_reducible refine rdr_drew ?_ _) | (with_reducible refine rdr_drew1 ?_) | go_size), by (repeat' (first | (with_reducible assumption) | (with_reducible exact onl_refl _ _) | (with_reducible refine onl_drewN ?_ _) | (with_reducible refine onl_drew ?_) | (with_reducible refine onl_alloc ?_ _) | (with_reducible refine onl_set ?_ (Or.inr ?_) _) | go_size))⟩

theorem period_any (r : Nat) (s : ByteArray) (w : World) (hs : s.size ≤ 1099511627776) (h : Rdr w r s 0) : Calls Tryd.prog 18 #[.pointer (some ⟨r, 0, none⟩)] w (PerE w r s (pfL s.data.toList)) := by
  by_cases h0 : 0 < s.size
  · by_cases h80 : ((s[0].toNat : Int) == 80) = true
    · by_cases h2 : 2 ≤ s.size
      · by_cases hW : ∃ k, runL s.data.toList 1 = k ∧ 1 ≤ k ∧ k ≤ 4 ∧ ∃ hkk : 1 + k < s.size, ((s[1 + k].toNat : Int) == 87) = true
        · obtain ⟨k, hk, k1, k2, hkk, hW⟩ := hW
          exact period_W r s w hs h h0 h80 k _ hk rfl k1 k2 hkk hW
        · exact period_go r s w hs h h2 h80 (fun k hk k1 k2 hkk => by
            cases e : ((s[1 + k].toNat : Int) == 87)
            · rfl
            · exact absurd ⟨k, hk, k1, k2, hkk, e⟩ hW)
      · exact period_one r s w hs h (by omega) (fun _ => h80)
    · exact period_noP r s w hs h (.inr ⟨h0, by simpa using h80⟩)
  · exact period_noP r s w hs h (.inl (by omega))

theorem fin_ok {R : Option (List Int)} {v : List Int} {q n : Nat} (h : FinP R v true q n) (e : q = n) : some v = R := by
  rcases h with ⟨_, _, h⟩ | ⟨h, _⟩
  · exact h
  · exact absurd ⟨rfl, e⟩ h
theorem fin_no {R : Option (List Int)} {v : List Int} {ok : Bool} {q n : Nat} (h : FinP R v ok q n) (e : ok = false ∨ q ≠ n) : none = R := by
  rcases h with ⟨h1, h2, _⟩ | ⟨_, h⟩
  · rcases e with e | e
    · rw [h1] at e; cases e
    · exact absurd h2 e
  · exact h
set_option maxRecDepth 100000 in
set_option maxHeartbeats 4000000 in
theorem PeriodFrom_i (s : ByteArray) (hs : s.size ≤ 1099511627776) (w : World) : Calls Tryd.prog 9 #[.string s] w fun e w' => e = .returned (outP (pfL s.data.toList)) ∧ Below w.heap.size w w' := by
  obtain ⟨R, hR⟩ : ∃ R, pfL s.data.toList = R := ⟨_, rfl⟩
  have PA := Lib.hid (fun r w' (h' : Rdr w' r s 0) => period_any r s w' hs h')
  rw [hR] at PA
  rw [hR]
  clear hR
  go_enter Tryd.func9, Tryd.ntmps9
  go_wp2_with fail
  refine (PA.out _ _ ⟨by go_simp, by go_simp, by go_simp, by go_size⟩).mono ?_
  rintro e w1 ⟨a, b, c, d, x, y, ok, q, ⟨hq, hfin⟩, rfl, R1, O1⟩
  have HF := Lib.hid hfin
  clear hfin
  have s1 := O1.size
  (try simp at s1)
  have A1 : Below w.heap.size w w1 := Below.trans (by (repeat' (first | (with_reducible assumption) | (with_reducible exact Below.refl _ _) | (with_reducible refine bdN ?_ _) | (with_reducible refine Below.alloc ?_ ?_ _) | (with_reducible refine Below.drew ?_) | (with_reducible refine Below.setCell ?_ ?_ _) | go_size))) (onl_below O1 (by go_size) (by go_size))
  have z1 : CellsAt w1 w.heap.size 0 [.int .i64 0, .int .i64 0, .int .i64 0, .int .i64 0, .int .i64 0, .int .i64 0] := cells_keep (by (simp only [CellsAt]; (first | (go_simp; done) | ((repeat' (with_reducible refine And.intro ?_ ?_)) <;> (repeat' (first | (with_reducible assumption) | (with_reducible exact trivial) | (with_reducible refine kA _ ?_) | (with_reducible refine kD ?_) | (with_reducible refine kS _ ?_ ?_) | (with_reducible refine fA _ ?_ ?_) | (with_reducible refine fD ?_) | (with_reducible refine fS _ ?_) | go_size | (go_simp; done))))))) (fun o => onl_cell O1 (by go_size) (by omega) o) (fun o => onl_frozen O1 (by go_size) (by omega) o)
  simp only [CellsAt] at z1
  have l1 : w.heap.size < w1.heap.size := by go_size
  have l1' : w.heap.size + 1 < w1.heap.size := by go_size
  clear O1
  have DN1 := Lib.hid (fun w' (h' : Rdr w' (w.heap.size + 1) s q) v hv => done_any (w.heap.size + 1) s q w' h' hs hq v hv)
  go_upto_region 3 with fail
  refine seal_wp ?_
  intro v1 hv1
  have sv1 := congrArg (fun x : World => x.heap.size) hv1
  simp only [World.size_alloc] at sv1
  have Rv1 : Rdr v1 (w.heap.size + 1) s q := by rw [hv1]; exact rdr_alloc R1 _
  have Av1 : Below w.heap.size w v1 := by rw [hv1]; (repeat' (first | (with_reducible assumption) | (with_reducible exact Below.refl _ _) | (with_reducible refine bdN ?_ _) | (with_reducible refine Below.alloc ?_ ?_ _) | (with_reducible refine Below.drew ?_) | (with_reducible refine Below.setCell ?_ ?_ _) | go_size))
  have zv1 : CellsAt v1 w.heap.size 0 [.int .i64 0, .int .i64 0, .int .i64 0, .int .i64 0, .int .i64 0, .int .i64 0] := by rw [hv1]; (simp only [CellsAt]; (first | (go_simp; done) | ((repeat' (with_reducible refine And.intro ?_ ?_)) <;> (repeat' (first | (with_reducible assumption) | (with_reducible exact trivial) | (with_reducible refine kA _ ?_) | (with_reducible refine kD ?_) | (with_reducible refine kS _ ?_ ?_) | (with_reducible refine fA _ ?_ ?_) | (with_reducible refine fD ?_) | (with_reducible refine fS _ ?_) | go_size | (go_simp; done))))))
  have yv1 : CellsAt v1 w1.heap.size 0 [.int .i64 a, .int .i64 b, .int .i64 c, .int .i64 d, .int .i64 x, .int .i64 y] := by rw [hv1]; (simp only [CellsAt]; (first | (go_simp; done) | ((repeat' (with_reducible refine And.intro ?_ ?_)) <;> (repeat' (first | (with_reducible assumption) | (with_reducible exact trivial) | (with_reducible refine kA _ ?_) | (with_reducible refine kD ?_) | (with_reducible refine kS _ ?_ ?_) | (with_reducible refine fA _ ?_ ?_) | (with_reducible refine fD ?_) | (with_reducible refine fS _ ?_) | go_size | (go_simp; done))))))
  simp only [CellsAt] at zv1 yv1
  have lv1 : w.heap.size < v1.heap.size := by omega
  have lv2 : w1.heap.size < v1.heap.size := by omega
  have lv3 : w.heap.size + 1 < v1.heap.size := by omega
  have lne : w1.heap.size ≠ w.heap.size := by omega
  clear hv1 z1 R1 A1
  cases ok
  · clear yv1
    go_wp21
    exact bodyPost_ret (v := .tuple #[.agg #[.int .i64 0, .int .i64 0, .int .i64 0, .int .i64 0, .int .i64 0, .int .i64 0], .bool false]) (by simp [results, Tryd.results9, go_sem, zv1]) rfl ⟨out_none (fin_no HF.out (.inl (by trivial))), by (repeat' (first | (with_reducible assumption) | (with_reducible exact Below.refl _ _) | (with_reducible refine bdN ?_ _) | (with_reducible refine Below.alloc ?_ ?_ _) | (with_reducible refine Below.drew ?_) | (with_reducible refine Below.setCell ?_ ?_ _) | go_size))⟩
  · go_wp2_with fail
    refine (DN1.out _ Rv1 _ rfl).mono ?_
    rintro e w2 ⟨_, rfl, R2, O2⟩
    have s2 := O2.size
    (try simp at s2)
    have A2 : Below w.heap.size w w2 := Below.trans (by (repeat' (first | (with_reducible assumption) | (with_reducible exact Below.refl _ _) | (with_reducible refine bdN ?_ _) | (with_reducible refine Below.alloc ?_ ?_ _) | (with_reducible refine Below.drew ?_) | (with_reducible refine Below.setCell ?_ ?_ _) | go_size))) (onl_below O2 (by go_size) (by go_size))
    have z2 : CellsAt w2 w.heap.size 0 [.int .i64 0, .int .i64 0, .int .i64 0, .int .i64 0, .int .i64 0, .int .i64 0] := cells_keep (by (simp only [CellsAt]; (first | (go_simp; done) | ((repeat' (with_reducible refine And.intro ?_ ?_)) <;> (repeat' (first | (with_reducible assumption) | (with_reducible exact trivial) | (with_reducible refine kA _ ?_) | (with_reducible refine kD ?_) | (with_reducible refine kS _ ?_ ?_) | (with_reducible refine fA _ ?_ ?_) | (with_reducible refine fD ?_) | (with_reducible refine fS _ ?_) | go_size | (go_simp; done))))))) (fun o => onl_cell O2 (by go_size) (by omega) o) (fun o => onl_frozen O2 (by go_size) (by omega) o)
    have y2 : CellsAt w2 w1.heap.size 0 [.int .i64 a, .int .i64 b, .int .i64 c, .int .i64 d, .int .i64 x, .int .i64 y] := cells_keep (by (simp only [CellsAt]; (first | (go_simp; done) | ((repeat' (with_reducible refine And.intro ?_ ?_)) <;> (repeat' (first | (with_reducible assumption) | (with_reducible exact trivial) | (with_reducible refine kA _ ?_) | (with_reducible refine kD ?_) | (with_reducible refine kS _ ?_ ?_) | (with_reducible refine fA _ ?_ ?_) | (with_reducible refine fD ?_) | (with_reducible refine fS _ ?_) | go_size | (go_simp; done))))))) (fun o => onl_cell O2 (by go_size) (by omega) o) (fun o => onl_frozen O2 (by go_size) (by omega) o)
    simp only [CellsAt] at z2 y2
    have l2 : w.heap.size < w2.heap.size := by go_size
    have l2' : w1.heap.size < w2.heap.size := by go_size
    clear O2 zv1 yv1 Rv1
    by_cases hqe : q = s.size
    · have e1 := done_t hqe
      have HE := Lib.hid (fin_ok HF.out hqe)
      clear hqe
      go_wp21
      exact bodyPost_ret (v := .tuple #[.agg #[.int .i64 a, .int .i64 b, .int .i64 c, .int .i64 d, .int .i64 x, .int .i64 y], .bool true]) (by simp [results, Tryd.results9, go_sem, z2]) rfl ⟨out_some HE.out, by (repeat' (first | (with_reducible assumption) | (with_reducible exact Below.refl _ _) | (with_reducible refine bdN ?_ _) | (with_reducible refine Below.alloc ?_ ?_ _) | (with_reducible refine Below.drew ?_) | (with_reducible refine Below.setCell ?_ ?_ _) | go_size))⟩
    · have e1 := done_f (show q < s.size by omega)
      have HE := Lib.hid (fin_no HF.out (.inr hqe))
      clear hqe
      go_wp21
      exact bodyPost_ret (v := .tuple #[.agg #[.int .i64 0, .int .i64 0, .int .i64 0, .int .i64 0, .int .i64 0, .int .i64 0], .bool false]) (by simp [results, Tryd.results9, go_sem, z2]) rfl ⟨out_none HE.out, by (repeat' (first | (with_reducible assumption) | (with_reducible exact Below.refl _ _) | (with_reducible refine bdN ?_ _) | (with_reducible refine Below.alloc ?_ ?_ _) | (with_reducible refine Below.drew ?_) | (with_reducible refine Below.setCell ?_ ?_ _) | go_size))⟩
end Go.Proofs.YtmdmahgplmijcaaDoor
