/- Reading a period by the program: the loop over the parts. Condition: the text is not longer than 2^40 bytes. -/
import Derived.Test.YtmdmahgplmijcaaDoorPfI
import Derived.Deep.DeepCutAuto
import Derived.Deep.LoopGhost
namespace Go.Proofs.YtmdmahgplmijcaaDoor
set_option linter.unusedSimpArgs false
open Go.RowKit DN
set_option linter.unusedVariables false

/-- the parts that wait from part j on -/
def WaP (m j : Nat) (v : Value) : Prop := (j = 0 ∧ v = .slice (some ⟨m, 0, none⟩) 6 6) ∨ (j = 1 ∧ v = .slice (some ⟨m, 3, none⟩) 5 5) ∨ (j = 2 ∧ v = .slice (some ⟨m, 6, none⟩) 4 4) ∨ (j = 3 ∧ v = .slice (some ⟨m, 9, none⟩) 3 3) ∨ (j = 4 ∧ v = .slice (some ⟨m, 12, none⟩) 2 2) ∨ (j = 5 ∧ v = .slice (some ⟨m, 15, none⟩) 1 1) ∨ (j = 6 ∧ v = .slice (some ⟨m, 15, none⟩) 0 0)
theorem ix_inv0 {b : Int} {t : Bool} (h : ixL b t = 0) : b = 89 ∧ t = false := by
  unfold ixL at h
  cases t <;> simp at h <;> (repeat' split at h) <;> simp_all
theorem ix_mk0 : ixL 89 false = 0 := by decide
theorem ix_inv1 {b : Int} {t : Bool} (h : ixL b t = 1) : b = 77 ∧ t = false := by
  unfold ixL at h
  cases t <;> simp at h <;> (repeat' split at h) <;> simp_all
theorem ix_mk1 : ixL 77 false = 1 := by decide
theorem ix_inv2 {b : Int} {t : Bool} (h : ixL b t = 2) : b = 68 ∧ t = false := by
  unfold ixL at h
  cases t <;> simp at h <;> (repeat' split at h) <;> simp_all
theorem ix_mk2 : ixL 68 false = 2 := by decide
theorem ix_inv3 {b : Int} {t : Bool} (h : ixL b t = 3) : b = 72 ∧ t = true := by
  unfold ixL at h
  cases t <;> simp at h <;> (repeat' split at h) <;> simp_all
theorem ix_mk3 : ixL 72 true = 3 := by decide
theorem ix_inv4 {b : Int} {t : Bool} (h : ixL b t = 4) : b = 77 ∧ t = true := by
  unfold ixL at h
  cases t <;> simp at h <;> (repeat' split at h) <;> simp_all
theorem ix_mk4 : ixL 77 true = 4 := by decide
theorem ix_inv5 {b : Int} {t : Bool} (h : ixL b t = 5) : b = 83 ∧ t = true := by
  unfold ixL at h
  cases t <;> simp at h <;> (repeat' split at h) <;> simp_all
theorem ix_mk5 : ixL 83 true = 5 := by decide
theorem ix_cases2 {b : Int} {t : Bool} : ixL b t = -1 ∨ ixL b t = 0 ∨ ixL b t = 1 ∨ ixL b t = 2 ∨ ixL b t = 3 ∨ ixL b t = 4 ∨ ixL b t = 5 := by
  unfold ixL
  repeat' split
  all_goals omega
theorem ix_W {t : Bool} : ixL 87 t = -1 := by cases t <;> decide
/-- what is still to be read gives R -/
def EqP (f : Nat) (l : List UInt8) (n q j : Nat) (t an op : Bool) (v : List Int) (R : Option (List Int)) : Prop := (op = false ∧ prs f l q j t v = R ∧ (an = true ∨ q = 1)) ∨ (op = true ∧ t = true ∧ (if q = n then none else itm (fun p' j' v' => prs f l p' j' true v') l q j true v) = R)
/-- the loop's relation -/
def PiRel (s : ByteArray) (R : Option (List Int)) (w : World) (r m g : Nat) (wt tm an op : Value) (wr : World) : Prop := ∃ (f q j : Nat) (t anB opB : Bool) (a b c d x y : Int), WaP m j wt ∧ tm = .bool t ∧ an = .bool anB ∧ op = .bool opB ∧ g = s.size - q ∧ 1 ≤ q ∧ q ≤ s.size ∧ s.size < f + q ∧ j ≤ 6 ∧
  EqP f s.data.toList s.size q j t anB opB [a, b, c, d, x, y] R ∧ Rdr wr r s q ∧ CellsAt wr w.heap.size 0 [.int .i64 0, .int .i64 0, .int .i64 0, .int .i64 0, .int .i64 0, .int .i64 0] ∧ CellsAt wr (w.heap.size + 1) 0 [.int .i64 a, .int .i64 b, .int .i64 c, .int .i64 d, .int .i64 x, .int .i64 y] ∧ CellsAt wr m 0 (partCells (w.heap.size + 1)) ∧ m < wr.heap.size ∧ Onl r w wr
theorem item_eq {f : Nat} {l : List UInt8} {n q j : Nat} {t an op : Bool} {v : List Int} {R : Option (List Int)} (hl : l.length = n) (h : EqP f l n q j t an op v R) (hq : q < n) (hf : n < f + q) (hT : t = true ∨ ¬ ((l.getD q 0).toNat : Int) = 84) : ∃ g, n ≤ g + q ∧ itm (fun p' j' v' => prs g l p' j' t v') l q j t v = R := by
  rcases h with ⟨rfl, h, _⟩ | ⟨rfl, rfl, h⟩
  · obtain ⟨g, rfl⟩ : ∃ g, f = g + 1 := ⟨f - 1, by omega⟩
    exact ⟨g, by omega, by rw [prs_I (by omega) (by rintro ⟨x, y⟩; rcases hT with hT | hT; (rw [hT] at y; cases y); exact hT x)] at h; exact h⟩
  · rw [if_neg (by omega)] at h
    exact ⟨f, by omega, h⟩
theorem tee_eq {f : Nat} {l : List UInt8} {n q j : Nat} {an op : Bool} {v : List Int} {R : Option (List Int)} (hl : l.length = n) (h : EqP f l n q j false an op v R) (hq : q < n) (hf : n < f + q) (hT : ((l.getD q 0).toNat : Int) = 84) (an' : Bool) : ∃ g, n < g + (q + 1) ∧ EqP g l n (q + 1) j true an' true v R := by
  rcases h with ⟨rfl, h, _⟩ | ⟨_, h, _⟩
  · obtain ⟨g, rfl⟩ : ∃ g, f = g + 1 := ⟨f - 1, by omega⟩
    rw [prs_T (by omega) hT, hl] at h
    exact ⟨g, by omega, .inr ⟨rfl, rfl, h⟩⟩
  · cases h
theorem end_eq {f : Nat} {l : List UInt8} {n j : Nat} {t an op : Bool} {v : List Int} {R : Option (List Int)} (hl : l.length = n) (hn : 2 ≤ n) (hf : 0 < f) (h : EqP f l n n j t an op v R) : FinP R v (an && !op) n n := by
  obtain ⟨g, rfl⟩ : ∃ g, f = g + 1 := ⟨f - 1, by omega⟩
  rcases h with ⟨rfl, h, ha⟩ | ⟨rfl, _, h⟩
  · rw [← hl, prs_end] at h
    have ha' : an = true := by rcases ha with ha | ha; exact ha; omega
    subst ha'
    exact .inl ⟨rfl, rfl, h⟩
  · rw [if_pos rfl] at h
    exact .inr ⟨by simp, h⟩

/-- few, whatever follows -/
def FewE (w : World) (r : Nat) (s : ByteArray) (p : Nat) (e : Ending) (w' : World) : Prop := ∃ (n : Int) (ok : Bool) (q : Nat), (q ≤ s.size ∧ (ok = true → q = p + runL s.data.toList p ∧ 1 ≤ runL s.data.toList p ∧ runL s.data.toList p ≤ 4 ∧ n = numAt s.data.toList p (runL s.data.toList p)) ∧ (ok = false → q = p ∧ ¬ (1 ≤ runL s.data.toList p ∧ runL s.data.toList p ≤ 4))) ∧ e = .returned (.tuple #[.int .i64 n, .bool ok]) ∧ Rdr w' r s q ∧ Onl r w w'
theorem few_any (r : Nat) (s : ByteArray) (p : Nat) (w : World) (h : Rdr w r s p) (hs : s.size ≤ 1099511627776) (hp : p ≤ s.size) : Calls Tryd.prog 33 #[.pointer (some ⟨r, 0, none⟩)] w (FewE w r s p) := by
  by_cases hk : 1 ≤ runL s.data.toList p ∧ runL s.data.toList p ≤ 4
  · refine (few_yes r s p w h hs hp _ rfl hk.1 hk.2).mono ?_
    rintro e w' ⟨_, rfl, h1, h2⟩
    have hl := runL_le (l := s.data.toList) (p := p) (by simpa using hp)
    exact ⟨_, true, _, ⟨by simpa using hl, fun _ => ⟨rfl, hk.1, hk.2, rfl⟩, (fun h => by cases h)⟩, rfl, h1, h2⟩
  · refine (few_no r s p w h hs hp hk).mono ?_
    rintro e w' ⟨_, rfl, h1, h2⟩
    exact ⟨_, false, _, ⟨hp, (fun h => by cases h), fun _ => ⟨rfl, hk⟩⟩, rfl, h1, h2⟩
theorem done_f {p n : Nat} (h : p < n) : ((p : Int) == n) = false := by simp; omega
theorem done_t {p n : Nat} (h : p = n) : ((p : Int) == n) = true := by subst h; simp
theorem itm_out {g : Nat → Nat → List Int → Option (List Int)} {l : List UInt8} {p j : Nat} {t : Bool} {v : List Int} {R : Option (List Int)} {b : Int} (h : itm g l p j t v = R) (hk : ¬ (runL l p = 0 ∨ 4 < runL l p ∨ l.length ≤ p + runL l p)) (hb : ((l.getD (p + runL l p) 0).toNat : Int) = b)
    (hno : ∀ i : Nat, j ≤ i → i < 6 → ixL b t ≠ i) (hW : b = 87 → p ≠ 1) : none = R := by
  by_cases hw : b = 87
  · rw [itm_W hk (hb.trans hw), if_neg (by rintro ⟨x, _⟩; exact hW hw x)] at h
    exact h
  · rw [itm_no hk (by rw [hb]; exact hw) (by
      rw [hb]
      rcases ix_cases2 (b := b) (t := t) with e | e | e | e | e | e | e
      · omega
      all_goals
        rw [e]
        refine Decidable.byContradiction (fun hx => ?_)
        first
          | exact hno 0 (by omega) (by omega) e
          | exact hno 1 (by omega) (by omega) e
          | exact hno 2 (by omega) (by omega) e
          | exact hno 3 (by omega) (by omega) e
          | exact hno 4 (by omega) (by omega) e
          | exact hno 5 (by omega) (by omega) e)] at h
    exact h
theorem itm_in {g : Nat → Nat → List Int → Option (List Int)} {l : List UInt8} {p j k : Nat} {t : Bool} {v : List Int} {R : Option (List Int)} {b n : Int} (h : itm g l p j t v = R) (hk : ¬ (runL l p = 0 ∨ 4 < runL l p ∨ l.length ≤ p + runL l p)) (hkk : runL l p = k) (hn : numAt l p k = n) (hb : ((l.getD (p + runL l p) 0).toNat : Int) = b)
    (i : Nat) (hi : ixL b t = i) (hj : j ≤ i) : g (p + k + 1) (i + 1) (v.set i n) = R := by
  have hw : ¬ b = 87 := by rintro rfl; rw [ix_W] at hi; omega
  rw [itm_go hk (by rw [hb]; exact hw) (by rw [hb, hi]; omega), hb, hi, hkk, hn] at h
  exact h
set_option maxRecDepth 100000 in
set_option maxHeartbeats 16000000 in
theorem period_go (r : Nat) (s : ByteArray) (w : World) (hs : s.size ≤ 1099511627776) (h : Rdr w r s 0) (h2 : 2 ≤ s.size) (h80 : ((s[0].toNat : Int) == 80) = true) (hNW : ∀ k, runL s.data.toList 1 = k → 1 ≤ k → k ≤ 4 → ∀ hkk : 1 + k < s.size, ((s[1 + k].toNat : Int) == 87) = false) :
    Calls Tryd.prog 18 #[.pointer (some ⟨r, 0, none⟩)] w (PerE w r s (pfL s.data.toList)) := by
  have hl : s.data.toList.length = s.size := by simp
  have h0 : 0 < s.size := by omega
  have e80 : ((s.data.toList.getD 0 0).toNat : Int) = 80 := by rw [getD_eq s 0 h0]; simpa using h80
  obtain ⟨R, hR⟩ : ∃ R, pfL s.data.toList = R := ⟨_, rfl⟩
  have HR := Lib.hid ((pf_prs (l := s.data.toList) (by omega) e80).symm.trans hR)
  rw [hR]
  have hlt := h.2.2.2
  have HD := Lib.hid h
  have TP := Lib.hid (fun w' (h' : Rdr w' r s 0) => take_yes r s 0 80 w' h' hs h0 h80)
  have HNW := Lib.hid hNW
  have FA := Lib.hid (fun w' (h' : Rdr w' r s 1) => few_any r s 1 w' h' hs (by omega))
  have HL := Lib.hid hl
  clear hR e80 h80 hNW h hl
  go_enter Tryd.func18, Tryd.ntmps18
  go_wp2_with fail
  refine (TP.out _ (rdr_alloc (rdr_alloc HD.out _) _)).mono ?_
  rintro e w1 ⟨_, rfl, Rw1, Gw1⟩
  have sw1 := Gw1.size
  (try simp at sw1)
  have Ow1 : Onl r w w1 := onl_trans (by (repeat' (first | (with_reducible assumption) | (with_reducible exact onl_refl _ _) | (with_reducible refine onl_drewN ?_ _) | (with_reducible refine onl_drew ?_) | (with_reducible refine onl_alloc ?_ _) | (with_reducible refine onl_set ?_ (Or.inr ?_) _) | go_size))) Gw1
  have lw1_0 : w.heap.size < w1.heap.size := (by go_size)
  have zw1_wH : CellsAt w1 (w.heap.size) 0 [.int .i64 0, .int .i64 0, .int .i64 0, .int .i64 0, .int .i64 0, .int .i64 0] := cells_keep (by (simp only [CellsAt]; (first | (go_simp; done) | ((repeat' (with_reducible refine And.intro ?_ ?_)) <;> (repeat' (first | (with_reducible assumption) | (with_reducible exact trivial) | (with_reducible refine kA _ ?_) | (with_reducible refine kD ?_) | (with_reducible refine kS _ ?_ ?_) | (with_reducible refine fA _ ?_ ?_) | (with_reducible refine fD ?_) | (with_reducible refine fS _ ?_) | go_size | (go_simp; done))))))) (fun o => onl_cell Gw1 (by go_size) (by omega) o) (fun o => onl_frozen Gw1 (by go_size) (by omega) o)
  have lw1_1 : w.heap.size+1 < w1.heap.size := (by go_size)
  have zw1_wH1 : CellsAt w1 (w.heap.size+1) 0 [.int .i64 0, .int .i64 0, .int .i64 0, .int .i64 0, .int .i64 0, .int .i64 0] := cells_keep (by (simp only [CellsAt]; (first | (go_simp; done) | ((repeat' (with_reducible refine And.intro ?_ ?_)) <;> (repeat' (first | (with_reducible assumption) | (with_reducible exact trivial) | (with_reducible refine kA _ ?_) | (with_reducible refine kD ?_) | (with_reducible refine kS _ ?_ ?_) | (with_reducible refine fA _ ?_ ?_) | (with_reducible refine fD ?_) | (with_reducible refine fS _ ?_) | go_size | (go_simp; done))))))) (fun o => onl_cell Gw1 (by go_size) (by omega) o) (fun o => onl_frozen Gw1 (by go_size) (by omega) o)
  simp only [CellsAt] at zw1_wH
  simp only [CellsAt] at zw1_wH1
  have c1 := rdr_cell Rw1
  go_wp2_with fail
  refine (FA.out _ Rw1).mono ?_
  rintro e w2 ⟨n0, ok, q0, hq0, rfl, Rw2, Gw2⟩
  have HQ0 := Lib.hid hq0
  have hq0s := hq0.1
  have Ow2 : Onl r w w2 := onl_trans (by (repeat' (first | (with_reducible assumption) | (with_reducible exact onl_refl _ _) | (with_reducible refine onl_drewN ?_ _) | (with_reducible refine onl_drew ?_) | (with_reducible refine onl_alloc ?_ _) | (with_reducible refine onl_set ?_ (Or.inr ?_) _) | go_size))) Gw2
  have sw2 := Gw2.size
  have zw2_wH : CellsAt w2 w.heap.size 0 [.int .i64 0, .int .i64 0, .int .i64 0, .int .i64 0, .int .i64 0, .int .i64 0] := cells_keep (by (simp only [CellsAt]; (first | (go_simp; done) | ((repeat' (with_reducible refine And.intro ?_ ?_)) <;> (repeat' (first | (with_reducible assumption) | (with_reducible exact trivial) | (with_reducible refine kA _ ?_) | (with_reducible refine kD ?_) | (with_reducible refine kS _ ?_ ?_) | (with_reducible refine fA _ ?_ ?_) | (with_reducible refine fD ?_) | (with_reducible refine fS _ ?_) | go_size | (go_simp; done))))))) (fun o => onl_cell Gw2 (by go_size) (by omega) o) (fun o => onl_frozen Gw2 (by go_size) (by omega) o)
  have zw2_wH1 : CellsAt w2 (w.heap.size + 1) 0 [.int .i64 0, .int .i64 0, .int .i64 0, .int .i64 0, .int .i64 0, .int .i64 0] := cells_keep (by (simp only [CellsAt]; (first | (go_simp; done) | ((repeat' (with_reducible refine And.intro ?_ ?_)) <;> (repeat' (first | (with_reducible assumption) | (with_reducible exact trivial) | (with_reducible refine kA _ ?_) | (with_reducible refine kD ?_) | (with_reducible refine kS _ ?_ ?_) | (with_reducible refine fA _ ?_ ?_) | (with_reducible refine fD ?_) | (with_reducible refine fS _ ?_) | go_size | (go_simp; done))))))) (fun o => onl_cell Gw2 (by go_size) (by omega) o) (fun o => onl_frozen Gw2 (by go_size) (by omega) o)
  have l2 : w.heap.size + 1 < w2.heap.size := by go_size
  simp only [CellsAt] at zw2_wH zw2_wH1
  clear c1 hq0 zw1_wH zw1_wH1 Gw2
  go_upto_region 6 with fail
  go_cut [32] (fun c wx => c = .bool false ∧ ∃ q9 : Nat, Rdr wx r s q9 ∧ CellsAt wx w.heap.size 0 [.int .i64 0, .int .i64 0, .int .i64 0, .int .i64 0, .int .i64 0, .int .i64 0] ∧ CellsAt wx (w.heap.size + 1) 0 [.int .i64 0, .int .i64 0, .int .i64 0, .int .i64 0, .int .i64 0, .int .i64 0] ∧ w.heap.size + 1 < wx.heap.size ∧ Onl r w wx)
  case first =>
    cases ok
    · go_wp2_with fail
      go_meet
      exact ⟨rfl, q0, Rw2, by simp only [CellsAt]; exact zw2_wH, by simp only [CellsAt]; exact zw2_wH1, l2, Ow2⟩
    · obtain ⟨e0, k1, k2, e9⟩ := HQ0.out.2.1 (by trivial)
      have HE0 := Lib.hid e0
      clear e0 e9
      by_cases hqe : q0 = s.size
      · have hTrue : True := trivial
        have TW := Lib.hid (take_end r s q0 87 w2 Rw2 hs hqe)
        clear hqe
        go_wp2_with fail
        refine (TW.out).mono ?_
        rintro e w3 ⟨_, rfl, Rw3, Gw3⟩
        have sw3 := Gw3.size
        (try simp at sw3)
        have Ow3 : Onl r w w3 := onl_trans (by (repeat' (first | (with_reducible assumption) | (with_reducible exact onl_refl _ _) | (with_reducible refine onl_drewN ?_ _) | (with_reducible refine onl_drew ?_) | (with_reducible refine onl_alloc ?_ _) | (with_reducible refine onl_set ?_ (Or.inr ?_) _) | go_size))) Gw3
        have lw3_0 : w.heap.size < w3.heap.size := (by go_size)
        have zw3_wH : CellsAt w3 (w.heap.size) 0 [.int .i64 0, .int .i64 0, .int .i64 0, .int .i64 0, .int .i64 0, .int .i64 0] := cells_keep (by (simp only [CellsAt]; (first | (go_simp; done) | ((repeat' (with_reducible refine And.intro ?_ ?_)) <;> (repeat' (first | (with_reducible assumption) | (with_reducible exact trivial) | (with_reducible refine kA _ ?_) | (with_reducible refine kD ?_) | (with_reducible refine kS _ ?_ ?_) | (with_reducible refine fA _ ?_ ?_) | (with_reducible refine fD ?_) | (with_reducible refine fS _ ?_) | go_size | (go_simp; done))))))) (fun o => onl_cell Gw3 (by go_size) (by omega) o) (fun o => onl_frozen Gw3 (by go_size) (by omega) o)
        have lw3_1 : w.heap.size+1 < w3.heap.size := (by go_size)
        have zw3_wH1 : CellsAt w3 (w.heap.size+1) 0 [.int .i64 0, .int .i64 0, .int .i64 0, .int .i64 0, .int .i64 0, .int .i64 0] := cells_keep (by (simp only [CellsAt]; (first | (go_simp; done) | ((repeat' (with_reducible refine And.intro ?_ ?_)) <;> (repeat' (first | (with_reducible assumption) | (with_reducible exact trivial) | (with_reducible refine kA _ ?_) | (with_reducible refine kD ?_) | (with_reducible refine kS _ ?_ ?_) | (with_reducible refine fA _ ?_ ?_) | (with_reducible refine fD ?_) | (with_reducible refine fS _ ?_) | go_size | (go_simp; done))))))) (fun o => onl_cell Gw3 (by go_size) (by omega) o) (fun o => onl_frozen Gw3 (by go_size) (by omega) o)
        simp only [CellsAt] at zw3_wH
        simp only [CellsAt] at zw3_wH1
        clear zw2_wH zw2_wH1
        go_wp2_with fail
        go_meet
        exact ⟨rfl, q0, Rw3, by (simp only [CellsAt]; (first | (go_simp; done) | ((repeat' (with_reducible refine And.intro ?_ ?_)) <;> (repeat' (first | (with_reducible assumption) | (with_reducible exact trivial) | (with_reducible refine kA _ ?_) | (with_reducible refine kD ?_) | (with_reducible refine kS _ ?_ ?_) | (with_reducible refine fA _ ?_ ?_) | (with_reducible refine fD ?_) | (with_reducible refine fS _ ?_) | go_size | (go_simp; done)))))), by (simp only [CellsAt]; (first | (go_simp; done) | ((repeat' (with_reducible refine And.intro ?_ ?_)) <;> (repeat' (first | (with_reducible assumption) | (with_reducible exact trivial) | (with_reducible refine kA _ ?_) | (with_reducible refine kD ?_) | (with_reducible refine kS _ ?_ ?_) | (with_reducible refine fA _ ?_ ?_) | (with_reducible refine fD ?_) | (with_reducible refine fS _ ?_) | go_size | (go_simp; done)))))), by omega, Ow3⟩
      · have hTrue : True := trivial
        have hq : q0 < s.size := by omega
        have TW := Lib.hid (take_no r s q0 87 w2 Rw2 hs hq (by have e := HE0.out; subst e; exact HNW.out _ rfl k1 k2 hq))
        clear hqe
        go_wp2_with fail
        refine (TW.out).mono ?_
        rintro e w3 ⟨_, rfl, Rw3, Gw3⟩
        have sw3 := Gw3.size
        (try simp at sw3)
        have Ow3 : Onl r w w3 := onl_trans (by (repeat' (first | (with_reducible assumption) | (with_reducible exact onl_refl _ _) | (with_reducible refine onl_drewN ?_ _) | (with_reducible refine onl_drew ?_) | (with_reducible refine onl_alloc ?_ _) | (with_reducible refine onl_set ?_ (Or.inr ?_) _) | go_size))) Gw3
        have lw3_0 : w.heap.size < w3.heap.size := (by go_size)
        have zw3_wH : CellsAt w3 (w.heap.size) 0 [.int .i64 0, .int .i64 0, .int .i64 0, .int .i64 0, .int .i64 0, .int .i64 0] := cells_keep (by (simp only [CellsAt]; (first | (go_simp; done) | ((repeat' (with_reducible refine And.intro ?_ ?_)) <;> (repeat' (first | (with_reducible assumption) | (with_reducible exact trivial) | (with_reducible refine kA _ ?_) | (with_reducible refine kD ?_) | (with_reducible refine kS _ ?_ ?_) | (with_reducible refine fA _ ?_ ?_) | (with_reducible refine fD ?_) | (with_reducible refine fS _ ?_) | go_size | (go_simp; done))))))) (fun o => onl_cell Gw3 (by go_size) (by omega) o) (fun o => onl_frozen Gw3 (by go_size) (by omega) o)
        have lw3_1 : w.heap.size+1 < w3.heap.size := (by go_size)
        have zw3_wH1 : CellsAt w3 (w.heap.size+1) 0 [.int .i64 0, .int .i64 0, .int .i64 0, .int .i64 0, .int .i64 0, .int .i64 0] := cells_keep (by (simp only [CellsAt]; (first | (go_simp; done) | ((repeat' (with_reducible refine And.intro ?_ ?_)) <;> (repeat' (first | (with_reducible assumption) | (with_reducible exact trivial) | (with_reducible refine kA _ ?_) | (with_reducible refine kD ?_) | (with_reducible refine kS _ ?_ ?_) | (with_reducible refine fA _ ?_ ?_) | (with_reducible refine fD ?_) | (with_reducible refine fS _ ?_) | go_size | (go_simp; done))))))) (fun o => onl_cell Gw3 (by go_size) (by omega) o) (fun o => onl_frozen Gw3 (by go_size) (by omega) o)
        simp only [CellsAt] at zw3_wH
        simp only [CellsAt] at zw3_wH1
        clear zw2_wH zw2_wH1
        go_wp2_with fail
        go_meet
        exact ⟨rfl, q0, Rw3, by (simp only [CellsAt]; (first | (go_simp; done) | ((repeat' (with_reducible refine And.intro ?_ ?_)) <;> (repeat' (first | (with_reducible assumption) | (with_reducible exact trivial) | (with_reducible refine kA _ ?_) | (with_reducible refine kD ?_) | (with_reducible refine kS _ ?_ ?_) | (with_reducible refine fA _ ?_ ?_) | (with_reducible refine fD ?_) | (with_reducible refine fS _ ?_) | go_size | (go_simp; done)))))), by (simp only [CellsAt]; (first | (go_simp; done) | ((repeat' (with_reducible refine And.intro ?_ ?_)) <;> (repeat' (first | (with_reducible assumption) | (with_reducible exact trivial) | (with_reducible refine kA _ ?_) | (with_reducible refine kD ?_) | (with_reducible refine kS _ ?_ ?_) | (with_reducible refine fA _ ?_ ?_) | (with_reducible refine fD ?_) | (with_reducible refine fS _ ?_) | go_size | (go_simp; done)))))), by omega, Ow3⟩
  case rest =>
  clear HQ0 zw2_wH zw2_wH1 Rw2 sw2 Ow2 l2
  obtain ⟨rfl, q9, R9, z9, y9, l9, O9⟩ := hcut
  simp only [CellsAt] at z9 y9
  have q1 := R9.2.1
  have q2 := R9.2.2.1
  have q3 := R9.2.2.2
  have HR0 := Lib.hid R9.1
  go_wp2_with fail
  have R2 : Rdr (wc.setCell ⟨r, 1, none⟩ (.int .i64 1)) r s 1 := ⟨by have := HR0.out; go_simp, by go_simp, by go_simp, by go_size⟩
  have O2 : Onl r w (wc.setCell ⟨r, 1, none⟩ (.int .i64 1)) := onl_set O9 (.inl rfl) _
  refine (parts_mem _ _ (by go_size)).mono ?_
  rintro e w4 ⟨_, rfl, hpc, hsz4, b4⟩
  have R4 : Rdr w4 r s 1 := rdr_below R2 b4
  have O4 : Onl r w w4 := onl_of_below O2 b4
  have z4 : CellsAt w4 w.heap.size 0 [.int .i64 0, .int .i64 0, .int .i64 0, .int .i64 0, .int .i64 0, .int .i64 0] := cells_keep (by (simp only [CellsAt]; (first | (go_simp; done) | ((repeat' (with_reducible refine And.intro ?_ ?_)) <;> (repeat' (first | (with_reducible assumption) | (with_reducible exact trivial) | (with_reducible refine kA _ ?_) | (with_reducible refine kD ?_) | (with_reducible refine kS _ ?_ ?_) | (with_reducible refine fA _ ?_ ?_) | (with_reducible refine fD ?_) | (with_reducible refine fS _ ?_) | go_size | (go_simp; done))))))) (fun o => b4.cell (p := ⟨_, o, none⟩) (by go_size)) (fun o => b4.frozen (p := ⟨_, o, none⟩) (by go_size))
  have y4 : CellsAt w4 (w.heap.size + 1) 0 [.int .i64 0, .int .i64 0, .int .i64 0, .int .i64 0, .int .i64 0, .int .i64 0] := cells_keep (by (simp only [CellsAt]; (first | (go_simp; done) | ((repeat' (with_reducible refine And.intro ?_ ?_)) <;> (repeat' (first | (with_reducible assumption) | (with_reducible exact trivial) | (with_reducible refine kA _ ?_) | (with_reducible refine kD ?_) | (with_reducible refine kS _ ?_ ?_) | (with_reducible refine fA _ ?_ ?_) | (with_reducible refine fD ?_) | (with_reducible refine fS _ ?_) | go_size | (go_simp; done))))))) (fun o => b4.cell (p := ⟨_, o, none⟩) (by go_size)) (fun o => b4.frozen (p := ⟨_, o, none⟩) (by go_size))
  simp only [World.size_setCell] at hpc hsz4
  have l4 : w.heap.size + 1 < wc.heap.size := by go_size
  clear b4 R2 O2 q1 q2 q3 HR0 R9 z9 y9 O9
  try simp only [World.size_setCell]
  obtain ⟨m, hm⟩ : ∃ m, wc.heap.size = m := ⟨_, rfl⟩
  rw [hm] at hpc hsz4 l4
  try rw [hm]
  have HM := Lib.hid hm
  clear hm
  go_wp2_with fail
  go_loopg [8, 9, 10, 11] (s.size - 1) (fun g wt tm an op wr => PiRel s R w r m g wt tm an op wr)
  case atStart => exact ⟨s.data.toList.length + 1, 1, 0, false, false, false, 0, 0, 0, 0, 0, 0, .inl ⟨rfl, rfl⟩, rfl, rfl, rfl, rfl, by omega, by omega, by have := HL.out; omega, by omega, .inl ⟨rfl, HR.out, .inr rfl⟩, R4, z4, y4, hpc, by omega, O4⟩
  case round =>
    obtain ⟨f, q, j, t, anB, opB, a, b, c, d, x, y, hwa, rfl, rfl, rfl, hg, hq1, hq2, hf, hj, heq, Rr, zc, zp, zm, hmsz, Owr⟩ := hrel
    have HG := Lib.hid hg
    have HEQ := Lib.hid heq
    have HWA := Lib.hid hwa
    clear hg heq hwa HR hpc z4 y4 R4 O4
    simp only [CellsAt] at zc zp
    simp only [CellsAt, partCells] at zm
    by_cases hqe : q = s.size
    · subst hqe
      have HEN := Lib.hid (end_eq HL.out h2 (by omega) HEQ.out)
      have DE := Lib.hid (fun w' (h' : Rdr w' r s s.size) => done_any r s s.size w' h' hs (Nat.le_refl _) true (done_t rfl))
      go_wp2_with fail
      refine (DE.out _ Rr).mono ?_
      rintro e d1 ⟨_, rfl, Rd1, Gd1⟩
      have sd1 := Gd1.size
      (try simp at sd1)
      have Od1 : Onl r w d1 := onl_trans (by (repeat' (first | (with_reducible assumption) | (with_reducible exact onl_refl _ _) | (with_reducible refine onl_drewN ?_ _) | (with_reducible refine onl_drew ?_) | (with_reducible refine onl_alloc ?_ _) | (with_reducible refine onl_set ?_ (Or.inr ?_) _) | go_size))) Gd1
      have ld1_0 : w.heap.size < d1.heap.size := (by go_size)
      have zd1_wH : CellsAt d1 (w.heap.size) 0 [.int .i64 0, .int .i64 0, .int .i64 0, .int .i64 0, .int .i64 0, .int .i64 0] := cells_keep (by (simp only [CellsAt]; (first | (go_simp; done) | ((repeat' (with_reducible refine And.intro ?_ ?_)) <;> (repeat' (first | (with_reducible assumption) | (with_reducible exact trivial) | (with_reducible refine kA _ ?_) | (with_reducible refine kD ?_) | (with_reducible refine kS _ ?_ ?_) | (with_reducible refine fA _ ?_ ?_) | (with_reducible refine fD ?_) | (with_reducible refine fS _ ?_) | go_size | (go_simp; done))))))) (fun o => onl_cell Gd1 (by go_size) (by omega) o) (fun o => onl_frozen Gd1 (by go_size) (by omega) o)
      have ld1_1 : w.heap.size+1 < d1.heap.size := (by go_size)
      have zd1_wH1 : CellsAt d1 (w.heap.size+1) 0 [.int .i64 a, .int .i64 b, .int .i64 c, .int .i64 d, .int .i64 x, .int .i64 y] := cells_keep (by (simp only [CellsAt]; (first | (go_simp; done) | ((repeat' (with_reducible refine And.intro ?_ ?_)) <;> (repeat' (first | (with_reducible assumption) | (with_reducible exact trivial) | (with_reducible refine kA _ ?_) | (with_reducible refine kD ?_) | (with_reducible refine kS _ ?_ ?_) | (with_reducible refine fA _ ?_ ?_) | (with_reducible refine fD ?_) | (with_reducible refine fS _ ?_) | go_size | (go_simp; done))))))) (fun o => onl_cell Gd1 (by go_size) (by omega) o) (fun o => onl_frozen Gd1 (by go_size) (by omega) o)
      have ld1_2 : m < d1.heap.size := (by go_size)
      have zd1_m : CellsAt d1 (m) 0 [.int .u8 89, .bool false, .pointer (some ⟨w.heap.size + 1, 0, none⟩), .int .u8 77, .bool false, .pointer (some ⟨w.heap.size + 1, 1, none⟩), .int .u8 68, .bool false, .pointer (some ⟨w.heap.size + 1, 2, none⟩), .int .u8 72, .bool true, .pointer (some ⟨w.heap.size + 1, 3, none⟩), .int .u8 77, .bool true, .pointer (some ⟨w.heap.size + 1, 4, none⟩), .int .u8 83, .bool true, .pointer (some ⟨w.heap.size + 1, 5, none⟩)] := cells_keep (by (simp only [CellsAt]; (first | (go_simp; done) | ((repeat' (with_reducible refine And.intro ?_ ?_)) <;> (repeat' (first | (with_reducible assumption) | (with_reducible exact trivial) | (with_reducible refine kA _ ?_) | (with_reducible refine kD ?_) | (with_reducible refine kS _ ?_ ?_) | (with_reducible refine fA _ ?_ ?_) | (with_reducible refine fD ?_) | (with_reducible refine fS _ ?_) | go_size | (go_simp; done))))))) (fun o => onl_cell Gd1 (by go_size) (by omega) o) (fun o => onl_frozen Gd1 (by go_size) (by omega) o)
      simp only [CellsAt] at zd1_wH
      simp only [CellsAt] at zd1_wH1
      simp only [CellsAt] at zd1_m
      clear zc zp zm
      clear zd1_m
      cases anB <;> cases opB
      · go_wp21
        exact bodyPost_ret (v := .tuple #[.agg #[.int .i64 a, .int .i64 b, .int .i64 c, .int .i64 d, .int .i64 x, .int .i64 y], .bool false]) (by simp [results, Tryd.results18, go_sem, zd1_wH, zd1_wH1]) rfl ⟨a, b, c, d, x, y, false, s.size, ⟨by omega, HEN.out⟩, rfl, by (repeat' (first | (with_reducible assumption) | (with_reducible refine rdr_set ?_ ?_ _) | (with_reducible refine rdr_alloc ?_ _) | (with_reducible refine rdr_drew ?_ _) | (with_reducible refine rdr_drew1 ?_) | go_size)), by (repeat' (first | (with_reducible assumption) | (with_reducible refine onl_set ?_ (Or.inr (Nat.le_refl _)) _) | (with_reducible refine onl_set ?_ (Or.inr (Nat.le_succ _)) _) | (refine onl_set ?_ (Or.inl rfl) _) | (with_reducible refine onl_drewN ?_ _) | (with_reducible refine onl_drew ?_)))⟩
      · go_wp21
        exact bodyPost_ret (v := .tuple #[.agg #[.int .i64 a, .int .i64 b, .int .i64 c, .int .i64 d, .int .i64 x, .int .i64 y], .bool false]) (by simp [results, Tryd.results18, go_sem, zd1_wH, zd1_wH1]) rfl ⟨a, b, c, d, x, y, false, s.size, ⟨by omega, HEN.out⟩, rfl, by (repeat' (first | (with_reducible assumption) | (with_reducible refine rdr_set ?_ ?_ _) | (with_reducible refine rdr_alloc ?_ _) | (with_reducible refine rdr_drew ?_ _) | (with_reducible refine rdr_drew1 ?_) | go_size)), by (repeat' (first | (with_reducible assumption) | (with_reducible refine onl_set ?_ (Or.inr (Nat.le_refl _)) _) | (with_reducible refine onl_set ?_ (Or.inr (Nat.le_succ _)) _) | (refine onl_set ?_ (Or.inl rfl) _) | (with_reducible refine onl_drewN ?_ _) | (with_reducible refine onl_drew ?_)))⟩
      · go_wp21
        exact bodyPost_ret (v := .tuple #[.agg #[.int .i64 a, .int .i64 b, .int .i64 c, .int .i64 d, .int .i64 x, .int .i64 y], .bool true]) (by simp [results, Tryd.results18, go_sem, zd1_wH, zd1_wH1]) rfl ⟨a, b, c, d, x, y, true, s.size, ⟨by omega, HEN.out⟩, rfl, by (repeat' (first | (with_reducible assumption) | (with_reducible refine rdr_set ?_ ?_ _) | (with_reducible refine rdr_alloc ?_ _) | (with_reducible refine rdr_drew ?_ _) | (with_reducible refine rdr_drew1 ?_) | go_size)), by (repeat' (first | (with_reducible assumption) | (with_reducible refine onl_set ?_ (Or.inr (Nat.le_refl _)) _) | (with_reducible refine onl_set ?_ (Or.inr (Nat.le_succ _)) _) | (refine onl_set ?_ (Or.inl rfl) _) | (with_reducible refine onl_drewN ?_ _) | (with_reducible refine onl_drew ?_)))⟩
      · go_wp21
        exact bodyPost_ret (v := .tuple #[.agg #[.int .i64 a, .int .i64 b, .int .i64 c, .int .i64 d, .int .i64 x, .int .i64 y], .bool false]) (by simp [results, Tryd.results18, go_sem, zd1_wH, zd1_wH1]) rfl ⟨a, b, c, d, x, y, false, s.size, ⟨by omega, HEN.out⟩, rfl, by (repeat' (first | (with_reducible assumption) | (with_reducible refine rdr_set ?_ ?_ _) | (with_reducible refine rdr_alloc ?_ _) | (with_reducible refine rdr_drew ?_ _) | (with_reducible refine rdr_drew1 ?_) | go_size)), by (repeat' (first | (with_reducible assumption) | (with_reducible refine onl_set ?_ (Or.inr (Nat.le_refl _)) _) | (with_reducible refine onl_set ?_ (Or.inr (Nat.le_succ _)) _) | (refine onl_set ?_ (Or.inl rfl) _) | (with_reducible refine onl_drewN ?_ _) | (with_reducible refine onl_drew ?_)))⟩
    · have hqlt : q < s.size := by omega
      clear hqe
      have DF := Lib.hid (fun w' (h' : Rdr w' r s q) => done_any r s q w' h' hs hq2 false (done_f hqlt))
      go_wp2_with fail
      refine (DF.out _ Rr).mono ?_
      rintro e d1 ⟨_, rfl, Rd1, Gd1⟩
      have sd1 := Gd1.size
      (try simp at sd1)
      have Od1 : Onl r w d1 := onl_trans (by (repeat' (first | (with_reducible assumption) | (with_reducible exact onl_refl _ _) | (with_reducible refine onl_drewN ?_ _) | (with_reducible refine onl_drew ?_) | (with_reducible refine onl_alloc ?_ _) | (with_reducible refine onl_set ?_ (Or.inr ?_) _) | go_size))) Gd1
      have ld1_0 : w.heap.size < d1.heap.size := (by go_size)
      have zd1_wH : CellsAt d1 (w.heap.size) 0 [.int .i64 0, .int .i64 0, .int .i64 0, .int .i64 0, .int .i64 0, .int .i64 0] := cells_keep (by (simp only [CellsAt]; (first | (go_simp; done) | ((repeat' (with_reducible refine And.intro ?_ ?_)) <;> (repeat' (first | (with_reducible assumption) | (with_reducible exact trivial) | (with_reducible refine kA _ ?_) | (with_reducible refine kD ?_) | (with_reducible refine kS _ ?_ ?_) | (with_reducible refine fA _ ?_ ?_) | (with_reducible refine fD ?_) | (with_reducible refine fS _ ?_) | go_size | (go_simp; done))))))) (fun o => onl_cell Gd1 (by go_size) (by omega) o) (fun o => onl_frozen Gd1 (by go_size) (by omega) o)
      have ld1_1 : w.heap.size+1 < d1.heap.size := (by go_size)
      have zd1_wH1 : CellsAt d1 (w.heap.size+1) 0 [.int .i64 a, .int .i64 b, .int .i64 c, .int .i64 d, .int .i64 x, .int .i64 y] := cells_keep (by (simp only [CellsAt]; (first | (go_simp; done) | ((repeat' (with_reducible refine And.intro ?_ ?_)) <;> (repeat' (first | (with_reducible assumption) | (with_reducible exact trivial) | (with_reducible refine kA _ ?_) | (with_reducible refine kD ?_) | (with_reducible refine kS _ ?_ ?_) | (with_reducible refine fA _ ?_ ?_) | (with_reducible refine fD ?_) | (with_reducible refine fS _ ?_) | go_size | (go_simp; done))))))) (fun o => onl_cell Gd1 (by go_size) (by omega) o) (fun o => onl_frozen Gd1 (by go_size) (by omega) o)
      have ld1_2 : m < d1.heap.size := (by go_size)
      have zd1_m : CellsAt d1 (m) 0 [.int .u8 89, .bool false, .pointer (some ⟨w.heap.size + 1, 0, none⟩), .int .u8 77, .bool false, .pointer (some ⟨w.heap.size + 1, 1, none⟩), .int .u8 68, .bool false, .pointer (some ⟨w.heap.size + 1, 2, none⟩), .int .u8 72, .bool true, .pointer (some ⟨w.heap.size + 1, 3, none⟩), .int .u8 77, .bool true, .pointer (some ⟨w.heap.size + 1, 4, none⟩), .int .u8 83, .bool true, .pointer (some ⟨w.heap.size + 1, 5, none⟩)] := cells_keep (by (simp only [CellsAt]; (first | (go_simp; done) | ((repeat' (with_reducible refine And.intro ?_ ?_)) <;> (repeat' (first | (with_reducible assumption) | (with_reducible exact trivial) | (with_reducible refine kA _ ?_) | (with_reducible refine kD ?_) | (with_reducible refine kS _ ?_ ?_) | (with_reducible refine fA _ ?_ ?_) | (with_reducible refine fD ?_) | (with_reducible refine fS _ ?_) | go_size | (go_simp; done))))))) (fun o => onl_cell Gd1 (by go_size) (by omega) o) (fun o => onl_frozen Gd1 (by go_size) (by omega) o)
      simp only [CellsAt] at zd1_wH
      simp only [CellsAt] at zd1_wH1
      simp only [CellsAt] at zd1_m
      clear zc zp zm
      go_upto_region 13 with fail
      go_cut [53] (fun cc wx => ∃ (cb : Bool) (q5 : Nat), cc = .bool cb ∧ (cb = true → q5 = q + 1 ∧ t = false ∧ ∃ g, s.size < g + (q + 1) ∧ EqP g s.data.toList s.size (q + 1) j true anB true [a, b, c, d, x, y] R) ∧ (cb = false → q5 = q ∧ ∃ g, s.size ≤ g + q ∧ itm (fun p' j' v' => prs g s.data.toList p' j' t v') s.data.toList q j t [a, b, c, d, x, y] = R) ∧ Rdr wx r s q5 ∧ CellsAt wx w.heap.size 0 [.int .i64 0, .int .i64 0, .int .i64 0, .int .i64 0, .int .i64 0, .int .i64 0] ∧ CellsAt wx (w.heap.size + 1) 0 [.int .i64 a, .int .i64 b, .int .i64 c, .int .i64 d, .int .i64 x, .int .i64 y] ∧ CellsAt wx m 0 (partCells (w.heap.size + 1)) ∧ m < wx.heap.size ∧ Onl r w wx)
      case first =>
        cases t
        · by_cases hT : ((s[q].toNat : Int) == 84) = true
          · have hT2 : ((s.data.toList.getD q 0).toNat : Int) = 84 := by rw [getD_eq s q hqlt]; simpa using hT
            have HE' := Lib.hid (tee_eq HL.out HEQ.out hqlt hf hT2 anB)
            have TY := Lib.hid (fun w' (h' : Rdr w' r s q) => take_yes r s q 84 w' h' hs hqlt hT)
            clear hT2 hT
            go_wp2_with fail
            refine (TY.out _ Rd1).mono ?_
            rintro e d2 ⟨_, rfl, Rd2, Gd2⟩
            have sd2 := Gd2.size
            (try simp at sd2)
            have Od2 : Onl r w d2 := onl_trans (by (repeat' (first | (with_reducible assumption) | (with_reducible exact onl_refl _ _) | (with_reducible refine onl_drewN ?_ _) | (with_reducible refine onl_drew ?_) | (with_reducible refine onl_alloc ?_ _) | (with_reducible refine onl_set ?_ (Or.inr ?_) _) | go_size))) Gd2
            have ld2_0 : w.heap.size < d2.heap.size := (by go_size)
            have zd2_wH : CellsAt d2 (w.heap.size) 0 [.int .i64 0, .int .i64 0, .int .i64 0, .int .i64 0, .int .i64 0, .int .i64 0] := cells_keep (by (simp only [CellsAt]; (first | (go_simp; done) | ((repeat' (with_reducible refine And.intro ?_ ?_)) <;> (repeat' (first | (with_reducible assumption) | (with_reducible exact trivial) | (with_reducible refine kA _ ?_) | (with_reducible refine kD ?_) | (with_reducible refine kS _ ?_ ?_) | (with_reducible refine fA _ ?_ ?_) | (with_reducible refine fD ?_) | (with_reducible refine fS _ ?_) | go_size | (go_simp; done))))))) (fun o => onl_cell Gd2 (by go_size) (by omega) o) (fun o => onl_frozen Gd2 (by go_size) (by omega) o)
            have ld2_1 : w.heap.size+1 < d2.heap.size := (by go_size)
            have zd2_wH1 : CellsAt d2 (w.heap.size+1) 0 [.int .i64 a, .int .i64 b, .int .i64 c, .int .i64 d, .int .i64 x, .int .i64 y] := cells_keep (by (simp only [CellsAt]; (first | (go_simp; done) | ((repeat' (with_reducible refine And.intro ?_ ?_)) <;> (repeat' (first | (with_reducible assumption) | (with_reducible exact trivial) | (with_reducible refine kA _ ?_) | (with_reducible refine kD ?_) | (with_reducible refine kS _ ?_ ?_) | (with_reducible refine fA _ ?_ ?_) | (with_reducible refine fD ?_) | (with_reducible refine fS _ ?_) | go_size | (go_simp; done))))))) (fun o => onl_cell Gd2 (by go_size) (by omega) o) (fun o => onl_frozen Gd2 (by go_size) (by omega) o)
            have ld2_2 : m < d2.heap.size := (by go_size)
            have zd2_m : CellsAt d2 (m) 0 [.int .u8 89, .bool false, .pointer (some ⟨w.heap.size + 1, 0, none⟩), .int .u8 77, .bool false, .pointer (some ⟨w.heap.size + 1, 1, none⟩), .int .u8 68, .bool false, .pointer (some ⟨w.heap.size + 1, 2, none⟩), .int .u8 72, .bool true, .pointer (some ⟨w.heap.size + 1, 3, none⟩), .int .u8 77, .bool true, .pointer (some ⟨w.heap.size + 1, 4, none⟩), .int .u8 83, .bool true, .pointer (some ⟨w.heap.size + 1, 5, none⟩)] := cells_keep (by (simp only [CellsAt]; (first | (go_simp; done) | ((repeat' (with_reducible refine And.intro ?_ ?_)) <;> (repeat' (first | (with_reducible assumption) | (with_reducible exact trivial) | (with_reducible refine kA _ ?_) | (with_reducible refine kD ?_) | (with_reducible refine kS _ ?_ ?_) | (with_reducible refine fA _ ?_ ?_) | (with_reducible refine fD ?_) | (with_reducible refine fS _ ?_) | go_size | (go_simp; done))))))) (fun o => onl_cell Gd2 (by go_size) (by omega) o) (fun o => onl_frozen Gd2 (by go_size) (by omega) o)
            simp only [CellsAt] at zd2_wH
            simp only [CellsAt] at zd2_wH1
            simp only [CellsAt] at zd2_m
            clear zd1_wH zd1_wH1 zd1_m
            go_wp2_with fail
            go_meet
            exact ⟨true, q + 1, rfl, fun _ => ⟨rfl, by trivial, HE'.out⟩, (fun h => by cases h), Rd2, by (simp only [CellsAt]; (first | (go_simp; done) | ((repeat' (with_reducible refine And.intro ?_ ?_)) <;> (repeat' (first | (with_reducible assumption) | (with_reducible exact trivial) | (with_reducible refine kA _ ?_) | (with_reducible refine kD ?_) | (with_reducible refine kS _ ?_ ?_) | (with_reducible refine fA _ ?_ ?_) | (with_reducible refine fD ?_) | (with_reducible refine fS _ ?_) | go_size | (go_simp; done)))))), by (simp only [CellsAt]; (first | (go_simp; done) | ((repeat' (with_reducible refine And.intro ?_ ?_)) <;> (repeat' (first | (with_reducible assumption) | (with_reducible exact trivial) | (with_reducible refine kA _ ?_) | (with_reducible refine kD ?_) | (with_reducible refine kS _ ?_ ?_) | (with_reducible refine fA _ ?_ ?_) | (with_reducible refine fD ?_) | (with_reducible refine fS _ ?_) | go_size | (go_simp; done)))))), by unfold partCells; (simp only [CellsAt]; (first | (go_simp; done) | ((repeat' (with_reducible refine And.intro ?_ ?_)) <;> (repeat' (first | (with_reducible assumption) | (with_reducible exact trivial) | (with_reducible refine kA _ ?_) | (with_reducible refine kD ?_) | (with_reducible refine kS _ ?_ ?_) | (with_reducible refine fA _ ?_ ?_) | (with_reducible refine fD ?_) | (with_reducible refine fS _ ?_) | go_size | (go_simp; done)))))), by go_size, Od2⟩
          · have hT3 : ((s[q].toNat : Int) == 84) = false := by simpa using hT
            have HT6 := Lib.hid (item_eq HL.out HEQ.out hqlt hf (.inr (by rw [getD_eq s q hqlt]; simpa using hT)))
            have TN := Lib.hid (fun w' (h' : Rdr w' r s q) => take_no r s q 84 w' h' hs hqlt hT3)
            clear hT hT3
            go_wp2_with fail
            refine (TN.out _ Rd1).mono ?_
            rintro e d2 ⟨_, rfl, Rd2, Gd2⟩
            have sd2 := Gd2.size
            (try simp at sd2)
            have Od2 : Onl r w d2 := onl_trans (by (repeat' (first | (with_reducible assumption) | (with_reducible exact onl_refl _ _) | (with_reducible refine onl_drewN ?_ _) | (with_reducible refine onl_drew ?_) | (with_reducible refine onl_alloc ?_ _) | (with_reducible refine onl_set ?_ (Or.inr ?_) _) | go_size))) Gd2
            have ld2_0 : w.heap.size < d2.heap.size := (by go_size)
            have zd2_wH : CellsAt d2 (w.heap.size) 0 [.int .i64 0, .int .i64 0, .int .i64 0, .int .i64 0, .int .i64 0, .int .i64 0] := cells_keep (by (simp only [CellsAt]; (first | (go_simp; done) | ((repeat' (with_reducible refine And.intro ?_ ?_)) <;> (repeat' (first | (with_reducible assumption) | (with_reducible exact trivial) | (with_reducible refine kA _ ?_) | (with_reducible refine kD ?_) | (with_reducible refine kS _ ?_ ?_) | (with_reducible refine fA _ ?_ ?_) | (with_reducible refine fD ?_) | (with_reducible refine fS _ ?_) | go_size | (go_simp; done))))))) (fun o => onl_cell Gd2 (by go_size) (by omega) o) (fun o => onl_frozen Gd2 (by go_size) (by omega) o)
            have ld2_1 : w.heap.size+1 < d2.heap.size := (by go_size)
            have zd2_wH1 : CellsAt d2 (w.heap.size+1) 0 [.int .i64 a, .int .i64 b, .int .i64 c, .int .i64 d, .int .i64 x, .int .i64 y] := cells_keep (by (simp only [CellsAt]; (first | (go_simp; done) | ((repeat' (with_reducible refine And.intro ?_ ?_)) <;> (repeat' (first | (with_reducible assumption) | (with_reducible exact trivial) | (with_reducible refine kA _ ?_) | (with_reducible refine kD ?_) | (with_reducible refine kS _ ?_ ?_) | (with_reducible refine fA _ ?_ ?_) | (with_reducible refine fD ?_) | (with_reducible refine fS _ ?_) | go_size | (go_simp; done))))))) (fun o => onl_cell Gd2 (by go_size) (by omega) o) (fun o => onl_frozen Gd2 (by go_size) (by omega) o)
            have ld2_2 : m < d2.heap.size := (by go_size)
            have zd2_m : CellsAt d2 (m) 0 [.int .u8 89, .bool false, .pointer (some ⟨w.heap.size + 1, 0, none⟩), .int .u8 77, .bool false, .pointer (some ⟨w.heap.size + 1, 1, none⟩), .int .u8 68, .bool false, .pointer (some ⟨w.heap.size + 1, 2, none⟩), .int .u8 72, .bool true, .pointer (some ⟨w.heap.size + 1, 3, none⟩), .int .u8 77, .bool true, .pointer (some ⟨w.heap.size + 1, 4, none⟩), .int .u8 83, .bool true, .pointer (some ⟨w.heap.size + 1, 5, none⟩)] := cells_keep (by (simp only [CellsAt]; (first | (go_simp; done) | ((repeat' (with_reducible refine And.intro ?_ ?_)) <;> (repeat' (first | (with_reducible assumption) | (with_reducible exact trivial) | (with_reducible refine kA _ ?_) | (with_reducible refine kD ?_) | (with_reducible refine kS _ ?_ ?_) | (with_reducible refine fA _ ?_ ?_) | (with_reducible refine fD ?_) | (with_reducible refine fS _ ?_) | go_size | (go_simp; done))))))) (fun o => onl_cell Gd2 (by go_size) (by omega) o) (fun o => onl_frozen Gd2 (by go_size) (by omega) o)
            simp only [CellsAt] at zd2_wH
            simp only [CellsAt] at zd2_wH1
            simp only [CellsAt] at zd2_m
            clear zd1_wH zd1_wH1 zd1_m
            go_wp2_with fail
            go_meet
            exact ⟨false, q, rfl, (fun h => by cases h), fun _ => ⟨rfl, HT6.out⟩, Rd2, by (simp only [CellsAt]; (first | (go_simp; done) | ((repeat' (with_reducible refine And.intro ?_ ?_)) <;> (repeat' (first | (with_reducible assumption) | (with_reducible exact trivial) | (with_reducible refine kA _ ?_) | (with_reducible refine kD ?_) | (with_reducible refine kS _ ?_ ?_) | (with_reducible refine fA _ ?_ ?_) | (with_reducible refine fD ?_) | (with_reducible refine fS _ ?_) | go_size | (go_simp; done)))))), by (simp only [CellsAt]; (first | (go_simp; done) | ((repeat' (with_reducible refine And.intro ?_ ?_)) <;> (repeat' (first | (with_reducible assumption) | (with_reducible exact trivial) | (with_reducible refine kA _ ?_) | (with_reducible refine kD ?_) | (with_reducible refine kS _ ?_ ?_) | (with_reducible refine fA _ ?_ ?_) | (with_reducible refine fD ?_) | (with_reducible refine fS _ ?_) | go_size | (go_simp; done)))))), by unfold partCells; (simp only [CellsAt]; (first | (go_simp; done) | ((repeat' (with_reducible refine And.intro ?_ ?_)) <;> (repeat' (first | (with_reducible assumption) | (with_reducible exact trivial) | (with_reducible refine kA _ ?_) | (with_reducible refine kD ?_) | (with_reducible refine kS _ ?_ ?_) | (with_reducible refine fA _ ?_ ?_) | (with_reducible refine fD ?_) | (with_reducible refine fS _ ?_) | go_size | (go_simp; done)))))), by go_size, Od2⟩
        · have HT6 := Lib.hid (item_eq HL.out HEQ.out hqlt hf (.inl rfl))
          go_wp2_with fail
          go_meet
          exact ⟨false, q, rfl, (fun h => by cases h), fun _ => ⟨rfl, HT6.out⟩, Rd1, by (simp only [CellsAt]; (first | (go_simp; done) | ((repeat' (with_reducible refine And.intro ?_ ?_)) <;> (repeat' (first | (with_reducible assumption) | (with_reducible exact trivial) | (with_reducible refine kA _ ?_) | (with_reducible refine kD ?_) | (with_reducible refine kS _ ?_ ?_) | (with_reducible refine fA _ ?_ ?_) | (with_reducible refine fD ?_) | (with_reducible refine fS _ ?_) | go_size | (go_simp; done)))))), by (simp only [CellsAt]; (first | (go_simp; done) | ((repeat' (with_reducible refine And.intro ?_ ?_)) <;> (repeat' (first | (with_reducible assumption) | (with_reducible exact trivial) | (with_reducible refine kA _ ?_) | (with_reducible refine kD ?_) | (with_reducible refine kS _ ?_ ?_) | (with_reducible refine fA _ ?_ ?_) | (with_reducible refine fD ?_) | (with_reducible refine fS _ ?_) | go_size | (go_simp; done)))))), by unfold partCells; (simp only [CellsAt]; (first | (go_simp; done) | ((repeat' (with_reducible refine And.intro ?_ ?_)) <;> (repeat' (first | (with_reducible assumption) | (with_reducible exact trivial) | (with_reducible refine kA _ ?_) | (with_reducible refine kD ?_) | (with_reducible refine kS _ ?_ ?_) | (with_reducible refine fA _ ?_ ?_) | (with_reducible refine fD ?_) | (with_reducible refine fS _ ?_) | go_size | (go_simp; done)))))), by go_size, Od1⟩
      case rest =>
      obtain ⟨cb, q5, rfl, hy, hn, R5, z5, y5, m5, l5, O5⟩ := hcut
      have HY := Lib.hid hy
      have HN5 := Lib.hid hn
      clear hy hn HEQ Rr Rd1 zd1_wH zd1_wH1 zd1_m Owr Od1
      simp only [CellsAt] at z5 y5
      simp only [CellsAt, partCells] at m5
      cases cb
      rotate_left
      · obtain ⟨rfl, rfl, g', hg', e'⟩ := HY.out (by trivial)
        have HE' := Lib.hid e'
        clear e' HY HN5
        go_wp2_with fail
        go_roundg (s.size - (q + 1))
        case measure => rw [HG.out]; omega
        case rel => exact ⟨g', q + 1, j, true, anB, true, a, b, c, d, x, y, HWA.out, rfl, rfl, rfl, rfl, by omega, by omega, by omega, hj, HE'.out, R5, by (simp only [CellsAt]; (first | (go_simp; done) | ((repeat' (with_reducible refine And.intro ?_ ?_)) <;> (repeat' (first | (with_reducible assumption) | (with_reducible exact trivial) | (with_reducible refine kA _ ?_) | (with_reducible refine kD ?_) | (with_reducible refine kS _ ?_ ?_) | (with_reducible refine fA _ ?_ ?_) | (with_reducible refine fD ?_) | (with_reducible refine fS _ ?_) | go_size | (go_simp; done)))))), by (simp only [CellsAt]; (first | (go_simp; done) | ((repeat' (with_reducible refine And.intro ?_ ?_)) <;> (repeat' (first | (with_reducible assumption) | (with_reducible exact trivial) | (with_reducible refine kA _ ?_) | (with_reducible refine kD ?_) | (with_reducible refine kS _ ?_ ?_) | (with_reducible refine fA _ ?_ ?_) | (with_reducible refine fD ?_) | (with_reducible refine fS _ ?_) | go_size | (go_simp; done)))))), by unfold partCells; (simp only [CellsAt]; (first | (go_simp; done) | ((repeat' (with_reducible refine And.intro ?_ ?_)) <;> (repeat' (first | (with_reducible assumption) | (with_reducible exact trivial) | (with_reducible refine kA _ ?_) | (with_reducible refine kD ?_) | (with_reducible refine kS _ ?_ ?_) | (with_reducible refine fA _ ?_ ?_) | (with_reducible refine fD ?_) | (with_reducible refine fS _ ?_) | go_size | (go_simp; done)))))), by go_size, O5⟩
      · obtain ⟨rfl, gg, hgg, hit⟩ := HN5.out (by trivial)
        have HI := Lib.hid hit
        clear hit HY HN5
        obtain ⟨k, hk⟩ : ∃ k, runL s.data.toList q5 = k := ⟨_, rfl⟩
        have hkl : q5 + k ≤ s.size := by have := runL_le (l := s.data.toList) (p := q5) (by rw [HL.out]; omega); rw [hk, HL.out] at this; exact this
        have HK := Lib.hid hk
        clear hk
        by_cases hk4 : 1 ≤ k ∧ k ≤ 4
        · obtain ⟨k1, k2⟩ := hk4
          obtain ⟨n, hn⟩ : ∃ n, numAt s.data.toList q5 k = n := ⟨_, rfl⟩
          have FW := Lib.hid (few_yes r s q5 wc R5 hs (by omega) k HK.out k1 k2)
          rw [hn] at FW
          have HN := Lib.hid hn
          clear hn
          obtain ⟨qk, hqk⟩ : ∃ qk, q5 + k = qk := ⟨_, rfl⟩
          rw [hqk] at FW hkl
          have HQK := Lib.hid hqk
          go_wp2_with fail
          refine (FW.out).mono ?_
          rintro e e1 ⟨_, rfl, Re1, Ge1⟩
          have se1 := Ge1.size
          (try simp at se1)
          have Oe1 : Onl r w e1 := onl_trans (by (repeat' (first | (with_reducible assumption) | (with_reducible exact onl_refl _ _) | (with_reducible refine onl_drewN ?_ _) | (with_reducible refine onl_drew ?_) | (with_reducible refine onl_alloc ?_ _) | (with_reducible refine onl_set ?_ (Or.inr ?_) _) | go_size))) Ge1
          have le1_0 : w.heap.size < e1.heap.size := (by go_size)
          have ze1_wH : CellsAt e1 (w.heap.size) 0 [.int .i64 0, .int .i64 0, .int .i64 0, .int .i64 0, .int .i64 0, .int .i64 0] := cells_keep (by (simp only [CellsAt]; (first | (go_simp; done) | ((repeat' (with_reducible refine And.intro ?_ ?_)) <;> (repeat' (first | (with_reducible assumption) | (with_reducible exact trivial) | (with_reducible refine kA _ ?_) | (with_reducible refine kD ?_) | (with_reducible refine kS _ ?_ ?_) | (with_reducible refine fA _ ?_ ?_) | (with_reducible refine fD ?_) | (with_reducible refine fS _ ?_) | go_size | (go_simp; done))))))) (fun o => onl_cell Ge1 (by go_size) (by omega) o) (fun o => onl_frozen Ge1 (by go_size) (by omega) o)
          have le1_1 : w.heap.size+1 < e1.heap.size := (by go_size)
          have ze1_wH1 : CellsAt e1 (w.heap.size+1) 0 [.int .i64 a, .int .i64 b, .int .i64 c, .int .i64 d, .int .i64 x, .int .i64 y] := cells_keep (by (simp only [CellsAt]; (first | (go_simp; done) | ((repeat' (with_reducible refine And.intro ?_ ?_)) <;> (repeat' (first | (with_reducible assumption) | (with_reducible exact trivial) | (with_reducible refine kA _ ?_) | (with_reducible refine kD ?_) | (with_reducible refine kS _ ?_ ?_) | (with_reducible refine fA _ ?_ ?_) | (with_reducible refine fD ?_) | (with_reducible refine fS _ ?_) | go_size | (go_simp; done))))))) (fun o => onl_cell Ge1 (by go_size) (by omega) o) (fun o => onl_frozen Ge1 (by go_size) (by omega) o)
          have le1_2 : m < e1.heap.size := (by go_size)
          have ze1_m : CellsAt e1 (m) 0 [.int .u8 89, .bool false, .pointer (some ⟨w.heap.size + 1, 0, none⟩), .int .u8 77, .bool false, .pointer (some ⟨w.heap.size + 1, 1, none⟩), .int .u8 68, .bool false, .pointer (some ⟨w.heap.size + 1, 2, none⟩), .int .u8 72, .bool true, .pointer (some ⟨w.heap.size + 1, 3, none⟩), .int .u8 77, .bool true, .pointer (some ⟨w.heap.size + 1, 4, none⟩), .int .u8 83, .bool true, .pointer (some ⟨w.heap.size + 1, 5, none⟩)] := cells_keep (by (simp only [CellsAt]; (first | (go_simp; done) | ((repeat' (with_reducible refine And.intro ?_ ?_)) <;> (repeat' (first | (with_reducible assumption) | (with_reducible exact trivial) | (with_reducible refine kA _ ?_) | (with_reducible refine kD ?_) | (with_reducible refine kS _ ?_ ?_) | (with_reducible refine fA _ ?_ ?_) | (with_reducible refine fD ?_) | (with_reducible refine fS _ ?_) | go_size | (go_simp; done))))))) (fun o => onl_cell Ge1 (by go_size) (by omega) o) (fun o => onl_frozen Ge1 (by go_size) (by omega) o)
          simp only [CellsAt] at ze1_wH
          simp only [CellsAt] at ze1_wH1
          simp only [CellsAt] at ze1_m
          clear z5 y5 m5
          go_wp2_with fail
          by_cases hqe2 : qk = s.size
          · have HE := Lib.hid (show none = R from (itm_none (by rw [HK.out, HL.out]; omega)).symm.trans HI.out)
            have DG := Lib.hid (fun w' (h' : Rdr w' r s qk) => done_any r s qk w' h' hs hkl true (done_t hqe2))
            clear hqk hqe2
            refine (DG.out _ Re1).mono ?_
            rintro e e2 ⟨_, rfl, Re2, Ge2⟩
            have se2 := Ge2.size
            (try simp at se2)
            have Oe2 : Onl r w e2 := onl_trans (by (repeat' (first | (with_reducible assumption) | (with_reducible exact onl_refl _ _) | (with_reducible refine onl_drewN ?_ _) | (with_reducible refine onl_drew ?_) | (with_reducible refine onl_alloc ?_ _) | (with_reducible refine onl_set ?_ (Or.inr ?_) _) | go_size))) Ge2
            have le2_0 : w.heap.size < e2.heap.size := (by go_size)
            have ze2_wH : CellsAt e2 (w.heap.size) 0 [.int .i64 0, .int .i64 0, .int .i64 0, .int .i64 0, .int .i64 0, .int .i64 0] := cells_keep (by (simp only [CellsAt]; (first | (go_simp; done) | ((repeat' (with_reducible refine And.intro ?_ ?_)) <;> (repeat' (first | (with_reducible assumption) | (with_reducible exact trivial) | (with_reducible refine kA _ ?_) | (with_reducible refine kD ?_) | (with_reducible refine kS _ ?_ ?_) | (with_reducible refine fA _ ?_ ?_) | (with_reducible refine fD ?_) | (with_reducible refine fS _ ?_) | go_size | (go_simp; done))))))) (fun o => onl_cell Ge2 (by go_size) (by omega) o) (fun o => onl_frozen Ge2 (by go_size) (by omega) o)
            have le2_1 : w.heap.size+1 < e2.heap.size := (by go_size)
            have ze2_wH1 : CellsAt e2 (w.heap.size+1) 0 [.int .i64 a, .int .i64 b, .int .i64 c, .int .i64 d, .int .i64 x, .int .i64 y] := cells_keep (by (simp only [CellsAt]; (first | (go_simp; done) | ((repeat' (with_reducible refine And.intro ?_ ?_)) <;> (repeat' (first | (with_reducible assumption) | (with_reducible exact trivial) | (with_reducible refine kA _ ?_) | (with_reducible refine kD ?_) | (with_reducible refine kS _ ?_ ?_) | (with_reducible refine fA _ ?_ ?_) | (with_reducible refine fD ?_) | (with_reducible refine fS _ ?_) | go_size | (go_simp; done))))))) (fun o => onl_cell Ge2 (by go_size) (by omega) o) (fun o => onl_frozen Ge2 (by go_size) (by omega) o)
            have le2_2 : m < e2.heap.size := (by go_size)
            have ze2_m : CellsAt e2 (m) 0 [.int .u8 89, .bool false, .pointer (some ⟨w.heap.size + 1, 0, none⟩), .int .u8 77, .bool false, .pointer (some ⟨w.heap.size + 1, 1, none⟩), .int .u8 68, .bool false, .pointer (some ⟨w.heap.size + 1, 2, none⟩), .int .u8 72, .bool true, .pointer (some ⟨w.heap.size + 1, 3, none⟩), .int .u8 77, .bool true, .pointer (some ⟨w.heap.size + 1, 4, none⟩), .int .u8 83, .bool true, .pointer (some ⟨w.heap.size + 1, 5, none⟩)] := cells_keep (by (simp only [CellsAt]; (first | (go_simp; done) | ((repeat' (with_reducible refine And.intro ?_ ?_)) <;> (repeat' (first | (with_reducible assumption) | (with_reducible exact trivial) | (with_reducible refine kA _ ?_) | (with_reducible refine kD ?_) | (with_reducible refine kS _ ?_ ?_) | (with_reducible refine fA _ ?_ ?_) | (with_reducible refine fD ?_) | (with_reducible refine fS _ ?_) | go_size | (go_simp; done))))))) (fun o => onl_cell Ge2 (by go_size) (by omega) o) (fun o => onl_frozen Ge2 (by go_size) (by omega) o)
            simp only [CellsAt] at ze2_wH
            simp only [CellsAt] at ze2_wH1
            simp only [CellsAt] at ze2_m
            clear ze1_wH ze1_wH1 ze1_m
            clear ze2_m ze2_wH1 R5 O5 Re1 Oe1
            go_wp21
            exact bodyPost_ret (v := .tuple #[.agg #[.int .i64 0, .int .i64 0, .int .i64 0, .int .i64 0, .int .i64 0, .int .i64 0], .bool false]) (by simp [results, Tryd.results18, go_sem, ze2_wH]) rfl ⟨0, 0, 0, 0, 0, 0, false, qk, ⟨by omega, .inr ⟨by simp, HE.out⟩⟩, rfl, by (repeat' (first | (with_reducible assumption) | (with_reducible refine rdr_set ?_ ?_ _) | (with_reducible refine rdr_alloc ?_ _) | (with_reducible refine rdr_drew ?_ _) | (with_reducible refine rdr_drew1 ?_) | go_size)), by (repeat' (first | (with_reducible assumption) | (with_reducible refine onl_set ?_ (Or.inr (Nat.le_refl _)) _) | (with_reducible refine onl_set ?_ (Or.inr (Nat.le_succ _)) _) | (refine onl_set ?_ (Or.inl rfl) _) | (with_reducible refine onl_drewN ?_ _) | (with_reducible refine onl_drew ?_)))⟩
          · have hkk : qk < s.size := by omega
            clear hqe2
            have hok : ¬ (runL s.data.toList q5 = 0 ∨ 4 < runL s.data.toList q5 ∨ s.data.toList.length ≤ q5 + runL s.data.toList q5) := by rw [HK.out, HL.out]; omega
            have hgb : ((s.data.toList.getD (q5 + runL s.data.toList q5) 0).toNat : Int) = s[qk].toNat := by rw [HK.out, hqk, getD_eq s _ hkk]
            obtain ⟨bb, hbb⟩ : ∃ bb : Int, (s[qk].toNat : Int) = bb := ⟨_, rfl⟩
            have hx : ∀ wx : World, (Instr.index 9 (.string s) (.int .i64 (qk : Int))).run Tryd.prog wx = .ok (.int .u8 bb) wx := fun wx => by rw [← hbb]; exact ix_str Tryd.underlying9 s qk ↑qk rfl hkk wx
            have hW : bb = 87 → q5 ≠ 1 := by
              rintro e rfl
              have := HNW.out k HK.out k1 k2 (by omega)
              subst hqk
              rw [hbb, e] at this
              cases this
            rw [hbb] at hgb
            have HOUT := Lib.hid (fun hno => itm_out HI.out hok hgb hno hW)
            have HIN := Lib.hid (itm_in HI.out hok HK.out HN.out hgb)
            have DG := Lib.hid (fun w' (h' : Rdr w' r s qk) => done_any r s qk w' h' hs hkl false (done_f hkk))
            clear hbb hqk hok hgb hW HI
            refine (DG.out _ Re1).mono ?_
            rintro e e2 ⟨_, rfl, Re2, Ge2⟩
            have se2 := Ge2.size
            (try simp at se2)
            have Oe2 : Onl r w e2 := onl_trans (by (repeat' (first | (with_reducible assumption) | (with_reducible exact onl_refl _ _) | (with_reducible refine onl_drewN ?_ _) | (with_reducible refine onl_drew ?_) | (with_reducible refine onl_alloc ?_ _) | (with_reducible refine onl_set ?_ (Or.inr ?_) _) | go_size))) Ge2
            have le2_0 : w.heap.size < e2.heap.size := (by go_size)
            have ze2_wH : CellsAt e2 (w.heap.size) 0 [.int .i64 0, .int .i64 0, .int .i64 0, .int .i64 0, .int .i64 0, .int .i64 0] := cells_keep (by (simp only [CellsAt]; (first | (go_simp; done) | ((repeat' (with_reducible refine And.intro ?_ ?_)) <;> (repeat' (first | (with_reducible assumption) | (with_reducible exact trivial) | (with_reducible refine kA _ ?_) | (with_reducible refine kD ?_) | (with_reducible refine kS _ ?_ ?_) | (with_reducible refine fA _ ?_ ?_) | (with_reducible refine fD ?_) | (with_reducible refine fS _ ?_) | go_size | (go_simp; done))))))) (fun o => onl_cell Ge2 (by go_size) (by omega) o) (fun o => onl_frozen Ge2 (by go_size) (by omega) o)
            have le2_1 : w.heap.size+1 < e2.heap.size := (by go_size)
            have ze2_wH1 : CellsAt e2 (w.heap.size+1) 0 [.int .i64 a, .int .i64 b, .int .i64 c, .int .i64 d, .int .i64 x, .int .i64 y] := cells_keep (by (simp only [CellsAt]; (first | (go_simp; done) | ((repeat' (with_reducible refine And.intro ?_ ?_)) <;> (repeat' (first | (with_reducible assumption) | (with_reducible exact trivial) | (with_reducible refine kA _ ?_) | (with_reducible refine kD ?_) | (with_reducible refine kS _ ?_ ?_) | (with_reducible refine fA _ ?_ ?_) | (with_reducible refine fD ?_) | (with_reducible refine fS _ ?_) | go_size | (go_simp; done))))))) (fun o => onl_cell Ge2 (by go_size) (by omega) o) (fun o => onl_frozen Ge2 (by go_size) (by omega) o)
            have le2_2 : m < e2.heap.size := (by go_size)
            have ze2_m : CellsAt e2 (m) 0 [.int .u8 89, .bool false, .pointer (some ⟨w.heap.size + 1, 0, none⟩), .int .u8 77, .bool false, .pointer (some ⟨w.heap.size + 1, 1, none⟩), .int .u8 68, .bool false, .pointer (some ⟨w.heap.size + 1, 2, none⟩), .int .u8 72, .bool true, .pointer (some ⟨w.heap.size + 1, 3, none⟩), .int .u8 77, .bool true, .pointer (some ⟨w.heap.size + 1, 4, none⟩), .int .u8 83, .bool true, .pointer (some ⟨w.heap.size + 1, 5, none⟩)] := cells_keep (by (simp only [CellsAt]; (first | (go_simp; done) | ((repeat' (with_reducible refine And.intro ?_ ?_)) <;> (repeat' (first | (with_reducible assumption) | (with_reducible exact trivial) | (with_reducible refine kA _ ?_) | (with_reducible refine kD ?_) | (with_reducible refine kS _ ?_ ?_) | (with_reducible refine fA _ ?_ ?_) | (with_reducible refine fD ?_) | (with_reducible refine fS _ ?_) | go_size | (go_simp; done))))))) (fun o => onl_cell Ge2 (by go_size) (by omega) o) (fun o => onl_frozen Ge2 (by go_size) (by omega) o)
            simp only [CellsAt] at ze2_wH
            simp only [CellsAt] at ze2_wH1
            simp only [CellsAt] at ze2_m
            clear ze1_wH ze1_wH1 ze1_m
            go_wp2_with fail
            have u0 := Re2.1
            have u1 := Re2.2.1
            have u2 := Re2.2.2.2
            go_quiet (fail)
            clear hx u0 u1 u2
            go_wp2_with fail
            go_loopg [8] (6 - j) (fun g2 wt wx => ∃ j2 : Nat, g2 = 6 - j2 ∧ j ≤ j2 ∧ j2 ≤ 6 ∧ WaP m j2 wt ∧ (∀ i : Nat, j ≤ i → i < j2 → ixL bb t ≠ i) ∧ Rdr wx r s qk ∧ CellsAt wx w.heap.size 0 [.int .i64 0, .int .i64 0, .int .i64 0, .int .i64 0, .int .i64 0, .int .i64 0] ∧ CellsAt wx (w.heap.size + 1) 0 [.int .i64 a, .int .i64 b, .int .i64 c, .int .i64 d, .int .i64 x, .int .i64 y] ∧ CellsAt wx m 0 (partCells (w.heap.size + 1)) ∧ m < wx.heap.size ∧ Onl r w wx)
            case atStart => exact ⟨j, rfl, Nat.le_refl _, hj, HWA.out, (fun i h1 h2 => by omega), by (repeat' (first | (with_reducible assumption) | (with_reducible refine rdr_set ?_ ?_ _) | (with_reducible refine rdr_alloc ?_ _) | (with_reducible refine rdr_drew ?_ _) | (with_reducible refine rdr_drew1 ?_) | go_size)), by (simp only [CellsAt]; (first | (go_simp; done) | ((repeat' (with_reducible refine And.intro ?_ ?_)) <;> (repeat' (first | (with_reducible assumption) | (with_reducible exact trivial) | (with_reducible refine kA _ ?_) | (with_reducible refine kD ?_) | (with_reducible refine kS _ ?_ ?_) | (with_reducible refine fA _ ?_ ?_) | (with_reducible refine fD ?_) | (with_reducible refine fS _ ?_) | go_size | (go_simp; done)))))), by (simp only [CellsAt]; (first | (go_simp; done) | ((repeat' (with_reducible refine And.intro ?_ ?_)) <;> (repeat' (first | (with_reducible assumption) | (with_reducible exact trivial) | (with_reducible refine kA _ ?_) | (with_reducible refine kD ?_) | (with_reducible refine kS _ ?_ ?_) | (with_reducible refine fA _ ?_ ?_) | (with_reducible refine fD ?_) | (with_reducible refine fS _ ?_) | go_size | (go_simp; done)))))), by unfold partCells; (simp only [CellsAt]; (first | (go_simp; done) | ((repeat' (with_reducible refine And.intro ?_ ?_)) <;> (repeat' (first | (with_reducible assumption) | (with_reducible exact trivial) | (with_reducible refine kA _ ?_) | (with_reducible refine kD ?_) | (with_reducible refine kS _ ?_ ?_) | (with_reducible refine fA _ ?_ ?_) | (with_reducible refine fD ?_) | (with_reducible refine fS _ ?_) | go_size | (go_simp; done)))))), by go_size, by (repeat' (first | (with_reducible assumption) | (with_reducible refine onl_set ?_ (Or.inr (Nat.le_refl _)) _) | (with_reducible refine onl_set ?_ (Or.inr (Nat.le_succ _)) _) | (refine onl_set ?_ (Or.inl rfl) _) | (with_reducible refine onl_drewN ?_ _) | (with_reducible refine onl_drew ?_)))⟩
            case round =>
              obtain ⟨j2, rfl, hj2, hj6, hwp, hno, R6, z6, y6, m6, l6, O6⟩ := hrel
              have HNO := Lib.hid hno
              clear hno Re2 Re1 R5 ze2_wH ze2_wH1 ze2_m Oe2 Oe1 O5
              simp only [CellsAt] at z6 y6
              simp only [CellsAt, partCells] at m6
              rcases hwp with ⟨rfl, rfl⟩ | ⟨rfl, rfl⟩ | ⟨rfl, rfl⟩ | ⟨rfl, rfl⟩ | ⟨rfl, rfl⟩ | ⟨rfl, rfl⟩ | ⟨rfl, rfl⟩
              · by_cases hX : ixL bb t = (0 : Nat)
                · have hin := HIN.out 0 hX hj2
                  obtain ⟨rfl, rfl⟩ := ix_inv0 (b := bb) (t := t) (by simpa using hX)
                  have HI2 := Lib.hid hin
                  clear hX hin HIN HOUT HNO
                  have u0 := R6.2.1
                  have u1 := R6.2.2.1
                  have u2 := R6.2.2.2
                  have u3 := Lib.hid R6.1
                  go_wp2_with fail
                  go_roundg (s.size - (qk + 1))
                  case measure => rw [HG.out]; have := HQK.out; omega
                  case rel => exact ⟨gg, qk + 1, 1, false, true, false, n, b, c, d, x, y, (.inr (.inl ⟨rfl, rfl⟩)), rfl, rfl, rfl, rfl, by omega, by omega, by have := HQK.out; omega, by omega, .inl ⟨rfl, by rw [← HQK.out]; exact HI2.out, .inl rfl⟩, ⟨by have := u3.out; go_simp, by go_simp, by go_simp, by go_size⟩, by (simp only [CellsAt]; (first | (go_simp; done) | ((repeat' (with_reducible refine And.intro ?_ ?_)) <;> (repeat' (first | (with_reducible assumption) | (with_reducible exact trivial) | (with_reducible refine kA _ ?_) | (with_reducible refine kD ?_) | (with_reducible refine kS _ ?_ ?_) | (with_reducible refine fA _ ?_ ?_) | (with_reducible refine fD ?_) | (with_reducible refine fS _ ?_) | go_size | (go_simp; done)))))), by (simp only [CellsAt]; (first | (go_simp; done) | ((repeat' (with_reducible refine And.intro ?_ ?_)) <;> (repeat' (first | (with_reducible assumption) | (with_reducible exact trivial) | (with_reducible refine kA _ ?_) | (with_reducible refine kD ?_) | (with_reducible refine kS _ ?_ ?_) | (with_reducible refine fA _ ?_ ?_) | (with_reducible refine fD ?_) | (with_reducible refine fS _ ?_) | go_size | (go_simp; done)))))), by unfold partCells; (simp only [CellsAt]; (first | (go_simp; done) | ((repeat' (with_reducible refine And.intro ?_ ?_)) <;> (repeat' (first | (with_reducible assumption) | (with_reducible exact trivial) | (with_reducible refine kA _ ?_) | (with_reducible refine kD ?_) | (with_reducible refine kS _ ?_ ?_) | (with_reducible refine fA _ ?_ ?_) | (with_reducible refine fD ?_) | (with_reducible refine fS _ ?_) | go_size | (go_simp; done)))))), by go_size, by (repeat' (first | (with_reducible assumption) | (with_reducible refine onl_set ?_ (Or.inr (Nat.le_refl _)) _) | (with_reducible refine onl_set ?_ (Or.inr (Nat.le_succ _)) _) | (refine onl_set ?_ (Or.inl rfl) _) | (with_reducible refine onl_drewN ?_ _) | (with_reducible refine onl_drew ?_)))⟩
                · have HX := Lib.hid hX
                  clear HIN HOUT
                  by_cases hb : bb = 89
                  · subst hb
                    have ht : t = true := by
                      cases t
                      · first | rfl | exact absurd ix_mk0 hX
                      · first | rfl | exact absurd ix_mk0 hX
                    subst ht
                    clear hX
                    go_wp2_with fail
                    go_roundg (6 - 1)
                    case measure => omega
                    case rel => exact ⟨1, rfl, by omega, by omega, (.inr (.inl ⟨rfl, rfl⟩)), (fun i h1 h2 => by
                      by_cases e : i = 0
                      · subst e; exact HX.out
                      · exact HNO.out i h1 (by omega)), R6, by (simp only [CellsAt]; (first | (go_simp; done) | ((repeat' (with_reducible refine And.intro ?_ ?_)) <;> (repeat' (first | (with_reducible assumption) | (with_reducible exact trivial) | (with_reducible refine kA _ ?_) | (with_reducible refine kD ?_) | (with_reducible refine kS _ ?_ ?_) | (with_reducible refine fA _ ?_ ?_) | (with_reducible refine fD ?_) | (with_reducible refine fS _ ?_) | go_size | (go_simp; done)))))), by (simp only [CellsAt]; (first | (go_simp; done) | ((repeat' (with_reducible refine And.intro ?_ ?_)) <;> (repeat' (first | (with_reducible assumption) | (with_reducible exact trivial) | (with_reducible refine kA _ ?_) | (with_reducible refine kD ?_) | (with_reducible refine kS _ ?_ ?_) | (with_reducible refine fA _ ?_ ?_) | (with_reducible refine fD ?_) | (with_reducible refine fS _ ?_) | go_size | (go_simp; done)))))), by unfold partCells; (simp only [CellsAt]; (first | (go_simp; done) | ((repeat' (with_reducible refine And.intro ?_ ?_)) <;> (repeat' (first | (with_reducible assumption) | (with_reducible exact trivial) | (with_reducible refine kA _ ?_) | (with_reducible refine kD ?_) | (with_reducible refine kS _ ?_ ?_) | (with_reducible refine fA _ ?_ ?_) | (with_reducible refine fD ?_) | (with_reducible refine fS _ ?_) | go_size | (go_simp; done)))))), by go_size, O6⟩
                  · have hb2 : ((89 : Int) == bb) = false := by simp; omega
                    have hb3 : ((89 : Int) != bb) = true := by simp only [bne, hb2, Bool.not_false]
                    clear hX
                    go_wp2_with fail
                    go_roundg (6 - 1)
                    case measure => omega
                    case rel => exact ⟨1, rfl, by omega, by omega, (.inr (.inl ⟨rfl, rfl⟩)), (fun i h1 h2 => by
                      by_cases e : i = 0
                      · subst e; exact HX.out
                      · exact HNO.out i h1 (by omega)), R6, by (simp only [CellsAt]; (first | (go_simp; done) | ((repeat' (with_reducible refine And.intro ?_ ?_)) <;> (repeat' (first | (with_reducible assumption) | (with_reducible exact trivial) | (with_reducible refine kA _ ?_) | (with_reducible refine kD ?_) | (with_reducible refine kS _ ?_ ?_) | (with_reducible refine fA _ ?_ ?_) | (with_reducible refine fD ?_) | (with_reducible refine fS _ ?_) | go_size | (go_simp; done)))))), by (simp only [CellsAt]; (first | (go_simp; done) | ((repeat' (with_reducible refine And.intro ?_ ?_)) <;> (repeat' (first | (with_reducible assumption) | (with_reducible exact trivial) | (with_reducible refine kA _ ?_) | (with_reducible refine kD ?_) | (with_reducible refine kS _ ?_ ?_) | (with_reducible refine fA _ ?_ ?_) | (with_reducible refine fD ?_) | (with_reducible refine fS _ ?_) | go_size | (go_simp; done)))))), by unfold partCells; (simp only [CellsAt]; (first | (go_simp; done) | ((repeat' (with_reducible refine And.intro ?_ ?_)) <;> (repeat' (first | (with_reducible assumption) | (with_reducible exact trivial) | (with_reducible refine kA _ ?_) | (with_reducible refine kD ?_) | (with_reducible refine kS _ ?_ ?_) | (with_reducible refine fA _ ?_ ?_) | (with_reducible refine fD ?_) | (with_reducible refine fS _ ?_) | go_size | (go_simp; done)))))), by go_size, O6⟩
              · by_cases hX : ixL bb t = (1 : Nat)
                · have hin := HIN.out 1 hX hj2
                  obtain ⟨rfl, rfl⟩ := ix_inv1 (b := bb) (t := t) (by simpa using hX)
                  have HI2 := Lib.hid hin
                  clear hX hin HIN HOUT HNO
                  have u0 := R6.2.1
                  have u1 := R6.2.2.1
                  have u2 := R6.2.2.2
                  have u3 := Lib.hid R6.1
                  go_wp2_with fail
                  go_roundg (s.size - (qk + 1))
                  case measure => rw [HG.out]; have := HQK.out; omega
                  case rel => exact ⟨gg, qk + 1, 2, false, true, false, a, n, c, d, x, y, (.inr (.inr (.inl ⟨rfl, rfl⟩))), rfl, rfl, rfl, rfl, by omega, by omega, by have := HQK.out; omega, by omega, .inl ⟨rfl, by rw [← HQK.out]; exact HI2.out, .inl rfl⟩, ⟨by have := u3.out; go_simp, by go_simp, by go_simp, by go_size⟩, by (simp only [CellsAt]; (first | (go_simp; done) | ((repeat' (with_reducible refine And.intro ?_ ?_)) <;> (repeat' (first | (with_reducible assumption) | (with_reducible exact trivial) | (with_reducible refine kA _ ?_) | (with_reducible refine kD ?_) | (with_reducible refine kS _ ?_ ?_) | (with_reducible refine fA _ ?_ ?_) | (with_reducible refine fD ?_) | (with_reducible refine fS _ ?_) | go_size | (go_simp; done)))))), by (simp only [CellsAt]; (first | (go_simp; done) | ((repeat' (with_reducible refine And.intro ?_ ?_)) <;> (repeat' (first | (with_reducible assumption) | (with_reducible exact trivial) | (with_reducible refine kA _ ?_) | (with_reducible refine kD ?_) | (with_reducible refine kS _ ?_ ?_) | (with_reducible refine fA _ ?_ ?_) | (with_reducible refine fD ?_) | (with_reducible refine fS _ ?_) | go_size | (go_simp; done)))))), by unfold partCells; (simp only [CellsAt]; (first | (go_simp; done) | ((repeat' (with_reducible refine And.intro ?_ ?_)) <;> (repeat' (first | (with_reducible assumption) | (with_reducible exact trivial) | (with_reducible refine kA _ ?_) | (with_reducible refine kD ?_) | (with_reducible refine kS _ ?_ ?_) | (with_reducible refine fA _ ?_ ?_) | (with_reducible refine fD ?_) | (with_reducible refine fS _ ?_) | go_size | (go_simp; done)))))), by go_size, by (repeat' (first | (with_reducible assumption) | (with_reducible refine onl_set ?_ (Or.inr (Nat.le_refl _)) _) | (with_reducible refine onl_set ?_ (Or.inr (Nat.le_succ _)) _) | (refine onl_set ?_ (Or.inl rfl) _) | (with_reducible refine onl_drewN ?_ _) | (with_reducible refine onl_drew ?_)))⟩
                · have HX := Lib.hid hX
                  clear HIN HOUT
                  by_cases hb : bb = 77
                  · subst hb
                    have ht : t = true := by
                      cases t
                      · first | rfl | exact absurd ix_mk1 hX
                      · first | rfl | exact absurd ix_mk1 hX
                    subst ht
                    clear hX
                    go_wp2_with fail
                    go_roundg (6 - 2)
                    case measure => omega
                    case rel => exact ⟨2, rfl, by omega, by omega, (.inr (.inr (.inl ⟨rfl, rfl⟩))), (fun i h1 h2 => by
                      by_cases e : i = 1
                      · subst e; exact HX.out
                      · exact HNO.out i h1 (by omega)), R6, by (simp only [CellsAt]; (first | (go_simp; done) | ((repeat' (with_reducible refine And.intro ?_ ?_)) <;> (repeat' (first | (with_reducible assumption) | (with_reducible exact trivial) | (with_reducible refine kA _ ?_) | (with_reducible refine kD ?_) | (with_reducible refine kS _ ?_ ?_) | (with_reducible refine fA _ ?_ ?_) | (with_reducible refine fD ?_) | (with_reducible refine fS _ ?_) | go_size | (go_simp; done)))))), by (simp only [CellsAt]; (first | (go_simp; done) | ((repeat' (with_reducible refine And.intro ?_ ?_)) <;> (repeat' (first | (with_reducible assumption) | (with_reducible exact trivial) | (with_reducible refine kA _ ?_) | (with_reducible refine kD ?_) | (with_reducible refine kS _ ?_ ?_) | (with_reducible refine fA _ ?_ ?_) | (with_reducible refine fD ?_) | (with_reducible refine fS _ ?_) | go_size | (go_simp; done)))))), by unfold partCells; (simp only [CellsAt]; (first | (go_simp; done) | ((repeat' (with_reducible refine And.intro ?_ ?_)) <;> (repeat' (first | (with_reducible assumption) | (with_reducible exact trivial) | (with_reducible refine kA _ ?_) | (with_reducible refine kD ?_) | (with_reducible refine kS _ ?_ ?_) | (with_reducible refine fA _ ?_ ?_) | (with_reducible refine fD ?_) | (with_reducible refine fS _ ?_) | go_size | (go_simp; done)))))), by go_size, O6⟩
                  · have hb2 : ((77 : Int) == bb) = false := by simp; omega
                    have hb3 : ((77 : Int) != bb) = true := by simp only [bne, hb2, Bool.not_false]
                    clear hX
                    go_wp2_with fail
                    go_roundg (6 - 2)
                    case measure => omega
                    case rel => exact ⟨2, rfl, by omega, by omega, (.inr (.inr (.inl ⟨rfl, rfl⟩))), (fun i h1 h2 => by
                      by_cases e : i = 1
                      · subst e; exact HX.out
                      · exact HNO.out i h1 (by omega)), R6, by (simp only [CellsAt]; (first | (go_simp; done) | ((repeat' (with_reducible refine And.intro ?_ ?_)) <;> (repeat' (first | (with_reducible assumption) | (with_reducible exact trivial) | (with_reducible refine kA _ ?_) | (with_reducible refine kD ?_) | (with_reducible refine kS _ ?_ ?_) | (with_reducible refine fA _ ?_ ?_) | (with_reducible refine fD ?_) | (with_reducible refine fS _ ?_) | go_size | (go_simp; done)))))), by (simp only [CellsAt]; (first | (go_simp; done) | ((repeat' (with_reducible refine And.intro ?_ ?_)) <;> (repeat' (first | (with_reducible assumption) | (with_reducible exact trivial) | (with_reducible refine kA _ ?_) | (with_reducible refine kD ?_) | (with_reducible refine kS _ ?_ ?_) | (with_reducible refine fA _ ?_ ?_) | (with_reducible refine fD ?_) | (with_reducible refine fS _ ?_) | go_size | (go_simp; done)))))), by unfold partCells; (simp only [CellsAt]; (first | (go_simp; done) | ((repeat' (with_reducible refine And.intro ?_ ?_)) <;> (repeat' (first | (with_reducible assumption) | (with_reducible exact trivial) | (with_reducible refine kA _ ?_) | (with_reducible refine kD ?_) | (with_reducible refine kS _ ?_ ?_) | (with_reducible refine fA _ ?_ ?_) | (with_reducible refine fD ?_) | (with_reducible refine fS _ ?_) | go_size | (go_simp; done)))))), by go_size, O6⟩
              · by_cases hX : ixL bb t = (2 : Nat)
                · have hin := HIN.out 2 hX hj2
                  obtain ⟨rfl, rfl⟩ := ix_inv2 (b := bb) (t := t) (by simpa using hX)
                  have HI2 := Lib.hid hin
                  clear hX hin HIN HOUT HNO
                  have u0 := R6.2.1
                  have u1 := R6.2.2.1
                  have u2 := R6.2.2.2
                  have u3 := Lib.hid R6.1
                  go_wp2_with fail
                  go_roundg (s.size - (qk + 1))
                  case measure => rw [HG.out]; have := HQK.out; omega
                  case rel => exact ⟨gg, qk + 1, 3, false, true, false, a, b, n, d, x, y, (.inr (.inr (.inr (.inl ⟨rfl, rfl⟩)))), rfl, rfl, rfl, rfl, by omega, by omega, by have := HQK.out; omega, by omega, .inl ⟨rfl, by rw [← HQK.out]; exact HI2.out, .inl rfl⟩, ⟨by have := u3.out; go_simp, by go_simp, by go_simp, by go_size⟩, by (simp only [CellsAt]; (first | (go_simp; done) | ((repeat' (with_reducible refine And.intro ?_ ?_)) <;> (repeat' (first | (with_reducible assumption) | (with_reducible exact trivial) | (with_reducible refine kA _ ?_) | (with_reducible refine kD ?_) | (with_reducible refine kS _ ?_ ?_) | (with_reducible refine fA _ ?_ ?_) | (with_reducible refine fD ?_) | (with_reducible refine fS _ ?_) | go_size | (go_simp; done)))))), by (simp only [CellsAt]; (first | (go_simp; done) | ((repeat' (with_reducible refine And.intro ?_ ?_)) <;> (repeat' (first | (with_reducible assumption) | (with_reducible exact trivial) | (with_reducible refine kA _ ?_) | (with_reducible refine kD ?_) | (with_reducible refine kS _ ?_ ?_) | (with_reducible refine fA _ ?_ ?_) | (with_reducible refine fD ?_) | (with_reducible refine fS _ ?_) | go_size | (go_simp; done)))))), by unfold partCells; (simp only [CellsAt]; (first | (go_simp; done) | ((repeat' (with_reducible refine And.intro ?_ ?_)) <;> (repeat' (first | (with_reducible assumption) | (with_reducible exact trivial) | (with_reducible refine kA _ ?_) | (with_reducible refine kD ?_) | (with_reducible refine kS _ ?_ ?_) | (with_reducible refine fA _ ?_ ?_) | (with_reducible refine fD ?_) | (with_reducible refine fS _ ?_) | go_size | (go_simp; done)))))), by go_size, by (repeat' (first | (with_reducible assumption) | (with_reducible refine onl_set ?_ (Or.inr (Nat.le_refl _)) _) | (with_reducible refine onl_set ?_ (Or.inr (Nat.le_succ _)) _) | (refine onl_set ?_ (Or.inl rfl) _) | (with_reducible refine onl_drewN ?_ _) | (with_reducible refine onl_drew ?_)))⟩
                · have HX := Lib.hid hX
                  clear HIN HOUT
                  by_cases hb : bb = 68
                  · subst hb
                    have ht : t = true := by
                      cases t
                      · first | rfl | exact absurd ix_mk2 hX
                      · first | rfl | exact absurd ix_mk2 hX
                    subst ht
                    clear hX
                    go_wp2_with fail
                    go_roundg (6 - 3)
                    case measure => omega
                    case rel => exact ⟨3, rfl, by omega, by omega, (.inr (.inr (.inr (.inl ⟨rfl, rfl⟩)))), (fun i h1 h2 => by
                      by_cases e : i = 2
                      · subst e; exact HX.out
                      · exact HNO.out i h1 (by omega)), R6, by (simp only [CellsAt]; (first | (go_simp; done) | ((repeat' (with_reducible refine And.intro ?_ ?_)) <;> (repeat' (first | (with_reducible assumption) | (with_reducible exact trivial) | (with_reducible refine kA _ ?_) | (with_reducible refine kD ?_) | (with_reducible refine kS _ ?_ ?_) | (with_reducible refine fA _ ?_ ?_) | (with_reducible refine fD ?_) | (with_reducible refine fS _ ?_) | go_size | (go_simp; done)))))), by (simp only [CellsAt]; (first | (go_simp; done) | ((repeat' (with_reducible refine And.intro ?_ ?_)) <;> (repeat' (first | (with_reducible assumption) | (with_reducible exact trivial) | (with_reducible refine kA _ ?_) | (with_reducible refine kD ?_) | (with_reducible refine kS _ ?_ ?_) | (with_reducible refine fA _ ?_ ?_) | (with_reducible refine fD ?_) | (with_reducible refine fS _ ?_) | go_size | (go_simp; done)))))), by unfold partCells; (simp only [CellsAt]; (first | (go_simp; done) | ((repeat' (with_reducible refine And.intro ?_ ?_)) <;> (repeat' (first | (with_reducible assumption) | (with_reducible exact trivial) | (with_reducible refine kA _ ?_) | (with_reducible refine kD ?_) | (with_reducible refine kS _ ?_ ?_) | (with_reducible refine fA _ ?_ ?_) | (with_reducible refine fD ?_) | (with_reducible refine fS _ ?_) | go_size | (go_simp; done)))))), by go_size, O6⟩
                  · have hb2 : ((68 : Int) == bb) = false := by simp; omega
                    have hb3 : ((68 : Int) != bb) = true := by simp only [bne, hb2, Bool.not_false]
                    clear hX
                    go_wp2_with fail
                    go_roundg (6 - 3)
                    case measure => omega
                    case rel => exact ⟨3, rfl, by omega, by omega, (.inr (.inr (.inr (.inl ⟨rfl, rfl⟩)))), (fun i h1 h2 => by
                      by_cases e : i = 2
                      · subst e; exact HX.out
                      · exact HNO.out i h1 (by omega)), R6, by (simp only [CellsAt]; (first | (go_simp; done) | ((repeat' (with_reducible refine And.intro ?_ ?_)) <;> (repeat' (first | (with_reducible assumption) | (with_reducible exact trivial) | (with_reducible refine kA _ ?_) | (with_reducible refine kD ?_) | (with_reducible refine kS _ ?_ ?_) | (with_reducible refine fA _ ?_ ?_) | (with_reducible refine fD ?_) | (with_reducible refine fS _ ?_) | go_size | (go_simp; done)))))), by (simp only [CellsAt]; (first | (go_simp; done) | ((repeat' (with_reducible refine And.intro ?_ ?_)) <;> (repeat' (first | (with_reducible assumption) | (with_reducible exact trivial) | (with_reducible refine kA _ ?_) | (with_reducible refine kD ?_) | (with_reducible refine kS _ ?_ ?_) | (with_reducible refine fA _ ?_ ?_) | (with_reducible refine fD ?_) | (with_reducible refine fS _ ?_) | go_size | (go_simp; done)))))), by unfold partCells; (simp only [CellsAt]; (first | (go_simp; done) | ((repeat' (with_reducible refine And.intro ?_ ?_)) <;> (repeat' (first | (with_reducible assumption) | (with_reducible exact trivial) | (with_reducible refine kA _ ?_) | (with_reducible refine kD ?_) | (with_reducible refine kS _ ?_ ?_) | (with_reducible refine fA _ ?_ ?_) | (with_reducible refine fD ?_) | (with_reducible refine fS _ ?_) | go_size | (go_simp; done)))))), by go_size, O6⟩
              · by_cases hX : ixL bb t = (3 : Nat)
                · have hin := HIN.out 3 hX hj2
                  obtain ⟨rfl, rfl⟩ := ix_inv3 (b := bb) (t := t) (by simpa using hX)
                  have HI2 := Lib.hid hin
                  clear hX hin HIN HOUT HNO
                  have u0 := R6.2.1
                  have u1 := R6.2.2.1
                  have u2 := R6.2.2.2
                  have u3 := Lib.hid R6.1
                  go_wp2_with fail
                  go_roundg (s.size - (qk + 1))
                  case measure => rw [HG.out]; have := HQK.out; omega
                  case rel => exact ⟨gg, qk + 1, 4, true, true, false, a, b, c, n, x, y, (.inr (.inr (.inr (.inr (.inl ⟨rfl, rfl⟩))))), rfl, rfl, rfl, rfl, by omega, by omega, by have := HQK.out; omega, by omega, .inl ⟨rfl, by rw [← HQK.out]; exact HI2.out, .inl rfl⟩, ⟨by have := u3.out; go_simp, by go_simp, by go_simp, by go_size⟩, by (simp only [CellsAt]; (first | (go_simp; done) | ((repeat' (with_reducible refine And.intro ?_ ?_)) <;> (repeat' (first | (with_reducible assumption) | (with_reducible exact trivial) | (with_reducible refine kA _ ?_) | (with_reducible refine kD ?_) | (with_reducible refine kS _ ?_ ?_) | (with_reducible refine fA _ ?_ ?_) | (with_reducible refine fD ?_) | (with_reducible refine fS _ ?_) | go_size | (go_simp; done)))))), by (simp only [CellsAt]; (first | (go_simp; done) | ((repeat' (with_reducible refine And.intro ?_ ?_)) <;> (repeat' (first | (with_reducible assumption) | (with_reducible exact trivial) | (with_reducible refine kA _ ?_) | (with_reducible refine kD ?_) | (with_reducible refine kS _ ?_ ?_) | (with_reducible refine fA _ ?_ ?_) | (with_reducible refine fD ?_) | (with_reducible refine fS _ ?_) | go_size | (go_simp; done)))))), by unfold partCells; (simp only [CellsAt]; (first | (go_simp; done) | ((repeat' (with_reducible refine And.intro ?_ ?_)) <;> (repeat' (first | (with_reducible assumption) | (with_reducible exact trivial) | (with_reducible refine kA _ ?_) | (with_reducible refine kD ?_) | (with_reducible refine kS _ ?_ ?_) | (with_reducible refine fA _ ?_ ?_) | (with_reducible refine fD ?_) | (with_reducible refine fS _ ?_) | go_size | (go_simp; done)))))), by go_size, by (repeat' (first | (with_reducible assumption) | (with_reducible refine onl_set ?_ (Or.inr (Nat.le_refl _)) _) | (with_reducible refine onl_set ?_ (Or.inr (Nat.le_succ _)) _) | (refine onl_set ?_ (Or.inl rfl) _) | (with_reducible refine onl_drewN ?_ _) | (with_reducible refine onl_drew ?_)))⟩
                · have HX := Lib.hid hX
                  clear HIN HOUT
                  by_cases hb : bb = 72
                  · subst hb
                    have ht : t = false := by
                      cases t
                      · first | rfl | exact absurd ix_mk3 hX
                      · first | rfl | exact absurd ix_mk3 hX
                    subst ht
                    clear hX
                    go_wp2_with fail
                    go_roundg (6 - 4)
                    case measure => omega
                    case rel => exact ⟨4, rfl, by omega, by omega, (.inr (.inr (.inr (.inr (.inl ⟨rfl, rfl⟩))))), (fun i h1 h2 => by
                      by_cases e : i = 3
                      · subst e; exact HX.out
                      · exact HNO.out i h1 (by omega)), R6, by (simp only [CellsAt]; (first | (go_simp; done) | ((repeat' (with_reducible refine And.intro ?_ ?_)) <;> (repeat' (first | (with_reducible assumption) | (with_reducible exact trivial) | (with_reducible refine kA _ ?_) | (with_reducible refine kD ?_) | (with_reducible refine kS _ ?_ ?_) | (with_reducible refine fA _ ?_ ?_) | (with_reducible refine fD ?_) | (with_reducible refine fS _ ?_) | go_size | (go_simp; done)))))), by (simp only [CellsAt]; (first | (go_simp; done) | ((repeat' (with_reducible refine And.intro ?_ ?_)) <;> (repeat' (first | (with_reducible assumption) | (with_reducible exact trivial) | (with_reducible refine kA _ ?_) | (with_reducible refine kD ?_) | (with_reducible refine kS _ ?_ ?_) | (with_reducible refine fA _ ?_ ?_) | (with_reducible refine fD ?_) | (with_reducible refine fS _ ?_) | go_size | (go_simp; done)))))), by unfold partCells; (simp only [CellsAt]; (first | (go_simp; done) | ((repeat' (with_reducible refine And.intro ?_ ?_)) <;> (repeat' (first | (with_reducible assumption) | (with_reducible exact trivial) | (with_reducible refine kA _ ?_) | (with_reducible refine kD ?_) | (with_reducible refine kS _ ?_ ?_) | (with_reducible refine fA _ ?_ ?_) | (with_reducible refine fD ?_) | (with_reducible refine fS _ ?_) | go_size | (go_simp; done)))))), by go_size, O6⟩
                  · have hb2 : ((72 : Int) == bb) = false := by simp; omega
                    have hb3 : ((72 : Int) != bb) = true := by simp only [bne, hb2, Bool.not_false]
                    clear hX
                    go_wp2_with fail
                    go_roundg (6 - 4)
                    case measure => omega
                    case rel => exact ⟨4, rfl, by omega, by omega, (.inr (.inr (.inr (.inr (.inl ⟨rfl, rfl⟩))))), (fun i h1 h2 => by
                      by_cases e : i = 3
                      · subst e; exact HX.out
                      · exact HNO.out i h1 (by omega)), R6, by (simp only [CellsAt]; (first | (go_simp; done) | ((repeat' (with_reducible refine And.intro ?_ ?_)) <;> (repeat' (first | (with_reducible assumption) | (with_reducible exact trivial) | (with_reducible refine kA _ ?_) | (with_reducible refine kD ?_) | (with_reducible refine kS _ ?_ ?_) | (with_reducible refine fA _ ?_ ?_) | (with_reducible refine fD ?_) | (with_reducible refine fS _ ?_) | go_size | (go_simp; done)))))), by (simp only [CellsAt]; (first | (go_simp; done) | ((repeat' (with_reducible refine And.intro ?_ ?_)) <;> (repeat' (first | (with_reducible assumption) | (with_reducible exact trivial) | (with_reducible refine kA _ ?_) | (with_reducible refine kD ?_) | (with_reducible refine kS _ ?_ ?_) | (with_reducible refine fA _ ?_ ?_) | (with_reducible refine fD ?_) | (with_reducible refine fS _ ?_) | go_size | (go_simp; done)))))), by unfold partCells; (simp only [CellsAt]; (first | (go_simp; done) | ((repeat' (with_reducible refine And.intro ?_ ?_)) <;> (repeat' (first | (with_reducible assumption) | (with_reducible exact trivial) | (with_reducible refine kA _ ?_) | (with_reducible refine kD ?_) | (with_reducible refine kS _ ?_ ?_) | (with_reducible refine fA _ ?_ ?_) | (with_reducible refine fD ?_) | (with_reducible refine fS _ ?_) | go_size | (go_simp; done)))))), by go_size, O6⟩
              · by_cases hX : ixL bb t = (4 : Nat)
                · have hin := HIN.out 4 hX hj2
                  obtain ⟨rfl, rfl⟩ := ix_inv4 (b := bb) (t := t) (by simpa using hX)
                  have HI2 := Lib.hid hin
                  clear hX hin HIN HOUT HNO
                  have u0 := R6.2.1
                  have u1 := R6.2.2.1
                  have u2 := R6.2.2.2
                  have u3 := Lib.hid R6.1
                  go_wp2_with fail
                  go_roundg (s.size - (qk + 1))
                  case measure => rw [HG.out]; have := HQK.out; omega
                  case rel => exact ⟨gg, qk + 1, 5, true, true, false, a, b, c, d, n, y, (.inr (.inr (.inr (.inr (.inr (.inl ⟨rfl, rfl⟩)))))), rfl, rfl, rfl, rfl, by omega, by omega, by have := HQK.out; omega, by omega, .inl ⟨rfl, by rw [← HQK.out]; exact HI2.out, .inl rfl⟩, ⟨by have := u3.out; go_simp, by go_simp, by go_simp, by go_size⟩, by (simp only [CellsAt]; (first | (go_simp; done) | ((repeat' (with_reducible refine And.intro ?_ ?_)) <;> (repeat' (first | (with_reducible assumption) | (with_reducible exact trivial) | (with_reducible refine kA _ ?_) | (with_reducible refine kD ?_) | (with_reducible refine kS _ ?_ ?_) | (with_reducible refine fA _ ?_ ?_) | (with_reducible refine fD ?_) | (with_reducible refine fS _ ?_) | go_size | (go_simp; done)))))), by (simp only [CellsAt]; (first | (go_simp; done) | ((repeat' (with_reducible refine And.intro ?_ ?_)) <;> (repeat' (first | (with_reducible assumption) | (with_reducible exact trivial) | (with_reducible refine kA _ ?_) | (with_reducible refine kD ?_) | (with_reducible refine kS _ ?_ ?_) | (with_reducible refine fA _ ?_ ?_) | (with_reducible refine fD ?_) | (with_reducible refine fS _ ?_) | go_size | (go_simp; done)))))), by unfold partCells; (simp only [CellsAt]; (first | (go_simp; done) | ((repeat' (with_reducible refine And.intro ?_ ?_)) <;> (repeat' (first | (with_reducible assumption) | (with_reducible exact trivial) | (with_reducible refine kA _ ?_) | (with_reducible refine kD ?_) | (with_reducible refine kS _ ?_ ?_) | (with_reducible refine fA _ ?_ ?_) | (with_reducible refine fD ?_) | (with_reducible refine fS _ ?_) | go_size | (go_simp; done)))))), by go_size, by (repeat' (first | (with_reducible assumption) | (with_reducible refine onl_set ?_ (Or.inr (Nat.le_refl _)) _) | (with_reducible refine onl_set ?_ (Or.inr (Nat.le_succ _)) _) | (refine onl_set ?_ (Or.inl rfl) _) | (with_reducible refine onl_drewN ?_ _) | (with_reducible refine onl_drew ?_)))⟩
                · have HX := Lib.hid hX
                  clear HIN HOUT
                  by_cases hb : bb = 77
                  · subst hb
                    have ht : t = false := by
                      cases t
                      · first | rfl | exact absurd ix_mk4 hX
                      · first | rfl | exact absurd ix_mk4 hX
                    subst ht
                    clear hX
                    go_wp2_with fail
                    go_roundg (6 - 5)
                    case measure => omega
                    case rel => exact ⟨5, rfl, by omega, by omega, (.inr (.inr (.inr (.inr (.inr (.inl ⟨rfl, rfl⟩)))))), (fun i h1 h2 => by
                      by_cases e : i = 4
                      · subst e; exact HX.out
                      · exact HNO.out i h1 (by omega)), R6, by (simp only [CellsAt]; (first | (go_simp; done) | ((repeat' (with_reducible refine And.intro ?_ ?_)) <;> (repeat' (first | (with_reducible assumption) | (with_reducible exact trivial) | (with_reducible refine kA _ ?_) | (with_reducible refine kD ?_) | (with_reducible refine kS _ ?_ ?_) | (with_reducible refine fA _ ?_ ?_) | (with_reducible refine fD ?_) | (with_reducible refine fS _ ?_) | go_size | (go_simp; done)))))), by (simp only [CellsAt]; (first | (go_simp; done) | ((repeat' (with_reducible refine And.intro ?_ ?_)) <;> (repeat' (first | (with_reducible assumption) | (with_reducible exact trivial) | (with_reducible refine kA _ ?_) | (with_reducible refine kD ?_) | (with_reducible refine kS _ ?_ ?_) | (with_reducible refine fA _ ?_ ?_) | (with_reducible refine fD ?_) | (with_reducible refine fS _ ?_) | go_size | (go_simp; done)))))), by unfold partCells; (simp only [CellsAt]; (first | (go_simp; done) | ((repeat' (with_reducible refine And.intro ?_ ?_)) <;> (repeat' (first | (with_reducible assumption) | (with_reducible exact trivial) | (with_reducible refine kA _ ?_) | (with_reducible refine kD ?_) | (with_reducible refine kS _ ?_ ?_) | (with_reducible refine fA _ ?_ ?_) | (with_reducible refine fD ?_) | (with_reducible refine fS _ ?_) | go_size | (go_simp; done)))))), by go_size, O6⟩
                  · have hb2 : ((77 : Int) == bb) = false := by simp; omega
                    have hb3 : ((77 : Int) != bb) = true := by simp only [bne, hb2, Bool.not_false]
                    clear hX
                    go_wp2_with fail
                    go_roundg (6 - 5)
                    case measure => omega
                    case rel => exact ⟨5, rfl, by omega, by omega, (.inr (.inr (.inr (.inr (.inr (.inl ⟨rfl, rfl⟩)))))), (fun i h1 h2 => by
                      by_cases e : i = 4
                      · subst e; exact HX.out
                      · exact HNO.out i h1 (by omega)), R6, by (simp only [CellsAt]; (first | (go_simp; done) | ((repeat' (with_reducible refine And.intro ?_ ?_)) <;> (repeat' (first | (with_reducible assumption) | (with_reducible exact trivial) | (with_reducible refine kA _ ?_) | (with_reducible refine kD ?_) | (with_reducible refine kS _ ?_ ?_) | (with_reducible refine fA _ ?_ ?_) | (with_reducible refine fD ?_) | (with_reducible refine fS _ ?_) | go_size | (go_simp; done)))))), by (simp only [CellsAt]; (first | (go_simp; done) | ((repeat' (with_reducible refine And.intro ?_ ?_)) <;> (repeat' (first | (with_reducible assumption) | (with_reducible exact trivial) | (with_reducible refine kA _ ?_) | (with_reducible refine kD ?_) | (with_reducible refine kS _ ?_ ?_) | (with_reducible refine fA _ ?_ ?_) | (with_reducible refine fD ?_) | (with_reducible refine fS _ ?_) | go_size | (go_simp; done)))))), by unfold partCells; (simp only [CellsAt]; (first | (go_simp; done) | ((repeat' (with_reducible refine And.intro ?_ ?_)) <;> (repeat' (first | (with_reducible assumption) | (with_reducible exact trivial) | (with_reducible refine kA _ ?_) | (with_reducible refine kD ?_) | (with_reducible refine kS _ ?_ ?_) | (with_reducible refine fA _ ?_ ?_) | (with_reducible refine fD ?_) | (with_reducible refine fS _ ?_) | go_size | (go_simp; done)))))), by go_size, O6⟩
              · by_cases hX : ixL bb t = (5 : Nat)
                · have hin := HIN.out 5 hX hj2
                  obtain ⟨rfl, rfl⟩ := ix_inv5 (b := bb) (t := t) (by simpa using hX)
                  have HI2 := Lib.hid hin
                  clear hX hin HIN HOUT HNO
                  have u0 := R6.2.1
                  have u1 := R6.2.2.1
                  have u2 := R6.2.2.2
                  have u3 := Lib.hid R6.1
                  go_wp2_with fail
                  go_roundg (s.size - (qk + 1))
                  case measure => rw [HG.out]; have := HQK.out; omega
                  case rel => exact ⟨gg, qk + 1, 6, true, true, false, a, b, c, d, x, n, (.inr (.inr (.inr (.inr (.inr (.inr ⟨rfl, rfl⟩)))))), rfl, rfl, rfl, rfl, by omega, by omega, by have := HQK.out; omega, by omega, .inl ⟨rfl, by rw [← HQK.out]; exact HI2.out, .inl rfl⟩, ⟨by have := u3.out; go_simp, by go_simp, by go_simp, by go_size⟩, by (simp only [CellsAt]; (first | (go_simp; done) | ((repeat' (with_reducible refine And.intro ?_ ?_)) <;> (repeat' (first | (with_reducible assumption) | (with_reducible exact trivial) | (with_reducible refine kA _ ?_) | (with_reducible refine kD ?_) | (with_reducible refine kS _ ?_ ?_) | (with_reducible refine fA _ ?_ ?_) | (with_reducible refine fD ?_) | (with_reducible refine fS _ ?_) | go_size | (go_simp; done)))))), by (simp only [CellsAt]; (first | (go_simp; done) | ((repeat' (with_reducible refine And.intro ?_ ?_)) <;> (repeat' (first | (with_reducible assumption) | (with_reducible exact trivial) | (with_reducible refine kA _ ?_) | (with_reducible refine kD ?_) | (with_reducible refine kS _ ?_ ?_) | (with_reducible refine fA _ ?_ ?_) | (with_reducible refine fD ?_) | (with_reducible refine fS _ ?_) | go_size | (go_simp; done)))))), by unfold partCells; (simp only [CellsAt]; (first | (go_simp; done) | ((repeat' (with_reducible refine And.intro ?_ ?_)) <;> (repeat' (first | (with_reducible assumption) | (with_reducible exact trivial) | (with_reducible refine kA _ ?_) | (with_reducible refine kD ?_) | (with_reducible refine kS _ ?_ ?_) | (with_reducible refine fA _ ?_ ?_) | (with_reducible refine fD ?_) | (with_reducible refine fS _ ?_) | go_size | (go_simp; done)))))), by go_size, by (repeat' (first | (with_reducible assumption) | (with_reducible refine onl_set ?_ (Or.inr (Nat.le_refl _)) _) | (with_reducible refine onl_set ?_ (Or.inr (Nat.le_succ _)) _) | (refine onl_set ?_ (Or.inl rfl) _) | (with_reducible refine onl_drewN ?_ _) | (with_reducible refine onl_drew ?_)))⟩
                · have HX := Lib.hid hX
                  clear HIN HOUT
                  by_cases hb : bb = 83
                  · subst hb
                    have ht : t = false := by
                      cases t
                      · first | rfl | exact absurd ix_mk5 hX
                      · first | rfl | exact absurd ix_mk5 hX
                    subst ht
                    clear hX
                    go_wp2_with fail
                    go_roundg (6 - 6)
                    case measure => omega
                    case rel => exact ⟨6, rfl, by omega, by omega, (.inr (.inr (.inr (.inr (.inr (.inr ⟨rfl, rfl⟩)))))), (fun i h1 h2 => by
                      by_cases e : i = 5
                      · subst e; exact HX.out
                      · exact HNO.out i h1 (by omega)), R6, by (simp only [CellsAt]; (first | (go_simp; done) | ((repeat' (with_reducible refine And.intro ?_ ?_)) <;> (repeat' (first | (with_reducible assumption) | (with_reducible exact trivial) | (with_reducible refine kA _ ?_) | (with_reducible refine kD ?_) | (with_reducible refine kS _ ?_ ?_) | (with_reducible refine fA _ ?_ ?_) | (with_reducible refine fD ?_) | (with_reducible refine fS _ ?_) | go_size | (go_simp; done)))))), by (simp only [CellsAt]; (first | (go_simp; done) | ((repeat' (with_reducible refine And.intro ?_ ?_)) <;> (repeat' (first | (with_reducible assumption) | (with_reducible exact trivial) | (with_reducible refine kA _ ?_) | (with_reducible refine kD ?_) | (with_reducible refine kS _ ?_ ?_) | (with_reducible refine fA _ ?_ ?_) | (with_reducible refine fD ?_) | (with_reducible refine fS _ ?_) | go_size | (go_simp; done)))))), by unfold partCells; (simp only [CellsAt]; (first | (go_simp; done) | ((repeat' (with_reducible refine And.intro ?_ ?_)) <;> (repeat' (first | (with_reducible assumption) | (with_reducible exact trivial) | (with_reducible refine kA _ ?_) | (with_reducible refine kD ?_) | (with_reducible refine kS _ ?_ ?_) | (with_reducible refine fA _ ?_ ?_) | (with_reducible refine fD ?_) | (with_reducible refine fS _ ?_) | go_size | (go_simp; done)))))), by go_size, O6⟩
                  · have hb2 : ((83 : Int) == bb) = false := by simp; omega
                    have hb3 : ((83 : Int) != bb) = true := by simp only [bne, hb2, Bool.not_false]
                    clear hX
                    go_wp2_with fail
                    go_roundg (6 - 6)
                    case measure => omega
                    case rel => exact ⟨6, rfl, by omega, by omega, (.inr (.inr (.inr (.inr (.inr (.inr ⟨rfl, rfl⟩)))))), (fun i h1 h2 => by
                      by_cases e : i = 5
                      · subst e; exact HX.out
                      · exact HNO.out i h1 (by omega)), R6, by (simp only [CellsAt]; (first | (go_simp; done) | ((repeat' (with_reducible refine And.intro ?_ ?_)) <;> (repeat' (first | (with_reducible assumption) | (with_reducible exact trivial) | (with_reducible refine kA _ ?_) | (with_reducible refine kD ?_) | (with_reducible refine kS _ ?_ ?_) | (with_reducible refine fA _ ?_ ?_) | (with_reducible refine fD ?_) | (with_reducible refine fS _ ?_) | go_size | (go_simp; done)))))), by (simp only [CellsAt]; (first | (go_simp; done) | ((repeat' (with_reducible refine And.intro ?_ ?_)) <;> (repeat' (first | (with_reducible assumption) | (with_reducible exact trivial) | (with_reducible refine kA _ ?_) | (with_reducible refine kD ?_) | (with_reducible refine kS _ ?_ ?_) | (with_reducible refine fA _ ?_ ?_) | (with_reducible refine fD ?_) | (with_reducible refine fS _ ?_) | go_size | (go_simp; done)))))), by unfold partCells; (simp only [CellsAt]; (first | (go_simp; done) | ((repeat' (with_reducible refine And.intro ?_ ?_)) <;> (repeat' (first | (with_reducible assumption) | (with_reducible exact trivial) | (with_reducible refine kA _ ?_) | (with_reducible refine kD ?_) | (with_reducible refine kS _ ?_ ?_) | (with_reducible refine fA _ ?_ ?_) | (with_reducible refine fD ?_) | (with_reducible refine fS _ ?_) | go_size | (go_simp; done)))))), by go_size, O6⟩
              · have HE := Lib.hid (HOUT.out (fun i h1 h2 => HNO.out i h1 h2))
                clear HIN HOUT m6 y6 HNO
                go_upto_region 22 with fail
                go_wp21
                exact bodyPost_ret (v := .tuple #[.agg #[.int .i64 0, .int .i64 0, .int .i64 0, .int .i64 0, .int .i64 0, .int .i64 0], .bool false]) (by simp [results, Tryd.results18, go_sem, z6]) rfl ⟨0, 0, 0, 0, 0, 0, false, qk, ⟨by omega, .inr ⟨by simp, HE.out⟩⟩, rfl, by (repeat' (first | (with_reducible assumption) | (with_reducible refine rdr_set ?_ ?_ _) | (with_reducible refine rdr_alloc ?_ _) | (with_reducible refine rdr_drew ?_ _) | (with_reducible refine rdr_drew1 ?_) | go_size)), by (repeat' (first | (with_reducible assumption) | (with_reducible refine onl_set ?_ (Or.inr (Nat.le_refl _)) _) | (with_reducible refine onl_set ?_ (Or.inr (Nat.le_succ _)) _) | (refine onl_set ?_ (Or.inl rfl) _) | (with_reducible refine onl_drewN ?_ _) | (with_reducible refine onl_drew ?_)))⟩
        · have HE := Lib.hid (show none = R from (itm_none (by rw [HK.out]; omega)).symm.trans HI.out)
          have FW := Lib.hid (few_no r s q5 wc R5 hs (by omega) (by rw [HK.out]; exact hk4))
          clear hk4
          go_wp2_with fail
          refine (FW.out).mono ?_
          rintro e e1 ⟨_, rfl, Re1, Ge1⟩
          have se1 := Ge1.size
          (try simp at se1)
          have Oe1 : Onl r w e1 := onl_trans (by (repeat' (first | (with_reducible assumption) | (with_reducible exact onl_refl _ _) | (with_reducible refine onl_drewN ?_ _) | (with_reducible refine onl_drew ?_) | (with_reducible refine onl_alloc ?_ _) | (with_reducible refine onl_set ?_ (Or.inr ?_) _) | go_size))) Ge1
          have le1_0 : w.heap.size < e1.heap.size := (by go_size)
          have ze1_wH : CellsAt e1 (w.heap.size) 0 [.int .i64 0, .int .i64 0, .int .i64 0, .int .i64 0, .int .i64 0, .int .i64 0] := cells_keep (by (simp only [CellsAt]; (first | (go_simp; done) | ((repeat' (with_reducible refine And.intro ?_ ?_)) <;> (repeat' (first | (with_reducible assumption) | (with_reducible exact trivial) | (with_reducible refine kA _ ?_) | (with_reducible refine kD ?_) | (with_reducible refine kS _ ?_ ?_) | (with_reducible refine fA _ ?_ ?_) | (with_reducible refine fD ?_) | (with_reducible refine fS _ ?_) | go_size | (go_simp; done))))))) (fun o => onl_cell Ge1 (by go_size) (by omega) o) (fun o => onl_frozen Ge1 (by go_size) (by omega) o)
          have le1_1 : w.heap.size+1 < e1.heap.size := (by go_size)
          have ze1_wH1 : CellsAt e1 (w.heap.size+1) 0 [.int .i64 a, .int .i64 b, .int .i64 c, .int .i64 d, .int .i64 x, .int .i64 y] := cells_keep (by (simp only [CellsAt]; (first | (go_simp; done) | ((repeat' (with_reducible refine And.intro ?_ ?_)) <;> (repeat' (first | (with_reducible assumption) | (with_reducible exact trivial) | (with_reducible refine kA _ ?_) | (with_reducible refine kD ?_) | (with_reducible refine kS _ ?_ ?_) | (with_reducible refine fA _ ?_ ?_) | (with_reducible refine fD ?_) | (with_reducible refine fS _ ?_) | go_size | (go_simp; done))))))) (fun o => onl_cell Ge1 (by go_size) (by omega) o) (fun o => onl_frozen Ge1 (by go_size) (by omega) o)
          have le1_2 : m < e1.heap.size := (by go_size)
          have ze1_m : CellsAt e1 (m) 0 [.int .u8 89, .bool false, .pointer (some ⟨w.heap.size + 1, 0, none⟩), .int .u8 77, .bool false, .pointer (some ⟨w.heap.size + 1, 1, none⟩), .int .u8 68, .bool false, .pointer (some ⟨w.heap.size + 1, 2, none⟩), .int .u8 72, .bool true, .pointer (some ⟨w.heap.size + 1, 3, none⟩), .int .u8 77, .bool true, .pointer (some ⟨w.heap.size + 1, 4, none⟩), .int .u8 83, .bool true, .pointer (some ⟨w.heap.size + 1, 5, none⟩)] := cells_keep (by (simp only [CellsAt]; (first | (go_simp; done) | ((repeat' (with_reducible refine And.intro ?_ ?_)) <;> (repeat' (first | (with_reducible assumption) | (with_reducible exact trivial) | (with_reducible refine kA _ ?_) | (with_reducible refine kD ?_) | (with_reducible refine kS _ ?_ ?_) | (with_reducible refine fA _ ?_ ?_) | (with_reducible refine fD ?_) | (with_reducible refine fS _ ?_) | go_size | (go_simp; done))))))) (fun o => onl_cell Ge1 (by go_size) (by omega) o) (fun o => onl_frozen Ge1 (by go_size) (by omega) o)
          simp only [CellsAt] at ze1_wH
          simp only [CellsAt] at ze1_wH1
          simp only [CellsAt] at ze1_m
          clear z5 y5 m5
          clear ze1_m ze1_wH1 R5 O5
          go_wp21
          exact bodyPost_ret (v := .tuple #[.agg #[.int .i64 0, .int .i64 0, .int .i64 0, .int .i64 0, .int .i64 0, .int .i64 0], .bool false]) (by simp [results, Tryd.results18, go_sem, ze1_wH]) rfl ⟨0, 0, 0, 0, 0, 0, false, q5, ⟨by omega, .inr ⟨by simp, HE.out⟩⟩, rfl, by (repeat' (first | (with_reducible assumption) | (with_reducible refine rdr_set ?_ ?_ _) | (with_reducible refine rdr_alloc ?_ _) | (with_reducible refine rdr_drew ?_ _) | (with_reducible refine rdr_drew1 ?_) | go_size)), by (repeat' (first | (with_reducible assumption) | (with_reducible refine onl_set ?_ (Or.inr (Nat.le_refl _)) _) | (with_reducible refine onl_set ?_ (Or.inr (Nat.le_succ _)) _) | (refine onl_set ?_ (Or.inl rfl) _) | (with_reducible refine onl_drewN ?_ _) | (with_reducible refine onl_drew ?_)))⟩
end Go.Proofs.YtmdmahgplmijcaaDoor
