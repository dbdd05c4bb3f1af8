/- Contracts of the laws' helpers on lists of tags: the copy, the size, the comparison. Conditions: the list is short, and so are its texts. -/
import Derived.Test.YtbgpdjceofofoaaToTag
import Derived.Test.YtbgpdjceofofoaaTags
import Derived.Laws.MakeOwn
import Derived.Laws.World
import Derived.Laws.NewBlocks
import Derived.Deep.DeepCutAuto
namespace Go.Proofs.Ytbgpdjceofofoaa
open Go.RowKit DN
set_option linter.unusedVariables false
set_option linter.unusedSimpArgs false

theorem toTagInfo : (Try.prog.info? 26).map (fun i => (i.zero, i.size, i.bytes)) = some (some (.agg #[.string ⟨#[]⟩, .string ⟨#[]⟩, .bool false]), 3, 40) := by kernel_rfl
theorem makeTags (n : Nat) (hn : n ≤ 1048576) (w : World) : (Instr.makeSlice 32 (.int .i64 n) (.int .i64 n)).run Try.prog w = .ok (.slice (some ⟨w.heap.size, 0, none⟩) n n) (w.alloc (.cells (madeCells #[.string ⟨#[]⟩, .string ⟨#[]⟩, .bool false] (n * 3)) 26)) := by
  obtain ⟨i0, hi, hz0, hz1, hz2⟩ := info_parts toTagInfo
  have h := run_make (P := Try.prog) w 32 26 i0 _ Try.underlying32 hi hz0 .i64 .i64 n n (by omega) (by omega) (by rw [hz2]; omega) (by omega)
  rw [h, hz1]
  rfl
/-- a made block whose first tags stand -/
def MadeT (w : World) (B n : Nat) (l : List Tg) (k : Nat) : Prop := (∀ j, j < n * 3 → ∃ u, w.cell? ⟨B, j, none⟩ = some u) ∧ (∀ j, w.frozen? ⟨B, j, none⟩ = false) ∧ B < w.heap.size ∧ ∀ i, i < k → w.cell? ⟨B, i * 3, none⟩ = some (.string (tgK l i)) ∧ w.cell? ⟨B, i * 3 + 1, none⟩ = some (.string (tgV l i)) ∧ w.cell? ⟨B, i * 3 + 2, none⟩ = some (.bool (tgC l i))
theorem made_new (w : World) (n : Nat) (l : List Tg) (z : Array Value) : MadeT (w.alloc (.cells (madeCells z (n * 3)) 26)) w.heap.size n l 0 := by
  refine ⟨fun j hj => ?_, fun j => World.frozen?_alloc_at _ _ _ _ rfl, by simp, fun i hi => by omega⟩
  rw [World.cell?_alloc_at _ _ _ _ rfl]
  exact ⟨_, Array.getElem?_eq_getElem (by rw [size_madeCells]; exact hj)⟩
theorem made_keep {w w' : World} {B n k : Nat} {l : List Tg} (h : MadeT w B n l k) (g : Below w.heap.size w w') : MadeT w' B n l k := by
  obtain ⟨h1, h2, h3, h4⟩ := h
  have hc : ∀ o, w'.cell? ⟨B, o, none⟩ = w.cell? ⟨B, o, none⟩ := fun o => g.cell (p := ⟨B, o, none⟩) h3
  have hf : ∀ o, w'.frozen? ⟨B, o, none⟩ = w.frozen? ⟨B, o, none⟩ := fun o => g.frozen (p := ⟨B, o, none⟩) h3
  exact ⟨fun j hj => by rw [hc]; exact h1 j hj, fun j => by rw [hf]; exact h2 j, Nat.lt_of_lt_of_le h3 g.size, fun i hi => by rw [hc, hc, hc]; exact h4 i hi⟩
theorem made_set {w : World} {B n k : Nat} {l : List Tg} (h : MadeT w B n l k) (hk : k < n) : MadeT (((w.setCell ⟨B, k * 3, none⟩ (.string (tgK l k))).setCell ⟨B, k * 3 + 1, none⟩ (.string (tgV l k))).setCell ⟨B, k * 3 + 2, none⟩ (.bool (tgC l k))) B n l (k + 1) := by
  obtain ⟨h1, h2, h3, h4⟩ := h
  obtain ⟨u0, e0⟩ := h1 (k * 3) (by omega)
  obtain ⟨u1, e1⟩ := h1 (k * 3 + 1) (by omega)
  obtain ⟨u2, e2⟩ := h1 (k * 3 + 2) (by omega)
  have ne : ∀ {x y : Nat}, x ≠ y → (⟨B, x, none⟩ : Addr) ≠ ⟨B, y, none⟩ := fun hxy e => by injection e with _ e; exact hxy e
  have so : ∀ (W : World) (x y : Nat) (v : Value), x ≠ y → (W.setCell ⟨B, x, none⟩ v).cell? ⟨B, y, none⟩ = W.cell? ⟨B, y, none⟩ := fun W x y v h => by apply World.cell?_setCell_other; exact ne h
  have ss : ∀ (W : World) (x : Nat) (u v : Value), W.cell? ⟨B, x, none⟩ = some u → (W.setCell ⟨B, x, none⟩ v).cell? ⟨B, x, none⟩ = some v := fun W x u v h => by apply World.cell?_setCell_same; exact h
  have c0 : ∀ j, j ≠ k * 3 → j ≠ k * 3 + 1 → j ≠ k * 3 + 2 → (((w.setCell ⟨B, k * 3, none⟩ (.string (tgK l k))).setCell ⟨B, k * 3 + 1, none⟩ (.string (tgV l k))).setCell ⟨B, k * 3 + 2, none⟩ (.bool (tgC l k))).cell? ⟨B, j, none⟩ = w.cell? ⟨B, j, none⟩ := by
    intro j a b c
    rw [so _ _ _ _ c.symm, so _ _ _ _ b.symm, so _ _ _ _ a.symm]
  have k0 : (((w.setCell ⟨B, k * 3, none⟩ (.string (tgK l k))).setCell ⟨B, k * 3 + 1, none⟩ (.string (tgV l k))).setCell ⟨B, k * 3 + 2, none⟩ (.bool (tgC l k))).cell? ⟨B, k * 3, none⟩ = some (.string (tgK l k)) := by
    rw [so _ (k * 3 + 2) (k * 3) _ (by omega), so _ (k * 3 + 1) (k * 3) _ (by omega), ss _ _ _ _ e0]
  have k1 : (((w.setCell ⟨B, k * 3, none⟩ (.string (tgK l k))).setCell ⟨B, k * 3 + 1, none⟩ (.string (tgV l k))).setCell ⟨B, k * 3 + 2, none⟩ (.bool (tgC l k))).cell? ⟨B, k * 3 + 1, none⟩ = some (.string (tgV l k)) := by
    rw [so _ (k * 3 + 2) (k * 3 + 1) _ (by omega), ss _ _ u1 _ (by rw [so _ (k * 3) (k * 3 + 1) _ (by omega)]; exact e1)]
  have k2 : (((w.setCell ⟨B, k * 3, none⟩ (.string (tgK l k))).setCell ⟨B, k * 3 + 1, none⟩ (.string (tgV l k))).setCell ⟨B, k * 3 + 2, none⟩ (.bool (tgC l k))).cell? ⟨B, k * 3 + 2, none⟩ = some (.bool (tgC l k)) := by
    rw [ss _ _ u2 _ (by rw [so _ (k * 3 + 1) (k * 3 + 2) _ (by omega), so _ (k * 3) (k * 3 + 2) _ (by omega)]; exact e2)]
  refine ⟨fun j hj => ?_, fun j => by simp only [World.frozen?_setCell]; exact h2 j, by simpa [World.setCell] using h3, fun i hi => ?_⟩
  · by_cases a : j = k * 3
    · subst a; exact ⟨_, k0⟩
    · by_cases b : j = k * 3 + 1
      · subst b; exact ⟨_, k1⟩
      · by_cases c : j = k * 3 + 2
        · subst c; exact ⟨_, k2⟩
        · rw [c0 j a b c]; exact h1 j hj
  · by_cases a : i = k
    · subst a; exact ⟨k0, k1, k2⟩
    · rw [c0 _ (by omega) (by omega) (by omega), c0 _ (by omega) (by omega) (by omega), c0 _ (by omega) (by omega) (by omega)]
      exact h4 i (by omega)

set_option maxRecDepth 100000 in
set_option maxHeartbeats 4000000 in
theorem toTagS_any (a : Option Addr) (len cap : Nat) (l : List Tg) (w : World) (h : IsTags w a len l) (hn : len ≤ 1048576) : Calls Try.prog 28 #[.slice a len cap] w fun e w' => e = .returned (.slice (some ⟨w.heap.size, 0, none⟩) len len) ∧ IsTags w' (some ⟨w.heap.size, 0, none⟩) len l ∧ Below w.heap.size w w' := by
  have HLn := Lib.hid h.1
  have H1 := Lib.hid h.2
  have hmk := makeTags len hn w
  clear h
  go_enter Try.func28, Try.ntmps28
  go_wp2_with fail
  clear hmk
  go_loopg [4] len (fun g i wr => ∃ k : Nat, g = len - k ∧ k ≤ len ∧ i = .int .i64 k ∧ MadeT wr w.heap.size len l k ∧ Below w.heap.size w wr)
  case atStart => exact ⟨0, rfl, Nat.zero_le _, rfl, made_new w len l _, by (repeat' (first | (with_reducible assumption) | (with_reducible exact Below.refl _ _) | (with_reducible refine bdN ?_ _) | (with_reducible refine Below.alloc ?_ ?_ _) | (with_reducible refine Below.drew ?_) | (with_reducible refine Below.setCell ?_ ?_ _) | go_size))⟩
  case round =>
    obtain ⟨k, rfl, hk, rfl, hm, bel⟩ := hrel
    have hszr := bel.size
    by_cases hkl : k < len
    · rcases H1.out with rfl | ⟨b, off, rfl, hb, hc⟩
      · exact absurd hkl (by omega)
      · have hi : k < l.length := by have := HLn.out; omega
        have x1 := (bel.cell (p := ⟨b, _, none⟩) hb).trans (hc k hi).1
        have x2 := (bel.cell (p := ⟨b, _, none⟩) hb).trans (hc k hi).2.1
        have x3 := (bel.cell (p := ⟨b, _, none⟩) hb).trans (hc k hi).2.2
        clear hc
        obtain ⟨kk, hkk⟩ : ∃ kk, tgK l k = kk := ⟨_, rfl⟩
        obtain ⟨vv, hvv⟩ : ∃ vv, tgV l k = vv := ⟨_, rfl⟩
        obtain ⟨cc, hcc⟩ : ∃ cc, tgC l k = cc := ⟨_, rfl⟩
        rw [hkk] at x1
        rw [hvv] at x2
        rw [hcc] at x3
        have HKK := Lib.hid hkk
        have HVV := Lib.hid hvv
        have HCC := Lib.hid hcc
        clear hkk hvv hcc
        go_wp2_with fail
        refine (toTag_any _ _ _ _).mono ?_
        rintro e w1 ⟨rfl, b1⟩
        have hm1 := made_keep hm b1
        obtain ⟨u0, e0⟩ := hm1.1 (k * 3) (by omega)
        obtain ⟨u1, e1⟩ := hm1.1 (k * 3 + 1) (by omega)
        obtain ⟨u2, e2⟩ := hm1.1 (k * 3 + 2) (by omega)
        have f0 := hm1.2.1 (k * 3)
        have f1 := hm1.2.1 (k * 3 + 1)
        have f2 := hm1.2.1 (k * 3 + 2)
        have hs := made_set hm1 hkl
        rw [HKK.out, HVV.out, HCC.out] at hs
        have HS := Lib.hid hs
        have A1 : Below w.heap.size w w1 := bel.trans (b1.mono hszr)
        clear hm hm1 b1 hs
        go_wp2_with fail
        go_roundg (len - (k + 1))
        case measure => omega
        case rel => exact ⟨k + 1, rfl, by omega, by go_num, HS.out, by (repeat' (first | (with_reducible assumption) | (with_reducible exact Below.refl _ _) | (with_reducible refine bdN ?_ _) | (with_reducible refine Below.alloc ?_ ?_ _) | (with_reducible refine Below.drew ?_) | (with_reducible refine Below.setCell ?_ ?_ _) | go_size))⟩
    · obtain rfl : k = len := by omega
      have HM := Lib.hid hm
      clear hm
      go_wp2_with fail
      go_ret
      exact ⟨rfl, ⟨HLn.out, .inr ⟨_, 0, rfl, HM.out.2.2.1, fun i hi => by rw [Nat.zero_add]; exact HM.out.2.2.2 i (by have := HLn.out; omega)⟩⟩, by (repeat' (first | (with_reducible assumption) | (with_reducible exact Below.refl _ _) | (with_reducible refine bdN ?_ _) | (with_reducible refine Below.alloc ?_ ?_ _) | (with_reducible refine Below.drew ?_) | (with_reducible refine Below.setCell ?_ ?_ _) | go_size))⟩

set_option maxRecDepth 100000 in
set_option maxHeartbeats 1000000 in
theorem eqTag_same (k v : ByteArray) (c : Bool) (w : World) : Calls Try.prog 56 #[.agg #[.string k, .string v, .bool c], .agg #[.string k, .string v, .bool c]] w fun e w' => e = .returned (.bool true) ∧ Below w.heap.size w w' := by
  go_enter Try.func56, Try.ntmps56
  go_wp2
  go_ret
  exact ⟨rfl, by (repeat' (first | (with_reducible assumption) | (with_reducible exact Below.refl _ _) | (with_reducible refine bdN ?_ _) | (with_reducible refine Below.alloc ?_ ?_ _) | (with_reducible refine Below.drew ?_) | (with_reducible refine Below.setCell ?_ ?_ _) | go_size))⟩
set_option maxRecDepth 100000 in
set_option maxHeartbeats 4000000 in
theorem eqTagS_same (a a2 : Option Addr) (len cap cap2 : Nat) (l : List Tg) (w : World) (h : IsTags w a len l) (h2 : IsTags w a2 len l) (hn : len ≤ 1048576) : Calls Try.prog 30 #[.slice a len cap, .slice a2 len cap2] w fun e w' => e = .returned (.bool true) ∧ Below w.heap.size w w' := by
  have HLn := Lib.hid h.1
  have H1 := Lib.hid h.2
  have H2 := Lib.hid h2.2
  clear h h2
  go_enter Try.func30, Try.ntmps30
  go_wp2_with fail
  go_loopg [5] len (fun g i wr => ∃ k : Nat, g = len - k ∧ k ≤ len ∧ i = .int .i64 k ∧ Below w.heap.size w wr)
  case atStart => exact ⟨0, rfl, Nat.zero_le _, rfl, by (repeat' (first | (with_reducible assumption) | (with_reducible exact Below.refl _ _) | (with_reducible refine bdN ?_ _) | (with_reducible refine Below.alloc ?_ ?_ _) | (with_reducible refine Below.drew ?_) | (with_reducible refine Below.setCell ?_ ?_ _) | go_size))⟩
  case round =>
    obtain ⟨k, rfl, hk, rfl, bel⟩ := hrel
    have hszr := bel.size
    by_cases hkl : k < len
    · rcases H1.out with rfl | ⟨b, off, rfl, hb, hc⟩
      · exact absurd hkl (by omega)
      · rcases H2.out with rfl | ⟨b2, off2, rfl, hb2, hc2⟩
        · exact absurd hkl (by omega)
        · have hi : k < l.length := by have := HLn.out; omega
          have x1 := (bel.cell (p := ⟨b, _, none⟩) hb).trans (hc k hi).1
          have x2 := (bel.cell (p := ⟨b, _, none⟩) hb).trans (hc k hi).2.1
          have x3 := (bel.cell (p := ⟨b, _, none⟩) hb).trans (hc k hi).2.2
          have y1 := (bel.cell (p := ⟨b2, _, none⟩) hb2).trans (hc2 k hi).1
          have y2 := (bel.cell (p := ⟨b2, _, none⟩) hb2).trans (hc2 k hi).2.1
          have y3 := (bel.cell (p := ⟨b2, _, none⟩) hb2).trans (hc2 k hi).2.2
          clear hc hc2
          obtain ⟨kk, hkk⟩ : ∃ kk, tgK l k = kk := ⟨_, rfl⟩
          obtain ⟨vv, hvv⟩ : ∃ vv, tgV l k = vv := ⟨_, rfl⟩
          obtain ⟨cc, hcc⟩ : ∃ cc, tgC l k = cc := ⟨_, rfl⟩
          rw [hkk] at x1 y1
          rw [hvv] at x2 y2
          rw [hcc] at x3 y3
          clear hkk hvv hcc
          go_wp2_with fail
          go_region_with
            (first
              | (go_at_call 56; (with_reducible refine (eqTag_same _ _ _ _).mono ?_); rintro e w1 ⟨rfl, bw1⟩; have sw1 := bw1.size; (try simp at sw1); have Aw1 : Below w.heap.size w w1 := Below.trans (by (repeat' (first | (with_reducible assumption) | (with_reducible exact Below.refl _ _) | (with_reducible refine bdN ?_ _) | (with_reducible refine Below.alloc ?_ ?_ _) | (with_reducible refine Below.drew ?_) | (with_reducible refine Below.setCell ?_ ?_ _) | go_size))) (bw1.mono (by go_size)); clear bw1)
            )
          all_goals
            go_wp2_with fail
            go_roundg (len - (k + 1))
            case measure => omega
            case rel => exact ⟨k + 1, rfl, by omega, by go_num, by (repeat' (first | (with_reducible assumption) | (with_reducible exact Below.refl _ _) | (with_reducible refine bdN ?_ _) | (with_reducible refine Below.alloc ?_ ?_ _) | (with_reducible refine Below.drew ?_) | (with_reducible refine Below.setCell ?_ ?_ _) | go_size))⟩
    · obtain rfl : k = len := by omega
      go_wp2_with fail
      go_ret
      exact ⟨rfl, by (repeat' (first | (with_reducible assumption) | (with_reducible exact Below.refl _ _) | (with_reducible refine bdN ?_ _) | (with_reducible refine Below.alloc ?_ ?_ _) | (with_reducible refine Below.drew ?_) | (with_reducible refine Below.setCell ?_ ?_ _) | go_size))⟩

/-- what the size of tags says -/
def SzE (l : List Tg) (len : Nat) (w : World) (e : Ending) (w' : World) : Prop := ∃ z : Int, (z < 0 ∨ (0 ≤ z ∧ z ≤ 1048576 ∧ szT l 1048576 ∧ len ≤ 1048576)) ∧ e = .returned (.int .i64 z) ∧ Below w.heap.size w w'
theorem leftT_bd {n k v : Nat} {m : Int} (h0 : 0 ≤ m) (h : ¬ leftT m k v < 0) : 0 ≤ leftT m k v ∧ leftT m k v ≤ m ∧ (k : Int) ≤ m ∧ (v : Int) ≤ m := by
  unfold leftT at *
  split at h
  · omega
  · split at h
    · omega
    · rename_i a b
      rw [if_neg a, if_neg b]
      omega
set_option maxRecDepth 100000 in
set_option maxHeartbeats 4000000 in
theorem szTagS_any (a : Option Addr) (len cap : Nat) (l : List Tg) (w : World) (h : IsTags w a len l) (hsz : szT l maxLen) (hlen : len ≤ maxLen) : Calls Try.prog 26 #[.slice a len cap, .int .i64 1048576] w (SzE l len w) := by
  have HLn := Lib.hid h.1
  have H1 := Lib.hid h.2
  have HZ := Lib.hid hsz
  unfold maxLen at hlen
  clear h hsz
  by_cases hbig : 1048576 < len
  · go_enter Try.func26, Try.ntmps26
    go_wp2_with fail
    go_ret
    exact ⟨-1, .inl (by omega), rfl, by (repeat' (first | (with_reducible assumption) | (with_reducible exact Below.refl _ _) | (with_reducible refine bdN ?_ _) | (with_reducible refine Below.alloc ?_ ?_ _) | (with_reducible refine Below.drew ?_) | (with_reducible refine Below.setCell ?_ ?_ _) | go_size))⟩
  · go_enter Try.func26, Try.ntmps26
    go_wp2_with fail
    go_loopg [1, 5] len (fun g lv i wr => ∃ (k : Nat) (m : Int), g = len - k ∧ k ≤ len ∧ i = .int .i64 k ∧ lv = .int .i64 m ∧ 0 ≤ m ∧ m ≤ 1048576 ∧ (∀ j, j < k → (tgK l j).size ≤ 1048576 ∧ (tgV l j).size ≤ 1048576) ∧ Below w.heap.size w wr)
    case atStart => exact ⟨0, 1048576 - len, rfl, Nat.zero_le _, rfl, rfl, by omega, by omega, (fun j hj => by omega), by (repeat' (first | (with_reducible assumption) | (with_reducible exact Below.refl _ _) | (with_reducible refine bdN ?_ _) | (with_reducible refine Below.alloc ?_ ?_ _) | (with_reducible refine Below.drew ?_) | (with_reducible refine Below.setCell ?_ ?_ _) | go_size))⟩
    case round =>
      obtain ⟨k, m, rfl, hk, rfl, rfl, hm0, hm1, hall, bel⟩ := hrel
      have hszr := bel.size
      have HALL := Lib.hid hall
      clear hall
      by_cases hkl : k < len
      · rcases H1.out with rfl | ⟨b, off, rfl, hb, hc⟩
        · exact absurd hkl (by omega)
        · have hi : k < l.length := by have := HLn.out; omega
          have x1 := (bel.cell (p := ⟨b, _, none⟩) hb).trans (hc k hi).1
          have x2 := (bel.cell (p := ⟨b, _, none⟩) hb).trans (hc k hi).2.1
          have x3 := (bel.cell (p := ⟨b, _, none⟩) hb).trans (hc k hi).2.2
          obtain ⟨z1, z2⟩ := HZ.out k hi
          clear hc
          obtain ⟨kk, hkk⟩ : ∃ kk, tgK l k = kk := ⟨_, rfl⟩
          obtain ⟨vv, hvv⟩ : ∃ vv, tgV l k = vv := ⟨_, rfl⟩
          obtain ⟨cc, hcc⟩ : ∃ cc, tgC l k = cc := ⟨_, rfl⟩
          rw [hkk] at x1 z1
          rw [hvv] at x2 z2
          rw [hcc] at x3
          have HKK := Lib.hid hkk
          have HVV := Lib.hid hvv
          clear hkk hvv hcc
          have Z := Lib.hid (fun w => szTag_any kk vv cc m w z1 z2 hm0 hm1)
          have LB := Lib.hid (leftT_bd (n := 0) (k := kk.size) (v := vv.size) hm0)
          obtain ⟨q, hq⟩ : ∃ q, leftT m kk.size vv.size = q := ⟨_, rfl⟩
          rw [hq] at Z LB
          clear hq z1 z2
          go_wp2_with fail
          refine (Z.out _).mono ?_
          rintro e w1 ⟨rfl, b1⟩
          have A1 : Below w.heap.size w w1 := bel.trans (b1.mono hszr)
          clear b1
          by_cases hq0 : q < 0
          · go_wp2_with fail
            go_ret
            exact ⟨-1, .inl (by omega), rfl, by (repeat' (first | (with_reducible assumption) | (with_reducible exact Below.refl _ _) | (with_reducible refine bdN ?_ _) | (with_reducible refine Below.alloc ?_ ?_ _) | (with_reducible refine Below.drew ?_) | (with_reducible refine Below.setCell ?_ ?_ _) | go_size))⟩
          · obtain ⟨l1, l2, l3, l4⟩ := LB.out (by first | exact hq0 | omega)
            go_wp2_with fail
            go_roundg (len - (k + 1))
            case measure => omega
            case rel => exact ⟨k + 1, q, rfl, by omega, by go_num, rfl, l1, by omega, (fun j hj => by
              by_cases x : j = k
              · subst x; rw [HKK.out, HVV.out]; omega
              · exact HALL.out j (by omega)), by (repeat' (first | (with_reducible assumption) | (with_reducible exact Below.refl _ _) | (with_reducible refine bdN ?_ _) | (with_reducible refine Below.alloc ?_ ?_ _) | (with_reducible refine Below.drew ?_) | (with_reducible refine Below.setCell ?_ ?_ _) | go_size))⟩
      · obtain rfl : k = len := by omega
        go_wp2_with fail
        go_ret
        exact ⟨m, .inr ⟨hm0, hm1, fun i hi => HALL.out i (by rw [HLn.out]; exact hi), by omega⟩, rfl, by (repeat' (first | (with_reducible assumption) | (with_reducible exact Below.refl _ _) | (with_reducible refine bdN ?_ _) | (with_reducible refine Below.alloc ?_ ?_ _) | (with_reducible refine Below.drew ?_) | (with_reducible refine Below.setCell ?_ ?_ _) | go_size))⟩
end Go.Proofs.Ytbgpdjceofofoaa
