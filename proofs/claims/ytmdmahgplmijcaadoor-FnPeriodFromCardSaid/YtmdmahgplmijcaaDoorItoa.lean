/- strconv.Itoa from 0 to 9999 gives the decimals (laid by the shelf's tool). Condition: the library's table of powers of ten stands in memory as its text lays it ('Tab'). -/
import Derived.Test.YtmdmahgplmijcaaDoorDec
import Derived.Shelf.Strconv.Itoa3
import Derived.Lib.LaidTab
namespace Go.Proofs.YtmdmahgplmijcaaDoor
open Go.RowKit DN Go.Shelf
set_option linter.unusedVariables false
set_option linter.unusedSimpArgs false

def laysM171_ren : Go.Shelf.Ren := ⟨fun | 171 => 25 | 243 => 36 | 246 => 41 | 283 => 43 | 284 => 44 | 285 => 45 | 286 => 46 | 129 => 48 | 317 => 47 | 318 => 49 | 319 => 50 | 320 => 51 | 337 => 52 | 338 => 53 | n => n, fun | 3 => 3 | 9 => 9 | 2 => 2 | 4 => 4 | 171 => 70 | 0 => 0 | 53 => 71 | 37 => 22 | 5 => 5 | 173 => 74 | 212 => 77 | 51 => 78 | 20 => 20 | 213 => 79 | 46 => 81 | 232 => 84 | 233 => 85 | n => n, fun | 17 => 0 | 18 => 1 | 19 => 2 | n => n⟩
theorem laysM171 : Go.Proofs.LaysM.n171 Tryd.prog laysM171_ren := {
  mixed := by kernel_rfl
  f129 := Tryd.func48.trans (congrArg some (by kernel_rfl))
  f171 := Tryd.func25.trans (congrArg some (by kernel_rfl))
  f243 := Tryd.func36.trans (congrArg some (by kernel_rfl))
  f246 := Tryd.func41.trans (congrArg some (by kernel_rfl))
  f283 := Tryd.func43.trans (congrArg some (by kernel_rfl))
  f284 := Tryd.func44.trans (congrArg some (by kernel_rfl))
  f285 := Tryd.func45.trans (congrArg some (by kernel_rfl))
  f286 := Tryd.func46.trans (congrArg some (by kernel_rfl))
  f317 := Tryd.func47.trans (congrArg some (by kernel_rfl))
  f318 := Tryd.func49.trans (congrArg some (by kernel_rfl))
  f319 := Tryd.func50.trans (congrArg some (by kernel_rfl))
  f320 := Tryd.func51.trans (congrArg some (by kernel_rfl))
  f337 := Tryd.func52.trans (congrArg some (by kernel_rfl))
  f338 := Tryd.func53.trans (congrArg some (by kernel_rfl))
  t0 := Tryd.underlying0
  a0 := Tryd.isAgg0
  z0 := Tryd.sizeOf0
  v0 := Tryd.zeroValue0
  t2 := Tryd.underlying2
  a2 := Tryd.isAgg2
  z2 := Tryd.sizeOf2
  v2 := Tryd.zeroValue2
  t3 := Tryd.underlying3
  a3 := Tryd.isAgg3
  z3 := Tryd.sizeOf3
  v3 := Tryd.zeroValue3
  t4 := Tryd.underlying4
  a4 := Tryd.isAgg4
  z4 := Tryd.sizeOf4
  v4 := Tryd.zeroValue4
  t5 := Tryd.underlying5
  a5 := Tryd.isAgg5
  z5 := Tryd.sizeOf5
  v5 := Tryd.zeroValue5
  t9 := Tryd.underlying9
  a9 := Tryd.isAgg9
  z9 := Tryd.sizeOf9
  v9 := Tryd.zeroValue9
  t20 := Tryd.underlying20
  a20 := Tryd.isAgg20
  z20 := Tryd.sizeOf20
  v20 := Tryd.zeroValue20
  t37 := Tryd.underlying22
  a37 := Tryd.isAgg22
  z37 := Tryd.sizeOf22
  v37 := Tryd.zeroValue22
  t46 := Tryd.underlying81
  a46 := Tryd.isAgg81
  z46 := Tryd.sizeOf81
  v46 := Tryd.zeroValue81
  t51 := Tryd.underlying78
  a51 := Tryd.isAgg78
  z51 := Tryd.sizeOf78
  v51 := Tryd.zeroValue78
  t53 := Tryd.underlying71
  a53 := Tryd.isAgg71
  z53 := Tryd.sizeOf71
  v53 := Tryd.zeroValue71
  t171 := Tryd.underlying70
  a171 := Tryd.isAgg70
  z171 := Tryd.sizeOf70
  v171 := Tryd.zeroValue70
  t173 := Tryd.underlying74
  a173 := Tryd.isAgg74
  z173 := Tryd.sizeOf74
  v173 := Tryd.zeroValue74
  t212 := Tryd.underlying77
  a212 := Tryd.isAgg77
  z212 := Tryd.sizeOf77
  v212 := Tryd.zeroValue77
  t213 := Tryd.underlying79
  a213 := Tryd.isAgg79
  z213 := Tryd.sizeOf79
  t232 := Tryd.underlying84
  a232 := Tryd.isAgg84
  z232 := Tryd.sizeOf84
  v232 := Tryd.zeroValue84
  t233 := Tryd.underlying85
  a233 := Tryd.isAgg85
  z233 := Tryd.sizeOf85
  v233 := Tryd.zeroValue85
  g17 := by kernel_rfl
  g18 := by kernel_rfl
  g19 := by kernel_rfl
  i0 := by kernel_rfl
  i2 := by kernel_rfl
  i3 := by kernel_rfl
  i4 := by kernel_rfl
  i5 := by kernel_rfl
  i9 := by kernel_rfl
  i20 := by kernel_rfl
  i37 := by kernel_rfl
  i46 := by kernel_rfl
  i51 := by kernel_rfl
  i53 := by kernel_rfl
  i171 := by kernel_rfl
  i173 := by kernel_rfl
  i212 := by kernel_rfl
  i232 := by kernel_rfl
  i233 := by kernel_rfl
  m17 := by kernel_rfl
  m18 := by kernel_rfl
  m19 := by kernel_rfl }

theorem strconv_Itoa (n : Int) (h0 : -9223372036854775808 ≤ n) (h1 : n ≤ 9223372036854775807) (w : World) (htab : Lib.TabIs Tryd.prog w "internal/strconv.uint64pow10" .u64 Lib.pow10Tab) :
    Calls Tryd.prog 25 #[.int .i64 n] w fun e w' => e = .returned (.string ⟨(Lib.itoa n).toArray⟩) ∧ ∃ k os, w' = Go.Sort.grow (w.drewN k) os := Any.strconv_Itoa laysM171 n h0 h1 w htab
theorem gTab : Tryd.prog.globalNamed "internal/strconv.uint64pow10" = some 0 := by kernel_rfl
/-- the table of powers of ten stands in its block -/
def Tab (w : World) : Prop := 0 < w.heap.size ∧ ∀ w', Below (0 + 1) w w' → Lib.TabIs Tryd.prog w' "internal/strconv.uint64pow10" .u64 Lib.pow10Tab
theorem tab_is {w : World} (h : Tab w) : Lib.TabIs Tryd.prog w "internal/strconv.uint64pow10" .u64 Lib.pow10Tab := h.2 w (Below.refl _ _)
theorem tab_of {w : World} (h : Lib.TabIs Tryd.prog w "internal/strconv.uint64pow10" .u64 Lib.pow10Tab) : Tab w := by
  have hlt : 0 < w.heap.size := World.block_lt_of_cell? _ _ (h.cell gTab 0 (by rw [Lib.pow10Tab_length]; omega))
  refine ⟨hlt, fun w' hb => ?_⟩
  unfold Lib.TabIs World.var? at *
  simp only [gTab, Option.bind_some] at h ⊢
  rw [hb.block _ (Nat.lt_succ_self _)]
  exact h
theorem tab_keep {w w' : World} (h : Tab w) (b : Below w.heap.size w w') : Tab w' :=
  ⟨Nat.lt_of_lt_of_le h.1 b.size, fun w2 hb => h.2 w2 ((b.mono h.1).trans hb)⟩
theorem tab_set {w : World} (h : Tab w) {p : Addr} (hp : 0 < p.block) (u : Value) : Tab (w.setCell p u) := by
  have b : Below (0 + 1) w (w.setCell p u) := (Below.refl _ _).setCell hp u
  exact ⟨Nat.lt_of_lt_of_le h.1 b.size, fun w2 hb => h.2 w2 (b.trans hb)⟩
theorem tab_drew {w : World} (h : Tab w) : Tab w.drew := tab_keep h (Below.drew (Below.refl _ _))
theorem tab_drewN {w : World} (h : Tab w) (n : Nat) : Tab (w.drewN n) := tab_keep h (bdN (Below.refl _ _) n)
theorem tab_alloc {w : World} (h : Tab w) (o : Obj) : Tab (w.alloc o) := tab_keep h ((Below.refl _ _).alloc (Nat.le_refl _) o)

theorem dgB_ofNat (n : Nat) : dgB (n : Int) = UInt8.ofNat (48 + n % 10) := by
  unfold dgB
  congr 1
theorem itoa_dec (n : Int) (h : 0 ≤ n) (h2 : n ≤ 9999) : (⟨(Lib.itoa n).toArray⟩ : ByteArray) = decS n := by
  obtain ⟨u, rfl⟩ : ∃ u : Nat, n = u := ⟨n.toNat, by omega⟩
  rw [Lib.itoa_nonneg]
  have hu : u ≤ 9999 := by omega
  have e1 : ∀ v : Nat, v < 10 → Lib.decDigits v = [dgB (v : Int)] := by
    intro v hv
    rw [Lib.decDigits, dif_pos hv, dgB_ofNat]
    congr 2
    omega
  have e2 : ∀ v : Nat, ¬ v < 10 → Lib.decDigits v = Lib.decDigits (v / 10) ++ [dgB (v : Int)] := by
    intro v hv
    rw [Lib.decDigits, dif_neg hv, dgB_ofNat]
  apply ByteArray.ext
  apply Array.toList_inj.1
  unfold decS
  by_cases a1 : u < 10
  · rw [if_pos (by omega), e1 u a1]; rfl
  · by_cases a2 : u < 100
    · rw [if_neg (by omega), if_pos (by omega), e2 u a1, e1 (u / 10) (by omega)]
      simp [ByteArray.data_append, Array.toList_append, dgS, dgL]
    · by_cases a3 : u < 1000
      · rw [if_neg (by omega), if_neg (by omega), if_pos (by omega), e2 u a1, e2 (u / 10) (by omega), e1 (u / 10 / 10) (by omega)]
        simp [ByteArray.data_append, Array.toList_append, dgS, dgL]
      · rw [if_neg (by omega), if_neg (by omega), if_neg (by omega), e2 u a1, e2 (u / 10) (by omega), e2 (u / 10 / 10) (by omega), e1 (u / 10 / 10 / 10) (by omega)]
        simp [ByteArray.data_append, Array.toList_append, dgS, dgL]
theorem below_grown (w : World) (k : Nat) (os : Array Obj) : Below w.heap.size w (Go.Sort.grow (w.drewN k) os) :=
  ⟨rfl, rfl, rfl, by show w.heap.size ≤ (w.heap ++ os).size; rw [Array.size_append]; omega, fun j hj => by
    show (w.heap ++ os)[j]? = w.heap[j]?
    exact Array.getElem?_append_left hj⟩
theorem itoa_any (n : Int) (w : World) (h : 0 ≤ n) (h2 : n ≤ 9999) (T : Tab w) : Calls Tryd.prog 25 #[.int .i64 n] w fun e w' => e = .returned (.string (decS n)) ∧ Below w.heap.size w w' := by
  refine (strconv_Itoa n (by omega) (by omega) w (tab_is T)).mono ?_
  rintro e w' ⟨rfl, k, os, rfl⟩
  exact ⟨by rw [itoa_dec n h h2], below_grown w k os⟩
end Go.Proofs.YtmdmahgplmijcaaDoor
