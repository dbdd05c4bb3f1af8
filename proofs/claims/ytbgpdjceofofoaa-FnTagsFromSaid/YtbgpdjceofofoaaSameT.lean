/- The laws' comparison of two lists of tags: two lists of the same tags are the same. Condition: the list is short. -/
import Derived.Test.YtbgpdjceofofoaaTags
import Derived.Deep.RegionHeld3
namespace Go.Proofs.Ytbgpdjceofofoaa
open Go.RowKit DN
set_option linter.unusedVariables false
set_option linter.unusedSimpArgs false

set_option maxRecDepth 100000 in
set_option maxHeartbeats 4000000 in
theorem sameTags_same (a1 a2 : Option Addr) (len cap1 cap2 : Nat) (l : List Tg) (w : World) (h1 : IsTags w a1 len l) (h2 : IsTags w a2 len l) (hn : len ≤ 1048576) : Calls Try.prog 40 #[.slice a1 len cap1, .slice a2 len cap2] w fun e w' => e = .returned (.bool true) ∧ ∃ n, w' = w.drewN n := by
  obtain ⟨hl, h1⟩ := h1
  obtain ⟨_, h2⟩ := h2
  have HLn := Lib.hid hl
  have H1 := Lib.hid h1
  have H2 := Lib.hid h2
  clear h1 h2 hl
  go_enter Try.func40, Try.ntmps40
  go_wp2_with fail
  go_loopg [5] len (fun g iv wr => ∃ (k nq : Nat), g = len - k ∧ k ≤ len ∧ iv = .int .i64 k ∧ wr = w.drewN nq)
  case atStart => exact ⟨0, 0, rfl, Nat.zero_le _, rfl, rfl⟩
  case round =>
    obtain ⟨k, nq, rfl, hk, rfl, rfl⟩ := hrel
    by_cases hkl : k < len
    · rcases H1.out with h0 | ⟨b1, o1, rfl, hb1, hc1⟩
      · exact absurd hkl (by omega)
      · rcases H2.out with h0 | ⟨b2, o2, rfl, hb2, hc2⟩
        · exact absurd hkl (by omega)
        · have hi : k < l.length := by have := HLn.out; omega
          obtain ⟨x1, x2, x3⟩ := hc1 k hi
          obtain ⟨y1, y2, y3⟩ := hc2 k hi
          clear hc1 hc2
          obtain ⟨kk, hkk⟩ : ∃ kk, tgK l k = kk := ⟨_, rfl⟩
          obtain ⟨vv, hvv⟩ : ∃ vv, tgV l k = vv := ⟨_, rfl⟩
          obtain ⟨cc, hcc⟩ : ∃ cc, tgC l k = cc := ⟨_, rfl⟩
          rw [hkk] at x1 y1
          rw [hvv] at x2 y2
          rw [hcc] at x3 y3
          clear hkk hvv hcc
          go_wp2_with fail
          go_quiet (fail)
          go_wp2_with fail
          go_roundg (len - (k + 1))
          case measure => omega
          case rel => exact ⟨k + 1, _, rfl, by omega, by go_num, by first | rfl | (simp only [World.drewN_drewN]; rfl)⟩
    · obtain rfl : k = len := by omega
      go_wp2_with fail
      go_ret
      exact ⟨rfl, nq, rfl⟩
end Go.Proofs.Ytbgpdjceofofoaa
