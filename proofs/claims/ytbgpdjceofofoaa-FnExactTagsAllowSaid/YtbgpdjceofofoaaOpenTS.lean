/- How a list of tags that comes in as an argument is opened: its cells and the bounds of its texts. Its conditions: the types' rows in the program's table, which each use states. -/
import Derived.Test.YtbgpdjceofofoaaTags
import Derived.ProofKit
import Derived.Deep.Slices
import Derived.Deep.Fields
import Derived.Deep.Strs
import Derived.ChangeSame
import Derived.Lib.SmallJoins
namespace Go.Proofs.Ytbgpdjceofofoaa
open Go Go.ChangeShapes Go.WideShapes Go.Deep Go.RowKit DN
set_option linter.unusedVariables false
set_option linter.unusedSimpArgs false
section
variable {H : Type} {enc : TypeId × Value → H} {P : Program} {w : World} {base : Nat} {spare : Nat → Bool} {held : Bool}
theorem addN (b o i : Nat) : (⟨b, o, none⟩ : Addr).add i = ⟨b, o + i, none⟩ := by
  cases i with
  | zero => simp [Addr.add]
  | succ i => simp [Addr.add]
theorem open_tags {t e : TypeId} {f0 f1 f2 : Field} {a : Option Addr} {len cap : Nat} {x : DataW H × List MemPlace} {fuel : Nat} (ht : P.underlying t = some (.slice e)) (he : P.underlying e = some (.struct #[f0, f1, f2]))
    (hone : oneCellFields P #[f0, f1, f2] = true) (hC : P.cellsOf e = 3) (h0 : P.underlying f0.type = some .string) (h1 : P.underlying f1.type = some .string) (h2 : P.underlying f2.type = some .bool)
    (h : DataW.trod enc P w base spare held fuel t [.slice a len cap] = some x) : len ≤ maxLen ∧ ∃ l : List Tg, IsTags w a len l ∧ szT l maxLen := by
  rcases open_slice ht h with ⟨hcs, _⟩ | ⟨ad, len', cap', m, n, D, Pl, hcs, hb, hl, hm, hmm, hx, hi⟩
  · injection hcs with hcs
    injection hcs with e1 e2 e3
    subst e2
    exact ⟨Nat.zero_le _, [], ⟨rfl, .inl rfl⟩, fun i hi => by simp at hi⟩
  · injection hcs with hcs
    injection hcs with e1 e2 e3
    subst e1; subst e2; subst e3
    have hlm : len ≤ m := by rw [hmm]; split <;> omega
    have hcell : ∀ i, i < len → ∃ t : Tg, (t.1.size ≤ maxLen ∧ t.2.1.size ≤ maxLen) ∧ w.cell? (ad.add (i * 3)) = some (.string t.1) ∧ w.cell? (ad.add (i * 3 + 1)) = some (.string t.2.1) ∧ w.cell? (ad.add (i * 3 + 2)) = some (.bool t.2.2) := by
      intro i hil
      obtain ⟨cs', hc, ht'⟩ := hi i (by omega)
      rw [hC] at hc
      obtain ⟨ys, n', hn', hy, hlen2, hyl, hf⟩ := DataW.trod_struct he ht'
      obtain ⟨_, hcl, hat⟩ := World.cells?_some hc
      have fld : ∀ (j : Nat) (f : Field), #[f0, f1, f2][j]? = some f → ∃ (v : Value) (y : DataW H × List MemPlace), w.cell? (ad.add (i * 3 + j)) = some v ∧ DataW.trod enc P w base spare held n' f.type [v] = some y := by
        intro j f hj
        obtain ⟨ho, hk⟩ := hone_of hone j f hj
        have hjl : j < 3 := by have := (Array.getElem?_eq_some_iff.1 hj).1; simpa using this
        have hcj := hat j hjl
        have hv : cs'[j]? = some (cs'[j]'(by omega)) := List.getElem?_eq_getElem (by omega)
        have h1 := hf j f hj
        rw [ho, hk] at h1
        have h3 : (cs'.drop j).take 1 = [cs'[j]'(by omega)] := by
          rw [List.drop_eq_getElem_cons (by omega)]
          rfl
        rw [h3] at h1
        have hys : ys[j]? = some (ys[j]'(by have : (#[f0, f1, f2] : Array Field).size = 3 := rfl; omega)) := List.getElem?_eq_getElem (by have : (#[f0, f1, f2] : Array Field).size = 3 := rfl; omega)
        refine ⟨_, _, ?_, h1.trans hys⟩
        rw [← Go.Deep.add_add, hcj, hv]
      obtain ⟨v0, y0, c0, t0⟩ := fld 0 f0 rfl
      obtain ⟨v1, y1, c1, t1⟩ := fld 1 f1 rfl
      obtain ⟨v2, y2, c2, t2⟩ := fld 2 f2 rfl
      obtain ⟨k, e0, _, w0⟩ := DataW.trod_string h0 t0
      obtain ⟨v, e1, _, w1⟩ := DataW.trod_string h1 t1
      obtain ⟨c, e2, _⟩ := DataW.trod_bool h2 t2
      simp only [List.cons.injEq, and_true] at e0 e1 e2
      subst e0; subst e1; subst e2
      exact ⟨(k, v, c), ⟨w0, w1⟩, c0, c1, c2⟩
    have hch : ∃ F : Nat → Tg, ∀ i, i < len → ((F i).1.size ≤ maxLen ∧ (F i).2.1.size ≤ maxLen) ∧ w.cell? (ad.add (i * 3)) = some (.string (F i).1) ∧ w.cell? (ad.add (i * 3 + 1)) = some (.string (F i).2.1) ∧ w.cell? (ad.add (i * 3 + 2)) = some (.bool (F i).2.2) := by
      refine ⟨fun i => if hi : i < len then (hcell i hi).choose else (⟨#[]⟩, ⟨#[]⟩, false), fun i hi => ?_⟩
      simp only [hi, dite_true]
      exact (hcell i hi).choose_spec
    obtain ⟨F, hF⟩ := hch
    refine ⟨by omega, (List.range len).map F, ⟨by simp, ?_⟩, ?_⟩
    · by_cases hz : len = 0
      · exact .inl hz
      · obtain ⟨b, o, s⟩ := ad
        have hs : s = none := by simpa [Addr.add] using World.cell?_spot (hF 0 (by omega)).2.1
        subst hs
        refine .inr ⟨b, o, rfl, ?_, fun i hi => ?_⟩
        · exact World.block_lt_of_cell? _ _ (hF 0 (by omega)).2.1
        · have hil : i < len := by simpa using hi
          obtain ⟨_, g1, g2, g3⟩ := hF i hil
          rw [addN] at g1 g2 g3
          have e : ((List.range len).map F).getD i (⟨#[]⟩, ⟨#[]⟩, false) = F i := by
            rw [List.getD_eq_getElem?_getD, List.getElem?_map, List.getElem?_range hil]; rfl
          unfold tgK tgV tgC
          rw [e]
          exact ⟨g1, by rw [Nat.add_assoc]; exact g2, by rw [Nat.add_assoc]; exact g3⟩
    · intro i hi
      have hil : i < len := by simpa using hi
      have e : ((List.range len).map F).getD i (⟨#[]⟩, ⟨#[]⟩, false) = F i := by
        rw [List.getD_eq_getElem?_getD, List.getElem?_map, List.getElem?_range hil]; rfl
      unfold tgK tgV
      rw [e]
      exact (hF i hil).1
end
end Go.Proofs.Ytbgpdjceofofoaa
