/- How a tag that comes in as an argument is opened to its two texts and its bool. Its conditions: the types' rows in the program's table, which each use states. -/
import Derived.ProofKit
import Derived.Deep.Fields
import Derived.Deep.Strs
import Derived.Lib.SmallJoins
namespace DN
open Go Go.ChangeShapes Go.WideShapes Go.Deep
section
variable {H : Type} {enc : TypeId × Value → H} {P : Program} {w : World} {base : Nat} {spare : Nat → Bool} {held : Bool}
theorem open_tag {r : Reach} {b0 : Nat} {t : TypeId} {f0 f1 f2 : Field} {x : Value} {d : DataW H} {p : List MemPlace} (hs : P.underlying t = some (.struct #[f0, f1, f2])) (hone : oneCellFields P #[f0, f1, f2] = true) (hC : P.cellsOf t = 3)
    (h0 : P.underlying f0.type = some .string) (h1 : P.underlying f1.type = some .string) (h2 : P.underlying f2.type = some .bool)
    (hv : Value.okWide P w r b0 t x) (h : DataW.Trod enc P w base spare held t x d p) :
    ∃ (k v : ByteArray) (c : Bool), x = .agg #[.string k, .string v, .bool c] ∧ k.size ≤ maxLen ∧ v.size ≤ maxLen := by
  obtain ⟨v0, v1, v2, y0, y1, y2, n, rfl, rfl, rfl, t0, t1, t2⟩ := Joins.open_agg3 hs hone hC hv h
  obtain ⟨k, e0, _, w0⟩ := DataW.trod_string h0 t0
  obtain ⟨v, e1, _, w1⟩ := DataW.trod_string h1 t1
  obtain ⟨c, e2, _⟩ := DataW.trod_bool h2 t2
  simp only [List.cons.injEq, and_true] at e0 e1 e2
  subst e0; subst e1; subst e2
  exact ⟨k, v, c, rfl, w0, w1⟩
end
end DN
