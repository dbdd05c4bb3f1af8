/- How a struct of integers (also one of such structs) that comes in as an argument is opened to its numbers. Its conditions: the type's row in the program's table, which each use states. -/
import Derived.ProofKit
import Derived.Deep.Fields
import Derived.Deep.Strs
namespace DN
open Go Go.ChangeShapes Go.WideShapes Go.Deep
section
variable {H : Type} {enc : TypeId × Value → H} {P : Program} {w : World} {base : Nat} {spare : Nat → Bool} {held : Bool}

/-- every field is one int, at its own place -/
def intFields (P : Program) (fs : Array Field) : Bool := (List.range fs.size).all fun i => match fs[i]? with
  | some f => f.offset == i && P.cellsOf f.type == 1 && (match P.underlying f.type with | some (.int .i64) => true | _ => false)
  | none => false
theorem intFields_at {fs : Array Field} (hi : intFields P fs = true) {i : Nat} {f : Field} (hf : fs[i]? = some f) : f.offset = i ∧ P.cellsOf f.type = 1 ∧ P.underlying f.type = some (.int .i64) := by
  have hlt : i < fs.size := (Array.getElem?_eq_some_iff.1 hf).1
  have h := List.all_eq_true.1 hi i (List.mem_range.2 hlt)
  simp only [hf, Bool.and_eq_true, beq_iff_eq] at h
  refine ⟨h.1.1, h.1.2, ?_⟩
  have h2 := h.2
  split at h2
  · assumption
  · exact absurd h2 (by simp)
def numOf : Value → Int
  | .int _ n => n
  | _ => 0
theorem ints_struct {t : TypeId} {fs : Array Field} {fuel : Nat} {cs : List Value} {x : DataW H × List MemPlace} (ht : P.underlying t = some (.struct fs)) (hi : intFields P fs = true) (hC : P.cellsOf t = fs.size)
    (h : DataW.trod enc P w base spare held fuel t cs = some x) : ∃ zs : List Int, zs.length = fs.size ∧ cs = zs.map (Value.int .i64) ∧ ∀ z ∈ zs, (Lit.int .i64 z).wf = true := by
  obtain ⟨xs, n, _, _, hl, hxl, hf⟩ := DataW.trod_struct ht h
  have key : ∀ v ∈ cs, ∃ z, v = .int .i64 z ∧ (Lit.int .i64 z).wf = true := by
    intro v hv
    obtain ⟨i, hlt, hiv⟩ := List.getElem_of_mem hv
    have hfi : i < fs.size := by omega
    have hfs : fs[i]? = some fs[i] := Array.getElem?_eq_getElem hfi
    obtain ⟨h1, h2, h3⟩ := intFields_at hi hfs
    have ht := hf i fs[i] hfs
    rw [h1, h2, List.drop_eq_getElem_cons hlt, List.getElem?_eq_getElem (by omega)] at ht
    obtain ⟨z, hz, _, hw⟩ := DataW.trod_int h3 ht
    rw [hiv] at hz
    simp at hz
    exact ⟨z, hz, hw⟩
  refine ⟨cs.map numOf, by simp; omega, ?_, ?_⟩
  · rw [List.map_map]
    symm
    rw [List.map_eq_iff]
    intro i
    cases hc : cs[i]? with
    | none => rfl
    | some v =>
      obtain ⟨z, rfl, _⟩ := key v (List.mem_of_getElem? hc)
      rfl
  · intro z hz
    obtain ⟨v, hv, rfl⟩ := List.mem_map.1 hz
    obtain ⟨z, rfl, hw⟩ := key v hv
    exact hw
theorem list3 {α : Type} {l : List α} (h : l.length = 3) : ∃ a b c, l = [a, b, c] := by
  match l, h with
  | [a, b, c], _ => exact ⟨a, b, c, rfl⟩
theorem list4 {α : Type} {l : List α} (h : l.length = 4) : ∃ a b c d, l = [a, b, c, d] := by
  match l, h with
  | [a, b, c, d], _ => exact ⟨a, b, c, d, rfl⟩
theorem list6 {α : Type} {l : List α} (h : l.length = 6) : ∃ a b c d e f, l = [a, b, c, d, e, f] := by
  match l, h with
  | [a, b, c, d, e, f], _ => exact ⟨a, b, c, d, e, f, rfl⟩
/-- a number that fits -/
def fits (z : Int) : Prop := (Lit.int .i64 z).wf = true
theorem open_per {r : Reach} {b0 : Nat} {t : TypeId} {fs : Array Field} {v : Value} {d : DataW H} {p : List MemPlace} (ht : P.underlying t = some (.struct fs)) (hi : intFields P fs = true) (hC : P.cellsOf t = fs.size) (h6 : fs.size = 6)
    (hv : Value.okWide P w r b0 t v) (h : DataW.Trod enc P w base spare held t v d p) : ∃ y o d u i s : Int, v = .agg #[.int .i64 y, .int .i64 o, .int .i64 d, .int .i64 u, .int .i64 i, .int .i64 s] ∧ fits y ∧ fits o ∧ fits d ∧ fits u ∧ fits i ∧ fits s := by
  obtain ⟨cs, rfl, hsz⟩ := okWide_struct ht hv
  obtain ⟨fuel, hf⟩ := h
  obtain ⟨zs, hz, hcs, hw⟩ := ints_struct ht hi hC hf
  obtain ⟨y, o, d, u, i, s, rfl⟩ := list6 (hz.trans h6)
  simp [Value.cells] at hcs
  have hcs' : cs = #[.int .i64 y, .int .i64 o, .int .i64 d, .int .i64 u, .int .i64 i, .int .i64 s] := by rw [← Array.toList_inj]; exact hcs
  exact ⟨y, o, d, u, i, s, by rw [hcs'], hw _ (by simp), hw _ (by simp), hw _ (by simp), hw _ (by simp), hw _ (by simp), hw _ (by simp)⟩
theorem open_date {r : Reach} {b0 : Nat} {t : TypeId} {fs : Array Field} {v : Value} {d : DataW H} {p : List MemPlace} (ht : P.underlying t = some (.struct fs)) (hi : intFields P fs = true) (hC : P.cellsOf t = fs.size) (h3 : fs.size = 3)
    (hv : Value.okWide P w r b0 t v) (h : DataW.Trod enc P w base spare held t v d p) : ∃ y o d : Int, v = .agg #[.int .i64 y, .int .i64 o, .int .i64 d] ∧ fits y ∧ fits o ∧ fits d := by
  obtain ⟨cs, rfl, hsz⟩ := okWide_struct ht hv
  obtain ⟨fuel, hf⟩ := h
  obtain ⟨zs, hz, hcs, hw⟩ := ints_struct ht hi hC hf
  obtain ⟨y, o, d, rfl⟩ := list3 (hz.trans h3)
  simp [Value.cells] at hcs
  have hcs' : cs = #[.int .i64 y, .int .i64 o, .int .i64 d] := by rw [← Array.toList_inj]; exact hcs
  exact ⟨y, o, d, by rw [hcs'], hw _ (by simp), hw _ (by simp), hw _ (by simp)⟩
end
end DN
