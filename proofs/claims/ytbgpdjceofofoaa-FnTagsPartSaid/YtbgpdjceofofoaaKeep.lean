/- Small lemmas: what a cell holds stays behind new blocks, draws and stores elsewhere. -/
import Derived.Test.YtbgpdjceofofoaaBase
namespace Go.Proofs.Ytbgpdjceofofoaa
open Go.RowKit

theorem kA {w : World} {b i : Nat} {v : Value} (o : Obj) (h : w.cell? ⟨b, i, none⟩ = some v) : (w.alloc o).cell? ⟨b, i, none⟩ = some v := by
  rw [World.cell?_alloc_lt (h := World.block_lt_of_cell? _ _ h)]; exact h
theorem kD {w : World} {b i : Nat} {v : Value} (h : w.cell? ⟨b, i, none⟩ = some v) : w.drew.cell? ⟨b, i, none⟩ = some v := h
theorem kS {w : World} {b i c j : Nat} {v : Value} (u : Value) (hne : ¬ b = c) (h : w.cell? ⟨b, i, none⟩ = some v) : (w.setCell ⟨c, j, none⟩ u).cell? ⟨b, i, none⟩ = some v :=
  (World.cell?_of_block (w := w) (Below.heap_setCell w ⟨c, j, none⟩ u b (fun e => hne e))).trans h
theorem fA {w : World} {b i : Nat} (o : Obj) (hb : b < w.heap.size) (h : w.frozen? ⟨b, i, none⟩ = false) : (w.alloc o).frozen? ⟨b, i, none⟩ = false :=
  (World.frozen?_of_block (w := w) (Below.heap_alloc w o b hb)).trans h
theorem fD {w : World} {b i : Nat} (h : w.frozen? ⟨b, i, none⟩ = false) : w.drew.frozen? ⟨b, i, none⟩ = false := h
theorem fS {w : World} {p q : Addr} (u : Value) (h : w.frozen? q = false) : (w.setCell p u).frozen? q = false := by go_simp
end Go.Proofs.Ytbgpdjceofofoaa
