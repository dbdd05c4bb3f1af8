/- How a stamp that comes in as an argument is opened to its eight numbers. Its conditions: the types' rows in the program's table, which each use states. -/
import Derived.Test.YtfailbghnpfcdaaDoorOpen
namespace DN
open Go Go.ChangeShapes Go.WideShapes Go.Deep
section
variable {H : Type} {enc : TypeId × Value → H} {P : Program} {w : World} {base : Nat} {spare : Nat → Bool} {held : Bool}
theorem open_stamp {r : Reach} {b0 : Nat} {t td tc ti : TypeId} {fs gd gc : Array Field} {v : Value} {dt : DataW H} {p : List MemPlace} (ht : P.underlying t = some (.struct fs)) (hd : P.underlying td = some (.struct gd)) (hc : P.underlying tc = some (.struct gc)) (hi : P.underlying ti = some (.int .i64))
    (hgd : intFields P gd = true) (hgc : intFields P gc = true) (hCd : P.cellsOf td = gd.size) (hCc : P.cellsOf tc = gc.size) (hCi : P.cellsOf ti = 1) (hC : P.cellsOf t = 8) (hf : (fs.toList.map fun f => (f.offset, f.type)) = [(0, td), (3, tc), (7, ti)]) (h3 : gd.size = 3) (h4 : gc.size = 4)
    (hv : Value.okWide P w r b0 t v) (h : DataW.Trod enc P w base spare held t v dt p) : ∃ y m d u i s l o : Int, v = .agg #[.int .i64 y, .int .i64 m, .int .i64 d, .int .i64 u, .int .i64 i, .int .i64 s, .int .i64 l, .int .i64 o] ∧ fits y ∧ fits m ∧ fits d ∧ fits u ∧ fits i ∧ fits s ∧ fits l ∧ fits o := by
  obtain ⟨cs, rfl, hsz⟩ := okWide_struct ht hv
  obtain ⟨fuel, hfu⟩ := h
  have hfu' : DataW.trod enc P w base spare held fuel t cs.toList = some (dt, p) := by simpa [Value.cells] using hfu
  obtain ⟨xs, n, _, _, hl, hxl, hg⟩ := DataW.trod_struct ht hfu'
  have hfl : fs.toList.length = 3 := by simpa using congrArg List.length hf
  have hxl3 : xs.length = 3 := by rw [hxl]; simpa using hfl
  obtain ⟨x0, x1, x2, rfl⟩ := list3 hxl3
  obtain ⟨f0, f1, f2, hfs⟩ := list3 hfl
  rw [hfs] at hf
  simp only [List.map_cons, List.map_nil, List.cons.injEq, Prod.mk.injEq, and_true] at hf
  obtain ⟨⟨o0, t0⟩, ⟨o1, t1⟩, ⟨o2, t2⟩⟩ := hf
  have q0 := hg 0 f0 (by rw [← Array.getElem?_toList, hfs]; rfl)
  have q1 := hg 1 f1 (by rw [← Array.getElem?_toList, hfs]; rfl)
  have q2 := hg 2 f2 (by rw [← Array.getElem?_toList, hfs]; rfl)
  rw [o0, t0, hCd, h3] at q0
  rw [o1, t1, hCc, h4] at q1
  rw [o2, t2, hCi] at q2
  obtain ⟨za, ha, ca, wa⟩ := ints_struct hd hgd hCd (by simpa using q0)
  obtain ⟨zb, hb, cb, wb⟩ := ints_struct hc hgc hCc (by simpa using q1)
  obtain ⟨y, m, d, rfl⟩ := list3 (ha.trans h3)
  obtain ⟨u, i, s, l, rfl⟩ := list4 (hb.trans h4)
  have hlen : cs.toList.length = 8 := by rw [← hC]; exact hl
  have e7 : (cs.toList.drop 7).take 1 = [cs.toList[7]] := by
    rw [List.drop_eq_getElem_cons (by omega)]; rfl
  have q2' := q2
  rw [e7] at q2'
  obtain ⟨o, ho, _, wo⟩ := DataW.trod_int hi (show DataW.trod enc P w base spare held n ti [cs.toList[7]] = some x2 by simpa using q2')
  simp only [List.cons.injEq, and_true] at ho
  have hcs : cs.toList = [.int .i64 y, .int .i64 m, .int .i64 d, .int .i64 u, .int .i64 i, .int .i64 s, .int .i64 l, .int .i64 o] := by
    have ca' : cs.toList.take 3 = [.int .i64 y, .int .i64 m, .int .i64 d] := by simpa using ca
    have cb' : (cs.toList.drop 3).take 4 = [.int .i64 u, .int .i64 i, .int .i64 s, .int .i64 l] := by simpa using cb
    have cc' : (cs.toList.drop 7) = [.int .i64 o] := by
      rw [List.drop_eq_getElem_cons (by omega), ho]
      simp; omega
    have e1 : cs.toList = cs.toList.take 3 ++ ((cs.toList.drop 3).take 4 ++ cs.toList.drop 7) := by
      rw [show cs.toList.drop 7 = (cs.toList.drop 3).drop 4 by simp, List.take_append_drop, List.take_append_drop]
    rw [e1, ca', cb', cc']; rfl
  have hcs' : cs = #[.int .i64 y, .int .i64 m, .int .i64 d, .int .i64 u, .int .i64 i, .int .i64 s, .int .i64 l, .int .i64 o] := by rw [← Array.toList_inj]; exact hcs
  exact ⟨y, m, d, u, i, s, l, o, by rw [hcs'], wa _ (by simp), wa _ (by simp), wa _ (by simp), wb _ (by simp), wb _ (by simp), wb _ (by simp), wb _ (by simp), wo⟩
end
end DN
