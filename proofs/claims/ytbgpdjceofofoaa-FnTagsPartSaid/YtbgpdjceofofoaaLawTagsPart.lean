/- The law FnTagsPart: valid tags without one of them are valid, and their text is shorter. For every input. No condition. -/
import Derived.Test.YtbgpdjceofofoaaTagF
import Derived.Test.YtbgpdjceofofoaaDrawTags
import Derived.Deep.RegionLaw
import Derived.ProofKit
import Derived.ChangeAlike
import Derived.OpenShut
import Derived.ShutString
import Derived.ChangeOld
namespace Go.Proofs.Ytbgpdjceofofoaa.lawTagsPart
open Go.Proofs.Ytbgpdjceofofoaa Go.RowKit DN
open Go.ChangeShapes Go.WideShapes Go.ChangeAt
set_option linter.unusedVariables false
set_option linter.unusedSimpArgs false

/-- append onto a row of the call's own, as one step of a region that draws -/
theorem step_append_own {P : Program} {ops : Array Oper} {o : Oper} {a : Act} {w : World} {K : Act → World → Prop} {Q : Exit → Act → World → Prop} {E : Prop}
    (hg : o.guard = none) (s x : Operand) (t : TypeId) (hop : o.op = Op.call { callee := Callee.builtin Builtin.append, args := #[s, x], argTypes := #[t, t] })
    (base : Nat) (e : TypeId) (i : TypeInfo) (z : Value) (size bytes : Nat) (ht : P.underlying t = some (.slice e)) (hi : P.info? e = some i) (hz : i.zero = some z) (hsize : i.size = size) (hby : i.bytes = bytes) (hzs : z.cells.size = size) (hsz : 0 < size)
    (v : Value) (n : Nat) (xs : List Value) (hs : a.eval s = v) (hown : w.ownsRow base e size v n xs)
    (ad : Addr) (m c : Nat) (news : List Value) (hx : a.eval x = .slice (some ad) m c) (hl : news.length = m * size) (hnews : ∀ j u, news[j]? = some u → w.cell? (ad.add j) = some u) (h1 : ∀ u ∈ news, u.oneCell' = true)
    (h63 : n + m ≤ maxLen) (hbytes : (n + m) * bytes ≤ 140737488355328) (hbase : base ≤ w.heap.size)
    (hK : ∀ v' w', w'.ownsRow base e size v' (n + m) (xs ++ news) → w.grownBy w' v.ownBlock → (v' = .slice none 0 0 ↔ v = .slice none 0 0 ∧ m = 0) → K (a.put o.dst v') w') :
    if Region.wanted o (yielded ops a.tmps) = true then Oper.wp P o a w K Q else E := by
  have hw : Region.wanted o (yielded ops a.tmps) = true := by simp [Region.wanted, hg]
  rw [if_pos hw]
  obtain ⟨v', w', hr, h2, h3, h4⟩ := run_append_own (P := P) w base t o.type e i z size bytes ht hi hz hsize hby hzs hsz v n xs hown ad m c news hl hnews h1 h63 hbytes hbase
  unfold Oper.wp
  simp [execOp, hop, resolve, invoke, builtin, hs, hx, hr, Result.andThen]
  exact hK v' w' h2 h3 h4
theorem isTags_at {w : World} {g : Nat} {l : List Tg} (h : IsTags w (some ⟨g, 0, none⟩) l.length l) : ∀ i, i < l.length → w.cell? ⟨g, i * 3, none⟩ = some (.string (tgK l i)) ∧ w.cell? ⟨g, i * 3 + 1, none⟩ = some (.string (tgV l i)) ∧ w.cell? ⟨g, i * 3 + 2, none⟩ = some (.bool (tgC l i)) := by
  intro i hi
  rcases h.2 with h0 | ⟨b, off, e, hb, hc⟩
  · omega
  · injection e with e
    injection e with e1 e2
    subst e1; subst e2
    have := hc i hi
    simpa using this
theorem flat_cells {w : World} {g : Nat} {l : List Tg} (h : IsTags w (some ⟨g, 0, none⟩) l.length l) : ∀ (j : Nat) (u : Value), (flat l)[j]? = some u → w.cell? ⟨g, j, none⟩ = some u := by
  intro j u hu
  have hj : j < l.length * 3 := by
    rcases Nat.lt_or_ge j (flat l).length with x | x
    · rwa [flat_len] at x
    · rw [List.getElem?_eq_none x] at hu; cases hu
  obtain ⟨f1, f2, f3⟩ := flat_at l (j / 3) (by omega)
  obtain ⟨c1, c2, c3⟩ := isTags_at h (j / 3) (by omega)
  rcases (show j = j / 3 * 3 ∨ j = j / 3 * 3 + 1 ∨ j = j / 3 * 3 + 2 by omega) with e | e | e
  · rw [e] at hu ⊢; rw [f1] at hu; injection hu with hu; rw [← hu]; exact c1
  · rw [e] at hu ⊢; rw [f2] at hu; injection hu with hu; rw [← hu]; exact c2
  · rw [e] at hu ⊢; rw [f3] at hu; injection hu with hu; rw [← hu]; exact c3
theorem flat_append (a b : List Tg) : flat (a ++ b) = flat a ++ flat b := by
  induction a with
  | nil => rfl
  | cons t a ih => simp only [flat, List.cons_append, ih]
theorem add_gen (g o j : Nat) : (⟨g, o, none⟩ : Addr).add j = ⟨g, o + j, none⟩ := by
  cases j with
  | zero => simp [Addr.add]
  | succ j => simp [Addr.add]
theorem flat_take (l : List Tg) (k : Nat) (hk : k ≤ l.length) : ∀ (j : Nat) (u : Value), (flat (l.take k))[j]? = some u → (flat l)[j]? = some u := by
  intro j u hu
  have e : flat l = flat (l.take k) ++ flat (l.drop k) := by rw [← flat_append, List.take_append_drop]
  rw [e]
  rcases Nat.lt_or_ge j (flat (l.take k)).length with x | x
  · rw [List.getElem?_append_left x]; exact hu
  · rw [List.getElem?_eq_none x] at hu; cases hu
theorem flat_drop (l : List Tg) (k : Nat) (hk : k ≤ l.length) : ∀ (j : Nat) (u : Value), (flat (l.drop k))[j]? = some u → (flat l)[k * 3 + j]? = some u := by
  intro j u hu
  have e : flat l = flat (l.take k) ++ flat (l.drop k) := by rw [← flat_append, List.take_append_drop]
  have hl : (flat (l.take k)).length = k * 3 := by rw [flat_len, List.length_take]; omega
  rw [e, List.getElem?_append_right (by rw [hl]; omega), hl, Nat.add_sub_cancel_left]
  exact hu
theorem flat_one (l : List Tg) : ∀ u ∈ flat l, u.oneCell' = true := by
  induction l with
  | nil => intro u hu; simp [flat] at hu
  | cons t l ih =>
    intro u hu
    simp only [flat, List.mem_cons] at hu
    rcases hu with rfl | rfl | rfl | hu
    · rfl
    · rfl
    · rfl
    · exact ih u hu
/-- the tags without the k-th -/
def cutT (l : List Tg) (k : Nat) : List Tg := l.take k ++ l.drop (k + 1)
theorem cut_len {l : List Tg} {k : Nat} (h : k < l.length) : (cutT l k).length = l.length - 1 := by
  unfold cutT; rw [List.length_append, List.length_take, List.length_drop]; omega
theorem cut_at {l : List Tg} {k : Nat} (h : k < l.length) (i : Nat) : (cutT l k).getD i (⟨#[]⟩, ⟨#[]⟩, false) = l.getD (if i < k then i else i + 1) (⟨#[]⟩, ⟨#[]⟩, false) := by
  unfold cutT
  rw [List.getD_eq_getElem?_getD, List.getD_eq_getElem?_getD]
  have hl : (l.take k).length = k := by rw [List.length_take]; omega
  split
  · rw [List.getElem?_append_left (by omega), List.getElem?_take_of_lt (by assumption)]
  · rw [List.getElem?_append_right (by omega), hl, List.getElem?_drop, show k + 1 + (i - k) = i + 1 by omega]
theorem cut_ts {l : List Tg} {k : Nat} (h : k < l.length) (hts : tsP l) : tsP (cutT l k) := by
  have hl := cut_len h
  refine ⟨by rw [hl]; have := hts.1; omega, fun i hi => ?_⟩
  have hK : ∀ i, tgK (cutT l k) i = tgK l (if i < k then i else i + 1) := fun i => by unfold tgK; rw [cut_at h]
  have hV : ∀ i, tgV (cutT l k) i = tgV l (if i < k then i else i + 1) := fun i => by unfold tgV; rw [cut_at h]
  obtain ⟨q, hq⟩ : ∃ q, (if i < k then i else i + 1) = q := ⟨_, rfl⟩
  have hql : q < l.length := by rw [← hq]; split <;> omega
  have hiq : i ≤ q := by rw [← hq]; split <;> omega
  obtain ⟨g1, g2, g3⟩ := hts.2 q hql
  refine ⟨by rw [hK, hV, hq]; exact g1, ?_, ?_⟩
  · rw [hK, hq]
    rintro ⟨a, b⟩
    exact g2 ⟨by omega, b⟩
  · intro j hj
    rw [hK, hK, hq]
    apply g3
    rw [← hq]
    split <;> split <;> omega
theorem szT_le12 {l : List Tg} (h : tsP l) : szT l 1099511627776 := fun i hi => by have := tv_size (h.2 i hi).1; omega
theorem tgT_pos (k v : ByteArray) (c : Bool) : 0 < (tgT k v c).size := by
  unfold tgT
  rw [ByteArray.size_append, one_size]; omega
theorem rs_append (a b : List Tg) : rsL (a ++ b) = rsL a ++ rsL b := by
  induction a with
  | nil => rw [List.nil_append]; exact (ba_nil_add _).symm
  | cons t a ih =>
    show tgT _ _ _ ++ rsL (a ++ b) = tgT _ _ _ ++ rsL a ++ rsL b
    rw [ih, ByteArray.append_assoc]
theorem cut_short {l : List Tg} {k : Nat} (h : k < l.length) : (rsL (cutT l k)).size < (rsL l).size := by
  have e : rsL l = rsL (l.take k) ++ rsL (l.drop k) := by rw [← rs_append, List.take_append_drop]
  unfold cutT
  rw [rs_append, e, rs_drop h]
  simp only [ByteArray.size_append]
  have := tgT_pos (tgK l k) (tgV l k) (tgC l k)
  omega
theorem row_of {w : World} {base : Nat} {v : Value} {l : List Tg} {n : Nat} (hn : n = l.length) (h : w.ownsRow base 26 3 v n (flat l)) (hv : v ≠ .slice none 0 0) : ∃ g cap, v = .slice (some ⟨g, 0, none⟩) l.length cap ∧ RowT w base g cap l := by
  subst hn
  rcases h.2 with ⟨h0, _⟩ | ⟨g, cap, cur, rfl, _⟩
  · exact absurd h0 hv
  · exact ⟨g, cap, rfl, h⟩
set_option maxRecDepth 100000 in
set_option maxHeartbeats 4000000 in
theorem walk (a : Option Addr) (len cap : Nat) (zs : List Int) (a2 : Option Addr) (len2 cap2 : Nat) (zs2 : List Int) (w : World) (h : IsRow .u8 w a len cap zs) (h2 : IsRow .u8 w a2 len2 cap2 zs2) : Calls Try.prog 7 #[.slice a len cap, .slice a2 len2 cap2] w fun e w' => e = .returned (.bool true) ∧ Below w.heap.size w w' := by
  clear h2
  by_cases hlen : 1048576 < len
  · go_enter Try.func7, Try.ntmps7
    go_wp2
    go_ret
    exact ⟨rfl, Below.refl _ _⟩
  · by_cases hlen2 : 1048576 < len2
    · go_enter Try.func7, Try.ntmps7
      go_wp2
      go_ret
      exact ⟨rfl, Below.refl _ _⟩
    · have H := Lib.hid h
      clear h
      obtain ⟨i0, hi, hz0, hz1, hz2⟩ := info_parts tagInfo
      have HI0 := Lib.hid hi
      have HZ0 := Lib.hid hz0
      have HZ1 := Lib.hid hz1
      have HZ2 := Lib.hid hz2
      clear hi hz0 hz1 hz2
      go_enter Try.func7, Try.ntmps7
      go_wp2_with fail
      refine (DrawTagsText_cap _ _ _ _ _ H.out).mono ?_
      rintro e w1 ⟨l, g, cap1, ⟨hs1, hs2, hcap⟩, rfl, ht, b1⟩
      clear H
      have HT := Lib.hid ht
      have HS1 := Lib.hid (show szT l 1099511627776 from fun i hi => ⟨by have := (hs1 i hi).1; omega, by have := (hs1 i hi).2; omega⟩)
      obtain ⟨tb, htb⟩ : ∃ tb, tsB l = tb := ⟨_, rfl⟩
      have I := Lib.hid (fun w' (h1 : IsTags w' (some ⟨g, 0, none⟩) l.length l) => TagsText_i (some ⟨g, 0, none⟩) l.length cap1 l w' h1 HS1.out (by omega))
      have R := Lib.hid (fun w' (h1 : IsTags w' (some ⟨g, 0, none⟩) l.length l) => TagsText_s (some ⟨g, 0, none⟩) l.length cap1 l w' h1 HS1.out (by omega))
      obtain ⟨X, hX⟩ : ∃ X, ttOut l tb = .tuple #[.string X, .bool tb] := ⟨_, rfl⟩
      rw [htb, hX] at I R
      have HTB := Lib.hid htb
      have HX := Lib.hid hX
      clear hs1 ht htb hX
      have sz1 := b1.size
      go_wp2_with fail
      refine (I.out _ HT.out).mono ?_
      rintro e w2 ⟨rfl, b2⟩
      have HT2 := Lib.hid (isTags_keep HT.out b2)
      have A2 : Below w.heap.size w w2 := b1.trans (b2.mono sz1)
      have sz2 := b2.size
      clear b1 b2
      go_wp2_with fail
      refine (R.out _ HT2.out).mono ?_
      rintro e w3 ⟨rfl, b3⟩
      have HT3 := Lib.hid (isTags_keep HT2.out b3)
      have A3 : Below w.heap.size w w3 := A2.trans (b3.mono (by omega))
      clear b3 A2
      cases tb
      · go_wp2_with fail
        go_ret
        exact ⟨rfl, by (repeat' (first | (with_reducible assumption) | (with_reducible exact Below.refl _ _) | (with_reducible refine bdN ?_ _) | (with_reducible refine Below.alloc ?_ ?_ _) | (with_reducible refine Below.drew ?_) | (with_reducible refine Below.setCell ?_ ?_ _) | go_size))⟩
      · by_cases hl0 : l.length = 0
        · go_wp2_with fail
          go_ret
          exact ⟨rfl, by (repeat' (first | (with_reducible assumption) | (with_reducible exact Below.refl _ _) | (with_reducible refine bdN ?_ _) | (with_reducible refine Below.alloc ?_ ?_ _) | (with_reducible refine Below.drew ?_) | (with_reducible refine Below.setCell ?_ ?_ _) | go_size))⟩
        · obtain ⟨k, hk, hkl⟩ : ∃ k : Nat, (len2 : Int) % (l.length : Int) = k ∧ k < l.length := ⟨len2 % l.length, by omega, Nat.mod_lt _ (by omega)⟩
          have hl1 : 0 < l.length := by omega
          have hat := fun i hi => isTags_at HT3.out i hi
          have HAT := Lib.hid hat
          have hmade : World.ownsRow (w3.alloc (.cells #[] 26)) w3.heap.size 26 3 (.slice (some ⟨w3.heap.size, 0, none⟩) 0 0) 0 [] := World.ownsRow_made w3 #[] 0 (Nat.le_refl _) (Nat.zero_le _) rfl
          have hlt3 : g < w3.heap.size := by
            rcases HT3.out.2 with h0 | ⟨b, off, e, hb, _⟩
            · omega
            · injection e with e; injection e with e1 e2; subst e1; exact hb
          have HM := Lib.hid hmade
          clear hat hmade
          have hkc : k ≤ cap1 := by omega
          have hkc2 : ((k : Int) ≤ (cap1 : Int)) := by omega
          have hkc3 : k + 1 ≤ l.length := by omega
          have hkc4 : ((k : Int) + 1 ≤ (l.length : Int)) := by omega
          have hts := ts_iff.1 HTB.out
          have HTS := Lib.hid hts
          have htx : X = rsL l := by
            have := HX.out
            unfold ttOut at this
            rw [if_pos rfl, tx_all] at this
            injection this with this
            injection this with this
            injection this with this
            injection this with this
            exact this.symm
          have hsh := cut_short hkl
          rw [← htx] at hsh
          have hz1 : (0 : Int) ≤ (k : Int) + 1 := by omega
          have hwk : IntKind.i64.wrap ((k : Int) + 1) = (k : Int) + 1 := IntWalk.i64_in _ (by omega)
          have hFC := flat_cells HT3.out
          have FL1 := Lib.hid (show (flat (l.take k)).length = k * 3 by rw [flat_len, List.length_take]; omega)
          have FL2 := Lib.hid (show (flat (l.drop (k + 1))).length = (l.length - (k + 1)) * 3 by rw [flat_len, List.length_drop])
          have FN1 := Lib.hid (show ∀ j u, (flat (l.take k))[j]? = some u → (w3.drew.alloc (.cells #[] 26)).cell? ((⟨g, 0, none⟩ : Addr).add j) = some u from fun j u hu => by
            rw [add0]
            have hx := hFC j u (flat_take l k (by omega) j u hu)
            exact (((Below.refl w3.heap.size w3).drew.alloc (Nat.le_refl _) (.cells #[] 26)).cell (p := ⟨g, j, none⟩) hlt3).trans hx)
          have TT := Lib.hid (fun (g5 cap5 : Nat) w' (h' : IsTags w' (some ⟨g5, 0, none⟩) (cutT l k).length (cutT l k)) => TagsText_i (some ⟨g5, 0, none⟩) (cutT l k).length cap5 (cutT l k) w' h' (szT_le12 (cut_ts hkl HTS.out)) (by rw [cut_len hkl]; omega))
          obtain ⟨X2, hX2⟩ : ∃ X2, rsL (cutT l k) = X2 := ⟨_, rfl⟩
          rw [ts_t (cut_ts hkl hts), show ttOut (cutT l k) true = .tuple #[.string X2, .bool true] by unfold ttOut; rw [if_pos rfl, tx_all, hX2]] at TT
          rw [hX2] at hsh
          clear hts htx hX2
          have CATEQ := Lib.hid (show [] ++ flat (l.take k) ++ flat (l.drop (k + 1)) = flat (cutT l k) by unfold cutT; rw [flat_append]; rfl)
          have hz2 : (k : Int) ≤ (k : Int) + 1 := by omega
          by_cases hcc : cap1 = k + 1
          · subst hcc
            have FN2 := Lib.hid (show ∀ w4 : World, (w3.drew.alloc (.cells #[] 26)).grownBy w4 (Value.slice (some ⟨w3.heap.size, 0, none⟩) 0 0).ownBlock → ∀ j u, (flat (l.drop (k + 1)))[j]? = some u → w4.cell? ((⟨g, 0, none⟩ : Addr).add j) = some u from fun w4 hgr j u hu => by
              have he : (flat (l.drop (k + 1))).length = 0 := by rw [FL2.out]; omega
              rw [List.eq_nil_of_length_eq_zero he] at hu
              simp at hu)
            clear hFC
            go_upto_region 9 with fail
            go_region_law
              (first
                | (refine step_append_own rfl _ _ 32 rfl w3.heap.size 26 i0 _ 3 40 Try.underlying32 HI0.out HZ0.out HZ1.out HZ2.out rfl (by decide) (.slice (some ⟨w3.heap.size, 0, none⟩) 0 0) 0 [] rfl ?own ⟨g, 0, none⟩ k (k + 1) (flat (l.take k)) rfl ?hl ?hn ?h1 ?h63 ?hb ?hbase ?_; (case own => exact HM.out); (case hl => exact FL1.out); (case hn => exact FN1.out); (case h1 => exact flat_one _); (case h63 => unfold maxLen; omega); (case hb => omega); (case hbase => simp); intro v4 w4 hown4 hgrow4 hnil4)
                | (refine step_append_own rfl _ _ 32 rfl w3.heap.size 26 i0 _ 3 40 Try.underlying32 HI0.out HZ0.out HZ1.out HZ2.out rfl (by decide) v4 (0 + k) ([] ++ flat (l.take k)) rfl hown4 _ _ _ (flat (l.drop (k + 1))) rfl ?hl2 ?hn2 ?h12 ?h632 ?hb2 ?hbase2 ?_; (case hl2 => have hfl := FL2.out; omega); (case hn2 => exact FN2.out w4 hgrow4); (case h12 => exact flat_one _); (case h632 => unfold maxLen; omega); (case hb2 => omega); (case hbase2 => have hgz := hgrow4.size; simp at hgz; omega); intro v5 w5 hown5 hgrow5 hnil5; rw [CATEQ.out] at hown5; obtain ⟨g5, cap5, rfl, row5⟩ := row_of (show _ = (cutT l k).length by rw [cut_len hkl]; omega) hown5 (fun e => by have := (hnil4.1 (hnil5.1 e).1).1; cases this))
                | (go_simp; go_at_call 24; refine (TT.out g5 cap5 w5 (rowT_is row5)).mono ?_; rintro e w6 ⟨rfl, b6⟩)
              )
            all_goals
              have B4 : Below w3.heap.size w3 w4 := Below.grown (Below.drew ((Below.refl _ _).alloc (Nat.le_refl _) _)) hgrow4 (by simp [World.drew]) (fun j hj => by have hj' : some w3.heap.size = some j := hj; injection hj' with hj'; omega)
              have B5 : Below w3.heap.size w3 w5 := Below.grown B4 hgrow5 B4.size (fun j hj => (World.ownsRow.lt hown4 j hj).1)
              have B6 : Below w.heap.size w w6 := A3.trans ((B5.trans (b6.mono B5.size)).mono A3.size)
              have hlt : (X2.size : Int) < (X.size : Int) := by omega
              clear hown4 hgrow4 hnil4 hown5 hgrow5 hnil5 row5 B4 B5 b6 A3
              go_wp2_with fail
              go_ret
              exact ⟨rfl, by (repeat' (first | (with_reducible assumption) | (with_reducible exact Below.refl _ _) | (with_reducible refine bdN ?_ _) | (with_reducible refine Below.alloc ?_ ?_ _) | (with_reducible refine Below.drew ?_) | (with_reducible refine Below.setCell ?_ ?_ _) | go_size))⟩
          · have FN2 := Lib.hid (show ∀ w4 : World, (w3.drew.alloc (.cells #[] 26)).grownBy w4 (Value.slice (some ⟨w3.heap.size, 0, none⟩) 0 0).ownBlock → ∀ j u, (flat (l.drop (k + 1)))[j]? = some u → w4.cell? ((⟨g, (k + 1) * 3, none⟩ : Addr).add j) = some u from fun w4 hgr j u hu => by
              have hx := hFC _ u (flat_drop l (k + 1) (by omega) j u hu)
              have hb : w4.heap[g]? = (w3.drew.alloc (.cells #[] 26)).heap[g]? := hgr.block g (by simp; omega) (by intro e; injection e with e; have e' : g = w3.heap.size := e; omega)
              have e1 : w4.cell? ⟨g, (k + 1) * 3 + j, none⟩ = (w3.drew.alloc (.cells #[] 26)).cell? ⟨g, (k + 1) * 3 + j, none⟩ := World.cell?_of_block (w := w3.drew.alloc (.cells #[] 26)) hb
              have e2 := (((Below.refl w3.heap.size w3).drew.alloc (Nat.le_refl _) (.cells #[] 26)).cell (p := ⟨g, (k + 1) * 3 + j, none⟩) hlt3)
              rw [add_gen]; exact (e1.trans e2).trans hx)
            clear hFC
            go_upto_region 9 with fail
            go_region_law
              (first
                | (refine step_append_own rfl _ _ 32 rfl w3.heap.size 26 i0 _ 3 40 Try.underlying32 HI0.out HZ0.out HZ1.out HZ2.out rfl (by decide) (.slice (some ⟨w3.heap.size, 0, none⟩) 0 0) 0 [] rfl ?own ⟨g, 0, none⟩ k cap1 (flat (l.take k)) rfl ?hl ?hn ?h1 ?h63 ?hb ?hbase ?_; (case own => exact HM.out); (case hl => exact FL1.out); (case hn => exact FN1.out); (case h1 => exact flat_one _); (case h63 => unfold maxLen; omega); (case hb => omega); (case hbase => simp); intro v4 w4 hown4 hgrow4 hnil4)
                | (refine step_append_own rfl _ _ 32 rfl w3.heap.size 26 i0 _ 3 40 Try.underlying32 HI0.out HZ0.out HZ1.out HZ2.out rfl (by decide) v4 (0 + k) ([] ++ flat (l.take k)) rfl hown4 _ _ _ (flat (l.drop (k + 1))) rfl ?hl2 ?hn2 ?h12 ?h632 ?hb2 ?hbase2 ?_; (case hl2 => have hfl := FL2.out; omega); (case hn2 => exact FN2.out w4 hgrow4); (case h12 => exact flat_one _); (case h632 => unfold maxLen; omega); (case hb2 => omega); (case hbase2 => have hgz := hgrow4.size; simp at hgz; omega); intro v5 w5 hown5 hgrow5 hnil5; rw [CATEQ.out] at hown5; obtain ⟨g5, cap5, rfl, row5⟩ := row_of (show _ = (cutT l k).length by rw [cut_len hkl]; omega) hown5 (fun e => by have := (hnil4.1 (hnil5.1 e).1).1; cases this))
                | (go_simp; go_at_call 24; refine (TT.out g5 cap5 w5 (rowT_is row5)).mono ?_; rintro e w6 ⟨rfl, b6⟩)
              )
            all_goals
              have B4 : Below w3.heap.size w3 w4 := Below.grown (Below.drew ((Below.refl _ _).alloc (Nat.le_refl _) _)) hgrow4 (by simp [World.drew]) (fun j hj => by have hj' : some w3.heap.size = some j := hj; injection hj' with hj'; omega)
              have B5 : Below w3.heap.size w3 w5 := Below.grown B4 hgrow5 B4.size (fun j hj => (World.ownsRow.lt hown4 j hj).1)
              have B6 : Below w.heap.size w w6 := A3.trans ((B5.trans (b6.mono B5.size)).mono A3.size)
              have hlt : (X2.size : Int) < (X.size : Int) := by omega
              clear hown4 hgrow4 hnil4 hown5 hgrow5 hnil5 row5 B4 B5 b6 A3
              go_wp2_with fail
              go_ret
              exact ⟨rfl, by (repeat' (first | (with_reducible assumption) | (with_reducible exact Below.refl _ _) | (with_reducible refine bdN ?_ _) | (with_reducible refine Below.alloc ?_ ?_ _) | (with_reducible refine Below.drew ?_) | (with_reducible refine Below.setCell ?_ ?_ _) | go_size))⟩

theorem own : ownKnob Try.prog.godebug = none := by kernel_rfl
theorem laidOut : laidOutB Try.prog = true := by kernel_rfl

set_option maxRecDepth 100000 in
theorem lifted (os : Os) (started : os.Started) (H : Type) (enc : TypeId × Value → H) :
    ReturnsInHanded {} Try.checked os 7 .any (Rows.fnTagsPartSpec.pre6 enc Try.prog Try.f7 Rows.fnTagsPartRow.domain false) (Rows.fnTagsPartSpec.post enc Try.prog Try.f7 false true false false) := by
  refine returnsInHanded_of_change (C := Try.checked) own started (by kernel_rfl) Try.func7
    (ChangeSpec.witness6 (enc := enc) (C := Try.checked) false ⟨#[], #[.slice none 0 0, .slice none 0 0], []⟩ 8 (by kernel_rfl) (by kernel_rfl) (by kernel_rfl) (by kernel_rfl)) ?_
  intro W base args ds gs before hval0 hW hcnd _
  have hval : ∀ (j : Nat) t v, Try.f7.params[j]? = some t → args[j]? = some v → Value.okWide Try.prog W .any base t v := hval0
  have hW' := hW
  obtain ⟨p, q, hA0, hV, rfl, hfz, hnd⟩ := hW
  have hA : DataW.TrodAll enc Try.prog W 0 (fun _ => true) true Try.f7.params.toList args.toList ds p := hA0
  rw [Try.params7] at hA hval
  obtain ⟨v0, vs0, d0, ds0, p0, q0, hargs, rfl, rfl, h0, r0⟩ := trodAll_cons hA
  obtain ⟨v1, vs1, d1, ds1, p1, q1, rfl, rfl, rfl, h1, r1⟩ := trodAll_cons r0
  obtain ⟨rfl, rfl, rfl⟩ := trodAll_nil r1
  obtain rfl : args = #[v0, v1] := by cases args; simp_all
  obtain ⟨rfl, rfl⟩ := trodVars_none hV
  have k0 := h0
  have lt0 : ∀ x ∈ p0, x.block < W.heap.size := by obtain ⟨m, hm⟩ := k0; exact DataW.trod_lt m _ _ _ hm
  obtain ⟨a0, len0, cap0, rfl⟩ := okWide_slice Try.underlying29 (hval 0 29 v0 rfl rfl)
  obtain ⟨z0, w0⟩ : ∃ zs, IsRow .u8 W a0 len0 cap0 zs := by
    obtain ⟨fuel, hf⟩ := h0
    rcases open_ints Try.underlying29 Try.underlying5 (by kernel_rfl) hf with ⟨hcs, _⟩ | ⟨x, l, c, zs, hcs, _, hl, hm, hz, _, hcell, hwz⟩
    · simp [Value.cells] at hcs
      obtain ⟨rfl, rfl, rfl⟩ := hcs
      exact ⟨[], .inl ⟨rfl, rfl, rfl, rfl⟩⟩
    · simp [Value.cells] at hcs
      obtain ⟨rfl, rfl, rfl⟩ := hcs
      exact ⟨zs, .inr ⟨_, rfl, hl, hm, by simpa using hz, hcell, hwz⟩⟩
  have k1 := h1
  have lt1 : ∀ x ∈ p1, x.block < W.heap.size := by obtain ⟨m, hm⟩ := k1; exact DataW.trod_lt m _ _ _ hm
  obtain ⟨a1, len1, cap1, rfl⟩ := okWide_slice Try.underlying29 (hval 1 29 v1 rfl rfl)
  obtain ⟨z1, w1⟩ : ∃ zs, IsRow .u8 W a1 len1 cap1 zs := by
    obtain ⟨fuel, hf⟩ := h1
    rcases open_ints Try.underlying29 Try.underlying5 (by kernel_rfl) hf with ⟨hcs, _⟩ | ⟨x, l, c, zs, hcs, _, hl, hm, hz, _, hcell, hwz⟩
    · simp [Value.cells] at hcs
      obtain ⟨rfl, rfl, rfl⟩ := hcs
      exact ⟨[], .inl ⟨rfl, rfl, rfl, rfl⟩⟩
    · simp [Value.cells] at hcs
      obtain ⟨rfl, rfl, rfl⟩ := hcs
      exact ⟨zs, .inr ⟨_, rfl, hl, hm, by simpa using hz, hcell, hwz⟩⟩
  clear hA0 hval0
  refine (walk a0 len0 cap0 z0 a1 len1 cap1 z1 W w0 w1).mono fun e W' ⟨he, bel⟩ => ?_
  subst he
  exact ⟨_, rfl, _, _, _, [], _, [], hW', trodAll_mk1 (shut_bool Try.underlying4 _), (trodAll_cons_mk (Below.trod laidOut (by kernel_rfl) (of_decide_eq_true (by kernel_rfl)) k0 bel lt0) (trodAll_cons_mk (Below.trod laidOut (by kernel_rfl) (of_decide_eq_true (by kernel_rfl)) k1 bel lt1) trodAll_mk0)), rfl, bel.frame _, fun h => by cases h⟩

theorem proved : Rows.FnTagsPartSaid :=
  OpenClaim.holds_of_wide 7 Try.f7 rfl rfl rfl rfl rfl rfl rfl ⟨rfl, rfl, rfl, rfl, rfl⟩ rfl rfl rfl rfl rfl (by kernel_rfl) Try.func7 (by kernel_rfl)
    (of_decide_eq_true (by kernel_rfl)) (by unfold Func.isWrapper; first | (rw [if_pos (by decide +kernel)]; kernel_rfl) | (rw [if_neg (by decide +kernel)]; exact ⟨rfl, rfl⟩))
    (fun os started H enc _ => lifted os started H enc)
#print axioms proved
end Go.Proofs.Ytbgpdjceofofoaa.lawTagsPart
