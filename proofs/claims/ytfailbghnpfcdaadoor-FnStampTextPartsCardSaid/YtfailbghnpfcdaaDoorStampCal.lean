/- Plain words on times of a day, stamps and instants: what is valid, how many thousandths, which stamp has an instant. No program in sight. -/
import Derived.Test.YtfailbghnpfcdaaDoorBase
import Derived.Test.YtfailbghnpfcdaaDoorCal
namespace Go.Proofs.YtfailbghnpfcdaaDoor
open DN

/-- whether a time is valid -/
def cvB (h i s u : Int) : Bool := decide ((h = 24 ∧ i = 0 ∧ s = 0 ∧ u = 0) ∨ ((0 ≤ h ∧ h ≤ 23) ∧ (0 ≤ i ∧ i ≤ 59) ∧ (0 ≤ s ∧ s ≤ 59) ∧ (0 ≤ u ∧ u ≤ 999)))
theorem cvB_iff {h i s u : Int} : cvB h i s u = true ↔ ((h = 24 ∧ i = 0 ∧ s = 0 ∧ u = 0) ∨ ((0 ≤ h ∧ h ≤ 23) ∧ (0 ≤ i ∧ i ≤ 59) ∧ (0 ≤ s ∧ s ≤ 59) ∧ (0 ≤ u ∧ u ≤ 999))) := by unfold cvB; exact decide_eq_true_iff
theorem cvB_bd {h i s u : Int} (v : cvB h i s u = true) : 0 ≤ h ∧ h ≤ 24 ∧ 0 ≤ i ∧ i ≤ 59 ∧ 0 ≤ s ∧ s ≤ 59 ∧ 0 ≤ u ∧ u ≤ 999 := by rw [cvB_iff] at v; omega
/-- the thousandths of a second ahead of a time -/
def ckm (h i s u : Int) : Int := ((h * 60 + i) * 60 + s) * 1000 + u
theorem ckm_bd {h i s u : Int} (v : cvB h i s u = true) : 0 ≤ ckm h i s u ∧ ckm h i s u ≤ 86400000 ∧ (h ≤ 23 → ckm h i s u ≤ 86399999) := by rw [cvB_iff] at v; unfold ckm; omega
/-- whether a stamp is valid -/
def svB (y m d h i s u o : Int) : Bool := vd y m d && cvB h i s u && inB o (-1439) 1439
theorem svB_iff {y m d h i s u o : Int} : svB y m d h i s u o = true ↔ vd y m d = true ∧ cvB h i s u = true ∧ -1439 ≤ o ∧ o ≤ 1439 := by
  unfold svB; rw [Bool.and_eq_true, Bool.and_eq_true, inB_iff, and_assoc]
/-- the instant of a stamp -/
def ins (y m d h i s u o : Int) : Int := 86400000 * dn y m d + ckm h i s u - 60000 * o
theorem ins_bd {y m d h i s u o : Int} (v : svB y m d h i s u o = true) : -86340000 ≤ ins y m d h i s u o ∧ ins y m d h i s u o ≤ 315537984000000 := by
  obtain ⟨v1, v2, o1, o2⟩ := svB_iff.1 v
  have b1 := dn_bd v1
  have b2 := ckm_bd v2
  unfold ins; omega
/-- what Instant gives -/
def InsIs (y m d h i s u o n : Int) (b : Bool) : Prop := svB y m d h i s u o = b ∧ n = bif b then ins y m d h i s u o else 0
theorem insIs_ex (y m d h i s u o : Int) : ∃ n b, InsIs y m d h i s u o n b := ⟨_, _, rfl, rfl⟩
/-- whether an instant and an offset give a stamp -/
def atB (n o : Int) : Bool := decide ((-1439 ≤ o ∧ o ≤ 1439) ∧ (-86400000 ≤ n ∧ n ≤ 315537984000000) ∧ 0 ≤ n + 60000 * o ∧ n + 60000 * o ≤ 315537897599999)
theorem atB_iff {n o : Int} : atB n o = true ↔ ((-1439 ≤ o ∧ o ≤ 1439) ∧ (-86400000 ≤ n ∧ n ≤ 315537984000000) ∧ 0 ≤ n + 60000 * o ∧ n + 60000 * o ≤ 315537897599999) := by unfold atB; exact decide_eq_true_iff
/-- what StampAt gives: a stamp, or nothing -/
def AtIs (n o Y M D H I S U O : Int) (b : Bool) : Prop :=
  (b = true ∧ atB n o = true ∧ IsD ((n + 60000 * o) / 86400000) Y M D ∧ H = (n + 60000 * o) % 86400000 / 3600000 ∧ I = (n + 60000 * o) % 86400000 / 60000 % 60 ∧ S = (n + 60000 * o) % 86400000 / 1000 % 60 ∧ U = (n + 60000 * o) % 86400000 % 1000 ∧ O = o) ∨
  (b = false ∧ atB n o = false ∧ Y = 0 ∧ M = 0 ∧ D = 0 ∧ H = 0 ∧ I = 0 ∧ S = 0 ∧ U = 0 ∧ O = 0)
theorem atIs_ex (n o : Int) : ∃ Y M D H I S U O b, AtIs n o Y M D H I S U O b := by
  cases h : atB n o
  · exact ⟨0, 0, 0, 0, 0, 0, 0, 0, false, .inr ⟨rfl, h, rfl, rfl, rfl, rfl, rfl, rfl, rfl, rfl⟩⟩
  · have h' := atB_iff.1 h
    obtain ⟨Y, M, D, hd⟩ := isD_ex (n := (n + 60000 * o) / 86400000) (by omega) (by omega)
    exact ⟨Y, M, D, _, _, _, _, _, true, .inl ⟨rfl, h, hd, rfl, rfl, rfl, rfl, rfl⟩⟩
theorem at_sv {n o Y M D H I S U O : Int} (h : AtIs n o Y M D H I S U O true) : svB Y M D H I S U O = true ∧ ins Y M D H I S U O = n ∧ O = o ∧ H ≤ 23 := by
  rcases h with ⟨_, ha, hd, h1, h2, h3, h4, h5⟩ | ⟨hb, _⟩
  · have h' := atB_iff.1 ha
    refine ⟨svB_iff.2 ⟨hd.1, cvB_iff.2 (.inr ?_), by omega, by omega⟩, ?_, h5, by omega⟩
    · omega
    · have := hd.2
      unfold ins ckm
      omega
  · cases hb
theorem at_of {n o y m d h i s u : Int} (v : svB y m d h i s u o = true) (hh : h ≤ 23) (hn : ins y m d h i s u o = n) : AtIs n o y m d h i s u o true := by
  obtain ⟨v1, v2, o1, o2⟩ := svB_iff.1 v
  have b1 := dn_bd v1
  have b2 := ckm_bd v2
  have b3 := b2.2.2 hh
  have c := cvB_iff.1 v2
  unfold ins at hn
  have e : n + 60000 * o = 86400000 * dn y m d + ckm h i s u := by omega
  have q1 : (n + 60000 * o) / 86400000 = dn y m d := by omega
  have q2 : (n + 60000 * o) % 86400000 = ckm h i s u := by omega
  refine .inl ⟨rfl, atB_iff.2 ⟨⟨o1, o2⟩, by omega, by omega, by omega⟩, by rw [q1]; exact isD_dn v1, ?_, ?_, ?_, ?_, rfl⟩
  all_goals rw [q2]; unfold ckm; omega
theorem at_inj {n o y m d h i s u p Y M D H I S U O : Int} {b : Bool} (k : AtIs n o y m d h i s u p true) (g : AtIs n o Y M D H I S U O b) : b = true ∧ Y = y ∧ M = m ∧ D = d ∧ H = h ∧ I = i ∧ S = s ∧ U = u ∧ O = p := by
  rcases k with ⟨_, ha, hd, h1, h2, h3, h4, h5⟩ | ⟨hb, _⟩
  · rcases g with ⟨hb', _, hd', g1, g2, g3, g4, g5⟩ | ⟨_, hb', _⟩
    · obtain ⟨e1, e2, e3⟩ := isD_inj hd hd'
      exact ⟨hb', e1.symm, e2.symm, e3.symm, by rw [g1, h1], by rw [g2, h2], by rw [g3, h3], by rw [g4, h4], by rw [g5, h5]⟩
    · rw [ha] at hb'; cases hb'
  · cases hb
end Go.Proofs.YtfailbghnpfcdaaDoor
