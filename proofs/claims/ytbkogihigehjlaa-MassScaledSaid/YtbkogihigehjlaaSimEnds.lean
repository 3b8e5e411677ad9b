/- What comes to a number comes of numbers; what is opposite cancels. -/
import Derived.Test.YtbkogihigehjlaaSimValues
namespace Go.Sim
open Ieee in
theorem data_swap {x y : Datum} (hx : x.isNaN = false) (hy : y.isNaN = false) :
    (x.sum y.opposite = none ∧ y.sum x.opposite = none) ∨ ∃ d e, x.sum y.opposite = some d ∧ y.sum x.opposite = some e ∧ (e = d.opposite ∨ ((∃ s p, d = .number s 0 p) ∧ ∃ s p, e = .number s 0 p)) := by
  cases x with
  | nan s f => cases hx
  | infinity s =>
    cases y with
    | nan t g => cases hy
    | infinity t => cases s <;> cases t <;> simp [Datum.sum, Datum.opposite]
    | number t n j => right; exact ⟨_, _, rfl, rfl, .inl rfl⟩
  | number s m i =>
    cases y with
    | nan t g => cases hy
    | infinity t => right; exact ⟨_, _, rfl, rfl, .inl (by simp [Datum.opposite])⟩
    | number t n j =>
      right
      refine ⟨_, _, rfl, rfl, ?_⟩
      rw [Int.min_comm j i]
      have so : ∀ (b : Bool) (m u : Nat), signed (!b) m u = -signed b m u := by
        intro b m u; unfold signed; cases b <;> simp
      rw [so, so]
      generalize signed s m (i - min i j).toNat = A
      generalize signed t n (j - min i j).toNat = B
      by_cases h : A = B
      · right
        subst h
        have e1 : A + -A = 0 := by omega
        rw [e1]
        exact ⟨⟨_, _, rfl⟩, ⟨_, _, rfl⟩⟩
      · left
        have e1 : ¬ A + -B = 0 := by omega
        have e2 : ¬ B + -A = 0 := by omega
        rw [if_neg e1, if_neg e2]
        have e3 : (B + -A).natAbs = (A + -B).natAbs := by omega
        rw [e3]
        show Datum.number _ _ _ = Datum.number _ _ _
        congr 1
        by_cases hl : A + -B < 0
        · have : ¬ B + -A < 0 := by omega
          simp [hl, this]
        · have : B + -A < 0 := by omega
          simp [hl, this]
theorem feq_refl {a : Nat} (h : nanb a = false) : feq a a = true := by rw [feq_self, h]; rfl
theorem key_word_zero (s : Bool) : key (Ieee.double.word s 0) = 0 := by cases s <;> decide
theorem nanb_word0 (s : Bool) : nanb (Ieee.double.word s 0) = false := by cases s <;> decide
open Ieee in
theorem write_zero (s : Bool) (p : Int) : double.write (.number s 0 p) = double.word s 0 := by
  show double.nearest s 0 p = _; unfold Format.nearest; rw [if_pos rfl]
/-- What is taken away in either order is the opposite. -/
theorem sub_swap (p q : Nat) : (nanb (fsub p q) = true ∧ nanb (fsub q p) = true) ∨ (nanb (fsub p q) = false ∧ nanb (fsub q p) = false ∧ feq (fsub p q) (fneg (fsub q p)) = true) := by
  unfold fsub Ieee.Format.sub
  cases np : nanb p
  · cases nq : nanb q
    · rcases data_swap np nq with ⟨h1, h2⟩ | ⟨d, e, h1, h2, h3⟩
      · left; rw [h1, h2]; exact ⟨nanb_qnan, nanb_qnan⟩
      · right; rw [h1, h2]
        have n1 := nan_sum h1
        have n2 := nan_sum h2
        refine ⟨nanb_write n1, nanb_write n2, ?_⟩
        show feq (Ieee.double.write d) (fneg (Ieee.double.write e)) = true
        rcases h3 with rfl | ⟨⟨s, i, rfl⟩, t, j, rfl⟩
        · rw [write_opp n1, fneg_fneg (CF.write n1)]; exact feq_refl (nanb_write n1)
        · rw [write_zero, write_zero, word_neg _ (by omega), feq_key (nanb_word0 _) (nanb_word0 _), key_word_zero, key_word_zero]; rfl
    · left
      obtain ⟨s, f, e⟩ := read_of_nanb nq
      rw [e, opp_nan, sum_nan_r, sum_nan_l]; exact ⟨nanb_qnan, nanb_qnan⟩
  · left
    obtain ⟨s, f, e⟩ := read_of_nanb np
    rw [e, opp_nan, sum_nan_r, sum_nan_l]; exact ⟨nanb_qnan, nanb_qnan⟩
theorem end_sub {x : Nat} : feq (fsub x x) 0 = true → fin x = true := by
  intro h
  cases hn : nanb x
  · rcases inf_or hn with h1 | h1
    · exact h1
    · exfalso
      have : fsub x x = qnan := by
        unfold fsub Ieee.Format.sub; rw [read_inf h1]; cases sgnOf x <;> rfl
      rw [this, feq_nan (.inl nanb_qnan)] at h; cases h
  · exfalso
    have : fsub x x = qnan := by
      unfold fsub Ieee.Format.sub
      obtain ⟨s, f, e⟩ := read_of_nanb hn
      rw [e, sum_nan_l]; rfl
    rw [this, feq_nan (.inl nanb_qnan)] at h; cases h
/-- A sum that is a number is one of numbers. -/
theorem fin_add {a b : Nat} (h : fin (fadd a b) = true) : fin a = true ∧ fin b = true := by
  have hq : fin qnan = false := by decide
  cases na : nanb a
  · cases nb : nanb b
    · rcases inf_or na with fa | ia
      · rcases inf_or nb with fb | ib
        · exact ⟨fa, fb⟩
        · obtain ⟨m, i, e, _⟩ := read_num fa
          unfold fadd Ieee.Format.add at h; rw [e, read_inf ib] at h
          have : fin (Ieee.double.write (.infinity (sgnOf b))) = false := by cases sgnOf b <;> decide
          rw [show ((Ieee.Datum.number (sgnOf a) m i).sum (.infinity (sgnOf b))) = some (.infinity (sgnOf b)) from rfl] at h
          exact absurd (this.symm.trans h) (by decide)
      · exfalso
        unfold fadd Ieee.Format.add at h; rw [read_inf ia] at h
        have hw : ∀ s, fin (Ieee.double.write (.infinity s)) = false := by intro s; cases s <;> decide
        rcases inf_or nb with fb | ib
        · obtain ⟨m, i, e, _⟩ := read_num fb
          rw [e, show ((Ieee.Datum.infinity (sgnOf a)).sum (.number (sgnOf b) m i)) = some (.infinity (sgnOf a)) from rfl] at h
          exact absurd ((hw _).symm.trans h) (by decide)
        · rw [read_inf ib] at h
          simp only [Ieee.Datum.sum] at h
          split at h
          · exact absurd ((hw _).symm.trans h) (by decide)
          · exact absurd (hq.symm.trans h) (by decide)
    · rw [fadd_nan (.inr nb), hq] at h; cases h
  · rw [fadd_nan (.inl na), hq] at h; cases h
theorem fin_mul {a b : Nat} (h : fin (fmul a b) = true) : fin a = true ∧ fin b = true := by
  have hq : fin qnan = false := by decide
  have hw : ∀ s, fin (Ieee.double.write (.infinity s)) = false := by intro s; cases s <;> decide
  cases na : nanb a
  · cases nb : nanb b
    · rcases inf_or na with fa | ia
      · rcases inf_or nb with fb | ib
        · exact ⟨fa, fb⟩
        · exfalso
          obtain ⟨m, i, e, _⟩ := read_num fa
          unfold fmul Ieee.Format.mul at h; rw [e, read_inf ib] at h
          simp only [Ieee.Datum.product] at h
          split at h
          · exact absurd (hq.symm.trans h) (by decide)
          · exact absurd ((hw _).symm.trans h) (by decide)
      · exfalso
        unfold fmul Ieee.Format.mul at h; rw [read_inf ia] at h
        rcases inf_or nb with fb | ib
        · obtain ⟨m, i, e, _⟩ := read_num fb
          rw [e] at h
          simp only [Ieee.Datum.product] at h
          split at h
          · exact absurd (hq.symm.trans h) (by decide)
          · exact absurd ((hw _).symm.trans h) (by decide)
        · rw [read_inf ib] at h
          exact absurd ((hw _).symm.trans h) (by decide)
    · rw [fmul_nan (.inr nb), hq] at h; cases h
  · rw [fmul_nan (.inl na), hq] at h; cases h
/-- A product of numbers whose squares are numbers is one. -/
theorem fin_cross {a b : Nat} (ha : fin (fmul a a) = true) (hb : fin (fmul b b) = true) : fin (fmul a b) = true := by
  have fa := (fin_mul ha).1
  have fb := (fin_mul hb).1
  rw [fmul_fin fa fa, fin_iff, rung_word _ (RN_le _ _)] at ha
  rw [fmul_fin fb fb, fin_iff, rung_word _ (RN_le _ _)] at hb
  rw [fmul_fin fa fb, fin_iff, rung_word _ (RN_le _ _)]
  rcases Nat.le_total (magOf (rungOf a)) (magOf (rungOf b)) with h | h
  · exact Nat.lt_of_le_of_lt (RN_mono (Nat.mul_le_mul_right _ h) _) hb
  · exact Nat.lt_of_le_of_lt (RN_mono (Nat.mul_le_mul_left _ h) _) ha
/-- What is opposite cancels. -/
theorem add_opp {p : Nat} (hp : CF p) (h : fin p = true) : feq (fadd (fneg p) p) 0 = true := by
  have hn := fin_not_nan h
  have hf : fin (fneg p) = true := by rw [fin_iff, rung_fneg hp.lt hn]; exact fin_iff.1 h
  rw [fadd_fin hf h, sval_fneg hp.lt hn]
  have e : -sval p + sval p = 0 := by omega
  rw [e, if_pos rfl]
  have e2 : RN (Int.natAbs 0) 0 = 0 := RN_zero 0
  rw [e2, feq_key (nanb_word0 _) nanb_zero, key_word_zero]; rfl
end Go.Sim
