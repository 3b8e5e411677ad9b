/- Quotients and signs. -/
import Derived.Test.YtbkogihigehjlaaSimErr5
set_option linter.unusedVariables false
set_option linter.unusedSimpArgs false
namespace Go.Sim
open Ieee
theorem quotient_opp (n : Nat) (x y : Datum) : x.opposite.quotient n y = (x.quotient n y).map Datum.opposite := by
  cases x <;> cases y <;> simp only [Datum.quotient, Datum.opposite, Option.map_some, Option.map_none, Bool.not_xor, Bool.xor_not]
  all_goals (repeat' split) <;> simp [Datum.opposite]
theorem fdiv_nan {a b : Nat} (h : nanb a = true ∨ nanb b = true) : fdiv a b = qnan := by
  unfold fdiv Format.div
  rcases h with h | h
  · obtain ⟨s, f, e⟩ := read_of_nanb h; rw [e, quotient_nan_l]; rfl
  · obtain ⟨s, f, e⟩ := read_of_nanb h; rw [e, quotient_nan_r]; rfl
theorem fdiv_neg_l {a b : Nat} (ha : a < 18446744073709551616) : fdiv (fneg a) b = fneg (fdiv a b) := by
  cases na : nanb a
  · unfold fdiv Format.div
    rw [read_fneg ha na, quotient_opp]
    cases hp : (double.read a).quotient (double.fractionBits + 2) (double.read b) with
    | none => exact fneg_qnan.symm
    | some d => exact write_opp (nan_quotient hp)
  · rw [fdiv_nan (.inl na), fdiv_nan (.inl (by rw [nanb_fneg ha, na])), fneg_qnan]
/-- Nought divided is nought. -/
theorem fdiv_zero {a b : Nat} (fa : fin a = true) (fb : fin b = true) (ha : magOf (rungOf a) = 0) (hb : magOf (rungOf b) ≠ 0) : fdiv a b = double.word (sgnOf a ^^ sgnOf b) 0 := by
  obtain ⟨u, hu⟩ : ∃ u, u = 1074 := ⟨_, rfl⟩
  obtain ⟨N, d, e, h⟩ := fdiv_fin hu fa fb hb
  rw [ha, Nat.zero_mul] at h
  have h0 : N * magOf (rungOf b) = 0 := by omega
  have hN : N = 0 := (Nat.mul_eq_zero.1 h0).resolve_right hb
  rw [e, hN, RN_zero]
end Go.Sim
