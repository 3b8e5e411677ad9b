/- The document's order of floats is that of the floats, and what it calls within (for contracts with lists). -/
import Derived.Test.YtbkogihigehjlaaGreatLawLBaseTD
set_option linter.unusedVariables false
set_option linter.unusedSimpArgs false
namespace Go.Proofs.YtbkogihigehjlaaGreat
open Go.Sim Go.Lst
theorem place_eq {a : Nat} (h : a < 18446744073709551616) : s_ref01_place_0 a = if 9223372036854775808 ≤ a then -(rungOf a : Int) - 1 else (rungOf a : Int) := by
  have hr : rungOf a < 9223372036854775808 := by unfold rungOf; omega
  have low : IntKind.i64.wrap ((IntKind.u64.wrap ((Int.ofNat a) * 2)).fdiv 2) = (rungOf a : Int) := by
    rw [wrap_u64]
    have : ((Int.ofNat a) * 2 % 18446744073709551616).fdiv 2 = (rungOf a : Int) := by
      rw [Int.fdiv_eq_ediv_of_nonneg _ (by decide)]; unfold rungOf; simp only [Int.ofNat_eq_natCast]; omega
    rw [this]; apply wrap_i64 <;> omega
  unfold s_ref01_place_0
  rw [low]
  by_cases hs : 9223372036854775808 ≤ a
  · have : ieq ((Int.ofNat a).fdiv 9223372036854775808) 1 = true := by
      apply ieq_true; rw [Int.fdiv_eq_ediv_of_nonneg _ (by decide)]; simp only [Int.ofNat_eq_natCast]; omega
    rw [this, if_pos hs, cond_true, wrap_i64 (n := 0 - (rungOf a : Int)) (by omega) (by omega), wrap_i64 (by omega) (by omega)]; omega
  · have : ieq ((Int.ofNat a).fdiv 9223372036854775808) 1 = false := by
      apply ieq_false; rw [Int.fdiv_eq_ediv_of_nonneg _ (by decide)]; simp only [Int.ofNat_eq_natCast]; omega
    rw [this, if_neg hs, cond_false]
theorem key_place {a : Nat} (h : a < 18446744073709551616) : key a = if 9223372036854775808 ≤ a then -(rungOf a : Int) else (rungOf a : Int) := by
  unfold key
  by_cases hs : 9223372036854775808 ≤ a
  · rw [if_pos ((sgn_true h).2 hs), if_pos hs]
  · rw [if_neg (fun e => hs ((sgn_true h).1 e)), if_neg hs]
theorem word_eq {a : Nat} (h : a < 18446744073709551616) : a = (if 9223372036854775808 ≤ a then 9223372036854775808 else 0) + rungOf a := by
  unfold rungOf; split <;> omega
theorem worth_eq {a : Nat} (h : a < 18446744073709551616) : s_ref01_worth_0 a = if s_ref01_place_0 a = -1 then 0 else s_ref01_place_0 a := by
  unfold s_ref01_worth_0 ieq
  by_cases e : s_ref01_place_0 a = -1 <;> simp [e]
theorem above_eq {a b : Nat} (ha : CF a) (hb : CF b) : s_ref01_above_0 a b = flt b a := by
  unfold s_ref01_above_0
  cases na : nanb a
  · cases nb : nanb b
    · rw [flt_key nb na, worth_eq ha.lt, worth_eq hb.lt, place_eq ha.lt, place_eq hb.lt, key_place ha.lt, key_place hb.lt]
      unfold ilt
      simp only [Bool.not_false, Bool.true_and]
      apply decide_eq_decide.2
      by_cases h1 : 9223372036854775808 ≤ a <;> by_cases h2 : 9223372036854775808 ≤ b <;> simp only [h1, h2, if_true, if_false] <;> (try split) <;> (try split) <;> omega
    · rw [flt_nan (.inl nb)]; simp
  · rw [flt_nan (.inr na)]; simp
theorem ref_within {a m : Nat} (ha : CF a) (hm : CF m) : s_ref01_Within_0 a m = (fle (fneg m) a && fle a m) := by
  unfold s_ref01_Within_0
  cases na : nanb a
  · cases nm : nanb m
    · rw [above_eq ha hm, above_eq hm.fneg ha]
      have nf : nanb (fneg m) = false := by rw [nanb_fneg hm.lt]; exact nm
      rw [flt_key nm na, flt_key na nf, fle_key nf na, fle_key na nm, key_fneg hm.lt nm, Bool.eq_iff_iff]
      simp; omega
    · rw [fle_nan (a := a) (.inr nm)]; simp
  · rw [fle_nan (a := a) (.inl na)]; simp
end Go.Proofs.YtbkogihigehjlaaGreat
