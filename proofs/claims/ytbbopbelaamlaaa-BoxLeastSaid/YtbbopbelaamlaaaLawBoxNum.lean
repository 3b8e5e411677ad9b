/- The lesser and the greater float, as the program and as the document have them. -/
import Derived.Test.YtbbopbelaamlaaaLawLBase
set_option linter.unusedVariables false
set_option linter.unusedSimpArgs false
namespace Go.Proofs.Ytbbopbelaamlaaa
open Go.Sim Go.Lst
theorem is_self (a : Nat) : s_ref02_Is_0 a a = true := ieq_self _
theorem is_of {a b : Nat} (h : a = b) : s_ref02_Is_0 a b = true := by rw [h]; exact is_self b
theorem place_eq {a : Nat} (h : a < 18446744073709551616) : s_ref01_place_0 a = if 9223372036854775808 ≤ a then -(rungOf a : Int) - 1 else (rungOf a : Int) := by
  have hr : rungOf a < 9223372036854775808 := by unfold rungOf; omega
  have low : IntKind.i64.wrap ((IntKind.u64.wrap ((Int.ofNat a) * 2)).fdiv 2) = (rungOf a : Int) := by
    rw [wrap_u64]
    have : ((Int.ofNat a) * 2 % 18446744073709551616).fdiv 2 = (rungOf a : Int) := by
      rw [Int.fdiv_eq_ediv_of_nonneg _ (by decide)]; unfold rungOf; simp only [Int.ofNat_eq_natCast]; omega
    rw [this]; apply wrap_i64 <;> omega
  unfold s_ref01_place_0
  rw [low]
  by_cases hs : 9223372036854775808 ≤ a
  · have : ieq ((Int.ofNat a).fdiv 9223372036854775808) 1 = true := by
      apply ieq_true; rw [Int.fdiv_eq_ediv_of_nonneg _ (by decide)]; simp only [Int.ofNat_eq_natCast]; omega
    rw [this, if_pos hs, cond_true, wrap_i64 (n := 0 - (rungOf a : Int)) (by omega) (by omega), wrap_i64 (by omega) (by omega)]; omega
  · have : ieq ((Int.ofNat a).fdiv 9223372036854775808) 1 = false := by
      apply ieq_false; rw [Int.fdiv_eq_ediv_of_nonneg _ (by decide)]; simp only [Int.ofNat_eq_natCast]; omega
    rw [this, if_neg hs, cond_false]
theorem minus_zero : s_num_minus_float64__0 0 = false := by decide
theorem minus_nought : s_num_minus_float64__0 9223372036854775808 = true := by decide
theorem none_eq (a : Nat) : s_num_none_float64__0 a = nanb a := by unfold s_num_none_float64__0; rw [feq_self, Bool.not_not]
theorem key_place {a : Nat} (h : a < 18446744073709551616) : key a = if 9223372036854775808 ≤ a then -(rungOf a : Int) else (rungOf a : Int) := by
  unfold key
  by_cases hs : 9223372036854775808 ≤ a
  · rw [if_pos ((sgn_true h).2 hs), if_pos hs]
  · rw [if_neg (fun e => hs ((sgn_true h).1 e)), if_neg hs]
theorem word_eq {a : Nat} (h : a < 18446744073709551616) : a = (if 9223372036854775808 ≤ a then 9223372036854775808 else 0) + rungOf a := by
  unfold rungOf; split <;> omega
/-- The lesser and the greater one of two numbers, by their places. -/
theorem least_num {a b : Nat} (ha : CF a) (hb : CF b) (na : nanb a = false) (nb : nanb b = false) (hab : a ≠ b) :
    (flt b a || (feq a 0 && feq b 0 && s_num_minus_float64__0 b)) = !(ile (s_ref01_place_0 a) (s_ref01_place_0 b)) := by
  have la := ha.lt
  have lb := hb.lt
  rw [place_eq la, place_eq lb, flt_key nb na]
  have wa := word_eq la
  have wb := word_eq lb
  by_cases za : feq a 0 = true
  · by_cases zb : feq b 0 = true
    · rcases (feq_zero la na).1 za with rfl | rfl <;> rcases (feq_zero lb nb).1 zb with rfl | rfl <;> first | exact absurd rfl hab | decide
    · have zb' : feq b 0 = false := by simpa using zb
      rw [zb', Bool.and_false, Bool.false_and, Bool.or_false, key_place la, key_place lb]
      have h0 : key b ≠ 0 := fun h => zb ((feq_zero lb nb).2 ((key_zero lb).1 h))
      rw [key_place lb] at h0
      unfold ile
      rw [Bool.eq_iff_iff]; simp only [decide_eq_true_eq, Bool.not_eq_true', decide_eq_false_iff_not]
      clear za zb zb' na nb
      by_cases h1 : 9223372036854775808 ≤ a <;> by_cases h2 : 9223372036854775808 ≤ b <;> simp only [h1, h2, if_true, if_false] at h0 wa wb ⊢ <;> omega
  · have za' : feq a 0 = false := by simpa using za
    rw [za', Bool.false_and, Bool.false_and, Bool.or_false, key_place la, key_place lb]
    have h0 : key a ≠ 0 := fun h => za ((feq_zero la na).2 ((key_zero la).1 h))
    rw [key_place la] at h0
    unfold ile
    rw [Bool.eq_iff_iff]; simp only [decide_eq_true_eq, Bool.not_eq_true', decide_eq_false_iff_not]
    clear za za' na nb
    by_cases h1 : 9223372036854775808 ≤ a <;> by_cases h2 : 9223372036854775808 ≤ b <;> simp only [h1, h2, if_true, if_false] at h0 wa wb ⊢ <;> omega
theorem least_eq {a b : Nat} (ha : CF a) (hb : CF b) : s_num_Least_float64__0 a b = s_ref01_Least_0 a b := by
  unfold s_num_Least_float64__0 s_ref01_Least_0
  rw [none_eq]
  by_cases hab : a = b
  · subst hab; cases nanb a <;> simp
  cases na : nanb a
  · cases nb : nanb b
    · rw [Bool.false_or, least_num ha hb na nb hab]
      cases ile (s_ref01_place_0 a) (s_ref01_place_0 b) <;> rfl
    · rw [flt_nan (a := b) (.inl nb), feq_nan (a := b) (.inl nb)]; simp
  · rfl
theorem most_eq {a b : Nat} (ha : CF a) (hb : CF b) : s_num_Most_float64__0 a b = s_ref01_Most_0 a b := by
  unfold s_num_Most_float64__0 s_ref01_Most_0
  rw [none_eq]
  by_cases hab : a = b
  · subst hab; cases nanb a <;> simp
  cases na : nanb a
  · cases nb : nanb b
    · have h := least_num hb ha nb na (Ne.symm hab)
      rw [Bool.and_comm (feq b 0)] at h
      rw [Bool.false_or, h]
      cases ile (s_ref01_place_0 b) (s_ref01_place_0 a) <;> rfl
    · rw [flt_nan (a := a) (.inr nb), feq_nan (a := b) (.inl nb)]; simp
  · rfl
theorem same_of {a b c d e f g h : Nat} (h1 : a = e) (h2 : b = f) (h3 : c = g) (h4 : d = h) : s_law05_is_0 a b c d e f g h = true := by
  subst h1 h2 h3 h4
  exact and_of (and_of (is_self _) (is_self _)) (and_of (is_self _) (is_self _))
theorem least_self (a : Nat) : s_num_Least_float64__0 a a = a := by unfold s_num_Least_float64__0; simp
theorem most_self (a : Nat) : s_num_Most_float64__0 a a = a := by unfold s_num_Most_float64__0; simp
theorem least_cf {a b : Nat} (ha : CF a) (hb : CF b) : CF (s_num_Least_float64__0 a b) := by unfold s_num_Least_float64__0; cases (s_num_none_float64__0 a || flt b a || feq a 0 && feq b 0 && s_num_minus_float64__0 b) <;> assumption
theorem most_cf {a b : Nat} (ha : CF a) (hb : CF b) : CF (s_num_Most_float64__0 a b) := by unfold s_num_Most_float64__0; cases (s_num_none_float64__0 a || flt a b || feq a 0 && feq b 0 && s_num_minus_float64__0 a) <;> assumption
end Go.Proofs.Ytbbopbelaamlaaa
