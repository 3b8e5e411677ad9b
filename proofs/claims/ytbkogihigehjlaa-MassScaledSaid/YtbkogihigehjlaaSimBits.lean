/- The bits of a float. -/
import Derived.Test.YtbkogihigehjlaaSimFloat
namespace Go.Sim
/-! ### The bits -/
theorem wrap_u64 (n : Int) : IntKind.u64.wrap n = n % 18446744073709551616 := by
  simp [IntKind.wrap, IntKind.signed, IntKind.bits]
theorem toNat_u64 {b : Nat} (hb : b < 18446744073709551616) : ((b : Int) % 18446744073709551616).toNat = b := by omega
theorem shr52 (b : Nat) : ((b : Int).fdiv 4503599627370496) = ((b / 4503599627370496 : Nat) : Int) := (Int.ofNat_fdiv b 4503599627370496).symm
theorem nanb_mod63 (b : Nat) : nanb (b % 9223372036854775808) = nanb b := nanb_mod (by omega)
def fabs (a : Nat) : Nat := cn (a % 9223372036854775808)
theorem fabs_cn (b : Nat) : fabs (cn b) = cn (b % 9223372036854775808) := by
  unfold fabs
  cases h : nanb b
  · rw [cn_of_not h]
  · rw [cn_of_nan h, cn_of_nan (b := b % 9223372036854775808) (by rw [nanb_mod63, h]), cn_of_nan (by rw [nanb_mod63]; exact nanb_qnan)]
/-- Copysign, where the sign's float is a number. -/
def fcps (a c : Nat) : Nat := cn (a % 9223372036854775808 + c / 9223372036854775808 * 9223372036854775808)
theorem and_mask63 (n : Nat) : n &&& 9223372036854775807 = n % 9223372036854775808 := Nat.and_two_pow_sub_one_eq_mod n 63
theorem and_mask11 (n : Nat) : n &&& 2047 = n % 2048 := Nat.and_two_pow_sub_one_eq_mod n 11
theorem nanb_iff {b : Nat} : nanb b = (decide (b / 4503599627370496 % 2048 = 2047) && decide (b % 4503599627370496 ≠ 0)) := by
  have hs : Ieee.double.signWeight = 9223372036854775808 := by decide
  have hb : Ieee.double.binade = 4503599627370496 := by decide
  have hi : Ieee.double.infRung = 9218868437227405312 := by decide
  unfold nanb Ieee.Format.read
  simp only [hs, hb, hi]
  split
  · rename_i h1
    show false = _
    symm
    rw [Bool.and_eq_false_iff]
    exact .inl (by simp only [decide_eq_false_iff_not]; omega)
  · split
    · rename_i h1 h2
      show false = _
      symm
      rw [Bool.and_eq_false_iff]
      exact .inl (by simp only [decide_eq_false_iff_not]; omega)
    · split
      · rename_i h1 h2 h3
        show false = _
        symm
        rw [Bool.and_eq_false_iff]
        exact .inr (by simp only [decide_eq_false_iff_not]; omega)
      · rename_i h1 h2 h3
        show true = _
        symm
        rw [Bool.and_eq_true]
        exact ⟨by simp only [decide_eq_true_eq]; omega, by simp only [decide_eq_true_eq]; omega⟩
theorem and_top (n : Nat) (h : n < 18446744073709551616) : n &&& 9223372036854775808 = n / 9223372036854775808 * 9223372036854775808 := by
  apply Nat.eq_of_testBit_eq
  intro i
  rw [Nat.testBit_and, show (9223372036854775808 : Nat) = 2 ^ 63 from rfl, Nat.testBit_two_pow, Nat.mul_comm, Nat.testBit_two_pow_mul, Nat.testBit_div_two_pow]
  by_cases h1 : 63 ≤ i
  · by_cases h2 : i = 63
    · subst h2; simp
    · have h3 : n.testBit i = false := Nat.testBit_lt_two_pow (Nat.lt_of_lt_of_le h (by rw [show (18446744073709551616 : Nat) = 2 ^ 64 from rfl]; exact Nat.pow_le_pow_right (by omega) (by omega)))
      simp [h1, h3, Nat.sub_add_cancel h1]
  · have : ¬ 63 = i := by omega
    simp [h1, this]
theorem or_parts (x y : Nat) (hx : x < 9223372036854775808) : x ||| y * 9223372036854775808 = x + y * 9223372036854775808 := by
  rw [Nat.or_comm, Nat.mul_comm, Nat.add_comm]
  exact (Nat.two_pow_add_eq_or_of_lt (i := 63) hx y).symm
theorem cps_cn {b d : Nat} : cn (b % 9223372036854775808 + d / 9223372036854775808 * 9223372036854775808) = fcps (cn b) d := by
  unfold fcps
  have hm : ∀ x, nanb (x % 9223372036854775808 + d / 9223372036854775808 * 9223372036854775808) = nanb x := fun x => nanb_mod (by omega)
  cases h : nanb b
  · rw [cn_of_not h]
  · rw [cn_of_nan h, cn_of_nan (by rw [hm, h]), cn_of_nan (by rw [hm]; exact nanb_qnan)]

/-- The same float: the same bits, or both no numbers. -/
def fsame (a c : Nat) : Bool := bif nanb a then nanb c else decide (a = c)
/-- A float as the laws see it. -/
def CF (a : Nat) : Prop := a < 2 ^ 64 ∧ (nanb a = true → a = qnan)
theorem CF.cn {b : Nat} (h : b < 2 ^ 64) : CF (cn b) := ⟨cn_lt h, fun hn => by rw [nanb_cn] at hn; exact cn_of_nan hn⟩
end Go.Sim
