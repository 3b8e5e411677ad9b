/- Facts of single float operations: opposite, magnitude, the same value written twice, halves. -/
import Derived.Test.YtbkogihigehjlaaSimRound
namespace Go.Sim
open Ieee

theorem CF.lt {a : Nat} (h : CF a) : a < 18446744073709551616 := h.1
theorem CF.nan {a : Nat} (h : CF a) (hn : nanb a = true) : a = qnan := h.2 hn
theorem sgn_add {b : Nat} (h : b < 9223372036854775808) : sgnOf (b + 9223372036854775808) = true := by unfold sgnOf; simp; omega
theorem nanb_rung {a b : Nat} (h : rungOf a = rungOf b) : nanb a = nanb b := by
  have h1 := nanb_iff_rung a; have h2 := nanb_iff_rung b
  rw [h, ← h2] at h1
  cases ha : nanb a <;> cases hb : nanb b <;> simp_all
theorem negFloat_eq {a : Nat} (h : a < 18446744073709551616) : Op.negFloat .f64 a = if a < 9223372036854775808 then a + 9223372036854775808 else a - 9223372036854775808 := by
  show a ^^^ 2 ^ 63 = _
  have h1 : (a ^^^ 2 ^ 63) % 2 ^ 63 = a % 2 ^ 63 := by rw [Nat.xor_mod_two_pow]; simp
  have h2 : (a ^^^ 2 ^ 63) / 2 ^ 63 = (a / 2 ^ 63) ^^^ 1 := by rw [Nat.xor_div_two_pow]
  have h3 : a / 2 ^ 63 = 0 ∨ a / 2 ^ 63 = 1 := by omega
  have e1 : (0 : Nat) ^^^ 1 = 1 := rfl
  have e2 : (1 : Nat) ^^^ 1 = 0 := rfl
  rcases h3 with h3 | h3 <;> rw [h3] at h2 <;> simp only [e1, e2] at h2
  · rw [if_pos (by omega)]; omega
  · rw [if_neg (by omega)]; omega
theorem rung_neg {a : Nat} (h : a < 18446744073709551616) : rungOf (Op.negFloat .f64 a) = rungOf a := by
  rw [negFloat_eq h]; unfold rungOf; split <;> omega
theorem nanb_fneg {a : Nat} (h : a < 18446744073709551616) : nanb (fneg a) = nanb a := by
  unfold fneg; rw [nanb_cn]; exact nanb_rung (rung_neg h)
theorem fneg_of {a : Nat} (h : a < 18446744073709551616) (hn : nanb a = false) : fneg a = if a < 9223372036854775808 then a + 9223372036854775808 else a - 9223372036854775808 := by
  unfold fneg
  rw [cn_of_not (by rw [nanb_rung (rung_neg h)]; exact hn), negFloat_eq h]
theorem fneg_nan {a : Nat} (h : a < 18446744073709551616) (hn : nanb a = true) : fneg a = qnan := by
  unfold fneg; exact cn_of_nan (by rw [nanb_rung (rung_neg h)]; exact hn)
theorem CF.fneg {a : Nat} (h : CF a) : CF (Go.Sim.fneg a) := by
  unfold Go.Sim.fneg
  apply CF.cn
  rw [negFloat_eq h.lt]; have := h.lt; split <;> omega
theorem fneg_fneg {a : Nat} (h : CF a) : fneg (fneg a) = a := by
  have hl := h.lt
  cases hn : nanb a
  · have h2 := h.fneg
    rw [fneg_of h2.lt (by rw [nanb_fneg hl]; exact hn), fneg_of hl hn]
    split <;> split <;> omega
  · rw [h.nan hn]; decide
theorem key_fneg {a : Nat} (h : a < 18446744073709551616) (hn : nanb a = false) : key (fneg a) = -key a := by
  have hs := @sgn_true a h
  have hf := @sgn_false a h
  rw [fneg_of h hn]
  by_cases hc : a < 9223372036854775808
  · rw [if_pos hc]
    unfold key
    rw [sgn_add hc, hf.2 hc]
    unfold rungOf; simp
  · rw [if_neg hc]
    unfold key
    rw [hs.2 (by omega), (sgn_false (b := a - 9223372036854775808) (by omega)).2 (by omega)]
    unfold rungOf; simp; omega
theorem CF.fabs {a : Nat} (_ : CF a) : CF (Go.Sim.fabs a) := CF.cn (by omega)
theorem nanb_fabs (a : Nat) : nanb (fabs a) = nanb a := by unfold fabs; rw [nanb_cn, nanb_mod63]
theorem fabs_of {a : Nat} (hn : nanb a = false) : fabs a = rungOf a := by
  unfold fabs; rw [cn_of_not (by rw [nanb_mod63]; exact hn)]; rfl
theorem key_fabs {a : Nat} (hn : nanb a = false) : key (fabs a) = (rungOf a : Int) := by
  have hr := not_nan_rung hn
  rw [fabs_of hn]
  unfold key
  rw [(sgn_false (b := rungOf a) (by omega)).2 (by omega)]
  unfold rungOf; simp
theorem key_abs (a : Nat) : key a = (rungOf a : Int) ∨ key a = -(rungOf a : Int) := by unfold key; split <;> omega
theorem key_inj {a b : Nat} (ha : a < 18446744073709551616) (hb : b < 18446744073709551616) (h : key a = key b) (h0 : key a ≠ 0) : a = b := by
  have s1 := @sgn_true a ha; have s2 := @sgn_true b hb
  unfold key at h h0
  by_cases c1 : sgnOf a = true <;> by_cases c2 : sgnOf b = true <;> simp only [c1, c2] at h h0 s1 s2 <;> simp at h h0 s1 s2 <;> unfold rungOf at h h0 <;> omega
theorem key_zero {a : Nat} (ha : a < 18446744073709551616) : key a = 0 ↔ a = 0 ∨ a = 9223372036854775808 := by
  have s1 := @sgn_true a ha
  unfold key
  by_cases c1 : sgnOf a = true <;> simp only [c1] at s1 ⊢ <;> simp at s1 ⊢ <;> unfold rungOf <;> omega
theorem nanb_zero : nanb 0 = false := by decide
theorem key_0 : key 0 = 0 := by decide
theorem feq_zero {a : Nat} (ha : a < 18446744073709551616) (hn : nanb a = false) : feq a 0 = true ↔ a = 0 ∨ a = 9223372036854775808 := by
  rw [feq_key hn nanb_zero, key_0, ← key_zero ha]; simp

/-- Half is what two divides. -/
theorem read_half : double.read 4602678819172646912 = .number false 4503599627370496 (-53) := by decide
theorem read_two : double.read 4611686018427387904 = .number false 4503599627370496 (-51) := by decide
theorem mag_lt_pow {b : Nat} {s : Bool} {m : Nat} {i : Int} (h : double.read b = .number s m i) : m < 9007199254740992 ∧ -1074 ≤ i := by
  rw [read_eq] at h
  split at h
  · cases h; constructor <;> omega
  · split at h
    · cases h; constructor <;> omega
    · split at h <;> cases h
theorem pow52 : (4503599627370496 : Nat) = 2 ^ 52 := by decide
theorem log52 : (4503599627370496 : Nat).log2 = 52 := by rw [pow52]; exact Nat.log2_two_pow
/-- A power of two, once multiplied, once divided by its inverse. -/
theorem half_nearest (s : Bool) (m : Nat) (i : Int) (hm : m < 9007199254740992) (hi : -1074 ≤ i) (h0 : m ≠ 0) (k : Nat) (hk : 106 - m.log2 = k) :
    double.nearest s (2 * (m <<< k / 4503599627370496) + (m <<< k % 4503599627370496 != 0).toNat) (i - -51 - (k : Int) - 1) = double.nearest s (m * 4503599627370496) (i + -53) := by
  have hlm : m.log2 < 53 := (Nat.log2_lt h0).2 (by omega)
  have hk2 : 52 ≤ k := by omega
  rw [pow52]
  have e1 : m <<< k = (m * 2 ^ (k - 52)) * 2 ^ 52 := by
    rw [Nat.shiftLeft_eq, Nat.mul_assoc, ← Nat.pow_add, Nat.sub_add_cancel hk2]
  rw [e1, Nat.mul_div_cancel _ (Nat.pow_pos (by decide)), Nat.mul_mod_left]
  have e0 : ((0 : Nat) != 0).toNat = 0 := rfl
  rw [e0, Nat.add_zero, nearest_RN _ _ _ (k + 53) (by omega), nearest_RN _ (m * _) _ (k + 53) (by omega)]
  have e2 : 2 * (m * 2 ^ (k - 52)) * 2 ^ (i - -51 - (k : Int) - 1 + 1074 + ((k + 53 : Nat) : Int)).toNat = m * 2 ^ 52 * 2 ^ (i + -53 + 1074 + ((k + 53 : Nat) : Int)).toNat := by
    have e3 : 2 * (m * 2 ^ (k - 52)) * 2 ^ (i - -51 - (k : Int) - 1 + 1074 + ((k + 53 : Nat) : Int)).toNat = m * (2 ^ (k - 52) * 2 * 2 ^ (i - -51 - (k : Int) - 1 + 1074 + ((k + 53 : Nat) : Int)).toNat) := by ac_rfl
    rw [e3, Nat.mul_assoc m, ← Nat.pow_succ, ← Nat.pow_add, ← Nat.pow_add]
    refine congrArg (fun e => m * 2 ^ e) ?_
    omega
  rw [e2]
theorem fdiv_two (a : Nat) : fdiv a 4611686018427387904 = fmul a 4602678819172646912 := by
  unfold fdiv fmul Format.div Format.mul
  rw [read_half, read_two]
  cases hr : double.read a with
  | nan s f => rw [product_nan_l, quotient_nan_l]
  | infinity s => simp only [Datum.quotient, Datum.product]; rw [if_neg (by decide)]
  | number s m i =>
    obtain ⟨hm, hi⟩ := mag_lt_pow hr
    simp only [Datum.quotient, Datum.product]
    rw [if_neg (by decide), Option.map_some, Option.map_some, Option.getD_some, Option.getD_some]
    simp only [Format.write]
    rw [log52]
    by_cases h0 : m = 0
    · subst h0; simp only [Nat.zero_shiftLeft, Nat.zero_div, Nat.zero_mod, Nat.zero_mul, Nat.mul_zero]
      unfold Format.nearest; rw [if_pos (by decide), if_pos rfl]
    · exact half_nearest _ m i hm hi h0 _ rfl
end Go.Sim
