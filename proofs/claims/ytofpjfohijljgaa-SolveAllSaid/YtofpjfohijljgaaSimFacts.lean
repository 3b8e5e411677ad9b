/- Facts of single float operations: opposite, magnitude, the same value written twice, halves. -/
import Derived.Test.YtofpjfohijljgaaSimRound
namespace Go.Sim
open Ieee
theorem CF.lt {a : Nat} (h : CF a) : a < 18446744073709551616 := h.1
theorem CF.nan {a : Nat} (h : CF a) (hn : nanb a = true) : a = qnan := h.2 hn
theorem sgn_add {b : Nat} (h : b < 9223372036854775808) : sgnOf (b + 9223372036854775808) = true := by unfold sgnOf; simp; omega
theorem nanb_rung {a b : Nat} (h : rungOf a = rungOf b) : nanb a = nanb b := by
 have h1 := nanb_iff_rung a; have h2 := nanb_iff_rung b
 rw [h, ← h2] at h1
 cases ha : nanb a <;> cases hb : nanb b <;> simp_all
theorem negFloat_eq {a : Nat} (h : a < 18446744073709551616) : Op.negFloat .f64 a = if a < 9223372036854775808 then a + 9223372036854775808 else a - 9223372036854775808 := by
 show a ^^^ 2 ^ 63 = _
 have h1 : (a ^^^ 2 ^ 63) % 2 ^ 63 = a % 2 ^ 63 := by rw [Nat.xor_mod_two_pow]; simp
 have h2 : (a ^^^ 2 ^ 63) / 2 ^ 63 = (a / 2 ^ 63) ^^^ 1 := by rw [Nat.xor_div_two_pow]
 have h3 : a / 2 ^ 63 = 0 ∨ a / 2 ^ 63 = 1 := by omega
 have e1 : (0 : Nat) ^^^ 1 = 1 := rfl
 have e2 : (1 : Nat) ^^^ 1 = 0 := rfl
 rcases h3 with h3 | h3 <;> rw [h3] at h2 <;> simp only [e1, e2] at h2
 ·rw [if_pos (by omega)]; omega
 ·rw [if_neg (by omega)]; omega
theorem rung_neg {a : Nat} (h : a < 18446744073709551616) : rungOf (Op.negFloat .f64 a) = rungOf a := by
 rw [negFloat_eq h]; unfold rungOf; split <;> omega
theorem nanb_fneg {a : Nat} (h : a < 18446744073709551616) : nanb (fneg a) = nanb a := by
 unfold fneg; rw [nanb_cn]; exact nanb_rung (rung_neg h)
theorem CF.fneg {a : Nat} (h : CF a) : CF (Go.Sim.fneg a) := by
 unfold Go.Sim.fneg
 apply CF.cn
 rw [negFloat_eq h.lt]; have := h.lt; split <;> omega
theorem CF.fabs {a : Nat} (_ : CF a) : CF (Go.Sim.fabs a) := CF.cn (by omega)
theorem nanb_fabs (a : Nat) : nanb (fabs a) = nanb a := by unfold fabs; rw [nanb_cn, nanb_mod63]
theorem fabs_of {a : Nat} (hn : nanb a = false) : fabs a = rungOf a := by
 unfold fabs; rw [cn_of_not (by rw [nanb_mod63]; exact hn)]; rfl
theorem key_abs (a : Nat) : key a = (rungOf a : Int) ∨ key a = -(rungOf a : Int) := by unfold key; split <;> omega
theorem key_zero {a : Nat} (ha : a < 18446744073709551616) : key a = 0 ↔ a = 0 ∨ a = 9223372036854775808 := by
 have s1 := @sgn_true a ha
 unfold key
 by_cases c1 : sgnOf a = true <;> simp only [c1] at s1 ⊢ <;> simp at s1 ⊢ <;> unfold rungOf <;> omega
theorem nanb_zero : nanb 0 = false := by decide
theorem key_0 : key 0 = 0 := by decide
theorem feq_zero {a : Nat} (ha : a < 18446744073709551616) (hn : nanb a = false) : feq a 0 = true ↔ a = 0 ∨ a = 9223372036854775808 := by
 rw [feq_key hn nanb_zero, key_0, ← key_zero ha]; simp
end Go.Sim
