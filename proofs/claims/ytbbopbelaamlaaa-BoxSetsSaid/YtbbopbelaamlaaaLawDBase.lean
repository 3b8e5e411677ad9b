/- Common steps of the laws over direct contracts. -/
import Derived.Test.YtbbopbelaamlaaaFns
import Derived.Test.YtbbopbelaamlaaaSimValues
import Derived.Test.YtbbopbelaamlaaaSimEnds
import Derived.Test.YtbbopbelaamlaaaSimVal
set_option linter.unusedVariables false
set_option linter.unusedSimpArgs false
namespace Go.Proofs.Ytbbopbelaamlaaa
open Go.Sim
theorem ieq_self (a : Int) : ieq a a = true := by simp [ieq]
theorem is_self (a : Nat) : s_ref02_Is_0 a a = true := ieq_self _
theorem is_of {a b : Nat} (h : a = b) : s_ref02_Is_0 a b = true := by rw [h]; exact is_self b
theorem beq_of {a b : Bool} (h : a = b) : (a == b) = true := by rw [h]; simp
theorem ieq_of {a b : Int} (h : a = b) : ieq a b = true := by rw [h]; exact ieq_self b
theorem and_of {a b : Bool} (ha : a = true) (hb : b = true) : (a && b) = true := by rw [ha, hb]; rfl
theorem wrap_i64 {n : Int} (h1 : -9223372036854775808 ≤ n) (h2 : n < 9223372036854775808) : IntKind.i64.wrap n = n := by
  have e : IntKind.i64.wrap n = if n % 18446744073709551616 ≥ 9223372036854775808 then n % 18446744073709551616 - 18446744073709551616 else n % 18446744073709551616 := by
    simp [IntKind.wrap, IntKind.bits, IntKind.signed]
  rw [e]; split <;> omega
theorem ieq_true {a b : Int} (h : a = b) : ieq a b = true := by simp [ieq, h]
theorem ieq_false {a b : Int} (h : a ≠ b) : ieq a b = false := by simp [ieq, h]
/-- Two floats divide a way: in their order, or one is no number. -/
theorem axis (p q : Nat) : (feq p p = true ∧ feq q q = true ∧ fle (bif flt q p then q else p) (bif flt q p then p else q) = true) ∨ ((feq p p = false ∨ feq q q = false) ∧ flt q p = false ∧ fle p q = false) := by
  cases np : nanb p
  · cases nq : nanb q
    · left
      refine ⟨by rw [feq_self, np]; rfl, by rw [feq_self, nq]; rfl, ?_⟩
      rw [flt_key nq np]
      by_cases h : key q < key p
      · simp only [h, decide_true, cond_true]; rw [fle_key nq np]; simp; omega
      · simp only [h, decide_false, cond_false]; rw [fle_key np nq]; simp; omega
    · right; exact ⟨.inr (by rw [feq_self, nq]; rfl), flt_nan (.inl nq), fle_nan (.inr nq)⟩
  · right; exact ⟨.inl (by rw [feq_self, np]; rfl), flt_nan (.inr np), fle_nan (.inl np)⟩
end Go.Proofs.Ytbbopbelaamlaaa
