/- Common steps of the laws over contracts with lists. -/
import Derived.Test.YtbkogihigehjlaaLFnsC
import Derived.Test.YtbkogihigehjlaaLRow
import Derived.Test.YtbkogihigehjlaaSimValues
import Derived.Test.YtbkogihigehjlaaSimEnds
import Derived.Test.YtbkogihigehjlaaSimVal
set_option linter.unusedVariables false
set_option linter.unusedSimpArgs false
namespace Go.Proofs.Ytbkogihigehjlaa
open Go.Sim Go.Lst
theorem ieq_self (a : Int) : ieq a a = true := by simp [ieq]
theorem beq_of {a b : Bool} (h : a = b) : (a == b) = true := by rw [h]; simp
theorem ieq_of {a b : Int} (h : a = b) : ieq a b = true := by rw [h]; exact ieq_self b
theorem and_of {a b : Bool} (ha : a = true) (hb : b = true) : (a && b) = true := by rw [ha, hb]; rfl
theorem wrap_i64 {n : Int} (h1 : -9223372036854775808 ≤ n) (h2 : n < 9223372036854775808) : IntKind.i64.wrap n = n := by
  have e : IntKind.i64.wrap n = if n % 18446744073709551616 ≥ 9223372036854775808 then n % 18446744073709551616 - 18446744073709551616 else n % 18446744073709551616 := by
    simp [IntKind.wrap, IntKind.bits, IntKind.signed]
  rw [e]; split <;> omega
theorem ieq_true {a b : Int} (h : a = b) : ieq a b = true := by simp [ieq, h]
theorem ieq_false {a b : Int} (h : a ≠ b) : ieq a b = false := by simp [ieq, h]
theorem ilt_true {a b : Int} (h : a < b) : ilt a b = true := by simp [ilt, h]
theorem ilt_false {a b : Int} (h : b ≤ a) : ilt a b = false := by simp [ilt]; omega
theorem ile_true {a b : Int} (h : a ≤ b) : ile a b = true := by simp [ile, h]
theorem ile_false {a b : Int} (h : b < a) : ile a b = false := by simp [ile]; omega
theorem blt_true {a b : Nat} (h : a < b) : Nat.blt a b = true := by simpa using h
theorem blt_false {a b : Nat} (h : b ≤ a) : Nat.blt a b = false := by
  cases hb : Nat.blt a b with
  | false => rfl
  | true => have : a < b := by simpa using hb
            omega
theorem ble_true {a b : Nat} (h : a ≤ b) : Nat.ble a b = true := Nat.ble_eq_true_of_le h
theorem beqn_self (a : Nat) : Nat.beq a a = true := Nat.beq_refl a
theorem beqn_false {a b : Nat} (h : a ≠ b) : Nat.beq a b = false := by
  cases hb : Nat.beq a b with
  | false => rfl
  | true => exact absurd (Nat.eq_of_beq_eq_true hb) h
theorem toNat_of (n : Nat) : Int.toNat (Int.ofNat n) = n := rfl
theorem succ_i64 {n : Nat} (h : n < 9223372036854775807) : IntKind.i64.wrap (Int.ofNat n + 1) = Int.ofNat (n + 1) := wrap_i64 (by simp; omega) (by simp; omega)
theorem ile_ofNat (n : Nat) : ile 0 (Int.ofNat n) = true := ile_true (by simp)
theorem ilt_ofNat {m n : Nat} : ilt (Int.ofNat m) (Int.ofNat n) = decide (m < n) := by simp [ilt]
/-- A loop whose heads are known one by one. -/
theorem run_to {X : Type} {ok go : X → Bool} {step : X → X} (S : Nat → X) (n : Nat) (hok : ∀ k, k ≤ n → ok (S k) = true) (hgo : ∀ k, k < n → go (S k) = true) (hst : ∀ k, k < n → step (S k) = S (k + 1)) (hend : go (S n) = false) :
    endsL ok go step (S 0) = true ∧ lastL ok go step (S 0) = S n := by
  have key : ∀ d k, k + d = n → endsL ok go step (S k) = true ∧ lastL ok go step (S k) = S n := by
    intro d
    induction d with
    | zero =>
      intro k hk
      have : k = n := by omega
      subst this
      have he : endsL ok go step (S k) = true := endsL_step (hok k (Nat.le_refl _)) fun e => by rw [hend] at e; cases e
      exact ⟨he, lastL_stop he hend⟩
    | succ d ih =>
      intro k hk
      obtain ⟨h1, h2⟩ := ih (k + 1) (by omega)
      have hg := hgo k (by omega)
      rw [← hst k (by omega)] at h1 h2
      have he : endsL ok go step (S k) = true := endsL_step (hok k (by omega)) fun _ => h1
      exact ⟨he, by rw [lastL_go he hg]; exact h2⟩
  exact key n 0 (by omega)
theorem reach_val : reachBytes = 140737488351232 := rfl
end Go.Proofs.Ytbkogihigehjlaa
