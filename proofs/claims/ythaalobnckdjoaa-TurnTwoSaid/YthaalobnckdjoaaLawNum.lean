/- The program's sameness of floats. -/
import Derived.Test.YthaalobnckdjoaaFns
import Derived.Test.YthaalobnckdjoaaSimEnds
set_option linter.unusedVariables false
namespace Go.Proofs.Ythaalobnckdjoaa
open Go.Sim
theorem minus_zero : s_num_minus_float64__0 0 = false := by decide
theorem minus_nought : s_num_minus_float64__0 9223372036854775808 = true := by decide
theorem num_same {a b : Nat} (ha : CF a) (hb : CF b) : s_num_Same_float64__0 a b = decide (a = b) := by
  unfold s_num_Same_float64__0 s_num_none_float64__0
  rw [feq_self, feq_self]
  cases na : nanb a
  · cases nb : nanb b
    · by_cases za : feq a 0 = true
      · rw [za]
        by_cases zb : feq b 0 = true
        · rw [zb]
          rcases (feq_zero ha.lt na).1 za with rfl | rfl <;> rcases (feq_zero hb.lt nb).1 zb with rfl | rfl <;> simp [minus_zero, minus_nought]
        · have zb' : feq b 0 = false := by simpa using zb
          rw [zb']
          have : feq a b = false := by
            rw [feq_key na nb]
            have h1 := (feq_zero ha.lt na).1 za
            have h2 : key b ≠ 0 := fun h => zb ((feq_zero hb.lt nb).2 ((key_zero hb.lt).1 h))
            have h3 := (key_zero ha.lt).2 h1
            simp; omega
          rw [this]
          have : a ≠ b := fun h => zb (h ▸ za)
          simp [this]
      · have za' : feq a 0 = false := by simpa using za
        rw [za']
        have h2 : key a ≠ 0 := fun h => za ((feq_zero ha.lt na).2 ((key_zero ha.lt).1 h))
        rw [feq_key na nb]
        by_cases hk : key a = key b
        · have := key_inj ha.lt hb.lt hk h2
          simp [this]
        · have : a ≠ b := fun h => hk (by rw [h])
          simp [hk, this]
    · have h1 := hb.nan nb
      have : a ≠ b := fun h => by rw [h, nb] at na; cases na
      rw [feq_nan (a := b) (.inl nb), feq_nan (a := a) (b := b) (.inr nb)]
      cases feq a 0 <;> simp [this]
  · have h1 := ha.nan na
    cases nb : nanb b
    · have : a ≠ b := fun h => by rw [← h, na] at nb; cases nb
      rw [feq_nan (a := a) (.inl na), feq_nan (a := a) (b := b) (.inl na)]
      simp [this]
    · have h2 := hb.nan nb
      rw [feq_nan (a := a) (.inl na), feq_nan (a := a) (b := b) (.inl na)]
      simp [h1, h2]
theorem u64ok_of {a : Nat} (h : a < 18446744073709551616) : u64ok (Int.ofNat a) = true := by
  simp only [u64ok, Nat.blt_eq]; exact h
theorem bif_true {α : Type} {c : Bool} {x y z : α} (hc : c = true) (hx : x = z) : (bif c then x else y) = z := by rw [hc]; exact hx
theorem end_true {b : Bool} (h : b = true) : endP (AV.bool b) [] = some (.bool true, []) := by rw [h]; rfl
end Go.Proofs.Ythaalobnckdjoaa
