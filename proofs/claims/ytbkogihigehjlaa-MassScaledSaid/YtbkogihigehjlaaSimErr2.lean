/- Errors: bounds of literals, two products made one sum. -/
import Derived.Test.YtbkogihigehjlaaSimErr
set_option linter.unusedVariables false
set_option linter.unusedSimpArgs false
namespace Go.Sim
open Ieee
theorem eta_le {a : Nat} (hs : sgnOf a = false) (h : 576460752303423488 ≤ magOf (rungOf a)) : eta ≤ rv a / 1152921504606846976 := by
  have hu := uu_pos
  have e : eta * (2 * uu) = 1 := by unfold eta; grind
  have m := rv_mul_uu a
  rw [sval_sgn, hs] at m
  simp only [Bool.false_eq_true, if_false, Rat.intCast_natCast] at m
  have h2 : ((576460752303423488 : Nat) : Rat) ≤ (magOf (rungOf a) : Rat) := Rat.natCast_le_natCast.2 h
  have h3 : ((576460752303423488 : Nat) : Rat) = 576460752303423488 := rfl
  rw [m, h3] at h2
  clear h m h3
  have hu2 : 0 < 2 * uu := by grind
  exact cancel_le hu2 (by grind)
theorem lit_big {a : Nat} (hs : sgnOf a = false) (h : magOf (rungOf a) * 1024 ≤ magOf bigR) : rv a * 1024 ≤ big := by
  have hu := uu_pos
  have m := rv_mul_uu a
  rw [sval_sgn, hs] at m
  simp only [Bool.false_eq_true, if_false, Rat.intCast_natCast] at m
  have h2 : ((magOf (rungOf a) * 1024 : Nat) : Rat) ≤ (magOf bigR : Rat) := Rat.natCast_le_natCast.2 h
  rw [Rat.natCast_mul, m] at h2
  have h3 : ((1024 : Nat) : Rat) = 1024 := rfl
  rw [h3] at h2
  have e : big * uu = (magOf bigR : Rat) := by unfold big; grind
  clear h m h3
  exact cancel_le hu (by grind)
theorem rv_lo : rv 4607182418800009216 = ((1099511627775 : Nat) : Rat) / ((1099511627776 : Nat) : Rat) := rv_lit (by decide) (by decide) (by intro d hd; subst hd; decide +kernel)
theorem rv_hi : rv 4607182418800021504 = ((1099511627777 : Nat) : Rat) / ((1099511627776 : Nat) : Rat) := rv_lit (by decide) (by decide) (by intro d hd; subst hd; decide +kernel)
theorem rv_38 : rv 4436045632959938560 = ((1 : Nat) : Rat) / ((274877906944 : Nat) : Rat) := rv_lit (by decide) (by decide) (by intro d hd; subst hd; decide +kernel)
theorem rv_one : rv 4607182418800017408 = ((1 : Nat) : Rat) / ((1 : Nat) : Rat) := rv_lit (by decide) (by decide) (by intro d hd; subst hd; decide +kernel)
theorem big_ge : (1024 : Rat) ≤ big := by
  have := lit_big (a := 4607182418800017408) (by decide) (by decide +kernel)
  rw [rv_one] at this
  have e : ((1 : Nat) : Rat) = 1 := rfl
  rw [e] at this; grind
theorem eta_small : eta ≤ 1 / 1152921504606846976 := by
  have := eta_le (a := 4607182418800017408) (by decide) (by decide +kernel)
  rw [rv_one] at this
  have e : ((1 : Nat) : Rat) = 1 := rfl
  rw [e] at this; grind
theorem flt_rv {a b : Nat} (fa : fin a = true) (fb : fin b = true) : flt a b = !decide (rv b ≤ rv a) := by
  have := rv_le fb fa
  rw [flt_key (fin_not_nan fa) (fin_not_nan fb)]
  rw [fle_key (fin_not_nan fb) (fin_not_nan fa)] at this
  rw [← this]
  by_cases h : key b ≤ key a
  · have : ¬ key a < key b := by omega
    simp [h, this]
  · have : key a < key b := by omega
    simp [h, this]
/-- Two products made one sum. -/
theorem two_w {r i x y : Nat} {A C W : Rat} (fr : fin r = true) (fi : fin i = true) (fx : fin x = true) (fy : fin y = true) (r1 : -(11 / 10) ≤ rv r) (r2 : rv r ≤ 11 / 10) (i1 : -(11 / 10) ≤ rv i) (i2 : rv i ≤ 11 / 10)
    (x1 : -A ≤ rv x) (x2 : rv x ≤ A) (y1 : -C ≤ rv y) (y2 : rv y ≤ C) (hA : 0 ≤ A) (hC : 0 ≤ C) (hA2 : A ≤ 4 * W) (hC2 : C ≤ 4 * W) (hb : W * 256 ≤ big) (h0 : 0 ≤ W) (he : W = 0 ∨ eta ≤ W / 1152921504606846976) :
    (fin (fmul r x) = true ∧ fin (fmul i y) = true) ∧ (fin (fadd (fmul r x) (fmul i y)) = true ∧ -((A + C) / 2251799813685248 + W / 288230376151711744) ≤ rv (fadd (fmul r x) (fmul i y)) - (rv r * rv x + rv i * rv y) ∧ rv (fadd (fmul r x) (fmul i y)) - (rv r * rv x + rv i * rv y) ≤ (A + C) / 2251799813685248 + W / 288230376151711744) ∧
      (fin (fsub (fmul r x) (fmul i y)) = true ∧ -((A + C) / 2251799813685248 + W / 288230376151711744) ≤ rv (fsub (fmul r x) (fmul i y)) - (rv r * rv x - rv i * rv y) ∧ rv (fsub (fmul r x) (fmul i y)) - (rv r * rv x - rv i * rv y) ≤ (A + C) / 2251799813685248 + W / 288230376151711744) := by
  have p := mul_le r1 r2 x1 x2
  have q := mul_le i1 i2 y1 y2
  have z1 : W = 0 → rv r * rv x = 0 := by
    intro h
    have e : rv x = 0 := by grind
    rw [e]; grind
  have z2 : W = 0 → rv i * rv y = 0 := by
    intro h
    have e : rv y = 0 := by grind
    rw [e]; grind
  have z3 : W ≠ 0 → eta ≤ W / 1152921504606846976 := by
    intro h
    rcases he with h' | h'
    · exact absurd h' h
    · exact h'
  obtain ⟨f1, a1, a2⟩ := mul_w (B := 11 / 10 * A) (W := W) fr fx (by grind) p.1 p.2 ⟨z1, z3⟩
  obtain ⟨f2, b1, b2⟩ := mul_w (B := 11 / 10 * C) (W := W) fi fy (by grind) q.1 q.2 ⟨z2, z3⟩
  have l2 := (CF.mul i y).lt
  obtain ⟨g1, c1, c2⟩ := rv_add (B := 2 * (A + C) + W / 288230376151711744) f1 f2 (by grind) (by grind) (by grind)
  obtain ⟨g2, d1, d2⟩ := rv_sub (B := 2 * (A + C) + W / 288230376151711744) l2 f1 f2 (by grind) (by grind) (by grind)
  generalize rv (fadd (fmul r x) (fmul i y)) = s1 at *
  generalize rv (fsub (fmul r x) (fmul i y)) = s2 at *
  generalize rv (fmul r x) = t1 at *
  generalize rv (fmul i y) = t2 at *
  generalize rv r * rv x = u1 at *
  generalize rv i * rv y = u2 at *
  refine ⟨⟨f1, f2⟩, ⟨g1, ?_, ?_⟩, ⟨g2, ?_, ?_⟩⟩ <;> grind
end Go.Sim
