/- Products of floats that are nought or of usual size: what is lost, in parts of the product. -/
import Derived.Test.YtbkogihigehjlaaSimErr2
set_option linter.unusedVariables false
set_option linter.unusedSimpArgs false
namespace Go.Sim
open Ieee
/-- Nought, or from lo to hi. -/
def Us (lo hi q : Rat) : Prop := q = 0 ∨ (lo ≤ q ∧ q ≤ hi)
theorem Us.mul {l1 h1 l2 h2 p q : Rat} (a : Us l1 h1 p) (b : Us l2 h2 q) (n1 : 0 ≤ l1) (n2 : 0 ≤ l2) : Us (l1 * l2) (h1 * h2) (p * q) := by
  rcases a with a | ⟨a1, a2⟩
  · left; rw [a]; grind
  rcases b with b | ⟨b1, b2⟩
  · left; rw [b]; grind
  right
  have m1 := Rat.mul_nonneg (show 0 ≤ p - l1 by grind) (show 0 ≤ q - l2 by grind)
  have m2 := Rat.mul_nonneg n1 (show 0 ≤ q - l2 by grind)
  have m3 := Rat.mul_nonneg n2 (show 0 ≤ p - l1 by grind)
  have m4 := Rat.mul_nonneg (show 0 ≤ h1 - p by grind) (show 0 ≤ h2 - q by grind)
  have m5 := Rat.mul_nonneg (show 0 ≤ p by grind) (show 0 ≤ h2 - q by grind)
  have m6 := Rat.mul_nonneg (show 0 ≤ q by grind) (show 0 ≤ h1 - p by grind)
  constructor <;> grind
theorem Us.nonneg {l h q : Rat} (a : Us l h q) (n : 0 ≤ l) : 0 ≤ q := by
  rcases a with a | ⟨a, _⟩ <;> grind
theorem Us.le {l h q : Rat} (a : Us l h q) (n : 0 ≤ h) : q ≤ h := by
  rcases a with a | ⟨_, a⟩ <;> grind
theorem big_200 : (1606938044258990275541962092341162602522202993782792835301376 : Rat) ≤ big := by
  have h := lit_big (a := 5507902344274116608) (by decide) (by decide +kernel)
  have e : rv 5507902344274116608 = ((1606938044258990275541962092341162602522202993782792835301376 : Nat) : Rat) / ((1 : Nat) : Rat) := rv_lit (by decide) (by decide) (by intro d hd; subst hd; decide +kernel)
  rw [e] at h
  have k1 : ((1606938044258990275541962092341162602522202993782792835301376 : Nat) : Rat) = 1606938044258990275541962092341162602522202993782792835301376 := rfl
  have k2 : ((1 : Nat) : Rat) = 1 := rfl
  rw [k1, k2] at h
  grind
theorem eta_200 : eta ≤ 1 / 1606938044258990275541962092341162602522202993782792835301376 := by
  have h := eta_le (a := 3706462493325918208) (by decide) (by decide +kernel)
  have e : rv 3706462493325918208 = ((1 : Nat) : Rat) / ((1606938044258990275541962092341162602522202993782792835301376 : Nat) : Rat) := rv_lit (by decide) (by decide) (by intro d hd; subst hd; decide +kernel)
  rw [e] at h
  have k1 : ((1606938044258990275541962092341162602522202993782792835301376 : Nat) : Rat) = 1606938044258990275541962092341162602522202993782792835301376 := rfl
  have k2 : ((1 : Nat) : Rat) = 1 := rfl
  rw [k1, k2] at h
  have := eta_pos
  grind
theorem abs_cases {a : Nat} (fa : fin a = true) : fin (fabs a) = true ∧ 0 ≤ rv (fabs a) ∧ (rv a = rv (fabs a) ∨ rv a = -rv (fabs a)) := by
  obtain ⟨f, p1, p2, p3⟩ := rv_abs fa
  refine ⟨f, p3, ?_⟩
  rcases Rat.le_total (a := 0) (b := rv a) with h | h
  · left; rw [p1 h]
  · right; have := p2 h; grind
theorem abs_mul {a b : Nat} {lo hi : Rat} (fa : fin a = true) (fb : fin b = true) (h : Us lo hi (rv (fabs a) * rv (fabs b))) (hl : 1 / 1393796574908163946345982392040522594123776 ≤ lo) (hh : hi ≤ 1393796574908163946345982392040522594123776) (hp : 0 ≤ hi) :
    fin (fmul a b) = true ∧ rv (fabs a) * rv (fabs b) - rv (fabs a) * rv (fabs b) / 4503599627370496 ≤ rv (fabs (fmul a b)) ∧ rv (fabs (fmul a b)) ≤ rv (fabs a) * rv (fabs b) + rv (fabs a) * rv (fabs b) / 4503599627370496 ∧
    (0 ≤ rv a → 0 ≤ rv b → 0 ≤ rv (fmul a b)) := by
  obtain ⟨_, a0, ha⟩ := abs_cases fa
  obtain ⟨_, b0, hb⟩ := abs_cases fb
  have bg := big_200
  have et := eta_200
  have e0 := eta_pos
  have hX : rv a * rv b = rv (fabs a) * rv (fabs b) ∨ rv a * rv b = -(rv (fabs a) * rv (fabs b)) := by
    rcases ha with ha | ha <;> rcases hb with hb | hb <;> rw [ha, hb]
    · left; rfl
    · right; grind
    · right; grind
    · left; grind
  have hpos : 0 ≤ rv a → 0 ≤ rv b → 0 ≤ rv a * rv b := fun h1 h2 => Rat.mul_nonneg h1 h2
  have X0 : 0 ≤ rv (fabs a) * rv (fabs b) := Rat.mul_nonneg a0 b0
  have hle := h.le hp
  have hz : rv (fabs a) * rv (fabs b) = 0 ∨ eta ≤ rv (fabs a) * rv (fabs b) / 1152921504606846976 := by
    rcases h with h | ⟨h, _⟩
    · exact .inl h
    · right; grind
  generalize rv (fabs a) * rv (fabs b) = X at *
  have z1 : X = 0 → rv a * rv b = 0 := by
    intro h; rcases hX with h' | h' <;> grind
  have z3 : X ≠ 0 → eta ≤ X / 1152921504606846976 := by
    intro h
    rcases hz with h' | h'
    · exact absurd h' h
    · exact h'
  obtain ⟨f, c1, c2⟩ := mul_w (B := X) (W := X) fa fb (by grind) (by rcases hX with h' | h' <;> grind) (by rcases hX with h' | h' <;> grind) ⟨z1, z3⟩
  obtain ⟨_, p1, p2, p3⟩ := rv_abs f
  refine ⟨f, ?_, ?_, ?_⟩
  · rcases Rat.le_total (a := 0) (b := rv (fmul a b)) with h' | h'
    · rw [p1 h']; rcases hX with h1 | h1 <;> grind
    · rw [p2 h']; rcases hX with h1 | h1 <;> grind
  · rcases Rat.le_total (a := 0) (b := rv (fmul a b)) with h' | h'
    · rw [p1 h']; rcases hX with h1 | h1 <;> grind
    · rw [p2 h']; rcases hX with h1 | h1 <;> grind
  · intro h1 h2
    have := hpos h1 h2
    rcases hX with h' | h' <;> grind
/-- Three factors. -/
theorem abs_mul3 {a b c : Nat} (fa : fin a = true) (fb : fin b = true) (fc : fin c = true) (ua : Us (1 / 1099511627776) 1099511627776 (rv (fabs a))) (ub : Us (1 / 1099511627776) 1099511627776 (rv (fabs b))) (uc : Us (1 / 1099511627776) 1099511627776 (rv (fabs c))) :
    fin (fmul a b) = true ∧ fin (fmul (fmul a b) c) = true ∧ 9 / 10 * (rv (fabs a) * rv (fabs b) * rv (fabs c)) ≤ rv (fabs (fmul (fmul a b) c)) ∧ rv (fabs (fmul (fmul a b) c)) ≤ 11 / 10 * (rv (fabs a) * rv (fabs b) * rv (fabs c)) ∧
    (0 ≤ rv a → 0 ≤ rv b → 0 ≤ rv c → 0 ≤ rv (fmul (fmul a b) c)) ∧ Us (1 / 1329227995784915872903807060280344576) 1329227995784915872903807060280344576 (rv (fabs a) * rv (fabs b) * rv (fabs c)) := by
  have h1 := ua.mul ub (by grind) (by grind)
  have h2 := h1.mul uc (by grind) (by grind)
  obtain ⟨f1, k1, k2, k3⟩ := abs_mul fa fb h1 (by grind) (by grind) (by grind)
  have c0 := uc.nonneg (by grind)
  have X0 := h1.nonneg (by grind)
  have hK : Us (1 / 2417851639229258349412352) 2417851639229258349412352 (rv (fabs (fmul a b))) := by
    rcases h1 with h | ⟨h, h'⟩
    · left; have := (abs_cases f1).2.1; grind
    · right; grind
  have h3 := hK.mul uc (by grind) (by grind)
  obtain ⟨f2, m1, m2, m3⟩ := abs_mul f1 fc h3 (by grind) (by grind) (by grind)
  have n1 := Rat.mul_nonneg (show 0 ≤ rv (fabs (fmul a b)) - (rv (fabs a) * rv (fabs b) - rv (fabs a) * rv (fabs b) / 4503599627370496) by grind) c0
  have n2 := Rat.mul_nonneg (show 0 ≤ rv (fabs a) * rv (fabs b) + rv (fabs a) * rv (fabs b) / 4503599627370496 - rv (fabs (fmul a b)) by grind) c0
  have n3 := Rat.mul_nonneg X0 c0
  have hU : Us (1 / 1329227995784915872903807060280344576) 1329227995784915872903807060280344576 (rv (fabs a) * rv (fabs b) * rv (fabs c)) := by
    rcases h2 with h | ⟨h, h'⟩
    · exact .inl h
    · right; grind
  refine ⟨f1, f2, ?_, ?_, fun q1 q2 q3 => m3 (k3 q1 q2) q3, hU⟩
  · generalize rv (fabs a) * rv (fabs b) = X at *
    generalize rv (fabs (fmul a b)) = K at *
    generalize rv (fabs c) = C at *
    generalize rv (fabs (fmul (fmul a b) c)) = R at *
    have e1 : (K - (X - X / 4503599627370496)) * C = K * C - (X * C - X * C / 4503599627370496) := by grind
    rw [e1] at n1
    grind
  · generalize rv (fabs a) * rv (fabs b) = X at *
    generalize rv (fabs (fmul a b)) = K at *
    generalize rv (fabs c) = C at *
    generalize rv (fabs (fmul (fmul a b) c)) = R at *
    have e2 : (X + X / 4503599627370496 - K) * C = (X * C + X * C / 4503599627370496) - K * C := by grind
    rw [e2] at n2
    grind
end Go.Sim
