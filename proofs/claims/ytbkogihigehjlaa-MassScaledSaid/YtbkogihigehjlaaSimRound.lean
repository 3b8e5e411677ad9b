/- Rounding to the nearest word, as one law over whole numbers: the value 'n * 2^-d' in units of the least subnormal number comes to the rung 'RN n d'. -/
import Derived.Test.YtbkogihigehjlaaSimOrder
namespace Go.Sim
open Ieee

/-- 'n / 2^k', rounded to the nearest whole number, between two to the even one. -/
def rte (n k : Nat) : Nat := n / 2 ^ k + (if 2 ^ k < 2 * (n % 2 ^ k) ∨ (2 ^ k = 2 * (n % 2 ^ k) ∧ n / 2 ^ k % 2 = 1) then 1 else 0)
/-- How many places above the least one the last kept digit stands. -/
def up (n d : Nat) : Nat := n.log2 - (52 + d)
def RN (n d : Nat) : Nat := min (up n d * 4503599627370496 + rte n (d + up n d)) 9218868437227405312

theorem log2_mul_pow {n : Nat} (h : n ≠ 0) (k : Nat) : (n * 2 ^ k).log2 = n.log2 + k := by
  have hp : 0 < 2 ^ k := Nat.pow_pos (by decide)
  have hne : n * 2 ^ k ≠ 0 := Nat.mul_ne_zero h (Nat.ne_of_gt hp)
  rw [Nat.log2_eq_iff hne]
  have h1 := Nat.log2_self_le h
  have h2 := @Nat.lt_log2_self n
  constructor
  · rw [Nat.pow_add]; exact Nat.mul_le_mul_right _ h1
  · rw [show n.log2 + k + 1 = (n.log2 + 1) + k by omega, Nat.pow_add]; exact Nat.mul_lt_mul_of_pos_right h2 hp

theorem rte_scale (n k j : Nat) : rte (n * 2 ^ j) (k + j) = rte n k := by
  have hp : 0 < 2 ^ j := Nat.pow_pos (by decide)
  unfold rte
  rw [Nat.pow_add, Nat.mul_div_mul_right _ _ hp, Nat.mul_mod_mul_right]
  have e1 : (2 ^ k * 2 ^ j < 2 * (n % 2 ^ k * 2 ^ j)) ↔ 2 ^ k < 2 * (n % 2 ^ k) := by
    rw [← Nat.mul_assoc]; exact Nat.mul_lt_mul_right hp
  have e2 : (2 ^ k * 2 ^ j = 2 * (n % 2 ^ k * 2 ^ j)) ↔ 2 ^ k = 2 * (n % 2 ^ k) := by
    rw [← Nat.mul_assoc]; exact Nat.mul_left_inj (Nat.ne_of_gt hp)
  simp only [e1, e2]

theorem cut_rte (neg : Bool) (n k : Nat) : Toward.even.cut neg n k = rte n k := by
  unfold Toward.cut
  simp only [Nat.shiftLeft_eq, Nat.one_mul]
  by_cases hk : k ≤ n.log2 + 2
  · rw [Nat.min_eq_left hk]
    unfold rte
    congr 1
    by_cases h1 : 2 ^ k < 2 * (n % 2 ^ k)
    · simp [h1]
    · by_cases h2 : 2 ^ k = 2 * (n % 2 ^ k) ∧ n / 2 ^ k % 2 = 1
      · simp [← h2.1, h2.2]
      · rw [if_neg (by omega)]
        simp only [Bool.toNat_eq_zero, Bool.or_eq_false_iff, decide_eq_false_iff_not, Bool.and_eq_false_iff, beq_eq_false_iff_ne]
        refine ⟨h1, ?_⟩
        by_cases h3 : 2 ^ k = 2 * (n % 2 ^ k)
        · right; intro h4; exact h2 ⟨h3, h4⟩
        · left; exact h3
  · have hl : n < 2 ^ (n.log2 + 1) := Nat.lt_log2_self
    have hg : 2 ^ (n.log2 + 2) = 2 * 2 ^ (n.log2 + 1) := by rw [Nat.pow_succ]; omega
    have hk2 : 2 ^ (n.log2 + 2) ≤ 2 ^ k := Nat.pow_le_pow_right (by decide) (by omega)
    rw [Nat.min_eq_right (by omega)]
    unfold rte
    rw [Nat.div_eq_of_lt (by omega), Nat.mod_eq_of_lt (by omega), Nat.div_eq_of_lt (b := 2 ^ k) (by omega), Nat.mod_eq_of_lt (b := 2 ^ k) (by omega), if_neg (by omega)]
    have : ¬ 2 ^ (n.log2 + 2) < 2 * n := by omega
    simp [this]

theorem RN_scale (n d k : Nat) : RN (n * 2 ^ k) (d + k) = RN n d := by
  by_cases hn : n = 0
  · subst hn
    have h0 : ∀ d, RN 0 d = 0 := by
      intro d; unfold RN up rte; simp
    rw [Nat.zero_mul, h0, h0]
  · have hu : up (n * 2 ^ k) (d + k) = up n d := by unfold up; rw [log2_mul_pow hn]; omega
    unfold RN
    rw [hu, show d + k + up n d = (d + up n d) + k by omega, rte_scale]

theorem RN_zero (d : Nat) : RN 0 d = 0 := by unfold RN up rte; simp

/-- 'nearest' is 'RN'. -/
theorem nearest_RN (neg : Bool) (m : Nat) (p : Int) (d : Nat) (h : 0 ≤ p + 1074 + d) : double.nearest neg m p = double.word neg (RN (m * 2 ^ (p + 1074 + d).toNat) d) := by
  obtain ⟨c1, c2, c3, c4⟩ := double_consts
  have c5 : double.fractionBits = 52 := rfl
  unfold Format.nearest
  by_cases hm : m = 0
  · subst hm; rw [if_pos rfl, Nat.zero_mul, RN_zero]
  · rw [if_neg hm]
    dsimp only
    rw [c1, c2, c4, c5, cut_rte, Nat.shiftLeft_eq]
    refine congrArg (double.word neg) ?_
    unfold RN
    generalize hA : (p + 1074 + d).toNat = A
    have hup : up (m * 2 ^ A) d = (max (p + (m.log2 : Int) - ((52 : Nat) : Int)) (-1074) - -1074).toNat := by
      unfold up; rw [log2_mul_pow hm]; omega
    rw [hup]
    generalize hU : (max (p + (m.log2 : Int) - ((52 : Nat) : Int)) (-1074) - -1074).toNat = U
    have hL : max (p + (m.log2 : Int) - ((52 : Nat) : Int)) (-1074) = U - 1074 := by omega
    rw [hL]
    suffices h : rte (m * 2 ^ (p - ((U : Int) - 1074)).toNat) (((U : Int) - 1074) - p).toNat = rte (m * 2 ^ A) (d + U) by rw [h]
    by_cases hc : (p : Int) ≤ U - 1074
    · have e1 : (p - (↑U - 1074)).toNat = 0 := by omega
      have e2 : d + U = ((↑U - 1074) - p).toNat + A := by omega
      rw [e1, e2, rte_scale, Nat.pow_zero, Nat.mul_one]
    · have e1 : ((↑U - 1074) - p).toNat = 0 := by omega
      have e2 : A = (p - (↑U - 1074)).toNat + (d + U) := by omega
      rw [e1, e2, Nat.pow_add, ← Nat.mul_assoc]
      have := rte_scale (m * 2 ^ (p - (↑U - 1074)).toNat) 0 (d + U)
      rw [Nat.zero_add] at this
      rw [this]

theorem rte_zero_exp (n : Nat) : rte n 0 = n := by unfold rte; simp [Nat.mod_one]
/-- The error of one cut. -/
theorem rte_err (n k : Nat) : 2 * (rte n k * 2 ^ k) ≤ 2 * n + 2 ^ k ∧ 2 * n ≤ 2 * (rte n k * 2 ^ k) + 2 ^ k := by
  have hd := Nat.div_add_mod n (2 ^ k)
  have hm := Nat.mod_lt n (Nat.pow_pos (n := k) (show 0 < 2 by decide))
  unfold rte
  generalize n / 2 ^ k = q at *
  generalize n % 2 ^ k = r at *
  generalize 2 ^ k = P at *
  rw [Nat.add_mul, Nat.mul_comm q P]
  split <;> omega
theorem rte_mono {n n' : Nat} (h : n ≤ n') (k : Nat) : rte n k ≤ rte n' k := by
  have hd := Nat.div_add_mod n (2 ^ k)
  have hd' := Nat.div_add_mod n' (2 ^ k)
  have hm := Nat.mod_lt n (Nat.pow_pos (n := k) (show 0 < 2 by decide))
  have hm' := Nat.mod_lt n' (Nat.pow_pos (n := k) (show 0 < 2 by decide))
  have hq : n / 2 ^ k ≤ n' / 2 ^ k := Nat.div_le_div_right h
  unfold rte
  generalize n / 2 ^ k = q at *
  generalize n % 2 ^ k = r at *
  generalize n' / 2 ^ k = q' at *
  generalize n' % 2 ^ k = r' at *
  generalize 2 ^ k = P at *
  by_cases he : q = q'
  · subst he
    split <;> split <;> omega
  · split <;> split <;> omega
theorem rte_exact (n k : Nat) : rte (n * 2 ^ k) k = n := by
  have := rte_scale n 0 k
  rw [Nat.zero_add, rte_zero_exp] at this; exact this
theorem rte_range {n d : Nat} : (up n d = 0 ∧ rte n d ≤ 9007199254740992) ∨ (0 < up n d ∧ 4503599627370496 ≤ rte n (d + up n d) ∧ rte n (d + up n d) ≤ 9007199254740992) := by
  have hub : rte n (d + up n d) ≤ 9007199254740992 := by
    have h1 : n ≤ 9007199254740992 * 2 ^ (d + up n d) := by
      have hl : n < 2 ^ (n.log2 + 1) := Nat.lt_log2_self
      have : 9007199254740992 * 2 ^ (d + up n d) = 2 ^ (53 + (d + up n d)) := by rw [Nat.pow_add 2 53]
      rw [this]
      refine Nat.le_trans (Nat.le_of_lt hl) (Nat.pow_le_pow_right (by decide) ?_)
      unfold up; omega
    have := rte_mono h1 (d + up n d)
    rw [rte_exact] at this; exact this
  by_cases hu : up n d = 0
  · left; rw [hu] at hub; exact ⟨hu, hub⟩
  · right
    refine ⟨by omega, ?_, hub⟩
    have hn : n ≠ 0 := by intro h; subst h; unfold up at hu; simp at hu
    have h1 : 4503599627370496 * 2 ^ (d + up n d) ≤ n := by
      have hl := Nat.log2_self_le hn
      have : 4503599627370496 * 2 ^ (d + up n d) = 2 ^ (52 + (d + up n d)) := by rw [Nat.pow_add 2 52]
      rw [this]
      refine Nat.le_trans (Nat.pow_le_pow_right (by decide) ?_) hl
      unfold up at *; omega
    have := rte_mono h1 (d + up n d)
    rw [rte_exact] at this; exact this
theorem magOf_parts {e q : Nat} (h : (e = 0 ∧ q ≤ 9007199254740992) ∨ (4503599627370496 ≤ q ∧ q ≤ 9007199254740992)) : magOf (e * 4503599627370496 + q) = q * 2 ^ e := by
  unfold magOf
  by_cases h1 : q < 4503599627370496
  · have he : e = 0 := by omega
    subst he; rw [if_pos (by omega)]; simp
  · by_cases h2 : q = 9007199254740992
    · subst h2
      rw [if_neg (by omega)]
      have e1 : (e * 4503599627370496 + 9007199254740992) % 4503599627370496 = 0 := by omega
      have e2 : (e * 4503599627370496 + 9007199254740992) / 4503599627370496 - 1 = e + 1 := by omega
      rw [e1, e2, Nat.pow_succ, Nat.mul_comm (2 ^ e) 2, ← Nat.mul_assoc]
    · rw [if_neg (by omega)]
      have e1 : (e * 4503599627370496 + q) % 4503599627370496 = q - 4503599627370496 := by omega
      have e2 : (e * 4503599627370496 + q) / 4503599627370496 - 1 = e := by omega
      rw [e1, e2, show 4503599627370496 + (q - 4503599627370496) = q by omega]
/-- The rung that is met when nothing is too great. -/
def RN' (n d : Nat) : Nat := up n d * 4503599627370496 + rte n (d + up n d)
theorem RN_eq (n d : Nat) : RN n d = min (RN' n d) 9218868437227405312 := rfl
theorem mag_RN' (n d : Nat) : magOf (RN' n d) = rte n (d + up n d) * 2 ^ up n d := by
  unfold RN'
  apply magOf_parts
  rcases @rte_range n d with ⟨h1, h2⟩ | ⟨h1, h2, h3⟩
  · left; rw [h1]; exact ⟨rfl, h2⟩
  · right; exact ⟨h2, h3⟩
theorem up_mono {n n' : Nat} (h : n ≤ n') (d : Nat) : up n d ≤ up n' d := by
  by_cases hn : n = 0
  · subst hn; unfold up; simp
  · have : n.log2 ≤ n'.log2 := by
      rw [Nat.le_log2 (by omega)]
      exact Nat.le_trans (Nat.log2_self_le hn) h
    unfold up; omega
theorem RN'_mono {n n' : Nat} (h : n ≤ n') (d : Nat) : RN' n d ≤ RN' n' d := by
  have hu := up_mono h d
  unfold RN'
  by_cases he : up n d = up n' d
  · rw [he]; have := rte_mono h (d + up n' d); omega
  · rcases @rte_range n d with ⟨h1, h2⟩ | ⟨h1, h2, h3⟩ <;> rcases @rte_range n' d with ⟨g1, g2⟩ | ⟨g1, g2, g3⟩
    · omega
    · rw [h1, Nat.add_zero]; omega
    · omega
    · omega
theorem RN_mono {n n' : Nat} (h : n ≤ n') (d : Nat) : RN n d ≤ RN n' d := by
  have := RN'_mono h d
  rw [RN_eq, RN_eq]; omega
/-- What a word stands for exactly is met exactly. -/
theorem RN'_exact (r d : Nat) : RN' (magOf r * 2 ^ d) d = r := by
  apply magOf_inj
  rw [mag_RN']
  unfold magOf
  split
  · rename_i h
    have hu : up (r * 2 ^ d) d = 0 := by
      by_cases hr : r = 0
      · subst hr; unfold up; simp
      · unfold up; rw [log2_mul_pow hr]
        have : r.log2 < 52 := (Nat.log2_lt hr).2 h
        omega
    rw [hu, Nat.add_zero, rte_exact, Nat.pow_zero, Nat.mul_one]
  · rename_i h
    generalize hk : r / 4503599627370496 - 1 = k
    generalize hm : 4503599627370496 + r % 4503599627370496 = m
    have hm0 : m ≠ 0 := by omega
    have hl : m.log2 = 52 := by rw [Nat.log2_eq_iff hm0]; constructor <;> omega
    have hu : up (m * 2 ^ k * 2 ^ d) d = k := by
      rw [Nat.mul_assoc, ← Nat.pow_add]
      unfold up; rw [log2_mul_pow hm0, hl]; omega
    rw [hu, Nat.mul_assoc, ← Nat.pow_add, Nat.add_comm k d, rte_exact]
theorem RN_exact {r : Nat} (h : r ≤ 9218868437227405312) (d : Nat) : RN (magOf r * 2 ^ d) d = r := by
  rw [RN_eq, RN'_exact]; omega
/-- The error of one rounding, where nothing is too great. -/
theorem RN'_err (n d : Nat) : 2 * (magOf (RN' n d) * 2 ^ d) ≤ 2 * n + 2 ^ (d + up n d) ∧ 2 * n ≤ 2 * (magOf (RN' n d) * 2 ^ d) + 2 ^ (d + up n d) := by
  have := rte_err n (d + up n d)
  rw [mag_RN', Nat.mul_assoc, ← Nat.pow_add, Nat.add_comm (up n d) d]
  exact this
theorem up_le (n d : Nat) : up n d = 0 ∨ 2 ^ (d + up n d) * 4503599627370496 ≤ n := by
  by_cases hu : up n d = 0
  · exact .inl hu
  · right
    have hn : n ≠ 0 := by intro h; subst h; unfold up at hu; simp at hu
    have hl := Nat.log2_self_le hn
    have : 2 ^ (d + up n d) * 4503599627370496 = 2 ^ ((d + up n d) + 52) := by rw [Nat.pow_add 2 _ 52]
    rw [this]
    refine Nat.le_trans (Nat.pow_le_pow_right (by decide) ?_) hl
    unfold up at *; omega
end Go.Sim
