/- What sums and products lose by rounding, over the rationals. -/
import Derived.Test.YtbkogihigehjlaaSimEnds
import Derived.Test.YtbkogihigehjlaaSimVal
namespace Go.Sim
open Ieee

/-! ### in whole units -/
theorem err_sum (n : Nat) (h : RN' n 0 < 9218868437227405312) : 9007199254740992 * (magOf (RN n 0) - n : Int).natAbs ≤ n := by
  have e : RN n 0 = RN' n 0 := by rw [RN_eq]; omega
  rw [e]
  have h1 := RN'_err n 0
  rcases up_le n 0 with h2 | h2
  · rw [h2] at h1
    simp only [Nat.pow_zero, Nat.mul_one, Nat.zero_add] at h1
    omega
  · simp only [Nat.pow_zero, Nat.mul_one, Nat.zero_add] at h1 h2
    generalize 2 ^ up n 0 = p at *
    omega
theorem err_product (n d : Nat) (h : RN' n d < 9218868437227405312) : 9007199254740992 * (magOf (RN n d) * 2 ^ d - n : Int).natAbs ≤ n ∨ 2 * (magOf (RN n d) * 2 ^ d - n : Int).natAbs ≤ 2 ^ d := by
  have e : RN n d = RN' n d := by rw [RN_eq]; omega
  rw [e]
  have h1 := RN'_err n d
  have hc : ((magOf (RN' n d) : Int) * 2 ^ d) = ((magOf (RN' n d) * 2 ^ d : Nat) : Int) := by simp
  rw [hc]
  rcases up_le n d with h2 | h2
  · right
    rw [h2, Nat.add_zero] at h1
    generalize 2 ^ d = p at *
    generalize magOf (RN' n d) * p = q at *
    omega
  · left
    generalize 2 ^ (d + up n d) = p at *
    generalize magOf (RN' n d) * 2 ^ d = q at *
    omega
theorem fin_word (s : Bool) {r : Nat} (h : r < 9218868437227405312) : fin (double.word s r) = true := by
  rw [fin_iff, rung_word s (by omega)]; exact h
/-- The greatest magnitude that we let in. -/
theorem RN_small {n d r : Nat} (hr : r < 9218868437227405312) (h : n ≤ magOf r * 2 ^ d) : RN' n d < 9218868437227405312 := by
  have := RN'_mono h d
  rw [RN'_exact] at this
  omega
theorem RN_lt {n d : Nat} (h : RN' n d < 9218868437227405312) : RN n d < 9218868437227405312 := by rw [RN_eq]; omega
theorem sum_key (m : Nat) (s : Int) (x y : Bool) : ((if (if s = 0 then x && y else decide (s < 0)) = true then -(m : Int) else (m : Int)) - s).natAbs = ((m : Int) - s.natAbs).natAbs := by
  by_cases h0 : s = 0
  · subst h0; simp only [if_true]; cases (x && y) <;> simp
  · simp only [h0, if_false]
    by_cases hs : s < 0
    · simp only [hs, decide_true, if_true]; omega
    · simp only [hs, decide_false, Bool.false_eq_true, if_false]; omega
theorem sum_int {a b r : Nat} (fa : fin a = true) (fb : fin b = true) (hr : r < 9218868437227405312) (h : (sval a + sval b).natAbs ≤ magOf r) :
    fin (fadd a b) = true ∧ 9007199254740992 * (sval (fadd a b) - (sval a + sval b)).natAbs ≤ (sval a + sval b).natAbs := by
  have hn : RN' (sval a + sval b).natAbs 0 < 9218868437227405312 := RN_small hr (by rw [Nat.pow_zero, Nat.mul_one]; exact h)
  have hw := RN_lt hn
  have h1 := err_sum _ hn
  have e : sval (fadd a b) = if (if sval a + sval b = 0 then sgnOf a && sgnOf b else decide (sval a + sval b < 0)) = true then -(magOf (RN (sval a + sval b).natAbs 0) : Int) else (magOf (RN (sval a + sval b).natAbs 0) : Int) := by
    rw [fadd_fin fa fb, sval_word _ (Nat.le_of_lt hw)]
  refine ⟨by rw [fadd_fin fa fb]; exact fin_word _ hw, ?_⟩
  rw [e, sum_key]
  exact h1
theorem sval_abs (a : Nat) : (sval a).natAbs = magOf (rungOf a) := natAbs_sval a
theorem sval_sgn (a : Nat) : sval a = if sgnOf a = true then -(magOf (rungOf a) : Int) else (magOf (rungOf a) : Int) := rfl
theorem prod_key (m n q : Int) (x : Bool) : ((if x = true then -m else m) * q - (if x = true then -n else n)).natAbs = (m * q - n).natAbs := by
  cases x
  · simp
  · simp only [if_true]; rw [Int.neg_mul]; omega
theorem prod_sign (a b : Nat) : sval a * sval b = if (sgnOf a ^^ sgnOf b) = true then -((magOf (rungOf a) * magOf (rungOf b) : Nat) : Int) else ((magOf (rungOf a) * magOf (rungOf b) : Nat) : Int) := by
  rw [sval_sgn a, sval_sgn b]
  cases sgnOf a <;> cases sgnOf b <;> simp [Int.neg_mul, Int.mul_neg]
theorem prod_abs (a b : Nat) : (sval a * sval b).natAbs = magOf (rungOf a) * magOf (rungOf b) := by rw [Int.natAbs_mul, sval_abs, sval_abs]
theorem prod_int {a b r d : Nat} (hd : d = 1074) (fa : fin a = true) (fb : fin b = true) (hr : r < 9218868437227405312) (h : (sval a * sval b).natAbs ≤ magOf r * 2 ^ d) :
    fin (fmul a b) = true ∧ (9007199254740992 * (sval (fmul a b) * ((2 ^ d : Nat) : Int) - sval a * sval b).natAbs ≤ (sval a * sval b).natAbs ∨ 2 * (sval (fmul a b) * ((2 ^ d : Nat) : Int) - sval a * sval b).natAbs ≤ 2 ^ d) := by
  rw [prod_abs] at h
  have hn : RN' (magOf (rungOf a) * magOf (rungOf b)) d < 9218868437227405312 := RN_small hr h
  have hw := RN_lt hn
  have h1 := err_product _ _ hn
  have e0 : fmul a b = double.word (sgnOf a ^^ sgnOf b) (RN (magOf (rungOf a) * magOf (rungOf b)) d) := by rw [hd]; exact fmul_fin fa fb
  have e : sval (fmul a b) = if (sgnOf a ^^ sgnOf b) = true then -(magOf (RN (magOf (rungOf a) * magOf (rungOf b)) d) : Int) else (magOf (RN (magOf (rungOf a) * magOf (rungOf b)) d) : Int) := by
    rw [e0, sval_word _ (Nat.le_of_lt hw)]
  refine ⟨by rw [e0]; exact fin_word _ hw, ?_⟩
  rw [e, prod_abs, prod_sign, prod_key]
  have hc : ((2 ^ d : Nat) : Int) = 2 ^ d := by simp
  rw [hc]
  exact h1

/-! ### over the rationals -/
def uu : Rat := ((2 ^ 1074 : Nat) : Rat)
theorem uu_eq {d : Nat} (hd : d = 1074) : uu = ((2 ^ d : Nat) : Rat) := by rw [hd]; rfl
theorem uu_pos : 0 < uu := by
  obtain ⟨d, hd⟩ : ∃ d, d = 1074 := ⟨_, rfl⟩
  rw [uu_eq hd]
  exact Rat.natCast_lt_natCast.2 (Nat.two_pow_pos d)
/-- A float's worth. -/
def rv (a : Nat) : Rat := (sval a : Rat) / uu
theorem cancel_le {x y u : Rat} (hu : 0 < u) (h : x * u ≤ y * u) : x ≤ y := by
  rcases Rat.le_total (a := x) (b := y) with h' | h'
  · exact h'
  · have m := Rat.mul_le_mul_of_nonneg_left h' (Rat.le_of_lt hu)
    have e : x * u = y * u := by grind
    have e2 : x * u / u = y * u / u := by rw [e]
    have e3 : x * u / u = x := by grind
    have e4 : y * u / u = y := by grind
    grind
theorem rv_mul_uu (a : Nat) : (sval a : Rat) = rv a * uu := by
  have := uu_pos
  unfold rv; grind
theorem natAbs_cast (d : Int) : (d : Rat) ≤ (d.natAbs : Rat) ∧ -(d : Rat) ≤ (d.natAbs : Rat) ∧ ((d.natAbs : Rat) = (d : Rat) ∨ (d.natAbs : Rat) = -(d : Rat)) := by
  rcases Int.natAbs_eq d with h | h
  · have e : (d : Rat) = ((d.natAbs : Nat) : Rat) := by
      rw [← Rat.intCast_natCast]; exact congrArg _ h
    have p : (0 : Rat) ≤ (d.natAbs : Rat) := Rat.natCast_le_natCast.2 (Nat.zero_le _)
    rw [e]; grind
  · have e : (d : Rat) = -((d.natAbs : Nat) : Rat) := by
      rw [← Rat.intCast_natCast, ← Rat.intCast_neg]; exact congrArg _ h
    have p : (0 : Rat) ≤ (d.natAbs : Rat) := Rat.natCast_le_natCast.2 (Nat.zero_le _)
    rw [e]; grind
/-- Up to here no sum and no product leaves the floats. -/
def bigR : Nat := 8660422352999907328
theorem bigR_lt : bigR < 9218868437227405312 := by decide
def big : Rat := (magOf bigR : Rat) / uu
theorem natAbs_le {s : Int} {m : Nat} (h1 : -(m : Rat) ≤ (s : Rat)) (h2 : (s : Rat) ≤ (m : Rat)) : s.natAbs ≤ m := by
  have := natAbs_cast s
  rw [← Rat.natCast_le_natCast]
  grind
theorem rv_add {a b : Nat} {B : Rat} (fa : fin a = true) (fb : fin b = true) (hB : B ≤ big) (h1 : -B ≤ rv a + rv b) (h2 : rv a + rv b ≤ B) :
    fin (fadd a b) = true ∧ -(B / 9007199254740992) ≤ rv (fadd a b) - (rv a + rv b) ∧ rv (fadd a b) - (rv a + rv b) ≤ B / 9007199254740992 := by
  have hu := uu_pos
  have es : ((sval a + sval b : Int) : Rat) = (rv a + rv b) * uu := by rw [Rat.intCast_add, rv_mul_uu a, rv_mul_uu b]; grind
  have hBu : B * uu ≤ (magOf bigR : Rat) := by
    have := Rat.mul_le_mul_of_nonneg_left hB (Rat.le_of_lt hu)
    have e : uu * big = (magOf bigR : Rat) := by unfold big; grind
    grind
  have m1 := Rat.mul_le_mul_of_nonneg_left h1 (Rat.le_of_lt hu)
  have m2 := Rat.mul_le_mul_of_nonneg_left h2 (Rat.le_of_lt hu)
  have hs : (sval a + sval b).natAbs ≤ magOf bigR := natAbs_le (by rw [es]; grind) (by rw [es]; grind)
  obtain ⟨hf, he⟩ := sum_int fa fb bigR_lt hs
  refine ⟨hf, ?_⟩
  have he' : ((9007199254740992 * (sval (fadd a b) - (sval a + sval b)).natAbs : Nat) : Rat) ≤ ((sval a + sval b).natAbs : Rat) := Rat.natCast_le_natCast.2 he
  rw [Rat.natCast_mul] at he'
  have n1 := natAbs_cast (sval (fadd a b) - (sval a + sval b))
  have n2 := natAbs_cast (sval a + sval b)
  rw [es] at n2
  have ed : ((sval (fadd a b) - (sval a + sval b) : Int) : Rat) = (rv (fadd a b) - (rv a + rv b)) * uu := by rw [Rat.intCast_sub, es, rv_mul_uu (fadd a b)]; grind
  rw [ed] at n1
  have hk : ((9007199254740992 : Nat) : Rat) = 9007199254740992 := rfl
  rw [hk] at he'
  generalize rv (fadd a b) - (rv a + rv b) = D at *
  generalize rv a + rv b = S at *
  generalize ((sval (fadd a b) - (sval a + sval b)).natAbs : Rat) = n at *
  generalize ((sval a + sval b).natAbs : Rat) = N at *
  have hN : N ≤ B * uu := by grind
  have hD1 : D * uu ≤ B / 9007199254740992 * uu := by grind
  have hD2 : -(B / 9007199254740992 * uu) ≤ D * uu := by grind
  exact ⟨cancel_le hu (by grind), cancel_le hu hD1⟩
theorem rv_neg {b : Nat} (hb : b < 18446744073709551616) (fb : fin b = true) : rv (fneg b) = -rv b ∧ fin (fneg b) = true := by
  have hn := fin_not_nan fb
  refine ⟨?_, by rw [fin_iff, rung_fneg hb hn]; exact fin_iff.1 fb⟩
  unfold rv
  rw [sval_fneg hb hn, Rat.intCast_neg]; grind
theorem rv_sub {a b : Nat} {B : Rat} (hb : b < 18446744073709551616) (fa : fin a = true) (fb : fin b = true) (hB : B ≤ big) (h1 : -B ≤ rv a - rv b) (h2 : rv a - rv b ≤ B) :
    fin (fsub a b) = true ∧ -(B / 9007199254740992) ≤ rv (fsub a b) - (rv a - rv b) ∧ rv (fsub a b) - (rv a - rv b) ≤ B / 9007199254740992 := by
  obtain ⟨e, f⟩ := rv_neg hb fb
  have := rv_add (B := B) fa f hB (by rw [e]; grind) (by rw [e]; grind)
  rw [← sub_add hb, e] at this
  refine ⟨this.1, ?_, ?_⟩ <;> grind
/-- Half of the least float. -/
def eta : Rat := 1 / (2 * uu)
theorem eta_pos : 0 < eta := by
  have := uu_pos
  have h : (0 : Rat) < 2 * uu := by grind
  have e : eta * (2 * uu) = 1 := by unfold eta; grind
  rcases Rat.le_total (a := eta) (b := 0) with h' | h'
  · have m := Rat.mul_le_mul_of_nonneg_left h' (Rat.le_of_lt h)
    grind
  · rcases Rat.le_iff_lt_or_eq.1 h' with h2 | h2
    · exact h2
    · rw [← h2] at e; grind
theorem rv_mul {a b : Nat} {B : Rat} (fa : fin a = true) (fb : fin b = true) (hB : B ≤ big) (h1 : -B ≤ rv a * rv b) (h2 : rv a * rv b ≤ B) :
    fin (fmul a b) = true ∧ -(B / 9007199254740992 + eta) ≤ rv (fmul a b) - rv a * rv b ∧ rv (fmul a b) - rv a * rv b ≤ B / 9007199254740992 + eta := by
  have hu := uu_pos
  have hp := eta_pos
  obtain ⟨d, hd⟩ : ∃ d, d = 1074 := ⟨_, rfl⟩
  have es : ((sval a * sval b : Int) : Rat) = (rv a * rv b) * (uu * uu) := by rw [Rat.intCast_mul, rv_mul_uu a, rv_mul_uu b]; grind
  have huu : 0 < uu * uu := Rat.mul_pos hu hu
  have hBu : B * (uu * uu) ≤ ((magOf bigR * 2 ^ d : Nat) : Rat) := by
    have := Rat.mul_le_mul_of_nonneg_left hB (Rat.le_of_lt huu)
    have e : uu * uu * big = (magOf bigR : Rat) * uu := by unfold big; grind
    rw [Rat.natCast_mul, ← uu_eq hd]
    grind
  have m1 := Rat.mul_le_mul_of_nonneg_left h1 (Rat.le_of_lt huu)
  have m2 := Rat.mul_le_mul_of_nonneg_left h2 (Rat.le_of_lt huu)
  have hs : (sval a * sval b).natAbs ≤ magOf bigR * 2 ^ d := natAbs_le (by rw [es]; grind) (by rw [es]; grind)
  obtain ⟨hf, he⟩ := prod_int hd fa fb bigR_lt hs
  refine ⟨hf, ?_⟩
  have n1 := natAbs_cast (sval (fmul a b) * ((2 ^ d : Nat) : Int) - sval a * sval b)
  have n2 := natAbs_cast (sval a * sval b)
  rw [es] at n2
  have ed : ((sval (fmul a b) * ((2 ^ d : Nat) : Int) - sval a * sval b : Int) : Rat) = (rv (fmul a b) - rv a * rv b) * (uu * uu) := by
    rw [Rat.intCast_sub, es, Rat.intCast_mul, Rat.intCast_natCast, ← uu_eq hd, rv_mul_uu (fmul a b)]; grind
  rw [ed] at n1
  have e2 : eta * (uu * uu) = uu / 2 := by unfold eta; grind
  rcases he with he | he
  · have he' : ((9007199254740992 * (sval (fmul a b) * ((2 ^ d : Nat) : Int) - sval a * sval b).natAbs : Nat) : Rat) ≤ ((sval a * sval b).natAbs : Rat) := Rat.natCast_le_natCast.2 he
    rw [Rat.natCast_mul] at he'
    have hk : ((9007199254740992 : Nat) : Rat) = 9007199254740992 := rfl
    rw [hk] at he'
    generalize rv (fmul a b) - rv a * rv b = D at *
    generalize rv a * rv b = S at *
    generalize ((sval (fmul a b) * ((2 ^ d : Nat) : Int) - sval a * sval b).natAbs : Rat) = n at *
    generalize ((sval a * sval b).natAbs : Rat) = N at *
    generalize uu * uu = q at *
    have hN : N ≤ B * q := by grind
    exact ⟨cancel_le huu (by grind), cancel_le huu (by grind)⟩
  · have he' : ((2 * (sval (fmul a b) * ((2 ^ d : Nat) : Int) - sval a * sval b).natAbs : Nat) : Rat) ≤ ((2 ^ d : Nat) : Rat) := Rat.natCast_le_natCast.2 he
    rw [Rat.natCast_mul, ← uu_eq hd] at he'
    have hk : ((2 : Nat) : Rat) = 2 := rfl
    rw [hk] at he'
    have hB0 : 0 ≤ B := by grind
    generalize rv (fmul a b) - rv a * rv b = D at *
    generalize ((sval (fmul a b) * ((2 ^ d : Nat) : Int) - sval a * sval b).natAbs : Rat) = n at *
    have hBq : 0 ≤ B * (uu * uu) := Rat.mul_nonneg hB0 (Rat.le_of_lt huu)
    generalize uu * uu = q at *
    exact ⟨cancel_le huu (by grind), cancel_le huu (by grind)⟩
theorem mul_le {x y A C : Rat} (h1 : -A ≤ x) (h2 : x ≤ A) (h3 : -C ≤ y) (h4 : y ≤ C) : -(A * C) ≤ x * y ∧ x * y ≤ A * C := by
  have p := Rat.mul_nonneg (show 0 ≤ A - x by grind) (show 0 ≤ C + y by grind)
  have q := Rat.mul_nonneg (show 0 ≤ A + x by grind) (show 0 ≤ C - y by grind)
  have r := Rat.mul_nonneg (show 0 ≤ A - x by grind) (show 0 ≤ C - y by grind)
  have s := Rat.mul_nonneg (show 0 ≤ A + x by grind) (show 0 ≤ C + y by grind)
  constructor <;> grind
/-- The order of floats is that of their worth. -/
theorem rv_le {a b : Nat} (fa : fin a = true) (fb : fin b = true) : fle a b = decide (rv a ≤ rv b) := by
  rw [fle_val (fin_not_nan fa) (fin_not_nan fb)]
  apply decide_eq_decide.2
  rw [← Rat.intCast_le_intCast, rv_mul_uu a, rv_mul_uu b]
  constructor
  · exact fun h => cancel_le uu_pos h
  · intro h
    have := Rat.mul_le_mul_of_nonneg_left h (Rat.le_of_lt uu_pos)
    grind
theorem rv_abs {a : Nat} (fa : fin a = true) : fin (fabs a) = true ∧ (0 ≤ rv a → rv (fabs a) = rv a) ∧ (rv a ≤ 0 → rv (fabs a) = -rv a) ∧ 0 ≤ rv (fabs a) := by
  have hn := fin_not_nan fa
  have e := fabs_of hn
  have hr := fin_iff.1 fa
  have r2 : rungOf (rungOf a) = rungOf a := by unfold rungOf; omega
  have s2 : sgnOf (rungOf a) = false := by
    unfold sgnOf rungOf
    have : a % 9223372036854775808 / 9223372036854775808 = 0 := Nat.div_eq_of_lt (Nat.mod_lt _ (by decide))
    rw [this]; rfl
  have sv : sval (fabs a) = (magOf (rungOf a) : Int) := by rw [e, sval_sgn, s2, r2]; simp
  have hp : (0 : Rat) ≤ ((magOf (rungOf a) : Int) : Rat) := by rw [Rat.intCast_natCast]; exact Rat.natCast_le_natCast.2 (Nat.zero_le _)
  have hu := uu_pos
  have h0 : 0 ≤ rv (fabs a) := by
    have := rv_mul_uu (fabs a)
    rw [sv] at this
    exact cancel_le hu (by grind)
  have m1 := rv_mul_uu (fabs a)
  have m2 := rv_mul_uu a
  rw [sv] at m1
  have hs := sval_sgn a
  refine ⟨by rw [fin_iff, e, r2]; exact hr, ?_, ?_, h0⟩
  · intro h
    cases hg : sgnOf a
    · rw [hg] at hs; simp only [Bool.false_eq_true, if_false] at hs
      rw [hs] at m2
      have : rv a * uu = rv (fabs a) * uu := by rw [← m1, ← m2]
      exact Rat.le_antisymm (cancel_le hu (by grind)) (cancel_le hu (by grind))
    · rw [hg] at hs; simp only [if_true] at hs
      rw [hs, Rat.intCast_neg] at m2
      have := Rat.mul_nonneg h (Rat.le_of_lt hu)
      have : rv a * uu = rv (fabs a) * uu := by grind
      exact Rat.le_antisymm (cancel_le hu (by grind)) (cancel_le hu (by grind))
  · intro h
    cases hg : sgnOf a
    · rw [hg] at hs; simp only [Bool.false_eq_true, if_false] at hs
      rw [hs] at m2
      have := Rat.mul_nonneg (show 0 ≤ -rv a by grind) (Rat.le_of_lt hu)
      have : -rv a * uu = rv (fabs a) * uu := by grind
      exact Rat.le_antisymm (cancel_le hu (by grind)) (cancel_le hu (by grind))
    · rw [hg] at hs; simp only [if_true] at hs
      rw [hs, Rat.intCast_neg] at m2
      have : -rv a * uu = rv (fabs a) * uu := by grind
      exact Rat.le_antisymm (cancel_le hu (by grind)) (cancel_le hu (by grind))
/-- The worth of a literal. -/
theorem rv_lit {a p q : Nat} (hs : sgnOf a = false) (hq : 0 < q) (h : ∀ d, d = 1074 → magOf (rungOf a) * q = p * 2 ^ d) : rv a = (p : Rat) / (q : Rat) := by
  obtain ⟨d, hd⟩ : ∃ d, d = 1074 := ⟨_, rfl⟩
  have h1 := h d hd
  have m := rv_mul_uu a
  rw [sval_sgn, hs] at m
  simp only [Bool.false_eq_true, if_false, Rat.intCast_natCast] at m
  have h2 : ((magOf (rungOf a) : Nat) : Rat) * (q : Rat) = (p : Rat) * uu := by
    rw [uu_eq hd, ← Rat.natCast_mul, ← Rat.natCast_mul]; exact congrArg _ h1
  have hq' : (0 : Rat) < (q : Rat) := Rat.natCast_lt_natCast.2 hq
  have hu := uu_pos
  rw [m] at h2
  clear h1 h hd
  have h3 : rv a * (q : Rat) = (p : Rat) := by
    have : (rv a * (q : Rat)) * uu = (p : Rat) * uu := by grind
    exact Rat.le_antisymm (cancel_le hu (by grind)) (cancel_le hu (by grind))
  grind
/-- A product or a sum that is finite lost as little. -/
theorem RN'_of_fin {s : Bool} {n d : Nat} (h : fin (double.word s (RN n d)) = true) : RN' n d < 9218868437227405312 := by
  have := fin_iff.1 h
  rw [rung_word s (RN_le n d), RN_eq] at this
  omega
theorem rv_mul' {a b : Nat} {B : Rat} (fa : fin a = true) (fb : fin b = true) (hf : fin (fmul a b) = true) (h1 : -B ≤ rv a * rv b) (h2 : rv a * rv b ≤ B) :
    -(B / 9007199254740992 + eta) ≤ rv (fmul a b) - rv a * rv b ∧ rv (fmul a b) - rv a * rv b ≤ B / 9007199254740992 + eta := by
  have hu := uu_pos
  have hp := eta_pos
  obtain ⟨d, hd⟩ : ∃ d, d = 1074 := ⟨_, rfl⟩
  have es : ((sval a * sval b : Int) : Rat) = (rv a * rv b) * (uu * uu) := by rw [Rat.intCast_mul, rv_mul_uu a, rv_mul_uu b]; grind
  have huu : 0 < uu * uu := Rat.mul_pos hu hu
  have m1 := Rat.mul_le_mul_of_nonneg_left h1 (Rat.le_of_lt huu)
  have m2 := Rat.mul_le_mul_of_nonneg_left h2 (Rat.le_of_lt huu)
  have e0 : fmul a b = double.word (sgnOf a ^^ sgnOf b) (RN (magOf (rungOf a) * magOf (rungOf b)) d) := by rw [hd]; exact fmul_fin fa fb
  have hn : RN' (magOf (rungOf a) * magOf (rungOf b)) d < 9218868437227405312 := RN'_of_fin (s := sgnOf a ^^ sgnOf b) (by rw [← e0]; exact hf)
  have he : (9007199254740992 * (sval (fmul a b) * ((2 ^ d : Nat) : Int) - sval a * sval b).natAbs ≤ (sval a * sval b).natAbs ∨ 2 * (sval (fmul a b) * ((2 ^ d : Nat) : Int) - sval a * sval b).natAbs ≤ 2 ^ d) := by
    have hw := RN_lt hn
    have h1 := err_product _ _ hn
    have e : sval (fmul a b) = if (sgnOf a ^^ sgnOf b) = true then -(magOf (RN (magOf (rungOf a) * magOf (rungOf b)) d) : Int) else (magOf (RN (magOf (rungOf a) * magOf (rungOf b)) d) : Int) := by
      rw [e0, sval_word _ (Nat.le_of_lt hw)]
    rw [e, prod_abs, prod_sign, prod_key]
    have hc : ((2 ^ d : Nat) : Int) = 2 ^ d := by simp
    rw [hc]
    exact h1
  have n1 := natAbs_cast (sval (fmul a b) * ((2 ^ d : Nat) : Int) - sval a * sval b)
  have n2 := natAbs_cast (sval a * sval b)
  rw [es] at n2
  have ed : ((sval (fmul a b) * ((2 ^ d : Nat) : Int) - sval a * sval b : Int) : Rat) = (rv (fmul a b) - rv a * rv b) * (uu * uu) := by
    rw [Rat.intCast_sub, es, Rat.intCast_mul, Rat.intCast_natCast, ← uu_eq hd, rv_mul_uu (fmul a b)]; grind
  rw [ed] at n1
  have e2 : eta * (uu * uu) = uu / 2 := by unfold eta; grind
  rcases he with he | he
  · have he' : ((9007199254740992 * (sval (fmul a b) * ((2 ^ d : Nat) : Int) - sval a * sval b).natAbs : Nat) : Rat) ≤ ((sval a * sval b).natAbs : Rat) := Rat.natCast_le_natCast.2 he
    rw [Rat.natCast_mul] at he'
    have hk : ((9007199254740992 : Nat) : Rat) = 9007199254740992 := rfl
    rw [hk] at he'
    generalize rv (fmul a b) - rv a * rv b = D at *
    generalize rv a * rv b = S at *
    generalize ((sval (fmul a b) * ((2 ^ d : Nat) : Int) - sval a * sval b).natAbs : Rat) = n at *
    generalize ((sval a * sval b).natAbs : Rat) = N at *
    generalize uu * uu = q at *
    have hN : N ≤ B * q := by grind
    exact ⟨cancel_le huu (by grind), cancel_le huu (by grind)⟩
  · have he' : ((2 * (sval (fmul a b) * ((2 ^ d : Nat) : Int) - sval a * sval b).natAbs : Nat) : Rat) ≤ ((2 ^ d : Nat) : Rat) := Rat.natCast_le_natCast.2 he
    rw [Rat.natCast_mul, ← uu_eq hd] at he'
    have hk : ((2 : Nat) : Rat) = 2 := rfl
    rw [hk] at he'
    have hB0 : 0 ≤ B := by grind
    generalize rv (fmul a b) - rv a * rv b = D at *
    generalize ((sval (fmul a b) * ((2 ^ d : Nat) : Int) - sval a * sval b).natAbs : Rat) = n at *
    have hBq : 0 ≤ B * (uu * uu) := Rat.mul_nonneg hB0 (Rat.le_of_lt huu)
    generalize uu * uu = q at *
    exact ⟨cancel_le huu (by grind), cancel_le huu (by grind)⟩
theorem rv_add' {a b : Nat} {B : Rat} (fa : fin a = true) (fb : fin b = true) (hf : fin (fadd a b) = true) (h1 : -B ≤ rv a + rv b) (h2 : rv a + rv b ≤ B) :
    -(B / 9007199254740992) ≤ rv (fadd a b) - (rv a + rv b) ∧ rv (fadd a b) - (rv a + rv b) ≤ B / 9007199254740992 := by
  have hu := uu_pos
  have es : ((sval a + sval b : Int) : Rat) = (rv a + rv b) * uu := by rw [Rat.intCast_add, rv_mul_uu a, rv_mul_uu b]; grind
  have m1 := Rat.mul_le_mul_of_nonneg_left h1 (Rat.le_of_lt hu)
  have m2 := Rat.mul_le_mul_of_nonneg_left h2 (Rat.le_of_lt hu)
  have he : 9007199254740992 * (sval (fadd a b) - (sval a + sval b)).natAbs ≤ (sval a + sval b).natAbs := by
    have hn := RN'_of_fin (by rw [← fadd_fin fa fb]; exact hf)
    have hw := RN_lt hn
    have h1 := err_sum _ hn
    have e : sval (fadd a b) = if (if sval a + sval b = 0 then sgnOf a && sgnOf b else decide (sval a + sval b < 0)) = true then -(magOf (RN (sval a + sval b).natAbs 0) : Int) else (magOf (RN (sval a + sval b).natAbs 0) : Int) := by
      rw [fadd_fin fa fb, sval_word _ (Nat.le_of_lt hw)]
    rw [e, sum_key]
    exact h1
  have he' : ((9007199254740992 * (sval (fadd a b) - (sval a + sval b)).natAbs : Nat) : Rat) ≤ ((sval a + sval b).natAbs : Rat) := Rat.natCast_le_natCast.2 he
  rw [Rat.natCast_mul] at he'
  have n1 := natAbs_cast (sval (fadd a b) - (sval a + sval b))
  have n2 := natAbs_cast (sval a + sval b)
  rw [es] at n2
  have ed : ((sval (fadd a b) - (sval a + sval b) : Int) : Rat) = (rv (fadd a b) - (rv a + rv b)) * uu := by rw [Rat.intCast_sub, es, rv_mul_uu (fadd a b)]; grind
  rw [ed] at n1
  have hk : ((9007199254740992 : Nat) : Rat) = 9007199254740992 := rfl
  rw [hk] at he'
  generalize rv (fadd a b) - (rv a + rv b) = D at *
  generalize rv a + rv b = S at *
  generalize ((sval (fadd a b) - (sval a + sval b)).natAbs : Rat) = n at *
  generalize ((sval a + sval b).natAbs : Rat) = N at *
  have hN : N ≤ B * uu := by grind
  exact ⟨cancel_le hu (by grind), cancel_le hu (by grind)⟩
theorem rv_zero_sval {a : Nat} (h : rv a = 0) : sval a = 0 := by
  have := rv_mul_uu a
  rw [h, Rat.zero_mul] at this
  exact Rat.intCast_eq_zero_iff.1 this
theorem rv_mul_zero {a b : Nat} (fa : fin a = true) (fb : fin b = true) (h : rv a * rv b = 0) : fin (fmul a b) = true ∧ rv (fmul a b) = 0 := by
  have hz : magOf (rungOf a) * magOf (rungOf b) = 0 := by
    rw [← prod_abs]
    have : sval a * sval b = 0 := by
      rcases Rat.mul_eq_zero.1 h with h | h
      · rw [rv_zero_sval h, Int.zero_mul]
      · rw [rv_zero_sval h, Int.mul_zero]
    rw [this]; rfl
  obtain ⟨d, hd⟩ : ∃ d, d = 1074 := ⟨_, rfl⟩
  have e0 : fmul a b = double.word (sgnOf a ^^ sgnOf b) (RN (magOf (rungOf a) * magOf (rungOf b)) d) := by rw [hd]; exact fmul_fin fa fb
  rw [e0, hz, RN_zero]
  refine ⟨fin_word _ (by omega), ?_⟩
  unfold rv
  rw [sval_word _ (by omega), magOf_zero]
  cases (sgnOf a ^^ sgnOf b) <;> simp <;> grind
/-- A product beside a weight W: what is lost below the least float is nothing beside it. -/
theorem mul_w {a b : Nat} {B W : Rat} (fa : fin a = true) (fb : fin b = true) (hB : B ≤ big) (h1 : -B ≤ rv a * rv b) (h2 : rv a * rv b ≤ B) (hW : (W = 0 → rv a * rv b = 0) ∧ (W ≠ 0 → eta ≤ W / 1152921504606846976)) :
    fin (fmul a b) = true ∧ -(B / 9007199254740992 + W / 1152921504606846976) ≤ rv (fmul a b) - rv a * rv b ∧ rv (fmul a b) - rv a * rv b ≤ B / 9007199254740992 + W / 1152921504606846976 := by
  by_cases h : W = 0
  · have h0 := hW.1 h
    obtain ⟨f, e⟩ := rv_mul_zero fa fb h0
    refine ⟨f, ?_, ?_⟩ <;> (rw [e, h0, h]; grind)
  · have h0 := hW.2 h
    obtain ⟨f, e1, e2⟩ := rv_mul fa fb hB h1 h2
    refine ⟨f, ?_, ?_⟩ <;> grind
end Go.Sim
