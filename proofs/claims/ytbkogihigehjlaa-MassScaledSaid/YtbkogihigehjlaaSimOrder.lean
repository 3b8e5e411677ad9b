/- What a word stands for, in units of the least subnormal number, and that the order of floats is the order of whole numbers. -/
import Derived.Test.YtbkogihigehjlaaSimBits
namespace Go.Sim
open Ieee

def rungOf (b : Nat) : Nat := b % 9223372036854775808
def sgnOf (b : Nat) : Bool := b / 9223372036854775808 % 2 == 1
/-- The magnitude of a rung, in units of 2^-1074 (infinity as the next one of its row). -/
def magOf (r : Nat) : Nat := if r < 4503599627370496 then r else (4503599627370496 + r % 4503599627370496) * 2 ^ (r / 4503599627370496 - 1)
def sval (b : Nat) : Int := if sgnOf b = true then -(magOf (rungOf b) : Int) else (magOf (rungOf b) : Int)
/-- Rungs with their sign. -/
def key (b : Nat) : Int := if sgnOf b = true then -(rungOf b : Int) else (rungOf b : Int)

theorem magOf_succ (r : Nat) : magOf r < magOf (r + 1) := by
  unfold magOf
  by_cases h1 : r + 1 < 4503599627370496
  · rw [if_pos (by omega), if_pos h1]; omega
  · by_cases h2 : r < 4503599627370496
    · have : r = 4503599627370495 := by omega
      subst this; decide
    · rw [if_neg h2, if_neg h1]
      by_cases h3 : r % 4503599627370496 = 4503599627370495
      · have e1 : (r + 1) % 4503599627370496 = 0 := by omega
        have e2 : (r + 1) / 4503599627370496 - 1 = (r / 4503599627370496 - 1) + 1 := by omega
        rw [e1, e2, h3, Nat.pow_succ]
        have hp : 0 < 2 ^ (r / 4503599627370496 - 1) := Nat.pow_pos (by decide)
        generalize 2 ^ (r / 4503599627370496 - 1) = p at *
        omega
      · have e1 : (r + 1) % 4503599627370496 = r % 4503599627370496 + 1 := by omega
        have e2 : (r + 1) / 4503599627370496 = r / 4503599627370496 := by omega
        rw [e1, e2]
        have hp : 0 < 2 ^ (r / 4503599627370496 - 1) := Nat.pow_pos (by decide)
        generalize 2 ^ (r / 4503599627370496 - 1) = p at *
        exact Nat.mul_lt_mul_of_pos_right (by omega) hp
theorem magOf_lt {r s : Nat} (h : r < s) : magOf r < magOf s := by
  induction s with
  | zero => omega
  | succ n ih =>
    by_cases hn : r = n
    · subst hn; exact magOf_succ r
    · exact Nat.lt_trans (ih (by omega)) (magOf_succ n)
theorem magOf_lt_iff {r s : Nat} : magOf r < magOf s ↔ r < s := by
  constructor
  · intro h
    rcases Nat.lt_or_ge r s with g | g
    · exact g
    · rcases Nat.lt_or_eq_of_le g with g | g
      · have := magOf_lt g; omega
      · subst g; omega
  · exact magOf_lt
theorem magOf_inj {r s : Nat} (h : magOf r = magOf s) : r = s := by
  rcases Nat.lt_trichotomy r s with g | g | g
  · have := magOf_lt g; omega
  · exact g
  · have := magOf_lt g; omega
theorem magOf_le_iff {r s : Nat} : magOf r ≤ magOf s ↔ r ≤ s := by
  have := @magOf_lt_iff s r; omega
theorem magOf_zero : magOf 0 = 0 := rfl
theorem magOf_pos {r : Nat} : 0 < magOf r ↔ 0 < r := by
  have := @magOf_lt_iff 0 r; rw [magOf_zero] at this; exact this

theorem sval_lt_iff (a b : Nat) : sval a < sval b ↔ key a < key b := by
  have h1 := @magOf_lt_iff (rungOf a) (rungOf b)
  have h2 := @magOf_lt_iff (rungOf b) (rungOf a)
  have h3 := @magOf_pos (rungOf a)
  have h4 := @magOf_pos (rungOf b)
  unfold sval key
  generalize magOf (rungOf a) = x at *
  generalize magOf (rungOf b) = y at *
  split <;> split <;> omega
theorem sval_eq_iff (a b : Nat) : sval a = sval b ↔ key a = key b := by
  have h1 := sval_lt_iff a b
  have h2 := sval_lt_iff b a
  omega

@[irreducible] def infR : Nat := 9218868437227405312
theorem infR_eq : infR = 9218868437227405312 := by unfold infR; rfl
/-- A datum in units of 2^-1074. -/
def toI : Datum → Int
  | .number s m i => signed s m (i + 1074).toNat
  | .infinity s => if s = true then -(magOf infR : Int) else (magOf infR : Int)
  | .nan _ _ => 0

theorem signed_eq (s : Bool) (m u : Nat) : signed s m u = if s = true then -((m * 2 ^ u : Nat) : Int) else ((m * 2 ^ u : Nat) : Int) := by
  unfold signed; rw [Nat.shiftLeft_eq]

theorem double_consts : double.binade = 4503599627370496 ∧ double.infRung = 9218868437227405312 ∧ double.signWeight = 9223372036854775808 ∧ double.leastPlace = -1074 := by decide

theorem read_eq (b : Nat) : double.read b =
    if rungOf b < 4503599627370496 then .number (sgnOf b) (rungOf b) (-1074)
    else if rungOf b < 9218868437227405312 then .number (sgnOf b) (4503599627370496 + rungOf b % 4503599627370496) (-1074 + ((rungOf b / 4503599627370496 - 1 : Nat) : Int))
    else if rungOf b = 9218868437227405312 then .infinity (sgnOf b)
    else .nan (sgnOf b) (rungOf b - 9218868437227405312) := by
  obtain ⟨c1, c2, c3, c4⟩ := double_consts
  unfold Format.read
  dsimp only
  rw [c1, c2, c3, c4]
  rfl
theorem nanb_iff_rung (b : Nat) : nanb b = true ↔ 9218868437227405312 < rungOf b := by
  unfold nanb; rw [read_eq]
  split
  · simp [Datum.isNaN]; omega
  · split
    · simp [Datum.isNaN]; omega
    · split
      · simp [Datum.isNaN]; omega
      · simp [Datum.isNaN]; omega
theorem not_nan_rung {b : Nat} (h : nanb b = false) : rungOf b ≤ 9218868437227405312 := by
  have := nanb_iff_rung b
  rcases Nat.lt_or_ge 9218868437227405312 (rungOf b) with g | g
  · rw [this.2 g] at h; cases h
  · exact g
theorem toI_read {b : Nat} (h : nanb b = false) : toI (double.read b) = sval b := by
  have hr := not_nan_rung h
  rw [read_eq]
  unfold sval
  split
  · rename_i h1
    rw [show magOf (rungOf b) = rungOf b from if_pos h1]
    simp only [toI, signed_eq]
    simp
  · split
    · rename_i h1 h2
      rw [show magOf (rungOf b) = (4503599627370496 + rungOf b % 4503599627370496) * 2 ^ (rungOf b / 4503599627370496 - 1) from if_neg h1]
      simp only [toI, signed_eq]
      have : (-1074 + ((rungOf b / 4503599627370496 - 1 : Nat) : Int) + 1074).toNat = rungOf b / 4503599627370496 - 1 := by omega
      rw [this]
    · split
      · rename_i h1 h2 h3
        simp only [toI]
        rw [infR_eq, h3]
      · omega

theorem cmp_lt (a b : Int) : (compare a b = .lt) ↔ a < b := by
  simp only [compare, compareOfLessAndEq]
  split
  · simp_all
  · split <;> simp_all
theorem cmp_eq (a b : Int) : (compare a b = .eq) ↔ a = b := by
  simp [compare, compareOfLessAndEq]; split <;> simp_all; omega
theorem cmp_scale (a b : Int) (k : Nat) : compare a b = compare (a * 2 ^ k) (b * 2 ^ k) := by
  have hp : (0 : Int) < 2 ^ k := Int.pow_pos (by decide)
  have h1 : (a * 2 ^ k < b * 2 ^ k) ↔ a < b := ⟨fun h => Int.lt_of_mul_lt_mul_right h (Int.le_of_lt hp), fun h => Int.mul_lt_mul_of_pos_right h hp⟩
  have h2 : (a * 2 ^ k = b * 2 ^ k) ↔ a = b := ⟨fun h => Int.eq_of_mul_eq_mul_right (Int.ne_of_gt hp) h, fun h => by rw [h]⟩
  simp only [compare, compareOfLessAndEq, h1, h2]
theorem signed_scale (s : Bool) (m u k : Nat) : signed s m u * 2 ^ k = signed s m (u + k) := by
  rw [signed_eq, signed_eq, Nat.pow_add]
  have : (2 : Int) ^ k = ((2 ^ k : Nat) : Int) := by simp
  rw [this]
  split
  · rw [Int.neg_mul, ← Int.natCast_mul, Nat.mul_assoc]
  · rw [← Int.natCast_mul, Nat.mul_assoc]

/-- Data that words stand for. -/
def Dec : Datum → Prop
  | .number _ m i => -1074 ≤ i ∧ m * 2 ^ (i + 1074).toNat < magOf infR
  | _ => True
theorem dec_read (b : Nat) : Dec (double.read b) := by
  rw [read_eq]
  split
  · rename_i h
    refine ⟨by omega, ?_⟩
    have : rungOf b < infR := by rw [infR_eq]; omega
    have := magOf_lt this
    rw [show magOf (rungOf b) = rungOf b from if_pos h] at this; simpa using this
  · split
    · rename_i h1 h2
      refine ⟨by omega, ?_⟩
      rw [← infR_eq] at h2
      have := magOf_lt h2
      rw [show magOf (rungOf b) = (4503599627370496 + rungOf b % 4503599627370496) * 2 ^ (rungOf b / 4503599627370496 - 1) from if_neg h1] at this
      have e : (-1074 + ((rungOf b / 4503599627370496 - 1 : Nat) : Int) + 1074).toNat = rungOf b / 4503599627370496 - 1 := by omega
      rw [e]; exact this
    · split <;> trivial

theorem cmp_of_lt {a b : Int} (h : a < b) : compare a b = .lt := (cmp_lt a b).2 h
theorem cmp_of_eq {a b : Int} (h : a = b) : compare a b = .eq := (cmp_eq a b).2 h
theorem cmp_of_gt {a b : Int} (h : b < a) : compare a b = .gt := by
  cases hc : compare a b
  · have := (cmp_lt a b).1 hc; omega
  · have := (cmp_eq a b).1 hc; omega
  · rfl
theorem inf_pos : 0 < magOf infR := magOf_pos.2 (by rw [infR_eq]; decide)
theorem order_toI {x y : Datum} (hx : x.isNaN = false) (hy : y.isNaN = false) (dx : Dec x) (dy : Dec y) : x.order y = some (compare (toI x) (toI y)) := by
  have hinf : (0 : Int) < (magOf infR : Int) := Int.ofNat_lt.2 inf_pos
  cases x with
  | nan s f => cases hx
  | infinity s =>
    cases y with
    | nan t g => cases hy
    | infinity t =>
      simp only [Datum.order, toI]
      generalize (magOf infR : Int) = v at *
      cases s <;> cases t
      · rw [cmp_of_eq rfl]; rfl
      · exact congrArg some (cmp_of_gt (a := v) (b := -v) (by omega)).symm
      · exact congrArg some (cmp_of_lt (a := -v) (b := v) (by omega)).symm
      · rw [cmp_of_eq rfl]; rfl
    | number t n j =>
      show some (if s = true then Ordering.lt else Ordering.gt) = some (compare (if s = true then -(magOf infR : Int) else (magOf infR : Int)) (signed t n (j + 1074).toNat))
      rw [signed_eq]
      obtain ⟨d1, d2⟩ := dy
      have d3 : ((n * 2 ^ (j + 1074).toNat : Nat) : Int) < (magOf infR : Int) := Int.ofNat_lt.2 d2
      generalize (magOf infR : Int) = v at *
      generalize n * 2 ^ (j + 1074).toNat = q at *
      cases s <;> cases t
      · exact congrArg some (cmp_of_gt (a := v) (b := (q : Int)) (by omega)).symm
      · exact congrArg some (cmp_of_gt (a := v) (b := -(q : Int)) (by omega)).symm
      · exact congrArg some (cmp_of_lt (a := -v) (b := (q : Int)) (by omega)).symm
      · exact congrArg some (cmp_of_lt (a := -v) (b := -(q : Int)) (by omega)).symm
  | number s m i =>
    cases y with
    | nan t g => cases hy
    | infinity t =>
      show some (if t = true then Ordering.gt else Ordering.lt) = some (compare (signed s m (i + 1074).toNat) (if t = true then -(magOf infR : Int) else (magOf infR : Int)))
      rw [signed_eq]
      obtain ⟨d1, d2⟩ := dx
      have d3 : ((m * 2 ^ (i + 1074).toNat : Nat) : Int) < (magOf infR : Int) := Int.ofNat_lt.2 d2
      generalize (magOf infR : Int) = v at *
      generalize m * 2 ^ (i + 1074).toNat = q at *
      cases t <;> cases s
      · exact congrArg some (cmp_of_lt (a := (q : Int)) (b := v) (by omega)).symm
      · exact congrArg some (cmp_of_lt (a := -(q : Int)) (b := v) (by omega)).symm
      · exact congrArg some (cmp_of_gt (a := (q : Int)) (b := -v) (by omega)).symm
      · exact congrArg some (cmp_of_gt (a := -(q : Int)) (b := -v) (by omega)).symm
    | number t n j =>
      simp only [Datum.order, toI]
      obtain ⟨d1, _⟩ := dx
      obtain ⟨d2, _⟩ := dy
      rw [cmp_scale _ _ ((min i j) + 1074).toNat, signed_scale, signed_scale]
      have e1 : (i - min i j).toNat + (min i j + 1074).toNat = (i + 1074).toNat := by omega
      have e2 : (j - min i j).toNat + (min i j + 1074).toNat = (j + 1074).toNat := by omega
      rw [e1, e2]

theorem order_eq {a b : Nat} (ha : nanb a = false) (hb : nanb b = false) : double.order a b = some (compare (sval a) (sval b)) := by
  unfold Format.order
  rw [order_toI ha hb (dec_read a) (dec_read b), toI_read ha, toI_read hb]
theorem order_nan {a b : Nat} (h : nanb a = true ∨ nanb b = true) : double.order a b = none := by
  unfold Format.order
  rcases h with h | h
  · obtain ⟨s, f, e⟩ := read_of_nanb h; rw [e, order_nan_l]
  · obtain ⟨s, f, e⟩ := read_of_nanb h; rw [e, order_nan_r]

theorem flt_val {a b : Nat} (ha : nanb a = false) (hb : nanb b = false) : flt a b = decide (sval a < sval b) := by
  unfold flt; rw [order_eq ha hb]
  have := cmp_lt (sval a) (sval b)
  by_cases h : sval a < sval b
  · rw [this.2 h]; simp [h]
  · cases hc : compare (sval a) (sval b)
    · exact absurd (this.1 hc) h
    · simp [h]
    · simp [h]
theorem feq_val {a b : Nat} (ha : nanb a = false) (hb : nanb b = false) : feq a b = decide (sval a = sval b) := by
  unfold feq; rw [order_eq ha hb]
  have := cmp_eq (sval a) (sval b)
  by_cases h : sval a = sval b
  · rw [this.2 h]; simp [h]
  · cases hc : compare (sval a) (sval b)
    · simp [h]
    · exact absurd (this.1 hc) h
    · simp [h]
theorem fle_val {a b : Nat} (ha : nanb a = false) (hb : nanb b = false) : fle a b = decide (sval a ≤ sval b) := by
  unfold fle; rw [flt_val ha hb, feq_val ha hb]
  by_cases h1 : sval a < sval b
  · simp [h1, Int.le_of_lt h1]
  · by_cases h2 : sval a = sval b
    · simp [h2]
    · have : ¬ sval a ≤ sval b := by omega
      simp [h1, h2, this]
theorem flt_key {a b : Nat} (ha : nanb a = false) (hb : nanb b = false) : flt a b = decide (key a < key b) := by
  rw [flt_val ha hb]; exact decide_eq_decide.2 (sval_lt_iff a b)
theorem feq_key {a b : Nat} (ha : nanb a = false) (hb : nanb b = false) : feq a b = decide (key a = key b) := by
  rw [feq_val ha hb]; exact decide_eq_decide.2 (sval_eq_iff a b)
theorem fle_key {a b : Nat} (ha : nanb a = false) (hb : nanb b = false) : fle a b = decide (key a ≤ key b) := by
  rw [fle_val ha hb]; apply decide_eq_decide.2; have := sval_lt_iff b a; omega
theorem flt_nan {a b : Nat} (h : nanb a = true ∨ nanb b = true) : flt a b = false := by unfold flt; rw [order_nan h]; rfl
theorem feq_nan {a b : Nat} (h : nanb a = true ∨ nanb b = true) : feq a b = false := by unfold feq; rw [order_nan h]; rfl
theorem fle_nan {a b : Nat} (h : nanb a = true ∨ nanb b = true) : fle a b = false := by unfold fle; rw [flt_nan h, feq_nan h]; rfl

/-- A word of 64 bits from its sign and rung. -/
theorem word_split {b : Nat} (h : b < 18446744073709551616) : b = (if sgnOf b = true then 9223372036854775808 else 0) + rungOf b := by
  unfold sgnOf rungOf
  by_cases hs : b / 9223372036854775808 % 2 = 1
  · rw [if_pos (by simp [hs])]; omega
  · rw [if_neg (by simp [hs])]; omega
theorem sgn_true {b : Nat} (h : b < 18446744073709551616) : sgnOf b = true ↔ 9223372036854775808 ≤ b := by
  unfold sgnOf; simp; omega
theorem sgn_false {b : Nat} (h : b < 18446744073709551616) : sgnOf b = false ↔ b < 9223372036854775808 := by
  have := sgn_true h
  cases hs : sgnOf b <;> simp_all <;> omega
end Go.Sim
