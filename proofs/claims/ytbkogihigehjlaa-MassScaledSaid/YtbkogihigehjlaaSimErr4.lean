/- What a quotient loses by rounding. -/
import Derived.Test.YtbkogihigehjlaaSimErr3
set_option linter.unusedVariables false
set_option linter.unusedSimpArgs false
namespace Go.Sim
open Ieee
theorem quo_nat {m n k : Nat} (hn : n ≠ 0) (hk : k = 54 + n.log2 - m.log2) :
    18014398509481984 * ((((2 * (m * 2 ^ k / n) + (m * 2 ^ k % n != 0).toNat) * n : Nat) : Int) - ((2 * (m * 2 ^ k) : Nat) : Int)).natAbs ≤ 2 * (m * 2 ^ k) := by
  by_cases hm : m = 0
  · subst hm; simp
  have h1 : 9007199254740992 * n ≤ m * 2 ^ k := by
    have l1 := Nat.log2_self_le hm
    have l2 : n < 2 ^ (n.log2 + 1) := Nat.lt_log2_self
    have e : 2 ^ (m.log2 + k) ≤ m * 2 ^ k := by rw [Nat.pow_add]; exact Nat.mul_le_mul_right _ l1
    have e2 : 2 ^ (53 + (n.log2 + 1)) ≤ 2 ^ (m.log2 + k) := Nat.pow_le_pow_right (by decide) (by omega)
    rw [Nat.pow_add 2 53] at e2
    have e3 : (2 : Nat) ^ 53 = 9007199254740992 := by decide
    rw [e3] at e2
    generalize 2 ^ (n.log2 + 1) = p at *
    omega
  generalize m * 2 ^ k = D at *
  have hd := Nat.div_add_mod D n
  have hr := Nat.mod_lt D (Nat.pos_of_ne_zero hn)
  have e : (2 * (D / n) + (D % n != 0).toNat) * n = 2 * (n * (D / n)) + (D % n != 0).toNat * n := by
    rw [Nat.add_mul, Nat.mul_assoc, Nat.mul_comm (D / n) n]
  rw [e]
  generalize n * (D / n) = Q at *
  generalize D % n = r at *
  by_cases h0 : r = 0
  · subst h0
    have : ((0 : Nat) != 0).toNat = 0 := rfl
    rw [this, Nat.zero_mul]; omega
  · have : (r != 0).toNat = 1 := by simp [h0]
    rw [this, Nat.one_mul]; omega
theorem fdiv_fin {a b u : Nat} (hu : u = 1074) (fa : fin a = true) (fb : fin b = true) (hb : magOf (rungOf b) ≠ 0) :
    ∃ N d, fdiv a b = double.word (sgnOf a ^^ sgnOf b) (RN N d) ∧ 18014398509481984 * (((N * magOf (rungOf b) : Nat) : Int) - ((magOf (rungOf a) * 2 ^ (u + d) : Nat) : Int)).natAbs ≤ magOf (rungOf a) * 2 ^ (u + d) := by
  obtain ⟨m, i, e1, l1, v1⟩ := read_num fa
  obtain ⟨n, j, e2, l2, v2⟩ := read_num fb
  have hn : n ≠ 0 := by intro h; rw [h, Nat.zero_mul] at v2; exact hb v2.symm
  have c5 : double.fractionBits + 2 = 54 := rfl
  unfold fdiv Format.div
  rw [e1, e2, c5]
  simp only [Datum.quotient]
  rw [if_neg hn, Option.map_some, Option.getD_some]
  simp only [Format.write]
  generalize hk : 54 + n.log2 - m.log2 = k
  have key := quo_nat hn hk.symm
  rw [Nat.shiftLeft_eq]
  generalize 2 * (m * 2 ^ k / n) + (m * 2 ^ k % n != 0).toNat = q at *
  obtain ⟨d, hd⟩ : ∃ d : Nat, 0 ≤ i - j - (k : Int) - 1 + 1074 + (d : Int) := ⟨(-(i - j - (k : Int) - 1)).toNat, by omega⟩
  refine ⟨q * 2 ^ (i - j - (k : Int) - 1 + 1074 + (d : Int)).toNat, d, nearest_RN _ _ _ d hd, ?_⟩
  generalize hE : (i - j - (k : Int) - 1 + 1074 + (d : Int)).toNat + (j + 1074).toNat = E
  have hF : (i + 1074).toNat + (u + d) = k + 1 + E := by omega
  have x1 : q * 2 ^ (i - j - (k : Int) - 1 + 1074 + (d : Int)).toNat * magOf (rungOf b) = q * n * 2 ^ E := by
    rw [← v2, ← hE, Nat.pow_add]; ac_rfl
  have x2 : magOf (rungOf a) * 2 ^ (u + d) = 2 * (m * 2 ^ k) * 2 ^ E := by
    rw [← v1, Nat.mul_assoc m, ← Nat.pow_add, hF, Nat.pow_add, Nat.pow_add, Nat.pow_one]; ac_rfl
  rw [x1, x2]
  have x3 : (((q * n * 2 ^ E : Nat) : Int) - ((2 * (m * 2 ^ k) * 2 ^ E : Nat) : Int)) = (((q * n : Nat) : Int) - ((2 * (m * 2 ^ k) : Nat) : Int)) * 2 ^ E := by
    rw [Int.sub_mul, Int.natCast_mul (q * n), Int.natCast_mul (2 * (m * 2 ^ k))]; simp
  rw [x3, natAbs_scale, ← Nat.mul_assoc]
  exact Nat.mul_le_mul_right _ key
/-- A quotient, held against its dividend. -/
theorem rv_div {a b : Nat} {C : Rat} (fa : fin a = true) (fb : fin b = true) (h0 : rv (fabs b) ≠ 0) (hC : C * 2 ≤ big) (hC0 : 1 ≤ C) (h1 : rv (fabs a) ≤ C * rv (fabs b)) :
    fin (fdiv a b) = true ∧ -(rv (fabs a) / 4503599627370496 + eta * rv (fabs b)) ≤ rv (fabs (fdiv a b)) * rv (fabs b) - rv (fabs a) ∧ rv (fabs (fdiv a b)) * rv (fabs b) - rv (fabs a) ≤ rv (fabs a) / 4503599627370496 + eta * rv (fabs b) ∧
    (sgnOf (fdiv a b) = (sgnOf a ^^ sgnOf b)) := by
  have hu := uu_pos
  have e0 := eta_pos
  obtain ⟨u, hu0⟩ : ∃ u, u = 1074 := ⟨_, rfl⟩
  have av : ∀ z : Nat, fin z = true → rv (fabs z) * uu = (magOf (rungOf z) : Rat) := by
    intro z fz
    have hs := rv_mul_uu z
    rw [sval_sgn] at hs
    obtain ⟨_, p1, p2, p3⟩ := rv_abs fz
    have m0 : (0 : Rat) ≤ (magOf (rungOf z) : Rat) := Rat.natCast_le_natCast.2 (Nat.zero_le _)
    cases hz : sgnOf z
    · rw [hz] at hs
      simp only [Bool.false_eq_true, if_false, Rat.intCast_natCast] at hs
      have h0 : 0 ≤ rv z := cancel_le hu (by rw [← hs]; grind)
      rw [p1 h0, hs]
    · rw [hz] at hs
      simp only [if_true, Rat.intCast_neg, Rat.intCast_natCast] at hs
      have h0 : rv z ≤ 0 := cancel_le hu (by rw [← hs]; grind)
      rw [p2 h0]; grind
  have ea := av a fa
  have eb := av b fb
  have hb : magOf (rungOf b) ≠ 0 := by
    intro h
    rw [h] at eb
    have : ((0 : Nat) : Rat) = 0 := rfl
    rw [this] at eb
    have : rv (fabs b) = 0 := by grind
    exact h0 this
  obtain ⟨N, d, e, hq⟩ := fdiv_fin hu0 fa fb hb
  have euu : uu = ((2 ^ u : Nat) : Rat) := uu_eq hu0
  obtain ⟨P, hP⟩ : ∃ P : Rat, P = ((2 ^ d : Nat) : Rat) := ⟨_, rfl⟩
  have P0 : 0 < P := by rw [hP]; exact Rat.natCast_lt_natCast.2 (Nat.two_pow_pos d)
  have hq' : (18014398509481984 : Rat) * ((((N * magOf (rungOf b) : Nat) : Int) - ((magOf (rungOf a) * 2 ^ (u + d) : Nat) : Int)).natAbs : Rat) ≤ ((magOf (rungOf a) * 2 ^ (u + d) : Nat) : Rat) := by
    have := Rat.natCast_le_natCast.2 hq
    rw [Rat.natCast_mul] at this
    exact this
  have nb := natAbs_cast (((N * magOf (rungOf b) : Nat) : Int) - ((magOf (rungOf a) * 2 ^ (u + d) : Nat) : Int))
  have ed : ((((N * magOf (rungOf b) : Nat) : Int) - ((magOf (rungOf a) * 2 ^ (u + d) : Nat) : Int) : Int) : Rat) = (N : Rat) * (rv (fabs b) * uu) - rv (fabs a) * uu * (uu * P) := by
    rw [Rat.intCast_sub, Rat.intCast_natCast, Rat.intCast_natCast, Rat.natCast_mul, Rat.natCast_mul, Nat.pow_add, Rat.natCast_mul, ← euu, ← hP, ← ea, ← eb]
  have em : ((magOf (rungOf a) * 2 ^ (u + d) : Nat) : Rat) = rv (fabs a) * uu * (uu * P) := by
    rw [Rat.natCast_mul, Nat.pow_add, Rat.natCast_mul, ← euu, ← hP, ← ea]
  rw [ed] at nb
  rw [em] at hq'
  have b0 : 0 < rv (fabs b) := by
    have := (abs_cases fb).2.1
    grind
  have a0 := (abs_cases fa).2.1
  -- in units of the divisor
  have uP : 0 < uu * P := Rat.mul_pos hu P0
  have uuP : 0 < uu * (uu * P) := Rat.mul_pos hu uP
  have hYe : (N : Rat) = (N : Rat) / (uu * P) * (uu * P) := by
    have : uu * P ≠ 0 := by grind
    grind
  have N0 : (0 : Rat) ≤ (N : Rat) := Rat.natCast_le_natCast.2 (Nat.zero_le _)
  generalize (N : Rat) / (uu * P) = Y at *
  have Y0 : 0 ≤ Y := cancel_le uP (by rw [← hYe]; grind)
  generalize rv (fabs b) = B at *
  generalize rv (fabs a) = A at *
  have yb1 : Y * B - A ≤ A / 18014398509481984 := cancel_le uuP (by rw [hYe] at nb; grind)
  have yb2 : -(Y * B - A) ≤ A / 18014398509481984 := cancel_le uuP (by rw [hYe] at nb; grind)
  have bg : 0 < big := by grind
  have Yle : Y ≤ big := by
    refine cancel_le b0 ?_
    have := Rat.mul_nonneg (show 0 ≤ big - C * 2 by grind) (Rat.le_of_lt b0)
    grind
  have Nle : N ≤ magOf bigR * 2 ^ d := by
    rw [← Rat.natCast_le_natCast, Rat.natCast_mul, ← hP, hYe]
    have e : big * uu = (magOf bigR : Rat) := by unfold big; grind
    rw [← e]
    have := Rat.mul_nonneg (show 0 ≤ big - Y by grind) (Rat.le_of_lt uP)
    grind
  have hr := RN_small bigR_lt Nle
  have hw := RN_lt hr
  have hf : fin (fdiv a b) = true := by rw [e]; exact fin_word _ hw
  have ef := av _ hf
  have er : rungOf (fdiv a b) = RN N d := by rw [e]; exact rung_word _ (by omega)
  have es : sgnOf (fdiv a b) = (sgnOf a ^^ sgnOf b) := by rw [e]; exact sgn_word _ (by omega)
  rw [er] at ef
  refine ⟨hf, ?_⟩
  generalize rv (fabs (fdiv a b)) = R at *
  have np := natAbs_cast ((magOf (RN N d) : Int) * 2 ^ d - N)
  have ep : (((magOf (RN N d) : Int) * 2 ^ d - N : Int) : Rat) = R * uu * P - Y * (uu * P) := by
    have e1 : ((magOf (RN N d) : Int) * 2 ^ d) = ((magOf (RN N d) * 2 ^ d : Nat) : Int) := by simp
    rw [e1, Rat.intCast_sub, Rat.intCast_natCast, Rat.intCast_natCast, Rat.natCast_mul, ← hP, ← ef, hYe]
  rw [ep] at np
  have eeta : eta * (2 * uu) = 1 := by unfold eta; grind
  have rb : -(Y / 9007199254740992 + eta) ≤ R - Y ∧ R - Y ≤ Y / 9007199254740992 + eta := by
    have hep := err_product N d hr
    generalize ((magOf (RN N d) : Int) * 2 ^ d - N : Int).natAbs = t at *
    have ePe : eta * (uu * P) * 2 = P := by grind
    have h' : (t : Rat) ≤ Y * (uu * P) / 9007199254740992 + eta * (uu * P) := by
      have Yp : 0 ≤ Y * (uu * P) := Rat.mul_nonneg Y0 (Rat.le_of_lt uP)
      have Ep : 0 ≤ eta * (uu * P) := Rat.mul_nonneg (Rat.le_of_lt e0) (Rat.le_of_lt uP)
      rcases hep with h | h
      · have h := Rat.natCast_le_natCast.2 h
        rw [Rat.natCast_mul, hYe] at h
        have k : ((9007199254740992 : Nat) : Rat) = 9007199254740992 := rfl
        rw [k] at h
        grind
      · have h := Rat.natCast_le_natCast.2 h
        rw [Rat.natCast_mul, ← hP] at h
        have k : ((2 : Nat) : Rat) = 2 := rfl
        rw [k] at h
        grind
    constructor
    · have : -(R - Y) ≤ Y / 9007199254740992 + eta := cancel_le uP (by grind)
      grind
    · exact cancel_le uP (by grind)
  have m1 := Rat.mul_nonneg (show 0 ≤ R - Y + (Y / 9007199254740992 + eta) by grind) (Rat.le_of_lt b0)
  have m2 := Rat.mul_nonneg (show 0 ≤ Y / 9007199254740992 + eta - (R - Y) by grind) (Rat.le_of_lt b0)
  have x1 : (R - Y + (Y / 9007199254740992 + eta)) * B = R * B - Y * B + (Y * B / 9007199254740992 + eta * B) := by grind
  have x2 : (Y / 9007199254740992 + eta - (R - Y)) * B = Y * B / 9007199254740992 + eta * B - (R * B - Y * B) := by grind
  rw [x1] at m1
  rw [x2] at m2
  refine ⟨?_, ?_, es⟩ <;> grind
end Go.Sim
