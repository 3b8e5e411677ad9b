/- What a square root loses by rounding. -/
import Derived.Test.YtbkogihigehjlaaSimErr4
set_option linter.unusedVariables false
set_option linter.unusedSimpArgs false
namespace Go.Sim
open Ieee
theorem rootFrom_spec (n : Nat) : ∀ (t r : Nat), r * r ≤ n → n < (r + 2 ^ t) * (r + 2 ^ t) → Datum.rootFrom n t r * Datum.rootFrom n t r ≤ n ∧ n < (Datum.rootFrom n t r + 1) * (Datum.rootFrom n t r + 1) := by
  intro t
  induction t with
  | zero => intro r h1 h2; exact ⟨h1, by simpa [Datum.rootFrom] using h2⟩
  | succ t ih =>
    intro r h1 h2
    unfold Datum.rootFrom
    simp only [Nat.shiftLeft_eq, Nat.one_mul]
    by_cases h : (r + 2 ^ t) * (r + 2 ^ t) ≤ n
    · rw [if_pos h]
      refine ih _ h ?_
      have e : r + 2 ^ t + 2 ^ t = r + 2 ^ (t + 1) := by rw [Nat.pow_succ]; omega
      rw [e]; exact h2
    · rw [if_neg h]
      exact ih _ h1 (by omega)
theorem root_nat {n : Nat} (h : 324518553658426726783156020576256 ≤ n) :
    18014398509481984 * ((((2 * Datum.rootFrom n (n.log2 / 2 + 1) 0 + (Datum.rootFrom n (n.log2 / 2 + 1) 0 * Datum.rootFrom n (n.log2 / 2 + 1) 0 != n).toNat) * (2 * Datum.rootFrom n (n.log2 / 2 + 1) 0 + (Datum.rootFrom n (n.log2 / 2 + 1) 0 * Datum.rootFrom n (n.log2 / 2 + 1) 0 != n).toNat) : Nat) : Int) - ((4 * n : Nat) : Int)).natAbs ≤ 4 * n := by
  obtain ⟨h1, h2⟩ := rootFrom_spec n (n.log2 / 2 + 1) 0 (by omega) (by
    have l : n < 2 ^ (n.log2 + 1) := Nat.lt_log2_self
    rw [Nat.zero_add, ← Nat.pow_add]
    exact Nat.lt_of_lt_of_le l (Nat.pow_le_pow_right (by decide) (by omega)))
  generalize Datum.rootFrom n (n.log2 / 2 + 1) 0 = w at *
  have hw : 18014398509481984 ≤ w := by
    refine Nat.le_of_not_lt fun hc => ?_
    have := Nat.mul_le_mul (show w + 1 ≤ 18014398509481984 by omega) (show w + 1 ≤ 18014398509481984 by omega)
    omega
  have hm := Nat.mul_le_mul_right w hw
  have e2 : (w + 1) * (w + 1) = w * w + 2 * w + 1 := by grind
  rw [e2] at h2
  by_cases he : w * w = n
  · have : (w * w != n).toNat = 0 := by simp [he]
    rw [this]
    have e : (2 * w + 0) * (2 * w + 0) = 4 * (w * w) := by grind
    rw [e, he]; omega
  · have : (w * w != n).toNat = 1 := by simp [he]
    rw [this]
    have e : (2 * w + 1) * (2 * w + 1) = 4 * (w * w) + 4 * w + 1 := by grind
    rw [e]
    generalize w * w = q at *
    omega
theorem fsqrt_fin {a u : Nat} (hu : u = 1074) (fa : fin a = true) (hs : sgnOf a = false) (ha : magOf (rungOf a) ≠ 0) :
    ∃ N d, fsqrt a = double.word false (RN N d) ∧ 18014398509481984 * (((N * N : Nat) : Int) - ((magOf (rungOf a) * 2 ^ (u + 2 * d) : Nat) : Int)).natAbs ≤ magOf (rungOf a) * 2 ^ (u + 2 * d) := by
  obtain ⟨m, i, e1, l1, v1⟩ := read_num fa
  have hm : m ≠ 0 := by intro h; rw [h, Nat.zero_mul] at v1; exact ha v1.symm
  have c5 : double.fractionBits + 2 = 54 := rfl
  unfold fsqrt Format.sqrt
  rw [e1, c5, hs]
  simp only [Datum.root]
  rw [if_neg hm, if_neg (by decide), Option.map_some, Option.getD_some]
  simp only [Format.write]
  generalize hk0 : 2 * 54 - m.log2 = k0
  generalize hk : k0 + ((i - (k0 : Int)) % 2).toNat = k
  rw [Nat.shiftLeft_eq]
  have hn : 324518553658426726783156020576256 ≤ m * 2 ^ k := by
    have l := Nat.log2_self_le hm
    have e : 2 ^ (m.log2 + k) ≤ m * 2 ^ k := by rw [Nat.pow_add]; exact Nat.mul_le_mul_right _ l
    have e2 : 2 ^ 108 ≤ 2 ^ (m.log2 + k) := Nat.pow_le_pow_right (by decide) (by omega)
    have e3 : (2 : Nat) ^ 108 = 324518553658426726783156020576256 := by decide
    omega
  have key := root_nat hn
  generalize 2 * Datum.rootFrom (m * 2 ^ k) ((m * 2 ^ k).log2 / 2 + 1) 0 + (Datum.rootFrom (m * 2 ^ k) ((m * 2 ^ k).log2 / 2 + 1) 0 * Datum.rootFrom (m * 2 ^ k) ((m * 2 ^ k).log2 / 2 + 1) 0 != m * 2 ^ k).toNat = q at *
  generalize hp : (i - (k : Int)) / 2 - 1 = p
  have hpar : i = 2 * p + 2 + k := by omega
  obtain ⟨d, hd⟩ : ∃ d : Nat, 0 ≤ p + 1074 + (d : Int) := ⟨(-p).toNat, by omega⟩
  refine ⟨q * 2 ^ (p + 1074 + (d : Int)).toNat, d, nearest_RN _ _ _ d hd, ?_⟩
  generalize hE : (p + 1074 + (d : Int)).toNat = E
  have hF : (i + 1074).toNat + (u + 2 * d) = 2 + k + (E + E) := by omega
  have x1 : q * 2 ^ E * (q * 2 ^ E) = q * q * 2 ^ (E + E) := by rw [Nat.pow_add]; ac_rfl
  have x2 : magOf (rungOf a) * 2 ^ (u + 2 * d) = 4 * (m * 2 ^ k) * 2 ^ (E + E) := by
    have p4 : (2 : Nat) ^ 2 = 4 := by decide
    rw [← v1, Nat.mul_assoc m, ← Nat.pow_add, hF, Nat.pow_add, Nat.pow_add, p4]; ac_rfl
  rw [x1, x2]
  have x3 : (((q * q * 2 ^ (E + E) : Nat) : Int) - ((4 * (m * 2 ^ k) * 2 ^ (E + E) : Nat) : Int)) = (((q * q : Nat) : Int) - ((4 * (m * 2 ^ k) : Nat) : Int)) * 2 ^ (E + E) := by
    rw [Int.sub_mul, Int.natCast_mul (q * q), Int.natCast_mul (4 * (m * 2 ^ k))]; simp
  rw [x3, natAbs_scale, ← Nat.mul_assoc]
  exact Nat.mul_le_mul_right _ key
theorem rv_abs_mag {z : Nat} (fz : fin z = true) : rv (fabs z) * uu = (magOf (rungOf z) : Rat) := by
  have hu := uu_pos
  have hs := rv_mul_uu z
  rw [sval_sgn] at hs
  obtain ⟨_, p1, p2, p3⟩ := rv_abs fz
  have m0 : (0 : Rat) ≤ (magOf (rungOf z) : Rat) := Rat.natCast_le_natCast.2 (Nat.zero_le _)
  cases hz : sgnOf z
  · rw [hz] at hs
    simp only [Bool.false_eq_true, if_false, Rat.intCast_natCast] at hs
    have h0 : 0 ≤ rv z := cancel_le hu (by rw [← hs]; grind)
    rw [p1 h0, hs]
  · rw [hz] at hs
    simp only [if_true, Rat.intCast_neg, Rat.intCast_natCast] at hs
    have h0 : rv z ≤ 0 := cancel_le hu (by rw [← hs]; grind)
    rw [p2 h0]; grind
/-- A root's square, held against what it is the root of. -/
theorem rv_sqrt' {a : Nat} (fa : fin a = true) (hs : sgnOf a = false) (h0 : rv (fabs a) ≠ 0) (hC : rv (fabs a) * 2 ≤ big * big) (hb : 2 ≤ big) :
    ∃ Y : Rat, 0 ≤ Y ∧ -(rv (fabs a) / 18014398509481984) ≤ Y * Y - rv (fabs a) ∧ Y * Y - rv (fabs a) ≤ rv (fabs a) / 18014398509481984 ∧
      fin (fsqrt a) = true ∧ sgnOf (fsqrt a) = false ∧ -(Y / 9007199254740992 + eta) ≤ rv (fabs (fsqrt a)) - Y ∧ rv (fabs (fsqrt a)) - Y ≤ Y / 9007199254740992 + eta := by
  have hu := uu_pos
  have e0 := eta_pos
  obtain ⟨u, hu0⟩ : ∃ u, u = 1074 := ⟨_, rfl⟩
  have ea := rv_abs_mag fa
  have ha : magOf (rungOf a) ≠ 0 := by
    intro h
    rw [h] at ea
    have : ((0 : Nat) : Rat) = 0 := rfl
    rw [this] at ea
    have : rv (fabs a) = 0 := by grind
    exact h0 this
  obtain ⟨N, d, e, hq⟩ := fsqrt_fin hu0 fa hs ha
  have euu : uu = ((2 ^ u : Nat) : Rat) := uu_eq hu0
  obtain ⟨P, hP⟩ : ∃ P : Rat, P = ((2 ^ d : Nat) : Rat) := ⟨_, rfl⟩
  have P0 : 0 < P := by rw [hP]; exact Rat.natCast_lt_natCast.2 (Nat.two_pow_pos d)
  have hq' : (18014398509481984 : Rat) * ((((N * N : Nat) : Int) - ((magOf (rungOf a) * 2 ^ (u + 2 * d) : Nat) : Int)).natAbs : Rat) ≤ ((magOf (rungOf a) * 2 ^ (u + 2 * d) : Nat) : Rat) := by
    have := Rat.natCast_le_natCast.2 hq
    rw [Rat.natCast_mul] at this
    exact this
  have nb := natAbs_cast (((N * N : Nat) : Int) - ((magOf (rungOf a) * 2 ^ (u + 2 * d) : Nat) : Int))
  have e2d : 2 ^ (u + 2 * d) = 2 ^ u * (2 ^ d * 2 ^ d) := by
    have h2 : 2 * d = d + d := by omega
    rw [Nat.pow_add, h2, Nat.pow_add 2 d d]
  have em : ((magOf (rungOf a) * 2 ^ (u + 2 * d) : Nat) : Rat) = rv (fabs a) * uu * (uu * (P * P)) := by
    rw [e2d, Rat.natCast_mul, Rat.natCast_mul, Rat.natCast_mul, ← euu, ← hP, ← ea]
  have ed : ((((N * N : Nat) : Int) - ((magOf (rungOf a) * 2 ^ (u + 2 * d) : Nat) : Int) : Int) : Rat) = (N : Rat) * (N : Rat) - rv (fabs a) * uu * (uu * (P * P)) := by
    rw [Rat.intCast_sub, Rat.intCast_natCast, Rat.intCast_natCast, em, Rat.natCast_mul]
  rw [ed] at nb
  rw [em] at hq'
  have a0 := (abs_cases fa).2.1
  have uP : 0 < uu * P := Rat.mul_pos hu P0
  have uuP : 0 < (uu * P) * (uu * P) := Rat.mul_pos uP uP
  have hYe : (N : Rat) = (N : Rat) / (uu * P) * (uu * P) := by
    have : uu * P ≠ 0 := by grind
    grind
  have N0 : (0 : Rat) ≤ (N : Rat) := Rat.natCast_le_natCast.2 (Nat.zero_le _)
  generalize (N : Rat) / (uu * P) = Y at *
  have Y0 : 0 ≤ Y := cancel_le uP (by rw [← hYe]; grind)
  generalize rv (fabs a) = A at *
  have yb1 : Y * Y - A ≤ A / 18014398509481984 := cancel_le uuP (by rw [hYe] at nb; grind)
  have yb2 : -(Y * Y - A) ≤ A / 18014398509481984 := cancel_le uuP (by rw [hYe] at nb; grind)
  have Yle : Y ≤ big := by
    rcases Rat.le_total (a := Y) (b := big) with h | h
    · exact h
    · exfalso
      have m1 := Rat.mul_nonneg (show 0 ≤ Y - big by grind) (show 0 ≤ Y + big by grind)
      grind
  have Nle : N ≤ magOf bigR * 2 ^ d := by
    rw [← Rat.natCast_le_natCast, Rat.natCast_mul, ← hP, hYe]
    have e : big * uu = (magOf bigR : Rat) := by unfold big; grind
    rw [← e]
    have := Rat.mul_nonneg (show 0 ≤ big - Y by grind) (Rat.le_of_lt uP)
    grind
  have hr := RN_small bigR_lt Nle
  have hw := RN_lt hr
  have hf : fin (fsqrt a) = true := by rw [e]; exact fin_word _ hw
  have ef := rv_abs_mag hf
  have er : rungOf (fsqrt a) = RN N d := by rw [e]; exact rung_word _ (by omega)
  have es : sgnOf (fsqrt a) = false := by rw [e]; exact sgn_word _ (by omega)
  rw [er] at ef
  refine ⟨Y, Y0, by grind, yb1, hf, es, ?_⟩
  generalize rv (fabs (fsqrt a)) = R at *
  have np := natAbs_cast ((magOf (RN N d) : Int) * 2 ^ d - N)
  have ep : (((magOf (RN N d) : Int) * 2 ^ d - N : Int) : Rat) = R * uu * P - Y * (uu * P) := by
    have e1 : ((magOf (RN N d) : Int) * 2 ^ d) = ((magOf (RN N d) * 2 ^ d : Nat) : Int) := by simp
    rw [e1, Rat.intCast_sub, Rat.intCast_natCast, Rat.intCast_natCast, Rat.natCast_mul, ← hP, ← ef, hYe]
  rw [ep] at np
  have eeta : eta * (2 * uu) = 1 := by unfold eta; grind
  have hep := err_product N d hr
  generalize ((magOf (RN N d) : Int) * 2 ^ d - N : Int).natAbs = t at *
  have ePe : eta * (uu * P) * 2 = P := by grind
  have h' : (t : Rat) ≤ Y * (uu * P) / 9007199254740992 + eta * (uu * P) := by
    have Yp : 0 ≤ Y * (uu * P) := Rat.mul_nonneg Y0 (Rat.le_of_lt uP)
    have Ep : 0 ≤ eta * (uu * P) := Rat.mul_nonneg (Rat.le_of_lt e0) (Rat.le_of_lt uP)
    rcases hep with h | h
    · have h := Rat.natCast_le_natCast.2 h
      rw [Rat.natCast_mul, hYe] at h
      have k : ((9007199254740992 : Nat) : Rat) = 9007199254740992 := rfl
      rw [k] at h
      grind
    · have h := Rat.natCast_le_natCast.2 h
      rw [Rat.natCast_mul, ← hP] at h
      have k : ((2 : Nat) : Rat) = 2 := rfl
      rw [k] at h
      grind
  constructor
  · have : -(R - Y) ≤ Y / 9007199254740992 + eta := cancel_le uP (by grind)
    grind
  · exact cancel_le uP (by grind)
theorem rv_sqrt {a : Nat} (fa : fin a = true) (hs : sgnOf a = false) (h0 : rv (fabs a) ≠ 0) (hC : rv (fabs a) * 2 ≤ big) (hb : 2 ≤ big) :
    ∃ Y : Rat, 0 ≤ Y ∧ -(rv (fabs a) / 18014398509481984) ≤ Y * Y - rv (fabs a) ∧ Y * Y - rv (fabs a) ≤ rv (fabs a) / 18014398509481984 ∧
      fin (fsqrt a) = true ∧ sgnOf (fsqrt a) = false ∧ -(Y / 9007199254740992 + eta) ≤ rv (fabs (fsqrt a)) - Y ∧ rv (fabs (fsqrt a)) - Y ≤ Y / 9007199254740992 + eta := by
  refine rv_sqrt' fa hs h0 ?_ hb
  have := Rat.mul_nonneg (show 0 ≤ big - 2 by grind) (show 0 ≤ big by grind)
  grind
end Go.Sim
