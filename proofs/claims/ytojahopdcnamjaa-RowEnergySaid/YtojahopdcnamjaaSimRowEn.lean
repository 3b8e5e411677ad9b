/- The kinetic energy of a still, and what a push makes of it. -/
import Derived.Test.YtojahopdcnamjaaSimRowSol2
set_option linter.unusedVariables false
set_option linter.unusedSimpArgs false
namespace Go.Sim
/-- One part of the energy: s * s / (2 * m); none where m is nought. -/
def en (m s : Rat) : Rat := if m = 0 then 0 else s * s / (2 * m)
theorem en_mul {m s : Rat} (h : 0 < m) : en m s * (2 * m) = s * s := by
  unfold en
  rw [if_neg (by grind), Rat.div_mul_cancel (by grind)]
theorem en_nonneg {m s : Rat} (h : 0 ≤ m) : 0 ≤ en m s := by
  by_cases h0 : m = 0
  · unfold en; rw [if_pos h0]; grind
  · have hm : 0 < m := by grind
    have e := en_mul (s := s) hm
    have sq : 0 ≤ s * s := by
      rcases Rat.le_total (a := 0) (b := s) with h | h
      · exact Rat.mul_nonneg h h
      · have := Rat.mul_nonneg (show 0 ≤ -s by grind) (show 0 ≤ -s by grind); grind
    exact cancel_le (u := 2 * m) (by grind) (by grind)
theorem sq_nn (s : Rat) : 0 ≤ s * s := by
  rcases Rat.le_total (a := 0) (b := s) with h | h
  · exact Rat.mul_nonneg h h
  · have := Rat.mul_nonneg (show 0 ≤ -s by grind) (show 0 ≤ -s by grind); grind
/-- The push as much as the energy allows. -/
theorem amgm {m p w s A a S : Rat} (hm : 0 ≤ m) (h0 : m = 0 → s = 0) (hA : 0 ≤ A) (ha : 0 ≤ a) (hS : 0 ≤ S) (eA : A * A = p * p) (ea : a * a = w * w) (eS : S * S = s * s) : A * (a * S) ≤ p * p * (m * (w * w)) / 2 + en m s := by
  by_cases hz : m = 0
  · have hs := h0 hz
    have : S = 0 := by
      have h : S * S = 0 := by rw [eS, hs]; grind
      rcases Rat.le_total (a := S) (b := 0) with h' | h'
      · grind
      · by_cases h2 : S = 0
        · exact h2
        · have := Rat.mul_pos (show 0 < S by grind) (show 0 < S by grind); grind
    rw [this]
    unfold en
    rw [if_pos hz, hz]
    grind
  · have hp : 0 < m := by grind
    have e := en_mul (s := s) hp
    have q := sq_nn (A * m * a - S)
    refine cancel_le (u := 2 * m) (by grind) ?_
    have x1 : (A * m * a - S) * (A * m * a - S) = (A * A) * m * m * (a * a) - 2 * m * (A * (a * S)) + S * S := by grind
    rw [x1, eA, ea, eS] at q
    have x2 : (p * p * (m * (w * w)) / 2 + en m s) * (2 * m) = p * p * m * m * (w * w) + en m s * (2 * m) := by grind
    rw [x2, e]
    have x3 : A * (a * S) * (2 * m) = 2 * m * (A * (a * S)) := by grind
    rw [x3]
    grind
/-- The energy behind the push against the one ahead of it. -/
theorem en_push {m p w s c A a C e : Rat} (hm : 0 ≤ m) (m1 : m = 0 ∨ 1 / 1099511627776 ≤ m) (e0 : 0 < e) (e9 : e ≤ 1 / 8452712498170643941637436558664265704301557216577944354047371344426782440907597751590676094202515006314790319892114058862117560952042968596008623655407033230534186943984081346699704282822823056848387726531379014466368452684024987821414350380272583623832617294363807973376) (hA : 0 ≤ A) (ha : 0 ≤ a) (hC : 0 ≤ C) (eA : A * A = p * p) (ea : a * a = w * w) (eC : C * C = c * c) (h0 : m = 0 → s = 0)
    (h1 : -(a * m * A / 2251799813685248 + C / 4503599627370496 + e * 4398046511104) ≤ c - (s + m * p * w)) (h2 : c - (s + m * p * w) ≤ a * m * A / 2251799813685248 + C / 4503599627370496 + e * 4398046511104) :
    en m c ≤ (en m s + p * (w * s) + p * p * (m * (w * w)) / 2) * (1 + 1 / 281474976710656) + p * p * (m * (w * w)) / 281474976710656 + e * 19342813113834066795298816 := by
  by_cases hz : m = 0
  · unfold en
    rw [if_pos hz, if_pos hz, hz, h0 hz]
    grind
  · have hp : 0 < m := by grind
    have hml : 1 / 1099511627776 ≤ m := by rcases m1 with h | h; exact absurd h hz; exact h
    have ec := en_mul (s := c) hp
    have es := en_mul (s := s) hp
    obtain ⟨K, hK⟩ : ∃ K, K = a * m * A := ⟨_, rfl⟩
    have K0 : 0 ≤ K := by rw [hK]; exact Rat.mul_nonneg (Rat.mul_nonneg ha hm) hA
    have KK : K * K = p * p * (m * (w * w)) * m := by rw [hK, ← eA, ← ea]; grind
    rw [← hK] at h1 h2
    obtain ⟨S, S0, S1, S2, S3⟩ := rabs (s + m * p * w)
    have SS : S * S = (s + m * p * w) * (s + m * p * w) := by rcases S3 with h | h <;> rw [h] <;> grind
    have Cc : c = C ∨ c = -C := by
      have : (c - C) * (c + C) = 0 := by grind
      rcases Rat.mul_eq_zero.1 this with h | h
      · left; grind
      · right; grind
    have CS : C ≤ S + (K / 2251799813685248 + C / 4503599627370496 + e * 4398046511104) := by rcases Cc with h | h <;> grind
    -- squares
    have q1 := sq_nn (K - C)
    have q2 := sq_nn (K - S)
    have q3 := sq_nn (C - S)
    have q4 := sq_nn (C - 1)
    have q5 := sq_nn (S - 1)
    have d : C * C - S * S = (C - S) * (C + S) := by grind
    have b := Rat.mul_nonneg (show 0 ≤ S + (K / 2251799813685248 + C / 4503599627370496 + e * 4398046511104) - C by grind) (show 0 ≤ C + S by grind)
    have b1 : (S + (K / 2251799813685248 + C / 4503599627370496 + e * 4398046511104) - C) * (C + S) = S * S - C * C + (K * C + K * S) / 2251799813685248 + (C * C + C * S) / 4503599627370496 + e * 4398046511104 * C + e * 4398046511104 * S := by grind
    rw [b1] at b
    have b2 := Rat.mul_nonneg (Rat.le_of_lt e0) (show 0 ≤ 1 + C * C - 2 * C by grind)
    have b3 := Rat.mul_nonneg (Rat.le_of_lt e0) (show 0 ≤ 1 + S * S - 2 * S by grind)
    have b4 := Rat.mul_nonneg (show 0 ≤ 1 / 8452712498170643941637436558664265704301557216577944354047371344426782440907597751590676094202515006314790319892114058862117560952042968596008623655407033230534186943984081346699704282822823056848387726531379014466368452684024987821414350380272583623832617294363807973376 - e by grind) (show 0 ≤ C * C by exact Rat.mul_nonneg hC hC)
    have b5 := Rat.mul_nonneg (show 0 ≤ 1 / 8452712498170643941637436558664265704301557216577944354047371344426782440907597751590676094202515006314790319892114058862117560952042968596008623655407033230534186943984081346699704282822823056848387726531379014466368452684024987821414350380272583623832617294363807973376 - e by grind) (show 0 ≤ S * S by exact Rat.mul_nonneg S0 S0)
    have n1 := Rat.mul_nonneg K0 hC
    have n2 := Rat.mul_nonneg K0 S0
    have key : C * C ≤ S * S * (1 + 1 / 281474976710656) + K * K / 562949953421312 + e * 8796093022208 := by
      have n4 := Rat.mul_nonneg hC hC
      have n5 := Rat.mul_nonneg S0 S0
      have n6 := Rat.mul_nonneg hC S0
      have g1 : (K - C) * (K - C) = K * K - 2 * (K * C) + C * C := by grind
      have g2 : (K - S) * (K - S) = K * K - 2 * (K * S) + S * S := by grind
      have g3 : (C - S) * (C - S) = C * C - 2 * (C * S) + S * S := by grind
      rw [g1] at q1
      rw [g2] at q2
      rw [g3] at q3
      have g4 : e * (1 + C * C - 2 * C) = e + e * (C * C) - 2 * (e * C) := by grind
      have g5 : e * (1 + S * S - 2 * S) = e + e * (S * S) - 2 * (e * S) := by grind
      rw [g4] at b2
      rw [g5] at b3
      have g6 : (1 / 8452712498170643941637436558664265704301557216577944354047371344426782440907597751590676094202515006314790319892114058862117560952042968596008623655407033230534186943984081346699704282822823056848387726531379014466368452684024987821414350380272583623832617294363807973376 - e) * (C * C) = (C * C) / 8452712498170643941637436558664265704301557216577944354047371344426782440907597751590676094202515006314790319892114058862117560952042968596008623655407033230534186943984081346699704282822823056848387726531379014466368452684024987821414350380272583623832617294363807973376 - e * (C * C) := by grind
      have g7 : (1 / 8452712498170643941637436558664265704301557216577944354047371344426782440907597751590676094202515006314790319892114058862117560952042968596008623655407033230534186943984081346699704282822823056848387726531379014466368452684024987821414350380272583623832617294363807973376 - e) * (S * S) = (S * S) / 8452712498170643941637436558664265704301557216577944354047371344426782440907597751590676094202515006314790319892114058862117560952042968596008623655407033230534186943984081346699704282822823056848387726531379014466368452684024987821414350380272583623832617294363807973376 - e * (S * S) := by grind
      rw [g6] at b4
      rw [g7] at b5
      have g8 : e * 4398046511104 * C = 4398046511104 * (e * C) := by grind
      have g9 : e * 4398046511104 * S = 4398046511104 * (e * S) := by grind
      rw [g8, g9] at b
      clear g1 g2 g3 g4 g5 g6 g7 g8 g9 q4 q5 KK SS d b1 CS
      generalize e * (C * C) = eCC at *
      generalize e * (S * S) = eSS at *
      generalize K * K = KK' at *
      generalize C * C = CC at *
      generalize S * S = SS' at *
      generalize K * C = KC at *
      generalize K * S = KS at *
      generalize C * S = CS' at *
      generalize e * C = eC' at *
      generalize e * S = eS' at *
      clear h1 h2 hK
      grind
    refine cancel_le (u := 2 * m) (by grind) ?_
    rw [ec, ← eC]
    have x2 : ((en m s + p * (w * s) + p * p * (m * (w * w)) / 2) * (1 + 1 / 281474976710656) + p * p * (m * (w * w)) / 281474976710656 + e * 19342813113834066795298816) * (2 * m) =
      (en m s * (2 * m) + 2 * (m * p * w) * s + (m * p * w) * (m * p * w)) * (1 + 1 / 281474976710656) + 2 * (p * p * (m * (w * w)) * m) / 281474976710656 + e * m * 38685626227668133590597632 := by grind
    rw [x2, es, ← KK]
    have x3 : s * s + 2 * (m * p * w) * s + (m * p * w) * (m * p * w) = S * S := by rw [SS]; grind
    rw [x3]
    have x4 := Rat.mul_nonneg (Rat.le_of_lt e0) (show 0 ≤ m - 1 / 1099511627776 by grind)
    have x5 := Rat.mul_nonneg K0 K0
    have x6 : e * (m - 1 / 1099511627776) = e * m - e / 1099511627776 := by grind
    rw [x6] at x4
    generalize e * m = em at *
    generalize K * K = KK' at *
    generalize C * C = CC at *
    generalize S * S = SS' at *
    grind
end Go.Sim
