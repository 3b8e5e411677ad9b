/- A row solved: its speed behind the push comes to what it asks. -/
import Derived.Test.YtofpjfohijljgaaSimRowComp
set_option linter.unusedVariables false
set_option linter.unusedSimpArgs false
namespace Go.Sim
theorem core_rat {sg G W w s l d q pk p β e Q Pk A S' G' s' b T D : Rat} (e0 : 0 < e) (G0 : 0 ≤ G) (W0 : 0 ≤ W) (w0 : 0 < w) (Q1 : -Q ≤ q) (Q2 : q ≤ Q) (P1 : -Pk ≤ pk) (P2 : pk ≤ Pk) (Q0 : 0 ≤ Q) (P0 : 0 ≤ Pk)
    (A1 : -A ≤ p) (A2 : p ≤ A) (A3 : A = p ∨ A = -p) (b1 : -b ≤ β) (b2 : β ≤ b) (b0 : 0 ≤ b) (T1 : -T ≤ pk + d) (T2 : pk + d ≤ T) (T3 : T = pk + d ∨ T = -(pk + d)) (D3 : D = d ∨ D = -d) (D0 : 0 ≤ D) (G'0 : 0 ≤ G') (W9 : w ≤ 42535295865117307932921825928971026432)
    (sgl : -G ≤ sg) (sgh : sg ≤ G)
    (h1 : -(G / 140737488355328) ≤ s - sg) (h1' : s - sg ≤ G / 140737488355328) (h2 : -(W / 281474976710656) ≤ w - W) (h2' : w - W ≤ W / 281474976710656)
    (h3 : -((b + 2 * G) / 9007199254740992) ≤ l - (β - s)) (h3' : l - (β - s) ≤ (b + 2 * G) / 9007199254740992)
    (h4 : -((b + 3 * G) / 2251799813685248 + e * w) ≤ d * w - l) (h4' : d * w - l ≤ (b + 3 * G) / 2251799813685248 + e * w)
    (h5 : -(T / 9007199254740992) ≤ q - (pk + d)) (h5' : q - (pk + d) ≤ T / 9007199254740992) (h6 : -((Q + Pk) / 9007199254740992) ≤ p - (q - pk)) (h6' : p - (q - pk) ≤ (Q + Pk) / 9007199254740992)
    (h7 : -(A * W / 1125899906842624 + G' / 2251799813685248 + 6 * (e * 19342813113834066795298816)) ≤ S' - (sg + p * W)) (h7' : S' - (sg + p * W) ≤ A * W / 1125899906842624 + G' / 2251799813685248 + 6 * (e * 19342813113834066795298816))
    (h8 : -(G' / 562949953421312) ≤ s' - S') (h8' : s' - S' ≤ G' / 562949953421312) :
    -((G + G' + b + W * (Q + Pk)) / 17592186044416 + e * 170141183460469231731687303715884105728) ≤ s' - β ∧ s' - β ≤ (G + G' + b + W * (Q + Pk)) / 17592186044416 + e * 170141183460469231731687303715884105728 := by
  have T9 : T ≤ Q + Q / 4503599627370496 := by rcases T3 with h | h <;> grind
  have D9 : D ≤ T + Pk := by rcases D3 with h | h <;> grind
  have A9 : A ≤ 2 * (Q + Pk) := by rcases A3 with h | h <;> grind
  have D1 : -D ≤ d := by rcases D3 with h | h <;> grind
  have D2 : d ≤ D := by rcases D3 with h | h <;> grind
  have X0 := Rat.mul_nonneg W0 (show 0 ≤ Q + Pk by grind)
  have x1 := mul_le (A := W) (show -W ≤ W by grind) (show W ≤ W by grind) h6 h6'
  have x2 := mul_le (A := W) (show -W ≤ W by grind) (show W ≤ W by grind) h5 h5'
  have x3 := mul_le D1 D2 h2 h2'
  have y1 := Rat.mul_nonneg W0 (show 0 ≤ Q + Q / 4503599627370496 - T by grind)
  have y2 := Rat.mul_nonneg W0 (show 0 ≤ T + Pk - D by grind)
  have y3 := Rat.mul_nonneg W0 (show 0 ≤ 2 * (Q + Pk) - A by grind)
  have y4 := Rat.mul_nonneg (show 0 ≤ e by grind) (show 0 ≤ 42535295865117307932921825928971026432 - w by grind)
  have y5 := Rat.mul_nonneg W0 Q0
  have y6 := Rat.mul_nonneg W0 P0
  have e1 : p * W = d * w - d * (w - W) + W * (q - (pk + d)) + W * (p - (q - pk)) := by grind
  have e2 : W * ((Q + Pk) / 9007199254740992) = W * (Q + Pk) / 9007199254740992 := by grind
  have e3 : W * (T / 9007199254740992) = W * T / 9007199254740992 := by grind
  have e4 : D * (W / 281474976710656) = W * D / 281474976710656 := by grind
  have e5 : A * W = W * A := by grind
  rw [e2] at x1
  rw [e3] at x2
  rw [e4] at x3
  rw [e1, e5] at h7 h7'
  generalize d * (w - W) = u1 at *
  generalize W * (q - (pk + d)) = u2 at *
  generalize W * (p - (q - pk)) = u3 at *
  have e6 : W * (Q + Pk) = W * Q + W * Pk := by grind
  have e7 : W * (Q + Q / 4503599627370496 - T) = W * Q + W * Q / 4503599627370496 - W * T := by grind
  have e8 : W * (T + Pk - D) = W * T + W * Pk - W * D := by grind
  have e9 : W * (2 * (Q + Pk) - A) = 2 * (W * Q + W * Pk) - W * A := by grind
  rw [e7] at y1
  rw [e8] at y2
  rw [e9] at y3
  rw [e6] at x1 X0 ⊢
  have e10 : e * (42535295865117307932921825928971026432 - w) = e * 42535295865117307932921825928971026432 - e * w := by grind
  rw [e10] at y4
  generalize W * Q = WQ at *
  generalize W * Pk = WP at *
  generalize W * T = WT at *
  generalize W * D = WD at *
  generalize W * A = WA at *
  generalize e * w = ew at *
  generalize d * w = dw at *
  clear h2 h2' T1 T2 T3 D3 A3 e1 e2 e3 e4 e5 e6 e7 e8 e9 e10
  constructor <;> grind
/-- The speed of a row. -/
theorem speed_near {w1 w2 w3 w4 w5 w6 s1 s2 s3 s4 s5 s6 : Nat} (u1 : U40 w1) (u2 : U40 w2) (u3 : U40 w3) (u4 : U40 w4) (u5 : U40 w5) (u6 : U40 w6) (v1 : U40 s1) (v2 : U40 s2) (v3 : U40 s3) (v4 : U40 s4) (v5 : U40 s5) (v6 : U40 s6)
    {G sg : Rat} (hG : G = rv (fabs w1) * rv (fabs s1) + rv (fabs w2) * rv (fabs s2) + rv (fabs w3) * rv (fabs s3) + rv (fabs w4) * rv (fabs s4) + rv (fabs w5) * rv (fabs s5) + rv (fabs w6) * rv (fabs s6))
    (hsg : sg = rv w1 * rv s1 + rv w2 * rv s2 + rv w3 * rv s3 + rv w4 * rv s4 + rv w5 * rv s5 + rv w6 * rv s6) :
    fin (fadd (fadd (fadd (fadd (fmul w1 s1) (fmul w2 s2)) (fmul w3 s3)) (fadd (fmul w4 s4) (fmul w5 s5))) (fmul w6 s6)) = true ∧ 0 ≤ G ∧ G ≤ 9671406556917033397649408 ∧ (G = 0 ∨ 1 / 1208925819614629174706176 ≤ G) ∧ -G ≤ sg ∧ sg ≤ G ∧
      -(G / 140737488355328) ≤ rv (fadd (fadd (fadd (fadd (fmul w1 s1) (fmul w2 s2)) (fmul w3 s3)) (fadd (fmul w4 s4) (fmul w5 s5))) (fmul w6 s6)) - sg ∧
      rv (fadd (fadd (fadd (fadd (fmul w1 s1) (fmul w2 s2)) (fmul w3 s3)) (fadd (fmul w4 s4) (fmul w5 s5))) (fmul w6 s6)) - sg ≤ G / 140737488355328 ∧
    fin (fadd (fadd (fadd (fabs (fmul w1 s1)) (fabs (fmul w2 s2))) (fabs (fmul w3 s3))) (fadd (fadd (fabs (fmul w4 s4)) (fabs (fmul w5 s5))) (fabs (fmul w6 s6)))) = true ∧
      99 / 100 * G ≤ rv (fadd (fadd (fadd (fabs (fmul w1 s1)) (fabs (fmul w2 s2))) (fabs (fmul w3 s3))) (fadd (fadd (fabs (fmul w4 s4)) (fabs (fmul w5 s5))) (fabs (fmul w6 s6)))) ∧
      rv (fadd (fadd (fadd (fabs (fmul w1 s1)) (fabs (fmul w2 s2))) (fabs (fmul w3 s3))) (fadd (fadd (fabs (fmul w4 s4)) (fabs (fmul w5 s5))) (fabs (fmul w6 s6)))) ≤ 101 / 100 * G := by
  have bg := big_800
  have one : ∀ {w s : Nat}, U40 w → U40 s → ∃ X : Rat, X = rv (fabs w) * rv (fabs s) ∧ fin (fmul w s) = true ∧ 0 ≤ X ∧ X ≤ 1208925819614629174706176 ∧ (X = 0 ∨ 1 / 1208925819614629174706176 ≤ X) ∧ -(X / 4503599627370496) ≤ rv (fmul w s) - rv w * rv s ∧ rv (fmul w s) - rv w * rv s ≤ X / 4503599627370496 ∧ -X ≤ rv w * rv s ∧ rv w * rv s ≤ X ∧ X - X / 4503599627370496 ≤ rv (fabs (fmul w s)) ∧ rv (fabs (fmul w s)) ≤ X + X / 4503599627370496 := by
    intro w s u v
    obtain ⟨f, x0, x9, x1, x2⟩ := u40_mul u v
    obtain ⟨a1, a2, a0⟩ := abs_le u.1
    obtain ⟨b1, b2, b0⟩ := abs_le v.1
    have m := mul_le a1 a2 b1 b2
    have z : rv (fabs w) * rv (fabs s) = 0 ∨ 1 / 1208925819614629174706176 ≤ rv (fabs w) * rv (fabs s) := by
      have := Us.mul u.2 v.2 (by grind) (by grind)
      rcases this with h | ⟨h, _⟩
      · exact .inl h
      · right; grind
    have c : rv w * rv s = rv (fabs w) * rv (fabs s) ∨ rv w * rv s = -(rv (fabs w) * rv (fabs s)) := by
      obtain ⟨_, _, k⟩ := abs_cases u.1
      obtain ⟨_, _, l⟩ := abs_cases v.1
      rcases k with k | k <;> rcases l with l | l <;> rw [k, l] <;> first | (left; grind) | (right; grind)
    obtain ⟨_, p0, pc⟩ := abs_cases f
    generalize rv (fabs w) * rv (fabs s) = X at *
    generalize rv w * rv s = Y at *
    refine ⟨X, rfl, f, x0, x9, z, x1, x2, m.1, m.2, ?_, ?_⟩
    · rcases c with c | c <;> rcases pc with pc | pc <;> grind
    · exact abs_bound f (by grind) (by grind)
  obtain ⟨X1, g1, f1, p1, q1, z1, a1, b1, c1, d1, j1, k1⟩ := one u1 v1
  obtain ⟨X2, g2, f2, p2, q2, z2, a2, b2, c2, d2, j2, k2⟩ := one u2 v2
  obtain ⟨X3, g3, f3, p3, q3, z3, a3, b3, c3, d3, j3, k3⟩ := one u3 v3
  obtain ⟨X4, g4, f4, p4, q4, z4, a4, b4, c4, d4, j4, k4⟩ := one u4 v4
  obtain ⟨X5, g5, f5, p5, q5, z5, a5, b5, c5, d5, j5, k5⟩ := one u5 v5
  obtain ⟨X6, g6, f6, p6, q6, z6, a6, b6, c6, d6, j6, k6⟩ := one u6 v6
  rw [← g1, ← g2, ← g3, ← g4, ← g5, ← g6] at hG
  obtain ⟨h, h1, h2⟩ := six_sum (A := 2 * G) f1 f2 f3 f4 f5 f6 (by grind) (by grind)
  obtain ⟨i, i1, i2⟩ := six_goes f1 f2 f3 f4 f5 f6 rfl (by grind)
  generalize rv w1 * rv s1 = y1 at *
  generalize rv w2 * rv s2 = y2 at *
  generalize rv w3 * rv s3 = y3 at *
  generalize rv w4 * rv s4 = y4 at *
  generalize rv w5 * rv s5 = y5 at *
  generalize rv w6 * rv s6 = y6 at *
  refine ⟨h, by grind, by grind, ?_, by grind, by grind, by grind, by grind, i, by grind, by grind⟩
  by_cases hz : X1 = 0 ∧ X2 = 0 ∧ X3 = 0 ∧ X4 = 0 ∧ X5 = 0 ∧ X6 = 0
  · left; grind
  · right
    rcases z1 with h | h
    · rcases z2 with h' | h'
      · rcases z3 with k | k
        · rcases z4 with k' | k'
          · rcases z5 with l | l
            · rcases z6 with l' | l'
              · exact absurd ⟨h, h', k, k', l, l'⟩ hz
              · grind
            · grind
          · grind
        · grind
      · grind
    · grind
end Go.Sim
