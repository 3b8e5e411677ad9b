/- TurnLong: turns are as long as 1. -/
import Derived.Test.YthaalobnckdjoaaFnsC
import Derived.Test.YthaalobnckdjoaaSimErr5
set_option linter.unusedVariables false
set_option linter.unusedSimpArgs false
namespace Go.Proofs.Ythaalobnckdjoaa
open Go.Sim
/-- What the check of a turn says of its parts. -/
theorem check_parts {r i : Nat} (hc : ieq (s_turn_Check_0 r i) 0 = true) : fin r = true ∧ fin i = true ∧ -(11 / 10) ≤ rv r ∧ rv r ≤ 11 / 10 ∧ -(11 / 10) ≤ rv i ∧ rv i ≤ 11 / 10 ∧
    rv r * rv r + rv i * rv i - 1 ≤ 1 / 1000000000000 ∧ -(1 / 1000000000000) ≤ rv r * rv r + rv i * rv i - 1 := by
  unfold s_turn_Check_0 at hc
  have hb : (fle 4607182418800009216 (s_turn_square_0 r i) && fle (s_turn_square_0 r i) 4607182418800021504) = true := by
    cases h : (fle 4607182418800009216 (s_turn_square_0 r i) && fle (s_turn_square_0 r i) 4607182418800021504)
    · rw [h] at hc; exact absurd hc (by decide)
    · rfl
  simp only [Bool.and_eq_true] at hb
  obtain ⟨h1, h2⟩ := hb
  have fS : fin (s_turn_square_0 r i) = true := fin_between h1 h2 (by decide) (by decide)
  rw [rv_le (by decide) fS, rv_lo] at h1
  rw [rv_le fS (by decide), rv_hi] at h2
  simp only [decide_eq_true_eq] at h1 h2
  have c1 : ((1099511627775 : Nat) : Rat) = 1099511627775 := rfl
  have c2 : ((1099511627776 : Nat) : Rat) = 1099511627776 := rfl
  have c3 : ((1099511627777 : Nat) : Rat) = 1099511627777 := rfl
  rw [c1, c2] at h1
  rw [c3, c2] at h2
  unfold s_turn_square_0 at fS h1 h2
  obtain ⟨f1, f2⟩ := fin_add fS
  obtain ⟨fr, _⟩ := fin_mul f1
  obtain ⟨fi, _⟩ := fin_mul f2
  have q1 : 0 ≤ rv r * rv r := by
    rcases Rat.le_total (a := 0) (b := rv r) with h | h
    · exact Rat.mul_nonneg h h
    · have := Rat.mul_nonneg (show 0 ≤ -rv r by grind) (show 0 ≤ -rv r by grind); grind
  have q2 : 0 ≤ rv i * rv i := by
    rcases Rat.le_total (a := 0) (b := rv i) with h | h
    · exact Rat.mul_nonneg h h
    · have := Rat.mul_nonneg (show 0 ≤ -rv i by grind) (show 0 ≤ -rv i by grind); grind
  have m1 := rv_mul' (B := rv r * rv r) fr fr f1 (by grind) (by grind)
  have m2 := rv_mul' (B := rv i * rv i) fi fi f2 (by grind) (by grind)
  have et := eta_small
  have e0 := eta_pos
  have ad := rv_add' (B := rv r * rv r * 2 + rv i * rv i * 2 + 1) f1 f2 fS (by grind) (by grind)
  generalize rv (fadd (fmul r r) (fmul i i)) = S at *
  generalize rv (fmul r r) = P at *
  generalize rv (fmul i i) = Q at *
  have b1 : rv r * rv r + rv i * rv i ≤ 11 / 10 := by grind
  have sq : ∀ x : Rat, x * x ≤ 11 / 10 → -(11 / 10) ≤ x ∧ x ≤ 11 / 10 := by
    intro x hx
    constructor
    · rcases Rat.le_total (a := -(11 / 10)) (b := x) with h | h
      · exact h
      · have := Rat.mul_nonneg (show 0 ≤ -(11 / 10) - x by grind) (show 0 ≤ 11 / 10 - x by grind); grind
    · rcases Rat.le_total (a := x) (b := 11 / 10) with h | h
      · exact h
      · have := Rat.mul_nonneg (show 0 ≤ x - 11 / 10 by grind) (show 0 ≤ x + 11 / 10 by grind); grind
  obtain ⟨r1, r2⟩ := sq (rv r) (by grind)
  obtain ⟨i1, i2⟩ := sq (rv i) (by grind)
  refine ⟨fr, fi, r1, r2, i1, i2, ?_, ?_⟩ <;> grind
theorem rv_l38 : rv 4607182418799984640 = ((274877906943 : Nat) : Rat) / ((274877906944 : Nat) : Rat) := rv_lit (by decide) (by decide) (by intro d hd; subst hd; decide +kernel)
theorem rv_h38 : rv 4607182418800033792 = ((274877906945 : Nat) : Rat) / ((274877906944 : Nat) : Rat) := rv_lit (by decide) (by decide) (by intro d hd; subst hd; decide +kernel)
theorem sq_nonneg (x : Rat) : 0 ≤ x * x := by
  rcases Rat.le_total (a := 0) (b := x) with h | h
  · exact Rat.mul_nonneg h h
  · have := Rat.mul_nonneg (show 0 ≤ -x by grind) (show 0 ≤ -x by grind); grind
theorem abs_sq {a : Nat} (fa : fin a = true) : rv a * rv a = rv (fabs a) * rv (fabs a) := by
  obtain ⟨_, _, h⟩ := abs_cases fa
  rcases h with h | h <;> rw [h] <;> grind
/-- The square of a number's length, rounded. -/
theorem square_near {p q : Nat} {X : Rat} (fp : fin p = true) (fq : fin q = true) (hX : rv p * rv p + rv q * rv q ≤ X) (hb : X * 4 ≤ big) (h1 : 1 / 2 ≤ X) :
    fin (fadd (fmul p p) (fmul q q)) = true ∧ -(X / 1125899906842624) ≤ rv (fadd (fmul p p) (fmul q q)) - (rv p * rv p + rv q * rv q) ∧ rv (fadd (fmul p p) (fmul q q)) - (rv p * rv p + rv q * rv q) ≤ X / 1125899906842624 := by
  have p0 := sq_nonneg (rv p)
  have q0 := sq_nonneg (rv q)
  have e0 := eta_pos
  have es := eta_small
  obtain ⟨f1, a1, a2⟩ := rv_mul (B := X) fp fp (by grind) (by grind) (by grind)
  obtain ⟨f2, b1, b2⟩ := rv_mul (B := X) fq fq (by grind) (by grind) (by grind)
  obtain ⟨f3, c1, c2⟩ := rv_add (B := 2 * X) f1 f2 (by grind) (by grind) (by grind)
  refine ⟨f3, ?_, ?_⟩ <;> grind
theorem check_of {p q : Nat} (fp : fin p = true) (fq : fin q = true) (h1 : -(1 / 2199023255552) ≤ rv p * rv p + rv q * rv q - 1) (h2 : rv p * rv p + rv q * rv q - 1 ≤ 1 / 2199023255552) : ieq (s_turn_Check_0 p q) 0 = true := by
  have bg := big_ge
  obtain ⟨f, a1, a2⟩ := square_near (X := 2) fp fq (by grind) (by grind) (by grind)
  unfold s_turn_Check_0 s_turn_square_0
  rw [rv_le (by decide) f, rv_le f (by decide), rv_lo, rv_hi]
  have c1 : ((1099511627775 : Nat) : Rat) = 1099511627775 := rfl
  have c2 : ((1099511627776 : Nat) : Rat) = 1099511627776 := rfl
  have c3 : ((1099511627777 : Nat) : Rat) = 1099511627777 := rfl
  rw [c1, c2, c3]
  generalize rv (fadd (fmul p p) (fmul q q)) = S at *
  have d1 : decide (1099511627775 / 1099511627776 ≤ S) = true := by rw [decide_eq_true_eq]; grind
  have d2 : decide (S ≤ 1099511627777 / 1099511627776) = true := by rw [decide_eq_true_eq]; grind
  rw [d1, d2]; rfl
/-- Made as long as 1. -/
theorem unit_long {r i : Nat} (hc : ieq (s_turn_Check_0 r i) 0 = true) : s_turn_Unit_2 r i = true := by
  obtain ⟨fr, fi, r1, r2, i1, i2, n1, n2⟩ := check_parts hc
  have bg := big_ge
  have e0 := eta_pos
  have es := eta_small
  obtain ⟨fS, s1, s2⟩ := square_near (X := 2) fr fi (by grind) (by grind) (by grind)
  have hS : fadd (fmul r r) (fmul i i) = s_turn_square_0 r i := rfl
  have hsq : s_math_Sqrt_0 (s_turn_square_0 r i) = fsqrt (s_turn_square_0 r i) := rfl
  unfold s_turn_Unit_2
  rw [hsq]
  rw [hS] at fS s1 s2
  generalize s_turn_square_0 r i = S at *
  obtain ⟨faS, p1, _, _⟩ := rv_abs fS
  have eS := p1 (by grind)
  have sg : sgnOf S = false := by
    cases h : sgnOf S
    · rfl
    · exfalso
      have hs := rv_mul_uu S
      rw [sval_sgn, h] at hs
      simp only [if_true, Rat.intCast_neg, Rat.intCast_natCast] at hs
      have m0 : (0 : Rat) ≤ (magOf (rungOf S) : Rat) := Rat.natCast_le_natCast.2 (Nat.zero_le _)
      have hu := uu_pos
      have : rv S ≤ 0 := cancel_le hu (by rw [← hs]; grind)
      grind
  obtain ⟨Y, Y0, y1, y2, fL, sL, l1, l2⟩ := rv_sqrt fS sg (by rw [eS]; grind) (by rw [eS]; grind) (by grind)
  rw [eS] at y1 y2
  generalize fsqrt S = L at *
  have Ylo : 9 / 10 ≤ Y := by
    rcases Rat.le_total (a := 9 / 10) (b := Y) with h | h
    · exact h
    · have := Rat.mul_nonneg (show 0 ≤ 9 / 10 - Y by grind) (show 0 ≤ 9 / 10 + Y by grind); grind
  have Yhi : Y ≤ 11 / 10 := by
    rcases Rat.le_total (a := Y) (b := 11 / 10) with h | h
    · exact h
    · have := Rat.mul_nonneg (show 0 ≤ Y - 11 / 10 by grind) (show 0 ≤ Y + 11 / 10 by grind); grind
  obtain ⟨_, ar0, ar⟩ := abs_cases fr
  obtain ⟨_, ai0, ai⟩ := abs_cases fi
  obtain ⟨fp, p1, p2, _⟩ := rv_div (C := 2) fr fL (by grind) (by grind) (by grind) (by rcases ar with h | h <;> grind)
  obtain ⟨fq, q1, q2, _⟩ := rv_div (C := 2) fi fL (by grind) (by grind) (by grind) (by rcases ai with h | h <;> grind)
  have h := check_of fp fq ?_ ?_
  · rw [h]; rfl
  all_goals rw [abs_sq fp, abs_sq fq]
  all_goals rw [abs_sq fr, abs_sq fi] at n1 n2 s1 s2
  all_goals
    generalize rv (fabs (fdiv r L)) = P at *
    generalize rv (fabs (fdiv i L)) = Q at *
    generalize rv (fabs L) = M at *
    generalize rv (fabs r) = A at *
    generalize rv (fabs i) = B at *
  all_goals
    have hA : A ≤ 11 / 10 := by rcases ar with h | h <;> grind
    have hB : B ≤ 11 / 10 := by rcases ai with h | h <;> grind
    obtain ⟨e1, he1⟩ : ∃ e, e = P * M - A := ⟨_, rfl⟩
    obtain ⟨e2, he2⟩ : ∃ e, e = Q * M - B := ⟨_, rfl⟩
    obtain ⟨e3, he3⟩ : ∃ e, e = M - Y := ⟨_, rfl⟩
    have M2 : M ≤ 2 := by grind
    have M0 : 0 ≤ M := by grind
    have hm1 := Rat.mul_nonneg (show 0 ≤ eta by grind) (show 0 ≤ 2 - M by grind)
    have hm2 := Rat.mul_nonneg (show 0 ≤ eta by grind) M0
    have b1 : -(1 / 1125899906842624) ≤ e1 ∧ e1 ≤ 1 / 1125899906842624 := by grind
    have b2 : -(1 / 1125899906842624) ≤ e2 ∧ e2 ≤ 1 / 1125899906842624 := by grind
    have b3 : -(1 / 1125899906842624) ≤ e3 ∧ e3 ≤ 1 / 1125899906842624 := by grind
    have m1 := mul_le (A := 11 / 10) (C := 1 / 1125899906842624) (show -(11 / 10) ≤ A by grind) hA b1.1 b1.2
    have m2 := mul_le (A := 11 / 10) (C := 1 / 1125899906842624) (show -(11 / 10) ≤ B by grind) hB b2.1 b2.2
    have m3 := mul_le (A := 11 / 10) (C := 1 / 1125899906842624) (show -(11 / 10) ≤ Y by grind) Yhi b3.1 b3.2
    have m4 := mul_le b1.1 b1.2 b1.1 b1.2
    have m5 := mul_le b2.1 b2.2 b2.1 b2.2
    have m6 := mul_le b3.1 b3.2 b3.1 b3.2
    have k1 : (P * M) * (P * M) + (Q * M) * (Q * M) = A * A + B * B + 2 * (A * e1) + 2 * (B * e2) + e1 * e1 + e2 * e2 := by
      have x1 : P * M = A + e1 := by grind
      have x2 : Q * M = B + e2 := by grind
      rw [x1, x2]; grind
    have k2 : M * M = Y * Y + 2 * (Y * e3) + e3 * e3 := by
      have x3 : M = Y + e3 := by grind
      rw [x3]; grind
    have k3 : (P * P + Q * Q - 1) * (M * M) = (P * M) * (P * M) + (Q * M) * (Q * M) - M * M := by grind
    have mm : 4 / 5 ≤ M * M := by rw [k2]; grind
    have k4 : -(1 / 4398046511104) ≤ (P * P + Q * Q - 1) * (M * M) ∧ (P * P + Q * Q - 1) * (M * M) ≤ 1 / 4398046511104 := by
      rw [k3, k1, k2]; constructor <;> grind
    have mp : 0 < M * M := by grind
  · have : -(P * P + Q * Q - 1) ≤ 1 / 2199023255552 := cancel_le mp (by grind)
    grind
  · exact cancel_le mp (by grind)
/-- One behind the other. -/
theorem then_long {a b c d : Nat} (h1 : ieq (s_turn_Check_0 a b) 0 = true) (h2 : ieq (s_turn_Check_0 c d) 0 = true) :
    fle 4607182418799984640 (s_law03_square_0 (s_turn_Then_0 a b c d) (s_turn_Then_1 a b c d)) = true ∧ fle (s_law03_square_0 (s_turn_Then_0 a b c d) (s_turn_Then_1 a b c d)) 4607182418800033792 = true := by
  obtain ⟨fa, fb, a1, a2, b1, b2, n1, n2⟩ := check_parts h1
  obtain ⟨fc, fd, c1, c2, d1, d2, m1, m2⟩ := check_parts h2
  have bg := big_ge
  have e0 := eta_pos
  have es := eta_small
  have l1 := mul_le a1 a2 c1 c2
  have l2 := mul_le b1 b2 d1 d2
  have l3 := mul_le a1 a2 d1 d2
  have l4 := mul_le b1 b2 c1 c2
  obtain ⟨f1, x1, x2⟩ := rv_mul (B := 11 / 10 * (11 / 10)) fa fc (by grind) l1.1 l1.2
  obtain ⟨f2, y1, y2⟩ := rv_mul (B := 11 / 10 * (11 / 10)) fb fd (by grind) l2.1 l2.2
  obtain ⟨f3, z1, z2⟩ := rv_mul (B := 11 / 10 * (11 / 10)) fa fd (by grind) l3.1 l3.2
  obtain ⟨f4, w1, w2⟩ := rv_mul (B := 11 / 10 * (11 / 10)) fb fc (by grind) l4.1 l4.2
  obtain ⟨g1, u1, u2⟩ := rv_sub (B := 3) (CF.mul b d).lt f1 f2 (by grind) (by grind) (by grind)
  obtain ⟨g2, v1, v2⟩ := rv_add (B := 3) f3 f4 (by grind) (by grind) (by grind)
  have eP : fsub (fmul a c) (fmul b d) = s_turn_Then_0 a b c d := rfl
  have eQ : fadd (fmul a d) (fmul b c) = s_turn_Then_1 a b c d := rfl
  rw [eP] at g1 u1 u2
  rw [eQ] at g2 v1 v2
  generalize s_turn_Then_0 a b c d = p at *
  generalize s_turn_Then_1 a b c d = q at *
  obtain ⟨e1, he1⟩ : ∃ e, e = rv p - (rv a * rv c - rv b * rv d) := ⟨_, rfl⟩
  obtain ⟨e2, he2⟩ : ∃ e, e = rv q - (rv a * rv d + rv b * rv c) := ⟨_, rfl⟩
  have b1 : -(1 / 1125899906842624) ≤ e1 ∧ e1 ≤ 1 / 1125899906842624 := by grind
  have b2 : -(1 / 1125899906842624) ≤ e2 ∧ e2 ≤ 1 / 1125899906842624 := by grind
  have t1 := mul_le (A := 3) (C := 1 / 1125899906842624) (show -3 ≤ rv a * rv c - rv b * rv d by grind) (show rv a * rv c - rv b * rv d ≤ 3 by grind) b1.1 b1.2
  have t2 := mul_le (A := 3) (C := 1 / 1125899906842624) (show -3 ≤ rv a * rv d + rv b * rv c by grind) (show rv a * rv d + rv b * rv c ≤ 3 by grind) b2.1 b2.2
  have t3 := mul_le b1.1 b1.2 b1.1 b1.2
  have t4 := mul_le b2.1 b2.2 b2.1 b2.2
  have t5 := mul_le n2 n1 m2 m1
  have k1 : rv p * rv p + rv q * rv q = 1 + (rv a * rv a + rv b * rv b - 1) + (rv c * rv c + rv d * rv d - 1) + (rv a * rv a + rv b * rv b - 1) * (rv c * rv c + rv d * rv d - 1) + 2 * ((rv a * rv c - rv b * rv d) * e1) + 2 * ((rv a * rv d + rv b * rv c) * e2) + e1 * e1 + e2 * e2 := by
    have x1 : rv p = (rv a * rv c - rv b * rv d) + e1 := by grind
    have x2 : rv q = (rv a * rv d + rv b * rv c) + e2 := by grind
    rw [x1, x2]; grind
  have kb : -(1 / 366503875925) ≤ rv p * rv p + rv q * rv q - 1 ∧ rv p * rv p + rv q * rv q - 1 ≤ 1 / 366503875925 := by
    rw [k1]; constructor <;> grind
  obtain ⟨f, s1, s2⟩ := square_near (X := 2) g1 g2 (by grind) (by grind) (by grind)
  have hS : fadd (fmul p p) (fmul q q) = s_law03_square_0 p q := rfl
  rw [hS] at f s1 s2
  have i1 : ((274877906943 : Nat) : Rat) = 274877906943 := rfl
  have i2 : ((274877906944 : Nat) : Rat) = 274877906944 := rfl
  have i3 : ((274877906945 : Nat) : Rat) = 274877906945 := rfl
  rw [rv_le (by decide) f, rv_le f (by decide), decide_eq_true_eq, decide_eq_true_eq, rv_l38, rv_h38, i1, i2, i3]
  constructor <;> grind
theorem max_le : rv 9218868437227405311 ≤ big * 1361129467683753853853498429727072845824 := by
  have hu := uu_pos
  have m := rv_mul_uu 9218868437227405311
  rw [sval_sgn, show sgnOf 9218868437227405311 = false by decide] at m
  simp only [Bool.false_eq_true, if_false, Rat.intCast_natCast] at m
  have h : magOf (rungOf 9218868437227405311) ≤ magOf bigR * 1361129467683753853853498429727072845824 := by decide +kernel
  have h2 := Rat.natCast_le_natCast.2 h
  rw [Rat.natCast_mul, m] at h2
  have h3 : ((1361129467683753853853498429727072845824 : Nat) : Rat) = 1361129467683753853853498429727072845824 := rfl
  rw [h3] at h2
  have e : big * uu = (magOf bigR : Rat) := by unfold big; grind
  rw [← e] at h2
  exact cancel_le hu (by grind)
theorem one_fin {s : Nat} (fs : fin s = true) : fin (fadd 4607182418800017408 s) = true := by
  have hr := fin_iff.1 fs
  have hm : magOf (rungOf s) ≤ magOf 9218868437227405311 := magOf_le_iff.2 (by omega)
  have hs := natAbs_sval s
  have ho := natAbs_sval 4607182418800017408
  rw [fadd_fin (by decide) fs]
  refine fin_word _ (RN_lt ?_)
  have h1 : (sval 4607182418800017408 + sval s).natAbs ≤ magOf (rungOf 4607182418800017408) + magOf 9218868437227405311 := by omega
  have h2 := RN'_mono h1 0
  have h3 : RN' (magOf (rungOf 4607182418800017408) + magOf 9218868437227405311) 0 < 9218868437227405312 := by decide +kernel
  omega
theorem by_turn {v : Nat} (cv : CF v) (hv : feq v v = true) : ieq (s_turn_Check_0 (s_turn_By_0 v) (s_turn_By_1 v)) 0 = true := by
  cases hI : s_math_IsInf_0 (fmul v v) 1
  rotate_left
  · unfold s_turn_By_0 s_turn_By_1; rw [hI]
    show ieq (s_turn_Check_0 13830554455654793216 0) 0 = true
    decide +kernel
  have hn : nanb v = false := by
    cases hn : nanb v
    · rfl
    · rw [feq_nan (.inl hn)] at hv; cases hv
  have fv : fin v = true := by
    rcases inf_or hn with h | h
    · exact h
    · exfalso
      have hl := cv.lt
      have : v = 9218868437227405312 ∨ v = 18442240474082181120 := by unfold rungOf at h; omega
      rcases this with h | h
      · rw [h] at hI; exact absurd hI (by decide +kernel)
      · rw [h] at hI; exact absurd hI (by decide +kernel)
  have hI' : flt 9218868437227405311 (fmul v v) = false := hI
  have sx : (sgnOf v ^^ sgnOf v) = false := by cases sgnOf v <;> rfl
  have ew := fmul_fin fv fv
  rw [sx] at ew
  have es0 : sgnOf (fmul v v) = false := by rw [ew]; exact sgn_word _ (RN_le _ _)
  have nn : nanb (fmul v v) = false := by rw [ew]; exact Go.Sim.nanb_word _ (RN_le _ _)
  have fs : fin (fmul v v) = true := by
    rw [flt_key (by decide) nn] at hI'
    simp only [decide_eq_false_iff_not] at hI'
    have k1 : key 9218868437227405311 = 9218868437227405311 := by decide
    have k2 : key (fmul v v) = (rungOf (fmul v v) : Int) := by unfold key; rw [es0]; simp
    rw [k1, k2] at hI'
    rw [fin_iff]; omega
  have e0 := eta_pos
  have es := eta_small
  have bg := big_200
  have T0 := sq_nonneg (rv v)
  obtain ⟨m1, m2⟩ := rv_mul' (B := rv v * rv v) fv fv fs (by grind) (by grind)
  have Smax : rv (fmul v v) ≤ big * 1361129467683753853853498429727072845824 := by
    have : fle (fmul v v) 9218868437227405311 = true := by
      rw [fle_key nn (by decide)]
      rw [flt_key (by decide) nn] at hI'
      simp only [decide_eq_false_iff_not] at hI'
      simp only [decide_eq_true_eq]; omega
    rw [rv_le fs (by decide), decide_eq_true_eq] at this
    have := max_le
    grind
  have S0 : 0 ≤ rv (fmul v v) := by
    have hu := uu_pos
    have hs := rv_mul_uu (fmul v v)
    rw [sval_sgn, es0] at hs
    simp only [Bool.false_eq_true, if_false, Rat.intCast_natCast] at hs
    have m0 : (0 : Rat) ≤ (magOf (rungOf (fmul v v)) : Rat) := Rat.natCast_le_natCast.2 (Nat.zero_le _)
    exact cancel_le hu (by rw [← hs]; grind)
  have hls : fmul v v < 18446744073709551616 := (CF.mul v v).lt
  unfold s_turn_By_0 s_turn_By_1
  rw [hI]
  show ieq (s_turn_Check_0 (fdiv (fsub 4607182418800017408 (fmul v v)) (fadd 4607182418800017408 (fmul v v))) (fdiv (fadd v v) (fadd 4607182418800017408 (fmul v v)))) 0 = true
  generalize fmul v v = s at *
  obtain ⟨ns, fns⟩ := rv_neg hls fs
  have e1 : rv 4607182418800017408 = 1 := by
    rw [rv_one]
    have k1 : ((1 : Nat) : Rat) = 1 := rfl
    rw [k1]; grind
  have f1 : fin 4607182418800017408 = true := by decide
  have fd := one_fin fs
  have fn : fin (fsub 4607182418800017408 s) = true := by rw [sub_add hls]; exact one_fin fns
  obtain ⟨d1, d2⟩ := rv_add' (B := 1 + rv s) f1 fs fd (by rw [e1]; grind) (by rw [e1]; grind)
  obtain ⟨n1, n2⟩ := rv_add' (B := 1 + rv s) f1 fns (by rw [← sub_add hls]; exact fn) (by rw [e1, ns]; grind) (by rw [e1, ns]; grind)
  rw [← sub_add hls] at n1 n2
  rw [e1] at d1 d2
  rw [e1, ns] at n1 n2
  obtain ⟨fav, av0, av⟩ := abs_cases fv
  have tt : rv v * rv v = rv (fabs v) * rv (fabs v) := abs_sq fv
  have tbig : rv (fabs v) * 4 ≤ big := by
    rcases Rat.le_total (a := rv (fabs v) * 4) (b := big) with h | h
    · exact h
    · exfalso
      have q1 := Rat.mul_nonneg (show 0 ≤ rv (fabs v) * 4 - big by grind) (show 0 ≤ rv (fabs v) * 4 + big by grind)
      have q2 := Rat.mul_nonneg (show 0 ≤ big - 1606938044258990275541962092341162602522202993782792835301376 by grind) (show 0 ≤ big by grind)
      grind
  obtain ⟨ft, t1, t2⟩ := rv_add (B := 2 * rv (fabs v)) fv fv (by grind) (by rcases av with h | h <;> grind) (by rcases av with h | h <;> grind)
  obtain ⟨_, ad0, ad⟩ := abs_cases fd
  obtain ⟨_, an0, an⟩ := abs_cases fn
  obtain ⟨_, at0, ht⟩ := abs_cases ft
  have sq1 := sq_nonneg (rv (fabs v) - 1)
  have Dd : rv (fabs (fadd 4607182418800017408 s)) = rv (fadd 4607182418800017408 s) := by rcases ad with h | h <;> grind
  obtain ⟨fp, p1, p2, _⟩ := rv_div (C := 2) fn fd (by grind) (by grind) (by grind) (by rcases an with h | h <;> grind)
  obtain ⟨fq, q1, q2, _⟩ := rv_div (C := 4) ft fd (by grind) (by grind) (by grind) (by rcases ht with h | h <;> rcases av with h' | h' <;> grind)
  have hcore : -(1 / 2199023255552) ≤ rv (fabs (fdiv (fsub 4607182418800017408 s) (fadd 4607182418800017408 s))) * rv (fabs (fdiv (fsub 4607182418800017408 s) (fadd 4607182418800017408 s))) + rv (fabs (fdiv (fadd v v) (fadd 4607182418800017408 s))) * rv (fabs (fdiv (fadd v v) (fadd 4607182418800017408 s))) - 1 ∧
      rv (fabs (fdiv (fsub 4607182418800017408 s) (fadd 4607182418800017408 s))) * rv (fabs (fdiv (fsub 4607182418800017408 s) (fadd 4607182418800017408 s))) + rv (fabs (fdiv (fadd v v) (fadd 4607182418800017408 s))) * rv (fabs (fdiv (fadd v v) (fadd 4607182418800017408 s))) - 1 ≤ 1 / 2199023255552 := by
    have r10 := (abs_cases fp).2.1
    have r20 := (abs_cases fq).2.1
    rw [Dd] at p1 p2 q1 q2
    generalize rv (fabs (fdiv (fsub 4607182418800017408 s) (fadd 4607182418800017408 s))) = P at *
    generalize rv (fabs (fdiv (fadd v v) (fadd 4607182418800017408 s))) = Q at *
    rw [tt] at m1 m2 T0
    have nt : rv (fabs (fadd v v)) - 2 * rv (fabs v) ≤ 2 * rv (fabs v) / 9007199254740992 ∧ -(2 * rv (fabs v) / 9007199254740992) ≤ rv (fabs (fadd v v)) - 2 * rv (fabs v) := by
      rcases ht with h | h <;> rcases av with h' | h' <;> constructor <;> grind
    generalize rv (fabs (fadd v v)) = n2' at *
    generalize rv (fabs v) = T at *
    obtain ⟨Z, hZ⟩ : ∃ Z, Z = 1 + T * T := ⟨_, rfl⟩
    have Z1 : 1 ≤ Z := by grind
    have TZ : 2 * T ≤ Z := by grind
    obtain ⟨a, ha, hab⟩ : ∃ a : Rat, (a = 1 - T * T ∨ a = -(1 - T * T)) ∧ -(Z / 1125899906842624) ≤ rv (fabs (fsub 4607182418800017408 s)) - a ∧ rv (fabs (fsub 4607182418800017408 s)) - a ≤ Z / 1125899906842624 := by
      rcases an with h | h
      · exact ⟨1 - T * T, .inl rfl, by grind, by grind⟩
      · exact ⟨-(1 - T * T), .inr rfl, by grind, by grind⟩
    generalize rv (fabs (fsub 4607182418800017408 s)) = n1' at *
    generalize rv (fadd 4607182418800017408 s) = D at *
    have DZ1 : -(Z / 1125899906842624) ≤ Z - D := by grind
    have DZ2 : Z - D ≤ Z / 1125899906842624 := by grind
    have D0 : 0 < D := by grind
    have a9 : a ≤ Z ∧ -Z ≤ a := by rcases ha with h | h <;> grind
    have he := Rat.mul_nonneg (show 0 ≤ 1 / 1152921504606846976 - eta by grind) (Rat.le_of_lt D0)
    have he2 := Rat.mul_nonneg (Rat.le_of_lt e0) (Rat.le_of_lt D0)
    have P2 : P ≤ 2 := cancel_le D0 (by grind)
    have Q2 : Q ≤ 2 := cancel_le D0 (by grind)
    have x1 := mul_le (A := 2) (C := Z / 1125899906842624) (show -2 ≤ P by grind) P2 DZ1 DZ2
    have x2 := mul_le (A := 2) (C := Z / 1125899906842624) (show -2 ≤ Q by grind) Q2 DZ1 DZ2
    obtain ⟨g1, hg1⟩ : ∃ g, g = P * Z - a := ⟨_, rfl⟩
    obtain ⟨g2, hg2⟩ : ∃ g, g = Q * Z - 2 * T := ⟨_, rfl⟩
    have y1 : P * Z = P * D + P * (Z - D) := by grind
    have y2 : Q * Z = Q * D + Q * (Z - D) := by grind
    have b1 : -(Z / 70368744177664) ≤ g1 ∧ g1 ≤ Z / 70368744177664 := by
      rw [hg1, y1]; constructor <;> grind
    have b2 : -(Z / 70368744177664) ≤ g2 ∧ g2 ≤ Z / 70368744177664 := by
      rw [hg2, y2]; constructor <;> grind
    have z1 := mul_le (A := Z) (C := Z / 70368744177664) a9.2 a9.1 b1.1 b1.2
    have z2 := mul_le (A := Z) (C := Z / 70368744177664) (show -Z ≤ 2 * T by grind) TZ b2.1 b2.2
    have z3 := mul_le b1.1 b1.2 b1.1 b1.2
    have z4 := mul_le b2.1 b2.2 b2.1 b2.2
    have aa : a * a + (2 * T) * (2 * T) = Z * Z := by rcases ha with h | h <;> rw [h, hZ] <;> grind
    have k1 : (P * P + Q * Q - 1) * (Z * Z) = 2 * (a * g1) + 2 * (2 * T * g2) + g1 * g1 + g2 * g2 := by
      have w1 : P * Z = a + g1 := by grind
      have w2 : Q * Z = 2 * T + g2 := by grind
      have w3 : (P * P + Q * Q - 1) * (Z * Z) = (P * Z) * (P * Z) + (Q * Z) * (Q * Z) - Z * Z := by grind
      rw [w3, w1, w2, ← aa]; grind
    have ZZ : 0 < Z * Z := Rat.mul_pos (by grind) (by grind)
    have k2 : (P * P + Q * Q - 1) * (Z * Z) ≤ 1 / 2199023255552 * (Z * Z) := by rw [k1]; grind
    have k3 : -(P * P + Q * Q - 1) * (Z * Z) ≤ 1 / 2199023255552 * (Z * Z) := by
      have : -(P * P + Q * Q - 1) * (Z * Z) = -((P * P + Q * Q - 1) * (Z * Z)) := by grind
      rw [this, k1]; grind
    have c1 := cancel_le ZZ k2
    have c2 := cancel_le ZZ k3
    constructor <;> grind
  refine check_of fp fq ?_ ?_
  · rw [abs_sq fp, abs_sq fq]; exact hcore.1
  · rw [abs_sq fp, abs_sq fq]; exact hcore.2
theorem unit_cases (r i : Nat) : (s_turn_Unit_2 r i = true ∧ ieq (s_turn_Check_0 (s_turn_Unit_0 r i) (s_turn_Unit_1 r i)) 0 = true) ∨ (s_turn_Unit_2 r i = false ∧ s_turn_Unit_0 r i = 0 ∧ s_turn_Unit_1 r i = 0) := by
  unfold s_turn_Unit_2 s_turn_Unit_0 s_turn_Unit_1
  cases h : ieq (s_turn_Check_0 (fdiv r (s_math_Sqrt_0 (s_turn_square_0 r i))) (fdiv i (s_math_Sqrt_0 (s_turn_square_0 r i)))) 0
  · right; exact ⟨rfl, rfl, rfl⟩
  · left; exact ⟨rfl, h⟩
theorem law_TurnLong (a0 b0 b1 c0 c1 : Nat) (ha0 : a0 < 18446744073709551616) (hb0 : b0 < 18446744073709551616) (hb1 : b1 < 18446744073709551616) (hc0 : c0 < 18446744073709551616) (hc1 : c1 < 18446744073709551616) :
    T_law03_TurnLong a0 b0 b1 c0 c1 = true := by
  have n0 : s__law03_Pair__number_0 (Int.ofNat b0) (Int.ofNat b1) = cn b0 := rfl
  have n1 : s__law03_Pair__number_1 (Int.ofNat b0) (Int.ofNat b1) = cn b1 := rfl
  have m0 : s__law03_Pair__number_0 (Int.ofNat c0) (Int.ofNat c1) = cn c0 := rfl
  have m1 : s__law03_Pair__number_1 (Int.ofNat c0) (Int.ofNat c1) = cn c1 := rfl
  unfold T_law03_TurnLong
  simp only []
  rw [n0, n1, m0, m1]
  have cv := CF.cn ha0
  have cr := CF.cn hb0
  have ci := CF.cn hb1
  have cs := CF.cn hc0
  have ct := CF.cn hc1
  generalize cn a0 = v at *
  generalize cn b0 = r at *
  generalize cn b1 = i at *
  generalize cn c0 = s at *
  generalize cn c1 = t at *
  have g1 : ((feq v v) && (!(ieq (s_turn_Check_0 (s_turn_By_0 v) (s_turn_By_1 v)) 0))) = false := by
    cases hv : feq v v
    · rfl
    · rw [by_turn cv hv]; rfl
  rw [g1]
  have g2 : (((s_turn_Unit_2 r i) && (!(ieq (s_turn_Check_0 (s_turn_Unit_0 r i) (s_turn_Unit_1 r i)) 0))) || ((!(s_turn_Unit_2 r i)) && (!((feq (s_turn_Unit_0 r i) 0) && (feq (s_turn_Unit_1 r i) 0))))) = false := by
    rcases unit_cases r i with ⟨h1, h2⟩ | ⟨h1, h2, h3⟩
    · rw [h1, h2]; rfl
    · rw [h1, h2, h3, show feq 0 0 = true by decide +kernel]; rfl
  rw [g2]
  cases hx : ieq (s_turn_Check_0 r i) 0
  · rfl
  cases hy : ieq (s_turn_Check_0 s t) 0
  · rfl
  rw [unit_long hx]
  have hbk : ieq (s_turn_Check_0 (s_turn_Back_0 r i) (s_turn_Back_1 r i)) 0 = true := by
    have e0 : s_turn_Back_0 r i = r := rfl
    have e1 : s_turn_Back_1 r i = fneg i := rfl
    rw [e0, e1]
    unfold s_turn_Check_0 s_turn_square_0 at hx ⊢
    rw [fmul_neg_neg ci.lt ci.lt]
    exact hx
  obtain ⟨t1, t2⟩ := then_long hx hy
  rw [hbk, t1, t2]
  rfl
theorem u64ok_of {a : Nat} (h : a < 18446744073709551616) : u64ok (Int.ofNat a) = true := by
  show Nat.blt a 18446744073709551616 = true
  rw [Nat.blt_eq]; exact h
theorem ob_TurnLong (a0 b0 b1 c0 c1 : Nat) (ha0 : a0 < 18446744073709551616) (hb0 : b0 < 18446744073709551616) (hb1 : b1 < 18446744073709551616) (hc0 : c0 < 18446744073709551616) (hc1 : c1 < 18446744073709551616) :
    O_law03_TurnLong a0 b0 b1 c0 c1 = true := by
  have h0 : Nat.blt a0 18446744073709551616 = true := by rw [Nat.blt_eq]; exact ha0
  unfold O_law03_TurnLong
  simp only [u64ok_of hb0, u64ok_of hb1, u64ok_of hc0, u64ok_of hc1, h0, Bool.and_self, Bool.cond_self, Bool.true_and, Bool.and_true]
end Go.Proofs.Ythaalobnckdjoaa
