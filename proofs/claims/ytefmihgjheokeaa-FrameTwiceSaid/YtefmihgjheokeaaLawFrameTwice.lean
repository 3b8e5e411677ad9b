/- FrameTwice: twice the speed, half the time. -/
import Derived.Test.YtefmihgjheokeaaFnsC
import Derived.Test.YtefmihgjheokeaaSimTwice
set_option linter.unusedVariables false
set_option linter.unusedSimpArgs false
namespace Go.Proofs.Ytefmihgjheokeaa
open Go.Sim
/-- What the check of a turn says of its parts. -/
theorem check_parts {r i : Nat} (hc : ieq (s_turn_Check_0 r i) 0 = true) : fin r = true ∧ fin i = true ∧ -(11 / 10) ≤ rv r ∧ rv r ≤ 11 / 10 ∧ -(11 / 10) ≤ rv i ∧ rv i ≤ 11 / 10 ∧
    rv r * rv r + rv i * rv i - 1 ≤ 1 / 1000000000000 ∧ -(1 / 1000000000000) ≤ rv r * rv r + rv i * rv i - 1 := by
  unfold s_turn_Check_0 at hc
  have hb : (fle 4607182418800009216 (s_turn_square_0 r i) && fle (s_turn_square_0 r i) 4607182418800021504) = true := by
    cases h : (fle 4607182418800009216 (s_turn_square_0 r i) && fle (s_turn_square_0 r i) 4607182418800021504)
    · rw [h] at hc; exact absurd hc (by decide)
    · rfl
  simp only [Bool.and_eq_true] at hb
  obtain ⟨h1, h2⟩ := hb
  have fS : fin (s_turn_square_0 r i) = true := fin_between h1 h2 (by decide) (by decide)
  rw [rv_le (by decide) fS, rv_lo] at h1
  rw [rv_le fS (by decide), rv_hi] at h2
  simp only [decide_eq_true_eq] at h1 h2
  have c1 : ((1099511627775 : Nat) : Rat) = 1099511627775 := rfl
  have c2 : ((1099511627776 : Nat) : Rat) = 1099511627776 := rfl
  have c3 : ((1099511627777 : Nat) : Rat) = 1099511627777 := rfl
  rw [c1, c2] at h1
  rw [c3, c2] at h2
  unfold s_turn_square_0 at fS h1 h2
  obtain ⟨f1, f2⟩ := fin_add fS
  obtain ⟨fr, _⟩ := fin_mul f1
  obtain ⟨fi, _⟩ := fin_mul f2
  have q1 : 0 ≤ rv r * rv r := by
    rcases Rat.le_total (a := 0) (b := rv r) with h | h
    · exact Rat.mul_nonneg h h
    · have := Rat.mul_nonneg (show 0 ≤ -rv r by grind) (show 0 ≤ -rv r by grind); grind
  have q2 : 0 ≤ rv i * rv i := by
    rcases Rat.le_total (a := 0) (b := rv i) with h | h
    · exact Rat.mul_nonneg h h
    · have := Rat.mul_nonneg (show 0 ≤ -rv i by grind) (show 0 ≤ -rv i by grind); grind
  have m1 := rv_mul' (B := rv r * rv r) fr fr f1 (by grind) (by grind)
  have m2 := rv_mul' (B := rv i * rv i) fi fi f2 (by grind) (by grind)
  have et := eta_small
  have e0 := eta_pos
  have ad := rv_add' (B := rv r * rv r * 2 + rv i * rv i * 2 + 1) f1 f2 fS (by grind) (by grind)
  generalize rv (fadd (fmul r r) (fmul i i)) = S at *
  generalize rv (fmul r r) = P at *
  generalize rv (fmul i i) = Q at *
  have b1 : rv r * rv r + rv i * rv i ≤ 11 / 10 := by grind
  have sq : ∀ x : Rat, x * x ≤ 11 / 10 → -(11 / 10) ≤ x ∧ x ≤ 11 / 10 := by
    intro x hx
    constructor
    · rcases Rat.le_total (a := -(11 / 10)) (b := x) with h | h
      · exact h
      · have := Rat.mul_nonneg (show 0 ≤ -(11 / 10) - x by grind) (show 0 ≤ 11 / 10 - x by grind); grind
    · rcases Rat.le_total (a := x) (b := 11 / 10) with h | h
      · exact h
      · have := Rat.mul_nonneg (show 0 ≤ x - 11 / 10 by grind) (show 0 ≤ x + 11 / 10 by grind); grind
  obtain ⟨r1, r2⟩ := sq (rv r) (by grind)
  obtain ⟨i1, i2⟩ := sq (rv i) (by grind)
  refine ⟨fr, fi, r1, r2, i1, i2, ?_, ?_⟩ <;> grind
theorem sq_nonneg (x : Rat) : 0 ≤ x * x := by
  rcases Rat.le_total (a := 0) (b := x) with h | h
  · exact Rat.mul_nonneg h h
  · have := Rat.mul_nonneg (show 0 ≤ -x by grind) (show 0 ≤ -x by grind); grind
theorem abs_sq {a : Nat} (fa : fin a = true) : rv a * rv a = rv (fabs a) * rv (fabs a) := by
  obtain ⟨_, _, h⟩ := abs_cases fa
  rcases h with h | h <;> rw [h] <;> grind
/-- The square of a number's length, rounded. -/
theorem square_near {p q : Nat} {X : Rat} (fp : fin p = true) (fq : fin q = true) (hX : rv p * rv p + rv q * rv q ≤ X) (hb : X * 4 ≤ big) (h1 : 1 / 2 ≤ X) :
    fin (fadd (fmul p p) (fmul q q)) = true ∧ -(X / 1125899906842624) ≤ rv (fadd (fmul p p) (fmul q q)) - (rv p * rv p + rv q * rv q) ∧ rv (fadd (fmul p p) (fmul q q)) - (rv p * rv p + rv q * rv q) ≤ X / 1125899906842624 := by
  have p0 := sq_nonneg (rv p)
  have q0 := sq_nonneg (rv q)
  have e0 := eta_pos
  have es := eta_small
  obtain ⟨f1, a1, a2⟩ := rv_mul (B := X) fp fp (by grind) (by grind) (by grind)
  obtain ⟨f2, b1, b2⟩ := rv_mul (B := X) fq fq (by grind) (by grind) (by grind)
  obtain ⟨f3, c1, c2⟩ := rv_add (B := 2 * X) f1 f2 (by grind) (by grind) (by grind)
  refine ⟨f3, ?_, ?_⟩ <;> grind
theorem check_of {p q : Nat} (fp : fin p = true) (fq : fin q = true) (h1 : -(1 / 2199023255552) ≤ rv p * rv p + rv q * rv q - 1) (h2 : rv p * rv p + rv q * rv q - 1 ≤ 1 / 2199023255552) : ieq (s_turn_Check_0 p q) 0 = true := by
  have bg := big_ge
  obtain ⟨f, a1, a2⟩ := square_near (X := 2) fp fq (by grind) (by grind) (by grind)
  unfold s_turn_Check_0 s_turn_square_0
  rw [rv_le (by decide) f, rv_le f (by decide), rv_lo, rv_hi]
  have c1 : ((1099511627775 : Nat) : Rat) = 1099511627775 := rfl
  have c2 : ((1099511627776 : Nat) : Rat) = 1099511627776 := rfl
  have c3 : ((1099511627777 : Nat) : Rat) = 1099511627777 := rfl
  rw [c1, c2, c3]
  generalize rv (fadd (fmul p p) (fmul q q)) = S at *
  have d1 : decide (1099511627775 / 1099511627776 ≤ S) = true := by rw [decide_eq_true_eq]; grind
  have d2 : decide (S ≤ 1099511627777 / 1099511627776) = true := by rw [decide_eq_true_eq]; grind
  rw [d1, d2]; rfl
/-- Made as long as 1. -/
theorem unit_long {r i : Nat} (fr : fin r = true) (fi : fin i = true) (r1 : -(11 / 10) ≤ rv r) (r2 : rv r ≤ 11 / 10) (i1 : -(11 / 10) ≤ rv i) (i2 : rv i ≤ 11 / 10) (n1 : rv r * rv r + rv i * rv i - 1 ≤ 1 / 100000000000) (n2 : -(1 / 100000000000) ≤ rv r * rv r + rv i * rv i - 1) : s_turn_Unit_2 r i = true := by
  have bg := big_ge
  have e0 := eta_pos
  have es := eta_small
  obtain ⟨fS, s1, s2⟩ := square_near (X := 2) fr fi (by grind) (by grind) (by grind)
  have hS : fadd (fmul r r) (fmul i i) = s_turn_square_0 r i := rfl
  have hsq : s_math_Sqrt_0 (s_turn_square_0 r i) = fsqrt (s_turn_square_0 r i) := rfl
  unfold s_turn_Unit_2
  rw [hsq]
  rw [hS] at fS s1 s2
  generalize s_turn_square_0 r i = S at *
  obtain ⟨faS, p1, _, _⟩ := rv_abs fS
  have eS := p1 (by grind)
  have sg : sgnOf S = false := by
    cases h : sgnOf S
    · rfl
    · exfalso
      have hs := rv_mul_uu S
      rw [sval_sgn, h] at hs
      simp only [if_true, Rat.intCast_neg, Rat.intCast_natCast] at hs
      have m0 : (0 : Rat) ≤ (magOf (rungOf S) : Rat) := Rat.natCast_le_natCast.2 (Nat.zero_le _)
      have hu := uu_pos
      have : rv S ≤ 0 := cancel_le hu (by rw [← hs]; grind)
      grind
  obtain ⟨Y, Y0, y1, y2, fL, sL, l1, l2⟩ := rv_sqrt fS sg (by rw [eS]; grind) (by rw [eS]; grind) (by grind)
  rw [eS] at y1 y2
  generalize fsqrt S = L at *
  have Ylo : 9 / 10 ≤ Y := by
    rcases Rat.le_total (a := 9 / 10) (b := Y) with h | h
    · exact h
    · have := Rat.mul_nonneg (show 0 ≤ 9 / 10 - Y by grind) (show 0 ≤ 9 / 10 + Y by grind); grind
  have Yhi : Y ≤ 11 / 10 := by
    rcases Rat.le_total (a := Y) (b := 11 / 10) with h | h
    · exact h
    · have := Rat.mul_nonneg (show 0 ≤ Y - 11 / 10 by grind) (show 0 ≤ Y + 11 / 10 by grind); grind
  obtain ⟨_, ar0, ar⟩ := abs_cases fr
  obtain ⟨_, ai0, ai⟩ := abs_cases fi
  obtain ⟨fp, p1, p2, _⟩ := rv_div (C := 2) fr fL (by grind) (by grind) (by grind) (by rcases ar with h | h <;> grind)
  obtain ⟨fq, q1, q2, _⟩ := rv_div (C := 2) fi fL (by grind) (by grind) (by grind) (by rcases ai with h | h <;> grind)
  have h := check_of fp fq ?_ ?_
  · rw [h]; rfl
  all_goals rw [abs_sq fp, abs_sq fq]
  all_goals rw [abs_sq fr, abs_sq fi] at n1 n2 s1 s2
  all_goals
    generalize rv (fabs (fdiv r L)) = P at *
    generalize rv (fabs (fdiv i L)) = Q at *
    generalize rv (fabs L) = M at *
    generalize rv (fabs r) = A at *
    generalize rv (fabs i) = B at *
  all_goals
    have hA : A ≤ 11 / 10 := by rcases ar with h | h <;> grind
    have hB : B ≤ 11 / 10 := by rcases ai with h | h <;> grind
    obtain ⟨e1, he1⟩ : ∃ e, e = P * M - A := ⟨_, rfl⟩
    obtain ⟨e2, he2⟩ : ∃ e, e = Q * M - B := ⟨_, rfl⟩
    obtain ⟨e3, he3⟩ : ∃ e, e = M - Y := ⟨_, rfl⟩
    have M2 : M ≤ 2 := by grind
    have M0 : 0 ≤ M := by grind
    have hm1 := Rat.mul_nonneg (show 0 ≤ eta by grind) (show 0 ≤ 2 - M by grind)
    have hm2 := Rat.mul_nonneg (show 0 ≤ eta by grind) M0
    have b1 : -(1 / 1125899906842624) ≤ e1 ∧ e1 ≤ 1 / 1125899906842624 := by grind
    have b2 : -(1 / 1125899906842624) ≤ e2 ∧ e2 ≤ 1 / 1125899906842624 := by grind
    have b3 : -(1 / 1125899906842624) ≤ e3 ∧ e3 ≤ 1 / 1125899906842624 := by grind
    have m1 := mul_le (A := 11 / 10) (C := 1 / 1125899906842624) (show -(11 / 10) ≤ A by grind) hA b1.1 b1.2
    have m2 := mul_le (A := 11 / 10) (C := 1 / 1125899906842624) (show -(11 / 10) ≤ B by grind) hB b2.1 b2.2
    have m3 := mul_le (A := 11 / 10) (C := 1 / 1125899906842624) (show -(11 / 10) ≤ Y by grind) Yhi b3.1 b3.2
    have m4 := mul_le b1.1 b1.2 b1.1 b1.2
    have m5 := mul_le b2.1 b2.2 b2.1 b2.2
    have m6 := mul_le b3.1 b3.2 b3.1 b3.2
    have k1 : (P * M) * (P * M) + (Q * M) * (Q * M) = A * A + B * B + 2 * (A * e1) + 2 * (B * e2) + e1 * e1 + e2 * e2 := by
      have x1 : P * M = A + e1 := by grind
      have x2 : Q * M = B + e2 := by grind
      rw [x1, x2]; grind
    have k2 : M * M = Y * Y + 2 * (Y * e3) + e3 * e3 := by
      have x3 : M = Y + e3 := by grind
      rw [x3]; grind
    have k3 : (P * P + Q * Q - 1) * (M * M) = (P * M) * (P * M) + (Q * M) * (Q * M) - M * M := by grind
    have mm : 4 / 5 ≤ M * M := by rw [k2]; grind
    have k4 : -(1 / 4398046511104) ≤ (P * P + Q * Q - 1) * (M * M) ∧ (P * P + Q * Q - 1) * (M * M) ≤ 1 / 4398046511104 := by
      rw [k3, k1, k2]; constructor <;> grind
    have mp : 0 < M * M := by grind
  · have : -(P * P + Q * Q - 1) ≤ 1 / 2199023255552 := cancel_le mp (by grind)
    grind
  · exact cancel_le mp (by grind)
theorem max_le : rv 9218868437227405311 ≤ big * 1361129467683753853853498429727072845824 := by
  have hu := uu_pos
  have m := rv_mul_uu 9218868437227405311
  rw [sval_sgn, show sgnOf 9218868437227405311 = false by decide] at m
  simp only [Bool.false_eq_true, if_false, Rat.intCast_natCast] at m
  have h : magOf (rungOf 9218868437227405311) ≤ magOf bigR * 1361129467683753853853498429727072845824 := by decide +kernel
  have h2 := Rat.natCast_le_natCast.2 h
  rw [Rat.natCast_mul, m] at h2
  have h3 : ((1361129467683753853853498429727072845824 : Nat) : Rat) = 1361129467683753853853498429727072845824 := rfl
  rw [h3] at h2
  have e : big * uu = (magOf bigR : Rat) := by unfold big; grind
  rw [← e] at h2
  exact cancel_le hu (by grind)
theorem one_fin {s : Nat} (fs : fin s = true) : fin (fadd 4607182418800017408 s) = true := by
  have hr := fin_iff.1 fs
  have hm : magOf (rungOf s) ≤ magOf 9218868437227405311 := magOf_le_iff.2 (by omega)
  have hs := natAbs_sval s
  have ho := natAbs_sval 4607182418800017408
  rw [fadd_fin (by decide) fs]
  refine fin_word _ (RN_lt ?_)
  have h1 : (sval 4607182418800017408 + sval s).natAbs ≤ magOf (rungOf 4607182418800017408) + magOf 9218868437227405311 := by omega
  have h2 := RN'_mono h1 0
  have h3 : RN' (magOf (rungOf 4607182418800017408) + magOf 9218868437227405311) 0 < 9218868437227405312 := by decide +kernel
  omega
theorem by_turn {v : Nat} (cv : CF v) (hv : feq v v = true) : ieq (s_turn_Check_0 (s_turn_By_0 v) (s_turn_By_1 v)) 0 = true := by
  cases hI : s_math_IsInf_0 (fmul v v) 1
  rotate_left
  · unfold s_turn_By_0 s_turn_By_1; rw [hI]
    show ieq (s_turn_Check_0 13830554455654793216 0) 0 = true
    decide +kernel
  have hn : nanb v = false := by
    cases hn : nanb v
    · rfl
    · rw [feq_nan (.inl hn)] at hv; cases hv
  have fv : fin v = true := by
    rcases inf_or hn with h | h
    · exact h
    · exfalso
      have hl := cv.lt
      have : v = 9218868437227405312 ∨ v = 18442240474082181120 := by unfold rungOf at h; omega
      rcases this with h | h
      · rw [h] at hI; exact absurd hI (by decide +kernel)
      · rw [h] at hI; exact absurd hI (by decide +kernel)
  have hI' : flt 9218868437227405311 (fmul v v) = false := hI
  have sx : (sgnOf v ^^ sgnOf v) = false := by cases sgnOf v <;> rfl
  have ew := fmul_fin fv fv
  rw [sx] at ew
  have es0 : sgnOf (fmul v v) = false := by rw [ew]; exact sgn_word _ (RN_le _ _)
  have nn : nanb (fmul v v) = false := by rw [ew]; exact Go.Sim.nanb_word _ (RN_le _ _)
  have fs : fin (fmul v v) = true := by
    rw [flt_key (by decide) nn] at hI'
    simp only [decide_eq_false_iff_not] at hI'
    have k1 : key 9218868437227405311 = 9218868437227405311 := by decide
    have k2 : key (fmul v v) = (rungOf (fmul v v) : Int) := by unfold key; rw [es0]; simp
    rw [k1, k2] at hI'
    rw [fin_iff]; omega
  have e0 := eta_pos
  have es := eta_small
  have bg := big_200
  have T0 := sq_nonneg (rv v)
  obtain ⟨m1, m2⟩ := rv_mul' (B := rv v * rv v) fv fv fs (by grind) (by grind)
  have Smax : rv (fmul v v) ≤ big * 1361129467683753853853498429727072845824 := by
    have : fle (fmul v v) 9218868437227405311 = true := by
      rw [fle_key nn (by decide)]
      rw [flt_key (by decide) nn] at hI'
      simp only [decide_eq_false_iff_not] at hI'
      simp only [decide_eq_true_eq]; omega
    rw [rv_le fs (by decide), decide_eq_true_eq] at this
    have := max_le
    grind
  have S0 : 0 ≤ rv (fmul v v) := by
    have hu := uu_pos
    have hs := rv_mul_uu (fmul v v)
    rw [sval_sgn, es0] at hs
    simp only [Bool.false_eq_true, if_false, Rat.intCast_natCast] at hs
    have m0 : (0 : Rat) ≤ (magOf (rungOf (fmul v v)) : Rat) := Rat.natCast_le_natCast.2 (Nat.zero_le _)
    exact cancel_le hu (by rw [← hs]; grind)
  have hls : fmul v v < 18446744073709551616 := (CF.mul v v).lt
  unfold s_turn_By_0 s_turn_By_1
  rw [hI]
  show ieq (s_turn_Check_0 (fdiv (fsub 4607182418800017408 (fmul v v)) (fadd 4607182418800017408 (fmul v v))) (fdiv (fadd v v) (fadd 4607182418800017408 (fmul v v)))) 0 = true
  generalize fmul v v = s at *
  obtain ⟨ns, fns⟩ := rv_neg hls fs
  have e1 : rv 4607182418800017408 = 1 := by
    rw [rv_one]
    have k1 : ((1 : Nat) : Rat) = 1 := rfl
    rw [k1]; grind
  have f1 : fin 4607182418800017408 = true := by decide
  have fd := one_fin fs
  have fn : fin (fsub 4607182418800017408 s) = true := by rw [sub_add hls]; exact one_fin fns
  obtain ⟨d1, d2⟩ := rv_add' (B := 1 + rv s) f1 fs fd (by rw [e1]; grind) (by rw [e1]; grind)
  obtain ⟨n1, n2⟩ := rv_add' (B := 1 + rv s) f1 fns (by rw [← sub_add hls]; exact fn) (by rw [e1, ns]; grind) (by rw [e1, ns]; grind)
  rw [← sub_add hls] at n1 n2
  rw [e1] at d1 d2
  rw [e1, ns] at n1 n2
  obtain ⟨fav, av0, av⟩ := abs_cases fv
  have tt : rv v * rv v = rv (fabs v) * rv (fabs v) := abs_sq fv
  have tbig : rv (fabs v) * 4 ≤ big := by
    rcases Rat.le_total (a := rv (fabs v) * 4) (b := big) with h | h
    · exact h
    · exfalso
      have q1 := Rat.mul_nonneg (show 0 ≤ rv (fabs v) * 4 - big by grind) (show 0 ≤ rv (fabs v) * 4 + big by grind)
      have q2 := Rat.mul_nonneg (show 0 ≤ big - 1606938044258990275541962092341162602522202993782792835301376 by grind) (show 0 ≤ big by grind)
      grind
  obtain ⟨ft, t1, t2⟩ := rv_add (B := 2 * rv (fabs v)) fv fv (by grind) (by rcases av with h | h <;> grind) (by rcases av with h | h <;> grind)
  obtain ⟨_, ad0, ad⟩ := abs_cases fd
  obtain ⟨_, an0, an⟩ := abs_cases fn
  obtain ⟨_, at0, ht⟩ := abs_cases ft
  have sq1 := sq_nonneg (rv (fabs v) - 1)
  have Dd : rv (fabs (fadd 4607182418800017408 s)) = rv (fadd 4607182418800017408 s) := by rcases ad with h | h <;> grind
  obtain ⟨fp, p1, p2, _⟩ := rv_div (C := 2) fn fd (by grind) (by grind) (by grind) (by rcases an with h | h <;> grind)
  obtain ⟨fq, q1, q2, _⟩ := rv_div (C := 4) ft fd (by grind) (by grind) (by grind) (by rcases ht with h | h <;> rcases av with h' | h' <;> grind)
  have hcore : -(1 / 2199023255552) ≤ rv (fabs (fdiv (fsub 4607182418800017408 s) (fadd 4607182418800017408 s))) * rv (fabs (fdiv (fsub 4607182418800017408 s) (fadd 4607182418800017408 s))) + rv (fabs (fdiv (fadd v v) (fadd 4607182418800017408 s))) * rv (fabs (fdiv (fadd v v) (fadd 4607182418800017408 s))) - 1 ∧
      rv (fabs (fdiv (fsub 4607182418800017408 s) (fadd 4607182418800017408 s))) * rv (fabs (fdiv (fsub 4607182418800017408 s) (fadd 4607182418800017408 s))) + rv (fabs (fdiv (fadd v v) (fadd 4607182418800017408 s))) * rv (fabs (fdiv (fadd v v) (fadd 4607182418800017408 s))) - 1 ≤ 1 / 2199023255552 := by
    have r10 := (abs_cases fp).2.1
    have r20 := (abs_cases fq).2.1
    rw [Dd] at p1 p2 q1 q2
    generalize rv (fabs (fdiv (fsub 4607182418800017408 s) (fadd 4607182418800017408 s))) = P at *
    generalize rv (fabs (fdiv (fadd v v) (fadd 4607182418800017408 s))) = Q at *
    rw [tt] at m1 m2 T0
    have nt : rv (fabs (fadd v v)) - 2 * rv (fabs v) ≤ 2 * rv (fabs v) / 9007199254740992 ∧ -(2 * rv (fabs v) / 9007199254740992) ≤ rv (fabs (fadd v v)) - 2 * rv (fabs v) := by
      rcases ht with h | h <;> rcases av with h' | h' <;> constructor <;> grind
    generalize rv (fabs (fadd v v)) = n2' at *
    generalize rv (fabs v) = T at *
    obtain ⟨Z, hZ⟩ : ∃ Z, Z = 1 + T * T := ⟨_, rfl⟩
    have Z1 : 1 ≤ Z := by grind
    have TZ : 2 * T ≤ Z := by grind
    obtain ⟨a, ha, hab⟩ : ∃ a : Rat, (a = 1 - T * T ∨ a = -(1 - T * T)) ∧ -(Z / 1125899906842624) ≤ rv (fabs (fsub 4607182418800017408 s)) - a ∧ rv (fabs (fsub 4607182418800017408 s)) - a ≤ Z / 1125899906842624 := by
      rcases an with h | h
      · exact ⟨1 - T * T, .inl rfl, by grind, by grind⟩
      · exact ⟨-(1 - T * T), .inr rfl, by grind, by grind⟩
    generalize rv (fabs (fsub 4607182418800017408 s)) = n1' at *
    generalize rv (fadd 4607182418800017408 s) = D at *
    have DZ1 : -(Z / 1125899906842624) ≤ Z - D := by grind
    have DZ2 : Z - D ≤ Z / 1125899906842624 := by grind
    have D0 : 0 < D := by grind
    have a9 : a ≤ Z ∧ -Z ≤ a := by rcases ha with h | h <;> grind
    have he := Rat.mul_nonneg (show 0 ≤ 1 / 1152921504606846976 - eta by grind) (Rat.le_of_lt D0)
    have he2 := Rat.mul_nonneg (Rat.le_of_lt e0) (Rat.le_of_lt D0)
    have P2 : P ≤ 2 := cancel_le D0 (by grind)
    have Q2 : Q ≤ 2 := cancel_le D0 (by grind)
    have x1 := mul_le (A := 2) (C := Z / 1125899906842624) (show -2 ≤ P by grind) P2 DZ1 DZ2
    have x2 := mul_le (A := 2) (C := Z / 1125899906842624) (show -2 ≤ Q by grind) Q2 DZ1 DZ2
    obtain ⟨g1, hg1⟩ : ∃ g, g = P * Z - a := ⟨_, rfl⟩
    obtain ⟨g2, hg2⟩ : ∃ g, g = Q * Z - 2 * T := ⟨_, rfl⟩
    have y1 : P * Z = P * D + P * (Z - D) := by grind
    have y2 : Q * Z = Q * D + Q * (Z - D) := by grind
    have b1 : -(Z / 70368744177664) ≤ g1 ∧ g1 ≤ Z / 70368744177664 := by
      rw [hg1, y1]; constructor <;> grind
    have b2 : -(Z / 70368744177664) ≤ g2 ∧ g2 ≤ Z / 70368744177664 := by
      rw [hg2, y2]; constructor <;> grind
    have z1 := mul_le (A := Z) (C := Z / 70368744177664) a9.2 a9.1 b1.1 b1.2
    have z2 := mul_le (A := Z) (C := Z / 70368744177664) (show -Z ≤ 2 * T by grind) TZ b2.1 b2.2
    have z3 := mul_le b1.1 b1.2 b1.1 b1.2
    have z4 := mul_le b2.1 b2.2 b2.1 b2.2
    have aa : a * a + (2 * T) * (2 * T) = Z * Z := by rcases ha with h | h <;> rw [h, hZ] <;> grind
    have k1 : (P * P + Q * Q - 1) * (Z * Z) = 2 * (a * g1) + 2 * (2 * T * g2) + g1 * g1 + g2 * g2 := by
      have w1 : P * Z = a + g1 := by grind
      have w2 : Q * Z = 2 * T + g2 := by grind
      have w3 : (P * P + Q * Q - 1) * (Z * Z) = (P * Z) * (P * Z) + (Q * Z) * (Q * Z) - Z * Z := by grind
      rw [w3, w1, w2, ← aa]; grind
    have ZZ : 0 < Z * Z := Rat.mul_pos (by grind) (by grind)
    have k2 : (P * P + Q * Q - 1) * (Z * Z) ≤ 1 / 2199023255552 * (Z * Z) := by rw [k1]; grind
    have k3 : -(P * P + Q * Q - 1) * (Z * Z) ≤ 1 / 2199023255552 * (Z * Z) := by
      have : -(P * P + Q * Q - 1) * (Z * Z) = -((P * P + Q * Q - 1) * (Z * Z)) := by grind
      rw [this, k1]; grind
    have c1 := cancel_le ZZ k2
    have c2 := cancel_le ZZ k3
    constructor <;> grind
  refine check_of fp fq ?_ ?_
  · rw [abs_sq fp, abs_sq fq]; exact hcore.1
  · rw [abs_sq fp, abs_sq fq]; exact hcore.2
theorem unit_cases (r i : Nat) : (s_turn_Unit_2 r i = true ∧ ieq (s_turn_Check_0 (s_turn_Unit_0 r i) (s_turn_Unit_1 r i)) 0 = true) ∨ (s_turn_Unit_2 r i = false ∧ s_turn_Unit_0 r i = 0 ∧ s_turn_Unit_1 r i = 0) := by
  unfold s_turn_Unit_2 s_turn_Unit_0 s_turn_Unit_1
  cases h : ieq (s_turn_Check_0 (fdiv r (s_math_Sqrt_0 (s_turn_square_0 r i))) (fdiv i (s_math_Sqrt_0 (s_turn_square_0 r i)))) 0
  · right; exact ⟨rfl, rfl, rfl⟩
  · left; exact ⟨rfl, h⟩
theorem then_near {a b c d : Nat} (h1 : ieq (s_turn_Check_0 a b) 0 = true) (h2 : ieq (s_turn_Check_0 c d) 0 = true) :
    fin (s_turn_Then_0 a b c d) = true ∧ fin (s_turn_Then_1 a b c d) = true ∧ -(1 / 366503875925) ≤ rv (s_turn_Then_0 a b c d) * rv (s_turn_Then_0 a b c d) + rv (s_turn_Then_1 a b c d) * rv (s_turn_Then_1 a b c d) - 1 ∧ rv (s_turn_Then_0 a b c d) * rv (s_turn_Then_0 a b c d) + rv (s_turn_Then_1 a b c d) * rv (s_turn_Then_1 a b c d) - 1 ≤ 1 / 366503875925 := by
  obtain ⟨fa, fb, a1, a2, b1, b2, n1, n2⟩ := check_parts h1
  obtain ⟨fc, fd, c1, c2, d1, d2, m1, m2⟩ := check_parts h2
  have bg := big_ge
  have e0 := eta_pos
  have es := eta_small
  have l1 := mul_le a1 a2 c1 c2
  have l2 := mul_le b1 b2 d1 d2
  have l3 := mul_le a1 a2 d1 d2
  have l4 := mul_le b1 b2 c1 c2
  obtain ⟨f1, x1, x2⟩ := rv_mul (B := 11 / 10 * (11 / 10)) fa fc (by grind) l1.1 l1.2
  obtain ⟨f2, y1, y2⟩ := rv_mul (B := 11 / 10 * (11 / 10)) fb fd (by grind) l2.1 l2.2
  obtain ⟨f3, z1, z2⟩ := rv_mul (B := 11 / 10 * (11 / 10)) fa fd (by grind) l3.1 l3.2
  obtain ⟨f4, w1, w2⟩ := rv_mul (B := 11 / 10 * (11 / 10)) fb fc (by grind) l4.1 l4.2
  obtain ⟨g1, u1, u2⟩ := rv_sub (B := 3) (CF.mul b d).lt f1 f2 (by grind) (by grind) (by grind)
  obtain ⟨g2, v1, v2⟩ := rv_add (B := 3) f3 f4 (by grind) (by grind) (by grind)
  have eP : fsub (fmul a c) (fmul b d) = s_turn_Then_0 a b c d := rfl
  have eQ : fadd (fmul a d) (fmul b c) = s_turn_Then_1 a b c d := rfl
  rw [eP] at g1 u1 u2
  rw [eQ] at g2 v1 v2
  generalize s_turn_Then_0 a b c d = p at *
  generalize s_turn_Then_1 a b c d = q at *
  obtain ⟨e1, he1⟩ : ∃ e, e = rv p - (rv a * rv c - rv b * rv d) := ⟨_, rfl⟩
  obtain ⟨e2, he2⟩ : ∃ e, e = rv q - (rv a * rv d + rv b * rv c) := ⟨_, rfl⟩
  have b1 : -(1 / 1125899906842624) ≤ e1 ∧ e1 ≤ 1 / 1125899906842624 := by grind
  have b2 : -(1 / 1125899906842624) ≤ e2 ∧ e2 ≤ 1 / 1125899906842624 := by grind
  have t1 := mul_le (A := 3) (C := 1 / 1125899906842624) (show -3 ≤ rv a * rv c - rv b * rv d by grind) (show rv a * rv c - rv b * rv d ≤ 3 by grind) b1.1 b1.2
  have t2 := mul_le (A := 3) (C := 1 / 1125899906842624) (show -3 ≤ rv a * rv d + rv b * rv c by grind) (show rv a * rv d + rv b * rv c ≤ 3 by grind) b2.1 b2.2
  have t3 := mul_le b1.1 b1.2 b1.1 b1.2
  have t4 := mul_le b2.1 b2.2 b2.1 b2.2
  have t5 := mul_le n2 n1 m2 m1
  have k1 : rv p * rv p + rv q * rv q = 1 + (rv a * rv a + rv b * rv b - 1) + (rv c * rv c + rv d * rv d - 1) + (rv a * rv a + rv b * rv b - 1) * (rv c * rv c + rv d * rv d - 1) + 2 * ((rv a * rv c - rv b * rv d) * e1) + 2 * ((rv a * rv d + rv b * rv c) * e2) + e1 * e1 + e2 * e2 := by
    have x1 : rv p = (rv a * rv c - rv b * rv d) + e1 := by grind
    have x2 : rv q = (rv a * rv d + rv b * rv c) + e2 := by grind
    rw [x1, x2]; grind
  have kb : -(1 / 366503875925) ≤ rv p * rv p + rv q * rv q - 1 ∧ rv p * rv p + rv q * rv q - 1 ≤ 1 / 366503875925 := by
    rw [k1]; constructor <;> grind
  exact ⟨g1, g2, kb.1, kb.2⟩
theorem turn_ok {r i v : Nat} (cv : CF v) (hc : ieq (s_turn_Check_0 r i) 0 = true) (hv : feq v v = true) :
    s_turn_Unit_2 (s_turn_Then_0 r i (s_turn_By_0 v) (s_turn_By_1 v)) (s_turn_Then_1 r i (s_turn_By_0 v) (s_turn_By_1 v)) = true := by
  obtain ⟨g1, g2, k1, k2⟩ := then_near hc (by_turn cv hv)
  generalize s_turn_Then_0 r i (s_turn_By_0 v) (s_turn_By_1 v) = p at *
  generalize s_turn_Then_1 r i (s_turn_By_0 v) (s_turn_By_1 v) = q at *
  have p0 := sq_nonneg (rv p)
  have q0 := sq_nonneg (rv q)
  have sq : ∀ x : Rat, x * x ≤ 11 / 10 → -(11 / 10) ≤ x ∧ x ≤ 11 / 10 := by
    intro x hx
    constructor
    · rcases Rat.le_total (a := -(11 / 10)) (b := x) with h | h
      · exact h
      · have := Rat.mul_nonneg (show 0 ≤ -(11 / 10) - x by grind) (show 0 ≤ 11 / 10 - x by grind); grind
    · rcases Rat.le_total (a := x) (b := 11 / 10) with h | h
      · exact h
      · have := Rat.mul_nonneg (show 0 ≤ x - 11 / 10 by grind) (show 0 ≤ x + 11 / 10 by grind); grind
  obtain ⟨r1, r2⟩ := sq (rv p) (by grind)
  obtain ⟨i1, i2⟩ := sq (rv q) (by grind)
  exact unit_long g1 g2 r1 r2 i1 i2 (by grind) (by grind)
theorem calm_rung {x : Nat} (cx : CF x) (h : s_law04_calm_0 x = true) : fin x = true ∧ (rungOf x = 0 ∨ (3256102530588868608 ≤ rungOf x ∧ rungOf x ≤ 4787326403894837248)) := by
  unfold s_law04_calm_0 at h
  simp only [Bool.and_eq_true, Bool.or_eq_true] at h
  obtain ⟨⟨h1, h2⟩, h3⟩ := h
  have ff : fin x = true := fin_between h1 h2 (by decide) (by decide)
  have nn := fin_not_nan ff
  refine ⟨ff, ?_⟩
  rw [fle_key (by decide) nn, decide_eq_true_eq] at h1
  rw [fle_key nn (by decide), decide_eq_true_eq] at h2
  have k1 : key 14010698440749613056 = -4787326403894837248 := by decide
  have k2 : key 4787326403894837248 = 4787326403894837248 := by decide
  have k3 : key 3256102530588868608 = 3256102530588868608 := by decide
  have k4 : key 12479474567443644416 = -3256102530588868608 := by decide
  rw [k1] at h1
  rw [k2] at h2
  have kx : key x = (rungOf x : Int) ∨ key x = -(rungOf x : Int) := by unfold key; split <;> simp
  rcases h3 with (h3 | h3) | h3
  · left
    rcases (feq_zero cx.lt nn).1 h3 with e | e <;> rw [e] <;> decide
  · rw [fle_key (by decide) nn, decide_eq_true_eq, k3] at h3
    right; omega
  · rw [fle_key nn (by decide), decide_eq_true_eq, k4] at h3
    right; omega
theorem calm_nt {x : Nat} (cx : CF x) (h : s_law04_calm_0 x = true) : Nt x := by
  obtain ⟨f, h | ⟨h1, h2⟩⟩ := calm_rung cx h
  · exact ⟨f, .inl h⟩
  · exact ⟨f, .inr ⟨by omega, by omega⟩⟩
theorem mag_lo (r : Nat) (h : 3256102530588868608 ≤ r) {e : Nat} (he : e = 774) : 2 ^ e ≤ magOf r := by
  have h1 := magOf_le_iff.2 h
  have h2 : 2 ^ e ≤ magOf 3256102530588868608 := by subst he; decide +kernel
  exact Nat.le_trans h2 h1
theorem calm_log {t x : Nat} (ct : CF t) (cx : CF x) (ht : s_law04_calm_0 t = true) (hx : s_law04_calm_0 x = true) : magOf (rungOf t) * magOf (rungOf x) = 0 ∨ 1126 ≤ (magOf (rungOf t) * magOf (rungOf x)).log2 := by
  obtain ⟨_, h | ⟨h1, _⟩⟩ := calm_rung ct ht
  · left; rw [h, show magOf 0 = 0 from rfl, Nat.zero_mul]
  obtain ⟨_, g | ⟨g1, _⟩⟩ := calm_rung cx hx
  · left; rw [g, show magOf 0 = 0 from rfl, Nat.mul_zero]
  right
  obtain ⟨e, he⟩ : ∃ e, e = 774 := ⟨_, rfl⟩
  obtain ⟨f, hf⟩ : ∃ f, f = 1126 := ⟨_, rfl⟩
  have a1 := mag_lo _ h1 he
  have a2 := mag_lo _ g1 he
  have m := Nat.mul_le_mul a1 a2
  have hp : 2 ^ f ≤ 2 ^ e * 2 ^ e := by rw [← Nat.pow_add]; exact Nat.pow_le_pow_right (by decide) (by omega)
  have h9 := Nat.le_trans hp m
  have h0 : magOf (rungOf t) * magOf (rungOf x) ≠ 0 := by
    intro h; rw [h] at h9; exact absurd h9 (Nat.not_le_of_lt (Nat.two_pow_pos f))
  rw [← hf]
  exact (Nat.le_log2 h0).2 h9
theorem calm_top {t x : Nat} (ct : CF t) (cx : CF x) (ht : s_law04_calm_0 t = true) (hx : s_law04_calm_0 x = true) : ∀ d, d = 1074 → RN' (magOf (rungOf t) * magOf (rungOf x)) d + 4503599627370496 < 9218868437227405312 := by
  intro d hd
  have b1 : rungOf t ≤ 4787326403894837248 := by
    obtain ⟨_, h | ⟨_, h⟩⟩ := calm_rung ct ht
    · rw [h]; decide
    · exact h
  have b2 : rungOf x ≤ 4787326403894837248 := by
    obtain ⟨_, h | ⟨_, h⟩⟩ := calm_rung cx hx
    · rw [h]; decide
    · exact h
  have m := Nat.mul_le_mul (magOf_le_iff.2 b1) (magOf_le_iff.2 b2)
  have h1 := RN'_mono m d
  have h2 : RN' (magOf 4787326403894837248 * magOf 4787326403894837248) 1074 + 4503599627370496 < 9218868437227405312 := by decide +kernel
  rw [← hd] at h2
  exact Nat.lt_of_le_of_lt (Nat.add_le_add_right h1 _) h2
theorem prod_fin {t x : Nat} (ct : CF t) (cx : CF x) (ht : s_law04_calm_0 t = true) (hx : s_law04_calm_0 x = true) : fin (fmul t x) = true := by
  obtain ⟨d, hd⟩ : ∃ d, d = 1074 := ⟨_, rfl⟩
  have h := calm_top ct cx ht hx d hd
  have e : fmul t x = Ieee.double.word (sgnOf t ^^ sgnOf x) (RN (magOf (rungOf t) * magOf (rungOf x)) d) := by rw [hd]; exact fmul_fin (calm_rung ct ht).1 (calm_rung cx hx).1
  rw [e]
  exact fin_word _ (RN_lt (Nat.lt_of_le_of_lt (Nat.le_add_right _ _) h))
theorem way_ok {w t : Nat} (cw : CF w) (ct : CF t) (hw : s_law04_calm_0 w = true) (ht : s_law04_calm_0 t = true) : feq (fmul (fmul w t) 4602678819172646912) (fmul (fmul w t) 4602678819172646912) = true := by
  apply feq_refl
  rw [fmul_fin (prod_fin cw ct hw ht) (by decide)]
  exact Go.Sim.nanb_word _ (RN_le _ _)
theorem move_check {r i w t : Nat} (x y : Nat) (cw : CF w) (ct : CF t) (hc : ieq (s_turn_Check_0 r i) 0 = true) (hw : s_law04_calm_0 w = true) (ht : s_law04_calm_0 t = true) :
    ieq (s_turn_Check_0 (s_frame_Move_2 0 0 r i x y w t) (s_frame_Move_3 0 0 r i x y w t)) 0 = true := by
  have h := turn_ok (CF.mul (fmul w t) 4602678819172646912) hc (way_ok cw ct hw ht)
  have e2 : s_frame_Move_2 0 0 r i x y w t = s_turn_Unit_0 (s_turn_Then_0 r i (s_turn_By_0 (fmul (fmul w t) 4602678819172646912)) (s_turn_By_1 (fmul (fmul w t) 4602678819172646912))) (s_turn_Then_1 r i (s_turn_By_0 (fmul (fmul w t) 4602678819172646912)) (s_turn_By_1 (fmul (fmul w t) 4602678819172646912))) := by
    unfold s_frame_Move_2; simp only []; rw [h]; rfl
  have e3 : s_frame_Move_3 0 0 r i x y w t = s_turn_Unit_1 (s_turn_Then_0 r i (s_turn_By_0 (fmul (fmul w t) 4602678819172646912)) (s_turn_By_1 (fmul (fmul w t) 4602678819172646912))) (s_turn_Then_1 r i (s_turn_By_0 (fmul (fmul w t) 4602678819172646912)) (s_turn_By_1 (fmul (fmul w t) 4602678819172646912))) := by
    unfold s_frame_Move_3; simp only []; rw [h]; rfl
  rw [e2, e3]
  rcases unit_cases (s_turn_Then_0 r i (s_turn_By_0 (fmul (fmul w t) 4602678819172646912)) (s_turn_By_1 (fmul (fmul w t) 4602678819172646912))) (s_turn_Then_1 r i (s_turn_By_0 (fmul (fmul w t) 4602678819172646912)) (s_turn_By_1 (fmul (fmul w t) 4602678819172646912))) with ⟨_, g⟩ | ⟨g, _⟩
  · exact g
  · rw [h] at g; cases g
theorem law_FrameTwice (a0 a1 a2 a3 b0 b1 c0 d0 : Nat) (ha0 : a0 < 18446744073709551616) (ha1 : a1 < 18446744073709551616) (ha2 : a2 < 18446744073709551616) (ha3 : a3 < 18446744073709551616) (hb0 : b0 < 18446744073709551616) (hb1 : b1 < 18446744073709551616) (hc0 : c0 < 18446744073709551616) (hd0 : d0 < 18446744073709551616) :
    T_law04_FrameTwice a0 a1 a2 a3 b0 b1 c0 d0 = true := by
  have n0 : s__law04_Bits__Frame_0 (Int.ofNat a0) (Int.ofNat a1) (Int.ofNat a2) (Int.ofNat a3) = cn a0 := rfl
  have n1 : s__law04_Bits__Frame_1 (Int.ofNat a0) (Int.ofNat a1) (Int.ofNat a2) (Int.ofNat a3) = cn a1 := rfl
  have n2 : s__law04_Bits__Frame_2 (Int.ofNat a0) (Int.ofNat a1) (Int.ofNat a2) (Int.ofNat a3) = cn a2 := rfl
  have n3 : s__law04_Bits__Frame_3 (Int.ofNat a0) (Int.ofNat a1) (Int.ofNat a2) (Int.ofNat a3) = cn a3 := rfl
  have w0 : s__law04_Place__Vec_0 (Int.ofNat b0) (Int.ofNat b1) = cn b0 := rfl
  have w1 : s__law04_Place__Vec_1 (Int.ofNat b0) (Int.ofNat b1) = cn b1 := rfl
  have f0 : s_law04_f_0 (Int.ofNat c0) = cn c0 := rfl
  have f1 : s_law04_f_0 (Int.ofNat d0) = cn d0 := rfl
  unfold T_law04_FrameTwice
  simp only []
  rw [n0, n1, n2, n3, w0, w1, f0, f1]
  have cu := CF.cn ha0
  have cv := CF.cn ha1
  have cr := CF.cn ha2
  have ci := CF.cn ha3
  have cx := CF.cn hb0
  have cy := CF.cn hb1
  have cw := CF.cn hc0
  have ct := CF.cn hd0
  generalize cn a0 = u at *
  generalize cn a1 = v at *
  generalize cn a2 = r at *
  generalize cn a3 = i at *
  generalize cn b0 = x at *
  generalize cn b1 = y at *
  generalize cn c0 = w at *
  generalize cn d0 = t at *
  cases hf : ieq (s_frame_Check_0 u v r i) 0
  · rfl
  cases hx : s_law04_calm_0 x
  · rfl
  cases hy : s_law04_calm_0 y
  · rfl
  cases hw : s_law04_calm_0 w
  · rfl
  cases ht : s_law04_calm_0 t
  · rfl
  have hwi : s_vec_Within_0 u v 4787326403894837248 = true := by
    cases h : s_vec_Within_0 u v 4787326403894837248
    · unfold s_frame_Check_0 at hf; rw [h] at hf; exact absurd hf (by simp [ieq])
    · rfl
  have hc : ieq (s_turn_Check_0 r i) 0 = true := by
    unfold s_frame_Check_0 at hf; rw [hwi] at hf; exact hf
  obtain ⟨fu, fv⟩ : fin u = true ∧ fin v = true := by
    simp only [s_vec_Within_0, s_num_Within_float64__0, Bool.and_eq_true] at hwi
    exact ⟨fin_between hwi.1.1 hwi.1.2 (by decide) (by decide), fin_between hwi.2.1 hwi.2.2 (by decide) (by decide)⟩
  have mc := move_check x y cw ct hc hw ht
  obtain ⟨m2, m3, _⟩ := check_parts mc
  have tx := twice_prod (calm_rung ct ht).1 (calm_nt cx hx) (calm_log ct cx ht hx) (calm_top ct cx ht hx)
  have ty := twice_prod (calm_rung ct ht).1 (calm_nt cy hy) (calm_log ct cy ht hy) (calm_top ct cy ht hy)
  have sx := swap_halves (calm_nt ct ht) (calm_nt cx hx)
  have sy := swap_halves (calm_nt ct ht) (calm_nt cy hy)
  have sw := swap_halves' (calm_nt ct ht) (calm_nt cw hw)
  have e1 : feq (s_frame_Move_0 0 0 r i (fmul 4611686018427387904 x) (fmul 4611686018427387904 y) w t) (fmul 4611686018427387904 (s_frame_Move_0 0 0 r i x y w t)) = true := tx
  have e2 : feq (s_frame_Move_1 0 0 r i (fmul 4611686018427387904 x) (fmul 4611686018427387904 y) w t) (fmul 4611686018427387904 (s_frame_Move_1 0 0 r i x y w t)) = true := ty
  have nx : nanb (s_frame_Move_0 0 0 r i x y w t) = false := fin_not_nan (V.add V.zero (V.self (prod_fin ct cx ht hx)) (V.self (prod_fin ct cx ht hx)) (Int.zero_add _)).1
  have ny : nanb (s_frame_Move_1 0 0 r i x y w t) = false := fin_not_nan (V.add V.zero (V.self (prod_fin ct cy ht hy)) (V.self (prod_fin ct cy ht hy)) (Int.zero_add _)).1
  have q0 : s_frame_Move_0 0 0 r i (fdiv x 4611686018427387904) (fdiv y 4611686018427387904) (fdiv w 4611686018427387904) (fmul 4611686018427387904 t) = s_frame_Move_0 0 0 r i x y w t := by
    show fadd 0 (fmul _ _) = fadd 0 (fmul _ _); rw [sx]
  have q1 : s_frame_Move_1 0 0 r i (fdiv x 4611686018427387904) (fdiv y 4611686018427387904) (fdiv w 4611686018427387904) (fmul 4611686018427387904 t) = s_frame_Move_1 0 0 r i x y w t := by
    show fadd 0 (fmul _ _) = fadd 0 (fmul _ _); rw [sy]
  have q2 : s_frame_Move_2 0 0 r i (fdiv x 4611686018427387904) (fdiv y 4611686018427387904) (fdiv w 4611686018427387904) (fmul 4611686018427387904 t) = s_frame_Move_2 0 0 r i x y w t := by
    unfold s_frame_Move_2; rw [sw]
  have q3 : s_frame_Move_3 0 0 r i (fdiv x 4611686018427387904) (fdiv y 4611686018427387904) (fdiv w 4611686018427387904) (fmul 4611686018427387904 t) = s_frame_Move_3 0 0 r i x y w t := by
    unfold s_frame_Move_3; rw [sw]
  have q4 : s_frame_Move_2 0 0 r i (fmul 4611686018427387904 x) (fmul 4611686018427387904 y) w t = s_frame_Move_2 0 0 r i x y w t := rfl
  have q5 : s_frame_Move_3 0 0 r i (fmul 4611686018427387904 x) (fmul 4611686018427387904 y) w t = s_frame_Move_3 0 0 r i x y w t := rfl
  rw [e1, e2, q0, q1, q2, q3, q4, q5, feq_refl nx, feq_refl ny, feq_refl (fin_not_nan m2), feq_refl (fin_not_nan m3), mc]
  have vt := V.self (calm_rung ct ht).1
  have s0 : feq (s_frame_Move_0 u v r i 0 0 0 t) u = true := V.feq_of (V.add (V.self fu) vt.mul_zero (V.self fu) (Int.add_zero _)) (V.self fu)
  have s1 : feq (s_frame_Move_1 u v r i 0 0 0 t) v = true := V.feq_of (V.add (V.self fv) vt.mul_zero (V.self fv) (Int.add_zero _)) (V.self fv)
  rw [s0, s1]
  rfl
theorem u64ok_of {a : Nat} (h : a < 18446744073709551616) : u64ok (Int.ofNat a) = true := by
  show Nat.blt a 18446744073709551616 = true
  rw [Nat.blt_eq]; exact h
theorem ob_FrameTwice (a0 a1 a2 a3 b0 b1 c0 d0 : Nat) (ha0 : a0 < 18446744073709551616) (ha1 : a1 < 18446744073709551616) (ha2 : a2 < 18446744073709551616) (ha3 : a3 < 18446744073709551616) (hb0 : b0 < 18446744073709551616) (hb1 : b1 < 18446744073709551616) (hc0 : c0 < 18446744073709551616) (hd0 : d0 < 18446744073709551616) :
    O_law04_FrameTwice a0 a1 a2 a3 b0 b1 c0 d0 = true := by
  unfold O_law04_FrameTwice
  simp only [u64ok_of ha0, u64ok_of ha1, u64ok_of ha2, u64ok_of ha3, u64ok_of hb0, u64ok_of hb1, u64ok_of hc0, u64ok_of hd0, Bool.and_self, Bool.cond_self, Bool.true_and, Bool.and_true]
end Go.Proofs.Ytefmihgjheokeaa
