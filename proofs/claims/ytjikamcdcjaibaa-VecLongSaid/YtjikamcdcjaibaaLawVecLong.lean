/- VecLong: a way made as long as 1. -/
import Derived.Test.YtjikamcdcjaibaaFnsB
import Derived.Test.YtjikamcdcjaibaaSimQuo
set_option linter.unusedVariables false
set_option linter.unusedSimpArgs false
namespace Go.Proofs.Ytjikamcdcjaibaa
open Go.Sim
theorem sq_nonneg (x : Rat) : 0 ≤ x * x := by
  rcases Rat.le_total (a := 0) (b := x) with h | h
  · exact Rat.mul_nonneg h h
  · have := Rat.mul_nonneg (show 0 ≤ -x by grind) (show 0 ≤ -x by grind); grind
theorem abs_sq {a : Nat} (fa : fin a = true) : rv a * rv a = rv (fabs a) * rv (fabs a) := by
  obtain ⟨_, _, h⟩ := abs_cases fa
  rcases h with h | h <;> rw [h] <;> grind
theorem square_near {p q : Nat} {X : Rat} (fp : fin p = true) (fq : fin q = true) (hX : rv p * rv p + rv q * rv q ≤ X) (hb : X * 4 ≤ big) (h1 : 1 / 2 ≤ X) :
    fin (fadd (fmul p p) (fmul q q)) = true ∧ -(X / 1125899906842624) ≤ rv (fadd (fmul p p) (fmul q q)) - (rv p * rv p + rv q * rv q) ∧ rv (fadd (fmul p p) (fmul q q)) - (rv p * rv p + rv q * rv q) ≤ X / 1125899906842624 := by
  have p0 := sq_nonneg (rv p)
  have q0 := sq_nonneg (rv q)
  have e0 := eta_pos
  have es := eta_small
  obtain ⟨f1, a1, a2⟩ := rv_mul (B := X) fp fp (by grind) (by grind) (by grind)
  obtain ⟨f2, b1, b2⟩ := rv_mul (B := X) fq fq (by grind) (by grind) (by grind)
  obtain ⟨f3, c1, c2⟩ := rv_add (B := 2 * X) f1 f2 (by grind) (by grind) (by grind)
  refine ⟨f3, ?_, ?_⟩ <;> grind
theorem len_neg {x y : Nat} (cx : CF x) (cy : CF y) : s_vec_Length_0 (fneg x) (fneg y) = s_vec_Length_0 x y := by
  unfold s_vec_Length_0 s_vec_Square_0 s_vec_Dot_0
  rw [fmul_neg_neg cx.lt cx.lt, fmul_neg_neg cy.lt cy.lt]
theorem len_left {x y : Nat} (cy : CF y) : s_vec_Length_0 (fneg y) x = s_vec_Length_0 x y := by
  unfold s_vec_Length_0 s_vec_Square_0 s_vec_Dot_0
  rw [fmul_neg_neg cy.lt cy.lt, fadd_comm]
/-- How long a quotient by the length is. -/
theorem near_core {A B E S Y M P Q : Rat} (A0 : 0 ≤ A) (B0 : 0 ≤ B) (S0 : 0 < S) (Y0 : 0 ≤ Y) (P0 : 0 ≤ P) (Q0 : 0 ≤ Q) (e0 : 0 < eta) (es : eta ≤ 1 / 1152921504606846976) (eS : eta ≤ S / 1152921504606846976)
    (s1 : -(S / 4500000000000000) ≤ S - (A * A + B * B)) (s2 : S - (A * A + B * B) ≤ S / 4500000000000000)
    (y1 : -(S / 18014398509481984) ≤ Y * Y - S) (y2 : Y * Y - S ≤ S / 18014398509481984) (m1 : -(Y / 9007199254740992 + eta) ≤ M - Y) (m2 : M - Y ≤ Y / 9007199254740992 + eta)
    (p1 : -(A / 4503599627370496 + eta * M) ≤ P * M - A) (p2 : P * M - A ≤ A / 4503599627370496 + eta * M) (q1 : -(B / 4503599627370496 + eta * M) ≤ Q * M - B) (q2 : Q * M - B ≤ B / 4503599627370496 + eta * M) :
    -(1 / 900000000000000) ≤ P * P + Q * Q - 1 ∧ P * P + Q * Q - 1 ≤ 1 / 900000000000000 := by
  -- eta against Y
  have eY : eta ≤ Y / 576460752303423488 := by
    rcases Rat.le_total (a := Y) (b := 1) with h | h
    · have := Rat.mul_nonneg Y0 (show 0 ≤ 1 - Y by grind); grind
    · grind
  have Ypos : 0 < Y := by grind
  obtain ⟨g, hg⟩ : ∃ g, g = M - Y := ⟨_, rfl⟩
  have g1 : -(Y / 8800000000000000) ≤ g := by grind
  have g2 : g ≤ Y / 8800000000000000 := by grind
  have z1 := mul_le (A := Y) (C := Y / 8800000000000000) (show -Y ≤ Y by grind) (show Y ≤ Y by grind) g1 g2
  have z2 := mul_le g1 g2 g1 g2
  have hM : M * M = Y * Y + 2 * (Y * g) + g * g := by
    have : M = Y + g := by grind
    rw [this]; grind
  have M0 : 0 < M := by grind
  have M1 : M * M - S ≤ S / 3400000000000000 := by rw [hM]; grind
  have M2 : -(S / 3400000000000000) ≤ M * M - S := by rw [hM]; grind
  have sA := sq_nonneg A
  have sB := sq_nonneg B
  have AM : A ≤ 2 * M := by
    rcases Rat.le_total (a := A) (b := 2 * M) with h | h
    · exact h
    · have := Rat.mul_nonneg (show 0 ≤ A - 2 * M by grind) (show 0 ≤ A + 2 * M by grind); grind
  have BM : B ≤ 2 * M := by
    rcases Rat.le_total (a := B) (b := 2 * M) with h | h
    · exact h
    · have := Rat.mul_nonneg (show 0 ≤ B - 2 * M by grind) (show 0 ≤ B + 2 * M by grind); grind
  have n1 := Rat.mul_nonneg (Rat.le_of_lt M0) (show 0 ≤ 1 / 1152921504606846976 - eta by grind)
  obtain ⟨f, hf⟩ : ∃ f, f = P * M - A := ⟨_, rfl⟩
  obtain ⟨h, hh⟩ : ∃ h, h = Q * M - B := ⟨_, rfl⟩
  have f1 : -(A / 4503599627370496 + M / 1152921504606846976) ≤ f := by grind
  have f2 : f ≤ A / 4503599627370496 + M / 1152921504606846976 := by grind
  have h1 : -(B / 4503599627370496 + M / 1152921504606846976) ≤ h := by grind
  have h2 : h ≤ B / 4503599627370496 + M / 1152921504606846976 := by grind
  have k1 := mul_le (A := A) (show -A ≤ A by grind) (show A ≤ A by grind) f1 f2
  have k2 := mul_le (A := B) (show -B ≤ B by grind) (show B ≤ B by grind) h1 h2
  have k3 := mul_le (A := M / 1000000000000000) (C := M / 1000000000000000) (x := f) (y := f) (by grind) (by grind) (by grind) (by grind)
  have k4 := mul_le (A := M / 1000000000000000) (C := M / 1000000000000000) (x := h) (y := h) (by grind) (by grind) (by grind) (by grind)
  have a1 := Rat.mul_nonneg A0 (show 0 ≤ 2 * M - A by grind)
  have a2 := Rat.mul_nonneg B0 (show 0 ≤ 2 * M - B by grind)
  have a3 := Rat.mul_nonneg (Rat.le_of_lt M0) (show 0 ≤ 2 * M - A by grind)
  have a4 := Rat.mul_nonneg (Rat.le_of_lt M0) (show 0 ≤ 2 * M - B by grind)
  have e : (P * P + Q * Q - 1) * (M * M) = A * A + B * B - M * M + 2 * (A * f) + 2 * (B * h) + f * f + h * h := by
    have w1 : P * M = A + f := by grind
    have w2 : Q * M = B + h := by grind
    have w3 : (P * P + Q * Q - 1) * (M * M) = (P * M) * (P * M) + (Q * M) * (Q * M) - M * M := by grind
    rw [w3, w1, w2]; grind
  have MM : 0 < M * M := Rat.mul_pos M0 M0
  have r1 : (P * P + Q * Q - 1) * (M * M) ≤ 1 / 900000000000000 * (M * M) := by rw [e]; grind
  have r2 : -(P * P + Q * Q - 1) * (M * M) ≤ 1 / 900000000000000 * (M * M) := by
    have : -(P * P + Q * Q - 1) * (M * M) = -((P * P + Q * Q - 1) * (M * M)) := by grind
    rw [this, e]; grind
  have c1 := cancel_le MM r1
  have c2 := cancel_le MM r2
  constructor <;> grind
theorem max_le : rv 9218868437227405311 ≤ big * 1361129467683753853853498429727072845824 := by
  have hu := uu_pos
  have m := rv_mul_uu 9218868437227405311
  rw [sval_sgn, show sgnOf 9218868437227405311 = false by decide] at m
  simp only [Bool.false_eq_true, if_false, Rat.intCast_natCast] at m
  have h : magOf (rungOf 9218868437227405311) ≤ magOf bigR * 1361129467683753853853498429727072845824 := by decide +kernel
  have h2 := Rat.natCast_le_natCast.2 h
  rw [Rat.natCast_mul, m] at h2
  have h3 : ((1361129467683753853853498429727072845824 : Nat) : Rat) = 1361129467683753853853498429727072845824 := rfl
  rw [h3] at h2
  have e : big * uu = (magOf bigR : Rat) := by unfold big; grind
  rw [← e] at h2
  exact cancel_le hu (by grind)
theorem fsqrt_nan {s : Nat} (h : nanb s = true) : fsqrt s = Go.Sim.qnan := by
  unfold fsqrt Ieee.Format.sqrt
  obtain ⟨g, f, e⟩ := read_of_nanb h; rw [e]; rfl
theorem flt_nan_r {a b : Nat} (h : nanb b = true) : flt a b = false := by
  unfold flt Ieee.Format.order
  obtain ⟨g, f, e⟩ := read_of_nanb h
  rw [e]
  cases Ieee.double.read a <;> rfl
theorem bad_root {s : Nat} (hl : s < 18446744073709551616) (h : fin s = false) : s_num_Finite_float64__0 (fsqrt s) = false ∧ (flt 0 s && fle s 9218868437227405311) = false := by
  cases hn : nanb s
  · rcases inf_or hn with g | g
    · rw [g] at h; cases h
    · have : s = 9218868437227405312 ∨ s = 18442240474082181120 := by unfold rungOf at g; omega
      rcases this with e | e <;> rw [e] <;> constructor <;> decide +kernel
  · rw [fsqrt_nan hn, flt_nan_r hn]
    constructor
    · decide +kernel
    · rfl
theorem square_sign {x y : Nat} (fs : fin (s_vec_Square_0 x y) = true) : sgnOf (s_vec_Square_0 x y) = false := by
  have e : s_vec_Square_0 x y = fadd (fmul x x) (fmul y y) := rfl
  rw [e] at fs ⊢
  obtain ⟨f1, f2⟩ := fin_add fs
  have fx := (fin_mul f1).1
  have fy := (fin_mul f2).1
  have sg : ∀ z : Nat, fin z = true → sgnOf (fmul z z) = false := by
    intro z fz
    have hz : (sgnOf z ^^ sgnOf z) = false := by cases sgnOf z <;> rfl
    rw [fmul_fin fz fz, hz]; exact sgn_word _ (RN_le _ _)
  have s1 := sg x fx
  have s2 := sg y fy
  have v1 : 0 ≤ sval (fmul x x) := by rw [sval_sgn, s1]; simp
  have v2 : 0 ≤ sval (fmul y y) := by rw [sval_sgn, s2]; simp
  rw [fadd_fin f1 f2, sgn_word _ (RN_le _ _), s1, s2]
  split
  · rfl
  · simp; omega
theorem rv_ge {s : Nat} (hs : sgnOf s = false) (hz : rungOf s ≠ 0) : 2 * eta ≤ rv s := by
  have hu := uu_pos
  have m := rv_mul_uu s
  rw [sval_sgn, hs] at m
  simp only [Bool.false_eq_true, if_false, Rat.intCast_natCast] at m
  have h1 : 1 ≤ magOf (rungOf s) := magOf_pos.2 (Nat.pos_of_ne_zero hz)
  have h2 := Rat.natCast_le_natCast.2 h1
  have h3 : ((1 : Nat) : Rat) = 1 := rfl
  rw [h3, m] at h2
  have e : eta * (2 * uu) = 1 := by unfold eta; grind
  exact cancel_le hu (by grind)
/-- What is known of the length of a way whose square is a number and not nought. -/
theorem long_facts {x y : Nat} (fs : fin (s_vec_Square_0 x y) = true) (hz : rungOf (s_vec_Square_0 x y) ≠ 0) :
    fin x = true ∧ fin y = true ∧ fin (fsqrt (s_vec_Square_0 x y)) = true ∧ sgnOf (fsqrt (s_vec_Square_0 x y)) = false ∧ 0 < rv (fabs (fsqrt (s_vec_Square_0 x y))) ∧
    rv (fabs x) ≤ 2 * rv (fabs (fsqrt (s_vec_Square_0 x y))) ∧ rv (fabs y) ≤ 2 * rv (fabs (fsqrt (s_vec_Square_0 x y))) ∧ 2 * eta ≤ rv (s_vec_Square_0 x y) ∧ fle (s_vec_Square_0 x y) 9218868437227405311 = true ∧
    -((rv (s_vec_Square_0 x y) + eta * 9007199254740992) / 4503000000000000) ≤ rv (s_vec_Square_0 x y) - (rv (fabs x) * rv (fabs x) + rv (fabs y) * rv (fabs y)) ∧ rv (s_vec_Square_0 x y) - (rv (fabs x) * rv (fabs x) + rv (fabs y) * rv (fabs y)) ≤ (rv (s_vec_Square_0 x y) + eta * 9007199254740992) / 4503000000000000 ∧
    ∃ Y : Rat, 0 ≤ Y ∧ -(rv (s_vec_Square_0 x y) / 18014398509481984) ≤ Y * Y - rv (s_vec_Square_0 x y) ∧ Y * Y - rv (s_vec_Square_0 x y) ≤ rv (s_vec_Square_0 x y) / 18014398509481984 ∧
      -(Y / 9007199254740992 + eta) ≤ rv (fabs (fsqrt (s_vec_Square_0 x y))) - Y ∧ rv (fabs (fsqrt (s_vec_Square_0 x y))) - Y ≤ Y / 9007199254740992 + eta := by
  have sg := square_sign fs
  have e : s_vec_Square_0 x y = fadd (fmul x x) (fmul y y) := rfl
  have fs' := fs
  rw [e] at fs'
  obtain ⟨g1, g2⟩ := fin_add fs'
  have fx := (fin_mul g1).1
  have fy := (fin_mul g2).1
  have e0 := eta_pos
  have es := eta_small
  have bg := big_200
  have qx := sq_nonneg (rv x)
  have qy := sq_nonneg (rv y)
  obtain ⟨a1, a2⟩ := rv_mul' (B := rv x * rv x) fx fx g1 (by grind) (by grind)
  obtain ⟨b1, b2⟩ := rv_mul' (B := rv y * rv y) fy fy g2 (by grind) (by grind)
  obtain ⟨c1, c2⟩ := rv_add' (B := (rv x * rv x + rv y * rv y) * (9007199254740993 / 9007199254740992) + 2 * eta) g1 g2 fs' (by grind) (by grind)
  rw [← e] at c1 c2
  have S2 := rv_ge sg hz
  have hmax : fle (s_vec_Square_0 x y) 9218868437227405311 = true := by
    rw [fle_key (fin_not_nan fs) (by decide), decide_eq_true_eq]
    have k1 : key 9218868437227405311 = 9218868437227405311 := by decide
    have hr := fin_iff.1 fs
    have k2 : key (s_vec_Square_0 x y) = (rungOf (s_vec_Square_0 x y) : Int) := by unfold key; rw [sg]; simp
    rw [k1, k2]; omega
  have Smax : rv (s_vec_Square_0 x y) ≤ big * 1361129467683753853853498429727072845824 := by
    have := hmax
    rw [rv_le fs (by decide), decide_eq_true_eq] at this
    have := max_le
    grind
  rw [abs_sq fx] at a1 a2 c1 c2 qx
  rw [abs_sq fy] at b1 b2 c1 c2 qy
  obtain ⟨_, p1, _, _⟩ := rv_abs fs
  have eS := p1 (by grind)
  have hbb : rv (s_vec_Square_0 x y) * 2 ≤ big * big := by
    have := Rat.mul_nonneg (show 0 ≤ big - 1361129467683753853853498429727072845824 * 2 by grind) (show 0 ≤ big by grind)
    grind
  obtain ⟨Y, Y0, y1, y2, fL, sL, l1, l2⟩ := rv_sqrt' fs sg (by rw [eS]; grind) (by rw [eS]; exact hbb) (by grind)
  rw [eS] at y1 y2
  have A0 := (abs_cases fx).2.1
  have B0 := (abs_cases fy).2.1
  have d1 : -((rv (s_vec_Square_0 x y) + eta * 9007199254740992) / 4503000000000000) ≤ rv (s_vec_Square_0 x y) - (rv (fabs x) * rv (fabs x) + rv (fabs y) * rv (fabs y)) := by
    generalize rv (fmul x x) = t1 at *
    generalize rv (fmul y y) = t2 at *
    grind
  have d2 : rv (s_vec_Square_0 x y) - (rv (fabs x) * rv (fabs x) + rv (fabs y) * rv (fabs y)) ≤ (rv (s_vec_Square_0 x y) + eta * 9007199254740992) / 4503000000000000 := by
    generalize rv (fmul x x) = t1 at *
    generalize rv (fmul y y) = t2 at *
    grind
  clear a1 a2 b1 b2 c1 c2
  generalize rv (s_vec_Square_0 x y) = S at *
  generalize rv (fabs (fsqrt (s_vec_Square_0 x y))) = M at *
  generalize rv (fabs x) = A at *
  generalize rv (fabs y) = B at *
  have Ye : 1000 * eta ≤ Y := by
    rcases Rat.le_total (a := 1000 * eta) (b := Y) with h | h
    · exact h
    · have m1 := Rat.mul_nonneg (show 0 ≤ 1000 * eta - Y by grind) (show 0 ≤ 1000 * eta + Y by grind)
      have m2 := Rat.mul_nonneg (show 0 ≤ eta by grind) (show 0 ≤ 1 / 1152921504606846976 - eta by grind)
      grind
  have M1 : 99 / 100 * Y ≤ M := by grind
  have M0 : 0 < M := by grind
  have mm := Rat.mul_nonneg (show 0 ≤ M - 99 / 100 * Y by grind) (show 0 ≤ M + 99 / 100 * Y by grind)
  have sA : ∀ t : Rat, 0 ≤ t → t * t ≤ 4 * (M * M) → t ≤ 2 * M := by
    intro t h0 ht
    rcases Rat.le_total (a := t) (b := 2 * M) with h | h
    · exact h
    · rcases Rat.le_total (a := t) (b := 2 * M) with h' | h'
      · exact h'
      · have k := Rat.mul_nonneg (show 0 ≤ t - 2 * M by grind) (show 0 ≤ t + 2 * M by grind)
        have kk := cancel_le (x := t) (y := 2 * M) (u := t + 2 * M) (by grind) (by grind)
        exact kk
  have hAB : A * A + B * B ≤ 37 / 10 * S := by grind
  refine ⟨fx, fy, fL, sL, M0, sA A A0 (by grind), sA B B0 (by grind), S2, hmax, d1, d2, Y, Y0, y1, y2, l1, l2⟩
theorem lit900 : rv 553942754166571008 = 47890485652059026823698344598447161988085597568237568 * eta := by
  have hu := uu_pos
  have m := rv_mul_uu 553942754166571008
  rw [sval_sgn, show sgnOf 553942754166571008 = false by decide] at m
  simp only [Bool.false_eq_true, if_false, Rat.intCast_natCast] at m
  have h1 : magOf (rungOf 553942754166571008) = 23945242826029513411849172299223580994042798784118784 := by decide +kernel
  rw [h1] at m
  have h3 : ((23945242826029513411849172299223580994042798784118784 : Nat) : Rat) = 23945242826029513411849172299223580994042798784118784 := rfl
  rw [h3] at m
  have e : eta * (2 * uu) = 1 := by unfold eta; grind
  have w : rv 553942754166571008 * uu = (47890485652059026823698344598447161988085597568237568 * eta) * uu := by grind
  have c1 := cancel_le hu (show rv 553942754166571008 * uu ≤ (47890485652059026823698344598447161988085597568237568 * eta) * uu by grind)
  have c2 := cancel_le hu (show (47890485652059026823698344598447161988085597568237568 * eta) * uu ≤ rv 553942754166571008 * uu by grind)
  grind
theorem rv_m48 : rv 4607182418800017376 = ((281474976710655 : Nat) : Rat) / ((281474976710656 : Nat) : Rat) := rv_lit (by decide) (by decide) (by intro d hd; subst hd; decide +kernel)
theorem rv_p48 : rv 4607182418800017424 = ((281474976710657 : Nat) : Rat) / ((281474976710656 : Nat) : Rat) := rv_lit (by decide) (by decide) (by intro d hd; subst hd; decide +kernel)
theorem sign_keep {x L : Nat} (fx : fin x = true) (fL : fin L = true) (m0 : magOf (rungOf L) ≠ 0) (fq : fin (fdiv x L) = true) (sq : sgnOf (fdiv x L) = sgnOf x) :
    (flt 0 (fdiv x L) && fle x 0) = false ∧ (flt (fdiv x L) 0 && fle 0 x) = false := by
  have nq := fin_not_nan fq
  have nx := fin_not_nan fx
  have z0 : sval 0 = 0 := by decide
  rw [flt_val nanb_zero nq, flt_val nq nanb_zero, fle_val nx nanb_zero, fle_val nanb_zero nx, z0]
  have hz : sval x = 0 → sval (fdiv x L) = 0 := by
    intro h
    have hm : magOf (rungOf x) = 0 := by rw [sval_sgn] at h; split at h <;> omega
    rw [fdiv_zero fx fL hm m0]
    exact (V.word0 _).2
  have sx := sval_sgn x
  have sd := sval_sgn (fdiv x L)
  rw [sq] at sd
  cases hs : sgnOf x
  · rw [hs] at sx sd
    simp only [Bool.false_eq_true, if_false] at sx sd
    constructor
    · cases h : decide (sval x ≤ 0)
      · simp
      · have h := of_decide_eq_true h
        have := hz (by omega)
        simp; omega
    · simp; omega
  · rw [hs] at sx sd
    simp only [if_true] at sx sd
    constructor
    · simp; omega
    · cases h : decide (0 ≤ sval x)
      · simp
      · have h := of_decide_eq_true h
        have := hz (by omega)
        simp; omega
theorem is_of' {a b c d : Nat} (h : a = c) (k : b = d) : s_law02_is_0 a b c d = true := by
  rw [h, k]
  unfold s_law02_is_0 s_ref02_Same_0 s_ref02_Is_0 ieq
  simp
theorem finite_of {x : Nat} (cx : CF x) (fx : fin x = true) : s_num_Finite_float64__0 x = true := by
  unfold s_num_Finite_float64__0
  exact V.feq_of (V.sub cx.lt (V.self fx) (V.self fx) V.zero (by omega)) V.zero
theorem law_VecLong (x y : Nat) (cx : CF x) (cy : CF y) : T_law02_VecLong x y = true := by
  have eL : s_vec_Length_0 x y = fsqrt (s_vec_Square_0 x y) := rfl
  have eN : s_vec_Length_0 (fneg x) (fneg y) = fsqrt (s_vec_Square_0 x y) := by rw [len_neg cx cy, eL]
  have eF : s_vec_Length_0 (fneg y) x = fsqrt (s_vec_Square_0 x y) := by rw [len_left cy, eL]
  have ls : s_vec_Square_0 x y < 18446744073709551616 := (CF.add _ _).lt
  unfold T_law02_VecLong s_vec_Unit_0 s_vec_Unit_1 s_vec_Unit_2
  simp only [s_vec_Left_0, s_vec_Left_1, s_vec_Neg_0, s_vec_Neg_1, eL, eN, eF]
  cases fs : fin (s_vec_Square_0 x y)
  · obtain ⟨h1, h2⟩ := bad_root ls fs
    rw [h1, h2]
    have h0 : feq 0 0 = true := by decide +kernel
    simp [h0]
  cases hz : decide (rungOf (s_vec_Square_0 x y) = 0)
  rotate_left
  · have hz := of_decide_eq_true hz
    have sg := square_sign fs
    have e : s_vec_Square_0 x y = 0 := by
      have := word_split ls
      rw [sg] at this
      simpa [hz] using this
    rw [e]
    have h0 : feq 0 0 = true := by decide +kernel
    have h1 : fsqrt 0 = 0 := by decide +kernel
    have h2 : flt 0 0 = false := by decide +kernel
    have h3 : s_num_Finite_float64__0 0 = true := by decide +kernel
    simp [h0, h1, h2, h3]
  have hz := of_decide_eq_false hz
  obtain ⟨fx, fy, fL, sL, M0, xA, yA, S2, hmax, d1, d2, Y, Y0, y1, y2, l1, l2⟩ := long_facts fs hz
  have cL := CF.sqrt (s_vec_Square_0 x y)
  have bg := big_200
  have e0 := eta_pos
  have es := eta_small
  obtain ⟨fp, p1, p2, sp⟩ := rv_div (C := 2) fx fL (by grind) (by grind) (by grind) xA
  obtain ⟨fq, q1, q2, sq⟩ := rv_div (C := 2) fy fL (by grind) (by grind) (by grind) yA
  rw [sL] at sp sq
  have sp' : sgnOf (fdiv x (fsqrt (s_vec_Square_0 x y))) = sgnOf x := by rw [sp]; cases sgnOf x <;> rfl
  have sq' : sgnOf (fdiv y (fsqrt (s_vec_Square_0 x y))) = sgnOf y := by rw [sq]; cases sgnOf y <;> rfl
  have m0 : magOf (rungOf (fsqrt (s_vec_Square_0 x y))) ≠ 0 := by
    intro h
    have := rv_abs_mag fL
    rw [h] at this
    have h3 : ((0 : Nat) : Rat) = 0 := rfl
    rw [h3] at this
    have hu := uu_pos
    have := Rat.mul_pos M0 hu
    grind
  obtain ⟨k1, k2⟩ := sign_keep fx fL m0 fp sp'
  obtain ⟨k3, k4⟩ := sign_keep fy fL m0 fq sq'
  have g1 : s_num_Finite_float64__0 (fsqrt (s_vec_Square_0 x y)) = true := finite_of cL fL
  have g2 : feq (fsqrt (s_vec_Square_0 x y)) 0 = false := by
    rw [feq_val (fin_not_nan fL) nanb_zero, show sval 0 = 0 by decide, decide_eq_false_iff_not, sval_sgn, sL]
    simp only [Bool.false_eq_true, if_false]
    omega
  have g3 : flt 0 (s_vec_Square_0 x y) = true := by
    rw [flt_rv (by decide) fs]
    have : rv 0 = 0 := by unfold rv; rw [show sval 0 = 0 by decide]; grind
    rw [this, Bool.not_eq_true', decide_eq_false_iff_not]
    grind
  have n1 : fdiv (fneg x) (fsqrt (s_vec_Square_0 x y)) = fneg (fdiv x (fsqrt (s_vec_Square_0 x y))) := fdiv_neg_l cx.lt
  have n2 : fdiv (fneg y) (fsqrt (s_vec_Square_0 x y)) = fneg (fdiv y (fsqrt (s_vec_Square_0 x y))) := fdiv_neg_l cy.lt
  simp only [g1, g2, g3, hmax, n1, n2, Bool.not_true, Bool.false_or, cond_false, Bool.and_self, beq_self_eq_true, Bool.or_self, is_of' rfl rfl, k1, k2, k3, k4]
  cases hs : flt (s_vec_Square_0 x y) 553942754166571008
  rotate_left
  · rfl
  rw [flt_rv fs (by decide), Bool.not_eq_false', decide_eq_true_eq, lit900] at hs
  have A0 := (abs_cases fx).2.1
  have B0 := (abs_cases fy).2.1
  have P0 := (abs_cases fp).2.1
  have Q0 := (abs_cases fq).2.1
  have core : -(1 / 900000000000000) ≤ rv (fabs (fdiv x (fsqrt (s_vec_Square_0 x y)))) * rv (fabs (fdiv x (fsqrt (s_vec_Square_0 x y)))) + rv (fabs (fdiv y (fsqrt (s_vec_Square_0 x y)))) * rv (fabs (fdiv y (fsqrt (s_vec_Square_0 x y)))) - 1 ∧ rv (fabs (fdiv x (fsqrt (s_vec_Square_0 x y)))) * rv (fabs (fdiv x (fsqrt (s_vec_Square_0 x y)))) + rv (fabs (fdiv y (fsqrt (s_vec_Square_0 x y)))) * rv (fabs (fdiv y (fsqrt (s_vec_Square_0 x y)))) - 1 ≤ 1 / 900000000000000 := by
    refine near_core (E := 0) (S := rv (s_vec_Square_0 x y)) (Y := Y) A0 B0 ?_ Y0 P0 Q0 e0 es ?_ ?_ ?_ y1 y2 l1 l2 p1 p2 q1 q2
    · grind
    · grind
    · grind
    · grind
  rw [← abs_sq fp, ← abs_sq fq] at core
  obtain ⟨fr, r1, r2⟩ := square_near (X := 1001 / 1000) fp fq (by grind) (by grind) (by grind)
  have c1 : ((281474976710655 : Nat) : Rat) = 281474976710655 := rfl
  have c2 : ((281474976710656 : Nat) : Rat) = 281474976710656 := rfl
  have c3 : ((281474976710657 : Nat) : Rat) = 281474976710657 := rfl
  show (false || (fle 4607182418800017376 (fadd (fmul (fdiv x (fsqrt (s_vec_Square_0 x y))) (fdiv x (fsqrt (s_vec_Square_0 x y)))) (fmul (fdiv y (fsqrt (s_vec_Square_0 x y))) (fdiv y (fsqrt (s_vec_Square_0 x y))))) &&
    fle (fadd (fmul (fdiv x (fsqrt (s_vec_Square_0 x y))) (fdiv x (fsqrt (s_vec_Square_0 x y)))) (fmul (fdiv y (fsqrt (s_vec_Square_0 x y))) (fdiv y (fsqrt (s_vec_Square_0 x y))))) 4607182418800017424)) = true
  rw [rv_le (by decide) fr, rv_le fr (by decide), rv_m48, rv_p48, c1, c2, c3, Bool.false_or, Bool.and_eq_true, decide_eq_true_eq, decide_eq_true_eq]
  constructor <;> grind
end Go.Proofs.Ytjikamcdcjaibaa
