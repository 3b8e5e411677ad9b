/- TurnBack: what is turned is turned back. -/
import Derived.Test.YthaalobnckdjoaaFns
import Derived.Test.YthaalobnckdjoaaSimErr
set_option linter.unusedVariables false
set_option linter.unusedSimpArgs false
namespace Go.Proofs.Ythaalobnckdjoaa
open Go.Sim
theorem eta_le {a : Nat} (hs : sgnOf a = false) (h : 576460752303423488 ≤ magOf (rungOf a)) : eta ≤ rv a / 1152921504606846976 := by
  have hu := uu_pos
  have e : eta * (2 * uu) = 1 := by unfold eta; grind
  have m := rv_mul_uu a
  rw [sval_sgn, hs] at m
  simp only [Bool.false_eq_true, if_false, Rat.intCast_natCast] at m
  have h2 : ((576460752303423488 : Nat) : Rat) ≤ (magOf (rungOf a) : Rat) := Rat.natCast_le_natCast.2 h
  have h3 : ((576460752303423488 : Nat) : Rat) = 576460752303423488 := rfl
  rw [m, h3] at h2
  clear h m h3
  have hu2 : 0 < 2 * uu := by grind
  exact cancel_le hu2 (by grind)
theorem lit_big {a : Nat} (hs : sgnOf a = false) (h : magOf (rungOf a) * 1024 ≤ magOf bigR) : rv a * 1024 ≤ big := by
  have hu := uu_pos
  have m := rv_mul_uu a
  rw [sval_sgn, hs] at m
  simp only [Bool.false_eq_true, if_false, Rat.intCast_natCast] at m
  have h2 : ((magOf (rungOf a) * 1024 : Nat) : Rat) ≤ (magOf bigR : Rat) := Rat.natCast_le_natCast.2 h
  rw [Rat.natCast_mul, m] at h2
  have h3 : ((1024 : Nat) : Rat) = 1024 := rfl
  rw [h3] at h2
  have e : big * uu = (magOf bigR : Rat) := by unfold big; grind
  clear h m h3
  exact cancel_le hu (by grind)
theorem rv_lo : rv 4607182418800009216 = ((1099511627775 : Nat) : Rat) / ((1099511627776 : Nat) : Rat) := rv_lit (by decide) (by decide) (by intro d hd; subst hd; decide +kernel)
theorem rv_hi : rv 4607182418800021504 = ((1099511627777 : Nat) : Rat) / ((1099511627776 : Nat) : Rat) := rv_lit (by decide) (by decide) (by intro d hd; subst hd; decide +kernel)
theorem rv_38 : rv 4436045632959938560 = ((1 : Nat) : Rat) / ((274877906944 : Nat) : Rat) := rv_lit (by decide) (by decide) (by intro d hd; subst hd; decide +kernel)
theorem rv_one : rv 4607182418800017408 = ((1 : Nat) : Rat) / ((1 : Nat) : Rat) := rv_lit (by decide) (by decide) (by intro d hd; subst hd; decide +kernel)
theorem big_ge : (1024 : Rat) ≤ big := by
  have := lit_big (a := 4607182418800017408) (by decide) (by decide +kernel)
  rw [rv_one] at this
  have e : ((1 : Nat) : Rat) = 1 := rfl
  rw [e] at this; grind
theorem eta_small : eta ≤ 1 / 1152921504606846976 := by
  have := eta_le (a := 4607182418800017408) (by decide) (by decide +kernel)
  rw [rv_one] at this
  have e : ((1 : Nat) : Rat) = 1 := rfl
  rw [e] at this; grind
/-- What the check of a turn says of its parts. -/
theorem check_parts {r i : Nat} (hc : ieq (s_turn_Check_0 r i) 0 = true) : fin r = true ∧ fin i = true ∧ -(11 / 10) ≤ rv r ∧ rv r ≤ 11 / 10 ∧ -(11 / 10) ≤ rv i ∧ rv i ≤ 11 / 10 ∧
    rv r * rv r + rv i * rv i - 1 ≤ 1 / 549755813888 ∧ -(1 / 549755813888) ≤ rv r * rv r + rv i * rv i - 1 := by
  unfold s_turn_Check_0 at hc
  have hb : (fle 4607182418800009216 (s_turn_square_0 r i) && fle (s_turn_square_0 r i) 4607182418800021504) = true := by
    cases h : (fle 4607182418800009216 (s_turn_square_0 r i) && fle (s_turn_square_0 r i) 4607182418800021504)
    · rw [h] at hc; exact absurd hc (by decide)
    · rfl
  simp only [Bool.and_eq_true] at hb
  obtain ⟨h1, h2⟩ := hb
  have fS : fin (s_turn_square_0 r i) = true := fin_between h1 h2 (by decide) (by decide)
  rw [rv_le (by decide) fS, rv_lo] at h1
  rw [rv_le fS (by decide), rv_hi] at h2
  simp only [decide_eq_true_eq] at h1 h2
  have c1 : ((1099511627775 : Nat) : Rat) = 1099511627775 := rfl
  have c2 : ((1099511627776 : Nat) : Rat) = 1099511627776 := rfl
  have c3 : ((1099511627777 : Nat) : Rat) = 1099511627777 := rfl
  rw [c1, c2] at h1
  rw [c3, c2] at h2
  unfold s_turn_square_0 at fS h1 h2
  obtain ⟨f1, f2⟩ := fin_add fS
  obtain ⟨fr, _⟩ := fin_mul f1
  obtain ⟨fi, _⟩ := fin_mul f2
  have q1 : 0 ≤ rv r * rv r := by
    rcases Rat.le_total (a := 0) (b := rv r) with h | h
    · exact Rat.mul_nonneg h h
    · have := Rat.mul_nonneg (show 0 ≤ -rv r by grind) (show 0 ≤ -rv r by grind); grind
  have q2 : 0 ≤ rv i * rv i := by
    rcases Rat.le_total (a := 0) (b := rv i) with h | h
    · exact Rat.mul_nonneg h h
    · have := Rat.mul_nonneg (show 0 ≤ -rv i by grind) (show 0 ≤ -rv i by grind); grind
  have m1 := rv_mul' (B := rv r * rv r) fr fr f1 (by grind) (by grind)
  have m2 := rv_mul' (B := rv i * rv i) fi fi f2 (by grind) (by grind)
  have et := eta_small
  have e0 := eta_pos
  have ad := rv_add' (B := rv r * rv r * 2 + rv i * rv i * 2 + 1) f1 f2 fS (by grind) (by grind)
  generalize rv (fadd (fmul r r) (fmul i i)) = S at *
  generalize rv (fmul r r) = P at *
  generalize rv (fmul i i) = Q at *
  have b1 : rv r * rv r + rv i * rv i ≤ 11 / 10 := by grind
  have sq : ∀ x : Rat, x * x ≤ 11 / 10 → -(11 / 10) ≤ x ∧ x ≤ 11 / 10 := by
    intro x hx
    constructor
    · rcases Rat.le_total (a := -(11 / 10)) (b := x) with h | h
      · exact h
      · have := Rat.mul_nonneg (show 0 ≤ -(11 / 10) - x by grind) (show 0 ≤ 11 / 10 - x by grind); grind
    · rcases Rat.le_total (a := x) (b := 11 / 10) with h | h
      · exact h
      · have := Rat.mul_nonneg (show 0 ≤ x - 11 / 10 by grind) (show 0 ≤ x + 11 / 10 by grind); grind
  obtain ⟨r1, r2⟩ := sq (rv r) (by grind)
  obtain ⟨i1, i2⟩ := sq (rv i) (by grind)
  refine ⟨fr, fi, r1, r2, i1, i2, ?_, ?_⟩ <;> grind
theorem feq0 {a : Nat} (fa : fin a = true) (h : feq a 0 = true) : rv a = 0 := by
  rw [feq_val (fin_not_nan fa) (by decide)] at h
  simp only [decide_eq_true_eq] at h
  have : sval 0 = 0 := by decide
  unfold rv; rw [h, this]; grind
/-- A part that is nought, or neither too great nor too small. -/
theorem small_parts {x : Nat} (cx : CF x) (h : s_law03_small_0 x = true) : fin x = true ∧ rv (fabs x) * 1024 ≤ big ∧ (rv (fabs x) = 0 ∨ eta ≤ rv (fabs x) / 1152921504606846976) ∧ -rv (fabs x) ≤ rv x ∧ rv x ≤ rv (fabs x) ∧ 0 ≤ rv (fabs x) ∧ fin (fabs x) = true := by
  unfold s_law03_small_0 at h
  have hb := big_ge
  have ff : fin x = true := by
    have hq : fin (fabs x) = true := by
      cases h1 : feq (fabs x) 0
      · rw [h1] at h
        simp only [Bool.false_or, Bool.and_eq_true] at h
        exact fin_between h.1 h.2 (by decide) (by decide)
      · cases hn : nanb (fabs x)
        · have hl : fabs x < 18446744073709551616 := (CF.fabs cx).lt
          rcases (feq_zero hl hn).1 h1 with e | e <;> rw [e] <;> decide
        · rw [feq_nan (.inl hn)] at h1; cases h1
    have hn : nanb x = false := by have := fin_not_nan hq; rwa [nanb_fabs] at this
    have e := fabs_of hn
    rw [e, fin_iff] at hq
    have r2 : rungOf (rungOf x) = rungOf x := by unfold rungOf; omega
    rw [r2] at hq
    exact fin_iff.2 hq
  obtain ⟨fa, p1, p2, p3⟩ := rv_abs ff
  have hab : -rv (fabs x) ≤ rv x ∧ rv x ≤ rv (fabs x) := by
    rcases Rat.le_total (a := 0) (b := rv x) with h | h
    · have := p1 h; grind
    · have := p2 h; grind
  refine ⟨ff, ?_, ?_, hab.1, hab.2, p3, fa⟩
  · cases h1 : feq (fabs x) 0
    · rw [h1] at h
      simp only [Bool.false_or, Bool.and_eq_true] at h
      have h2 := h.2
      rw [rv_le fa (by decide)] at h2
      simp only [decide_eq_true_eq] at h2
      have := lit_big (a := 5958262307011166208) (by decide) (by decide +kernel)
      grind
    · rw [feq0 fa h1]; grind
  · cases h1 : feq (fabs x) 0
    · right
      rw [h1] at h
      simp only [Bool.false_or, Bool.and_eq_true] at h
      have h2 := h.1
      rw [rv_le (by decide) fa] at h2
      simp only [decide_eq_true_eq] at h2
      have := eta_le (a := 3256102530588868608) (by decide) (by decide +kernel)
      grind
    · exact .inl (feq0 fa h1)
/-- The bound against which the law holds differences. -/
theorem most_ge {x y : Nat} {W : Rat} (fx : fin (fabs x) = true) (fy : fin (fabs y) = true) (hW : W = rv (fabs x) + rv (fabs y)) (h0 : 0 ≤ W) (hb : W * 512 ≤ big) (he : W = 0 ∨ eta ≤ W / 1152921504606846976) :
    fin (fmul 4436045632959938560 (fadd (fabs x) (fabs y))) = true ∧ W / 274877906944 - W / 1125899906842624 ≤ rv (fmul 4436045632959938560 (fadd (fabs x) (fabs y))) := by
  have bg := big_ge
  obtain ⟨f1, a1, a2⟩ := rv_add (B := W) fx fy (by grind) (by grind) (by grind)
  have e38 := rv_38
  have c1 : ((1 : Nat) : Rat) = 1 := rfl
  have c2 : ((274877906944 : Nat) : Rat) = 274877906944 := rfl
  rw [c1, c2] at e38
  have fl : fin 4436045632959938560 = true := by decide
  have hp : rv 4436045632959938560 * rv (fadd (fabs x) (fabs y)) = rv (fadd (fabs x) (fabs y)) / 274877906944 := by rw [e38]; grind
  obtain ⟨f2, b1, b2⟩ := mul_w (B := W) (W := W) fl f1 (by grind) (by rw [hp]; grind) (by rw [hp]; grind) ⟨fun h => by rw [hp]; grind, fun h => by rcases he with h' | h' <;> grind⟩
  refine ⟨f2, ?_⟩
  rw [hp] at b1
  grind
theorem flt_rv {a b : Nat} (fa : fin a = true) (fb : fin b = true) : flt a b = !decide (rv b ≤ rv a) := by
  have := rv_le fb fa
  rw [flt_key (fin_not_nan fa) (fin_not_nan fb)]
  rw [fle_key (fin_not_nan fb) (fin_not_nan fa)] at this
  rw [← this]
  by_cases h : key b ≤ key a
  · have : ¬ key a < key b := by omega
    simp [h, this]
  · have : key a < key b := by omega
    simp [h, this]
/-- Two products made one sum. -/
theorem two_w {r i x y : Nat} {A C W : Rat} (fr : fin r = true) (fi : fin i = true) (fx : fin x = true) (fy : fin y = true) (r1 : -(11 / 10) ≤ rv r) (r2 : rv r ≤ 11 / 10) (i1 : -(11 / 10) ≤ rv i) (i2 : rv i ≤ 11 / 10)
    (x1 : -A ≤ rv x) (x2 : rv x ≤ A) (y1 : -C ≤ rv y) (y2 : rv y ≤ C) (hA : 0 ≤ A) (hC : 0 ≤ C) (hA2 : A ≤ 2 * W) (hC2 : C ≤ 2 * W) (hb : W * 512 ≤ big) (h0 : 0 ≤ W) (he : W = 0 ∨ eta ≤ W / 1152921504606846976) :
    (fin (fmul r x) = true ∧ fin (fmul i y) = true) ∧ (fin (fadd (fmul r x) (fmul i y)) = true ∧ -((A + C) / 2251799813685248 + W / 288230376151711744) ≤ rv (fadd (fmul r x) (fmul i y)) - (rv r * rv x + rv i * rv y) ∧ rv (fadd (fmul r x) (fmul i y)) - (rv r * rv x + rv i * rv y) ≤ (A + C) / 2251799813685248 + W / 288230376151711744) ∧
      (fin (fsub (fmul r x) (fmul i y)) = true ∧ -((A + C) / 2251799813685248 + W / 288230376151711744) ≤ rv (fsub (fmul r x) (fmul i y)) - (rv r * rv x - rv i * rv y) ∧ rv (fsub (fmul r x) (fmul i y)) - (rv r * rv x - rv i * rv y) ≤ (A + C) / 2251799813685248 + W / 288230376151711744) := by
  have p := mul_le r1 r2 x1 x2
  have q := mul_le i1 i2 y1 y2
  have z1 : W = 0 → rv r * rv x = 0 := by
    intro h
    have e : rv x = 0 := by grind
    rw [e]; grind
  have z2 : W = 0 → rv i * rv y = 0 := by
    intro h
    have e : rv y = 0 := by grind
    rw [e]; grind
  have z3 : W ≠ 0 → eta ≤ W / 1152921504606846976 := by
    intro h
    rcases he with h' | h'
    · exact absurd h' h
    · exact h'
  obtain ⟨f1, a1, a2⟩ := mul_w (B := 11 / 10 * A) (W := W) fr fx (by grind) p.1 p.2 ⟨z1, z3⟩
  obtain ⟨f2, b1, b2⟩ := mul_w (B := 11 / 10 * C) (W := W) fi fy (by grind) q.1 q.2 ⟨z2, z3⟩
  have l2 := (CF.mul i y).lt
  obtain ⟨g1, c1, c2⟩ := rv_add (B := 2 * (A + C) + W / 288230376151711744) f1 f2 (by grind) (by grind) (by grind)
  obtain ⟨g2, d1, d2⟩ := rv_sub (B := 2 * (A + C) + W / 288230376151711744) l2 f1 f2 (by grind) (by grind) (by grind)
  generalize rv (fadd (fmul r x) (fmul i y)) = s1 at *
  generalize rv (fsub (fmul r x) (fmul i y)) = s2 at *
  generalize rv (fmul r x) = t1 at *
  generalize rv (fmul i y) = t2 at *
  generalize rv r * rv x = u1 at *
  generalize rv i * rv y = u2 at *
  refine ⟨⟨f1, f2⟩, ⟨g1, ?_, ?_⟩, ⟨g2, ?_, ?_⟩⟩ <;> grind
theorem back_core {r i x y : Nat} (cr : CF r) (ci : CF i) (cx : CF x) (cy : CF y) (hc : ieq (s_turn_Check_0 r i) 0 = true) (hx : s_law03_small_0 x = true) (hy : s_law03_small_0 y = true) :
    flt (fmul 4436045632959938560 (fadd (fabs x) (fabs y))) (fabs (fsub (s_turn_Undo_0 r i (s_turn_Apply_0 r i x y) (s_turn_Apply_1 r i x y)) x)) = false ∧
    flt (fmul 4436045632959938560 (fadd (fabs x) (fabs y))) (fabs (fsub (s_turn_Undo_1 r i (s_turn_Apply_0 r i x y) (s_turn_Apply_1 r i x y)) y)) = false ∧
    fin (s_turn_Undo_0 r i (s_turn_Apply_0 r i x y) (s_turn_Apply_1 r i x y)) = true ∧ fin (s_turn_Undo_1 r i (s_turn_Apply_0 r i x y) (s_turn_Apply_1 r i x y)) = true := by
  obtain ⟨fr, fi, r1, r2, i1, i2, n1, n2⟩ := check_parts hc
  obtain ⟨fx, xb, xe, x1, x2, x0, fax⟩ := small_parts cx hx
  obtain ⟨fy, yb, ye, y1, y2, y0, fay⟩ := small_parts cy hy
  obtain ⟨W, hW⟩ : ∃ W, W = rv (fabs x) + rv (fabs y) := ⟨_, rfl⟩
  have h0 : 0 ≤ W := by grind
  have hb : W * 512 ≤ big := by grind
  have he : W = 0 ∨ eta ≤ W / 1152921504606846976 := by
    rcases xe with h | h
    · rcases ye with h' | h'
      · left; grind
      · right; grind
    · right; grind
  obtain ⟨fm, mg⟩ := most_ge fax fay hW h0 hb he
  obtain ⟨_, _, fP, P1, P2⟩ := two_w (A := rv (fabs x)) (C := rv (fabs y)) (W := W) fr fi fx fy r1 r2 i1 i2 x1 x2 y1 y2 x0 y0 (by grind) (by grind) hb h0 he
  obtain ⟨_, ⟨fQ, Q1, Q2⟩, _⟩ := two_w (A := rv (fabs x)) (C := rv (fabs y)) (W := W) fi fr fx fy i1 i2 r1 r2 x1 x2 y1 y2 x0 y0 (by grind) (by grind) hb h0 he
  have eP : s_turn_Apply_0 r i x y = fsub (fmul r x) (fmul i y) := rfl
  have eQ : s_turn_Apply_1 r i x y = fadd (fmul i x) (fmul r y) := rfl
  rw [eP, eQ]
  generalize fsub (fmul r x) (fmul i y) = p at *
  generalize fadd (fmul i x) (fmul r y) = q at *
  have pr := mul_le r1 r2 x1 x2
  have qi := mul_le i1 i2 y1 y2
  have pi := mul_le i1 i2 x1 x2
  have qr := mul_le r1 r2 y1 y2
  have bp1 : -(6 / 5 * W) ≤ rv p := by grind
  have bp2 : rv p ≤ 6 / 5 * W := by grind
  have bq1 : -(6 / 5 * W) ≤ rv q := by grind
  have bq2 : rv q ≤ 6 / 5 * W := by grind
  obtain ⟨_, ⟨fX, X1, X2⟩, _⟩ := two_w (A := 6 / 5 * W) (C := 6 / 5 * W) (W := W) fr fi fP fQ r1 r2 i1 i2 bp1 bp2 bq1 bq2 (by grind) (by grind) (by grind) (by grind) hb h0 he
  obtain ⟨_, _, fY, Y1, Y2⟩ := two_w (A := 6 / 5 * W) (C := 6 / 5 * W) (W := W) fr fi fQ fP r1 r2 i1 i2 bq1 bq2 bp1 bp2 (by grind) (by grind) (by grind) (by grind) hb h0 he
  have eX : s_turn_Undo_0 r i p q = fadd (fmul r p) (fmul i q) := rfl
  have eY : s_turn_Undo_1 r i p q = fsub (fmul r q) (fmul i p) := rfl
  rw [eX, eY]
  generalize fadd (fmul r p) (fmul i q) = X at *
  generalize fsub (fmul r q) (fmul i p) = Y at *
  -- what is lost on the way out, turned back
  obtain ⟨ep, hep⟩ : ∃ ep, ep = rv p - (rv r * rv x - rv i * rv y) := ⟨_, rfl⟩
  obtain ⟨eq, heq⟩ : ∃ eq, eq = rv q - (rv i * rv x + rv r * rv y) := ⟨_, rfl⟩
  rw [← hep] at P1 P2
  rw [← heq] at Q1 Q2
  obtain ⟨E, hE⟩ : ∃ E, E = W / 2251799813685248 + W / 288230376151711744 := ⟨_, rfl⟩
  have z1 := mul_le (A := 11 / 10) (C := E) r1 r2 (show -E ≤ ep by grind) (show ep ≤ E by grind)
  have z2 := mul_le (A := 11 / 10) (C := E) i1 i2 (show -E ≤ eq by grind) (show eq ≤ E by grind)
  have z3 := mul_le (A := 11 / 10) (C := E) r1 r2 (show -E ≤ eq by grind) (show eq ≤ E by grind)
  have z4 := mul_le (A := 11 / 10) (C := E) i1 i2 (show -E ≤ ep by grind) (show ep ≤ E by grind)
  have sX : rv r * rv p + rv i * rv q = rv x + (rv r * rv r + rv i * rv i - 1) * rv x + rv r * ep + rv i * eq := by rw [hep, heq]; grind
  have sY : rv r * rv q - rv i * rv p = rv y + (rv r * rv r + rv i * rv i - 1) * rv y + rv r * eq - rv i * ep := by rw [hep, heq]; grind
  have nx := mul_le n2 n1 x1 x2
  have ny := mul_le n2 n1 y1 y2
  rw [sX] at X1 X2
  rw [sY] at Y1 Y2
  have dX1 : -(W / 412316860416) ≤ rv X - rv x := by grind
  have dX2 : rv X - rv x ≤ W / 412316860416 := by grind
  have dY1 : -(W / 412316860416) ≤ rv Y - rv y := by grind
  have dY2 : rv Y - rv y ≤ W / 412316860416 := by grind
  have fin1 : ∀ a b : Nat, fin a = true → fin b = true → CF b → -(W / 412316860416) ≤ rv a - rv b → rv a - rv b ≤ W / 412316860416 →
      flt (fmul 4436045632959938560 (fadd (fabs x) (fabs y))) (fabs (fsub a b)) = false := by
    intro a b fa fb cb h1 h2
    obtain ⟨fd, d1, d2⟩ := rv_sub (B := W / 412316860416) cb.lt fa fb (by grind) h1 h2
    obtain ⟨fabs', p1, p2, p3⟩ := rv_abs fd
    rw [flt_rv fm fabs']
    have : rv (fabs (fsub a b)) ≤ rv (fmul 4436045632959938560 (fadd (fabs x) (fabs y))) := by
      rcases Rat.le_total (a := 0) (b := rv (fsub a b)) with h | h
      · rw [p1 h]; grind
      · rw [p2 h]; grind
    simp [this]
  exact ⟨fin1 X x fX fx cx dX1 dX2, fin1 Y y fY fy cy dY1 dY2, fX, fY⟩
theorem angle_back {a b c d : Nat} (fa : fin a = true) (fb : fin b = true) (fc : fin c = true) (fd : fin d = true) (hp : fin (fmul a d) = true) (hq : fin (fmul b c) = true) :
    feq (s_turn_Angle_0 a b c d) (fneg (s_turn_Angle_0 c d a b)) = true := by
  unfold s_turn_Angle_0
  rw [fmul_comm c b, fmul_comm d a]
  rcases sub_swap (fmul a d) (fmul b c) with ⟨h, _⟩ | ⟨_, _, h⟩
  · exfalso
    have hn : nanb (fsub (fmul a d) (fmul b c)) = false := by rw [fsub_fin (CF.mul b c).lt hp hq]; exact Go.Sim.nanb_word _ (RN_le _ _)
    rw [hn] at h; cases h
  · exact h
theorem law_TurnBack (a0 a1 b0 b1 c0 c1 : Nat) (ha0 : a0 < 18446744073709551616) (ha1 : a1 < 18446744073709551616) (hb0 : b0 < 18446744073709551616) (hb1 : b1 < 18446744073709551616) (hc0 : c0 < 18446744073709551616) (hc1 : c1 < 18446744073709551616) :
    T_law03_TurnBack a0 a1 b0 b1 c0 c1 = true := by
  have n0 : s__law03_Pair__number_0 (Int.ofNat a0) (Int.ofNat a1) = cn a0 := rfl
  have n1 : s__law03_Pair__number_1 (Int.ofNat a0) (Int.ofNat a1) = cn a1 := rfl
  have m0 : s__law03_Pair__number_0 (Int.ofNat b0) (Int.ofNat b1) = cn b0 := rfl
  have m1 : s__law03_Pair__number_1 (Int.ofNat b0) (Int.ofNat b1) = cn b1 := rfl
  have w0 : s__law03_Pair__way_0 (Int.ofNat c0) (Int.ofNat c1) = cn c0 := rfl
  have w1 : s__law03_Pair__way_1 (Int.ofNat c0) (Int.ofNat c1) = cn c1 := rfl
  unfold T_law03_TurnBack
  simp only []
  rw [n0, n1, m0, m1, w0, w1]
  have cr := CF.cn ha0
  have ci := CF.cn ha1
  have cs := CF.cn hb0
  have ct := CF.cn hb1
  have cx := CF.cn hc0
  have cy := CF.cn hc1
  generalize cn a0 = r at *
  generalize cn a1 = i at *
  generalize cn b0 = s at *
  generalize cn b1 = t at *
  generalize cn c0 = x at *
  generalize cn c1 = y at *
  cases hc : ieq (s_turn_Check_0 r i) 0
  · rfl
  cases hx : s_law03_small_0 x
  · rfl
  cases hy : s_law03_small_0 y
  · rfl
  obtain ⟨h1, h2, h3, h4⟩ := back_core cr ci cx cy hc hx hy
  obtain ⟨fr, fi, r1, r2, i1, i2, _⟩ := check_parts hc
  have e1 : s_turn_Apply_0 (s_turn_Back_0 r i) (s_turn_Back_1 r i) (s_turn_Apply_0 r i x y) (s_turn_Apply_1 r i x y) = s_turn_Undo_0 r i (s_turn_Apply_0 r i x y) (s_turn_Apply_1 r i x y) := by
    show fsub (fmul r _) (fmul (fneg i) _) = fadd (fmul r _) (fmul i _)
    rw [fmul_neg_l ci.lt, sub_add (CF.fneg (CF.mul _ _)).lt, fneg_fneg (CF.mul _ _)]
  have e2 : s_turn_Apply_1 (s_turn_Back_0 r i) (s_turn_Back_1 r i) (s_turn_Apply_0 r i x y) (s_turn_Apply_1 r i x y) = s_turn_Undo_1 r i (s_turn_Apply_0 r i x y) (s_turn_Apply_1 r i x y) := by
    show fadd (fmul (fneg i) _) (fmul r _) = fsub (fmul r _) (fmul i _)
    rw [fmul_neg_l ci.lt, sub_add (CF.mul _ _).lt, fadd_comm]
  rw [e1, e2, h1, h2, feq_refl (fin_not_nan h3), feq_refl (fin_not_nan h4)]
  have aa : feq (s_turn_Angle_0 r i r i) 0 = true := by
    have bg := big_ge
    have p := mul_le r1 r2 i1 i2
    obtain ⟨f1, _⟩ := rv_mul (B := 11 / 10 * (11 / 10)) fr fi (by grind) p.1 p.2
    unfold s_turn_Angle_0
    rw [fmul_comm i r]
    exact V.feq_of (V.sub (CF.mul r i).lt (V.self f1) (V.self f1) V.zero (by omega)) V.zero
  rw [aa]
  cases hd : ieq (s_turn_Check_0 s t) 0
  · rfl
  obtain ⟨fs, ft, s1, s2, t1, t2, _⟩ := check_parts hd
  have bg := big_ge
  have p := mul_le r1 r2 t1 t2
  have q := mul_le i1 i2 s1 s2
  obtain ⟨f1, _⟩ := rv_mul (B := 11 / 10 * (11 / 10)) fr ft (by grind) p.1 p.2
  obtain ⟨f2, _⟩ := rv_mul (B := 11 / 10 * (11 / 10)) fi fs (by grind) q.1 q.2
  rw [angle_back fr fi fs ft f1 f2]
  rfl
theorem u64ok_of {a : Nat} (h : a < 18446744073709551616) : u64ok (Int.ofNat a) = true := by
  show Nat.blt a 18446744073709551616 = true
  rw [Nat.blt_eq]; exact h
theorem ob_TurnBack (a0 a1 b0 b1 c0 c1 : Nat) (ha0 : a0 < 18446744073709551616) (ha1 : a1 < 18446744073709551616) (hb0 : b0 < 18446744073709551616) (hb1 : b1 < 18446744073709551616) (hc0 : c0 < 18446744073709551616) (hc1 : c1 < 18446744073709551616) :
    O_law03_TurnBack a0 a1 b0 b1 c0 c1 = true := by
  unfold O_law03_TurnBack
  simp only [u64ok_of ha0, u64ok_of ha1, u64ok_of hb0, u64ok_of hb1, u64ok_of hc0, u64ok_of hc1, Bool.and_self, Bool.cond_self, Bool.true_and, Bool.and_true]
end Go.Proofs.Ythaalobnckdjoaa
