/- FrameBack: there and back. -/
import Derived.Test.YtefmihgjheokeaaFnsB
import Derived.Test.YtefmihgjheokeaaSimErr2
set_option linter.unusedVariables false
set_option linter.unusedSimpArgs false
namespace Go.Proofs.Ytefmihgjheokeaa
open Go.Sim
/-- What the check of a turn says of its parts. -/
theorem check_parts {r i : Nat} (hc : ieq (s_turn_Check_0 r i) 0 = true) : fin r = true ∧ fin i = true ∧ -(11 / 10) ≤ rv r ∧ rv r ≤ 11 / 10 ∧ -(11 / 10) ≤ rv i ∧ rv i ≤ 11 / 10 ∧
    rv r * rv r + rv i * rv i - 1 ≤ 1 / 549755813888 ∧ -(1 / 549755813888) ≤ rv r * rv r + rv i * rv i - 1 := by
  unfold s_turn_Check_0 at hc
  have hb : (fle 4607182418800009216 (s_turn_square_0 r i) && fle (s_turn_square_0 r i) 4607182418800021504) = true := by
    cases h : (fle 4607182418800009216 (s_turn_square_0 r i) && fle (s_turn_square_0 r i) 4607182418800021504)
    · rw [h] at hc; exact absurd hc (by decide)
    · rfl
  simp only [Bool.and_eq_true] at hb
  obtain ⟨h1, h2⟩ := hb
  have fS : fin (s_turn_square_0 r i) = true := fin_between h1 h2 (by decide) (by decide)
  rw [rv_le (by decide) fS, rv_lo] at h1
  rw [rv_le fS (by decide), rv_hi] at h2
  simp only [decide_eq_true_eq] at h1 h2
  have c1 : ((1099511627775 : Nat) : Rat) = 1099511627775 := rfl
  have c2 : ((1099511627776 : Nat) : Rat) = 1099511627776 := rfl
  have c3 : ((1099511627777 : Nat) : Rat) = 1099511627777 := rfl
  rw [c1, c2] at h1
  rw [c3, c2] at h2
  unfold s_turn_square_0 at fS h1 h2
  obtain ⟨f1, f2⟩ := fin_add fS
  obtain ⟨fr, _⟩ := fin_mul f1
  obtain ⟨fi, _⟩ := fin_mul f2
  have q1 : 0 ≤ rv r * rv r := by
    rcases Rat.le_total (a := 0) (b := rv r) with h | h
    · exact Rat.mul_nonneg h h
    · have := Rat.mul_nonneg (show 0 ≤ -rv r by grind) (show 0 ≤ -rv r by grind); grind
  have q2 : 0 ≤ rv i * rv i := by
    rcases Rat.le_total (a := 0) (b := rv i) with h | h
    · exact Rat.mul_nonneg h h
    · have := Rat.mul_nonneg (show 0 ≤ -rv i by grind) (show 0 ≤ -rv i by grind); grind
  have m1 := rv_mul' (B := rv r * rv r) fr fr f1 (by grind) (by grind)
  have m2 := rv_mul' (B := rv i * rv i) fi fi f2 (by grind) (by grind)
  have et := eta_small
  have e0 := eta_pos
  have ad := rv_add' (B := rv r * rv r * 2 + rv i * rv i * 2 + 1) f1 f2 fS (by grind) (by grind)
  generalize rv (fadd (fmul r r) (fmul i i)) = S at *
  generalize rv (fmul r r) = P at *
  generalize rv (fmul i i) = Q at *
  have b1 : rv r * rv r + rv i * rv i ≤ 11 / 10 := by grind
  have sq : ∀ x : Rat, x * x ≤ 11 / 10 → -(11 / 10) ≤ x ∧ x ≤ 11 / 10 := by
    intro x hx
    constructor
    · rcases Rat.le_total (a := -(11 / 10)) (b := x) with h | h
      · exact h
      · have := Rat.mul_nonneg (show 0 ≤ -(11 / 10) - x by grind) (show 0 ≤ 11 / 10 - x by grind); grind
    · rcases Rat.le_total (a := x) (b := 11 / 10) with h | h
      · exact h
      · have := Rat.mul_nonneg (show 0 ≤ x - 11 / 10 by grind) (show 0 ≤ x + 11 / 10 by grind); grind
  obtain ⟨r1, r2⟩ := sq (rv r) (by grind)
  obtain ⟨i1, i2⟩ := sq (rv i) (by grind)
  refine ⟨fr, fi, r1, r2, i1, i2, ?_, ?_⟩ <;> grind
theorem lit40 : rv 4787326403894837248 * 1024 ≤ big := lit_big (by decide) (by decide +kernel)
theorem lit300 : eta ≤ rv 3256102530588868608 / 1152921504606846976 := eta_le (by decide) (by decide +kernel)
theorem calm_parts {x : Nat} (h : s_law04_calm_0 x = true) : fin x = true ∧ rv (fabs x) * 1024 ≤ big ∧ (rv (fabs x) = 0 ∨ eta ≤ rv (fabs x) / 1152921504606846976) ∧ -rv (fabs x) ≤ rv x ∧ rv x ≤ rv (fabs x) ∧ 0 ≤ rv (fabs x) ∧ fin (fabs x) = true := by
  unfold s_law04_calm_0 at h
  simp only [Bool.and_eq_true, Bool.or_eq_true] at h
  obtain ⟨⟨h1, h2⟩, h3⟩ := h
  have ff : fin x = true := fin_between h1 h2 (by decide) (by decide)
  obtain ⟨fa, p1, p2, p3⟩ := rv_abs ff
  have n40 : rv 14010698440749613056 = -rv 4787326403894837248 := (rv_neg (b := 4787326403894837248) (by decide) (by decide)).1
  have n300 : rv 12479474567443644416 = -rv 3256102530588868608 := (rv_neg (b := 3256102530588868608) (by decide) (by decide)).1
  rw [rv_le (by decide) ff] at h1
  rw [rv_le ff (by decide)] at h2
  rw [rv_le (by decide) ff, rv_le ff (by decide)] at h3
  simp only [decide_eq_true_eq] at h1 h2 h3
  rw [n40] at h1
  rw [n300] at h3
  have l4 := lit40
  have l3 := lit300
  have e0 := eta_pos
  have hab : -rv (fabs x) ≤ rv x ∧ rv x ≤ rv (fabs x) := by
    rcases Rat.le_total (a := 0) (b := rv x) with h | h
    · have := p1 h; grind
    · have := p2 h; grind
  refine ⟨ff, ?_, ?_, hab.1, hab.2, p3, fa⟩
  · rcases Rat.le_total (a := 0) (b := rv x) with h | h
    · have := p1 h; grind
    · have := p2 h; grind
  · rcases h3 with (h3 | h3) | h3
    · left
      have : rv x = 0 := by
        rw [feq_val (fin_not_nan ff) (by decide)] at h3
        simp only [decide_eq_true_eq] at h3
        have e : sval 0 = 0 := by decide
        unfold rv; rw [h3, e]; grind
      have := p1 (by grind)
      grind
    · right
      have := p1 (by grind)
      grind
    · right
      have := p2 (by grind)
      grind
theorem rv_36 : rv 4445052832214679552 = ((1 : Nat) : Rat) / ((68719476736 : Nat) : Rat) := rv_lit (by decide) (by decide) (by intro d hd; subst hd; decide +kernel)
/-- The weight of a frame and a place. -/
theorem all_ge {x y z w : Nat} {W : Rat} (fx : fin (fabs x) = true) (fy : fin (fabs y) = true) (fz : fin (fabs z) = true) (fw : fin (fabs w) = true) (x0 : 0 ≤ rv (fabs x)) (y0 : 0 ≤ rv (fabs y)) (z0 : 0 ≤ rv (fabs z)) (w0 : 0 ≤ rv (fabs w)) (hW : W = rv (fabs x) + rv (fabs y) + rv (fabs z) + rv (fabs w)) (hb : W * 256 ≤ big) (he : W = 0 ∨ eta ≤ W / 1152921504606846976) :
    fin (fmul 4445052832214679552 (fadd (fadd (fadd (fabs x) (fabs y)) (fabs z)) (fabs w))) = true ∧ W / 68719476736 - W / 281474976710656 ≤ rv (fmul 4445052832214679552 (fadd (fadd (fadd (fabs x) (fabs y)) (fabs z)) (fabs w))) := by
  have bg := big_ge
  obtain ⟨f1, a1, a2⟩ := rv_add (B := W) fx fy (by grind) (by grind) (by grind)
  obtain ⟨f2, b1, b2⟩ := rv_add (B := 2 * W) f1 fz (by grind) (by grind) (by grind)
  obtain ⟨f3, c1, c2⟩ := rv_add (B := 2 * W) f2 fw (by grind) (by grind) (by grind)
  generalize fadd (fadd (fadd (fabs x) (fabs y)) (fabs z)) (fabs w) = S at *
  have e36 := rv_36
  have k1 : ((1 : Nat) : Rat) = 1 := rfl
  have k2 : ((68719476736 : Nat) : Rat) = 68719476736 := rfl
  rw [k1, k2] at e36
  have fl : fin 4445052832214679552 = true := by decide
  have hp : rv 4445052832214679552 * rv S = rv S / 68719476736 := by rw [e36]; grind
  have z1 : W = 0 → rv 4445052832214679552 * rv S = 0 := by
    intro h; rw [hp]; grind
  have z3 : W ≠ 0 → eta ≤ W / 1152921504606846976 := by
    intro h
    rcases he with h' | h'
    · exact absurd h' h
    · exact h'
  obtain ⟨f4, d1, d2⟩ := mul_w (B := W) (W := W) fl f3 (by grind) (by rw [hp]; grind) (by rw [hp]; grind) ⟨z1, z3⟩
  refine ⟨f4, ?_⟩
  rw [hp] at d1
  grind
theorem close {a b M : Nat} {W : Rat} (fa : fin a = true) (fb : fin b = true) (cb : b < 18446744073709551616) (fm : fin M = true) (hM : W / 137438953472 ≤ rv M) (hb : W ≤ big) (h0 : 0 ≤ W) (h1 : -(W / 274877906944) ≤ rv a - rv b) (h2 : rv a - rv b ≤ W / 274877906944) :
    fle (fabs (fsub a b)) M = true := by
  obtain ⟨fd, d1, d2⟩ := rv_sub (B := W / 274877906944) cb fa fb (by grind) h1 h2
  obtain ⟨fabs', p1, p2, p3⟩ := rv_abs fd
  rw [rv_le fabs' fm, decide_eq_true_eq]
  rcases Rat.le_total (a := 0) (b := rv (fsub a b)) with h | h
  · rw [p1 h]; grind
  · rw [p2 h]; grind
/-- Own after To, and To by Back after To. -/
theorem there {r i x y u v : Nat} (cr : CF r) (ci : CF i) (cx : CF x) (cy : CF y) (cu : CF u) (cv : CF v) (hc : ieq (s_turn_Check_0 r i) 0 = true) (hx : s_law04_calm_0 x = true) (hy : s_law04_calm_0 y = true) (hu : s_law04_calm_0 u = true) (hv : s_law04_calm_0 v = true) :
    s_law04_near_0 (s_frame_Own_0 u v r i (s_frame_To_0 u v r i x y) (s_frame_To_1 u v r i x y)) (s_frame_Own_1 u v r i (s_frame_To_0 u v r i x y) (s_frame_To_1 u v r i x y)) x y (fadd (fadd (fadd (fabs x) (fabs y)) (fabs u)) (fabs v)) = true ∧
    s_law04_near_0 (s_frame_To_0 (s_frame_Back_0 u v r i) (s_frame_Back_1 u v r i) (s_frame_Back_2 u v r i) (s_frame_Back_3 u v r i) (s_frame_To_0 u v r i x y) (s_frame_To_1 u v r i x y)) (s_frame_To_1 (s_frame_Back_0 u v r i) (s_frame_Back_1 u v r i) (s_frame_Back_2 u v r i) (s_frame_Back_3 u v r i) (s_frame_To_0 u v r i x y) (s_frame_To_1 u v r i x y)) x y (fadd (fadd (fadd (fabs x) (fabs y)) (fabs u)) (fabs v)) = true := by
  obtain ⟨fr, fi, r1, r2, i1, i2, n1, n2⟩ := check_parts hc
  obtain ⟨fx, xb, xe, x1, x2, x0, fax⟩ := calm_parts hx
  obtain ⟨fy, yb, ye, y1, y2, y0, fay⟩ := calm_parts hy
  obtain ⟨fu, ub, ue, u1, u2, u0, fau⟩ := calm_parts hu
  obtain ⟨fv, vb, ve, v1, v2, v0, fav⟩ := calm_parts hv
  obtain ⟨W, hW⟩ : ∃ W, W = rv (fabs x) + rv (fabs y) + rv (fabs u) + rv (fabs v) := ⟨_, rfl⟩
  have bg := big_ge
  have h0 : 0 ≤ W := by grind
  have hb : W * 256 ≤ big := by grind
  have he : W = 0 ∨ eta ≤ W / 1152921504606846976 := by
    rcases xe with h | h
    · rcases ye with h' | h'
      · rcases ue with h'' | h''
        · rcases ve with h3 | h3
          · left; grind
          · right; grind
        · right; grind
      · right; grind
    · right; grind
  obtain ⟨fm, mg⟩ := all_ge fax fay fau fav x0 y0 u0 v0 hW hb he
  have mg' : W / 137438953472 ≤ rv (fmul 4445052832214679552 (fadd (fadd (fadd (fabs x) (fabs y)) (fabs u)) (fabs v))) := by grind
  generalize hM : fmul 4445052832214679552 (fadd (fadd (fadd (fabs x) (fabs y)) (fabs u)) (fabs v)) = M at *
  obtain ⟨_, _, fP, P1, P2⟩ := two_w (A := rv (fabs x)) (C := rv (fabs y)) (W := W) fr fi fx fy r1 r2 i1 i2 x1 x2 y1 y2 x0 y0 (by grind) (by grind) (by grind) h0 he
  obtain ⟨_, ⟨fQ, Q1, Q2⟩, _⟩ := two_w (A := rv (fabs x)) (C := rv (fabs y)) (W := W) fi fr fx fy i1 i2 r1 r2 x1 x2 y1 y2 x0 y0 (by grind) (by grind) (by grind) h0 he
  obtain ⟨_, ⟨fG, G1, G2⟩, _⟩ := two_w (A := rv (fabs u)) (C := rv (fabs v)) (W := W) fr fi fu fv r1 r2 i1 i2 u1 u2 v1 v2 u0 v0 (by grind) (by grind) (by grind) h0 he
  obtain ⟨_, _, fH, H1, H2⟩ := two_w (A := rv (fabs v)) (C := rv (fabs u)) (W := W) fr fi fv fu r1 r2 i1 i2 v1 v2 u1 u2 v0 u0 (by grind) (by grind) (by grind) h0 he
  have eT0 : s_frame_To_0 u v r i x y = fadd u (fsub (fmul r x) (fmul i y)) := rfl
  have eT1 : s_frame_To_1 u v r i x y = fadd v (fadd (fmul i x) (fmul r y)) := rfl
  have eB0 : s_frame_Back_0 u v r i = fneg (fadd (fmul r u) (fmul i v)) := rfl
  have eB1 : s_frame_Back_1 u v r i = fneg (fsub (fmul r v) (fmul i u)) := rfl
  have eB2 : s_frame_Back_2 u v r i = r := rfl
  have eB3 : s_frame_Back_3 u v r i = fneg i := rfl
  rw [eT0, eT1, eB0, eB1, eB2, eB3]
  have cG : fadd (fmul r u) (fmul i v) < 18446744073709551616 := (CF.add _ _).lt
  have cH : fsub (fmul r v) (fmul i u) < 18446744073709551616 := (CF.sub _ _).lt
  generalize fsub (fmul r x) (fmul i y) = p at *
  generalize fadd (fmul i x) (fmul r y) = q at *
  generalize fadd (fmul r u) (fmul i v) = g at *
  generalize fsub (fmul r v) (fmul i u) = h at *
  have pr := mul_le r1 r2 x1 x2
  have qi := mul_le i1 i2 y1 y2
  have pi := mul_le i1 i2 x1 x2
  have qr := mul_le r1 r2 y1 y2
  obtain ⟨fS, S1, S2⟩ := rv_add (B := 3 / 2 * W) fu fP (by grind) (by grind) (by grind)
  obtain ⟨fT, T1, T2⟩ := rv_add (B := 3 / 2 * W) fv fQ (by grind) (by grind) (by grind)
  generalize fadd u p = s at *
  generalize fadd v q = t at *
  -- what is lost on the way out
  obtain ⟨es, hes⟩ : ∃ es, es = rv s - (rv u + (rv r * rv x - rv i * rv y)) := ⟨_, rfl⟩
  obtain ⟨et, het⟩ : ∃ et, et = rv t - (rv v + (rv i * rv x + rv r * rv y)) := ⟨_, rfl⟩
  have es1 : -(W / 1125899906842624) ≤ es := by grind
  have es2 : es ≤ W / 1125899906842624 := by grind
  have et1 : -(W / 1125899906842624) ≤ et := by grind
  have et2 : et ≤ W / 1125899906842624 := by grind
  have nx := mul_le n2 n1 x1 x2
  have ny := mul_le n2 n1 y1 y2
  constructor
  · -- Own
    have eO0 : s_frame_Own_0 u v r i s t = fadd (fmul r (fsub s u)) (fmul i (fsub t v)) := rfl
    have eO1 : s_frame_Own_1 u v r i s t = fsub (fmul r (fsub t v)) (fmul i (fsub s u)) := rfl
    rw [eO0, eO1]
    obtain ⟨fa, a1, a2⟩ := rv_sub (B := 3 / 2 * W) cu.lt fS fu (by grind) (by grind) (by grind)
    obtain ⟨fb, b1, b2⟩ := rv_sub (B := 3 / 2 * W) cv.lt fT fv (by grind) (by grind) (by grind)
    generalize fsub s u = a at *
    generalize fsub t v = b at *
    obtain ⟨ea, hea⟩ : ∃ ea, ea = rv a - (rv r * rv x - rv i * rv y) := ⟨_, rfl⟩
    obtain ⟨eb, heb⟩ : ∃ eb, eb = rv b - (rv i * rv x + rv r * rv y) := ⟨_, rfl⟩
    have z1 := mul_le (A := 11 / 10) (C := W / 562949953421312) r1 r2 (show -(W / 562949953421312) ≤ ea by grind) (show ea ≤ W / 562949953421312 by grind)
    have z2 := mul_le (A := 11 / 10) (C := W / 562949953421312) i1 i2 (show -(W / 562949953421312) ≤ eb by grind) (show eb ≤ W / 562949953421312 by grind)
    have z3 := mul_le (A := 11 / 10) (C := W / 562949953421312) r1 r2 (show -(W / 562949953421312) ≤ eb by grind) (show eb ≤ W / 562949953421312 by grind)
    have z4 := mul_le (A := 11 / 10) (C := W / 562949953421312) i1 i2 (show -(W / 562949953421312) ≤ ea by grind) (show ea ≤ W / 562949953421312 by grind)
    have ba1 : -(2 * W) ≤ rv a := by grind
    have ba2 : rv a ≤ 2 * W := by grind
    have bb1 : -(2 * W) ≤ rv b := by grind
    have bb2 : rv b ≤ 2 * W := by grind
    obtain ⟨_, ⟨fX, X1, X2⟩, _⟩ := two_w (A := 2 * W) (C := 2 * W) (W := W) fr fi fa fb r1 r2 i1 i2 ba1 ba2 bb1 bb2 (by grind) (by grind) (by grind) (by grind) (by grind) h0 he
    obtain ⟨_, _, fY, Y1, Y2⟩ := two_w (A := 2 * W) (C := 2 * W) (W := W) fr fi fb fa r1 r2 i1 i2 bb1 bb2 ba1 ba2 (by grind) (by grind) (by grind) (by grind) (by grind) h0 he
    have sX : rv r * rv a + rv i * rv b = rv x + (rv r * rv r + rv i * rv i - 1) * rv x + rv r * ea + rv i * eb := by rw [hea, heb]; grind
    have sY : rv r * rv b - rv i * rv a = rv y + (rv r * rv r + rv i * rv i - 1) * rv y + rv r * eb - rv i * ea := by rw [hea, heb]; grind
    rw [sX] at X1 X2
    rw [sY] at Y1 Y2
    unfold s_law04_near_0; rw [hM]
    rw [close fX fx cx.lt fm mg' (by grind) h0 (by grind) (by grind), close fY fy cy.lt fm mg' (by grind) h0 (by grind) (by grind)]
    rfl
  · -- Back
    have eO0 : s_frame_To_0 (fneg g) (fneg h) r (fneg i) s t = fadd (fneg g) (fsub (fmul r s) (fmul (fneg i) t)) := rfl
    have eO1 : s_frame_To_1 (fneg g) (fneg h) r (fneg i) s t = fadd (fneg h) (fadd (fmul (fneg i) s) (fmul r t)) := rfl
    rw [eO0, eO1]
    obtain ⟨nj, fj⟩ := rv_neg ci.lt fi
    obtain ⟨ng, fng⟩ := rv_neg cG fG
    obtain ⟨nh, fnh⟩ := rv_neg cH fH
    have bs1 : -(2 * W) ≤ rv s := by grind
    have bs2 : rv s ≤ 2 * W := by grind
    have bt1 : -(2 * W) ≤ rv t := by grind
    have bt2 : rv t ≤ 2 * W := by grind
    obtain ⟨_, _, fX, X1, X2⟩ := two_w (A := 2 * W) (C := 2 * W) (W := W) fr fj fS fT r1 r2 (by grind) (by grind) bs1 bs2 bt1 bt2 (by grind) (by grind) (by grind) (by grind) (by grind) h0 he
    obtain ⟨_, ⟨fY, Y1, Y2⟩, _⟩ := two_w (A := 2 * W) (C := 2 * W) (W := W) fj fr fS fT (by grind) (by grind) r1 r2 bs1 bs2 bt1 bt2 (by grind) (by grind) (by grind) (by grind) (by grind) h0 he
    generalize fsub (fmul r s) (fmul (fneg i) t) = X at *
    generalize fadd (fmul (fneg i) s) (fmul r t) = Y at *
    rw [nj] at X1 X2 Y1 Y2
    have z1 := mul_le (A := 11 / 10) (C := W / 1125899906842624) r1 r2 es1 es2
    have z2 := mul_le (A := 11 / 10) (C := W / 1125899906842624) i1 i2 et1 et2
    have z3 := mul_le (A := 11 / 10) (C := W / 1125899906842624) r1 r2 et1 et2
    have z4 := mul_le (A := 11 / 10) (C := W / 1125899906842624) i1 i2 es1 es2
    have sX : rv r * rv s - -rv i * rv t = rv x + (rv r * rv r + rv i * rv i - 1) * rv x + (rv r * rv u + rv i * rv v) + rv r * es + rv i * et := by rw [hes, het]; grind
    have sY : -rv i * rv s + rv r * rv t = rv y + (rv r * rv r + rv i * rv i - 1) * rv y + (rv r * rv v - rv i * rv u) + rv r * et - rv i * es := by rw [hes, het]; grind
    rw [sX] at X1 X2
    rw [sY] at Y1 Y2
    obtain ⟨fA, A1, A2⟩ := rv_add (B := 2 * W) fng fX (by grind) (by rw [ng]; grind) (by rw [ng]; grind)
    obtain ⟨fB, B1, B2⟩ := rv_add (B := 2 * W) fnh fY (by grind) (by rw [nh]; grind) (by rw [nh]; grind)
    rw [ng] at A1 A2
    rw [nh] at B1 B2
    unfold s_law04_near_0; rw [hM]
    rw [close fA fx cx.lt fm mg' (by grind) h0 (by grind) (by grind), close fB fy cy.lt fm mg' (by grind) h0 (by grind) (by grind)]
    rfl
theorem home_to {x y : Nat} (fx : fin x = true) (fy : fin y = true) : V (s_frame_To_0 0 0 4607182418800017408 0 x y) (sval x) ∧ V (s_frame_To_1 0 0 4607182418800017408 0 x y) (sval y) := by
  have vx := V.self fx
  have vy := V.self fy
  have a : V (fsub (fmul 4607182418800017408 x) (fmul 0 y)) (sval x) := V.sub (CF.mul _ _).lt vx.one_mul vy.zero_mul vx (by omega)
  have b : V (fadd (fmul 0 x) (fmul 4607182418800017408 y)) (sval y) := V.add vx.zero_mul vy.one_mul vy (by omega)
  exact ⟨V.add V.zero a vx (by omega), V.add V.zero b vy (by omega)⟩
theorem home_own {x y : Nat} (fx : fin x = true) (fy : fin y = true) : V (s_frame_Own_0 0 0 4607182418800017408 0 x y) (sval x) ∧ V (s_frame_Own_1 0 0 4607182418800017408 0 x y) (sval y) := by
  have vx := V.self fx
  have vy := V.self fy
  have a : V (fsub x 0) (sval x) := V.sub (by decide) vx V.zero vx (by omega)
  have b : V (fsub y 0) (sval y) := V.sub (by decide) vy V.zero vy (by omega)
  exact ⟨V.add a.one_mul b.zero_mul vx (by omega), V.sub (CF.mul _ _).lt b.one_mul a.zero_mul vy (by omega)⟩
theorem law_FrameBack (a0 a1 a2 a3 b0 b1 : Nat) (ha0 : a0 < 18446744073709551616) (ha1 : a1 < 18446744073709551616) (ha2 : a2 < 18446744073709551616) (ha3 : a3 < 18446744073709551616) (hb0 : b0 < 18446744073709551616) (hb1 : b1 < 18446744073709551616) :
    T_law04_FrameBack a0 a1 a2 a3 b0 b1 = true := by
  have n0 : s__law04_Bits__Frame_0 (Int.ofNat a0) (Int.ofNat a1) (Int.ofNat a2) (Int.ofNat a3) = cn a0 := rfl
  have n1 : s__law04_Bits__Frame_1 (Int.ofNat a0) (Int.ofNat a1) (Int.ofNat a2) (Int.ofNat a3) = cn a1 := rfl
  have n2 : s__law04_Bits__Frame_2 (Int.ofNat a0) (Int.ofNat a1) (Int.ofNat a2) (Int.ofNat a3) = cn a2 := rfl
  have n3 : s__law04_Bits__Frame_3 (Int.ofNat a0) (Int.ofNat a1) (Int.ofNat a2) (Int.ofNat a3) = cn a3 := rfl
  have w0 : s__law04_Place__Vec_0 (Int.ofNat b0) (Int.ofNat b1) = cn b0 := rfl
  have w1 : s__law04_Place__Vec_1 (Int.ofNat b0) (Int.ofNat b1) = cn b1 := rfl
  unfold T_law04_FrameBack
  simp only []
  rw [n0, n1, n2, n3, w0, w1]
  have cu := CF.cn ha0
  have cv := CF.cn ha1
  have cr := CF.cn ha2
  have ci := CF.cn ha3
  have cx := CF.cn hb0
  have cy := CF.cn hb1
  generalize cn a0 = u at *
  generalize cn a1 = v at *
  generalize cn a2 = r at *
  generalize cn a3 = i at *
  generalize cn b0 = x at *
  generalize cn b1 = y at *
  cases hf : ieq (s_frame_Check_0 u v r i) 0
  · rfl
  cases hx : s_law04_calm_0 x
  · rfl
  cases hy : s_law04_calm_0 y
  · rfl
  cases hu : s_law04_calm_0 u
  · rfl
  cases hv : s_law04_calm_0 v
  · rfl
  have hc : ieq (s_turn_Check_0 r i) 0 = true := by
    unfold s_frame_Check_0 at hf
    cases hw : s_vec_Within_0 u v 4787326403894837248
    · rw [hw] at hf; exact absurd hf (by simp [ieq])
    · rw [hw] at hf; exact hf
  obtain ⟨h1, h2⟩ := there cr ci cx cy cu cv hc hx hy hu hv
  rw [h1, h2]
  obtain ⟨fr, fi, r1, r2, i1, i2, _⟩ := check_parts hc
  obtain ⟨fx, _⟩ := calm_parts hx
  obtain ⟨fy, _⟩ := calm_parts hy
  obtain ⟨fu, _⟩ := calm_parts hu
  obtain ⟨fv, _⟩ := calm_parts hv
  have t1 := home_to fx fy
  have t2 := home_own fx fy
  have t3 := home_to fu fv
  rw [V.feq_of t1.1 (V.self fx), V.feq_of t1.2 (V.self fy), V.feq_of t2.1 (V.self fx), V.feq_of t2.2 (V.self fy)]
  have e3 : s_frame_Then_0 0 0 4607182418800017408 0 u v r i = s_frame_To_0 0 0 4607182418800017408 0 u v := rfl
  have e4 : s_frame_Then_1 0 0 4607182418800017408 0 u v r i = s_frame_To_1 0 0 4607182418800017408 0 u v := rfl
  rw [e3, e4, V.feq_of t3.1 (V.self fu), V.feq_of t3.2 (V.self fv)]
  have vr := V.self fr
  have vi := V.self fi
  have k1 : V (s_frame_Then_2 0 0 4607182418800017408 0 u v r i) (sval r) := V.sub (CF.mul _ _).lt vr.mul_one vi.mul_zero vr (by omega)
  have k2 : V (s_frame_Then_3 0 0 4607182418800017408 0 u v r i) (sval i) := V.add vr.mul_zero vi.mul_one vi (by omega)
  rw [V.feq_of k1 vr, V.feq_of k2 vi]
  have k3 : V (s_frame_Then_2 u v r i 0 0 4607182418800017408 0) (sval r) := V.sub (CF.mul _ _).lt vr.one_mul vi.zero_mul vr (by omega)
  have k4 : V (s_frame_Then_3 u v r i 0 0 4607182418800017408 0) (sval i) := V.add vi.one_mul vr.zero_mul vi (by omega)
  rw [V.feq_of k3 vr, V.feq_of k4 vi]
  have o0 : V (fsub (fmul r 0) (fmul i 0)) 0 := V.sub (CF.mul _ _).lt vr.mul_zero vi.mul_zero V.zero (by omega)
  have o1 : V (fadd (fmul i 0) (fmul r 0)) 0 := V.add vi.mul_zero vr.mul_zero V.zero (by omega)
  have k5 : V (s_frame_Then_0 u v r i 0 0 4607182418800017408 0) (sval u) := V.add (V.self fu) o0 (V.self fu) (by omega)
  have k6 : V (s_frame_Then_1 u v r i 0 0 4607182418800017408 0) (sval v) := V.add (V.self fv) o1 (V.self fv) (by omega)
  rw [V.feq_of k5 (V.self fu), V.feq_of k6 (V.self fv)]
  rfl
theorem u64ok_of {a : Nat} (h : a < 18446744073709551616) : u64ok (Int.ofNat a) = true := by
  show Nat.blt a 18446744073709551616 = true
  rw [Nat.blt_eq]; exact h
theorem ob_FrameBack (a0 a1 a2 a3 b0 b1 : Nat) (ha0 : a0 < 18446744073709551616) (ha1 : a1 < 18446744073709551616) (ha2 : a2 < 18446744073709551616) (ha3 : a3 < 18446744073709551616) (hb0 : b0 < 18446744073709551616) (hb1 : b1 < 18446744073709551616) :
    O_law04_FrameBack a0 a1 a2 a3 b0 b1 = true := by
  unfold O_law04_FrameBack
  simp only [u64ok_of ha0, u64ok_of ha1, u64ok_of ha2, u64ok_of ha3, u64ok_of hb0, u64ok_of hb1, Bool.and_self, Bool.cond_self, Bool.true_and, Bool.and_true]
end Go.Proofs.Ytefmihgjheokeaa
