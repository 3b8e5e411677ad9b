/- RowBack: warmed and warmed back. -/
import Derived.Test.YtojahopdcnamjaaFnsB
import Derived.Test.YtojahopdcnamjaaSimErr3
set_option linter.unusedVariables false
set_option linter.unusedSimpArgs false
namespace Go.Proofs.Ytojahopdcnamjaa
open Go.Sim
theorem fits_form (r0 : Int) (r1 : Int) (r2 : Nat) (r3 : Nat) (r4 : Nat) (r5 : Nat) (r6 : Nat) (r7 : Nat) (r8 : Nat) (r9 : Nat) (r10 : Nat) (r11 : Nat) (r12 : Int) (r13 : Nat) : s_rows_fits_0 r0 r1 r2 r3 r4 r5 r6 r7 r8 r9 r10 r11 r12 r13 = ((((((((((s_vec_Finite_0 r2 r3) && (s_vec_Finite_0 r4 r5)) && ((s_num_Finite_float64__0 r6) && (s_num_Finite_float64__0 r7))) && (((s_num_Finite_float64__0 r8) && (s_num_Finite_float64__0 r11)) && (s_num_Finite_float64__0 r13))) && (ile (0 : Int) r0)) && (ile (0 : Int) r1)) && (!(ieq r0 r1))) && (fle 0 r13)) && (fle r9 r10)) && (ile (-1 : Int) r12)) := by
  unfold s_rows_fits_0 s_rows_finite_1_0
  generalize s_vec_Finite_0 r2 r3 = p1
  generalize s_vec_Finite_0 r4 r5 = p2
  generalize s_num_Finite_float64__0 r6 = p3
  generalize s_num_Finite_float64__0 r7 = p4
  generalize s_num_Finite_float64__0 r8 = p5
  generalize s_num_Finite_float64__0 r11 = p6
  generalize s_num_Finite_float64__0 r13 = p7
  generalize ile (0 : Int) r0 = q1
  generalize ile (0 : Int) r1 = q2
  generalize ieq r0 r1 = q3
  generalize fle 0 r13 = q4
  generalize fle r9 r10 = q5
  generalize ile (-1 : Int) r12 = q6
  have h0 : ile 0 0 = true := by decide
  have h1 : ile 0 1 = true := by decide
  have h2 : ile 0 2 = true := by decide
  have h3 : ile 0 3 = true := by decide
  have h4 : ile 0 4 = true := by decide
  have h5 : ile 0 (-1) = false := by decide
  cases p3 <;> cases p4 <;> cases p5 <;> cases p6 <;> cases p7 <;> simp [h0, h1, h2, h3, h4, h5] <;> cases p1 <;> cases p2 <;> cases q1 <;> cases q2 <;> cases q3 <;> simp
theorem rests_form (a0 a1 a2 a3 a4 : Nat) : s_rows_rests_0 a0 a1 a2 a3 a4 = ((((s_num_Finite_float64__0 a0) && (s_num_Finite_float64__0 a1)) && (fle 0 a0)) && (fle 0 a1)) := by
  unfold s_rows_rests_0 s_rows_finite_1_0
  generalize s_num_Finite_float64__0 a0 = p3
  generalize s_num_Finite_float64__0 a1 = p4
  have h0 : ile 0 0 = true := by decide
  have h1 : ile 0 1 = true := by decide
  have h5 : ile 0 (-1) = false := by decide
  cases p3 <;> cases p4 <;> simp [h0, h1, h5]
theorem finite_of {x : Nat} (cx : CF x) (fx : fin x = true) : s_num_Finite_float64__0 x = true := by
  unfold s_num_Finite_float64__0
  exact V.feq_of (V.sub cx.lt (V.self fx) (V.self fx) V.zero (by omega)) V.zero
theorem rests_of {a0 a1 a2 a3 a4 : Nat} (c0 : CF a0) (c1 : CF a1) (f0 : fin a0 = true) (f1 : fin a1 = true) (n0 : fle 0 a0 = true) (n1 : fle 0 a1 = true) : s_rows_rests_0 a0 a1 a2 a3 a4 = true := by
  rw [rests_form, finite_of c0 f0, finite_of c1 f1, n0, n1]; rfl
theorem fits_push (r0 : Int) (r1 : Int) (r2 : Nat) (r3 : Nat) (r4 : Nat) (r5 : Nat) (r6 : Nat) (r7 : Nat) (r8 : Nat) (r9 : Nat) (r10 : Nat) (r11 : Nat) (r12 : Int) (r13 : Nat) (q : Nat) (h : s_rows_fits_0 r0 r1 r2 r3 r4 r5 r6 r7 r8 r9 r10 r11 r12 r13 = true) (hq : s_num_Finite_float64__0 q = true) : s_rows_fits_0 r0 r1 r2 r3 r4 r5 r6 r7 r8 r9 r10 q r12 r13 = true := by
  rw [fits_form] at h
  rw [fits_form, hq]
  simp only [Bool.and_eq_true] at h ⊢
  simp only [h, and_self, and_true, true_and]
theorem asked_of (r0 : Int) (r1 : Int) (r2 : Nat) (r3 : Nat) (r4 : Nat) (r5 : Nat) (r6 : Nat) (r7 : Nat) (r8 : Nat) (r9 : Nat) (r10 : Nat) (r11 : Nat) (r12 : Int) (r13 : Nat) (a0 : Nat) (a1 : Nat) (a2 : Nat) (a3 : Nat) (a4 : Nat) (b0 : Nat) (b1 : Nat) (b2 : Nat) (b3 : Nat) (b4 : Nat) (h : s_rows_fits_0 r0 r1 r2 r3 r4 r5 r6 r7 r8 r9 r10 r11 r12 r13 = true) (h1 : s_rows_rests_0 a0 a1 a2 a3 a4 = true) (h2 : s_rows_rests_0 b0 b1 b2 b3 b4 = true) : s_rows_asked_0 r0 r1 r2 r3 r4 r5 r6 r7 r8 r9 r10 r11 r12 r13 a0 a1 a2 a3 a4 b0 b1 b2 b3 b4 = 0 := by
  unfold s_rows_asked_0; rw [h, h1, h2]; rfl
def U40 (x : Nat) : Prop := fin x = true ∧ Us (1 / 1099511627776) 1099511627776 (rv (fabs x))
theorem rv_l40 : rv 4427038433705197568 = ((1 : Nat) : Rat) / ((1099511627776 : Nat) : Rat) := rv_lit (by decide) (by decide) (by intro d hd; subst hd; decide +kernel)
theorem rv_h40 : rv 4787326403894837248 = ((1099511627776 : Nat) : Rat) / ((1 : Nat) : Rat) := rv_lit (by decide) (by decide) (by intro d hd; subst hd; decide +kernel)
theorem u40_of {x : Nat} (cx : CF x) (h : ((!(feq x 0)) && (!((fle 4427038433705197568 (fabs x)) && (fle (fabs x) 4787326403894837248)))) = false) : U40 x := by
  have k1 : ((1 : Nat) : Rat) = 1 := rfl
  have k2 : ((1099511627776 : Nat) : Rat) = 1099511627776 := rfl
  cases h1 : feq x 0
  · rw [h1] at h
    have h2 : ((fle 4427038433705197568 (fabs x)) && (fle (fabs x) 4787326403894837248)) = true := by
      cases h3 : ((fle 4427038433705197568 (fabs x)) && (fle (fabs x) 4787326403894837248))
      · rw [h3] at h; cases h
      · rfl
    simp only [Bool.and_eq_true] at h2
    obtain ⟨g1, g2⟩ := h2
    have hq : fin (fabs x) = true := fin_between g1 g2 (by decide) (by decide)
    have hn : nanb x = false := by have := fin_not_nan hq; rwa [nanb_fabs] at this
    have ff : fin x = true := by
      have e := fabs_of hn
      rw [e, fin_iff] at hq
      have r2 : rungOf (rungOf x) = rungOf x := by unfold rungOf; omega
      rw [r2] at hq
      exact fin_iff.2 hq
    rw [rv_le (by decide) hq, decide_eq_true_eq, rv_l40, k1, k2] at g1
    rw [rv_le hq (by decide), decide_eq_true_eq, rv_h40, k1, k2] at g2
    refine ⟨ff, .inr ⟨?_, ?_⟩⟩ <;> grind
  · have hn : nanb x = false := by
      cases hn : nanb x
      · rfl
      · rw [feq_nan (.inl hn)] at h1; cases h1
    have hl : x < 18446744073709551616 := cx.lt
    have ff : fin x = true := by
      rcases (feq_zero hl hn).1 h1 with e | e <;> rw [e] <;> decide
    have hz : rv x = 0 := by
      rw [feq_val (fin_not_nan ff) (by decide)] at h1
      simp only [decide_eq_true_eq] at h1
      have e : sval 0 = 0 := by decide
      unfold rv; rw [h1, e]; grind
    refine ⟨ff, .inl ?_⟩
    obtain ⟨_, p1, _⟩ := rv_abs ff
    rw [p1 (by grind), hz]
theorem usuals_say (r0 : Int) (r1 : Int) (r2 : Nat) (r3 : Nat) (r4 : Nat) (r5 : Nat) (r6 : Nat) (r7 : Nat) (r8 : Nat) (r9 : Nat) (r10 : Nat) (r11 : Nat) (r12 : Int) (r13 : Nat) (a0 : Nat) (a1 : Nat) (a2 : Nat) (a3 : Nat) (a4 : Nat) (b0 : Nat) (b1 : Nat) (b2 : Nat) (b3 : Nat) (b4 : Nat) (cr2 : CF r2) (cr3 : CF r3) (cr4 : CF r4) (cr5 : CF r5) (cr6 : CF r6) (cr7 : CF r7) (cr8 : CF r8) (cr9 : CF r9) (cr10 : CF r10) (cr11 : CF r11) (cr13 : CF r13) (ca0 : CF a0) (ca1 : CF a1) (ca2 : CF a2) (ca3 : CF a3) (ca4 : CF a4) (cb0 : CF b0) (cb1 : CF b1) (cb2 : CF b2) (cb3 : CF b3) (cb4 : CF b4) (h : s_law20_usuals_0 r0 r1 r2 r3 r4 r5 r6 r7 r8 r9 r10 r11 r12 r13 a0 a1 a2 a3 a4 b0 b1 b2 b3 b4 = true) :
    (U40 r2 ∧ U40 r3 ∧ U40 r4 ∧ U40 r5 ∧ U40 r6 ∧ U40 r7 ∧ U40 r8 ∧ U40 r11 ∧ U40 r13 ∧ U40 r9) ∧ (U40 a0 ∧ U40 a1 ∧ U40 a2 ∧ U40 a3 ∧ U40 a4 ∧ U40 b0 ∧ U40 b1 ∧ U40 b2 ∧ U40 b3 ∧ U40 b4) ∧ s_rows_fits_0 r0 r1 r2 r3 r4 r5 r6 r7 r8 r9 r10 r11 r12 r13 = true ∧ fle 0 a0 = true ∧ fle 0 a1 = true ∧ fle 0 b0 = true ∧ fle 0 b1 = true := by
  unfold s_law20_usuals_0 at h
  simp only [] at h
  have u_r2 := @u40_of r2 cr2
  generalize ((!(feq r2 0)) && (!((fle 4427038433705197568 (fabs r2)) && (fle (fabs r2) 4787326403894837248)))) = y_r2 at *
  have u_r3 := @u40_of r3 cr3
  generalize ((!(feq r3 0)) && (!((fle 4427038433705197568 (fabs r3)) && (fle (fabs r3) 4787326403894837248)))) = y_r3 at *
  have u_r4 := @u40_of r4 cr4
  generalize ((!(feq r4 0)) && (!((fle 4427038433705197568 (fabs r4)) && (fle (fabs r4) 4787326403894837248)))) = y_r4 at *
  have u_r5 := @u40_of r5 cr5
  generalize ((!(feq r5 0)) && (!((fle 4427038433705197568 (fabs r5)) && (fle (fabs r5) 4787326403894837248)))) = y_r5 at *
  have u_r6 := @u40_of r6 cr6
  generalize ((!(feq r6 0)) && (!((fle 4427038433705197568 (fabs r6)) && (fle (fabs r6) 4787326403894837248)))) = y_r6 at *
  have u_r7 := @u40_of r7 cr7
  generalize ((!(feq r7 0)) && (!((fle 4427038433705197568 (fabs r7)) && (fle (fabs r7) 4787326403894837248)))) = y_r7 at *
  have u_r8 := @u40_of r8 cr8
  generalize ((!(feq r8 0)) && (!((fle 4427038433705197568 (fabs r8)) && (fle (fabs r8) 4787326403894837248)))) = y_r8 at *
  have u_r11 := @u40_of r11 cr11
  generalize ((!(feq r11 0)) && (!((fle 4427038433705197568 (fabs r11)) && (fle (fabs r11) 4787326403894837248)))) = y_r11 at *
  have u_r13 := @u40_of r13 cr13
  generalize ((!(feq r13 0)) && (!((fle 4427038433705197568 (fabs r13)) && (fle (fabs r13) 4787326403894837248)))) = y_r13 at *
  have u_r9 := @u40_of r9 cr9
  generalize ((!(feq r9 0)) && (!((fle 4427038433705197568 (fabs r9)) && (fle (fabs r9) 4787326403894837248)))) = y_r9 at *
  have u_a0 := @u40_of a0 ca0
  generalize ((!(feq a0 0)) && (!((fle 4427038433705197568 (fabs a0)) && (fle (fabs a0) 4787326403894837248)))) = y_a0 at *
  have u_a1 := @u40_of a1 ca1
  generalize ((!(feq a1 0)) && (!((fle 4427038433705197568 (fabs a1)) && (fle (fabs a1) 4787326403894837248)))) = y_a1 at *
  have u_a2 := @u40_of a2 ca2
  generalize ((!(feq a2 0)) && (!((fle 4427038433705197568 (fabs a2)) && (fle (fabs a2) 4787326403894837248)))) = y_a2 at *
  have u_a3 := @u40_of a3 ca3
  generalize ((!(feq a3 0)) && (!((fle 4427038433705197568 (fabs a3)) && (fle (fabs a3) 4787326403894837248)))) = y_a3 at *
  have u_a4 := @u40_of a4 ca4
  generalize ((!(feq a4 0)) && (!((fle 4427038433705197568 (fabs a4)) && (fle (fabs a4) 4787326403894837248)))) = y_a4 at *
  have u_b0 := @u40_of b0 cb0
  generalize ((!(feq b0 0)) && (!((fle 4427038433705197568 (fabs b0)) && (fle (fabs b0) 4787326403894837248)))) = y_b0 at *
  have u_b1 := @u40_of b1 cb1
  generalize ((!(feq b1 0)) && (!((fle 4427038433705197568 (fabs b1)) && (fle (fabs b1) 4787326403894837248)))) = y_b1 at *
  have u_b2 := @u40_of b2 cb2
  generalize ((!(feq b2 0)) && (!((fle 4427038433705197568 (fabs b2)) && (fle (fabs b2) 4787326403894837248)))) = y_b2 at *
  have u_b3 := @u40_of b3 cb3
  generalize ((!(feq b3 0)) && (!((fle 4427038433705197568 (fabs b3)) && (fle (fabs b3) 4787326403894837248)))) = y_b3 at *
  have u_b4 := @u40_of b4 cb4
  generalize ((!(feq b4 0)) && (!((fle 4427038433705197568 (fabs b4)) && (fle (fabs b4) 4787326403894837248)))) = y_b4 at *
  generalize ((!(feq r10 0)) && (!((fle 4427038433705197568 (fabs r10)) && (fle (fabs r10) 4787326403894837248)))) = y_r10 at *
  rcases y_r2 with _ | _
  rotate_left
  · exact absurd h Bool.false_ne_true
  rcases y_r3 with _ | _
  rotate_left
  · exact absurd h Bool.false_ne_true
  rcases y_r4 with _ | _
  rotate_left
  · exact absurd h Bool.false_ne_true
  rcases y_r5 with _ | _
  rotate_left
  · exact absurd h Bool.false_ne_true
  rcases y_r6 with _ | _
  rotate_left
  · exact absurd h Bool.false_ne_true
  rcases y_r7 with _ | _
  rotate_left
  · exact absurd h Bool.false_ne_true
  rcases y_r8 with _ | _
  rotate_left
  · exact absurd h Bool.false_ne_true
  rcases y_r11 with _ | _
  rotate_left
  · exact absurd h Bool.false_ne_true
  rcases y_r13 with _ | _
  rotate_left
  · exact absurd h Bool.false_ne_true
  rcases y_r9 with _ | _
  rotate_left
  · exact absurd h Bool.false_ne_true
  rcases y_a0 with _ | _
  rotate_left
  · exact absurd h Bool.false_ne_true
  rcases y_a1 with _ | _
  rotate_left
  · exact absurd h Bool.false_ne_true
  rcases y_a2 with _ | _
  rotate_left
  · exact absurd h Bool.false_ne_true
  rcases y_a3 with _ | _
  rotate_left
  · exact absurd h Bool.false_ne_true
  rcases y_a4 with _ | _
  rotate_left
  · exact absurd h Bool.false_ne_true
  rcases y_b0 with _ | _
  rotate_left
  · exact absurd h Bool.false_ne_true
  rcases y_b1 with _ | _
  rotate_left
  · exact absurd h Bool.false_ne_true
  rcases y_b2 with _ | _
  rotate_left
  · exact absurd h Bool.false_ne_true
  rcases y_b3 with _ | _
  rotate_left
  · exact absurd h Bool.false_ne_true
  rcases y_b4 with _ | _
  rotate_left
  · exact absurd h Bool.false_ne_true
  have hc : ieq (s_rows_Check_0 r0 r1 r2 r3 r4 r5 r6 r7 r8 r9 r10 r11 r12 r13 (1099511627776 : Int) (1099511627776 : Int)) (0 : Int) = true ∧ fle 0 a0 = true ∧ fle 0 a1 = true ∧ fle 0 b0 = true ∧ fle 0 b1 = true := by
    simp only [Bool.and_eq_true] at h
    exact ⟨h.1.1.1.1.2, h.1.1.1.2, h.1.1.2, h.1.2, h.2⟩
  obtain ⟨hc, n1, n2, n3, n4⟩ := hc
  have hf : s_rows_fits_0 r0 r1 r2 r3 r4 r5 r6 r7 r8 r9 r10 r11 r12 r13 = true := by
    cases hf : s_rows_fits_0 r0 r1 r2 r3 r4 r5 r6 r7 r8 r9 r10 r11 r12 r13
    · unfold s_rows_Check_0 at hc; rw [hf] at hc; exact absurd hc (by simp [ieq])
    · rfl
  exact ⟨⟨u_r2 rfl, u_r3 rfl, u_r4 rfl, u_r5 rfl, u_r6 rfl, u_r7 rfl, u_r8 rfl, u_r11 rfl, u_r13 rfl, u_r9 rfl⟩, ⟨u_a0 rfl, u_a1 rfl, u_a2 rfl, u_a3 rfl, u_a4 rfl, u_b0 rfl, u_b1 rfl, u_b2 rfl, u_b3 rfl, u_b4 rfl⟩, hf, n1, n2, n3, n4⟩
theorem comp {s x D : Nat} {P : Rat} (us : U40 s) (cs : CF s) (fx : fin x = true) (fD : fin D = true) (hP : Us (1 / 1329227995784915872903807060280344576) 1329227995784915872903807060280344576 P) (D1 : 9 / 10 * P ≤ rv D) (D2 : rv D ≤ 11 / 10 * P)
    (x1 : -((rv (fabs s) + P) / 1125899906842624) ≤ rv x - rv s) (x2 : rv x - rv s ≤ (rv (fabs s) + P) / 1125899906842624) : s_law20_nearly_0 x s (fadd (fabs s) D) = true := by
  obtain ⟨fs, hs⟩ := us
  have bg := big_200
  have et := eta_200
  have e0 := eta_pos
  have s0 := hs.nonneg (by grind)
  have P0 := hP.nonneg (by grind)
  have s9 := hs.le (by grind)
  have P9 := hP.le (by grind)
  obtain ⟨fas, _, _⟩ := abs_cases fs
  obtain ⟨fT, t1, t2⟩ := rv_add (B := 2 * (rv (fabs s) + P)) fas fD (by grind) (by grind) (by grind)
  have hW : rv (fabs s) + P = 0 ∨ 1 / 1329227995784915872903807060280344576 ≤ rv (fabs s) + P := by
    rcases hs with h | ⟨h, _⟩
    · rcases hP with h' | ⟨h', _⟩
      · left; grind
      · right; grind
    · right; grind
  generalize hT : fadd (fabs s) D = T at *
  have T0 : (rv (fabs s) + P) / 2 ≤ rv T := by grind
  have T9 : rv T ≤ 2 * (rv (fabs s) + P) := by grind
  obtain ⟨faT, p1, _, _⟩ := rv_abs fT
  have eT := p1 (by grind)
  have k1 : ((1 : Nat) : Rat) = 1 := rfl
  have k2 : ((1099511627776 : Nat) : Rat) = 1099511627776 := rfl
  have el := rv_l40
  rw [k1, k2] at el
  have hm : rv 4427038433705197568 * rv (fabs T) = rv T / 1099511627776 := by rw [el, eT]; grind
  have W0 : 0 ≤ rv (fabs s) + P := by grind
  have W9 : rv (fabs s) + P ≤ big := by grind
  generalize rv (fabs s) + P = W at *
  have z1 : W = 0 → rv 4427038433705197568 * rv (fabs T) = 0 := by intro h; rw [hm]; grind
  have z3 : W ≠ 0 → eta ≤ W / 1152921504606846976 := by
    intro h
    rcases hW with h' | h'
    · exact absurd h' h
    · grind
  obtain ⟨fM, m1, m2⟩ := mul_w (B := W) (W := W) (a := 4427038433705197568) (b := fabs T) (by decide) faT (by grind) (by rw [hm]; grind) (by rw [hm]; grind) ⟨z1, z3⟩
  rw [hm] at m1 m2
  obtain ⟨fd, d1, d2⟩ := rv_sub (B := W / 1125899906842624) cs.lt fx fs (by grind) x1 x2
  obtain ⟨fad, q1, q2, _⟩ := rv_abs fd
  unfold s_law20_nearly_0
  rw [rv_le fad fM, decide_eq_true_eq]
  rcases Rat.le_total (a := 0) (b := rv (fsub x s)) with h | h
  · rw [q1 h]; grind
  · rw [q2 h]; grind
/-- There by d, and back. -/
theorem there_back {s d : Nat} {P : Rat} (us : U40 s) (cd : CF d) (fd : fin d = true) (hP : Us (1 / 1329227995784915872903807060280344576) 1329227995784915872903807060280344576 P) (hd : rv (fabs d) ≤ 11 / 10 * P) :
    fin (fadd (fadd s d) (fneg d)) = true ∧ -((rv (fabs s) + P) / 1125899906842624) ≤ rv (fadd (fadd s d) (fneg d)) - rv s ∧ rv (fadd (fadd s d) (fneg d)) - rv s ≤ (rv (fabs s) + P) / 1125899906842624 := by
  obtain ⟨fs, hs⟩ := us
  have bg := big_200
  have s0 := hs.nonneg (by grind)
  have P0 := hP.nonneg (by grind)
  have s9 := hs.le (by grind)
  have P9 := hP.le (by grind)
  obtain ⟨_, _, as1⟩ := abs_cases fs
  obtain ⟨_, ad0, ad⟩ := abs_cases fd
  have q1 : -(rv (fabs s)) ≤ rv s ∧ rv s ≤ rv (fabs s) := by rcases as1 with h | h <;> grind
  have q2 : -(rv (fabs d)) ≤ rv d ∧ rv d ≤ rv (fabs d) := by rcases ad with h | h <;> grind
  obtain ⟨f1, a1, a2⟩ := rv_add (B := 2 * (rv (fabs s) + P)) fs fd (by grind) (by grind) (by grind)
  obtain ⟨nd, fnd⟩ := rv_neg cd.lt fd
  obtain ⟨f2, b1, b2⟩ := rv_add (B := 2 * (rv (fabs s) + P)) f1 fnd (by grind) (by rw [nd]; grind) (by rw [nd]; grind)
  rw [nd] at b1 b2
  refine ⟨f2, ?_, ?_⟩ <;> grind
theorem fneg_mul3 {m p v : Nat} (cp : CF p) : fmul (fmul m (fneg p)) v = fneg (fmul (fmul m p) v) := by
  rw [fmul_neg_r cp.lt, fmul_neg_l (CF.mul _ _).lt]
theorem fneg_mul3' {i p t : Nat} (cp : CF p) : fmul i (fmul (fneg p) t) = fneg (fmul i (fmul p t)) := by
  rw [fmul_neg_l cp.lt, fmul_neg_r (CF.mul _ _).lt]
theorem sval_nonneg {m : Nat} (fm : fin m = true) (h : fle 0 m = true) : 0 ≤ rv m := by
  rw [rv_le (by decide) fm, decide_eq_true_eq] at h
  have e : rv 0 = 0 := by
    have : sval 0 = 0 := by decide
    unfold rv; rw [this]; grind
  grind
/-- One part of a speed. -/
theorem speed_back {m p v s : Nat} (um : U40 m) (up : U40 p) (uv : U40 v) (us : U40 s) (cm : CF m) (cp : CF p) (cv : CF v) (cs : CF s) (hm : fle 0 m = true) :
    s_law20_nearly_0 (bif !(feq m 0) then fadd (bif !(feq m 0) then fadd s (fmul (fmul m p) v) else s) (fmul (fmul m (fneg p)) v) else (bif !(feq m 0) then fadd s (fmul (fmul m p) v) else s)) s (fadd (fabs s) (fmul (fmul m (fabs p)) (fabs v))) = true := by
  obtain ⟨fp', _, _⟩ := abs_cases up.1
  obtain ⟨fv', _, _⟩ := abs_cases uv.1
  obtain ⟨_, p1, _, p0⟩ := rv_abs up.1
  obtain ⟨_, v1, _, v0⟩ := rv_abs uv.1
  have epp : rv (fabs (fabs p)) = rv (fabs p) := (rv_abs fp').2.1 p0
  have evv : rv (fabs (fabs v)) = rv (fabs v) := (rv_abs fv').2.1 v0
  obtain ⟨_, fd, d1, d2, _, hP⟩ := abs_mul3 um.1 up.1 uv.1 um.2 up.2 uv.2
  obtain ⟨_, fD, D1, D2, D3, _⟩ := abs_mul3 um.1 fp' fv' um.2 (by rw [epp]; exact up.2) (by rw [evv]; exact uv.2)
  rw [epp, evv] at D1 D2
  have D0 := D3 (sval_nonneg um.1 hm) p0 v0
  have eD := (rv_abs fD).2.1 D0
  rw [eD] at D1 D2
  cases h : feq m 0
  · show s_law20_nearly_0 (fadd (fadd s (fmul (fmul m p) v)) (fmul (fmul m (fneg p)) v)) s _ = true
    rw [fneg_mul3 cp]
    obtain ⟨g1, g2, g3⟩ := there_back us (CF.mul _ _) fd hP d2
    exact comp us cs g1 fD hP D1 D2 g2 g3
  · show s_law20_nearly_0 s s _ = true
    have P0 := hP.nonneg (by grind)
    have s0 := us.2.nonneg (by grind)
    exact comp us cs us.1 fD hP D1 D2 (by grind) (by grind)
theorem spin_back {m p v s : Nat} (um : U40 m) (up : U40 p) (uv : U40 v) (us : U40 s) (cm : CF m) (cp : CF p) (cv : CF v) (cs : CF s) (hm : fle 0 m = true) :
    s_law20_nearly_0 (bif !(feq m 0) then fadd (bif !(feq m 0) then fadd s (fmul m (fmul p v)) else s) (fmul m (fmul (fneg p) v)) else (bif !(feq m 0) then fadd s (fmul m (fmul p v)) else s)) s (fadd (fabs s) (fmul (fmul m (fabs p)) (fabs v))) = true := by
  obtain ⟨fp', _, _⟩ := abs_cases up.1
  obtain ⟨fv', _, _⟩ := abs_cases uv.1
  obtain ⟨_, p1, _, p0⟩ := rv_abs up.1
  obtain ⟨_, v1, _, v0⟩ := rv_abs uv.1
  have epp : rv (fabs (fabs p)) = rv (fabs p) := (rv_abs fp').2.1 p0
  have evv : rv (fabs (fabs v)) = rv (fabs v) := (rv_abs fv').2.1 v0
  obtain ⟨_, fd, d1, d2, _, hP⟩ := abs_mul3 up.1 uv.1 um.1 up.2 uv.2 um.2
  rw [fmul_comm] at fd d2
  obtain ⟨_, fD, D1, D2, D3, _⟩ := abs_mul3 um.1 fp' fv' um.2 (by rw [epp]; exact up.2) (by rw [evv]; exact uv.2)
  rw [epp, evv] at D1 D2
  have eP : rv (fabs m) * rv (fabs p) * rv (fabs v) = rv (fabs p) * rv (fabs v) * rv (fabs m) := by grind
  rw [eP] at D1 D2
  have D0 := D3 (sval_nonneg um.1 hm) p0 v0
  have eD := (rv_abs fD).2.1 D0
  rw [eD] at D1 D2
  cases h : feq m 0
  · show s_law20_nearly_0 (fadd (fadd s (fmul m (fmul p v))) (fmul m (fmul (fneg p) v))) s _ = true
    rw [fneg_mul3' cp]
    obtain ⟨g1, g2, g3⟩ := there_back us (CF.mul _ _) fd hP d2
    exact comp us cs g1 fD hP D1 D2 g2 g3
  · show s_law20_nearly_0 s s _ = true
    have P0 := hP.nonneg (by grind)
    have s0 := us.2.nonneg (by grind)
    exact comp us cs us.1 fD hP D1 D2 (by grind) (by grind)
theorem V_of_rv0 {a : Nat} (fa : fin a = true) (h : rv a = 0) : V a 0 := ⟨fa, rv_zero_sval h⟩
theorem rv0 : rv 0 = 0 := by
  have : sval 0 = 0 := by decide
  unfold rv; rw [this]; grind
theorem speed_still {m v s : Nat} (um : U40 m) (uv : U40 v) (us : U40 s) : feq (bif !(feq m 0) then fadd s (fmul (fmul m 0) v) else s) s = true := by
  cases h : feq m 0
  · show feq (fadd s (fmul (fmul m 0) v)) s = true
    obtain ⟨f1, e1⟩ := rv_mul_zero (a := m) (b := 0) um.1 (by decide) (by rw [rv0]; grind)
    obtain ⟨f2, e2⟩ := rv_mul_zero f1 uv.1 (by rw [e1]; grind)
    exact V.feq_of (V.add (V.self us.1) (V_of_rv0 f2 e2) (V.self us.1) (by omega)) (V.self us.1)
  · exact feq_refl (fin_not_nan us.1)
theorem spin_still {m v s : Nat} (um : U40 m) (uv : U40 v) (us : U40 s) : feq (bif !(feq m 0) then fadd s (fmul m (fmul 0 v)) else s) s = true := by
  cases h : feq m 0
  · show feq (fadd s (fmul m (fmul 0 v))) s = true
    obtain ⟨f1, e1⟩ := rv_mul_zero (a := 0) (b := v) (by decide) uv.1 (by rw [rv0]; grind)
    obtain ⟨f2, e2⟩ := rv_mul_zero um.1 f1 (by rw [e1]; grind)
    exact V.feq_of (V.add (V.self us.1) (V_of_rv0 f2 e2) (V.self us.1) (by omega)) (V.self us.1)
  · exact feq_refl (fin_not_nan us.1)
theorem law_RowBack (r0 : Int) (r1 : Int) (r2 : Nat) (r3 : Nat) (r4 : Nat) (r5 : Nat) (r6 : Nat) (r7 : Nat) (r8 : Nat) (r9 : Nat) (r10 : Nat) (r11 : Nat) (r12 : Int) (r13 : Nat) (a0 : Nat) (a1 : Nat) (a2 : Nat) (a3 : Nat) (a4 : Nat) (b0 : Nat) (b1 : Nat) (b2 : Nat) (b3 : Nat) (b4 : Nat) (k0 : IntKind.i64.min ≤ r0 ∧ r0 ≤ IntKind.i64.max) (k1 : IntKind.i64.min ≤ r1 ∧ r1 ≤ IntKind.i64.max) (cr2 : CF r2) (cr3 : CF r3) (cr4 : CF r4) (cr5 : CF r5) (cr6 : CF r6) (cr7 : CF r7) (cr8 : CF r8) (cr9 : CF r9) (cr10 : CF r10) (cr11 : CF r11) (k12 : IntKind.i64.min ≤ r12 ∧ r12 ≤ IntKind.i64.max) (cr13 : CF r13) (ca0 : CF a0) (ca1 : CF a1) (ca2 : CF a2) (ca3 : CF a3) (ca4 : CF a4) (cb0 : CF b0) (cb1 : CF b1) (cb2 : CF b2) (cb3 : CF b3) (cb4 : CF b4) : T_law20_RowBack r0 r1 r2 r3 r4 r5 r6 r7 r8 r9 r10 r11 r12 r13 a0 a1 a2 a3 a4 b0 b1 b2 b3 b4 = true := by
  unfold T_law20_RowBack
  simp only []
  cases hu : s_law20_usuals_0 r0 r1 r2 r3 r4 r5 r6 r7 r8 r9 r10 r11 r12 r13 a0 a1 a2 a3 a4 b0 b1 b2 b3 b4
  · rfl
  obtain ⟨⟨ur2, ur3, ur4, ur5, ur6, ur7, ur8, ur11, ur13, ur9⟩, ⟨ua0, ua1, ua2, ua3, ua4, ub0, ub1, ub2, ub3, ub4⟩, hf, n1, n2, n3, n4⟩ := usuals_say r0 r1 r2 r3 r4 r5 r6 r7 r8 r9 r10 r11 r12 r13 a0 a1 a2 a3 a4 b0 b1 b2 b3 b4 cr2 cr3 cr4 cr5 cr6 cr7 cr8 cr9 cr10 cr11 cr13 ca0 ca1 ca2 ca3 ca4 cb0 cb1 cb2 cb3 cb4 hu
  have q1 := rests_of (a2 := a2) (a3 := a3) (a4 := a4) ca0 ca1 ua0.1 ua1.1 n1 n2
  have q2 := rests_of (a2 := b2) (a3 := b3) (a4 := b4) cb0 cb1 ub0.1 ub1.1 n3 n4
  have k1 : s_rows_asked_0 r0 r1 r2 r3 r4 r5 r6 r7 r8 r9 r10 r11 r12 r13 a0 a1 a2 a3 a4 b0 b1 b2 b3 b4 = 0 := asked_of r0 r1 r2 r3 r4 r5 r6 r7 r8 r9 r10 r11 r12 r13 a0 a1 a2 a3 a4 b0 b1 b2 b3 b4 hf q1 q2
  have w0 : s_rows_Warm_0 r0 r1 r2 r3 r4 r5 r6 r7 r8 r9 r10 r11 r12 r13 a0 a1 a2 a3 a4 b0 b1 b2 b3 b4 = s_rows_pushed_0 r0 r1 r2 r3 r4 r5 r6 r7 r8 r9 r10 r11 r12 r13 a0 a1 a2 a3 a4 b0 b1 b2 b3 b4 r11 := by unfold s_rows_Warm_0; rw [k1]; rfl
  have w1 : s_rows_Warm_1 r0 r1 r2 r3 r4 r5 r6 r7 r8 r9 r10 r11 r12 r13 a0 a1 a2 a3 a4 b0 b1 b2 b3 b4 = s_rows_pushed_1 r0 r1 r2 r3 r4 r5 r6 r7 r8 r9 r10 r11 r12 r13 a0 a1 a2 a3 a4 b0 b1 b2 b3 b4 r11 := by unfold s_rows_Warm_1; rw [k1]; rfl
  have w2 : s_rows_Warm_2 r0 r1 r2 r3 r4 r5 r6 r7 r8 r9 r10 r11 r12 r13 a0 a1 a2 a3 a4 b0 b1 b2 b3 b4 = s_rows_pushed_2 r0 r1 r2 r3 r4 r5 r6 r7 r8 r9 r10 r11 r12 r13 a0 a1 a2 a3 a4 b0 b1 b2 b3 b4 r11 := by unfold s_rows_Warm_2; rw [k1]; rfl
  have w3 : s_rows_Warm_3 r0 r1 r2 r3 r4 r5 r6 r7 r8 r9 r10 r11 r12 r13 a0 a1 a2 a3 a4 b0 b1 b2 b3 b4 = s_rows_pushed_3 r0 r1 r2 r3 r4 r5 r6 r7 r8 r9 r10 r11 r12 r13 a0 a1 a2 a3 a4 b0 b1 b2 b3 b4 r11 := by unfold s_rows_Warm_3; rw [k1]; rfl
  have w4 : s_rows_Warm_4 r0 r1 r2 r3 r4 r5 r6 r7 r8 r9 r10 r11 r12 r13 a0 a1 a2 a3 a4 b0 b1 b2 b3 b4 = s_rows_pushed_4 r0 r1 r2 r3 r4 r5 r6 r7 r8 r9 r10 r11 r12 r13 a0 a1 a2 a3 a4 b0 b1 b2 b3 b4 r11 := by unfold s_rows_Warm_4; rw [k1]; rfl
  have w5 : s_rows_Warm_5 r0 r1 r2 r3 r4 r5 r6 r7 r8 r9 r10 r11 r12 r13 a0 a1 a2 a3 a4 b0 b1 b2 b3 b4 = s_rows_pushed_5 r0 r1 r2 r3 r4 r5 r6 r7 r8 r9 r10 r11 r12 r13 a0 a1 a2 a3 a4 b0 b1 b2 b3 b4 r11 := by unfold s_rows_Warm_5; rw [k1]; rfl
  have w6 : s_rows_Warm_6 r0 r1 r2 r3 r4 r5 r6 r7 r8 r9 r10 r11 r12 r13 a0 a1 a2 a3 a4 b0 b1 b2 b3 b4 = s_rows_pushed_6 r0 r1 r2 r3 r4 r5 r6 r7 r8 r9 r10 r11 r12 r13 a0 a1 a2 a3 a4 b0 b1 b2 b3 b4 r11 := by unfold s_rows_Warm_6; rw [k1]; rfl
  have w7 : s_rows_Warm_7 r0 r1 r2 r3 r4 r5 r6 r7 r8 r9 r10 r11 r12 r13 a0 a1 a2 a3 a4 b0 b1 b2 b3 b4 = s_rows_pushed_7 r0 r1 r2 r3 r4 r5 r6 r7 r8 r9 r10 r11 r12 r13 a0 a1 a2 a3 a4 b0 b1 b2 b3 b4 r11 := by unfold s_rows_Warm_7; rw [k1]; rfl
  have w8 : s_rows_Warm_8 r0 r1 r2 r3 r4 r5 r6 r7 r8 r9 r10 r11 r12 r13 a0 a1 a2 a3 a4 b0 b1 b2 b3 b4 = s_rows_pushed_8 r0 r1 r2 r3 r4 r5 r6 r7 r8 r9 r10 r11 r12 r13 a0 a1 a2 a3 a4 b0 b1 b2 b3 b4 r11 := by unfold s_rows_Warm_8; rw [k1]; rfl
  have w9 : s_rows_Warm_9 r0 r1 r2 r3 r4 r5 r6 r7 r8 r9 r10 r11 r12 r13 a0 a1 a2 a3 a4 b0 b1 b2 b3 b4 = s_rows_pushed_9 r0 r1 r2 r3 r4 r5 r6 r7 r8 r9 r10 r11 r12 r13 a0 a1 a2 a3 a4 b0 b1 b2 b3 b4 r11 := by unfold s_rows_Warm_9; rw [k1]; rfl
  have w10 : s_rows_Warm_10 r0 r1 r2 r3 r4 r5 r6 r7 r8 r9 r10 r11 r12 r13 a0 a1 a2 a3 a4 b0 b1 b2 b3 b4 = 0 := by unfold s_rows_Warm_10; rw [k1]; rfl
  have p0 : s_rows_pushed_0 r0 r1 r2 r3 r4 r5 r6 r7 r8 r9 r10 r11 r12 r13 a0 a1 a2 a3 a4 b0 b1 b2 b3 b4 r11 = a0 := rfl
  have p1 : s_rows_pushed_1 r0 r1 r2 r3 r4 r5 r6 r7 r8 r9 r10 r11 r12 r13 a0 a1 a2 a3 a4 b0 b1 b2 b3 b4 r11 = a1 := rfl
  have p5 : s_rows_pushed_5 r0 r1 r2 r3 r4 r5 r6 r7 r8 r9 r10 r11 r12 r13 a0 a1 a2 a3 a4 b0 b1 b2 b3 b4 r11 = b0 := rfl
  have p6 : s_rows_pushed_6 r0 r1 r2 r3 r4 r5 r6 r7 r8 r9 r10 r11 r12 r13 a0 a1 a2 a3 a4 b0 b1 b2 b3 b4 r11 = b1 := rfl
  have hfn := fits_push r0 r1 r2 r3 r4 r5 r6 r7 r8 r9 r10 r11 r12 r13 (fneg r11) hf (finite_of (CF.fneg cr11) (rv_neg cr11.lt ur11.1).2)
  have hf0 := fits_push r0 r1 r2 r3 r4 r5 r6 r7 r8 r9 r10 r11 r12 r13 0 hf (by unfold s_num_Finite_float64__0; exact V.feq_of (V.sub (by decide) V.zero V.zero V.zero (by omega)) V.zero)
  have q3 := rests_of (a2 := (s_rows_pushed_2 r0 r1 r2 r3 r4 r5 r6 r7 r8 r9 r10 r11 r12 r13 a0 a1 a2 a3 a4 b0 b1 b2 b3 b4 r11)) (a3 := (s_rows_pushed_3 r0 r1 r2 r3 r4 r5 r6 r7 r8 r9 r10 r11 r12 r13 a0 a1 a2 a3 a4 b0 b1 b2 b3 b4 r11)) (a4 := (s_rows_pushed_4 r0 r1 r2 r3 r4 r5 r6 r7 r8 r9 r10 r11 r12 r13 a0 a1 a2 a3 a4 b0 b1 b2 b3 b4 r11)) ca0 ca1 ua0.1 ua1.1 n1 n2
  have q4 := rests_of (a2 := (s_rows_pushed_7 r0 r1 r2 r3 r4 r5 r6 r7 r8 r9 r10 r11 r12 r13 a0 a1 a2 a3 a4 b0 b1 b2 b3 b4 r11)) (a3 := (s_rows_pushed_8 r0 r1 r2 r3 r4 r5 r6 r7 r8 r9 r10 r11 r12 r13 a0 a1 a2 a3 a4 b0 b1 b2 b3 b4 r11)) (a4 := (s_rows_pushed_9 r0 r1 r2 r3 r4 r5 r6 r7 r8 r9 r10 r11 r12 r13 a0 a1 a2 a3 a4 b0 b1 b2 b3 b4 r11)) cb0 cb1 ub0.1 ub1.1 n3 n4
  have k2 : s_rows_asked_0 r0 r1 r2 r3 r4 r5 r6 r7 r8 r9 r10 (fneg r11) r12 r13 a0 a1 (s_rows_pushed_2 r0 r1 r2 r3 r4 r5 r6 r7 r8 r9 r10 r11 r12 r13 a0 a1 a2 a3 a4 b0 b1 b2 b3 b4 r11) (s_rows_pushed_3 r0 r1 r2 r3 r4 r5 r6 r7 r8 r9 r10 r11 r12 r13 a0 a1 a2 a3 a4 b0 b1 b2 b3 b4 r11) (s_rows_pushed_4 r0 r1 r2 r3 r4 r5 r6 r7 r8 r9 r10 r11 r12 r13 a0 a1 a2 a3 a4 b0 b1 b2 b3 b4 r11) b0 b1 (s_rows_pushed_7 r0 r1 r2 r3 r4 r5 r6 r7 r8 r9 r10 r11 r12 r13 a0 a1 a2 a3 a4 b0 b1 b2 b3 b4 r11) (s_rows_pushed_8 r0 r1 r2 r3 r4 r5 r6 r7 r8 r9 r10 r11 r12 r13 a0 a1 a2 a3 a4 b0 b1 b2 b3 b4 r11) (s_rows_pushed_9 r0 r1 r2 r3 r4 r5 r6 r7 r8 r9 r10 r11 r12 r13 a0 a1 a2 a3 a4 b0 b1 b2 b3 b4 r11) = 0 := asked_of _ _ _ _ _ _ _ _ _ _ _ _ _ _ _ _ _ _ _ _ _ _ _ _ hfn q3 q4
  have k3 : s_rows_asked_0 r0 r1 r2 r3 r4 r5 r6 r7 r8 r9 r10 0 r12 r13 a0 a1 a2 a3 a4 b0 b1 b2 b3 b4 = 0 := asked_of _ _ _ _ _ _ _ _ _ _ _ _ _ _ _ _ _ _ _ _ _ _ _ _ hf0 q1 q2
  rw [w0, w1, w2, w3, w4, w5, w6, w7, w8, w9, w10, p0, p1, p5, p6]
  have x0 : s_rows_Warm_0 r0 r1 r2 r3 r4 r5 r6 r7 r8 r9 r10 (fneg r11) r12 r13 a0 a1 (s_rows_pushed_2 r0 r1 r2 r3 r4 r5 r6 r7 r8 r9 r10 r11 r12 r13 a0 a1 a2 a3 a4 b0 b1 b2 b3 b4 r11) (s_rows_pushed_3 r0 r1 r2 r3 r4 r5 r6 r7 r8 r9 r10 r11 r12 r13 a0 a1 a2 a3 a4 b0 b1 b2 b3 b4 r11) (s_rows_pushed_4 r0 r1 r2 r3 r4 r5 r6 r7 r8 r9 r10 r11 r12 r13 a0 a1 a2 a3 a4 b0 b1 b2 b3 b4 r11) b0 b1 (s_rows_pushed_7 r0 r1 r2 r3 r4 r5 r6 r7 r8 r9 r10 r11 r12 r13 a0 a1 a2 a3 a4 b0 b1 b2 b3 b4 r11) (s_rows_pushed_8 r0 r1 r2 r3 r4 r5 r6 r7 r8 r9 r10 r11 r12 r13 a0 a1 a2 a3 a4 b0 b1 b2 b3 b4 r11) (s_rows_pushed_9 r0 r1 r2 r3 r4 r5 r6 r7 r8 r9 r10 r11 r12 r13 a0 a1 a2 a3 a4 b0 b1 b2 b3 b4 r11) = s_rows_pushed_0 r0 r1 r2 r3 r4 r5 r6 r7 r8 r9 r10 (fneg r11) r12 r13 a0 a1 (s_rows_pushed_2 r0 r1 r2 r3 r4 r5 r6 r7 r8 r9 r10 r11 r12 r13 a0 a1 a2 a3 a4 b0 b1 b2 b3 b4 r11) (s_rows_pushed_3 r0 r1 r2 r3 r4 r5 r6 r7 r8 r9 r10 r11 r12 r13 a0 a1 a2 a3 a4 b0 b1 b2 b3 b4 r11) (s_rows_pushed_4 r0 r1 r2 r3 r4 r5 r6 r7 r8 r9 r10 r11 r12 r13 a0 a1 a2 a3 a4 b0 b1 b2 b3 b4 r11) b0 b1 (s_rows_pushed_7 r0 r1 r2 r3 r4 r5 r6 r7 r8 r9 r10 r11 r12 r13 a0 a1 a2 a3 a4 b0 b1 b2 b3 b4 r11) (s_rows_pushed_8 r0 r1 r2 r3 r4 r5 r6 r7 r8 r9 r10 r11 r12 r13 a0 a1 a2 a3 a4 b0 b1 b2 b3 b4 r11) (s_rows_pushed_9 r0 r1 r2 r3 r4 r5 r6 r7 r8 r9 r10 r11 r12 r13 a0 a1 a2 a3 a4 b0 b1 b2 b3 b4 r11) (fneg r11) := by unfold s_rows_Warm_0; rw [k2]; rfl
  have x2 : s_rows_Warm_2 r0 r1 r2 r3 r4 r5 r6 r7 r8 r9 r10 (fneg r11) r12 r13 a0 a1 (s_rows_pushed_2 r0 r1 r2 r3 r4 r5 r6 r7 r8 r9 r10 r11 r12 r13 a0 a1 a2 a3 a4 b0 b1 b2 b3 b4 r11) (s_rows_pushed_3 r0 r1 r2 r3 r4 r5 r6 r7 r8 r9 r10 r11 r12 r13 a0 a1 a2 a3 a4 b0 b1 b2 b3 b4 r11) (s_rows_pushed_4 r0 r1 r2 r3 r4 r5 r6 r7 r8 r9 r10 r11 r12 r13 a0 a1 a2 a3 a4 b0 b1 b2 b3 b4 r11) b0 b1 (s_rows_pushed_7 r0 r1 r2 r3 r4 r5 r6 r7 r8 r9 r10 r11 r12 r13 a0 a1 a2 a3 a4 b0 b1 b2 b3 b4 r11) (s_rows_pushed_8 r0 r1 r2 r3 r4 r5 r6 r7 r8 r9 r10 r11 r12 r13 a0 a1 a2 a3 a4 b0 b1 b2 b3 b4 r11) (s_rows_pushed_9 r0 r1 r2 r3 r4 r5 r6 r7 r8 r9 r10 r11 r12 r13 a0 a1 a2 a3 a4 b0 b1 b2 b3 b4 r11) = s_rows_pushed_2 r0 r1 r2 r3 r4 r5 r6 r7 r8 r9 r10 (fneg r11) r12 r13 a0 a1 (s_rows_pushed_2 r0 r1 r2 r3 r4 r5 r6 r7 r8 r9 r10 r11 r12 r13 a0 a1 a2 a3 a4 b0 b1 b2 b3 b4 r11) (s_rows_pushed_3 r0 r1 r2 r3 r4 r5 r6 r7 r8 r9 r10 r11 r12 r13 a0 a1 a2 a3 a4 b0 b1 b2 b3 b4 r11) (s_rows_pushed_4 r0 r1 r2 r3 r4 r5 r6 r7 r8 r9 r10 r11 r12 r13 a0 a1 a2 a3 a4 b0 b1 b2 b3 b4 r11) b0 b1 (s_rows_pushed_7 r0 r1 r2 r3 r4 r5 r6 r7 r8 r9 r10 r11 r12 r13 a0 a1 a2 a3 a4 b0 b1 b2 b3 b4 r11) (s_rows_pushed_8 r0 r1 r2 r3 r4 r5 r6 r7 r8 r9 r10 r11 r12 r13 a0 a1 a2 a3 a4 b0 b1 b2 b3 b4 r11) (s_rows_pushed_9 r0 r1 r2 r3 r4 r5 r6 r7 r8 r9 r10 r11 r12 r13 a0 a1 a2 a3 a4 b0 b1 b2 b3 b4 r11) (fneg r11) := by unfold s_rows_Warm_2; rw [k2]; rfl
  have x3 : s_rows_Warm_3 r0 r1 r2 r3 r4 r5 r6 r7 r8 r9 r10 (fneg r11) r12 r13 a0 a1 (s_rows_pushed_2 r0 r1 r2 r3 r4 r5 r6 r7 r8 r9 r10 r11 r12 r13 a0 a1 a2 a3 a4 b0 b1 b2 b3 b4 r11) (s_rows_pushed_3 r0 r1 r2 r3 r4 r5 r6 r7 r8 r9 r10 r11 r12 r13 a0 a1 a2 a3 a4 b0 b1 b2 b3 b4 r11) (s_rows_pushed_4 r0 r1 r2 r3 r4 r5 r6 r7 r8 r9 r10 r11 r12 r13 a0 a1 a2 a3 a4 b0 b1 b2 b3 b4 r11) b0 b1 (s_rows_pushed_7 r0 r1 r2 r3 r4 r5 r6 r7 r8 r9 r10 r11 r12 r13 a0 a1 a2 a3 a4 b0 b1 b2 b3 b4 r11) (s_rows_pushed_8 r0 r1 r2 r3 r4 r5 r6 r7 r8 r9 r10 r11 r12 r13 a0 a1 a2 a3 a4 b0 b1 b2 b3 b4 r11) (s_rows_pushed_9 r0 r1 r2 r3 r4 r5 r6 r7 r8 r9 r10 r11 r12 r13 a0 a1 a2 a3 a4 b0 b1 b2 b3 b4 r11) = s_rows_pushed_3 r0 r1 r2 r3 r4 r5 r6 r7 r8 r9 r10 (fneg r11) r12 r13 a0 a1 (s_rows_pushed_2 r0 r1 r2 r3 r4 r5 r6 r7 r8 r9 r10 r11 r12 r13 a0 a1 a2 a3 a4 b0 b1 b2 b3 b4 r11) (s_rows_pushed_3 r0 r1 r2 r3 r4 r5 r6 r7 r8 r9 r10 r11 r12 r13 a0 a1 a2 a3 a4 b0 b1 b2 b3 b4 r11) (s_rows_pushed_4 r0 r1 r2 r3 r4 r5 r6 r7 r8 r9 r10 r11 r12 r13 a0 a1 a2 a3 a4 b0 b1 b2 b3 b4 r11) b0 b1 (s_rows_pushed_7 r0 r1 r2 r3 r4 r5 r6 r7 r8 r9 r10 r11 r12 r13 a0 a1 a2 a3 a4 b0 b1 b2 b3 b4 r11) (s_rows_pushed_8 r0 r1 r2 r3 r4 r5 r6 r7 r8 r9 r10 r11 r12 r13 a0 a1 a2 a3 a4 b0 b1 b2 b3 b4 r11) (s_rows_pushed_9 r0 r1 r2 r3 r4 r5 r6 r7 r8 r9 r10 r11 r12 r13 a0 a1 a2 a3 a4 b0 b1 b2 b3 b4 r11) (fneg r11) := by unfold s_rows_Warm_3; rw [k2]; rfl
  have x4 : s_rows_Warm_4 r0 r1 r2 r3 r4 r5 r6 r7 r8 r9 r10 (fneg r11) r12 r13 a0 a1 (s_rows_pushed_2 r0 r1 r2 r3 r4 r5 r6 r7 r8 r9 r10 r11 r12 r13 a0 a1 a2 a3 a4 b0 b1 b2 b3 b4 r11) (s_rows_pushed_3 r0 r1 r2 r3 r4 r5 r6 r7 r8 r9 r10 r11 r12 r13 a0 a1 a2 a3 a4 b0 b1 b2 b3 b4 r11) (s_rows_pushed_4 r0 r1 r2 r3 r4 r5 r6 r7 r8 r9 r10 r11 r12 r13 a0 a1 a2 a3 a4 b0 b1 b2 b3 b4 r11) b0 b1 (s_rows_pushed_7 r0 r1 r2 r3 r4 r5 r6 r7 r8 r9 r10 r11 r12 r13 a0 a1 a2 a3 a4 b0 b1 b2 b3 b4 r11) (s_rows_pushed_8 r0 r1 r2 r3 r4 r5 r6 r7 r8 r9 r10 r11 r12 r13 a0 a1 a2 a3 a4 b0 b1 b2 b3 b4 r11) (s_rows_pushed_9 r0 r1 r2 r3 r4 r5 r6 r7 r8 r9 r10 r11 r12 r13 a0 a1 a2 a3 a4 b0 b1 b2 b3 b4 r11) = s_rows_pushed_4 r0 r1 r2 r3 r4 r5 r6 r7 r8 r9 r10 (fneg r11) r12 r13 a0 a1 (s_rows_pushed_2 r0 r1 r2 r3 r4 r5 r6 r7 r8 r9 r10 r11 r12 r13 a0 a1 a2 a3 a4 b0 b1 b2 b3 b4 r11) (s_rows_pushed_3 r0 r1 r2 r3 r4 r5 r6 r7 r8 r9 r10 r11 r12 r13 a0 a1 a2 a3 a4 b0 b1 b2 b3 b4 r11) (s_rows_pushed_4 r0 r1 r2 r3 r4 r5 r6 r7 r8 r9 r10 r11 r12 r13 a0 a1 a2 a3 a4 b0 b1 b2 b3 b4 r11) b0 b1 (s_rows_pushed_7 r0 r1 r2 r3 r4 r5 r6 r7 r8 r9 r10 r11 r12 r13 a0 a1 a2 a3 a4 b0 b1 b2 b3 b4 r11) (s_rows_pushed_8 r0 r1 r2 r3 r4 r5 r6 r7 r8 r9 r10 r11 r12 r13 a0 a1 a2 a3 a4 b0 b1 b2 b3 b4 r11) (s_rows_pushed_9 r0 r1 r2 r3 r4 r5 r6 r7 r8 r9 r10 r11 r12 r13 a0 a1 a2 a3 a4 b0 b1 b2 b3 b4 r11) (fneg r11) := by unfold s_rows_Warm_4; rw [k2]; rfl
  have x6 : s_rows_Warm_6 r0 r1 r2 r3 r4 r5 r6 r7 r8 r9 r10 (fneg r11) r12 r13 a0 a1 (s_rows_pushed_2 r0 r1 r2 r3 r4 r5 r6 r7 r8 r9 r10 r11 r12 r13 a0 a1 a2 a3 a4 b0 b1 b2 b3 b4 r11) (s_rows_pushed_3 r0 r1 r2 r3 r4 r5 r6 r7 r8 r9 r10 r11 r12 r13 a0 a1 a2 a3 a4 b0 b1 b2 b3 b4 r11) (s_rows_pushed_4 r0 r1 r2 r3 r4 r5 r6 r7 r8 r9 r10 r11 r12 r13 a0 a1 a2 a3 a4 b0 b1 b2 b3 b4 r11) b0 b1 (s_rows_pushed_7 r0 r1 r2 r3 r4 r5 r6 r7 r8 r9 r10 r11 r12 r13 a0 a1 a2 a3 a4 b0 b1 b2 b3 b4 r11) (s_rows_pushed_8 r0 r1 r2 r3 r4 r5 r6 r7 r8 r9 r10 r11 r12 r13 a0 a1 a2 a3 a4 b0 b1 b2 b3 b4 r11) (s_rows_pushed_9 r0 r1 r2 r3 r4 r5 r6 r7 r8 r9 r10 r11 r12 r13 a0 a1 a2 a3 a4 b0 b1 b2 b3 b4 r11) = s_rows_pushed_6 r0 r1 r2 r3 r4 r5 r6 r7 r8 r9 r10 (fneg r11) r12 r13 a0 a1 (s_rows_pushed_2 r0 r1 r2 r3 r4 r5 r6 r7 r8 r9 r10 r11 r12 r13 a0 a1 a2 a3 a4 b0 b1 b2 b3 b4 r11) (s_rows_pushed_3 r0 r1 r2 r3 r4 r5 r6 r7 r8 r9 r10 r11 r12 r13 a0 a1 a2 a3 a4 b0 b1 b2 b3 b4 r11) (s_rows_pushed_4 r0 r1 r2 r3 r4 r5 r6 r7 r8 r9 r10 r11 r12 r13 a0 a1 a2 a3 a4 b0 b1 b2 b3 b4 r11) b0 b1 (s_rows_pushed_7 r0 r1 r2 r3 r4 r5 r6 r7 r8 r9 r10 r11 r12 r13 a0 a1 a2 a3 a4 b0 b1 b2 b3 b4 r11) (s_rows_pushed_8 r0 r1 r2 r3 r4 r5 r6 r7 r8 r9 r10 r11 r12 r13 a0 a1 a2 a3 a4 b0 b1 b2 b3 b4 r11) (s_rows_pushed_9 r0 r1 r2 r3 r4 r5 r6 r7 r8 r9 r10 r11 r12 r13 a0 a1 a2 a3 a4 b0 b1 b2 b3 b4 r11) (fneg r11) := by unfold s_rows_Warm_6; rw [k2]; rfl
  have x7 : s_rows_Warm_7 r0 r1 r2 r3 r4 r5 r6 r7 r8 r9 r10 (fneg r11) r12 r13 a0 a1 (s_rows_pushed_2 r0 r1 r2 r3 r4 r5 r6 r7 r8 r9 r10 r11 r12 r13 a0 a1 a2 a3 a4 b0 b1 b2 b3 b4 r11) (s_rows_pushed_3 r0 r1 r2 r3 r4 r5 r6 r7 r8 r9 r10 r11 r12 r13 a0 a1 a2 a3 a4 b0 b1 b2 b3 b4 r11) (s_rows_pushed_4 r0 r1 r2 r3 r4 r5 r6 r7 r8 r9 r10 r11 r12 r13 a0 a1 a2 a3 a4 b0 b1 b2 b3 b4 r11) b0 b1 (s_rows_pushed_7 r0 r1 r2 r3 r4 r5 r6 r7 r8 r9 r10 r11 r12 r13 a0 a1 a2 a3 a4 b0 b1 b2 b3 b4 r11) (s_rows_pushed_8 r0 r1 r2 r3 r4 r5 r6 r7 r8 r9 r10 r11 r12 r13 a0 a1 a2 a3 a4 b0 b1 b2 b3 b4 r11) (s_rows_pushed_9 r0 r1 r2 r3 r4 r5 r6 r7 r8 r9 r10 r11 r12 r13 a0 a1 a2 a3 a4 b0 b1 b2 b3 b4 r11) = s_rows_pushed_7 r0 r1 r2 r3 r4 r5 r6 r7 r8 r9 r10 (fneg r11) r12 r13 a0 a1 (s_rows_pushed_2 r0 r1 r2 r3 r4 r5 r6 r7 r8 r9 r10 r11 r12 r13 a0 a1 a2 a3 a4 b0 b1 b2 b3 b4 r11) (s_rows_pushed_3 r0 r1 r2 r3 r4 r5 r6 r7 r8 r9 r10 r11 r12 r13 a0 a1 a2 a3 a4 b0 b1 b2 b3 b4 r11) (s_rows_pushed_4 r0 r1 r2 r3 r4 r5 r6 r7 r8 r9 r10 r11 r12 r13 a0 a1 a2 a3 a4 b0 b1 b2 b3 b4 r11) b0 b1 (s_rows_pushed_7 r0 r1 r2 r3 r4 r5 r6 r7 r8 r9 r10 r11 r12 r13 a0 a1 a2 a3 a4 b0 b1 b2 b3 b4 r11) (s_rows_pushed_8 r0 r1 r2 r3 r4 r5 r6 r7 r8 r9 r10 r11 r12 r13 a0 a1 a2 a3 a4 b0 b1 b2 b3 b4 r11) (s_rows_pushed_9 r0 r1 r2 r3 r4 r5 r6 r7 r8 r9 r10 r11 r12 r13 a0 a1 a2 a3 a4 b0 b1 b2 b3 b4 r11) (fneg r11) := by unfold s_rows_Warm_7; rw [k2]; rfl
  have x8 : s_rows_Warm_8 r0 r1 r2 r3 r4 r5 r6 r7 r8 r9 r10 (fneg r11) r12 r13 a0 a1 (s_rows_pushed_2 r0 r1 r2 r3 r4 r5 r6 r7 r8 r9 r10 r11 r12 r13 a0 a1 a2 a3 a4 b0 b1 b2 b3 b4 r11) (s_rows_pushed_3 r0 r1 r2 r3 r4 r5 r6 r7 r8 r9 r10 r11 r12 r13 a0 a1 a2 a3 a4 b0 b1 b2 b3 b4 r11) (s_rows_pushed_4 r0 r1 r2 r3 r4 r5 r6 r7 r8 r9 r10 r11 r12 r13 a0 a1 a2 a3 a4 b0 b1 b2 b3 b4 r11) b0 b1 (s_rows_pushed_7 r0 r1 r2 r3 r4 r5 r6 r7 r8 r9 r10 r11 r12 r13 a0 a1 a2 a3 a4 b0 b1 b2 b3 b4 r11) (s_rows_pushed_8 r0 r1 r2 r3 r4 r5 r6 r7 r8 r9 r10 r11 r12 r13 a0 a1 a2 a3 a4 b0 b1 b2 b3 b4 r11) (s_rows_pushed_9 r0 r1 r2 r3 r4 r5 r6 r7 r8 r9 r10 r11 r12 r13 a0 a1 a2 a3 a4 b0 b1 b2 b3 b4 r11) = s_rows_pushed_8 r0 r1 r2 r3 r4 r5 r6 r7 r8 r9 r10 (fneg r11) r12 r13 a0 a1 (s_rows_pushed_2 r0 r1 r2 r3 r4 r5 r6 r7 r8 r9 r10 r11 r12 r13 a0 a1 a2 a3 a4 b0 b1 b2 b3 b4 r11) (s_rows_pushed_3 r0 r1 r2 r3 r4 r5 r6 r7 r8 r9 r10 r11 r12 r13 a0 a1 a2 a3 a4 b0 b1 b2 b3 b4 r11) (s_rows_pushed_4 r0 r1 r2 r3 r4 r5 r6 r7 r8 r9 r10 r11 r12 r13 a0 a1 a2 a3 a4 b0 b1 b2 b3 b4 r11) b0 b1 (s_rows_pushed_7 r0 r1 r2 r3 r4 r5 r6 r7 r8 r9 r10 r11 r12 r13 a0 a1 a2 a3 a4 b0 b1 b2 b3 b4 r11) (s_rows_pushed_8 r0 r1 r2 r3 r4 r5 r6 r7 r8 r9 r10 r11 r12 r13 a0 a1 a2 a3 a4 b0 b1 b2 b3 b4 r11) (s_rows_pushed_9 r0 r1 r2 r3 r4 r5 r6 r7 r8 r9 r10 r11 r12 r13 a0 a1 a2 a3 a4 b0 b1 b2 b3 b4 r11) (fneg r11) := by unfold s_rows_Warm_8; rw [k2]; rfl
  have x9 : s_rows_Warm_9 r0 r1 r2 r3 r4 r5 r6 r7 r8 r9 r10 (fneg r11) r12 r13 a0 a1 (s_rows_pushed_2 r0 r1 r2 r3 r4 r5 r6 r7 r8 r9 r10 r11 r12 r13 a0 a1 a2 a3 a4 b0 b1 b2 b3 b4 r11) (s_rows_pushed_3 r0 r1 r2 r3 r4 r5 r6 r7 r8 r9 r10 r11 r12 r13 a0 a1 a2 a3 a4 b0 b1 b2 b3 b4 r11) (s_rows_pushed_4 r0 r1 r2 r3 r4 r5 r6 r7 r8 r9 r10 r11 r12 r13 a0 a1 a2 a3 a4 b0 b1 b2 b3 b4 r11) b0 b1 (s_rows_pushed_7 r0 r1 r2 r3 r4 r5 r6 r7 r8 r9 r10 r11 r12 r13 a0 a1 a2 a3 a4 b0 b1 b2 b3 b4 r11) (s_rows_pushed_8 r0 r1 r2 r3 r4 r5 r6 r7 r8 r9 r10 r11 r12 r13 a0 a1 a2 a3 a4 b0 b1 b2 b3 b4 r11) (s_rows_pushed_9 r0 r1 r2 r3 r4 r5 r6 r7 r8 r9 r10 r11 r12 r13 a0 a1 a2 a3 a4 b0 b1 b2 b3 b4 r11) = s_rows_pushed_9 r0 r1 r2 r3 r4 r5 r6 r7 r8 r9 r10 (fneg r11) r12 r13 a0 a1 (s_rows_pushed_2 r0 r1 r2 r3 r4 r5 r6 r7 r8 r9 r10 r11 r12 r13 a0 a1 a2 a3 a4 b0 b1 b2 b3 b4 r11) (s_rows_pushed_3 r0 r1 r2 r3 r4 r5 r6 r7 r8 r9 r10 r11 r12 r13 a0 a1 a2 a3 a4 b0 b1 b2 b3 b4 r11) (s_rows_pushed_4 r0 r1 r2 r3 r4 r5 r6 r7 r8 r9 r10 r11 r12 r13 a0 a1 a2 a3 a4 b0 b1 b2 b3 b4 r11) b0 b1 (s_rows_pushed_7 r0 r1 r2 r3 r4 r5 r6 r7 r8 r9 r10 r11 r12 r13 a0 a1 a2 a3 a4 b0 b1 b2 b3 b4 r11) (s_rows_pushed_8 r0 r1 r2 r3 r4 r5 r6 r7 r8 r9 r10 r11 r12 r13 a0 a1 a2 a3 a4 b0 b1 b2 b3 b4 r11) (s_rows_pushed_9 r0 r1 r2 r3 r4 r5 r6 r7 r8 r9 r10 r11 r12 r13 a0 a1 a2 a3 a4 b0 b1 b2 b3 b4 r11) (fneg r11) := by unfold s_rows_Warm_9; rw [k2]; rfl
  have x10 : s_rows_Warm_10 r0 r1 r2 r3 r4 r5 r6 r7 r8 r9 r10 (fneg r11) r12 r13 a0 a1 (s_rows_pushed_2 r0 r1 r2 r3 r4 r5 r6 r7 r8 r9 r10 r11 r12 r13 a0 a1 a2 a3 a4 b0 b1 b2 b3 b4 r11) (s_rows_pushed_3 r0 r1 r2 r3 r4 r5 r6 r7 r8 r9 r10 r11 r12 r13 a0 a1 a2 a3 a4 b0 b1 b2 b3 b4 r11) (s_rows_pushed_4 r0 r1 r2 r3 r4 r5 r6 r7 r8 r9 r10 r11 r12 r13 a0 a1 a2 a3 a4 b0 b1 b2 b3 b4 r11) b0 b1 (s_rows_pushed_7 r0 r1 r2 r3 r4 r5 r6 r7 r8 r9 r10 r11 r12 r13 a0 a1 a2 a3 a4 b0 b1 b2 b3 b4 r11) (s_rows_pushed_8 r0 r1 r2 r3 r4 r5 r6 r7 r8 r9 r10 r11 r12 r13 a0 a1 a2 a3 a4 b0 b1 b2 b3 b4 r11) (s_rows_pushed_9 r0 r1 r2 r3 r4 r5 r6 r7 r8 r9 r10 r11 r12 r13 a0 a1 a2 a3 a4 b0 b1 b2 b3 b4 r11) = 0 := by unfold s_rows_Warm_10; rw [k2]; rfl
  have y2 : s_rows_Warm_2 r0 r1 r2 r3 r4 r5 r6 r7 r8 r9 r10 0 r12 r13 a0 a1 a2 a3 a4 b0 b1 b2 b3 b4 = s_rows_pushed_2 r0 r1 r2 r3 r4 r5 r6 r7 r8 r9 r10 0 r12 r13 a0 a1 a2 a3 a4 b0 b1 b2 b3 b4 0 := by unfold s_rows_Warm_2; rw [k3]; rfl
  have y3 : s_rows_Warm_3 r0 r1 r2 r3 r4 r5 r6 r7 r8 r9 r10 0 r12 r13 a0 a1 a2 a3 a4 b0 b1 b2 b3 b4 = s_rows_pushed_3 r0 r1 r2 r3 r4 r5 r6 r7 r8 r9 r10 0 r12 r13 a0 a1 a2 a3 a4 b0 b1 b2 b3 b4 0 := by unfold s_rows_Warm_3; rw [k3]; rfl
  have y4 : s_rows_Warm_4 r0 r1 r2 r3 r4 r5 r6 r7 r8 r9 r10 0 r12 r13 a0 a1 a2 a3 a4 b0 b1 b2 b3 b4 = s_rows_pushed_4 r0 r1 r2 r3 r4 r5 r6 r7 r8 r9 r10 0 r12 r13 a0 a1 a2 a3 a4 b0 b1 b2 b3 b4 0 := by unfold s_rows_Warm_4; rw [k3]; rfl
  have y7 : s_rows_Warm_7 r0 r1 r2 r3 r4 r5 r6 r7 r8 r9 r10 0 r12 r13 a0 a1 a2 a3 a4 b0 b1 b2 b3 b4 = s_rows_pushed_7 r0 r1 r2 r3 r4 r5 r6 r7 r8 r9 r10 0 r12 r13 a0 a1 a2 a3 a4 b0 b1 b2 b3 b4 0 := by unfold s_rows_Warm_7; rw [k3]; rfl
  have y8 : s_rows_Warm_8 r0 r1 r2 r3 r4 r5 r6 r7 r8 r9 r10 0 r12 r13 a0 a1 a2 a3 a4 b0 b1 b2 b3 b4 = s_rows_pushed_8 r0 r1 r2 r3 r4 r5 r6 r7 r8 r9 r10 0 r12 r13 a0 a1 a2 a3 a4 b0 b1 b2 b3 b4 0 := by unfold s_rows_Warm_8; rw [k3]; rfl
  have y9 : s_rows_Warm_9 r0 r1 r2 r3 r4 r5 r6 r7 r8 r9 r10 0 r12 r13 a0 a1 a2 a3 a4 b0 b1 b2 b3 b4 = s_rows_pushed_9 r0 r1 r2 r3 r4 r5 r6 r7 r8 r9 r10 0 r12 r13 a0 a1 a2 a3 a4 b0 b1 b2 b3 b4 0 := by unfold s_rows_Warm_9; rw [k3]; rfl
  have y10 : s_rows_Warm_10 r0 r1 r2 r3 r4 r5 r6 r7 r8 r9 r10 0 r12 r13 a0 a1 a2 a3 a4 b0 b1 b2 b3 b4 = 0 := by unfold s_rows_Warm_10; rw [k3]; rfl
  rw [x0, x2, x3, x4, x6, x7, x8, x9, x10, y2, y3, y4, y7, y8, y9, y10]
  have z2 : feq (s_rows_pushed_2 r0 r1 r2 r3 r4 r5 r6 r7 r8 r9 r10 0 r12 r13 a0 a1 a2 a3 a4 b0 b1 b2 b3 b4 0) a2 = true := speed_still ua0 ur2 ua2
  have t2 : s_law20_nearly_0 (s_rows_pushed_2 r0 r1 r2 r3 r4 r5 r6 r7 r8 r9 r10 (fneg r11) r12 r13 a0 a1 (s_rows_pushed_2 r0 r1 r2 r3 r4 r5 r6 r7 r8 r9 r10 r11 r12 r13 a0 a1 a2 a3 a4 b0 b1 b2 b3 b4 r11) (s_rows_pushed_3 r0 r1 r2 r3 r4 r5 r6 r7 r8 r9 r10 r11 r12 r13 a0 a1 a2 a3 a4 b0 b1 b2 b3 b4 r11) (s_rows_pushed_4 r0 r1 r2 r3 r4 r5 r6 r7 r8 r9 r10 r11 r12 r13 a0 a1 a2 a3 a4 b0 b1 b2 b3 b4 r11) b0 b1 (s_rows_pushed_7 r0 r1 r2 r3 r4 r5 r6 r7 r8 r9 r10 r11 r12 r13 a0 a1 a2 a3 a4 b0 b1 b2 b3 b4 r11) (s_rows_pushed_8 r0 r1 r2 r3 r4 r5 r6 r7 r8 r9 r10 r11 r12 r13 a0 a1 a2 a3 a4 b0 b1 b2 b3 b4 r11) (s_rows_pushed_9 r0 r1 r2 r3 r4 r5 r6 r7 r8 r9 r10 r11 r12 r13 a0 a1 a2 a3 a4 b0 b1 b2 b3 b4 r11) (fneg r11)) a2 (fadd (fabs a2) (fmul (fmul a0 (fabs r11)) (fabs r2))) = true := speed_back ua0 ur11 ur2 ua2 ca0 cr11 cr2 ca2 n1
  have z3 : feq (s_rows_pushed_3 r0 r1 r2 r3 r4 r5 r6 r7 r8 r9 r10 0 r12 r13 a0 a1 a2 a3 a4 b0 b1 b2 b3 b4 0) a3 = true := speed_still ua0 ur3 ua3
  have t3 : s_law20_nearly_0 (s_rows_pushed_3 r0 r1 r2 r3 r4 r5 r6 r7 r8 r9 r10 (fneg r11) r12 r13 a0 a1 (s_rows_pushed_2 r0 r1 r2 r3 r4 r5 r6 r7 r8 r9 r10 r11 r12 r13 a0 a1 a2 a3 a4 b0 b1 b2 b3 b4 r11) (s_rows_pushed_3 r0 r1 r2 r3 r4 r5 r6 r7 r8 r9 r10 r11 r12 r13 a0 a1 a2 a3 a4 b0 b1 b2 b3 b4 r11) (s_rows_pushed_4 r0 r1 r2 r3 r4 r5 r6 r7 r8 r9 r10 r11 r12 r13 a0 a1 a2 a3 a4 b0 b1 b2 b3 b4 r11) b0 b1 (s_rows_pushed_7 r0 r1 r2 r3 r4 r5 r6 r7 r8 r9 r10 r11 r12 r13 a0 a1 a2 a3 a4 b0 b1 b2 b3 b4 r11) (s_rows_pushed_8 r0 r1 r2 r3 r4 r5 r6 r7 r8 r9 r10 r11 r12 r13 a0 a1 a2 a3 a4 b0 b1 b2 b3 b4 r11) (s_rows_pushed_9 r0 r1 r2 r3 r4 r5 r6 r7 r8 r9 r10 r11 r12 r13 a0 a1 a2 a3 a4 b0 b1 b2 b3 b4 r11) (fneg r11)) a3 (fadd (fabs a3) (fmul (fmul a0 (fabs r11)) (fabs r3))) = true := speed_back ua0 ur11 ur3 ua3 ca0 cr11 cr3 ca3 n1
  have z4 : feq (s_rows_pushed_4 r0 r1 r2 r3 r4 r5 r6 r7 r8 r9 r10 0 r12 r13 a0 a1 a2 a3 a4 b0 b1 b2 b3 b4 0) a4 = true := spin_still ua1 ur6 ua4
  have t4 : s_law20_nearly_0 (s_rows_pushed_4 r0 r1 r2 r3 r4 r5 r6 r7 r8 r9 r10 (fneg r11) r12 r13 a0 a1 (s_rows_pushed_2 r0 r1 r2 r3 r4 r5 r6 r7 r8 r9 r10 r11 r12 r13 a0 a1 a2 a3 a4 b0 b1 b2 b3 b4 r11) (s_rows_pushed_3 r0 r1 r2 r3 r4 r5 r6 r7 r8 r9 r10 r11 r12 r13 a0 a1 a2 a3 a4 b0 b1 b2 b3 b4 r11) (s_rows_pushed_4 r0 r1 r2 r3 r4 r5 r6 r7 r8 r9 r10 r11 r12 r13 a0 a1 a2 a3 a4 b0 b1 b2 b3 b4 r11) b0 b1 (s_rows_pushed_7 r0 r1 r2 r3 r4 r5 r6 r7 r8 r9 r10 r11 r12 r13 a0 a1 a2 a3 a4 b0 b1 b2 b3 b4 r11) (s_rows_pushed_8 r0 r1 r2 r3 r4 r5 r6 r7 r8 r9 r10 r11 r12 r13 a0 a1 a2 a3 a4 b0 b1 b2 b3 b4 r11) (s_rows_pushed_9 r0 r1 r2 r3 r4 r5 r6 r7 r8 r9 r10 r11 r12 r13 a0 a1 a2 a3 a4 b0 b1 b2 b3 b4 r11) (fneg r11)) a4 (fadd (fabs a4) (fmul (fmul a1 (fabs r11)) (fabs r6))) = true := spin_back ua1 ur11 ur6 ua4 ca1 cr11 cr6 ca4 n2
  have z7 : feq (s_rows_pushed_7 r0 r1 r2 r3 r4 r5 r6 r7 r8 r9 r10 0 r12 r13 a0 a1 a2 a3 a4 b0 b1 b2 b3 b4 0) b2 = true := speed_still ub0 ur4 ub2
  have t7 : s_law20_nearly_0 (s_rows_pushed_7 r0 r1 r2 r3 r4 r5 r6 r7 r8 r9 r10 (fneg r11) r12 r13 a0 a1 (s_rows_pushed_2 r0 r1 r2 r3 r4 r5 r6 r7 r8 r9 r10 r11 r12 r13 a0 a1 a2 a3 a4 b0 b1 b2 b3 b4 r11) (s_rows_pushed_3 r0 r1 r2 r3 r4 r5 r6 r7 r8 r9 r10 r11 r12 r13 a0 a1 a2 a3 a4 b0 b1 b2 b3 b4 r11) (s_rows_pushed_4 r0 r1 r2 r3 r4 r5 r6 r7 r8 r9 r10 r11 r12 r13 a0 a1 a2 a3 a4 b0 b1 b2 b3 b4 r11) b0 b1 (s_rows_pushed_7 r0 r1 r2 r3 r4 r5 r6 r7 r8 r9 r10 r11 r12 r13 a0 a1 a2 a3 a4 b0 b1 b2 b3 b4 r11) (s_rows_pushed_8 r0 r1 r2 r3 r4 r5 r6 r7 r8 r9 r10 r11 r12 r13 a0 a1 a2 a3 a4 b0 b1 b2 b3 b4 r11) (s_rows_pushed_9 r0 r1 r2 r3 r4 r5 r6 r7 r8 r9 r10 r11 r12 r13 a0 a1 a2 a3 a4 b0 b1 b2 b3 b4 r11) (fneg r11)) b2 (fadd (fabs b2) (fmul (fmul b0 (fabs r11)) (fabs r4))) = true := speed_back ub0 ur11 ur4 ub2 cb0 cr11 cr4 cb2 n3
  have z8 : feq (s_rows_pushed_8 r0 r1 r2 r3 r4 r5 r6 r7 r8 r9 r10 0 r12 r13 a0 a1 a2 a3 a4 b0 b1 b2 b3 b4 0) b3 = true := speed_still ub0 ur5 ub3
  have t8 : s_law20_nearly_0 (s_rows_pushed_8 r0 r1 r2 r3 r4 r5 r6 r7 r8 r9 r10 (fneg r11) r12 r13 a0 a1 (s_rows_pushed_2 r0 r1 r2 r3 r4 r5 r6 r7 r8 r9 r10 r11 r12 r13 a0 a1 a2 a3 a4 b0 b1 b2 b3 b4 r11) (s_rows_pushed_3 r0 r1 r2 r3 r4 r5 r6 r7 r8 r9 r10 r11 r12 r13 a0 a1 a2 a3 a4 b0 b1 b2 b3 b4 r11) (s_rows_pushed_4 r0 r1 r2 r3 r4 r5 r6 r7 r8 r9 r10 r11 r12 r13 a0 a1 a2 a3 a4 b0 b1 b2 b3 b4 r11) b0 b1 (s_rows_pushed_7 r0 r1 r2 r3 r4 r5 r6 r7 r8 r9 r10 r11 r12 r13 a0 a1 a2 a3 a4 b0 b1 b2 b3 b4 r11) (s_rows_pushed_8 r0 r1 r2 r3 r4 r5 r6 r7 r8 r9 r10 r11 r12 r13 a0 a1 a2 a3 a4 b0 b1 b2 b3 b4 r11) (s_rows_pushed_9 r0 r1 r2 r3 r4 r5 r6 r7 r8 r9 r10 r11 r12 r13 a0 a1 a2 a3 a4 b0 b1 b2 b3 b4 r11) (fneg r11)) b3 (fadd (fabs b3) (fmul (fmul b0 (fabs r11)) (fabs r5))) = true := speed_back ub0 ur11 ur5 ub3 cb0 cr11 cr5 cb3 n3
  have z9 : feq (s_rows_pushed_9 r0 r1 r2 r3 r4 r5 r6 r7 r8 r9 r10 0 r12 r13 a0 a1 a2 a3 a4 b0 b1 b2 b3 b4 0) b4 = true := spin_still ub1 ur7 ub4
  have t9 : s_law20_nearly_0 (s_rows_pushed_9 r0 r1 r2 r3 r4 r5 r6 r7 r8 r9 r10 (fneg r11) r12 r13 a0 a1 (s_rows_pushed_2 r0 r1 r2 r3 r4 r5 r6 r7 r8 r9 r10 r11 r12 r13 a0 a1 a2 a3 a4 b0 b1 b2 b3 b4 r11) (s_rows_pushed_3 r0 r1 r2 r3 r4 r5 r6 r7 r8 r9 r10 r11 r12 r13 a0 a1 a2 a3 a4 b0 b1 b2 b3 b4 r11) (s_rows_pushed_4 r0 r1 r2 r3 r4 r5 r6 r7 r8 r9 r10 r11 r12 r13 a0 a1 a2 a3 a4 b0 b1 b2 b3 b4 r11) b0 b1 (s_rows_pushed_7 r0 r1 r2 r3 r4 r5 r6 r7 r8 r9 r10 r11 r12 r13 a0 a1 a2 a3 a4 b0 b1 b2 b3 b4 r11) (s_rows_pushed_8 r0 r1 r2 r3 r4 r5 r6 r7 r8 r9 r10 r11 r12 r13 a0 a1 a2 a3 a4 b0 b1 b2 b3 b4 r11) (s_rows_pushed_9 r0 r1 r2 r3 r4 r5 r6 r7 r8 r9 r10 r11 r12 r13 a0 a1 a2 a3 a4 b0 b1 b2 b3 b4 r11) (fneg r11)) b4 (fadd (fabs b4) (fmul (fmul b1 (fabs r11)) (fabs r7))) = true := spin_back ub1 ur11 ur7 ub4 cb1 cr11 cr7 cb4 n4
  rw [z2, z3, z4, z7, z8, z9, t2, t3, t4, t7, t8, t9]
  have l0 : feq (s_rows_pushed_0 r0 r1 r2 r3 r4 r5 r6 r7 r8 r9 r10 (fneg r11) r12 r13 a0 a1 (s_rows_pushed_2 r0 r1 r2 r3 r4 r5 r6 r7 r8 r9 r10 r11 r12 r13 a0 a1 a2 a3 a4 b0 b1 b2 b3 b4 r11) (s_rows_pushed_3 r0 r1 r2 r3 r4 r5 r6 r7 r8 r9 r10 r11 r12 r13 a0 a1 a2 a3 a4 b0 b1 b2 b3 b4 r11) (s_rows_pushed_4 r0 r1 r2 r3 r4 r5 r6 r7 r8 r9 r10 r11 r12 r13 a0 a1 a2 a3 a4 b0 b1 b2 b3 b4 r11) b0 b1 (s_rows_pushed_7 r0 r1 r2 r3 r4 r5 r6 r7 r8 r9 r10 r11 r12 r13 a0 a1 a2 a3 a4 b0 b1 b2 b3 b4 r11) (s_rows_pushed_8 r0 r1 r2 r3 r4 r5 r6 r7 r8 r9 r10 r11 r12 r13 a0 a1 a2 a3 a4 b0 b1 b2 b3 b4 r11) (s_rows_pushed_9 r0 r1 r2 r3 r4 r5 r6 r7 r8 r9 r10 r11 r12 r13 a0 a1 a2 a3 a4 b0 b1 b2 b3 b4 r11) (fneg r11)) a0 = true := feq_refl (fin_not_nan ua0.1)
  have l6 : feq (s_rows_pushed_6 r0 r1 r2 r3 r4 r5 r6 r7 r8 r9 r10 (fneg r11) r12 r13 a0 a1 (s_rows_pushed_2 r0 r1 r2 r3 r4 r5 r6 r7 r8 r9 r10 r11 r12 r13 a0 a1 a2 a3 a4 b0 b1 b2 b3 b4 r11) (s_rows_pushed_3 r0 r1 r2 r3 r4 r5 r6 r7 r8 r9 r10 r11 r12 r13 a0 a1 a2 a3 a4 b0 b1 b2 b3 b4 r11) (s_rows_pushed_4 r0 r1 r2 r3 r4 r5 r6 r7 r8 r9 r10 r11 r12 r13 a0 a1 a2 a3 a4 b0 b1 b2 b3 b4 r11) b0 b1 (s_rows_pushed_7 r0 r1 r2 r3 r4 r5 r6 r7 r8 r9 r10 r11 r12 r13 a0 a1 a2 a3 a4 b0 b1 b2 b3 b4 r11) (s_rows_pushed_8 r0 r1 r2 r3 r4 r5 r6 r7 r8 r9 r10 r11 r12 r13 a0 a1 a2 a3 a4 b0 b1 b2 b3 b4 r11) (s_rows_pushed_9 r0 r1 r2 r3 r4 r5 r6 r7 r8 r9 r10 r11 r12 r13 a0 a1 a2 a3 a4 b0 b1 b2 b3 b4 r11) (fneg r11)) b1 = true := feq_refl (fin_not_nan ub1.1)
  rw [l0, l6]
  rfl
end Go.Proofs.Ytojahopdcnamjaa
