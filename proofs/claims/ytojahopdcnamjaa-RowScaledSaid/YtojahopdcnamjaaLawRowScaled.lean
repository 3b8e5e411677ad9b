/- RowScaled: in a world so many times as great a row goes likewise. -/
import Derived.Test.YtojahopdcnamjaaFnsE
import Derived.Test.YtojahopdcnamjaaSimRowNear
import Derived.Test.YtojahopdcnamjaaSimScale3
set_option linter.unusedVariables false
set_option linter.unusedSimpArgs false
set_option exponentiation.threshold 3000
namespace Go.Proofs.Ytojahopdcnamjaa
open Go.Sim Ieee
theorem fits_form (r0 : Int) (r1 : Int) (r2 : Nat) (r3 : Nat) (r4 : Nat) (r5 : Nat) (r6 : Nat) (r7 : Nat) (r8 : Nat) (r9 : Nat) (r10 : Nat) (r11 : Nat) (r12 : Int) (r13 : Nat) : s_rows_fits_0 r0 r1 r2 r3 r4 r5 r6 r7 r8 r9 r10 r11 r12 r13 = ((((((((((s_vec_Finite_0 r2 r3) && (s_vec_Finite_0 r4 r5)) && ((s_num_Finite_float64__0 r6) && (s_num_Finite_float64__0 r7))) && (((s_num_Finite_float64__0 r8) && (s_num_Finite_float64__0 r11)) && (s_num_Finite_float64__0 r13))) && (ile (0 : Int) r0)) && (ile (0 : Int) r1)) && (!(ieq r0 r1))) && (fle 0 r13)) && (fle r9 r10)) && (ile (-1 : Int) r12)) := by
  unfold s_rows_fits_0 s_rows_finite_1_0
  generalize s_vec_Finite_0 r2 r3 = p1
  generalize s_vec_Finite_0 r4 r5 = p2
  generalize s_num_Finite_float64__0 r6 = p3
  generalize s_num_Finite_float64__0 r7 = p4
  generalize s_num_Finite_float64__0 r8 = p5
  generalize s_num_Finite_float64__0 r11 = p6
  generalize s_num_Finite_float64__0 r13 = p7
  generalize ile (0 : Int) r0 = q1
  generalize ile (0 : Int) r1 = q2
  generalize ieq r0 r1 = q3
  generalize fle 0 r13 = q4
  generalize fle r9 r10 = q5
  generalize ile (-1 : Int) r12 = q6
  have h0 : ile 0 0 = true := by decide
  have h1 : ile 0 1 = true := by decide
  have h2 : ile 0 2 = true := by decide
  have h3 : ile 0 3 = true := by decide
  have h4 : ile 0 4 = true := by decide
  have h5 : ile 0 (-1) = false := by decide
  cases p3 <;> cases p4 <;> cases p5 <;> cases p6 <;> cases p7 <;> simp [h0, h1, h2, h3, h4, h5] <;> cases p1 <;> cases p2 <;> cases q1 <;> cases q2 <;> cases q3 <;> simp
theorem rests_form (a0 a1 a2 a3 a4 : Nat) : s_rows_rests_0 a0 a1 a2 a3 a4 = ((((s_num_Finite_float64__0 a0) && (s_num_Finite_float64__0 a1)) && (fle 0 a0)) && (fle 0 a1)) := by
  unfold s_rows_rests_0 s_rows_finite_1_0
  generalize s_num_Finite_float64__0 a0 = p3
  generalize s_num_Finite_float64__0 a1 = p4
  have h0 : ile 0 0 = true := by decide
  have h1 : ile 0 1 = true := by decide
  have h5 : ile 0 (-1) = false := by decide
  cases p3 <;> cases p4 <;> simp [h0, h1, h5]
theorem finite_of {x : Nat} (cx : CF x) (fx : fin x = true) : s_num_Finite_float64__0 x = true := by
  unfold s_num_Finite_float64__0
  exact V.feq_of (V.sub cx.lt (V.self fx) (V.self fx) V.zero (by omega)) V.zero
theorem rests_of {a0 a1 a2 a3 a4 : Nat} (c0 : CF a0) (c1 : CF a1) (f0 : fin a0 = true) (f1 : fin a1 = true) (n0 : fle 0 a0 = true) (n1 : fle 0 a1 = true) : s_rows_rests_0 a0 a1 a2 a3 a4 = true := by
  rw [rests_form, finite_of c0 f0, finite_of c1 f1, n0, n1]; rfl
theorem fits_push (r0 : Int) (r1 : Int) (r2 : Nat) (r3 : Nat) (r4 : Nat) (r5 : Nat) (r6 : Nat) (r7 : Nat) (r8 : Nat) (r9 : Nat) (r10 : Nat) (r11 : Nat) (r12 : Int) (r13 : Nat) (q : Nat) (h : s_rows_fits_0 r0 r1 r2 r3 r4 r5 r6 r7 r8 r9 r10 r11 r12 r13 = true) (hq : s_num_Finite_float64__0 q = true) : s_rows_fits_0 r0 r1 r2 r3 r4 r5 r6 r7 r8 r9 r10 q r12 r13 = true := by
  rw [fits_form] at h
  rw [fits_form, hq]
  simp only [Bool.and_eq_true] at h ⊢
  simp only [h, and_self, and_true, true_and]
theorem asked_of (r0 : Int) (r1 : Int) (r2 : Nat) (r3 : Nat) (r4 : Nat) (r5 : Nat) (r6 : Nat) (r7 : Nat) (r8 : Nat) (r9 : Nat) (r10 : Nat) (r11 : Nat) (r12 : Int) (r13 : Nat) (a0 : Nat) (a1 : Nat) (a2 : Nat) (a3 : Nat) (a4 : Nat) (b0 : Nat) (b1 : Nat) (b2 : Nat) (b3 : Nat) (b4 : Nat) (h : s_rows_fits_0 r0 r1 r2 r3 r4 r5 r6 r7 r8 r9 r10 r11 r12 r13 = true) (h1 : s_rows_rests_0 a0 a1 a2 a3 a4 = true) (h2 : s_rows_rests_0 b0 b1 b2 b3 b4 = true) : s_rows_asked_0 r0 r1 r2 r3 r4 r5 r6 r7 r8 r9 r10 r11 r12 r13 a0 a1 a2 a3 a4 b0 b1 b2 b3 b4 = 0 := by
  unfold s_rows_asked_0; rw [h, h1, h2]; rfl
theorem rv_l40 : rv 4427038433705197568 = ((1 : Nat) : Rat) / ((1099511627776 : Nat) : Rat) := rv_lit (by decide) (by decide) (by intro d hd; subst hd; decide +kernel)
theorem rv_h40 : rv 4787326403894837248 = ((1099511627776 : Nat) : Rat) / ((1 : Nat) : Rat) := rv_lit (by decide) (by decide) (by intro d hd; subst hd; decide +kernel)
theorem u40_of {x : Nat} (cx : CF x) (h : ((!(feq x 0)) && (!((fle 4427038433705197568 (fabs x)) && (fle (fabs x) 4787326403894837248)))) = false) : U40 x := by
  have k1 : ((1 : Nat) : Rat) = 1 := rfl
  have k2 : ((1099511627776 : Nat) : Rat) = 1099511627776 := rfl
  cases h1 : feq x 0
  · rw [h1] at h
    have h2 : ((fle 4427038433705197568 (fabs x)) && (fle (fabs x) 4787326403894837248)) = true := by
      cases h3 : ((fle 4427038433705197568 (fabs x)) && (fle (fabs x) 4787326403894837248))
      · rw [h3] at h; cases h
      · rfl
    simp only [Bool.and_eq_true] at h2
    obtain ⟨g1, g2⟩ := h2
    have hq : fin (fabs x) = true := fin_between g1 g2 (by decide) (by decide)
    have hn : nanb x = false := by have := fin_not_nan hq; rwa [nanb_fabs] at this
    have ff : fin x = true := by
      have e := fabs_of hn
      rw [e, fin_iff] at hq
      have r2 : rungOf (rungOf x) = rungOf x := by unfold rungOf; omega
      rw [r2] at hq
      exact fin_iff.2 hq
    rw [rv_le (by decide) hq, decide_eq_true_eq, rv_l40, k1, k2] at g1
    rw [rv_le hq (by decide), decide_eq_true_eq, rv_h40, k1, k2] at g2
    refine ⟨ff, .inr ⟨?_, ?_⟩⟩ <;> grind
  · have hn : nanb x = false := by
      cases hn : nanb x
      · rfl
      · rw [feq_nan (.inl hn)] at h1; cases h1
    have hl : x < 18446744073709551616 := cx.lt
    have ff : fin x = true := by
      rcases (feq_zero hl hn).1 h1 with e | e <;> rw [e] <;> decide
    have hz : rv x = 0 := by
      rw [feq_val (fin_not_nan ff) (by decide)] at h1
      simp only [decide_eq_true_eq] at h1
      have e : sval 0 = 0 := by decide
      unfold rv; rw [h1, e]; grind
    refine ⟨ff, .inl ?_⟩
    obtain ⟨_, p1, _⟩ := rv_abs ff
    rw [p1 (by grind), hz]
theorem usuals_say (r0 : Int) (r1 : Int) (r2 : Nat) (r3 : Nat) (r4 : Nat) (r5 : Nat) (r6 : Nat) (r7 : Nat) (r8 : Nat) (r9 : Nat) (r10 : Nat) (r11 : Nat) (r12 : Int) (r13 : Nat) (a0 : Nat) (a1 : Nat) (a2 : Nat) (a3 : Nat) (a4 : Nat) (b0 : Nat) (b1 : Nat) (b2 : Nat) (b3 : Nat) (b4 : Nat) (cr2 : CF r2) (cr3 : CF r3) (cr4 : CF r4) (cr5 : CF r5) (cr6 : CF r6) (cr7 : CF r7) (cr8 : CF r8) (cr9 : CF r9) (cr10 : CF r10) (cr11 : CF r11) (cr13 : CF r13) (ca0 : CF a0) (ca1 : CF a1) (ca2 : CF a2) (ca3 : CF a3) (ca4 : CF a4) (cb0 : CF b0) (cb1 : CF b1) (cb2 : CF b2) (cb3 : CF b3) (cb4 : CF b4) (h : s_law20_usuals_0 r0 r1 r2 r3 r4 r5 r6 r7 r8 r9 r10 r11 r12 r13 a0 a1 a2 a3 a4 b0 b1 b2 b3 b4 = true) :
    (U40 r2 ∧ U40 r3 ∧ U40 r4 ∧ U40 r5 ∧ U40 r6 ∧ U40 r7 ∧ U40 r8 ∧ U40 r11 ∧ U40 r13 ∧ U40 r9) ∧ (U40 a0 ∧ U40 a1 ∧ U40 a2 ∧ U40 a3 ∧ U40 a4 ∧ U40 b0 ∧ U40 b1 ∧ U40 b2 ∧ U40 b3 ∧ U40 b4) ∧ s_rows_fits_0 r0 r1 r2 r3 r4 r5 r6 r7 r8 r9 r10 r11 r12 r13 = true ∧ fle 0 a0 = true ∧ fle 0 a1 = true ∧ fle 0 b0 = true ∧ fle 0 b1 = true := by
  unfold s_law20_usuals_0 at h
  simp only [] at h
  have u_r2 := @u40_of r2 cr2
  generalize ((!(feq r2 0)) && (!((fle 4427038433705197568 (fabs r2)) && (fle (fabs r2) 4787326403894837248)))) = y_r2 at *
  have u_r3 := @u40_of r3 cr3
  generalize ((!(feq r3 0)) && (!((fle 4427038433705197568 (fabs r3)) && (fle (fabs r3) 4787326403894837248)))) = y_r3 at *
  have u_r4 := @u40_of r4 cr4
  generalize ((!(feq r4 0)) && (!((fle 4427038433705197568 (fabs r4)) && (fle (fabs r4) 4787326403894837248)))) = y_r4 at *
  have u_r5 := @u40_of r5 cr5
  generalize ((!(feq r5 0)) && (!((fle 4427038433705197568 (fabs r5)) && (fle (fabs r5) 4787326403894837248)))) = y_r5 at *
  have u_r6 := @u40_of r6 cr6
  generalize ((!(feq r6 0)) && (!((fle 4427038433705197568 (fabs r6)) && (fle (fabs r6) 4787326403894837248)))) = y_r6 at *
  have u_r7 := @u40_of r7 cr7
  generalize ((!(feq r7 0)) && (!((fle 4427038433705197568 (fabs r7)) && (fle (fabs r7) 4787326403894837248)))) = y_r7 at *
  have u_r8 := @u40_of r8 cr8
  generalize ((!(feq r8 0)) && (!((fle 4427038433705197568 (fabs r8)) && (fle (fabs r8) 4787326403894837248)))) = y_r8 at *
  have u_r11 := @u40_of r11 cr11
  generalize ((!(feq r11 0)) && (!((fle 4427038433705197568 (fabs r11)) && (fle (fabs r11) 4787326403894837248)))) = y_r11 at *
  have u_r13 := @u40_of r13 cr13
  generalize ((!(feq r13 0)) && (!((fle 4427038433705197568 (fabs r13)) && (fle (fabs r13) 4787326403894837248)))) = y_r13 at *
  have u_r9 := @u40_of r9 cr9
  generalize ((!(feq r9 0)) && (!((fle 4427038433705197568 (fabs r9)) && (fle (fabs r9) 4787326403894837248)))) = y_r9 at *
  have u_a0 := @u40_of a0 ca0
  generalize ((!(feq a0 0)) && (!((fle 4427038433705197568 (fabs a0)) && (fle (fabs a0) 4787326403894837248)))) = y_a0 at *
  have u_a1 := @u40_of a1 ca1
  generalize ((!(feq a1 0)) && (!((fle 4427038433705197568 (fabs a1)) && (fle (fabs a1) 4787326403894837248)))) = y_a1 at *
  have u_a2 := @u40_of a2 ca2
  generalize ((!(feq a2 0)) && (!((fle 4427038433705197568 (fabs a2)) && (fle (fabs a2) 4787326403894837248)))) = y_a2 at *
  have u_a3 := @u40_of a3 ca3
  generalize ((!(feq a3 0)) && (!((fle 4427038433705197568 (fabs a3)) && (fle (fabs a3) 4787326403894837248)))) = y_a3 at *
  have u_a4 := @u40_of a4 ca4
  generalize ((!(feq a4 0)) && (!((fle 4427038433705197568 (fabs a4)) && (fle (fabs a4) 4787326403894837248)))) = y_a4 at *
  have u_b0 := @u40_of b0 cb0
  generalize ((!(feq b0 0)) && (!((fle 4427038433705197568 (fabs b0)) && (fle (fabs b0) 4787326403894837248)))) = y_b0 at *
  have u_b1 := @u40_of b1 cb1
  generalize ((!(feq b1 0)) && (!((fle 4427038433705197568 (fabs b1)) && (fle (fabs b1) 4787326403894837248)))) = y_b1 at *
  have u_b2 := @u40_of b2 cb2
  generalize ((!(feq b2 0)) && (!((fle 4427038433705197568 (fabs b2)) && (fle (fabs b2) 4787326403894837248)))) = y_b2 at *
  have u_b3 := @u40_of b3 cb3
  generalize ((!(feq b3 0)) && (!((fle 4427038433705197568 (fabs b3)) && (fle (fabs b3) 4787326403894837248)))) = y_b3 at *
  have u_b4 := @u40_of b4 cb4
  generalize ((!(feq b4 0)) && (!((fle 4427038433705197568 (fabs b4)) && (fle (fabs b4) 4787326403894837248)))) = y_b4 at *
  generalize ((!(feq r10 0)) && (!((fle 4427038433705197568 (fabs r10)) && (fle (fabs r10) 4787326403894837248)))) = y_r10 at *
  rcases y_r2 with _ | _
  rotate_left
  · exact absurd h Bool.false_ne_true
  rcases y_r3 with _ | _
  rotate_left
  · exact absurd h Bool.false_ne_true
  rcases y_r4 with _ | _
  rotate_left
  · exact absurd h Bool.false_ne_true
  rcases y_r5 with _ | _
  rotate_left
  · exact absurd h Bool.false_ne_true
  rcases y_r6 with _ | _
  rotate_left
  · exact absurd h Bool.false_ne_true
  rcases y_r7 with _ | _
  rotate_left
  · exact absurd h Bool.false_ne_true
  rcases y_r8 with _ | _
  rotate_left
  · exact absurd h Bool.false_ne_true
  rcases y_r11 with _ | _
  rotate_left
  · exact absurd h Bool.false_ne_true
  rcases y_r13 with _ | _
  rotate_left
  · exact absurd h Bool.false_ne_true
  rcases y_r9 with _ | _
  rotate_left
  · exact absurd h Bool.false_ne_true
  rcases y_a0 with _ | _
  rotate_left
  · exact absurd h Bool.false_ne_true
  rcases y_a1 with _ | _
  rotate_left
  · exact absurd h Bool.false_ne_true
  rcases y_a2 with _ | _
  rotate_left
  · exact absurd h Bool.false_ne_true
  rcases y_a3 with _ | _
  rotate_left
  · exact absurd h Bool.false_ne_true
  rcases y_a4 with _ | _
  rotate_left
  · exact absurd h Bool.false_ne_true
  rcases y_b0 with _ | _
  rotate_left
  · exact absurd h Bool.false_ne_true
  rcases y_b1 with _ | _
  rotate_left
  · exact absurd h Bool.false_ne_true
  rcases y_b2 with _ | _
  rotate_left
  · exact absurd h Bool.false_ne_true
  rcases y_b3 with _ | _
  rotate_left
  · exact absurd h Bool.false_ne_true
  rcases y_b4 with _ | _
  rotate_left
  · exact absurd h Bool.false_ne_true
  have hc : ieq (s_rows_Check_0 r0 r1 r2 r3 r4 r5 r6 r7 r8 r9 r10 r11 r12 r13 (1099511627776 : Int) (1099511627776 : Int)) (0 : Int) = true ∧ fle 0 a0 = true ∧ fle 0 a1 = true ∧ fle 0 b0 = true ∧ fle 0 b1 = true := by
    simp only [Bool.and_eq_true] at h
    exact ⟨h.1.1.1.1.2, h.1.1.1.2, h.1.1.2, h.1.2, h.2⟩
  obtain ⟨hc, n1, n2, n3, n4⟩ := hc
  have hf : s_rows_fits_0 r0 r1 r2 r3 r4 r5 r6 r7 r8 r9 r10 r11 r12 r13 = true := by
    cases hf : s_rows_fits_0 r0 r1 r2 r3 r4 r5 r6 r7 r8 r9 r10 r11 r12 r13
    · unfold s_rows_Check_0 at hc; rw [hf] at hc; exact absurd hc (by simp [ieq])
    · rfl
  exact ⟨⟨u_r2 rfl, u_r3 rfl, u_r4 rfl, u_r5 rfl, u_r6 rfl, u_r7 rfl, u_r8 rfl, u_r11 rfl, u_r13 rfl, u_r9 rfl⟩, ⟨u_a0 rfl, u_a1 rfl, u_a2 rfl, u_a3 rfl, u_a4 rfl, u_b0 rfl, u_b1 rfl, u_b2 rfl, u_b3 rfl, u_b4 rfl⟩, hf, n1, n2, n3, n4⟩
theorem sval_nonneg {m : Nat} (fm : fin m = true) (h : fle 0 m = true) : 0 ≤ rv m := by
  rw [rv_le (by decide) fm, decide_eq_true_eq] at h
  have e : rv 0 = 0 := by
    have : sval 0 = 0 := by decide
    unfold rv; rw [this]; grind
  grind
theorem bif3_still {α : Type} {a c1 c2 : Bool} {e o n : α} (h : a = false) (h1 : c1 = true) : (bif a then e else (bif c1 then o else (bif c2 then o else n))) = o := by rw [h, h1]; rfl
theorem bif3_go {α : Type} {a c1 c2 : Bool} {e o n : α} (h : a = false) (h1 : c1 = false) (h2 : c2 = false) : (bif a then e else (bif c1 then o else (bif c2 then o else n))) = n := by rw [h, h1, h2]; rfl
theorem fin1 {x : Nat} (cx : CF x) (fx : fin x = true) : s_rows_finite_1_0 x = false := by
  show (!(s_num_Finite_float64__0 x)) = false
  rw [finite_of cx fx]; rfl
theorem two_fin {x y : Nat} (hx : s_rows_finite_1_0 x = false) (hy : s_rows_finite_1_0 y = false) : (!(!(ile (0 : Int) (bif ((s_rows_finite_1_0 x) || (s_rows_finite_1_0 y)) then (bif (s_rows_finite_1_0 x) then (0 : Int) else (1 : Int)) else (-1 : Int))))) = false := by
  rw [hx, hy]; decide
theorem feq_same {x : Nat} (h : nanb x = false) : feq x x = true := by rw [feq_val h h]; simp
theorem flt_self {x : Nat} : flt x x = false := by
  cases h : nanb x
  · rw [flt_val h h]; simp
  · exact flt_nan (.inl h)
theorem flt_of_fle {x y : Nat} (h : fle x y = true) : flt y x = false := by
  cases hx : nanb x
  · cases hy : nanb y
    · rw [fle_val hx hy, decide_eq_true_eq] at h; rw [flt_val hy hx]; simp; omega
    · exact flt_nan (.inl hy)
  · exact flt_nan (.inr hx)
theorem ieq_same (x : Int) : ieq x x = true := by unfold ieq; simp
theorem and8 {X Y H C a b c d : Bool} (h : (((((((X && Y) && H) && C) && a) && b) && c) && d) = true) : H = true := by
  simp only [Bool.and_eq_true] at h; exact h.1.1.1.1.1.2
theorem usuals_high (r0 : Int) (r1 : Int) (r2 : Nat) (r3 : Nat) (r4 : Nat) (r5 : Nat) (r6 : Nat) (r7 : Nat) (r8 : Nat) (r9 : Nat) (r10 : Nat) (r11 : Nat) (r12 : Int) (r13 : Nat) (a0 : Nat) (a1 : Nat) (a2 : Nat) (a3 : Nat) (a4 : Nat) (b0 : Nat) (b1 : Nat) (b2 : Nat) (b3 : Nat) (b4 : Nat) (h : s_law20_usuals_0 r0 r1 r2 r3 r4 r5 r6 r7 r8 r9 r10 r11 r12 r13 a0 a1 a2 a3 a4 b0 b1 b2 b3 b4 = true) : ((bif ((!(feq r10 0)) && (!((fle 4427038433705197568 (fabs r10)) && (fle (fabs r10) 4787326403894837248)))) then false else true) || (flt 4787326403894837248 r10)) = true := by
  unfold s_law20_usuals_0 at h
  simp only [] at h
  exact and8 h
theorem pl_of_u40 {x : Nat} (cx : CF x) (u : U40 x) : Pl 982 1114 x := by
  have lx : x < 18446744073709551616 := cx.lt
  obtain ⟨fx, hu⟩ := u
  have fa := (abs_cases fx).1
  have e := fabs_of (fin_not_nan fx)
  have rr : rungOf (rungOf x) = rungOf x := by unfold rungOf; omega
  have l2 : rungOf x < 9223372036854775808 := by unfold rungOf; omega
  have s2 : sgnOf (rungOf x) = false := (sgn_false (by omega)).2 l2
  have kk : key (fabs x) = (rungOf x : Int) := by rw [e]; unfold key; rw [s2, rr]; rfl
  rcases hu with h | ⟨h1, h2⟩
  · refine Pl.nought lx ?_
    have := rv_zero_sval h
    rw [e, sval_sgn, s2, rr] at this
    simp only [Bool.false_eq_true, if_false] at this
    rcases Nat.eq_zero_or_pos (rungOf x) with h | h
    · exact h
    · have := magOf_pos.2 h; omega
  · have g1 : fle 4427038433705197568 (fabs x) = true := by
      rw [rv_le (by decide) fa, decide_eq_true_eq, rv_l40, show ((1 : Nat) : Rat) = 1 from rfl, show ((1099511627776 : Nat) : Rat) = 1099511627776 from rfl]; exact h1
    have g2 : fle (fabs x) 4787326403894837248 = true := by
      rw [rv_le fa (by decide), decide_eq_true_eq, rv_h40, show ((1 : Nat) : Rat) = 1 from rfl, show ((1099511627776 : Nat) : Rat) = 1099511627776 from rfl]; grind
    rw [fle_key (by decide) (fin_not_nan fa), decide_eq_true_eq, kk] at g1
    rw [fle_key (fin_not_nan fa) (by decide), decide_eq_true_eq, kk] at g2
    have k1 : key 4427038433705197568 = 4427038433705197568 := by decide
    have k2 : key 4787326403894837248 = 4787326403894837248 := by decide
    exact Pl.between lx (lo := 4427038433705197568) (hi := 4787326403894837248) (by decide) (by omega) (by omega) (by decide) (by decide) (by decide) (by decide)
/-- A float beyond all that is reckoned here. -/
def Huge (e b : Nat) : Prop := b < 18446744073709551616 ∧ sgnOf b = false ∧ (e - 51) * 4503599627370496 ≤ rungOf b ∧ rungOf b ≤ 9218868437227405312
theorem huge_top {e : Nat} (he' : e ≤ 2097) : (e - 8 - 51) * 4503599627370496 ≤ 9218868437227405312 := Nat.le_trans (Nat.mul_le_mul_right _ (show e - 8 - 51 ≤ 2038 by omega)) (by decide)
theorem Huge.times {e b : Nat} {z : Int} (h : Huge e b) (h1 : -8 ≤ z) (h2 : z ≤ 8) (he : 100 ≤ e) (he' : e ≤ 2097) : Huge (e - 8) (fmul b (pow2 z)) := by
  obtain ⟨lb, sb, r1, r2⟩ := h
  have fk := pow2_fin (z := z) (by omega) (by omega)
  have sk := pow2_sgn (z := z) (by omega) (by omega)
  rcases Nat.lt_or_ge (rungOf b) 9218868437227405312 with hl | hl
  · have fb : fin b = true := fin_iff.2 hl
    rw [fmul_fin fb fk, sb, sk]
    obtain ⟨d, hd⟩ : ∃ d, d = 1074 := ⟨_, rfl⟩
    obtain ⟨w, hw⟩ : ∃ w : Nat, (w : Int) = z + 1074 := ⟨(z + 1074).toNat, by omega⟩
    rw [← hd, pow2_mag (by omega) (by omega) hw]
    have hr := RN_le (magOf (rungOf b) * 2 ^ w) d
    refine ⟨word_lt64 _ hr, sgn_word _ hr, ?_, by rw [rung_word _ hr]; exact hr⟩
    rw [rung_word _ hr]
    have m1 : 2 ^ e ≤ magOf (rungOf b) := by rw [← mag_pow (by omega)]; exact magOf_le_iff.2 r1
    have m2 : magOf ((e - 8 - 51) * 4503599627370496) * 2 ^ d ≤ magOf (rungOf b) * 2 ^ w := by
      rw [mag_pow (by omega), ← Nat.pow_add]
      refine Nat.le_trans (Nat.pow_le_pow_right (by decide) (show e - 8 + d ≤ e + w by omega)) ?_
      rw [Nat.pow_add]; exact Nat.mul_le_mul_right _ m1
    have m3 := RN_mono m2 d
    rw [RN_exact (huge_top he')] at m3
    exact m3
  · have hr : rungOf b = 9218868437227405312 := by omega
    have pk := pow2_lt (z := z) (by omega) (by omega)
    have e1 : fmul b (pow2 z) = double.word false 9218868437227405312 := by
      unfold fmul Format.mul
      rw [read_inf hr, sb]
      obtain ⟨m, i, e2, l1, v1⟩ := read_num fk
      rw [e2, sk]
      have hm : m ≠ 0 := by
        intro h
        have := pow2_mag (z := z) (by omega) (by omega) (y := (z + 1074).toNat) (by omega)
        rw [← v1, h, Nat.zero_mul] at this
        have : 0 < 2 ^ (z + 1074).toNat := Nat.pow_pos (by decide)
        omega
      simp [Datum.product, hm, Format.write]
      rfl
    rw [e1]
    refine ⟨word_lt64 _ (by decide), sgn_word _ (by decide), ?_, by rw [rung_word _ (by decide)]; exact Nat.le_refl _⟩
    rw [rung_word _ (by decide)]; exact huge_top he'
theorem Huge.num {e b : Nat} (h : Huge e b) : nanb b = false := by
  cases hn : nanb b
  · rfl
  · have := (nanb_iff_rung b).1 hn
    have := h.2.2.2; omega
theorem Huge.above {e b x y z : Nat} (h : Huge e b) (px : Pl x y z) (hy : y < e) (hy' : 52 ≤ y) : flt b z = false ∧ fle z b = true := by
  have nb := h.num
  have nz := fin_not_nan px.fa
  have kb : key b = (rungOf b : Int) := by unfold key; rw [h.2.1]; rfl
  have kz := key_abs z
  have hz : rungOf z ≤ (y - 51) * 4503599627370496 := by
    have := px.ua
    rw [← mag_pow hy'] at this
    exact magOf_le_iff.1 this
  have h1 := h.2.2.1
  have h2 : (y - 51) * 4503599627370496 ≤ (e - 51) * 4503599627370496 := Nat.mul_le_mul_right _ (by omega)
  constructor
  · rw [flt_key nb nz]; simp; omega
  · rw [fle_key nz nb]; simp; omega
theorem sc_cut {i j x y y' a b : Nat} (h : Sc i j x y a b) (h1 : magOf (rungOf a) ≤ 2 ^ y') (h2 : magOf (rungOf b) ≤ 2 ^ y') : Sc i j x y' a b :=
  ⟨h.la, h.lb, h.fa, h.fb, h.sg, h.mg, h.da, h.db, h1, h2⟩
/-- The greatest push. -/
theorem high_cases {r : Nat} (cr : CF r) (h : ((bif ((!(feq r 0)) && (!((fle 4427038433705197568 (fabs r)) && (fle (fabs r) 4787326403894837248)))) then false else true) || (flt 4787326403894837248 r)) = true) : Pl 982 2064 r ∨ Huge 2064 r := by
  cases hc : ((!(feq r 0)) && (!((fle 4427038433705197568 (fabs r)) && (fle (fabs r) 4787326403894837248))))
  · left
    have u := u40_of cr hc
    exact Sc.weak (x' := 982) (y' := 2064) (pl_of_u40 cr u) (by omega) (by omega)
  · rw [hc] at h
    have hf : flt 4787326403894837248 r = true := h
    have hn : nanb r = false := by
      cases hn : nanb r
      · rfl
      · rw [flt_nan (.inr hn)] at hf; cases hf
    rw [flt_key (by decide) hn, decide_eq_true_eq, show key 4787326403894837248 = 4787326403894837248 by decide] at hf
    have hs : sgnOf r = false := by
      cases hs : sgnOf r
      · rfl
      · unfold key at hf; rw [hs] at hf; simp only [if_true] at hf; omega
    have hk : key r = (rungOf r : Int) := by unfold key; rw [hs]; rfl
    rw [hk] at hf
    have ht := not_nan_rung hn
    rcases Nat.lt_or_ge (rungOf r) 9065746049896808448 with hl | hl
    · left
      have p : Pl 1062 2064 r := Pl.between cr.lt (lo := 4787326403894837248) (hi := 9065746049896808448) (by decide) (by omega) (by omega) (by decide) (by decide) (by decide) (by decide)
      exact Sc.weak (x' := 982) (y' := 2064) p (by omega) (by omega)
    · right
      exact ⟨cr.lt, hs, by omega, ht⟩
theorem power_small (p : Int) : ∃ z : Int, IntKind.wrap .i64 (IntKind.wrap .i64 (Int.tmod p 9 + 0) + 0) = z ∧ -8 ≤ z ∧ z ≤ 8 := by
  have h : (Int.tmod p 9).natAbs < 9 := by
    rw [Int.natAbs_tmod]; exact Nat.mod_lt _ (by decide)
  refine ⟨Int.tmod p 9, ?_, by omega, by omega⟩
  have e := wrap64 (n := Int.tmod p 9) (by omega) (by omega)
  rw [Int.add_zero, Int.add_zero, e, e]
theorem finite_of' {x : Nat} (cx : x < 18446744073709551616) (fx : fin x = true) : s_num_Finite_float64__0 x = true := by
  unfold s_num_Finite_float64__0
  exact V.feq_of (V.sub cx (V.self fx) (V.self fx) V.zero (by omega)) V.zero
theorem fin1' {x : Nat} (cx : x < 18446744073709551616) (fx : fin x = true) : s_rows_finite_1_0 x = false := by
  show (!(s_num_Finite_float64__0 x)) = false
  rw [finite_of' cx fx]; rfl
theorem rests_of' {a0 a1 a2 a3 a4 : Nat} (c0 : a0 < 18446744073709551616) (c1 : a1 < 18446744073709551616) (f0 : fin a0 = true) (f1 : fin a1 = true) (n0 : fle 0 a0 = true) (n1 : fle 0 a1 = true) : s_rows_rests_0 a0 a1 a2 a3 a4 = true := by
  rw [rests_form, finite_of' c0 f0, finite_of' c1 f1, n0, n1]; rfl
theorem feq_self' {x : Nat} (fx : fin x = true) : feq x x = true := by rw [feq_val (fin_not_nan fx) (fin_not_nan fx)]; simp
theorem clamp_form (x lo hi : Nat) : s_num_Clamp_float64__0 x lo hi = (bif ((!(flt lo x)) || (flt hi x)) then (bif (!(flt lo x)) then lo else hi) else x) := rfl
set_option maxHeartbeats 1000000 in
theorem law_RowScaled (r0 : Int) (r1 : Int) (r2 : Nat) (r3 : Nat) (r4 : Nat) (r5 : Nat) (r6 : Nat) (r7 : Nat) (r8 : Nat) (r9 : Nat) (r10 : Nat) (r11 : Nat) (r12 : Int) (r13 : Nat) (a0 : Nat) (a1 : Nat) (a2 : Nat) (a3 : Nat) (a4 : Nat) (b0 : Nat) (b1 : Nat) (b2 : Nat) (b3 : Nat) (b4 : Nat) (pw : Int) (k0 : IntKind.i64.min ≤ r0 ∧ r0 ≤ IntKind.i64.max) (k1 : IntKind.i64.min ≤ r1 ∧ r1 ≤ IntKind.i64.max) (cr2 : CF r2) (cr3 : CF r3) (cr4 : CF r4) (cr5 : CF r5) (cr6 : CF r6) (cr7 : CF r7) (cr8 : CF r8) (cr9 : CF r9) (cr10 : CF r10) (cr11 : CF r11) (k12 : IntKind.i64.min ≤ r12 ∧ r12 ≤ IntKind.i64.max) (cr13 : CF r13) (ca0 : CF a0) (ca1 : CF a1) (ca2 : CF a2) (ca3 : CF a3) (ca4 : CF a4) (cb0 : CF b0) (cb1 : CF b1) (cb2 : CF b2) (cb3 : CF b3) (cb4 : CF b4) (kp : IntKind.i64.min ≤ pw ∧ pw ≤ IntKind.i64.max) : T_law20_RowScaled r0 r1 r2 r3 r4 r5 r6 r7 r8 r9 r10 r11 r12 r13 a0 a1 a2 a3 a4 b0 b1 b2 b3 b4 pw = true := by
  obtain ⟨z, hz, z1, z2⟩ := power_small pw
  unfold T_law20_RowScaled
  simp only []
  rw [hz, ldexp_word (by omega) (by omega)]
  cases hu : s_law20_usuals_0 r0 r1 r2 r3 r4 r5 r6 r7 r8 r9 r10 r11 r12 r13 a0 a1 a2 a3 a4 b0 b1 b2 b3 b4
  · rfl
  have hhi := usuals_high r0 r1 r2 r3 r4 r5 r6 r7 r8 r9 r10 r11 r12 r13 a0 a1 a2 a3 a4 b0 b1 b2 b3 b4 hu
  obtain ⟨⟨ur2, ur3, ur4, ur5, ur6, ur7, ur8, ur11, ur13, ur9⟩, ⟨ua0, ua1, ua2, ua3, ua4, ub0, ub1, ub2, ub3, ub4⟩, hf, n1, n2, n3, n4⟩ := usuals_say r0 r1 r2 r3 r4 r5 r6 r7 r8 r9 r10 r11 r12 r13 a0 a1 a2 a3 a4 b0 b1 b2 b3 b4 cr2 cr3 cr4 cr5 cr6 cr7 cr8 cr9 cr10 cr11 cr13 ca0 ca1 ca2 ca3 ca4 cb0 cb1 cb2 cb3 cb4 hu
  have k1 : s_rows_asked_0 r0 r1 r2 r3 r4 r5 r6 r7 r8 r9 r10 r11 r12 r13 a0 a1 a2 a3 a4 b0 b1 b2 b3 b4 = 0 := asked_of r0 r1 r2 r3 r4 r5 r6 r7 r8 r9 r10 r11 r12 r13 a0 a1 a2 a3 a4 b0 b1 b2 b3 b4 hf (rests_of ca0 ca1 ua0.1 ua1.1 n1 n2) (rests_of cb0 cb1 ub0.1 ub1.1 n3 n4)
  have ka : (!(ieq (s_rows_asked_0 r0 r1 r2 r3 r4 r5 r6 r7 r8 r9 r10 r11 r12 r13 a0 a1 a2 a3 a4 b0 b1 b2 b3 b4) (0 : Int))) = false := by rw [k1]; rfl
  have pr2 := pl_of_u40 cr2 ur2
  have pr3 := pl_of_u40 cr3 ur3
  have pr4 := pl_of_u40 cr4 ur4
  have pr5 := pl_of_u40 cr5 ur5
  have pr6 := pl_of_u40 cr6 ur6
  have pr7 := pl_of_u40 cr7 ur7
  have pr8 := pl_of_u40 cr8 ur8
  have pr9 := pl_of_u40 cr9 ur9
  have pr11 := pl_of_u40 cr11 ur11
  have pa0 := pl_of_u40 ca0 ua0
  have pa1 := pl_of_u40 ca1 ua1
  have pa2 := pl_of_u40 ca2 ua2
  have pa3 := pl_of_u40 ca3 ua3
  have pa4 := pl_of_u40 ca4 ua4
  have pb0 := pl_of_u40 cb0 ub0
  have pb1 := pl_of_u40 cb1 ub1
  have pb2 := pl_of_u40 cb2 ub2
  have pb3 := pl_of_u40 cb3 ub3
  have pb4 := pl_of_u40 cb4 ub4
  obtain ⟨i, j, hij⟩ : ∃ i j : Nat, z + (j : Int) = i := ⟨z.toNat, (-z).toNat, by omega⟩
  have tm : ∀ {x y X Y a : Nat}, Pl x y a → 52 ≤ X → X + 8 ≤ x → y + 8 ≤ Y → 52 ≤ Y → Y ≤ 2097 → Sc i j X Y a (fmul a (pow2 z)) := by
    intro x y X Y a h e1 e2 e3 e4 e5
    exact h.times (by omega) (by omega) hij e1 (by omega) (by omega) (by omega) (by omega) e4 e5
  have by' : ∀ {x y X Y a : Nat}, Pl x y a → 52 ≤ X → X + 62 ≤ x → y + 10 ≤ Y → Y ≤ 2097 → Sc j i X Y a (fdiv a (pow2 z)) := by
    intro x y X Y a h e1 e2 e3 e4
    exact h.by' (by omega) (by omega) hij (by omega) e1 (by omega) (by omega) (by omega) (by omega) e4
  have tm3 : ∀ {x y X Y a : Nat}, Pl x y a → 52 ≤ X → X + 24 ≤ x → y + 24 ≤ Y → 52 ≤ y → Y ≤ 2097 → Sc (i + i + i) (j + j + j) X Y a (fmul (fmul (fmul a (pow2 z)) (pow2 z)) (pow2 z)) := by
    intro x y X Y a h e1 e2 e3 e4 e5
    have t1 := tm (X := x - 8) (Y := y + 8) h (by omega) (by omega) (by omega) (by omega) (by omega)
    have t2 := tm (X := x - 16) (Y := y + 16) t1.right (by omega) (by omega) (by omega) (by omega) (by omega)
    have t3 := tm (X := X) (Y := Y) t2.right (by omega) (by omega) (by omega) (by omega) (by omega)
    exact (((t1.weak (x' := X) (y' := Y) (by omega) (by omega)).trans (t2.weak (x' := X) (y' := Y) (by omega) (by omega)) (by omega) (by omega)).trans t3 (by omega) (by omega))
  have by2 : ∀ {x y X Y a : Nat}, Pl x y a → 52 ≤ X → X + 124 ≤ x → y + 20 ≤ Y → Y ≤ 2097 → Sc (j + j) (i + i) X Y a (fdiv (fdiv a (pow2 z)) (pow2 z)) := by
    intro x y X Y a h e1 e2 e3 e4
    have t1 := by' (X := x - 62) (Y := y + 10) h (by omega) (by omega) (by omega) (by omega)
    have t2 := by' (X := X) (Y := Y) t1.right (by omega) (by omega) (by omega) (by omega)
    exact (t1.weak (x' := X) (y' := Y) (by omega) (by omega)).trans t2 (by omega) (by omega)
  have by4 : ∀ {x y X Y a : Nat}, Pl x y a → 52 ≤ X → X + 248 ≤ x → y + 40 ≤ Y → Y ≤ 2097 → Sc (j + j + (j + j)) (i + i + (i + i)) X Y a (fdiv (fdiv (fdiv (fdiv a (pow2 z)) (pow2 z)) (pow2 z)) (pow2 z)) := by
    intro x y X Y a h e1 e2 e3 e4
    have t1 := by2 (X := x - 124) (Y := y + 20) h (by omega) (by omega) (by omega) (by omega)
    have t2 := by2 (X := X) (Y := Y) t1.right (by omega) (by omega) (by omega) (by omega)
    exact (t1.weak (x' := X) (y' := Y) (by omega) (by omega)).trans t2 (by omega) (by omega)
  have ela0 : s_law20_lighter_0 a0 a1 a2 a3 a4 (pow2 z) = (fdiv (fdiv a0 (pow2 z)) (pow2 z)) := rfl
  have ela1 : s_law20_lighter_1 a0 a1 a2 a3 a4 (pow2 z) = (fdiv (fdiv (fdiv (fdiv a1 (pow2 z)) (pow2 z)) (pow2 z)) (pow2 z)) := rfl
  have ela2 : s_law20_lighter_2 a0 a1 a2 a3 a4 (pow2 z) = (fmul a2 (pow2 z)) := rfl
  have ela3 : s_law20_lighter_3 a0 a1 a2 a3 a4 (pow2 z) = (fmul a3 (pow2 z)) := rfl
  have ela4 : s_law20_lighter_4 a0 a1 a2 a3 a4 (pow2 z) = a4 := rfl
  have elb0 : s_law20_lighter_0 b0 b1 b2 b3 b4 (pow2 z) = (fdiv (fdiv b0 (pow2 z)) (pow2 z)) := rfl
  have elb1 : s_law20_lighter_1 b0 b1 b2 b3 b4 (pow2 z) = (fdiv (fdiv (fdiv (fdiv b1 (pow2 z)) (pow2 z)) (pow2 z)) (pow2 z)) := rfl
  have elb2 : s_law20_lighter_2 b0 b1 b2 b3 b4 (pow2 z) = (fmul b2 (pow2 z)) := rfl
  have elb3 : s_law20_lighter_3 b0 b1 b2 b3 b4 (pow2 z) = (fmul b3 (pow2 z)) := rfl
  have elb4 : s_law20_lighter_4 b0 b1 b2 b3 b4 (pow2 z) = b4 := rfl
  rw [ela0, ela1, ela2, ela3, ela4, elb0, elb1, elb2, elb3, elb4]
  have sr6 := tm (X := 974) (Y := 1122) pr6 (by omega) (by omega) (by omega) (by omega) (by omega)
  have sr7 := tm (X := 974) (Y := 1122) pr7 (by omega) (by omega) (by omega) (by omega) (by omega)
  have sr8 := tm (X := 974) (Y := 1122) pr8 (by omega) (by omega) (by omega) (by omega) (by omega)
  have sr9 := tm3 (X := 958) (Y := 1138) pr9 (by omega) (by omega) (by omega) (by omega) (by omega)
  have sr11 := tm3 (X := 958) (Y := 1138) pr11 (by omega) (by omega) (by omega) (by omega) (by omega)
  have sa0 := by2 (X := 858) (Y := 1134) pa0 (by omega) (by omega) (by omega) (by omega)
  have sa1 := by4 (X := 734) (Y := 1154) pa1 (by omega) (by omega) (by omega) (by omega)
  have sa2 := tm (X := 974) (Y := 1122) pa2 (by omega) (by omega) (by omega) (by omega) (by omega)
  have sa3 := tm (X := 974) (Y := 1122) pa3 (by omega) (by omega) (by omega) (by omega) (by omega)
  have sb0 := by2 (X := 858) (Y := 1134) pb0 (by omega) (by omega) (by omega) (by omega)
  have sb1 := by4 (X := 734) (Y := 1154) pb1 (by omega) (by omega) (by omega) (by omega)
  have sb2 := tm (X := 974) (Y := 1122) pb2 (by omega) (by omega) (by omega) (by omega) (by omega)
  have sb3 := tm (X := 974) (Y := 1122) pb3 (by omega) (by omega) (by omega) (by omega) (by omega)
  generalize hgr6 : (fmul r6 (pow2 z)) = dr6 at sr6 ⊢
  generalize hgr7 : (fmul r7 (pow2 z)) = dr7 at sr7 ⊢
  generalize hgr8 : (fmul r8 (pow2 z)) = dr8 at sr8 ⊢
  generalize hgr9 : (fmul (fmul (fmul r9 (pow2 z)) (pow2 z)) (pow2 z)) = dr9 at sr9 ⊢
  generalize hgr11 : (fmul (fmul (fmul r11 (pow2 z)) (pow2 z)) (pow2 z)) = dr11 at sr11 ⊢
  generalize hga0 : (fdiv (fdiv a0 (pow2 z)) (pow2 z)) = da0 at sa0 ⊢
  generalize hga1 : (fdiv (fdiv (fdiv (fdiv a1 (pow2 z)) (pow2 z)) (pow2 z)) (pow2 z)) = da1 at sa1 ⊢
  generalize hga2 : (fmul a2 (pow2 z)) = da2 at sa2 ⊢
  generalize hga3 : (fmul a3 (pow2 z)) = da3 at sa3 ⊢
  generalize hgb0 : (fdiv (fdiv b0 (pow2 z)) (pow2 z)) = db0 at sb0 ⊢
  generalize hgb1 : (fdiv (fdiv (fdiv (fdiv b1 (pow2 z)) (pow2 z)) (pow2 z)) (pow2 z)) = db1 at sb1 ⊢
  generalize hgb2 : (fmul b2 (pow2 z)) = db2 at sb2 ⊢
  generalize hgb3 : (fmul b3 (pow2 z)) = db3 at sb3 ⊢
  -- the greatest push
  obtain ⟨dr10, hd10, hh⟩ : ∃ d, fmul (fmul (fmul r10 (pow2 z)) (pow2 z)) (pow2 z) = d ∧ (Sc (i + i + i) (j + j + j) 958 2088 r10 d ∨ (Huge 2064 r10 ∧ Huge 2040 d)) := by
    refine ⟨_, rfl, ?_⟩
    rcases high_cases cr10 hhi with h | h
    · exact .inl (tm3 (X := 958) (Y := 2088) h (by omega) (by omega) (by omega) (by omega) (by omega))
    · exact .inr ⟨h, ((h.times z1 z2 (by omega) (by omega)).times z1 z2 (by omega) (by omega)).times z1 z2 (by omega) (by omega)⟩
  rw [hd10]
  clear hd10 hhi
  have hlh : fle r9 r10 = true := by
    have h := hf
    rw [fits_form] at h
    simp only [Bool.and_eq_true] at h
    exact h.1.2
  have hlh' : fle dr9 dr10 = true := by
    rcases hh with h | ⟨h, h'⟩
    · rw [Sc.fle sr9 h]; exact hlh
    · exact (h'.above sr9.right (by omega) (by omega)).2
  have hf2 : s_rows_fits_0 r0 r1 r2 r3 r4 r5 dr6 dr7 dr8 dr9 dr10 dr11 r12 r13 = true := by
    have h := hf
    rw [fits_form] at h
    rw [fits_form, hlh', finite_of' sr6.lb sr6.fb, finite_of' sr7.lb sr7.fb, finite_of' sr8.lb sr8.fb, finite_of' sr11.lb sr11.fb]
    simp only [Bool.and_eq_true] at h ⊢
    simp only [h, and_self, and_true, true_and]
  have n1' : fle 0 da0 = true := by rw [(Sc.zero _ _ 52 2000).fle sa0]; exact n1
  have n2' : fle 0 da1 = true := by rw [(Sc.zero _ _ 52 2000).fle sa1]; exact n2
  have n3' : fle 0 db0 = true := by rw [(Sc.zero _ _ 52 2000).fle sb0]; exact n3
  have n4' : fle 0 db1 = true := by rw [(Sc.zero _ _ 52 2000).fle sb1]; exact n4
  have k2 : s_rows_asked_0 r0 r1 r2 r3 r4 r5 dr6 dr7 dr8 dr9 dr10 dr11 r12 r13 da0 da1 da2 da3 a4 db0 db1 db2 db3 b4 = 0 := asked_of r0 r1 r2 r3 r4 r5 dr6 dr7 dr8 dr9 dr10 dr11 r12 r13 da0 da1 da2 da3 a4 db0 db1 db2 db3 b4 hf2 (rests_of' sa0.lb sa1.lb sa0.fb sa1.fb n1' n2') (rests_of' sb0.lb sb1.lb sb0.fb sb1.fb n3' n4')
  have kb : (!(ieq (s_rows_asked_0 r0 r1 r2 r3 r4 r5 dr6 dr7 dr8 dr9 dr10 dr11 r12 r13 da0 da1 da2 da3 a4 db0 db1 db2 db3 b4) (0 : Int))) = false := by rw [k2]; rfl
  have mulE : ∀ {i1 j1 x1 y1 i2 j2 x2 y2 X Y I J a b a' b' : Nat}, Sc i1 j1 x1 y1 a a' → Sc i2 j2 x2 y2 b b' → i1 + i2 = I → j1 + j2 = J → 52 ≤ X → X + 1074 ≤ x1 + x2 → y1 + y2 ≤ Y + 1074 → 52 ≤ Y → Y ≤ 2097 → Sc I J X Y (fmul a b) (fmul a' b') := by
    intro i1 j1 x1 y1 i2 j2 x2 y2 X Y I J a b a' b' h g e1 e2 e3 e4 e5 e6 e7
    subst e1 e2
    exact Sc.mul h g e3 e4 e5 e6 e7
  have addE : ∀ {I J x1 y1 x2 y2 X Y a b a' b' : Nat}, Sc I J x1 y1 a a' → Sc I J x2 y2 b b' → X ≤ x1 → X ≤ x2 → y1 ≤ Y → y2 ≤ Y → 52 ≤ X → 51 ≤ Y → Y ≤ 2096 → Sc I J X (Y + 1) (fadd a b) (fadd a' b') := by
    intro I J x1 y1 x2 y2 X Y a b a' b' h g e1 e2 e3 e4 e5 e6 e7
    exact Sc.add (h.weak e1 e3) (g.weak e2 e4) e5 e7 e6
  have subE : ∀ {I J x1 y1 x2 y2 X Y a b a' b' : Nat}, Sc I J x1 y1 a a' → Sc I J x2 y2 b b' → X ≤ x1 → X ≤ x2 → y1 ≤ Y → y2 ≤ Y → 52 ≤ X → 51 ≤ Y → Y ≤ 2096 → Sc I J X (Y + 1) (fsub a b) (fsub a' b') := by
    intro I J x1 y1 x2 y2 X Y a b a' b' h g e1 e2 e3 e4 e5 e6 e7
    exact Sc.sub (h.weak e1 e3) (g.weak e2 e4) e5 e7 e6
  have m1 := mulE (X := 882) (Y := 1162) (I := i) (J := j) (show Sc 0 0 982 1114 r2 r2 from pr2) sa2 (by omega) (by omega) (by omega) (by omega) (by omega) (by omega) (by omega)
  have m2 := mulE (X := 882) (Y := 1162) (I := i) (J := j) (show Sc 0 0 982 1114 r3 r3 from pr3) sa3 (by omega) (by omega) (by omega) (by omega) (by omega) (by omega) (by omega)
  have m3 := mulE (X := 882) (Y := 1162) (I := i) (J := j) sr6 (show Sc 0 0 982 1114 a4 a4 from pa4) (by omega) (by omega) (by omega) (by omega) (by omega) (by omega) (by omega)
  have m4 := mulE (X := 882) (Y := 1162) (I := i) (J := j) (show Sc 0 0 982 1114 r4 r4 from pr4) sb2 (by omega) (by omega) (by omega) (by omega) (by omega) (by omega) (by omega)
  have m5 := mulE (X := 882) (Y := 1162) (I := i) (J := j) (show Sc 0 0 982 1114 r5 r5 from pr5) sb3 (by omega) (by omega) (by omega) (by omega) (by omega) (by omega) (by omega)
  have m6 := mulE (X := 882) (Y := 1162) (I := i) (J := j) sr7 (show Sc 0 0 982 1114 b4 b4 from pb4) (by omega) (by omega) (by omega) (by omega) (by omega) (by omega) (by omega)
  have v1 := addE (X := 882) (Y := 1162) m1 m2 (by omega) (by omega) (by omega) (by omega) (by omega) (by omega) (by omega)
  have v2 := addE (X := 882) (Y := 1163) v1 m3 (by omega) (by omega) (by omega) (by omega) (by omega) (by omega) (by omega)
  have v3 := addE (X := 882) (Y := 1162) m4 m5 (by omega) (by omega) (by omega) (by omega) (by omega) (by omega) (by omega)
  have v4 := addE (X := 882) (Y := 1164) v2 v3 (by omega) (by omega) (by omega) (by omega) (by omega) (by omega) (by omega)
  have sS := addE (X := 882) (Y := 1165) v4 m6 (by omega) (by omega) (by omega) (by omega) (by omega) (by omega) (by omega)
  have q0a := mulE (X := 890) (Y := 1154) (I := 0) (J := 0) (show Sc 0 0 982 1114 r2 r2 from pr2) (show Sc 0 0 982 1114 r2 r2 from pr2) rfl rfl (by omega) (by omega) (by omega) (by omega) (by omega)
  have q0b := mulE (X := 890) (Y := 1154) (I := 0) (J := 0) (show Sc 0 0 982 1114 r3 r3 from pr3) (show Sc 0 0 982 1114 r3 r3 from pr3) rfl rfl (by omega) (by omega) (by omega) (by omega) (by omega)
  have q0c := addE (X := 890) (Y := 1154) q0a q0b (by omega) (by omega) (by omega) (by omega) (by omega) (by omega) (by omega)
  have q0 := mulE (X := 534) (Y := 1250) (I := j + j) (J := i + i) sa0 q0c (by omega) (by omega) (by omega) (by omega) (by omega) (by omega) (by omega)
  have q1a := mulE (X := 890) (Y := 1154) (I := 0) (J := 0) (show Sc 0 0 982 1114 r4 r4 from pr4) (show Sc 0 0 982 1114 r4 r4 from pr4) rfl rfl (by omega) (by omega) (by omega) (by omega) (by omega)
  have q1b := mulE (X := 890) (Y := 1154) (I := 0) (J := 0) (show Sc 0 0 982 1114 r5 r5 from pr5) (show Sc 0 0 982 1114 r5 r5 from pr5) rfl rfl (by omega) (by omega) (by omega) (by omega) (by omega)
  have q1c := addE (X := 890) (Y := 1154) q1a q1b (by omega) (by omega) (by omega) (by omega) (by omega) (by omega) (by omega)
  have q1 := mulE (X := 534) (Y := 1250) (I := j + j) (J := i + i) sb0 q1c (by omega) (by omega) (by omega) (by omega) (by omega) (by omega) (by omega)
  have g0a := mulE (X := 874) (Y := 1170) (I := i + i) (J := j + j) sr6 sr6 rfl rfl (by omega) (by omega) (by omega) (by omega) (by omega)
  have g0 := Sc.less (t := i + i + (j + j)) (mulE (X := 534) (Y := 1250) (I := j + j + (i + i + (j + j))) (J := i + i + (i + i + (j + j))) sa1 g0a (by omega) (by omega) (by omega) (by omega) (by omega) (by omega) (by omega))
  have g1a := mulE (X := 874) (Y := 1170) (I := i + i) (J := j + j) sr7 sr7 rfl rfl (by omega) (by omega) (by omega) (by omega) (by omega)
  have g1 := Sc.less (t := i + i + (j + j)) (mulE (X := 534) (Y := 1250) (I := j + j + (i + i + (j + j))) (J := i + i + (i + i + (j + j))) sb1 g1a (by omega) (by omega) (by omega) (by omega) (by omega) (by omega) (by omega))
  have w1 := addE (X := 534) (Y := 1250) q0 g0 (by omega) (by omega) (by omega) (by omega) (by omega) (by omega) (by omega)
  have w2 := addE (X := 534) (Y := 1251) w1 q1 (by omega) (by omega) (by omega) (by omega) (by omega) (by omega) (by omega)
  have sW := addE (X := 534) (Y := 1252) w2 g1 (by omega) (by omega) (by omega) (by omega) (by omega) (by omega) (by omega)
  have sW' : Sc (j + j) (i + i) 534 1253 (s_rows_weight_0 r0 r1 r2 r3 r4 r5 r6 r7 r8 r9 r10 r11 r12 r13 a0 a1 a2 a3 a4 b0 b1 b2 b3 b4) (s_rows_weight_0 r0 r1 r2 r3 r4 r5 dr6 dr7 dr8 dr9 dr10 dr11 r12 r13 da0 da1 da2 da3 a4 db0 db1 db2 db3 b4) := sW
  have sS' : Sc i j 882 1166 (s_rows_speed_0 r0 r1 r2 r3 r4 r5 r6 r7 r8 r9 r10 r11 r12 r13 a0 a1 a2 a3 a4 b0 b1 b2 b3 b4) (s_rows_speed_0 r0 r1 r2 r3 r4 r5 dr6 dr7 dr8 dr9 dr10 dr11 r12 r13 da0 da1 da2 da3 a4 db0 db1 db2 db3 b4) := sS
  have sL := subE (X := 882) (Y := 1166) sr8 sS' (by omega) (by omega) (by omega) (by omega) (by omega) (by omega) (by omega)
  have fw0 := fin1' sW'.la sW'.fa
  have fw1 := fin1' sW'.lb sW'.fb
  have fl0 := fin1' sL.la sL.fa
  have fl1 := fin1' sL.lb sL.fb
  have hw : flt 0 (s_rows_weight_0 r0 r1 r2 r3 r4 r5 dr6 dr7 dr8 dr9 dr10 dr11 r12 r13 da0 da1 da2 da3 a4 db0 db1 db2 db3 b4) = flt 0 (s_rows_weight_0 r0 r1 r2 r3 r4 r5 r6 r7 r8 r9 r10 r11 r12 r13 a0 a1 a2 a3 a4 b0 b1 b2 b3 b4) := (Sc.zero _ _ 52 2000).flt sW'
  have lin : ∀ {u v x y X Y : Nat}, Sc i j X Y u v → Pl x y u → 60 ≤ x → y ≤ 2089 → 52 ≤ y → feq v (fmul u (pow2 z)) = true := by
    intro u v x y X Y h g e1 e2 e3
    rw [← h.same (tm (X := x - 8) (Y := y + 8) g (by omega) (by omega) (by omega) (by omega) (by omega))]
    exact feq_self' h.fb
  have sp0 : s_rows_Speed_0 r0 r1 r2 r3 r4 r5 r6 r7 r8 r9 r10 r11 r12 r13 a0 a1 a2 a3 a4 b0 b1 b2 b3 b4 = (s_rows_speed_0 r0 r1 r2 r3 r4 r5 r6 r7 r8 r9 r10 r11 r12 r13 a0 a1 a2 a3 a4 b0 b1 b2 b3 b4) := by unfold s_rows_Speed_0; rw [k1]; rfl
  have sp1 : s_rows_Speed_0 r0 r1 r2 r3 r4 r5 dr6 dr7 dr8 dr9 dr10 dr11 r12 r13 da0 da1 da2 da3 a4 db0 db1 db2 db3 b4 = (s_rows_speed_0 r0 r1 r2 r3 r4 r5 dr6 dr7 dr8 dr9 dr10 dr11 r12 r13 da0 da1 da2 da3 a4 db0 db1 db2 db3 b4) := by unfold s_rows_Speed_0; rw [k2]; rfl
  have sq0 : s_rows_Speed_1 r0 r1 r2 r3 r4 r5 r6 r7 r8 r9 r10 r11 r12 r13 a0 a1 a2 a3 a4 b0 b1 b2 b3 b4 = 0 := by unfold s_rows_Speed_1; rw [k1]; rfl
  have sq1 : s_rows_Speed_1 r0 r1 r2 r3 r4 r5 dr6 dr7 dr8 dr9 dr10 dr11 r12 r13 da0 da1 da2 da3 a4 db0 db1 db2 db3 b4 = 0 := by unfold s_rows_Speed_1; rw [k2]; rfl
  have we0 : s_rows_Weight_0 r0 r1 r2 r3 r4 r5 r6 r7 r8 r9 r10 r11 r12 r13 a0 a1 a2 a3 a4 b0 b1 b2 b3 b4 = (s_rows_weight_0 r0 r1 r2 r3 r4 r5 r6 r7 r8 r9 r10 r11 r12 r13 a0 a1 a2 a3 a4 b0 b1 b2 b3 b4) := by unfold s_rows_Weight_0; rw [k1]; rfl
  have we1 : s_rows_Weight_0 r0 r1 r2 r3 r4 r5 dr6 dr7 dr8 dr9 dr10 dr11 r12 r13 da0 da1 da2 da3 a4 db0 db1 db2 db3 b4 = (s_rows_weight_0 r0 r1 r2 r3 r4 r5 dr6 dr7 dr8 dr9 dr10 dr11 r12 r13 da0 da1 da2 da3 a4 db0 db1 db2 db3 b4) := by unfold s_rows_Weight_0; rw [k2]; rfl
  have wq0 : s_rows_Weight_1 r0 r1 r2 r3 r4 r5 r6 r7 r8 r9 r10 r11 r12 r13 a0 a1 a2 a3 a4 b0 b1 b2 b3 b4 = 0 := by unfold s_rows_Weight_1; rw [k1]; rfl
  have wq1 : s_rows_Weight_1 r0 r1 r2 r3 r4 r5 dr6 dr7 dr8 dr9 dr10 dr11 r12 r13 da0 da1 da2 da3 a4 db0 db1 db2 db3 b4 = 0 := by unfold s_rows_Weight_1; rw [k2]; rfl
  rw [sp0, sp1, sq0, sq1, we0, we1, wq0, wq1]
  have c1 : feq (s_rows_speed_0 r0 r1 r2 r3 r4 r5 dr6 dr7 dr8 dr9 dr10 dr11 r12 r13 da0 da1 da2 da3 a4 db0 db1 db2 db3 b4) (fmul (s_rows_speed_0 r0 r1 r2 r3 r4 r5 r6 r7 r8 r9 r10 r11 r12 r13 a0 a1 a2 a3 a4 b0 b1 b2 b3 b4) (pow2 z)) = true := lin sS' sS'.left (by omega) (by omega) (by omega)
  have c2 : feq (s_rows_weight_0 r0 r1 r2 r3 r4 r5 dr6 dr7 dr8 dr9 dr10 dr11 r12 r13 da0 da1 da2 da3 a4 db0 db1 db2 db3 b4) (fdiv (fdiv (s_rows_weight_0 r0 r1 r2 r3 r4 r5 r6 r7 r8 r9 r10 r11 r12 r13 a0 a1 a2 a3 a4 b0 b1 b2 b3 b4) (pow2 z)) (pow2 z)) = true := by
    rw [← sW'.same (by2 (X := 400) (Y := 1300) sW'.left (by omega) (by omega) (by omega) (by omega))]
    exact feq_self' sW'.fb
  rw [c1, c2, ieq_same]
  have lin3 : ∀ {u v x y X Y : Nat}, Sc (i + i + i) (j + j + j) X Y u v → Pl x y u → 76 ≤ x → y ≤ 2073 → 52 ≤ y → feq v (fmul (fmul (fmul u (pow2 z)) (pow2 z)) (pow2 z)) = true := by
    intro u v x y X Y h g e1 e2 e3
    rw [← h.same (tm3 (X := x - 24) (Y := y + 24) g (by omega) (by omega) (by omega) (by omega) (by omega))]
    exact feq_self' h.fb
  cases hw0 : flt 0 (s_rows_weight_0 r0 r1 r2 r3 r4 r5 r6 r7 r8 r9 r10 r11 r12 r13 a0 a1 a2 a3 a4 b0 b1 b2 b3 b4)
  · have hc0 : ((!(flt 0 (s_rows_weight_0 r0 r1 r2 r3 r4 r5 r6 r7 r8 r9 r10 r11 r12 r13 a0 a1 a2 a3 a4 b0 b1 b2 b3 b4))) || (!(!(ile (0 : Int) (bif ((s_rows_finite_1_0 (s_rows_weight_0 r0 r1 r2 r3 r4 r5 r6 r7 r8 r9 r10 r11 r12 r13 a0 a1 a2 a3 a4 b0 b1 b2 b3 b4)) || (s_rows_finite_1_0 (fsub r8 (s_rows_speed_0 r0 r1 r2 r3 r4 r5 r6 r7 r8 r9 r10 r11 r12 r13 a0 a1 a2 a3 a4 b0 b1 b2 b3 b4)))) then (bif (s_rows_finite_1_0 (s_rows_weight_0 r0 r1 r2 r3 r4 r5 r6 r7 r8 r9 r10 r11 r12 r13 a0 a1 a2 a3 a4 b0 b1 b2 b3 b4)) then (0 : Int) else (1 : Int)) else (-1 : Int)))))) = true := by rw [hw0]; rfl
    have hc1 : ((!(flt 0 (s_rows_weight_0 r0 r1 r2 r3 r4 r5 dr6 dr7 dr8 dr9 dr10 dr11 r12 r13 da0 da1 da2 da3 a4 db0 db1 db2 db3 b4))) || (!(!(ile (0 : Int) (bif ((s_rows_finite_1_0 (s_rows_weight_0 r0 r1 r2 r3 r4 r5 dr6 dr7 dr8 dr9 dr10 dr11 r12 r13 da0 da1 da2 da3 a4 db0 db1 db2 db3 b4)) || (s_rows_finite_1_0 (fsub dr8 (s_rows_speed_0 r0 r1 r2 r3 r4 r5 dr6 dr7 dr8 dr9 dr10 dr11 r12 r13 da0 da1 da2 da3 a4 db0 db1 db2 db3 b4)))) then (bif (s_rows_finite_1_0 (s_rows_weight_0 r0 r1 r2 r3 r4 r5 dr6 dr7 dr8 dr9 dr10 dr11 r12 r13 da0 da1 da2 da3 a4 db0 db1 db2 db3 b4)) then (0 : Int) else (1 : Int)) else (-1 : Int)))))) = true := by rw [hw, hw0]; rfl
    have o11 : s_rows_One_11 r0 r1 r2 r3 r4 r5 r6 r7 r8 r9 r10 r11 r12 r13 a0 a1 a2 a3 a4 b0 b1 b2 b3 b4 = r11 := bif3_still ka hc0
    have x11 : s_rows_One_11 r0 r1 r2 r3 r4 r5 dr6 dr7 dr8 dr9 dr10 dr11 r12 r13 da0 da1 da2 da3 a4 db0 db1 db2 db3 b4 = dr11 := bif3_still kb hc1
    have o16 : s_rows_One_16 r0 r1 r2 r3 r4 r5 r6 r7 r8 r9 r10 r11 r12 r13 a0 a1 a2 a3 a4 b0 b1 b2 b3 b4 = a2 := bif3_still ka hc0
    have x16 : s_rows_One_16 r0 r1 r2 r3 r4 r5 dr6 dr7 dr8 dr9 dr10 dr11 r12 r13 da0 da1 da2 da3 a4 db0 db1 db2 db3 b4 = da2 := bif3_still kb hc1
    have o17 : s_rows_One_17 r0 r1 r2 r3 r4 r5 r6 r7 r8 r9 r10 r11 r12 r13 a0 a1 a2 a3 a4 b0 b1 b2 b3 b4 = a3 := bif3_still ka hc0
    have x17 : s_rows_One_17 r0 r1 r2 r3 r4 r5 dr6 dr7 dr8 dr9 dr10 dr11 r12 r13 da0 da1 da2 da3 a4 db0 db1 db2 db3 b4 = da3 := bif3_still kb hc1
    have o18 : s_rows_One_18 r0 r1 r2 r3 r4 r5 r6 r7 r8 r9 r10 r11 r12 r13 a0 a1 a2 a3 a4 b0 b1 b2 b3 b4 = a4 := bif3_still ka hc0
    have x18 : s_rows_One_18 r0 r1 r2 r3 r4 r5 dr6 dr7 dr8 dr9 dr10 dr11 r12 r13 da0 da1 da2 da3 a4 db0 db1 db2 db3 b4 = a4 := bif3_still kb hc1
    have o21 : s_rows_One_21 r0 r1 r2 r3 r4 r5 r6 r7 r8 r9 r10 r11 r12 r13 a0 a1 a2 a3 a4 b0 b1 b2 b3 b4 = b2 := bif3_still ka hc0
    have x21 : s_rows_One_21 r0 r1 r2 r3 r4 r5 dr6 dr7 dr8 dr9 dr10 dr11 r12 r13 da0 da1 da2 da3 a4 db0 db1 db2 db3 b4 = db2 := bif3_still kb hc1
    have o22 : s_rows_One_22 r0 r1 r2 r3 r4 r5 r6 r7 r8 r9 r10 r11 r12 r13 a0 a1 a2 a3 a4 b0 b1 b2 b3 b4 = b3 := bif3_still ka hc0
    have x22 : s_rows_One_22 r0 r1 r2 r3 r4 r5 dr6 dr7 dr8 dr9 dr10 dr11 r12 r13 da0 da1 da2 da3 a4 db0 db1 db2 db3 b4 = db3 := bif3_still kb hc1
    have o23 : s_rows_One_23 r0 r1 r2 r3 r4 r5 r6 r7 r8 r9 r10 r11 r12 r13 a0 a1 a2 a3 a4 b0 b1 b2 b3 b4 = b4 := bif3_still ka hc0
    have x23 : s_rows_One_23 r0 r1 r2 r3 r4 r5 dr6 dr7 dr8 dr9 dr10 dr11 r12 r13 da0 da1 da2 da3 a4 db0 db1 db2 db3 b4 = b4 := bif3_still kb hc1
    have o24 : s_rows_One_24 r0 r1 r2 r3 r4 r5 r6 r7 r8 r9 r10 r11 r12 r13 a0 a1 a2 a3 a4 b0 b1 b2 b3 b4 = 0 := bif3_still ka hc0
    have x24 : s_rows_One_24 r0 r1 r2 r3 r4 r5 dr6 dr7 dr8 dr9 dr10 dr11 r12 r13 da0 da1 da2 da3 a4 db0 db1 db2 db3 b4 = 0 := bif3_still kb hc1
    rw [o11, x11, o16, x16, o17, x17, o18, x18, o21, x21, o22, x22, o23, x23, o24, x24]
    have f11 := lin3 sr11 pr11 (by omega) (by omega) (by omega)
    have fa2 : feq da2 (s_vec_Scale_0 a2 a3 (pow2 z)) = true := lin sa2 pa2 (by omega) (by omega) (by omega)
    have fa3 : feq da3 (s_vec_Scale_1 a2 a3 (pow2 z)) = true := lin sa3 pa3 (by omega) (by omega) (by omega)
    have fb2 : feq db2 (s_vec_Scale_0 b2 b3 (pow2 z)) = true := lin sb2 pb2 (by omega) (by omega) (by omega)
    have fb3 : feq db3 (s_vec_Scale_1 b2 b3 (pow2 z)) = true := lin sb3 pb3 (by omega) (by omega) (by omega)
    rw [f11, fa2, fa3, fb2, fb3, feq_self' ua4.1, feq_self' ub4.1]
    simp [ieq_same]
  · have hc0 : ((!(flt 0 (s_rows_weight_0 r0 r1 r2 r3 r4 r5 r6 r7 r8 r9 r10 r11 r12 r13 a0 a1 a2 a3 a4 b0 b1 b2 b3 b4))) || (!(!(ile (0 : Int) (bif ((s_rows_finite_1_0 (s_rows_weight_0 r0 r1 r2 r3 r4 r5 r6 r7 r8 r9 r10 r11 r12 r13 a0 a1 a2 a3 a4 b0 b1 b2 b3 b4)) || (s_rows_finite_1_0 (fsub r8 (s_rows_speed_0 r0 r1 r2 r3 r4 r5 r6 r7 r8 r9 r10 r11 r12 r13 a0 a1 a2 a3 a4 b0 b1 b2 b3 b4)))) then (bif (s_rows_finite_1_0 (s_rows_weight_0 r0 r1 r2 r3 r4 r5 r6 r7 r8 r9 r10 r11 r12 r13 a0 a1 a2 a3 a4 b0 b1 b2 b3 b4)) then (0 : Int) else (1 : Int)) else (-1 : Int)))))) = false := by rw [hw0]; exact two_fin fw0 fl0
    have hc1 : ((!(flt 0 (s_rows_weight_0 r0 r1 r2 r3 r4 r5 dr6 dr7 dr8 dr9 dr10 dr11 r12 r13 da0 da1 da2 da3 a4 db0 db1 db2 db3 b4))) || (!(!(ile (0 : Int) (bif ((s_rows_finite_1_0 (s_rows_weight_0 r0 r1 r2 r3 r4 r5 dr6 dr7 dr8 dr9 dr10 dr11 r12 r13 da0 da1 da2 da3 a4 db0 db1 db2 db3 b4)) || (s_rows_finite_1_0 (fsub dr8 (s_rows_speed_0 r0 r1 r2 r3 r4 r5 dr6 dr7 dr8 dr9 dr10 dr11 r12 r13 da0 da1 da2 da3 a4 db0 db1 db2 db3 b4)))) then (bif (s_rows_finite_1_0 (s_rows_weight_0 r0 r1 r2 r3 r4 r5 dr6 dr7 dr8 dr9 dr10 dr11 r12 r13 da0 da1 da2 da3 a4 db0 db1 db2 db3 b4)) then (0 : Int) else (1 : Int)) else (-1 : Int)))))) = false := by rw [hw, hw0]; exact two_fin fw1 fl1
    have wz : magOf (rungOf (s_rows_weight_0 r0 r1 r2 r3 r4 r5 r6 r7 r8 r9 r10 r11 r12 r13 a0 a1 a2 a3 a4 b0 b1 b2 b3 b4)) ≠ 0 := by
      intro h
      have : sval (s_rows_weight_0 r0 r1 r2 r3 r4 r5 r6 r7 r8 r9 r10 r11 r12 r13 a0 a1 a2 a3 a4 b0 b1 b2 b3 b4) = 0 := by rw [sval_sgn, h]; split <;> rfl
      rw [flt_val nanb_zero (fin_not_nan sW'.fa), this, decide_eq_true_eq] at hw0
      exact absurd hw0 (by decide)
    have sD := Sc.div (X := 649) (Y := 1709) sL sW' wz (by omega) (by omega) (by omega) (by omega) (by omega) (by omega)
    have e3 : i + (i + i) = i + i + i := by omega
    have f3 : j + (j + j) = j + j + j := by omega
    rw [e3, f3] at sD
    have sX := addE (X := 649) (Y := 1709) sr11 sD (by omega) (by omega) (by omega) (by omega) (by omega) (by omega) (by omega)
    have sQ : Sc (i + i + i) (j + j + j) 649 1710 (s_num_Clamp_float64__0 (fadd r11 (fdiv (fsub r8 (s_rows_speed_0 r0 r1 r2 r3 r4 r5 r6 r7 r8 r9 r10 r11 r12 r13 a0 a1 a2 a3 a4 b0 b1 b2 b3 b4)) (s_rows_weight_0 r0 r1 r2 r3 r4 r5 r6 r7 r8 r9 r10 r11 r12 r13 a0 a1 a2 a3 a4 b0 b1 b2 b3 b4))) r9 r10) (s_num_Clamp_float64__0 (fadd dr11 (fdiv (fsub dr8 (s_rows_speed_0 r0 r1 r2 r3 r4 r5 dr6 dr7 dr8 dr9 dr10 dr11 r12 r13 da0 da1 da2 da3 a4 db0 db1 db2 db3 b4)) (s_rows_weight_0 r0 r1 r2 r3 r4 r5 dr6 dr7 dr8 dr9 dr10 dr11 r12 r13 da0 da1 da2 da3 a4 db0 db1 db2 db3 b4))) dr9 dr10) := by
      rw [clamp_form, clamp_form]
      have t1 := sr9.flt sX
      have t2 : flt dr10 (fadd dr11 (fdiv (fsub dr8 (s_rows_speed_0 r0 r1 r2 r3 r4 r5 dr6 dr7 dr8 dr9 dr10 dr11 r12 r13 da0 da1 da2 da3 a4 db0 db1 db2 db3 b4)) (s_rows_weight_0 r0 r1 r2 r3 r4 r5 dr6 dr7 dr8 dr9 dr10 dr11 r12 r13 da0 da1 da2 da3 a4 db0 db1 db2 db3 b4))) = flt r10 (fadd r11 (fdiv (fsub r8 (s_rows_speed_0 r0 r1 r2 r3 r4 r5 r6 r7 r8 r9 r10 r11 r12 r13 a0 a1 a2 a3 a4 b0 b1 b2 b3 b4)) (s_rows_weight_0 r0 r1 r2 r3 r4 r5 r6 r7 r8 r9 r10 r11 r12 r13 a0 a1 a2 a3 a4 b0 b1 b2 b3 b4))) := by
        rcases hh with h | ⟨h, h'⟩
        · exact h.flt sX
        · rw [(h.above sX.left (by omega) (by omega)).1, (h'.above sX.right (by omega) (by omega)).1]
      rw [t1, t2]
      cases g1 : flt r9 (fadd r11 (fdiv (fsub r8 (s_rows_speed_0 r0 r1 r2 r3 r4 r5 r6 r7 r8 r9 r10 r11 r12 r13 a0 a1 a2 a3 a4 b0 b1 b2 b3 b4)) (s_rows_weight_0 r0 r1 r2 r3 r4 r5 r6 r7 r8 r9 r10 r11 r12 r13 a0 a1 a2 a3 a4 b0 b1 b2 b3 b4)))
      · exact sr9.weak (by omega) (by omega)
      · cases g2 : flt r10 (fadd r11 (fdiv (fsub r8 (s_rows_speed_0 r0 r1 r2 r3 r4 r5 r6 r7 r8 r9 r10 r11 r12 r13 a0 a1 a2 a3 a4 b0 b1 b2 b3 b4)) (s_rows_weight_0 r0 r1 r2 r3 r4 r5 r6 r7 r8 r9 r10 r11 r12 r13 a0 a1 a2 a3 a4 b0 b1 b2 b3 b4)))
        · exact sX
        · rcases hh with h | ⟨h, h'⟩
          · have h' := h.weak (x' := 649) (y' := 2088) (by omega) (by omega)
            show Sc (i + i + i) (j + j + j) 649 1710 r10 dr10
            have cutm : ∀ {lo hi x : Nat}, fin lo = true → magOf (rungOf lo) ≤ 2 ^ 1710 → fin hi = true → fin x = true → magOf (rungOf x) ≤ 2 ^ 1710 → fle lo hi = true → flt hi x = true → magOf (rungOf hi) ≤ 2 ^ 1710 := by
              intro lo hi x fl' ml fh fx mx c d
              rw [fle_val (fin_not_nan fl') (fin_not_nan fh), decide_eq_true_eq] at c
              rw [flt_val (fin_not_nan fh) (fin_not_nan fx), decide_eq_true_eq] at d
              have s1 := sval_abs lo
              have s2 := sval_abs hi
              have s3 := sval_abs x
              omega
            exact sc_cut h' (cutm sr9.fa (sr9.weak (x' := 649) (y' := 1710) (by omega) (by omega)).ua h.fa sX.fa sX.ua hlh g2) (cutm sr9.fb (sr9.weak (x' := 649) (y' := 1710) (by omega) (by omega)).ub h.fb sX.fb sX.ub hlh' (by rw [t2]; exact g2))
          · rw [(h.above sX.left (by omega) (by omega)).1] at g2; cases g2
    have sP := subE (X := 649) (Y := 1710) sQ sr11 (by omega) (by omega) (by omega) (by omega) (by omega) (by omega) (by omega)
    have hq0 := two_fin (fin1' sQ.la sQ.fa) (fin1' sP.la sP.fa)
    have hq1 := two_fin (fin1' sQ.lb sQ.fb) (fin1' sP.lb sP.fb)
    have o11 : s_rows_One_11 r0 r1 r2 r3 r4 r5 r6 r7 r8 r9 r10 r11 r12 r13 a0 a1 a2 a3 a4 b0 b1 b2 b3 b4 = (s_num_Clamp_float64__0 (fadd r11 (fdiv (fsub r8 (s_rows_speed_0 r0 r1 r2 r3 r4 r5 r6 r7 r8 r9 r10 r11 r12 r13 a0 a1 a2 a3 a4 b0 b1 b2 b3 b4)) (s_rows_weight_0 r0 r1 r2 r3 r4 r5 r6 r7 r8 r9 r10 r11 r12 r13 a0 a1 a2 a3 a4 b0 b1 b2 b3 b4))) r9 r10) := bif3_go ka hc0 hq0
    have x11 : s_rows_One_11 r0 r1 r2 r3 r4 r5 dr6 dr7 dr8 dr9 dr10 dr11 r12 r13 da0 da1 da2 da3 a4 db0 db1 db2 db3 b4 = (s_num_Clamp_float64__0 (fadd dr11 (fdiv (fsub dr8 (s_rows_speed_0 r0 r1 r2 r3 r4 r5 dr6 dr7 dr8 dr9 dr10 dr11 r12 r13 da0 da1 da2 da3 a4 db0 db1 db2 db3 b4)) (s_rows_weight_0 r0 r1 r2 r3 r4 r5 dr6 dr7 dr8 dr9 dr10 dr11 r12 r13 da0 da1 da2 da3 a4 db0 db1 db2 db3 b4))) dr9 dr10) := bif3_go kb hc1 hq1
    have o16 : s_rows_One_16 r0 r1 r2 r3 r4 r5 r6 r7 r8 r9 r10 r11 r12 r13 a0 a1 a2 a3 a4 b0 b1 b2 b3 b4 = s_rows_pushed_2 r0 r1 r2 r3 r4 r5 r6 r7 r8 r9 r10 r11 r12 r13 a0 a1 a2 a3 a4 b0 b1 b2 b3 b4 (fsub (s_num_Clamp_float64__0 (fadd r11 (fdiv (fsub r8 (s_rows_speed_0 r0 r1 r2 r3 r4 r5 r6 r7 r8 r9 r10 r11 r12 r13 a0 a1 a2 a3 a4 b0 b1 b2 b3 b4)) (s_rows_weight_0 r0 r1 r2 r3 r4 r5 r6 r7 r8 r9 r10 r11 r12 r13 a0 a1 a2 a3 a4 b0 b1 b2 b3 b4))) r9 r10) r11) := bif3_go ka hc0 hq0
    have x16 : s_rows_One_16 r0 r1 r2 r3 r4 r5 dr6 dr7 dr8 dr9 dr10 dr11 r12 r13 da0 da1 da2 da3 a4 db0 db1 db2 db3 b4 = s_rows_pushed_2 r0 r1 r2 r3 r4 r5 dr6 dr7 dr8 dr9 dr10 dr11 r12 r13 da0 da1 da2 da3 a4 db0 db1 db2 db3 b4 (fsub (s_num_Clamp_float64__0 (fadd dr11 (fdiv (fsub dr8 (s_rows_speed_0 r0 r1 r2 r3 r4 r5 dr6 dr7 dr8 dr9 dr10 dr11 r12 r13 da0 da1 da2 da3 a4 db0 db1 db2 db3 b4)) (s_rows_weight_0 r0 r1 r2 r3 r4 r5 dr6 dr7 dr8 dr9 dr10 dr11 r12 r13 da0 da1 da2 da3 a4 db0 db1 db2 db3 b4))) dr9 dr10) dr11) := bif3_go kb hc1 hq1
    have o17 : s_rows_One_17 r0 r1 r2 r3 r4 r5 r6 r7 r8 r9 r10 r11 r12 r13 a0 a1 a2 a3 a4 b0 b1 b2 b3 b4 = s_rows_pushed_3 r0 r1 r2 r3 r4 r5 r6 r7 r8 r9 r10 r11 r12 r13 a0 a1 a2 a3 a4 b0 b1 b2 b3 b4 (fsub (s_num_Clamp_float64__0 (fadd r11 (fdiv (fsub r8 (s_rows_speed_0 r0 r1 r2 r3 r4 r5 r6 r7 r8 r9 r10 r11 r12 r13 a0 a1 a2 a3 a4 b0 b1 b2 b3 b4)) (s_rows_weight_0 r0 r1 r2 r3 r4 r5 r6 r7 r8 r9 r10 r11 r12 r13 a0 a1 a2 a3 a4 b0 b1 b2 b3 b4))) r9 r10) r11) := bif3_go ka hc0 hq0
    have x17 : s_rows_One_17 r0 r1 r2 r3 r4 r5 dr6 dr7 dr8 dr9 dr10 dr11 r12 r13 da0 da1 da2 da3 a4 db0 db1 db2 db3 b4 = s_rows_pushed_3 r0 r1 r2 r3 r4 r5 dr6 dr7 dr8 dr9 dr10 dr11 r12 r13 da0 da1 da2 da3 a4 db0 db1 db2 db3 b4 (fsub (s_num_Clamp_float64__0 (fadd dr11 (fdiv (fsub dr8 (s_rows_speed_0 r0 r1 r2 r3 r4 r5 dr6 dr7 dr8 dr9 dr10 dr11 r12 r13 da0 da1 da2 da3 a4 db0 db1 db2 db3 b4)) (s_rows_weight_0 r0 r1 r2 r3 r4 r5 dr6 dr7 dr8 dr9 dr10 dr11 r12 r13 da0 da1 da2 da3 a4 db0 db1 db2 db3 b4))) dr9 dr10) dr11) := bif3_go kb hc1 hq1
    have o18 : s_rows_One_18 r0 r1 r2 r3 r4 r5 r6 r7 r8 r9 r10 r11 r12 r13 a0 a1 a2 a3 a4 b0 b1 b2 b3 b4 = s_rows_pushed_4 r0 r1 r2 r3 r4 r5 r6 r7 r8 r9 r10 r11 r12 r13 a0 a1 a2 a3 a4 b0 b1 b2 b3 b4 (fsub (s_num_Clamp_float64__0 (fadd r11 (fdiv (fsub r8 (s_rows_speed_0 r0 r1 r2 r3 r4 r5 r6 r7 r8 r9 r10 r11 r12 r13 a0 a1 a2 a3 a4 b0 b1 b2 b3 b4)) (s_rows_weight_0 r0 r1 r2 r3 r4 r5 r6 r7 r8 r9 r10 r11 r12 r13 a0 a1 a2 a3 a4 b0 b1 b2 b3 b4))) r9 r10) r11) := bif3_go ka hc0 hq0
    have x18 : s_rows_One_18 r0 r1 r2 r3 r4 r5 dr6 dr7 dr8 dr9 dr10 dr11 r12 r13 da0 da1 da2 da3 a4 db0 db1 db2 db3 b4 = s_rows_pushed_4 r0 r1 r2 r3 r4 r5 dr6 dr7 dr8 dr9 dr10 dr11 r12 r13 da0 da1 da2 da3 a4 db0 db1 db2 db3 b4 (fsub (s_num_Clamp_float64__0 (fadd dr11 (fdiv (fsub dr8 (s_rows_speed_0 r0 r1 r2 r3 r4 r5 dr6 dr7 dr8 dr9 dr10 dr11 r12 r13 da0 da1 da2 da3 a4 db0 db1 db2 db3 b4)) (s_rows_weight_0 r0 r1 r2 r3 r4 r5 dr6 dr7 dr8 dr9 dr10 dr11 r12 r13 da0 da1 da2 da3 a4 db0 db1 db2 db3 b4))) dr9 dr10) dr11) := bif3_go kb hc1 hq1
    have o21 : s_rows_One_21 r0 r1 r2 r3 r4 r5 r6 r7 r8 r9 r10 r11 r12 r13 a0 a1 a2 a3 a4 b0 b1 b2 b3 b4 = s_rows_pushed_7 r0 r1 r2 r3 r4 r5 r6 r7 r8 r9 r10 r11 r12 r13 a0 a1 a2 a3 a4 b0 b1 b2 b3 b4 (fsub (s_num_Clamp_float64__0 (fadd r11 (fdiv (fsub r8 (s_rows_speed_0 r0 r1 r2 r3 r4 r5 r6 r7 r8 r9 r10 r11 r12 r13 a0 a1 a2 a3 a4 b0 b1 b2 b3 b4)) (s_rows_weight_0 r0 r1 r2 r3 r4 r5 r6 r7 r8 r9 r10 r11 r12 r13 a0 a1 a2 a3 a4 b0 b1 b2 b3 b4))) r9 r10) r11) := bif3_go ka hc0 hq0
    have x21 : s_rows_One_21 r0 r1 r2 r3 r4 r5 dr6 dr7 dr8 dr9 dr10 dr11 r12 r13 da0 da1 da2 da3 a4 db0 db1 db2 db3 b4 = s_rows_pushed_7 r0 r1 r2 r3 r4 r5 dr6 dr7 dr8 dr9 dr10 dr11 r12 r13 da0 da1 da2 da3 a4 db0 db1 db2 db3 b4 (fsub (s_num_Clamp_float64__0 (fadd dr11 (fdiv (fsub dr8 (s_rows_speed_0 r0 r1 r2 r3 r4 r5 dr6 dr7 dr8 dr9 dr10 dr11 r12 r13 da0 da1 da2 da3 a4 db0 db1 db2 db3 b4)) (s_rows_weight_0 r0 r1 r2 r3 r4 r5 dr6 dr7 dr8 dr9 dr10 dr11 r12 r13 da0 da1 da2 da3 a4 db0 db1 db2 db3 b4))) dr9 dr10) dr11) := bif3_go kb hc1 hq1
    have o22 : s_rows_One_22 r0 r1 r2 r3 r4 r5 r6 r7 r8 r9 r10 r11 r12 r13 a0 a1 a2 a3 a4 b0 b1 b2 b3 b4 = s_rows_pushed_8 r0 r1 r2 r3 r4 r5 r6 r7 r8 r9 r10 r11 r12 r13 a0 a1 a2 a3 a4 b0 b1 b2 b3 b4 (fsub (s_num_Clamp_float64__0 (fadd r11 (fdiv (fsub r8 (s_rows_speed_0 r0 r1 r2 r3 r4 r5 r6 r7 r8 r9 r10 r11 r12 r13 a0 a1 a2 a3 a4 b0 b1 b2 b3 b4)) (s_rows_weight_0 r0 r1 r2 r3 r4 r5 r6 r7 r8 r9 r10 r11 r12 r13 a0 a1 a2 a3 a4 b0 b1 b2 b3 b4))) r9 r10) r11) := bif3_go ka hc0 hq0
    have x22 : s_rows_One_22 r0 r1 r2 r3 r4 r5 dr6 dr7 dr8 dr9 dr10 dr11 r12 r13 da0 da1 da2 da3 a4 db0 db1 db2 db3 b4 = s_rows_pushed_8 r0 r1 r2 r3 r4 r5 dr6 dr7 dr8 dr9 dr10 dr11 r12 r13 da0 da1 da2 da3 a4 db0 db1 db2 db3 b4 (fsub (s_num_Clamp_float64__0 (fadd dr11 (fdiv (fsub dr8 (s_rows_speed_0 r0 r1 r2 r3 r4 r5 dr6 dr7 dr8 dr9 dr10 dr11 r12 r13 da0 da1 da2 da3 a4 db0 db1 db2 db3 b4)) (s_rows_weight_0 r0 r1 r2 r3 r4 r5 dr6 dr7 dr8 dr9 dr10 dr11 r12 r13 da0 da1 da2 da3 a4 db0 db1 db2 db3 b4))) dr9 dr10) dr11) := bif3_go kb hc1 hq1
    have o23 : s_rows_One_23 r0 r1 r2 r3 r4 r5 r6 r7 r8 r9 r10 r11 r12 r13 a0 a1 a2 a3 a4 b0 b1 b2 b3 b4 = s_rows_pushed_9 r0 r1 r2 r3 r4 r5 r6 r7 r8 r9 r10 r11 r12 r13 a0 a1 a2 a3 a4 b0 b1 b2 b3 b4 (fsub (s_num_Clamp_float64__0 (fadd r11 (fdiv (fsub r8 (s_rows_speed_0 r0 r1 r2 r3 r4 r5 r6 r7 r8 r9 r10 r11 r12 r13 a0 a1 a2 a3 a4 b0 b1 b2 b3 b4)) (s_rows_weight_0 r0 r1 r2 r3 r4 r5 r6 r7 r8 r9 r10 r11 r12 r13 a0 a1 a2 a3 a4 b0 b1 b2 b3 b4))) r9 r10) r11) := bif3_go ka hc0 hq0
    have x23 : s_rows_One_23 r0 r1 r2 r3 r4 r5 dr6 dr7 dr8 dr9 dr10 dr11 r12 r13 da0 da1 da2 da3 a4 db0 db1 db2 db3 b4 = s_rows_pushed_9 r0 r1 r2 r3 r4 r5 dr6 dr7 dr8 dr9 dr10 dr11 r12 r13 da0 da1 da2 da3 a4 db0 db1 db2 db3 b4 (fsub (s_num_Clamp_float64__0 (fadd dr11 (fdiv (fsub dr8 (s_rows_speed_0 r0 r1 r2 r3 r4 r5 dr6 dr7 dr8 dr9 dr10 dr11 r12 r13 da0 da1 da2 da3 a4 db0 db1 db2 db3 b4)) (s_rows_weight_0 r0 r1 r2 r3 r4 r5 dr6 dr7 dr8 dr9 dr10 dr11 r12 r13 da0 da1 da2 da3 a4 db0 db1 db2 db3 b4))) dr9 dr10) dr11) := bif3_go kb hc1 hq1
    have o24 : s_rows_One_24 r0 r1 r2 r3 r4 r5 r6 r7 r8 r9 r10 r11 r12 r13 a0 a1 a2 a3 a4 b0 b1 b2 b3 b4 = 0 := bif3_go ka hc0 hq0
    have x24 : s_rows_One_24 r0 r1 r2 r3 r4 r5 dr6 dr7 dr8 dr9 dr10 dr11 r12 r13 da0 da1 da2 da3 a4 db0 db1 db2 db3 b4 = 0 := bif3_go kb hc1 hq1
    rw [o11, x11, o16, x16, o17, x17, o18, x18, o21, x21, o22, x22, o23, x23, o24, x24]
    have f11 := lin3 sQ sQ.left (by omega) (by omega) (by omega)
    have sp2 : Sc i j 341 1812 (s_rows_pushed_2 r0 r1 r2 r3 r4 r5 r6 r7 r8 r9 r10 r11 r12 r13 a0 a1 a2 a3 a4 b0 b1 b2 b3 b4 (fsub (s_num_Clamp_float64__0 (fadd r11 (fdiv (fsub r8 (s_rows_speed_0 r0 r1 r2 r3 r4 r5 r6 r7 r8 r9 r10 r11 r12 r13 a0 a1 a2 a3 a4 b0 b1 b2 b3 b4)) (s_rows_weight_0 r0 r1 r2 r3 r4 r5 r6 r7 r8 r9 r10 r11 r12 r13 a0 a1 a2 a3 a4 b0 b1 b2 b3 b4))) r9 r10) r11)) (s_rows_pushed_2 r0 r1 r2 r3 r4 r5 dr6 dr7 dr8 dr9 dr10 dr11 r12 r13 da0 da1 da2 da3 a4 db0 db1 db2 db3 b4 (fsub (s_num_Clamp_float64__0 (fadd dr11 (fdiv (fsub dr8 (s_rows_speed_0 r0 r1 r2 r3 r4 r5 dr6 dr7 dr8 dr9 dr10 dr11 r12 r13 da0 da1 da2 da3 a4 db0 db1 db2 db3 b4)) (s_rows_weight_0 r0 r1 r2 r3 r4 r5 dr6 dr7 dr8 dr9 dr10 dr11 r12 r13 da0 da1 da2 da3 a4 db0 db1 db2 db3 b4))) dr9 dr10) dr11)) := by
      show Sc i j 341 1812 (bif (!(feq a0 0)) then fadd a2 (fmul (fmul a0 (fsub (s_num_Clamp_float64__0 (fadd r11 (fdiv (fsub r8 (s_rows_speed_0 r0 r1 r2 r3 r4 r5 r6 r7 r8 r9 r10 r11 r12 r13 a0 a1 a2 a3 a4 b0 b1 b2 b3 b4)) (s_rows_weight_0 r0 r1 r2 r3 r4 r5 r6 r7 r8 r9 r10 r11 r12 r13 a0 a1 a2 a3 a4 b0 b1 b2 b3 b4))) r9 r10) r11)) r2) else a2) (bif (!(feq da0 0)) then fadd da2 (fmul (fmul da0 (fsub (s_num_Clamp_float64__0 (fadd dr11 (fdiv (fsub dr8 (s_rows_speed_0 r0 r1 r2 r3 r4 r5 dr6 dr7 dr8 dr9 dr10 dr11 r12 r13 da0 da1 da2 da3 a4 db0 db1 db2 db3 b4)) (s_rows_weight_0 r0 r1 r2 r3 r4 r5 dr6 dr7 dr8 dr9 dr10 dr11 r12 r13 da0 da1 da2 da3 a4 db0 db1 db2 db3 b4))) dr9 dr10) dr11)) r2) else da2)
      rw [sa0.eq0]
      cases feq a0 0
      · have u1 := mulE (X := 433) (Y := 1771) (I := i + (j + j + (i + i))) (J := j + (j + j + (i + i))) sa0 sP (by omega) (by omega) (by omega) (by omega) (by omega) (by omega) (by omega)
        have u2 := mulE (X := 341) (Y := 1811) (I := i + (j + j + (i + i))) (J := j + (j + j + (i + i))) u1 (show Sc 0 0 982 1114 r2 r2 from pr2) (by omega) (by omega) (by omega) (by omega) (by omega) (by omega) (by omega)
        exact addE (X := 341) (Y := 1811) sa2 (Sc.less u2) (by omega) (by omega) (by omega) (by omega) (by omega) (by omega) (by omega)
      · exact sa2.weak (by omega) (by omega)
    have sp3 : Sc i j 341 1812 (s_rows_pushed_3 r0 r1 r2 r3 r4 r5 r6 r7 r8 r9 r10 r11 r12 r13 a0 a1 a2 a3 a4 b0 b1 b2 b3 b4 (fsub (s_num_Clamp_float64__0 (fadd r11 (fdiv (fsub r8 (s_rows_speed_0 r0 r1 r2 r3 r4 r5 r6 r7 r8 r9 r10 r11 r12 r13 a0 a1 a2 a3 a4 b0 b1 b2 b3 b4)) (s_rows_weight_0 r0 r1 r2 r3 r4 r5 r6 r7 r8 r9 r10 r11 r12 r13 a0 a1 a2 a3 a4 b0 b1 b2 b3 b4))) r9 r10) r11)) (s_rows_pushed_3 r0 r1 r2 r3 r4 r5 dr6 dr7 dr8 dr9 dr10 dr11 r12 r13 da0 da1 da2 da3 a4 db0 db1 db2 db3 b4 (fsub (s_num_Clamp_float64__0 (fadd dr11 (fdiv (fsub dr8 (s_rows_speed_0 r0 r1 r2 r3 r4 r5 dr6 dr7 dr8 dr9 dr10 dr11 r12 r13 da0 da1 da2 da3 a4 db0 db1 db2 db3 b4)) (s_rows_weight_0 r0 r1 r2 r3 r4 r5 dr6 dr7 dr8 dr9 dr10 dr11 r12 r13 da0 da1 da2 da3 a4 db0 db1 db2 db3 b4))) dr9 dr10) dr11)) := by
      show Sc i j 341 1812 (bif (!(feq a0 0)) then fadd a3 (fmul (fmul a0 (fsub (s_num_Clamp_float64__0 (fadd r11 (fdiv (fsub r8 (s_rows_speed_0 r0 r1 r2 r3 r4 r5 r6 r7 r8 r9 r10 r11 r12 r13 a0 a1 a2 a3 a4 b0 b1 b2 b3 b4)) (s_rows_weight_0 r0 r1 r2 r3 r4 r5 r6 r7 r8 r9 r10 r11 r12 r13 a0 a1 a2 a3 a4 b0 b1 b2 b3 b4))) r9 r10) r11)) r3) else a3) (bif (!(feq da0 0)) then fadd da3 (fmul (fmul da0 (fsub (s_num_Clamp_float64__0 (fadd dr11 (fdiv (fsub dr8 (s_rows_speed_0 r0 r1 r2 r3 r4 r5 dr6 dr7 dr8 dr9 dr10 dr11 r12 r13 da0 da1 da2 da3 a4 db0 db1 db2 db3 b4)) (s_rows_weight_0 r0 r1 r2 r3 r4 r5 dr6 dr7 dr8 dr9 dr10 dr11 r12 r13 da0 da1 da2 da3 a4 db0 db1 db2 db3 b4))) dr9 dr10) dr11)) r3) else da3)
      rw [sa0.eq0]
      cases feq a0 0
      · have u1 := mulE (X := 433) (Y := 1771) (I := i + (j + j + (i + i))) (J := j + (j + j + (i + i))) sa0 sP (by omega) (by omega) (by omega) (by omega) (by omega) (by omega) (by omega)
        have u2 := mulE (X := 341) (Y := 1811) (I := i + (j + j + (i + i))) (J := j + (j + j + (i + i))) u1 (show Sc 0 0 982 1114 r3 r3 from pr3) (by omega) (by omega) (by omega) (by omega) (by omega) (by omega) (by omega)
        exact addE (X := 341) (Y := 1811) sa3 (Sc.less u2) (by omega) (by omega) (by omega) (by omega) (by omega) (by omega) (by omega)
      · exact sa3.weak (by omega) (by omega)
    have sp7 : Sc i j 341 1812 (s_rows_pushed_7 r0 r1 r2 r3 r4 r5 r6 r7 r8 r9 r10 r11 r12 r13 a0 a1 a2 a3 a4 b0 b1 b2 b3 b4 (fsub (s_num_Clamp_float64__0 (fadd r11 (fdiv (fsub r8 (s_rows_speed_0 r0 r1 r2 r3 r4 r5 r6 r7 r8 r9 r10 r11 r12 r13 a0 a1 a2 a3 a4 b0 b1 b2 b3 b4)) (s_rows_weight_0 r0 r1 r2 r3 r4 r5 r6 r7 r8 r9 r10 r11 r12 r13 a0 a1 a2 a3 a4 b0 b1 b2 b3 b4))) r9 r10) r11)) (s_rows_pushed_7 r0 r1 r2 r3 r4 r5 dr6 dr7 dr8 dr9 dr10 dr11 r12 r13 da0 da1 da2 da3 a4 db0 db1 db2 db3 b4 (fsub (s_num_Clamp_float64__0 (fadd dr11 (fdiv (fsub dr8 (s_rows_speed_0 r0 r1 r2 r3 r4 r5 dr6 dr7 dr8 dr9 dr10 dr11 r12 r13 da0 da1 da2 da3 a4 db0 db1 db2 db3 b4)) (s_rows_weight_0 r0 r1 r2 r3 r4 r5 dr6 dr7 dr8 dr9 dr10 dr11 r12 r13 da0 da1 da2 da3 a4 db0 db1 db2 db3 b4))) dr9 dr10) dr11)) := by
      show Sc i j 341 1812 (bif (!(feq b0 0)) then fadd b2 (fmul (fmul b0 (fsub (s_num_Clamp_float64__0 (fadd r11 (fdiv (fsub r8 (s_rows_speed_0 r0 r1 r2 r3 r4 r5 r6 r7 r8 r9 r10 r11 r12 r13 a0 a1 a2 a3 a4 b0 b1 b2 b3 b4)) (s_rows_weight_0 r0 r1 r2 r3 r4 r5 r6 r7 r8 r9 r10 r11 r12 r13 a0 a1 a2 a3 a4 b0 b1 b2 b3 b4))) r9 r10) r11)) r4) else b2) (bif (!(feq db0 0)) then fadd db2 (fmul (fmul db0 (fsub (s_num_Clamp_float64__0 (fadd dr11 (fdiv (fsub dr8 (s_rows_speed_0 r0 r1 r2 r3 r4 r5 dr6 dr7 dr8 dr9 dr10 dr11 r12 r13 da0 da1 da2 da3 a4 db0 db1 db2 db3 b4)) (s_rows_weight_0 r0 r1 r2 r3 r4 r5 dr6 dr7 dr8 dr9 dr10 dr11 r12 r13 da0 da1 da2 da3 a4 db0 db1 db2 db3 b4))) dr9 dr10) dr11)) r4) else db2)
      rw [sb0.eq0]
      cases feq b0 0
      · have u1 := mulE (X := 433) (Y := 1771) (I := i + (j + j + (i + i))) (J := j + (j + j + (i + i))) sb0 sP (by omega) (by omega) (by omega) (by omega) (by omega) (by omega) (by omega)
        have u2 := mulE (X := 341) (Y := 1811) (I := i + (j + j + (i + i))) (J := j + (j + j + (i + i))) u1 (show Sc 0 0 982 1114 r4 r4 from pr4) (by omega) (by omega) (by omega) (by omega) (by omega) (by omega) (by omega)
        exact addE (X := 341) (Y := 1811) sb2 (Sc.less u2) (by omega) (by omega) (by omega) (by omega) (by omega) (by omega) (by omega)
      · exact sb2.weak (by omega) (by omega)
    have sp8 : Sc i j 341 1812 (s_rows_pushed_8 r0 r1 r2 r3 r4 r5 r6 r7 r8 r9 r10 r11 r12 r13 a0 a1 a2 a3 a4 b0 b1 b2 b3 b4 (fsub (s_num_Clamp_float64__0 (fadd r11 (fdiv (fsub r8 (s_rows_speed_0 r0 r1 r2 r3 r4 r5 r6 r7 r8 r9 r10 r11 r12 r13 a0 a1 a2 a3 a4 b0 b1 b2 b3 b4)) (s_rows_weight_0 r0 r1 r2 r3 r4 r5 r6 r7 r8 r9 r10 r11 r12 r13 a0 a1 a2 a3 a4 b0 b1 b2 b3 b4))) r9 r10) r11)) (s_rows_pushed_8 r0 r1 r2 r3 r4 r5 dr6 dr7 dr8 dr9 dr10 dr11 r12 r13 da0 da1 da2 da3 a4 db0 db1 db2 db3 b4 (fsub (s_num_Clamp_float64__0 (fadd dr11 (fdiv (fsub dr8 (s_rows_speed_0 r0 r1 r2 r3 r4 r5 dr6 dr7 dr8 dr9 dr10 dr11 r12 r13 da0 da1 da2 da3 a4 db0 db1 db2 db3 b4)) (s_rows_weight_0 r0 r1 r2 r3 r4 r5 dr6 dr7 dr8 dr9 dr10 dr11 r12 r13 da0 da1 da2 da3 a4 db0 db1 db2 db3 b4))) dr9 dr10) dr11)) := by
      show Sc i j 341 1812 (bif (!(feq b0 0)) then fadd b3 (fmul (fmul b0 (fsub (s_num_Clamp_float64__0 (fadd r11 (fdiv (fsub r8 (s_rows_speed_0 r0 r1 r2 r3 r4 r5 r6 r7 r8 r9 r10 r11 r12 r13 a0 a1 a2 a3 a4 b0 b1 b2 b3 b4)) (s_rows_weight_0 r0 r1 r2 r3 r4 r5 r6 r7 r8 r9 r10 r11 r12 r13 a0 a1 a2 a3 a4 b0 b1 b2 b3 b4))) r9 r10) r11)) r5) else b3) (bif (!(feq db0 0)) then fadd db3 (fmul (fmul db0 (fsub (s_num_Clamp_float64__0 (fadd dr11 (fdiv (fsub dr8 (s_rows_speed_0 r0 r1 r2 r3 r4 r5 dr6 dr7 dr8 dr9 dr10 dr11 r12 r13 da0 da1 da2 da3 a4 db0 db1 db2 db3 b4)) (s_rows_weight_0 r0 r1 r2 r3 r4 r5 dr6 dr7 dr8 dr9 dr10 dr11 r12 r13 da0 da1 da2 da3 a4 db0 db1 db2 db3 b4))) dr9 dr10) dr11)) r5) else db3)
      rw [sb0.eq0]
      cases feq b0 0
      · have u1 := mulE (X := 433) (Y := 1771) (I := i + (j + j + (i + i))) (J := j + (j + j + (i + i))) sb0 sP (by omega) (by omega) (by omega) (by omega) (by omega) (by omega) (by omega)
        have u2 := mulE (X := 341) (Y := 1811) (I := i + (j + j + (i + i))) (J := j + (j + j + (i + i))) u1 (show Sc 0 0 982 1114 r5 r5 from pr5) (by omega) (by omega) (by omega) (by omega) (by omega) (by omega) (by omega)
        exact addE (X := 341) (Y := 1811) sb3 (Sc.less u2) (by omega) (by omega) (by omega) (by omega) (by omega) (by omega) (by omega)
      · exact sb3.weak (by omega) (by omega)
    have sp4 : Sc 0 0 209 1840 (s_rows_pushed_4 r0 r1 r2 r3 r4 r5 r6 r7 r8 r9 r10 r11 r12 r13 a0 a1 a2 a3 a4 b0 b1 b2 b3 b4 (fsub (s_num_Clamp_float64__0 (fadd r11 (fdiv (fsub r8 (s_rows_speed_0 r0 r1 r2 r3 r4 r5 r6 r7 r8 r9 r10 r11 r12 r13 a0 a1 a2 a3 a4 b0 b1 b2 b3 b4)) (s_rows_weight_0 r0 r1 r2 r3 r4 r5 r6 r7 r8 r9 r10 r11 r12 r13 a0 a1 a2 a3 a4 b0 b1 b2 b3 b4))) r9 r10) r11)) (s_rows_pushed_4 r0 r1 r2 r3 r4 r5 dr6 dr7 dr8 dr9 dr10 dr11 r12 r13 da0 da1 da2 da3 a4 db0 db1 db2 db3 b4 (fsub (s_num_Clamp_float64__0 (fadd dr11 (fdiv (fsub dr8 (s_rows_speed_0 r0 r1 r2 r3 r4 r5 dr6 dr7 dr8 dr9 dr10 dr11 r12 r13 da0 da1 da2 da3 a4 db0 db1 db2 db3 b4)) (s_rows_weight_0 r0 r1 r2 r3 r4 r5 dr6 dr7 dr8 dr9 dr10 dr11 r12 r13 da0 da1 da2 da3 a4 db0 db1 db2 db3 b4))) dr9 dr10) dr11)) := by
      show Sc 0 0 209 1840 (bif (!(feq a1 0)) then fadd a4 (fmul a1 (fmul (fsub (s_num_Clamp_float64__0 (fadd r11 (fdiv (fsub r8 (s_rows_speed_0 r0 r1 r2 r3 r4 r5 r6 r7 r8 r9 r10 r11 r12 r13 a0 a1 a2 a3 a4 b0 b1 b2 b3 b4)) (s_rows_weight_0 r0 r1 r2 r3 r4 r5 r6 r7 r8 r9 r10 r11 r12 r13 a0 a1 a2 a3 a4 b0 b1 b2 b3 b4))) r9 r10) r11) r6)) else a4) (bif (!(feq da1 0)) then fadd a4 (fmul da1 (fmul (fsub (s_num_Clamp_float64__0 (fadd dr11 (fdiv (fsub dr8 (s_rows_speed_0 r0 r1 r2 r3 r4 r5 dr6 dr7 dr8 dr9 dr10 dr11 r12 r13 da0 da1 da2 da3 a4 db0 db1 db2 db3 b4)) (s_rows_weight_0 r0 r1 r2 r3 r4 r5 dr6 dr7 dr8 dr9 dr10 dr11 r12 r13 da0 da1 da2 da3 a4 db0 db1 db2 db3 b4))) dr9 dr10) dr11) dr6)) else a4)
      rw [sa1.eq0]
      cases feq a1 0
      · have u1 := mulE (X := 549) (Y := 1759) (I := i + i + i + i) (J := j + j + j + j) sP sr6 (by omega) (by omega) (by omega) (by omega) (by omega) (by omega) (by omega)
        have u2 := mulE (X := 209) (Y := 1839) (I := 0 + (j + j + j + j + (i + i + i + i))) (J := 0 + (j + j + j + j + (i + i + i + i))) sa1 u1 (by omega) (by omega) (by omega) (by omega) (by omega) (by omega) (by omega)
        exact addE (X := 209) (Y := 1839) (show Sc 0 0 982 1114 a4 a4 from pa4) (Sc.less u2) (by omega) (by omega) (by omega) (by omega) (by omega) (by omega) (by omega)
      · exact Sc.weak (show Sc 0 0 982 1114 a4 a4 from pa4) (by omega) (by omega)
    have sp9 : Sc 0 0 209 1840 (s_rows_pushed_9 r0 r1 r2 r3 r4 r5 r6 r7 r8 r9 r10 r11 r12 r13 a0 a1 a2 a3 a4 b0 b1 b2 b3 b4 (fsub (s_num_Clamp_float64__0 (fadd r11 (fdiv (fsub r8 (s_rows_speed_0 r0 r1 r2 r3 r4 r5 r6 r7 r8 r9 r10 r11 r12 r13 a0 a1 a2 a3 a4 b0 b1 b2 b3 b4)) (s_rows_weight_0 r0 r1 r2 r3 r4 r5 r6 r7 r8 r9 r10 r11 r12 r13 a0 a1 a2 a3 a4 b0 b1 b2 b3 b4))) r9 r10) r11)) (s_rows_pushed_9 r0 r1 r2 r3 r4 r5 dr6 dr7 dr8 dr9 dr10 dr11 r12 r13 da0 da1 da2 da3 a4 db0 db1 db2 db3 b4 (fsub (s_num_Clamp_float64__0 (fadd dr11 (fdiv (fsub dr8 (s_rows_speed_0 r0 r1 r2 r3 r4 r5 dr6 dr7 dr8 dr9 dr10 dr11 r12 r13 da0 da1 da2 da3 a4 db0 db1 db2 db3 b4)) (s_rows_weight_0 r0 r1 r2 r3 r4 r5 dr6 dr7 dr8 dr9 dr10 dr11 r12 r13 da0 da1 da2 da3 a4 db0 db1 db2 db3 b4))) dr9 dr10) dr11)) := by
      show Sc 0 0 209 1840 (bif (!(feq b1 0)) then fadd b4 (fmul b1 (fmul (fsub (s_num_Clamp_float64__0 (fadd r11 (fdiv (fsub r8 (s_rows_speed_0 r0 r1 r2 r3 r4 r5 r6 r7 r8 r9 r10 r11 r12 r13 a0 a1 a2 a3 a4 b0 b1 b2 b3 b4)) (s_rows_weight_0 r0 r1 r2 r3 r4 r5 r6 r7 r8 r9 r10 r11 r12 r13 a0 a1 a2 a3 a4 b0 b1 b2 b3 b4))) r9 r10) r11) r7)) else b4) (bif (!(feq db1 0)) then fadd b4 (fmul db1 (fmul (fsub (s_num_Clamp_float64__0 (fadd dr11 (fdiv (fsub dr8 (s_rows_speed_0 r0 r1 r2 r3 r4 r5 dr6 dr7 dr8 dr9 dr10 dr11 r12 r13 da0 da1 da2 da3 a4 db0 db1 db2 db3 b4)) (s_rows_weight_0 r0 r1 r2 r3 r4 r5 dr6 dr7 dr8 dr9 dr10 dr11 r12 r13 da0 da1 da2 da3 a4 db0 db1 db2 db3 b4))) dr9 dr10) dr11) dr7)) else b4)
      rw [sb1.eq0]
      cases feq b1 0
      · have u1 := mulE (X := 549) (Y := 1759) (I := i + i + i + i) (J := j + j + j + j) sP sr7 (by omega) (by omega) (by omega) (by omega) (by omega) (by omega) (by omega)
        have u2 := mulE (X := 209) (Y := 1839) (I := 0 + (j + j + j + j + (i + i + i + i))) (J := 0 + (j + j + j + j + (i + i + i + i))) sb1 u1 (by omega) (by omega) (by omega) (by omega) (by omega) (by omega) (by omega)
        exact addE (X := 209) (Y := 1839) (show Sc 0 0 982 1114 b4 b4 from pb4) (Sc.less u2) (by omega) (by omega) (by omega) (by omega) (by omega) (by omega) (by omega)
      · exact Sc.weak (show Sc 0 0 982 1114 b4 b4 from pb4) (by omega) (by omega)
    have h2 : feq (s_rows_pushed_2 r0 r1 r2 r3 r4 r5 dr6 dr7 dr8 dr9 dr10 dr11 r12 r13 da0 da1 da2 da3 a4 db0 db1 db2 db3 b4 (fsub (s_num_Clamp_float64__0 (fadd dr11 (fdiv (fsub dr8 (s_rows_speed_0 r0 r1 r2 r3 r4 r5 dr6 dr7 dr8 dr9 dr10 dr11 r12 r13 da0 da1 da2 da3 a4 db0 db1 db2 db3 b4)) (s_rows_weight_0 r0 r1 r2 r3 r4 r5 dr6 dr7 dr8 dr9 dr10 dr11 r12 r13 da0 da1 da2 da3 a4 db0 db1 db2 db3 b4))) dr9 dr10) dr11)) (s_vec_Scale_0 (s_rows_pushed_2 r0 r1 r2 r3 r4 r5 r6 r7 r8 r9 r10 r11 r12 r13 a0 a1 a2 a3 a4 b0 b1 b2 b3 b4 (fsub (s_num_Clamp_float64__0 (fadd r11 (fdiv (fsub r8 (s_rows_speed_0 r0 r1 r2 r3 r4 r5 r6 r7 r8 r9 r10 r11 r12 r13 a0 a1 a2 a3 a4 b0 b1 b2 b3 b4)) (s_rows_weight_0 r0 r1 r2 r3 r4 r5 r6 r7 r8 r9 r10 r11 r12 r13 a0 a1 a2 a3 a4 b0 b1 b2 b3 b4))) r9 r10) r11)) (s_rows_pushed_3 r0 r1 r2 r3 r4 r5 r6 r7 r8 r9 r10 r11 r12 r13 a0 a1 a2 a3 a4 b0 b1 b2 b3 b4 (fsub (s_num_Clamp_float64__0 (fadd r11 (fdiv (fsub r8 (s_rows_speed_0 r0 r1 r2 r3 r4 r5 r6 r7 r8 r9 r10 r11 r12 r13 a0 a1 a2 a3 a4 b0 b1 b2 b3 b4)) (s_rows_weight_0 r0 r1 r2 r3 r4 r5 r6 r7 r8 r9 r10 r11 r12 r13 a0 a1 a2 a3 a4 b0 b1 b2 b3 b4))) r9 r10) r11)) (pow2 z)) = true := lin sp2 sp2.left (by omega) (by omega) (by omega)
    have h3 : feq (s_rows_pushed_3 r0 r1 r2 r3 r4 r5 dr6 dr7 dr8 dr9 dr10 dr11 r12 r13 da0 da1 da2 da3 a4 db0 db1 db2 db3 b4 (fsub (s_num_Clamp_float64__0 (fadd dr11 (fdiv (fsub dr8 (s_rows_speed_0 r0 r1 r2 r3 r4 r5 dr6 dr7 dr8 dr9 dr10 dr11 r12 r13 da0 da1 da2 da3 a4 db0 db1 db2 db3 b4)) (s_rows_weight_0 r0 r1 r2 r3 r4 r5 dr6 dr7 dr8 dr9 dr10 dr11 r12 r13 da0 da1 da2 da3 a4 db0 db1 db2 db3 b4))) dr9 dr10) dr11)) (s_vec_Scale_1 (s_rows_pushed_2 r0 r1 r2 r3 r4 r5 r6 r7 r8 r9 r10 r11 r12 r13 a0 a1 a2 a3 a4 b0 b1 b2 b3 b4 (fsub (s_num_Clamp_float64__0 (fadd r11 (fdiv (fsub r8 (s_rows_speed_0 r0 r1 r2 r3 r4 r5 r6 r7 r8 r9 r10 r11 r12 r13 a0 a1 a2 a3 a4 b0 b1 b2 b3 b4)) (s_rows_weight_0 r0 r1 r2 r3 r4 r5 r6 r7 r8 r9 r10 r11 r12 r13 a0 a1 a2 a3 a4 b0 b1 b2 b3 b4))) r9 r10) r11)) (s_rows_pushed_3 r0 r1 r2 r3 r4 r5 r6 r7 r8 r9 r10 r11 r12 r13 a0 a1 a2 a3 a4 b0 b1 b2 b3 b4 (fsub (s_num_Clamp_float64__0 (fadd r11 (fdiv (fsub r8 (s_rows_speed_0 r0 r1 r2 r3 r4 r5 r6 r7 r8 r9 r10 r11 r12 r13 a0 a1 a2 a3 a4 b0 b1 b2 b3 b4)) (s_rows_weight_0 r0 r1 r2 r3 r4 r5 r6 r7 r8 r9 r10 r11 r12 r13 a0 a1 a2 a3 a4 b0 b1 b2 b3 b4))) r9 r10) r11)) (pow2 z)) = true := lin sp3 sp3.left (by omega) (by omega) (by omega)
    have h7 : feq (s_rows_pushed_7 r0 r1 r2 r3 r4 r5 dr6 dr7 dr8 dr9 dr10 dr11 r12 r13 da0 da1 da2 da3 a4 db0 db1 db2 db3 b4 (fsub (s_num_Clamp_float64__0 (fadd dr11 (fdiv (fsub dr8 (s_rows_speed_0 r0 r1 r2 r3 r4 r5 dr6 dr7 dr8 dr9 dr10 dr11 r12 r13 da0 da1 da2 da3 a4 db0 db1 db2 db3 b4)) (s_rows_weight_0 r0 r1 r2 r3 r4 r5 dr6 dr7 dr8 dr9 dr10 dr11 r12 r13 da0 da1 da2 da3 a4 db0 db1 db2 db3 b4))) dr9 dr10) dr11)) (s_vec_Scale_0 (s_rows_pushed_7 r0 r1 r2 r3 r4 r5 r6 r7 r8 r9 r10 r11 r12 r13 a0 a1 a2 a3 a4 b0 b1 b2 b3 b4 (fsub (s_num_Clamp_float64__0 (fadd r11 (fdiv (fsub r8 (s_rows_speed_0 r0 r1 r2 r3 r4 r5 r6 r7 r8 r9 r10 r11 r12 r13 a0 a1 a2 a3 a4 b0 b1 b2 b3 b4)) (s_rows_weight_0 r0 r1 r2 r3 r4 r5 r6 r7 r8 r9 r10 r11 r12 r13 a0 a1 a2 a3 a4 b0 b1 b2 b3 b4))) r9 r10) r11)) (s_rows_pushed_8 r0 r1 r2 r3 r4 r5 r6 r7 r8 r9 r10 r11 r12 r13 a0 a1 a2 a3 a4 b0 b1 b2 b3 b4 (fsub (s_num_Clamp_float64__0 (fadd r11 (fdiv (fsub r8 (s_rows_speed_0 r0 r1 r2 r3 r4 r5 r6 r7 r8 r9 r10 r11 r12 r13 a0 a1 a2 a3 a4 b0 b1 b2 b3 b4)) (s_rows_weight_0 r0 r1 r2 r3 r4 r5 r6 r7 r8 r9 r10 r11 r12 r13 a0 a1 a2 a3 a4 b0 b1 b2 b3 b4))) r9 r10) r11)) (pow2 z)) = true := lin sp7 sp7.left (by omega) (by omega) (by omega)
    have h8 : feq (s_rows_pushed_8 r0 r1 r2 r3 r4 r5 dr6 dr7 dr8 dr9 dr10 dr11 r12 r13 da0 da1 da2 da3 a4 db0 db1 db2 db3 b4 (fsub (s_num_Clamp_float64__0 (fadd dr11 (fdiv (fsub dr8 (s_rows_speed_0 r0 r1 r2 r3 r4 r5 dr6 dr7 dr8 dr9 dr10 dr11 r12 r13 da0 da1 da2 da3 a4 db0 db1 db2 db3 b4)) (s_rows_weight_0 r0 r1 r2 r3 r4 r5 dr6 dr7 dr8 dr9 dr10 dr11 r12 r13 da0 da1 da2 da3 a4 db0 db1 db2 db3 b4))) dr9 dr10) dr11)) (s_vec_Scale_1 (s_rows_pushed_7 r0 r1 r2 r3 r4 r5 r6 r7 r8 r9 r10 r11 r12 r13 a0 a1 a2 a3 a4 b0 b1 b2 b3 b4 (fsub (s_num_Clamp_float64__0 (fadd r11 (fdiv (fsub r8 (s_rows_speed_0 r0 r1 r2 r3 r4 r5 r6 r7 r8 r9 r10 r11 r12 r13 a0 a1 a2 a3 a4 b0 b1 b2 b3 b4)) (s_rows_weight_0 r0 r1 r2 r3 r4 r5 r6 r7 r8 r9 r10 r11 r12 r13 a0 a1 a2 a3 a4 b0 b1 b2 b3 b4))) r9 r10) r11)) (s_rows_pushed_8 r0 r1 r2 r3 r4 r5 r6 r7 r8 r9 r10 r11 r12 r13 a0 a1 a2 a3 a4 b0 b1 b2 b3 b4 (fsub (s_num_Clamp_float64__0 (fadd r11 (fdiv (fsub r8 (s_rows_speed_0 r0 r1 r2 r3 r4 r5 r6 r7 r8 r9 r10 r11 r12 r13 a0 a1 a2 a3 a4 b0 b1 b2 b3 b4)) (s_rows_weight_0 r0 r1 r2 r3 r4 r5 r6 r7 r8 r9 r10 r11 r12 r13 a0 a1 a2 a3 a4 b0 b1 b2 b3 b4))) r9 r10) r11)) (pow2 z)) = true := lin sp8 sp8.left (by omega) (by omega) (by omega)
    have h4 : feq (s_rows_pushed_4 r0 r1 r2 r3 r4 r5 dr6 dr7 dr8 dr9 dr10 dr11 r12 r13 da0 da1 da2 da3 a4 db0 db1 db2 db3 b4 (fsub (s_num_Clamp_float64__0 (fadd dr11 (fdiv (fsub dr8 (s_rows_speed_0 r0 r1 r2 r3 r4 r5 dr6 dr7 dr8 dr9 dr10 dr11 r12 r13 da0 da1 da2 da3 a4 db0 db1 db2 db3 b4)) (s_rows_weight_0 r0 r1 r2 r3 r4 r5 dr6 dr7 dr8 dr9 dr10 dr11 r12 r13 da0 da1 da2 da3 a4 db0 db1 db2 db3 b4))) dr9 dr10) dr11)) (s_rows_pushed_4 r0 r1 r2 r3 r4 r5 r6 r7 r8 r9 r10 r11 r12 r13 a0 a1 a2 a3 a4 b0 b1 b2 b3 b4 (fsub (s_num_Clamp_float64__0 (fadd r11 (fdiv (fsub r8 (s_rows_speed_0 r0 r1 r2 r3 r4 r5 r6 r7 r8 r9 r10 r11 r12 r13 a0 a1 a2 a3 a4 b0 b1 b2 b3 b4)) (s_rows_weight_0 r0 r1 r2 r3 r4 r5 r6 r7 r8 r9 r10 r11 r12 r13 a0 a1 a2 a3 a4 b0 b1 b2 b3 b4))) r9 r10) r11)) = true := by
      rw [sp4.left.same sp4]; exact feq_self' sp4.fb
    have h9 : feq (s_rows_pushed_9 r0 r1 r2 r3 r4 r5 dr6 dr7 dr8 dr9 dr10 dr11 r12 r13 da0 da1 da2 da3 a4 db0 db1 db2 db3 b4 (fsub (s_num_Clamp_float64__0 (fadd dr11 (fdiv (fsub dr8 (s_rows_speed_0 r0 r1 r2 r3 r4 r5 dr6 dr7 dr8 dr9 dr10 dr11 r12 r13 da0 da1 da2 da3 a4 db0 db1 db2 db3 b4)) (s_rows_weight_0 r0 r1 r2 r3 r4 r5 dr6 dr7 dr8 dr9 dr10 dr11 r12 r13 da0 da1 da2 da3 a4 db0 db1 db2 db3 b4))) dr9 dr10) dr11)) (s_rows_pushed_9 r0 r1 r2 r3 r4 r5 r6 r7 r8 r9 r10 r11 r12 r13 a0 a1 a2 a3 a4 b0 b1 b2 b3 b4 (fsub (s_num_Clamp_float64__0 (fadd r11 (fdiv (fsub r8 (s_rows_speed_0 r0 r1 r2 r3 r4 r5 r6 r7 r8 r9 r10 r11 r12 r13 a0 a1 a2 a3 a4 b0 b1 b2 b3 b4)) (s_rows_weight_0 r0 r1 r2 r3 r4 r5 r6 r7 r8 r9 r10 r11 r12 r13 a0 a1 a2 a3 a4 b0 b1 b2 b3 b4))) r9 r10) r11)) = true := by
      rw [sp9.left.same sp9]; exact feq_self' sp9.fb
    rw [f11, h2, h3, h4, h7, h8, h9]
    simp [ieq_same]
theorem ob_RowScaled (r0 : Int) (r1 : Int) (r2 : Nat) (r3 : Nat) (r4 : Nat) (r5 : Nat) (r6 : Nat) (r7 : Nat) (r8 : Nat) (r9 : Nat) (r10 : Nat) (r11 : Nat) (r12 : Int) (r13 : Nat) (a0 : Nat) (a1 : Nat) (a2 : Nat) (a3 : Nat) (a4 : Nat) (b0 : Nat) (b1 : Nat) (b2 : Nat) (b3 : Nat) (b4 : Nat) (pw : Int) (k0 : IntKind.i64.min ≤ r0 ∧ r0 ≤ IntKind.i64.max) (k1 : IntKind.i64.min ≤ r1 ∧ r1 ≤ IntKind.i64.max) (cr2 : CF r2) (cr3 : CF r3) (cr4 : CF r4) (cr5 : CF r5) (cr6 : CF r6) (cr7 : CF r7) (cr8 : CF r8) (cr9 : CF r9) (cr10 : CF r10) (cr11 : CF r11) (k12 : IntKind.i64.min ≤ r12 ∧ r12 ≤ IntKind.i64.max) (cr13 : CF r13) (ca0 : CF a0) (ca1 : CF a1) (ca2 : CF a2) (ca3 : CF a3) (ca4 : CF a4) (cb0 : CF b0) (cb1 : CF b1) (cb2 : CF b2) (cb3 : CF b3) (cb4 : CF b4) (kp : IntKind.i64.min ≤ pw ∧ pw ≤ IntKind.i64.max) : O_law20_RowScaled r0 r1 r2 r3 r4 r5 r6 r7 r8 r9 r10 r11 r12 r13 a0 a1 a2 a3 a4 b0 b1 b2 b3 b4 pw = true := by
  obtain ⟨z, hz, z1, z2⟩ := power_small pw
  have c1 : ilt z (-1075) = false := decide_eq_false (by omega)
  have c2 : ilt 1023 z = false := decide_eq_false (by omega)
  have c3 : ilt z (-1022) = false := decide_eq_false (by omega)
  have c4 : u64ok (Int.ofNat (pow2 z)) = true := by
    have := pow2_lt (z := z) (by omega) (by omega)
    show Nat.blt (pow2 z) 18446744073709551616 = true
    rw [Nat.blt_eq]; omega
  unfold O_law20_RowScaled
  extract_lets x0 x1 x2 x3 x4 x5 x6 x7 x8 x9 x10 x11 x12 x13 x14 x15 x16 x17 x18 x19 x20 x21 x22 x23 x24 x25 x26 x27 x28 x29 x30 x31 x32 x33 x34 x35 x36 x37 x38 x39 x40 x41 x42 x43 x44 x45 x46 x47 x48
  have h0 : x0 = z := hz
  have h1 : x1 = false := by show ilt x0 (-1022) = false; rw [h0]; exact c3
  have h2 : x2 = Int.ofNat (pow2 z) := by
    rw [← ldexp_bits (z := z) (by omega) (by omega)]
    show IntKind.wrap .u64 ((((0 : Int) % (18446744073709551616 : Int)).toNat ||| ((IntKind.wrap .u64 ((IntKind.wrap .u64 (IntKind.wrap .i64 ((bif x1 then (IntKind.wrap .i64 (x0 + (53 : Int))) else x0) + (1023 : Int)))) * (4503599627370496 : Int))) % (18446744073709551616 : Int)).toNat : Nat) : Int) = _
    rw [h1, h0]; rfl
  have h5 : x5 = true := by show (x4 || (x3 || ((u64ok x2) && (x1 || true)))) = true; rw [h2, c4, Bool.or_true, Bool.and_self, Bool.or_true, Bool.or_true]
  have cs : ∀ {c x : Bool}, x = true → (bif c then x else x) = true := fun h => by rw [Bool.cond_self]; exact h
  clear_value x5
  have h7 : x7 = true := cs h5
  clear_value x7
  have h26 : x26 = true := cs h7
  clear_value x26
  have h28 : x28 = true := cs h26
  clear_value x28
  have h30 : x30 = true := cs h28
  clear_value x30
  have h32 : x32 = true := cs h30
  clear_value x32
  have h34 : x34 = true := cs h32
  clear_value x34
  have h36 : x36 = true := cs h34
  clear_value x36
  have h38 : x38 = true := cs h36
  clear_value x38
  have h40 : x40 = true := cs h38
  clear_value x40
  have h44 : x44 = true := cs h40
  clear_value x44
  have h46 : x46 = true := cs h44
  clear_value x46
  have e : ∀ c : Bool, (bif c then x46 else x46) = true := fun c => cs h46
  rw [e]
  simp
end Go.Proofs.Ytojahopdcnamjaa
