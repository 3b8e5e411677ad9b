/- RowEnergy: a row without a bias adds no kinetic energy. -/
import Derived.Test.YtojahopdcnamjaaFnsD
import Derived.Test.YtojahopdcnamjaaSimRowEn5
set_option linter.unusedVariables false
set_option linter.unusedSimpArgs false
namespace Go.Proofs.Ytojahopdcnamjaa
open Go.Sim
theorem fits_form (r0 : Int) (r1 : Int) (r2 : Nat) (r3 : Nat) (r4 : Nat) (r5 : Nat) (r6 : Nat) (r7 : Nat) (r8 : Nat) (r9 : Nat) (r10 : Nat) (r11 : Nat) (r12 : Int) (r13 : Nat) : s_rows_fits_0 r0 r1 r2 r3 r4 r5 r6 r7 r8 r9 r10 r11 r12 r13 = ((((((((((s_vec_Finite_0 r2 r3) && (s_vec_Finite_0 r4 r5)) && ((s_num_Finite_float64__0 r6) && (s_num_Finite_float64__0 r7))) && (((s_num_Finite_float64__0 r8) && (s_num_Finite_float64__0 r11)) && (s_num_Finite_float64__0 r13))) && (ile (0 : Int) r0)) && (ile (0 : Int) r1)) && (!(ieq r0 r1))) && (fle 0 r13)) && (fle r9 r10)) && (ile (-1 : Int) r12)) := by
  unfold s_rows_fits_0 s_rows_finite_1_0
  generalize s_vec_Finite_0 r2 r3 = p1
  generalize s_vec_Finite_0 r4 r5 = p2
  generalize s_num_Finite_float64__0 r6 = p3
  generalize s_num_Finite_float64__0 r7 = p4
  generalize s_num_Finite_float64__0 r8 = p5
  generalize s_num_Finite_float64__0 r11 = p6
  generalize s_num_Finite_float64__0 r13 = p7
  generalize ile (0 : Int) r0 = q1
  generalize ile (0 : Int) r1 = q2
  generalize ieq r0 r1 = q3
  generalize fle 0 r13 = q4
  generalize fle r9 r10 = q5
  generalize ile (-1 : Int) r12 = q6
  have h0 : ile 0 0 = true := by decide
  have h1 : ile 0 1 = true := by decide
  have h2 : ile 0 2 = true := by decide
  have h3 : ile 0 3 = true := by decide
  have h4 : ile 0 4 = true := by decide
  have h5 : ile 0 (-1) = false := by decide
  cases p3 <;> cases p4 <;> cases p5 <;> cases p6 <;> cases p7 <;> simp [h0, h1, h2, h3, h4, h5] <;> cases p1 <;> cases p2 <;> cases q1 <;> cases q2 <;> cases q3 <;> simp
theorem rests_form (a0 a1 a2 a3 a4 : Nat) : s_rows_rests_0 a0 a1 a2 a3 a4 = ((((s_num_Finite_float64__0 a0) && (s_num_Finite_float64__0 a1)) && (fle 0 a0)) && (fle 0 a1)) := by
  unfold s_rows_rests_0 s_rows_finite_1_0
  generalize s_num_Finite_float64__0 a0 = p3
  generalize s_num_Finite_float64__0 a1 = p4
  have h0 : ile 0 0 = true := by decide
  have h1 : ile 0 1 = true := by decide
  have h5 : ile 0 (-1) = false := by decide
  cases p3 <;> cases p4 <;> simp [h0, h1, h5]
theorem finite_of {x : Nat} (cx : CF x) (fx : fin x = true) : s_num_Finite_float64__0 x = true := by
  unfold s_num_Finite_float64__0
  exact V.feq_of (V.sub cx.lt (V.self fx) (V.self fx) V.zero (by omega)) V.zero
theorem rests_of {a0 a1 a2 a3 a4 : Nat} (c0 : CF a0) (c1 : CF a1) (f0 : fin a0 = true) (f1 : fin a1 = true) (n0 : fle 0 a0 = true) (n1 : fle 0 a1 = true) : s_rows_rests_0 a0 a1 a2 a3 a4 = true := by
  rw [rests_form, finite_of c0 f0, finite_of c1 f1, n0, n1]; rfl
theorem fits_push (r0 : Int) (r1 : Int) (r2 : Nat) (r3 : Nat) (r4 : Nat) (r5 : Nat) (r6 : Nat) (r7 : Nat) (r8 : Nat) (r9 : Nat) (r10 : Nat) (r11 : Nat) (r12 : Int) (r13 : Nat) (q : Nat) (h : s_rows_fits_0 r0 r1 r2 r3 r4 r5 r6 r7 r8 r9 r10 r11 r12 r13 = true) (hq : s_num_Finite_float64__0 q = true) : s_rows_fits_0 r0 r1 r2 r3 r4 r5 r6 r7 r8 r9 r10 q r12 r13 = true := by
  rw [fits_form] at h
  rw [fits_form, hq]
  simp only [Bool.and_eq_true] at h ⊢
  simp only [h, and_self, and_true, true_and]
theorem asked_of (r0 : Int) (r1 : Int) (r2 : Nat) (r3 : Nat) (r4 : Nat) (r5 : Nat) (r6 : Nat) (r7 : Nat) (r8 : Nat) (r9 : Nat) (r10 : Nat) (r11 : Nat) (r12 : Int) (r13 : Nat) (a0 : Nat) (a1 : Nat) (a2 : Nat) (a3 : Nat) (a4 : Nat) (b0 : Nat) (b1 : Nat) (b2 : Nat) (b3 : Nat) (b4 : Nat) (h : s_rows_fits_0 r0 r1 r2 r3 r4 r5 r6 r7 r8 r9 r10 r11 r12 r13 = true) (h1 : s_rows_rests_0 a0 a1 a2 a3 a4 = true) (h2 : s_rows_rests_0 b0 b1 b2 b3 b4 = true) : s_rows_asked_0 r0 r1 r2 r3 r4 r5 r6 r7 r8 r9 r10 r11 r12 r13 a0 a1 a2 a3 a4 b0 b1 b2 b3 b4 = 0 := by
  unfold s_rows_asked_0; rw [h, h1, h2]; rfl
theorem rv_l40 : rv 4427038433705197568 = ((1 : Nat) : Rat) / ((1099511627776 : Nat) : Rat) := rv_lit (by decide) (by decide) (by intro d hd; subst hd; decide +kernel)
theorem rv_h40 : rv 4787326403894837248 = ((1099511627776 : Nat) : Rat) / ((1 : Nat) : Rat) := rv_lit (by decide) (by decide) (by intro d hd; subst hd; decide +kernel)
theorem u40_of {x : Nat} (cx : CF x) (h : ((!(feq x 0)) && (!((fle 4427038433705197568 (fabs x)) && (fle (fabs x) 4787326403894837248)))) = false) : U40 x := by
  have k1 : ((1 : Nat) : Rat) = 1 := rfl
  have k2 : ((1099511627776 : Nat) : Rat) = 1099511627776 := rfl
  cases h1 : feq x 0
  · rw [h1] at h
    have h2 : ((fle 4427038433705197568 (fabs x)) && (fle (fabs x) 4787326403894837248)) = true := by
      cases h3 : ((fle 4427038433705197568 (fabs x)) && (fle (fabs x) 4787326403894837248))
      · rw [h3] at h; cases h
      · rfl
    simp only [Bool.and_eq_true] at h2
    obtain ⟨g1, g2⟩ := h2
    have hq : fin (fabs x) = true := fin_between g1 g2 (by decide) (by decide)
    have hn : nanb x = false := by have := fin_not_nan hq; rwa [nanb_fabs] at this
    have ff : fin x = true := by
      have e := fabs_of hn
      rw [e, fin_iff] at hq
      have r2 : rungOf (rungOf x) = rungOf x := by unfold rungOf; omega
      rw [r2] at hq
      exact fin_iff.2 hq
    rw [rv_le (by decide) hq, decide_eq_true_eq, rv_l40, k1, k2] at g1
    rw [rv_le hq (by decide), decide_eq_true_eq, rv_h40, k1, k2] at g2
    refine ⟨ff, .inr ⟨?_, ?_⟩⟩ <;> grind
  · have hn : nanb x = false := by
      cases hn : nanb x
      · rfl
      · rw [feq_nan (.inl hn)] at h1; cases h1
    have hl : x < 18446744073709551616 := cx.lt
    have ff : fin x = true := by
      rcases (feq_zero hl hn).1 h1 with e | e <;> rw [e] <;> decide
    have hz : rv x = 0 := by
      rw [feq_val (fin_not_nan ff) (by decide)] at h1
      simp only [decide_eq_true_eq] at h1
      have e : sval 0 = 0 := by decide
      unfold rv; rw [h1, e]; grind
    refine ⟨ff, .inl ?_⟩
    obtain ⟨_, p1, _⟩ := rv_abs ff
    rw [p1 (by grind), hz]
theorem usuals_say (r0 : Int) (r1 : Int) (r2 : Nat) (r3 : Nat) (r4 : Nat) (r5 : Nat) (r6 : Nat) (r7 : Nat) (r8 : Nat) (r9 : Nat) (r10 : Nat) (r11 : Nat) (r12 : Int) (r13 : Nat) (a0 : Nat) (a1 : Nat) (a2 : Nat) (a3 : Nat) (a4 : Nat) (b0 : Nat) (b1 : Nat) (b2 : Nat) (b3 : Nat) (b4 : Nat) (cr2 : CF r2) (cr3 : CF r3) (cr4 : CF r4) (cr5 : CF r5) (cr6 : CF r6) (cr7 : CF r7) (cr8 : CF r8) (cr9 : CF r9) (cr10 : CF r10) (cr11 : CF r11) (cr13 : CF r13) (ca0 : CF a0) (ca1 : CF a1) (ca2 : CF a2) (ca3 : CF a3) (ca4 : CF a4) (cb0 : CF b0) (cb1 : CF b1) (cb2 : CF b2) (cb3 : CF b3) (cb4 : CF b4) (h : s_law20_usuals_0 r0 r1 r2 r3 r4 r5 r6 r7 r8 r9 r10 r11 r12 r13 a0 a1 a2 a3 a4 b0 b1 b2 b3 b4 = true) :
    (U40 r2 ∧ U40 r3 ∧ U40 r4 ∧ U40 r5 ∧ U40 r6 ∧ U40 r7 ∧ U40 r8 ∧ U40 r11 ∧ U40 r13 ∧ U40 r9) ∧ (U40 a0 ∧ U40 a1 ∧ U40 a2 ∧ U40 a3 ∧ U40 a4 ∧ U40 b0 ∧ U40 b1 ∧ U40 b2 ∧ U40 b3 ∧ U40 b4) ∧ s_rows_fits_0 r0 r1 r2 r3 r4 r5 r6 r7 r8 r9 r10 r11 r12 r13 = true ∧ fle 0 a0 = true ∧ fle 0 a1 = true ∧ fle 0 b0 = true ∧ fle 0 b1 = true := by
  unfold s_law20_usuals_0 at h
  simp only [] at h
  have u_r2 := @u40_of r2 cr2
  generalize ((!(feq r2 0)) && (!((fle 4427038433705197568 (fabs r2)) && (fle (fabs r2) 4787326403894837248)))) = y_r2 at *
  have u_r3 := @u40_of r3 cr3
  generalize ((!(feq r3 0)) && (!((fle 4427038433705197568 (fabs r3)) && (fle (fabs r3) 4787326403894837248)))) = y_r3 at *
  have u_r4 := @u40_of r4 cr4
  generalize ((!(feq r4 0)) && (!((fle 4427038433705197568 (fabs r4)) && (fle (fabs r4) 4787326403894837248)))) = y_r4 at *
  have u_r5 := @u40_of r5 cr5
  generalize ((!(feq r5 0)) && (!((fle 4427038433705197568 (fabs r5)) && (fle (fabs r5) 4787326403894837248)))) = y_r5 at *
  have u_r6 := @u40_of r6 cr6
  generalize ((!(feq r6 0)) && (!((fle 4427038433705197568 (fabs r6)) && (fle (fabs r6) 4787326403894837248)))) = y_r6 at *
  have u_r7 := @u40_of r7 cr7
  generalize ((!(feq r7 0)) && (!((fle 4427038433705197568 (fabs r7)) && (fle (fabs r7) 4787326403894837248)))) = y_r7 at *
  have u_r8 := @u40_of r8 cr8
  generalize ((!(feq r8 0)) && (!((fle 4427038433705197568 (fabs r8)) && (fle (fabs r8) 4787326403894837248)))) = y_r8 at *
  have u_r11 := @u40_of r11 cr11
  generalize ((!(feq r11 0)) && (!((fle 4427038433705197568 (fabs r11)) && (fle (fabs r11) 4787326403894837248)))) = y_r11 at *
  have u_r13 := @u40_of r13 cr13
  generalize ((!(feq r13 0)) && (!((fle 4427038433705197568 (fabs r13)) && (fle (fabs r13) 4787326403894837248)))) = y_r13 at *
  have u_r9 := @u40_of r9 cr9
  generalize ((!(feq r9 0)) && (!((fle 4427038433705197568 (fabs r9)) && (fle (fabs r9) 4787326403894837248)))) = y_r9 at *
  have u_a0 := @u40_of a0 ca0
  generalize ((!(feq a0 0)) && (!((fle 4427038433705197568 (fabs a0)) && (fle (fabs a0) 4787326403894837248)))) = y_a0 at *
  have u_a1 := @u40_of a1 ca1
  generalize ((!(feq a1 0)) && (!((fle 4427038433705197568 (fabs a1)) && (fle (fabs a1) 4787326403894837248)))) = y_a1 at *
  have u_a2 := @u40_of a2 ca2
  generalize ((!(feq a2 0)) && (!((fle 4427038433705197568 (fabs a2)) && (fle (fabs a2) 4787326403894837248)))) = y_a2 at *
  have u_a3 := @u40_of a3 ca3
  generalize ((!(feq a3 0)) && (!((fle 4427038433705197568 (fabs a3)) && (fle (fabs a3) 4787326403894837248)))) = y_a3 at *
  have u_a4 := @u40_of a4 ca4
  generalize ((!(feq a4 0)) && (!((fle 4427038433705197568 (fabs a4)) && (fle (fabs a4) 4787326403894837248)))) = y_a4 at *
  have u_b0 := @u40_of b0 cb0
  generalize ((!(feq b0 0)) && (!((fle 4427038433705197568 (fabs b0)) && (fle (fabs b0) 4787326403894837248)))) = y_b0 at *
  have u_b1 := @u40_of b1 cb1
  generalize ((!(feq b1 0)) && (!((fle 4427038433705197568 (fabs b1)) && (fle (fabs b1) 4787326403894837248)))) = y_b1 at *
  have u_b2 := @u40_of b2 cb2
  generalize ((!(feq b2 0)) && (!((fle 4427038433705197568 (fabs b2)) && (fle (fabs b2) 4787326403894837248)))) = y_b2 at *
  have u_b3 := @u40_of b3 cb3
  generalize ((!(feq b3 0)) && (!((fle 4427038433705197568 (fabs b3)) && (fle (fabs b3) 4787326403894837248)))) = y_b3 at *
  have u_b4 := @u40_of b4 cb4
  generalize ((!(feq b4 0)) && (!((fle 4427038433705197568 (fabs b4)) && (fle (fabs b4) 4787326403894837248)))) = y_b4 at *
  generalize ((!(feq r10 0)) && (!((fle 4427038433705197568 (fabs r10)) && (fle (fabs r10) 4787326403894837248)))) = y_r10 at *
  rcases y_r2 with _ | _
  rotate_left
  · exact absurd h Bool.false_ne_true
  rcases y_r3 with _ | _
  rotate_left
  · exact absurd h Bool.false_ne_true
  rcases y_r4 with _ | _
  rotate_left
  · exact absurd h Bool.false_ne_true
  rcases y_r5 with _ | _
  rotate_left
  · exact absurd h Bool.false_ne_true
  rcases y_r6 with _ | _
  rotate_left
  · exact absurd h Bool.false_ne_true
  rcases y_r7 with _ | _
  rotate_left
  · exact absurd h Bool.false_ne_true
  rcases y_r8 with _ | _
  rotate_left
  · exact absurd h Bool.false_ne_true
  rcases y_r11 with _ | _
  rotate_left
  · exact absurd h Bool.false_ne_true
  rcases y_r13 with _ | _
  rotate_left
  · exact absurd h Bool.false_ne_true
  rcases y_r9 with _ | _
  rotate_left
  · exact absurd h Bool.false_ne_true
  rcases y_a0 with _ | _
  rotate_left
  · exact absurd h Bool.false_ne_true
  rcases y_a1 with _ | _
  rotate_left
  · exact absurd h Bool.false_ne_true
  rcases y_a2 with _ | _
  rotate_left
  · exact absurd h Bool.false_ne_true
  rcases y_a3 with _ | _
  rotate_left
  · exact absurd h Bool.false_ne_true
  rcases y_a4 with _ | _
  rotate_left
  · exact absurd h Bool.false_ne_true
  rcases y_b0 with _ | _
  rotate_left
  · exact absurd h Bool.false_ne_true
  rcases y_b1 with _ | _
  rotate_left
  · exact absurd h Bool.false_ne_true
  rcases y_b2 with _ | _
  rotate_left
  · exact absurd h Bool.false_ne_true
  rcases y_b3 with _ | _
  rotate_left
  · exact absurd h Bool.false_ne_true
  rcases y_b4 with _ | _
  rotate_left
  · exact absurd h Bool.false_ne_true
  have hc : ieq (s_rows_Check_0 r0 r1 r2 r3 r4 r5 r6 r7 r8 r9 r10 r11 r12 r13 (1099511627776 : Int) (1099511627776 : Int)) (0 : Int) = true ∧ fle 0 a0 = true ∧ fle 0 a1 = true ∧ fle 0 b0 = true ∧ fle 0 b1 = true := by
    simp only [Bool.and_eq_true] at h
    exact ⟨h.1.1.1.1.2, h.1.1.1.2, h.1.1.2, h.1.2, h.2⟩
  obtain ⟨hc, n1, n2, n3, n4⟩ := hc
  have hf : s_rows_fits_0 r0 r1 r2 r3 r4 r5 r6 r7 r8 r9 r10 r11 r12 r13 = true := by
    cases hf : s_rows_fits_0 r0 r1 r2 r3 r4 r5 r6 r7 r8 r9 r10 r11 r12 r13
    · unfold s_rows_Check_0 at hc; rw [hf] at hc; exact absurd hc (by simp [ieq])
    · rfl
  exact ⟨⟨u_r2 rfl, u_r3 rfl, u_r4 rfl, u_r5 rfl, u_r6 rfl, u_r7 rfl, u_r8 rfl, u_r11 rfl, u_r13 rfl, u_r9 rfl⟩, ⟨u_a0 rfl, u_a1 rfl, u_a2 rfl, u_a3 rfl, u_a4 rfl, u_b0 rfl, u_b1 rfl, u_b2 rfl, u_b3 rfl, u_b4 rfl⟩, hf, n1, n2, n3, n4⟩
theorem sval_nonneg {m : Nat} (fm : fin m = true) (h : fle 0 m = true) : 0 ≤ rv m := by
  rw [rv_le (by decide) fm, decide_eq_true_eq] at h
  have e : rv 0 = 0 := by
    have : sval 0 = 0 := by decide
    unfold rv; rw [this]; grind
  grind
theorem bif3_still {α : Type} {a c1 c2 : Bool} {e o n : α} (h : a = false) (h1 : c1 = true) : (bif a then e else (bif c1 then o else (bif c2 then o else n))) = o := by rw [h, h1]; rfl
theorem bif3_go {α : Type} {a c1 c2 : Bool} {e o n : α} (h : a = false) (h1 : c1 = false) (h2 : c2 = false) : (bif a then e else (bif c1 then o else (bif c2 then o else n))) = n := by rw [h, h1, h2]; rfl
theorem fin1 {x : Nat} (cx : CF x) (fx : fin x = true) : s_rows_finite_1_0 x = false := by
  show (!(s_num_Finite_float64__0 x)) = false
  rw [finite_of cx fx]; rfl
theorem two_fin {x y : Nat} (hx : s_rows_finite_1_0 x = false) (hy : s_rows_finite_1_0 y = false) : (!(!(ile (0 : Int) (bif ((s_rows_finite_1_0 x) || (s_rows_finite_1_0 y)) then (bif (s_rows_finite_1_0 x) then (0 : Int) else (1 : Int)) else (-1 : Int))))) = false := by
  rw [hx, hy]; decide
theorem feq_same {x : Nat} (h : nanb x = false) : feq x x = true := by rw [feq_val h h]; simp
theorem flt_self {x : Nat} : flt x x = false := by
  cases h : nanb x
  · rw [flt_val h h]; simp
  · exact flt_nan (.inl h)
theorem flt_of_fle {x y : Nat} (h : fle x y = true) : flt y x = false := by
  cases hx : nanb x
  · cases hy : nanb y
    · rw [fle_val hx hy, decide_eq_true_eq] at h; rw [flt_val hy hx]; simp; omega
    · exact flt_nan (.inl hy)
  · exact flt_nan (.inr hx)
theorem ieq_same (x : Int) : ieq x x = true := by unfold ieq; simp
theorem cut_zero {m s : Nat} (cs : CF s) : CF (bif (feq m 0) then 0 else s) := by
  cases feq m 0
  · exact cs
  · exact CF.cn (b := 0) (by decide)
theorem cut_rest {m s : Nat} (fm : fin m = true) (h : rv m = 0) : rv (bif (feq m 0) then 0 else s) = 0 := by
  have : feq m 0 = true := V.feq_of (V_of_rv0 fm h) V.zero
  rw [this]; exact Go.Sim.rv0
theorem law_RowEnergy (r0 : Int) (r1 : Int) (r2 : Nat) (r3 : Nat) (r4 : Nat) (r5 : Nat) (r6 : Nat) (r7 : Nat) (r8 : Nat) (r9 : Nat) (r10 : Nat) (r11 : Nat) (r12 : Int) (r13 : Nat) (a0 : Nat) (a1 : Nat) (a2 : Nat) (a3 : Nat) (a4 : Nat) (b0 : Nat) (b1 : Nat) (b2 : Nat) (b3 : Nat) (b4 : Nat) (k0 : IntKind.i64.min ≤ r0 ∧ r0 ≤ IntKind.i64.max) (k1 : IntKind.i64.min ≤ r1 ∧ r1 ≤ IntKind.i64.max) (cr2 : CF r2) (cr3 : CF r3) (cr4 : CF r4) (cr5 : CF r5) (cr6 : CF r6) (cr7 : CF r7) (cr8 : CF r8) (cr9 : CF r9) (cr10 : CF r10) (cr11 : CF r11) (k12 : IntKind.i64.min ≤ r12 ∧ r12 ≤ IntKind.i64.max) (cr13 : CF r13) (ca0 : CF a0) (ca1 : CF a1) (ca2 : CF a2) (ca3 : CF a3) (ca4 : CF a4) (cb0 : CF b0) (cb1 : CF b1) (cb2 : CF b2) (cb3 : CF b3) (cb4 : CF b4) : T_law20_RowEnergy r0 r1 r2 r3 r4 r5 r6 r7 r8 r9 r10 r11 r12 r13 a0 a1 a2 a3 a4 b0 b1 b2 b3 b4 = true := by
  unfold T_law20_RowEnergy
  simp only []
  have cda2 : CF (bif (feq a0 0) then 0 else a2) := cut_zero ca2
  have zda2 : fin a0 = true → rv a0 = 0 → rv (bif (feq a0 0) then 0 else a2) = 0 := cut_rest
  generalize (bif (feq a0 0) then 0 else a2) = da2 at *
  have cda3 : CF (bif (feq a0 0) then 0 else a3) := cut_zero ca3
  have zda3 : fin a0 = true → rv a0 = 0 → rv (bif (feq a0 0) then 0 else a3) = 0 := cut_rest
  generalize (bif (feq a0 0) then 0 else a3) = da3 at *
  have cda4 : CF (bif (feq a1 0) then 0 else a4) := cut_zero ca4
  have zda4 : fin a1 = true → rv a1 = 0 → rv (bif (feq a1 0) then 0 else a4) = 0 := cut_rest
  generalize (bif (feq a1 0) then 0 else a4) = da4 at *
  have cdb2 : CF (bif (feq b0 0) then 0 else b2) := cut_zero cb2
  have zdb2 : fin b0 = true → rv b0 = 0 → rv (bif (feq b0 0) then 0 else b2) = 0 := cut_rest
  generalize (bif (feq b0 0) then 0 else b2) = db2 at *
  have cdb3 : CF (bif (feq b0 0) then 0 else b3) := cut_zero cb3
  have zdb3 : fin b0 = true → rv b0 = 0 → rv (bif (feq b0 0) then 0 else b3) = 0 := cut_rest
  generalize (bif (feq b0 0) then 0 else b3) = db3 at *
  have cdb4 : CF (bif (feq b1 0) then 0 else b4) := cut_zero cb4
  have zdb4 : fin b1 = true → rv b1 = 0 → rv (bif (feq b1 0) then 0 else b4) = 0 := cut_rest
  generalize (bif (feq b1 0) then 0 else b4) = db4 at *
  have c0 : CF 0 := CF.cn (b := 0) (by decide)
  cases hu : s_law20_usuals_0 r0 r1 r2 r3 r4 r5 r6 r7 0 r9 r10 r11 r12 r13 a0 a1 da2 da3 da4 b0 b1 db2 db3 db4
  · rfl
  obtain ⟨⟨ur2, ur3, ur4, ur5, ur6, ur7, ur8, ur11, ur13, ur9⟩, ⟨ua0, ua1, ua2, ua3, ua4, ub0, ub1, ub2, ub3, ub4⟩, hf, n1, n2, n3, n4⟩ := usuals_say r0 r1 r2 r3 r4 r5 r6 r7 0 r9 r10 r11 r12 r13 a0 a1 da2 da3 da4 b0 b1 db2 db3 db4 cr2 cr3 cr4 cr5 cr6 cr7 c0 cr9 cr10 cr11 cr13 ca0 ca1 cda2 cda3 cda4 cb0 cb1 cdb2 cdb3 cdb4 hu
  have q1 := rests_of (a2 := da2) (a3 := da3) (a4 := da4) ca0 ca1 ua0.1 ua1.1 n1 n2
  have q2 := rests_of (a2 := db2) (a3 := db3) (a4 := db4) cb0 cb1 ub0.1 ub1.1 n3 n4
  have k1 : s_rows_asked_0 r0 r1 r2 r3 r4 r5 r6 r7 0 r9 r10 r11 r12 r13 a0 a1 da2 da3 da4 b0 b1 db2 db3 db4 = 0 := asked_of r0 r1 r2 r3 r4 r5 r6 r7 0 r9 r10 r11 r12 r13 a0 a1 da2 da3 da4 b0 b1 db2 db3 db4 hf q1 q2
  have ka : (!(ieq (s_rows_asked_0 r0 r1 r2 r3 r4 r5 r6 r7 0 r9 r10 r11 r12 r13 a0 a1 da2 da3 da4 b0 b1 db2 db3 db4) (0 : Int))) = false := by rw [k1]; rfl
  have hlh : fle r9 r10 = true := by
    have h := hf
    rw [fits_form] at h
    simp only [Bool.and_eq_true] at h
    exact h.1.2
  have n10 : nanb r10 = false := by
    cases h : nanb r10
    · rfl
    · rw [fle_nan (.inr h)] at hlh; cases hlh
  cases h1 : flt r11 r9
  rotate_left
  · rfl
  cases h2 : flt r10 r11
  rotate_left
  · rfl
  have hW0 : s_rows_Weight_0 r0 r1 r2 r3 r4 r5 r6 r7 0 r9 r10 r11 r12 r13 a0 a1 da2 da3 da4 b0 b1 db2 db3 db4 = (s_rows_weight_0 r0 r1 r2 r3 r4 r5 r6 r7 0 r9 r10 r11 r12 r13 a0 a1 da2 da3 da4 b0 b1 db2 db3 db4) := by unfold s_rows_Weight_0; rw [k1]; rfl
  have hW1 : s_rows_Weight_1 r0 r1 r2 r3 r4 r5 r6 r7 0 r9 r10 r11 r12 r13 a0 a1 da2 da3 da4 b0 b1 db2 db3 db4 = 0 := by unfold s_rows_Weight_1; rw [k1]; rfl
  rw [hW0, hW1]
  have n1 := sval_nonneg ua0.1 n1
  have n2 := sval_nonneg ua1.1 n2
  have n3 := sval_nonneg ub0.1 n3
  have n4 := sval_nonneg ub1.1 n4
  obtain ⟨fs, fw, wn, fl, rest⟩ := solved_facts (s := (s_rows_speed_0 r0 r1 r2 r3 r4 r5 r6 r7 0 r9 r10 r11 r12 r13 a0 a1 da2 da3 da4 b0 b1 db2 db3 db4)) (w := (s_rows_weight_0 r0 r1 r2 r3 r4 r5 r6 r7 0 r9 r10 r11 r12 r13 a0 a1 da2 da3 da4 b0 b1 db2 db3 db4)) c0 cr11 ur2 ur3 ur4 ur5 ur6 ur7 ur8 ur11 ua0 ua1 ua2 ua3 ua4 ub0 ub1 ub2 ub3 ub4 n1 n2 n3 n4 rfl rfl
  have cw : CF (s_rows_weight_0 r0 r1 r2 r3 r4 r5 r6 r7 0 r9 r10 r11 r12 r13 a0 a1 da2 da3 da4 b0 b1 db2 db3 db4) := CF.add _ _
  have cl : CF (fsub 0 (s_rows_speed_0 r0 r1 r2 r3 r4 r5 r6 r7 0 r9 r10 r11 r12 r13 a0 a1 da2 da3 da4 b0 b1 db2 db3 db4)) := CF.sub _ _
  have fw1 := fin1 cw fw
  have fl1 := fin1 cl fl
  cases hw : flt 0 (s_rows_weight_0 r0 r1 r2 r3 r4 r5 r6 r7 0 r9 r10 r11 r12 r13 a0 a1 da2 da3 da4 b0 b1 db2 db3 db4)
  · have hc : ((!(flt 0 (s_rows_weight_0 r0 r1 r2 r3 r4 r5 r6 r7 0 r9 r10 r11 r12 r13 a0 a1 da2 da3 da4 b0 b1 db2 db3 db4))) || (!(!(ile (0 : Int) (bif ((s_rows_finite_1_0 (s_rows_weight_0 r0 r1 r2 r3 r4 r5 r6 r7 0 r9 r10 r11 r12 r13 a0 a1 da2 da3 da4 b0 b1 db2 db3 db4)) || (s_rows_finite_1_0 (fsub 0 (s_rows_speed_0 r0 r1 r2 r3 r4 r5 r6 r7 0 r9 r10 r11 r12 r13 a0 a1 da2 da3 da4 b0 b1 db2 db3 db4)))) then (bif (s_rows_finite_1_0 (s_rows_weight_0 r0 r1 r2 r3 r4 r5 r6 r7 0 r9 r10 r11 r12 r13 a0 a1 da2 da3 da4 b0 b1 db2 db3 db4)) then (0 : Int) else (1 : Int)) else (-1 : Int)))))) = true := by rw [hw]; rfl
    have o11 : s_rows_One_11 r0 r1 r2 r3 r4 r5 r6 r7 0 r9 r10 r11 r12 r13 a0 a1 da2 da3 da4 b0 b1 db2 db3 db4 = r11 := bif3_still ka hc
    have o14 : s_rows_One_14 r0 r1 r2 r3 r4 r5 r6 r7 0 r9 r10 r11 r12 r13 a0 a1 da2 da3 da4 b0 b1 db2 db3 db4 = a0 := bif3_still ka hc
    have o15 : s_rows_One_15 r0 r1 r2 r3 r4 r5 r6 r7 0 r9 r10 r11 r12 r13 a0 a1 da2 da3 da4 b0 b1 db2 db3 db4 = a1 := bif3_still ka hc
    have o16 : s_rows_One_16 r0 r1 r2 r3 r4 r5 r6 r7 0 r9 r10 r11 r12 r13 a0 a1 da2 da3 da4 b0 b1 db2 db3 db4 = da2 := bif3_still ka hc
    have o17 : s_rows_One_17 r0 r1 r2 r3 r4 r5 r6 r7 0 r9 r10 r11 r12 r13 a0 a1 da2 da3 da4 b0 b1 db2 db3 db4 = da3 := bif3_still ka hc
    have o18 : s_rows_One_18 r0 r1 r2 r3 r4 r5 r6 r7 0 r9 r10 r11 r12 r13 a0 a1 da2 da3 da4 b0 b1 db2 db3 db4 = da4 := bif3_still ka hc
    have o19 : s_rows_One_19 r0 r1 r2 r3 r4 r5 r6 r7 0 r9 r10 r11 r12 r13 a0 a1 da2 da3 da4 b0 b1 db2 db3 db4 = b0 := bif3_still ka hc
    have o20 : s_rows_One_20 r0 r1 r2 r3 r4 r5 r6 r7 0 r9 r10 r11 r12 r13 a0 a1 da2 da3 da4 b0 b1 db2 db3 db4 = b1 := bif3_still ka hc
    have o21 : s_rows_One_21 r0 r1 r2 r3 r4 r5 r6 r7 0 r9 r10 r11 r12 r13 a0 a1 da2 da3 da4 b0 b1 db2 db3 db4 = db2 := bif3_still ka hc
    have o22 : s_rows_One_22 r0 r1 r2 r3 r4 r5 r6 r7 0 r9 r10 r11 r12 r13 a0 a1 da2 da3 da4 b0 b1 db2 db3 db4 = db3 := bif3_still ka hc
    have o23 : s_rows_One_23 r0 r1 r2 r3 r4 r5 r6 r7 0 r9 r10 r11 r12 r13 a0 a1 da2 da3 da4 b0 b1 db2 db3 db4 = db4 := bif3_still ka hc
    have o24 : s_rows_One_24 r0 r1 r2 r3 r4 r5 r6 r7 0 r9 r10 r11 r12 r13 a0 a1 da2 da3 da4 b0 b1 db2 db3 db4 = 0 := bif3_still ka hc
    rw [o11, o14, o15, o16, o17, o18, o19, o20, o21, o22, o23, o24]
    have wz : rv (s_rows_weight_0 r0 r1 r2 r3 r4 r5 r6 r7 0 r9 r10 r11 r12 r13 a0 a1 da2 da3 da4 b0 b1 db2 db3 db4) = 0 := by
      rw [flt_rv (by decide) fw, Bool.not_eq_false', decide_eq_true_eq] at hw
      have z0 : rv 0 = 0 := by unfold rv; rw [show sval 0 = 0 by decide]; grind
      rw [z0] at hw; grind
    have bg := big_890
    have e9 := eta_900
    have e0 := eta_pos
    have b11 := ur11.bound.2
    have y11 := (abs_le ur11.1).2.2
    obtain ⟨f7, u1, u2, u3, u4⟩ := sq_float ur11.1 (by grind)
    have rr := abs_sq' ur11.1
    have rr9 := mul_le (A := 1099511627776) (C := 1099511627776) (x := rv (fabs r11)) (y := rv (fabs r11)) (by grind) b11 (by grind) b11
    have r9' : rv (fmul r11 r11) ≤ 309485009821345068724781056 := by rw [← rr] at u2 u3; grind
    have fm : fin (fadd (fmul r11 r11) (fmul r11 r11)) = true := (rv_add (B := 1237940039285380274899124224) f7 f7 (by grind) (by grind) (by grind)).1
    obtain ⟨fM, hM⟩ := rv_mul_zero fw fm (by rw [wz]; grind)
    have fin : fle (fadd (s_law20_kinetic_0 a0 a1 da2 da3 da4) (s_law20_kinetic_0 b0 b1 db2 db3 db4)) (fadd (fadd (s_law20_kinetic_0 a0 a1 da2 da3 da4) (s_law20_kinetic_0 b0 b1 db2 db3 db4)) (fmul 4472074429978902528 (fadd (fadd (s_law20_kinetic_0 a0 a1 da2 da3 da4) (s_law20_kinetic_0 b0 b1 db2 db3 db4)) (fmul (s_rows_weight_0 r0 r1 r2 r3 r4 r5 r6 r7 0 r9 r10 r11 r12 r13 a0 a1 da2 da3 da4 b0 b1 db2 db3 db4) (fadd (fmul r11 r11) (fmul r11 r11)))))) = true :=
      energy_still ua0 ua1 ua2 ua3 ua4 ub0 ub1 ub2 ub3 ub4 n1 n2 n3 n4 (zda2 ua0.1) (zda3 ua0.1) (zda4 ua1.1) (zdb2 ub0.1) (zdb3 ub0.1) (zdb4 ub1.1) fM hM
    rw [fin]
    simp [ieq_same]
  have w0 : 0 < rv (s_rows_weight_0 r0 r1 r2 r3 r4 r5 r6 r7 0 r9 r10 r11 r12 r13 a0 a1 da2 da3 da4 b0 b1 db2 db3 db4) := by
    rw [flt_rv (by decide) fw, Bool.not_eq_true', decide_eq_false_iff_not] at hw
    have z0 : rv 0 = 0 := by unfold rv; rw [show sval 0 = 0 by decide]; grind
    rw [z0] at hw; grind
  obtain ⟨fd, fx, xab, dab, fp, pab, rest2⟩ := rest w0
  clear rest rest2
  have hc : ((!(flt 0 (s_rows_weight_0 r0 r1 r2 r3 r4 r5 r6 r7 0 r9 r10 r11 r12 r13 a0 a1 da2 da3 da4 b0 b1 db2 db3 db4))) || (!(!(ile (0 : Int) (bif ((s_rows_finite_1_0 (s_rows_weight_0 r0 r1 r2 r3 r4 r5 r6 r7 0 r9 r10 r11 r12 r13 a0 a1 da2 da3 da4 b0 b1 db2 db3 db4)) || (s_rows_finite_1_0 (fsub 0 (s_rows_speed_0 r0 r1 r2 r3 r4 r5 r6 r7 0 r9 r10 r11 r12 r13 a0 a1 da2 da3 da4 b0 b1 db2 db3 db4)))) then (bif (s_rows_finite_1_0 (s_rows_weight_0 r0 r1 r2 r3 r4 r5 r6 r7 0 r9 r10 r11 r12 r13 a0 a1 da2 da3 da4 b0 b1 db2 db3 db4)) then (0 : Int) else (1 : Int)) else (-1 : Int)))))) = false := by rw [hw]; exact two_fin fw1 fl1
  -- the new push
  have hq : fin (s_num_Clamp_float64__0 (fadd r11 (fdiv (fsub 0 (s_rows_speed_0 r0 r1 r2 r3 r4 r5 r6 r7 0 r9 r10 r11 r12 r13 a0 a1 da2 da3 da4 b0 b1 db2 db3 db4)) (s_rows_weight_0 r0 r1 r2 r3 r4 r5 r6 r7 0 r9 r10 r11 r12 r13 a0 a1 da2 da3 da4 b0 b1 db2 db3 db4))) r9 r10) = true ∧ rv (fabs (s_num_Clamp_float64__0 (fadd r11 (fdiv (fsub 0 (s_rows_speed_0 r0 r1 r2 r3 r4 r5 r6 r7 0 r9 r10 r11 r12 r13 a0 a1 da2 da3 da4 b0 b1 db2 db3 db4)) (s_rows_weight_0 r0 r1 r2 r3 r4 r5 r6 r7 0 r9 r10 r11 r12 r13 a0 a1 da2 da3 da4 b0 b1 db2 db3 db4))) r9 r10)) ≤ 3291009114642412084309938365114701009965471731267159726697218048 ∧ ((s_num_Clamp_float64__0 (fadd r11 (fdiv (fsub 0 (s_rows_speed_0 r0 r1 r2 r3 r4 r5 r6 r7 0 r9 r10 r11 r12 r13 a0 a1 da2 da3 da4 b0 b1 db2 db3 db4)) (s_rows_weight_0 r0 r1 r2 r3 r4 r5 r6 r7 0 r9 r10 r11 r12 r13 a0 a1 da2 da3 da4 b0 b1 db2 db3 db4))) r9 r10) = (fadd r11 (fdiv (fsub 0 (s_rows_speed_0 r0 r1 r2 r3 r4 r5 r6 r7 0 r9 r10 r11 r12 r13 a0 a1 da2 da3 da4 b0 b1 db2 db3 db4)) (s_rows_weight_0 r0 r1 r2 r3 r4 r5 r6 r7 0 r9 r10 r11 r12 r13 a0 a1 da2 da3 da4 b0 b1 db2 db3 db4))) ∨ ((s_num_Clamp_float64__0 (fadd r11 (fdiv (fsub 0 (s_rows_speed_0 r0 r1 r2 r3 r4 r5 r6 r7 0 r9 r10 r11 r12 r13 a0 a1 da2 da3 da4 b0 b1 db2 db3 db4)) (s_rows_weight_0 r0 r1 r2 r3 r4 r5 r6 r7 0 r9 r10 r11 r12 r13 a0 a1 da2 da3 da4 b0 b1 db2 db3 db4))) r9 r10) = r9 ∧ flt r9 (fadd r11 (fdiv (fsub 0 (s_rows_speed_0 r0 r1 r2 r3 r4 r5 r6 r7 0 r9 r10 r11 r12 r13 a0 a1 da2 da3 da4 b0 b1 db2 db3 db4)) (s_rows_weight_0 r0 r1 r2 r3 r4 r5 r6 r7 0 r9 r10 r11 r12 r13 a0 a1 da2 da3 da4 b0 b1 db2 db3 db4))) = false) ∨ ((s_num_Clamp_float64__0 (fadd r11 (fdiv (fsub 0 (s_rows_speed_0 r0 r1 r2 r3 r4 r5 r6 r7 0 r9 r10 r11 r12 r13 a0 a1 da2 da3 da4 b0 b1 db2 db3 db4)) (s_rows_weight_0 r0 r1 r2 r3 r4 r5 r6 r7 0 r9 r10 r11 r12 r13 a0 a1 da2 da3 da4 b0 b1 db2 db3 db4))) r9 r10) = r10 ∧ flt r10 (fadd r11 (fdiv (fsub 0 (s_rows_speed_0 r0 r1 r2 r3 r4 r5 r6 r7 0 r9 r10 r11 r12 r13 a0 a1 da2 da3 da4 b0 b1 db2 db3 db4)) (s_rows_weight_0 r0 r1 r2 r3 r4 r5 r6 r7 0 r9 r10 r11 r12 r13 a0 a1 da2 da3 da4 b0 b1 db2 db3 db4))) = true)) := by
    have e : (s_num_Clamp_float64__0 (fadd r11 (fdiv (fsub 0 (s_rows_speed_0 r0 r1 r2 r3 r4 r5 r6 r7 0 r9 r10 r11 r12 r13 a0 a1 da2 da3 da4 b0 b1 db2 db3 db4)) (s_rows_weight_0 r0 r1 r2 r3 r4 r5 r6 r7 0 r9 r10 r11 r12 r13 a0 a1 da2 da3 da4 b0 b1 db2 db3 db4))) r9 r10) = (bif ((!(flt r9 (fadd r11 (fdiv (fsub 0 (s_rows_speed_0 r0 r1 r2 r3 r4 r5 r6 r7 0 r9 r10 r11 r12 r13 a0 a1 da2 da3 da4 b0 b1 db2 db3 db4)) (s_rows_weight_0 r0 r1 r2 r3 r4 r5 r6 r7 0 r9 r10 r11 r12 r13 a0 a1 da2 da3 da4 b0 b1 db2 db3 db4))))) || (flt r10 (fadd r11 (fdiv (fsub 0 (s_rows_speed_0 r0 r1 r2 r3 r4 r5 r6 r7 0 r9 r10 r11 r12 r13 a0 a1 da2 da3 da4 b0 b1 db2 db3 db4)) (s_rows_weight_0 r0 r1 r2 r3 r4 r5 r6 r7 0 r9 r10 r11 r12 r13 a0 a1 da2 da3 da4 b0 b1 db2 db3 db4))))) then (bif (!(flt r9 (fadd r11 (fdiv (fsub 0 (s_rows_speed_0 r0 r1 r2 r3 r4 r5 r6 r7 0 r9 r10 r11 r12 r13 a0 a1 da2 da3 da4 b0 b1 db2 db3 db4)) (s_rows_weight_0 r0 r1 r2 r3 r4 r5 r6 r7 0 r9 r10 r11 r12 r13 a0 a1 da2 da3 da4 b0 b1 db2 db3 db4))))) then r9 else r10) else (fadd r11 (fdiv (fsub 0 (s_rows_speed_0 r0 r1 r2 r3 r4 r5 r6 r7 0 r9 r10 r11 r12 r13 a0 a1 da2 da3 da4 b0 b1 db2 db3 db4)) (s_rows_weight_0 r0 r1 r2 r3 r4 r5 r6 r7 0 r9 r10 r11 r12 r13 a0 a1 da2 da3 da4 b0 b1 db2 db3 db4)))) := rfl
    cases g1 : flt r9 (fadd r11 (fdiv (fsub 0 (s_rows_speed_0 r0 r1 r2 r3 r4 r5 r6 r7 0 r9 r10 r11 r12 r13 a0 a1 da2 da3 da4 b0 b1 db2 db3 db4)) (s_rows_weight_0 r0 r1 r2 r3 r4 r5 r6 r7 0 r9 r10 r11 r12 r13 a0 a1 da2 da3 da4 b0 b1 db2 db3 db4)))
    · have e2 : (s_num_Clamp_float64__0 (fadd r11 (fdiv (fsub 0 (s_rows_speed_0 r0 r1 r2 r3 r4 r5 r6 r7 0 r9 r10 r11 r12 r13 a0 a1 da2 da3 da4 b0 b1 db2 db3 db4)) (s_rows_weight_0 r0 r1 r2 r3 r4 r5 r6 r7 0 r9 r10 r11 r12 r13 a0 a1 da2 da3 da4 b0 b1 db2 db3 db4))) r9 r10) = r9 := by rw [e, g1]; rfl
      rw [e2]
      have y' := ur9.bound
      exact ⟨ur9.1, by grind, .inr (.inl ⟨rfl, rfl⟩)⟩
    · cases g2 : flt r10 (fadd r11 (fdiv (fsub 0 (s_rows_speed_0 r0 r1 r2 r3 r4 r5 r6 r7 0 r9 r10 r11 r12 r13 a0 a1 da2 da3 da4 b0 b1 db2 db3 db4)) (s_rows_weight_0 r0 r1 r2 r3 r4 r5 r6 r7 0 r9 r10 r11 r12 r13 a0 a1 da2 da3 da4 b0 b1 db2 db3 db4)))
      · have e2 : (s_num_Clamp_float64__0 (fadd r11 (fdiv (fsub 0 (s_rows_speed_0 r0 r1 r2 r3 r4 r5 r6 r7 0 r9 r10 r11 r12 r13 a0 a1 da2 da3 da4 b0 b1 db2 db3 db4)) (s_rows_weight_0 r0 r1 r2 r3 r4 r5 r6 r7 0 r9 r10 r11 r12 r13 a0 a1 da2 da3 da4 b0 b1 db2 db3 db4))) r9 r10) = (fadd r11 (fdiv (fsub 0 (s_rows_speed_0 r0 r1 r2 r3 r4 r5 r6 r7 0 r9 r10 r11 r12 r13 a0 a1 da2 da3 da4 b0 b1 db2 db3 db4)) (s_rows_weight_0 r0 r1 r2 r3 r4 r5 r6 r7 0 r9 r10 r11 r12 r13 a0 a1 da2 da3 da4 b0 b1 db2 db3 db4))) := by rw [e, g1, g2]; rfl
        rw [e2]
        exact ⟨fx, by grind, .inl rfl⟩
      · have e2 : (s_num_Clamp_float64__0 (fadd r11 (fdiv (fsub 0 (s_rows_speed_0 r0 r1 r2 r3 r4 r5 r6 r7 0 r9 r10 r11 r12 r13 a0 a1 da2 da3 da4 b0 b1 db2 db3 db4)) (s_rows_weight_0 r0 r1 r2 r3 r4 r5 r6 r7 0 r9 r10 r11 r12 r13 a0 a1 da2 da3 da4 b0 b1 db2 db3 db4))) r9 r10) = r10 := by rw [e, g1, g2]; rfl
        rw [e2]
        have f10 : fin r10 = true := by
          have y1 := fin_iff.1 ur9.1
          have y2 := fin_iff.1 fx
          have c1 := hlh
          rw [fle_key (fin_not_nan ur9.1) n10, decide_eq_true_eq] at c1
          rw [flt_key n10 (fin_not_nan fx), decide_eq_true_eq] at g2
          have d1 := key_abs r9
          have d2 := key_abs r10
          have d3 := key_abs (fadd r11 (fdiv (fsub 0 (s_rows_speed_0 r0 r1 r2 r3 r4 r5 r6 r7 0 r9 r10 r11 r12 r13 a0 a1 da2 da3 da4 b0 b1 db2 db3 db4)) (s_rows_weight_0 r0 r1 r2 r3 r4 r5 r6 r7 0 r9 r10 r11 r12 r13 a0 a1 da2 da3 da4 b0 b1 db2 db3 db4)))
          rw [fin_iff]
          omega
        have y := abs_le fx
        have y' := abs_le ur9.1
        have y2 := ur9.bound
        have g3 := hlh
        have g4 := g2
        rw [rv_le ur9.1 f10, decide_eq_true_eq] at g3
        rw [flt_rv f10 fx, Bool.not_eq_true', decide_eq_false_iff_not] at g2
        exact ⟨f10, abs_bound f10 (by grind) (by grind), .inr (.inr ⟨rfl, rfl⟩)⟩
  obtain ⟨fq, q9, hq3⟩ := hq
  have cq : CF (s_num_Clamp_float64__0 (fadd r11 (fdiv (fsub 0 (s_rows_speed_0 r0 r1 r2 r3 r4 r5 r6 r7 0 r9 r10 r11 r12 r13 a0 a1 da2 da3 da4 b0 b1 db2 db3 db4)) (s_rows_weight_0 r0 r1 r2 r3 r4 r5 r6 r7 0 r9 r10 r11 r12 r13 a0 a1 da2 da3 da4 b0 b1 db2 db3 db4))) r9 r10) := by
    have e : (s_num_Clamp_float64__0 (fadd r11 (fdiv (fsub 0 (s_rows_speed_0 r0 r1 r2 r3 r4 r5 r6 r7 0 r9 r10 r11 r12 r13 a0 a1 da2 da3 da4 b0 b1 db2 db3 db4)) (s_rows_weight_0 r0 r1 r2 r3 r4 r5 r6 r7 0 r9 r10 r11 r12 r13 a0 a1 da2 da3 da4 b0 b1 db2 db3 db4))) r9 r10) = (bif ((!(flt r9 (fadd r11 (fdiv (fsub 0 (s_rows_speed_0 r0 r1 r2 r3 r4 r5 r6 r7 0 r9 r10 r11 r12 r13 a0 a1 da2 da3 da4 b0 b1 db2 db3 db4)) (s_rows_weight_0 r0 r1 r2 r3 r4 r5 r6 r7 0 r9 r10 r11 r12 r13 a0 a1 da2 da3 da4 b0 b1 db2 db3 db4))))) || (flt r10 (fadd r11 (fdiv (fsub 0 (s_rows_speed_0 r0 r1 r2 r3 r4 r5 r6 r7 0 r9 r10 r11 r12 r13 a0 a1 da2 da3 da4 b0 b1 db2 db3 db4)) (s_rows_weight_0 r0 r1 r2 r3 r4 r5 r6 r7 0 r9 r10 r11 r12 r13 a0 a1 da2 da3 da4 b0 b1 db2 db3 db4))))) then (bif (!(flt r9 (fadd r11 (fdiv (fsub 0 (s_rows_speed_0 r0 r1 r2 r3 r4 r5 r6 r7 0 r9 r10 r11 r12 r13 a0 a1 da2 da3 da4 b0 b1 db2 db3 db4)) (s_rows_weight_0 r0 r1 r2 r3 r4 r5 r6 r7 0 r9 r10 r11 r12 r13 a0 a1 da2 da3 da4 b0 b1 db2 db3 db4))))) then r9 else r10) else (fadd r11 (fdiv (fsub 0 (s_rows_speed_0 r0 r1 r2 r3 r4 r5 r6 r7 0 r9 r10 r11 r12 r13 a0 a1 da2 da3 da4 b0 b1 db2 db3 db4)) (s_rows_weight_0 r0 r1 r2 r3 r4 r5 r6 r7 0 r9 r10 r11 r12 r13 a0 a1 da2 da3 da4 b0 b1 db2 db3 db4)))) := rfl
    rw [e]
    cases flt r9 (fadd r11 (fdiv (fsub 0 (s_rows_speed_0 r0 r1 r2 r3 r4 r5 r6 r7 0 r9 r10 r11 r12 r13 a0 a1 da2 da3 da4 b0 b1 db2 db3 db4)) (s_rows_weight_0 r0 r1 r2 r3 r4 r5 r6 r7 0 r9 r10 r11 r12 r13 a0 a1 da2 da3 da4 b0 b1 db2 db3 db4))) <;> cases flt r10 (fadd r11 (fdiv (fsub 0 (s_rows_speed_0 r0 r1 r2 r3 r4 r5 r6 r7 0 r9 r10 r11 r12 r13 a0 a1 da2 da3 da4 b0 b1 db2 db3 db4)) (s_rows_weight_0 r0 r1 r2 r3 r4 r5 r6 r7 0 r9 r10 r11 r12 r13 a0 a1 da2 da3 da4 b0 b1 db2 db3 db4))) <;> first | exact cr9 | exact cr10 | exact CF.add _ _
  have fp' : fin (fsub (s_num_Clamp_float64__0 (fadd r11 (fdiv (fsub 0 (s_rows_speed_0 r0 r1 r2 r3 r4 r5 r6 r7 0 r9 r10 r11 r12 r13 a0 a1 da2 da3 da4 b0 b1 db2 db3 db4)) (s_rows_weight_0 r0 r1 r2 r3 r4 r5 r6 r7 0 r9 r10 r11 r12 r13 a0 a1 da2 da3 da4 b0 b1 db2 db3 db4))) r9 r10) r11) = true := by
    have y := abs_le ur11.1
    have y2 := ur11.bound
    have z := abs_le fq
    have bg := big_800
    exact (rv_sub (B := 6582018229284824168619876730229402019930943462534319453394436096) cr11.lt fq ur11.1 (by grind) (by grind) (by grind)).1
  have hc2 := two_fin (fin1 cq fq) (fin1 (CF.sub (s_num_Clamp_float64__0 (fadd r11 (fdiv (fsub 0 (s_rows_speed_0 r0 r1 r2 r3 r4 r5 r6 r7 0 r9 r10 r11 r12 r13 a0 a1 da2 da3 da4 b0 b1 db2 db3 db4)) (s_rows_weight_0 r0 r1 r2 r3 r4 r5 r6 r7 0 r9 r10 r11 r12 r13 a0 a1 da2 da3 da4 b0 b1 db2 db3 db4))) r9 r10) r11) fp')
  have o11 : s_rows_One_11 r0 r1 r2 r3 r4 r5 r6 r7 0 r9 r10 r11 r12 r13 a0 a1 da2 da3 da4 b0 b1 db2 db3 db4 = (s_num_Clamp_float64__0 (fadd r11 (fdiv (fsub 0 (s_rows_speed_0 r0 r1 r2 r3 r4 r5 r6 r7 0 r9 r10 r11 r12 r13 a0 a1 da2 da3 da4 b0 b1 db2 db3 db4)) (s_rows_weight_0 r0 r1 r2 r3 r4 r5 r6 r7 0 r9 r10 r11 r12 r13 a0 a1 da2 da3 da4 b0 b1 db2 db3 db4))) r9 r10) := bif3_go ka hc hc2
  have o14 : s_rows_One_14 r0 r1 r2 r3 r4 r5 r6 r7 0 r9 r10 r11 r12 r13 a0 a1 da2 da3 da4 b0 b1 db2 db3 db4 = s_rows_pushed_0 r0 r1 r2 r3 r4 r5 r6 r7 0 r9 r10 r11 r12 r13 a0 a1 da2 da3 da4 b0 b1 db2 db3 db4 (fsub (s_num_Clamp_float64__0 (fadd r11 (fdiv (fsub 0 (s_rows_speed_0 r0 r1 r2 r3 r4 r5 r6 r7 0 r9 r10 r11 r12 r13 a0 a1 da2 da3 da4 b0 b1 db2 db3 db4)) (s_rows_weight_0 r0 r1 r2 r3 r4 r5 r6 r7 0 r9 r10 r11 r12 r13 a0 a1 da2 da3 da4 b0 b1 db2 db3 db4))) r9 r10) r11) := bif3_go ka hc hc2
  have o15 : s_rows_One_15 r0 r1 r2 r3 r4 r5 r6 r7 0 r9 r10 r11 r12 r13 a0 a1 da2 da3 da4 b0 b1 db2 db3 db4 = s_rows_pushed_1 r0 r1 r2 r3 r4 r5 r6 r7 0 r9 r10 r11 r12 r13 a0 a1 da2 da3 da4 b0 b1 db2 db3 db4 (fsub (s_num_Clamp_float64__0 (fadd r11 (fdiv (fsub 0 (s_rows_speed_0 r0 r1 r2 r3 r4 r5 r6 r7 0 r9 r10 r11 r12 r13 a0 a1 da2 da3 da4 b0 b1 db2 db3 db4)) (s_rows_weight_0 r0 r1 r2 r3 r4 r5 r6 r7 0 r9 r10 r11 r12 r13 a0 a1 da2 da3 da4 b0 b1 db2 db3 db4))) r9 r10) r11) := bif3_go ka hc hc2
  have o16 : s_rows_One_16 r0 r1 r2 r3 r4 r5 r6 r7 0 r9 r10 r11 r12 r13 a0 a1 da2 da3 da4 b0 b1 db2 db3 db4 = s_rows_pushed_2 r0 r1 r2 r3 r4 r5 r6 r7 0 r9 r10 r11 r12 r13 a0 a1 da2 da3 da4 b0 b1 db2 db3 db4 (fsub (s_num_Clamp_float64__0 (fadd r11 (fdiv (fsub 0 (s_rows_speed_0 r0 r1 r2 r3 r4 r5 r6 r7 0 r9 r10 r11 r12 r13 a0 a1 da2 da3 da4 b0 b1 db2 db3 db4)) (s_rows_weight_0 r0 r1 r2 r3 r4 r5 r6 r7 0 r9 r10 r11 r12 r13 a0 a1 da2 da3 da4 b0 b1 db2 db3 db4))) r9 r10) r11) := bif3_go ka hc hc2
  have o17 : s_rows_One_17 r0 r1 r2 r3 r4 r5 r6 r7 0 r9 r10 r11 r12 r13 a0 a1 da2 da3 da4 b0 b1 db2 db3 db4 = s_rows_pushed_3 r0 r1 r2 r3 r4 r5 r6 r7 0 r9 r10 r11 r12 r13 a0 a1 da2 da3 da4 b0 b1 db2 db3 db4 (fsub (s_num_Clamp_float64__0 (fadd r11 (fdiv (fsub 0 (s_rows_speed_0 r0 r1 r2 r3 r4 r5 r6 r7 0 r9 r10 r11 r12 r13 a0 a1 da2 da3 da4 b0 b1 db2 db3 db4)) (s_rows_weight_0 r0 r1 r2 r3 r4 r5 r6 r7 0 r9 r10 r11 r12 r13 a0 a1 da2 da3 da4 b0 b1 db2 db3 db4))) r9 r10) r11) := bif3_go ka hc hc2
  have o18 : s_rows_One_18 r0 r1 r2 r3 r4 r5 r6 r7 0 r9 r10 r11 r12 r13 a0 a1 da2 da3 da4 b0 b1 db2 db3 db4 = s_rows_pushed_4 r0 r1 r2 r3 r4 r5 r6 r7 0 r9 r10 r11 r12 r13 a0 a1 da2 da3 da4 b0 b1 db2 db3 db4 (fsub (s_num_Clamp_float64__0 (fadd r11 (fdiv (fsub 0 (s_rows_speed_0 r0 r1 r2 r3 r4 r5 r6 r7 0 r9 r10 r11 r12 r13 a0 a1 da2 da3 da4 b0 b1 db2 db3 db4)) (s_rows_weight_0 r0 r1 r2 r3 r4 r5 r6 r7 0 r9 r10 r11 r12 r13 a0 a1 da2 da3 da4 b0 b1 db2 db3 db4))) r9 r10) r11) := bif3_go ka hc hc2
  have o19 : s_rows_One_19 r0 r1 r2 r3 r4 r5 r6 r7 0 r9 r10 r11 r12 r13 a0 a1 da2 da3 da4 b0 b1 db2 db3 db4 = s_rows_pushed_5 r0 r1 r2 r3 r4 r5 r6 r7 0 r9 r10 r11 r12 r13 a0 a1 da2 da3 da4 b0 b1 db2 db3 db4 (fsub (s_num_Clamp_float64__0 (fadd r11 (fdiv (fsub 0 (s_rows_speed_0 r0 r1 r2 r3 r4 r5 r6 r7 0 r9 r10 r11 r12 r13 a0 a1 da2 da3 da4 b0 b1 db2 db3 db4)) (s_rows_weight_0 r0 r1 r2 r3 r4 r5 r6 r7 0 r9 r10 r11 r12 r13 a0 a1 da2 da3 da4 b0 b1 db2 db3 db4))) r9 r10) r11) := bif3_go ka hc hc2
  have o20 : s_rows_One_20 r0 r1 r2 r3 r4 r5 r6 r7 0 r9 r10 r11 r12 r13 a0 a1 da2 da3 da4 b0 b1 db2 db3 db4 = s_rows_pushed_6 r0 r1 r2 r3 r4 r5 r6 r7 0 r9 r10 r11 r12 r13 a0 a1 da2 da3 da4 b0 b1 db2 db3 db4 (fsub (s_num_Clamp_float64__0 (fadd r11 (fdiv (fsub 0 (s_rows_speed_0 r0 r1 r2 r3 r4 r5 r6 r7 0 r9 r10 r11 r12 r13 a0 a1 da2 da3 da4 b0 b1 db2 db3 db4)) (s_rows_weight_0 r0 r1 r2 r3 r4 r5 r6 r7 0 r9 r10 r11 r12 r13 a0 a1 da2 da3 da4 b0 b1 db2 db3 db4))) r9 r10) r11) := bif3_go ka hc hc2
  have o21 : s_rows_One_21 r0 r1 r2 r3 r4 r5 r6 r7 0 r9 r10 r11 r12 r13 a0 a1 da2 da3 da4 b0 b1 db2 db3 db4 = s_rows_pushed_7 r0 r1 r2 r3 r4 r5 r6 r7 0 r9 r10 r11 r12 r13 a0 a1 da2 da3 da4 b0 b1 db2 db3 db4 (fsub (s_num_Clamp_float64__0 (fadd r11 (fdiv (fsub 0 (s_rows_speed_0 r0 r1 r2 r3 r4 r5 r6 r7 0 r9 r10 r11 r12 r13 a0 a1 da2 da3 da4 b0 b1 db2 db3 db4)) (s_rows_weight_0 r0 r1 r2 r3 r4 r5 r6 r7 0 r9 r10 r11 r12 r13 a0 a1 da2 da3 da4 b0 b1 db2 db3 db4))) r9 r10) r11) := bif3_go ka hc hc2
  have o22 : s_rows_One_22 r0 r1 r2 r3 r4 r5 r6 r7 0 r9 r10 r11 r12 r13 a0 a1 da2 da3 da4 b0 b1 db2 db3 db4 = s_rows_pushed_8 r0 r1 r2 r3 r4 r5 r6 r7 0 r9 r10 r11 r12 r13 a0 a1 da2 da3 da4 b0 b1 db2 db3 db4 (fsub (s_num_Clamp_float64__0 (fadd r11 (fdiv (fsub 0 (s_rows_speed_0 r0 r1 r2 r3 r4 r5 r6 r7 0 r9 r10 r11 r12 r13 a0 a1 da2 da3 da4 b0 b1 db2 db3 db4)) (s_rows_weight_0 r0 r1 r2 r3 r4 r5 r6 r7 0 r9 r10 r11 r12 r13 a0 a1 da2 da3 da4 b0 b1 db2 db3 db4))) r9 r10) r11) := bif3_go ka hc hc2
  have o23 : s_rows_One_23 r0 r1 r2 r3 r4 r5 r6 r7 0 r9 r10 r11 r12 r13 a0 a1 da2 da3 da4 b0 b1 db2 db3 db4 = s_rows_pushed_9 r0 r1 r2 r3 r4 r5 r6 r7 0 r9 r10 r11 r12 r13 a0 a1 da2 da3 da4 b0 b1 db2 db3 db4 (fsub (s_num_Clamp_float64__0 (fadd r11 (fdiv (fsub 0 (s_rows_speed_0 r0 r1 r2 r3 r4 r5 r6 r7 0 r9 r10 r11 r12 r13 a0 a1 da2 da3 da4 b0 b1 db2 db3 db4)) (s_rows_weight_0 r0 r1 r2 r3 r4 r5 r6 r7 0 r9 r10 r11 r12 r13 a0 a1 da2 da3 da4 b0 b1 db2 db3 db4))) r9 r10) r11) := bif3_go ka hc hc2
  have o24 : s_rows_One_24 r0 r1 r2 r3 r4 r5 r6 r7 0 r9 r10 r11 r12 r13 a0 a1 da2 da3 da4 b0 b1 db2 db3 db4 = 0 := bif3_go ka hc hc2
  rw [o11, o14, o15, o16, o17, o18, o19, o20, o21, o22, o23, o24]
  have p0 : s_rows_pushed_0 r0 r1 r2 r3 r4 r5 r6 r7 0 r9 r10 r11 r12 r13 a0 a1 da2 da3 da4 b0 b1 db2 db3 db4 (fsub (s_num_Clamp_float64__0 (fadd r11 (fdiv (fsub 0 (s_rows_speed_0 r0 r1 r2 r3 r4 r5 r6 r7 0 r9 r10 r11 r12 r13 a0 a1 da2 da3 da4 b0 b1 db2 db3 db4)) (s_rows_weight_0 r0 r1 r2 r3 r4 r5 r6 r7 0 r9 r10 r11 r12 r13 a0 a1 da2 da3 da4 b0 b1 db2 db3 db4))) r9 r10) r11) = a0 := rfl
  have p1 : s_rows_pushed_1 r0 r1 r2 r3 r4 r5 r6 r7 0 r9 r10 r11 r12 r13 a0 a1 da2 da3 da4 b0 b1 db2 db3 db4 (fsub (s_num_Clamp_float64__0 (fadd r11 (fdiv (fsub 0 (s_rows_speed_0 r0 r1 r2 r3 r4 r5 r6 r7 0 r9 r10 r11 r12 r13 a0 a1 da2 da3 da4 b0 b1 db2 db3 db4)) (s_rows_weight_0 r0 r1 r2 r3 r4 r5 r6 r7 0 r9 r10 r11 r12 r13 a0 a1 da2 da3 da4 b0 b1 db2 db3 db4))) r9 r10) r11) = a1 := rfl
  have p5 : s_rows_pushed_5 r0 r1 r2 r3 r4 r5 r6 r7 0 r9 r10 r11 r12 r13 a0 a1 da2 da3 da4 b0 b1 db2 db3 db4 (fsub (s_num_Clamp_float64__0 (fadd r11 (fdiv (fsub 0 (s_rows_speed_0 r0 r1 r2 r3 r4 r5 r6 r7 0 r9 r10 r11 r12 r13 a0 a1 da2 da3 da4 b0 b1 db2 db3 db4)) (s_rows_weight_0 r0 r1 r2 r3 r4 r5 r6 r7 0 r9 r10 r11 r12 r13 a0 a1 da2 da3 da4 b0 b1 db2 db3 db4))) r9 r10) r11) = b0 := rfl
  have p6 : s_rows_pushed_6 r0 r1 r2 r3 r4 r5 r6 r7 0 r9 r10 r11 r12 r13 a0 a1 da2 da3 da4 b0 b1 db2 db3 db4 (fsub (s_num_Clamp_float64__0 (fadd r11 (fdiv (fsub 0 (s_rows_speed_0 r0 r1 r2 r3 r4 r5 r6 r7 0 r9 r10 r11 r12 r13 a0 a1 da2 da3 da4 b0 b1 db2 db3 db4)) (s_rows_weight_0 r0 r1 r2 r3 r4 r5 r6 r7 0 r9 r10 r11 r12 r13 a0 a1 da2 da3 da4 b0 b1 db2 db3 db4))) r9 r10) r11) = b1 := rfl
  rw [p0, p1, p5, p6]
  have b11 := ur11.bound.2
  obtain ⟨hpd, hdeg⟩ := push_way (p := (fsub (s_num_Clamp_float64__0 (fadd r11 (fdiv (fsub 0 (s_rows_speed_0 r0 r1 r2 r3 r4 r5 r6 r7 0 r9 r10 r11 r12 r13 a0 a1 da2 da3 da4 b0 b1 db2 db3 db4)) (s_rows_weight_0 r0 r1 r2 r3 r4 r5 r6 r7 0 r9 r10 r11 r12 r13 a0 a1 da2 da3 da4 b0 b1 db2 db3 db4))) r9 r10) r11)) cr11 ur9.1 n10 ur11.1 fd (by grind) (by grind) fq (by grind) h1 h2 rfl hq3
  have fin : fle (fadd (s_law20_kinetic_0 a0 a1 (s_rows_pushed_2 r0 r1 r2 r3 r4 r5 r6 r7 0 r9 r10 r11 r12 r13 a0 a1 da2 da3 da4 b0 b1 db2 db3 db4 (fsub (s_num_Clamp_float64__0 (fadd r11 (fdiv (fsub 0 (s_rows_speed_0 r0 r1 r2 r3 r4 r5 r6 r7 0 r9 r10 r11 r12 r13 a0 a1 da2 da3 da4 b0 b1 db2 db3 db4)) (s_rows_weight_0 r0 r1 r2 r3 r4 r5 r6 r7 0 r9 r10 r11 r12 r13 a0 a1 da2 da3 da4 b0 b1 db2 db3 db4))) r9 r10) r11)) (s_rows_pushed_3 r0 r1 r2 r3 r4 r5 r6 r7 0 r9 r10 r11 r12 r13 a0 a1 da2 da3 da4 b0 b1 db2 db3 db4 (fsub (s_num_Clamp_float64__0 (fadd r11 (fdiv (fsub 0 (s_rows_speed_0 r0 r1 r2 r3 r4 r5 r6 r7 0 r9 r10 r11 r12 r13 a0 a1 da2 da3 da4 b0 b1 db2 db3 db4)) (s_rows_weight_0 r0 r1 r2 r3 r4 r5 r6 r7 0 r9 r10 r11 r12 r13 a0 a1 da2 da3 da4 b0 b1 db2 db3 db4))) r9 r10) r11)) (s_rows_pushed_4 r0 r1 r2 r3 r4 r5 r6 r7 0 r9 r10 r11 r12 r13 a0 a1 da2 da3 da4 b0 b1 db2 db3 db4 (fsub (s_num_Clamp_float64__0 (fadd r11 (fdiv (fsub 0 (s_rows_speed_0 r0 r1 r2 r3 r4 r5 r6 r7 0 r9 r10 r11 r12 r13 a0 a1 da2 da3 da4 b0 b1 db2 db3 db4)) (s_rows_weight_0 r0 r1 r2 r3 r4 r5 r6 r7 0 r9 r10 r11 r12 r13 a0 a1 da2 da3 da4 b0 b1 db2 db3 db4))) r9 r10) r11))) (s_law20_kinetic_0 b0 b1 (s_rows_pushed_7 r0 r1 r2 r3 r4 r5 r6 r7 0 r9 r10 r11 r12 r13 a0 a1 da2 da3 da4 b0 b1 db2 db3 db4 (fsub (s_num_Clamp_float64__0 (fadd r11 (fdiv (fsub 0 (s_rows_speed_0 r0 r1 r2 r3 r4 r5 r6 r7 0 r9 r10 r11 r12 r13 a0 a1 da2 da3 da4 b0 b1 db2 db3 db4)) (s_rows_weight_0 r0 r1 r2 r3 r4 r5 r6 r7 0 r9 r10 r11 r12 r13 a0 a1 da2 da3 da4 b0 b1 db2 db3 db4))) r9 r10) r11)) (s_rows_pushed_8 r0 r1 r2 r3 r4 r5 r6 r7 0 r9 r10 r11 r12 r13 a0 a1 da2 da3 da4 b0 b1 db2 db3 db4 (fsub (s_num_Clamp_float64__0 (fadd r11 (fdiv (fsub 0 (s_rows_speed_0 r0 r1 r2 r3 r4 r5 r6 r7 0 r9 r10 r11 r12 r13 a0 a1 da2 da3 da4 b0 b1 db2 db3 db4)) (s_rows_weight_0 r0 r1 r2 r3 r4 r5 r6 r7 0 r9 r10 r11 r12 r13 a0 a1 da2 da3 da4 b0 b1 db2 db3 db4))) r9 r10) r11)) (s_rows_pushed_9 r0 r1 r2 r3 r4 r5 r6 r7 0 r9 r10 r11 r12 r13 a0 a1 da2 da3 da4 b0 b1 db2 db3 db4 (fsub (s_num_Clamp_float64__0 (fadd r11 (fdiv (fsub 0 (s_rows_speed_0 r0 r1 r2 r3 r4 r5 r6 r7 0 r9 r10 r11 r12 r13 a0 a1 da2 da3 da4 b0 b1 db2 db3 db4)) (s_rows_weight_0 r0 r1 r2 r3 r4 r5 r6 r7 0 r9 r10 r11 r12 r13 a0 a1 da2 da3 da4 b0 b1 db2 db3 db4))) r9 r10) r11)))) (fadd (fadd (s_law20_kinetic_0 a0 a1 da2 da3 da4) (s_law20_kinetic_0 b0 b1 db2 db3 db4)) (fmul 4472074429978902528 (fadd (fadd (s_law20_kinetic_0 a0 a1 da2 da3 da4) (s_law20_kinetic_0 b0 b1 db2 db3 db4)) (fmul (s_rows_weight_0 r0 r1 r2 r3 r4 r5 r6 r7 0 r9 r10 r11 r12 r13 a0 a1 da2 da3 da4 b0 b1 db2 db3 db4) (fadd (fmul r11 r11) (fmul (s_num_Clamp_float64__0 (fadd r11 (fdiv (fsub 0 (s_rows_speed_0 r0 r1 r2 r3 r4 r5 r6 r7 0 r9 r10 r11 r12 r13 a0 a1 da2 da3 da4 b0 b1 db2 db3 db4)) (s_rows_weight_0 r0 r1 r2 r3 r4 r5 r6 r7 0 r9 r10 r11 r12 r13 a0 a1 da2 da3 da4 b0 b1 db2 db3 db4))) r9 r10) (s_num_Clamp_float64__0 (fadd r11 (fdiv (fsub 0 (s_rows_speed_0 r0 r1 r2 r3 r4 r5 r6 r7 0 r9 r10 r11 r12 r13 a0 a1 da2 da3 da4 b0 b1 db2 db3 db4)) (s_rows_weight_0 r0 r1 r2 r3 r4 r5 r6 r7 0 r9 r10 r11 r12 r13 a0 a1 da2 da3 da4 b0 b1 db2 db3 db4))) r9 r10))))))) = true :=
    energy_main cr11 ur2 ur3 ur4 ur5 ur6 ur7 ur11 ua0 ua1 ua2 ua3 ua4 ub0 ub1 ub2 ub3 ub4 n1 n2 n3 n4 (zda2 ua0.1) (zda3 ua0.1) (zda4 ua1.1) (zdb2 ub0.1) (zdb3 ub0.1) (zdb4 ub1.1) rfl rfl w0 fq q9 rfl hpd hdeg rfl rfl rfl rfl rfl rfl
  rw [fin]
  simp [ieq_same]
end Go.Proofs.Ytojahopdcnamjaa
