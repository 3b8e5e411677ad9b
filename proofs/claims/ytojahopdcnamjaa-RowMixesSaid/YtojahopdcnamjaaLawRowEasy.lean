/- The laws of layer 20 beside the document: RowMixes, RowOnes. -/
import Derived.Test.YtojahopdcnamjaaFns
import Derived.Test.YtojahopdcnamjaaSimValues
import Derived.Test.YtojahopdcnamjaaSimEnds
import Derived.Test.YtojahopdcnamjaaSimVal
set_option linter.unusedVariables false
set_option linter.unusedSimpArgs false
namespace Go.Proofs.Ytojahopdcnamjaa
open Go.Sim
theorem ieq_self (a : Int) : ieq a a = true := by simp [ieq]
theorem ieq_of {a b : Int} (h : a = b) : ieq a b = true := by rw [h]; exact ieq_self b
theorem and_of {a b : Bool} (ha : a = true) (hb : b = true) : (a && b) = true := by rw [ha, hb]; rfl
theorem wrap_i64 {n : Int} (h1 : -9223372036854775808 ≤ n) (h2 : n < 9223372036854775808) : IntKind.i64.wrap n = n := by
  have e : IntKind.i64.wrap n = if n % 18446744073709551616 ≥ 9223372036854775808 then n % 18446744073709551616 - 18446744073709551616 else n % 18446744073709551616 := by
    simp [IntKind.wrap, IntKind.bits, IntKind.signed]
  rw [e]; split <;> omega
theorem ieq_true {a b : Int} (h : a = b) : ieq a b = true := by simp [ieq, h]
theorem ieq_false {a b : Int} (h : a ≠ b) : ieq a b = false := by simp [ieq, h]
theorem place_eq {a : Nat} (h : a < 18446744073709551616) : s_ref01_place_0 a = if 9223372036854775808 ≤ a then -(rungOf a : Int) - 1 else (rungOf a : Int) := by
  have hr : rungOf a < 9223372036854775808 := by unfold rungOf; omega
  have low : IntKind.i64.wrap ((IntKind.u64.wrap ((Int.ofNat a) * 2)).fdiv 2) = (rungOf a : Int) := by
    rw [wrap_u64]
    have : ((Int.ofNat a) * 2 % 18446744073709551616).fdiv 2 = (rungOf a : Int) := by
      rw [Int.fdiv_eq_ediv_of_nonneg _ (by decide)]; unfold rungOf; simp only [Int.ofNat_eq_natCast]; omega
    rw [this]; apply wrap_i64 <;> omega
  unfold s_ref01_place_0
  rw [low]
  by_cases hs : 9223372036854775808 ≤ a
  · have : ieq ((Int.ofNat a).fdiv 9223372036854775808) 1 = true := by
      apply ieq_true; rw [Int.fdiv_eq_ediv_of_nonneg _ (by decide)]; simp only [Int.ofNat_eq_natCast]; omega
    rw [this, if_pos hs, cond_true, wrap_i64 (n := 0 - (rungOf a : Int)) (by omega) (by omega), wrap_i64 (by omega) (by omega)]; omega
  · have : ieq ((Int.ofNat a).fdiv 9223372036854775808) 1 = false := by
      apply ieq_false; rw [Int.fdiv_eq_ediv_of_nonneg _ (by decide)]; simp only [Int.ofNat_eq_natCast]; omega
    rw [this, if_neg hs, cond_false]
theorem key_place {a : Nat} (h : a < 18446744073709551616) : key a = if 9223372036854775808 ≤ a then -(rungOf a : Int) else (rungOf a : Int) := by
  unfold key
  by_cases hs : 9223372036854775808 ≤ a
  · rw [if_pos ((sgn_true h).2 hs), if_pos hs]
  · rw [if_neg (fun e => hs ((sgn_true h).1 e)), if_neg hs]
theorem word_eq {a : Nat} (h : a < 18446744073709551616) : a = (if 9223372036854775808 ≤ a then 9223372036854775808 else 0) + rungOf a := by
  unfold rungOf; split <;> omega
theorem worth_eq {a : Nat} (h : a < 18446744073709551616) : s_ref01_worth_0 a = if s_ref01_place_0 a = -1 then 0 else s_ref01_place_0 a := by
  unfold s_ref01_worth_0 ieq
  by_cases e : s_ref01_place_0 a = -1 <;> simp [e]
theorem above_eq {a b : Nat} (ha : CF a) (hb : CF b) : s_ref01_above_0 a b = flt b a := by
  unfold s_ref01_above_0
  cases na : nanb a
  · cases nb : nanb b
    · rw [flt_key nb na, worth_eq ha.lt, worth_eq hb.lt, place_eq ha.lt, place_eq hb.lt, key_place ha.lt, key_place hb.lt]
      unfold ilt
      simp only [Bool.not_false, Bool.true_and]
      apply decide_eq_decide.2
      by_cases h1 : 9223372036854775808 ≤ a <;> by_cases h2 : 9223372036854775808 ≤ b <;> simp only [h1, h2, if_true, if_false] <;> (try split) <;> (try split) <;> omega
    · rw [flt_nan (.inl nb)]; simp
  · rw [flt_nan (.inr na)]; simp

theorem is_self (a : Nat) : s_ref02_Is_0 a a = true := ieq_self _
theorem is_of {a b : Nat} (h : a = b) : s_ref02_Is_0 a b = true := by rw [h]; exact is_self b
theorem minus_zero : s_num_minus_float64__0 0 = false := by decide
theorem minus_nought : s_num_minus_float64__0 9223372036854775808 = true := by decide
theorem none_eq (a : Nat) : s_num_none_float64__0 a = nanb a := by unfold s_num_none_float64__0; rw [feq_self, Bool.not_not]

/-- The lesser and the greater one of two numbers, by their places. -/
theorem least_num {a b : Nat} (ha : CF a) (hb : CF b) (na : nanb a = false) (nb : nanb b = false) (hab : a ≠ b) :
    (flt b a || (feq a 0 && feq b 0 && s_num_minus_float64__0 b)) = !(ile (s_ref01_place_0 a) (s_ref01_place_0 b)) := by
  have la := ha.lt
  have lb := hb.lt
  rw [place_eq la, place_eq lb, flt_key nb na]
  have wa := word_eq la
  have wb := word_eq lb
  by_cases za : feq a 0 = true
  · by_cases zb : feq b 0 = true
    · rcases (feq_zero la na).1 za with rfl | rfl <;> rcases (feq_zero lb nb).1 zb with rfl | rfl <;> first | exact absurd rfl hab | decide
    · have zb' : feq b 0 = false := by simpa using zb
      rw [zb', Bool.and_false, Bool.false_and, Bool.or_false, key_place la, key_place lb]
      have h0 : key b ≠ 0 := fun h => zb ((feq_zero lb nb).2 ((key_zero lb).1 h))
      rw [key_place lb] at h0
      unfold ile
      rw [Bool.eq_iff_iff]; simp only [decide_eq_true_eq, Bool.not_eq_true', decide_eq_false_iff_not]
      clear za zb zb' na nb
      by_cases h1 : 9223372036854775808 ≤ a <;> by_cases h2 : 9223372036854775808 ≤ b <;> simp only [h1, h2, if_true, if_false] at h0 wa wb ⊢ <;> omega
  · have za' : feq a 0 = false := by simpa using za
    rw [za', Bool.false_and, Bool.false_and, Bool.or_false, key_place la, key_place lb]
    have h0 : key a ≠ 0 := fun h => za ((feq_zero la na).2 ((key_zero la).1 h))
    rw [key_place la] at h0
    unfold ile
    rw [Bool.eq_iff_iff]; simp only [decide_eq_true_eq, Bool.not_eq_true', decide_eq_false_iff_not]
    clear za za' na nb
    by_cases h1 : 9223372036854775808 ≤ a <;> by_cases h2 : 9223372036854775808 ≤ b <;> simp only [h1, h2, if_true, if_false] at h0 wa wb ⊢ <;> omega

theorem most_eq {a b : Nat} (ha : CF a) (hb : CF b) : s_num_Most_float64__0 a b = s_ref01_Most_0 a b := by
  unfold s_num_Most_float64__0 s_ref01_Most_0
  rw [none_eq]
  by_cases hab : a = b
  · subst hab; cases nanb a <;> simp
  cases na : nanb a
  · cases nb : nanb b
    · have h := least_num hb ha nb na (Ne.symm hab)
      rw [Bool.and_comm (feq b 0)] at h
      rw [Bool.false_or, h]
      cases ile (s_ref01_place_0 b) (s_ref01_place_0 a) <;> rfl
    · rw [flt_nan (a := a) (.inr nb), feq_nan (a := b) (.inl nb)]; simp
  · rfl

theorem law_RowMixes (a b c d : Nat) (ca : CF a) (cb : CF b) (cc : CF c) (cd : CF d) : T_law20_RowMixes a b c d = true := by
  unfold T_law20_RowMixes
  exact and_of (is_self _) (is_of (most_eq cc cd))
theorem fits_eq (r0 : Int) (r1 : Int) (r2 : Nat) (r3 : Nat) (r4 : Nat) (r5 : Nat) (r6 : Nat) (r7 : Nat) (r8 : Nat) (r9 : Nat) (r10 : Nat) (r11 : Nat) (r12 : Int) (r13 : Nat) : s_rows_fits_0 r0 r1 r2 r3 r4 r5 r6 r7 r8 r9 r10 r11 r12 r13 = s_ref20_May_0 r0 r1 r2 r3 r4 r5 r6 r7 r8 r9 r10 r11 r12 r13 := by
  unfold s_rows_fits_0 s_ref20_May_0 s_rows_finite_1_0
  show _ = ((((((((((s_vec_Finite_0 r2 r3) && (s_vec_Finite_0 r4 r5)) && ((s_num_Finite_float64__0 r6) && (s_num_Finite_float64__0 r7))) && (((s_num_Finite_float64__0 r8) && (s_num_Finite_float64__0 r11)) && (s_num_Finite_float64__0 r13))) && (ile (0 : Int) r0)) && (ile (0 : Int) r1)) && (!(ieq r0 r1))) && (fle 0 r13)) && (fle r9 r10)) && (ile (-1 : Int) r12))
  generalize s_vec_Finite_0 r2 r3 = p1
  generalize s_vec_Finite_0 r4 r5 = p2
  generalize s_num_Finite_float64__0 r6 = p3
  generalize s_num_Finite_float64__0 r7 = p4
  generalize s_num_Finite_float64__0 r8 = p5
  generalize s_num_Finite_float64__0 r11 = p6
  generalize s_num_Finite_float64__0 r13 = p7
  generalize ile (0 : Int) r0 = q1
  generalize ile (0 : Int) r1 = q2
  generalize ieq r0 r1 = q3
  generalize fle 0 r13 = q4
  generalize fle r9 r10 = q5
  generalize ile (-1 : Int) r12 = q6
  have h0 : ile 0 0 = true := by decide
  have h1 : ile 0 1 = true := by decide
  have h2 : ile 0 2 = true := by decide
  have h3 : ile 0 3 = true := by decide
  have h4 : ile 0 4 = true := by decide
  have h5 : ile 0 (-1) = false := by decide
  cases p3 <;> cases p4 <;> cases p5 <;> cases p6 <;> cases p7 <;> simp [h0, h1, h2, h3, h4, h5] <;> cases p1 <;> cases p2 <;> cases q1 <;> cases q2 <;> cases q3 <;> simp
theorem rests_eq (a0 a1 a2 a3 a4 : Nat) : s_rows_rests_0 a0 a1 a2 a3 a4 = s_ref20_Rests_0 a0 a1 a2 a3 a4 := by
  unfold s_rows_rests_0 s_ref20_Rests_0 s_rows_finite_1_0
  show _ = ((((s_num_Finite_float64__0 a0) && (s_num_Finite_float64__0 a1)) && (fle 0 a0)) && (fle 0 a1))
  generalize s_num_Finite_float64__0 a0 = p3
  generalize s_num_Finite_float64__0 a1 = p4
  have h0 : ile 0 0 = true := by decide
  have h1 : ile 0 1 = true := by decide
  have h5 : ile 0 (-1) = false := by decide
  cases p3 <;> cases p4 <;> simp [h0, h1, h5]
theorem asked_eq (r0 : Int) (r1 : Int) (r2 : Nat) (r3 : Nat) (r4 : Nat) (r5 : Nat) (r6 : Nat) (r7 : Nat) (r8 : Nat) (r9 : Nat) (r10 : Nat) (r11 : Nat) (r12 : Int) (r13 : Nat) (a0 : Nat) (a1 : Nat) (a2 : Nat) (a3 : Nat) (a4 : Nat) (b0 : Nat) (b1 : Nat) (b2 : Nat) (b3 : Nat) (b4 : Nat) : s_rows_asked_0 r0 r1 r2 r3 r4 r5 r6 r7 r8 r9 r10 r11 r12 r13 a0 a1 a2 a3 a4 b0 b1 b2 b3 b4 = bif !(s_ref20_all_0 r0 r1 r2 r3 r4 r5 r6 r7 r8 r9 r10 r11 r12 r13 a0 a1 a2 a3 a4 b0 b1 b2 b3 b4) then 200 else 0 := by
  unfold s_rows_asked_0 s_ref20_all_0
  rw [fits_eq, rests_eq, rests_eq]
  cases s_ref20_May_0 r0 r1 r2 r3 r4 r5 r6 r7 r8 r9 r10 r11 r12 r13 <;> cases s_ref20_Rests_0 a0 a1 a2 a3 a4 <;> cases s_ref20_Rests_0 b0 b1 b2 b3 b4 <;> rfl
theorem ieq_asked (b : Bool) : (!(ieq (bif !b then (200 : Int) else 0) 0)) = !b := by cases b <;> rfl
theorem clamp_eq {q l m : Nat} (cq : CF q) (cl : CF l) (cm : CF m) : s_num_Clamp_float64__0 q l m = s_ref01_Clamp_0 q l m := by
  unfold s_num_Clamp_float64__0 s_ref01_Clamp_0
  rw [above_eq cq cl, above_eq cq cm]
  cases flt l q <;> cases flt m q <;> rfl
theorem fin2 (p q : Nat) : (!(!(ile (0 : Int) (bif ((s_rows_finite_1_0 p) || (s_rows_finite_1_0 q)) then (bif (s_rows_finite_1_0 p) then (0 : Int) else (1 : Int)) else (-1 : Int))))) = !((s_ref02_End_0 p) && (s_ref02_End_0 q)) := by
  unfold s_rows_finite_1_0
  show _ = !((s_num_Finite_float64__0 p) && (s_num_Finite_float64__0 q))
  have h0 : ile 0 0 = true := by decide
  have h1 : ile 0 1 = true := by decide
  have h5 : ile 0 (-1) = false := by decide
  cases s_num_Finite_float64__0 p <;> cases s_num_Finite_float64__0 q <;> simp [h0, h1, h5]
theorem speed_eq (r0 : Int) (r1 : Int) (r2 : Nat) (r3 : Nat) (r4 : Nat) (r5 : Nat) (r6 : Nat) (r7 : Nat) (r8 : Nat) (r9 : Nat) (r10 : Nat) (r11 : Nat) (r12 : Int) (r13 : Nat) (a0 : Nat) (a1 : Nat) (a2 : Nat) (a3 : Nat) (a4 : Nat) (b0 : Nat) (b1 : Nat) (b2 : Nat) (b3 : Nat) (b4 : Nat) : s_rows_speed_0 r0 r1 r2 r3 r4 r5 r6 r7 r8 r9 r10 r11 r12 r13 a0 a1 a2 a3 a4 b0 b1 b2 b3 b4 = s_ref20_speed_0 r0 r1 r2 r3 r4 r5 r6 r7 r8 r9 r10 r11 r12 r13 a0 a1 a2 a3 a4 b0 b1 b2 b3 b4 := rfl
theorem weight_eq (r0 : Int) (r1 : Int) (r2 : Nat) (r3 : Nat) (r4 : Nat) (r5 : Nat) (r6 : Nat) (r7 : Nat) (r8 : Nat) (r9 : Nat) (r10 : Nat) (r11 : Nat) (r12 : Int) (r13 : Nat) (a0 : Nat) (a1 : Nat) (a2 : Nat) (a3 : Nat) (a4 : Nat) (b0 : Nat) (b1 : Nat) (b2 : Nat) (b3 : Nat) (b4 : Nat) : s_rows_weight_0 r0 r1 r2 r3 r4 r5 r6 r7 r8 r9 r10 r11 r12 r13 a0 a1 a2 a3 a4 b0 b1 b2 b3 b4 = s_ref20_weight_0 r0 r1 r2 r3 r4 r5 r6 r7 r8 r9 r10 r11 r12 r13 a0 a1 a2 a3 a4 b0 b1 b2 b3 b4 := rfl
theorem push_0 (r0 : Int) (r1 : Int) (r2 : Nat) (r3 : Nat) (r4 : Nat) (r5 : Nat) (r6 : Nat) (r7 : Nat) (r8 : Nat) (r9 : Nat) (r10 : Nat) (r11 : Nat) (r12 : Int) (r13 : Nat) (a0 : Nat) (a1 : Nat) (a2 : Nat) (a3 : Nat) (a4 : Nat) (b0 : Nat) (b1 : Nat) (b2 : Nat) (b3 : Nat) (b4 : Nat) (p : Nat) : s_rows_pushed_0 r0 r1 r2 r3 r4 r5 r6 r7 r8 r9 r10 r11 r12 r13 a0 a1 a2 a3 a4 b0 b1 b2 b3 b4 p = s_ref20_pushed_0 a0 a1 a2 a3 a4 r2 r3 r6 p := rfl
theorem push_1 (r0 : Int) (r1 : Int) (r2 : Nat) (r3 : Nat) (r4 : Nat) (r5 : Nat) (r6 : Nat) (r7 : Nat) (r8 : Nat) (r9 : Nat) (r10 : Nat) (r11 : Nat) (r12 : Int) (r13 : Nat) (a0 : Nat) (a1 : Nat) (a2 : Nat) (a3 : Nat) (a4 : Nat) (b0 : Nat) (b1 : Nat) (b2 : Nat) (b3 : Nat) (b4 : Nat) (p : Nat) : s_rows_pushed_1 r0 r1 r2 r3 r4 r5 r6 r7 r8 r9 r10 r11 r12 r13 a0 a1 a2 a3 a4 b0 b1 b2 b3 b4 p = s_ref20_pushed_1 a0 a1 a2 a3 a4 r2 r3 r6 p := rfl
theorem push_2 (r0 : Int) (r1 : Int) (r2 : Nat) (r3 : Nat) (r4 : Nat) (r5 : Nat) (r6 : Nat) (r7 : Nat) (r8 : Nat) (r9 : Nat) (r10 : Nat) (r11 : Nat) (r12 : Int) (r13 : Nat) (a0 : Nat) (a1 : Nat) (a2 : Nat) (a3 : Nat) (a4 : Nat) (b0 : Nat) (b1 : Nat) (b2 : Nat) (b3 : Nat) (b4 : Nat) (p : Nat) : s_rows_pushed_2 r0 r1 r2 r3 r4 r5 r6 r7 r8 r9 r10 r11 r12 r13 a0 a1 a2 a3 a4 b0 b1 b2 b3 b4 p = s_ref20_pushed_2 a0 a1 a2 a3 a4 r2 r3 r6 p := rfl
theorem push_3 (r0 : Int) (r1 : Int) (r2 : Nat) (r3 : Nat) (r4 : Nat) (r5 : Nat) (r6 : Nat) (r7 : Nat) (r8 : Nat) (r9 : Nat) (r10 : Nat) (r11 : Nat) (r12 : Int) (r13 : Nat) (a0 : Nat) (a1 : Nat) (a2 : Nat) (a3 : Nat) (a4 : Nat) (b0 : Nat) (b1 : Nat) (b2 : Nat) (b3 : Nat) (b4 : Nat) (p : Nat) : s_rows_pushed_3 r0 r1 r2 r3 r4 r5 r6 r7 r8 r9 r10 r11 r12 r13 a0 a1 a2 a3 a4 b0 b1 b2 b3 b4 p = s_ref20_pushed_3 a0 a1 a2 a3 a4 r2 r3 r6 p := rfl
theorem push_4 (r0 : Int) (r1 : Int) (r2 : Nat) (r3 : Nat) (r4 : Nat) (r5 : Nat) (r6 : Nat) (r7 : Nat) (r8 : Nat) (r9 : Nat) (r10 : Nat) (r11 : Nat) (r12 : Int) (r13 : Nat) (a0 : Nat) (a1 : Nat) (a2 : Nat) (a3 : Nat) (a4 : Nat) (b0 : Nat) (b1 : Nat) (b2 : Nat) (b3 : Nat) (b4 : Nat) (p : Nat) : s_rows_pushed_4 r0 r1 r2 r3 r4 r5 r6 r7 r8 r9 r10 r11 r12 r13 a0 a1 a2 a3 a4 b0 b1 b2 b3 b4 p = s_ref20_pushed_4 a0 a1 a2 a3 a4 r2 r3 r6 p := rfl
theorem push_5 (r0 : Int) (r1 : Int) (r2 : Nat) (r3 : Nat) (r4 : Nat) (r5 : Nat) (r6 : Nat) (r7 : Nat) (r8 : Nat) (r9 : Nat) (r10 : Nat) (r11 : Nat) (r12 : Int) (r13 : Nat) (a0 : Nat) (a1 : Nat) (a2 : Nat) (a3 : Nat) (a4 : Nat) (b0 : Nat) (b1 : Nat) (b2 : Nat) (b3 : Nat) (b4 : Nat) (p : Nat) : s_rows_pushed_5 r0 r1 r2 r3 r4 r5 r6 r7 r8 r9 r10 r11 r12 r13 a0 a1 a2 a3 a4 b0 b1 b2 b3 b4 p = s_ref20_pushed_0 b0 b1 b2 b3 b4 r4 r5 r7 p := rfl
theorem push_6 (r0 : Int) (r1 : Int) (r2 : Nat) (r3 : Nat) (r4 : Nat) (r5 : Nat) (r6 : Nat) (r7 : Nat) (r8 : Nat) (r9 : Nat) (r10 : Nat) (r11 : Nat) (r12 : Int) (r13 : Nat) (a0 : Nat) (a1 : Nat) (a2 : Nat) (a3 : Nat) (a4 : Nat) (b0 : Nat) (b1 : Nat) (b2 : Nat) (b3 : Nat) (b4 : Nat) (p : Nat) : s_rows_pushed_6 r0 r1 r2 r3 r4 r5 r6 r7 r8 r9 r10 r11 r12 r13 a0 a1 a2 a3 a4 b0 b1 b2 b3 b4 p = s_ref20_pushed_1 b0 b1 b2 b3 b4 r4 r5 r7 p := rfl
theorem push_7 (r0 : Int) (r1 : Int) (r2 : Nat) (r3 : Nat) (r4 : Nat) (r5 : Nat) (r6 : Nat) (r7 : Nat) (r8 : Nat) (r9 : Nat) (r10 : Nat) (r11 : Nat) (r12 : Int) (r13 : Nat) (a0 : Nat) (a1 : Nat) (a2 : Nat) (a3 : Nat) (a4 : Nat) (b0 : Nat) (b1 : Nat) (b2 : Nat) (b3 : Nat) (b4 : Nat) (p : Nat) : s_rows_pushed_7 r0 r1 r2 r3 r4 r5 r6 r7 r8 r9 r10 r11 r12 r13 a0 a1 a2 a3 a4 b0 b1 b2 b3 b4 p = s_ref20_pushed_2 b0 b1 b2 b3 b4 r4 r5 r7 p := rfl
theorem push_8 (r0 : Int) (r1 : Int) (r2 : Nat) (r3 : Nat) (r4 : Nat) (r5 : Nat) (r6 : Nat) (r7 : Nat) (r8 : Nat) (r9 : Nat) (r10 : Nat) (r11 : Nat) (r12 : Int) (r13 : Nat) (a0 : Nat) (a1 : Nat) (a2 : Nat) (a3 : Nat) (a4 : Nat) (b0 : Nat) (b1 : Nat) (b2 : Nat) (b3 : Nat) (b4 : Nat) (p : Nat) : s_rows_pushed_8 r0 r1 r2 r3 r4 r5 r6 r7 r8 r9 r10 r11 r12 r13 a0 a1 a2 a3 a4 b0 b1 b2 b3 b4 p = s_ref20_pushed_3 b0 b1 b2 b3 b4 r4 r5 r7 p := rfl
theorem push_9 (r0 : Int) (r1 : Int) (r2 : Nat) (r3 : Nat) (r4 : Nat) (r5 : Nat) (r6 : Nat) (r7 : Nat) (r8 : Nat) (r9 : Nat) (r10 : Nat) (r11 : Nat) (r12 : Int) (r13 : Nat) (a0 : Nat) (a1 : Nat) (a2 : Nat) (a3 : Nat) (a4 : Nat) (b0 : Nat) (b1 : Nat) (b2 : Nat) (b3 : Nat) (b4 : Nat) (p : Nat) : s_rows_pushed_9 r0 r1 r2 r3 r4 r5 r6 r7 r8 r9 r10 r11 r12 r13 a0 a1 a2 a3 a4 b0 b1 b2 b3 b4 p = s_ref20_pushed_4 b0 b1 b2 b3 b4 r4 r5 r7 p := rfl
theorem warm_0 (r0 : Int) (r1 : Int) (r2 : Nat) (r3 : Nat) (r4 : Nat) (r5 : Nat) (r6 : Nat) (r7 : Nat) (r8 : Nat) (r9 : Nat) (r10 : Nat) (r11 : Nat) (r12 : Int) (r13 : Nat) (a0 : Nat) (a1 : Nat) (a2 : Nat) (a3 : Nat) (a4 : Nat) (b0 : Nat) (b1 : Nat) (b2 : Nat) (b3 : Nat) (b4 : Nat) : s_rows_Warm_0 r0 r1 r2 r3 r4 r5 r6 r7 r8 r9 r10 r11 r12 r13 a0 a1 a2 a3 a4 b0 b1 b2 b3 b4 = s_ref20_Warm_0 r0 r1 r2 r3 r4 r5 r6 r7 r8 r9 r10 r11 r12 r13 a0 a1 a2 a3 a4 b0 b1 b2 b3 b4 := by
  unfold s_rows_Warm_0 s_ref20_Warm_0
  rw [asked_eq, ieq_asked]
  rw [push_0]
theorem warm_1 (r0 : Int) (r1 : Int) (r2 : Nat) (r3 : Nat) (r4 : Nat) (r5 : Nat) (r6 : Nat) (r7 : Nat) (r8 : Nat) (r9 : Nat) (r10 : Nat) (r11 : Nat) (r12 : Int) (r13 : Nat) (a0 : Nat) (a1 : Nat) (a2 : Nat) (a3 : Nat) (a4 : Nat) (b0 : Nat) (b1 : Nat) (b2 : Nat) (b3 : Nat) (b4 : Nat) : s_rows_Warm_1 r0 r1 r2 r3 r4 r5 r6 r7 r8 r9 r10 r11 r12 r13 a0 a1 a2 a3 a4 b0 b1 b2 b3 b4 = s_ref20_Warm_1 r0 r1 r2 r3 r4 r5 r6 r7 r8 r9 r10 r11 r12 r13 a0 a1 a2 a3 a4 b0 b1 b2 b3 b4 := by
  unfold s_rows_Warm_1 s_ref20_Warm_1
  rw [asked_eq, ieq_asked]
  rw [push_1]
theorem warm_2 (r0 : Int) (r1 : Int) (r2 : Nat) (r3 : Nat) (r4 : Nat) (r5 : Nat) (r6 : Nat) (r7 : Nat) (r8 : Nat) (r9 : Nat) (r10 : Nat) (r11 : Nat) (r12 : Int) (r13 : Nat) (a0 : Nat) (a1 : Nat) (a2 : Nat) (a3 : Nat) (a4 : Nat) (b0 : Nat) (b1 : Nat) (b2 : Nat) (b3 : Nat) (b4 : Nat) : s_rows_Warm_2 r0 r1 r2 r3 r4 r5 r6 r7 r8 r9 r10 r11 r12 r13 a0 a1 a2 a3 a4 b0 b1 b2 b3 b4 = s_ref20_Warm_2 r0 r1 r2 r3 r4 r5 r6 r7 r8 r9 r10 r11 r12 r13 a0 a1 a2 a3 a4 b0 b1 b2 b3 b4 := by
  unfold s_rows_Warm_2 s_ref20_Warm_2
  rw [asked_eq, ieq_asked]
  rw [push_2]
theorem warm_3 (r0 : Int) (r1 : Int) (r2 : Nat) (r3 : Nat) (r4 : Nat) (r5 : Nat) (r6 : Nat) (r7 : Nat) (r8 : Nat) (r9 : Nat) (r10 : Nat) (r11 : Nat) (r12 : Int) (r13 : Nat) (a0 : Nat) (a1 : Nat) (a2 : Nat) (a3 : Nat) (a4 : Nat) (b0 : Nat) (b1 : Nat) (b2 : Nat) (b3 : Nat) (b4 : Nat) : s_rows_Warm_3 r0 r1 r2 r3 r4 r5 r6 r7 r8 r9 r10 r11 r12 r13 a0 a1 a2 a3 a4 b0 b1 b2 b3 b4 = s_ref20_Warm_3 r0 r1 r2 r3 r4 r5 r6 r7 r8 r9 r10 r11 r12 r13 a0 a1 a2 a3 a4 b0 b1 b2 b3 b4 := by
  unfold s_rows_Warm_3 s_ref20_Warm_3
  rw [asked_eq, ieq_asked]
  rw [push_3]
theorem warm_4 (r0 : Int) (r1 : Int) (r2 : Nat) (r3 : Nat) (r4 : Nat) (r5 : Nat) (r6 : Nat) (r7 : Nat) (r8 : Nat) (r9 : Nat) (r10 : Nat) (r11 : Nat) (r12 : Int) (r13 : Nat) (a0 : Nat) (a1 : Nat) (a2 : Nat) (a3 : Nat) (a4 : Nat) (b0 : Nat) (b1 : Nat) (b2 : Nat) (b3 : Nat) (b4 : Nat) : s_rows_Warm_4 r0 r1 r2 r3 r4 r5 r6 r7 r8 r9 r10 r11 r12 r13 a0 a1 a2 a3 a4 b0 b1 b2 b3 b4 = s_ref20_Warm_4 r0 r1 r2 r3 r4 r5 r6 r7 r8 r9 r10 r11 r12 r13 a0 a1 a2 a3 a4 b0 b1 b2 b3 b4 := by
  unfold s_rows_Warm_4 s_ref20_Warm_4
  rw [asked_eq, ieq_asked]
  rw [push_4]
theorem warm_5 (r0 : Int) (r1 : Int) (r2 : Nat) (r3 : Nat) (r4 : Nat) (r5 : Nat) (r6 : Nat) (r7 : Nat) (r8 : Nat) (r9 : Nat) (r10 : Nat) (r11 : Nat) (r12 : Int) (r13 : Nat) (a0 : Nat) (a1 : Nat) (a2 : Nat) (a3 : Nat) (a4 : Nat) (b0 : Nat) (b1 : Nat) (b2 : Nat) (b3 : Nat) (b4 : Nat) : s_rows_Warm_5 r0 r1 r2 r3 r4 r5 r6 r7 r8 r9 r10 r11 r12 r13 a0 a1 a2 a3 a4 b0 b1 b2 b3 b4 = s_ref20_Warm_5 r0 r1 r2 r3 r4 r5 r6 r7 r8 r9 r10 r11 r12 r13 a0 a1 a2 a3 a4 b0 b1 b2 b3 b4 := by
  unfold s_rows_Warm_5 s_ref20_Warm_5
  rw [asked_eq, ieq_asked]
  rw [push_5]
theorem warm_6 (r0 : Int) (r1 : Int) (r2 : Nat) (r3 : Nat) (r4 : Nat) (r5 : Nat) (r6 : Nat) (r7 : Nat) (r8 : Nat) (r9 : Nat) (r10 : Nat) (r11 : Nat) (r12 : Int) (r13 : Nat) (a0 : Nat) (a1 : Nat) (a2 : Nat) (a3 : Nat) (a4 : Nat) (b0 : Nat) (b1 : Nat) (b2 : Nat) (b3 : Nat) (b4 : Nat) : s_rows_Warm_6 r0 r1 r2 r3 r4 r5 r6 r7 r8 r9 r10 r11 r12 r13 a0 a1 a2 a3 a4 b0 b1 b2 b3 b4 = s_ref20_Warm_6 r0 r1 r2 r3 r4 r5 r6 r7 r8 r9 r10 r11 r12 r13 a0 a1 a2 a3 a4 b0 b1 b2 b3 b4 := by
  unfold s_rows_Warm_6 s_ref20_Warm_6
  rw [asked_eq, ieq_asked]
  rw [push_6]
theorem warm_7 (r0 : Int) (r1 : Int) (r2 : Nat) (r3 : Nat) (r4 : Nat) (r5 : Nat) (r6 : Nat) (r7 : Nat) (r8 : Nat) (r9 : Nat) (r10 : Nat) (r11 : Nat) (r12 : Int) (r13 : Nat) (a0 : Nat) (a1 : Nat) (a2 : Nat) (a3 : Nat) (a4 : Nat) (b0 : Nat) (b1 : Nat) (b2 : Nat) (b3 : Nat) (b4 : Nat) : s_rows_Warm_7 r0 r1 r2 r3 r4 r5 r6 r7 r8 r9 r10 r11 r12 r13 a0 a1 a2 a3 a4 b0 b1 b2 b3 b4 = s_ref20_Warm_7 r0 r1 r2 r3 r4 r5 r6 r7 r8 r9 r10 r11 r12 r13 a0 a1 a2 a3 a4 b0 b1 b2 b3 b4 := by
  unfold s_rows_Warm_7 s_ref20_Warm_7
  rw [asked_eq, ieq_asked]
  rw [push_7]
theorem warm_8 (r0 : Int) (r1 : Int) (r2 : Nat) (r3 : Nat) (r4 : Nat) (r5 : Nat) (r6 : Nat) (r7 : Nat) (r8 : Nat) (r9 : Nat) (r10 : Nat) (r11 : Nat) (r12 : Int) (r13 : Nat) (a0 : Nat) (a1 : Nat) (a2 : Nat) (a3 : Nat) (a4 : Nat) (b0 : Nat) (b1 : Nat) (b2 : Nat) (b3 : Nat) (b4 : Nat) : s_rows_Warm_8 r0 r1 r2 r3 r4 r5 r6 r7 r8 r9 r10 r11 r12 r13 a0 a1 a2 a3 a4 b0 b1 b2 b3 b4 = s_ref20_Warm_8 r0 r1 r2 r3 r4 r5 r6 r7 r8 r9 r10 r11 r12 r13 a0 a1 a2 a3 a4 b0 b1 b2 b3 b4 := by
  unfold s_rows_Warm_8 s_ref20_Warm_8
  rw [asked_eq, ieq_asked]
  rw [push_8]
theorem warm_9 (r0 : Int) (r1 : Int) (r2 : Nat) (r3 : Nat) (r4 : Nat) (r5 : Nat) (r6 : Nat) (r7 : Nat) (r8 : Nat) (r9 : Nat) (r10 : Nat) (r11 : Nat) (r12 : Int) (r13 : Nat) (a0 : Nat) (a1 : Nat) (a2 : Nat) (a3 : Nat) (a4 : Nat) (b0 : Nat) (b1 : Nat) (b2 : Nat) (b3 : Nat) (b4 : Nat) : s_rows_Warm_9 r0 r1 r2 r3 r4 r5 r6 r7 r8 r9 r10 r11 r12 r13 a0 a1 a2 a3 a4 b0 b1 b2 b3 b4 = s_ref20_Warm_9 r0 r1 r2 r3 r4 r5 r6 r7 r8 r9 r10 r11 r12 r13 a0 a1 a2 a3 a4 b0 b1 b2 b3 b4 := by
  unfold s_rows_Warm_9 s_ref20_Warm_9
  rw [asked_eq, ieq_asked]
  rw [push_9]
theorem warm_10 (r0 : Int) (r1 : Int) (r2 : Nat) (r3 : Nat) (r4 : Nat) (r5 : Nat) (r6 : Nat) (r7 : Nat) (r8 : Nat) (r9 : Nat) (r10 : Nat) (r11 : Nat) (r12 : Int) (r13 : Nat) (a0 : Nat) (a1 : Nat) (a2 : Nat) (a3 : Nat) (a4 : Nat) (b0 : Nat) (b1 : Nat) (b2 : Nat) (b3 : Nat) (b4 : Nat) : s_rows_Warm_10 r0 r1 r2 r3 r4 r5 r6 r7 r8 r9 r10 r11 r12 r13 a0 a1 a2 a3 a4 b0 b1 b2 b3 b4 = s_ref20_Warm_10 r0 r1 r2 r3 r4 r5 r6 r7 r8 r9 r10 r11 r12 r13 a0 a1 a2 a3 a4 b0 b1 b2 b3 b4 := by
  unfold s_rows_Warm_10 s_ref20_Warm_10
  rw [asked_eq, ieq_asked]
  cases s_ref20_all_0 r0 r1 r2 r3 r4 r5 r6 r7 r8 r9 r10 r11 r12 r13 a0 a1 a2 a3 a4 b0 b1 b2 b3 b4 <;> rfl
theorem one_0 (r0 : Int) (r1 : Int) (r2 : Nat) (r3 : Nat) (r4 : Nat) (r5 : Nat) (r6 : Nat) (r7 : Nat) (r8 : Nat) (r9 : Nat) (r10 : Nat) (r11 : Nat) (r12 : Int) (r13 : Nat) (a0 : Nat) (a1 : Nat) (a2 : Nat) (a3 : Nat) (a4 : Nat) (b0 : Nat) (b1 : Nat) (b2 : Nat) (b3 : Nat) (b4 : Nat) (cr2 : CF r2) (cr3 : CF r3) (cr4 : CF r4) (cr5 : CF r5) (cr6 : CF r6) (cr7 : CF r7) (cr8 : CF r8) (cr9 : CF r9) (cr10 : CF r10) (cr11 : CF r11) (cr13 : CF r13) (ca0 : CF a0) (ca1 : CF a1) (ca2 : CF a2) (ca3 : CF a3) (ca4 : CF a4) (cb0 : CF b0) (cb1 : CF b1) (cb2 : CF b2) (cb3 : CF b3) (cb4 : CF b4) : s_rows_One_0 r0 r1 r2 r3 r4 r5 r6 r7 r8 r9 r10 r11 r12 r13 a0 a1 a2 a3 a4 b0 b1 b2 b3 b4 = s_ref20_One_0 r0 r1 r2 r3 r4 r5 r6 r7 r8 r9 r10 r11 r12 r13 a0 a1 a2 a3 a4 b0 b1 b2 b3 b4 := by
  unfold s_rows_One_0 s_ref20_One_0
  simp only []
  rw [asked_eq, ieq_asked, speed_eq, weight_eq, clamp_eq (CF.add _ _) cr9 cr10, fin2, fin2]
  generalize (s_ref02_End_0 (s_ref20_weight_0 r0 r1 r2 r3 r4 r5 r6 r7 r8 r9 r10 r11 r12 r13 a0 a1 a2 a3 a4 b0 b1 b2 b3 b4) && s_ref02_End_0 (fsub r8 (s_ref20_speed_0 r0 r1 r2 r3 r4 r5 r6 r7 r8 r9 r10 r11 r12 r13 a0 a1 a2 a3 a4 b0 b1 b2 b3 b4))) = e1
  generalize (s_ref02_End_0 (s_ref01_Clamp_0 (fadd r11 (fdiv (fsub r8 (s_ref20_speed_0 r0 r1 r2 r3 r4 r5 r6 r7 r8 r9 r10 r11 r12 r13 a0 a1 a2 a3 a4 b0 b1 b2 b3 b4)) (s_ref20_weight_0 r0 r1 r2 r3 r4 r5 r6 r7 r8 r9 r10 r11 r12 r13 a0 a1 a2 a3 a4 b0 b1 b2 b3 b4))) r9 r10) && s_ref02_End_0 (fsub (s_ref01_Clamp_0 (fadd r11 (fdiv (fsub r8 (s_ref20_speed_0 r0 r1 r2 r3 r4 r5 r6 r7 r8 r9 r10 r11 r12 r13 a0 a1 a2 a3 a4 b0 b1 b2 b3 b4)) (s_ref20_weight_0 r0 r1 r2 r3 r4 r5 r6 r7 r8 r9 r10 r11 r12 r13 a0 a1 a2 a3 a4 b0 b1 b2 b3 b4))) r9 r10) r11)) = e2
  generalize flt 0 (s_ref20_weight_0 r0 r1 r2 r3 r4 r5 r6 r7 r8 r9 r10 r11 r12 r13 a0 a1 a2 a3 a4 b0 b1 b2 b3 b4) = e3
  cases s_ref20_all_0 r0 r1 r2 r3 r4 r5 r6 r7 r8 r9 r10 r11 r12 r13 a0 a1 a2 a3 a4 b0 b1 b2 b3 b4 <;> cases e1 <;> cases e2 <;> cases e3 <;> rfl
theorem one_1 (r0 : Int) (r1 : Int) (r2 : Nat) (r3 : Nat) (r4 : Nat) (r5 : Nat) (r6 : Nat) (r7 : Nat) (r8 : Nat) (r9 : Nat) (r10 : Nat) (r11 : Nat) (r12 : Int) (r13 : Nat) (a0 : Nat) (a1 : Nat) (a2 : Nat) (a3 : Nat) (a4 : Nat) (b0 : Nat) (b1 : Nat) (b2 : Nat) (b3 : Nat) (b4 : Nat) (cr2 : CF r2) (cr3 : CF r3) (cr4 : CF r4) (cr5 : CF r5) (cr6 : CF r6) (cr7 : CF r7) (cr8 : CF r8) (cr9 : CF r9) (cr10 : CF r10) (cr11 : CF r11) (cr13 : CF r13) (ca0 : CF a0) (ca1 : CF a1) (ca2 : CF a2) (ca3 : CF a3) (ca4 : CF a4) (cb0 : CF b0) (cb1 : CF b1) (cb2 : CF b2) (cb3 : CF b3) (cb4 : CF b4) : s_rows_One_1 r0 r1 r2 r3 r4 r5 r6 r7 r8 r9 r10 r11 r12 r13 a0 a1 a2 a3 a4 b0 b1 b2 b3 b4 = s_ref20_One_1 r0 r1 r2 r3 r4 r5 r6 r7 r8 r9 r10 r11 r12 r13 a0 a1 a2 a3 a4 b0 b1 b2 b3 b4 := by
  unfold s_rows_One_1 s_ref20_One_1
  simp only []
  rw [asked_eq, ieq_asked, speed_eq, weight_eq, clamp_eq (CF.add _ _) cr9 cr10, fin2, fin2]
  generalize (s_ref02_End_0 (s_ref20_weight_0 r0 r1 r2 r3 r4 r5 r6 r7 r8 r9 r10 r11 r12 r13 a0 a1 a2 a3 a4 b0 b1 b2 b3 b4) && s_ref02_End_0 (fsub r8 (s_ref20_speed_0 r0 r1 r2 r3 r4 r5 r6 r7 r8 r9 r10 r11 r12 r13 a0 a1 a2 a3 a4 b0 b1 b2 b3 b4))) = e1
  generalize (s_ref02_End_0 (s_ref01_Clamp_0 (fadd r11 (fdiv (fsub r8 (s_ref20_speed_0 r0 r1 r2 r3 r4 r5 r6 r7 r8 r9 r10 r11 r12 r13 a0 a1 a2 a3 a4 b0 b1 b2 b3 b4)) (s_ref20_weight_0 r0 r1 r2 r3 r4 r5 r6 r7 r8 r9 r10 r11 r12 r13 a0 a1 a2 a3 a4 b0 b1 b2 b3 b4))) r9 r10) && s_ref02_End_0 (fsub (s_ref01_Clamp_0 (fadd r11 (fdiv (fsub r8 (s_ref20_speed_0 r0 r1 r2 r3 r4 r5 r6 r7 r8 r9 r10 r11 r12 r13 a0 a1 a2 a3 a4 b0 b1 b2 b3 b4)) (s_ref20_weight_0 r0 r1 r2 r3 r4 r5 r6 r7 r8 r9 r10 r11 r12 r13 a0 a1 a2 a3 a4 b0 b1 b2 b3 b4))) r9 r10) r11)) = e2
  generalize flt 0 (s_ref20_weight_0 r0 r1 r2 r3 r4 r5 r6 r7 r8 r9 r10 r11 r12 r13 a0 a1 a2 a3 a4 b0 b1 b2 b3 b4) = e3
  cases s_ref20_all_0 r0 r1 r2 r3 r4 r5 r6 r7 r8 r9 r10 r11 r12 r13 a0 a1 a2 a3 a4 b0 b1 b2 b3 b4 <;> cases e1 <;> cases e2 <;> cases e3 <;> rfl
theorem one_2 (r0 : Int) (r1 : Int) (r2 : Nat) (r3 : Nat) (r4 : Nat) (r5 : Nat) (r6 : Nat) (r7 : Nat) (r8 : Nat) (r9 : Nat) (r10 : Nat) (r11 : Nat) (r12 : Int) (r13 : Nat) (a0 : Nat) (a1 : Nat) (a2 : Nat) (a3 : Nat) (a4 : Nat) (b0 : Nat) (b1 : Nat) (b2 : Nat) (b3 : Nat) (b4 : Nat) (cr2 : CF r2) (cr3 : CF r3) (cr4 : CF r4) (cr5 : CF r5) (cr6 : CF r6) (cr7 : CF r7) (cr8 : CF r8) (cr9 : CF r9) (cr10 : CF r10) (cr11 : CF r11) (cr13 : CF r13) (ca0 : CF a0) (ca1 : CF a1) (ca2 : CF a2) (ca3 : CF a3) (ca4 : CF a4) (cb0 : CF b0) (cb1 : CF b1) (cb2 : CF b2) (cb3 : CF b3) (cb4 : CF b4) : s_rows_One_2 r0 r1 r2 r3 r4 r5 r6 r7 r8 r9 r10 r11 r12 r13 a0 a1 a2 a3 a4 b0 b1 b2 b3 b4 = s_ref20_One_2 r0 r1 r2 r3 r4 r5 r6 r7 r8 r9 r10 r11 r12 r13 a0 a1 a2 a3 a4 b0 b1 b2 b3 b4 := by
  unfold s_rows_One_2 s_ref20_One_2
  simp only []
  rw [asked_eq, ieq_asked, speed_eq, weight_eq, clamp_eq (CF.add _ _) cr9 cr10, fin2, fin2]
  generalize (s_ref02_End_0 (s_ref20_weight_0 r0 r1 r2 r3 r4 r5 r6 r7 r8 r9 r10 r11 r12 r13 a0 a1 a2 a3 a4 b0 b1 b2 b3 b4) && s_ref02_End_0 (fsub r8 (s_ref20_speed_0 r0 r1 r2 r3 r4 r5 r6 r7 r8 r9 r10 r11 r12 r13 a0 a1 a2 a3 a4 b0 b1 b2 b3 b4))) = e1
  generalize (s_ref02_End_0 (s_ref01_Clamp_0 (fadd r11 (fdiv (fsub r8 (s_ref20_speed_0 r0 r1 r2 r3 r4 r5 r6 r7 r8 r9 r10 r11 r12 r13 a0 a1 a2 a3 a4 b0 b1 b2 b3 b4)) (s_ref20_weight_0 r0 r1 r2 r3 r4 r5 r6 r7 r8 r9 r10 r11 r12 r13 a0 a1 a2 a3 a4 b0 b1 b2 b3 b4))) r9 r10) && s_ref02_End_0 (fsub (s_ref01_Clamp_0 (fadd r11 (fdiv (fsub r8 (s_ref20_speed_0 r0 r1 r2 r3 r4 r5 r6 r7 r8 r9 r10 r11 r12 r13 a0 a1 a2 a3 a4 b0 b1 b2 b3 b4)) (s_ref20_weight_0 r0 r1 r2 r3 r4 r5 r6 r7 r8 r9 r10 r11 r12 r13 a0 a1 a2 a3 a4 b0 b1 b2 b3 b4))) r9 r10) r11)) = e2
  generalize flt 0 (s_ref20_weight_0 r0 r1 r2 r3 r4 r5 r6 r7 r8 r9 r10 r11 r12 r13 a0 a1 a2 a3 a4 b0 b1 b2 b3 b4) = e3
  cases s_ref20_all_0 r0 r1 r2 r3 r4 r5 r6 r7 r8 r9 r10 r11 r12 r13 a0 a1 a2 a3 a4 b0 b1 b2 b3 b4 <;> cases e1 <;> cases e2 <;> cases e3 <;> rfl
theorem one_3 (r0 : Int) (r1 : Int) (r2 : Nat) (r3 : Nat) (r4 : Nat) (r5 : Nat) (r6 : Nat) (r7 : Nat) (r8 : Nat) (r9 : Nat) (r10 : Nat) (r11 : Nat) (r12 : Int) (r13 : Nat) (a0 : Nat) (a1 : Nat) (a2 : Nat) (a3 : Nat) (a4 : Nat) (b0 : Nat) (b1 : Nat) (b2 : Nat) (b3 : Nat) (b4 : Nat) (cr2 : CF r2) (cr3 : CF r3) (cr4 : CF r4) (cr5 : CF r5) (cr6 : CF r6) (cr7 : CF r7) (cr8 : CF r8) (cr9 : CF r9) (cr10 : CF r10) (cr11 : CF r11) (cr13 : CF r13) (ca0 : CF a0) (ca1 : CF a1) (ca2 : CF a2) (ca3 : CF a3) (ca4 : CF a4) (cb0 : CF b0) (cb1 : CF b1) (cb2 : CF b2) (cb3 : CF b3) (cb4 : CF b4) : s_rows_One_3 r0 r1 r2 r3 r4 r5 r6 r7 r8 r9 r10 r11 r12 r13 a0 a1 a2 a3 a4 b0 b1 b2 b3 b4 = s_ref20_One_3 r0 r1 r2 r3 r4 r5 r6 r7 r8 r9 r10 r11 r12 r13 a0 a1 a2 a3 a4 b0 b1 b2 b3 b4 := by
  unfold s_rows_One_3 s_ref20_One_3
  simp only []
  rw [asked_eq, ieq_asked, speed_eq, weight_eq, clamp_eq (CF.add _ _) cr9 cr10, fin2, fin2]
  generalize (s_ref02_End_0 (s_ref20_weight_0 r0 r1 r2 r3 r4 r5 r6 r7 r8 r9 r10 r11 r12 r13 a0 a1 a2 a3 a4 b0 b1 b2 b3 b4) && s_ref02_End_0 (fsub r8 (s_ref20_speed_0 r0 r1 r2 r3 r4 r5 r6 r7 r8 r9 r10 r11 r12 r13 a0 a1 a2 a3 a4 b0 b1 b2 b3 b4))) = e1
  generalize (s_ref02_End_0 (s_ref01_Clamp_0 (fadd r11 (fdiv (fsub r8 (s_ref20_speed_0 r0 r1 r2 r3 r4 r5 r6 r7 r8 r9 r10 r11 r12 r13 a0 a1 a2 a3 a4 b0 b1 b2 b3 b4)) (s_ref20_weight_0 r0 r1 r2 r3 r4 r5 r6 r7 r8 r9 r10 r11 r12 r13 a0 a1 a2 a3 a4 b0 b1 b2 b3 b4))) r9 r10) && s_ref02_End_0 (fsub (s_ref01_Clamp_0 (fadd r11 (fdiv (fsub r8 (s_ref20_speed_0 r0 r1 r2 r3 r4 r5 r6 r7 r8 r9 r10 r11 r12 r13 a0 a1 a2 a3 a4 b0 b1 b2 b3 b4)) (s_ref20_weight_0 r0 r1 r2 r3 r4 r5 r6 r7 r8 r9 r10 r11 r12 r13 a0 a1 a2 a3 a4 b0 b1 b2 b3 b4))) r9 r10) r11)) = e2
  generalize flt 0 (s_ref20_weight_0 r0 r1 r2 r3 r4 r5 r6 r7 r8 r9 r10 r11 r12 r13 a0 a1 a2 a3 a4 b0 b1 b2 b3 b4) = e3
  cases s_ref20_all_0 r0 r1 r2 r3 r4 r5 r6 r7 r8 r9 r10 r11 r12 r13 a0 a1 a2 a3 a4 b0 b1 b2 b3 b4 <;> cases e1 <;> cases e2 <;> cases e3 <;> rfl
theorem one_4 (r0 : Int) (r1 : Int) (r2 : Nat) (r3 : Nat) (r4 : Nat) (r5 : Nat) (r6 : Nat) (r7 : Nat) (r8 : Nat) (r9 : Nat) (r10 : Nat) (r11 : Nat) (r12 : Int) (r13 : Nat) (a0 : Nat) (a1 : Nat) (a2 : Nat) (a3 : Nat) (a4 : Nat) (b0 : Nat) (b1 : Nat) (b2 : Nat) (b3 : Nat) (b4 : Nat) (cr2 : CF r2) (cr3 : CF r3) (cr4 : CF r4) (cr5 : CF r5) (cr6 : CF r6) (cr7 : CF r7) (cr8 : CF r8) (cr9 : CF r9) (cr10 : CF r10) (cr11 : CF r11) (cr13 : CF r13) (ca0 : CF a0) (ca1 : CF a1) (ca2 : CF a2) (ca3 : CF a3) (ca4 : CF a4) (cb0 : CF b0) (cb1 : CF b1) (cb2 : CF b2) (cb3 : CF b3) (cb4 : CF b4) : s_rows_One_4 r0 r1 r2 r3 r4 r5 r6 r7 r8 r9 r10 r11 r12 r13 a0 a1 a2 a3 a4 b0 b1 b2 b3 b4 = s_ref20_One_4 r0 r1 r2 r3 r4 r5 r6 r7 r8 r9 r10 r11 r12 r13 a0 a1 a2 a3 a4 b0 b1 b2 b3 b4 := by
  unfold s_rows_One_4 s_ref20_One_4
  simp only []
  rw [asked_eq, ieq_asked, speed_eq, weight_eq, clamp_eq (CF.add _ _) cr9 cr10, fin2, fin2]
  generalize (s_ref02_End_0 (s_ref20_weight_0 r0 r1 r2 r3 r4 r5 r6 r7 r8 r9 r10 r11 r12 r13 a0 a1 a2 a3 a4 b0 b1 b2 b3 b4) && s_ref02_End_0 (fsub r8 (s_ref20_speed_0 r0 r1 r2 r3 r4 r5 r6 r7 r8 r9 r10 r11 r12 r13 a0 a1 a2 a3 a4 b0 b1 b2 b3 b4))) = e1
  generalize (s_ref02_End_0 (s_ref01_Clamp_0 (fadd r11 (fdiv (fsub r8 (s_ref20_speed_0 r0 r1 r2 r3 r4 r5 r6 r7 r8 r9 r10 r11 r12 r13 a0 a1 a2 a3 a4 b0 b1 b2 b3 b4)) (s_ref20_weight_0 r0 r1 r2 r3 r4 r5 r6 r7 r8 r9 r10 r11 r12 r13 a0 a1 a2 a3 a4 b0 b1 b2 b3 b4))) r9 r10) && s_ref02_End_0 (fsub (s_ref01_Clamp_0 (fadd r11 (fdiv (fsub r8 (s_ref20_speed_0 r0 r1 r2 r3 r4 r5 r6 r7 r8 r9 r10 r11 r12 r13 a0 a1 a2 a3 a4 b0 b1 b2 b3 b4)) (s_ref20_weight_0 r0 r1 r2 r3 r4 r5 r6 r7 r8 r9 r10 r11 r12 r13 a0 a1 a2 a3 a4 b0 b1 b2 b3 b4))) r9 r10) r11)) = e2
  generalize flt 0 (s_ref20_weight_0 r0 r1 r2 r3 r4 r5 r6 r7 r8 r9 r10 r11 r12 r13 a0 a1 a2 a3 a4 b0 b1 b2 b3 b4) = e3
  cases s_ref20_all_0 r0 r1 r2 r3 r4 r5 r6 r7 r8 r9 r10 r11 r12 r13 a0 a1 a2 a3 a4 b0 b1 b2 b3 b4 <;> cases e1 <;> cases e2 <;> cases e3 <;> rfl
theorem one_5 (r0 : Int) (r1 : Int) (r2 : Nat) (r3 : Nat) (r4 : Nat) (r5 : Nat) (r6 : Nat) (r7 : Nat) (r8 : Nat) (r9 : Nat) (r10 : Nat) (r11 : Nat) (r12 : Int) (r13 : Nat) (a0 : Nat) (a1 : Nat) (a2 : Nat) (a3 : Nat) (a4 : Nat) (b0 : Nat) (b1 : Nat) (b2 : Nat) (b3 : Nat) (b4 : Nat) (cr2 : CF r2) (cr3 : CF r3) (cr4 : CF r4) (cr5 : CF r5) (cr6 : CF r6) (cr7 : CF r7) (cr8 : CF r8) (cr9 : CF r9) (cr10 : CF r10) (cr11 : CF r11) (cr13 : CF r13) (ca0 : CF a0) (ca1 : CF a1) (ca2 : CF a2) (ca3 : CF a3) (ca4 : CF a4) (cb0 : CF b0) (cb1 : CF b1) (cb2 : CF b2) (cb3 : CF b3) (cb4 : CF b4) : s_rows_One_5 r0 r1 r2 r3 r4 r5 r6 r7 r8 r9 r10 r11 r12 r13 a0 a1 a2 a3 a4 b0 b1 b2 b3 b4 = s_ref20_One_5 r0 r1 r2 r3 r4 r5 r6 r7 r8 r9 r10 r11 r12 r13 a0 a1 a2 a3 a4 b0 b1 b2 b3 b4 := by
  unfold s_rows_One_5 s_ref20_One_5
  simp only []
  rw [asked_eq, ieq_asked, speed_eq, weight_eq, clamp_eq (CF.add _ _) cr9 cr10, fin2, fin2]
  generalize (s_ref02_End_0 (s_ref20_weight_0 r0 r1 r2 r3 r4 r5 r6 r7 r8 r9 r10 r11 r12 r13 a0 a1 a2 a3 a4 b0 b1 b2 b3 b4) && s_ref02_End_0 (fsub r8 (s_ref20_speed_0 r0 r1 r2 r3 r4 r5 r6 r7 r8 r9 r10 r11 r12 r13 a0 a1 a2 a3 a4 b0 b1 b2 b3 b4))) = e1
  generalize (s_ref02_End_0 (s_ref01_Clamp_0 (fadd r11 (fdiv (fsub r8 (s_ref20_speed_0 r0 r1 r2 r3 r4 r5 r6 r7 r8 r9 r10 r11 r12 r13 a0 a1 a2 a3 a4 b0 b1 b2 b3 b4)) (s_ref20_weight_0 r0 r1 r2 r3 r4 r5 r6 r7 r8 r9 r10 r11 r12 r13 a0 a1 a2 a3 a4 b0 b1 b2 b3 b4))) r9 r10) && s_ref02_End_0 (fsub (s_ref01_Clamp_0 (fadd r11 (fdiv (fsub r8 (s_ref20_speed_0 r0 r1 r2 r3 r4 r5 r6 r7 r8 r9 r10 r11 r12 r13 a0 a1 a2 a3 a4 b0 b1 b2 b3 b4)) (s_ref20_weight_0 r0 r1 r2 r3 r4 r5 r6 r7 r8 r9 r10 r11 r12 r13 a0 a1 a2 a3 a4 b0 b1 b2 b3 b4))) r9 r10) r11)) = e2
  generalize flt 0 (s_ref20_weight_0 r0 r1 r2 r3 r4 r5 r6 r7 r8 r9 r10 r11 r12 r13 a0 a1 a2 a3 a4 b0 b1 b2 b3 b4) = e3
  cases s_ref20_all_0 r0 r1 r2 r3 r4 r5 r6 r7 r8 r9 r10 r11 r12 r13 a0 a1 a2 a3 a4 b0 b1 b2 b3 b4 <;> cases e1 <;> cases e2 <;> cases e3 <;> rfl
theorem one_6 (r0 : Int) (r1 : Int) (r2 : Nat) (r3 : Nat) (r4 : Nat) (r5 : Nat) (r6 : Nat) (r7 : Nat) (r8 : Nat) (r9 : Nat) (r10 : Nat) (r11 : Nat) (r12 : Int) (r13 : Nat) (a0 : Nat) (a1 : Nat) (a2 : Nat) (a3 : Nat) (a4 : Nat) (b0 : Nat) (b1 : Nat) (b2 : Nat) (b3 : Nat) (b4 : Nat) (cr2 : CF r2) (cr3 : CF r3) (cr4 : CF r4) (cr5 : CF r5) (cr6 : CF r6) (cr7 : CF r7) (cr8 : CF r8) (cr9 : CF r9) (cr10 : CF r10) (cr11 : CF r11) (cr13 : CF r13) (ca0 : CF a0) (ca1 : CF a1) (ca2 : CF a2) (ca3 : CF a3) (ca4 : CF a4) (cb0 : CF b0) (cb1 : CF b1) (cb2 : CF b2) (cb3 : CF b3) (cb4 : CF b4) : s_rows_One_6 r0 r1 r2 r3 r4 r5 r6 r7 r8 r9 r10 r11 r12 r13 a0 a1 a2 a3 a4 b0 b1 b2 b3 b4 = s_ref20_One_6 r0 r1 r2 r3 r4 r5 r6 r7 r8 r9 r10 r11 r12 r13 a0 a1 a2 a3 a4 b0 b1 b2 b3 b4 := by
  unfold s_rows_One_6 s_ref20_One_6
  simp only []
  rw [asked_eq, ieq_asked, speed_eq, weight_eq, clamp_eq (CF.add _ _) cr9 cr10, fin2, fin2]
  generalize (s_ref02_End_0 (s_ref20_weight_0 r0 r1 r2 r3 r4 r5 r6 r7 r8 r9 r10 r11 r12 r13 a0 a1 a2 a3 a4 b0 b1 b2 b3 b4) && s_ref02_End_0 (fsub r8 (s_ref20_speed_0 r0 r1 r2 r3 r4 r5 r6 r7 r8 r9 r10 r11 r12 r13 a0 a1 a2 a3 a4 b0 b1 b2 b3 b4))) = e1
  generalize (s_ref02_End_0 (s_ref01_Clamp_0 (fadd r11 (fdiv (fsub r8 (s_ref20_speed_0 r0 r1 r2 r3 r4 r5 r6 r7 r8 r9 r10 r11 r12 r13 a0 a1 a2 a3 a4 b0 b1 b2 b3 b4)) (s_ref20_weight_0 r0 r1 r2 r3 r4 r5 r6 r7 r8 r9 r10 r11 r12 r13 a0 a1 a2 a3 a4 b0 b1 b2 b3 b4))) r9 r10) && s_ref02_End_0 (fsub (s_ref01_Clamp_0 (fadd r11 (fdiv (fsub r8 (s_ref20_speed_0 r0 r1 r2 r3 r4 r5 r6 r7 r8 r9 r10 r11 r12 r13 a0 a1 a2 a3 a4 b0 b1 b2 b3 b4)) (s_ref20_weight_0 r0 r1 r2 r3 r4 r5 r6 r7 r8 r9 r10 r11 r12 r13 a0 a1 a2 a3 a4 b0 b1 b2 b3 b4))) r9 r10) r11)) = e2
  generalize flt 0 (s_ref20_weight_0 r0 r1 r2 r3 r4 r5 r6 r7 r8 r9 r10 r11 r12 r13 a0 a1 a2 a3 a4 b0 b1 b2 b3 b4) = e3
  cases s_ref20_all_0 r0 r1 r2 r3 r4 r5 r6 r7 r8 r9 r10 r11 r12 r13 a0 a1 a2 a3 a4 b0 b1 b2 b3 b4 <;> cases e1 <;> cases e2 <;> cases e3 <;> rfl
theorem one_7 (r0 : Int) (r1 : Int) (r2 : Nat) (r3 : Nat) (r4 : Nat) (r5 : Nat) (r6 : Nat) (r7 : Nat) (r8 : Nat) (r9 : Nat) (r10 : Nat) (r11 : Nat) (r12 : Int) (r13 : Nat) (a0 : Nat) (a1 : Nat) (a2 : Nat) (a3 : Nat) (a4 : Nat) (b0 : Nat) (b1 : Nat) (b2 : Nat) (b3 : Nat) (b4 : Nat) (cr2 : CF r2) (cr3 : CF r3) (cr4 : CF r4) (cr5 : CF r5) (cr6 : CF r6) (cr7 : CF r7) (cr8 : CF r8) (cr9 : CF r9) (cr10 : CF r10) (cr11 : CF r11) (cr13 : CF r13) (ca0 : CF a0) (ca1 : CF a1) (ca2 : CF a2) (ca3 : CF a3) (ca4 : CF a4) (cb0 : CF b0) (cb1 : CF b1) (cb2 : CF b2) (cb3 : CF b3) (cb4 : CF b4) : s_rows_One_7 r0 r1 r2 r3 r4 r5 r6 r7 r8 r9 r10 r11 r12 r13 a0 a1 a2 a3 a4 b0 b1 b2 b3 b4 = s_ref20_One_7 r0 r1 r2 r3 r4 r5 r6 r7 r8 r9 r10 r11 r12 r13 a0 a1 a2 a3 a4 b0 b1 b2 b3 b4 := by
  unfold s_rows_One_7 s_ref20_One_7
  simp only []
  rw [asked_eq, ieq_asked, speed_eq, weight_eq, clamp_eq (CF.add _ _) cr9 cr10, fin2, fin2]
  generalize (s_ref02_End_0 (s_ref20_weight_0 r0 r1 r2 r3 r4 r5 r6 r7 r8 r9 r10 r11 r12 r13 a0 a1 a2 a3 a4 b0 b1 b2 b3 b4) && s_ref02_End_0 (fsub r8 (s_ref20_speed_0 r0 r1 r2 r3 r4 r5 r6 r7 r8 r9 r10 r11 r12 r13 a0 a1 a2 a3 a4 b0 b1 b2 b3 b4))) = e1
  generalize (s_ref02_End_0 (s_ref01_Clamp_0 (fadd r11 (fdiv (fsub r8 (s_ref20_speed_0 r0 r1 r2 r3 r4 r5 r6 r7 r8 r9 r10 r11 r12 r13 a0 a1 a2 a3 a4 b0 b1 b2 b3 b4)) (s_ref20_weight_0 r0 r1 r2 r3 r4 r5 r6 r7 r8 r9 r10 r11 r12 r13 a0 a1 a2 a3 a4 b0 b1 b2 b3 b4))) r9 r10) && s_ref02_End_0 (fsub (s_ref01_Clamp_0 (fadd r11 (fdiv (fsub r8 (s_ref20_speed_0 r0 r1 r2 r3 r4 r5 r6 r7 r8 r9 r10 r11 r12 r13 a0 a1 a2 a3 a4 b0 b1 b2 b3 b4)) (s_ref20_weight_0 r0 r1 r2 r3 r4 r5 r6 r7 r8 r9 r10 r11 r12 r13 a0 a1 a2 a3 a4 b0 b1 b2 b3 b4))) r9 r10) r11)) = e2
  generalize flt 0 (s_ref20_weight_0 r0 r1 r2 r3 r4 r5 r6 r7 r8 r9 r10 r11 r12 r13 a0 a1 a2 a3 a4 b0 b1 b2 b3 b4) = e3
  cases s_ref20_all_0 r0 r1 r2 r3 r4 r5 r6 r7 r8 r9 r10 r11 r12 r13 a0 a1 a2 a3 a4 b0 b1 b2 b3 b4 <;> cases e1 <;> cases e2 <;> cases e3 <;> rfl
theorem one_8 (r0 : Int) (r1 : Int) (r2 : Nat) (r3 : Nat) (r4 : Nat) (r5 : Nat) (r6 : Nat) (r7 : Nat) (r8 : Nat) (r9 : Nat) (r10 : Nat) (r11 : Nat) (r12 : Int) (r13 : Nat) (a0 : Nat) (a1 : Nat) (a2 : Nat) (a3 : Nat) (a4 : Nat) (b0 : Nat) (b1 : Nat) (b2 : Nat) (b3 : Nat) (b4 : Nat) (cr2 : CF r2) (cr3 : CF r3) (cr4 : CF r4) (cr5 : CF r5) (cr6 : CF r6) (cr7 : CF r7) (cr8 : CF r8) (cr9 : CF r9) (cr10 : CF r10) (cr11 : CF r11) (cr13 : CF r13) (ca0 : CF a0) (ca1 : CF a1) (ca2 : CF a2) (ca3 : CF a3) (ca4 : CF a4) (cb0 : CF b0) (cb1 : CF b1) (cb2 : CF b2) (cb3 : CF b3) (cb4 : CF b4) : s_rows_One_8 r0 r1 r2 r3 r4 r5 r6 r7 r8 r9 r10 r11 r12 r13 a0 a1 a2 a3 a4 b0 b1 b2 b3 b4 = s_ref20_One_8 r0 r1 r2 r3 r4 r5 r6 r7 r8 r9 r10 r11 r12 r13 a0 a1 a2 a3 a4 b0 b1 b2 b3 b4 := by
  unfold s_rows_One_8 s_ref20_One_8
  simp only []
  rw [asked_eq, ieq_asked, speed_eq, weight_eq, clamp_eq (CF.add _ _) cr9 cr10, fin2, fin2]
  generalize (s_ref02_End_0 (s_ref20_weight_0 r0 r1 r2 r3 r4 r5 r6 r7 r8 r9 r10 r11 r12 r13 a0 a1 a2 a3 a4 b0 b1 b2 b3 b4) && s_ref02_End_0 (fsub r8 (s_ref20_speed_0 r0 r1 r2 r3 r4 r5 r6 r7 r8 r9 r10 r11 r12 r13 a0 a1 a2 a3 a4 b0 b1 b2 b3 b4))) = e1
  generalize (s_ref02_End_0 (s_ref01_Clamp_0 (fadd r11 (fdiv (fsub r8 (s_ref20_speed_0 r0 r1 r2 r3 r4 r5 r6 r7 r8 r9 r10 r11 r12 r13 a0 a1 a2 a3 a4 b0 b1 b2 b3 b4)) (s_ref20_weight_0 r0 r1 r2 r3 r4 r5 r6 r7 r8 r9 r10 r11 r12 r13 a0 a1 a2 a3 a4 b0 b1 b2 b3 b4))) r9 r10) && s_ref02_End_0 (fsub (s_ref01_Clamp_0 (fadd r11 (fdiv (fsub r8 (s_ref20_speed_0 r0 r1 r2 r3 r4 r5 r6 r7 r8 r9 r10 r11 r12 r13 a0 a1 a2 a3 a4 b0 b1 b2 b3 b4)) (s_ref20_weight_0 r0 r1 r2 r3 r4 r5 r6 r7 r8 r9 r10 r11 r12 r13 a0 a1 a2 a3 a4 b0 b1 b2 b3 b4))) r9 r10) r11)) = e2
  generalize flt 0 (s_ref20_weight_0 r0 r1 r2 r3 r4 r5 r6 r7 r8 r9 r10 r11 r12 r13 a0 a1 a2 a3 a4 b0 b1 b2 b3 b4) = e3
  cases s_ref20_all_0 r0 r1 r2 r3 r4 r5 r6 r7 r8 r9 r10 r11 r12 r13 a0 a1 a2 a3 a4 b0 b1 b2 b3 b4 <;> cases e1 <;> cases e2 <;> cases e3 <;> rfl
theorem one_9 (r0 : Int) (r1 : Int) (r2 : Nat) (r3 : Nat) (r4 : Nat) (r5 : Nat) (r6 : Nat) (r7 : Nat) (r8 : Nat) (r9 : Nat) (r10 : Nat) (r11 : Nat) (r12 : Int) (r13 : Nat) (a0 : Nat) (a1 : Nat) (a2 : Nat) (a3 : Nat) (a4 : Nat) (b0 : Nat) (b1 : Nat) (b2 : Nat) (b3 : Nat) (b4 : Nat) (cr2 : CF r2) (cr3 : CF r3) (cr4 : CF r4) (cr5 : CF r5) (cr6 : CF r6) (cr7 : CF r7) (cr8 : CF r8) (cr9 : CF r9) (cr10 : CF r10) (cr11 : CF r11) (cr13 : CF r13) (ca0 : CF a0) (ca1 : CF a1) (ca2 : CF a2) (ca3 : CF a3) (ca4 : CF a4) (cb0 : CF b0) (cb1 : CF b1) (cb2 : CF b2) (cb3 : CF b3) (cb4 : CF b4) : s_rows_One_9 r0 r1 r2 r3 r4 r5 r6 r7 r8 r9 r10 r11 r12 r13 a0 a1 a2 a3 a4 b0 b1 b2 b3 b4 = s_ref20_One_9 r0 r1 r2 r3 r4 r5 r6 r7 r8 r9 r10 r11 r12 r13 a0 a1 a2 a3 a4 b0 b1 b2 b3 b4 := by
  unfold s_rows_One_9 s_ref20_One_9
  simp only []
  rw [asked_eq, ieq_asked, speed_eq, weight_eq, clamp_eq (CF.add _ _) cr9 cr10, fin2, fin2]
  generalize (s_ref02_End_0 (s_ref20_weight_0 r0 r1 r2 r3 r4 r5 r6 r7 r8 r9 r10 r11 r12 r13 a0 a1 a2 a3 a4 b0 b1 b2 b3 b4) && s_ref02_End_0 (fsub r8 (s_ref20_speed_0 r0 r1 r2 r3 r4 r5 r6 r7 r8 r9 r10 r11 r12 r13 a0 a1 a2 a3 a4 b0 b1 b2 b3 b4))) = e1
  generalize (s_ref02_End_0 (s_ref01_Clamp_0 (fadd r11 (fdiv (fsub r8 (s_ref20_speed_0 r0 r1 r2 r3 r4 r5 r6 r7 r8 r9 r10 r11 r12 r13 a0 a1 a2 a3 a4 b0 b1 b2 b3 b4)) (s_ref20_weight_0 r0 r1 r2 r3 r4 r5 r6 r7 r8 r9 r10 r11 r12 r13 a0 a1 a2 a3 a4 b0 b1 b2 b3 b4))) r9 r10) && s_ref02_End_0 (fsub (s_ref01_Clamp_0 (fadd r11 (fdiv (fsub r8 (s_ref20_speed_0 r0 r1 r2 r3 r4 r5 r6 r7 r8 r9 r10 r11 r12 r13 a0 a1 a2 a3 a4 b0 b1 b2 b3 b4)) (s_ref20_weight_0 r0 r1 r2 r3 r4 r5 r6 r7 r8 r9 r10 r11 r12 r13 a0 a1 a2 a3 a4 b0 b1 b2 b3 b4))) r9 r10) r11)) = e2
  generalize flt 0 (s_ref20_weight_0 r0 r1 r2 r3 r4 r5 r6 r7 r8 r9 r10 r11 r12 r13 a0 a1 a2 a3 a4 b0 b1 b2 b3 b4) = e3
  cases s_ref20_all_0 r0 r1 r2 r3 r4 r5 r6 r7 r8 r9 r10 r11 r12 r13 a0 a1 a2 a3 a4 b0 b1 b2 b3 b4 <;> cases e1 <;> cases e2 <;> cases e3 <;> rfl
theorem one_10 (r0 : Int) (r1 : Int) (r2 : Nat) (r3 : Nat) (r4 : Nat) (r5 : Nat) (r6 : Nat) (r7 : Nat) (r8 : Nat) (r9 : Nat) (r10 : Nat) (r11 : Nat) (r12 : Int) (r13 : Nat) (a0 : Nat) (a1 : Nat) (a2 : Nat) (a3 : Nat) (a4 : Nat) (b0 : Nat) (b1 : Nat) (b2 : Nat) (b3 : Nat) (b4 : Nat) (cr2 : CF r2) (cr3 : CF r3) (cr4 : CF r4) (cr5 : CF r5) (cr6 : CF r6) (cr7 : CF r7) (cr8 : CF r8) (cr9 : CF r9) (cr10 : CF r10) (cr11 : CF r11) (cr13 : CF r13) (ca0 : CF a0) (ca1 : CF a1) (ca2 : CF a2) (ca3 : CF a3) (ca4 : CF a4) (cb0 : CF b0) (cb1 : CF b1) (cb2 : CF b2) (cb3 : CF b3) (cb4 : CF b4) : s_rows_One_10 r0 r1 r2 r3 r4 r5 r6 r7 r8 r9 r10 r11 r12 r13 a0 a1 a2 a3 a4 b0 b1 b2 b3 b4 = s_ref20_One_10 r0 r1 r2 r3 r4 r5 r6 r7 r8 r9 r10 r11 r12 r13 a0 a1 a2 a3 a4 b0 b1 b2 b3 b4 := by
  unfold s_rows_One_10 s_ref20_One_10
  simp only []
  rw [asked_eq, ieq_asked, speed_eq, weight_eq, clamp_eq (CF.add _ _) cr9 cr10, fin2, fin2]
  generalize (s_ref02_End_0 (s_ref20_weight_0 r0 r1 r2 r3 r4 r5 r6 r7 r8 r9 r10 r11 r12 r13 a0 a1 a2 a3 a4 b0 b1 b2 b3 b4) && s_ref02_End_0 (fsub r8 (s_ref20_speed_0 r0 r1 r2 r3 r4 r5 r6 r7 r8 r9 r10 r11 r12 r13 a0 a1 a2 a3 a4 b0 b1 b2 b3 b4))) = e1
  generalize (s_ref02_End_0 (s_ref01_Clamp_0 (fadd r11 (fdiv (fsub r8 (s_ref20_speed_0 r0 r1 r2 r3 r4 r5 r6 r7 r8 r9 r10 r11 r12 r13 a0 a1 a2 a3 a4 b0 b1 b2 b3 b4)) (s_ref20_weight_0 r0 r1 r2 r3 r4 r5 r6 r7 r8 r9 r10 r11 r12 r13 a0 a1 a2 a3 a4 b0 b1 b2 b3 b4))) r9 r10) && s_ref02_End_0 (fsub (s_ref01_Clamp_0 (fadd r11 (fdiv (fsub r8 (s_ref20_speed_0 r0 r1 r2 r3 r4 r5 r6 r7 r8 r9 r10 r11 r12 r13 a0 a1 a2 a3 a4 b0 b1 b2 b3 b4)) (s_ref20_weight_0 r0 r1 r2 r3 r4 r5 r6 r7 r8 r9 r10 r11 r12 r13 a0 a1 a2 a3 a4 b0 b1 b2 b3 b4))) r9 r10) r11)) = e2
  generalize flt 0 (s_ref20_weight_0 r0 r1 r2 r3 r4 r5 r6 r7 r8 r9 r10 r11 r12 r13 a0 a1 a2 a3 a4 b0 b1 b2 b3 b4) = e3
  cases s_ref20_all_0 r0 r1 r2 r3 r4 r5 r6 r7 r8 r9 r10 r11 r12 r13 a0 a1 a2 a3 a4 b0 b1 b2 b3 b4 <;> cases e1 <;> cases e2 <;> cases e3 <;> rfl
theorem one_11 (r0 : Int) (r1 : Int) (r2 : Nat) (r3 : Nat) (r4 : Nat) (r5 : Nat) (r6 : Nat) (r7 : Nat) (r8 : Nat) (r9 : Nat) (r10 : Nat) (r11 : Nat) (r12 : Int) (r13 : Nat) (a0 : Nat) (a1 : Nat) (a2 : Nat) (a3 : Nat) (a4 : Nat) (b0 : Nat) (b1 : Nat) (b2 : Nat) (b3 : Nat) (b4 : Nat) (cr2 : CF r2) (cr3 : CF r3) (cr4 : CF r4) (cr5 : CF r5) (cr6 : CF r6) (cr7 : CF r7) (cr8 : CF r8) (cr9 : CF r9) (cr10 : CF r10) (cr11 : CF r11) (cr13 : CF r13) (ca0 : CF a0) (ca1 : CF a1) (ca2 : CF a2) (ca3 : CF a3) (ca4 : CF a4) (cb0 : CF b0) (cb1 : CF b1) (cb2 : CF b2) (cb3 : CF b3) (cb4 : CF b4) : s_rows_One_11 r0 r1 r2 r3 r4 r5 r6 r7 r8 r9 r10 r11 r12 r13 a0 a1 a2 a3 a4 b0 b1 b2 b3 b4 = s_ref20_One_11 r0 r1 r2 r3 r4 r5 r6 r7 r8 r9 r10 r11 r12 r13 a0 a1 a2 a3 a4 b0 b1 b2 b3 b4 := by
  unfold s_rows_One_11 s_ref20_One_11
  simp only []
  rw [asked_eq, ieq_asked, speed_eq, weight_eq, clamp_eq (CF.add _ _) cr9 cr10, fin2, fin2]
  generalize (s_ref02_End_0 (s_ref20_weight_0 r0 r1 r2 r3 r4 r5 r6 r7 r8 r9 r10 r11 r12 r13 a0 a1 a2 a3 a4 b0 b1 b2 b3 b4) && s_ref02_End_0 (fsub r8 (s_ref20_speed_0 r0 r1 r2 r3 r4 r5 r6 r7 r8 r9 r10 r11 r12 r13 a0 a1 a2 a3 a4 b0 b1 b2 b3 b4))) = e1
  generalize (s_ref02_End_0 (s_ref01_Clamp_0 (fadd r11 (fdiv (fsub r8 (s_ref20_speed_0 r0 r1 r2 r3 r4 r5 r6 r7 r8 r9 r10 r11 r12 r13 a0 a1 a2 a3 a4 b0 b1 b2 b3 b4)) (s_ref20_weight_0 r0 r1 r2 r3 r4 r5 r6 r7 r8 r9 r10 r11 r12 r13 a0 a1 a2 a3 a4 b0 b1 b2 b3 b4))) r9 r10) && s_ref02_End_0 (fsub (s_ref01_Clamp_0 (fadd r11 (fdiv (fsub r8 (s_ref20_speed_0 r0 r1 r2 r3 r4 r5 r6 r7 r8 r9 r10 r11 r12 r13 a0 a1 a2 a3 a4 b0 b1 b2 b3 b4)) (s_ref20_weight_0 r0 r1 r2 r3 r4 r5 r6 r7 r8 r9 r10 r11 r12 r13 a0 a1 a2 a3 a4 b0 b1 b2 b3 b4))) r9 r10) r11)) = e2
  generalize flt 0 (s_ref20_weight_0 r0 r1 r2 r3 r4 r5 r6 r7 r8 r9 r10 r11 r12 r13 a0 a1 a2 a3 a4 b0 b1 b2 b3 b4) = e3
  cases s_ref20_all_0 r0 r1 r2 r3 r4 r5 r6 r7 r8 r9 r10 r11 r12 r13 a0 a1 a2 a3 a4 b0 b1 b2 b3 b4 <;> cases e1 <;> cases e2 <;> cases e3 <;> rfl
theorem one_12 (r0 : Int) (r1 : Int) (r2 : Nat) (r3 : Nat) (r4 : Nat) (r5 : Nat) (r6 : Nat) (r7 : Nat) (r8 : Nat) (r9 : Nat) (r10 : Nat) (r11 : Nat) (r12 : Int) (r13 : Nat) (a0 : Nat) (a1 : Nat) (a2 : Nat) (a3 : Nat) (a4 : Nat) (b0 : Nat) (b1 : Nat) (b2 : Nat) (b3 : Nat) (b4 : Nat) (cr2 : CF r2) (cr3 : CF r3) (cr4 : CF r4) (cr5 : CF r5) (cr6 : CF r6) (cr7 : CF r7) (cr8 : CF r8) (cr9 : CF r9) (cr10 : CF r10) (cr11 : CF r11) (cr13 : CF r13) (ca0 : CF a0) (ca1 : CF a1) (ca2 : CF a2) (ca3 : CF a3) (ca4 : CF a4) (cb0 : CF b0) (cb1 : CF b1) (cb2 : CF b2) (cb3 : CF b3) (cb4 : CF b4) : s_rows_One_12 r0 r1 r2 r3 r4 r5 r6 r7 r8 r9 r10 r11 r12 r13 a0 a1 a2 a3 a4 b0 b1 b2 b3 b4 = s_ref20_One_12 r0 r1 r2 r3 r4 r5 r6 r7 r8 r9 r10 r11 r12 r13 a0 a1 a2 a3 a4 b0 b1 b2 b3 b4 := by
  unfold s_rows_One_12 s_ref20_One_12
  simp only []
  rw [asked_eq, ieq_asked, speed_eq, weight_eq, clamp_eq (CF.add _ _) cr9 cr10, fin2, fin2]
  generalize (s_ref02_End_0 (s_ref20_weight_0 r0 r1 r2 r3 r4 r5 r6 r7 r8 r9 r10 r11 r12 r13 a0 a1 a2 a3 a4 b0 b1 b2 b3 b4) && s_ref02_End_0 (fsub r8 (s_ref20_speed_0 r0 r1 r2 r3 r4 r5 r6 r7 r8 r9 r10 r11 r12 r13 a0 a1 a2 a3 a4 b0 b1 b2 b3 b4))) = e1
  generalize (s_ref02_End_0 (s_ref01_Clamp_0 (fadd r11 (fdiv (fsub r8 (s_ref20_speed_0 r0 r1 r2 r3 r4 r5 r6 r7 r8 r9 r10 r11 r12 r13 a0 a1 a2 a3 a4 b0 b1 b2 b3 b4)) (s_ref20_weight_0 r0 r1 r2 r3 r4 r5 r6 r7 r8 r9 r10 r11 r12 r13 a0 a1 a2 a3 a4 b0 b1 b2 b3 b4))) r9 r10) && s_ref02_End_0 (fsub (s_ref01_Clamp_0 (fadd r11 (fdiv (fsub r8 (s_ref20_speed_0 r0 r1 r2 r3 r4 r5 r6 r7 r8 r9 r10 r11 r12 r13 a0 a1 a2 a3 a4 b0 b1 b2 b3 b4)) (s_ref20_weight_0 r0 r1 r2 r3 r4 r5 r6 r7 r8 r9 r10 r11 r12 r13 a0 a1 a2 a3 a4 b0 b1 b2 b3 b4))) r9 r10) r11)) = e2
  generalize flt 0 (s_ref20_weight_0 r0 r1 r2 r3 r4 r5 r6 r7 r8 r9 r10 r11 r12 r13 a0 a1 a2 a3 a4 b0 b1 b2 b3 b4) = e3
  cases s_ref20_all_0 r0 r1 r2 r3 r4 r5 r6 r7 r8 r9 r10 r11 r12 r13 a0 a1 a2 a3 a4 b0 b1 b2 b3 b4 <;> cases e1 <;> cases e2 <;> cases e3 <;> rfl
theorem one_13 (r0 : Int) (r1 : Int) (r2 : Nat) (r3 : Nat) (r4 : Nat) (r5 : Nat) (r6 : Nat) (r7 : Nat) (r8 : Nat) (r9 : Nat) (r10 : Nat) (r11 : Nat) (r12 : Int) (r13 : Nat) (a0 : Nat) (a1 : Nat) (a2 : Nat) (a3 : Nat) (a4 : Nat) (b0 : Nat) (b1 : Nat) (b2 : Nat) (b3 : Nat) (b4 : Nat) (cr2 : CF r2) (cr3 : CF r3) (cr4 : CF r4) (cr5 : CF r5) (cr6 : CF r6) (cr7 : CF r7) (cr8 : CF r8) (cr9 : CF r9) (cr10 : CF r10) (cr11 : CF r11) (cr13 : CF r13) (ca0 : CF a0) (ca1 : CF a1) (ca2 : CF a2) (ca3 : CF a3) (ca4 : CF a4) (cb0 : CF b0) (cb1 : CF b1) (cb2 : CF b2) (cb3 : CF b3) (cb4 : CF b4) : s_rows_One_13 r0 r1 r2 r3 r4 r5 r6 r7 r8 r9 r10 r11 r12 r13 a0 a1 a2 a3 a4 b0 b1 b2 b3 b4 = s_ref20_One_13 r0 r1 r2 r3 r4 r5 r6 r7 r8 r9 r10 r11 r12 r13 a0 a1 a2 a3 a4 b0 b1 b2 b3 b4 := by
  unfold s_rows_One_13 s_ref20_One_13
  simp only []
  rw [asked_eq, ieq_asked, speed_eq, weight_eq, clamp_eq (CF.add _ _) cr9 cr10, fin2, fin2]
  generalize (s_ref02_End_0 (s_ref20_weight_0 r0 r1 r2 r3 r4 r5 r6 r7 r8 r9 r10 r11 r12 r13 a0 a1 a2 a3 a4 b0 b1 b2 b3 b4) && s_ref02_End_0 (fsub r8 (s_ref20_speed_0 r0 r1 r2 r3 r4 r5 r6 r7 r8 r9 r10 r11 r12 r13 a0 a1 a2 a3 a4 b0 b1 b2 b3 b4))) = e1
  generalize (s_ref02_End_0 (s_ref01_Clamp_0 (fadd r11 (fdiv (fsub r8 (s_ref20_speed_0 r0 r1 r2 r3 r4 r5 r6 r7 r8 r9 r10 r11 r12 r13 a0 a1 a2 a3 a4 b0 b1 b2 b3 b4)) (s_ref20_weight_0 r0 r1 r2 r3 r4 r5 r6 r7 r8 r9 r10 r11 r12 r13 a0 a1 a2 a3 a4 b0 b1 b2 b3 b4))) r9 r10) && s_ref02_End_0 (fsub (s_ref01_Clamp_0 (fadd r11 (fdiv (fsub r8 (s_ref20_speed_0 r0 r1 r2 r3 r4 r5 r6 r7 r8 r9 r10 r11 r12 r13 a0 a1 a2 a3 a4 b0 b1 b2 b3 b4)) (s_ref20_weight_0 r0 r1 r2 r3 r4 r5 r6 r7 r8 r9 r10 r11 r12 r13 a0 a1 a2 a3 a4 b0 b1 b2 b3 b4))) r9 r10) r11)) = e2
  generalize flt 0 (s_ref20_weight_0 r0 r1 r2 r3 r4 r5 r6 r7 r8 r9 r10 r11 r12 r13 a0 a1 a2 a3 a4 b0 b1 b2 b3 b4) = e3
  cases s_ref20_all_0 r0 r1 r2 r3 r4 r5 r6 r7 r8 r9 r10 r11 r12 r13 a0 a1 a2 a3 a4 b0 b1 b2 b3 b4 <;> cases e1 <;> cases e2 <;> cases e3 <;> rfl
theorem one_14 (r0 : Int) (r1 : Int) (r2 : Nat) (r3 : Nat) (r4 : Nat) (r5 : Nat) (r6 : Nat) (r7 : Nat) (r8 : Nat) (r9 : Nat) (r10 : Nat) (r11 : Nat) (r12 : Int) (r13 : Nat) (a0 : Nat) (a1 : Nat) (a2 : Nat) (a3 : Nat) (a4 : Nat) (b0 : Nat) (b1 : Nat) (b2 : Nat) (b3 : Nat) (b4 : Nat) (cr2 : CF r2) (cr3 : CF r3) (cr4 : CF r4) (cr5 : CF r5) (cr6 : CF r6) (cr7 : CF r7) (cr8 : CF r8) (cr9 : CF r9) (cr10 : CF r10) (cr11 : CF r11) (cr13 : CF r13) (ca0 : CF a0) (ca1 : CF a1) (ca2 : CF a2) (ca3 : CF a3) (ca4 : CF a4) (cb0 : CF b0) (cb1 : CF b1) (cb2 : CF b2) (cb3 : CF b3) (cb4 : CF b4) : s_rows_One_14 r0 r1 r2 r3 r4 r5 r6 r7 r8 r9 r10 r11 r12 r13 a0 a1 a2 a3 a4 b0 b1 b2 b3 b4 = s_ref20_One_14 r0 r1 r2 r3 r4 r5 r6 r7 r8 r9 r10 r11 r12 r13 a0 a1 a2 a3 a4 b0 b1 b2 b3 b4 := by
  unfold s_rows_One_14 s_ref20_One_14
  simp only []
  rw [asked_eq, ieq_asked, speed_eq, weight_eq, clamp_eq (CF.add _ _) cr9 cr10, fin2, fin2]
  rw [push_0]
  generalize (s_ref02_End_0 (s_ref20_weight_0 r0 r1 r2 r3 r4 r5 r6 r7 r8 r9 r10 r11 r12 r13 a0 a1 a2 a3 a4 b0 b1 b2 b3 b4) && s_ref02_End_0 (fsub r8 (s_ref20_speed_0 r0 r1 r2 r3 r4 r5 r6 r7 r8 r9 r10 r11 r12 r13 a0 a1 a2 a3 a4 b0 b1 b2 b3 b4))) = e1
  generalize (s_ref02_End_0 (s_ref01_Clamp_0 (fadd r11 (fdiv (fsub r8 (s_ref20_speed_0 r0 r1 r2 r3 r4 r5 r6 r7 r8 r9 r10 r11 r12 r13 a0 a1 a2 a3 a4 b0 b1 b2 b3 b4)) (s_ref20_weight_0 r0 r1 r2 r3 r4 r5 r6 r7 r8 r9 r10 r11 r12 r13 a0 a1 a2 a3 a4 b0 b1 b2 b3 b4))) r9 r10) && s_ref02_End_0 (fsub (s_ref01_Clamp_0 (fadd r11 (fdiv (fsub r8 (s_ref20_speed_0 r0 r1 r2 r3 r4 r5 r6 r7 r8 r9 r10 r11 r12 r13 a0 a1 a2 a3 a4 b0 b1 b2 b3 b4)) (s_ref20_weight_0 r0 r1 r2 r3 r4 r5 r6 r7 r8 r9 r10 r11 r12 r13 a0 a1 a2 a3 a4 b0 b1 b2 b3 b4))) r9 r10) r11)) = e2
  generalize flt 0 (s_ref20_weight_0 r0 r1 r2 r3 r4 r5 r6 r7 r8 r9 r10 r11 r12 r13 a0 a1 a2 a3 a4 b0 b1 b2 b3 b4) = e3
  cases s_ref20_all_0 r0 r1 r2 r3 r4 r5 r6 r7 r8 r9 r10 r11 r12 r13 a0 a1 a2 a3 a4 b0 b1 b2 b3 b4 <;> cases e1 <;> cases e2 <;> cases e3 <;> rfl
theorem one_15 (r0 : Int) (r1 : Int) (r2 : Nat) (r3 : Nat) (r4 : Nat) (r5 : Nat) (r6 : Nat) (r7 : Nat) (r8 : Nat) (r9 : Nat) (r10 : Nat) (r11 : Nat) (r12 : Int) (r13 : Nat) (a0 : Nat) (a1 : Nat) (a2 : Nat) (a3 : Nat) (a4 : Nat) (b0 : Nat) (b1 : Nat) (b2 : Nat) (b3 : Nat) (b4 : Nat) (cr2 : CF r2) (cr3 : CF r3) (cr4 : CF r4) (cr5 : CF r5) (cr6 : CF r6) (cr7 : CF r7) (cr8 : CF r8) (cr9 : CF r9) (cr10 : CF r10) (cr11 : CF r11) (cr13 : CF r13) (ca0 : CF a0) (ca1 : CF a1) (ca2 : CF a2) (ca3 : CF a3) (ca4 : CF a4) (cb0 : CF b0) (cb1 : CF b1) (cb2 : CF b2) (cb3 : CF b3) (cb4 : CF b4) : s_rows_One_15 r0 r1 r2 r3 r4 r5 r6 r7 r8 r9 r10 r11 r12 r13 a0 a1 a2 a3 a4 b0 b1 b2 b3 b4 = s_ref20_One_15 r0 r1 r2 r3 r4 r5 r6 r7 r8 r9 r10 r11 r12 r13 a0 a1 a2 a3 a4 b0 b1 b2 b3 b4 := by
  unfold s_rows_One_15 s_ref20_One_15
  simp only []
  rw [asked_eq, ieq_asked, speed_eq, weight_eq, clamp_eq (CF.add _ _) cr9 cr10, fin2, fin2]
  rw [push_1]
  generalize (s_ref02_End_0 (s_ref20_weight_0 r0 r1 r2 r3 r4 r5 r6 r7 r8 r9 r10 r11 r12 r13 a0 a1 a2 a3 a4 b0 b1 b2 b3 b4) && s_ref02_End_0 (fsub r8 (s_ref20_speed_0 r0 r1 r2 r3 r4 r5 r6 r7 r8 r9 r10 r11 r12 r13 a0 a1 a2 a3 a4 b0 b1 b2 b3 b4))) = e1
  generalize (s_ref02_End_0 (s_ref01_Clamp_0 (fadd r11 (fdiv (fsub r8 (s_ref20_speed_0 r0 r1 r2 r3 r4 r5 r6 r7 r8 r9 r10 r11 r12 r13 a0 a1 a2 a3 a4 b0 b1 b2 b3 b4)) (s_ref20_weight_0 r0 r1 r2 r3 r4 r5 r6 r7 r8 r9 r10 r11 r12 r13 a0 a1 a2 a3 a4 b0 b1 b2 b3 b4))) r9 r10) && s_ref02_End_0 (fsub (s_ref01_Clamp_0 (fadd r11 (fdiv (fsub r8 (s_ref20_speed_0 r0 r1 r2 r3 r4 r5 r6 r7 r8 r9 r10 r11 r12 r13 a0 a1 a2 a3 a4 b0 b1 b2 b3 b4)) (s_ref20_weight_0 r0 r1 r2 r3 r4 r5 r6 r7 r8 r9 r10 r11 r12 r13 a0 a1 a2 a3 a4 b0 b1 b2 b3 b4))) r9 r10) r11)) = e2
  generalize flt 0 (s_ref20_weight_0 r0 r1 r2 r3 r4 r5 r6 r7 r8 r9 r10 r11 r12 r13 a0 a1 a2 a3 a4 b0 b1 b2 b3 b4) = e3
  cases s_ref20_all_0 r0 r1 r2 r3 r4 r5 r6 r7 r8 r9 r10 r11 r12 r13 a0 a1 a2 a3 a4 b0 b1 b2 b3 b4 <;> cases e1 <;> cases e2 <;> cases e3 <;> rfl
theorem one_16 (r0 : Int) (r1 : Int) (r2 : Nat) (r3 : Nat) (r4 : Nat) (r5 : Nat) (r6 : Nat) (r7 : Nat) (r8 : Nat) (r9 : Nat) (r10 : Nat) (r11 : Nat) (r12 : Int) (r13 : Nat) (a0 : Nat) (a1 : Nat) (a2 : Nat) (a3 : Nat) (a4 : Nat) (b0 : Nat) (b1 : Nat) (b2 : Nat) (b3 : Nat) (b4 : Nat) (cr2 : CF r2) (cr3 : CF r3) (cr4 : CF r4) (cr5 : CF r5) (cr6 : CF r6) (cr7 : CF r7) (cr8 : CF r8) (cr9 : CF r9) (cr10 : CF r10) (cr11 : CF r11) (cr13 : CF r13) (ca0 : CF a0) (ca1 : CF a1) (ca2 : CF a2) (ca3 : CF a3) (ca4 : CF a4) (cb0 : CF b0) (cb1 : CF b1) (cb2 : CF b2) (cb3 : CF b3) (cb4 : CF b4) : s_rows_One_16 r0 r1 r2 r3 r4 r5 r6 r7 r8 r9 r10 r11 r12 r13 a0 a1 a2 a3 a4 b0 b1 b2 b3 b4 = s_ref20_One_16 r0 r1 r2 r3 r4 r5 r6 r7 r8 r9 r10 r11 r12 r13 a0 a1 a2 a3 a4 b0 b1 b2 b3 b4 := by
  unfold s_rows_One_16 s_ref20_One_16
  simp only []
  rw [asked_eq, ieq_asked, speed_eq, weight_eq, clamp_eq (CF.add _ _) cr9 cr10, fin2, fin2]
  rw [push_2]
  generalize (s_ref02_End_0 (s_ref20_weight_0 r0 r1 r2 r3 r4 r5 r6 r7 r8 r9 r10 r11 r12 r13 a0 a1 a2 a3 a4 b0 b1 b2 b3 b4) && s_ref02_End_0 (fsub r8 (s_ref20_speed_0 r0 r1 r2 r3 r4 r5 r6 r7 r8 r9 r10 r11 r12 r13 a0 a1 a2 a3 a4 b0 b1 b2 b3 b4))) = e1
  generalize (s_ref02_End_0 (s_ref01_Clamp_0 (fadd r11 (fdiv (fsub r8 (s_ref20_speed_0 r0 r1 r2 r3 r4 r5 r6 r7 r8 r9 r10 r11 r12 r13 a0 a1 a2 a3 a4 b0 b1 b2 b3 b4)) (s_ref20_weight_0 r0 r1 r2 r3 r4 r5 r6 r7 r8 r9 r10 r11 r12 r13 a0 a1 a2 a3 a4 b0 b1 b2 b3 b4))) r9 r10) && s_ref02_End_0 (fsub (s_ref01_Clamp_0 (fadd r11 (fdiv (fsub r8 (s_ref20_speed_0 r0 r1 r2 r3 r4 r5 r6 r7 r8 r9 r10 r11 r12 r13 a0 a1 a2 a3 a4 b0 b1 b2 b3 b4)) (s_ref20_weight_0 r0 r1 r2 r3 r4 r5 r6 r7 r8 r9 r10 r11 r12 r13 a0 a1 a2 a3 a4 b0 b1 b2 b3 b4))) r9 r10) r11)) = e2
  generalize flt 0 (s_ref20_weight_0 r0 r1 r2 r3 r4 r5 r6 r7 r8 r9 r10 r11 r12 r13 a0 a1 a2 a3 a4 b0 b1 b2 b3 b4) = e3
  cases s_ref20_all_0 r0 r1 r2 r3 r4 r5 r6 r7 r8 r9 r10 r11 r12 r13 a0 a1 a2 a3 a4 b0 b1 b2 b3 b4 <;> cases e1 <;> cases e2 <;> cases e3 <;> rfl
theorem one_17 (r0 : Int) (r1 : Int) (r2 : Nat) (r3 : Nat) (r4 : Nat) (r5 : Nat) (r6 : Nat) (r7 : Nat) (r8 : Nat) (r9 : Nat) (r10 : Nat) (r11 : Nat) (r12 : Int) (r13 : Nat) (a0 : Nat) (a1 : Nat) (a2 : Nat) (a3 : Nat) (a4 : Nat) (b0 : Nat) (b1 : Nat) (b2 : Nat) (b3 : Nat) (b4 : Nat) (cr2 : CF r2) (cr3 : CF r3) (cr4 : CF r4) (cr5 : CF r5) (cr6 : CF r6) (cr7 : CF r7) (cr8 : CF r8) (cr9 : CF r9) (cr10 : CF r10) (cr11 : CF r11) (cr13 : CF r13) (ca0 : CF a0) (ca1 : CF a1) (ca2 : CF a2) (ca3 : CF a3) (ca4 : CF a4) (cb0 : CF b0) (cb1 : CF b1) (cb2 : CF b2) (cb3 : CF b3) (cb4 : CF b4) : s_rows_One_17 r0 r1 r2 r3 r4 r5 r6 r7 r8 r9 r10 r11 r12 r13 a0 a1 a2 a3 a4 b0 b1 b2 b3 b4 = s_ref20_One_17 r0 r1 r2 r3 r4 r5 r6 r7 r8 r9 r10 r11 r12 r13 a0 a1 a2 a3 a4 b0 b1 b2 b3 b4 := by
  unfold s_rows_One_17 s_ref20_One_17
  simp only []
  rw [asked_eq, ieq_asked, speed_eq, weight_eq, clamp_eq (CF.add _ _) cr9 cr10, fin2, fin2]
  rw [push_3]
  generalize (s_ref02_End_0 (s_ref20_weight_0 r0 r1 r2 r3 r4 r5 r6 r7 r8 r9 r10 r11 r12 r13 a0 a1 a2 a3 a4 b0 b1 b2 b3 b4) && s_ref02_End_0 (fsub r8 (s_ref20_speed_0 r0 r1 r2 r3 r4 r5 r6 r7 r8 r9 r10 r11 r12 r13 a0 a1 a2 a3 a4 b0 b1 b2 b3 b4))) = e1
  generalize (s_ref02_End_0 (s_ref01_Clamp_0 (fadd r11 (fdiv (fsub r8 (s_ref20_speed_0 r0 r1 r2 r3 r4 r5 r6 r7 r8 r9 r10 r11 r12 r13 a0 a1 a2 a3 a4 b0 b1 b2 b3 b4)) (s_ref20_weight_0 r0 r1 r2 r3 r4 r5 r6 r7 r8 r9 r10 r11 r12 r13 a0 a1 a2 a3 a4 b0 b1 b2 b3 b4))) r9 r10) && s_ref02_End_0 (fsub (s_ref01_Clamp_0 (fadd r11 (fdiv (fsub r8 (s_ref20_speed_0 r0 r1 r2 r3 r4 r5 r6 r7 r8 r9 r10 r11 r12 r13 a0 a1 a2 a3 a4 b0 b1 b2 b3 b4)) (s_ref20_weight_0 r0 r1 r2 r3 r4 r5 r6 r7 r8 r9 r10 r11 r12 r13 a0 a1 a2 a3 a4 b0 b1 b2 b3 b4))) r9 r10) r11)) = e2
  generalize flt 0 (s_ref20_weight_0 r0 r1 r2 r3 r4 r5 r6 r7 r8 r9 r10 r11 r12 r13 a0 a1 a2 a3 a4 b0 b1 b2 b3 b4) = e3
  cases s_ref20_all_0 r0 r1 r2 r3 r4 r5 r6 r7 r8 r9 r10 r11 r12 r13 a0 a1 a2 a3 a4 b0 b1 b2 b3 b4 <;> cases e1 <;> cases e2 <;> cases e3 <;> rfl
theorem one_18 (r0 : Int) (r1 : Int) (r2 : Nat) (r3 : Nat) (r4 : Nat) (r5 : Nat) (r6 : Nat) (r7 : Nat) (r8 : Nat) (r9 : Nat) (r10 : Nat) (r11 : Nat) (r12 : Int) (r13 : Nat) (a0 : Nat) (a1 : Nat) (a2 : Nat) (a3 : Nat) (a4 : Nat) (b0 : Nat) (b1 : Nat) (b2 : Nat) (b3 : Nat) (b4 : Nat) (cr2 : CF r2) (cr3 : CF r3) (cr4 : CF r4) (cr5 : CF r5) (cr6 : CF r6) (cr7 : CF r7) (cr8 : CF r8) (cr9 : CF r9) (cr10 : CF r10) (cr11 : CF r11) (cr13 : CF r13) (ca0 : CF a0) (ca1 : CF a1) (ca2 : CF a2) (ca3 : CF a3) (ca4 : CF a4) (cb0 : CF b0) (cb1 : CF b1) (cb2 : CF b2) (cb3 : CF b3) (cb4 : CF b4) : s_rows_One_18 r0 r1 r2 r3 r4 r5 r6 r7 r8 r9 r10 r11 r12 r13 a0 a1 a2 a3 a4 b0 b1 b2 b3 b4 = s_ref20_One_18 r0 r1 r2 r3 r4 r5 r6 r7 r8 r9 r10 r11 r12 r13 a0 a1 a2 a3 a4 b0 b1 b2 b3 b4 := by
  unfold s_rows_One_18 s_ref20_One_18
  simp only []
  rw [asked_eq, ieq_asked, speed_eq, weight_eq, clamp_eq (CF.add _ _) cr9 cr10, fin2, fin2]
  rw [push_4]
  generalize (s_ref02_End_0 (s_ref20_weight_0 r0 r1 r2 r3 r4 r5 r6 r7 r8 r9 r10 r11 r12 r13 a0 a1 a2 a3 a4 b0 b1 b2 b3 b4) && s_ref02_End_0 (fsub r8 (s_ref20_speed_0 r0 r1 r2 r3 r4 r5 r6 r7 r8 r9 r10 r11 r12 r13 a0 a1 a2 a3 a4 b0 b1 b2 b3 b4))) = e1
  generalize (s_ref02_End_0 (s_ref01_Clamp_0 (fadd r11 (fdiv (fsub r8 (s_ref20_speed_0 r0 r1 r2 r3 r4 r5 r6 r7 r8 r9 r10 r11 r12 r13 a0 a1 a2 a3 a4 b0 b1 b2 b3 b4)) (s_ref20_weight_0 r0 r1 r2 r3 r4 r5 r6 r7 r8 r9 r10 r11 r12 r13 a0 a1 a2 a3 a4 b0 b1 b2 b3 b4))) r9 r10) && s_ref02_End_0 (fsub (s_ref01_Clamp_0 (fadd r11 (fdiv (fsub r8 (s_ref20_speed_0 r0 r1 r2 r3 r4 r5 r6 r7 r8 r9 r10 r11 r12 r13 a0 a1 a2 a3 a4 b0 b1 b2 b3 b4)) (s_ref20_weight_0 r0 r1 r2 r3 r4 r5 r6 r7 r8 r9 r10 r11 r12 r13 a0 a1 a2 a3 a4 b0 b1 b2 b3 b4))) r9 r10) r11)) = e2
  generalize flt 0 (s_ref20_weight_0 r0 r1 r2 r3 r4 r5 r6 r7 r8 r9 r10 r11 r12 r13 a0 a1 a2 a3 a4 b0 b1 b2 b3 b4) = e3
  cases s_ref20_all_0 r0 r1 r2 r3 r4 r5 r6 r7 r8 r9 r10 r11 r12 r13 a0 a1 a2 a3 a4 b0 b1 b2 b3 b4 <;> cases e1 <;> cases e2 <;> cases e3 <;> rfl
theorem one_19 (r0 : Int) (r1 : Int) (r2 : Nat) (r3 : Nat) (r4 : Nat) (r5 : Nat) (r6 : Nat) (r7 : Nat) (r8 : Nat) (r9 : Nat) (r10 : Nat) (r11 : Nat) (r12 : Int) (r13 : Nat) (a0 : Nat) (a1 : Nat) (a2 : Nat) (a3 : Nat) (a4 : Nat) (b0 : Nat) (b1 : Nat) (b2 : Nat) (b3 : Nat) (b4 : Nat) (cr2 : CF r2) (cr3 : CF r3) (cr4 : CF r4) (cr5 : CF r5) (cr6 : CF r6) (cr7 : CF r7) (cr8 : CF r8) (cr9 : CF r9) (cr10 : CF r10) (cr11 : CF r11) (cr13 : CF r13) (ca0 : CF a0) (ca1 : CF a1) (ca2 : CF a2) (ca3 : CF a3) (ca4 : CF a4) (cb0 : CF b0) (cb1 : CF b1) (cb2 : CF b2) (cb3 : CF b3) (cb4 : CF b4) : s_rows_One_19 r0 r1 r2 r3 r4 r5 r6 r7 r8 r9 r10 r11 r12 r13 a0 a1 a2 a3 a4 b0 b1 b2 b3 b4 = s_ref20_One_19 r0 r1 r2 r3 r4 r5 r6 r7 r8 r9 r10 r11 r12 r13 a0 a1 a2 a3 a4 b0 b1 b2 b3 b4 := by
  unfold s_rows_One_19 s_ref20_One_19
  simp only []
  rw [asked_eq, ieq_asked, speed_eq, weight_eq, clamp_eq (CF.add _ _) cr9 cr10, fin2, fin2]
  rw [push_5]
  generalize (s_ref02_End_0 (s_ref20_weight_0 r0 r1 r2 r3 r4 r5 r6 r7 r8 r9 r10 r11 r12 r13 a0 a1 a2 a3 a4 b0 b1 b2 b3 b4) && s_ref02_End_0 (fsub r8 (s_ref20_speed_0 r0 r1 r2 r3 r4 r5 r6 r7 r8 r9 r10 r11 r12 r13 a0 a1 a2 a3 a4 b0 b1 b2 b3 b4))) = e1
  generalize (s_ref02_End_0 (s_ref01_Clamp_0 (fadd r11 (fdiv (fsub r8 (s_ref20_speed_0 r0 r1 r2 r3 r4 r5 r6 r7 r8 r9 r10 r11 r12 r13 a0 a1 a2 a3 a4 b0 b1 b2 b3 b4)) (s_ref20_weight_0 r0 r1 r2 r3 r4 r5 r6 r7 r8 r9 r10 r11 r12 r13 a0 a1 a2 a3 a4 b0 b1 b2 b3 b4))) r9 r10) && s_ref02_End_0 (fsub (s_ref01_Clamp_0 (fadd r11 (fdiv (fsub r8 (s_ref20_speed_0 r0 r1 r2 r3 r4 r5 r6 r7 r8 r9 r10 r11 r12 r13 a0 a1 a2 a3 a4 b0 b1 b2 b3 b4)) (s_ref20_weight_0 r0 r1 r2 r3 r4 r5 r6 r7 r8 r9 r10 r11 r12 r13 a0 a1 a2 a3 a4 b0 b1 b2 b3 b4))) r9 r10) r11)) = e2
  generalize flt 0 (s_ref20_weight_0 r0 r1 r2 r3 r4 r5 r6 r7 r8 r9 r10 r11 r12 r13 a0 a1 a2 a3 a4 b0 b1 b2 b3 b4) = e3
  cases s_ref20_all_0 r0 r1 r2 r3 r4 r5 r6 r7 r8 r9 r10 r11 r12 r13 a0 a1 a2 a3 a4 b0 b1 b2 b3 b4 <;> cases e1 <;> cases e2 <;> cases e3 <;> rfl
theorem one_20 (r0 : Int) (r1 : Int) (r2 : Nat) (r3 : Nat) (r4 : Nat) (r5 : Nat) (r6 : Nat) (r7 : Nat) (r8 : Nat) (r9 : Nat) (r10 : Nat) (r11 : Nat) (r12 : Int) (r13 : Nat) (a0 : Nat) (a1 : Nat) (a2 : Nat) (a3 : Nat) (a4 : Nat) (b0 : Nat) (b1 : Nat) (b2 : Nat) (b3 : Nat) (b4 : Nat) (cr2 : CF r2) (cr3 : CF r3) (cr4 : CF r4) (cr5 : CF r5) (cr6 : CF r6) (cr7 : CF r7) (cr8 : CF r8) (cr9 : CF r9) (cr10 : CF r10) (cr11 : CF r11) (cr13 : CF r13) (ca0 : CF a0) (ca1 : CF a1) (ca2 : CF a2) (ca3 : CF a3) (ca4 : CF a4) (cb0 : CF b0) (cb1 : CF b1) (cb2 : CF b2) (cb3 : CF b3) (cb4 : CF b4) : s_rows_One_20 r0 r1 r2 r3 r4 r5 r6 r7 r8 r9 r10 r11 r12 r13 a0 a1 a2 a3 a4 b0 b1 b2 b3 b4 = s_ref20_One_20 r0 r1 r2 r3 r4 r5 r6 r7 r8 r9 r10 r11 r12 r13 a0 a1 a2 a3 a4 b0 b1 b2 b3 b4 := by
  unfold s_rows_One_20 s_ref20_One_20
  simp only []
  rw [asked_eq, ieq_asked, speed_eq, weight_eq, clamp_eq (CF.add _ _) cr9 cr10, fin2, fin2]
  rw [push_6]
  generalize (s_ref02_End_0 (s_ref20_weight_0 r0 r1 r2 r3 r4 r5 r6 r7 r8 r9 r10 r11 r12 r13 a0 a1 a2 a3 a4 b0 b1 b2 b3 b4) && s_ref02_End_0 (fsub r8 (s_ref20_speed_0 r0 r1 r2 r3 r4 r5 r6 r7 r8 r9 r10 r11 r12 r13 a0 a1 a2 a3 a4 b0 b1 b2 b3 b4))) = e1
  generalize (s_ref02_End_0 (s_ref01_Clamp_0 (fadd r11 (fdiv (fsub r8 (s_ref20_speed_0 r0 r1 r2 r3 r4 r5 r6 r7 r8 r9 r10 r11 r12 r13 a0 a1 a2 a3 a4 b0 b1 b2 b3 b4)) (s_ref20_weight_0 r0 r1 r2 r3 r4 r5 r6 r7 r8 r9 r10 r11 r12 r13 a0 a1 a2 a3 a4 b0 b1 b2 b3 b4))) r9 r10) && s_ref02_End_0 (fsub (s_ref01_Clamp_0 (fadd r11 (fdiv (fsub r8 (s_ref20_speed_0 r0 r1 r2 r3 r4 r5 r6 r7 r8 r9 r10 r11 r12 r13 a0 a1 a2 a3 a4 b0 b1 b2 b3 b4)) (s_ref20_weight_0 r0 r1 r2 r3 r4 r5 r6 r7 r8 r9 r10 r11 r12 r13 a0 a1 a2 a3 a4 b0 b1 b2 b3 b4))) r9 r10) r11)) = e2
  generalize flt 0 (s_ref20_weight_0 r0 r1 r2 r3 r4 r5 r6 r7 r8 r9 r10 r11 r12 r13 a0 a1 a2 a3 a4 b0 b1 b2 b3 b4) = e3
  cases s_ref20_all_0 r0 r1 r2 r3 r4 r5 r6 r7 r8 r9 r10 r11 r12 r13 a0 a1 a2 a3 a4 b0 b1 b2 b3 b4 <;> cases e1 <;> cases e2 <;> cases e3 <;> rfl
theorem one_21 (r0 : Int) (r1 : Int) (r2 : Nat) (r3 : Nat) (r4 : Nat) (r5 : Nat) (r6 : Nat) (r7 : Nat) (r8 : Nat) (r9 : Nat) (r10 : Nat) (r11 : Nat) (r12 : Int) (r13 : Nat) (a0 : Nat) (a1 : Nat) (a2 : Nat) (a3 : Nat) (a4 : Nat) (b0 : Nat) (b1 : Nat) (b2 : Nat) (b3 : Nat) (b4 : Nat) (cr2 : CF r2) (cr3 : CF r3) (cr4 : CF r4) (cr5 : CF r5) (cr6 : CF r6) (cr7 : CF r7) (cr8 : CF r8) (cr9 : CF r9) (cr10 : CF r10) (cr11 : CF r11) (cr13 : CF r13) (ca0 : CF a0) (ca1 : CF a1) (ca2 : CF a2) (ca3 : CF a3) (ca4 : CF a4) (cb0 : CF b0) (cb1 : CF b1) (cb2 : CF b2) (cb3 : CF b3) (cb4 : CF b4) : s_rows_One_21 r0 r1 r2 r3 r4 r5 r6 r7 r8 r9 r10 r11 r12 r13 a0 a1 a2 a3 a4 b0 b1 b2 b3 b4 = s_ref20_One_21 r0 r1 r2 r3 r4 r5 r6 r7 r8 r9 r10 r11 r12 r13 a0 a1 a2 a3 a4 b0 b1 b2 b3 b4 := by
  unfold s_rows_One_21 s_ref20_One_21
  simp only []
  rw [asked_eq, ieq_asked, speed_eq, weight_eq, clamp_eq (CF.add _ _) cr9 cr10, fin2, fin2]
  rw [push_7]
  generalize (s_ref02_End_0 (s_ref20_weight_0 r0 r1 r2 r3 r4 r5 r6 r7 r8 r9 r10 r11 r12 r13 a0 a1 a2 a3 a4 b0 b1 b2 b3 b4) && s_ref02_End_0 (fsub r8 (s_ref20_speed_0 r0 r1 r2 r3 r4 r5 r6 r7 r8 r9 r10 r11 r12 r13 a0 a1 a2 a3 a4 b0 b1 b2 b3 b4))) = e1
  generalize (s_ref02_End_0 (s_ref01_Clamp_0 (fadd r11 (fdiv (fsub r8 (s_ref20_speed_0 r0 r1 r2 r3 r4 r5 r6 r7 r8 r9 r10 r11 r12 r13 a0 a1 a2 a3 a4 b0 b1 b2 b3 b4)) (s_ref20_weight_0 r0 r1 r2 r3 r4 r5 r6 r7 r8 r9 r10 r11 r12 r13 a0 a1 a2 a3 a4 b0 b1 b2 b3 b4))) r9 r10) && s_ref02_End_0 (fsub (s_ref01_Clamp_0 (fadd r11 (fdiv (fsub r8 (s_ref20_speed_0 r0 r1 r2 r3 r4 r5 r6 r7 r8 r9 r10 r11 r12 r13 a0 a1 a2 a3 a4 b0 b1 b2 b3 b4)) (s_ref20_weight_0 r0 r1 r2 r3 r4 r5 r6 r7 r8 r9 r10 r11 r12 r13 a0 a1 a2 a3 a4 b0 b1 b2 b3 b4))) r9 r10) r11)) = e2
  generalize flt 0 (s_ref20_weight_0 r0 r1 r2 r3 r4 r5 r6 r7 r8 r9 r10 r11 r12 r13 a0 a1 a2 a3 a4 b0 b1 b2 b3 b4) = e3
  cases s_ref20_all_0 r0 r1 r2 r3 r4 r5 r6 r7 r8 r9 r10 r11 r12 r13 a0 a1 a2 a3 a4 b0 b1 b2 b3 b4 <;> cases e1 <;> cases e2 <;> cases e3 <;> rfl
theorem one_22 (r0 : Int) (r1 : Int) (r2 : Nat) (r3 : Nat) (r4 : Nat) (r5 : Nat) (r6 : Nat) (r7 : Nat) (r8 : Nat) (r9 : Nat) (r10 : Nat) (r11 : Nat) (r12 : Int) (r13 : Nat) (a0 : Nat) (a1 : Nat) (a2 : Nat) (a3 : Nat) (a4 : Nat) (b0 : Nat) (b1 : Nat) (b2 : Nat) (b3 : Nat) (b4 : Nat) (cr2 : CF r2) (cr3 : CF r3) (cr4 : CF r4) (cr5 : CF r5) (cr6 : CF r6) (cr7 : CF r7) (cr8 : CF r8) (cr9 : CF r9) (cr10 : CF r10) (cr11 : CF r11) (cr13 : CF r13) (ca0 : CF a0) (ca1 : CF a1) (ca2 : CF a2) (ca3 : CF a3) (ca4 : CF a4) (cb0 : CF b0) (cb1 : CF b1) (cb2 : CF b2) (cb3 : CF b3) (cb4 : CF b4) : s_rows_One_22 r0 r1 r2 r3 r4 r5 r6 r7 r8 r9 r10 r11 r12 r13 a0 a1 a2 a3 a4 b0 b1 b2 b3 b4 = s_ref20_One_22 r0 r1 r2 r3 r4 r5 r6 r7 r8 r9 r10 r11 r12 r13 a0 a1 a2 a3 a4 b0 b1 b2 b3 b4 := by
  unfold s_rows_One_22 s_ref20_One_22
  simp only []
  rw [asked_eq, ieq_asked, speed_eq, weight_eq, clamp_eq (CF.add _ _) cr9 cr10, fin2, fin2]
  rw [push_8]
  generalize (s_ref02_End_0 (s_ref20_weight_0 r0 r1 r2 r3 r4 r5 r6 r7 r8 r9 r10 r11 r12 r13 a0 a1 a2 a3 a4 b0 b1 b2 b3 b4) && s_ref02_End_0 (fsub r8 (s_ref20_speed_0 r0 r1 r2 r3 r4 r5 r6 r7 r8 r9 r10 r11 r12 r13 a0 a1 a2 a3 a4 b0 b1 b2 b3 b4))) = e1
  generalize (s_ref02_End_0 (s_ref01_Clamp_0 (fadd r11 (fdiv (fsub r8 (s_ref20_speed_0 r0 r1 r2 r3 r4 r5 r6 r7 r8 r9 r10 r11 r12 r13 a0 a1 a2 a3 a4 b0 b1 b2 b3 b4)) (s_ref20_weight_0 r0 r1 r2 r3 r4 r5 r6 r7 r8 r9 r10 r11 r12 r13 a0 a1 a2 a3 a4 b0 b1 b2 b3 b4))) r9 r10) && s_ref02_End_0 (fsub (s_ref01_Clamp_0 (fadd r11 (fdiv (fsub r8 (s_ref20_speed_0 r0 r1 r2 r3 r4 r5 r6 r7 r8 r9 r10 r11 r12 r13 a0 a1 a2 a3 a4 b0 b1 b2 b3 b4)) (s_ref20_weight_0 r0 r1 r2 r3 r4 r5 r6 r7 r8 r9 r10 r11 r12 r13 a0 a1 a2 a3 a4 b0 b1 b2 b3 b4))) r9 r10) r11)) = e2
  generalize flt 0 (s_ref20_weight_0 r0 r1 r2 r3 r4 r5 r6 r7 r8 r9 r10 r11 r12 r13 a0 a1 a2 a3 a4 b0 b1 b2 b3 b4) = e3
  cases s_ref20_all_0 r0 r1 r2 r3 r4 r5 r6 r7 r8 r9 r10 r11 r12 r13 a0 a1 a2 a3 a4 b0 b1 b2 b3 b4 <;> cases e1 <;> cases e2 <;> cases e3 <;> rfl
theorem one_23 (r0 : Int) (r1 : Int) (r2 : Nat) (r3 : Nat) (r4 : Nat) (r5 : Nat) (r6 : Nat) (r7 : Nat) (r8 : Nat) (r9 : Nat) (r10 : Nat) (r11 : Nat) (r12 : Int) (r13 : Nat) (a0 : Nat) (a1 : Nat) (a2 : Nat) (a3 : Nat) (a4 : Nat) (b0 : Nat) (b1 : Nat) (b2 : Nat) (b3 : Nat) (b4 : Nat) (cr2 : CF r2) (cr3 : CF r3) (cr4 : CF r4) (cr5 : CF r5) (cr6 : CF r6) (cr7 : CF r7) (cr8 : CF r8) (cr9 : CF r9) (cr10 : CF r10) (cr11 : CF r11) (cr13 : CF r13) (ca0 : CF a0) (ca1 : CF a1) (ca2 : CF a2) (ca3 : CF a3) (ca4 : CF a4) (cb0 : CF b0) (cb1 : CF b1) (cb2 : CF b2) (cb3 : CF b3) (cb4 : CF b4) : s_rows_One_23 r0 r1 r2 r3 r4 r5 r6 r7 r8 r9 r10 r11 r12 r13 a0 a1 a2 a3 a4 b0 b1 b2 b3 b4 = s_ref20_One_23 r0 r1 r2 r3 r4 r5 r6 r7 r8 r9 r10 r11 r12 r13 a0 a1 a2 a3 a4 b0 b1 b2 b3 b4 := by
  unfold s_rows_One_23 s_ref20_One_23
  simp only []
  rw [asked_eq, ieq_asked, speed_eq, weight_eq, clamp_eq (CF.add _ _) cr9 cr10, fin2, fin2]
  rw [push_9]
  generalize (s_ref02_End_0 (s_ref20_weight_0 r0 r1 r2 r3 r4 r5 r6 r7 r8 r9 r10 r11 r12 r13 a0 a1 a2 a3 a4 b0 b1 b2 b3 b4) && s_ref02_End_0 (fsub r8 (s_ref20_speed_0 r0 r1 r2 r3 r4 r5 r6 r7 r8 r9 r10 r11 r12 r13 a0 a1 a2 a3 a4 b0 b1 b2 b3 b4))) = e1
  generalize (s_ref02_End_0 (s_ref01_Clamp_0 (fadd r11 (fdiv (fsub r8 (s_ref20_speed_0 r0 r1 r2 r3 r4 r5 r6 r7 r8 r9 r10 r11 r12 r13 a0 a1 a2 a3 a4 b0 b1 b2 b3 b4)) (s_ref20_weight_0 r0 r1 r2 r3 r4 r5 r6 r7 r8 r9 r10 r11 r12 r13 a0 a1 a2 a3 a4 b0 b1 b2 b3 b4))) r9 r10) && s_ref02_End_0 (fsub (s_ref01_Clamp_0 (fadd r11 (fdiv (fsub r8 (s_ref20_speed_0 r0 r1 r2 r3 r4 r5 r6 r7 r8 r9 r10 r11 r12 r13 a0 a1 a2 a3 a4 b0 b1 b2 b3 b4)) (s_ref20_weight_0 r0 r1 r2 r3 r4 r5 r6 r7 r8 r9 r10 r11 r12 r13 a0 a1 a2 a3 a4 b0 b1 b2 b3 b4))) r9 r10) r11)) = e2
  generalize flt 0 (s_ref20_weight_0 r0 r1 r2 r3 r4 r5 r6 r7 r8 r9 r10 r11 r12 r13 a0 a1 a2 a3 a4 b0 b1 b2 b3 b4) = e3
  cases s_ref20_all_0 r0 r1 r2 r3 r4 r5 r6 r7 r8 r9 r10 r11 r12 r13 a0 a1 a2 a3 a4 b0 b1 b2 b3 b4 <;> cases e1 <;> cases e2 <;> cases e3 <;> rfl
theorem one_24 (r0 : Int) (r1 : Int) (r2 : Nat) (r3 : Nat) (r4 : Nat) (r5 : Nat) (r6 : Nat) (r7 : Nat) (r8 : Nat) (r9 : Nat) (r10 : Nat) (r11 : Nat) (r12 : Int) (r13 : Nat) (a0 : Nat) (a1 : Nat) (a2 : Nat) (a3 : Nat) (a4 : Nat) (b0 : Nat) (b1 : Nat) (b2 : Nat) (b3 : Nat) (b4 : Nat) (cr2 : CF r2) (cr3 : CF r3) (cr4 : CF r4) (cr5 : CF r5) (cr6 : CF r6) (cr7 : CF r7) (cr8 : CF r8) (cr9 : CF r9) (cr10 : CF r10) (cr11 : CF r11) (cr13 : CF r13) (ca0 : CF a0) (ca1 : CF a1) (ca2 : CF a2) (ca3 : CF a3) (ca4 : CF a4) (cb0 : CF b0) (cb1 : CF b1) (cb2 : CF b2) (cb3 : CF b3) (cb4 : CF b4) : s_rows_One_24 r0 r1 r2 r3 r4 r5 r6 r7 r8 r9 r10 r11 r12 r13 a0 a1 a2 a3 a4 b0 b1 b2 b3 b4 = s_ref20_One_24 r0 r1 r2 r3 r4 r5 r6 r7 r8 r9 r10 r11 r12 r13 a0 a1 a2 a3 a4 b0 b1 b2 b3 b4 := by
  unfold s_rows_One_24 s_ref20_One_24
  simp only []
  rw [asked_eq, ieq_asked, speed_eq, weight_eq, clamp_eq (CF.add _ _) cr9 cr10, fin2, fin2]
  generalize (s_ref02_End_0 (s_ref20_weight_0 r0 r1 r2 r3 r4 r5 r6 r7 r8 r9 r10 r11 r12 r13 a0 a1 a2 a3 a4 b0 b1 b2 b3 b4) && s_ref02_End_0 (fsub r8 (s_ref20_speed_0 r0 r1 r2 r3 r4 r5 r6 r7 r8 r9 r10 r11 r12 r13 a0 a1 a2 a3 a4 b0 b1 b2 b3 b4))) = e1
  generalize (s_ref02_End_0 (s_ref01_Clamp_0 (fadd r11 (fdiv (fsub r8 (s_ref20_speed_0 r0 r1 r2 r3 r4 r5 r6 r7 r8 r9 r10 r11 r12 r13 a0 a1 a2 a3 a4 b0 b1 b2 b3 b4)) (s_ref20_weight_0 r0 r1 r2 r3 r4 r5 r6 r7 r8 r9 r10 r11 r12 r13 a0 a1 a2 a3 a4 b0 b1 b2 b3 b4))) r9 r10) && s_ref02_End_0 (fsub (s_ref01_Clamp_0 (fadd r11 (fdiv (fsub r8 (s_ref20_speed_0 r0 r1 r2 r3 r4 r5 r6 r7 r8 r9 r10 r11 r12 r13 a0 a1 a2 a3 a4 b0 b1 b2 b3 b4)) (s_ref20_weight_0 r0 r1 r2 r3 r4 r5 r6 r7 r8 r9 r10 r11 r12 r13 a0 a1 a2 a3 a4 b0 b1 b2 b3 b4))) r9 r10) r11)) = e2
  generalize flt 0 (s_ref20_weight_0 r0 r1 r2 r3 r4 r5 r6 r7 r8 r9 r10 r11 r12 r13 a0 a1 a2 a3 a4 b0 b1 b2 b3 b4) = e3
  cases s_ref20_all_0 r0 r1 r2 r3 r4 r5 r6 r7 r8 r9 r10 r11 r12 r13 a0 a1 a2 a3 a4 b0 b1 b2 b3 b4 <;> cases e1 <;> cases e2 <;> cases e3 <;> rfl
theorem same_self (a b c d e : Nat) : s_ref20_Same_0 a b c d e a b c d e = true := by
  unfold s_ref20_Same_0 s_ref02_Same_0; simp only [is_self, Bool.and_self]
theorem row_self (r0 r1 : Int) (r2 r3 r4 r5 r6 r7 r8 r9 r10 r11 : Nat) (r12 : Int) (r13 : Nat) : s_ref20_SameRow_0 r0 r1 r2 r3 r4 r5 r6 r7 r8 r9 r10 r11 r12 r13 r0 r1 r2 r3 r4 r5 r6 r7 r8 r9 r10 r11 r12 r13 = true := by
  unfold s_ref20_SameRow_0 s_ref02_Same_0; simp only [is_self, ieq_self, Bool.and_self]
theorem law_RowOnes (r0 : Int) (r1 : Int) (r2 : Nat) (r3 : Nat) (r4 : Nat) (r5 : Nat) (r6 : Nat) (r7 : Nat) (r8 : Nat) (r9 : Nat) (r10 : Nat) (r11 : Nat) (r12 : Int) (r13 : Nat) (a0 : Nat) (a1 : Nat) (a2 : Nat) (a3 : Nat) (a4 : Nat) (b0 : Nat) (b1 : Nat) (b2 : Nat) (b3 : Nat) (b4 : Nat) (n m : Int) (k0 : IntKind.i64.min ≤ r0 ∧ r0 ≤ IntKind.i64.max) (k1 : IntKind.i64.min ≤ r1 ∧ r1 ≤ IntKind.i64.max) (cr2 : CF r2) (cr3 : CF r3) (cr4 : CF r4) (cr5 : CF r5) (cr6 : CF r6) (cr7 : CF r7) (cr8 : CF r8) (cr9 : CF r9) (cr10 : CF r10) (cr11 : CF r11) (k12 : IntKind.i64.min ≤ r12 ∧ r12 ≤ IntKind.i64.max) (cr13 : CF r13) (ca0 : CF a0) (ca1 : CF a1) (ca2 : CF a2) (ca3 : CF a3) (ca4 : CF a4) (cb0 : CF b0) (cb1 : CF b1) (cb2 : CF b2) (cb3 : CF b3) (cb4 : CF b4) (k14 : IntKind.i64.min ≤ n ∧ n ≤ IntKind.i64.max) (k15 : IntKind.i64.min ≤ m ∧ m ≤ IntKind.i64.max) : T_law20_RowOnes r0 r1 r2 r3 r4 r5 r6 r7 r8 r9 r10 r11 r12 r13 a0 a1 a2 a3 a4 b0 b1 b2 b3 b4 n m = true := by
  unfold T_law20_RowOnes
  rw [one_0 r0 r1 r2 r3 r4 r5 r6 r7 r8 r9 r10 r11 r12 r13 a0 a1 a2 a3 a4 b0 b1 b2 b3 b4 cr2 cr3 cr4 cr5 cr6 cr7 cr8 cr9 cr10 cr11 cr13 ca0 ca1 ca2 ca3 ca4 cb0 cb1 cb2 cb3 cb4, one_1 r0 r1 r2 r3 r4 r5 r6 r7 r8 r9 r10 r11 r12 r13 a0 a1 a2 a3 a4 b0 b1 b2 b3 b4 cr2 cr3 cr4 cr5 cr6 cr7 cr8 cr9 cr10 cr11 cr13 ca0 ca1 ca2 ca3 ca4 cb0 cb1 cb2 cb3 cb4, one_2 r0 r1 r2 r3 r4 r5 r6 r7 r8 r9 r10 r11 r12 r13 a0 a1 a2 a3 a4 b0 b1 b2 b3 b4 cr2 cr3 cr4 cr5 cr6 cr7 cr8 cr9 cr10 cr11 cr13 ca0 ca1 ca2 ca3 ca4 cb0 cb1 cb2 cb3 cb4, one_3 r0 r1 r2 r3 r4 r5 r6 r7 r8 r9 r10 r11 r12 r13 a0 a1 a2 a3 a4 b0 b1 b2 b3 b4 cr2 cr3 cr4 cr5 cr6 cr7 cr8 cr9 cr10 cr11 cr13 ca0 ca1 ca2 ca3 ca4 cb0 cb1 cb2 cb3 cb4, one_4 r0 r1 r2 r3 r4 r5 r6 r7 r8 r9 r10 r11 r12 r13 a0 a1 a2 a3 a4 b0 b1 b2 b3 b4 cr2 cr3 cr4 cr5 cr6 cr7 cr8 cr9 cr10 cr11 cr13 ca0 ca1 ca2 ca3 ca4 cb0 cb1 cb2 cb3 cb4, one_5 r0 r1 r2 r3 r4 r5 r6 r7 r8 r9 r10 r11 r12 r13 a0 a1 a2 a3 a4 b0 b1 b2 b3 b4 cr2 cr3 cr4 cr5 cr6 cr7 cr8 cr9 cr10 cr11 cr13 ca0 ca1 ca2 ca3 ca4 cb0 cb1 cb2 cb3 cb4, one_6 r0 r1 r2 r3 r4 r5 r6 r7 r8 r9 r10 r11 r12 r13 a0 a1 a2 a3 a4 b0 b1 b2 b3 b4 cr2 cr3 cr4 cr5 cr6 cr7 cr8 cr9 cr10 cr11 cr13 ca0 ca1 ca2 ca3 ca4 cb0 cb1 cb2 cb3 cb4, one_7 r0 r1 r2 r3 r4 r5 r6 r7 r8 r9 r10 r11 r12 r13 a0 a1 a2 a3 a4 b0 b1 b2 b3 b4 cr2 cr3 cr4 cr5 cr6 cr7 cr8 cr9 cr10 cr11 cr13 ca0 ca1 ca2 ca3 ca4 cb0 cb1 cb2 cb3 cb4, one_8 r0 r1 r2 r3 r4 r5 r6 r7 r8 r9 r10 r11 r12 r13 a0 a1 a2 a3 a4 b0 b1 b2 b3 b4 cr2 cr3 cr4 cr5 cr6 cr7 cr8 cr9 cr10 cr11 cr13 ca0 ca1 ca2 ca3 ca4 cb0 cb1 cb2 cb3 cb4, one_9 r0 r1 r2 r3 r4 r5 r6 r7 r8 r9 r10 r11 r12 r13 a0 a1 a2 a3 a4 b0 b1 b2 b3 b4 cr2 cr3 cr4 cr5 cr6 cr7 cr8 cr9 cr10 cr11 cr13 ca0 ca1 ca2 ca3 ca4 cb0 cb1 cb2 cb3 cb4, one_10 r0 r1 r2 r3 r4 r5 r6 r7 r8 r9 r10 r11 r12 r13 a0 a1 a2 a3 a4 b0 b1 b2 b3 b4 cr2 cr3 cr4 cr5 cr6 cr7 cr8 cr9 cr10 cr11 cr13 ca0 ca1 ca2 ca3 ca4 cb0 cb1 cb2 cb3 cb4, one_11 r0 r1 r2 r3 r4 r5 r6 r7 r8 r9 r10 r11 r12 r13 a0 a1 a2 a3 a4 b0 b1 b2 b3 b4 cr2 cr3 cr4 cr5 cr6 cr7 cr8 cr9 cr10 cr11 cr13 ca0 ca1 ca2 ca3 ca4 cb0 cb1 cb2 cb3 cb4, one_12 r0 r1 r2 r3 r4 r5 r6 r7 r8 r9 r10 r11 r12 r13 a0 a1 a2 a3 a4 b0 b1 b2 b3 b4 cr2 cr3 cr4 cr5 cr6 cr7 cr8 cr9 cr10 cr11 cr13 ca0 ca1 ca2 ca3 ca4 cb0 cb1 cb2 cb3 cb4, one_13 r0 r1 r2 r3 r4 r5 r6 r7 r8 r9 r10 r11 r12 r13 a0 a1 a2 a3 a4 b0 b1 b2 b3 b4 cr2 cr3 cr4 cr5 cr6 cr7 cr8 cr9 cr10 cr11 cr13 ca0 ca1 ca2 ca3 ca4 cb0 cb1 cb2 cb3 cb4, one_14 r0 r1 r2 r3 r4 r5 r6 r7 r8 r9 r10 r11 r12 r13 a0 a1 a2 a3 a4 b0 b1 b2 b3 b4 cr2 cr3 cr4 cr5 cr6 cr7 cr8 cr9 cr10 cr11 cr13 ca0 ca1 ca2 ca3 ca4 cb0 cb1 cb2 cb3 cb4, one_15 r0 r1 r2 r3 r4 r5 r6 r7 r8 r9 r10 r11 r12 r13 a0 a1 a2 a3 a4 b0 b1 b2 b3 b4 cr2 cr3 cr4 cr5 cr6 cr7 cr8 cr9 cr10 cr11 cr13 ca0 ca1 ca2 ca3 ca4 cb0 cb1 cb2 cb3 cb4, one_16 r0 r1 r2 r3 r4 r5 r6 r7 r8 r9 r10 r11 r12 r13 a0 a1 a2 a3 a4 b0 b1 b2 b3 b4 cr2 cr3 cr4 cr5 cr6 cr7 cr8 cr9 cr10 cr11 cr13 ca0 ca1 ca2 ca3 ca4 cb0 cb1 cb2 cb3 cb4, one_17 r0 r1 r2 r3 r4 r5 r6 r7 r8 r9 r10 r11 r12 r13 a0 a1 a2 a3 a4 b0 b1 b2 b3 b4 cr2 cr3 cr4 cr5 cr6 cr7 cr8 cr9 cr10 cr11 cr13 ca0 ca1 ca2 ca3 ca4 cb0 cb1 cb2 cb3 cb4, one_18 r0 r1 r2 r3 r4 r5 r6 r7 r8 r9 r10 r11 r12 r13 a0 a1 a2 a3 a4 b0 b1 b2 b3 b4 cr2 cr3 cr4 cr5 cr6 cr7 cr8 cr9 cr10 cr11 cr13 ca0 ca1 ca2 ca3 ca4 cb0 cb1 cb2 cb3 cb4, one_19 r0 r1 r2 r3 r4 r5 r6 r7 r8 r9 r10 r11 r12 r13 a0 a1 a2 a3 a4 b0 b1 b2 b3 b4 cr2 cr3 cr4 cr5 cr6 cr7 cr8 cr9 cr10 cr11 cr13 ca0 ca1 ca2 ca3 ca4 cb0 cb1 cb2 cb3 cb4, one_20 r0 r1 r2 r3 r4 r5 r6 r7 r8 r9 r10 r11 r12 r13 a0 a1 a2 a3 a4 b0 b1 b2 b3 b4 cr2 cr3 cr4 cr5 cr6 cr7 cr8 cr9 cr10 cr11 cr13 ca0 ca1 ca2 ca3 ca4 cb0 cb1 cb2 cb3 cb4, one_21 r0 r1 r2 r3 r4 r5 r6 r7 r8 r9 r10 r11 r12 r13 a0 a1 a2 a3 a4 b0 b1 b2 b3 b4 cr2 cr3 cr4 cr5 cr6 cr7 cr8 cr9 cr10 cr11 cr13 ca0 ca1 ca2 ca3 ca4 cb0 cb1 cb2 cb3 cb4, one_22 r0 r1 r2 r3 r4 r5 r6 r7 r8 r9 r10 r11 r12 r13 a0 a1 a2 a3 a4 b0 b1 b2 b3 b4 cr2 cr3 cr4 cr5 cr6 cr7 cr8 cr9 cr10 cr11 cr13 ca0 ca1 ca2 ca3 ca4 cb0 cb1 cb2 cb3 cb4, one_23 r0 r1 r2 r3 r4 r5 r6 r7 r8 r9 r10 r11 r12 r13 a0 a1 a2 a3 a4 b0 b1 b2 b3 b4 cr2 cr3 cr4 cr5 cr6 cr7 cr8 cr9 cr10 cr11 cr13 ca0 ca1 ca2 ca3 ca4 cb0 cb1 cb2 cb3 cb4, one_24 r0 r1 r2 r3 r4 r5 r6 r7 r8 r9 r10 r11 r12 r13 a0 a1 a2 a3 a4 b0 b1 b2 b3 b4 cr2 cr3 cr4 cr5 cr6 cr7 cr8 cr9 cr10 cr11 cr13 ca0 ca1 ca2 ca3 ca4 cb0 cb1 cb2 cb3 cb4]
  simp only [warm_0, warm_1, warm_2, warm_3, warm_4, warm_5, warm_6, warm_7, warm_8, warm_9, warm_10]
  have sp0 : s_rows_Speed_0 r0 r1 r2 r3 r4 r5 r6 r7 r8 r9 r10 r11 r12 r13 a0 a1 a2 a3 a4 b0 b1 b2 b3 b4 = s_ref20_Speed_0 r0 r1 r2 r3 r4 r5 r6 r7 r8 r9 r10 r11 r12 r13 a0 a1 a2 a3 a4 b0 b1 b2 b3 b4 := by unfold s_rows_Speed_0 s_ref20_Speed_0; rw [asked_eq, ieq_asked, speed_eq]
  have we0 : s_rows_Weight_0 r0 r1 r2 r3 r4 r5 r6 r7 r8 r9 r10 r11 r12 r13 a0 a1 a2 a3 a4 b0 b1 b2 b3 b4 = s_ref20_Weight_0 r0 r1 r2 r3 r4 r5 r6 r7 r8 r9 r10 r11 r12 r13 a0 a1 a2 a3 a4 b0 b1 b2 b3 b4 := by unfold s_rows_Weight_0 s_ref20_Weight_0; rw [asked_eq, ieq_asked, weight_eq]
  have sp1 : s_rows_Speed_1 r0 r1 r2 r3 r4 r5 r6 r7 r8 r9 r10 r11 r12 r13 a0 a1 a2 a3 a4 b0 b1 b2 b3 b4 = s_ref20_Speed_1 r0 r1 r2 r3 r4 r5 r6 r7 r8 r9 r10 r11 r12 r13 a0 a1 a2 a3 a4 b0 b1 b2 b3 b4 := by unfold s_rows_Speed_1 s_ref20_Speed_1; rw [asked_eq, ieq_asked]; cases s_ref20_all_0 r0 r1 r2 r3 r4 r5 r6 r7 r8 r9 r10 r11 r12 r13 a0 a1 a2 a3 a4 b0 b1 b2 b3 b4 <;> rfl
  have we1 : s_rows_Weight_1 r0 r1 r2 r3 r4 r5 r6 r7 r8 r9 r10 r11 r12 r13 a0 a1 a2 a3 a4 b0 b1 b2 b3 b4 = s_ref20_Weight_1 r0 r1 r2 r3 r4 r5 r6 r7 r8 r9 r10 r11 r12 r13 a0 a1 a2 a3 a4 b0 b1 b2 b3 b4 := by unfold s_rows_Weight_1 s_ref20_Weight_1; rw [asked_eq, ieq_asked]; cases s_ref20_all_0 r0 r1 r2 r3 r4 r5 r6 r7 r8 r9 r10 r11 r12 r13 a0 a1 a2 a3 a4 b0 b1 b2 b3 b4 <;> rfl
  have ch : s_rows_Check_0 r0 r1 r2 r3 r4 r5 r6 r7 r8 r9 r10 r11 r12 r13 n m = s_ref20_Check_0 r0 r1 r2 r3 r4 r5 r6 r7 r8 r9 r10 r11 r12 r13 n m := by
    unfold s_rows_Check_0 s_ref20_Check_0
    rw [fits_eq]
    have hm : ile m (if r1 > r0 then r1 else r0) = (ile m r0 || ile m r1) := by
      unfold ile
      split <;> (rw [Bool.eq_iff_iff]; simp; omega)
    rw [hm]
    cases s_ref20_May_0 r0 r1 r2 r3 r4 r5 r6 r7 r8 r9 r10 r11 r12 r13 <;> cases ile m r0 <;> cases ile m r1 <;> cases ile n r12 <;> rfl
  rw [sp0, we0, sp1, we1, ch]
  simp only [is_self, same_self, row_self, ieq_self, Bool.and_self]
end Go.Proofs.Ytojahopdcnamjaa
