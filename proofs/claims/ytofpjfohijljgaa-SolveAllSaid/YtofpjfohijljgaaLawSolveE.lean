/- Rows solved by turns: the program and the document as one model of records. -/
import Derived.Test.YtofpjfohijljgaaLawLBaseS
set_option linter.unusedVariables false
set_option linter.unusedSimpArgs false
set_option linter.unusedSectionVars false
set_option maxHeartbeats 4000000
set_option maxRecDepth 4000
namespace Go.Proofs.Ytofpjfohijljgaa
open Go.Sim Go.Lst
theorem place_eq {a : Nat} (h : a < 18446744073709551616) : s_ref01_place_0 a = if 9223372036854775808 ≤ a then -(rungOf a : Int) - 1 else (rungOf a : Int) := by
 have hr : rungOf a < 9223372036854775808 := by unfold rungOf; omega
 have low : IntKind.i64.wrap ((IntKind.u64.wrap ((Int.ofNat a) * 2)).fdiv 2) = (rungOf a : Int) := by
  rw [wrap_u64]
  have : ((Int.ofNat a) * 2 % 18446744073709551616).fdiv 2 = (rungOf a : Int) := by
   rw [Int.fdiv_eq_ediv_of_nonneg _ (by decide)]; unfold rungOf; simp only [Int.ofNat_eq_natCast]; omega
  rw [this]; apply wrap_i64 <;> omega
 unfold s_ref01_place_0
 rw [low]
 by_cases hs : 9223372036854775808 ≤ a
 ·have : ieq ((Int.ofNat a).fdiv 9223372036854775808) 1 = true := by
   apply ieq_true; rw [Int.fdiv_eq_ediv_of_nonneg _ (by decide)]; simp only [Int.ofNat_eq_natCast]; omega
  rw [this, if_pos hs, cond_true, wrap_i64 (n := 0 - (rungOf a : Int)) (by omega) (by omega), wrap_i64 (by omega) (by omega)]; omega
 ·have : ieq ((Int.ofNat a).fdiv 9223372036854775808) 1 = false := by
   apply ieq_false; rw [Int.fdiv_eq_ediv_of_nonneg _ (by decide)]; simp only [Int.ofNat_eq_natCast]; omega
  rw [this, if_neg hs, cond_false]
theorem key_place {a : Nat} (h : a < 18446744073709551616) : key a = if 9223372036854775808 ≤ a then -(rungOf a : Int) else (rungOf a : Int) := by
 unfold key
 by_cases hs : 9223372036854775808 ≤ a
 ·rw [if_pos ((sgn_true h).2 hs), if_pos hs]
 ·rw [if_neg (fun e => hs ((sgn_true h).1 e)), if_neg hs]
theorem word_eq {a : Nat} (h : a < 18446744073709551616) : a = (if 9223372036854775808 ≤ a then 9223372036854775808 else 0) + rungOf a := by
 unfold rungOf; split <;> omega
theorem worth_eq {a : Nat} (h : a < 18446744073709551616) : s_ref01_worth_0 a = if s_ref01_place_0 a = -1 then 0 else s_ref01_place_0 a := by
 unfold s_ref01_worth_0 ieq
 by_cases e : s_ref01_place_0 a = -1 <;> simp [e]
theorem above_eq {a b : Nat} (ha : CF a) (hb : CF b) : s_ref01_above_0 a b = flt b a := by
 unfold s_ref01_above_0
 cases na : nanb a
 ·cases nb : nanb b
  ·rw [flt_key nb na, worth_eq ha.lt, worth_eq hb.lt, place_eq ha.lt, place_eq hb.lt, key_place ha.lt, key_place hb.lt]
   unfold ilt
   simp only [Bool.not_false, Bool.true_and]
   apply decide_eq_decide.2
   by_cases h1 : 9223372036854775808 ≤ a <;> by_cases h2 : 9223372036854775808 ≤ b <;> simp only [h1, h2, if_true, if_false] <;> (try split) <;> (try split) <;> omega
  ·rw [flt_nan (.inl nb)]; simp
 ·rw [flt_nan (.inr na)]; simp
theorem none_eq (a : Nat) : s_num_none_float64__0 a = nanb a := by unfold s_num_none_float64__0; rw [feq_self, Bool.not_not]
theorem least_num {a b : Nat} (ha : CF a) (hb : CF b) (na : nanb a = false) (nb : nanb b = false) (hab : a ≠ b) :
  (flt b a || (feq a 0 && feq b 0 && s_num_minus_float64__0 b)) = !(ile (s_ref01_place_0 a) (s_ref01_place_0 b)) := by
 have la := ha.lt
 have lb := hb.lt
 rw [place_eq la, place_eq lb, flt_key nb na]
 have wa := word_eq la
 have wb := word_eq lb
 by_cases za : feq a 0 = true
 ·by_cases zb : feq b 0 = true
  ·rcases (feq_zero la na).1 za with rfl | rfl <;> rcases (feq_zero lb nb).1 zb with rfl | rfl <;> first | exact absurd rfl hab | decide
  ·have zb' : feq b 0 = false := by simpa using zb
   rw [zb', Bool.and_false, Bool.false_and, Bool.or_false, key_place la, key_place lb]
   have h0 : key b ≠ 0 := fun h => zb ((feq_zero lb nb).2 ((key_zero lb).1 h))
   rw [key_place lb] at h0
   unfold ile
   rw [Bool.eq_iff_iff]; simp only [decide_eq_true_eq, Bool.not_eq_true', decide_eq_false_iff_not]
   clear za zb zb' na nb
   by_cases h1 : 9223372036854775808 ≤ a <;> by_cases h2 : 9223372036854775808 ≤ b <;> simp only [h1, h2, if_true, if_false] at h0 wa wb ⊢ <;> omega
 ·have za' : feq a 0 = false := by simpa using za
  rw [za', Bool.false_and, Bool.false_and, Bool.or_false, key_place la, key_place lb]
  have h0 : key a ≠ 0 := fun h => za ((feq_zero la na).2 ((key_zero la).1 h))
  rw [key_place la] at h0
  unfold ile
  rw [Bool.eq_iff_iff]; simp only [decide_eq_true_eq, Bool.not_eq_true', decide_eq_false_iff_not]
  clear za za' na nb
  by_cases h1 : 9223372036854775808 ≤ a <;> by_cases h2 : 9223372036854775808 ≤ b <;> simp only [h1, h2, if_true, if_false] at h0 wa wb ⊢ <;> omega
theorem most_eq {a b : Nat} (ha : CF a) (hb : CF b) : s_num_Most_float64__0 a b = s_ref01_Most_0 a b := by
 unfold s_num_Most_float64__0 s_ref01_Most_0
 rw [none_eq]
 by_cases hab : a = b
 ·subst hab; cases nanb a <;> simp
 cases na : nanb a
 ·cases nb : nanb b
  ·have h := least_num hb ha nb na (Ne.symm hab)
   rw [Bool.and_comm (feq b 0)] at h
   rw [Bool.false_or, h]
   cases ile (s_ref01_place_0 b) (s_ref01_place_0 a) <;> rfl
  ·rw [flt_nan (a := a) (.inr nb), feq_nan (a := b) (.inl nb)]; simp
 ·rfl
structure Rw where
 v0 : Int
 v1 : Int
 v2 : Nat
 v3 : Nat
 v4 : Nat
 v5 : Nat
 v6 : Nat
 v7 : Nat
 v8 : Nat
 v9 : Nat
 v10 : Nat
 v11 : Nat
 v12 : Int
 v13 : Nat
structure Sl where
 v0 : Nat
 v1 : Nat
 v2 : Nat
 v3 : Nat
 v4 : Nat
theorem fin5 (f : Nat → Nat) : s_rows_finite_0 f = ((s_ref02_End_0 (f 0)) && ((s_ref02_End_0 (f 1)) && ((s_ref02_End_0 (f 2)) && ((s_ref02_End_0 (f 3)) && (s_ref02_End_0 (f 4)))))) := by
 unfold s_rows_finite_0 s_slices_ContainsFunc___float64_float64__0 s_slices_IndexFunc___float64_float64__0 s_rows_finite_1_0
 show _ = ((s_num_Finite_float64__0 (f 0)) && ((s_num_Finite_float64__0 (f 1)) && ((s_num_Finite_float64__0 (f 2)) && ((s_num_Finite_float64__0 (f 3)) && (s_num_Finite_float64__0 (f 4))))))
 generalize s_num_Finite_float64__0 (f 0) = p0
 generalize s_num_Finite_float64__0 (f 1) = p1
 generalize s_num_Finite_float64__0 (f 2) = p2
 generalize s_num_Finite_float64__0 (f 3) = p3
 generalize s_num_Finite_float64__0 (f 4) = p4
 revert p0 p1 p2 p3 p4; decide
theorem fin2 (f : Nat → Nat) : s_rows_finite_v1_0 f = ((s_ref02_End_0 (f 0)) && (s_ref02_End_0 (f 1))) := by
 unfold s_rows_finite_v1_0 s_slices_ContainsFunc___float64_float64__v1_0 s_slices_IndexFunc___float64_float64__v1_0 s_rows_finite_1_0
 show _ = ((s_num_Finite_float64__0 (f 0)) && (s_num_Finite_float64__0 (f 1)))
 generalize s_num_Finite_float64__0 (f 0) = p0
 generalize s_num_Finite_float64__0 (f 1) = p1
 revert p0 p1; decide
theorem fits_eq (r : Rw) : s_rows_fits_0 r.v0 r.v1 r.v2 r.v3 r.v4 r.v5 r.v6 r.v7 r.v8 r.v9 r.v10 r.v11 r.v12 r.v13 = s_ref20_May_0 r.v0 r.v1 r.v2 r.v3 r.v4 r.v5 r.v6 r.v7 r.v8 r.v9 r.v10 r.v11 r.v12 r.v13 := by
 unfold s_rows_fits_0 s_ref20_May_0
 rw [fin5]
 show ((((((ile 0 r.v0 && ile 0 r.v1) && !(ieq r.v0 r.v1)) && s_ref02_Finite_0 r.v2 r.v3) && s_ref02_Finite_0 r.v4 r.v5) && ((((s_ref02_End_0 r.v6 && (s_ref02_End_0 r.v7 && (s_ref02_End_0 r.v8 && (s_ref02_End_0 r.v11 && s_ref02_End_0 r.v13)))) && fle 0 r.v13) && fle r.v9 r.v10) && ile (-1) r.v12))) = _
 generalize s_ref02_Finite_0 r.v2 r.v3 = p1
 generalize s_ref02_Finite_0 r.v4 r.v5 = p2
 generalize s_ref02_End_0 r.v6 = p3
 generalize s_ref02_End_0 r.v7 = p4
 generalize s_ref02_End_0 r.v8 = p5
 generalize s_ref02_End_0 r.v11 = p6
 generalize s_ref02_End_0 r.v13 = p7
 generalize ile (0 : Int) r.v0 = q1
 generalize ile (0 : Int) r.v1 = q2
 generalize ieq r.v0 r.v1 = q3
 generalize fle 0 r.v13 = q4
 generalize fle r.v9 r.v10 = q5
 generalize ile (-1 : Int) r.v12 = q6
 cases p1 <;> cases p2 <;> cases p3 <;> cases p4 <;> cases p5 <;> cases p6 <;> cases p7 <;> simp <;> cases q1 <;> cases q2 <;> cases q3 <;> simp
theorem rests_eq (a : Sl) : s_rows_rests_0 a.v0 a.v1 a.v2 a.v3 a.v4 = s_ref20_Rests_0 a.v0 a.v1 a.v2 a.v3 a.v4 := by
 unfold s_rows_rests_0 s_ref20_Rests_0
 rw [fin2]; rfl
theorem asked_eq (r : Rw) (a b : Sl) : s_rows_asked_0 r.v0 r.v1 r.v2 r.v3 r.v4 r.v5 r.v6 r.v7 r.v8 r.v9 r.v10 r.v11 r.v12 r.v13 a.v0 a.v1 a.v2 a.v3 a.v4 b.v0 b.v1 b.v2 b.v3 b.v4 = bif !(s_ref20_all_0 r.v0 r.v1 r.v2 r.v3 r.v4 r.v5 r.v6 r.v7 r.v8 r.v9 r.v10 r.v11 r.v12 r.v13 a.v0 a.v1 a.v2 a.v3 a.v4 b.v0 b.v1 b.v2 b.v3 b.v4) then 200 else 0 := by
 unfold s_rows_asked_0 s_ref20_all_0
 rw [fits_eq, rests_eq, rests_eq]
 cases s_ref20_May_0 r.v0 r.v1 r.v2 r.v3 r.v4 r.v5 r.v6 r.v7 r.v8 r.v9 r.v10 r.v11 r.v12 r.v13 <;> cases s_ref20_Rests_0 a.v0 a.v1 a.v2 a.v3 a.v4 <;> cases s_ref20_Rests_0 b.v0 b.v1 b.v2 b.v3 b.v4 <;> rfl
theorem ieq_asked (b : Bool) : (!(ieq (bif !b then (200 : Int) else 0) 0)) = !b := by cases b <;> rfl
theorem clamp_eq {q l m : Nat} (cq : CF q) (cl : CF l) (cm : CF m) : s_num_Clamp_float64__0 q l m = s_ref01_Clamp_0 q l m := by
 unfold s_num_Clamp_float64__0 s_ref01_Clamp_0
 rw [above_eq cq cl, above_eq cq cm]
 cases flt l q <;> cases flt m q <;> rfl
theorem speed_eq (r : Rw) (a b : Sl) : s_rows_speed_0 r.v0 r.v1 r.v2 r.v3 r.v4 r.v5 r.v6 r.v7 r.v8 r.v9 r.v10 r.v11 r.v12 r.v13 a.v0 a.v1 a.v2 a.v3 a.v4 b.v0 b.v1 b.v2 b.v3 b.v4 = s_ref20_speed_0 r.v0 r.v1 r.v2 r.v3 r.v4 r.v5 r.v6 r.v7 r.v8 r.v9 r.v10 r.v11 r.v12 r.v13 a.v0 a.v1 a.v2 a.v3 a.v4 b.v0 b.v1 b.v2 b.v3 b.v4 := rfl
theorem weight_eq (r : Rw) (a b : Sl) : s_rows_weight_0 r.v0 r.v1 r.v2 r.v3 r.v4 r.v5 r.v6 r.v7 r.v8 r.v9 r.v10 r.v11 r.v12 r.v13 a.v0 a.v1 a.v2 a.v3 a.v4 b.v0 b.v1 b.v2 b.v3 b.v4 = s_ref20_weight_0 r.v0 r.v1 r.v2 r.v3 r.v4 r.v5 r.v6 r.v7 r.v8 r.v9 r.v10 r.v11 r.v12 r.v13 a.v0 a.v1 a.v2 a.v3 a.v4 b.v0 b.v1 b.v2 b.v3 b.v4 := rfl
theorem push_0 (r : Rw) (a b : Sl) (p : Nat) : s_rows_pushed_0 r.v0 r.v1 r.v2 r.v3 r.v4 r.v5 r.v6 r.v7 r.v8 r.v9 r.v10 r.v11 r.v12 r.v13 a.v0 a.v1 a.v2 a.v3 a.v4 b.v0 b.v1 b.v2 b.v3 b.v4 p = s_ref20_pushed_0 a.v0 a.v1 a.v2 a.v3 a.v4 r.v2 r.v3 r.v6 p := by
 unfold s_rows_pushed_0
 try simp only [Bool.cond_self]
 rfl
theorem push_1 (r : Rw) (a b : Sl) (p : Nat) : s_rows_pushed_1 r.v0 r.v1 r.v2 r.v3 r.v4 r.v5 r.v6 r.v7 r.v8 r.v9 r.v10 r.v11 r.v12 r.v13 a.v0 a.v1 a.v2 a.v3 a.v4 b.v0 b.v1 b.v2 b.v3 b.v4 p = s_ref20_pushed_1 a.v0 a.v1 a.v2 a.v3 a.v4 r.v2 r.v3 r.v6 p := by
 unfold s_rows_pushed_1
 try simp only [Bool.cond_self]
 rfl
theorem push_2 (r : Rw) (a b : Sl) (p : Nat) : s_rows_pushed_2 r.v0 r.v1 r.v2 r.v3 r.v4 r.v5 r.v6 r.v7 r.v8 r.v9 r.v10 r.v11 r.v12 r.v13 a.v0 a.v1 a.v2 a.v3 a.v4 b.v0 b.v1 b.v2 b.v3 b.v4 p = s_ref20_pushed_2 a.v0 a.v1 a.v2 a.v3 a.v4 r.v2 r.v3 r.v6 p := by
 unfold s_rows_pushed_2
 try simp only [Bool.cond_self]
 rfl
theorem push_3 (r : Rw) (a b : Sl) (p : Nat) : s_rows_pushed_3 r.v0 r.v1 r.v2 r.v3 r.v4 r.v5 r.v6 r.v7 r.v8 r.v9 r.v10 r.v11 r.v12 r.v13 a.v0 a.v1 a.v2 a.v3 a.v4 b.v0 b.v1 b.v2 b.v3 b.v4 p = s_ref20_pushed_3 a.v0 a.v1 a.v2 a.v3 a.v4 r.v2 r.v3 r.v6 p := by
 unfold s_rows_pushed_3
 try simp only [Bool.cond_self]
 rfl
theorem push_4 (r : Rw) (a b : Sl) (p : Nat) : s_rows_pushed_4 r.v0 r.v1 r.v2 r.v3 r.v4 r.v5 r.v6 r.v7 r.v8 r.v9 r.v10 r.v11 r.v12 r.v13 a.v0 a.v1 a.v2 a.v3 a.v4 b.v0 b.v1 b.v2 b.v3 b.v4 p = s_ref20_pushed_4 a.v0 a.v1 a.v2 a.v3 a.v4 r.v2 r.v3 r.v6 p := by
 unfold s_rows_pushed_4
 try simp only [Bool.cond_self]
 rfl
theorem push_5 (r : Rw) (a b : Sl) (p : Nat) : s_rows_pushed_5 r.v0 r.v1 r.v2 r.v3 r.v4 r.v5 r.v6 r.v7 r.v8 r.v9 r.v10 r.v11 r.v12 r.v13 a.v0 a.v1 a.v2 a.v3 a.v4 b.v0 b.v1 b.v2 b.v3 b.v4 p = s_ref20_pushed_0 b.v0 b.v1 b.v2 b.v3 b.v4 r.v4 r.v5 r.v7 p := by
 unfold s_rows_pushed_5
 try simp only [Bool.cond_self]
 rfl
theorem push_6 (r : Rw) (a b : Sl) (p : Nat) : s_rows_pushed_6 r.v0 r.v1 r.v2 r.v3 r.v4 r.v5 r.v6 r.v7 r.v8 r.v9 r.v10 r.v11 r.v12 r.v13 a.v0 a.v1 a.v2 a.v3 a.v4 b.v0 b.v1 b.v2 b.v3 b.v4 p = s_ref20_pushed_1 b.v0 b.v1 b.v2 b.v3 b.v4 r.v4 r.v5 r.v7 p := by
 unfold s_rows_pushed_6
 try simp only [Bool.cond_self]
 rfl
theorem push_7 (r : Rw) (a b : Sl) (p : Nat) : s_rows_pushed_7 r.v0 r.v1 r.v2 r.v3 r.v4 r.v5 r.v6 r.v7 r.v8 r.v9 r.v10 r.v11 r.v12 r.v13 a.v0 a.v1 a.v2 a.v3 a.v4 b.v0 b.v1 b.v2 b.v3 b.v4 p = s_ref20_pushed_2 b.v0 b.v1 b.v2 b.v3 b.v4 r.v4 r.v5 r.v7 p := by
 unfold s_rows_pushed_7
 try simp only [Bool.cond_self]
 rfl
theorem push_8 (r : Rw) (a b : Sl) (p : Nat) : s_rows_pushed_8 r.v0 r.v1 r.v2 r.v3 r.v4 r.v5 r.v6 r.v7 r.v8 r.v9 r.v10 r.v11 r.v12 r.v13 a.v0 a.v1 a.v2 a.v3 a.v4 b.v0 b.v1 b.v2 b.v3 b.v4 p = s_ref20_pushed_3 b.v0 b.v1 b.v2 b.v3 b.v4 r.v4 r.v5 r.v7 p := by
 unfold s_rows_pushed_8
 try simp only [Bool.cond_self]
 rfl
theorem push_9 (r : Rw) (a b : Sl) (p : Nat) : s_rows_pushed_9 r.v0 r.v1 r.v2 r.v3 r.v4 r.v5 r.v6 r.v7 r.v8 r.v9 r.v10 r.v11 r.v12 r.v13 a.v0 a.v1 a.v2 a.v3 a.v4 b.v0 b.v1 b.v2 b.v3 b.v4 p = s_ref20_pushed_4 b.v0 b.v1 b.v2 b.v3 b.v4 r.v4 r.v5 r.v7 p := by
 unfold s_rows_pushed_9
 try simp only [Bool.cond_self]
 rfl
theorem warm_0 (r : Rw) (a b : Sl) : s_rows_Warm_0 r.v0 r.v1 r.v2 r.v3 r.v4 r.v5 r.v6 r.v7 r.v8 r.v9 r.v10 r.v11 r.v12 r.v13 a.v0 a.v1 a.v2 a.v3 a.v4 b.v0 b.v1 b.v2 b.v3 b.v4 = s_ref20_Warm_0 r.v0 r.v1 r.v2 r.v3 r.v4 r.v5 r.v6 r.v7 r.v8 r.v9 r.v10 r.v11 r.v12 r.v13 a.v0 a.v1 a.v2 a.v3 a.v4 b.v0 b.v1 b.v2 b.v3 b.v4 := by
 unfold s_rows_Warm_0 s_ref20_Warm_0
 rw [asked_eq, ieq_asked]
 rw [push_0]
theorem warm_1 (r : Rw) (a b : Sl) : s_rows_Warm_1 r.v0 r.v1 r.v2 r.v3 r.v4 r.v5 r.v6 r.v7 r.v8 r.v9 r.v10 r.v11 r.v12 r.v13 a.v0 a.v1 a.v2 a.v3 a.v4 b.v0 b.v1 b.v2 b.v3 b.v4 = s_ref20_Warm_1 r.v0 r.v1 r.v2 r.v3 r.v4 r.v5 r.v6 r.v7 r.v8 r.v9 r.v10 r.v11 r.v12 r.v13 a.v0 a.v1 a.v2 a.v3 a.v4 b.v0 b.v1 b.v2 b.v3 b.v4 := by
 unfold s_rows_Warm_1 s_ref20_Warm_1
 rw [asked_eq, ieq_asked]
 rw [push_1]
theorem warm_2 (r : Rw) (a b : Sl) : s_rows_Warm_2 r.v0 r.v1 r.v2 r.v3 r.v4 r.v5 r.v6 r.v7 r.v8 r.v9 r.v10 r.v11 r.v12 r.v13 a.v0 a.v1 a.v2 a.v3 a.v4 b.v0 b.v1 b.v2 b.v3 b.v4 = s_ref20_Warm_2 r.v0 r.v1 r.v2 r.v3 r.v4 r.v5 r.v6 r.v7 r.v8 r.v9 r.v10 r.v11 r.v12 r.v13 a.v0 a.v1 a.v2 a.v3 a.v4 b.v0 b.v1 b.v2 b.v3 b.v4 := by
 unfold s_rows_Warm_2 s_ref20_Warm_2
 rw [asked_eq, ieq_asked]
 rw [push_2]
theorem warm_3 (r : Rw) (a b : Sl) : s_rows_Warm_3 r.v0 r.v1 r.v2 r.v3 r.v4 r.v5 r.v6 r.v7 r.v8 r.v9 r.v10 r.v11 r.v12 r.v13 a.v0 a.v1 a.v2 a.v3 a.v4 b.v0 b.v1 b.v2 b.v3 b.v4 = s_ref20_Warm_3 r.v0 r.v1 r.v2 r.v3 r.v4 r.v5 r.v6 r.v7 r.v8 r.v9 r.v10 r.v11 r.v12 r.v13 a.v0 a.v1 a.v2 a.v3 a.v4 b.v0 b.v1 b.v2 b.v3 b.v4 := by
 unfold s_rows_Warm_3 s_ref20_Warm_3
 rw [asked_eq, ieq_asked]
 rw [push_3]
theorem warm_4 (r : Rw) (a b : Sl) : s_rows_Warm_4 r.v0 r.v1 r.v2 r.v3 r.v4 r.v5 r.v6 r.v7 r.v8 r.v9 r.v10 r.v11 r.v12 r.v13 a.v0 a.v1 a.v2 a.v3 a.v4 b.v0 b.v1 b.v2 b.v3 b.v4 = s_ref20_Warm_4 r.v0 r.v1 r.v2 r.v3 r.v4 r.v5 r.v6 r.v7 r.v8 r.v9 r.v10 r.v11 r.v12 r.v13 a.v0 a.v1 a.v2 a.v3 a.v4 b.v0 b.v1 b.v2 b.v3 b.v4 := by
 unfold s_rows_Warm_4 s_ref20_Warm_4
 rw [asked_eq, ieq_asked]
 rw [push_4]
theorem warm_5 (r : Rw) (a b : Sl) : s_rows_Warm_5 r.v0 r.v1 r.v2 r.v3 r.v4 r.v5 r.v6 r.v7 r.v8 r.v9 r.v10 r.v11 r.v12 r.v13 a.v0 a.v1 a.v2 a.v3 a.v4 b.v0 b.v1 b.v2 b.v3 b.v4 = s_ref20_Warm_5 r.v0 r.v1 r.v2 r.v3 r.v4 r.v5 r.v6 r.v7 r.v8 r.v9 r.v10 r.v11 r.v12 r.v13 a.v0 a.v1 a.v2 a.v3 a.v4 b.v0 b.v1 b.v2 b.v3 b.v4 := by
 unfold s_rows_Warm_5 s_ref20_Warm_5
 rw [asked_eq, ieq_asked]
 rw [push_5]
theorem warm_6 (r : Rw) (a b : Sl) : s_rows_Warm_6 r.v0 r.v1 r.v2 r.v3 r.v4 r.v5 r.v6 r.v7 r.v8 r.v9 r.v10 r.v11 r.v12 r.v13 a.v0 a.v1 a.v2 a.v3 a.v4 b.v0 b.v1 b.v2 b.v3 b.v4 = s_ref20_Warm_6 r.v0 r.v1 r.v2 r.v3 r.v4 r.v5 r.v6 r.v7 r.v8 r.v9 r.v10 r.v11 r.v12 r.v13 a.v0 a.v1 a.v2 a.v3 a.v4 b.v0 b.v1 b.v2 b.v3 b.v4 := by
 unfold s_rows_Warm_6 s_ref20_Warm_6
 rw [asked_eq, ieq_asked]
 rw [push_6]
theorem warm_7 (r : Rw) (a b : Sl) : s_rows_Warm_7 r.v0 r.v1 r.v2 r.v3 r.v4 r.v5 r.v6 r.v7 r.v8 r.v9 r.v10 r.v11 r.v12 r.v13 a.v0 a.v1 a.v2 a.v3 a.v4 b.v0 b.v1 b.v2 b.v3 b.v4 = s_ref20_Warm_7 r.v0 r.v1 r.v2 r.v3 r.v4 r.v5 r.v6 r.v7 r.v8 r.v9 r.v10 r.v11 r.v12 r.v13 a.v0 a.v1 a.v2 a.v3 a.v4 b.v0 b.v1 b.v2 b.v3 b.v4 := by
 unfold s_rows_Warm_7 s_ref20_Warm_7
 rw [asked_eq, ieq_asked]
 rw [push_7]
theorem warm_8 (r : Rw) (a b : Sl) : s_rows_Warm_8 r.v0 r.v1 r.v2 r.v3 r.v4 r.v5 r.v6 r.v7 r.v8 r.v9 r.v10 r.v11 r.v12 r.v13 a.v0 a.v1 a.v2 a.v3 a.v4 b.v0 b.v1 b.v2 b.v3 b.v4 = s_ref20_Warm_8 r.v0 r.v1 r.v2 r.v3 r.v4 r.v5 r.v6 r.v7 r.v8 r.v9 r.v10 r.v11 r.v12 r.v13 a.v0 a.v1 a.v2 a.v3 a.v4 b.v0 b.v1 b.v2 b.v3 b.v4 := by
 unfold s_rows_Warm_8 s_ref20_Warm_8
 rw [asked_eq, ieq_asked]
 rw [push_8]
theorem warm_9 (r : Rw) (a b : Sl) : s_rows_Warm_9 r.v0 r.v1 r.v2 r.v3 r.v4 r.v5 r.v6 r.v7 r.v8 r.v9 r.v10 r.v11 r.v12 r.v13 a.v0 a.v1 a.v2 a.v3 a.v4 b.v0 b.v1 b.v2 b.v3 b.v4 = s_ref20_Warm_9 r.v0 r.v1 r.v2 r.v3 r.v4 r.v5 r.v6 r.v7 r.v8 r.v9 r.v10 r.v11 r.v12 r.v13 a.v0 a.v1 a.v2 a.v3 a.v4 b.v0 b.v1 b.v2 b.v3 b.v4 := by
 unfold s_rows_Warm_9 s_ref20_Warm_9
 rw [asked_eq, ieq_asked]
 rw [push_9]
theorem warm_10 (r : Rw) (a b : Sl) : s_rows_Warm_10 r.v0 r.v1 r.v2 r.v3 r.v4 r.v5 r.v6 r.v7 r.v8 r.v9 r.v10 r.v11 r.v12 r.v13 a.v0 a.v1 a.v2 a.v3 a.v4 b.v0 b.v1 b.v2 b.v3 b.v4 = s_ref20_Warm_10 r.v0 r.v1 r.v2 r.v3 r.v4 r.v5 r.v6 r.v7 r.v8 r.v9 r.v10 r.v11 r.v12 r.v13 a.v0 a.v1 a.v2 a.v3 a.v4 b.v0 b.v1 b.v2 b.v3 b.v4 := by
 unfold s_rows_Warm_10 s_ref20_Warm_10
 rw [asked_eq]
 cases s_ref20_all_0 r.v0 r.v1 r.v2 r.v3 r.v4 r.v5 r.v6 r.v7 r.v8 r.v9 r.v10 r.v11 r.v12 r.v13 a.v0 a.v1 a.v2 a.v3 a.v4 b.v0 b.v1 b.v2 b.v3 b.v4 <;> rfl
theorem comb {T : Type} (all e1 e2 e3 : Bool) (Z A C : T) : (bif !all then Z else (bif ((!e3) || (!e1)) then A else (bif !e2 then A else C))) = (bif !all then Z else (bif (((!e3) || (!e1)) || (!e2)) then A else C)) := by
 cases all <;> cases e1 <;> cases e2 <;> cases e3 <;> rfl
theorem one_0 (r : Rw) (a b : Sl) (c9 : CF r.v9) (c10 : CF r.v10) : s_rows_One_0 r.v0 r.v1 r.v2 r.v3 r.v4 r.v5 r.v6 r.v7 r.v8 r.v9 r.v10 r.v11 r.v12 r.v13 a.v0 a.v1 a.v2 a.v3 a.v4 b.v0 b.v1 b.v2 b.v3 b.v4 = s_ref20_One_0 r.v0 r.v1 r.v2 r.v3 r.v4 r.v5 r.v6 r.v7 r.v8 r.v9 r.v10 r.v11 r.v12 r.v13 a.v0 a.v1 a.v2 a.v3 a.v4 b.v0 b.v1 b.v2 b.v3 b.v4 := by
 unfold s_rows_One_0
 simp only [fin2]
 rw [asked_eq, ieq_asked, clamp_eq (CF.add _ _) c9 c10]
 exact comb _ _ _ _ _ _ _
theorem one_1 (r : Rw) (a b : Sl) (c9 : CF r.v9) (c10 : CF r.v10) : s_rows_One_1 r.v0 r.v1 r.v2 r.v3 r.v4 r.v5 r.v6 r.v7 r.v8 r.v9 r.v10 r.v11 r.v12 r.v13 a.v0 a.v1 a.v2 a.v3 a.v4 b.v0 b.v1 b.v2 b.v3 b.v4 = s_ref20_One_1 r.v0 r.v1 r.v2 r.v3 r.v4 r.v5 r.v6 r.v7 r.v8 r.v9 r.v10 r.v11 r.v12 r.v13 a.v0 a.v1 a.v2 a.v3 a.v4 b.v0 b.v1 b.v2 b.v3 b.v4 := by
 unfold s_rows_One_1
 simp only [fin2]
 rw [asked_eq, ieq_asked, clamp_eq (CF.add _ _) c9 c10]
 exact comb _ _ _ _ _ _ _
theorem one_2 (r : Rw) (a b : Sl) (c9 : CF r.v9) (c10 : CF r.v10) : s_rows_One_2 r.v0 r.v1 r.v2 r.v3 r.v4 r.v5 r.v6 r.v7 r.v8 r.v9 r.v10 r.v11 r.v12 r.v13 a.v0 a.v1 a.v2 a.v3 a.v4 b.v0 b.v1 b.v2 b.v3 b.v4 = s_ref20_One_2 r.v0 r.v1 r.v2 r.v3 r.v4 r.v5 r.v6 r.v7 r.v8 r.v9 r.v10 r.v11 r.v12 r.v13 a.v0 a.v1 a.v2 a.v3 a.v4 b.v0 b.v1 b.v2 b.v3 b.v4 := by
 unfold s_rows_One_2
 simp only [fin2]
 rw [asked_eq, ieq_asked, clamp_eq (CF.add _ _) c9 c10]
 exact comb _ _ _ _ _ _ _
theorem one_3 (r : Rw) (a b : Sl) (c9 : CF r.v9) (c10 : CF r.v10) : s_rows_One_3 r.v0 r.v1 r.v2 r.v3 r.v4 r.v5 r.v6 r.v7 r.v8 r.v9 r.v10 r.v11 r.v12 r.v13 a.v0 a.v1 a.v2 a.v3 a.v4 b.v0 b.v1 b.v2 b.v3 b.v4 = s_ref20_One_3 r.v0 r.v1 r.v2 r.v3 r.v4 r.v5 r.v6 r.v7 r.v8 r.v9 r.v10 r.v11 r.v12 r.v13 a.v0 a.v1 a.v2 a.v3 a.v4 b.v0 b.v1 b.v2 b.v3 b.v4 := by
 unfold s_rows_One_3
 simp only [fin2]
 rw [asked_eq, ieq_asked, clamp_eq (CF.add _ _) c9 c10]
 exact comb _ _ _ _ _ _ _
theorem one_4 (r : Rw) (a b : Sl) (c9 : CF r.v9) (c10 : CF r.v10) : s_rows_One_4 r.v0 r.v1 r.v2 r.v3 r.v4 r.v5 r.v6 r.v7 r.v8 r.v9 r.v10 r.v11 r.v12 r.v13 a.v0 a.v1 a.v2 a.v3 a.v4 b.v0 b.v1 b.v2 b.v3 b.v4 = s_ref20_One_4 r.v0 r.v1 r.v2 r.v3 r.v4 r.v5 r.v6 r.v7 r.v8 r.v9 r.v10 r.v11 r.v12 r.v13 a.v0 a.v1 a.v2 a.v3 a.v4 b.v0 b.v1 b.v2 b.v3 b.v4 := by
 unfold s_rows_One_4
 simp only [fin2]
 rw [asked_eq, ieq_asked, clamp_eq (CF.add _ _) c9 c10]
 exact comb _ _ _ _ _ _ _
theorem one_5 (r : Rw) (a b : Sl) (c9 : CF r.v9) (c10 : CF r.v10) : s_rows_One_5 r.v0 r.v1 r.v2 r.v3 r.v4 r.v5 r.v6 r.v7 r.v8 r.v9 r.v10 r.v11 r.v12 r.v13 a.v0 a.v1 a.v2 a.v3 a.v4 b.v0 b.v1 b.v2 b.v3 b.v4 = s_ref20_One_5 r.v0 r.v1 r.v2 r.v3 r.v4 r.v5 r.v6 r.v7 r.v8 r.v9 r.v10 r.v11 r.v12 r.v13 a.v0 a.v1 a.v2 a.v3 a.v4 b.v0 b.v1 b.v2 b.v3 b.v4 := by
 unfold s_rows_One_5
 simp only [fin2]
 rw [asked_eq, ieq_asked, clamp_eq (CF.add _ _) c9 c10]
 exact comb _ _ _ _ _ _ _
theorem one_6 (r : Rw) (a b : Sl) (c9 : CF r.v9) (c10 : CF r.v10) : s_rows_One_6 r.v0 r.v1 r.v2 r.v3 r.v4 r.v5 r.v6 r.v7 r.v8 r.v9 r.v10 r.v11 r.v12 r.v13 a.v0 a.v1 a.v2 a.v3 a.v4 b.v0 b.v1 b.v2 b.v3 b.v4 = s_ref20_One_6 r.v0 r.v1 r.v2 r.v3 r.v4 r.v5 r.v6 r.v7 r.v8 r.v9 r.v10 r.v11 r.v12 r.v13 a.v0 a.v1 a.v2 a.v3 a.v4 b.v0 b.v1 b.v2 b.v3 b.v4 := by
 unfold s_rows_One_6
 simp only [fin2]
 rw [asked_eq, ieq_asked, clamp_eq (CF.add _ _) c9 c10]
 exact comb _ _ _ _ _ _ _
theorem one_7 (r : Rw) (a b : Sl) (c9 : CF r.v9) (c10 : CF r.v10) : s_rows_One_7 r.v0 r.v1 r.v2 r.v3 r.v4 r.v5 r.v6 r.v7 r.v8 r.v9 r.v10 r.v11 r.v12 r.v13 a.v0 a.v1 a.v2 a.v3 a.v4 b.v0 b.v1 b.v2 b.v3 b.v4 = s_ref20_One_7 r.v0 r.v1 r.v2 r.v3 r.v4 r.v5 r.v6 r.v7 r.v8 r.v9 r.v10 r.v11 r.v12 r.v13 a.v0 a.v1 a.v2 a.v3 a.v4 b.v0 b.v1 b.v2 b.v3 b.v4 := by
 unfold s_rows_One_7
 simp only [fin2]
 rw [asked_eq, ieq_asked, clamp_eq (CF.add _ _) c9 c10]
 exact comb _ _ _ _ _ _ _
theorem one_8 (r : Rw) (a b : Sl) (c9 : CF r.v9) (c10 : CF r.v10) : s_rows_One_8 r.v0 r.v1 r.v2 r.v3 r.v4 r.v5 r.v6 r.v7 r.v8 r.v9 r.v10 r.v11 r.v12 r.v13 a.v0 a.v1 a.v2 a.v3 a.v4 b.v0 b.v1 b.v2 b.v3 b.v4 = s_ref20_One_8 r.v0 r.v1 r.v2 r.v3 r.v4 r.v5 r.v6 r.v7 r.v8 r.v9 r.v10 r.v11 r.v12 r.v13 a.v0 a.v1 a.v2 a.v3 a.v4 b.v0 b.v1 b.v2 b.v3 b.v4 := by
 unfold s_rows_One_8
 simp only [fin2]
 rw [asked_eq, ieq_asked, clamp_eq (CF.add _ _) c9 c10]
 exact comb _ _ _ _ _ _ _
theorem one_9 (r : Rw) (a b : Sl) (c9 : CF r.v9) (c10 : CF r.v10) : s_rows_One_9 r.v0 r.v1 r.v2 r.v3 r.v4 r.v5 r.v6 r.v7 r.v8 r.v9 r.v10 r.v11 r.v12 r.v13 a.v0 a.v1 a.v2 a.v3 a.v4 b.v0 b.v1 b.v2 b.v3 b.v4 = s_ref20_One_9 r.v0 r.v1 r.v2 r.v3 r.v4 r.v5 r.v6 r.v7 r.v8 r.v9 r.v10 r.v11 r.v12 r.v13 a.v0 a.v1 a.v2 a.v3 a.v4 b.v0 b.v1 b.v2 b.v3 b.v4 := by
 unfold s_rows_One_9
 simp only [fin2]
 rw [asked_eq, ieq_asked, clamp_eq (CF.add _ _) c9 c10]
 exact comb _ _ _ _ _ _ _
theorem one_10 (r : Rw) (a b : Sl) (c9 : CF r.v9) (c10 : CF r.v10) : s_rows_One_10 r.v0 r.v1 r.v2 r.v3 r.v4 r.v5 r.v6 r.v7 r.v8 r.v9 r.v10 r.v11 r.v12 r.v13 a.v0 a.v1 a.v2 a.v3 a.v4 b.v0 b.v1 b.v2 b.v3 b.v4 = s_ref20_One_10 r.v0 r.v1 r.v2 r.v3 r.v4 r.v5 r.v6 r.v7 r.v8 r.v9 r.v10 r.v11 r.v12 r.v13 a.v0 a.v1 a.v2 a.v3 a.v4 b.v0 b.v1 b.v2 b.v3 b.v4 := by
 unfold s_rows_One_10
 simp only [fin2]
 rw [asked_eq, ieq_asked, clamp_eq (CF.add _ _) c9 c10]
 exact comb _ _ _ _ _ _ _
theorem one_11 (r : Rw) (a b : Sl) (c9 : CF r.v9) (c10 : CF r.v10) : s_rows_One_11 r.v0 r.v1 r.v2 r.v3 r.v4 r.v5 r.v6 r.v7 r.v8 r.v9 r.v10 r.v11 r.v12 r.v13 a.v0 a.v1 a.v2 a.v3 a.v4 b.v0 b.v1 b.v2 b.v3 b.v4 = s_ref20_One_11 r.v0 r.v1 r.v2 r.v3 r.v4 r.v5 r.v6 r.v7 r.v8 r.v9 r.v10 r.v11 r.v12 r.v13 a.v0 a.v1 a.v2 a.v3 a.v4 b.v0 b.v1 b.v2 b.v3 b.v4 := by
 unfold s_rows_One_11
 simp only [fin2]
 rw [asked_eq, ieq_asked, clamp_eq (CF.add _ _) c9 c10]
 exact comb _ _ _ _ _ _ _
theorem one_12 (r : Rw) (a b : Sl) (c9 : CF r.v9) (c10 : CF r.v10) : s_rows_One_12 r.v0 r.v1 r.v2 r.v3 r.v4 r.v5 r.v6 r.v7 r.v8 r.v9 r.v10 r.v11 r.v12 r.v13 a.v0 a.v1 a.v2 a.v3 a.v4 b.v0 b.v1 b.v2 b.v3 b.v4 = s_ref20_One_12 r.v0 r.v1 r.v2 r.v3 r.v4 r.v5 r.v6 r.v7 r.v8 r.v9 r.v10 r.v11 r.v12 r.v13 a.v0 a.v1 a.v2 a.v3 a.v4 b.v0 b.v1 b.v2 b.v3 b.v4 := by
 unfold s_rows_One_12
 simp only [fin2]
 rw [asked_eq, ieq_asked, clamp_eq (CF.add _ _) c9 c10]
 exact comb _ _ _ _ _ _ _
theorem one_13 (r : Rw) (a b : Sl) (c9 : CF r.v9) (c10 : CF r.v10) : s_rows_One_13 r.v0 r.v1 r.v2 r.v3 r.v4 r.v5 r.v6 r.v7 r.v8 r.v9 r.v10 r.v11 r.v12 r.v13 a.v0 a.v1 a.v2 a.v3 a.v4 b.v0 b.v1 b.v2 b.v3 b.v4 = s_ref20_One_13 r.v0 r.v1 r.v2 r.v3 r.v4 r.v5 r.v6 r.v7 r.v8 r.v9 r.v10 r.v11 r.v12 r.v13 a.v0 a.v1 a.v2 a.v3 a.v4 b.v0 b.v1 b.v2 b.v3 b.v4 := by
 unfold s_rows_One_13
 simp only [fin2]
 rw [asked_eq, ieq_asked, clamp_eq (CF.add _ _) c9 c10]
 exact comb _ _ _ _ _ _ _
theorem one_14 (r : Rw) (a b : Sl) (c9 : CF r.v9) (c10 : CF r.v10) : s_rows_One_14 r.v0 r.v1 r.v2 r.v3 r.v4 r.v5 r.v6 r.v7 r.v8 r.v9 r.v10 r.v11 r.v12 r.v13 a.v0 a.v1 a.v2 a.v3 a.v4 b.v0 b.v1 b.v2 b.v3 b.v4 = s_ref20_One_14 r.v0 r.v1 r.v2 r.v3 r.v4 r.v5 r.v6 r.v7 r.v8 r.v9 r.v10 r.v11 r.v12 r.v13 a.v0 a.v1 a.v2 a.v3 a.v4 b.v0 b.v1 b.v2 b.v3 b.v4 := by
 unfold s_rows_One_14
 simp only [fin2]
 rw [asked_eq, ieq_asked, clamp_eq (CF.add _ _) c9 c10]
 rw [push_0]
 exact comb _ _ _ _ _ _ _
theorem one_15 (r : Rw) (a b : Sl) (c9 : CF r.v9) (c10 : CF r.v10) : s_rows_One_15 r.v0 r.v1 r.v2 r.v3 r.v4 r.v5 r.v6 r.v7 r.v8 r.v9 r.v10 r.v11 r.v12 r.v13 a.v0 a.v1 a.v2 a.v3 a.v4 b.v0 b.v1 b.v2 b.v3 b.v4 = s_ref20_One_15 r.v0 r.v1 r.v2 r.v3 r.v4 r.v5 r.v6 r.v7 r.v8 r.v9 r.v10 r.v11 r.v12 r.v13 a.v0 a.v1 a.v2 a.v3 a.v4 b.v0 b.v1 b.v2 b.v3 b.v4 := by
 unfold s_rows_One_15
 simp only [fin2]
 rw [asked_eq, ieq_asked, clamp_eq (CF.add _ _) c9 c10]
 rw [push_1]
 exact comb _ _ _ _ _ _ _
theorem one_16 (r : Rw) (a b : Sl) (c9 : CF r.v9) (c10 : CF r.v10) : s_rows_One_16 r.v0 r.v1 r.v2 r.v3 r.v4 r.v5 r.v6 r.v7 r.v8 r.v9 r.v10 r.v11 r.v12 r.v13 a.v0 a.v1 a.v2 a.v3 a.v4 b.v0 b.v1 b.v2 b.v3 b.v4 = s_ref20_One_16 r.v0 r.v1 r.v2 r.v3 r.v4 r.v5 r.v6 r.v7 r.v8 r.v9 r.v10 r.v11 r.v12 r.v13 a.v0 a.v1 a.v2 a.v3 a.v4 b.v0 b.v1 b.v2 b.v3 b.v4 := by
 unfold s_rows_One_16
 simp only [fin2]
 rw [asked_eq, ieq_asked, clamp_eq (CF.add _ _) c9 c10]
 rw [push_2]
 exact comb _ _ _ _ _ _ _
theorem one_17 (r : Rw) (a b : Sl) (c9 : CF r.v9) (c10 : CF r.v10) : s_rows_One_17 r.v0 r.v1 r.v2 r.v3 r.v4 r.v5 r.v6 r.v7 r.v8 r.v9 r.v10 r.v11 r.v12 r.v13 a.v0 a.v1 a.v2 a.v3 a.v4 b.v0 b.v1 b.v2 b.v3 b.v4 = s_ref20_One_17 r.v0 r.v1 r.v2 r.v3 r.v4 r.v5 r.v6 r.v7 r.v8 r.v9 r.v10 r.v11 r.v12 r.v13 a.v0 a.v1 a.v2 a.v3 a.v4 b.v0 b.v1 b.v2 b.v3 b.v4 := by
 unfold s_rows_One_17
 simp only [fin2]
 rw [asked_eq, ieq_asked, clamp_eq (CF.add _ _) c9 c10]
 rw [push_3]
 exact comb _ _ _ _ _ _ _
theorem one_18 (r : Rw) (a b : Sl) (c9 : CF r.v9) (c10 : CF r.v10) : s_rows_One_18 r.v0 r.v1 r.v2 r.v3 r.v4 r.v5 r.v6 r.v7 r.v8 r.v9 r.v10 r.v11 r.v12 r.v13 a.v0 a.v1 a.v2 a.v3 a.v4 b.v0 b.v1 b.v2 b.v3 b.v4 = s_ref20_One_18 r.v0 r.v1 r.v2 r.v3 r.v4 r.v5 r.v6 r.v7 r.v8 r.v9 r.v10 r.v11 r.v12 r.v13 a.v0 a.v1 a.v2 a.v3 a.v4 b.v0 b.v1 b.v2 b.v3 b.v4 := by
 unfold s_rows_One_18
 simp only [fin2]
 rw [asked_eq, ieq_asked, clamp_eq (CF.add _ _) c9 c10]
 rw [push_4]
 exact comb _ _ _ _ _ _ _
theorem one_19 (r : Rw) (a b : Sl) (c9 : CF r.v9) (c10 : CF r.v10) : s_rows_One_19 r.v0 r.v1 r.v2 r.v3 r.v4 r.v5 r.v6 r.v7 r.v8 r.v9 r.v10 r.v11 r.v12 r.v13 a.v0 a.v1 a.v2 a.v3 a.v4 b.v0 b.v1 b.v2 b.v3 b.v4 = s_ref20_One_19 r.v0 r.v1 r.v2 r.v3 r.v4 r.v5 r.v6 r.v7 r.v8 r.v9 r.v10 r.v11 r.v12 r.v13 a.v0 a.v1 a.v2 a.v3 a.v4 b.v0 b.v1 b.v2 b.v3 b.v4 := by
 unfold s_rows_One_19
 simp only [fin2]
 rw [asked_eq, ieq_asked, clamp_eq (CF.add _ _) c9 c10]
 rw [push_5]
 exact comb _ _ _ _ _ _ _
theorem one_20 (r : Rw) (a b : Sl) (c9 : CF r.v9) (c10 : CF r.v10) : s_rows_One_20 r.v0 r.v1 r.v2 r.v3 r.v4 r.v5 r.v6 r.v7 r.v8 r.v9 r.v10 r.v11 r.v12 r.v13 a.v0 a.v1 a.v2 a.v3 a.v4 b.v0 b.v1 b.v2 b.v3 b.v4 = s_ref20_One_20 r.v0 r.v1 r.v2 r.v3 r.v4 r.v5 r.v6 r.v7 r.v8 r.v9 r.v10 r.v11 r.v12 r.v13 a.v0 a.v1 a.v2 a.v3 a.v4 b.v0 b.v1 b.v2 b.v3 b.v4 := by
 unfold s_rows_One_20
 simp only [fin2]
 rw [asked_eq, ieq_asked, clamp_eq (CF.add _ _) c9 c10]
 rw [push_6]
 exact comb _ _ _ _ _ _ _
theorem one_21 (r : Rw) (a b : Sl) (c9 : CF r.v9) (c10 : CF r.v10) : s_rows_One_21 r.v0 r.v1 r.v2 r.v3 r.v4 r.v5 r.v6 r.v7 r.v8 r.v9 r.v10 r.v11 r.v12 r.v13 a.v0 a.v1 a.v2 a.v3 a.v4 b.v0 b.v1 b.v2 b.v3 b.v4 = s_ref20_One_21 r.v0 r.v1 r.v2 r.v3 r.v4 r.v5 r.v6 r.v7 r.v8 r.v9 r.v10 r.v11 r.v12 r.v13 a.v0 a.v1 a.v2 a.v3 a.v4 b.v0 b.v1 b.v2 b.v3 b.v4 := by
 unfold s_rows_One_21
 simp only [fin2]
 rw [asked_eq, ieq_asked, clamp_eq (CF.add _ _) c9 c10]
 rw [push_7]
 exact comb _ _ _ _ _ _ _
theorem one_22 (r : Rw) (a b : Sl) (c9 : CF r.v9) (c10 : CF r.v10) : s_rows_One_22 r.v0 r.v1 r.v2 r.v3 r.v4 r.v5 r.v6 r.v7 r.v8 r.v9 r.v10 r.v11 r.v12 r.v13 a.v0 a.v1 a.v2 a.v3 a.v4 b.v0 b.v1 b.v2 b.v3 b.v4 = s_ref20_One_22 r.v0 r.v1 r.v2 r.v3 r.v4 r.v5 r.v6 r.v7 r.v8 r.v9 r.v10 r.v11 r.v12 r.v13 a.v0 a.v1 a.v2 a.v3 a.v4 b.v0 b.v1 b.v2 b.v3 b.v4 := by
 unfold s_rows_One_22
 simp only [fin2]
 rw [asked_eq, ieq_asked, clamp_eq (CF.add _ _) c9 c10]
 rw [push_8]
 exact comb _ _ _ _ _ _ _
theorem one_23 (r : Rw) (a b : Sl) (c9 : CF r.v9) (c10 : CF r.v10) : s_rows_One_23 r.v0 r.v1 r.v2 r.v3 r.v4 r.v5 r.v6 r.v7 r.v8 r.v9 r.v10 r.v11 r.v12 r.v13 a.v0 a.v1 a.v2 a.v3 a.v4 b.v0 b.v1 b.v2 b.v3 b.v4 = s_ref20_One_23 r.v0 r.v1 r.v2 r.v3 r.v4 r.v5 r.v6 r.v7 r.v8 r.v9 r.v10 r.v11 r.v12 r.v13 a.v0 a.v1 a.v2 a.v3 a.v4 b.v0 b.v1 b.v2 b.v3 b.v4 := by
 unfold s_rows_One_23
 simp only [fin2]
 rw [asked_eq, ieq_asked, clamp_eq (CF.add _ _) c9 c10]
 rw [push_9]
 exact comb _ _ _ _ _ _ _
theorem one_24 (r : Rw) (a b : Sl) (c9 : CF r.v9) (c10 : CF r.v10) : s_rows_One_24 r.v0 r.v1 r.v2 r.v3 r.v4 r.v5 r.v6 r.v7 r.v8 r.v9 r.v10 r.v11 r.v12 r.v13 a.v0 a.v1 a.v2 a.v3 a.v4 b.v0 b.v1 b.v2 b.v3 b.v4 = s_ref20_One_24 r.v0 r.v1 r.v2 r.v3 r.v4 r.v5 r.v6 r.v7 r.v8 r.v9 r.v10 r.v11 r.v12 r.v13 a.v0 a.v1 a.v2 a.v3 a.v4 b.v0 b.v1 b.v2 b.v3 b.v4 := by
 unfold s_rows_One_24 s_ref20_One_24
 simp only [asked_eq, Bool.cond_self]
 cases s_ref20_all_0 r.v0 r.v1 r.v2 r.v3 r.v4 r.v5 r.v6 r.v7 r.v8 r.v9 r.v10 r.v11 r.v12 r.v13 a.v0 a.v1 a.v2 a.v3 a.v4 b.v0 b.v1 b.v2 b.v3 b.v4 <;> rfl
end Go.Proofs.Ytofpjfohijljgaa
