/- The laws of layer 5 beside the document. -/
import Derived.Test.YtbbopbelaamlaaaLawDBase
set_option linter.unusedVariables false
set_option linter.unusedSimpArgs false
namespace Go.Proofs.Ytbbopbelaamlaaa
open Go.Sim
theorem place_eq {a : Nat} (h : a < 18446744073709551616) : s_ref01_place_0 a = if 9223372036854775808 ≤ a then -(rungOf a : Int) - 1 else (rungOf a : Int) := by
  have hr : rungOf a < 9223372036854775808 := by unfold rungOf; omega
  have low : IntKind.i64.wrap ((IntKind.u64.wrap ((Int.ofNat a) * 2)).fdiv 2) = (rungOf a : Int) := by
    rw [wrap_u64]
    have : ((Int.ofNat a) * 2 % 18446744073709551616).fdiv 2 = (rungOf a : Int) := by
      rw [Int.fdiv_eq_ediv_of_nonneg _ (by decide)]; unfold rungOf; simp only [Int.ofNat_eq_natCast]; omega
    rw [this]; apply wrap_i64 <;> omega
  unfold s_ref01_place_0
  rw [low]
  by_cases hs : 9223372036854775808 ≤ a
  · have : ieq ((Int.ofNat a).fdiv 9223372036854775808) 1 = true := by
      apply ieq_true; rw [Int.fdiv_eq_ediv_of_nonneg _ (by decide)]; simp only [Int.ofNat_eq_natCast]; omega
    rw [this, if_pos hs, cond_true, wrap_i64 (n := 0 - (rungOf a : Int)) (by omega) (by omega), wrap_i64 (by omega) (by omega)]; omega
  · have : ieq ((Int.ofNat a).fdiv 9223372036854775808) 1 = false := by
      apply ieq_false; rw [Int.fdiv_eq_ediv_of_nonneg _ (by decide)]; simp only [Int.ofNat_eq_natCast]; omega
    rw [this, if_neg hs, cond_false]
theorem minus_zero : s_num_minus_float64__0 0 = false := by decide
theorem minus_nought : s_num_minus_float64__0 9223372036854775808 = true := by decide
theorem none_eq (a : Nat) : s_num_none_float64__0 a = nanb a := by unfold s_num_none_float64__0; rw [feq_self, Bool.not_not]
theorem key_place {a : Nat} (h : a < 18446744073709551616) : key a = if 9223372036854775808 ≤ a then -(rungOf a : Int) else (rungOf a : Int) := by
  unfold key
  by_cases hs : 9223372036854775808 ≤ a
  · rw [if_pos ((sgn_true h).2 hs), if_pos hs]
  · rw [if_neg (fun e => hs ((sgn_true h).1 e)), if_neg hs]
theorem word_eq {a : Nat} (h : a < 18446744073709551616) : a = (if 9223372036854775808 ≤ a then 9223372036854775808 else 0) + rungOf a := by
  unfold rungOf; split <;> omega
/-- The lesser and the greater one of two numbers, by their places. -/
theorem least_num {a b : Nat} (ha : CF a) (hb : CF b) (na : nanb a = false) (nb : nanb b = false) (hab : a ≠ b) :
    (flt b a || (feq a 0 && feq b 0 && s_num_minus_float64__0 b)) = !(ile (s_ref01_place_0 a) (s_ref01_place_0 b)) := by
  have la := ha.lt
  have lb := hb.lt
  rw [place_eq la, place_eq lb, flt_key nb na]
  have wa := word_eq la
  have wb := word_eq lb
  by_cases za : feq a 0 = true
  · by_cases zb : feq b 0 = true
    · rcases (feq_zero la na).1 za with rfl | rfl <;> rcases (feq_zero lb nb).1 zb with rfl | rfl <;> first | exact absurd rfl hab | decide
    · have zb' : feq b 0 = false := by simpa using zb
      rw [zb', Bool.and_false, Bool.false_and, Bool.or_false, key_place la, key_place lb]
      have h0 : key b ≠ 0 := fun h => zb ((feq_zero lb nb).2 ((key_zero lb).1 h))
      rw [key_place lb] at h0
      unfold ile
      rw [Bool.eq_iff_iff]; simp only [decide_eq_true_eq, Bool.not_eq_true', decide_eq_false_iff_not]
      clear za zb zb' na nb
      by_cases h1 : 9223372036854775808 ≤ a <;> by_cases h2 : 9223372036854775808 ≤ b <;> simp only [h1, h2, if_true, if_false] at h0 wa wb ⊢ <;> omega
  · have za' : feq a 0 = false := by simpa using za
    rw [za', Bool.false_and, Bool.false_and, Bool.or_false, key_place la, key_place lb]
    have h0 : key a ≠ 0 := fun h => za ((feq_zero la na).2 ((key_zero la).1 h))
    rw [key_place la] at h0
    unfold ile
    rw [Bool.eq_iff_iff]; simp only [decide_eq_true_eq, Bool.not_eq_true', decide_eq_false_iff_not]
    clear za za' na nb
    by_cases h1 : 9223372036854775808 ≤ a <;> by_cases h2 : 9223372036854775808 ≤ b <;> simp only [h1, h2, if_true, if_false] at h0 wa wb ⊢ <;> omega
theorem least_eq {a b : Nat} (ha : CF a) (hb : CF b) : s_num_Least_float64__0 a b = s_ref01_Least_0 a b := by
  unfold s_num_Least_float64__0 s_ref01_Least_0
  rw [none_eq]
  by_cases hab : a = b
  · subst hab; cases nanb a <;> simp
  cases na : nanb a
  · cases nb : nanb b
    · rw [Bool.false_or, least_num ha hb na nb hab]
      cases ile (s_ref01_place_0 a) (s_ref01_place_0 b) <;> rfl
    · rw [flt_nan (a := b) (.inl nb), feq_nan (a := b) (.inl nb)]; simp
  · rfl
theorem most_eq {a b : Nat} (ha : CF a) (hb : CF b) : s_num_Most_float64__0 a b = s_ref01_Most_0 a b := by
  unfold s_num_Most_float64__0 s_ref01_Most_0
  rw [none_eq]
  by_cases hab : a = b
  · subst hab; cases nanb a <;> simp
  cases na : nanb a
  · cases nb : nanb b
    · have h := least_num hb ha nb na (Ne.symm hab)
      rw [Bool.and_comm (feq b 0)] at h
      rw [Bool.false_or, h]
      cases ile (s_ref01_place_0 b) (s_ref01_place_0 a) <;> rfl
    · rw [flt_nan (a := a) (.inr nb), feq_nan (a := b) (.inl nb)]; simp
  · rfl
theorem same_of {a b c d e f g h : Nat} (h1 : a = e) (h2 : b = f) (h3 : c = g) (h4 : d = h) : s_law05_is_0 a b c d e f g h = true := by
  subst h1 h2 h3 h4
  exact and_of (and_of (is_self _) (is_self _)) (and_of (is_self _) (is_self _))
theorem law_BoxPairs (a b c d e f g k x y m : Nat) (ca : CF a) (cb : CF b) (cc : CF c) (cd : CF d) (ce : CF e) (cf : CF f) (cg : CF g) (ck : CF k) (cx : CF x) (cy : CF y) (cm : CF m) : T_law05_BoxPairs a b c d e f g k x y m = true := by
  have hov : s_ref05_Over_0 a b c d e f g k = s_box_Over_0 a b c d e f g k := by
    unfold s_ref05_Over_0 s_box_Over_0 s_box_below_0
    cases fle a g <;> cases fle e c <;> cases fle b k <;> cases fle f d <;> rfl
  unfold T_law05_BoxPairs
  refine and_of (and_of (and_of (and_of (and_of (and_of (and_of (and_of (and_of (and_of (ieq_of ?_) (same_of ?_ ?_ ?_ ?_)) (same_of ?_ ?_ ?_ ?_)) (beq_of ?_)) (beq_of ?_)) (beq_of ?_)) (beq_of ?_)) (same_of ?_ ?_ ?_ ?_)) (same_of ?_ ?_ ?_ ?_)) (is_of ?_)) (is_of ?_)
  · rfl
  · exact least_eq ca ce
  · exact least_eq cb cf
  · exact most_eq cc cg
  · exact most_eq cd ck
  · unfold s_box_Meet_0 s_ref05_Meet_0; rw [hov, ← most_eq ca ce]; rfl
  · unfold s_box_Meet_1 s_ref05_Meet_1; rw [hov, ← most_eq cb cf]; rfl
  · unfold s_box_Meet_2 s_ref05_Meet_2; rw [hov, ← least_eq cc cg]; rfl
  · unfold s_box_Meet_3 s_ref05_Meet_3; rw [hov, ← least_eq cd ck]; rfl
  · unfold s_box_Meet_4 s_ref05_Meet_4; rw [hov]
  · exact hov.symm
  · skip
    unfold s_ref05_In_0 s_box_In_0 s_box_below_0
    cases fle e a <;> cases fle c g <;> cases fle f b <;> cases fle d k <;> rfl
  · skip
    unfold s_ref05_Has_0 s_box_Has_0 s_box_below_0
    cases fle a x <;> cases fle x c <;> cases fle b y <;> cases fle y d <;> rfl
  all_goals rfl
theorem law_BoxRay (a b c d x y v w : Nat) (ca : CF a) (cb : CF b) (cc : CF c) (cd : CF d) (cx : CF x) (cy : CF y) (cv : CF v) (cw : CF w) : T_law05_BoxRay a b c d x y v w = true := by
  have key : s_box_Ray_0 a b c d x y v w = s_ref05_Ray_0 a b c d x y v w ∧ s_box_Ray_1 a b c d x y v w = s_ref05_Ray_1 a b c d x y v w := by
    unfold s_box_Ray_0 s_box_Ray_1 s_ref05_Ray_0 s_ref05_Ray_1 s_ref05_along_0 s_ref05_along_1 s_ref05_along_2 s_ref05_along2_0 s_ref05_along2_1 s_ref05_along2_2
    simp only []
    have h1 := axis (fdiv (fsub a x) v) (fdiv (fsub c x) v)
    have h2 := axis (fdiv (fsub b y) w) (fdiv (fsub d y) w)
    generalize fdiv (fsub a x) v = p at *
    generalize fdiv (fsub c x) v = q at *
    generalize fdiv (fsub b y) w = r at *
    generalize fdiv (fsub d y) w = t at *
    generalize (feq v 0 || !feq v v) = B at *
    generalize (feq w 0 || !feq w w) = C at *
    generalize (fle a x && fle x c) = D at *
    generalize (fle b y && fle y d) = E at *
    generalize hs : flt q p = S at *
    generalize hu : flt t r = U at *
    generalize hpp : feq p p = PP at *
    generalize hqq : feq q q = QQ at *
    generalize hrr : feq r r = RR at *
    generalize htt : feq t t = TT at *
    clear hs hu hpp hqq hrr htt
    rcases h1 with ⟨rfl, rfl, h1⟩ | ⟨h1, rfl, h1'⟩ <;> rcases h2 with ⟨rfl, rfl, h2⟩ | ⟨h2, rfl, h2'⟩
    · cases B <;> cases C <;> cases D <;> cases E <;> cases S <;> cases U <;> simp_all <;> (generalize fle _ _ = X; cases X <;> simp_all <;> (try (generalize fle _ _ = Y; cases Y <;> simp_all)))
    · rcases h2 with rfl | rfl <;> cases B <;> cases C <;> cases D <;> cases E <;> cases S <;> simp_all <;> (generalize fle _ _ = X; cases X <;> simp_all <;> (try (generalize fle _ _ = Y; cases Y <;> simp_all)))
    · rcases h1 with rfl | rfl <;> cases B <;> cases C <;> cases D <;> cases E <;> cases U <;> simp_all <;> (generalize fle _ _ = X; cases X <;> simp_all <;> (try (generalize fle _ _ = Y; cases Y <;> simp_all)))
    · rcases h1 with rfl | rfl <;> rcases h2 with rfl | rfl <;> cases B <;> cases C <;> cases D <;> cases E <;> simp_all <;> (generalize fle _ _ = X; cases X <;> simp_all <;> (try (generalize fle _ _ = Y; cases Y <;> simp_all)))
  unfold T_law05_BoxRay
  exact and_of (is_of key.1) (beq_of key.2)
end Go.Proofs.Ytbbopbelaamlaaa
