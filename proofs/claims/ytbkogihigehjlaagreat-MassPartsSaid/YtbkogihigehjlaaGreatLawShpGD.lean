/- Shapes: which may be; what they weigh. -/
import Derived.Test.YtbkogihigehjlaaGreatLawShpFD
set_option linter.unusedVariables false
set_option linter.unusedSimpArgs false
set_option maxHeartbeats 4000000
namespace Go.Proofs.YtbkogihigehjlaaGreat
open Go.Sim Go.Lst Ieee
variable {n : Nat} {f g f' g' : Nat → Nat}
theorem circ_two (a b r : Nat) : s__shape_circle__check_0 a b r = if s_vec_Within_0 a b 4787326403894837248 = true ∧ s_shape_length_0 r = true then 0 else 5 := by
  unfold s__shape_circle__check_0
  cases s_vec_Within_0 a b 4787326403894837248 <;> cases s_shape_length_0 r <;> simp
theorem bif_self (c : Int) : (bif !(ieq c 0) then c else 0) = c := by
  cases h : ieq c 0
  · rfl
  · simp only [Bool.not_true, cond_false]
    have : c = 0 := by simpa [ieq] using h
    exact this.symm
theorem ieq_int (a b : Int) : ieq a b = decide (a = b) := rfl
theorem ilt_int (a b : Int) : ilt a b = decide (a < b) := rfl
theorem ile_int (a b : Int) : ile a b = decide (a ≤ b) := rfl
theorem shape_circle (t : Two 1 f g f' g') {r : Nat} : s_shape_Check_0 1 r 1 f' g' = s_ref07_Check_0 1 r 1 f g ∧ o_shape_Check 1 r 1 f' g' = true ∧ o_ref07_Check 1 r 1 f g = true := by
  obtain ⟨m, hm, hE, hL, hall, hend⟩ := rshape_loop (n := 1) (f := f) (g := g) (by omega)
  have w : IntKind.wrap .i64 (1 : Int) = 1 := rfl
  have e0 : s_ref07_Real_0 (f 0) (g 0) = s_vec_Within_0 (f' 0) (g' 0) 4787326403894837248 := by rw [t.ef 0 (by omega), t.eg 0 (by omega), real_same (t.cf 0 (by omega)) (t.cg 0 (by omega))]
  refine ⟨?_, ?_, ?_⟩
  · have e1 : s_shape_Check_0 1 r 1 f' g' = s__shape_circle__check_0 (f' 0) (g' 0) r := by
      unfold s_shape_Check_0
      exact bif_self _
    rw [e1, circ_two]
    unfold s_ref07_Check_0
    simp only [hL, w, toNat_of]
    have hlen : s_shape_length_0 r = (fle 4472074429978902528 r && fle r 4787326403894837248) := rfl
    by_cases h : m < 1
    · have hm0 : m = 0 := by omega
      subst hm0
      have hr := hend.resolve_left (by omega)
      rw [← e0, hr]; simp [ieq, ilt]
    · have hm1 : m = 1 := by omega
      subst hm1
      have hr := hall 0 (by omega)
      rw [← e0, hr, hlen]
      cases fle 4472074429978902528 r <;> cases fle r 4787326403894837248 <;> simp [ieq, ilt]
  · unfold o_shape_Check
    simp [ieq, ilt, ile, mrg_same, mrgB_eq, Nat.blt]
  · unfold o_ref07_Check
    simp only [hE, mrg_same]
    simp [ieq, ilt, mrg_same, mrgB_eq, w]
theorem shape_caps (t : Two 2 f g f' g') {r : Nat} : s_shape_Check_0 2 r 2 f' g' = s_ref07_Check_0 2 r 2 f g ∧ o_shape_Check 2 r 2 f' g' = true ∧ o_ref07_Check 2 r 2 f g = true := by
  obtain ⟨m, hm, hE, hL, hall, hend⟩ := rshape_loop (n := 2) (f := f) (g := g) (by omega)
  have w : IntKind.wrap .i64 (2 : Int) = 2 := rfl
  have e0 : s_ref07_Real_0 (f 0) (g 0) = s_vec_Within_0 (f' 0) (g' 0) 4787326403894837248 := by rw [t.ef 0 (by omega), t.eg 0 (by omega), real_same (t.cf 0 (by omega)) (t.cg 0 (by omega))]
  have e1 : s_ref07_Real_0 (f 1) (g 1) = s_vec_Within_0 (f' 1) (g' 1) 4787326403894837248 := by rw [t.ef 1 (by omega), t.eg 1 (by omega), real_same (t.cf 1 (by omega)) (t.cg 1 (by omega))]
  have el : s_vec_Length_0 (s_vec_Sub_0 (f' 1) (g' 1) (f' 0) (g' 0)) (s_vec_Sub_1 (f' 1) (g' 1) (f' 0) (g' 0)) = s_ref07_length_0 (s_ref07_minus_0 (f 1) (g 1) (f 0) (g 0)) (s_ref07_minus_1 (f 1) (g 1) (f 0) (g 0)) := by
    rw [t.ef 0 (by omega), t.eg 0 (by omega), t.ef 1 (by omega), t.eg 1 (by omega)]; rfl
  refine ⟨?_, ?_, ?_⟩
  · have ec : s_shape_Check_0 2 r 2 f' g' = s__shape_capsule__check_0 (f' 0) (g' 0) (f' 1) (g' 1) r := by
      unfold s_shape_Check_0
      exact bif_self _
    rw [ec]
    unfold s__shape_capsule__check_0 s_ref07_Check_0
    simp only [hL, w, toNat_of]
    rw [el]
    have hlen : s_shape_length_0 r = (fle 4472074429978902528 r && fle r 4787326403894837248) := rfl
    by_cases h0 : m < 1
    · have hm0 : m = 0 := by omega
      subst hm0
      have hr := hend.resolve_left (by omega)
      rw [← e0, hr]; simp [ieq, ilt]
    · by_cases h1 : m < 2
      · have hm1 : m = 1 := by omega
        subst hm1
        have hr := hend.resolve_left (by omega)
        rw [← e1, hr]; simp [ieq, ilt]
      · have hm2 : m = 2 := by omega
        subst hm2
        rw [← e0, ← e1, hall 0 (by omega), hall 1 (by omega), hlen]
        cases fle 4472074429978902528 r <;> cases fle r 4787326403894837248 <;> simp [ieq, ilt]
  · unfold o_shape_Check
    simp [ieq, ilt, ile, mrg_same, mrgB_eq, Nat.blt]
  · unfold o_ref07_Check
    simp only [hE, mrg_same]
    simp [ieq, ilt, mrg_same, mrgB_eq, w, Nat.blt]
theorem shape_poly (t : Two n f g f' g') {r : Nat} (h3 : 3 ≤ n) (h8 : n ≤ 8) (hr : feq r 0 = true) : s_shape_Check_0 3 r n f' g' = s_ref07_Check_0 3 r n f g ∧ o_shape_Check 3 r n f' g' = true ∧ o_ref07_Check 3 r n f g = true := by
  have l1 : ilt (Int.ofNat n) 3 = false := ilt_false (by simp only [Int.ofNat_eq_natCast]; omega)
  have l2 : ilt (8 : Int) (Int.ofNat n) = false := ilt_false (by simp only [Int.ofNat_eq_natCast]; omega)
  have l3 : ile (3 : Int) (Int.ofNat n) = true := ile_true (by simp only [Int.ofNat_eq_natCast]; omega)
  have l4 : ile (Int.ofNat n) 8 = true := ile_true (by simp only [Int.ofNat_eq_natCast]; omega)
  have a1 : ieq (3 : Int) 1 = false := rfl
  have a2 : ieq (3 : Int) 2 = false := rfl
  have a3 : ieq (3 : Int) 3 = true := rfl
  have b1 : ilt (3 : Int) 1 = false := rfl
  have b2 : ilt (3 : Int) 3 = false := rfl
  refine ⟨?_, ?_, ?_⟩
  · unfold s_shape_Check_0 s_ref07_Check_0
    simp only [a1, a2, a3, b1, b2, l1, l2, l3, l4, hr, Bool.false_and, Bool.and_true, Bool.or_true, Bool.or_false, Bool.false_or, Bool.not_true, cond_true, cond_false]
    show (bif !(ieq (s_poly_Check_0 n f' g') 0) then s_poly_Check_0 n f' g' else 0) = s_ref06_Check_0 n f g
    rw [bif_self]
    exact t.check (by omega) h3
  · unfold o_shape_Check
    simp only [a1, a2, a3, b1, b2, l3, l4, hr, Bool.false_and, Bool.and_true, Bool.or_true, Bool.or_false, Bool.false_or, mrg_same]
    unfold o__shape_polygon__check
    rw [(check_ok (f := f') (g := g') (by omega) h3).1]
    simp [mrgB_eq, ieq]
  · unfold o_ref07_Check
    simp only [a1, a2, a3, l1, l2, hr, Bool.or_true, Bool.or_false, Bool.false_or, Bool.not_true]
    rw [(rcheck_ok (f := f) (g := g) (by omega) h3).1]
    simp [mrgB_eq]
/-- No shape. -/
theorem shape_none (t : Two n f g f' g') {k : Int} {r : Nat} (k0 : 0 ≤ k) (k1 : k ≤ 255) (h100 : n ≤ 1000000) (h1 : ¬ (k = 1 ∧ n = 1)) (h2 : ¬ (k = 2 ∧ n = 2)) (h3 : ¬ (k = 3 ∧ 3 ≤ n ∧ n ≤ 8 ∧ feq r 0 = true)) :
    ∃ c : Int, c ≠ 0 ∧ s_shape_Check_0 k r n f' g' = c ∧ s_ref07_Check_0 k r n f g = c ∧ o_shape_Check k r n f' g' = true ∧ o_ref07_Check k r n f g = true := by
  have w : IntKind.wrap .i64 k = k := wrap_i64 (by omega) (by omega)
  have n1 : ieq (Int.ofNat n) 1 = decide (n = 1) := ieq_nat n 1
  have n2 : ieq (Int.ofNat n) 2 = decide (n = 2) := ieq_nat n 2
  have c1 : (ieq k 1 && ieq (Int.ofNat n) 1) = false := by
    rw [n1, ieq_int]
    by_cases a : k = 1 <;> by_cases b : n = 1 <;> simp [a, b] <;> exact h1 ⟨a, b⟩
  have c2 : (ieq k 2 && ieq (Int.ofNat n) 2) = false := by
    rw [n2, ieq_int]
    by_cases a : k = 2 <;> by_cases b : n = 2 <;> simp [a, b] <;> exact h2 ⟨a, b⟩
  have c3 : (((ieq k 3 && ile 3 (Int.ofNat n)) && ile (Int.ofNat n) 8) && feq r 0) = false := by
    rw [ieq_int, ile_int, ile_int]
    by_cases a : k = 3
    · by_cases b : 3 ≤ n
      · by_cases c : n ≤ 8
        · cases d : feq r 0
          · simp
          · exact absurd ⟨a, b, c, d⟩ h3
        · simp; omega
      · simp; omega
    · simp [a]
  by_cases hk : k < 1 ∨ 3 < k
  · refine ⟨70, by decide, ?_, ?_, ?_, ?_⟩
    · have x : (ilt k 1 || ilt 3 k) = true := by rw [ilt_int, ilt_int]; simpa using hk
      unfold s_shape_Check_0
      simp only [c1, c2, c3, x, Bool.true_or, cond_true, cond_false]
      rfl
    · unfold s_ref07_Check_0
      rw [ieq_int, ieq_int, ieq_int, decide_eq_false (show ¬ k = 1 by omega), decide_eq_false (show ¬ k = 2 by omega), decide_eq_false (show ¬ k = 3 by omega)]; rfl
    · have x : (ilt k 1 || ilt 3 k) = true := by rw [ilt_int, ilt_int]; simpa using hk
      unfold o_shape_Check
      simp only [c1, c2, c3, x, Bool.true_or, cond_true, cond_false, mrgB_eq]
      rfl
    · unfold o_ref07_Check
      simp only [ieq_false (show k ≠ 1 by omega), ieq_false (show k ≠ 2 by omega), ieq_false (show k ≠ 3 by omega), Bool.or_self, mrgB_eq, cond_false]
  · have x : (ilt k 1 || ilt 3 k) = false := by rw [ilt_int, ilt_int]; simp; omega
    refine ⟨6, by decide, ?_, ?_, ?_, ?_⟩
    · unfold s_shape_Check_0
      simp only [c1, c2, c3, x, Bool.false_or, cond_true, cond_false]
      rfl
    · unfold s_ref07_Check_0
      rw [w]
      by_cases a : k = 3
      · subst a
        have y : ((ilt (Int.ofNat n) 3 || ilt 8 (Int.ofNat n)) || !(feq r 0)) = true := by
          rw [ilt_int, ilt_int]
          cases d : feq r 0
          · simp
          · have : ¬ (3 ≤ n ∧ n ≤ 8) := fun e => h3 ⟨rfl, e.1, e.2, d⟩
            simp; omega
        rw [y]; rfl
      · have z : ieq (Int.ofNat n) k = false := by rw [ieq_int]; simp; omega
        have y : (ieq k 1 || ieq k 2) = true := by rw [ieq_int, ieq_int]; simp; omega
        simp only [y, z, Bool.true_or, cond_true, Bool.not_false]
    · unfold o_shape_Check
      simp only [c1, c2, c3, x, Bool.false_or, cond_true, cond_false, mrgB_eq]
      rfl
    · unfold o_ref07_Check
      rw [w]
      by_cases a : k = 3
      · subst a
        have y : ((ilt (Int.ofNat n) 3 || ilt 8 (Int.ofNat n)) || !(feq r 0)) = true := by
          rw [ilt_int, ilt_int]
          cases d : feq r 0
          · simp
          · have : ¬ (3 ≤ n ∧ n ≤ 8) := fun e => h3 ⟨rfl, e.1, e.2, d⟩
            simp; omega
        simp only [y, show ieq (3 : Int) 1 = false from rfl, show ieq (3 : Int) 2 = false from rfl, show ieq (3 : Int) 3 = true from rfl, Bool.or_self, Bool.false_or, mrgB_eq, cond_true, cond_false]
      · have z : ieq (Int.ofNat n) k = false := by rw [ieq_int]; simp; omega
        have y : (ieq k 1 || ieq k 2) = true := by rw [ieq_int, ieq_int]; simp; omega
        simp only [y, z, Bool.true_or, cond_true, Bool.not_false, mrgB_eq]
/-- What a shape may be. -/
inductive Sh (k : Int) (r n : Nat) : Prop where
  | circ (hk : k = 1) (hn : n = 1)
  | caps (hk : k = 2) (hn : n = 2)
  | poly (hk : k = 3) (h3 : 3 ≤ n) (h8 : n ≤ 8) (hr : feq r 0 = true)
theorem shape_same (t : Two n f g f' g') {k : Int} {r : Nat} (k0 : 0 ≤ k) (k1 : k ≤ 255) (h100 : n ≤ 1000000) :
    s_shape_Check_0 k r n f' g' = s_ref07_Check_0 k r n f g ∧ o_shape_Check k r n f' g' = true ∧ o_ref07_Check k r n f g = true ∧ (ieq (s_ref07_Check_0 k r n f g) 0 = false ∨ Sh k r n) := by
  by_cases h1 : k = 1 ∧ n = 1
  · obtain ⟨rfl, rfl⟩ := h1
    obtain ⟨a, b, c⟩ := shape_circle t (r := r)
    exact ⟨a, b, c, .inr (.circ rfl rfl)⟩
  · by_cases h2 : k = 2 ∧ n = 2
    · obtain ⟨rfl, rfl⟩ := h2
      obtain ⟨a, b, c⟩ := shape_caps t (r := r)
      exact ⟨a, b, c, .inr (.caps rfl rfl)⟩
    · by_cases h3 : k = 3 ∧ 3 ≤ n ∧ n ≤ 8 ∧ feq r 0 = true
      · obtain ⟨rfl, a3, a8, ar⟩ := h3
        obtain ⟨a, b, c⟩ := shape_poly t (r := r) a3 a8 ar
        exact ⟨a, b, c, .inr (.poly rfl a3 a8 ar)⟩
      · obtain ⟨c, c0, a, b, d, e⟩ := shape_none t k0 k1 h100 h1 h2 h3
        exact ⟨a.trans b.symm, d, e, .inl (by rw [b]; exact ieq_false c0)⟩
end Go.Proofs.YtbkogihigehjlaaGreat
